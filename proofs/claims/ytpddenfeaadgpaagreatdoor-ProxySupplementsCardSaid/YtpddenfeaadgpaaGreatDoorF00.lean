import Derived.OrdersHeld
import Derived.OrdersIn
import Derived.TacticsIn
import Derived.Sort.LoopGhostIn
import Derived.RangeFuncLeaves
import Derived.RangeFuncRecord
import Derived.RangeFuncSeq
import Derived.Still
import Derived.Tactics
import Derived.Laws.World
import Derived.Deep.LoopGhost
import Derived.Shelf.Abstract
set_option linter.unusedVariables false
set_option maxRecDepth 100000
namespace Go.Vc
theorem dT{p:Prop}[Decidable p](h:p):decide p=true:=decide_eq_true h
theorem dF{p:Prop}[Decidable p](h : ¬p):decide p=false:=decide_eq_false h
theorem gE{α:Type}{l:List α}{i:Nat}(h:i<l.length):l[i]?=some l[i]:=List.getElem?_eq_getElem h
abbrev qd (b o:Nat):Addr:=⟨b,o,none⟩
abbrev qp (b:Nat):Value:=.pointer (some ⟨b,0,none⟩)
abbrev qz:Value:=.int .i64 0
abbrev qn:Value:=.slice none 0 0
abbrev qv:=Nat->Value
abbrev qW:=World->Prop
abbrev qN:=World->Nat->Prop
abbrev OA:=Option Addr
abbrev KP:=Value->World->Prop
abbrev Tm:=List Value
def gt:Tm->Nat->Value
 | [],_=>undef
 | v :: _,0=>v
 | _ :: t,n+1=>gt t n
def st:Tm->Nat->Value->Tm
 | [],_,_=>[]
 | _ :: t,0,v=>v :: t
 | x :: t,n+1,v=>x :: st t n v
def pt(t:Tm)(d:Option Nat)(v:Value):Tm :=
 match d with
 | some d=>st t d v
 | none=>t
def ev(t:Tm):Operand->Value
 | .tmp i=>gt t i
 | .const v=>v
 | .global g=>.pointer (some ⟨g,0,none⟩)
 | .func f=>.func (.func f) #[] #[]
theorem Bl(t:Tm):∀ i,gt t i=t.toArray.getD i undef:=by
 induction t with
 | nil=>intro i; simp[gt]
 | cons x t ih =>
  intro i
  cases i with
  | zero=>simp[gt]
  | succ n=>simp[gt,ih]
theorem Fy(t:Tm):∀ i v,(st t i v)=t.set i v:=by
 induction t with
 | nil=>intro i v; simp[st]
 | cons x t ih =>
  intro i v
  cases i with
  | zero=>simp[st]
  | succ n=>simp[st,ih]
def jy(t:Tm)(d:List Deferred):Act:={ tmps:=t.toArray,defers:=d }
theorem gJ(t:Tm)(ds:List Deferred)(d:Option Nat)(v:Value):(jy t ds).put d v=jy (pt t d v) ds:=by
 cases d with
 | none=>rfl
 | some d=>simp[jy,Act.put,pt,Fy]
theorem iH(t:Tm)(ds:List Deferred):(jy t ds).eval=ev t:=by
 funext x
 cases x with
 | tmp i=>simp[Act.eval,jy,ev,Bl]
 | _=>rfl
theorem Ei(t:Tm):∀ (i j:Nat) (v:Value),i≠j->gt (st t i v) j=gt t j:=by
 induction t with
 | nil=>intro i j v _; rfl
 | cons x t ih =>
  intro i j v h
  cases i with
  | zero=>cases j with
   | zero=>exact absurd rfl h
   | succ j=>rfl
  | succ i=>cases j with
   | zero=>rfl
   | succ j=>exact ih i j v (by omega)
theorem CH(t:Tm)(i:Nat)(v:Value):(st t i v).length=t.length:=by simp[Fy]
theorem Eh:∀ (t t' : Tm),t.length=t'.length->(∀ i,i<t.length->gt t i=gt t' i)->t=t'
 | [],[],_,_=>rfl
 | x :: t,y :: t',hl,h=>by
  have h0:=h 0 (by simp);simp only[gt] at h0;rw[h0,Eh t t' (by simpa using hl) (λ i hi=>by have:=h (i+1) (by simpa using hi); simpa[gt] using this)]
structure I6 where
 a:Int
 b:Int
 c:Int
 d:Int
 e:Int
 f:Int
def I6.vs(u:I6):List Value:=[.int .i64 u.a,.int .i64 u.b,.int .i64 u.c,.int .i64 u.d,.int .i64 u.e,.int .i64 u.f]
inductive SK where
 | int (k:IntKind)
 | bool
 | str
 | ptr
 | slice
 | map
 | blk
 | six
 | raw
inductive TK where
 | s (k:SK)
 | agg (ks:List SK)
inductive Kd where
 | t (k:TK)
 | tup (ks:List TK)
def o5:SK->(Value->Prop)->Prop
 | .int k,K=>∃ n:Int,K (.int k n)
 | .bool,K=>∃ b:Bool,K (.bool b)
 | .str,K=>∃ s:ByteArray,K (.string s)
 | .ptr,K=>∃ p:Option Addr,K (.pointer p)
 | .slice,K=>∃ (a:Option Addr) (l c:Nat),K (.slice a l c)
 | .map,K=>∃ r:Option Nat,K (.map r)
 | .blk,K=>∃ r:Nat,K (.pointer (some ⟨r,0,none⟩))
 | .six,_=>False
 | .raw,K=>∃ v:Value,K v
def Ih:List SK->(List Value->Prop)->Prop
 | [],K=>K []
 | .six :: ks,K=>∃ u:I6,Ih ks λ vs=>K (u.vs++vs)
 | k :: ks,K=>o5 k λ v=>Ih ks λ vs=>K (v :: vs)
def Hw:TK->(Value->Prop)->Prop
 | .s k,K=>o5 k K
 | .agg ks,K=>Ih ks λ vs=>K (.agg vs.toArray)
def Gy:List TK->(List Value->Prop)->Prop
 | [],K=>K []
 | k :: ks,K=>Hw k λ v=>Gy ks λ vs=>K (v :: vs)
def Kc:Kd->(Value->Prop)->Prop
 | .t k,K=>Hw k K
 | .tup ks,K=>Gy ks λ vs=>K (.tuple vs.toArray)
theorem vC{k:SK}{K:Value->Prop}(h:o5 k K):∃ v,K v:=by
 cases k<;>simp only[o5] at h
 case slice=>obtain⟨a,l,c,h⟩:=h; exact⟨_,h⟩
 all_goals (obtain⟨v,h⟩:=h; exact⟨_,h⟩)
def Ab:List SK->Nat
 | []=>0
 | .six :: ks=>Ab ks+6
 | _ :: ks=>Ab ks+1
theorem IM(k:SK):k=.six\/k≠.six:=by cases k<;>simp
theorem D7{k:SK}{ks:List SK}{K:List Value->Prop}(hk:k≠.six):Ih (k :: ks) K=o5 k λ v=>Ih ks λ vs=>K (v :: vs):=by cases k<;>first|rfl|exact absurd rfl hk
theorem CG{k:SK}{ks:List SK}(hk:k≠.six):Ab (k :: ks)=Ab ks+1:=by cases k<;>first|rfl|exact absurd rfl hk
theorem vB:∀ {ks:List SK} {K:List Value->Prop},Ih ks K->∃ vs,vs.length=Ab ks/\K vs
 | [],_,h=>⟨[],rfl,h⟩
 | k :: ks,K,h=>by
  rcases IM k with rfl|hk
  ·obtain⟨u,h⟩:=h;obtain⟨vs,hl,h⟩:=vB h;exact⟨u.vs++vs,by simp[hl,Ab,I6.vs],h⟩
  ·rw[D7 hk] at h;obtain⟨v,h⟩:=vC h;obtain⟨vs,hl,h⟩:=vB h;exact⟨v :: vs,by rw[CG hk]; simp[hl],h⟩
theorem mV{k:TK}{K:Value->Prop}(h:Hw k K):∃ v,K v:=by
 cases k with
 | s k=>exact vC h
 | agg ks=>obtain⟨vs,_,h⟩:=vB h; exact⟨_,h⟩
theorem vD:∀ {ks:List TK} {K:List Value->Prop},Gy ks K->∃ vs,K vs
 | [],_,h=>⟨[],h⟩
 | _ :: _,_,h=>by
  obtain⟨v,h⟩:=mV h;obtain⟨vs,h⟩:=vD h;exact⟨v :: vs,h⟩
theorem D6{k:Kd}{K:Value->Prop}(h:Kc k K):∃ v,K v:=by
 cases k with
 | t k=>exact mV h
 | tup ks=>obtain⟨vs,h⟩:=vD h; exact⟨_,h⟩
def FT:IntKind->IntKind->Bool
 | .i8,.i8|.i16,.i16|.i32,.i32|.i64,.i64|.u8,.u8|.u16,.u16|.u32,.u32|.u64,.u64=>true
 | _,_=>false
theorem j9{a b:IntKind}(h:FT a b=true):a=b:=by cases a<;>cases b<;>first|rfl|(simp[FT] at h)
theorem gC{b:Bool}{R:Prop}(h:cond b R False):b=true/\R:=by cases b<;>simp_all
def JH(P:Program)(t:TypeId):SK :=
 match P.underlying t with
 | some .bool=>.bool
 | some (.int k)=>.int k
 | some .string=>.str
 | some (.pointer _)=>.ptr
 | some (.slice _)=>.slice
 | some (.map _ _)=>.map
 | _=>.raw
def Jk(P:Program)(t:TypeId):Bool:=match P.underlying t with
 | some (.int .i64)=>true
 | _=>false
def vv(P:Program):Nat->TypeId->List SK
 | 0,_=>[]
 | n+1,t =>
  match P.underlying t with
  | some (.struct fs)=>fs.toList.flatMap λ f=>vv P n f.type
  | some (.array len e)=>cond (Nat.beq len 6&&Jk P e) [.six] (List.replicate len (vv P n e)).flatten
  | _=>[JH P t]
def oO(P:Program)(t:TypeId):TK :=
 match P.underlying t with
 | some (.struct _)=>.agg (vv P 12 t)
 | some (.array _ _)=>.agg (vv P 12 t)
 | _=>.s (JH P t)
def Jm(P:Program)(t:TypeId):Kd :=
 match P.underlying t with
 | some (.tuple ts)=>.tup (ts.toList.map (oO P))
 | _=>.t (oO P t)
def isRow:Obj->Bool
 | .cells ..=>true
 | _=>false
def zE(P:Program){α:Type}:Sem α->World->(α->World->Prop)->Prop
 | .pure a,w,K=>K a w
 | .load _ a k,w,K=>∃ v,w.cell? a=some v/\zE P (k v) w K
 | .store _ a v k,w,K=>v.oneCell' = true/\(∃ x,w.cell? a=some x)/\w.frozen? a=false/\zE P k (w.setCell a v) K
 | .new o k,w,K=>zE P (k w.heap.size) (w.alloc o) K
 | .shape r k,w,K=>zE P (k (w.shape? r)) w K
 | .freeze a n k,w,K=>zE P k (w.freeze a n) K
 | .frozen a k,w,K=>zE P (k (w.frozen? a)) w K
 | .getObj r k,w,K=>∃ o,w.heap[r]?=some o/\isRow o=false/\zE P (k o) w K
 | .setObj r o k,w,K=>∃ x,w.heap[r]?=some x/\isRow x=false/\zE P k { w with heap:=w.heap.setIfInBounds r o } K
 | .choose q k,w,K=>cond q.forced (zE P (k 0) w K) (∀ t,zE P (k (q.cut t)) w.drew K)
 | .sys _ _,_,_=>False
 | .program k,w,K=>zE P (k P) w K
 | .mark _ k,w,K=>zE P k w K
 | .halt _,_,_=>False
theorem Bv{P:Program}{α:Type}:∀ (s:Sem α) (w:World) (K:α->World->Prop),zE P s w K->∃ a w',s.run P w=.ok a w'/\K a w':=by
 intro s
 induction s with
 | pure a=>exact λ w K h=>⟨a,w,rfl,h⟩
 | load m a k ih =>
  rintro w K ⟨v,hv,h⟩;obtain⟨x,w',hr,hk⟩:=ih v w K h;exact⟨x,w',by simp only[Sem.run,hv]; exact hr,hk⟩
 | store m a v k ih =>
  rintro w K ⟨h1,⟨x,hx⟩,hf,h⟩;obtain⟨y,w',hr,hk⟩:=ih (w.setCell a v) K h;refine⟨y,w',?_,hk⟩
  cases v<;>first|(simp[Value.oneCell'] at h1; done)|(simp only[Sem.run,hx,hf]; exact hr)
 | new o k ih=>exact λ w K h=>ih _ _ K h
 | shape r k ih=>exact λ w K h=>ih _ _ K h
 | freeze a n k ih=>exact λ w K h=>ih _ K h
 | frozen a k ih=>exact λ w K h=>ih _ _ K h
 | getObj r k ih =>
  rintro w K ⟨o,ho,hn,h⟩;obtain⟨x,w',hr,hk⟩:=ih o w K h;refine⟨x,w',?_,hk⟩;simp only[Sem.run,ho]
  cases o<;>first|(simp[isRow] at hn; done)|exact hr
 | setObj r o k ih =>
  rintro w K ⟨o',ho,hn,h⟩;obtain⟨x,w',hr,hk⟩:=ih _ K h;refine⟨x,w',?_,hk⟩;simp only[Sem.run,ho]
  cases o' <;> first|(simp[isRow] at hn; done)|exact hr
 | choose q k ih =>
  intro w K h;simp only[zE] at h
  cases hq:q.forced with
  | true =>
   rw[hq] at h;obtain⟨x,w',hr,hk⟩:=ih 0 w K h;exact⟨x,w',by simp only[Sem.run,hq,if_true]; exact hr,hk⟩
  | false =>
   rw[hq] at h;obtain⟨x,w',hr,hk⟩:=ih _ w.drew K (h (w.tape w.drawn q));exact⟨x,w',by simp only[Sem.run,hq,Bool.false_eq_true,if_false]; exact hr,hk⟩
 | sys c k ih=>exact λ w K h=>h.elim
 | program k ih=>exact λ w K h=>ih P w K h
 | mark m k ih=>exact λ w K h=>ih w K h
 | halt x=>exact λ w K h=>h.elim
abbrev FW (ro:Option Nat):Fence:={ Fence.wide with round:=ro }
def uA(P:Program)(ty:TypeId)(K:Value->World->Prop):Next->World->Prop
 | .value v,w=>K v w
 | .skip,w=>K undef w
 | .enter f args,w=>Calls P f args w λ e w'=>Kc (Jm P ty) λ v=>e=.returned v/\K v w'
 | .round l f tmps assign body,w=>RoundIn Fence.wide 0 P l f tmps assign body w λ e w'=>∃ v,e=.returned v/\K v w'
 | _,_=>False
def mI(P:Program)(l:Nat)(args:Array Value)(w:World)(K:Bool->World->Prop):Prop :=
 YieldAt Fence.wide 0 P l args w λ e w'=>∃ b,e=.returned (.bool b)/\K b w'
def eJ:Op->Bool
 | .defer _=>false
 | _=>true
theorem fV{o:Op}(h:eJ o=true):∀ c,o≠.defer c:=λ c e=>by rw[e] at h; cases h
theorem kU{P:Program}{ro:Option Nat}{o:Oper}{a:Act}{w:World}{ty:TypeId}{K:Value->World->Prop}{N:Act->World->Prop}{Q:Exit->Act->World->Prop}{n:Next}(hN:∀ v w',K v w'->N (a.put o.dst v) w')(hk:uA P ty K n w):o.uponIn (FW ro) 0 P a N Q (.ok n w):=by
 cases n<;>simp only[uA] at hk<;>simp only[Oper.uponIn]
 ·exact hN _ _ hk
 ·exact hN _ _ hk
 ·refine⟨λ h=>(by cases h),?_⟩;have h1:CallsIn Fence.wide 0 P _ _ w _:=callsIn_wide.2 hk;refine CallsIn.mono (show CallsIn (FW ro) 0 P _ _ w _ from h1) λ e w'' he=>?_;obtain⟨v,rfl,hv⟩:=D6 he;exact hN _ _ hv
 ·refine⟨λ h=>(by cases h),RoundIn.mono (show RoundIn (FW ro) 0 P _ _ _ _ _ w _ from hk) λ e w'' he=>?_⟩;obtain⟨v,rfl,hv⟩:=he;exact hN _ _ hv
def holds(T:List (World->Prop))(w:World):Prop:=∀ f∈T,f w
def G6(P:Program){α:Type}:Sem α->World->List (World->Prop)->(α->List (World->Prop)->Prop)->Prop
 | .pure a,_,T,K=>K a T
 | .load _ a k,w,T,K=>∃ v,w.cell? a=some v/\G6 P (k v) w ((λ w'=>w'.cell? a=some v) :: T) K
 | .shape r k,w,T,K=>G6 P (k (w.shape? r)) w ((λ w'=>w'.shape? r=w.shape? r) :: T) K
 | .frozen a k,w,T,K=>G6 P (k (w.frozen? a)) w ((λ w'=>w'.frozen? a=w.frozen? a) :: T) K
 | .getObj r k,w,T,K=>∃ o,w.heap[r]?=some o/\isRow o=false/\G6 P (k o) w ((λ w'=>w'.heap[r]?=some o) :: T) K
 | .choose q k,w,T,K=>cond q.forced (G6 P (k 0) w T K) False
 | .program k,w,T,K=>G6 P (k P) w T K
 | _,_,_,_=>False
theorem G7{P:Program}{α:Type}:∀ (s:Sem α) (w:World) (T:List (World->Prop)) (K:α->List (World->Prop)->Prop),G6 P s w T K ->
  ∃ a T',K a T'/\(holds T w->holds T' w)/\∀ w',holds T' w'->holds T w'/\s.run P w' = .ok a w':=by
 intro s
 induction s with
 | pure a=>exact λ w T K h=>⟨a,T,h,id,λ w' hw=>⟨hw,rfl⟩⟩
 | load m a k ih =>
  rintro w T K ⟨v,hv,h⟩;obtain⟨x,T',hk,hw,hr⟩:=ih v w _ K h;refine⟨x,T',hk,λ hT=>hw λ f hf=>?_,λ w' hw'=>?_⟩
  ·rcases List.mem_cons.1 hf with rfl|hf
   ·exact hv
   ·exact hT f hf
  ·obtain⟨h1,h2⟩:=hr w' hw';have h3:w'.cell? a=some v:=h1 _ (List.mem_cons_self ..);exact⟨λ f hf=>h1 f (List.mem_cons_of_mem _ hf),by simp only[Sem.run,h3]; exact h2⟩
 | shape r k ih =>
  intro w T K h;obtain⟨x,T',hk,hw,hr⟩:=ih _ w _ K h;refine⟨x,T',hk,λ hT=>hw λ f hf=>?_,λ w' hw'=>?_⟩
  ·rcases List.mem_cons.1 hf with rfl|hf
   ·rfl
   ·exact hT f hf
  ·obtain⟨h1,h2⟩:=hr w' hw';have h3:w'.shape? r=w.shape? r:=h1 _ (List.mem_cons_self ..);exact⟨λ f hf=>h1 f (List.mem_cons_of_mem _ hf),by simp only[Sem.run,h3]; exact h2⟩
 | frozen r k ih =>
  intro w T K h;obtain⟨x,T',hk,hw,hr⟩:=ih _ w _ K h;refine⟨x,T',hk,λ hT=>hw λ f hf=>?_,λ w' hw'=>?_⟩
  ·rcases List.mem_cons.1 hf with rfl|hf
   ·rfl
   ·exact hT f hf
  ·obtain⟨h1,h2⟩:=hr w' hw';have h3:w'.frozen? r=w.frozen? r:=h1 _ (List.mem_cons_self ..);exact⟨λ f hf=>h1 f (List.mem_cons_of_mem _ hf),by simp only[Sem.run,h3]; exact h2⟩
 | getObj r k ih =>
  rintro w T K ⟨v,hv,hn,h⟩;obtain⟨x,T',hk,hw,hr⟩:=ih v w _ K h;refine⟨x,T',hk,λ hT=>hw λ f hf=>?_,λ w' hw'=>?_⟩
  ·rcases List.mem_cons.1 hf with rfl|hf
   ·exact hv
   ·exact hT f hf
  ·obtain⟨h1,h2⟩:=hr w' hw';have h3:w'.heap[r]?=some v:=h1 _ (List.mem_cons_self ..);refine⟨λ f hf=>h1 f (List.mem_cons_of_mem _ hf),?_⟩;simp only[Sem.run,h3]
   cases v<;>first|(simp[isRow] at hn; done)|exact h2
 | choose q k ih =>
  intro w T K h;simp only[G6] at h
  cases hq:q.forced with
  | true =>
   rw[hq] at h;obtain⟨x,T',hk,hw,hr⟩:=ih _ w _ K h;exact⟨x,T',hk,hw,λ w' hw'=>⟨(hr w' hw').1,by simp only[Sem.run,hq,if_true]; exact(hr w' hw').2⟩⟩
  | false=>rw[hq] at h; exact h.elim
 | program k ih=>exact λ w T K h=>ih P w T K h
 | store=>exact λ w T K h=>h.elim
 | new=>exact λ w T K h=>h.elim
 | freeze=>exact λ w T K h=>h.elim
 | setObj=>exact λ w T K h=>h.elim
 | sys=>exact λ w T K h=>h.elim
 | mark=>exact λ w T K h=>h.elim
 | halt=>exact λ w T K h=>h.elim
end Go.Vc
namespace Go.Vc
def ak{α:Type}(p:Option α)(F:α->Prop):Prop :=
 match p with
 | some a=>F a
 | none=>False
theorem cX{α:Type}{p:Option α}{F:α->Prop}(h:ak p F):∃ a,p=some a/\F a:=by
 cases p with
 | none=>exact h.elim
 | some a=>exact⟨a,rfl,h⟩
def qU(P:Program)(t:TypeId):Option Nat:=(P.info? t).map (·.size)
def oR(x:Option Value)(dflt top:Nat)(F:Nat->Prop):Prop :=
 match x with
 | none=>F dflt
 | some (.int _ i)=>0<=i/\i<=(top:Int)/\F i.toNat
 | some _=>False
def Kq(P:Program)(ty:TypeId)(x:Value)(lo hi mx:Option Value)(K:Value->Prop):Prop :=
 match P.underlying ty with
 | some .string=>match x,mx with
  | .string s,none=>oR hi s.size s.size λ h=>oR lo 0 h λ l=>K (.string (s.extract l h))
  | _,_=>False
 | some (.slice e)=>match x with
  | .slice a len cap=>cond (mx.isSome&&hi.isNone) False <| ak (qU P e) λ sz=>oR mx cap cap λ m=>oR hi len m λ h=>oR lo 0 h λ l =>
    K (.slice (if m=l then a else a.map (·.add (l*sz))) (h-l) (m-l))
  | _=>False
 | _=>False
def Kf(P:Program)(ty:TypeId)(x i:Value)(K:Value->Prop):Prop :=
 match P.underlying ty,i with
 | some .string,.int _ i=>match x with
  | .string s=>0<=i/\ak s[i.toNat]? λ b=>K (.int .u8 b.toNat)
  | _=>False
 | some (.array n e),.int _ i=>match x with
  | .agg cs=>0<=i/\i<(n:Int)/\ak (qU P e) λ sz=>(match oO P e with
    | .s k=>cond (P.underlying e).isSome (o5 k λ v=>cs[i.toNat*sz]?=some v/\K v) False
    | .agg _=>K (.agg (cs.extract (i.toNat*sz) (i.toNat*sz+sz))))
  | _=>False
 | _,_=>False
def Io(P:Program)(ty:TypeId)(x i:Value)(K:Value->Prop):Prop :=
 match P.underlying ty,i with
 | some (.slice e),.int _ i=>match x with
  | .slice base len _=>ak base λ ad=>0<=i/\i<(len:Int)/\ak (qU P e) λ sz=>K (.pointer (some (ad.add (i.toNat*sz))))
  | _=>False
 | some (.array n e),.int _ i=>match x with
  | .pointer base=>ak base λ ad=>0<=i/\i<(n:Int)/\ak (qU P e) λ sz=>K (.pointer (some (ad.add (i.toNat*sz))))
  | _=>False
 | _,_=>False
def HG(v:Value)(F:Bool->Prop):Prop :=
 match v with
 | .nilIface=>F true
 | .iface _ _=>F false
 | _=>False
def CR(P:Program)(ty:TypeId)(neg:Bool)(x:Value)(y:Operand):Option ((Value->Prop)->Prop) :=
 match P.underlying ty,y with
 | some (.pointer _),.const (.pointer none)=>match x with
  | .pointer p=>some λ K=>K (.bool (cond neg (!p.isNone) p.isNone))
  | _=>none
 | some (.slice _),.const (.slice none _ _)=>match x with
  | .slice a _ _=>some λ K=>K (.bool (cond neg (!a.isNone) a.isNone))
  | _=>none
 | some (.interface _),.const .nilIface=>some λ K=>HG x λ b=>K (.bool (cond neg (!b) b))
 | _,_=>none
def Em:TypeDesc->Bool
 | .struct _=>true
 | .array _ _=>true
 | _=>false
def qe(P:Program)(e:TypeId)(cs:Array Value)(off:Nat):Option Value :=
 match P.underlying e,qU P e with
 | some d,some sz=>cond (Em d) (some (.agg (cs.extract off (off+sz)))) cs[off]?
 | _,_=>none
def xj:List (Option Bool)->Option Bool
 | []=>some true
 | none :: _=>none
 | some b :: l=>match xj l with
  | none=>none
  | some r=>some (b&&r)
def IW(P:Program):Nat->TypeId->Value->Value->Option Bool
 | 0,_,_,_=>none
 | d+1,t,x,y =>
  match P.underlying t with
  | some .bool=>match x,y with
   | .bool a,.bool b=>some (a==b)
   | _,_=>none
  | some (.int _)=>match x,y with
   | .int k a,.int k' b=>cond (FT k k') (some (a==b)) none
   | _,_=>none
  | some .string=>match x,y with
   | .string a,.string b=>some (a==b)
   | _,_=>none
  | some (.struct fs)=>match x,y with
   | .agg xs,.agg ys=>cond (P.stoodInHeld t||fs.toList.any λ f=>f.name== "_") none
     (xj (fs.toList.map λ f=>match qe P f.type xs f.offset,qe P f.type ys f.offset with
      | some a,some b=>IW P d f.type a b
      | _,_=>none))
   | _,_=>none
  | some (.array n e)=>match x,y with
   | .agg xs,.agg ys=>match qU P e with
    | none=>none
    | some sz=>xj ((List.range n).map λ i=>match qe P e xs (i*sz),qe P e ys (i*sz) with
      | some a,some b=>IW P d e a b
      | _,_=>none)
   | _,_=>none
  | _=>none
def FY(P:Program)(ty:TypeId)(neg:Bool)(x y:Value):Option ((Value->Prop)->Prop) :=
 match x,y with
 | .agg xs,.agg ys=>cond (P.eqGuardType P.depth ty) none (match IW P 12 ty (.agg xs) (.agg ys) with
  | some b=>some λ K=>K (.bool (cond neg (!b) b))
  | none=>none)
 | _,_=>none
def J8(op:BinOp)(x y:Value):Option ((Value->Prop)->Prop) :=
 match op,x,y with
 | .quo,.int k a,.int k' b=>cond (FT k k') (some λ K=>b≠0/\K (.int k (k.wrap (a.tdiv b)))) none
 | .rem,.int k a,.int k' b=>cond (FT k k') (some λ K=>b≠0/\K (.int k (a.tmod b))) none
 | .shl,.int k a,.int _ b=>some λ K=>0<=b/\K (.int k (k.wrap (a*2 ^ (min b.toNat k.bits))))
 | .shr,.int k a,.int _ b=>some λ K=>0<=b/\K (.int k (a.fdiv (2 ^ (min b.toNat k.bits))))
 | .add,.string a,.string b=>some λ K=>((a.size+b.size:Nat):Int)<=IntKind.i64.max/\K (.string (a++b))
 | _,_,_=>none
def Jw{α:Type}(x y:Option α):Option α :=
 match x with
 | some a=>some a
 | none=>y
def Hj(P:Program)(o:Oper)(t:Tm):Option ((Value->Prop)->Prop) :=
 match o.op with
 | .move x|.assign x=>some λ K=>K (ev t x)
 | .pick c a b=>match ev t c with
  | .bool x=>some λ K=>cond x (K (ev t a)) (K (ev t b))
  | _=>none
 | .convert src dst x=>match P.underlying src,P.underlying dst,ev t x with
  | some _,some (.int k),.int _ n=>some λ K=>K (.int k (k.wrap n))
  | _,_,_=>none
 | .nilCheck x=>match ev t x with
  | .pointer p=>some λ K=>ak p λ a=>K (.pointer (some a))
  | _=>none
 | .slice ty x lo hi mx=>some (Kq P ty (ev t x) (lo.map (ev t)) (hi.map (ev t)) (mx.map (ev t)))
 | .index ty x i=>some (Kf P ty (ev t x) (ev t i))
 | .indexAddr ty x i=>some (Io P ty (ev t x) (ev t i))
 | .binOp op ty x y _=>match op with
  | .eql=>Jw (CR P ty false (ev t x) y) (Jw (CR P ty false (ev t y) x) (FY P ty false (ev t x) (ev t y)))
  | .neq=>Jw (CR P ty true (ev t x) y) (Jw (CR P ty true (ev t y) x) (FY P ty true (ev t x) (ev t y)))
  | op=>J8 op (ev t x) (ev t y)
 | _=>none
theorem vr{P:Program}{x:Option Value}{d top:Nat}{F:Nat->Prop}(h:oR x d top F) :
  ∃ n,F n/\∀ (code:BoundsCode) (w:World),(match x with|some v=>(Instr.sliceBound v top code).run P w|none=>.ok d w)=.ok n w:=by
 unfold oR at h
 split at h
 ·exact⟨d,h,λ _ _=>rfl⟩
 ·rename_i k i;obtain⟨h0,h1,h2⟩:=h;exact⟨i.toNat,h2,λ _ _=>by simp[Instr.sliceBound,asIntOf,h0,h1]⟩
 ·exact h.elim
theorem aT{P:Program}{t:TypeId}{d:TypeDesc}(h:P.underlying t=some d)(w:World):(underlying t).run P w=.ok d w:=by
 simp[underlying,h]
theorem kS{P:Program}{t:TypeId}{n:Nat}(h:qU P t=some n)(w:World):(sizeOf t).run P w=.ok n w:=by
 unfold qU at h
 cases hi:P.info? t with
 | none=>simp[hi] at h
 | some i=>simp[hi] at h; simp[sizeOf,typeInfo,hi,h]
theorem rL{P:Program}{b:Bool}{len cap:Nat}{lo hi mx:Option Value}{F:Nat->Nat->Nat->Prop}(hm:mx=none\/hi≠none)(h:oR mx cap cap λ m=>oR hi len m λ h=>oR lo 0 h λ l=>F l h m) :
  ∃ l h m,F l h m/\∀ w,(Instr.sliceBounds b len cap lo hi mx).run P w=.ok (l,h,m) w:=by
 obtain⟨m,g1,hm'⟩:=vr (P:=P) h;obtain⟨hh,g2,hh'⟩:=vr (P:=P) g1;obtain⟨l,g3,hl'⟩:=vr (P:=P) g2;refine⟨l,hh,m,g3,λ w=>?_⟩;have a1:=λ c=>hm' c w;have a2:=λ c=>hh' c w;have a3:=λ c=>hl' c w;clear h g1 g2 g3 hm' hh' hl'
 cases mx with
 | none =>
  have:=a1 .index;simp only[Result.ok.injEq,and_true] at this;subst this
  cases hi<;>cases lo<;>simp_all [Instr.sliceBounds]
 | some mv =>
  cases hi with
  | none=>simp at hm
  | some hv=>cases lo<;>simp_all [Instr.sliceBounds]
theorem Hh{P:Program}{ty:TypeId}{x:Value}{lo hi mx:Option Value}{K:Value->Prop}(h:Kq P ty x lo hi mx K) :
  ∃ v,(∀ w,(Instr.sliceAt ty x lo hi mx).run P w=.ok v w)/\K v:=by
 unfold Kq at h
 split at h
 ·rename_i hu
  split at h
  ·rename_i s;obtain⟨l,hh,m,hk,hr⟩:=rL (P:=P) (b:=false) (len:=s.size) (cap:=s.size) (lo:=lo) (hi:=hi) (mx:=none) (F:=λ l hh _=>K (.string (s.extract l hh))) (.inl rfl) h;exact⟨_,λ w=>by simp[Instr.sliceAt,Instr.slice,aT hu,hr],hk⟩
  ·exact h.elim
 ·rename_i e hu
  split at h
  ·rename_i a len cap;have hm:mx=none\/hi≠none:=by
    cases mx with
    | none=>exact .inl rfl
    | some _=>cases hi with
     | none=>exact h.elim
     | some _=>exact .inr (by simp)
   have h:ak (qU P e) λ sz=>oR mx cap cap λ m=>oR hi len m λ h=>oR lo 0 h λ l =>
     K (.slice (if m=l then a else a.map (·.add (l*sz))) (h-l) (m-l)):=by
    cases hb:(mx.isSome&&hi.isNone) with
    | false=>rw[hb] at h; exact h
    | true=>rw[hb] at h; exact h.elim
   obtain⟨sz,hsz,h⟩:=cX h;obtain⟨l,hh,m,hk,hr⟩:=rL (P:=P) (b:=true) hm h;exact⟨_,λ w=>by simp[Instr.sliceAt,Instr.slice,aT hu,hr,kS hsz],hk⟩
  ·exact h.elim
 ·exact h.elim
theorem A2{P:Program}{t:TypeId}{ks:List SK}(h:oO P t=.agg ks)(w:World):(isAgg t).run P w=.ok true w:=by
 unfold oO at h
 split at h
 ·rename_i hu; simp[isAgg,aT hu]
 ·rename_i hu; simp[isAgg,aT hu]
 ·cases h
theorem uB{P:Program}{t:TypeId}{k:SK}(h:oO P t=.s k)(hi:(P.underlying t).isSome=true)(w:World):(isAgg t).run P w=.ok false w:=by
 unfold oO at h
 split at h
 ·cases h
 ·cases h
 ·rename_i h1 h2
  cases hu:P.underlying t with
  | none=>simp[hu] at hi
  | some d =>
   cases d<;>first|exact absurd hu (h1 _)|exact absurd hu (h2 _ _)|simp[isAgg,aT hu]
theorem GJ{P:Program}{ty:TypeId}{x i:Value}{K:Value->Prop}(h:Kf P ty x i K) :
  ∃ v,(∀ w,(Instr.index ty x i).run P w=.ok v w)/\K v:=by
 unfold Kf at h
 split at h
 ·rename_i k n hu
  split at h
  ·rename_i s;obtain⟨h0,h⟩:=h;obtain⟨b,hb,hk⟩:=cX h;exact⟨_,λ w=>by simp[Instr.index,asIntOf,aT hu,h0,hb],hk⟩
  ·exact h.elim
 ·rename_i n e k i hu
  split at h
  ·rename_i cs;obtain⟨h0,h1,h⟩:=h;obtain⟨sz,hsz,h⟩:=cX h
   split at h
   ·rename_i k hk;obtain⟨hi,h⟩:=gC h;obtain⟨v,hv,hK⟩:=vC h;exact⟨v,λ w=>by simp[Instr.index,asIntOf,aT hu,h0,h1,part,uB hk hi,kS hsz,hv],hK⟩
   ·rename_i ks hk;exact⟨_,λ w=>by simp[Instr.index,asIntOf,aT hu,h0,h1,part,A2 hk,kS hsz],h⟩
  ·exact h.elim
 ·exact h.elim
theorem En{P:Program}{ty:TypeId}{x i:Value}{K:Value->Prop}(h:Io P ty x i K) :
  ∃ v,(∀ w,(Instr.indexAt ty x i).run P w=.ok v w)/\K v:=by
 unfold Io at h
 split at h
 ·rename_i e k i hu
  split at h
  ·obtain⟨ad,rfl,h0,h1,h⟩:=cX h;obtain⟨sz,hsz,h⟩:=cX h;exact⟨_,λ w=>by simp[Instr.indexAt,asIntOf,aT hu,h0,h1,kS hsz],h⟩
  ·exact h.elim
 ·rename_i n e k i hu
  split at h
  ·obtain⟨ad,rfl,h0,h1,h⟩:=cX h;obtain⟨sz,hsz,h⟩:=cX h;exact⟨_,λ w=>by simp[Instr.indexAt,Instr.sureAddr,asIntOf,aT hu,h0,h1,kS hsz],h⟩
  ·exact h.elim
 ·exact h.elim
theorem ja{P:Program}{ty:TypeId}{x y:Value}{b:Bool}{w:World}(h:∀ d,(Op.equalIn (d+1) ty x y).run P w=.ok b w):(Op.equal ty x y).run P w=.ok b w:=h 9999
theorem gG{P:Program}{ty:TypeId}{x y:Value}{b neg:Bool}{w:World}(h:(Op.equal ty x y).run P w=.ok b w)(hb:(binOp (cond neg .neq .eql) ty x y)=(do let r <- Op.equal ty x y; pure (.bool (cond neg (!r) r)))):(binOp (cond neg .neq .eql) ty x y).run P w=.ok (.bool (cond neg (!b) b)) w:=by
 rw[hb];simp[h]
theorem rj{P:Program}{ty:TypeId}{neg:Bool}{t:Tm}{x y:Operand}{F:(Value->Prop)->Prop}(hF:CR P ty neg (ev t x) y=some F){K:Value->Prop}(h:F K) :
  ∃ v,(∀ w,(do eqGuard (cond neg .neq .eql) ty x y (ev t x) (ev t y); binOp (cond neg .neq .eql) ty (ev t x) (ev t y):Sem Value).run P w=.ok v w/\(do eqGuard (cond neg .neq .eql) ty y x (ev t y) (ev t x); binOp (cond neg .neq .eql) ty (ev t y) (ev t x):Sem Value).run P w=.ok v w)/\K v:=by
 unfold CR at hF
 split at hF
 ·rename_i e hu
  split at hF
  ·rename_i p hp
   cases hF
   refine⟨_,λ w=>?_,h⟩;have h1:(Op.equal ty (.pointer p) (.pointer none)).run P w=.ok p.isNone w:=ja λ d=>by cases p<;>simp[Op.equalIn,aT hu]
   have h2:(Op.equal ty (.pointer none) (.pointer p)).run P w=.ok p.isNone w:=ja λ d=>by cases p<;>simp[Op.equalIn,aT hu]
   have h3:=gG (neg:=neg) h1 (by cases neg<;>rfl);have h4:=gG (neg:=neg) h2 (by cases neg<;>rfl);have g1:∀ a b:Operand,(eqGuard (cond neg .neq .eql) ty a b (.pointer p) (.pointer none)).run P w=.ok () w:=λ a b=>by cases neg<;>simp[eqGuard]
   have g2:∀ a b:Operand,(eqGuard (cond neg .neq .eql) ty a b (.pointer none) (.pointer p)).run P w=.ok () w:=λ a b=>by cases neg<;>simp[eqGuard]
   rw[hp];simp only[ev,Sem.run_bind,g1,g2,Result.andThen_ok,h3,h4,and_self]
  ·cases hF
 ·rename_i e l c hu
  split at hF
  ·rename_i p l' c' hp
   cases hF
   refine⟨_,λ w=>?_,h⟩;have h1:(Op.equal ty (.slice p l' c') (.slice none l c)).run P w=.ok p.isNone w:=ja λ d=>by cases p<;>simp[Op.equalIn,aT hu]
   have h2:(Op.equal ty (.slice none l c) (.slice p l' c')).run P w=.ok p.isNone w:=ja λ d=>by cases p<;>simp[Op.equalIn,aT hu]
   have h3:=gG (neg:=neg) h1 (by cases neg<;>rfl);have h4:=gG (neg:=neg) h2 (by cases neg<;>rfl);have g1:∀ a b:Operand,(eqGuard (cond neg .neq .eql) ty a b (.slice p l' c') (.slice none l c)).run P w=.ok () w:=λ a b=>by cases neg<;>simp[eqGuard]
   have g2:∀ a b:Operand,(eqGuard (cond neg .neq .eql) ty a b (.slice none l c) (.slice p l' c')).run P w=.ok () w:=λ a b=>by cases neg<;>simp[eqGuard]
   rw[hp];simp only[ev,Sem.run_bind,g1,g2,Result.andThen_ok,h3,h4,and_self]
  ·cases hF
 ·rename_i ms hu
  cases hF
  revert h;generalize ev t x=v;intro h
  cases v<;>simp only[HG] at h
  ·rename_i tx vx;refine⟨_,λ w=>?_,h⟩;have h1:(Op.equal ty (.iface tx vx) .nilIface).run P w=.ok false w:=ja λ d=>by simp[Op.equalIn,aT hu]
   have h2:(Op.equal ty .nilIface (.iface tx vx)).run P w=.ok false w:=ja λ d=>by simp[Op.equalIn,aT hu]
   have h3:=gG (neg:=neg) h1 (by cases neg<;>rfl);have h4:=gG (neg:=neg) h2 (by cases neg<;>rfl);have g1:(eqGuard (cond neg .neq .eql) ty x (.const .nilIface) (.iface tx vx) .nilIface).run P w=.ok () w:=by cases neg<;>simp[eqGuard]
   have g2:(eqGuard (cond neg .neq .eql) ty (.const .nilIface) x .nilIface (.iface tx vx)).run P w=.ok () w:=by cases neg<;>simp[eqGuard]
   simp only[ev,Sem.run_bind,g1,g2,Result.andThen_ok,h3,h4,and_self]
  ·refine⟨_,λ w=>?_,h⟩;have h1:(Op.equal ty .nilIface .nilIface).run P w=.ok true w:=ja λ d=>by simp[Op.equalIn,aT hu]
   have h3:=gG (neg:=neg) h1 (by cases neg<;>rfl);have g1:(eqGuard (cond neg .neq .eql) ty x (.const .nilIface) .nilIface .nilIface).run P w=.ok () w:=by cases neg<;>simp[eqGuard]
   have g2:(eqGuard (cond neg .neq .eql) ty (.const .nilIface) x .nilIface .nilIface).run P w=.ok () w:=by cases neg<;>simp[eqGuard]
   simp only[ev,Sem.run_bind,g1,g2,Result.andThen_ok,h3,and_self]
 ·cases hF
theorem oo{P:Program}{e:TypeId}{cs:Array Value}{off:Nat}{v:Value}(h:qe P e cs off=some v)(w:World):(part e cs off).run P w=.ok v w:=by
 unfold qe at h
 split at h
 ·rename_i d sz hu hs
  cases hd:Em d with
  | true =>
   rw[hd] at h
   cases h
   have ha:(isAgg e).run P w=.ok true w:=by cases d<;>first|(cases hd; done)|simp[isAgg,aT hu]
   simp[part,ha,kS hs]
  | false =>
   rw[hd] at h;have ha:(isAgg e).run P w=.ok false w:=by cases d<;>first|(cases hd; done)|simp[isAgg,aT hu]
   have h:cs[off]?=some v:=h;simp[part,ha,h]
 ·cases h
abbrev qy:=Option Bool×Unit
theorem pe{α:Type}{P:Program}{w:World}(body:α->qy->Sem (ForInStep qy)):∀ (l:List α) (os:List (Option Bool)) (b:Bool),xj os=some b->os.length=l.length->(∀ (i:Nat) (a:α) (c:Bool) (r:qy),l[i]?=some a->os[i]?=some (some c)->(body a r).run P w=.ok (cond c (.yield (none,())) (.done (some false,()))) w)->(forIn l ((none,()):qy) body).run P w=.ok (cond b (none,()) (some false,())) w
 | [],[],b,hb,_,_=>by
  simp[xj] at hb;subst hb
  simp
 | [],_ :: _,_,_,hl,_=>by simp at hl
 | _ :: _,[],_,_,hl,_=>by simp at hl
 | a :: l,o :: os,b,hb,hl,hbody=>by
  cases o with
  | none=>simp[xj] at hb
  | some c =>
   simp only[xj] at hb
   split at hb
   ·cases hb
   ·rename_i r hr
    cases hb
    have h1:=hbody 0 a c (none,()) rfl rfl;have h2:=pe body l os r hr (by simpa using hl) (λ i a c r' h h'=>hbody (i+1) a c r' (by simpa using h) (by simpa using h'));rw[List.forIn_cons,Sem.run_bind,h1]
    cases c with
    | true=>simpa[Result.andThen] using h2
    | false=>simp[Result.andThen]
theorem zR{P:Program}{w:World}:∀ (d:Nat) (t:TypeId) (x y:Value) (b:Bool) (d' : Nat),IW P d t x y=some b->d<=d'->(Op.equalIn d' t x y).run P w=.ok b w
 | 0,_,_,_,_,_,h,_=>by cases h
 | d+1,t,x,y,b,0,_,hd=>by omega
 | d+1,t,x,y,b,d' + 1,h,hd=>by
  unfold IW at h
  split at h
  ·rename_i hu
   split at h
   ·cases h; simp[Op.equalIn,aT hu]
   ·cases h
  ·rename_i k hu
   split at h
   ·rename_i k1 a k2 c
    cases he:FT k1 k2 with
    | false=>simp[he] at h
    | true =>
     have:=j9 he;subst this;rw[he] at h
     cases h
     simp[Op.equalIn,aT hu]
   ·cases h
  ·rename_i hu
   split at h
   ·cases h; simp[Op.equalIn,aT hu]
   ·cases h
  ·rename_i fs hu
   split at h
   ·rename_i xs ys
    cases hs:(P.stoodInHeld t||fs.toList.any λ f=>f.name== "_") with
    | true=>rw[hs] at h; cases h
    | false =>
     rw[hs] at h;simp only[Bool.or_eq_false_iff] at hs;have h:xj (fs.toList.map λ f=>match qe P f.type xs f.offset,qe P f.type ys f.offset with
      | some a,some b=>IW P d f.type a b
      | _,_=>none)=some b:=h
     unfold Op.equalIn;simp only[Sem.run_bind,aT hu,Result.andThen_ok];have hp:(Sem.run P program w)=.ok P w:=rfl;rw[hp,Result.andThen_ok,if_neg (by rw[hs.1]; decide),Sem.run_bind,<- Array.forIn_toList];have hl:=pe (P:=P) (w:=w) (λ f (__s:qy) =>
        if f.name≠ "_" then do
         let __do_lift <- part f.type xs f.offset;let __do_lift_1 <- part f.type ys f.offset;let __do_lift <- Op.equalIn d' f.type __do_lift __do_lift_1
         if (!__do_lift)=true then pure (ForInStep.done (some false,()))
          else pure (ForInStep.yield (none,()))
        else pure (ForInStep.yield (none,()))) fs.toList _ b h (by simp) (λ i f c r hf hc=>?_)
     ·rw[hl]
      cases b<;>rfl
     ·have hmem:f∈fs.toList:=List.mem_of_getElem? hf;have hname:f.name≠ "_":=λ e=>by
       have:=List.any_eq_false.1 hs.2 f hmem;rw[e] at this;exact this rfl
      rw[List.getElem?_map,hf] at hc;simp only[Option.map_some,Option.some.injEq] at hc;rw[if_pos hname]
      split at hc
      ·rename_i va vb ha hb;have hr:=zR (w:=w) d f.type va vb c d' hc (by omega);simp only[Sem.run_bind,oo ha,oo hb,hr,Result.andThen_ok]
       cases c<;>rfl
      ·cases hc
   ·cases h
  ·rename_i n e hu
   split at h
   ·rename_i xs ys
    split at h
    ·cases h
    ·rename_i sz hsz;unfold Op.equalIn;simp only[Sem.run_bind,aT hu,kS hsz,Result.andThen_ok];have hl:=pe (P:=P) (w:=w) (λ (i:Nat) (__s:qy)=>do
      let __do_lift <- part e xs (i*sz);let __do_lift_1 <- part e ys (i*sz);let __do_lift <- Op.equalIn d' e __do_lift __do_lift_1
      if (!__do_lift)=true then pure (ForInStep.done (some false,())) else pure (ForInStep.yield (none,()))) (List.range n) _ b h (by simp) (λ i j c r hf hc=>?_)
     ·have hr:(forIn [:n] ((none,()):qy) (λ (i:Nat) (__s:qy)=>(do
        let __do_lift <- part e xs (i*sz);let __do_lift_1 <- part e ys (i*sz);let __do_lift <- Op.equalIn d' e __do_lift __do_lift_1
        if (!__do_lift)=true then pure (ForInStep.done (some false,())) else pure (ForInStep.yield (none,())):Sem (ForInStep qy))))=forIn (List.range n) ((none,()):qy) (λ (i:Nat) (__s:qy)=>(do
        let __do_lift <- part e xs (i*sz);let __do_lift_1 <- part e ys (i*sz);let __do_lift <- Op.equalIn d' e __do_lift __do_lift_1
        if (!__do_lift)=true then pure (ForInStep.done (some false,())) else pure (ForInStep.yield (none,())):Sem (ForInStep qy))):=by
       rw[Std.Legacy.Range.forIn_eq_forIn_range',List.range_eq_range'];simp[Std.Legacy.Range.size]
      rw[hr,hl]
      cases b<;>rfl
     ·rw[List.getElem?_map,hf] at hc;simp only[Option.map_some,Option.some.injEq] at hc
      split at hc
      ·rename_i va vb ha hb;have hr:=zR (w:=w) d e va vb c d' hc (by omega);simp only[Sem.run_bind,oo ha,oo hb,hr,Result.andThen_ok]
       cases c<;>rfl
      ·cases hc
   ·cases h
  ·cases h
theorem rF{P:Program}{ty:TypeId}{neg:Bool}{x y:Operand}{a b:Value}{F:(Value->Prop)->Prop}(hF:FY P ty neg a b=some F){K:Value->Prop}(h:F K) :
  ∃ v,(∀ w,(do eqGuard (cond neg .neq .eql) ty x y a b; binOp (cond neg .neq .eql) ty a b:Sem Value).run P w=.ok v w)/\K v:=by
 unfold FY at hF
 split at hF
 ·rename_i xs ys
  cases hg:P.eqGuardType P.depth ty with
  | true=>rw[hg] at hF; cases hF
  | false =>
   rw[hg] at hF;simp only[cond_false] at hF
   split at hF
   ·rename_i b hb
    cases hF
    refine⟨_,λ w=>?_,h⟩;have h1:(Op.equal ty (.agg xs) (.agg ys)).run P w=.ok b w:=zR 12 ty _ _ b Op.maxDepth hb (by decide);have h3:=gG (neg:=neg) h1 (by cases neg<;>rfl);have g1:(eqGuard (cond neg .neq .eql) ty x y (.agg xs) (.agg ys)).run P w=.ok () w:=by
     have hp:(Sem.run P program w)=.ok P w:=rfl
     cases neg<;>simp[eqGuard,hp,hg]
    simp only[Sem.run_bind,g1,Result.andThen_ok,h3]
   ·cases hF
 ·cases hF
theorem oh{α:Type}{x y:Option α}{a:α}(h:Jw x y=some a):x=some a\/y=some a:=by
 cases x with
 | none=>exact .inr h
 | some b=>exact .inl h
theorem HX{P:Program}{op:BinOp}{ty:TypeId}{x y:Operand}{a b:Value}{F:(Value->Prop)->Prop}(hF:J8 op a b=some F){K:Value->Prop}(h:F K) :
  ∃ v,(∀ w,(do eqGuard op ty x y a b; binOp op ty a b:Sem Value).run P w=.ok v w)/\K v:=by
 unfold J8 at hF
 split at hF
 ·rename_i k a k' b
  cases he:FT k k' with
  | false=>simp[he] at hF
  | true =>
   have:=j9 he;subst this;rw[he] at hF
   cases hF
   exact⟨_,λ w=>by simp[eqGuard,binOp,Op.intDiv,h.1],h.2⟩
 ·rename_i k a k' b
  cases he:FT k k' with
  | false=>simp[he] at hF
  | true =>
   have:=j9 he;subst this;rw[he] at hF
   cases hF
   exact⟨_,λ w=>by simp[eqGuard,binOp,Op.intDiv,h.1],h.2⟩
 ·cases hF
  exact⟨_,λ w=>by simp[eqGuard,binOp,Op.shift,Int.not_lt.2 h.1],h.2⟩
 ·cases hF
  exact⟨_,λ w=>by simp[eqGuard,binOp,Op.shift,Int.not_lt.2 h.1],h.2⟩
 ·rename_i a b
  cases hF
  refine⟨_,λ w=>?_,h.2⟩;have h9:=h.1;have hm:IntKind.i64.max=9223372036854775807:=rfl;rw[hm] at h9;simp only[eqGuard,binOp,Op.stringOp]
  simp
  omega
 ·cases hF
theorem zq{P:Program}{o:Oper}{t:Tm}{F:(Value->Prop)->Prop}(hF:Hj P o t=some F){K:Value->Prop}(h:F K) :
  ∃ v,(∀ w,(execOp (ev t) o).run P w=.ok (.value v) w)/\K v:=by
 unfold Hj at hF
 split at hF
 ·rename_i x hx; cases hF; exact⟨_,λ w=>by simp[execOp,hx],h⟩
 ·rename_i x hx; cases hF; exact⟨_,λ w=>by simp[execOp,hx],h⟩
 ·rename_i c a b hx
  split at hF
  ·rename_i x hc
   cases hF
   cases x with
   | true=>exact⟨_,λ w=>by simp[execOp,hx,hc,asBool],h⟩
   | false=>exact⟨_,λ w=>by simp[execOp,hx,hc,asBool],h⟩
  ·cases hF
 ·rename_i src dst x hx
  split at hF
  ·rename_i d k k' n hs hu hn
   cases hF
   refine⟨_,λ w=>?_,h⟩;simp[execOp,hx,hn,convert,aT hu,aT hs,Conv.intToInt]
  ·cases hF
 ·rename_i x hx
  split at hF
  ·rename_i p hp
   cases hF
   obtain⟨a,rfl,h⟩:=cX h;exact⟨_,λ w=>by simp[execOp,hx,hp],h⟩
  ·cases hF
 ·rename_i ty x lo hi mx hx
  cases hF
  obtain⟨v,hr,hk⟩:=Hh h;exact⟨v,λ w=>by simp[execOp,hx,hr],hk⟩
 ·rename_i ty x i hx
  cases hF
  obtain⟨v,hr,hk⟩:=GJ h;exact⟨v,λ w=>by simp[execOp,hx,hr],hk⟩
 ·rename_i ty x i hx
  cases hF
  obtain⟨v,hr,hk⟩:=En h;exact⟨v,λ w=>by simp[execOp,hx,hr],hk⟩
 ·rename_i op ty x y yt hx;have key:∀ v w,(do eqGuard op ty x y (ev t x) (ev t y); binOp op ty (ev t x) (ev t y):Sem Value).run P w=.ok v w->(execOp (ev t) o).run P w=.ok (.value v) w:=λ v w hr=>by
   simp only[execOp,hx,Sem.run_bind] at hr ⊢;rw[hr]; rfl
  split at hF
  ·rcases oh hF with hF|hF
   ·obtain⟨v,hr,hk⟩:=rj hF h;exact⟨v,λ w=>key v w (hr w).1,hk⟩
   rcases oh hF with hF|hF
   ·obtain⟨v,hr,hk⟩:=rj hF h;exact⟨v,λ w=>key v w (hr w).2,hk⟩
   ·obtain⟨v,hr,hk⟩:=rF hF h;exact⟨v,λ w=>key v w (hr w),hk⟩
  ·rcases oh hF with hF|hF
   ·obtain⟨v,hr,hk⟩:=rj hF h;exact⟨v,λ w=>key v w (hr w).1,hk⟩
   rcases oh hF with hF|hF
   ·obtain⟨v,hr,hk⟩:=rj hF h;exact⟨v,λ w=>key v w (hr w).2,hk⟩
   ·obtain⟨v,hr,hk⟩:=rF hF h;exact⟨v,λ w=>key v w (hr w),hk⟩
  ·obtain⟨v,hr,hk⟩:=HX (P:=P) (ty:=ty) (x:=x) (y:=y) hF h;exact⟨v,λ w=>key v w (hr w),hk⟩
 ·cases hF
end Go.Vc
namespace Go.Vc
def af(w:World)(a:Addr):Nat->List Value->Prop
 | _,[]=>True
 | i,v :: vs=>w.cell? (a.add i)=some v/\af w a (i+1) vs
def Jn(P:Program)(ty:TypeId)(x:Value)(w:World)(K:Value->List (World->Prop)->Prop):Prop :=
 match x with
 | .pointer p=>ak p λ a=>match oO P ty with
  | .s k=>cond (P.underlying ty).isSome (o5 k λ v=>w.cell? a=some v/\K v [λ w'=>w'.cell? a=some v]) False
  | .agg ks=>cond (match qU P ty with|some n=>Nat.beq n (Ab ks)|none=>false)
    (Ih ks λ vs=>af w a 0 vs/\K (.agg vs.toArray) [λ w'=>af w' a 0 vs]) False
 | _=>False
theorem ug{P:Program}{w:World}{a:Addr}:∀ (vs:List Value) (i:Nat) (acc:Array Value),af w a i vs ->
  (loadCellsFrom a i vs.length acc).run P w=.ok (acc++vs.toArray) w
 | [],i,acc,_=>by simp[loadCellsFrom]
 | v :: vs,i,acc,h=>by
  obtain⟨h1,h2⟩:=h;have:=ug (P:=P) vs (i+1) (acc.push v) h2;simp only[List.length_cons,loadCellsFrom,Sem.run_bind,run_load,h1,Result.andThen_ok,this]
  simp
theorem vK{P:Program}{ty:TypeId}{x:Value}{w:World}{K:Value->List (World->Prop)->Prop}(h:Jn P ty x w K) :
  ∃ v T,holds T w/\(∀ w',holds T w'->(Instr.loadAt ty x).run P w' = .ok v w')/\K v T:=by
 unfold Jn at h
 split at h
 ·obtain⟨a,rfl,h⟩:=cX h
  split at h
  ·rename_i k hk;obtain⟨hi,h⟩:=gC h;obtain⟨v,h1,h2⟩:=vC h;refine⟨v,_,?_,?_,h2⟩
   ·intro f hf; simp at hf; subst hf; exact h1
   ·intro w' hw';have h3:w'.cell? a=some v:=hw' (λ w'=>w'.cell? a=some v) (List.mem_cons_self ..);simp[Instr.loadAt,Instr.sureAddr,loadVar,uB hk hi,h3]
  ·rename_i ks hk;obtain⟨hs,h⟩:=gC h;obtain⟨vs,hl,h1,h2⟩:=vB h;refine⟨_,_,?_,?_,h2⟩
   ·intro f hf; simp at hf; subst hf; exact h1
   ·intro w' hw';have h3:af w' a 0 vs:=hw' (λ w'=>af w' a 0 vs) (List.mem_cons_self ..);have hn:qU P ty=some vs.length:=by
     cases hz:qU P ty with
     | none=>simp[hz] at hs
     | some n=>simp only[hz] at hs; rw[Nat.eq_of_beq_eq_true hs,hl]
    simp only[Instr.loadAt,Instr.sureAddr,loadVar,Sem.run_bind,Sem.run_pure,Result.andThen_ok,A2 hk,if_true,kS hn,loadCells,ug vs 0 _ h3]
    simp
 ·exact h.elim
def aW(P:Program){α:Type}(s:Sem α)(w:World)(K:α->World->Prop):Prop:=∃ a w',s.run P w=.ok a w'/\K a w'
def fB(P:Program)(gf:FuncId):Bool:=match P.funcs[gf]? with
 | none=>false
 | some fn=>match fn.body with
  | none=>false
  | some _=>!(fn.name== "runtime.NumGoroutine")
theorem mU{P:Program}{gf:FuncId}(h:fB P gf=true)(args:Array Value)(w:World):(callFunc gf args).run P w=.ok (.enter gf args) w:=by
 unfold fB at h
 cases hf:P.funcs[gf]? with
 | none=>rw[hf] at h; cases h
 | some fn =>
  rw[hf] at h
  cases hb:fn.body with
  | none=>simp[hb] at h
  | some c =>
   simp only[hb] at h;exact Go.Proofs.enters_of hf (by simpa using h) hb args w
def gw(P:Program)(v:Value)(args:Array Value)(w:World)(R:Ending->World->Prop):Prop :=
 match v with
 | .func (.yield l) x y=>cond (x.isEmpty&&y.isEmpty) (mI P l args w λ b w'=>R (.returned (.bool b)) w') False
 | .func (.func g) x y=>cond (fB P g) (Calls P g (x++args++y) w R) False
 | _=>False
def Ki(P:Program)(ty:TypeId)(b:Bool)(F:Value->Prop):Prop:=match P.underlying ty with
 | some (.map _ e)=>Hw (oO P e) λ u=>cond b (∃ x:Bool,F (.tuple #[u,.bool x])) (F u)
 | _=>False
theorem Iq{P:Program}{ty:TypeId}{b:Bool}{F:Value->Prop}(h:Ki P ty b F):∃ v,F v:=by
 unfold Ki at h
 split at h
 ·obtain⟨u,h⟩:=mV h
  cases b with
  | true=>obtain⟨x,h⟩:=h; exact⟨_,h⟩
  | false=>exact⟨_,h⟩
 ·exact h.elim
def Kz(s:Bool)(v:Value)(F:Value->Prop):Prop :=
 (v=.tuple #[.bool false]/\F (.tuple #[.bool false])) \/
  cond s (∃ (n:Int) (c:Int),v=.tuple #[.bool true,.int .i64 n,.int .i32 c]/\F (.tuple #[.bool true,.int .i64 n,.int .i32 c])) (∃ k x:Value,v=.tuple #[.bool true,k,x]/\F (.tuple #[.bool true,k,x]))
theorem ED{s:Bool}{v:Value}{F:Value->Prop}(h:Kz s v F):F v:=by
 rcases h with⟨rfl,h⟩|h
 ·exact h
 ·cases s with
  | true=>obtain⟨n,c,rfl,h⟩:=h; exact h
  | false=>obtain⟨k,x,rfl,h⟩:=h; exact h
def HA(P:Program)(o:Oper):Bool:=match o.op with
 | .call { callee:=.value (.func g),.. }=>match P.funcs[g]? with
  | some f=>f.body.isNone&&f.name== "internal/bytealg.IndexString"
  | none=>false
 | _=>false
def Jp(P:Program)(tys:Array TypeId):Bool:=match (tys[0]?).bind P.underlying with
 | some (.map _ _)=>true
 | _=>false
def Dw(P:Program)(o:Oper)(t:Tm)(w:World)(K:KP):Prop :=
 match Hj P o t with
 | some F=>F λ v=>K v w
 | none =>
  match o.op with
  | .load ty x=>Jn P ty (ev t x) w λ v _=>K v w
  | .convert src dst x=>aW P (convert src dst (ev t x)) w λ v w'=>Hw (oO P o.type) λ u=>v=u/\K u w'
  | .makeSlice ty l c=>aW P (Instr.makeSlice ty (ev t l) (ev t c)) w λ v w'=>Hw (oO P o.type) λ u=>v=u/\K u w'
  | .call { callee:=.builtin .append,args:=args,argTypes:=tys }=>aW P (Builtin.append_ tys o.type (args.map (ev t))) w λ v w'=>Hw (oO P o.type) λ u=>v=u/\K u w'
  | .call { callee:=.builtin .copy,args:=args,argTypes:=tys }=>aW P (Builtin.copy_ tys o.type (args.map (ev t))) w K
  | .call { callee:=.builtin .clear,args:=args,argTypes:=tys }=>aW P (Builtin.clear_ tys o.type (args.map (ev t))) w K
  | .call { callee:=.builtin .len,args:=args,argTypes:=tys }=>cond (Jp P tys) (aW P (Builtin.len_ tys o.type (args.map (ev t))) w λ v w'=>Hw (oO P o.type) λ u=>v=u/\K u w') (zE P (execOp (ev t) o) w (uA P o.type K))
  | .lookup ty x i b=>aW P (Instr.lookup ty (ev t x) (ev t i) b) w λ v w'=>Ki P ty b λ u=>v=u/\K u w'
  | .mapUpdate ty m k x=>aW P (Instr.mapUpdate ty (ev t m) (ev t k) (ev t x)) w λ _ w'=>K undef w'
  | .insert ty m k x=>aW P (Instr.mapUpdate ty (ev t m) (ev t k) (ev t x)) w λ _ w'=>K undef w'
  | .makeMap ty r=>aW P (Instr.makeMap ty (r.map (ev t))) w λ v w'=>∃ m:Option Nat,v=.map m/\K (.map m) w'
  | .range ty x=>aW P (Instr.range ty (ev t x)) w λ v w'=>∃ r:Nat,v=.pointer (some ⟨r,0,none⟩)/\K (.pointer (some ⟨r,0,none⟩)) w'
  | .next it s=>aW P (Instr.next (ev t it) s o.type) w λ v w'=>Kz s v λ u=>K u w'
  | .call { callee:=.value (.tmp f),args:=args,argTypes:=_ }=>gw P (gt t f) (args.map (ev t)) w λ e w'=>Kc (Jm P o.type) λ v=>e=.returned v/\K v w'
  | _=>cond (HA P o) False (zE P (execOp (ev t) o) w (uA P o.type K))
theorem zA{P:Program}{o:Oper}{t:Tm}{w:World}{K:KP}(h:Dw P o t w K):∃ n w',(execOp (ev t) o).run P w=.ok n w'/\uA P o.type K n w':=by
 unfold Dw at h
 split at h
 ·rename_i F hF;obtain⟨v,hr,hk⟩:=zq hF h;exact⟨_,w,hr w,hk⟩
 ·split at h
  ·rename_i ty x hx;obtain⟨v,T,h1,h2,h3⟩:=vK h;exact⟨.value v,w,by simp[execOp,hx,h2 w h1],h3⟩
  ·rename_i src dst x hx;obtain⟨v,w',hr,h⟩:=h;obtain⟨u,rfl,hk⟩:=mV h;exact⟨.value v,w',by simp[execOp,hx,hr],hk⟩
  ·rename_i ty l c hx;obtain⟨v,w',hr,h⟩:=h;obtain⟨u,rfl,hk⟩:=mV h;exact⟨.value v,w',by simp[execOp,hx,hr],hk⟩
  ·rename_i args tys hx;obtain⟨v,w',hr,h⟩:=h;obtain⟨u,rfl,hk⟩:=mV h;exact⟨.value v,w',by simp[execOp,hx,resolve,invoke,builtin,hr],hk⟩
  ·rename_i args tys hx;obtain⟨v,w',hr,h⟩:=h;exact⟨.value v,w',by simp[execOp,hx,resolve,invoke,builtin,hr],h⟩
  ·rename_i args tys hx;obtain⟨v,w',hr,h⟩:=h;exact⟨.value v,w',by simp[execOp,hx,resolve,invoke,builtin,hr],h⟩
  ·rename_i args tys hx
   cases hb:Jp P tys with
   | true =>
    rw[hb] at h;obtain⟨v,w',hr,h⟩:=h;obtain⟨u,rfl,hk⟩:=mV h;exact⟨.value v,w',by simp[execOp,hx,resolve,invoke,builtin,hr],hk⟩
   | false=>rw[hb] at h; exact Bv _ _ _ h
  ·rename_i ty x i b hx;obtain⟨v,w',hr,h⟩:=h;obtain⟨u,rfl,hk⟩:=Iq h;exact⟨.value v,w',by simp[execOp,hx,hr],hk⟩
  ·rename_i ty m k x hx;obtain⟨v,w',hr,h⟩:=h;exact⟨.skip,w',by simp[execOp,hx,hr],h⟩
  ·rename_i ty m k x hx;obtain⟨v,w',hr,h⟩:=h;exact⟨.skip,w',by simp[execOp,hx,hr],h⟩
  ·rename_i ty r hx;obtain⟨v,w',hr,m,rfl,h⟩:=h;exact⟨.value _,w',by simp[execOp,hx,hr],h⟩
  ·rename_i ty x hx;obtain⟨v,w',hr,m,rfl,h⟩:=h;exact⟨.value _,w',by simp[execOp,hx,hr],h⟩
  ·rename_i it s hx;obtain⟨v,w',hr,h⟩:=h;exact⟨.value v,w',by simp[execOp,hx,hr],ED h⟩
  ·rename_i f args tys hx;have hev:ev t (.tmp f)=gt t f:=rfl;unfold gw at h
   split at h
   ·rename_i l x y hy;obtain⟨he,h⟩:=gC h;obtain⟨hx0,hy0⟩:x = #[]/\y = #[]:=by simpa[Array.isEmpty_iff] using he
    subst hx0 hy0;obtain⟨fn,tmps,asg,body,hrun,hR⟩:=h;refine⟨.round l fn tmps asg body,w,?_,RoundIn.mono hR λ e w' he=>?_⟩
    ·simp[execOp,hx,resolve,hev,hy,invoke,callFunc];simp[Deferred.ofValue,hrun]
    ·obtain⟨b,rfl,hk⟩:=he;obtain⟨v,hv,hk⟩:=D6 hk;exact⟨v,hv,hk⟩
   ·rename_i g x y hy;obtain⟨he,h⟩:=gC h;refine⟨.enter g (x++args.map (ev t)++y),w,?_,h⟩;have hr:=mU he (x++args.map (ev t)++y) w;simp[execOp,hx,resolve,hev,hy,invoke];simp[Deferred.ofValue];simpa using hr
   ·exact h.elim
  ·cases hb:HA P o with
   | true=>rw[hb] at h; exact h.elim
   | false=>rw[hb] at h; exact Bv _ _ _ h
def Gw(P:Program)(d:Option Nat)(i:Nat):List Oper->TK
 | []=>.s .raw
 | o :: l=>match o.op,d with
  | .extract (.tmp x) j,some y=>cond (Nat.beq x y&&Nat.beq i j) (oO P o.type) (Gw P d i l)
  | _,_=>Gw P d i l
def zy(P:Program)(rest:List Oper)(o:Oper)(t:Tm)(w:World)(K:KP):Prop:=match o.op with
 | .entry it=>aW P (Instr.entry (ev t it)) w λ v w'=>Gy [Gw P o.dst 0 rest,Gw P o.dst 1 rest] λ vs=>v=.tuple vs.toArray/\K (.tuple vs.toArray) w'
 | _=>Dw P o t w K
theorem Dx{P:Program}{rest:List Oper}{o:Oper}{t:Tm}{w:World}{K:KP}(h:zy P rest o t w K):∃ n w',(execOp (ev t) o).run P w=.ok n w'/\uA P o.type K n w':=by
 unfold zy at h
 split at h
 ·rename_i it hx;obtain⟨v,w',hr,h⟩:=h;obtain⟨vs,rfl,hk⟩:=vD h;exact⟨.value _,w',by simp[execOp,hx,hr],hk⟩
 ·exact zA h
theorem zz{P:Program}{rest:List Oper}{ro:Option Nat}{o:Oper}{t:Tm}{d:List Deferred}{w:World}{K:KP}{N:Act->World->Prop}{Q:Exit->Act->World->Prop}(hd:eJ o.op=true)(hN:∀ v w',K v w'->N (jy (pt t o.dst v) d) w')(h:zy P rest o t w K):o.wpIn (FW ro) 0 P (jy t d) w N Q:=by
 obtain⟨n,w',hr,hk⟩:=Dx h;refine⟨λ _ _=>trivial,?_⟩;rw[Oper.semAt_eq _ _ _ (fV hd),iH,hr];exact kU (λ v w' hv=>by rw[gJ]; exact hN _ _ hv) hk
theorem Hq{P:Program}{ro:Option Nat}{o:Oper}{t:Tm}{d:List Deferred}{w:World}{K:KP}{N:Act->World->Prop}{Q:Exit->Act->World->Prop}(hd:eJ o.op=true)(hN:∀ v w',K v w'->N (jy (pt t o.dst v) d) w')(h:Dw P o t w K):o.wpIn (FW ro) 0 P (jy t d) w N Q:=by
 obtain⟨n,w',hr,hk⟩:=zA h;refine⟨λ _ _=>trivial,?_⟩;rw[Oper.semAt_eq _ _ _ (fV hd),iH,hr];exact kU (λ v w' hv=>by rw[gJ]; exact hN _ _ hv) hk
def IC(P:Program)(o:Oper)(t:Tm)(w:World)(K:Value->List (World->Prop)->Prop):Prop :=
 match Hj P o t with
 | some F=>F λ v=>K v []
 | none =>
  match o.op with
  | .load ty x=>Jn P ty (ev t x) w K
  | _=>G6 P (execOp (ev t) o) w [] λ n T=>match n with
   | .value v=>K v T
   | _=>False
theorem Fe{P:Program}{o:Oper}{t:Tm}{w:World}{K:Value->List (World->Prop)->Prop}(h:IC P o t w K) :
  ∃ v T,K v T/\holds T w/\∀ w',holds T w'->(execOp (ev t) o).run P w' = .ok (.value v) w':=by
 unfold IC at h
 split at h
 ·rename_i F hF;obtain⟨v,hr,hk⟩:=zq hF h;exact⟨v,[],hk,λ f hf=>(by cases hf),λ w' _=>hr w'⟩
 ·split at h
  ·rename_i ty x hx;obtain⟨v,T,h1,h2,h3⟩:=vK h;exact⟨v,T,h3,h1,λ w' hw'=>by simp[execOp,hx,h2 w' hw']⟩
  ·obtain⟨n,T,hk,hw,hr⟩:=G7 _ _ _ _ h
   cases n<;>simp only at hk
   exact⟨_,T,hk,hw (λ f hf=>by cases hf),λ w' hw'=>(hr w' hw').2⟩
def gd(ops:Array Oper)(t:Tm)(o:Oper)(A B:Tm->Prop):Prop :=
 match o.guard with
 | none=>A t
 | some (j,pol)=>match (ops[j]?).bind (·.dst) with
  | none=>B t
  | some d=>match gt t d with
   | .bool b=>cond pol (cond b (A (st t d (.bool true))) (B (st t d (.bool false)))) (cond b (B (st t d (.bool true))) (A (st t d (.bool false))))
   | _=>B t
theorem JL(t:Tm):∀ d v,gt t d=v->v≠undef->st t d v=t:=by
 induction t with
 | nil=>intro d v _ _; rfl
 | cons x t ih =>
  intro d v h hv
  cases d with
  | zero=>simp only[gt] at h; subst h; rfl
  | succ d=>simp only[gt] at h; simp only[st,ih d v h hv]
theorem zB(ops:Array Oper)(t:Tm)(dd:List Deferred)(j:Nat):yielded ops (jy t dd).tmps j =
  match (ops[j]?).bind (·.dst) with
  | none=>none
  | some d=>match gt t d with
   | .bool b=>some b
   | _=>none:=by
 unfold yielded
 cases (ops[j]?).bind (·.dst) with
 | none=>rfl
 | some d =>
  have h0:(jy t dd).tmps[d]?=t[d]?:=by simp[jy]
  have h1:gt t d=(t[d]?).getD undef:=by rw[Bl]; simp[Array.getD]; split<;>simp_all
  simp only[Option.bind_some,h0,h1]
  cases t[d]? with
  | none=>rfl
  | some v=>cases v<;>rfl
theorem q6{dd:List Deferred}{ops:Array Oper}{t:Tm}{o:Oper}{A B:Tm->Prop}(h:gd ops t o A B):(Region.wanted o (yielded ops (jy t dd).tmps)=true/\A t)\/(Region.wanted o (yielded ops (jy t dd).tmps)=false/\B t):=by
 unfold gd at h
 cases hg:o.guard with
 | none=>rw[hg] at h; exact .inl ⟨by simp[Region.wanted,hg],h⟩
 | some gp =>
  obtain⟨j,pol⟩:=gp;simp only[hg] at h;have hy:=zB ops t dd j;have hw:Region.wanted o (yielded ops (jy t dd).tmps)=(yielded ops (jy t dd).tmps j==some pol):=by simp[Region.wanted,hg]
  rw[hw,hy]
  cases hd:(ops[j]?).bind (·.dst) with
  | none=>rw[hd] at h; exact .inr ⟨rfl,h⟩
  | some d =>
   simp only[hd] at h ⊢
   cases hx:gt t d with
   | bool b =>
    have hs:=JL t d (.bool b) hx (by simp[undef]);rw[hx] at h
    cases pol<;>cases b<;>simp only[cond,hs] at h
    ·exact .inl ⟨rfl,h⟩
    ·exact .inr ⟨rfl,h⟩
    ·exact .inr ⟨rfl,h⟩
    ·exact .inl ⟨rfl,h⟩
   | _=>rw[hx] at h; exact .inr ⟨rfl,h⟩
def Cb(P:Program)(ops:Array Oper):List Oper->Tm->World->(Tm->World->Prop)->Prop
 | [],t,w,K=>K t w
 | o :: rest,t,w,K=>gd ops t o (λ t=>zy P rest o t w λ v w'=>Cb P ops rest (pt t o.dst v) w' K) (λ t=>Cb P ops rest (pt t o.dst undef) w K)
def vp(ds:List Nat)(t t' : Tm):Prop:=t'.length=t.length/\∀ i,i∉ds->gt t' i=gt t i
theorem b9(ds:List Nat)(t:Tm):vp ds t t:=⟨rfl,λ _ _=>rfl⟩
theorem kX{ds es:List Nat}{t t' t'' : Tm}(h:vp ds t t')(h' : vp es t' t''):vp (ds++es) t t'' :=
 ⟨h'.1.trans h.1,λ i hi=>(h'.2 i λ h=>hi (List.mem_append_right _ h)).trans (h.2 i λ h=>hi (List.mem_append_left _ h))⟩
theorem fK{ds es:List Nat}{t t' : Tm}(hs:∀ d∈ds,d∈es)(h:vp ds t t'):vp es t t':=⟨h.1,λ i hi=>h.2 i λ h=>hi (hs i h)⟩
theorem iV{ds:List Nat}{t0 t:Tm}{dst:Option Nat}{v:Value}(h:vp ds t0 t)(hd:∀ d,dst=some d->d∈ds):vp ds t0 (pt t dst v):=by
 cases dst with
 | none=>exact h
 | some d=>exact⟨(CH t d v).trans h.1,λ i hi=>(Ei t d i v λ e=>hi (e▸hd d rfl)).trans (h.2 i hi)⟩
def ko(ops:List Oper):Bool:=ops.all λ o=>eJ o.op
theorem tn{P:Program}{ro:Option Nat}{ops:Array Oper}{d:List Deferred}{Q:Exit->Act->World->Prop}{ds:List Nat}{t0:Tm}:∀ (l:List Oper) (t:Tm) (w:World) (K:Tm->World->Prop),ko l=true->(∀ t w,vp ds t0 t->K t w->Q .normal (jy t d) w)->(∀ o∈l,∀ d,o.dst=some d->d∈ds)->vp ds t0 t->Cb P ops l t w K->wpListIn (FW ro) 0 P ops Q l (jy t d) w
 | [],t,w,K,_,hK,_,ha,h=>hK _ _ ha h
 | o :: rest,t,w,K,hn,hK,hd,ha,h=>by
  have hd0:=hd o (List.mem_cons_self ..);have hd1:=λ o' ho'=>hd o' (List.mem_cons_of_mem _ ho');simp only[ko,List.all_cons,Bool.and_eq_true] at hn;unfold wpListIn;rcases q6 h with⟨hw,h⟩|⟨hw,h⟩
  ·rw[if_pos hw];exact zz hn.1 (λ v w' h'=>tn rest _ _ K hn.2 hK hd1 (iV ha hd0) h') h
  ·rw[if_neg (by simpa using hw),gJ];exact⟨λ _ _=>trivial,tn rest _ _ K hn.2 hK hd1 (iV ha hd0) h⟩
def tj(P:Program)(ops:Array Oper):List Oper->Tm->List Deferred->World->(Tm->List Deferred->World->Prop)->Prop
 | [],t,d,w,K=>K t d w
 | o :: rest,t,d,w,K=>gd ops t o (λ t=>match o.op with
  | .defer { callee:=.value (.tmp f),args:=args,argTypes:=_ }=>match gt t f with
   | .func (.func g) x y=>tj P ops rest (pt t o.dst undef) ({ target:=.fn (.func g) y,args:=x++args.map (ev t) } :: d) w K
   | _=>False
  | .defer _=>False
  | _=>zy P rest o t w λ v w'=>tj P ops rest (pt t o.dst v) d w' K) (λ t=>tj P ops rest (pt t o.dst undef) d w K)
theorem lF{P:Program}{ops:Array Oper}{Q:Exit->Act->World->Prop}{ds:List Nat}{t0:Tm}:∀ (l:List Oper) (t:Tm) (d:List Deferred) (w:World) (K:Tm->List Deferred->World->Prop),(∀ t d w,vp ds t0 t->K t d w->Q .normal (jy t d) w)->(∀ o∈l,∀ d,o.dst=some d->d∈ds)->vp ds t0 t->tj P ops l t d w K->wpListIn (FW none) 0 P ops Q l (jy t d) w
 | [],t,d,w,K,hK,_,ha,h=>hK _ _ _ ha h
 | o :: rest,t,d,w,K,hK,hd,ha,h=>by
  have hd0:=hd o (List.mem_cons_self ..);have hd1:=λ o' ho'=>hd o' (List.mem_cons_of_mem _ ho');unfold wpListIn;rcases q6 (dd:=d) h with⟨hw,h⟩|⟨hw,h⟩
  ·rw[if_pos hw]
   split at h
   ·rename_i f args tys hx
    split at h
    ·rename_i g x y hy;refine⟨λ _ _=>trivial,?_⟩;have hr:(execOp (ev t) o).run P w=.ok (.defer { target:=.fn (.func g) y,args:=x++args.map (ev t) }) w:=by
      have hev:ev t (.tmp f)=gt t f:=rfl;simp[execOp,hx,resolve,hev,hy,Deferred.ofValue]
     show o.uponIn (FW none) 0 P _ _ _ ((execOp _ o).run P w);rw[iH,hr];simp only[Oper.uponIn];have:({ (jy t d) with defers:={ target:=.fn (.func g) y,args:=x++args.map (ev t) } :: (jy t d).defers }:Act)=jy t ({ target:=.fn (.func g) y,args:=x++args.map (ev t) } :: d):=rfl;rw[this,gJ];exact lF rest _ _ _ K hK hd1 (iV ha hd0) h
    ·exact h.elim
   ·exact h.elim
   ·rename_i hn1 hn2;have hnd:eJ o.op=true:=by
     cases ho:o.op<;>first|rfl|exact absurd ho (hn2 _)
    exact zz hnd (λ v w' h'=>lF rest _ _ _ K hK hd1 (iV ha hd0) h') h
  ·rw[if_neg (by simpa using hw),gJ];exact⟨λ _ _=>trivial,lF rest _ _ _ K hK hd1 (iV ha hd0) h⟩
end Go.Vc
namespace Go.Vc
abbrev rD:=List (Nat×List (World->Prop))
def dep(ops:Array Oper):Nat->Nat->Nat->Bool
 | 0,_,_=>false
 | n+1,j,i=>match ops[j]? with
  | none=>false
  | some o=>o.after.toList.any λ e=>Region.binds .any e&&(Nat.beq e.on i||dep ops n e.on i)
def closed(ops:Array Oper)(listed:Array Bool):Prop :=
 ∀ j o,ops[j]?=some o->listed.getD j false=true->∀ e∈o.after,Region.binds .any e=true->listed.getD e.on false=true
theorem rT{ops:Array Oper}{listed:Array Bool}(hc:closed ops listed){i:Nat}(hi:listed.getD i false=false) :
  ∀ n j o,ops[j]?=some o->(∀ e∈o.after,Region.binds .any e=true->listed.getD e.on false=true)->dep ops n j i=false
 | 0,_,_,_,_=>rfl
 | n+1,j,o,ho,hj=>by
  simp only[dep,ho,List.any_eq_false];intro e he;simp only[Bool.and_eq_true,not_and,Bool.or_eq_true,not_or];intro hb;have h1:=hj e (by simpa using he) hb;refine⟨λ h=>?_,?_⟩
  ·rw[Nat.eq_of_beq_eq_true h,hi] at h1
   cases h1
  ·cases ho' : ops[e.on]? with
   | none=>cases n<;>simp[dep,ho']
   | some o'=>rw[rT hc hi n e.on o' ho' (hc _ _ ho' h1)]; simp
def drop(ops:Array Oper)(j:Nat)(pend:rD):rD:=pend.filter λ p=>!dep ops ops.size j p.1
def jm(ro:Option Nat)(P:Program)(ops:Array Oper)(Q:Exit->Act->World->Prop):Nat->Array Bool->rD->Act->World->Prop
 | 0,listed,_,a,w=>Region.ready .any ops listed=[]/\Q .normal a w
 | n+1,listed,pend,a,w=>(Region.ready .any ops listed=[]->Q .normal a w) /\
  ∀ i∈Region.ready .any ops listed,wpOpIn (FW ro) 0 P ops Q i (λ a' w'=>(∀ p∈drop ops i pend,holds p.2 w')/\jm ro P ops Q n (listed.setIfInBounds i true) (drop ops i pend) a' w') a w
theorem tu{ro:Option Nat}{P:Program}{ops:Array Oper}{Q:Exit->Act->World->Prop}:∀ (n:Nat) (listed:Array Bool) (pend:rD) (a:Act) (w:World),jm ro P ops Q n listed pend a w->wpAnyIn (FW ro) 0 P .any ops Q n listed a w
 | 0,_,_,_,_,h=>h
 | n+1,_,_,_,_,h=>⟨h.1,λ i hi=>wpOpIn_mono (λ _ _ h=>tu n _ _ _ _ h.2) (h.2 i hi)⟩
theorem nD{ro:Option Nat}{P:Program}{ops:Array Oper}{Q:Exit->Act->World->Prop}:∀ (n:Nat) (listed:Array Bool) (pend pend' : rD) (a:Act) (w:World),(∀ p∈pend',p∈pend\/p.2=[])->jm ro P ops Q n listed pend a w->jm ro P ops Q n listed pend' a w
 | 0,_,_,_,_,_,_,h=>h
 | n+1,_,pend,pend',_,_,hs,h=>by
  refine⟨h.1,λ i hi=>wpOpIn_mono (λ _ _ h=>?_) (h.2 i hi)⟩;have hs' : ∀ p∈drop ops i pend',p∈drop ops i pend\/p.2=[]:=λ p hp=>by
   simp only[drop,List.mem_filter] at hp ⊢;exact(hs p hp.1).imp (λ h=>⟨h,hp.2⟩) id
  refine⟨λ p hp=>?_,nD n _ _ _ _ _ hs' h.2⟩;rcases hs' p hp with h1|h1
  ·exact h.1 p h1
  ·rw[h1]; exact λ f hf=>by cases hf
theorem tr{ro:Option Nat}{P:Program}{ops:Array Oper}{Q:Exit->Act->World->Prop}(n:Nat)(listed:Array Bool)(pend pend' : rD)(a:Act)(w:World)(hs:∀ p∈pend',p∈pend)(h:jm ro P ops Q n listed pend a w):jm ro P ops Q n listed pend' a w :=
 nD n listed pend pend' a w (λ p hp=>.inl (hs p hp)) h
theorem qu{ro:Option Nat}{P:Program}{ops:Array Oper}{Q:Exit->Act->World->Prop}{S:World->Prop}{i:Nat}{o:Oper}{v:Value}{a:Act}(hnd:eJ o.op=true)(hi:ops[i]?=some o)(hy:YieldsIf P ops S o v a){K:Act->World->Prop}{w:World}(hS:S w)(h:K (a.put o.dst v) w):wpOpIn (FW ro) 0 P ops Q i K a w:=by
 unfold wpOpIn;simp only[hi];rcases hy with⟨hw,hv⟩|⟨hw,rfl⟩
 ·rw[if_pos hw];refine⟨λ _ _=>trivial,?_⟩;rw[Oper.semAt_eq _ _ _ (fV hnd),hv w hS];exact h
 ·rw[if_neg (by simp[hw])];exact⟨λ _ _=>trivial,h⟩
theorem wT{ro:Option Nat}{P:Program}{ops:Array Oper}{Q:Exit->Act->World->Prop}{S:World->Prop}{j:Nat}{oi oj:Oper}{v:Value}(hnd:eJ oj.op=true)(hj:ops[j]?=some oj)(hap:oi.apart ops oj=true)(hsi:∀ cs b,oi.op≠.select cs b)(hsj:∀ cs b,oj.op≠.select cs b)(hQ:∀ c a w,Q (.panic c) (a.put oi.dst v) w->Q (.panic c) a w){K:Act->World->Prop}{a:Act}{w:World}(hy:YieldsIf P ops S oi v a)(h:wpOpIn (FW ro) 0 P ops Q j K (a.put oi.dst v) w) :
  wpOpIn (FW ro) 0 P ops Q j (λ a' w'=>YieldsIf P ops S oi v a'/\K (a'.put oi.dst v) w') a w:=by
 obtain⟨h1,h2,h3⟩:=Oper.apart_spec hap;have keep:∀ (a:Act),YieldsIf P ops S oi v a->∀ u,YieldsIf P ops S oi v (a.put oj.dst u):=λ a hy u =>
  hy.of_same (execOp_put oi hsi a oj.dst u h3) (wanted_put oi a oj.dst u h3)
 have keepD:∀ d,YieldsIf P ops S oi v { a with defers:=d :: a.defers }:=λ d=>hy.of_same rfl rfl;unfold wpOpIn at *;simp only[hj] at *;rw[wanted_put oj a oi.dst v h1] at h
 split
 ·rename_i hw;simp only[hw,if_true] at h;unfold Oper.wpIn at *;refine⟨λ _ _=>trivial,?_⟩;have h:=h.2;rw[Oper.semAt_eq _ _ _ (fV hnd),execOp_put oj hsj a oi.dst v h1] at h;rw[Oper.semAt_eq _ _ _ (fV hnd)];generalize(execOp a.eval oj).run P w=r at *
  cases r with
  | ok x w' =>
   cases x<;>simp only[Oper.uponIn] at h ⊢
   case value u=>exact⟨keep a hy u,by rw[<- Act.put_comm a v u h2]; exact h⟩
   case skip=>exact⟨keep a hy _,by rw[<- Act.put_comm a v undef h2]; exact h⟩
   case defer d =>
    refine⟨keep _ (keepD d) _,?_⟩;rw[<- Act.put_comm _ v undef h2,<- Act.put_defers];exact h
   case enter f args =>
    refine⟨h.1,CallsIn.mono h.2 λ e w'' he=>?_⟩
    cases e with
    | returned u=>exact⟨keep a hy u,by rw[<- Act.put_comm a v u h2]; exact he⟩
    | panicked c=>exact hQ _ _ _ he
    | outgrown=>exact he
   case row row args=>exact⟨h.1,RowsIn.mono h.2 λ u w'' he=>⟨keep a hy u,by rw[<- Act.put_comm a v u h2]; exact he⟩⟩
   case round l f tmps assign body =>
    refine⟨h.1,RoundIn.mono h.2 λ e w'' he=>?_⟩
    cases e with
    | returned u=>exact⟨keep a hy u,by rw[<- Act.put_comm a v u h2]; exact he⟩
    | panicked c=>exact hQ _ _ _ he
    | outgrown=>exact he
  | halt x w' =>
   cases x<;>simp only[Oper.uponIn] at h ⊢
   case panic u=>exact hQ _ _ _ h
 ·rename_i hw;simp only[hw] at h;exact⟨λ _ _=>trivial,keep a hy _,by rw[<- Act.put_comm a v undef h2]; exact h.2⟩
theorem oP{ro:Option Nat}{P:Program}{ops:Array Oper}{Q:Exit->Act->World->Prop}{i:Nat}{oi:Oper}{v:Value}{T:List (World->Prop)}(hnd:∀ (j:Nat) (o:Oper),ops[j]?=some o->eJ o.op=true)(hi:ops[i]?=some oi)(hsel:∀ (j:Nat) (o:Oper) cs b,ops[j]?=some o->o.op≠.select cs b)(hQ:∀ c a w,¬ Q (.panic c) a w) :
  ∀ (fuel:Nat) (listed:Array Bool) (pend:rD) (a:Act) (w:World),closed ops listed ->
   (∀ j oj,ops[j]?=some oj->j≠i->listed.getD j true=false->(∀ e∈oj.after,Region.binds .any e=true->e.on≠i)->oi.apart ops oj=true) ->
   i∈Region.ready .any ops listed->YieldsIf P ops (holds T) oi v a->holds T w->(∀ p∈pend,holds p.2 w) ->
   jm ro P ops Q fuel (listed.setIfInBounds i true) ((i,T) :: pend) (a.put oi.dst v) w->jm ro P ops Q (fuel+1) listed pend a w:=by
 intro fuel
 induction fuel with
 | zero =>
  intro listed pend a w _ _ hr hy hT hp H;refine⟨λ h=>(by rw[h] at hr; cases hr),λ j hj=>?_⟩
  by_cases hji:j=i
  ·subst hji;exact qu (hnd _ _ hi) hi hy hT ⟨λ p hp'=>hp p ((List.mem_filter.1 hp').1),tr 0 _ _ _ _ _ (λ p hp=>List.mem_cons_of_mem _ ((List.mem_filter.1 hp).1)) H⟩
  ·have:=ready_mono hj hji;rw[H.1] at this
   cases this
 | succ fuel ih =>
  intro listed pend a w hc hfree hr hy hT hp H;refine⟨λ h=>(by rw[h] at hr; cases hr),λ j hj=>?_⟩
  by_cases hji:j=i
  ·subst hji;exact qu (hnd _ _ hi) hi hy hT ⟨λ p hp'=>hp p ((List.mem_filter.1 hp').1),tr _ _ _ _ _ _ (λ p hp=>List.mem_cons_of_mem _ ((List.mem_filter.1 hp).1)) H⟩
  ·have h1:=H.2 j (ready_mono hj hji);obtain⟨hjun,oj,hoj,hall⟩:=mem_ready.1 hj;have hiun:listed.getD i false=false:=by
    have h0:=(mem_ready.1 hr).1;rcases Nat.lt_or_ge i listed.size with h' | h'
    ·simp[h'] at h0 ⊢; exact h0
    ·simp[Array.getElem?_eq_none h'] at h0
   have hnot:∀ e∈oj.after,Region.binds .any e=true->e.on≠i:=λ e he hb heq=>by
    have h1:=hall e he hb;rw[heq,hiun] at h1
    cases h1
   have hdep:dep ops ops.size j i=false:=rT hc hiun _ _ _ hoj hall;have h2:=wT (hnd _ _ hoj) hoj (hfree j oj hoj hji hjun hnot) (λ cs b=>hsel i oi cs b hi) (λ cs b=>hsel j oj cs b hoj) (λ c a w h=>(hQ _ _ _ h).elim) hy h1;have hd:drop ops j ((i,T) :: pend)=(i,T) :: drop ops j pend:=by simp[drop,hdep]
   refine wpOpIn_mono (λ a' w' h3=>?_) h2;obtain⟨hy',hpend,hrest⟩:=h3;rw[hd] at hpend hrest;refine⟨λ p hp=>hpend p (List.mem_cons_of_mem _ hp),?_⟩;have hfree' : ∀ k ok,ops[k]?=some ok->k≠i->(listed.setIfInBounds j true).getD k true=false->(∀ e∈ok.after,Region.binds .any e=true->e.on≠i)->oi.apart ops ok=true:=λ k ok hk hki hun hno=>by
    refine hfree k ok hk hki ?_ hno
    by_cases hjk:j=k
    ·subst hjk; exact hjun
    ·rw[getD_set_ne true hjk] at hun; exact hun
   have hc' : closed ops (listed.setIfInBounds j true):=λ k ok hk hl e he hb=>by
    by_cases hjk:j=k
    ·subst hjk;have:ok=oj:=Option.some.inj (hk.symm.trans hoj);subst this;exact getD_set_true (hall e he hb)
    ·rw[getD_set_ne false hjk] at hl;exact getD_set_true (hc k ok hk hl e he hb)
   refine ih (listed.setIfInBounds j true) (drop ops j pend) a' w' hc' hfree' (ready_mono hr (Ne.symm hji)) hy' (hpend (i,T) (List.mem_cons_self ..)) (λ p hp=>hpend p (List.mem_cons_of_mem _ hp)) ?_;rw[Array.setIfInBounds_comm _ _ hji];exact hrest
def Jl:Op->Bool
 | .move _|.assign _|.pick _ _ _|.load _ _|.nilCheck _|.binOp _ _ _ _ _|.unOp _ _ _|.makeInterface _ _|.makeFunc _ _ _
 | .slice _ _ _ _ _|.fieldAddr _ _ _|.field _ _ _|.indexAddr _ _ _|.index _ _ _|.extract _ _|.typeAssert _ _ _ _|.build _ _=>true
 | .call { callee:=.builtin .len,.. }|.call { callee:=.builtin .min,.. }|.call { callee:=.builtin .max,.. }|.call { callee:=.builtin .cap,.. }=>true
 | _=>false
def pick(ops:Array Oper):List Nat->Option Nat
 | []=>none
 | i :: is=>match ops[i]? with
  | some o=>cond (Jl o.op) (some i) (pick ops is)
  | none=>pick ops is
theorem sx{ops:Array Oper}{i:Nat}:∀ {l:List Nat},pick ops l=some i->i∈l
 | [],h=>by cases h
 | j :: is,h=>by
  unfold pick at h
  split at h
  ·rename_i o ho
   cases hr:Jl o.op with
   | true=>rw[hr] at h; cases h; exact List.mem_cons_self ..
   | false=>rw[hr] at h; exact List.mem_cons_of_mem _ (sx h)
  ·exact List.mem_cons_of_mem _ (sx h)
def HW:List (World->Prop)->World->Prop->Prop
 | [],_,R=>R
 | f :: fs,w,R=>f w/\HW fs w R
theorem ud:∀ {T:List (World->Prop)} {w:World} {R:Prop},HW T w R->holds T w/\R
 | [],_,_,h=>⟨λ _ hf=>(by cases hf),h⟩
 | _ :: _,_,_,h=>by
  obtain⟨h1,h2⟩:=ud h.2;refine⟨λ g hg=>?_,h2⟩;rcases List.mem_cons.1 hg with rfl|hg
  ·exact h.1
  ·exact h1 g hg
def FZ:rD->World->Prop->Prop
 | [],_,R=>R
 | p :: ps,w,R=>HW p.2 w (FZ ps w R)
theorem uc:∀ {ps:rD} {w:World} {R:Prop},FZ ps w R->(∀ p∈ps,holds p.2 w)/\R
 | [],_,_,h=>⟨λ _ hf=>(by cases hf),h⟩
 | _ :: _,_,_,h=>by
  obtain⟨h1,h2⟩:=ud h;obtain⟨h3,h4⟩:=uc h2;refine⟨λ g hg=>?_,h4⟩;rcases List.mem_cons.1 hg with rfl|hg
  ·exact h1
  ·exact h3 g hg
def HV:List Prop->Prop
 | []=>True
 | [p]=>p
 | p :: q :: ps=>p/\HV (q :: ps)
theorem ua:∀ {l:List Prop},HV l->∀ p∈l,p
 | [],_,_,h=>by cases h
 | [p],h,q,hq=>by
  have:q=p:=by simpa using hq
  rw[this]; exact h
 | p :: q :: ps,h,r,hr=>by
  rcases List.mem_cons.1 hr with rfl|hr
  ·exact h.1
  ·exact ua h.2 r hr
def jl(P:Program)(ops:Array Oper):Nat->Array Bool->rD->Tm->World->(Tm->World->Prop)->Prop
 | 0,listed,_,t,w,K=>cond (Region.ready .any ops listed).isEmpty (K t w) False
 | n+1,listed,pend,t,w,K =>
  match pick ops (Region.ready .any ops listed) with
  | some i=>match ops[i]? with
   | none=>False
   | some o=>cond (Region.free .any ops listed i) (gd ops t o (λ t=>IC P o t w λ v T=>jl P ops n (listed.setIfInBounds i true) ((i,T) :: pend) (pt t o.dst v) w K)
     (λ t=>jl P ops n (listed.setIfInBounds i true) pend (pt t o.dst undef) w K)) False
  | none=>match Region.ready .any ops listed with
   | []=>K t w
   | i :: is=>HV ((i :: is).map λ i=>match ops[i]? with
    | none=>False
    | some o=>gd ops t o
     (λ t=>Dw P o t w λ v w'=>FZ (drop ops i pend) w' (jl P ops n (listed.setIfInBounds i true) (drop ops i pend) (pt t o.dst v) w' K))
     (λ t=>jl P ops n (listed.setIfInBounds i true) (drop ops i pend) (pt t o.dst undef) w K))
theorem mS{ops:Array Oper}{listed:Array Bool}{i:Nat}(hc:closed ops listed)(hi:i∈Region.ready .any ops listed):closed ops (listed.setIfInBounds i true):=by
 obtain⟨_,oi,hoi,hall⟩:=mem_ready.1 hi;intro k ok hk hl e he hb
 by_cases hik:i=k
 ·subst hik;have:ok=oi:=Option.some.inj (hk.symm.trans hoi);subst this;exact getD_set_true (hall e he hb)
 ·rw[getD_set_ne false hik] at hl;exact getD_set_true (hc k ok hk hl e he hb)
theorem kV{ro:Option Nat}{P:Program}{ops:Array Oper}{dd:List Deferred}{Q:Exit->Act->World->Prop}(hnd:∀ (j:Nat) (o:Oper),ops[j]?=some o->eJ o.op=true)(hs:Region.noSelect ops=true)(hQ:∀ c a w,¬ Q (.panic c) a w){K:Tm->World->Prop}{ds:List Nat}{t0:Tm}(hK:∀ t w,vp ds t0 t->K t w->Q .normal (jy t dd) w)(hd:∀ (i:Nat) (o:Oper),ops[i]?=some o->∀ d,o.dst=some d->d∈ds) :
  ∀ (n:Nat) (listed:Array Bool) (pend:rD) (t:Tm) (w:World),vp ds t0 t->closed ops listed->(∀ p∈pend,holds p.2 w) ->
  jl P ops n listed pend t w K->jm ro P ops Q n listed pend (jy t dd) w
 | 0,listed,pend,t,w,ha,_,_,h=>by
  obtain⟨h1,h2⟩:=gC h;exact⟨List.isEmpty_iff.1 h1,hK _ _ ha h2⟩
 | n+1,listed,pend,t,w,ha,hc,hp,h=>by
  unfold jl at h
  split at h
  ·rename_i i hi;have hir:=sx hi
   split at h
   ·exact h.elim
   ·rename_i o ho;obtain⟨hf,h⟩:=gC h;rcases q6 h with⟨hw,h⟩|⟨hw,h⟩
    ·obtain⟨v,T,hk,hT,hr⟩:=Fe h;refine oP hnd ho (Region.noSelect_spec hs) hQ n listed pend (jy t dd) w hc (Region.free_spec ho hf) hir (.inl ⟨hw,λ w' hw'=>by rw[iH]; exact hr w' hw'⟩) hT hp ?_;rw[gJ];refine kV hnd hs hQ hK hd n _ _ _ _ (iV ha (hd _ _ ho)) (mS hc hir) ?_ hk;intro p hp';rcases List.mem_cons.1 hp' with rfl|hp'
     ·exact hT
     ·exact hp p hp'
    ·refine oP (T:=[]) hnd ho (Region.noSelect_spec hs) hQ n listed pend (jy t dd) w hc (Region.free_spec ho hf) hir (.inr ⟨hw,rfl⟩) (λ f hf=>by cases hf) hp ?_;rw[gJ];refine nD n _ pend _ _ _ (λ p hp'=>?_) (kV hnd hs hQ hK hd n _ _ _ _ (iV ha (hd _ _ ho)) (mS hc hir) hp h);rcases List.mem_cons.1 hp' with rfl|hp'
     ·exact .inr rfl
     ·exact .inl hp'
  ·split at h
   ·rename_i hr;exact⟨λ _=>hK _ _ ha h,λ i hi=>by rw[hr] at hi; cases hi⟩
   ·rename_i i0 is hr;refine⟨λ h0=>(by rw[h0] at hr; cases hr),λ i hi=>?_⟩;have hm:(match ops[i]? with
     | none=>False
     | some o=>gd ops t o
      (λ t=>Dw P o t w λ v w'=>FZ (drop ops i pend) w' (jl P ops n (listed.setIfInBounds i true) (drop ops i pend) (pt t o.dst v) w' K)) (λ t=>jl P ops n (listed.setIfInBounds i true) (drop ops i pend) (pt t o.dst undef) w K)):=by
     refine ua h _ (List.mem_map.2 ⟨i,by rw[<- hr]; exact hi,rfl⟩)
    have hcs:=mS hc hi;unfold wpOpIn
    cases ho:ops[i]? with
    | none=>rw[ho] at hm; exact hm.elim
    | some o =>
     simp only[ho] at hm ⊢;rcases q6 hm with⟨hw,hm⟩|⟨hw,hm⟩
     ·rw[if_pos hw];refine(Hq (hnd _ _ ho) (λ v w' hv=>?_) hm);obtain⟨h1,h2⟩:=uc hv;exact⟨h1,kV hnd hs hQ hK hd n _ _ _ _ (iV ha (hd _ _ ho)) hcs h1 h2⟩
     ·rw[if_neg (by simp[hw]),gJ];have h1:∀ p∈drop ops i pend,holds p.2 w:=λ p hp'=>hp p ((List.mem_filter.1 hp').1);exact⟨λ _ _=>trivial,h1,kV hnd hs hQ hK hd n _ _ _ _ (iV ha (hd _ _ ho)) hcs h1 hm⟩

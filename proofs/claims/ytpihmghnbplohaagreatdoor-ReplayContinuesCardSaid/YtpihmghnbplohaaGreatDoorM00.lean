import Derived.OrdersHeld
import Derived.OrdersIn
import Derived.TacticsIn
import Derived.Sort.LoopGhostIn
import Derived.RangeFuncLeaves
import Derived.RangeFuncRecord
import Derived.RangeFuncSeq
import Derived.Still
import Derived.Tactics
import Derived.Laws.World
import Derived.Deep.LoopGhost
set_option linter.unusedVariables false
set_option maxRecDepth 100000
namespace Go.Vc
theorem dT{p:Prop}[Decidable p](h:p):decide p=true:=decide_eq_true h
theorem dF{p:Prop}[Decidable p](h : ¬p):decide p=false:=decide_eq_false h
theorem gE{α:Type}{l:List α}{i:Nat}(h:i<l.length):l[i]? = some l[i]:=List.getElem?_eq_getElem h
abbrev OA:=Option Addr
abbrev KP:=Value->World->Prop
abbrev Tm:=List Value
def gt:Tm->Nat->Value
  | [],_=>undef
  | v :: _,0=>v
  | _ :: t,n+1=>gt t n
def st:Tm->Nat->Value->Tm
  | [],_,_=>[]
  | _ :: t,0,v=>v :: t
  | x :: t,n+1,v=>x :: st t n v
def pt(t:Tm)(d:Option Nat)(v:Value):Tm :=
  match d with
  | some d=>st t d v
  | none=>t
def ev(t:Tm):Operand->Value
  | .tmp i=>gt t i
  | .const v=>v
  | .global g=>.pointer (some ⟨g,0,none⟩)
  | .func f=>.func (.func f) #[] #[]
theorem GG(t:Tm):∀ i,gt t i=t.toArray.getD i undef:=by
  induction t with
  | nil=>intro i; simp[gt]
  | cons x t ih =>
    intro i
    cases i with
    | zero=>simp[gt]
    | succ n=>simp[gt,ih]
theorem LO(t:Tm):∀ i v,(st t i v)=t.set i v:=by
  induction t with
  | nil=>intro i v; simp[st]
  | cons x t ih =>
    intro i v
    cases i with
    | zero=>simp[st]
    | succ n=>simp[st,ih]
def lg(t:Tm)(d:List Deferred):Act:={ tmps:=t.toArray,defers:=d }
theorem jG(t:Tm)(ds:List Deferred)(d:Option Nat)(v:Value):(lg t ds).put d v=lg (pt t d v) ds:=by
  cases d with
  | none=>rfl
  | some d=>simp[lg,Act.put,pt,LO]
theorem kJ(t:Tm)(ds:List Deferred):(lg t ds).eval=ev t:=by
  funext x
  cases x with
  | tmp i=>simp[Act.eval,lg,ev,GG]
  | _=>rfl
theorem Ko(t:Tm):∀ (i j:Nat) (v:Value),i≠j->gt (st t i v) j=gt t j:=by
  induction t with
  | nil=>intro i j v _; rfl
  | cons x t ih =>
    intro i j v h
    cases i with
    | zero=>cases j with
      | zero=>exact absurd rfl h
      | succ j=>rfl
    | succ i=>cases j with
      | zero=>rfl
      | succ j=>exact ih i j v (by omega)
theorem Io(t:Tm)(i:Nat)(v:Value):(st t i v).length=t.length:=by simp[LO]
theorem Kn:∀ (t t' : Tm),t.length=t'.length->(∀ i,i<t.length->gt t i=gt t' i)->t=t'
  | [],[],_,_=>rfl
  | x :: t,y :: t',hl,h=>by
    have h0:=h 0 (by simp);simp only[gt] at h0;rw[h0,Kn t t' (by simpa using hl) (λ i hi=>by have:=h (i+1) (by simpa using hi); simpa[gt] using this)]
structure I6 where
  a:Int
  b:Int
  c:Int
  d:Int
  e:Int
  f:Int
def I6.vs(u:I6):List Value:=[.int .i64 u.a,.int .i64 u.b,.int .i64 u.c,.int .i64 u.d,.int .i64 u.e,.int .i64 u.f]
inductive SK where
  | int (k:IntKind)
  | bool
  | str
  | ptr
  | slice
  | map
  | blk
  | six
  | raw
inductive TK where
  | s (k:SK)
  | agg (ks:List SK)
inductive Kd where
  | t (k:TK)
  | tup (ks:List TK)
def Qa:SK->(Value->Prop)->Prop
  | .int k,K=>∃ n:Int,K (.int k n)
  | .bool,K=>∃ b:Bool,K (.bool b)
  | .str,K=>∃ s:ByteArray,K (.string s)
  | .ptr,K=>∃ p:Option Addr,K (.pointer p)
  | .slice,K=>∃ (a:Option Addr) (l c:Nat),K (.slice a l c)
  | .map,K=>∃ r:Option Nat,K (.map r)
  | .blk,K=>∃ r:Nat,K (.pointer (some ⟨r,0,none⟩))
  | .six,_=>False
  | .raw,K=>∃ v:Value,K v
def P6:List SK->(List Value->Prop)->Prop
  | [],K=>K []
  | .six :: ks,K=>∃ u:I6,P6 ks λ vs=>K (u.vs++vs)
  | k :: ks,K=>Qa k λ v=>P6 ks λ vs=>K (v :: vs)
def Qb:TK->(Value->Prop)->Prop
  | .s k,K=>Qa k K
  | .agg ks,K=>P6 ks λ vs=>K (.agg vs.toArray)
def MY:List TK->(List Value->Prop)->Prop
  | [],K=>K []
  | k :: ks,K=>Qb k λ v=>MY ks λ vs=>K (v :: vs)
def S8:Kd->(Value->Prop)->Prop
  | .t k,K=>Qb k K
  | .tup ks,K=>MY ks λ vs=>K (.tuple vs.toArray)
theorem BK{k:SK}{K:Value->Prop}(h:Qa k K):∃ v,K v:=by
  cases k<;>simp only[Qa] at h
  case slice=>obtain⟨a,l,c,h⟩:=h; exact⟨_,h⟩
  all_goals (obtain⟨v,h⟩:=h; exact⟨_,h⟩)
def Fb:List SK->Nat
  | []=>0
  | .six :: ks=>Fb ks+6
  | _ :: ks=>Fb ks+1
theorem Q6(k:SK):k=.six\/k≠.six:=by cases k<;>simp
theorem J6{k:SK}{ks:List SK}{K:List Value->Prop}(hk:k≠.six):P6 (k :: ks) K=Qa k λ v=>P6 ks λ vs=>K (v :: vs):=by cases k<;>first | rfl | exact absurd rfl hk
theorem Im{k:SK}{ks:List SK}(hk:k≠.six):Fb (k :: ks)=Fb ks+1:=by cases k<;>first | rfl | exact absurd rfl hk
theorem BJ:∀ {ks:List SK} {K:List Value->Prop},P6 ks K->∃ vs,vs.length=Fb ks/\K vs
  | [],_,h=>⟨[],rfl,h⟩
  | k :: ks,K,h=>by
    rcases Q6 k with rfl | hk
    · obtain⟨u,h⟩:=h;obtain⟨vs,hl,h⟩:=BJ h;exact⟨u.vs++vs,by simp[hl,Fb,I6.vs],h⟩
    · rw[J6 hk] at h;obtain⟨v,h⟩:=BK h;obtain⟨vs,hl,h⟩:=BJ h;exact⟨v :: vs,by rw[Im hk]; simp[hl],h⟩
theorem tX{k:TK}{K:Value->Prop}(h:Qb k K):∃ v,K v:=by
  cases k with
  | s k=>exact BK h
  | agg ks=>obtain⟨vs,_,h⟩:=BJ h; exact⟨_,h⟩
theorem BL:∀ {ks:List TK} {K:List Value->Prop},MY ks K->∃ vs,K vs
  | [],_,h=>⟨[],h⟩
  | _ :: _,_,h=>by
    obtain⟨v,h⟩:=tX h;obtain⟨vs,h⟩:=BL h;exact⟨v :: vs,h⟩
theorem J5{k:Kd}{K:Value->Prop}(h:S8 k K):∃ v,K v:=by
  cases k with
  | t k=>exact tX h
  | tup ks=>obtain⟨vs,h⟩:=BL h; exact⟨_,h⟩
def Mn:IntKind->IntKind->Bool
  | .i8,.i8 | .i16,.i16 | .i32,.i32 | .i64,.i64 | .u8,.u8 | .u16,.u16 | .u32,.u32 | .u64,.u64=>true
  | _,_=>false
theorem nO{a b:IntKind}(h:Mn a b=true):a=b:=by cases a<;>cases b<;>first | rfl | (simp[Mn] at h)
theorem jz{b:Bool}{R:Prop}(h:cond b R False):b=true/\R:=by cases b<;>simp_all
def Sk(P:Program)(t:TypeId):SK :=
  match P.underlying t with
  | some .bool=>.bool
  | some (.int k)=>.int k
  | some .string=>.str
  | some (.pointer _)=>.ptr
  | some (.slice _)=>.slice
  | some (.map _ _)=>.map
  | _=>.raw
def RR(P:Program)(t:TypeId):Bool:=match P.underlying t with
  | some (.int .i64)=>true
  | _=>false
def Bq(P:Program):Nat->TypeId->List SK
  | 0,_=>[]
  | n+1,t =>
    match P.underlying t with
    | some (.struct fs)=>fs.toList.flatMap λ f=>Bq P n f.type
    | some (.array len e)=>cond (Nat.beq len 6&&RR P e) [.six] (List.replicate len (Bq P n e)).flatten
    | _=>[Sk P t]
def uM(P:Program)(t:TypeId):TK :=
  match P.underlying t with
  | some (.struct _)=>.agg (Bq P 12 t)
  | some (.array _ _)=>.agg (Bq P 12 t)
  | _=>.s (Sk P t)
def RV(P:Program)(t:TypeId):Kd :=
  match P.underlying t with
  | some (.tuple ts)=>.tup (ts.toList.map (uM P))
  | _=>.t (uM P t)
def isRow:Obj->Bool
  | .cells ..=>true
  | _=>false
def Fm(P:Program){α:Type}:Sem α->World->(α->World->Prop)->Prop
  | .pure a,w,K=>K a w
  | .load _ a k,w,K=>∃ v,w.cell? a=some v/\Fm P (k v) w K
  | .store _ a v k,w,K=>v.oneCell' = true/\(∃ x,w.cell? a=some x)/\w.frozen? a=false/\Fm P k (w.setCell a v) K
  | .new o k,w,K=>Fm P (k w.heap.size) (w.alloc o) K
  | .shape r k,w,K=>Fm P (k (w.shape? r)) w K
  | .freeze a n k,w,K=>Fm P k (w.freeze a n) K
  | .frozen a k,w,K=>Fm P (k (w.frozen? a)) w K
  | .getObj r k,w,K=>∃ o,w.heap[r]? = some o/\isRow o=false/\Fm P (k o) w K
  | .setObj r o k,w,K=>∃ x,w.heap[r]? = some x/\isRow x=false/\Fm P k { w with heap:=w.heap.setIfInBounds r o } K
  | .choose q k,w,K=>cond q.forced (Fm P (k 0) w K) (∀ t,Fm P (k (q.cut t)) w.drew K)
  | .sys _ _,_,_=>False
  | .program k,w,K=>Fm P (k P) w K
  | .mark _ k,w,K=>Fm P k w K
  | .halt _,_,_=>False
theorem Nz{P:Program}{α:Type}:∀ (s:Sem α) (w:World) (K:α->World->Prop),Fm P s w K->∃ a w',s.run P w=.ok a w'/\K a w':=by
  intro s
  induction s with
  | pure a=>exact λ w K h=>⟨a,w,rfl,h⟩
  | load m a k ih =>
    rintro w K ⟨v,hv,h⟩;obtain⟨x,w',hr,hk⟩:=ih v w K h;exact⟨x,w',by simp only[Sem.run,hv]; exact hr,hk⟩
  | store m a v k ih =>
    rintro w K ⟨h1,⟨x,hx⟩,hf,h⟩;obtain⟨y,w',hr,hk⟩:=ih (w.setCell a v) K h;refine⟨y,w',?_,hk⟩
    cases v<;>first | (simp[Value.oneCell'] at h1; done) | (simp only[Sem.run,hx,hf]; exact hr)
  | new o k ih=>exact λ w K h=>ih _ _ K h
  | shape r k ih=>exact λ w K h=>ih _ _ K h
  | freeze a n k ih=>exact λ w K h=>ih _ K h
  | frozen a k ih=>exact λ w K h=>ih _ _ K h
  | getObj r k ih =>
    rintro w K ⟨o,ho,hn,h⟩;obtain⟨x,w',hr,hk⟩:=ih o w K h;refine⟨x,w',?_,hk⟩;simp only[Sem.run,ho]
    cases o<;>first | (simp[isRow] at hn; done) | exact hr
  | setObj r o k ih =>
    rintro w K ⟨o',ho,hn,h⟩;obtain⟨x,w',hr,hk⟩:=ih _ K h;refine⟨x,w',?_,hk⟩;simp only[Sem.run,ho]
    cases o' <;> first | (simp[isRow] at hn; done) | exact hr
  | choose q k ih =>
    intro w K h;simp only[Fm] at h
    cases hq:q.forced with
    | true =>
      rw[hq] at h;obtain⟨x,w',hr,hk⟩:=ih 0 w K h;exact⟨x,w',by simp only[Sem.run,hq,if_true]; exact hr,hk⟩
    | false =>
      rw[hq] at h;obtain⟨x,w',hr,hk⟩:=ih _ w.drew K (h (w.tape w.drawn q));exact⟨x,w',by simp only[Sem.run,hq,Bool.false_eq_true,if_false]; exact hr,hk⟩
  | sys c k ih=>exact λ w K h=>h.elim
  | program k ih=>exact λ w K h=>ih P w K h
  | mark m k ih=>exact λ w K h=>ih w K h
  | halt x=>exact λ w K h=>h.elim
abbrev FW (ro:Option Nat):Fence:={ Fence.wide with round:=ro }
def DM(P:Program)(ty:TypeId)(K:Value->World->Prop):Next->World->Prop
  | .value v,w=>K v w
  | .skip,w=>K undef w
  | .enter f args,w=>Calls P f args w λ e w'=>S8 (RV P ty) λ v=>e=.returned v/\K v w'
  | .round l f tmps assign body,w=>RoundIn Fence.wide 0 P l f tmps assign body w λ e w'=>∃ v,e=.returned v/\K v w'
  | _,_=>False
def cq(P:Program)(l:Nat)(args:Array Value)(w:World)(K:Bool->World->Prop):Prop :=
  YieldAt Fence.wide 0 P l args w λ e w'=>∃ b,e=.returned (.bool b)/\K b w'
def fN:Op->Bool
  | .defer _=>false
  | _=>true
theorem iV{o:Op}(h:fN o=true):∀ c,o≠.defer c:=λ c e=>by rw[e] at h; cases h
theorem oT{P:Program}{ro:Option Nat}{o:Oper}{a:Act}{w:World}{ty:TypeId}{K:Value->World->Prop}{N:Act->World->Prop}{Q:Exit->Act->World->Prop}{n:Next}(hN:∀ v w',K v w'->N (a.put o.dst v) w')(hk:DM P ty K n w):o.uponIn (FW ro) 0 P a N Q (.ok n w):=by
  cases n<;>simp only[DM] at hk<;>simp only[Oper.uponIn]
  · exact hN _ _ hk
  · exact hN _ _ hk
  · refine⟨λ h=>(by cases h),?_⟩;have h1:CallsIn Fence.wide 0 P _ _ w _:=callsIn_wide.2 hk;refine CallsIn.mono (show CallsIn (FW ro) 0 P _ _ w _ from h1) λ e w'' he=>?_;obtain⟨v,rfl,hv⟩:=J5 he;exact hN _ _ hv
  · refine⟨λ h=>(by cases h),RoundIn.mono (show RoundIn (FW ro) 0 P _ _ _ _ _ w _ from hk) λ e w'' he=>?_⟩;obtain⟨v,rfl,hv⟩:=he;exact hN _ _ hv
def holds(T:List (World->Prop))(w:World):Prop:=∀ f∈T,f w
def wS(P:Program){α:Type}:Sem α->World->List (World->Prop)->(α->List (World->Prop)->Prop)->Prop
  | .pure a,_,T,K=>K a T
  | .load _ a k,w,T,K=>∃ v,w.cell? a=some v/\wS P (k v) w ((λ w'=>w'.cell? a=some v) :: T) K
  | .shape r k,w,T,K=>wS P (k (w.shape? r)) w ((λ w'=>w'.shape? r=w.shape? r) :: T) K
  | .frozen a k,w,T,K=>wS P (k (w.frozen? a)) w ((λ w'=>w'.frozen? a=w.frozen? a) :: T) K
  | .getObj r k,w,T,K=>∃ o,w.heap[r]? = some o/\isRow o=false/\wS P (k o) w ((λ w'=>w'.heap[r]? = some o) :: T) K
  | .choose q k,w,T,K=>cond q.forced (wS P (k 0) w T K) False
  | .program k,w,T,K=>wS P (k P) w T K
  | _,_,_,_=>False
theorem NR{P:Program}{α:Type}:∀ (s:Sem α) (w:World) (T:List (World->Prop)) (K:α->List (World->Prop)->Prop),wS P s w T K ->
    ∃ a T',K a T'/\(holds T w->holds T' w)/\∀ w',holds T' w'->holds T w'/\s.run P w' = .ok a w':=by
  intro s
  induction s with
  | pure a=>exact λ w T K h=>⟨a,T,h,id,λ w' hw=>⟨hw,rfl⟩⟩
  | load m a k ih =>
    rintro w T K ⟨v,hv,h⟩;obtain⟨x,T',hk,hw,hr⟩:=ih v w _ K h;refine⟨x,T',hk,λ hT=>hw λ f hf=>?_,λ w' hw'=>?_⟩
    · rcases List.mem_cons.1 hf with rfl | hf
      · exact hv
      · exact hT f hf
    · obtain⟨h1,h2⟩:=hr w' hw';have h3:w'.cell? a=some v:=h1 _ (List.mem_cons_self ..);exact⟨λ f hf=>h1 f (List.mem_cons_of_mem _ hf),by simp only[Sem.run,h3]; exact h2⟩
  | shape r k ih =>
    intro w T K h;obtain⟨x,T',hk,hw,hr⟩:=ih _ w _ K h;refine⟨x,T',hk,λ hT=>hw λ f hf=>?_,λ w' hw'=>?_⟩
    · rcases List.mem_cons.1 hf with rfl | hf
      · rfl
      · exact hT f hf
    · obtain⟨h1,h2⟩:=hr w' hw';have h3:w'.shape? r=w.shape? r:=h1 _ (List.mem_cons_self ..);exact⟨λ f hf=>h1 f (List.mem_cons_of_mem _ hf),by simp only[Sem.run,h3]; exact h2⟩
  | frozen r k ih =>
    intro w T K h;obtain⟨x,T',hk,hw,hr⟩:=ih _ w _ K h;refine⟨x,T',hk,λ hT=>hw λ f hf=>?_,λ w' hw'=>?_⟩
    · rcases List.mem_cons.1 hf with rfl | hf
      · rfl
      · exact hT f hf
    · obtain⟨h1,h2⟩:=hr w' hw';have h3:w'.frozen? r=w.frozen? r:=h1 _ (List.mem_cons_self ..);exact⟨λ f hf=>h1 f (List.mem_cons_of_mem _ hf),by simp only[Sem.run,h3]; exact h2⟩
  | getObj r k ih =>
    rintro w T K ⟨v,hv,hn,h⟩;obtain⟨x,T',hk,hw,hr⟩:=ih v w _ K h;refine⟨x,T',hk,λ hT=>hw λ f hf=>?_,λ w' hw'=>?_⟩
    · rcases List.mem_cons.1 hf with rfl | hf
      · exact hv
      · exact hT f hf
    · obtain⟨h1,h2⟩:=hr w' hw';have h3:w'.heap[r]? = some v:=h1 _ (List.mem_cons_self ..);refine⟨λ f hf=>h1 f (List.mem_cons_of_mem _ hf),?_⟩;simp only[Sem.run,h3]
      cases v<;>first | (simp[isRow] at hn; done) | exact h2
  | choose q k ih =>
    intro w T K h;simp only[wS] at h
    cases hq:q.forced with
    | true =>
      rw[hq] at h;obtain⟨x,T',hk,hw,hr⟩:=ih _ w _ K h;exact⟨x,T',hk,hw,λ w' hw'=>⟨(hr w' hw').1,by simp only[Sem.run,hq,if_true]; exact(hr w' hw').2⟩⟩
    | false=>rw[hq] at h; exact h.elim
  | program k ih=>exact λ w T K h=>ih P w T K h
  | store=>exact λ w T K h=>h.elim
  | new=>exact λ w T K h=>h.elim
  | freeze=>exact λ w T K h=>h.elim
  | setObj=>exact λ w T K h=>h.elim
  | sys=>exact λ w T K h=>h.elim
  | mark=>exact λ w T K h=>h.elim
  | halt=>exact λ w T K h=>h.elim
end Go.Vc
namespace Go.Vc
def an{α:Type}(p:Option α)(F:α->Prop):Prop :=
  match p with
  | some a=>F a
  | none=>False
theorem dy{α:Type}{p:Option α}{F:α->Prop}(h:an p F):∃ a,p=some a/\F a:=by
  cases p with
  | none=>exact h.elim
  | some a=>exact⟨a,rfl,h⟩
def wz(P:Program)(t:TypeId):Option Nat:=(P.info? t).map (·.size)
def tP(x:Option Value)(dflt top:Nat)(F:Nat->Prop):Prop :=
  match x with
  | none=>F dflt
  | some (.int _ i)=>0<=i/\i<=(top:Int)/\F i.toNat
  | some _=>False
def Ti(P:Program)(ty:TypeId)(x:Value)(lo hi mx:Option Value)(K:Value->Prop):Prop :=
  match P.underlying ty with
  | some .string=>match x,mx with
    | .string s,none=>tP hi s.size s.size λ h=>tP lo 0 h λ l=>K (.string (s.extract l h))
    | _,_=>False
  | some (.slice e)=>match x with
    | .slice a len cap=>cond (mx.isSome&&hi.isNone) False <| an (wz P e) λ sz=>tP mx cap cap λ m=>tP hi len m λ h=>tP lo 0 h λ l =>
        K (.slice (if m=l then a else a.map (·.add (l*sz))) (h-l) (m-l))
    | _=>False
  | _=>False
def Ta(P:Program)(ty:TypeId)(x i:Value)(K:Value->Prop):Prop :=
  match P.underlying ty,i with
  | some .string,.int _ i=>match x with
    | .string s=>0<=i/\an s[i.toNat]? λ b=>K (.int .u8 b.toNat)
    | _=>False
  | some (.array n e),.int _ i=>match x with
    | .agg cs=>0<=i/\i<(n:Int)/\an (wz P e) λ sz=>(match uM P e with
        | .s k=>cond (P.underlying e).isSome (Qa k λ v=>cs[i.toNat*sz]? = some v/\K v) False
        | .agg _=>K (.agg (cs.extract (i.toNat*sz) (i.toNat*sz+sz))))
    | _=>False
  | _,_=>False
def Ql(P:Program)(ty:TypeId)(x i:Value)(K:Value->Prop):Prop :=
  match P.underlying ty,i with
  | some (.slice e),.int _ i=>match x with
    | .slice base len _=>an base λ ad=>0<=i/\i<(len:Int)/\an (wz P e) λ sz=>K (.pointer (some (ad.add (i.toNat*sz))))
    | _=>False
  | some (.array n e),.int _ i=>match x with
    | .pointer base=>an base λ ad=>0<=i/\i<(n:Int)/\an (wz P e) λ sz=>K (.pointer (some (ad.add (i.toNat*sz))))
    | _=>False
  | _,_=>False
def O7(v:Value)(F:Bool->Prop):Prop :=
  match v with
  | .nilIface=>F true
  | .iface _ _=>F false
  | _=>False
def IC(P:Program)(ty:TypeId)(neg:Bool)(x:Value)(y:Operand):Option ((Value->Prop)->Prop) :=
  match P.underlying ty,y with
  | some (.pointer _),.const (.pointer none)=>match x with
    | .pointer p=>some λ K=>K (.bool (cond neg (!p.isNone) p.isNone))
    | _=>none
  | some (.slice _),.const (.slice none _ _)=>match x with
    | .slice a _ _=>some λ K=>K (.bool (cond neg (!a.isNone) a.isNone))
    | _=>none
  | some (.interface _),.const .nilIface=>some λ K=>O7 x λ b=>K (.bool (cond neg (!b) b))
  | _,_=>none
def Kt:TypeDesc->Bool
  | .struct _=>true
  | .array _ _=>true
  | _=>false
def vo(P:Program)(e:TypeId)(cs:Array Value)(off:Nat):Option Value :=
  match P.underlying e,wz P e with
  | some d,some sz=>cond (Kt d) (some (.agg (cs.extract off (off+sz)))) cs[off]?
  | _,_=>none
def CN:List (Option Bool)->Option Bool
  | []=>some true
  | none :: _=>none
  | some b :: l=>match CN l with
    | none=>none
    | some r=>some (b&&r)
def OO(P:Program):Nat->TypeId->Value->Value->Option Bool
  | 0,_,_,_=>none
  | d+1,t,x,y =>
    match P.underlying t with
    | some .bool=>match x,y with
      | .bool a,.bool b=>some (a==b)
      | _,_=>none
    | some (.int _)=>match x,y with
      | .int k a,.int k' b=>cond (Mn k k') (some (a==b)) none
      | _,_=>none
    | some .string=>match x,y with
      | .string a,.string b=>some (a==b)
      | _,_=>none
    | some (.struct fs)=>match x,y with
      | .agg xs,.agg ys=>cond (P.stoodInHeld t||fs.toList.any λ f=>f.name== "_") none
          (CN (fs.toList.map λ f=>match vo P f.type xs f.offset,vo P f.type ys f.offset with
            | some a,some b=>OO P d f.type a b
            | _,_=>none))
      | _,_=>none
    | some (.array n e)=>match x,y with
      | .agg xs,.agg ys=>match wz P e with
        | none=>none
        | some sz=>CN ((List.range n).map λ i=>match vo P e xs (i*sz),vo P e ys (i*sz) with
            | some a,some b=>OO P d e a b
            | _,_=>none)
      | _,_=>none
    | _=>none
def Mq(P:Program)(ty:TypeId)(neg:Bool)(x y:Value):Option ((Value->Prop)->Prop) :=
  match x,y with
  | .agg xs,.agg ys=>cond (P.eqGuardType P.depth ty) none (match OO P 12 ty (.agg xs) (.agg ys) with
    | some b=>some λ K=>K (.bool (cond neg (!b) b))
    | none=>none)
  | _,_=>none
def S4(op:BinOp)(x y:Value):Option ((Value->Prop)->Prop) :=
  match op,x,y with
  | .quo,.int k a,.int k' b=>cond (Mn k k') (some λ K=>b≠0/\K (.int k (k.wrap (a.tdiv b)))) none
  | .rem,.int k a,.int k' b=>cond (Mn k k') (some λ K=>b≠0/\K (.int k (a.tmod b))) none
  | .shl,.int k a,.int _ b=>some λ K=>0<=b/\K (.int k (k.wrap (a*2 ^ (min b.toNat k.bits))))
  | .shr,.int k a,.int _ b=>some λ K=>0<=b/\K (.int k (a.fdiv (2 ^ (min b.toNat k.bits))))
  | .add,.string a,.string b=>some λ K=>((a.size+b.size:Nat):Int)<=IntKind.i64.max/\K (.string (a++b))
  | _,_,_=>none
def R7{α:Type}(x y:Option α):Option α :=
  match x with
  | some a=>some a
  | none=>y
def Oe(P:Program)(o:Oper)(t:Tm):Option ((Value->Prop)->Prop) :=
  match o.op with
  | .move x | .assign x=>some λ K=>K (ev t x)
  | .pick c a b=>match ev t c with
    | .bool x=>some λ K=>cond x (K (ev t a)) (K (ev t b))
    | _=>none
  | .convert src dst x=>match P.underlying src,P.underlying dst,ev t x with
    | some _,some (.int k),.int _ n=>some λ K=>K (.int k (k.wrap n))
    | _,_,_=>none
  | .nilCheck x=>match ev t x with
    | .pointer p=>some λ K=>an p λ a=>K (.pointer (some a))
    | _=>none
  | .slice ty x lo hi mx=>some (Ti P ty (ev t x) (lo.map (ev t)) (hi.map (ev t)) (mx.map (ev t)))
  | .index ty x i=>some (Ta P ty (ev t x) (ev t i))
  | .indexAddr ty x i=>some (Ql P ty (ev t x) (ev t i))
  | .binOp op ty x y _=>match op with
    | .eql=>R7 (IC P ty false (ev t x) y) (R7 (IC P ty false (ev t y) x) (Mq P ty false (ev t x) (ev t y)))
    | .neq=>R7 (IC P ty true (ev t x) y) (R7 (IC P ty true (ev t y) x) (Mq P ty true (ev t x) (ev t y)))
    | op=>S4 op (ev t x) (ev t y)
  | _=>none
theorem Bl{P:Program}{x:Option Value}{d top:Nat}{F:Nat->Prop}(h:tP x d top F) :
    ∃ n,F n/\∀ (code:BoundsCode) (w:World),(match x with | some v=>(Instr.sliceBound v top code).run P w | none=>.ok d w)=.ok n w:=by
  unfold tP at h
  split at h
  · exact⟨d,h,λ _ _=>rfl⟩
  · rename_i k i;obtain⟨h0,h1,h2⟩:=h;exact⟨i.toNat,h2,λ _ _=>by simp[Instr.sliceBound,asIntOf,h0,h1]⟩
  · exact h.elim
theorem aI{P:Program}{t:TypeId}{d:TypeDesc}(h:P.underlying t=some d)(w:World):(underlying t).run P w=.ok d w:=by
  simp[underlying,h]
theorem oP{P:Program}{t:TypeId}{n:Nat}(h:wz P t=some n)(w:World):(sizeOf t).run P w=.ok n w:=by
  unfold wz at h
  cases hi:P.info? t with
  | none=>simp[hi] at h
  | some i=>simp[hi] at h; simp[sizeOf,typeInfo,hi,h]
theorem xw{P:Program}{b:Bool}{len cap:Nat}{lo hi mx:Option Value}{F:Nat->Nat->Nat->Prop}(hm:mx=none\/hi≠none)(h:tP mx cap cap λ m=>tP hi len m λ h=>tP lo 0 h λ l=>F l h m) :
    ∃ l h m,F l h m/\∀ w,(Instr.sliceBounds b len cap lo hi mx).run P w=.ok (l,h,m) w:=by
  obtain⟨m,g1,hm'⟩:=Bl (P:=P) h;obtain⟨hh,g2,hh'⟩:=Bl (P:=P) g1;obtain⟨l,g3,hl'⟩:=Bl (P:=P) g2;refine⟨l,hh,m,g3,λ w=>?_⟩;have a1:=λ c=>hm' c w;have a2:=λ c=>hh' c w;have a3:=λ c=>hl' c w;clear h g1 g2 g3 hm' hh' hl'
  cases mx with
  | none =>
    have:=a1 .index;simp only[Result.ok.injEq,and_true] at this;subst this
    cases hi<;>cases lo<;>simp_all [Instr.sliceBounds]
  | some mv =>
    cases hi with
    | none=>simp at hm
    | some hv=>cases lo<;>simp_all [Instr.sliceBounds]
theorem Oa{P:Program}{ty:TypeId}{x:Value}{lo hi mx:Option Value}{K:Value->Prop}(h:Ti P ty x lo hi mx K) :
    ∃ v,(∀ w,(Instr.sliceAt ty x lo hi mx).run P w=.ok v w)/\K v:=by
  unfold Ti at h
  split at h
  · rename_i hu
    split at h
    · rename_i s;obtain⟨l,hh,m,hk,hr⟩:=xw (P:=P) (b:=false) (len:=s.size) (cap:=s.size) (lo:=lo) (hi:=hi) (mx:=none) (F:=λ l hh _=>K (.string (s.extract l hh))) (.inl rfl) h;exact⟨_,λ w=>by simp[Instr.sliceAt,Instr.slice,aI hu,hr],hk⟩
    · exact h.elim
  · rename_i e hu
    split at h
    · rename_i a len cap;have hm:mx=none\/hi≠none:=by
        cases mx with
        | none=>exact .inl rfl
        | some _=>cases hi with
          | none=>exact h.elim
          | some _=>exact .inr (by simp)
      have h:an (wz P e) λ sz=>tP mx cap cap λ m=>tP hi len m λ h=>tP lo 0 h λ l =>
          K (.slice (if m=l then a else a.map (·.add (l*sz))) (h-l) (m-l)):=by
        cases hb:(mx.isSome&&hi.isNone) with
        | false=>rw[hb] at h; exact h
        | true=>rw[hb] at h; exact h.elim
      obtain⟨sz,hsz,h⟩:=dy h;obtain⟨l,hh,m,hk,hr⟩:=xw (P:=P) (b:=true) hm h;exact⟨_,λ w=>by simp[Instr.sliceAt,Instr.slice,aI hu,hr,oP hsz],hk⟩
    · exact h.elim
  · exact h.elim
theorem Gm{P:Program}{t:TypeId}{ks:List SK}(h:uM P t=.agg ks)(w:World):(isAgg t).run P w=.ok true w:=by
  unfold uM at h
  split at h
  · rename_i hu; simp[isAgg,aI hu]
  · rename_i hu; simp[isAgg,aI hu]
  · cases h
theorem As{P:Program}{t:TypeId}{k:SK}(h:uM P t=.s k)(hi:(P.underlying t).isSome=true)(w:World):(isAgg t).run P w=.ok false w:=by
  unfold uM at h
  split at h
  · cases h
  · cases h
  · rename_i h1 h2
    cases hu:P.underlying t with
    | none=>simp[hu] at hi
    | some d =>
      cases d<;>first | exact absurd hu (h1 _) | exact absurd hu (h2 _ _) | simp[isAgg,aI hu]
theorem Nd{P:Program}{ty:TypeId}{x i:Value}{K:Value->Prop}(h:Ta P ty x i K) :
    ∃ v,(∀ w,(Instr.index ty x i).run P w=.ok v w)/\K v:=by
  unfold Ta at h
  split at h
  · rename_i k n hu
    split at h
    · rename_i s;obtain⟨h0,h⟩:=h;obtain⟨b,hb,hk⟩:=dy h;exact⟨_,λ w=>by simp[Instr.index,asIntOf,aI hu,h0,hb],hk⟩
    · exact h.elim
  · rename_i n e k i hu
    split at h
    · rename_i cs;obtain⟨h0,h1,h⟩:=h;obtain⟨sz,hsz,h⟩:=dy h
      split at h
      · rename_i k hk;obtain⟨hi,h⟩:=jz h;obtain⟨v,hv,hK⟩:=BK h;exact⟨v,λ w=>by simp[Instr.index,asIntOf,aI hu,h0,h1,part,As hk hi,oP hsz,hv],hK⟩
      · rename_i ks hk;exact⟨_,λ w=>by simp[Instr.index,asIntOf,aI hu,h0,h1,part,Gm hk,oP hsz],h⟩
    · exact h.elim
  · exact h.elim
theorem Ku{P:Program}{ty:TypeId}{x i:Value}{K:Value->Prop}(h:Ql P ty x i K) :
    ∃ v,(∀ w,(Instr.indexAt ty x i).run P w=.ok v w)/\K v:=by
  unfold Ql at h
  split at h
  · rename_i e k i hu
    split at h
    · obtain⟨ad,rfl,h0,h1,h⟩:=dy h;obtain⟨sz,hsz,h⟩:=dy h;exact⟨_,λ w=>by simp[Instr.indexAt,asIntOf,aI hu,h0,h1,oP hsz],h⟩
    · exact h.elim
  · rename_i n e k i hu
    split at h
    · obtain⟨ad,rfl,h0,h1,h⟩:=dy h;obtain⟨sz,hsz,h⟩:=dy h;exact⟨_,λ w=>by simp[Instr.indexAt,Instr.sureAddr,asIntOf,aI hu,h0,h1,oP hsz],h⟩
    · exact h.elim
  · exact h.elim
theorem lH{P:Program}{ty:TypeId}{x y:Value}{b:Bool}{w:World}(h:∀ d,(Op.equalIn (d+1) ty x y).run P w=.ok b w):(Op.equal ty x y).run P w=.ok b w:=h 9999
theorem jB{P:Program}{ty:TypeId}{x y:Value}{b neg:Bool}{w:World}(h:(Op.equal ty x y).run P w=.ok b w)(hb:(binOp (cond neg .neq .eql) ty x y)=(do let r <- Op.equal ty x y; pure (.bool (cond neg (!r) r)))):(binOp (cond neg .neq .eql) ty x y).run P w=.ok (.bool (cond neg (!b) b)) w:=by
  rw[hb];simp[h]
theorem wP{P:Program}{ty:TypeId}{neg:Bool}{t:Tm}{x y:Operand}{F:(Value->Prop)->Prop}(hF:IC P ty neg (ev t x) y=some F){K:Value->Prop}(h:F K) :
    ∃ v,(∀ w,(do eqGuard (cond neg .neq .eql) ty x y (ev t x) (ev t y); binOp (cond neg .neq .eql) ty (ev t x) (ev t y):Sem Value).run P w=.ok v w/\(do eqGuard (cond neg .neq .eql) ty y x (ev t y) (ev t x); binOp (cond neg .neq .eql) ty (ev t y) (ev t x):Sem Value).run P w=.ok v w)/\K v:=by
  unfold IC at hF
  split at hF
  · rename_i e hu
    split at hF
    · rename_i p hp
      cases hF
      refine⟨_,λ w=>?_,h⟩;have h1:(Op.equal ty (.pointer p) (.pointer none)).run P w=.ok p.isNone w:=lH λ d=>by cases p<;>simp[Op.equalIn,aI hu]
      have h2:(Op.equal ty (.pointer none) (.pointer p)).run P w=.ok p.isNone w:=lH λ d=>by cases p<;>simp[Op.equalIn,aI hu]
      have h3:=jB (neg:=neg) h1 (by cases neg<;>rfl);have h4:=jB (neg:=neg) h2 (by cases neg<;>rfl);have g1:∀ a b:Operand,(eqGuard (cond neg .neq .eql) ty a b (.pointer p) (.pointer none)).run P w=.ok () w:=λ a b=>by cases neg<;>simp[eqGuard]
      have g2:∀ a b:Operand,(eqGuard (cond neg .neq .eql) ty a b (.pointer none) (.pointer p)).run P w=.ok () w:=λ a b=>by cases neg<;>simp[eqGuard]
      rw[hp];simp only[ev,Sem.run_bind,g1,g2,Result.andThen_ok,h3,h4,and_self]
    · cases hF
  · rename_i e l c hu
    split at hF
    · rename_i p l' c' hp
      cases hF
      refine⟨_,λ w=>?_,h⟩;have h1:(Op.equal ty (.slice p l' c') (.slice none l c)).run P w=.ok p.isNone w:=lH λ d=>by cases p<;>simp[Op.equalIn,aI hu]
      have h2:(Op.equal ty (.slice none l c) (.slice p l' c')).run P w=.ok p.isNone w:=lH λ d=>by cases p<;>simp[Op.equalIn,aI hu]
      have h3:=jB (neg:=neg) h1 (by cases neg<;>rfl);have h4:=jB (neg:=neg) h2 (by cases neg<;>rfl);have g1:∀ a b:Operand,(eqGuard (cond neg .neq .eql) ty a b (.slice p l' c') (.slice none l c)).run P w=.ok () w:=λ a b=>by cases neg<;>simp[eqGuard]
      have g2:∀ a b:Operand,(eqGuard (cond neg .neq .eql) ty a b (.slice none l c) (.slice p l' c')).run P w=.ok () w:=λ a b=>by cases neg<;>simp[eqGuard]
      rw[hp];simp only[ev,Sem.run_bind,g1,g2,Result.andThen_ok,h3,h4,and_self]
    · cases hF
  · rename_i ms hu
    cases hF
    revert h;generalize ev t x=v;intro h
    cases v<;>simp only[O7] at h
    · rename_i tx vx;refine⟨_,λ w=>?_,h⟩;have h1:(Op.equal ty (.iface tx vx) .nilIface).run P w=.ok false w:=lH λ d=>by simp[Op.equalIn,aI hu]
      have h2:(Op.equal ty .nilIface (.iface tx vx)).run P w=.ok false w:=lH λ d=>by simp[Op.equalIn,aI hu]
      have h3:=jB (neg:=neg) h1 (by cases neg<;>rfl);have h4:=jB (neg:=neg) h2 (by cases neg<;>rfl);have g1:(eqGuard (cond neg .neq .eql) ty x (.const .nilIface) (.iface tx vx) .nilIface).run P w=.ok () w:=by cases neg<;>simp[eqGuard]
      have g2:(eqGuard (cond neg .neq .eql) ty (.const .nilIface) x .nilIface (.iface tx vx)).run P w=.ok () w:=by cases neg<;>simp[eqGuard]
      simp only[ev,Sem.run_bind,g1,g2,Result.andThen_ok,h3,h4,and_self]
    · refine⟨_,λ w=>?_,h⟩;have h1:(Op.equal ty .nilIface .nilIface).run P w=.ok true w:=lH λ d=>by simp[Op.equalIn,aI hu]
      have h3:=jB (neg:=neg) h1 (by cases neg<;>rfl);have g1:(eqGuard (cond neg .neq .eql) ty x (.const .nilIface) .nilIface .nilIface).run P w=.ok () w:=by cases neg<;>simp[eqGuard]
      have g2:(eqGuard (cond neg .neq .eql) ty (.const .nilIface) x .nilIface .nilIface).run P w=.ok () w:=by cases neg<;>simp[eqGuard]
      simp only[ev,Sem.run_bind,g1,g2,Result.andThen_ok,h3,and_self]
  · cases hF
theorem sO{P:Program}{e:TypeId}{cs:Array Value}{off:Nat}{v:Value}(h:vo P e cs off=some v)(w:World):(part e cs off).run P w=.ok v w:=by
  unfold vo at h
  split at h
  · rename_i d sz hu hs
    cases hd:Kt d with
    | true =>
      rw[hd] at h
      cases h
      have ha:(isAgg e).run P w=.ok true w:=by cases d<;>first | (cases hd; done) | simp[isAgg,aI hu]
      simp[part,ha,oP hs]
    | false =>
      rw[hd] at h;have ha:(isAgg e).run P w=.ok false w:=by cases d<;>first | (cases hd; done) | simp[isAgg,aI hu]
      have h:cs[off]? = some v:=h;simp[part,ha,h]
  · cases h
abbrev vC:=Option Bool×Unit
theorem uc{α:Type}{P:Program}{w:World}(body:α->vC->Sem (ForInStep vC)):∀ (l:List α) (os:List (Option Bool)) (b:Bool),CN os=some b->os.length=l.length->(∀ (i:Nat) (a:α) (c:Bool) (r:vC),l[i]? = some a->os[i]? = some (some c)->(body a r).run P w=.ok (cond c (.yield (none,())) (.done (some false,()))) w)->(forIn l ((none,()):vC) body).run P w=.ok (cond b (none,()) (some false,())) w
  | [],[],b,hb,_,_=>by
    simp[CN] at hb;subst hb
    simp
  | [],_ :: _,_,_,hl,_=>by simp at hl
  | _ :: _,[],_,_,hl,_=>by simp at hl
  | a :: l,o :: os,b,hb,hl,hbody=>by
    cases o with
    | none=>simp[CN] at hb
    | some c =>
      simp only[CN] at hb
      split at hb
      · cases hb
      · rename_i r hr
        cases hb
        have h1:=hbody 0 a c (none,()) rfl rfl;have h2:=uc body l os r hr (by simpa using hl) (λ i a c r' h h'=>hbody (i+1) a c r' (by simpa using h) (by simpa using h'));rw[List.forIn_cons,Sem.run_bind,h1]
        cases c with
        | true=>simpa[Result.andThen] using h2
        | false=>simp[Result.andThen]
theorem BH{P:Program}{w:World}:∀ (d:Nat) (t:TypeId) (x y:Value) (b:Bool) (d' : Nat),OO P d t x y=some b->d<=d'->(Op.equalIn d' t x y).run P w=.ok b w
  | 0,_,_,_,_,_,h,_=>by cases h
  | d+1,t,x,y,b,0,_,hd=>by omega
  | d+1,t,x,y,b,d' + 1,h,hd=>by
    unfold OO at h
    split at h
    · rename_i hu
      split at h
      · cases h; simp[Op.equalIn,aI hu]
      · cases h
    · rename_i k hu
      split at h
      · rename_i k1 a k2 c
        cases he:Mn k1 k2 with
        | false=>simp[he] at h
        | true =>
          have:=nO he;subst this;rw[he] at h
          cases h
          simp[Op.equalIn,aI hu]
      · cases h
    · rename_i hu
      split at h
      · cases h; simp[Op.equalIn,aI hu]
      · cases h
    · rename_i fs hu
      split at h
      · rename_i xs ys
        cases hs:(P.stoodInHeld t||fs.toList.any λ f=>f.name== "_") with
        | true=>rw[hs] at h; cases h
        | false =>
          rw[hs] at h;simp only[Bool.or_eq_false_iff] at hs;have h:CN (fs.toList.map λ f=>match vo P f.type xs f.offset,vo P f.type ys f.offset with
            | some a,some b=>OO P d f.type a b
            | _,_=>none)=some b:=h
          unfold Op.equalIn;simp only[Sem.run_bind,aI hu,Result.andThen_ok];have hp:(Sem.run P program w)=.ok P w:=rfl;rw[hp,Result.andThen_ok,if_neg (by rw[hs.1]; decide),Sem.run_bind,<- Array.forIn_toList];have hl:=uc (P:=P) (w:=w) (λ f (__s:vC) =>
                if f.name≠ "_" then do
                  let __do_lift <- part f.type xs f.offset;let __do_lift_1 <- part f.type ys f.offset;let __do_lift <- Op.equalIn d' f.type __do_lift __do_lift_1
                  if (!__do_lift)=true then pure (ForInStep.done (some false,()))
                    else pure (ForInStep.yield (none,()))
                else pure (ForInStep.yield (none,()))) fs.toList _ b h (by simp) (λ i f c r hf hc=>?_)
          · rw[hl]
            cases b<;>rfl
          · have hmem:f∈fs.toList:=List.mem_of_getElem? hf;have hname:f.name≠ "_":=λ e=>by
              have:=List.any_eq_false.1 hs.2 f hmem;rw[e] at this;exact this rfl
            rw[List.getElem?_map,hf] at hc;simp only[Option.map_some,Option.some.injEq] at hc;rw[if_pos hname]
            split at hc
            · rename_i va vb ha hb;have hr:=BH (w:=w) d f.type va vb c d' hc (by omega);simp only[Sem.run_bind,sO ha,sO hb,hr,Result.andThen_ok]
              cases c<;>rfl
            · cases hc
      · cases h
    · rename_i n e hu
      split at h
      · rename_i xs ys
        split at h
        · cases h
        · rename_i sz hsz;unfold Op.equalIn;simp only[Sem.run_bind,aI hu,oP hsz,Result.andThen_ok];have hl:=uc (P:=P) (w:=w) (λ (i:Nat) (__s:vC)=>do
            let __do_lift <- part e xs (i*sz);let __do_lift_1 <- part e ys (i*sz);let __do_lift <- Op.equalIn d' e __do_lift __do_lift_1
            if (!__do_lift)=true then pure (ForInStep.done (some false,())) else pure (ForInStep.yield (none,()))) (List.range n) _ b h (by simp) (λ i j c r hf hc=>?_)
          · have hr:(forIn [:n] ((none,()):vC) (λ (i:Nat) (__s:vC)=>(do
                let __do_lift <- part e xs (i*sz);let __do_lift_1 <- part e ys (i*sz);let __do_lift <- Op.equalIn d' e __do_lift __do_lift_1
                if (!__do_lift)=true then pure (ForInStep.done (some false,())) else pure (ForInStep.yield (none,())):Sem (ForInStep vC))))=forIn (List.range n) ((none,()):vC) (λ (i:Nat) (__s:vC)=>(do
                let __do_lift <- part e xs (i*sz);let __do_lift_1 <- part e ys (i*sz);let __do_lift <- Op.equalIn d' e __do_lift __do_lift_1
                if (!__do_lift)=true then pure (ForInStep.done (some false,())) else pure (ForInStep.yield (none,())):Sem (ForInStep vC))):=by
              rw[Std.Legacy.Range.forIn_eq_forIn_range',List.range_eq_range'];simp[Std.Legacy.Range.size]
            rw[hr,hl]
            cases b<;>rfl
          · rw[List.getElem?_map,hf] at hc;simp only[Option.map_some,Option.some.injEq] at hc
            split at hc
            · rename_i va vb ha hb;have hr:=BH (w:=w) d e va vb c d' hc (by omega);simp only[Sem.run_bind,sO ha,sO hb,hr,Result.andThen_ok]
              cases c<;>rfl
            · cases hc
      · cases h
    · cases h
theorem xj{P:Program}{ty:TypeId}{neg:Bool}{x y:Operand}{a b:Value}{F:(Value->Prop)->Prop}(hF:Mq P ty neg a b=some F){K:Value->Prop}(h:F K) :
    ∃ v,(∀ w,(do eqGuard (cond neg .neq .eql) ty x y a b; binOp (cond neg .neq .eql) ty a b:Sem Value).run P w=.ok v w)/\K v:=by
  unfold Mq at hF
  split at hF
  · rename_i xs ys
    cases hg:P.eqGuardType P.depth ty with
    | true=>rw[hg] at hF; cases hF
    | false =>
      rw[hg] at hF;simp only[cond_false] at hF
      split at hF
      · rename_i b hb
        cases hF
        refine⟨_,λ w=>?_,h⟩;have h1:(Op.equal ty (.agg xs) (.agg ys)).run P w=.ok b w:=BH 12 ty _ _ b Op.maxDepth hb (by decide);have h3:=jB (neg:=neg) h1 (by cases neg<;>rfl);have g1:(eqGuard (cond neg .neq .eql) ty x y (.agg xs) (.agg ys)).run P w=.ok () w:=by
          have hp:(Sem.run P program w)=.ok P w:=rfl
          cases neg<;>simp[eqGuard,hp,hg]
        simp only[Sem.run_bind,g1,Result.andThen_ok,h3]
      · cases hF
  · cases hF
theorem sM{α:Type}{x y:Option α}{a:α}(h:R7 x y=some a):x=some a\/y=some a:=by
  cases x with
  | none=>exact .inr h
  | some b=>exact .inl h
theorem PF{P:Program}{op:BinOp}{ty:TypeId}{x y:Operand}{a b:Value}{F:(Value->Prop)->Prop}(hF:S4 op a b=some F){K:Value->Prop}(h:F K) :
    ∃ v,(∀ w,(do eqGuard op ty x y a b; binOp op ty a b:Sem Value).run P w=.ok v w)/\K v:=by
  unfold S4 at hF
  split at hF
  · rename_i k a k' b
    cases he:Mn k k' with
    | false=>simp[he] at hF
    | true =>
      have:=nO he;subst this;rw[he] at hF
      cases hF
      exact⟨_,λ w=>by simp[eqGuard,binOp,Op.intDiv,h.1],h.2⟩
  · rename_i k a k' b
    cases he:Mn k k' with
    | false=>simp[he] at hF
    | true =>
      have:=nO he;subst this;rw[he] at hF
      cases hF
      exact⟨_,λ w=>by simp[eqGuard,binOp,Op.intDiv,h.1],h.2⟩
  · cases hF
    exact⟨_,λ w=>by simp[eqGuard,binOp,Op.shift,Int.not_lt.2 h.1],h.2⟩
  · cases hF
    exact⟨_,λ w=>by simp[eqGuard,binOp,Op.shift,Int.not_lt.2 h.1],h.2⟩
  · rename_i a b
    cases hF
    refine⟨_,λ w=>?_,h.2⟩;have h9:=h.1;have hm:IntKind.i64.max=9223372036854775807:=rfl;rw[hm] at h9;simp only[eqGuard,binOp,Op.stringOp]
    simp
    omega
  · cases hF
theorem Ek{P:Program}{o:Oper}{t:Tm}{F:(Value->Prop)->Prop}(hF:Oe P o t=some F){K:Value->Prop}(h:F K) :
    ∃ v,(∀ w,(execOp (ev t) o).run P w=.ok (.value v) w)/\K v:=by
  unfold Oe at hF
  split at hF
  · rename_i x hx; cases hF; exact⟨_,λ w=>by simp[execOp,hx],h⟩
  · rename_i x hx; cases hF; exact⟨_,λ w=>by simp[execOp,hx],h⟩
  · rename_i c a b hx
    split at hF
    · rename_i x hc
      cases hF
      cases x with
      | true=>exact⟨_,λ w=>by simp[execOp,hx,hc,asBool],h⟩
      | false=>exact⟨_,λ w=>by simp[execOp,hx,hc,asBool],h⟩
    · cases hF
  · rename_i src dst x hx
    split at hF
    · rename_i d k k' n hs hu hn
      cases hF
      refine⟨_,λ w=>?_,h⟩;simp[execOp,hx,hn,convert,aI hu,aI hs,Conv.intToInt]
    · cases hF
  · rename_i x hx
    split at hF
    · rename_i p hp
      cases hF
      obtain⟨a,rfl,h⟩:=dy h;exact⟨_,λ w=>by simp[execOp,hx,hp],h⟩
    · cases hF
  · rename_i ty x lo hi mx hx
    cases hF
    obtain⟨v,hr,hk⟩:=Oa h;exact⟨v,λ w=>by simp[execOp,hx,hr],hk⟩
  · rename_i ty x i hx
    cases hF
    obtain⟨v,hr,hk⟩:=Nd h;exact⟨v,λ w=>by simp[execOp,hx,hr],hk⟩
  · rename_i ty x i hx
    cases hF
    obtain⟨v,hr,hk⟩:=Ku h;exact⟨v,λ w=>by simp[execOp,hx,hr],hk⟩
  · rename_i op ty x y yt hx;have key:∀ v w,(do eqGuard op ty x y (ev t x) (ev t y); binOp op ty (ev t x) (ev t y):Sem Value).run P w=.ok v w->(execOp (ev t) o).run P w=.ok (.value v) w:=λ v w hr=>by
      simp only[execOp,hx,Sem.run_bind] at hr ⊢;rw[hr]; rfl
    split at hF
    · rcases sM hF with hF | hF
      · obtain⟨v,hr,hk⟩:=wP hF h;exact⟨v,λ w=>key v w (hr w).1,hk⟩
      rcases sM hF with hF | hF
      · obtain⟨v,hr,hk⟩:=wP hF h;exact⟨v,λ w=>key v w (hr w).2,hk⟩
      · obtain⟨v,hr,hk⟩:=xj hF h;exact⟨v,λ w=>key v w (hr w),hk⟩
    · rcases sM hF with hF | hF
      · obtain⟨v,hr,hk⟩:=wP hF h;exact⟨v,λ w=>key v w (hr w).1,hk⟩
      rcases sM hF with hF | hF
      · obtain⟨v,hr,hk⟩:=wP hF h;exact⟨v,λ w=>key v w (hr w).2,hk⟩
      · obtain⟨v,hr,hk⟩:=xj hF h;exact⟨v,λ w=>key v w (hr w),hk⟩
    · obtain⟨v,hr,hk⟩:=PF (P:=P) (ty:=ty) (x:=x) (y:=y) hF h;exact⟨v,λ w=>key v w (hr w),hk⟩
  · cases hF
end Go.Vc

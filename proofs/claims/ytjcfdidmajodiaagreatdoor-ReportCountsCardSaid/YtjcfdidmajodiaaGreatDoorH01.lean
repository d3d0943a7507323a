import Derived.ScopeJumps
import Derived.Test.YtjcfdidmajodiaaGreatDoorProg
import Derived.Laws.AppendOwn
import Derived.Laws.MakeOwn
import Derived.Laws.CopyRow
import Derived.Laws.IdiomCopy
import Derived.Laws.BytesArg
import Derived.IntWalk
import Derived.Laws.Bits64
import Derived.Laws.Strings
import Derived.Deep.Slices
import Derived.OpenShut
import Derived.Test.YtjcfdidmajodiaaGreatDoorH00
set_option linter.unusedVariables false
set_option linter.defProp false
set_option maxRecDepth 100000
namespace Go.Vc
def lE:Code->List Nat
 | .region _ ops _=>ops.toList.filterMap (·.dst)
 | .seq a b=>lE a++lE b
 | .cond _ a b=>lE a++lE b
 | .block _ c=>lE c
 | .loop c=>lE c
 | .scope c=>lE c
 | _=>[]
theorem mS:∀ {c:Code} {l:Nat} {rest:Code},findLabel c l=some rest->∀ x∈lE rest,x∈lE c
 | .seq a b,l,rest,h,x,d=>by
  simp only[findLabel] at h
  split at h
  ·rename_i r e
   cases h
   simp only[lE,aV] at d ⊢;exact d.imp (mS e x) id
  ·exact jl _ (mS h x d)
 | .label f,l,rest,h,x,d=>by
  simp only[findLabel] at h
  split at h
  ·cases h; exact d
  ·cases h
 | .skip,_,_,h,_,_=>by simp[findLabel] at h
 | .region ..,_,_,h,_,_=>by simp[findLabel] at h
 | .cond ..,_,_,h,_,_=>by simp[findLabel] at h
 | .block ..,_,_,h,_,_=>by simp[findLabel] at h
 | .loop ..,_,_,h,_,_=>by simp[findLabel] at h
 | .exit ..,_,_,h,_,_=>by simp[findLabel] at h
 | .ret,_,_,h,_,_=>by simp[findLabel] at h
 | .goto ..,_,_,h,_,_=>by simp[findLabel] at h
 | .scope ..,_,_,h,_,_=>by simp[findLabel] at h
 | .rangeFunc ..,_,_,h,_,_=>by simp[findLabel] at h
 | .refuse ..,_,_,h,_,_=>by simp[findLabel] at h
abbrev Live:=List (Nat×TK)
def Is:List Nat->Nat->Bool
 | [],_=>false
 | x :: l,n=>cond (Nat.beq x n) true (Is l n)
theorem Cp:∀ {l:List Nat} {n:Nat},Is l n=true<->n∈l
 | [],n=>by simp[Is]
 | x :: l,n=>by
  simp only[Is,cJ]
  cases h:Nat.beq x n with
  | true=>simp[wJ h]
  | false =>
   have:n≠x:=λ e=>by rw[e,Nat.beq_refl] at h; cases h
   simp[Cp,this]
def lk:List (Nat×Value)->Nat->Option Value
 | [],_=>none
 | (s,v) :: l,n=>cond (Nat.beq s n) (some v) (lk l n)
def Js:Live->List Value->List (Nat×Value)
 | (s,_) :: l,v :: vs=>(s,v) :: Js l vs
 | _,_=>[]
def rA(mods:List Nat)(lv:List (Nat×Value))(d:Nat->Value):Nat->Tm->Tm
 | _,[]=>[]
 | i,x :: t=>(match lk lv i with|some v=>v|none=>cond (Is mods i) (d i) x) :: rA mods lv d (i+1) t
def SJ:SK->Type->Type
 | .int _,X=>Int->X
 | .bool,X=>Bool->X
 | .str,X=>ByteArray->X
 | .ptr,X=>Option Addr->X
 | .slice,X=>Option Addr->Nat->Nat->X
 | .map,X=>Option Nat->X
 | .blk,X=>Nat->X
 | .six,X=>I6->X
 | .raw,X=>Value->X
def LJ:List SK->Type->Type
 | [],X=>X
 | k :: ks,X=>SJ k (LJ ks X)
def VJ:Live->Type->Type
 | [],X=>X
 | (_,.s k) :: l,X=>SJ k (VJ l X)
 | (_,.agg ks) :: l,X=>LJ ks (VJ l X)
def Xl{X:Type}:(k:SK)->SJ k X->(Value->X->Prop)->Prop
 | .int k,J,F=>∀ n:Int,F (.int k n) (J n)
 | .bool,J,F=>∀ b:Bool,F (.bool b) (J b)
 | .str,J,F=>∀ s:ByteArray,F (.string s) (J s)
 | .ptr,J,F=>∀ p:Option Addr,F (.pointer p) (J p)
 | .slice,J,F=>∀ (a:OA) (l c:Nat),F (.slice a l c) (J a l c)
 | .map,J,F=>∀ r:Option Nat,F (.map r) (J r)
 | .blk,J,F=>∀ r:Nat,F (.pointer (some ⟨r,0,none⟩)) (J r)
 | .six,_,_=>True
 | .raw,J,F=>∀ v:Value,F v (J v)
def Xk{X:Type}:(k:SK)->SJ k X->(List Value->X->Prop)->Prop
 | .int k,J,F=>∀ n:Int,F [.int k n] (J n)
 | .bool,J,F=>∀ b:Bool,F [.bool b] (J b)
 | .str,J,F=>∀ s:ByteArray,F [.string s] (J s)
 | .ptr,J,F=>∀ p:Option Addr,F [.pointer p] (J p)
 | .slice,J,F=>∀ (a:OA) (l c:Nat),F [.slice a l c] (J a l c)
 | .map,J,F=>∀ r:Option Nat,F [.map r] (J r)
 | .blk,J,F=>∀ r:Nat,F [.pointer (some ⟨r,0,none⟩)] (J r)
 | .six,J,F=>∀ u:I6,F u.vs (J u)
 | .raw,J,F=>∀ v:Value,F [v] (J v)
def UK{X:Type}:(ks:List SK)->LJ ks X->(List Value->X->Prop)->Prop
 | [],J,F=>F [] J
 | k :: ks,J,F=>Xk k J λ xs J=>UK ks J λ vs J=>F (xs++vs) J
def Lr{X:Type}:(l:Live)->VJ l X->(List Value->X->Prop)->Prop
 | [],J,F=>F [] J
 | (_,.s k) :: l,J,F=>Xl k J λ v J=>Lr l J λ vs J=>F (v :: vs) J
 | (_,.agg ks) :: l,J,F=>UK ks J λ cs J=>Lr l J λ vs J=>F (.agg cs.toArray :: vs) J
def Bv{X:Type}:(k:SK)->SJ k X->Value->(X->Prop)->Prop
 | .int k,J,v,F=>match v with
  | .int d n=>cond (QN k d) (F (J n)) False
  | _=>False
 | .bool,J,v,F=>match v with
  | .bool b=>F (J b)
  | _=>False
 | .str,J,v,F=>match v with
  | .string s=>F (J s)
  | _=>False
 | .ptr,J,v,F=>match v with
  | .pointer p=>F (J p)
  | _=>False
 | .slice,J,v,F=>match v with
  | .slice a l c=>F (J a l c)
  | _=>False
 | .map,J,v,F=>match v with
  | .map r=>F (J r)
  | _=>False
 | .blk,J,v,F=>match v with
  | .pointer (some ⟨r,0,none⟩)=>F (J r)
  | _=>False
 | .six,_,_,_=>False
 | .raw,J,v,F=>F (J v)
def Q7{X:Type}:(k:SK)->SJ k X->List Value->(X->List Value->Prop)->Prop
 | .int k,J,vs,F=>match vs with
  | .int g n :: r=>cond (QN k g) (F (J n) r) False
  | _=>False
 | .bool,J,vs,F=>match vs with
  | .bool b :: r=>F (J b) r
  | _=>False
 | .str,J,vs,F=>match vs with
  | .string s :: r=>F (J s) r
  | _=>False
 | .ptr,J,vs,F=>match vs with
  | .pointer p :: r=>F (J p) r
  | _=>False
 | .slice,J,vs,F=>match vs with
  | .slice a l c :: r=>F (J a l c) r
  | _=>False
 | .map,J,vs,F=>match vs with
  | .map m :: r=>F (J m) r
  | _=>False
 | .blk,J,vs,F=>match vs with
  | .pointer (some ⟨b,0,none⟩) :: r=>F (J b) r
  | _=>False
 | .six,J,vs,F=>match vs with
  | .int .i64 a :: .int .i64 b :: .int .i64 c :: .int .i64 d :: .int .i64 e :: .int .i64 f :: r=>F (J ⟨a,b,c,d,e,f⟩) r
  | _=>False
 | .raw,J,vs,F=>match vs with
  | v :: r=>F (J v) r
  | _=>False
def Q8{X:Type}:(ks:List SK)->LJ ks X->List Value->(X->Prop)->Prop
 | [],J,[],F=>F J
 | k :: ks,J,vs,F=>Q7 k J vs λ J r=>Q8 ks J r F
 | [],_,_ :: _,_=>False
def E6{X:Type}:(l:Live)->VJ l X->Tm->(X->Prop)->Prop
 | [],J,_,F=>F J
 | (s,.s k) :: l,J,t,F=>Bv k J (gt t s) λ J=>E6 l J t F
 | (s,.agg ks) :: l,J,t,F=>match gt t s with
  | .agg cs=>Q8 ks J cs.toList λ J=>E6 l J t F
  | _=>False
def Lw{X:Type}{k:SK}{J:SJ k X}{v:Value}{F:X->Prop}(h:Bv k J v F):∃ j,F j/\∀ G,Xl k J G->G v j:=by
 cases k with
 | int k =>
  cases v<;>simp only[Bv] at h
  obtain⟨c,b⟩:=nM h;have:=ru c;subst this;exact⟨_,b,λ G a=>a _⟩
 | bool=>cases v<;>simp only[Bv] at h; exact⟨_,h,λ G a=>a _⟩
 | str=>cases v<;>simp only[Bv] at h; exact⟨_,h,λ G a=>a _⟩
 | ptr=>cases v<;>simp only[Bv] at h; exact⟨_,h,λ G a=>a _⟩
 | slice=>cases v<;>simp only[Bv] at h; exact⟨_,h,λ G a=>a _ _ _⟩
 | map=>cases v<;>simp only[Bv] at h; exact⟨_,h,λ G a=>a _⟩
 | blk =>
  simp only[Bv] at h
  split at h
  ·exact⟨_,h,λ G a=>a _⟩
  ·exact h.elim
 | six=>exact h.elim
 | raw=>exact⟨_,h,λ G a=>a _⟩
def Lv{X:Type}{k:SK}{J:SJ k X}{vs:List Value}{F:X->List Value->Prop}(h:Q7 k J vs F):∃ j xs r,vs=xs++r/\F j r/\∀ G,Xk k J G->G xs j:=by
 cases k<;>simp only[Q7] at h<;>split at h<;>first|exact h.elim|skip
 ·obtain⟨c,b⟩:=nM h;have:=ru c;subst this;exact⟨_,[_],_,rfl,b,λ G a=>a _⟩
 ·exact⟨_,[_],_,rfl,h,λ G a=>a _⟩
 ·exact⟨_,[_],_,rfl,h,λ G a=>a _⟩
 ·exact⟨_,[_],_,rfl,h,λ G a=>a _⟩
 ·exact⟨_,[_],_,rfl,h,λ G a=>a _ _ _⟩
 ·exact⟨_,[_],_,rfl,h,λ G a=>a _⟩
 ·exact⟨_,[_],_,rfl,h,λ G a=>a _⟩
 ·exact⟨_,[_,_,_,_,_,_],_,rfl,h,λ G a=>a ⟨_,_,_,_,_,_⟩⟩
 ·exact⟨_,[_],_,rfl,h,λ G a=>a _⟩
theorem BQ{X:Type}:∀ {ks:List SK} {J:LJ ks X} {vs:List Value} {F:X->Prop},Q8 ks J vs F->∃ j,F j/\∀ G,UK ks J G->G vs j
 | [],J,[],F,h=>⟨J,h,λ G a=>a⟩
 | k :: ks,J,vs,F,h=>by
  obtain⟨j,xs,r,rfl,h1,h2⟩:=Lv (show Q7 k J vs λ J r=>Q8 ks J r F from by cases vs<;>exact h);obtain⟨b,h3,h4⟩:=BQ h1;exact⟨b,h3,λ G a=>h4 (λ vs J=>G (xs++vs) J) (h2 _ a)⟩
 | [],_,_ :: _,_,h=>h.elim
def uR(l:Live)(t:Tm):List Value:=l.map λ s=>gt t s.1
theorem oI{X:Type}{t:Tm}:∀ {l:Live} {J:VJ l X} {F:X->Prop},E6 l J t F->∃ j,F j/\∀ G,Lr l J G->G (uR l t) j
 | [],J,F,h=>⟨J,h,λ G a=>a⟩
 | (s,.s k) :: l,J,F,h=>by
  obtain⟨j,h1,h2⟩:=Lw (show Bv k J (gt t s) λ J=>E6 l J t F from h);obtain⟨c,h3,h4⟩:=oI h1;exact⟨c,h3,λ G a=>h4 (λ vs J=>G (gt t s :: vs) J) (h2 _ a)⟩
 | (s,.agg ks) :: l,J,F,h=>by
  unfold E6 at h
  split at h
  ·rename_i cs b;obtain⟨j,h1,h2⟩:=BQ h;obtain⟨c,h3,h4⟩:=oI h1;refine⟨c,h3,λ G a=>?_⟩;have:=h4 (λ vs J=>G (.agg cs :: vs) J) (by simpa using h2 _ a);simpa[uR,b] using this
  ·exact h.elim
theorem Kl{t:Tm}{n:Nat}{v:Value}:∀ {l:Live},lk (Js l (uR l t)) n=some v->v=gt t n
 | [],h=>by cases h
 | (s,k) :: l,h=>by
  simp only[uR,jm,Js,lk] at h
  cases hb:Nat.beq s n with
  | true=>rw[hb] at h; cases h; rw[wJ hb]
  | false=>rw[hb] at h; exact Kl h
theorem Kb{mods:List Nat}{lv:List (Nat×Value)}{d:Nat->Value}:∀ (t:Tm) (i j:Nat),j<t.length ->
  gt (rA mods lv d i t) j=match lk lv (i+j) with|some v=>v|none=>cond (Is mods (i+j)) (d (i+j)) (gt t j)
 | [],_,j,h=>by simp at h
 | x :: t,i,0,_=>by simp[rA,gt]
 | x :: t,i,j+1,h=>by
  have:=Kb (mods:=mods) (lv:=lv) (d:=d) t (i+1) j (by simpa using h);rw[show i+1+j=i+(j+1) by omega] at this;exact this
theorem rH{mods:List Nat}{lv:List (Nat×Value)}{d:Nat->Value}:∀ (t:Tm) (i:Nat),(rA mods lv d i t).length=t.length
 | [],_=>rfl
 | x :: t,i=>by simp[rA,rH t (i+1)]
def fill_eq{mods:List Nat}{l:Live}{t a:Tm}(h:Dx mods t a):rA mods (Js l (uR l a)) (gt a) 0 t=a:=by
 refine Om _ _ ((rH t 0).trans h.1.symm) λ i hi=>?_;rw[rH] at hi;rw[Kb t 0 i hi,aL]
 cases hl:lk (Js l (uR l a)) i with
 | some v=>exact Kl hl
 | none =>
  cases hm:Is mods i with
  | true=>rfl
  | false =>
   have:i∉mods:=λ h=>by rw[Cp.2 h] at hm; cases hm
   exact(h.2 i this).symm
abbrev Df:=List Deferred
def Lb(F:Tm->Df->World->Prop)(Q:Exit->Tm->Df->World->Prop):Exit->Tm->Df->World->Prop
 | .normal,t,d,w=>F t d w
 | e,t,d,w=>Q e t d w
def Xr(id:Nat)(Q:Exit->Tm->Df->World->Prop):Exit->Tm->Df->World->Prop
 | .exit i,t,d,w=>cond (Nat.beq i id) (Q .normal t d w) (Q (.exit i) t d w)
 | e,t,d,w=>Q e t d w
def calm:Code->Bool
 | .seq a b=>calm a&&calm b
 | .cond _ a b=>calm a&&calm b
 | .block _ a=>calm a
 | .loop a=>calm a
 | .rangeFunc _ _ _ _=>false
 | .region _ ops _=>rN ops.toList
 | .scope _=>false
 | _=>true
def exs:Code->List Nat
 | .exit i=>[i]
 | .seq a b=>exs a++exs b
 | .cond _ a b=>exs a++exs b
 | .block id c=>(exs c).filter λ i=>!(Nat.beq i id)
 | .loop c=>exs c
 | .rangeFunc _ _ a b=>exs a++exs b
 | _=>[]
def Ez:Code->Bool
 | .ret=>true
 | .seq a b=>Ez a||Ez b
 | .cond _ a b=>Ez a||Ez b
 | .block _ c=>Ez c
 | .loop c=>Ez c
 | .rangeFunc _ _ a b=>Ez a||Ez b
 | _=>false
def YT:List (Nat×(World->Prop))->Nat->World->Prop
 | [],_,_=>False
 | x :: l,i,w=>cond (Nat.beq i x.1) (x.2 w) (YT l i w)
theorem FY{F:Nat->World->Prop}{i:Nat}{w:World}:∀ {l:List Nat},YT (l.map λ id=>(id,F id)) i w->F i w
 | [],h=>h.elim
 | j :: l,h=>by
  simp only[jm,YT] at h
  cases hb:Nat.beq i j with
  | true=>rw[hb] at h; rw[wJ hb]; exact h
  | false=>rw[hb] at h; exact FY h
def Ew(P:Program)(b:FuncId)(c:List Value)(rec:FuncId->Nat->Loop)(w:World)(N R:World->Prop)(X:List (Nat×(World->Prop))):Prop :=
 ∀ fn:FuncId,Calls P b (Value.func (.yield (w.heap.size+1)) #[] #[] :: c).toArray ((w.alloc (.deferred (some []))).alloc (.loop (rec fn w.heap.size))) λ e a=>(∃ v,e=.returned v) /\
  ∃ r,a.heap[w.heap.size+1]?=some (.loop r)/\r.state≠.busy/\match r.pending with
   | none=>N (a.putObj (w.heap.size+1) (.loop { r with state:=.exhausted }))
   | some .ret=>R (a.putObj (w.heap.size+1) (.loop { r with state:=.exhausted }))
   | some (.exit i)=>YT X i (a.putObj (w.heap.size+1) (.loop { r with state:=.exhausted }))
   | _=>False
def AM(P:Program)(v:Value)(F:FuncId->List Value->Prop):Prop:=match v with
 | .func (.func a) first b=>cond (first.isEmpty&&jG P a) (F a b.toList) False
 | _=>False
def YS(c:Code)(a:Code->Code->Nat->(Exit->Tm->Df->World->Prop)->Tm->Df->World->Prop)(p:Nat)(Q:Exit->Tm->Df->World->Prop):Exit->Tm->Df->World->Prop
 | .goto l,t,d,w=>match findLabel c l with
  | some rest=>a c rest p Q t d w
  | none=>False
 | e,t,d,w=>Q e t d w
def E1(P:Program)(ann:Nat->Option Live)(e:Code->Code->Nat->(Exit->Tm->Df->World->Prop)->Tm->Df->World->Prop):Code->Nat->(Exit->Tm->Df->World->Prop)->Tm->Df->World->Prop
 | .skip,_,Q,t,d,w=>Q .normal t d w
 | .label _,_,Q,t,d,w=>Q .normal t d w
 | .region _ ops draw,_,Q,t,d,w=>cond (rN ops.toList) (match draw with
  | false=>Lg P ops ops.toList t w (λ t w=>Q .normal t d w)
  | true=>cond (P.follows .mixedOrders&&Region.noSelect ops) (qe P ops ops.size (Array.replicate ops.size false) [] t w.drew (λ t w=>Q .normal t d w)) False)
  (cond draw False (A8 P ops ops.toList t d w λ t d w=>Q .normal t d w))
 | .seq a b,p,Q,t,d,w=>match ann p with
  | none=>E1 P ann e a (2*p) (Lb (E1 P ann e b (2*p+1) Q) Q) t d w
  | some lv=>cond (calm a) (∃ J:VJ lv (World->Prop),(∀ w',Lr lv J λ vs j=>j w'->∀ x:Nat->Value,E1 P ann e b (2*p+1) Q (rA (lE a) (Js lv vs) x 0 t) d w') /\
    E1 P ann e a (2*p) (Lb (λ f _ w'=>E6 lv J f λ j=>j w') Q) t d w) False
 | .cond c a b,p,Q,t,d,w=>match ev t c with
  | .bool x=>cond x (E1 P ann e a (2*p) Q t d w) (E1 P ann e b (2*p+1) Q t d w)
  | _=>False
 | .block id c,p,Q,t,d,w=>E1 P ann e c (2*p) (Xr id Q) t d w
 | .loop c,p,Q,t,d,w=>match ann p with
  | none=>E1 P ann e c (2*p) (Lb (λ _ _ _=>False) Q) t d w
  | some lv=>cond (calm c) (∃ I:VJ lv (World->Nat->Prop),(E6 lv I t λ i=>∃ m,i w m) /\
    ∀ w' m,Lr lv I λ vs i=>i w' m->∀ x:Nat->Value,E1 P ann e c (2*p) (Lb (λ f _ h=>E6 lv I f λ n=>∃ m',m'<m/\n h m') Q) (rA (lE c) (Js lv vs) x 0 t) d w') False
 | .exit id,_,Q,t,d,w=>Q (.exit id) t d w
 | .ret,_,Q,t,d,w=>Q .ret t d w
 | .rangeFunc g ps assign body,_,Q,t,d,w=>AM P (ev t g) λ k o =>
   Ew P k o (λ fn D=>{ state:=.ready,pending:=none,fn:=fn,tmps:=t.toArray,params:=ps,assign:=assign,body:=body,defers:=D }) w (λ w'=>Q .normal t ({ target:=.collected w.heap.size,args:=#[] } :: d) w') (λ w'=>cond (Ez body) (Q .ret t ({ target:=.collected w.heap.size,args:=#[] } :: d) w') False) ((exs body).map λ i=>(i,λ w'=>Q (.exit i) t ({ target:=.collected w.heap.size,args:=#[] } :: d) w'))
 | .scope c,p,Q,t,d,w=>E1 P ann e c (2*p) (YS c e p Q) t d w
 | .goto l,_,Q,t,d,w=>Q (.goto l) t d w
 | _,_,_,_,_,_=>False
def Y1(P:Program)(ann:Nat->Option Live):Nat->Code->Code->Nat->(Exit->Tm->Df->World->Prop)->Tm->Df->World->Prop
 | 0=>λ _ _ _ _ _ _ _=>False
 | n+1=>λ c rest p Q t d w=>E1 P ann (Y1 P ann n) rest (2*p+1) (YS c (Y1 P ann n) p Q) t d w
def vc(P:Program)(ann:Nat->Option Live):Code->Nat->(Exit->Tm->Df->World->Prop)->Tm->Df->World->Prop:=E1 P ann (Y1 P ann 2)
def lift(t0:Tm)(d0:Df)(c:Code)(Q:Exit->Tm->Df->World->Prop):Exit->Act->World->Prop:=λ e a w =>
 (∀ c,e≠.panic c)/\∃ d b,a=pq d b/\Dx (lE c) t0 d/\(calm c=true->b=d0)/\Q e d b w
def wpF{P:Program}{c:Code}{Q:Exit->Act->World->Prop}{a:Act}{w:World}:c.wpIn (FW none) 0 P Q a w<->c.wp P Q a w:=wpIn_wide
def EX{P:Program}{c:Code}{Q:Exit->Act->World->Prop}{a:Act}{w:World}(h:∀ (b:Frame) (k:List Item) (cs:List Frame),∃ e a' w',Q e a' w'/\Arrives P (lone (b.at a (.code c :: .inScope c :: k)) cs w) b k cs e a' w'):(Code.scope c).wp P Q a w:=λ b k cs=>by
 obtain⟨e,a',w',f,d⟩:=h b k cs;exact⟨e,a',w',f,.of_steps (.one step_scope) d⟩
def pJ(P:Program)(c cur:Code)(Q:Exit->Act->World->Prop)(a:Act)(w:World):Prop :=
 ∀ (b:Frame) (k:List Item) (cs:List Frame),∃ e a' w',Q e a' w'/\Arrives P (lone (b.at a (.code cur :: .inScope c :: k)) cs w) b k cs e a' w'
def pJ.mono{P:Program}{c cur:Code}{Q Q':Exit->Act->World->Prop}{a:Act}{w:World}(h:pJ P c cur Q a w)(k:∀ e a w,Q e a w->Q' e a w):pJ P c cur Q' a w:=λ b l cs =>
 let ⟨e,a',w',hq,harr⟩:=h b l cs
 ⟨e,a',w',k _ _ _ hq,harr⟩
def I5{P:Program}{c cur:Code}{Q:Exit->Act->World->Prop}{a:Act}{w:World}(h:cur.wp P (λ e a' w'=>(∀ l,e=.goto l->∃ rest,findLabel c l=some rest/\pJ P c rest Q a' w')/\((∀ l,e≠.goto l)->Q e a' w')) a w):pJ P c cur Q a w:=by
 intro b k cs;obtain⟨e,i,j,g,d⟩:=h b (.inScope c :: k) cs
 cases e with
 | normal=>exact⟨.normal,i,j,g.2 (by simp),Steps.trans d (.one step_inScope)⟩
 | exit id=>exact⟨.exit id,i,j,g.2 (by simp),λ t r=>d t (by simp[exitTo,r])⟩
 | goto l =>
  obtain⟨rest,p,s⟩:=g.1 l rfl;have q:gotoIn l (.inScope c :: k)=some (.code rest :: .inScope c :: k):=by simp[gotoIn,p]
  obtain⟨o,n,u,m,f⟩:=s b k cs;exact⟨o,n,u,m,.of_steps (d _ q) f⟩
 | ret=>exact⟨_,i,j,g.2 (by simp),d⟩
 | panic ch=>exact⟨_,i,j,g.2 (by simp),d⟩
 | outgrown=>exact⟨_,i,j,g.2 (by simp),d⟩
def Uk(t0:Tm)(c:Code)(Q:Exit->Tm->Df->World->Prop):Exit->Act->World->Prop:=λ e a w =>
 (∀ c,e≠.panic c)/\∃ b d,a=pq b d/\Dx (lE c) t0 b/\Q e b d w
def Y9(P:Program)(a:Code->Code->Nat->(Exit->Tm->Df->World->Prop)->Tm->Df->World->Prop):Prop :=
 ∀ (c rest:Code) (p:Nat) (Q:Exit->Tm->Df->World->Prop) (t:Tm) (d:Df) (w:World),(∀ x∈lE rest,x∈lE c)->a c rest p Q t d w->pJ P c rest (Uk t c Q) (pq t d) w
def AS{P:Program}{n:Code->Code->Nat->(Exit->Tm->Df->World->Prop)->Tm->Df->World->Prop}(i:Y9 P n){c cur:Code}{p:Nat}{Q:Exit->Tm->Df->World->Prop}{t:Tm}{d:Df}{w:World}(hd:∀ x∈lE cur,x∈lE c)(h:cur.wpIn (FW none) 0 P (lift t d cur (YS c n p Q)) (pq t d) w):pJ P c cur (Uk t c Q) (pq t d) w:=by
 refine I5 (wpF.1 (wpIn_mono h λ e a' w' b=>?_));obtain⟨hp,o,k,rfl,ha,_,b⟩:=b;have f:=mK hd ha;refine⟨λ l he=>?_,λ r=>?_⟩
 ·subst he;simp only[YS] at b
  split at b
  ·rename_i rest m;refine⟨rest,m,(i c rest p Q o k w' (mS m) b).mono λ e a w b=>?_⟩;obtain⟨hp,j,g,rfl,q,b⟩:=b;exact⟨hp,j,g,rfl,mK (λ x s=>(aV.1 s).elim id id) (sW f q),b⟩
  ·exact b.elim
 ·cases e with
  | goto l=>exact absurd rfl (r l)
  | panic c=>exact absurd rfl (hp c)
  | _=>exact⟨hp,o,k,rfl,f,b⟩
theorem lJ{P:Program}{ann:Nat->Option Live}{Y:Code->Code->Nat->(Exit->Tm->Df->World->Prop)->Tm->Df->World->Prop}(u:Y9 P Y){ro:Option Nat}:∀ (c:Code) (p:Nat) (Q:Exit->Tm->Df->World->Prop) (t:Tm) (d:Df) (w:World),(ro=none\/calm c=true) ->
  E1 P ann Y c p Q t d w->c.wpIn (FW ro) 0 P (lift t d c Q) (pq t d) w
 | .skip,_,Q,t,d,w,_,h=>wpIn_skip ⟨by simp,t,d,rfl,ij _ _,λ _=>rfl,h⟩
 | .label _,_,Q,t,d,w,_,h=>wpIn_label ⟨by simp,t,d,rfl,ij _ _,λ _=>rfl,h⟩
 | .exit id,_,Q,t,d,w,_,h=>wpIn_exit ⟨by simp,t,d,rfl,ij _ _,λ _=>rfl,h⟩
 | .ret,_,Q,t,d,w,_,h=>wpIn_ret ⟨by simp,t,d,rfl,ij _ _,λ _=>rfl,h⟩
 | .region id ops draw,_,Q,t,d,w,_,h=>by
  have U:∀ (i:Nat) (o:Oper),ops[i]?=some o->∀ d,o.dst=some d->d∈ops.toList.filterMap (·.dst):=λ i o M d hd =>
   Hy.2 ⟨o,by simpa using Hz M,hd⟩
  simp only[E1] at h
  cases hn:rN ops.toList with
  | false =>
   rw[hn] at h
   cases draw with
   | true=>exact h.elim
   | false =>
    obtain rfl:ro=none:=by
     rcases ‹ro=none\/_› with h|h
     ·exact h
     ·simp only[calm,hn] at h; cases h
    refine wpIn_region_list (tG (ds:=lE (.region id ops false)) (t0:=t) ops.toList t d w _ (λ q A w' ha s=>⟨by simp,q,A,rfl,ha,λ hc=>?_,s⟩) (λ o M d hd=>Hy.2 ⟨o,M,hd⟩) (ij _ _) h);simp only[calm,hn] at hc; cases hc
  | true =>
  rw[hn,cond_true] at h
  cases draw with
  | false =>
   refine wpIn_region_list (A9 (d:=d) (ds:=lE (.region id ops false)) (t0:=t) ops.toList t w _ hn (λ q w' ha s=>⟨by simp,q,d,rfl,ha,λ _=>rfl,s⟩) (λ o M d hd=>Hy.2 ⟨o,M,hd⟩) (ij _ _) h)
  | true =>
   obtain⟨h1,h2⟩:=nM h;simp only[aX] at h1;have V:∀ (j:Nat) (o:Oper),ops[j]?=some o->kV o.op=true:=λ j o M=>by
    have:=dS.1 hn o (by simpa using Hz M);exact this
   refine wpIn_region_any h1.1 (Bb _ _ [] _ _ ?_);refine sM (dd:=d) (ds:=lE (.region id ops true)) (t0:=t) (K:=λ t w=>Q .normal t d w) V h1.2 (λ c a w h=>h.1 c rfl) (λ q w' ha s=>⟨by simp,q,d,rfl,ha,λ _=>rfl,s⟩) U _ _ [] t _ (ij _ _) ?_ (λ p hp=>by cases hp) h2;intro j o _ hj;rcases bw j ops.size with h|h<;>simp[h] at hj
 | .seq a b,p,Q,t,d,w,hc,h=>by
  have R:ro=none\/calm a=true:=hc.imp id λ h=>by simp only[calm,aX] at h; exact h.1
  have S:ro=none\/calm b=true:=hc.imp id λ h=>by simp only[calm,aX] at h; exact h.2
  refine wpIn_seq ?_;simp only[E1] at h
  split at h
  ·refine wpIn_mono (lJ u a _ _ t d w R h) (λ e a' w' f=>?_);obtain⟨hp,q,A,rfl,ha,hd,f⟩:=f
   cases e with
   | normal =>
    refine wpIn_mono (lJ u b _ _ q A w' S f) (λ e H N k=>?_);obtain⟨y,z,B,rfl,C,D,k⟩:=k;refine⟨y,z,B,rfl,sW ha C,λ s=>?_,k⟩;simp only[calm,aX] at s;rw[D s.2,hd s.1]
   | panic c=>exact absurd rfl (hp c)
   | _=>exact⟨hp,q,A,rfl,mK (λ d hd=>iN _ hd) ha,λ s=>hd (by simp only[calm,aX] at s; exact s.1),f⟩
  ·obtain⟨L,J,E,h⟩:=nM h;refine wpIn_mono (lJ u a _ _ t d w R h) (λ e a' w' f=>?_);obtain⟨hp,q,A,rfl,ha,hd,f⟩:=f;obtain rfl:=hd L
   cases e with
   | normal =>
    obtain⟨j,h1,h2⟩:=oI f;have h3:=h2 _ (E w') h1 (gt q);rw[fill_eq ha] at h3;refine wpIn_mono (lJ u b _ _ q A w' S h3) (λ e H N k=>?_);obtain⟨y,z,B,rfl,C,D,k⟩:=k;refine⟨y,z,B,rfl,sW ha C,λ s=>?_,k⟩;simp only[calm,aX] at s;exact D s.2
   | panic c=>exact absurd rfl (hp c)
   | _=>exact⟨hp,q,A,rfl,mK (λ d hd=>iN _ hd) ha,λ _=>rfl,f⟩
 | .cond c a b,p,Q,t,d,w,hc,h=>by
  simp only[E1] at h
  split at h
  ·rename_i x hx;refine wpIn_cond (t:=x) (by rw[oV]; exact hx) ?_
   cases x with
   | true =>
    refine wpIn_mono (lJ u a _ _ t d w (hc.imp id λ h=>by simp only[calm,aX] at h; exact h.1) h) (λ e a' w' f=>?_);obtain⟨hp,q,A,rfl,ha,hd,f⟩:=f;exact⟨hp,q,A,rfl,mK (λ d hd=>iN _ hd) ha,λ s=>hd (by simp only[calm,aX] at s; exact s.1),f⟩
   | false =>
    refine wpIn_mono (lJ u b _ _ t d w (hc.imp id λ h=>by simp only[calm,aX] at h; exact h.2) h) (λ e a' w' f=>?_);obtain⟨hp,q,A,rfl,ha,hd,f⟩:=f;exact⟨hp,q,A,rfl,mK (λ d hd=>jl _ hd) ha,λ s=>hd (by simp only[calm,aX] at s; exact s.2),f⟩
  ·exact h.elim
 | .block id c,p,Q,t,d,w,hc,h=>by
  refine wpIn_block (wpIn_mono (lJ u c _ _ t d w hc h) (λ e a' w' f=>?_));obtain⟨hp,q,A,rfl,ha,hd,f⟩:=f
  cases e with
  | exit i =>
   simp only[Exit.inBlock];simp only[Xr] at f
   cases E:Nat.beq i id with
   | true=>rw[E] at f; rw[ak (wJ E)]; exact⟨by simp,q,A,rfl,ha,hd,f⟩
   | false =>
    rw[E] at f;rw[ah (λ e=>by rw[e,Nat.beq_refl] at E; cases E)];exact⟨by simp,q,A,rfl,ha,hd,f⟩
  | _=>exact⟨hp,q,A,rfl,ha,hd,f⟩
 | .loop c,p,Q,t,d,w,hc,h=>by
  simp only[E1] at h
  split at h
  ·refine wpIn_loop_once (wpIn_mono (lJ u c _ _ t d w hc h) (λ e H N k=>?_));obtain⟨y,z,B,rfl,C,D,k⟩:=k
   cases e with
   | normal=>exact k.elim
   | panic c=>exact absurd rfl (y c)
   | _=>exact⟨y,z,B,rfl,C,D,k⟩
  ·rename_i lv hlv;obtain⟨L,I,Z,W⟩:=nM h;obtain⟨i0,⟨m,h1⟩,h2⟩:=oI Z;refine wpIn_loop_ghost (λ n a w=>∃ q i,a=pq q d/\Dx (lE c) t q/\i w n/\∀ G,Lr lv I G->G (uR lv q) i) m ⟨t,i0,rfl,ij _ _,h1,h2⟩ ?_;rintro n a w' ⟨q,i1,rfl,ha,hI,hG⟩;have h3:=hG _ (W w' n) hI (gt q);rw[fill_eq ha] at h3;refine wpIn_mono (lJ u c _ _ q d w' hc h3) (λ e H N k=>?_);obtain⟨y,z,B,rfl,C,D,k⟩:=k;obtain rfl:=D L;have O:Dx (lE c) t z:=mK (λ d hd=>(aV.1 hd).elim id id) (sW ha C)
   cases e with
   | normal =>
    obtain⟨i2,⟨m',hm,h4⟩,h5⟩:=oI k;exact⟨m',hm,z,i2,rfl,O,h4,h5⟩
   | panic c=>exact absurd rfl (y c)
   | _=>exact⟨y,z,B,rfl,O,λ _=>rfl,k⟩
 | .rangeFunc g ps assign body,p,Q,t,d,w,hc,h=>by
  simp only[E1,AM] at h
  split at h
  ·rename_i X first T hg
   obtain⟨he,hh⟩:=nM h;clear h;simp only[aX,Nc] at he;obtain⟨rfl,he⟩:=he;obtain rfl:ro=none:=hc.resolve_right (by simp[calm]);refine wpIn_rangeFunc λ fn _=>?_;refine⟨w.heap.size+1,[{ target:=.collected w.heap.size,args:=#[] }],((w.alloc (.deferred (some []))).alloc (.loop { state:=.ready,pending:=none,fn:=fn,tmps:=t.toArray,params:=ps,assign:=assign,body:=body,defers:=w.heap.size })),{ target:=.fn (.func X) T,args:=#[.func (.yield (w.heap.size+1)) #[] #[]] },((w.alloc (.deferred (some []))).alloc (.loop { state:=.ready,pending:=none,fn:=fn,tmps:=t.toArray,params:=ps,assign:=assign,body:=body,defers:=w.heap.size })),X,#[.func (.yield (w.heap.size+1)) #[] #[]]++T,((w.alloc (.deferred (some []))).alloc (.loop { state:=.ready,pending:=none,fn:=fn,tmps:=t.toArray,params:=ps,assign:=assign,body:=body,defers:=w.heap.size })),run_enterLoop_outer _ _ _ _ _,?_,λ _ _=>trivial,?_,λ h=>(by cases h),?_⟩
   ·simp only[resolve,oV,hg];simp[go_sem,ev,Deferred.ofValue]
   ·simp[invoke,go_sem,ux he]
   ·have h1:=hh fn;have h2:(Value.func (.yield (w.heap.size+1)) #[] #[] :: T.toList).toArray = #[.func (.yield (w.heap.size+1)) #[] #[]]++T:=by simp
    rw[h2] at h1;refine CallsIn.mono (callsIn_wide.2 h1) λ e w2 f=>?_;obtain⟨⟨v,rfl⟩,r,W,E,f⟩:=f;refine⟨r.pending,_,run_endLoop W E,?_⟩
    split at f
    ·rename_i hp;rw[hp] at f ⊢;exact⟨by simp,t,_,rfl,ij _ _,λ h=>(by cases h),f⟩
    ·rename_i hp;rw[hp] at f ⊢;exact wpIn_ret ⟨by simp,t,_,rfl,ij _ _,λ h=>(by cases h),(nM f).2⟩
    ·rename_i i hp;rw[hp] at f ⊢;exact wpIn_exit ⟨by simp,t,_,rfl,ij _ _,λ h=>(by cases h),FY (F:=λ i w'=>Q (.exit i) t ({ target:=.collected w.heap.size,args:=#[] } :: d) w') f⟩
    ·exact f.elim
  ·exact h.elim
 | .scope c,p,Q,t,d,w,hc,h=>by
  obtain rfl:ro=none:=hc.resolve_right (by simp[calm]);refine wpF.2 (EX ?_);have h1:=AS (cur:=c) u (λ _ h=>h) (lJ u c (2*p) _ t d w (.inl rfl) h);exact h1.mono λ e a w ⟨hp,q,A,h2,h3,h4⟩=>⟨hp,q,A,h2,h3,λ s=>(by simp[calm] at s),h4⟩
 | .goto l,_,Q,t,d,w,_,h=>wpIn_goto ⟨by simp,t,d,rfl,ij _ _,λ _=>rfl,h⟩
 | .refuse _,_,_,_,_,_,_,h=>h.elim
theorem Je{P:Program}{ann:Nat->Option Live}:∀ n,Y9 P (Y1 P ann n)
 | 0=>λ _ _ _ _ _ _ _ _ h=>h.elim
 | n+1=>λ _ rest _ _ t d w hd h=>AS (Je n) hd (lJ (Je n) rest _ _ t d w (.inl rfl) h)
def Lh{P:Program}{ann:Nat->Option Live}{ro:Option Nat}(c:Code)(p:Nat)(Q:Exit->Tm->Df->World->Prop)(t:Tm)(d:Df)(w:World)(hc:ro=none\/calm c=true)(h:vc P ann c p Q t d w):c.wpIn (FW ro) 0 P (lift t d c Q) (pq t d) w:=lJ (Je 2) c p Q t d w hc h
def Ex(P:Program):List ResultVar->Tm->World->(List Value->Prop)->Prop
 | [],_,_,F=>F []
 | .tmp s :: b,t,w,F=>Ex P b t w λ vs=>F (gt t s :: vs)
 | .cell a ty :: b,t,w,F=>XS P ty (gt t a) w λ v _=>Ex P b t w λ vs=>F (v :: vs)
def Qw:List Value->Value
 | [v]=>v
 | vs=>.tuple vs.toArray
def Hx(P:Program)(g:FuncId)(args:Array Value)(w:World)(R:World->Prop):Prop :=
 jG P g=true/\CallsDIn (FW none) 0 P g args .returning w λ e u w'=>∃ v,e=.returned v/\u=.returning/\R w'
def W8(P:Program)(fn:Func)(t:Tm)(K:KP):Df->World->Prop
 | [],w=>Ex P fn.results.toList t w λ vs=>K (Qw vs) w
 | d :: ds,w=>match d.target with
  | .collected r=>w.heap[r]?=some (.deferred (some []))/\W8 P fn t K ds (w.putObj r (.deferred none))
  | .fn (.func g) y=>Hx P g (d.args++y) w λ w'=>W8 P fn t K ds w'
  | _=>False
def NG(P:Program)(fn:Func)(K:KP):Exit->Tm->Df->World->Prop
 | .normal,t,d,w=>W8 P fn t K d w
 | .ret,t,d,w=>W8 P fn t K d w
 | _,_,_,_=>False
def PM(t:Tm):ResultVar->Sem Value
 | .tmp s=>pure (t.toArray.getD s undef)
 | .cell a ty=>do loadVar ty (<- asAddr (t.toArray.getD a undef))
theorem AO{P:Program}{w:World}{t:Tm}:∀ (b:List ResultVar) (F:List Value->Prop),Ex P b t w F ->
  ∃ vs,(b.mapM (PM t)).run P w=.ok vs w/\F vs
 | [],F,h=>⟨[],by simp,h⟩
 | .tmp s :: b,F,h=>by
  obtain⟨vs,d,c⟩:=AO b _ h;exact⟨_,by simp only[List.mapM_cons,PM,Sem.run_bind,Sem.run_pure,Result.andThen_ok,d,Ka],c⟩
 | .cell a ty :: b,F,h=>by
  obtain⟨v,T,h1,h2,h3⟩:=D4 h;obtain⟨vs,d,c⟩:=AO b _ h3;refine⟨v :: vs,?_,c⟩;have h4:=h2 w h1;rw[Ka] at h4;have e:(PM t (.cell a ty)).run P w=.ok v w:=by
   show(Sem.bind (asAddr (t.toArray.getD a undef)) λ p=>loadVar ty p).run P w=.ok v w;rw[Sem.run_bind'];generalize t.toArray.getD a undef=x at h4 ⊢
   cases x with
   | pointer p=>cases p with
    | none=>simp[Instr.loadAt,Instr.sureAddr] at h4
    | some p=>simpa[Instr.loadAt,Instr.sureAddr,asAddr] using h4
   | _=>simp[Instr.loadAt,Instr.sureAddr] at h4
  rw[List.mapM_cons,Sem.run_bind,e];simp only[Result.andThen_ok,Sem.run_bind,d,Sem.run_pure]
def gq(fn:Func):Code:=fn.body.getD .skip
def Ey{P:Program}{fn:Func}{t:Tm}{w:World}{K:KP}(d:Ex P fn.results.toList t w λ vs=>K (Qw vs) w) :
  ∃ v,(results fn t.toArray).run P w=.ok v w/\K v w:=by
 obtain⟨vs,b,c⟩:=AO _ _ d;refine⟨Qw vs,?_,c⟩;have h3:results fn t.toArray=(do
   let vs <- fn.results.mapM (PM t)
   pure (if h:vs.size=1 then vs[0] else .tuple vs)):=by
  unfold results;have:(λ r=>match r with
    | .tmp i=>(pure (t.toArray.getD i undef):Sem Value)
    | .cell a i=>do loadVar i (<- asAddr (t.toArray.getD a undef)))=PM t:=by
   funext x; cases x<;>rfl
  rw[<- this];rfl
 rw[h3,Array.mapM_eq_mapM_toList];simp only[Sem.run_map,bind_pure_comp,b,Result.andThen_ok]
 cases vs with
 | nil=>rfl
 | cons v vs=>cases vs<;>rfl
theorem mC{P:Program}{fn:Func}{t:Tm}{K:KP}:∀ (d:Df) (w:World),W8 P fn t K d w ->
  LeavesInM (FW none) 0 P fn t.toArray (λ e w'=>∃ v,e=.returned v/\K v w') d .returning w
 | [],w,h=>by
  obtain⟨v,a,b⟩:=Ey h;exact⟨v,a,v,rfl,b⟩
 | d :: ds,w,h=>by
  refine⟨by simp,?_⟩;simp only[W8] at h
  split at h
  ·rename_i r a;exact .inl ⟨r,_,a,run_takeDeferred h.1,mC ds _ h.2⟩
  ·rename_i g y a;obtain⟨he,h⟩:=h;refine .inr ⟨λ h=>(by cases h),Fn.func g,y,g,d.args++y,a,?_,λ _ _=>trivial,CallsDIn.mono h ?_⟩
   ·rw[a]; exact ux he _ w
   ·rintro e u w' ⟨v,rfl,rfl,b⟩;exact mC ds w' b
  ·exact h.elim
def Fk{P:Program}{ann:Nat->Option Live}{f:FuncId}{fn:Func}{c:Code}{args:List Value}{w:World}{K:KP}(g:P.funcs[f]?=some fn)(d:fn.body=some c)(h:vc P ann c 1 (NG P fn K) (args++List.replicate (fn.ntmps-args.length) undef) [] w) :
  Calls P f args.toArray w λ e w'=>∃ v,e=.returned v/\K v w':=by
 refine(callsIn_wide (n:=0)).1 (callsIn_of_wp_marks g d trivial ?_ rfl);have h1:({ tmps:=args.toArray++Array.replicate (fn.ntmps-args.toArray.size) undef,defers:=[] }:Act)=pq (args++List.replicate (fn.ntmps-args.length) undef) []:=by
  simp[pq]
 rw[h1];refine wpIn_mono (Lh (ro:=none) c 1 _ _ _ w (.inl rfl) h) (λ e a' w' a=>?_);obtain⟨hp,i,b,rfl,_,_,a⟩:=a
 cases e with
 | normal=>exact mC b w' a
 | ret=>exact mC b w' a
 | panic c=>exact absurd rfl (hp c)
 | _=>exact a.elim
def HV{P:Program}{ann:Nat->Option Live}{f:FuncId}{fn:Func}{c:Code}{args:List Value}{w:World}{R:World->Prop}(j:P.funcs[f]?=some fn)(i:fn.body=some c)(he:jG P f=true) (h:vc P ann c 1 (λ e t d w=>match e with
   | .normal=>d=[]/\Ex P fn.results.toList t w λ _=>R w
   | .ret=>d=[]/\Ex P fn.results.toList t w λ _=>R w
   | _=>False) (args++List.replicate (fn.ntmps-args.length) undef) [] w):Hx P f args.toArray w R:=by
 refine⟨he,CallsDIn.mono (callsDIn_of_wp (R:=λ e w'=>∃ v,e=.returned v/\R w') j i trivial ?_) ?_⟩
 ·have h1:({ tmps:=args.toArray++Array.replicate (fn.ntmps-args.toArray.size) undef,defers:=[] }:Act)=pq (args++List.replicate (fn.ntmps-args.length) undef) []:=by
   simp[pq]
  rw[h1];refine wpIn_mono (Lh (ro:=none) c 1 _ _ _ w (.inl rfl) h) (λ e a' w' a=>?_);obtain⟨hp,l,k,rfl,_,_,a⟩:=a
  cases e with
  | normal =>
   obtain⟨rfl,a⟩:=a;obtain⟨v,g,b⟩:=Ey (K:=λ _ w=>R w) a;exact⟨rfl,v,g,v,rfl,b⟩
  | ret =>
   obtain⟨rfl,a⟩:=a;obtain⟨v,g,b⟩:=Ey (K:=λ _ w=>R w) a;exact⟨rfl,v,g,v,rfl,b⟩
  | panic c=>exact absurd rfl (hp c)
  | _=>exact a.elim
 ·rintro e u w' ⟨rfl,v,rfl,b⟩;exact⟨v,rfl,rfl,b⟩
def RB{P:Program}(ann:Nat->Option Live){f:FuncId}{fn:Func}{args:List Value}{w:World}{R:World->Prop}{S:Prop}(g:P.funcs[f]?=some fn)(b:fn.body.isSome=true)(he:jG P f=true) (h:S=vc P ann (gq fn) 1 (λ e t d w=>match e with
   | .normal=>d=[]/\Ex P fn.results.toList t w λ _=>R w
   | .ret=>d=[]/\Ex P fn.results.toList t w λ _=>R w
   | _=>False) (args++List.replicate (fn.ntmps-args.length) undef) [] w) (a:S):Hx P f args.toArray w R:=by
 obtain⟨c,hc⟩:=Option.isSome_iff_exists.1 b;refine HV (ann:=ann) g hc he ?_;have:gq fn=c:=by simp[gq,hc]
 rw[<- this];exact h▸a
def ZM(l:Nat)(K:Bool->World->Prop):Exit->Tm->Df->World->Prop
 | .normal,_,_,w=>∃ r,w.heap[l]?=some (.loop r)/\K true (w.putObj l (.loop { r with state:=.ready,pending:=none }))
 | .ret,_,_,w=>∃ r,w.heap[l]?=some (.loop r)/\K false (w.putObj l (.loop { r with state:=.done,pending:=some .ret }))
 | .exit i,_,_,w=>∃ r,w.heap[l]?=some (.loop r)/\K false (w.putObj l (.loop { r with state:=.done,pending:=some (.exit i) }))
 | _,_,_,_=>False
def Zf(l:Nat)(F:Tm->World->Prop):Exit->Tm->Df->World->Prop
 | .normal,t,_,w=>∃ r,w.heap[l]?=some (.loop r)/\r.state=.ready/\F t (w.putObj l (.loop { r with state:=.busy }))
 | _,_,_,_=>False
def Eh:List Tmp->List Value->Tm->Tm
 | p :: ps,v :: vs,t=>Eh ps vs (st t p v)
 | _,_,t=>t
def Yc(P:Program)(ann:Nat->Option Live)(l:Nat)(assign body:Code)(K:Bool->World->Prop)(t:Tm)(w:World):Prop :=
 vc P ann assign 2 (Zf l λ t w=>vc P ann body 3 (ZM l K) t [] w) t [] w
theorem KG:∀ (ps:List Tmp) (vs:List Value) (t:Tm),((ps.zip vs).foldl (λ (a:Array Value) (x:Tmp×Value)=>a.setIfInBounds x.1 x.2) t.toArray)=(Eh ps vs t).toArray
 | [],vs,t=>by simp[Eh]
 | p :: ps,[],t=>by simp[Eh]
 | p :: ps,v :: vs,t=>by
  have:=KG ps vs (st t p v);simp only[List.zip_cons_cons,fM,Eh];rw[<- this,Qg]
  simp
def M5{P:Program}{ann:Nat->Option Live}{l:Nat}{args:List Value}{w:World}{K:Bool->World->Prop}{r:Loop}{t:Tm}(m:w.heap[l]?=some (.loop r))(o:r.tmps=t.toArray)(n:args.length=r.params.size)(hc:(calm r.assign&&calm r.body)=true)(h:Yc P ann l r.assign r.body K (Eh r.params.toList args t) w):pK P l args.toArray w K:=by
 simp only[aX] at hc;have p:=run_yield (P:=P) (args:=args.toArray) m (by simpa using n);refine⟨_,_,_,_,p,roundIn_of_wpIn (F:=Fence.wide) trivial ?_⟩;have h1:(r.params.zip args.toArray).foldl (λ tmps (x:Tmp×Value)=>tmps.setIfInBounds x.1 x.2) r.tmps=(Eh r.params.toList args t).toArray:=by
  rw[<- KG,o,<- Array.foldl_toList]
  congr 1
  simp
 have h2:({ tmps:=(r.params.zip args.toArray).foldl (λ tmps (x:Tmp×Value)=>tmps.setIfInBounds x.1 x.2) r.tmps,defers:=[] }:Act)=pq (Eh r.params.toList args t) []:=by
  rw[h1]; rfl
 refine wpIn_mono (show Code.wpIn (FW (some l)) 0 P r.assign _ _ w from h2▸Lh (ro:=some l) _ _ _ _ _ _ (.inr hc.1) h) λ e a' w' a=>?_;obtain⟨hp,v,u,rfl,_,hd,a⟩:=a;obtain rfl:=hd hc.1
 cases e with
 | normal =>
  obtain⟨r1,f,g,a⟩:=a;refine⟨_,run_beginRound f g,?_⟩;refine wpIn_mono (show Code.wpIn (FW (some l)) 0 P r.body _ _ _ from Lh (ro:=some l) _ _ _ _ _ _ (.inr hc.2) a) λ e j s a=>?_;obtain⟨hp,q,k,rfl,_,_,a⟩:=a
  cases e with
  | normal=>obtain⟨r2,b,d⟩:=a; exact⟨_,_,run_endRound none b,_,rfl,d⟩
  | ret=>obtain⟨r2,b,d⟩:=a; exact⟨_,_,run_endRound (some .ret) b,_,rfl,d⟩
  | exit i=>obtain⟨r2,b,d⟩:=a; exact⟨_,_,run_endRound (some (.exit i)) b,_,rfl,d⟩
  | panic c=>exact absurd rfl (hp c)
  | _=>exact a.elim
 | panic c=>exact absurd rfl (hp c)
 | _=>exact a.elim
def yd(K:KP):Ending->World->Prop:=λ e w'=>∃ v,e=.returned v/\K v w'
def qZ{P:Program}(ann:Nat->Option Live){f:FuncId}{fn:Func}{args:List Value}{w:World}{K:KP}{S:Prop}(c:P.funcs[f]?=some fn)(b:fn.body=some (gq fn))(h:S=vc P ann (gq fn) 1 (NG P fn K) (args++List.replicate (fn.ntmps-args.length) undef) [] w)(a:S) :
  Calls P f args.toArray w (yd K):=Fk c b (h▸a)
def Bq(l:List (Nat×Live))(p:Nat):Option Live :=
 match l with
 | []=>none
 | (q,lv) :: l=>cond (Nat.beq q p) (some lv) (Bq l p)
def EA:Code->Nat->Nat->Option (Array Tmp×Code×Code)
 | .seq a b,p,q=>(EA a (2*p) q).or (EA b (2*p+1) q)
 | .cond _ a b,p,q=>(EA a (2*p) q).or (EA b (2*p+1) q)
 | .block _ a,p,q=>EA a (2*p) q
 | .loop a,p,q=>EA a (2*p) q
 | .rangeFunc _ ps a b,p,q=>cond (Nat.beq p q) (some (ps,a,b)) none
 | _,_,_=>none
def Td(c:Code)(q:Nat):Array Tmp:=((EA c 1 q).getD (#[],.skip,.skip)).1
def Tb(c:Code)(q:Nat):Code:=((EA c 1 q).getD (#[],.skip,.skip)).2.1
def Tc(c:Code)(q:Nat):Code:=((EA c 1 q).getD (#[],.skip,.skip)).2.2
def Hp{P:Program}(ann:Nat->Option Live){l:Nat}{args:List Value}{w:World}{K:Bool->World->Prop}{r:Loop}{t:Tm}{ps:Array Tmp}{a b:Code}{S:Prop}(e:w.heap[l]?=some (.loop r))(g:r.tmps=t.toArray)(hp:r.params=ps)(ha:r.assign=a)(d:r.body=b)(f:args.length=ps.size)(hc:(calm a&&calm b)=true)(h:S=Yc P ann l a b K (Eh ps.toList args t) w)(c:S):pK P l args.toArray w K:=by
 subst hp ha d;exact M5 e g f hc (h▸c)
abbrev iv (n:Int):Value:=.int .i64 n
def I6.on(u:I6)(l:List Value):List Value:=iv u.a :: iv u.b :: iv u.c :: iv u.d :: iv u.e :: iv u.f :: l
def z6:I6:=⟨0,0,0,0,0,0⟩
def I6.beq(u v:I6):Bool:=(u.a==v.a)&&((u.b==v.b)&&((u.c==v.c)&&((u.d==v.d)&&((u.e==v.e)&&((u.f==v.f)&&true)))))
def fL(w:World)(a:Addr)(v:Value)(R:World->Prop):Prop :=
 v.oneCell'=true/\(∃ x,w.cell? a=some x)/\w.frozen? a=false/\R (w.setCell a v)
def uP(a:Addr):Nat->List Value->World->(World->Prop)->Prop
 | _,[],w,R=>R w
 | i,v :: vs,w,R=>fL w (a.add i) v λ w'=>uP a (i+1) vs w' R
def cR(w:World)(o:Obj)(R:Nat->World->Prop):Prop:=R w.heap.size (w.alloc o)
def Lu(k:IntKind)(x y:Int):Int:=k.wrap ((BitVec.ofInt k.bits x &&& BitVec.ofInt k.bits y).toNat:Int)
def ZG(k:IntKind)(x y:Int):Int:=k.wrap ((BitVec.ofInt k.bits x ||| BitVec.ofInt k.bits y).toNat:Int)
def WY(k:IntKind)(x y:Int):Int:=k.wrap ((BitVec.ofInt k.bits x ^^^ BitVec.ofInt k.bits y).toNat:Int)
def Q5(k:IntKind)(x y:Int):Int:=k.wrap ((BitVec.ofInt k.bits x &&& ~~~BitVec.ofInt k.bits y).toNat:Int)
def bs(l:List UInt8):ByteArray:=⟨l.toArray⟩
end Go.Vc
namespace Go.Proofs.YtjcfdidmajodiaaGreatDoor
open Go Go.Vc
abbrev CC:=Calls Tryz.prog
abbrev CP (f:FuncId) (a:Array Value) (w:World) (K:KP):Prop:=Calls Tryz.prog f a w (yd K)
end Go.Proofs.YtjcfdidmajodiaaGreatDoor
namespace Go.Vc
def cT{b:Bool}{A B:Prop}(h:b=true)(k:A):cond b A B:=by rw[h]; exact k
def cF{b:Bool}{A B:Prop}(h:b=false)(k:B):cond b A B:=by rw[h]; exact k
def aP{p:Prop}[Decidable p]{A B:Prop}(h:p)(k:A):cond (decide p) A B:=cT (zC h) k
def aU{p:Prop}[Decidable p]{A B:Prop}(h : ¬p)(k:B):cond (decide p) A B:=cF (zD h) k
def R8(o:Option Obj)(i:Nat):Option Value :=
 match o with
 | some (.cells c _ _)=>c[i]?
 | _=>none
def R9(o:Option Obj)(i:Nat):Bool :=
 match o with
 | some (.cells _ _ (lo,hi))=>lo<=i&&i<hi
 | _=>false
def Ws(i:Nat)(v:Value)(o:Option Obj):Option Obj :=
 match o with
 | some (.cells c e f)=>some (.cells (c.setIfInBounds i v) e f)
 | o=>o
def mN(w:World)(b i:Nat):w.cell? ⟨b,i,none⟩=R8 w.heap[b]? i:=by
 simp only[World.cell?,R8]
 cases w.heap[b]? with
 | none=>rfl
 | some o=>cases o<;>simp
def Ig(w:World)(b i:Nat):w.frozen? ⟨b,i,none⟩=R9 w.heap[b]? i:=by
 simp only[World.frozen?,R9]
 cases w.heap[b]? with
 | none=>rfl
 | some o=>cases o<;>rfl
def heap_set(w:World)(b i k:Nat)(v:Value):(w.setCell ⟨b,i,none⟩ v).heap[k]?=if b=k then Ws i v w.heap[k]? else w.heap[k]?:=by
 simp only[World.setCell,Nd]
 by_cases h:b=k
 ·simp only[h,pG,Ws]
  cases w.heap[k]? with
  | none=>rfl
  | some o=>cases o<;>simp
 ·simp[h]
def iw(w:World)(o:Obj)(k:Nat):(w.alloc o).heap[k]?=if k=w.heap.size then some o else w.heap[k]?:=by
 simp only[World.alloc,Array.getElem?_push]
def kM(c:Array Value)(e:TypeId)(f:Nat×Nat)(i:Nat):R8 (some (.cells c e f)) i=c[i]?:=rfl
def Ii(c:Array Value)(e:TypeId)(i:Nat):R9 (some (.cells c e (0,0))) i=false:=by simp[R9]
def I8(c:Array Value)(e:TypeId)(f:Nat×Nat)(i:Nat)(v:Value):Ws i v (some (.cells c e f))=some (.cells (c.setIfInBounds i v) e f):=rfl
structure Env (w w':World):Prop where
 os:w'.os=w.os
 tape:w'.tape=w.tape
 out:w'.output=w.output
def Env.refl(w:World):Env w w:=⟨rfl,rfl,rfl⟩
def Env.trans{w a b:World}(h:Env w a)(k:Env a b):Env w b:=⟨k.os.trans h.os,k.tape.trans h.tape,k.out.trans h.out⟩
structure aC (w w':World) (F:List Nat):Prop where
 size:w.heap.size<=w'.heap.size
 same:∀ i,i<w.heap.size->i∉F->w'.heap[i]?=w.heap[i]?
 env:Env w w'
def aC.refl(w:World)(F:List Nat):aC w w F:=⟨aO _,λ _ _ _=>rfl,Env.refl _⟩
def aC.drew(w:World)(F:List Nat):aC w w.drew F:=⟨aO _,λ _ _ _=>rfl,⟨rfl,rfl,rfl⟩⟩
def aC.trans{w c d:World}{F G:List Nat}(h:aC w c F)(a:aC c d G)(e:∀ i∈G,i∈F\/w.heap.size<=i):aC w d F :=
 ⟨cC h.size a.size,λ i hi b=>(a.same i (zE hi h.size) λ f=>(e i f).elim b (by omega)).trans (h.same i hi b),h.env.trans a.env⟩
def aC.set(w:World)(b i:Nat)(v:Value){F:List Nat}(h:b∈F):aC w (w.setCell ⟨b,i,none⟩ v) F :=
 ⟨by simp,λ k _ a=>by rw[heap_set,ah (λ e:b=k=>a (e▸h))],⟨rfl,rfl,rfl⟩⟩
def aC.new(w:World)(o:Obj)(F:List Nat):aC w (w.alloc o) F :=
 ⟨by simp,λ k a _=>by rw[iw,ah (by omega)],⟨rfl,rfl,rfl⟩⟩
def aC.grown{w w':World}{r:Option Nat}(h:w.grownBy w' r):aC w w' r.toList :=
 ⟨h.size,λ i hi a=>h.block i hi (λ e=>a (by rw[<- e]; simp)),⟨h.os,h.tape,h.output⟩⟩
def iR{w:World}{b:Nat}{o:Obj}(h:w.heap[b]?=some o):b<w.heap.size:=(Array.getElem?_eq_some_iff.1 h).1
def aC.keep{w w':World}{F:List Nat}(h:aC w w' F){b:Nat}{o:Obj}(a:w.heap[b]?=some o)(c:b∉F):w'.heap[b]?=some o :=
 (h.same b (iR a) c).trans a
def Jc{w:World}{b i:Nat}{v:Value}{R:World->Prop}{cs:Array Value}{T:TypeId}(h:w.heap[b]?=some (.cells cs T (0,0)))(hi:i<cs.size)(a:v.oneCell'=true)(k:R (w.setCell ⟨b,i,none⟩ v)):fL w ⟨b,i,none⟩ v R :=
 ⟨a,⟨cs[i],by rw[mN,h,kM]; simp[hi]⟩,by rw[Ig,h,Ii],k⟩
def bg{w:World}{o:Obj}{R:Nat->World->Prop}(h:R w.heap.size (w.alloc o)):cR w o R:=h
def om(g j:Nat):(⟨g,0,none⟩:Addr).add j=⟨g,j,none⟩:=by unfold Addr.add; split<;>simp_all
theorem EL{b o:Nat}{T:TypeId}{R:World->Prop}:∀ (vs:List Value) (i:Nat) (w:World) (c:Array Value),w.heap[b]?=some (.cells c T (0,0))->o+i+vs.length<=c.size->(∀ v∈vs,v.oneCell'=true) ->
  (∀ w',w'.heap[b]?=some (.cells (c.toList.take (o+i)++vs++c.toList.drop (o+i+vs.length)).toArray T (0,0))->aC w w' [b]->w'.heap.size=w.heap.size->R w')->uP ⟨b,o,none⟩ i vs w R
 | [],i,w,c,h,_,_,k=>k w (by simpa using h) (aC.refl _ _) rfl
 | v :: vs,i,w,c,h,f,h1,k=>by
  have ha:(⟨b,o,none⟩:Addr).add i=⟨b,o+i,none⟩:=by unfold Addr.add; split<;>simp_all
  show fL w _ v _;rw[ha];simp only[gm] at f;refine Jc h (by omega) (h1 v (lA ..)) ?_;refine EL vs (i+1) _ (c.setIfInBounds (o+i) v) (by rw[heap_set,ak rfl,h]; rfl) (by simp; omega) (λ u hu=>h1 u (jH _ hu)) ?_;intro w' d hc g;refine k w' ?_ ((aC.set w b (o+i) v (by simp)).trans hc (λ j e=>.inl e)) (by rw[g]; simp);rw[d]
  congr 3
  have a:o+i<c.toList.length:=by simp; omega
  simp only[Array.toList_setIfInBounds,gm];rw[show o+(i+1)=o+i+1 by omega,zF (by simpa using a),List.take_set_of_le (aO _)];simp only[List.getElem_set_self,mJ,List.cons_append,lC]
  congr 3
  rw[List.drop_set_of_lt (by omega)]
  congr 1
  omega
def kC(b:UInt8):Value:=.int .u8 (b.toNat:Int)
def Ed{w:World}{base:Nat}{e:TypeId}{size:Nat}{v:Value}{n:Nat}{xs:List Value}{w':World}(h:w.ownsRow base e size v n xs)(d:∀ k,v.ownBlock=some k->w'.heap[k]?=w.heap[k]?):w'.ownsRow base e size v n xs:=by
 refine⟨h.1,?_⟩;rcases h.2 with c|⟨g,cap,cur,rfl,b,a,rest⟩
 ·exact .inl c
 ·exact .inr ⟨g,cap,cur,rfl,b,(d g rfl).trans a,rest⟩
def xR{w:World}{base:Nat}{e:TypeId}{size:Nat}{v:Value}{n:Nat}{xs:List Value}{w':World}{F:List Nat}(h:w.ownsRow base e size v n xs)(hc:aC w w' F)(b:∀ k,v.ownBlock=some k->k∉F):w'.ownsRow base e size v n xs :=
 Ed h λ k a=>hc.same k (h.lt k a).2 (b k a)
end Go.Vc
namespace Go.Vc
structure j7 (P:Program) (t e:TypeId) (z:Value) (sz by_:Nat):Prop where
 u:P.underlying t=some (.slice e)
 i:∃ i,P.info? e=some i/\i.zero=some z/\i.size=sz/\i.bytes=by_
 zc:z.cells.size=sz
 pos:0<sz
def j7.mk'{P:Program}{t e:TypeId}{z:Value}{sz by_:Nat}(hu:P.underlying t=some (.slice e))(hi:(P.info? e).map (λ i=>(i.zero,i.size,i.bytes))=some (some z,sz,by_))(a:z.cells.size=sz)(hp:0<sz):j7 P t e z sz by_:=by
 refine⟨hu,?_,a,hp⟩
 cases h:P.info? e with
 | none=>simp[h] at hi
 | some i=>simp[h] at hi; exact⟨i,rfl,hi.1,hi.2.1,hi.2.2⟩
def Nxt(w:World)(v v':Value):Prop:=∀ j,v'.ownBlock=some j->v.ownBlock=some j\/w.heap.size<=j
def Ny{P:Program}{w:World}{t ty e:TypeId}{z:Value}{sz by_:Nat}(h:j7 P t e z sz by_){v:Value}{n:Nat}{xs:List Value}(own:w.ownsRow 0 e sz v n xs){a:Addr}{m c:Nat}{news:List Value}(r:news.length=m*sz)(b:∀ j u,news[j]?=some u->w.cell? (a.add j)=some u)(h1:∀ u∈news,u.oneCell'=true)(A:(n+m)*by_<=140737488355328)(hm:n+m<=9223372036854775807){K:KP}(k:∀ v' w',w'.ownsRow 0 e sz v' (n+m) (xs++news)->aC w w' v.ownBlock.toList->Nxt w v v'->K v' w') :
  gi P (Builtin.append_ #[t,t] ty #[v,.slice (some a) m c]) w K:=by
 obtain⟨i,hi,F,o,l⟩:=h.i;have s:n+m<=maxLen:=by unfold maxLen; omega
 obtain⟨v',w',y,J,H,_⟩:=run_append_own (P:=P) w 0 t ty e i z sz by_ h.u hi F o l h.zc h.pos v n xs own a m c news r b h1 s A (jJ _);refine⟨v',w',y,k v' w' J (aC.grown H) ?_⟩;rcases own.2 with⟨rfl,rfl⟩|⟨g,cap,cur,rfl,_,C,I,G,B,E⟩
 ·have x:w.ownsRow w.heap.size e sz (.slice none 0 0) 0 xs:=⟨own.1,.inl ⟨rfl,rfl⟩⟩;obtain⟨v2,L,d,D,_⟩:=run_append_own (P:=P) w w.heap.size t ty e i z sz by_ h.u hi F o l h.zc h.pos _ 0 xs x a m c news r b h1 s A (aO _);rw[y] at d
  cases d
  exact λ j q=>.inr (D.lt j q).1
 ·by_cases f:n+m<=cap
  ·have p:n*i.size+news.length<=cur.size:=by rw[r,B,o,<- gT]; exact zG _ f
   have d:=run_append_room (P:=P) w t ty e i h.u hi g n cap cur C a m c news (by rw[o]; exact r) b h1 f p;rw[y] at d
   cases d
   exact λ j q=>.inl q
  ·have holds:∀ j u,xs[j]?=some u->w.cell? ((⟨g,0,none⟩:Addr).add j)=some u:=own.cells (g:=g) rfl;have d:=run_append_grow (P:=P) w t ty e i z h.u hi F ⟨g,0,none⟩ n cap xs (by rw[o]; exact own.1) holds a m c news (by rw[o]; exact r) b (by omega) (by omega) (growslice_fits (by omega) (by rw[l]; exact A));rw[y] at d
   cases d
   intro j q;simp[Value.ownBlock] at q;exact .inr (by omega)
def Pj{w:World}{base:Nat}{e:TypeId}{v:Value}{n:Nat}{xs:List Value}(own:w.ownsRow base e 1 v n xs){a:OA}{l c:Nat}(b:v=.slice a l c) :
  l=n/\(0<n->∃ g cur,a=some ⟨g,0,none⟩/\v.ownBlock=some g/\w.heap[g]?=some (.cells cur e (0,0))/\n<=cur.size/\cur.toList.take n=xs)/\n<=c:=by
 subst b;rcases own.2 with⟨b,rfl⟩|⟨g,cap,cur,b,_,d,h1,_,h3,h4⟩
 ·cases b; exact⟨rfl,λ h=>absurd h (by omega),by omega⟩
 ·cases b
  refine⟨rfl,λ _=>⟨g,cur,rfl,rfl,d,?_,?_⟩,h1⟩
  ·rw[h3]; omega
  ·rw[<- h4,gG]
def tn{w:World}{base:Nat}{e:TypeId}{sz:Nat}{v:Value}{n:Nat}{xs:List Value}(own:w.ownsRow base e sz v n xs):∃ a c,v=.slice a n c:=by
 rcases own.2 with⟨rfl,rfl⟩|⟨g,cap,cur,rfl,_⟩
 ·exact⟨_,_,rfl⟩
 ·exact⟨_,_,rfl⟩
def VI{P:Program}{w:World}{t e:TypeId}{z:Value}{by_:Nat}(d:j7 P t e z 1 by_)(c:z.cells = #[z]){n:Int}(f:0<=n)(g:(by_:Int)*n<=281474976710656)(a:n<=9223372036854775807){K:KP}(k:K (.slice (some ⟨w.heap.size,0,none⟩) n.toNat n.toNat) (w.alloc (.cells (Array.replicate n.toNat z) e))) :
  gi P (Instr.makeSlice t (.int .i64 n) (.int .i64 n)) w K:=by
 obtain⟨i,hi,m,l,b⟩:=d.i;have h:=run_make (P:=P) w t e i z d.u hi m .i64 .i64 n n f (cq _) (by rw[b]; exact g) a;refine⟨_,_,h,?_⟩;have:madeCells z.cells (n.toNat*i.size)=Array.replicate n.toNat z:=by
  rw[l,gG,c];apply Array.ext
  ·simp[size_madeCells]
  ·intro j h1 h2;simp[madeCells,Nat.mod_one]
 rw[this];exact k
def NS{P:Program}{w:World}{t ty e:TypeId}{z:Value}{by_:Nat}(m:j7 P t e z 1 by_){g b d:Nat}{cur:Array Value}(n:w.heap[g]?=some (.cells cur e (0,0))){a:OA}{c f:Nat}{cs:List Value}(o:cs.length=Nat.min c b)(q:b<=cur.size)(h:0<cs.length->∃ ad,a=some ad/\∀ j u,cs[j]?=some u->w.cell? (ad.add j)=some u)(h1:∀ u∈cs,u.oneCell'=true){K:KP}(k:∀ w',w'.heap[g]?=some (.cells (cs++cur.toList.drop cs.length).toArray e (0,0))->aC w w' [g]->K (goInt cs.length) w') :
  gi P (Builtin.copy_ #[t,t] ty #[.slice (some ⟨g,0,none⟩) b d,.slice a c f]) w K:=by
 obtain⟨i,hi,y,x,s⟩:=m.i;have l:(P.info? e).map (·.size)=some 1:=by simp[hi,x]
 by_cases r:cs.length=0
 ·obtain rfl:cs=[]:=zH r;have p:=run_copy_none (P:=P) w t t ty e (some ⟨g,0,none⟩) a b d c f m.u l (by simpa using o.symm);exact⟨_,_,p,k w (by simpa using n) (aC.refl _ _)⟩
 ·obtain⟨ad,rfl,hc⟩:=h (by omega);have hm:cs.length<=b:=by have:=Nat.min_le_right c b; simp only[o]; exact this
  have p:=run_copy_row (P:=P) w t t ty e g 0 b d ad c f cur e cs m.u l n o hc (by omega) h1;refine⟨_,_,p,k _ ?_ ?_⟩
  ·rw[setRow_heap w g cur _ e _ n]; simp
  ·exact⟨by simp[World.setRow],λ j _ v=>setRow_other w g j _ (by simpa using v),⟨rfl,rfl,rfl⟩⟩
def yC(l:List UInt8):strOfNums (l.map λ b=>(b.toNat:Int))=⟨l.toArray⟩:=by
 unfold strOfNums
 congr 1
 congr 1
 induction l with
 | nil=>rfl
 | cons b l a=>simp[a]
def zw{P:Program}{w:World}{t e dst:TypeId}(h:P.underlying t=some (.slice e))(he:P.underlying e=some (.int .u8))(hd:P.underlying dst=some .string){v:Value}{l:List UInt8}{base:Nat}{n:TypeId}(own:w.ownsRow base n 1 v l.length (l.map kC)){K:KP}(k:K (.string ⟨l.toArray⟩) w):gi P (convert t dst v) w K:=by
 obtain⟨a,c,rfl⟩:=tn own;obtain⟨_,hc,_⟩:=Pj own rfl
 by_cases m:l=[]
 ·subst m;rcases own.2 with⟨j,_⟩|⟨g,cap,cur,j,_⟩
  ·cases j
   exact⟨_,_,run_convert_bytes_nil (P:=P) w t e h he 0 0 dst hd,k⟩
  ·cases j
   refine⟨_,_,run_convert_bytes_arg (P:=P) w t e h he g 0 0 _ [] rfl (λ i hi=>absurd hi (by omega)) dst hd,?_⟩;exact k
 ·have f:0<l.length:=List.length_pos_iff.2 m;obtain⟨g,cur,rfl,_,o,hle,d⟩:=hc f;refine⟨_,_,run_convert_bytes_arg (P:=P) w t e h he g 0 l.length c (l.map λ b=>(b.toNat:Int)) (by simp) (λ i hi=>?_) dst hd,by rw[yC]; exact k⟩;rw[mN,o,kM];have h2:(cur.toList.take l.length)[i]?=(l.map kC)[i]?:=by rw[d]
  rw[gV,ak hi] at h2;simp only[aL];rw[<- Dr,h2];simp[kC,hi]
end Go.Vc
namespace Go.Vc
structure aI where
 p:World->List Nat->Prop
 loc:∀ {w w':World} {F G:List Nat},p w F->aC w w' G->(∀ k∈F,k∉G)->p w' F
 lt:∀ {w:World} {F:List Nat},p w F->∀ k∈F,k<w.heap.size
def To(A:aI)(w w':World)(F:List Nat):Prop:=∃ a,A.p w' a/\aC w w' F/\∀ k∈a,k∈F\/w.heap.size<=k
def star(A B:aI):aI where
 p w F:=∃ a b,F=a++b/\A.p w a/\B.p w b/\∀ k∈a,k∉b
 loc:=by
  rintro w w' F G ⟨a,b,rfl,h1,h2,hd⟩ hc d;exact⟨a,b,rfl,A.loc h1 hc λ k c=>d k (iN _ c),B.loc h2 hc λ k c=>d k (jl _ c),hd⟩
 lt:=by
  rintro w F ⟨a,b,rfl,h1,h2,hd⟩ k c;rcases aV.1 c with h|h
  ·exact A.lt h1 k h
  ·exact B.lt h2 k h
def St(w0 w:World)(A:aI):Prop:=∃ F,A.p w F/\aC w0 w []/\∀ k∈F,w0.heap.size<=k
def St.av{w0 w:World}{A:aI}(h:St w0 w A):aC w0 w []:=let ⟨_,_,hc,_⟩:=h; hc
def St.use{w0 w:World}{A B:aI}(h:St w0 w (star A B)):∃ e,A.p w e/\∀ w' f,To f w w' e->St w0 w' (star f B):=by
 obtain⟨F,⟨e,m,rfl,h1,h2,hd⟩,hc,l⟩:=h;refine⟨e,h1,λ w' f ⟨a,g,b,n⟩=>?_⟩;refine⟨a++m,⟨a,m,rfl,g,B.loc h2 b λ j c k=>hd j k c,λ j c d=>?_⟩,hc.trans b (λ i hi=>.inr (l i (iN _ hi))),λ j c=>?_⟩
 ·rcases n j c with h|h
  ·exact hd j h d
  ·have:=B.lt h2 j d; omega
 ·rcases aV.1 c with h|h
  ·rcases n j h with h|h
   ·exact l j (iN _ h)
   ·exact cC hc.size h
  ·exact l j (jl _ h)
def St.quiet{w0 w w':World}{A:aI}(h:St w0 w A)(hc:aC w w' []):St w0 w' A:=by
 obtain⟨F,b,a,c⟩:=h;exact⟨F,A.loc b hc (by simp),a.trans hc (by simp),c⟩
def St.add{w0 w w':World}{A B:aI}{G:List Nat}(h:St w0 w A)(hc:aC w w' [])(f:B.p w' G)(e:∀ k∈G,w.heap.size<=k):St w0 w' (star A B):=by
 obtain⟨F,d,a,g⟩:=h;refine⟨F++G,⟨F,G,rfl,A.loc d hc (by simp),f,λ k b c=>?_⟩,a.trans hc (by simp),λ k b=>?_⟩
 ·have:=A.lt d k b;have:=e k c;omega
 ·rcases aV.1 b with h|h
  ·exact g k h
  ·exact cC a.size (e k h)
def emp:aI where
 p _ F:=F=[]
 loc:=λ h _ _=>h
 lt:=λ h k a=>by subst h; cases a
def St.start(w:World):St w w emp:=⟨[],rfl,aC.refl _ _,by simp⟩
def St.start'{w w':World}(h:aC w w' []):St w w' emp:=⟨[],rfl,h,by simp⟩
def St.first{w0 w:World}{A B:aI}(h:St w0 w (star A B)):St w0 w A:=by
 obtain⟨F,⟨a,d,rfl,h1,_,_⟩,hc,c⟩:=h;exact⟨a,h1,hc,λ k b=>c k (iN _ b)⟩
def St.second{w0 w:World}{A B:aI}(h:St w0 w (star A B)):St w0 w B:=by
 obtain⟨F,⟨d,a,rfl,_,h2,_⟩,hc,c⟩:=h;exact⟨a,h2,hc,λ k b=>c k (jl _ b)⟩
def St.swap{w0 w:World}{A B:aI}(h:St w0 w (star A B)):St w0 w (star B A):=by
 obtain⟨F,⟨c,d,rfl,h1,h2,hd⟩,hc,e⟩:=h;exact⟨d++c,⟨d,c,rfl,h2,h1,λ k a b=>hd k b a⟩,hc,λ k a=>e k (by simpa[or_comm] using a)⟩
def St.get{w0 w:World}{A:aI}(h:St w0 w A):∃ F,A.p w F:=let ⟨F,hF,_⟩:=h; ⟨F,hF⟩
def St.pY{w0 w:World}{A B C:aI}(h:St w0 w (star A (star B C))):St w0 w (star B (star A C)):=by
 obtain⟨F,⟨b,j,rfl,h1,⟨g,c,rfl,h2,h3,d⟩,hd⟩,hc,i⟩:=h;refine⟨g++(b++c),⟨g,b++c,rfl,h2,⟨b,c,rfl,h1,h3,λ k a f=>hd k a (jl _ f)⟩,λ k a e=>?_⟩,hc,λ k a=>i k ?_⟩
 ·rcases aV.1 e with h|h
  ·exact hd k h (iN _ a)
  ·exact d k a h
 ·simp only[aV] at a ⊢;rcases a with h|h|h
  ·exact .inr (.inl h)
  ·exact .inl h
  ·exact .inr (.inr h)
def St.assoc{w0 w:World}{A B C:aI}(h:St w0 w (star (star A B) C)):St w0 w (star A (star B C)):=by
 obtain⟨F,⟨j,c,rfl,⟨g,b,rfl,h1,h2,d⟩,h3,hd⟩,hc,i⟩:=h;refine⟨g++(b++c),⟨g,b++c,rfl,h1,⟨b,c,rfl,h2,h3,λ k a f=>hd k (jl _ a) f⟩,λ k a e=>?_⟩,hc,λ k a=>i k ?_⟩
 ·rcases aV.1 e with h|h
  ·exact d k a h
  ·exact hd k (iN _ a) h
 ·simpa using a
def aj(r:Nat)(cs:Array Value)(T:TypeId):aI where
 p w F:=w.heap[r]?=some (.cells cs T (0,0))/\F=[r]
 loc:=λ ⟨h,he⟩ hc hd=>⟨hc.keep h (hd _ (by rw[he]; simp)),he⟩
 lt:=λ ⟨h,he⟩ k a=>by subst he; simp at a; subst a; exact iR h
def St.box{w0 w:World}{A:aI}(h:St w0 w A)(cs:Array Value)(T:TypeId):St w0 (w.alloc (.cells cs T)) (star A (aj w.heap.size cs T)) :=
 h.add (aC.new _ _ _) (B:=aj w.heap.size cs T) ⟨by rw[iw,ak rfl],rfl⟩ (by simp)
def St.boxed{w0 w:World}{B:aI}{r:Nat}{cs:Array Value}{T:TypeId}(h:St w0 w (star (aj r cs T) B))(i:Nat):w.cell? ⟨r,i,none⟩=cs[i]?:=by
 obtain⟨F,a⟩:=h.first.get;rw[mN,a.1,kM]
def dI{w w':World}{a:Addr}{v:Value}(h:w.cell? a=some v)(hc:aC w w' []):w'.cell? a=some v:=by
 rw[World.cell?_of_block (hc.same a.block (World.block_lt_of_cell? w a h) (by simp))]; exact h
theorem bB{w w':World}{a:Addr}(hc:aC w w' []):∀ {vs:List Value} {i:Nat},aA w a i vs->aA w' a i vs
 | [],_,_=>trivial
 | _ :: _,_,h=>⟨dI h.1 hc,bB hc h.2⟩
def bX(A B:aI):Prop:=∀ w F,A.p w F->∃ a,B.p w a/\∀ j,j∈a<->j∈F
def bX.refl(A:aI):bX A A:=λ _ F h=>⟨F,h,λ _=>Iff.rfl⟩
def bX.trans{A B C:aI}(h:bX A B)(k:bX B C):bX A C:=λ w F a =>
 let ⟨F',hB,h1⟩:=h w F a;let ⟨F'',hC,h2⟩:=k w F' hB
 ⟨F'',hC,λ j=>(h2 j).trans (h1 j)⟩
def bX.right{A B C:aI}(h:bX B C):bX (star A B) (star A C):=by
 rintro w F ⟨d,f,rfl,h1,h2,hd⟩;obtain⟨a,b,e⟩:=h w f h2;exact⟨d++a,⟨d,a,rfl,h1,b,λ k g c=>hd k g ((e k).1 c)⟩,λ j=>by simp[e]⟩
def bX.pY{A B C:aI}:bX (star A (star B C)) (star B (star A C)):=by
 rintro w F ⟨b,i,rfl,h1,⟨g,c,rfl,h2,h3,d⟩,hd⟩;refine⟨g++(b++c),⟨g,b++c,rfl,h2,⟨b,c,rfl,h1,h3,λ k a f=>hd k a (jl _ f)⟩,λ k a e=>?_⟩,λ j=>by simp; constructor<;>(rintro(h|h|h)<;>simp[h])⟩;rcases aV.1 e with h|h
 ·exact hd k h (iN _ a)
 ·exact d k a h
def St.eqv{w0 w:World}{A B:aI}(h:St w0 w A)(k:bX A B):St w0 w B:=by
 obtain⟨F,c,hc,f⟩:=h;obtain⟨b,d,e⟩:=k w F c;exact⟨b,d,hc,λ j a=>f j ((e j).1 a)⟩
def Sep:List aI->aI
 | []=>emp
 | A :: l=>star A (Sep l)
end Go.Vc
namespace Go.Vc
def Cj:Nat->Nat->List UInt8
 | 0,_=>[]
 | k+1,x=>UInt8.ofNat (x%256) :: Cj k (x / 256)
theorem bG:∀ (k x:Nat),(Cj k x).length=k
 | 0,_=>rfl
 | k+1,x=>by simp[Cj,bG k]
theorem zf:∀ (k x i:Nat),i<k->(Cj k x)[i]?=some (UInt8.ofNat (x / 256 ^ i%256))
 | 0,_,_,h=>absurd h (by omega)
 | k+1,x,0,_=>by simp[Cj]
 | k+1,x,i+1,h=>by
  simp only[Cj,um];rw[zf k (x / 256) i (by omega),Nf,zI,Ds 256]
def FX(k x:Nat):Cj (k+1) x=Cj k x++[UInt8.ofNat (x / 256 ^ k%256)]:=by
 apply iC;intro i
 by_cases h:i<k
 ·rw[zf _ _ _ (by omega),lD (by rw[bG]; exact h),zf _ _ _ h]
 ·by_cases h2:i=k
  ·subst h2;rw[zf _ _ _ (by omega),kH (by rw[bG]; exact aO _)];simp[bG]
  ·rw[cr (by rw[bG]; omega),cr (by simp[bG]; omega)]
def xp{w:World}{g:Nat}{e:TypeId}{l:List UInt8}(h:w.heap[g]?=some (.cells (l.map kC).toArray e (0,0)))(a:l.length<=9223372036854775807) :
  w.ownsRow 0 e 1 (.slice (some ⟨g,0,none⟩) l.length l.length) l.length (l.map kC):=by
 refine⟨by simp,.inr ⟨g,l.length,(l.map kC).toArray,rfl,jJ _,h,aO _,?_,?_,?_⟩⟩
 ·unfold maxLen; exact a
 ·simp
 ·simp only[gG];exact fN (by simp)
def ofNat_toNat(n:Nat):((UInt8.ofNat (n%256)).toNat:Int)=((n%256:Nat):Int):=by
 rw[HA]; simp
def OI(x i:Nat)(hi:i<8):IntKind.u8.wrap (Int.fdiv (x:Int) (2 ^ (min ((IntKind.i64.wrap ((8:Int)*(i:Int)))).toNat IntKind.u64.bits)))=((UInt8.ofNat (x / 256 ^ i%256)).toNat:Int):=by
 have h1:IntKind.i64.wrap ((8:Int)*(i:Int))=((8*i:Nat):Int):=by rw[IntWalk.i64_in _ (by omega)]; omega
 have h2:min (8*i) IntKind.u64.bits=8*i:=by
  have:IntKind.u64.bits=64:=rfl;omega
 rw[h1,aD,h2,ofNat_toNat];have h3:((2:Int) ^ (8*i))=((256 ^ i:Nat):Int):=by
  rw[Int.pow_mul]; simp
 rw[h3];have h4:Int.fdiv (x:Int) ((256 ^ i:Nat):Int)=((x / 256 ^ i:Nat):Int):=by
  rw[Ng _ (Nh _)]; exact(Int.natCast_ediv _ _).symm
 rw[h4,IntKind.wrap_u8];omega
def OJ{P:Program}{t:TypeId}{by_:Nat}(l:j7 P t 5 (.int .u8 0) 1 by_)(d:by_=1)(x k:Nat)(s:k<=8){w:World}{A:Option Addr->Nat->Nat->World->Prop}(h:∀ a g,aC w a []->a.heap[g]?=some (.cells ((Cj k x).map kC).toArray 5 (0,0))->w.heap.size<=g->A (some ⟨g,0,none⟩) k k a) :
  gi P (Instr.makeSlice t (.int .i64 (k:Int)) (.int .i64 (k:Int))) w λ f q=>∃ (a1:OA) (l1 c1:Nat),f=(.slice a1 l1 c1) /\
   ∃ c:Int->World->Nat->Prop,(∃ m1,c (0:Int) q m1)/\∀ (a:World) (m1:Nat) (n3:Int),c n3 a m1->∀ _:Nat->Value,cond (decide (n3<((l1:Nat):Int))) (0<=(IntKind.i64.wrap ((8:Int)*n3))/\bO a1 λ p=>0<=n3/\n3<((l1:Nat):Int) /\
      fL a (Addr.add p ((n3).toNat*1)) (.int .u8 (IntKind.u8.wrap (Int.fdiv (x:Int) (2 ^ (min ((IntKind.i64.wrap ((8:Int)*n3))).toNat IntKind.u64.bits))))) λ r =>
      ∃ m2,m2<m1/\c (IntKind.i64.wrap (n3+(1:Int))) r m2) (A a1 l1 c1 a):=by
 subst d;refine VI l rfl (by omega) (by omega) (by omega) ⟨_,_,_,rfl,?_⟩;obtain⟨g,e⟩:∃ g,w.heap.size=g:=⟨_,rfl⟩;rw[e,aD];refine⟨λ n3 a m=>∃ i:Nat,n3=(i:Int)/\i<=k/\m=k-i/\aC w a []/\a.heap[g]?=some (.cells (((Cj i x).map kC)++List.replicate (k-i) (Value.int .u8 0)).toArray 5 (0,0)),⟨k,0,rfl,by omega,by omega,aC.new _ _ _,by rw[iw,ak e.symm]; simp[Cj]⟩,?_⟩
 rintro a m n3 ⟨i,rfl,hi,rfl,hc,b⟩ -
 by_cases o:i<k
 ·refine cT (zC (by omega)) ⟨?_,by omega,by omega,?_⟩
  ·rw[IntWalk.i64_in _ (by omega)]; omega
  ·rw[aD,om,gG];refine Jc b (by simp[bG]; omega) rfl ⟨k-(i+1),by omega,i+1,?_,by omega,rfl,?_,?_⟩
   ·rw[IntWalk.i64_in _ (by omega)]; omega
   ·refine hc.trans (aC.set a g i _ (F:=[g]) (by simp)) (λ j n=>.inr (by simp at n; omega))
   ·rw[heap_set,ak rfl,b,I8,OI x i (by omega),FX]
    congr 2
    rw[List.setIfInBounds_toArray]
    congr 1
    rw[List.set_append_right _ _ (by simp[bG])];rw[show k-i=(k-(i+1))+1 by omega,HB];simp[bG,kC]
 ·obtain rfl:i=k:=by omega
  refine cF (zD (by omega)) (h a g hc ?_ (by omega));rw[b]; simp
def mI{P:Program}{w:World}{t dst:TypeId}(c:P.underlying t=some (.slice 5))(he:P.underlying 5=some (.int .u8))(hd:P.underlying dst=some .string){n:Int}{b:UInt8}(a:n=(b.toNat:Int)){K:KP}(k:K (.string ⟨#[b]⟩) (w.alloc (.cells #[.int .u8 n] 5))) :
  gi P (convert t dst (.slice (some ⟨w.heap.size,0,none⟩) 1 1)) (w.alloc (.cells #[.int .u8 n] 5)) K:=by
 subst a;have own:(w.alloc (.cells #[.int .u8 (b.toNat:Int)] 5)).ownsRow 0 5 1 (.slice (some ⟨w.heap.size,0,none⟩) [b].length [b].length) [b].length ([b].map kC) :=
  xp (l:=[b]) (by rw[iw,ak rfl]; rfl) (by simp)
 exact zw c he hd own k
def o7(e:TypeId)(sz:Nat)(v:Value)(n:Nat)(xs:List Value):aI where
 p w F:=w.ownsRow 0 e sz v n xs/\F=v.ownBlock.toList
 loc:=λ ⟨h,he⟩ hc hd=>⟨xR h hc λ k a=>hd k (by rw[he]; simp[a]),he⟩
 lt:=λ ⟨h,he⟩ k a=>by subst he; simp at a; exact(h.lt k a).2
def St.O0{w0 w:World}{A:aI}(h:St w0 w A)(e:TypeId)(sz:Nat):St w0 w (star A (o7 e sz (.slice none 0 0) 0 [])) :=
 h.add (aC.refl _ _) (B:=o7 e sz _ 0 []) (G:=[]) ⟨⟨by simp,.inl ⟨rfl,rfl⟩⟩,rfl⟩ (by simp)
def HM{P:Program}{w0 w:World}{B:aI}{t ty e:TypeId}{z:Value}{sz by_:Nat}(g:j7 P t e z sz by_){v:Value}{n:Nat}{xs:List Value}(h:St w0 w (star (o7 e sz v n xs) B)){a:Addr}{m c:Nat}{news:List Value}(o:news.length=m*sz)(b:∀ j u,news[j]?=some u->w.cell? (a.add j)=some u)(h1:∀ u∈news,u.oneCell'=true)(i:(n+m)*by_<=140737488355328)(hm:n+m<=9223372036854775807){K:KP}(k:∀ v' w',St w0 w' (star (o7 e sz v' (n+m) (xs++news)) B)->K v' w'):gi P (Builtin.append_ #[t,t] ty #[v,.slice (some a) m c]) w K:=by
 obtain⟨F,⟨own,rfl⟩,use⟩:=h.use;refine Ny g own o b h1 i hm λ v' w' d hc p=>k v' w' (use w' (o7 e sz v' (n+m) (xs++news)) ⟨_,⟨d,rfl⟩,hc,λ j l=>?_⟩);rcases p j (by simpa using l) with f | f
 ·exact .inl (by simp[f])
 ·exact .inr f
def DA{P:Program}{w0 w:World}{B:aI}{t ty e:TypeId}{z:Value}{sz by_:Nat}(g:j7 P t e z sz by_){v:Value}{n:Nat}{xs:List Value}(h:St w0 w (star (o7 e sz v n xs) B)){news:List Value}(s:news.length=sz)(h1:∀ u∈news,u.oneCell'=true)(i:(n+1)*by_<=140737488355328)(hm:n+1<=9223372036854775807){R:Option Addr->Nat->Nat->World->Prop}(k:∀ a c w',St w0 w' (star (o7 e sz (.slice a (n+1) c) (n+1) (xs++news)) B)->R a (n+1) c w'){cs:Array Value}(d:cs=news.toArray) :
  cR w (.cells cs e) λ r p=>gi P (Builtin.append_ #[t,t] ty #[v,.slice (some ⟨r,0,none⟩) 1 1]) p λ e q=>∃ a l c,e=.slice a l c/\R a l c q:=by
 subst d;refine bg ?_;have f:St w0 (w.alloc (.cells news.toArray e)) (star (o7 e sz v n xs) B):=h.quiet (aC.new _ _ _);refine HM g f (m:=1) (news:=news) (by omega) (λ j u o=>?_) h1 i hm λ v' w' b=>?_
 ·rw[om,mN,iw,ak rfl,kM]; simpa using o
 ·obtain⟨F,⟨own,_⟩,_⟩:=b.use;obtain⟨a,c,rfl⟩:=tn own;exact⟨a,_,c,rfl,k a c w' b⟩
def Qv{P:Program}{w0 w:World}{B:aI}{t e dst:TypeId}(b:P.underlying t=some (.slice e))(he:P.underlying e=some (.int .u8))(hd:P.underlying dst=some .string){v:Value}{l:List UInt8}{a:TypeId}(h:St w0 w (star (o7 a 1 v l.length (l.map kC)) B)){K:KP}(k:K (.string ⟨l.toArray⟩) w):gi P (convert t dst v) w K:=by
 obtain⟨F,⟨own,_⟩,_⟩:=h.use;exact zw b he hd own k
def St.rowOf{w0 w:World}{B:aI}{e:TypeId}{sz n:Nat}{v:Value}{xs:List Value}(h:St w0 w (star (o7 e sz v n xs) B)):w.ownsRow 0 e sz v n xs:=by
 obtain⟨F,⟨own,_⟩,_⟩:=h.use;exact own
def dQ(b:Nat)(o:Obj):aI where
 p w F:=w.heap[b]?=some o/\F=[b]
 loc:=λ ⟨h,he⟩ hc hd=>⟨hc.keep h (hd b (by rw[he]; simp)),he⟩
 lt:=λ ⟨h,he⟩ k a=>by subst he; simp at a; subst a; exact iR h
def aC.put(w:World)(b:Nat)(o:Obj){F:List Nat}(h:b∈F):aC w (w.putObj b o) F :=
 ⟨by simp[World.putObj],λ i _ a=>World.putObj_heap_other (λ e=>a (e▸h)),⟨rfl,rfl,rfl⟩⟩
def St.obj{w0 w:World}{B:aI}{b:Nat}{o:Obj}(h:St w0 w (star (dQ b o) B)):w.heap[b]?=some o:=by
 obtain⟨F,⟨a,_⟩,_⟩:=h.use;exact a
def St.put{w0 w:World}{B:aI}{b:Nat}{o:Obj}(h:St w0 w (star (dQ b o) B))(a:Obj):St w0 (w.putObj b a) (star (dQ b a) B):=by
 obtain⟨F,⟨d,rfl⟩,use⟩:=h.use;exact use _ (dQ b a) ⟨[b],⟨World.putObj_heap_same (iR d),rfl⟩,aC.put w b a (by simp),λ j c=>.inl c⟩
def St.newObj{w0 w:World}{A:aI}(h:St w0 w A)(o:Obj):St w0 (w.alloc o) (star A (dQ w.heap.size o)) :=
 h.add (aC.new _ _ _) (B:=dQ w.heap.size o) (G:=[w.heap.size]) ⟨by rw[iw,ak rfl],rfl⟩ (by simp)
def kf(h:Nat)(b:UInt8):Nat:=(h ^^^ b.toNat)*1099511628211%18446744073709551616
def FL(l:List UInt8):Nat:=l.foldl kf 14695981039346656037
def rG(h:Nat)(b:UInt8):kf h b<18446744073709551616:=Dt _ (by decide)
def xO(h:Nat)(e:h<18446744073709551616)(b:UInt8) :
  IntKind.u64.wrap ((WY .u64 (h:Int) (IntKind.u64.wrap (b.toNat:Int)))*(1099511628211:Int))=((kf h b:Nat):Int):=by
 have d:=b.toNat_lt;have h1:IntKind.u64.wrap (b.toNat:Int)=(b.toNat:Int):=IntWalk.u64_in _ (by omega);have h2:WY .u64 (h:Int) (b.toNat:Int)=((h ^^^ b.toNat:Nat):Int):=by
  show IntKind.u64.wrap (((BitVec.ofInt 64 (h:Int) ^^^ BitVec.ofInt 64 (b.toNat:Int)).toNat:Nat):Int)=_;have h3:(BitVec.ofInt 64 (h:Int) ^^^ BitVec.ofInt 64 (b.toNat:Int)).toNat=h ^^^ b.toNat:=by
   rw[BitVec.toNat_xor,Ni,Ni];have a:((h:Int)%((2 ^ 64:Nat):Int)).toNat=h:=by omega
   have c:((b.toNat:Int)%((2 ^ 64:Nat):Int)).toNat=b.toNat:=by omega
   rw[a,c]
  rw[h3];have h4:h ^^^ b.toNat<2 ^ 64:=Nat.xor_lt_two_pow (by omega) (by omega);exact IntWalk.u64_in _ (by omega)
 rw[h1,h2,IntKind.wrap_u64];unfold kf;omega
end Go.Vc
namespace Go.Vc
def W9{α:Type}(f:α->aI):aI where
 p w F:=∃ a,(f a).p w F
 loc:=λ ⟨a,h⟩ hc hd=>⟨a,(f a).loc h hc hd⟩
 lt:=λ ⟨a,h⟩=>(f a).lt h
def St.ex{α:Type}{f:α->aI}{w0 w:World}{B:aI}(h:St w0 w (star (W9 f) B)):∃ a,St w0 w (star (f a) B):=by
 obtain⟨F,⟨b,c,rfl,⟨a,h1⟩,h2,hd⟩,hc,d⟩:=h;exact⟨a,_,⟨b,c,rfl,h1,h2,hd⟩,hc,d⟩
def St.Al{α:Type}{f:α->aI}{w0 w:World}{B:aI}(a:α)(h:St w0 w (star (f a) B)):St w0 w (star (W9 f) B):=by
 obtain⟨F,⟨b,c,rfl,h1,h2,hd⟩,hc,d⟩:=h;exact⟨_,⟨b,c,rfl,⟨a,h1⟩,h2,hd⟩,hc,d⟩
def bX.swap{A B:aI}:bX (star A B) (star B A):=by
 rintro w F ⟨b,c,rfl,h1,h2,hd⟩;exact⟨c++b,⟨c,b,rfl,h2,h1,λ k d a=>hd k a d⟩,λ j=>by simp[or_comm]⟩
def bX.assoc{A B C:aI}:bX (star (star A B) C) (star A (star B C)):=by
 rintro w F ⟨g,b,rfl,⟨f,c,rfl,h1,h2,d⟩,h3,hd⟩;refine⟨f++(c++b),⟨f,c++b,rfl,h1,⟨c,b,rfl,h2,h3,λ k a=>hd k (by simp[a])⟩,λ k a e=>?_⟩,λ j=>by simp⟩;rcases aV.1 e with h|h
 ·exact d k a h
 ·exact hd k (by simp[a]) h
def bX.assoc'{A B C:aI}:bX (star A (star B C)) (star (star A B) C):=by
 rintro w F ⟨b,g,rfl,h1,⟨c,f,rfl,h2,h3,d⟩,hd⟩;refine⟨(b++c)++f,⟨b++c,f,rfl,⟨b,c,rfl,h1,h2,λ k e a=>hd k e (by simp[a])⟩,h3,λ k e a=>?_⟩,λ j=>by simp⟩;rcases aV.1 e with h|h
 ·exact hd k h (by simp[a])
 ·exact d k h a
def bX.unit(A:aI):bX A (star A emp):=λ _ F h=>⟨F++[],⟨F,[],rfl,h,rfl,by simp⟩,λ j=>by simp⟩
end Go.Vc
namespace Go.Vc
def bX.unit'(A:aI):bX (star A emp) A:=by
 rintro w F ⟨a,b,rfl,h,rfl,_⟩;exact⟨a,h,λ j=>by simp⟩
theorem bX.out:∀ {l:List aI} (i:Nat) {A:aI},l[i]?=some A->bX (Sep l) (star A (Sep (l.eraseIdx i)))
 | [],_,_,h=>by simp at h
 | B :: l,0,A,h=>by simp at h; subst h; exact bX.refl _
 | B :: l,i+1,A,h=>(bX.right (bX.out (l:=l) i (by simpa using h))).trans bX.pY
theorem bX.back:∀ {l:List aI} (i:Nat) {A:aI},i<l.length->bX (star A (Sep (l.eraseIdx i))) (Sep (l.set i A))
 | [],_,_,h=>by simp at h
 | B :: l,0,A,h=>bX.refl _
 | B :: l,i+1,A,h=>bX.pY.trans (bX.right (bX.back (l:=l) i (by simpa using h)))
def St.out{w0 w:World}{l:List aI}(h:St w0 w (Sep l))(i:Nat){A:aI}(e:l[i]?=some A):St w0 w (star A (Sep (l.eraseIdx i))):=h.eqv (bX.out i e)
def St.back{w0 w:World}{l:List aI}{A:aI}{i:Nat}(h:St w0 w (star A (Sep (l.eraseIdx i))))(hi:i<l.length:=by decide):St w0 w (Sep (l.set i A)):=h.eqv (bX.back i hi)
section at_
variable {w0 w:World} {l:List aI}
def St.ag{r:Nat}{cs:Array Value}{T:TypeId}(h:St w0 w (Sep l))(i:Nat)(e:l[i]?=some (aj r cs T))(j:Nat):w.cell? ⟨r,j,none⟩=cs[j]?:=(h.out i e).boxed j
def St.rO{b:Nat}{o:Obj}(h:St w0 w (Sep l))(i:Nat)(e:l[i]?=some (dQ b o)):w.heap[b]?=some o:=(h.out i e).obj
def gr{i:Nat}{A:aI}(e:l[i]?=some A):i<l.length:=by
 rcases bw i l.length with h|h
 ·exact h
 ·rw[cr h] at e; cases e
def St.putAt{b:Nat}{o:Obj}(h:St w0 w (Sep l))(i:Nat)(e:l[i]?=some (dQ b o))(a:Obj):St w0 (w.putObj b a) (Sep (l.set i (dQ b a))) :=
 (St.put (h.out i e) a).back (gr e)
def St.fu(h:St w0 w (Sep l))(cs:Array Value)(T:TypeId):St w0 (w.alloc (.cells cs T)) (Sep (aj w.heap.size cs T :: l)):=(h.box cs T).swap
def St.VO(h:St w0 w (Sep l))(o:Obj):St w0 (w.alloc o) (Sep (dQ w.heap.size o :: l)):=(h.newObj o).swap
def St.aN{cs:Array Value}{r:Nat}{T:TypeId}{v:Value}{j:Nat}{R:World->Prop}(h:St w0 w (Sep l))(i:Nat)(e:l[i]?=some (aj r cs T))(a:j<cs.size)(c:v.oneCell'=true)(k:∀ w',St w0 w' (Sep (l.set i (aj r (cs.setIfInBounds j v) T)))->R w'):fL w ⟨r,j,none⟩ v R:=by
 obtain⟨F,⟨b,rfl⟩,use⟩:=(h.out i e).use;refine Jc b a c (k _ ((use _ (aj r (cs.setIfInBounds j v) T) ⟨[r],⟨?_,rfl⟩,aC.set _ _ _ _ (by simp),λ j a=>.inl a⟩).back (gr e)));rw[heap_set,ak rfl,b]; rfl
def St.az{x:Nat}{cs:Array Value}{T:TypeId}{R:World->Prop}(h:St w0 w (Sep l))(i:Nat)(e:l[i]?=some (aj x cs T))(vs:List Value)(d:vs.length=cs.size)(h1:∀ v∈vs,v.oneCell'=true)(k:∀ w',St w0 w' (Sep (l.set i (aj x vs.toArray T)))->R w'):uP ⟨x,0,none⟩ 0 vs w R:=by
 obtain⟨F,⟨c,rfl⟩,use⟩:=(h.out i e).use;refine EL vs 0 w cs c (by omega) h1 λ w' a hc _=>k w' ((use w' (aj x vs.toArray T) ⟨[x],⟨?_,rfl⟩,hc,λ j b=>.inl b⟩).back (gr e));rw[a];have:cs.toList.drop (0+0+vs.length)=[]:=List.drop_of_length_le (by simp; omega);rw[this]
 simp
end at_
def bz(A B:aI):Prop:=∀ w F,A.p w F->∃ a,B.p w a/\∀ j∈a,j∈F
def bX.weak{A B:aI}(h:bX A B):bz A B:=λ w F b=>let ⟨F',hB,hj⟩:=h w F b; ⟨F',hB,λ j a=>(hj j).1 a⟩
def bz.trans{A B C:aI}(h:bz A B)(k:bz B C):bz A C:=λ w F a =>
 let ⟨_,hB,h1⟩:=h w F a;let ⟨F'',hC,h2⟩:=k w _ hB
 ⟨F'',hC,λ j b=>h1 j (h2 j b)⟩
def bz.right{A B C:aI}(h:bz B C):bz (star A B) (star A C):=by
 rintro w F ⟨e,g,rfl,h1,h2,hd⟩;obtain⟨a,b,f⟩:=h w g h2;exact⟨e++a,⟨e,a,rfl,h1,b,λ k i d=>hd k i (f k d)⟩,λ j c=>by rcases aV.1 c with h|h<;>simp[h,f j]⟩
def bz.none(A:aI):bz A emp:=λ _ _ _=>⟨[],rfl,by simp⟩
def St.weak{w0 w:World}{A B:aI}(h:St w0 w A)(k:bz A B):St w0 w B:=by
 obtain⟨F,b,hc,e⟩:=h;obtain⟨a,c,f⟩:=k w F b;exact⟨a,c,hc,λ j d=>e j (f j d)⟩
def ay:List Nat->List aI->List aI
 | [],_=>[]
 | i :: is,l=>l.getD i emp :: ay is (l.set i emp)
theorem bz.pick:∀ (is:List Nat) (l:List aI),bz (Sep l) (Sep (ay is l))
 | [],l=>bz.none _
 | i :: is,l=>by
  by_cases hi:i<l.length
  ·have e:l[i]?=some (l.getD i emp):=by simp[hi]
   refine(bX.out i e).weak.trans (bz.right ?_);refine bz.trans ?_ (bz.pick is (l.set i emp));refine bz.trans (bX.weak ?_) (bX.back (l:=l) (A:=emp) i hi).weak;exact(bX.unit _).trans bX.swap
  ·have e:l.getD i emp=emp:=by simp[cr (Nat.le_of_not_lt hi)]
   have a:l.set i emp=l:=Nj (Nat.le_of_not_lt hi);unfold Vc.ay;rw[e,a];exact(bz.pick is l).trans ((bX.unit _).trans bX.swap).weak
def St.ay{w0 w:World}{l:List aI}(h:St w0 w (Sep l))(is:List Nat):St w0 w (Sep (Vc.ay is l)):=h.weak (bz.pick is l)
theorem bX.split{m:List aI}:∀ (l:List aI),bX (Sep (l++m)) (star (Sep l) (Sep m))
 | []=>(bX.unit _).trans bX.swap
 | _ :: l=>(bX.right (bX.split l)).trans bX.assoc'
theorem bX.cat{m:List aI}:∀ (l:List aI),bX (star (Sep l) (Sep m)) (Sep (l++m))
 | []=>bX.swap.trans (bX.unit' _)
 | _ :: l=>bX.assoc.trans (bX.right (bX.cat l))
def St.split{w0 w:World}{m:List aI}(l:List aI)(h:St w0 w (Sep (l++m))):St w0 w (star (Sep l) (Sep m)):=h.eqv (bX.split l)
def St.cat{w0 w:World}{l m:List aI}(h:St w0 w (star (Sep l) (Sep m))):St w0 w (Sep (l++m)):=h.eqv (bX.cat l)
def St.two{w0 w:World}{A B:aI}{l:List aI}(h:St w0 w (Sep (star A B :: l))):St w0 w (Sep (A :: B :: l)):=h.assoc
def St.join{w0 w:World}{A B:aI}{l:List aI}(h:St w0 w (Sep (A :: B :: l))):St w0 w (Sep (star A B :: l)):=h.eqv bX.assoc'
def St.one{w0 w:World}{A:aI}(h:St w0 w A):St w0 w (Sep [A]):=h.eqv (bX.unit A)
def St.single{w0 w:World}{A:aI}(h:St w0 w (Sep [A])):St w0 w A:=h.eqv (bX.unit' A)
def St.pair{w0 w:World}{A B:aI}(h:St w0 w (Sep [A,B])):St w0 w (star A B):=h.eqv (bX.right (bX.unit' B))
def St.Cz{w0 w:World}{A B:aI}(h:St w0 w (star A B)):St w0 w (Sep [A,B]):=h.eqv (bX.right (bX.unit B))
def St.triple{w0 w:World}{A B C:aI}(h:St w0 w (Sep [A,B,C])):St w0 w (star A (star B C)):=h.eqv (bX.right (bX.right (bX.unit' C)))
def St.zy{w0 w:World}{A B C:aI}(h:St w0 w (star A (star B C))):St w0 w (Sep [A,B,C]):=h.eqv (bX.right (bX.right (bX.unit C)))
end Go.Vc
namespace Go.Vc
def au{P:Program}{f:FuncId}{args:Array Value}{w:World}{K:KP}{R:Ending->World->Prop}(h:Calls P f args w (yd K))(k:∀ v w',K v w'->R (.returned v) w'):Calls P f args w R :=
 h.mono λ e w' ⟨v,he,a⟩=>by subst he; exact k v w' a
def bY(g i j:Nat):(⟨g,i,none⟩:Addr).add j=⟨g,i+j,none⟩:=by unfold Addr.add; split<;>simp_all
def EB{w:World}{e:TypeId}{sz n:Nat}{a:OA}{c:Nat}{xs:List Value}(own:w.ownsRow 0 e sz (.slice a n c) n xs)(i:0<n):∃ g,a=some ⟨g,0,none⟩/\∀ (k:Nat) (v:Value),xs[k]?=some v->w.cell? ⟨g,k,none⟩=some v:=by
 rcases own.2 with⟨f,rfl⟩|⟨g,cap,cur,f,_,h,h1,_,h3,h4⟩
 ·omega
 ·cases f
  refine⟨g,rfl,λ k v b=>?_⟩;rw[mN,h,kM,<- Dr,<- b,<- h4,gV];rw[<- h4,gV] at b
  split at b
  ·rename_i d; rw[ak d]
  ·cases b
def UU{r:Nat}{cs:Array Value}{T:TypeId}{n:Nat}(a:cs.size=n)(hm:n<=maxLen):bz (aj r cs T) (o7 T 1 (.slice (some ⟨r,0,none⟩) n n) n cs.toList):=by
 rintro w F ⟨h,rfl⟩;refine⟨[r],⟨⟨by simp[a],.inr ⟨r,n,cs,rfl,jJ _,h,aO _,hm,by omega,?_⟩⟩,by simp[Value.ownBlock]⟩,by simp⟩;rw[gG];exact fN (by simp[a])
def bz.left{A B C:aI}(h:bz A B):bz (star A C) (star B C):=by
 rintro w F ⟨g,e,rfl,h1,h2,hd⟩;obtain⟨a,b,f⟩:=h w g h1;exact⟨a++e,⟨a,e,rfl,b,h2,λ k i d=>hd k (f k i) d⟩,λ j c=>by rcases aV.1 c with h|h<;>simp[h,f j]⟩
def aH{α:Type}{l:List α}{i:Nat}{a:α}(h:l[i]?=some a):l.take (i+1)=l.take i++[a]:=by
 rw[List.take_add_one,h]; rfl
def St.after{w0 w w':World}{A B:aI}(h:St w0 w A)(k:St w w' B):St w0 w' (star B A):=by
 obtain⟨F,e,hc,g⟩:=h;obtain⟨G,f,a,b⟩:=k;refine⟨G++F,⟨G,F,rfl,f,A.loc e a (by simp),λ k c d=>?_⟩,hc.trans a (by simp),λ k c=>?_⟩
 ·have:=b k c;have:=A.lt e k d;omega
 ·rcases aV.1 c with h|h
  ·exact cC hc.size (b k h)
  ·exact g k h
def AZ{w0 a w:World}{A:aI}(hc:aC w0 a [])(h:St a w A):St w0 w A :=
 let ⟨F,hF,hc',hn⟩:=h
 ⟨F,hF,hc.trans hc' (by simp),λ k b=>cC hc.size (hn k b)⟩
def o8{w:World}{e:TypeId}{sz n c:Nat}{a:OA}{xs:List Value}(own:w.ownsRow 0 e sz (.slice a n c) n xs):n<=c/\(a=none->c=0):=by
 rcases own.2 with⟨b,rfl⟩|⟨g,cap,cur,b,_,_,h1,_⟩
 ·cases b; exact⟨jJ _,λ _=>rfl⟩
 ·cases b; exact⟨h1,λ h=>by cases h⟩
theorem bM{w:World}{a:Addr}:∀ (vs:List Value) (i:Nat),(∀ (j:Nat) (v:Value),vs[j]?=some v->w.cell? (a.add (i+j))=some v)->aA w a i vs
 | [],_,_=>trivial
 | v :: vs,i,h=>⟨h 0 v rfl,bM vs (i+1) λ j u b=>by have:=h (j+1) u (by simpa using b); rwa [show i+(j+1)=i+1+j by omega] at this⟩
def St.cellsIn{w0 w:World}{l:List aI}{r:Nat}{cs:Array Value}{T:TypeId}(h:St w0 w (Sep l))(i:Nat)(e:l[i]?=some (aj r cs T)):aA w ⟨r,0,none⟩ 0 cs.toList :=
 bM _ 0 λ j v a=>by
  rw[om,aL,h.ag i e];simpa using a
def CL{P:Program}{a:FuncId}{b:Array Value}{F:FuncId->List Value->Prop}(he:jG P a=true)(h:F a b.toList):AM P (.func (.func a) #[] b) F:=by
 show cond (true&&jG P a) (F a b.toList) False;rw[he];exact h
def dZ{P:Program}{g:FuncId}{x y args:Array Value}{w:World}{R:Ending->World->Prop}(he:jG P g=true)(h:Calls P g (x++args++y) w R):lK P (.func (.func g) x y) args w R:=by
 show cond (jG P g) (Calls P g (x++args++y) w R) False;rw[he];exact h
def HO(a b:ByteArray)(h:a.data.toList=b.data.toList):(a.toList==b.toList)=true:=by
 rw[Go.ByteArray.toList_eq,Go.ByteArray.toList_eq,h]; simp
end Go.Vc
namespace Go.Vc
open Go Go.Deep
def tX(P:Program)(w:World):Nat->TypeId->List Value->Prop
 | 0,_,_=>True
 | d+1,t,cs=>match P.underlying t with
  | some .bool=>∃ b:Bool,cs=[.bool b]
  | some (.int k)=>∃ n:Int,cs=[.int k n]/\(Lit.int k n).wf=true
  | some .string=>∃ s:ByteArray,cs=[.string s]/\s.size<=maxLen
  | some (.slice e)=>∃ (a:OA) (l c:Nat),cs=[.slice a l c]/\l<=c/\c<=maxLen/\(a=none->c=0)/\l*P.bytesOf e<=reachBytes /\
    ∀ i,i<l->∃ q g,a=some q/\w.cells? 0 (q.add (i*P.cellsOf e)) (P.cellsOf e)=some g/\tX P w d e g
  | some (.struct h)=>cs.length=P.cellsOf t/\∀ f∈h.toList,tX P w d f.type ((cs.drop f.offset).take (P.cellsOf f.type))
  | some (.array n e)=>cs.length=P.cellsOf t/\∀ i,i<n->tX P w d e ((cs.drop (i*P.cellsOf e)).take (P.cellsOf e))
  | _=>True
theorem QG{H:Type}{P:Program}{e:TypeId}:∀ {l:List (DataW H)} {d:DataW H} {y:Nat},d∈l->y∈d.weights P e->y∈DataW.weightsAll P e l
 | [],_,_,h,_=>by cases h
 | x :: l,d,y,h,a=>by
  simp only[DataW.weightsAll,aV];rcases cJ.1 h with rfl|h
  ·exact .inl a
  ·exact .inr (QG h a)
theorem EV{H:Type}{P:Program}:∀ {a:List TypeId} {l:List (DataW H)} {i:Nat} {t:TypeId} {d:DataW H} {y:Nat},a[i]?=some t->l[i]?=some d->y∈d.weights P t->y∈DataW.weightsEach P a l
 | [],_,_,_,_,_,h,_,_=>by simp at h
 | _ :: _,[],_,_,_,_,_,h,_=>by simp at h
 | t0 :: a,d0 :: l,i,t,d,y,h1,h2,b=>by
  simp only[DataW.weightsEach,aV]
  cases i with
  | zero=>simp at h1 h2; subst h1 h2; exact .inl b
  | succ i=>exact .inr (EV (i:=i) (by simpa using h1) (by simpa using h2) b)
theorem rQ{H:Type}{enc:TypeId×Value->H}{P:Program}{w:World}{spare:Nat->Bool}{held:Bool}:∀ (d:Nat) {fuel:Nat} {t:TypeId} {cs:List Value} {x:DataW H×List MemPlace},DataW.trod enc P w 0 spare held fuel t cs=some x->(∀ y∈x.1.weights P t,y<=reachBytes)->tX P w d t cs
 | 0,_,_,_,_,_,_=>trivial
 | d+1,fuel,t,cs,x,h,hw=>by
  unfold tX
  split
  ·rename_i hu;obtain⟨b,rfl,_⟩:=DataW.trod_bool hu h;exact⟨b,rfl⟩
  ·rename_i k hu;obtain⟨n,rfl,_,hw⟩:=DataW.trod_int hu h;exact⟨n,rfl,hw⟩
  ·rename_i hu;obtain⟨s,rfl,_,A⟩:=DataW.trod_string hu h;exact⟨s,rfl,A⟩
  ·rename_i e hu;rcases open_slice hu h with⟨rfl,_⟩|⟨a,l,c,m,n,D,C,rfl,_,r,hc,hm,B,hi⟩
   ·exact⟨none,0,0,rfl,aO _,jJ _,λ _=>rfl,by simp,λ i hi=>by omega⟩
   ·subst B;simp only[DataW.weights,hu,dU,HC,cJ,aV] at hw;have z:l<=m:=by rw[hm]; split<;>omega
    have v:=hw _ (.inl rfl);refine⟨some a,l,c,rfl,r,hc,λ h=>(by cases h),?_,λ i q=>?_⟩
    ·exact cC (zG _ (by omega)) v
    ·obtain⟨o,h1,h2⟩:=hi i (by omega);exact⟨a,o,rfl,h1,rQ d h2 λ y j=>hw y (.inr (.inl (QG (bL.2 ⟨i,by simpa using q,rfl⟩) j)))⟩
  ·rename_i u hu;obtain⟨xs,n,_,rfl,hc,r,p⟩:=DataW.trod_struct hu h;refine⟨hc,λ f hm=>?_⟩;obtain⟨i,hi,rfl⟩:=qQ.1 hm;have g:i<u.size:=by simpa using hi
   have h2:=p i u.toList[i] (by simp[g]);rw[Du (by omega)] at h2;simp only[DataW.weights,hu] at hw;exact rQ d h2 λ y j=>hw y (EV (i:=i) (by simp[g]) (by rw[dD,Du (by omega)]; rfl) j)
  ·rename_i n e hu;obtain⟨xs,m,_,rfl,hc,r,p⟩:=DataW.trod_array hu h;refine⟨hc,λ i hi=>?_⟩;have h2:=p i hi;rw[Du (by omega)] at h2;simp only[DataW.weights,hu] at hw;exact rQ d h2 λ y j=>hw y (QG (bL.2 ⟨_,zJ (by omega),rfl⟩) j)
  ·trivial
end Go.Vc
namespace Go.Vc
open Go
abbrev sv (l:List UInt8):Value:=.string (bs l)
def In(n:Int):Prop:=-9223372036854775808<=n/\n<=9223372036854775807
def cW{n:Int}(h:In n):IntKind.i64.wrap n=n:=by
 obtain⟨a,h1⟩:=h;simp only[IntKind.wrap,IntKind.signed,IntKind.bits]
 simp
 omega
def cA{n:Int}(h : -9223372036854775808<=n/\n<=9223372036854775807):IntKind.i64.wrap n=n:=cW h
def jZ{N k m:Nat}{Q:Nat->Prop}(h:k<N/\m=N-k/\k<9223372036854775807)(q:Q (k+1)):∃ m',m'<m/\∃ a:Nat,IntKind.i64.wrap ((k:Int)+1)=(a:Int)/\a<=N/\m'=N-a/\Q a :=
 ⟨N-(k+1),by omega,k+1,cW ⟨by omega,by omega⟩,by omega,rfl,q⟩
def inc{k n:Nat}(h:n<=9223372036854775807)(a:k<n):IntKind.i64.wrap ((k:Int)+1)=((k+1:Nat):Int):=cW ⟨by omega,by omega⟩
def gK(l:List UInt8)(i:Nat):(bs l)[i]?=l[i]?:=by
 by_cases h:i<l.length
 ·rw[getElem?_pos (bs l) i h,Du h]; rfl
 ·rw[getElem?_neg (bs l) i h,cr (by omega)]
def zS(l:List UInt8)(m n:Nat):(bs l).extract m n=bs ((l.drop m).take (n-m)):=by
 apply HD;rw[Nk];apply Array.toList_inj.1;rw[Nl,No];simp[bs]
def Fh(l:List UInt8)(n:Nat):(bs l).extract 0 n=bs (l.take n):=by rw[zS]; simp
def fG(l:List UInt8):(bs l).toList=l:=by rw[Go.ByteArray.toList_eq]; simp[bs]
def dX(l:List UInt8):(bs l).size=l.length:=by simp[bs,ByteArray.size]
def gY(l m:List UInt8):bs l++bs m=bs (l++m):=by
 apply HD; simp[bs]
def Xu(b:ByteArray):b=bs b.data.toList:=by cases b; simp[bs]
namespace I6
def l(u:I6):List Int:=[u.a,u.b,u.c,u.d,u.e,u.f]
def at'(u:I6):Nat->Int
 | 0=>u.a
 | 1=>u.b
 | 2=>u.c
 | 3=>u.d
 | 4=>u.e
 | 5=>u.f
 | _=>0
def get(u:I6)(k:Nat)(a:k<6):(u.vs.toArray:Array Value)[k*1]?=some (iv (u.at' k)):=by
 match k,a with
 | 0,_|1,_|2,_|3,_|4,_|5,_=>rfl
def pT(u:I6)(k:Nat)(a:k<6):u.l[k]?=some (u.at' k):=by
 match k,a with
 | 0,_|1,_|2,_|3,_|4,_|5,_=>rfl
def size(u:I6):u.vs.toArray.size=6:=rfl
def len(u:I6):u.l.length=6:=rfl
def one(u:I6):∀ v∈u.vs,v.oneCell'=true:=by
 intro v a; simp[vs] at a; rcases a with rfl|rfl|rfl|rfl|rfl|rfl<;>rfl
def ext'{u v:I6}(h:∀ k,k<6->u.at' k=v.at' k):u=v:=by
 cases u; cases v
 have a:=h 0 (by decide); have h1:=h 1 (by decide); have h2:=h 2 (by decide); have h3:=h 3 (by decide); have h4:=h 4 (by decide); have b:=h 5 (by decide);simp only[at'] at a h1 h2 h3 h4 b;subst a h1 h2 h3 h4 b; rfl
def beq_iff{u v:I6}:u.beq v=true<->u=v:=by
 cases u; cases v
 simp[beq]
instance:DecidableEq I6:=λ u v=>if h:u.beq v=true then .isTrue (beq_iff.1 h) else .isFalse λ e=>h (beq_iff.2 e)
def beq_eq(u v:I6):u.beq v=decide (u=v):=by
 cases h:u.beq v with
 | true=>rw[zC (beq_iff.1 h)]
 | false=>rw[zD λ e=>by rw[beq_iff.2 e] at h; cases h]
def Bj(l:List Int):I6:=⟨l.getD 0 0,l.getD 1 0,l.getD 2 0,l.getD 3 0,l.getD 4 0,l.getD 5 0⟩
def map(f:Int->Int)(u:I6):I6:=⟨f u.a,f u.b,f u.c,f u.d,f u.e,f u.f⟩
def zip(f:Int->Int->Int)(u v:I6):I6:=⟨f u.a v.a,f u.b v.b,f u.c v.c,f u.d v.d,f u.e v.e,f u.f v.f⟩
def iG(f:Int->Int->Int)(u v:I6)(k:Nat)(a:k<6):(zip f u v).at' k=f (u.at' k) (v.at' k):=by
 match k,a with
 | 0,_|1,_|2,_|3,_|4,_|5,_=>rfl
def mix(k:Nat)(u v:I6):I6:=⟨if 0<k then u.a else v.a,if 1<k then u.b else v.b,if 2<k then u.c else v.c,if 3<k then u.d else v.d,if 4<k then u.e else v.e,if 5<k then u.f else v.f⟩
def OP(u v:I6):mix 0 u v=v:=rfl
def mD(u v:I6):mix 6 u v=u:=rfl
def cX(u v:I6)(k j:Nat)(a:j<6):(mix k u v).at' j=if j<k then u.at' j else v.at' j:=by
 match j,a with
 | 0,_|1,_|2,_|3,_|4,_|5,_=>rfl
def gD(u v:I6)(k:Nat)(a:k<6):(mix k u v).vs.toArray.setIfInBounds k (iv (u.at' k))=(mix (k+1) u v).vs.toArray:=by
 match k,a with
 | 0,_|1,_|2,_|3,_|4,_|5,_=>rfl
def put(u:I6)(k:Nat)(x:Int):I6:=match k with
 | 0=>{ u with a:=x }
 | 1=>{ u with b:=x }
 | 2=>{ u with c:=x }
 | 3=>{ u with d:=x }
 | 4=>{ u with e:=x }
 | 5=>{ u with f:=x }
 | _=>u
def jf(u:I6)(k:Nat)(x:Int)(a:k<6):u.vs.toArray.setIfInBounds k (iv x)=(u.put k x).vs.toArray:=by
 match k,a with
 | 0,_|1,_|2,_|3,_|4,_|5,_=>rfl
def ie(u:I6)(k j:Nat)(x:Int)(b:k<6)(a:j<6):(u.put k x).at' j=if j=k then x else u.at' j:=by
 match k,b,j,a with
 | 0,_,0,_|0,_,1,_|0,_,2,_|0,_,3,_|0,_,4,_|0,_,5,_=>rfl
 | 1,_,0,_|1,_,1,_|1,_,2,_|1,_,3,_|1,_,4,_|1,_,5,_=>rfl
 | 2,_,0,_|2,_,1,_|2,_,2,_|2,_,3,_|2,_,4,_|2,_,5,_=>rfl
 | 3,_,0,_|3,_,1,_|3,_,2,_|3,_,3,_|3,_,4,_|3,_,5,_=>rfl
 | 4,_,0,_|4,_,1,_|4,_,2,_|4,_,3,_|4,_,4,_|4,_,5,_=>rfl
 | 5,_,0,_|5,_,1,_|5,_,2,_|5,_,3,_|5,_,4,_|5,_,5,_=>rfl
end I6
def aC.cat{w b c:World}{F G:List Nat}(h:aC w b F)(k:aC b c G):aC w c (F++G) :=
 ⟨cC h.size k.size,λ i hi a=>(k.same i (zE hi h.size) λ e=>a (jl _ e)).trans (h.same i hi λ d=>a (iN _ d)),h.env.trans k.env⟩
def held(Q:World->Prop):aI where
 p w F:=(∀ w' G,aC w w' G->(∀ k∈F,k∉G)->Q w')/\∀ k∈F,k<w.heap.size
 loc:=λ {_ _ _ G} ⟨h,d⟩ hc hd=>⟨λ e f b c=>h e (G++f) (hc.cat b) λ k a hm=>(aV.1 hm).elim (hd k a) (c k a),λ k a=>zE (d k a) hc.size⟩
 lt:=λ ⟨_,d⟩=>d
def Ot{Q:World->Prop}{w:World}{F:List Nat}(h:(held Q).p w F):Q w:=h.1 w [] (aC.refl _ _) (by simp)
def js(A:aI)(Q:World->Prop):Prop:=∀ w F,A.p w F->Q w
def js.weak{A:aI}{Q:World->Prop}(h:js A Q):bz A (held Q):=λ _ F a =>
 ⟨F,⟨λ w' _ hc hd=>h w' F (A.loc a hc hd),λ k c=>A.lt a k c⟩,λ _ b=>b⟩
def js.star{A B:aI}{Q R:World->Prop}(h:js A Q)(k:js B R):js (star A B) λ w=>Q w/\R w:=λ w _ ⟨a,b,_,h1,h2,_⟩=>⟨h w a h1,k w b h2⟩
def js.mono{A:aI}{Q R:World->Prop}(h:js A Q)(k:∀ w,Q w->R w):js A R:=λ w F a=>k w (h w F a)
def aW(Q:World->Prop):js (held Q) Q:=λ _ _ h=>Ot h
def eI{Q R:World->Prop}(k:∀ w,Q w->R w):bz (held Q) (held R):=((aW Q).mono k).weak
def St.held{w0 w:World}{A:aI}{Q:World->Prop}(h:St w0 w A)(k:js A Q):St w0 w (Vc.held Q):=h.weak k.weak
def St.imp{w0 w:World}{A:aI}{Q:World->Prop}(h:St w0 w A)(k:js A Q):Q w:=let ⟨F,hA,_⟩:=h; k w F hA
def St.bC{w0 w:World}{l:List aI}{Q:World->Prop}(h:St w0 w (Sep l))(i:Nat)(e:l[i]?=some (Vc.held Q)):Q w:=(h.out i e).first.imp (aW Q)
def St.aB{w0 w:World}{l:List aI}(h:St w0 w (Sep l))(cs:Array Value){T:TypeId}{R:Nat->World->Prop}(k:∀ r w',St w0 w' (Sep (aj r cs T :: l))->R r w'):cR w (.cells cs T) R:=k _ _ (h.fu cs T)
def aG{w:World}(cs:Array Value){T:TypeId}{R:Nat->World->Prop}(k:∀ r w',St w w' (Sep [aj r cs T,emp])->R r w'):cR w (.cells cs T) R:=(St.start w).one.aB cs k
def aq{α:Type}{p:Option α}{F:α->Prop}{q:α}(h:p=some q)(k:F q):bO p F:=by rw[h]; exact k
def BM{α:Type}(sz:Nat)(R:World->α->List Value->Prop)(w:World)(a:OA)(l:List α):Prop :=
 ∀ (i:Nat) (x:α),l[i]?=some x->∃ q cs,a=some q/\aA w (q.add (i*sz)) 0 cs/\cs.length=sz/\R w x cs
abbrev cP {α:Type} (sz:Nat) (f:α->List Value) (w:World) (a:OA) (l:List α):Prop:=BM sz (λ _ x cs=>cs=f x) w a l
def BM.av{α:Type}{sz:Nat}{R:World->α->List Value->Prop}{w w':World}{a:OA}{l:List α}(h:BM sz R w a l)(hc:aC w w' [])(b:∀ x cs,R w x cs->R w' x cs):BM sz R w' a l:=λ i x hi =>
 let ⟨q,cs,h1,h2,h3,h4⟩:=h i x hi
 ⟨q,cs,h1,bB hc h2,h3,b _ _ h4⟩
def cP.av{α:Type}{sz:Nat}{f:α->List Value}{w w':World}{a:OA}{l:List α}(h:cP sz f w a l)(hc:aC w w' []):cP sz f w' a l:=BM.av h hc λ _ _ h=>h
def BM.take{α:Type}{sz:Nat}{R:World->α->List Value->Prop}{w:World}{a:OA}{l:List α}(h:BM sz R w a l)(n:Nat):BM sz R w a (l.take n):=λ i x hi=>by
 rw[gV] at hi
 split at hi
 ·exact h i x hi
 ·cases hi
def BM.nil{α:Type}{sz:Nat}{R:World->α->List Value->Prop}{w:World}{a:OA}:BM sz R w a []:=λ i x hi=>by simp at hi
def cP.at{α:Type}{sz:Nat}{f:α->List Value}{w:World}{a:OA}{l:List α}(h:cP sz f w a l){i:Nat}{x:α}(hi:l[i]?=some x):∃ q,a=some q/\aA w (q.add (i*sz)) 0 (f x) :=
 let ⟨q,_,h1,h2,_,h4⟩:=h i x hi
 ⟨q,h1,h4▸h2⟩
theorem aM{w:World}{a:Addr}:∀ {vs:List Value} {i:Nat},aA w a i vs->∀ (j:Nat) (v:Value),vs[j]?=some v->w.cell? (a.add (i+j))=some v
 | _ :: _,i,h,0,v,b=>by simp at b; subst b; exact h.1
 | _ :: vs,i,h,j+1,v,b=>by
  have:=aM h.2 j v (by simpa using b)
  rwa [show i+(j+1)=i+1+j by omega]
theorem FF{α:Type}{sz:Nat}{f:α->List Value}(b:∀ x,(f x).length=sz):∀ {l:List α} {i:Nat} {x:α},l[i]?=some x->∀ (j:Nat) (v:Value),(f x)[j]?=some v->(l.flatMap f)[i*sz+j]?=some v
 | [],_,_,h,_,_,_=>by simp at h
 | y :: l,0,x,h,j,v,a=>by
  simp at h; subst h;have c:j<(f y).length:=(aR.1 a).1;rw[j5,wK,aL,lD c]; exact a
 | y :: l,i+1,x,h,j,v,a=>by
  have h1:=FF b (l:=l) (i:=i) (by simpa using h) j v a;rw[j5,kH (by rw[b,gT]; omega),b,gT];rw[show i*sz+1*sz+j-sz=i*sz+j by omega];exact h1
theorem gL{α:Type}{sz:Nat}{f:α->List Value}(a:∀ x,(f x).length=sz):∀ (l:List α),(l.flatMap f).length=l.length*sz
 | []=>by simp
 | x :: l=>by rw[j5,aY,a,gL a l,gm,gT]; omega
def PU{α:Type}{sz:Nat}{f:α->List Value}(d:∀ x,(f x).length=sz){w:World}{e:TypeId}{a:OA}{c:Nat}{l:List α}(own:w.ownsRow 0 e sz (.slice a l.length c) l.length (l.flatMap f)):cP sz f w a l:=λ i x hi=>by
 have k:=(aR.1 hi).1;obtain⟨g,rfl,b⟩:=EB own (by omega);refine⟨_,f x,rfl,bM _ 0 λ j v h=>?_,d x,rfl⟩;rw[om,aL];have h1:=FF d hi j v h;show w.cell? (Addr.add ⟨g,i*sz,none⟩ j)=some v;have:(⟨g,i*sz,none⟩:Addr).add j=⟨g,i*sz+j,none⟩:=by unfold Addr.add; split<;>simp_all
 rw[this];exact b _ _ h1

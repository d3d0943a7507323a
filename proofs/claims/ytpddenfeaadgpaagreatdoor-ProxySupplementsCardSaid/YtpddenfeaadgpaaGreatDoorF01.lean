import Derived.ScopeJumps
import Derived.Test.YtpddenfeaadgpaaGreatDoorProg
import Derived.Laws.AppendOwn
import Derived.Laws.MakeOwn
import Derived.Laws.CopyRow
import Derived.Laws.IdiomCopy
import Derived.Laws.BytesArg
import Derived.IntWalk
import Derived.Laws.Bits64
import Derived.Laws.Strings
import Derived.Deep.Slices
import Derived.OpenShut
import Derived.Test.YtpddenfeaadgpaaGreatDoorF00
set_option linter.unusedVariables false
set_option maxRecDepth 100000
namespace Go.Vc
def fR:Code->List Nat
 | .region _ ops _=>ops.toList.filterMap (·.dst)
 | .seq a b=>fR a++fR b
 | .cond _ a b=>fR a++fR b
 | .block _ c=>fR c
 | .loop c=>fR c
 | .scope c=>fR c
 | _=>[]
theorem fS:∀ {c:Code} {l:Nat} {rest:Code},findLabel c l=some rest->∀ x∈fR rest,x∈fR c
 | .seq a b,l,rest,h,x,hx=>by
  simp only[findLabel] at h
  split at h
  ·rename_i r hr
   cases h
   simp only[fR,List.mem_append] at hx ⊢;exact hx.imp (fS hr x) id
  ·exact List.mem_append_right _ (fS h x hx)
 | .label l',l,rest,h,x,hx=>by
  simp only[findLabel] at h
  split at h
  ·cases h; exact hx
  ·cases h
 | .skip,_,_,h,_,_=>by simp[findLabel] at h
 | .region ..,_,_,h,_,_=>by simp[findLabel] at h
 | .cond ..,_,_,h,_,_=>by simp[findLabel] at h
 | .block ..,_,_,h,_,_=>by simp[findLabel] at h
 | .loop ..,_,_,h,_,_=>by simp[findLabel] at h
 | .exit ..,_,_,h,_,_=>by simp[findLabel] at h
 | .ret,_,_,h,_,_=>by simp[findLabel] at h
 | .goto ..,_,_,h,_,_=>by simp[findLabel] at h
 | .scope ..,_,_,h,_,_=>by simp[findLabel] at h
 | .rangeFunc ..,_,_,h,_,_=>by simp[findLabel] at h
 | .refuse ..,_,_,h,_,_=>by simp[findLabel] at h
abbrev Live:=List (Nat×TK)
def Ac:List Nat->Nat->Bool
 | [],_=>false
 | x :: l,n=>cond (Nat.beq x n) true (Ac l n)
theorem uw:∀ {l:List Nat} {n:Nat},Ac l n=true<->n∈l
 | [],n=>by simp[Ac]
 | x :: l,n=>by
  simp only[Ac,List.mem_cons]
  cases h:Nat.beq x n with
  | true=>simp[Nat.eq_of_beq_eq_true h]
  | false =>
   have:n≠x:=λ e=>by rw[e,Nat.beq_refl] at h; cases h
   simp[uw,this]
def lk:List (Nat×Value)->Nat->Option Value
 | [],_=>none
 | (s,v) :: l,n=>cond (Nat.beq s n) (some v) (lk l n)
def AX:Live->List Value->List (Nat×Value)
 | (s,_) :: l,v :: vs=>(s,v) :: AX l vs
 | _,_=>[]
def kf(mods:List Nat)(lv:List (Nat×Value))(d:Nat->Value):Nat->Tm->Tm
 | _,[]=>[]
 | i,x :: t=>(match lk lv i with|some v=>v|none=>cond (Ac mods i) (d i) x) :: kf mods lv d (i+1) t
def SJ:SK->Type->Type
 | .int _,X=>Int->X
 | .bool,X=>Bool->X
 | .str,X=>ByteArray->X
 | .ptr,X=>Option Addr->X
 | .slice,X=>Option Addr->Nat->Nat->X
 | .map,X=>Option Nat->X
 | .blk,X=>Nat->X
 | .six,X=>I6->X
 | .raw,X=>Value->X
def LJ:List SK->Type->Type
 | [],X=>X
 | k :: ks,X=>SJ k (LJ ks X)
def VJ:Live->Type->Type
 | [],X=>X
 | (_,.s k) :: l,X=>SJ k (VJ l X)
 | (_,.agg ks) :: l,X=>LJ ks (VJ l X)
def I3{X:Type}:(k:SK)->SJ k X->(Value->X->Prop)->Prop
 | .int k,J,F=>∀ n:Int,F (.int k n) (J n)
 | .bool,J,F=>∀ b:Bool,F (.bool b) (J b)
 | .str,J,F=>∀ s:ByteArray,F (.string s) (J s)
 | .ptr,J,F=>∀ p:Option Addr,F (.pointer p) (J p)
 | .slice,J,F=>∀ (a:OA) (l c:Nat),F (.slice a l c) (J a l c)
 | .map,J,F=>∀ r:Option Nat,F (.map r) (J r)
 | .blk,J,F=>∀ r:Nat,F (.pointer (some ⟨r,0,none⟩)) (J r)
 | .six,_,_=>True
 | .raw,J,F=>∀ v:Value,F v (J v)
def I2{X:Type}:(k:SK)->SJ k X->(List Value->X->Prop)->Prop
 | .int k,J,F=>∀ n:Int,F [.int k n] (J n)
 | .bool,J,F=>∀ b:Bool,F [.bool b] (J b)
 | .str,J,F=>∀ s:ByteArray,F [.string s] (J s)
 | .ptr,J,F=>∀ p:Option Addr,F [.pointer p] (J p)
 | .slice,J,F=>∀ (a:OA) (l c:Nat),F [.slice a l c] (J a l c)
 | .map,J,F=>∀ r:Option Nat,F [.map r] (J r)
 | .blk,J,F=>∀ r:Nat,F [.pointer (some ⟨r,0,none⟩)] (J r)
 | .six,J,F=>∀ u:I6,F u.vs (J u)
 | .raw,J,F=>∀ v:Value,F [v] (J v)
def HT{X:Type}:(ks:List SK)->LJ ks X->(List Value->X->Prop)->Prop
 | [],J,F=>F [] J
 | k :: ks,J,F=>I2 k J λ xs J=>HT ks J λ vs J=>F (xs++vs) J
def Cj{X:Type}:(l:Live)->VJ l X->(List Value->X->Prop)->Prop
 | [],J,F=>F [] J
 | (_,.s k) :: l,J,F=>I3 k J λ v J=>Cj l J λ vs J=>F (v :: vs) J
 | (_,.agg ks) :: l,J,F=>HT ks J λ cs J=>Cj l J λ vs J=>F (.agg cs.toArray :: vs) J
def tB{X:Type}:(k:SK)->SJ k X->Value->(X->Prop)->Prop
 | .int k,J,v,F=>match v with
  | .int k' n=>cond (FT k k') (F (J n)) False
  | _=>False
 | .bool,J,v,F=>match v with
  | .bool b=>F (J b)
  | _=>False
 | .str,J,v,F=>match v with
  | .string s=>F (J s)
  | _=>False
 | .ptr,J,v,F=>match v with
  | .pointer p=>F (J p)
  | _=>False
 | .slice,J,v,F=>match v with
  | .slice a l c=>F (J a l c)
  | _=>False
 | .map,J,v,F=>match v with
  | .map r=>F (J r)
  | _=>False
 | .blk,J,v,F=>match v with
  | .pointer (some ⟨r,0,none⟩)=>F (J r)
  | _=>False
 | .six,_,_,_=>False
 | .raw,J,v,F=>F (J v)
def F0{X:Type}:(k:SK)->SJ k X->List Value->(X->List Value->Prop)->Prop
 | .int k,J,vs,F=>match vs with
  | .int k' n :: r=>cond (FT k k') (F (J n) r) False
  | _=>False
 | .bool,J,vs,F=>match vs with
  | .bool b :: r=>F (J b) r
  | _=>False
 | .str,J,vs,F=>match vs with
  | .string s :: r=>F (J s) r
  | _=>False
 | .ptr,J,vs,F=>match vs with
  | .pointer p :: r=>F (J p) r
  | _=>False
 | .slice,J,vs,F=>match vs with
  | .slice a l c :: r=>F (J a l c) r
  | _=>False
 | .map,J,vs,F=>match vs with
  | .map m :: r=>F (J m) r
  | _=>False
 | .blk,J,vs,F=>match vs with
  | .pointer (some ⟨b,0,none⟩) :: r=>F (J b) r
  | _=>False
 | .six,J,vs,F=>match vs with
  | .int .i64 a :: .int .i64 b :: .int .i64 c :: .int .i64 d :: .int .i64 e :: .int .i64 f :: r=>F (J ⟨a,b,c,d,e,f⟩) r
  | _=>False
 | .raw,J,vs,F=>match vs with
  | v :: r=>F (J v) r
  | _=>False
def F4{X:Type}:(ks:List SK)->LJ ks X->List Value->(X->Prop)->Prop
 | [],J,[],F=>F J
 | k :: ks,J,vs,F=>F0 k J vs λ J r=>F4 ks J r F
 | [],_,_ :: _,_=>False
def xk{X:Type}:(l:Live)->VJ l X->Tm->(X->Prop)->Prop
 | [],J,_,F=>F J
 | (s,.s k) :: l,J,t,F=>tB k J (gt t s) λ J=>xk l J t F
 | (s,.agg ks) :: l,J,t,F=>match gt t s with
  | .agg cs=>F4 ks J cs.toList λ J=>xk l J t F
  | _=>False
theorem Cn{X:Type}{k:SK}{J:SJ k X}{v:Value}{F:X->Prop}(h:tB k J v F):∃ j,F j/\∀ G,I3 k J G->G v j:=by
 cases k with
 | int k =>
  cases v<;>simp only[tB] at h
  obtain⟨hk,hR⟩:=gC h;have:=j9 hk;subst this;exact⟨_,hR,λ G hG=>hG _⟩
 | bool=>cases v<;>simp only[tB] at h; exact⟨_,h,λ G hG=>hG _⟩
 | str=>cases v<;>simp only[tB] at h; exact⟨_,h,λ G hG=>hG _⟩
 | ptr=>cases v<;>simp only[tB] at h; exact⟨_,h,λ G hG=>hG _⟩
 | slice=>cases v<;>simp only[tB] at h; exact⟨_,h,λ G hG=>hG _ _ _⟩
 | map=>cases v<;>simp only[tB] at h; exact⟨_,h,λ G hG=>hG _⟩
 | blk =>
  simp only[tB] at h
  split at h
  ·exact⟨_,h,λ G hG=>hG _⟩
  ·exact h.elim
 | six=>exact h.elim
 | raw=>exact⟨_,h,λ G hG=>hG _⟩
theorem Cm{X:Type}{k:SK}{J:SJ k X}{vs:List Value}{F:X->List Value->Prop}(h:F0 k J vs F):∃ j xs r,vs=xs++r/\F j r/\∀ G,I2 k J G->G xs j:=by
 cases k<;>simp only[F0] at h<;>split at h<;>first|exact h.elim|skip
 ·obtain⟨hk,hR⟩:=gC h;have:=j9 hk;subst this;exact⟨_,[_],_,rfl,hR,λ G hG=>hG _⟩
 ·exact⟨_,[_],_,rfl,h,λ G hG=>hG _⟩
 ·exact⟨_,[_],_,rfl,h,λ G hG=>hG _⟩
 ·exact⟨_,[_],_,rfl,h,λ G hG=>hG _⟩
 ·exact⟨_,[_],_,rfl,h,λ G hG=>hG _ _ _⟩
 ·exact⟨_,[_],_,rfl,h,λ G hG=>hG _⟩
 ·exact⟨_,[_],_,rfl,h,λ G hG=>hG _⟩
 ·exact⟨_,[_,_,_,_,_,_],_,rfl,h,λ G hG=>hG ⟨_,_,_,_,_,_⟩⟩
 ·exact⟨_,[_],_,rfl,h,λ G hG=>hG _⟩
theorem ue{X:Type}:∀ {ks:List SK} {J:LJ ks X} {vs:List Value} {F:X->Prop},F4 ks J vs F->∃ j,F j/\∀ G,HT ks J G->G vs j
 | [],J,[],F,h=>⟨J,h,λ G hG=>hG⟩
 | k :: ks,J,vs,F,h=>by
  obtain⟨j,xs,r,rfl,h1,h2⟩:=Cm (show F0 k J vs λ J r=>F4 ks J r F from by cases vs<;>exact h);obtain⟨j',h3,h4⟩:=ue h1;exact⟨j',h3,λ G hG=>h4 (λ vs J=>G (xs++vs) J) (h2 _ hG)⟩
 | [],_,_ :: _,_,h=>h.elim
def nB(l:Live)(t:Tm):List Value:=l.map λ s=>gt t s.1
theorem ij{X:Type}{t:Tm}:∀ {l:Live} {J:VJ l X} {F:X->Prop},xk l J t F->∃ j,F j/\∀ G,Cj l J G->G (nB l t) j
 | [],J,F,h=>⟨J,h,λ G hG=>hG⟩
 | (s,.s k) :: l,J,F,h=>by
  obtain⟨j,h1,h2⟩:=Cn (show tB k J (gt t s) λ J=>xk l J t F from h);obtain⟨j',h3,h4⟩:=ij h1;exact⟨j',h3,λ G hG=>h4 (λ vs J=>G (gt t s :: vs) J) (h2 _ hG)⟩
 | (s,.agg ks) :: l,J,F,h=>by
  unfold xk at h
  split at h
  ·rename_i cs hcs;obtain⟨j,h1,h2⟩:=ue h;obtain⟨j',h3,h4⟩:=ij h1;refine⟨j',h3,λ G hG=>?_⟩;have:=h4 (λ vs J=>G (.agg cs :: vs) J) (by simpa using h2 _ hG);simpa[nB,hcs] using this
  ·exact h.elim
theorem Bq{t:Tm}{n:Nat}{v:Value}:∀ {l:Live},lk (AX l (nB l t)) n=some v->v=gt t n
 | [],h=>by cases h
 | (s,k) :: l,h=>by
  simp only[nB,List.map_cons,AX,lk] at h
  cases hb:Nat.beq s n with
  | true=>rw[hb] at h; cases h; rw[Nat.eq_of_beq_eq_true hb]
  | false=>rw[hb] at h; exact Bq h
theorem Bm{mods:List Nat}{lv:List (Nat×Value)}{d:Nat->Value}:∀ (t:Tm) (i j:Nat),j<t.length ->
  gt (kf mods lv d i t) j=match lk lv (i+j) with|some v=>v|none=>cond (Ac mods (i+j)) (d (i+j)) (gt t j)
 | [],_,j,h=>by simp at h
 | x :: t,i,0,_=>by simp[kf,gt]
 | x :: t,i,j+1,h=>by
  have:=Bm (mods:=mods) (lv:=lv) (d:=d) t (i+1) j (by simpa using h);rw[show i+1+j=i+(j+1) by omega] at this;exact this
theorem kj{mods:List Nat}{lv:List (Nat×Value)}{d:Nat->Value}:∀ (t:Tm) (i:Nat),(kf mods lv d i t).length=t.length
 | [],_=>rfl
 | x :: t,i=>by simp[kf,kj t (i+1)]
theorem fill_eq{mods:List Nat}{l:Live}{t t' : Tm}(h:vp mods t t'):kf mods (AX l (nB l t')) (gt t') 0 t=t':=by
 refine Eh _ _ ((kj t 0).trans h.1.symm) λ i hi=>?_;rw[kj] at hi;rw[Bm t 0 i hi,Nat.zero_add]
 cases hl:lk (AX l (nB l t')) i with
 | some v=>exact Bq hl
 | none =>
  cases hm:Ac mods i with
  | true=>rfl
  | false =>
   have:i∉mods:=λ h=>by rw[uw.2 h] at hm; cases hm
   exact(h.2 i this).symm
abbrev Df:=List Deferred
def B9(F:Tm->Df->World->Prop)(Q:Exit->Tm->Df->World->Prop):Exit->Tm->Df->World->Prop
 | .normal,t,d,w=>F t d w
 | e,t,d,w=>Q e t d w
def I5(id:Nat)(Q:Exit->Tm->Df->World->Prop):Exit->Tm->Df->World->Prop
 | .exit i,t,d,w=>cond (Nat.beq i id) (Q .normal t d w) (Q (.exit i) t d w)
 | e,t,d,w=>Q e t d w
def calm:Code->Bool
 | .seq a b=>calm a&&calm b
 | .cond _ a b=>calm a&&calm b
 | .block _ a=>calm a
 | .loop a=>calm a
 | .rangeFunc _ _ _ _=>false
 | .region _ ops _=>ko ops.toList
 | .scope _=>false
 | _=>true
def exs:Code->List Nat
 | .exit i=>[i]
 | .seq a b=>exs a++exs b
 | .cond _ a b=>exs a++exs b
 | .block id c=>(exs c).filter λ i=>!(Nat.beq i id)
 | .loop c=>exs c
 | .rangeFunc _ _ a b=>exs a++exs b
 | _=>[]
def wG:Code->Bool
 | .ret=>true
 | .seq a b=>wG a||wG b
 | .cond _ a b=>wG a||wG b
 | .block _ c=>wG c
 | .loop c=>wG c
 | .rangeFunc _ _ a b=>wG a||wG b
 | _=>false
def JZ:List (Nat×(World->Prop))->Nat->World->Prop
 | [],_,_=>False
 | x :: l,i,w=>cond (Nat.beq i x.1) (x.2 w) (JZ l i w)
theorem xR{F:Nat->World->Prop}{i:Nat}{w:World}:∀ {l:List Nat},JZ (l.map λ id=>(id,F id)) i w->F i w
 | [],h=>h.elim
 | j :: l,h=>by
  simp only[List.map_cons,JZ] at h
  cases hb:Nat.beq i j with
  | true=>rw[hb] at h; rw[Nat.eq_of_beq_eq_true hb]; exact h
  | false=>rw[hb] at h; exact xR h
def AM(P:Program)(gf:FuncId)(lb:List Value)(rec:FuncId->Nat->Loop)(w:World)(N R:World->Prop)(X:List (Nat×(World->Prop))):Prop :=
 ∀ fn:FuncId,Calls P gf (Value.func (.yield (w.heap.size+1)) #[] #[] :: lb).toArray ((w.alloc (.deferred (some []))).alloc (.loop (rec fn w.heap.size))) λ e w2=>(∃ v,e=.returned v) /\
  ∃ r,w2.heap[w.heap.size+1]?=some (.loop r)/\r.state≠.busy/\match r.pending with
   | none=>N (w2.putObj (w.heap.size+1) (.loop { r with state:=.exhausted }))
   | some .ret=>R (w2.putObj (w.heap.size+1) (.loop { r with state:=.exhausted }))
   | some (.exit i)=>JZ X i (w2.putObj (w.heap.size+1) (.loop { r with state:=.exhausted }))
   | _=>False
def wF(P:Program)(v:Value)(F:FuncId->List Value->Prop):Prop:=match v with
 | .func (.func gf) first lb=>cond (first.isEmpty&&fB P gf) (F gf lb.toList) False
 | _=>False
def JY(c:Code)(sc:Code->Code->Nat->(Exit->Tm->Df->World->Prop)->Tm->Df->World->Prop)(p:Nat)(Q:Exit->Tm->Df->World->Prop):Exit->Tm->Df->World->Prop
 | .goto l,t,d,w=>match findLabel c l with
  | some rest=>sc c rest p Q t d w
  | none=>False
 | e,t,d,w=>Q e t d w
def xd(P:Program)(ann:Nat->Option Live)(sc:Code->Code->Nat->(Exit->Tm->Df->World->Prop)->Tm->Df->World->Prop):Code->Nat->(Exit->Tm->Df->World->Prop)->Tm->Df->World->Prop
 | .skip,_,Q,t,d,w=>Q .normal t d w
 | .label _,_,Q,t,d,w=>Q .normal t d w
 | .region _ ops draw,_,Q,t,d,w=>cond (ko ops.toList) (match draw with
  | false=>Cb P ops ops.toList t w (λ t w=>Q .normal t d w)
  | true=>cond (P.follows .mixedOrders&&Region.noSelect ops) (jl P ops ops.size (Array.replicate ops.size false) [] t w.drew (λ t w=>Q .normal t d w)) False)
  (cond draw False (tj P ops ops.toList t d w λ t d w=>Q .normal t d w))
 | .seq a b,p,Q,t,d,w=>match ann p with
  | none=>xd P ann sc a (2*p) (B9 (xd P ann sc b (2*p+1) Q) Q) t d w
  | some lv=>cond (calm a) (∃ J:VJ lv (World->Prop),(∀ w',Cj lv J λ vs j=>j w'->∀ x:Nat->Value,xd P ann sc b (2*p+1) Q (kf (fR a) (AX lv vs) x 0 t) d w') /\
    xd P ann sc a (2*p) (B9 (λ t' _ w'=>xk lv J t' λ j=>j w') Q) t d w) False
 | .cond c a b,p,Q,t,d,w=>match ev t c with
  | .bool x=>cond x (xd P ann sc a (2*p) Q t d w) (xd P ann sc b (2*p+1) Q t d w)
  | _=>False
 | .block id c,p,Q,t,d,w=>xd P ann sc c (2*p) (I5 id Q) t d w
 | .loop c,p,Q,t,d,w=>match ann p with
  | none=>xd P ann sc c (2*p) (B9 (λ _ _ _=>False) Q) t d w
  | some lv=>cond (calm c) (∃ I:VJ lv (World->Nat->Prop),(xk lv I t λ i=>∃ m,i w m) /\
    ∀ w' m,Cj lv I λ vs i=>i w' m->∀ x:Nat->Value,xd P ann sc c (2*p) (B9 (λ t' _ w''=>xk lv I t' λ i'=>∃ m',m' < m/\i' w'' m') Q) (kf (fR c) (AX lv vs) x 0 t) d w') False
 | .exit id,_,Q,t,d,w=>Q (.exit id) t d w
 | .ret,_,Q,t,d,w=>Q .ret t d w
 | .rangeFunc g ps assign body,_,Q,t,d,w=>wF P (ev t g) λ gf lb =>
   AM P gf lb (λ fn D=>{ state:=.ready,pending:=none,fn:=fn,tmps:=t.toArray,params:=ps,assign:=assign,body:=body,defers:=D }) w (λ w'=>Q .normal t ({ target:=.collected w.heap.size,args:=#[] } :: d) w') (λ w'=>cond (wG body) (Q .ret t ({ target:=.collected w.heap.size,args:=#[] } :: d) w') False) ((exs body).map λ i=>(i,λ w'=>Q (.exit i) t ({ target:=.collected w.heap.size,args:=#[] } :: d) w'))
 | .scope c,p,Q,t,d,w=>xd P ann sc c (2*p) (JY c sc p Q) t d w
 | .goto l,_,Q,t,d,w=>Q (.goto l) t d w
 | _,_,_,_,_,_=>False
def J1(P:Program)(ann:Nat->Option Live):Nat->Code->Code->Nat->(Exit->Tm->Df->World->Prop)->Tm->Df->World->Prop
 | 0=>λ _ _ _ _ _ _ _=>False
 | n+1=>λ c rest p Q t d w=>xd P ann (J1 P ann n) rest (2*p+1) (JY c (J1 P ann n) p Q) t d w
def vc(P:Program)(ann:Nat->Option Live):Code->Nat->(Exit->Tm->Df->World->Prop)->Tm->Df->World->Prop:=xd P ann (J1 P ann 2)
def lift(t0:Tm)(d0:Df)(c:Code)(Q:Exit->Tm->Df->World->Prop):Exit->Act->World->Prop:=λ e a w =>
 (∀ c,e≠.panic c)/\∃ t' d',a=jy t' d'/\vp (fR c) t0 t'/\(calm c=true->d' = d0)/\Q e t' d' w
theorem KB{P:Program}{c:Code}{Q:Exit->Act->World->Prop}{a:Act}{w:World}:c.wpIn (FW none) 0 P Q a w<->c.wp P Q a w:=wpIn_wide
theorem wU{P:Program}{c:Code}{Q:Exit->Act->World->Prop}{a:Act}{w:World}(h:∀ (b:Frame) (k:List Item) (cs:List Frame),∃ e a' w',Q e a' w'/\Arrives P (lone (b.at a (.code c :: .inScope c :: k)) cs w) b k cs e a' w'):(Code.scope c).wp P Q a w:=λ b k cs=>by
 obtain⟨e,a',w',hq,harr⟩:=h b k cs;exact⟨e,a',w',hq,.of_steps (.one step_scope) harr⟩
def iT(P:Program)(c cur:Code)(Q:Exit->Act->World->Prop)(a:Act)(w:World):Prop :=
 ∀ (b:Frame) (k:List Item) (cs:List Frame),∃ e a' w',Q e a' w'/\Arrives P (lone (b.at a (.code cur :: .inScope c :: k)) cs w) b k cs e a' w'
theorem iT.mono{P:Program}{c cur:Code}{Q Q' : Exit->Act->World->Prop}{a:Act}{w:World}(h:iT P c cur Q a w)(k:∀ e a w,Q e a w->Q' e a w):iT P c cur Q' a w:=λ b l cs =>
 let ⟨e,a',w',hq,harr⟩:=h b l cs
 ⟨e,a',w',k _ _ _ hq,harr⟩
theorem AP{P:Program}{c cur:Code}{Q:Exit->Act->World->Prop}{a:Act}{w:World}(h:cur.wp P (λ e a' w'=>(∀ l,e=.goto l->∃ rest,findLabel c l=some rest/\iT P c rest Q a' w')/\((∀ l,e≠.goto l)->Q e a' w')) a w):iT P c cur Q a w:=by
 intro b k cs;obtain⟨e,a₁,w₁,hq,harr⟩:=h b (.inScope c :: k) cs
 cases e with
 | normal=>exact⟨.normal,a₁,w₁,hq.2 (by simp),Steps.trans harr (.one step_inScope)⟩
 | exit id=>exact⟨.exit id,a₁,w₁,hq.2 (by simp),λ k' hk=>harr k' (by simp[exitTo,hk])⟩
 | goto l =>
  obtain⟨rest,hf,hs⟩:=hq.1 l rfl;have hg:gotoIn l (.inScope c :: k)=some (.code rest :: .inScope c :: k):=by simp[gotoIn,hf]
  obtain⟨e₂,a₂,w₂,hq₂,harr₂⟩:=hs b k cs;exact⟨e₂,a₂,w₂,hq₂,.of_steps (harr _ hg) harr₂⟩
 | ret=>exact⟨_,a₁,w₁,hq.2 (by simp),harr⟩
 | panic ch=>exact⟨_,a₁,w₁,hq.2 (by simp),harr⟩
 | outgrown=>exact⟨_,a₁,w₁,hq.2 (by simp),harr⟩
def HC(t0:Tm)(c:Code)(Q:Exit->Tm->Df->World->Prop):Exit->Act->World->Prop:=λ e a w =>
 (∀ c,e≠.panic c)/\∃ t' d',a=jy t' d'/\vp (fR c) t0 t'/\Q e t' d' w
def J7(P:Program)(sc:Code->Code->Nat->(Exit->Tm->Df->World->Prop)->Tm->Df->World->Prop):Prop :=
 ∀ (c rest:Code) (p:Nat) (Q:Exit->Tm->Df->World->Prop) (t:Tm) (d:Df) (w:World),(∀ x∈fR rest,x∈fR c)->sc c rest p Q t d w->iT P c rest (HC t c Q) (jy t d) w
theorem sV{P:Program}{sc:Code->Code->Nat->(Exit->Tm->Df->World->Prop)->Tm->Df->World->Prop}(hsc:J7 P sc){c cur:Code}{p:Nat}{Q:Exit->Tm->Df->World->Prop}{t:Tm}{d:Df}{w:World}(hd:∀ x∈fR cur,x∈fR c)(h:cur.wpIn (FW none) 0 P (lift t d cur (JY c sc p Q)) (jy t d) w):iT P c cur (HC t c Q) (jy t d) w:=by
 refine AP (KB.1 (wpIn_mono h λ e a' w' hq=>?_));obtain⟨hp,t',d',rfl,ha,_,hq⟩:=hq;have ha':=fK hd ha;refine⟨λ l he=>?_,λ hn=>?_⟩
 ·subst he;simp only[JY] at hq
  split at hq
  ·rename_i rest hr;refine⟨rest,hr,(hsc c rest p Q t' d' w' (fS hr) hq).mono λ e a w hq=>?_⟩;obtain⟨hp,t'',d'',rfl,hb,hq⟩:=hq;exact⟨hp,t'',d'',rfl,fK (λ x hx=>(List.mem_append.1 hx).elim id id) (kX ha' hb),hq⟩
  ·exact hq.elim
 ·cases e with
  | goto l=>exact absurd rfl (hn l)
  | panic c=>exact absurd rfl (hp c)
  | _=>exact⟨hp,t',d',rfl,ha',hq⟩
theorem fe{P:Program}{ann:Nat->Option Live}{sc:Code->Code->Nat->(Exit->Tm->Df->World->Prop)->Tm->Df->World->Prop}(hsc:J7 P sc){ro:Option Nat}:∀ (c:Code) (p:Nat) (Q:Exit->Tm->Df->World->Prop) (t:Tm) (d:Df) (w:World),(ro=none\/calm c=true) ->
  xd P ann sc c p Q t d w->c.wpIn (FW ro) 0 P (lift t d c Q) (jy t d) w
 | .skip,_,Q,t,d,w,_,h=>wpIn_skip ⟨by simp,t,d,rfl,b9 _ _,λ _=>rfl,h⟩
 | .label _,_,Q,t,d,w,_,h=>wpIn_label ⟨by simp,t,d,rfl,b9 _ _,λ _=>rfl,h⟩
 | .exit id,_,Q,t,d,w,_,h=>wpIn_exit ⟨by simp,t,d,rfl,b9 _ _,λ _=>rfl,h⟩
 | .ret,_,Q,t,d,w,_,h=>wpIn_ret ⟨by simp,t,d,rfl,b9 _ _,λ _=>rfl,h⟩
 | .region id ops draw,_,Q,t,d,w,_,h=>by
  have hds:∀ (i:Nat) (o:Oper),ops[i]?=some o->∀ d,o.dst=some d->d∈ops.toList.filterMap (·.dst):=λ i o ho d hd =>
   List.mem_filterMap.2 ⟨o,by simpa using Array.mem_of_getElem? ho,hd⟩
  simp only[xd] at h
  cases hn:ko ops.toList with
  | false =>
   rw[hn] at h
   cases draw with
   | true=>exact h.elim
   | false =>
    obtain rfl:ro=none:=by
     rcases ‹ro=none\/_› with h|h
     ·exact h
     ·simp only[calm,hn] at h; cases h
    refine wpIn_region_list (lF (ds:=fR (.region id ops false)) (t0:=t) ops.toList t d w _ (λ t' d' w' ha hk=>⟨by simp,t',d',rfl,ha,λ hc=>?_,hk⟩) (λ o ho d hd=>List.mem_filterMap.2 ⟨o,ho,hd⟩) (b9 _ _) h);simp only[calm,hn] at hc; cases hc
  | true =>
  rw[hn,cond_true] at h
  cases draw with
  | false =>
   refine wpIn_region_list (tn (d:=d) (ds:=fR (.region id ops false)) (t0:=t) ops.toList t w _ hn (λ t' w' ha hk=>⟨by simp,t',d,rfl,ha,λ _=>rfl,hk⟩) (λ o ho d hd=>List.mem_filterMap.2 ⟨o,ho,hd⟩) (b9 _ _) h)
  | true =>
   obtain⟨h1,h2⟩:=gC h;simp only[Bool.and_eq_true] at h1;have hnd:∀ (j:Nat) (o:Oper),ops[j]?=some o->eJ o.op=true:=λ j o ho=>by
    have:=List.all_eq_true.1 hn o (by simpa using Array.mem_of_getElem? ho);exact this
   refine wpIn_region_any h1.1 (tu _ _ [] _ _ ?_);refine kV (dd:=d) (ds:=fR (.region id ops true)) (t0:=t) (K:=λ t w=>Q .normal t d w) hnd h1.2 (λ c a w h=>h.1 c rfl) (λ t' w' ha hk=>⟨by simp,t',d,rfl,ha,λ _=>rfl,hk⟩) hds _ _ [] t _ (b9 _ _) ?_ (λ p hp=>by cases hp) h2;intro j o _ hj;rcases Nat.lt_or_ge j ops.size with h|h<;>simp[h] at hj
 | .seq a b,p,Q,t,d,w,hc,h=>by
  have hca:ro=none\/calm a=true:=hc.imp id λ h=>by simp only[calm,Bool.and_eq_true] at h; exact h.1
  have hcb:ro=none\/calm b=true:=hc.imp id λ h=>by simp only[calm,Bool.and_eq_true] at h; exact h.2
  refine wpIn_seq ?_;simp only[xd] at h
  split at h
  ·refine wpIn_mono (fe hsc a _ _ t d w hca h) (λ e a' w' hq=>?_);obtain⟨hp,t',d',rfl,ha,hd,hq⟩:=hq
   cases e with
   | normal =>
    refine wpIn_mono (fe hsc b _ _ t' d' w' hcb hq) (λ e a'' w'' hq'=>?_);obtain⟨hp',t'',d'',rfl,ha',hd',hq'⟩:=hq';refine⟨hp',t'',d'',rfl,kX ha ha',λ hk=>?_,hq'⟩;simp only[calm,Bool.and_eq_true] at hk;rw[hd' hk.2,hd hk.1]
   | panic c=>exact absurd rfl (hp c)
   | _=>exact⟨hp,t',d',rfl,fK (λ d hd=>List.mem_append_left _ hd) ha,λ hk=>hd (by simp only[calm,Bool.and_eq_true] at hk; exact hk.1),hq⟩
  ·obtain⟨hk0,J,hb,h⟩:=gC h;refine wpIn_mono (fe hsc a _ _ t d w hca h) (λ e a' w' hq=>?_);obtain⟨hp,t',d',rfl,ha,hd,hq⟩:=hq;obtain rfl:=hd hk0
   cases e with
   | normal =>
    obtain⟨j,h1,h2⟩:=ij hq;have h3:=h2 _ (hb w') h1 (gt t');rw[fill_eq ha] at h3;refine wpIn_mono (fe hsc b _ _ t' d' w' hcb h3) (λ e a'' w'' hq'=>?_);obtain⟨hp',t'',d'',rfl,ha',hd',hq'⟩:=hq';refine⟨hp',t'',d'',rfl,kX ha ha',λ hk=>?_,hq'⟩;simp only[calm,Bool.and_eq_true] at hk;exact hd' hk.2
   | panic c=>exact absurd rfl (hp c)
   | _=>exact⟨hp,t',d',rfl,fK (λ d hd=>List.mem_append_left _ hd) ha,λ _=>rfl,hq⟩
 | .cond c a b,p,Q,t,d,w,hc,h=>by
  simp only[xd] at h
  split at h
  ·rename_i x hx;refine wpIn_cond (t:=x) (by rw[iH]; exact hx) ?_
   cases x with
   | true =>
    refine wpIn_mono (fe hsc a _ _ t d w (hc.imp id λ h=>by simp only[calm,Bool.and_eq_true] at h; exact h.1) h) (λ e a' w' hq=>?_);obtain⟨hp,t',d',rfl,ha,hd,hq⟩:=hq;exact⟨hp,t',d',rfl,fK (λ d hd=>List.mem_append_left _ hd) ha,λ hk=>hd (by simp only[calm,Bool.and_eq_true] at hk; exact hk.1),hq⟩
   | false =>
    refine wpIn_mono (fe hsc b _ _ t d w (hc.imp id λ h=>by simp only[calm,Bool.and_eq_true] at h; exact h.2) h) (λ e a' w' hq=>?_);obtain⟨hp,t',d',rfl,ha,hd,hq⟩:=hq;exact⟨hp,t',d',rfl,fK (λ d hd=>List.mem_append_right _ hd) ha,λ hk=>hd (by simp only[calm,Bool.and_eq_true] at hk; exact hk.2),hq⟩
  ·exact h.elim
 | .block id c,p,Q,t,d,w,hc,h=>by
  refine wpIn_block (wpIn_mono (fe hsc c _ _ t d w hc h) (λ e a' w' hq=>?_));obtain⟨hp,t',d',rfl,ha,hd,hq⟩:=hq
  cases e with
  | exit i =>
   simp only[Exit.inBlock];simp only[I5] at hq
   cases hb:Nat.beq i id with
   | true=>rw[hb] at hq; rw[if_pos (Nat.eq_of_beq_eq_true hb)]; exact⟨by simp,t',d',rfl,ha,hd,hq⟩
   | false =>
    rw[hb] at hq;rw[if_neg (λ e=>by rw[e,Nat.beq_refl] at hb; cases hb)];exact⟨by simp,t',d',rfl,ha,hd,hq⟩
  | _=>exact⟨hp,t',d',rfl,ha,hd,hq⟩
 | .loop c,p,Q,t,d,w,hc,h=>by
  simp only[xd] at h
  split at h
  ·refine wpIn_loop_once (wpIn_mono (fe hsc c _ _ t d w hc h) (λ e a'' w'' hq'=>?_));obtain⟨hp',t'',d'',rfl,ha',hd',hq'⟩:=hq'
   cases e with
   | normal=>exact hq'.elim
   | panic c=>exact absurd rfl (hp' c)
   | _=>exact⟨hp',t'',d'',rfl,ha',hd',hq'⟩
  ·rename_i lv hlv;obtain⟨hk0,I,h0,hr⟩:=gC h;obtain⟨i0,⟨m,h1⟩,h2⟩:=ij h0;refine wpIn_loop_ghost (λ n a w=>∃ t' i,a=jy t' d/\vp (fR c) t t'/\i w n/\∀ G,Cj lv I G->G (nB lv t') i) m ⟨t,i0,rfl,b9 _ _,h1,h2⟩ ?_;rintro n a w' ⟨t',i1,rfl,ha,hI,hG⟩;have h3:=hG _ (hr w' n) hI (gt t');rw[fill_eq ha] at h3;refine wpIn_mono (fe hsc c _ _ t' d w' hc h3) (λ e a'' w'' hq'=>?_);obtain⟨hp',t'',d'',rfl,ha',hd',hq'⟩:=hq';obtain rfl:=hd' hk0;have hag:vp (fR c) t t'':=fK (λ d hd=>(List.mem_append.1 hd).elim id id) (kX ha ha')
   cases e with
   | normal =>
    obtain⟨i2,⟨m',hm,h4⟩,h5⟩:=ij hq';exact⟨m',hm,t'',i2,rfl,hag,h4,h5⟩
   | panic c=>exact absurd rfl (hp' c)
   | _=>exact⟨hp',t'',d'',rfl,hag,λ _=>rfl,hq'⟩
 | .rangeFunc g ps assign body,p,Q,t,d,w,hc,h=>by
  simp only[xd,wF] at h
  split at h
  ·rename_i gf first lb hg
   obtain⟨he,hh⟩:=gC h;clear h;simp only[Bool.and_eq_true,Array.isEmpty_iff] at he;obtain⟨rfl,he⟩:=he;obtain rfl:ro=none:=hc.resolve_right (by simp[calm]);refine wpIn_rangeFunc λ fn _=>?_;refine⟨w.heap.size+1,[{ target:=.collected w.heap.size,args:=#[] }],((w.alloc (.deferred (some []))).alloc (.loop { state:=.ready,pending:=none,fn:=fn,tmps:=t.toArray,params:=ps,assign:=assign,body:=body,defers:=w.heap.size })),{ target:=.fn (.func gf) lb,args:=#[.func (.yield (w.heap.size+1)) #[] #[]] },((w.alloc (.deferred (some []))).alloc (.loop { state:=.ready,pending:=none,fn:=fn,tmps:=t.toArray,params:=ps,assign:=assign,body:=body,defers:=w.heap.size })),gf,#[.func (.yield (w.heap.size+1)) #[] #[]]++lb,((w.alloc (.deferred (some []))).alloc (.loop { state:=.ready,pending:=none,fn:=fn,tmps:=t.toArray,params:=ps,assign:=assign,body:=body,defers:=w.heap.size })),run_enterLoop_outer _ _ _ _ _,?_,λ _ _=>trivial,?_,λ h=>(by cases h),?_⟩
   ·simp only[resolve,iH,hg];simp[go_sem,ev,Deferred.ofValue]
   ·simp[invoke,go_sem,mU he]
   ·have h1:=hh fn;have h2:(Value.func (.yield (w.heap.size+1)) #[] #[] :: lb.toList).toArray = #[.func (.yield (w.heap.size+1)) #[] #[]]++lb:=by simp
    rw[h2] at h1;refine CallsIn.mono (callsIn_wide.2 h1) λ e w2 hq=>?_;obtain⟨⟨v,rfl⟩,r,hr,hb,hq⟩:=hq;refine⟨r.pending,_,run_endLoop hr hb,?_⟩
    split at hq
    ·rename_i hp;rw[hp] at hq ⊢;exact⟨by simp,t,_,rfl,b9 _ _,λ h=>(by cases h),hq⟩
    ·rename_i hp;rw[hp] at hq ⊢;exact wpIn_ret ⟨by simp,t,_,rfl,b9 _ _,λ h=>(by cases h),(gC hq).2⟩
    ·rename_i i hp;rw[hp] at hq ⊢;exact wpIn_exit ⟨by simp,t,_,rfl,b9 _ _,λ h=>(by cases h),xR (F:=λ i w'=>Q (.exit i) t ({ target:=.collected w.heap.size,args:=#[] } :: d) w') hq⟩
    ·exact hq.elim
  ·exact h.elim
 | .scope c,p,Q,t,d,w,hc,h=>by
  obtain rfl:ro=none:=hc.resolve_right (by simp[calm]);refine KB.2 (wU ?_);have h1:=sV (cur:=c) hsc (λ _ h=>h) (fe hsc c (2*p) _ t d w (.inl rfl) h);exact h1.mono λ e a w ⟨hp,t',d',h2,h3,h4⟩=>⟨hp,t',d',h2,h3,λ hk=>(by simp[calm] at hk),h4⟩
 | .goto l,_,Q,t,d,w,_,h=>wpIn_goto ⟨by simp,t,d,rfl,b9 _ _,λ _=>rfl,h⟩
 | .refuse _,_,_,_,_,_,_,h=>h.elim
theorem AU{P:Program}{ann:Nat->Option Live}:∀ n,J7 P (J1 P ann n)
 | 0=>λ _ _ _ _ _ _ _ _ h=>h.elim
 | n+1=>λ _ rest _ _ t d w hd h=>sV (AU n) hd (fe (AU n) rest _ _ t d w (.inl rfl) h)
theorem FJ{P:Program}{ann:Nat->Option Live}{ro:Option Nat}(c:Code)(p:Nat)(Q:Exit->Tm->Df->World->Prop)(t:Tm)(d:Df)(w:World)(hc:ro=none\/calm c=true)(h:vc P ann c p Q t d w):c.wpIn (FW ro) 0 P (lift t d c Q) (jy t d) w:=fe (AU 2) c p Q t d w hc h
def Fh(P:Program):List ResultVar->Tm->World->(List Value->Prop)->Prop
 | [],_,_,F=>F []
 | .tmp s :: rs,t,w,F=>Fh P rs t w λ vs=>F (gt t s :: vs)
 | .cell a ty :: rs,t,w,F=>Jn P ty (gt t a) w λ v _=>Fh P rs t w λ vs=>F (v :: vs)
def FE:List Value->Value
 | [v]=>v
 | vs=>.tuple vs.toArray
def J6(P:Program)(g:FuncId)(args:Array Value)(w:World)(R:World->Prop):Prop :=
 fB P g=true/\CallsDIn (FW none) 0 P g args .returning w λ e u w'=>∃ v,e=.returned v/\u=.returning/\R w'
def IV(P:Program)(fn:Func)(t:Tm)(K:KP):Df->World->Prop
 | [],w=>Fh P fn.results.toList t w λ vs=>K (FE vs) w
 | d :: ds,w=>match d.target with
  | .collected r=>w.heap[r]?=some (.deferred (some []))/\IV P fn t K ds (w.putObj r (.deferred none))
  | .fn (.func g) y=>J6 P g (d.args++y) w λ w'=>IV P fn t K ds w'
  | _=>False
def Ht(P:Program)(fn:Func)(K:KP):Exit->Tm->Df->World->Prop
 | .normal,t,d,w=>IV P fn t K d w
 | .ret,t,d,w=>IV P fn t K d w
 | _,_,_,_=>False
def Fg(t:Tm):ResultVar->Sem Value
 | .tmp s=>pure (t.toArray.getD s undef)
 | .cell a ty=>do loadVar ty (<- asAddr (t.toArray.getD a undef))
theorem sQ{P:Program}{w:World}{t:Tm}:∀ (rs:List ResultVar) (F:List Value->Prop),Fh P rs t w F ->
  ∃ vs,(rs.mapM (Fg t)).run P w=.ok vs w/\F vs
 | [],F,h=>⟨[],by simp,h⟩
 | .tmp s :: rs,F,h=>by
  obtain⟨vs,hr,hF⟩:=sQ rs _ h;exact⟨_,by simp only[List.mapM_cons,Fg,Sem.run_bind,Sem.run_pure,Result.andThen_ok,hr,Bl],hF⟩
 | .cell a ty :: rs,F,h=>by
  obtain⟨v,T,h1,h2,h3⟩:=vK h;obtain⟨vs,hr,hF⟩:=sQ rs _ h3;refine⟨v :: vs,?_,hF⟩;have h4:=h2 w h1;rw[Bl] at h4;have h5:(Fg t (.cell a ty)).run P w=.ok v w:=by
   show(Sem.bind (asAddr (t.toArray.getD a undef)) λ p=>loadVar ty p).run P w=.ok v w;rw[Sem.run_bind'];generalize t.toArray.getD a undef=x at h4 ⊢
   cases x with
   | pointer p=>cases p with
    | none=>simp[Instr.loadAt,Instr.sureAddr] at h4
    | some p=>simpa[Instr.loadAt,Instr.sureAddr,asAddr] using h4
   | _=>simp[Instr.loadAt,Instr.sureAddr] at h4
  rw[List.mapM_cons,Sem.run_bind,h5];simp only[Result.andThen_ok,Sem.run_bind,hr,Sem.run_pure]
def fL(fn:Func):Code:=fn.body.getD .skip
theorem G8{P:Program}{fn:Func}{t:Tm}{w:World}{K:KP}(hr:Fh P fn.results.toList t w λ vs=>K (FE vs) w) :
  ∃ v,(results fn t.toArray).run P w=.ok v w/\K v w:=by
 obtain⟨vs,hrun,hk⟩:=sQ _ _ hr;refine⟨FE vs,?_,hk⟩;have h3:results fn t.toArray=(do
   let vs <- fn.results.mapM (Fg t)
   pure (if h:vs.size=1 then vs[0] else .tuple vs)):=by
  unfold results;have:(λ r=>match r with
    | .tmp i=>(pure (t.toArray.getD i undef):Sem Value)
    | .cell a i=>do loadVar i (<- asAddr (t.toArray.getD a undef)))=Fg t:=by
   funext x; cases x<;>rfl
  rw[<- this];rfl
 rw[h3,Array.mapM_eq_mapM_toList];simp only[Sem.run_map,bind_pure_comp,hrun,Result.andThen_ok]
 cases vs with
 | nil=>rfl
 | cons v vs=>cases vs<;>rfl
theorem fC{P:Program}{fn:Func}{t:Tm}{K:KP}:∀ (d:Df) (w:World),IV P fn t K d w ->
  LeavesInM (FW none) 0 P fn t.toArray (λ e w'=>∃ v,e=.returned v/\K v w') d .returning w
 | [],w,h=>by
  obtain⟨v,hr,hk⟩:=G8 h;exact⟨v,hr,v,rfl,hk⟩
 | d :: ds,w,h=>by
  refine⟨by simp,?_⟩;simp only[IV] at h
  split at h
  ·rename_i r hr;exact .inl ⟨r,_,hr,run_takeDeferred h.1,fC ds _ h.2⟩
  ·rename_i g y hr;obtain⟨he,h⟩:=h;refine .inr ⟨λ h=>(by cases h),Fn.func g,y,g,d.args++y,hr,?_,λ _ _=>trivial,CallsDIn.mono h ?_⟩
   ·rw[hr]; exact mU he _ w
   ·rintro e u w' ⟨v,rfl,rfl,hk⟩;exact fC ds w' hk
  ·exact h.elim
theorem xx{P:Program}{ann:Nat->Option Live}{f:FuncId}{fn:Func}{c:Code}{args:List Value}{w:World}{K:KP}(hf:P.funcs[f]?=some fn)(hb:fn.body=some c)(h:vc P ann c 1 (Ht P fn K) (args++List.replicate (fn.ntmps-args.length) undef) [] w) :
  Calls P f args.toArray w λ e w'=>∃ v,e=.returned v/\K v w':=by
 refine(callsIn_wide (n:=0)).1 (callsIn_of_wp_marks hf hb trivial ?_ rfl);have h1:({ tmps:=args.toArray++Array.replicate (fn.ntmps-args.toArray.size) undef,defers:=[] }:Act)=jy (args++List.replicate (fn.ntmps-args.length) undef) []:=by
  simp[jy]
 rw[h1];refine wpIn_mono (FJ (ro:=none) c 1 _ _ _ w (.inl rfl) h) (λ e a' w' hq=>?_);obtain⟨hp,t',d',rfl,_,_,hq⟩:=hq
 cases e with
 | normal=>exact fC d' w' hq
 | ret=>exact fC d' w' hq
 | panic c=>exact absurd rfl (hp c)
 | _=>exact hq.elim
def Kk(l:Nat)(K:Bool->World->Prop):Exit->Tm->Df->World->Prop
 | .normal,_,_,w=>∃ r,w.heap[l]?=some (.loop r)/\K true (w.putObj l (.loop { r with state:=.ready,pending:=none }))
 | .ret,_,_,w=>∃ r,w.heap[l]?=some (.loop r)/\K false (w.putObj l (.loop { r with state:=.done,pending:=some .ret }))
 | .exit i,_,_,w=>∃ r,w.heap[l]?=some (.loop r)/\K false (w.putObj l (.loop { r with state:=.done,pending:=some (.exit i) }))
 | _,_,_,_=>False
def J9(l:Nat)(F:Tm->World->Prop):Exit->Tm->Df->World->Prop
 | .normal,t,_,w=>∃ r,w.heap[l]?=some (.loop r)/\r.state=.ready/\F t (w.putObj l (.loop { r with state:=.busy }))
 | _,_,_,_=>False
def vW:List Tmp->List Value->Tm->Tm
 | p :: ps,v :: vs,t=>vW ps vs (st t p v)
 | _,_,t=>t
def JD(P:Program)(ann:Nat->Option Live)(l:Nat)(assign body:Code)(K:Bool->World->Prop)(t:Tm)(w:World):Prop :=
 vc P ann assign 2 (J9 l λ t w=>vc P ann body 3 (Kk l K) t [] w) t [] w
theorem BH:∀ (ps:List Tmp) (vs:List Value) (t:Tm),((ps.zip vs).foldl (λ (tm:Array Value) (x:Tmp×Value)=>tm.setIfInBounds x.1 x.2) t.toArray)=(vW ps vs t).toArray
 | [],vs,t=>by simp[vW]
 | p :: ps,[],t=>by simp[vW]
 | p :: ps,v :: vs,t=>by
  have:=BH ps vs (st t p v);simp only[List.zip_cons_cons,List.foldl_cons,vW];rw[<- this,Fy]
  simp
theorem Dz{P:Program}{ann:Nat->Option Live}{l:Nat}{args:List Value}{w:World}{K:Bool->World->Prop}{r:Loop}{t:Tm}(hl:w.heap[l]?=some (.loop r))(ht:r.tmps=t.toArray)(hs:args.length=r.params.size)(hc:(calm r.assign&&calm r.body)=true)(h:JD P ann l r.assign r.body K (vW r.params.toList args t) w):mI P l args.toArray w K:=by
 simp only[Bool.and_eq_true] at hc;have hy:=run_yield (P:=P) (args:=args.toArray) hl (by simpa using hs);refine⟨_,_,_,_,hy,roundIn_of_wpIn (F:=Fence.wide) trivial ?_⟩;have h1:(r.params.zip args.toArray).foldl (λ tmps (x:Tmp×Value)=>tmps.setIfInBounds x.1 x.2) r.tmps=(vW r.params.toList args t).toArray:=by
  rw[<- BH,ht,<- Array.foldl_toList]
  congr 1
  simp
 have h2:({ tmps:=(r.params.zip args.toArray).foldl (λ tmps (x:Tmp×Value)=>tmps.setIfInBounds x.1 x.2) r.tmps,defers:=[] }:Act)=jy (vW r.params.toList args t) []:=by
  rw[h1]; rfl
 refine wpIn_mono (show Code.wpIn (FW (some l)) 0 P r.assign _ _ w from h2▸FJ (ro:=some l) _ _ _ _ _ _ (.inr hc.1) h) λ e a' w' hq=>?_;obtain⟨hp,t',d',rfl,_,hd,hq⟩:=hq;obtain rfl:=hd hc.1
 cases e with
 | normal =>
  obtain⟨r1,hr1,hst,hq⟩:=hq;refine⟨_,run_beginRound hr1 hst,?_⟩;refine wpIn_mono (show Code.wpIn (FW (some l)) 0 P r.body _ _ _ from FJ (ro:=some l) _ _ _ _ _ _ (.inr hc.2) hq) λ e a'' w'' hq=>?_;obtain⟨hp,t'',d'',rfl,_,_,hq⟩:=hq
  cases e with
  | normal=>obtain⟨r2,hr2,hk⟩:=hq; exact⟨_,_,run_endRound none hr2,_,rfl,hk⟩
  | ret=>obtain⟨r2,hr2,hk⟩:=hq; exact⟨_,_,run_endRound (some .ret) hr2,_,rfl,hk⟩
  | exit i=>obtain⟨r2,hr2,hk⟩:=hq; exact⟨_,_,run_endRound (some (.exit i)) hr2,_,rfl,hk⟩
  | panic c=>exact absurd rfl (hp c)
  | _=>exact hq.elim
 | panic c=>exact absurd rfl (hp c)
 | _=>exact hq.elim
def nH(K:KP):Ending->World->Prop:=λ e w'=>∃ v,e=.returned v/\K v w'
theorem aj{P:Program}(ann:Nat->Option Live){f:FuncId}{fn:Func}{args:List Value}{w:World}{K:KP}{S:Prop}(hf:P.funcs[f]?=some fn)(hb:fn.body=some (fL fn))(h:S=vc P ann (fL fn) 1 (Ht P fn K) (args++List.replicate (fn.ntmps-args.length) undef) [] w)(hS:S) :
  Calls P f args.toArray w (nH K):=xx hf hb (h▸hS)
def aC(l:List (Nat×Live))(p:Nat):Option Live :=
 match l with
 | []=>none
 | (q,lv) :: l=>cond (Nat.beq q p) (some lv) (aC l p)
def wH:Code->Nat->Nat->Option (Array Tmp×Code×Code)
 | .seq a b,p,q=>(wH a (2*p) q).or (wH b (2*p+1) q)
 | .cond _ a b,p,q=>(wH a (2*p) q).or (wH b (2*p+1) q)
 | .block _ a,p,q=>wH a (2*p) q
 | .loop a,p,q=>wH a (2*p) q
 | .rangeFunc _ ps a b,p,q=>cond (Nat.beq p q) (some (ps,a,b)) none
 | _,_,_=>none
def II(c:Code)(q:Nat):Array Tmp:=((wH c 1 q).getD (#[],.skip,.skip)).1
def IF(c:Code)(q:Nat):Code:=((wH c 1 q).getD (#[],.skip,.skip)).2.1
def IG(c:Code)(q:Nat):Code:=((wH c 1 q).getD (#[],.skip,.skip)).2.2
theorem FP{P:Program}(ann:Nat->Option Live){l:Nat}{args:List Value}{w:World}{K:Bool->World->Prop}{r:Loop}{t:Tm}{ps:Array Tmp}{asg bdy:Code}{S:Prop}(hl:w.heap[l]?=some (.loop r))(ht:r.tmps=t.toArray)(hp:r.params=ps)(ha:r.assign=asg)(hb:r.body=bdy)(hs:args.length=ps.size)(hc:(calm asg&&calm bdy)=true)(h:S=JD P ann l asg bdy K (vW ps.toList args t) w)(hS:S):mI P l args.toArray w K:=by
 subst hp ha hb;exact Dz hl ht hs hc (h▸hS)
abbrev iv (n:Int):Value:=.int .i64 n
def I6.on(u:I6)(l:List Value):List Value:=iv u.a :: iv u.b :: iv u.c :: iv u.d :: iv u.e :: iv u.f :: l
def z6:I6:=⟨0,0,0,0,0,0⟩
def I6.beq(u v:I6):Bool:=(u.a==v.a)&&((u.b==v.b)&&((u.c==v.c)&&((u.d==v.d)&&((u.e==v.e)&&((u.f==v.f)&&true)))))
def dW(w:World)(a:Addr)(v:Value)(R:World->Prop):Prop :=
 v.oneCell' = true/\(∃ x,w.cell? a=some x)/\w.frozen? a=false/\R (w.setCell a v)
def aN(a:Addr):Nat->List Value->World->(World->Prop)->Prop
 | _,[],w,R=>R w
 | i,v :: vs,w,R=>dW w (a.add i) v λ w'=>aN a (i+1) vs w' R
def au(w:World)(o:Obj)(R:Nat->World->Prop):Prop:=R w.heap.size (w.alloc o)
def bs(l:List UInt8):ByteArray:=⟨l.toArray⟩
end Go.Vc
namespace Go.Proofs.YtpddenfeaadgpaaGreatDoor
open Go Go.Vc
abbrev CC:=Calls Tryz.prog
abbrev CP (f:FuncId) (a:Array Value) (w:World) (K:KP):Prop:=Calls Tryz.prog f a w (nH K)
end Go.Proofs.YtpddenfeaadgpaaGreatDoor
namespace Go.Vc
theorem cT{b:Bool}{A B:Prop}(h:b=true)(k:A):cond b A B:=by rw[h]; exact k
theorem cF{b:Bool}{A B:Prop}(h:b=false)(k:B):cond b A B:=by rw[h]; exact k
def GG(o:Option Obj)(i:Nat):Option Value :=
 match o with
 | some (.cells c _ _)=>c[i]?
 | _=>none
def GH(o:Option Obj)(i:Nat):Bool :=
 match o with
 | some (.cells _ _ (lo,hi))=>lo<=i&&i<hi
 | _=>false
def JG(i:Nat)(v:Value)(o:Option Obj):Option Obj :=
 match o with
 | some (.cells c e f)=>some (.cells (c.setIfInBounds i v) e f)
 | o=>o
theorem jY(w:World)(b i:Nat):w.cell? ⟨b,i,none⟩=GG w.heap[b]? i:=by
 simp only[World.cell?,GG]
 cases w.heap[b]? with
 | none=>rfl
 | some o=>cases o<;>simp
theorem zU(w:World)(b i:Nat):w.frozen? ⟨b,i,none⟩=GH w.heap[b]? i:=by
 simp only[World.frozen?,GH]
 cases w.heap[b]? with
 | none=>rfl
 | some o=>cases o<;>rfl
theorem heap_set(w:World)(b i k:Nat)(v:Value):(w.setCell ⟨b,i,none⟩ v).heap[k]?=if b=k then JG i v w.heap[k]? else w.heap[k]?:=by
 simp only[World.setCell,Array.getElem?_modify]
 by_cases h:b=k
 ·simp only[h,if_true,JG]
  cases w.heap[k]? with
  | none=>rfl
  | some o=>cases o<;>simp
 ·simp[h]
theorem iG(w:World)(o:Obj)(k:Nat):(w.alloc o).heap[k]?=if k=w.heap.size then some o else w.heap[k]?:=by
 simp only[World.alloc,Array.getElem?_push]
theorem jb(c:Array Value)(e:TypeId)(f:Nat×Nat)(i:Nat):GG (some (.cells c e f)) i=c[i]?:=rfl
theorem zW(c:Array Value)(e:TypeId)(i:Nat):GH (some (.cells c e (0,0))) i=false:=by simp[GH]
structure Env (w w' : World):Prop where
 os:w'.os=w.os
 tape:w'.tape=w.tape
 out:w'.output=w.output
theorem Env.refl(w:World):Env w w:=⟨rfl,rfl,rfl⟩
theorem Env.trans{w w1 w2:World}(h:Env w w1)(k:Env w1 w2):Env w w2:=⟨k.os.trans h.os,k.tape.trans h.tape,k.out.trans h.out⟩
structure ax (w w' : World) (F:List Nat):Prop where
 size:w.heap.size<=w'.heap.size
 same:∀ i,i<w.heap.size->i∉F->w'.heap[i]?=w.heap[i]?
 env:Env w w'
theorem ax.refl(w:World)(F:List Nat):ax w w F:=⟨Nat.le_refl _,λ _ _ _=>rfl,Env.refl _⟩
theorem ax.drew(w:World)(F:List Nat):ax w w.drew F:=⟨Nat.le_refl _,λ _ _ _=>rfl,⟨rfl,rfl,rfl⟩⟩
theorem ax.trans{w w1 w2:World}{F G:List Nat}(h:ax w w1 F)(h' : ax w1 w2 G)(hG:∀ i∈G,i∈F\/w.heap.size<=i):ax w w2 F :=
 ⟨Nat.le_trans h.size h'.size,λ i hi hn=>(h'.same i (Nat.lt_of_lt_of_le hi h.size) λ hg=>(hG i hg).elim hn (by omega)).trans (h.same i hi hn),h.env.trans h'.env⟩
theorem ax.set(w:World)(b i:Nat)(v:Value){F:List Nat}(h:b∈F):ax w (w.setCell ⟨b,i,none⟩ v) F :=
 ⟨by simp,λ k _ hn=>by rw[heap_set,if_neg (λ e:b=k=>hn (e▸h))],⟨rfl,rfl,rfl⟩⟩
theorem ax.new(w:World)(o:Obj)(F:List Nat):ax w (w.alloc o) F :=
 ⟨by simp,λ k hk _=>by rw[iG,if_neg (by omega)],⟨rfl,rfl,rfl⟩⟩
theorem ax.grown{w w' : World}{r:Option Nat}(h:w.grownBy w' r):ax w w' r.toList :=
 ⟨h.size,λ i hi hn=>h.block i hi (λ e=>hn (by rw[<- e]; simp)),⟨h.os,h.tape,h.output⟩⟩
theorem je{w:World}{b:Nat}{o:Obj}(h:w.heap[b]?=some o):b<w.heap.size:=(Array.getElem?_eq_some_iff.1 h).1
theorem ax.keep{w w' : World}{F:List Nat}(h:ax w w' F){b:Nat}{o:Obj}(hb:w.heap[b]?=some o)(hn:b∉F):w'.heap[b]?=some o :=
 (h.same b (je hb) hn).trans hb
theorem Fw{w:World}{b i:Nat}{v:Value}{R:World->Prop}{cs:Array Value}{T:TypeId}(h:w.heap[b]?=some (.cells cs T (0,0)))(hi:i<cs.size)(hv:v.oneCell' = true)(k:R (w.setCell ⟨b,i,none⟩ v)):dW w ⟨b,i,none⟩ v R :=
 ⟨hv,⟨cs[i],by rw[jY,h,jb]; simp[hi]⟩,by rw[zU,h,zW],k⟩
theorem aR{w:World}{o:Obj}{R:Nat->World->Prop}(h:R w.heap.size (w.alloc o)):au w o R:=h
theorem rE(g j:Nat):(⟨g,0,none⟩:Addr).add j=⟨g,j,none⟩:=by unfold Addr.add; split<;>simp_all
theorem wM{b o:Nat}{T:TypeId}{R:World->Prop}:∀ (vs:List Value) (i:Nat) (w:World) (c:Array Value),w.heap[b]?=some (.cells c T (0,0))->o+i+vs.length<=c.size->(∀ v∈vs,v.oneCell' = true) ->
  (∀ w',w'.heap[b]?=some (.cells (c.toList.take (o+i)++vs++c.toList.drop (o+i+vs.length)).toArray T (0,0))->ax w w' [b]->w'.heap.size=w.heap.size->R w')->aN ⟨b,o,none⟩ i vs w R
 | [],i,w,c,h,_,_,k=>k w (by simpa using h) (ax.refl _ _) rfl
 | v :: vs,i,w,c,h,hl,h1,k=>by
  have ha:(⟨b,o,none⟩:Addr).add i=⟨b,o+i,none⟩:=by unfold Addr.add; split<;>simp_all
  show dW w _ v _;rw[ha];simp only[List.length_cons] at hl;refine Fw h (by omega) (h1 v (List.mem_cons_self ..)) ?_;refine wM vs (i+1) _ (c.setIfInBounds (o+i) v) (by rw[heap_set,if_pos rfl,h]; rfl) (by simp; omega) (λ u hu=>h1 u (List.mem_cons_of_mem _ hu)) ?_;intro w' hb hc hs;refine k w' ?_ ((ax.set w b (o+i) v (by simp)).trans hc (λ j hj=>.inl hj)) (by rw[hs]; simp);rw[hb]
  congr 3
  have hlt:o+i<c.toList.length:=by simp; omega
  simp only[Array.toList_setIfInBounds,List.length_cons];rw[show o+(i+1)=o+i+1 by omega,List.take_succ_eq_append_getElem (by simpa using hlt),List.take_set_of_le (Nat.le_refl _)];simp only[List.getElem_set_self,List.append_assoc,List.cons_append,List.nil_append]
  congr 3
  rw[List.drop_set_of_lt (by omega)]
  congr 1
  omega
theorem vR{w:World}{base:Nat}{e:TypeId}{size:Nat}{v:Value}{n:Nat}{xs:List Value}{w' : World}(h:w.ownsRow base e size v n xs)(hs:∀ k,v.ownBlock=some k->w'.heap[k]?=w.heap[k]?):w'.ownsRow base e size v n xs:=by
 refine⟨h.1,?_⟩;rcases h.2 with hn|⟨g,cap,cur,rfl,hb,hgg,rest⟩
 ·exact .inl hn
 ·exact .inr ⟨g,cap,cur,rfl,hb,(hs g rfl).trans hgg,rest⟩
theorem yd{w:World}{base:Nat}{e:TypeId}{size:Nat}{v:Value}{n:Nat}{xs:List Value}{w' : World}{F:List Nat}(h:w.ownsRow base e size v n xs)(hc:ax w w' F)(hs:∀ k,v.ownBlock=some k->k∉F):w'.ownsRow base e size v n xs :=
 vR h λ k hk=>hc.same k (h.lt k hk).2 (hs k hk)
end Go.Vc
namespace Go.Vc
structure gW (P:Program) (t e:TypeId) (z:Value) (sz by_:Nat):Prop where
 u:P.underlying t=some (.slice e)
 i:∃ i,P.info? e=some i/\i.zero=some z/\i.size=sz/\i.bytes=by_
 zc:z.cells.size=sz
 pos:0<sz
theorem gW.mk'{P:Program}{t e:TypeId}{z:Value}{sz by_:Nat}(hu:P.underlying t=some (.slice e))(hi:(P.info? e).map (λ i=>(i.zero,i.size,i.bytes))=some (some z,sz,by_))(hz:z.cells.size=sz)(hp:0<sz):gW P t e z sz by_:=by
 refine⟨hu,?_,hz,hp⟩
 cases h:P.info? e with
 | none=>simp[h] at hi
 | some i=>simp[h] at hi; exact⟨i,rfl,hi.1,hi.2.1,hi.2.2⟩
def KC(w:World)(v v' : Value):Prop:=∀ j,v'.ownBlock=some j->v.ownBlock=some j\/w.heap.size<=j
theorem DH{P:Program}{w:World}{t ty e:TypeId}{z:Value}{sz by_:Nat}(hT:gW P t e z sz by_){v:Value}{n:Nat}{xs:List Value}(own:w.ownsRow 0 e sz v n xs){a:Addr}{m c:Nat}{news:List Value}(hl:news.length=m*sz)(hnews:∀ j u,news[j]?=some u->w.cell? (a.add j)=some u)(h1:∀ u∈news,u.oneCell' = true)(hb:(n+m)*by_<=140737488355328)(hm:n+m<=9223372036854775807){K:KP}(k:∀ v' w',w'.ownsRow 0 e sz v' (n+m) (xs++news)->ax w w' v.ownBlock.toList->KC w v v'->K v' w') :
  aW P (Builtin.append_ #[t,t] ty #[v,.slice (some a) m c]) w K:=by
 obtain⟨i,hi,hz,hs,hby⟩:=hT.i;have hml:n+m<=maxLen:=by unfold maxLen; omega
 obtain⟨v',w',hr,ho,hg,_⟩:=run_append_own (P:=P) w 0 t ty e i z sz by_ hT.u hi hz hs hby hT.zc hT.pos v n xs own a m c news hl hnews h1 hml hb (Nat.zero_le _);refine⟨v',w',hr,k v' w' ho (ax.grown hg) ?_⟩;rcases own.2 with⟨rfl,rfl⟩|⟨g,cap,cur,rfl,_,hgg,hnc,hcm,hcs,htake⟩
 ·have own' : w.ownsRow w.heap.size e sz (.slice none 0 0) 0 xs:=⟨own.1,.inl ⟨rfl,rfl⟩⟩;obtain⟨v2,w2,hr2,ho2,_⟩:=run_append_own (P:=P) w w.heap.size t ty e i z sz by_ hT.u hi hz hs hby hT.zc hT.pos _ 0 xs own' a m c news hl hnews h1 hml hb (Nat.le_refl _);rw[hr] at hr2
  cases hr2
  exact λ j hj=>.inr (ho2.lt j hj).1
 ·by_cases hroom:n+m<=cap
  ·have hfit:n*i.size+news.length<=cur.size:=by rw[hl,hcs,hs,<- Nat.add_mul]; exact Nat.mul_le_mul_right _ hroom
   have hr2:=run_append_room (P:=P) w t ty e i hT.u hi g n cap cur hgg a m c news (by rw[hs]; exact hl) hnews h1 hroom hfit;rw[hr] at hr2
   cases hr2
   exact λ j hj=>.inl hj
  ·have holds:∀ j u,xs[j]?=some u->w.cell? ((⟨g,0,none⟩:Addr).add j)=some u:=own.cells (g:=g) rfl;have hr2:=run_append_grow (P:=P) w t ty e i z hT.u hi hz ⟨g,0,none⟩ n cap xs (by rw[hs]; exact own.1) holds a m c news (by rw[hs]; exact hl) hnews (by omega) (by omega) (growslice_fits (by omega) (by rw[hby]; exact hb));rw[hr] at hr2
   cases hr2
   intro j hj;simp[Value.ownBlock] at hj;exact .inr (by omega)
theorem pq{w:World}{base:Nat}{e:TypeId}{sz:Nat}{v:Value}{n:Nat}{xs:List Value}(own:w.ownsRow base e sz v n xs):∃ a c,v=.slice a n c:=by
 rcases own.2 with⟨rfl,rfl⟩|⟨g,cap,cur,rfl,_⟩
 ·exact⟨_,_,rfl⟩
 ·exact⟨_,_,rfl⟩
end Go.Vc
namespace Go.Vc
structure aJ where
 p:World->List Nat->Prop
 loc:∀ {w w' : World} {F G:List Nat},p w F->ax w w' G->(∀ k∈F,k∉G)->p w' F
 lt:∀ {w:World} {F:List Nat},p w F->∀ k∈F,k<w.heap.size
def To(A:aJ)(w w' : World)(F:List Nat):Prop:=∃ F',A.p w' F'/\ax w w' F/\∀ k∈F',k∈F\/w.heap.size<=k
def star(A B:aJ):aJ where
 p w F:=∃ F1 F2,F=F1++F2/\A.p w F1/\B.p w F2/\∀ k∈F1,k∉F2
 loc:=by
  rintro w w' F G ⟨F1,F2,rfl,h1,h2,hd⟩ hc hn;exact⟨F1,F2,rfl,A.loc h1 hc λ k hk=>hn k (List.mem_append_left _ hk),B.loc h2 hc λ k hk=>hn k (List.mem_append_right _ hk),hd⟩
 lt:=by
  rintro w F ⟨F1,F2,rfl,h1,h2,hd⟩ k hk;rcases List.mem_append.1 hk with h|h
  ·exact A.lt h1 k h
  ·exact B.lt h2 k h
def St(w0 w:World)(A:aJ):Prop:=∃ F,A.p w F/\ax w0 w []/\∀ k∈F,w0.heap.size<=k
theorem St.an{w0 w:World}{A:aJ}(h:St w0 w A):ax w0 w []:=let ⟨_,_,hc,_⟩:=h; hc
theorem St.use{w0 w:World}{A B:aJ}(h:St w0 w (star A B)):∃ F1,A.p w F1/\∀ w' A',To A' w w' F1->St w0 w' (star A' B):=by
 obtain⟨F,⟨F1,F2,rfl,h1,h2,hd⟩,hc,hn⟩:=h;refine⟨F1,h1,λ w' A' ⟨F1',h1',hc',hf⟩=>?_⟩;refine⟨F1'++F2,⟨F1',F2,rfl,h1',B.loc h2 hc' λ j hj hj1=>hd j hj1 hj,λ j hj hj2=>?_⟩,hc.trans hc' (λ i hi=>.inr (hn i (List.mem_append_left _ hi))),λ j hj=>?_⟩
 ·rcases hf j hj with h|h
  ·exact hd j h hj2
  ·have:=B.lt h2 j hj2; omega
 ·rcases List.mem_append.1 hj with h|h
  ·rcases hf j h with h|h
   ·exact hn j (List.mem_append_left _ h)
   ·exact Nat.le_trans hc.size h
  ·exact hn j (List.mem_append_right _ h)
theorem St.quiet{w0 w w' : World}{A:aJ}(h:St w0 w A)(hc:ax w w' []):St w0 w' A:=by
 obtain⟨F,hA,hc0,hn⟩:=h;exact⟨F,A.loc hA hc (by simp),hc0.trans hc (by simp),hn⟩
theorem St.add{w0 w w' : World}{A B:aJ}{G:List Nat}(h:St w0 w A)(hc:ax w w' [])(hB:B.p w' G)(hG:∀ k∈G,w.heap.size<=k):St w0 w' (star A B):=by
 obtain⟨F,hA,hc0,hn⟩:=h;refine⟨F++G,⟨F,G,rfl,A.loc hA hc (by simp),hB,λ k hk hk2=>?_⟩,hc0.trans hc (by simp),λ k hk=>?_⟩
 ·have:=A.lt hA k hk;have:=hG k hk2;omega
 ·rcases List.mem_append.1 hk with h|h
  ·exact hn k h
  ·exact Nat.le_trans hc0.size (hG k h)
def emp:aJ where
 p _ F:=F=[]
 loc:=λ h _ _=>h
 lt:=λ h k hk=>by subst h; cases hk
theorem St.start(w:World):St w w emp:=⟨[],rfl,ax.refl _ _,by simp⟩
theorem St.start'{w w' : World}(h:ax w w' []):St w w' emp:=⟨[],rfl,h,by simp⟩
theorem St.first{w0 w:World}{A B:aJ}(h:St w0 w (star A B)):St w0 w A:=by
 obtain⟨F,⟨F1,F2,rfl,h1,_,_⟩,hc,hn⟩:=h;exact⟨F1,h1,hc,λ k hk=>hn k (List.mem_append_left _ hk)⟩
theorem St.second{w0 w:World}{A B:aJ}(h:St w0 w (star A B)):St w0 w B:=by
 obtain⟨F,⟨F1,F2,rfl,_,h2,_⟩,hc,hn⟩:=h;exact⟨F2,h2,hc,λ k hk=>hn k (List.mem_append_right _ hk)⟩
theorem St.swap{w0 w:World}{A B:aJ}(h:St w0 w (star A B)):St w0 w (star B A):=by
 obtain⟨F,⟨F1,F2,rfl,h1,h2,hd⟩,hc,hn⟩:=h;exact⟨F2++F1,⟨F2,F1,rfl,h2,h1,λ k hk hk1=>hd k hk1 hk⟩,hc,λ k hk=>hn k (by simpa[or_comm] using hk)⟩
theorem St.get{w0 w:World}{A:aJ}(h:St w0 w A):∃ F,A.p w F:=let ⟨F,hF,_⟩:=h; ⟨F,hF⟩
theorem St.IY{w0 w:World}{A B C:aJ}(h:St w0 w (star A (star B C))):St w0 w (star B (star A C)):=by
 obtain⟨F,⟨F1,F',rfl,h1,⟨F2,F3,rfl,h2,h3,hd2⟩,hd⟩,hc,hn⟩:=h;refine⟨F2++(F1++F3),⟨F2,F1++F3,rfl,h2,⟨F1,F3,rfl,h1,h3,λ k hk hk3=>hd k hk (List.mem_append_right _ hk3)⟩,λ k hk hk1=>?_⟩,hc,λ k hk=>hn k ?_⟩
 ·rcases List.mem_append.1 hk1 with h|h
  ·exact hd k h (List.mem_append_left _ hk)
  ·exact hd2 k hk h
 ·simp only[List.mem_append] at hk ⊢;rcases hk with h|h|h
  ·exact .inr (.inl h)
  ·exact .inl h
  ·exact .inr (.inr h)
def ah(r:Nat)(cs:Array Value)(T:TypeId):aJ where
 p w F:=w.heap[r]?=some (.cells cs T (0,0))/\F=[r]
 loc:=λ ⟨h,he⟩ hc hd=>⟨hc.keep h (hd _ (by rw[he]; simp)),he⟩
 lt:=λ ⟨h,he⟩ k hk=>by subst he; simp at hk; subst hk; exact je h
theorem St.box{w0 w:World}{A:aJ}(h:St w0 w A)(cs:Array Value)(T:TypeId):St w0 (w.alloc (.cells cs T)) (star A (ah w.heap.size cs T)) :=
 h.add (ax.new _ _ _) (B:=ah w.heap.size cs T) ⟨by rw[iG,if_pos rfl],rfl⟩ (by simp)
theorem St.boxed{w0 w:World}{B:aJ}{r:Nat}{cs:Array Value}{T:TypeId}(h:St w0 w (star (ah r cs T) B))(i:Nat):w.cell? ⟨r,i,none⟩=cs[i]?:=by
 obtain⟨F,hF⟩:=h.first.get;rw[jY,hF.1,jb]
theorem br{w w' : World}{a:Addr}{v:Value}(h:w.cell? a=some v)(hc:ax w w' []):w'.cell? a=some v:=by
 rw[World.cell?_of_block (hc.same a.block (World.block_lt_of_cell? w a h) (by simp))]; exact h
theorem aK{w w' : World}{a:Addr}(hc:ax w w' []):∀ {vs:List Value} {i:Nat},af w a i vs->af w' a i vs
 | [],_,_=>trivial
 | _ :: _,_,h=>⟨br h.1 hc,aK hc h.2⟩
def bW(A B:aJ):Prop:=∀ w F,A.p w F->∃ F',B.p w F'/\∀ j,j∈F'<->j∈F
theorem bW.refl(A:aJ):bW A A:=λ _ F h=>⟨F,h,λ _=>Iff.rfl⟩
theorem bW.trans{A B C:aJ}(h:bW A B)(k:bW B C):bW A C:=λ w F hA =>
 let ⟨F',hB,h1⟩:=h w F hA;let ⟨F'',hC,h2⟩:=k w F' hB
 ⟨F'',hC,λ j=>(h2 j).trans (h1 j)⟩
theorem bW.right{A B C:aJ}(h:bW B C):bW (star A B) (star A C):=by
 rintro w F ⟨F1,F2,rfl,h1,h2,hd⟩;obtain⟨F2',h2',hj⟩:=h w F2 h2;exact⟨F1++F2',⟨F1,F2',rfl,h1,h2',λ k hk hk2=>hd k hk ((hj k).1 hk2)⟩,λ j=>by simp[hj]⟩
theorem bW.IY{A B C:aJ}:bW (star A (star B C)) (star B (star A C)):=by
 rintro w F ⟨F1,F',rfl,h1,⟨F2,F3,rfl,h2,h3,hd2⟩,hd⟩;refine⟨F2++(F1++F3),⟨F2,F1++F3,rfl,h2,⟨F1,F3,rfl,h1,h3,λ k hk hk3=>hd k hk (List.mem_append_right _ hk3)⟩,λ k hk hk1=>?_⟩,λ j=>by simp; constructor<;>(rintro(h|h|h)<;>simp[h])⟩;rcases List.mem_append.1 hk1 with h|h
 ·exact hd k h (List.mem_append_left _ hk)
 ·exact hd2 k hk h
theorem St.eqv{w0 w:World}{A B:aJ}(h:St w0 w A)(k:bW A B):St w0 w B:=by
 obtain⟨F,hA,hc,hn⟩:=h;obtain⟨F',hB,hj⟩:=k w F hA;exact⟨F',hB,hc,λ j hj'=>hn j ((hj j).1 hj')⟩
def Sep:List aJ->aJ
 | []=>emp
 | A :: l=>star A (Sep l)
end Go.Vc
namespace Go.Vc
def kN(e:TypeId)(sz:Nat)(v:Value)(n:Nat)(xs:List Value):aJ where
 p w F:=w.ownsRow 0 e sz v n xs/\F=v.ownBlock.toList
 loc:=λ ⟨h,he⟩ hc hd=>⟨yd h hc λ k hk=>hd k (by rw[he]; simp[hk]),he⟩
 lt:=λ ⟨h,he⟩ k hk=>by subst he; simp at hk; exact(h.lt k hk).2
theorem St.Iv{w0 w:World}{A:aJ}(h:St w0 w A)(e:TypeId)(sz:Nat):St w0 w (star A (kN e sz (.slice none 0 0) 0 [])) :=
 h.add (ax.refl _ _) (B:=kN e sz _ 0 []) (G:=[]) ⟨⟨by simp,.inl ⟨rfl,rfl⟩⟩,rfl⟩ (by simp)
theorem zI{P:Program}{w0 w:World}{B:aJ}{t ty e:TypeId}{z:Value}{sz by_:Nat}(hT:gW P t e z sz by_){v:Value}{n:Nat}{xs:List Value}(h:St w0 w (star (kN e sz v n xs) B)){a:Addr}{m c:Nat}{news:List Value}(hl:news.length=m*sz)(hnews:∀ j u,news[j]?=some u->w.cell? (a.add j)=some u)(h1:∀ u∈news,u.oneCell' = true)(hb:(n+m)*by_<=140737488355328)(hm:n+m<=9223372036854775807){K:KP}(k:∀ v' w',St w0 w' (star (kN e sz v' (n+m) (xs++news)) B)->K v' w'):aW P (Builtin.append_ #[t,t] ty #[v,.slice (some a) m c]) w K:=by
 obtain⟨F,⟨own,rfl⟩,use⟩:=h.use;refine DH hT own hl hnews h1 hb hm λ v' w' own' hc hn=>k v' w' (use w' (kN e sz v' (n+m) (xs++news)) ⟨_,⟨own',rfl⟩,hc,λ j hj=>?_⟩);rcases hn j (by simpa using hj) with h' | h'
 ·exact .inl (by simp[h'])
 ·exact .inr h'
theorem F5{P:Program}{w0 w:World}{B:aJ}{t ty e:TypeId}{z:Value}{sz by_:Nat}(hT:gW P t e z sz by_){v:Value}{n:Nat}{xs:List Value}(h:St w0 w (star (kN e sz v n xs) B)){news:List Value}(hl:news.length=sz)(h1:∀ u∈news,u.oneCell' = true)(hb:(n+1)*by_<=140737488355328)(hm:n+1<=9223372036854775807){R:Option Addr->Nat->Nat->World->Prop}(k:∀ a c w',St w0 w' (star (kN e sz (.slice a (n+1) c) (n+1) (xs++news)) B)->R a (n+1) c w'){cs:Array Value}(hcs:cs=news.toArray) :
  au w (.cells cs e) λ r w1=>aW P (Builtin.append_ #[t,t] ty #[v,.slice (some ⟨r,0,none⟩) 1 1]) w1 λ e w2=>∃ a l c,e=.slice a l c/\R a l c w2:=by
 subst hcs;refine aR ?_;have h' : St w0 (w.alloc (.cells news.toArray e)) (star (kN e sz v n xs) B):=h.quiet (ax.new _ _ _);refine zI hT h' (m:=1) (news:=news) (by omega) (λ j u hj=>?_) h1 hb hm λ v' w' h''=>?_
 ·rw[rE,jY,iG,if_pos rfl,jb]; simpa using hj
 ·obtain⟨F,⟨own,_⟩,_⟩:=h''.use;obtain⟨a,c,rfl⟩:=pq own;exact⟨a,_,c,rfl,k a c w' h''⟩
theorem St.rowOf{w0 w:World}{B:aJ}{e:TypeId}{sz n:Nat}{v:Value}{xs:List Value}(h:St w0 w (star (kN e sz v n xs) B)):w.ownsRow 0 e sz v n xs:=by
 obtain⟨F,⟨own,_⟩,_⟩:=h.use;exact own
def dU(b:Nat)(o:Obj):aJ where
 p w F:=w.heap[b]?=some o/\F=[b]
 loc:=λ ⟨h,he⟩ hc hd=>⟨hc.keep h (hd b (by rw[he]; simp)),he⟩
 lt:=λ ⟨h,he⟩ k hk=>by subst he; simp at hk; subst hk; exact je h
theorem ax.put(w:World)(b:Nat)(o:Obj){F:List Nat}(h:b∈F):ax w (w.putObj b o) F :=
 ⟨by simp[World.putObj],λ i _ hn=>World.putObj_heap_other (λ e=>hn (e▸h)),⟨rfl,rfl,rfl⟩⟩
theorem St.obj{w0 w:World}{B:aJ}{b:Nat}{o:Obj}(h:St w0 w (star (dU b o) B)):w.heap[b]?=some o:=by
 obtain⟨F,⟨ho,_⟩,_⟩:=h.use;exact ho
theorem St.put{w0 w:World}{B:aJ}{b:Nat}{o:Obj}(h:St w0 w (star (dU b o) B))(o' : Obj):St w0 (w.putObj b o') (star (dU b o') B):=by
 obtain⟨F,⟨ho,rfl⟩,use⟩:=h.use;exact use _ (dU b o') ⟨[b],⟨World.putObj_heap_same (je ho),rfl⟩,ax.put w b o' (by simp),λ j hj=>.inl hj⟩
theorem St.newObj{w0 w:World}{A:aJ}(h:St w0 w A)(o:Obj):St w0 (w.alloc o) (star A (dU w.heap.size o)) :=
 h.add (ax.new _ _ _) (B:=dU w.heap.size o) (G:=[w.heap.size]) ⟨by rw[iG,if_pos rfl],rfl⟩ (by simp)
end Go.Vc
namespace Go.Vc
def Kb{α:Type}(f:α->aJ):aJ where
 p w F:=∃ a,(f a).p w F
 loc:=λ ⟨a,h⟩ hc hd=>⟨a,(f a).loc h hc hd⟩
 lt:=λ ⟨a,h⟩=>(f a).lt h
theorem St.ex{α:Type}{f:α->aJ}{w0 w:World}{B:aJ}(h:St w0 w (star (Kb f) B)):∃ a,St w0 w (star (f a) B):=by
 obtain⟨F,⟨F1,F2,rfl,⟨a,h1⟩,h2,hd⟩,hc,hn⟩:=h;exact⟨a,_,⟨F1,F2,rfl,h1,h2,hd⟩,hc,hn⟩
theorem St.Is{α:Type}{f:α->aJ}{w0 w:World}{B:aJ}(a:α)(h:St w0 w (star (f a) B)):St w0 w (star (Kb f) B):=by
 obtain⟨F,⟨F1,F2,rfl,h1,h2,hd⟩,hc,hn⟩:=h;exact⟨_,⟨F1,F2,rfl,⟨a,h1⟩,h2,hd⟩,hc,hn⟩
theorem bW.swap{A B:aJ}:bW (star A B) (star B A):=by
 rintro w F ⟨F1,F2,rfl,h1,h2,hd⟩;exact⟨F2++F1,⟨F2,F1,rfl,h2,h1,λ k hk hk'=>hd k hk' hk⟩,λ j=>by simp[or_comm]⟩
theorem bW.assoc{A B C:aJ}:bW (star (star A B) C) (star A (star B C)):=by
 rintro w F ⟨F1,F2,rfl,⟨G1,G2,rfl,h1,h2,hd1⟩,h3,hd⟩;refine⟨G1++(G2++F2),⟨G1,G2++F2,rfl,h1,⟨G2,F2,rfl,h2,h3,λ k hk=>hd k (by simp[hk])⟩,λ k hk hk'=>?_⟩,λ j=>by simp⟩;rcases List.mem_append.1 hk' with h|h
 ·exact hd1 k hk h
 ·exact hd k (by simp[hk]) h
theorem bW.assoc'{A B C:aJ}:bW (star A (star B C)) (star (star A B) C):=by
 rintro w F ⟨F1,F2,rfl,h1,⟨G1,G2,rfl,h2,h3,hd1⟩,hd⟩;refine⟨(F1++G1)++G2,⟨F1++G1,G2,rfl,⟨F1,G1,rfl,h1,h2,λ k hk hk'=>hd k hk (by simp[hk'])⟩,h3,λ k hk hk'=>?_⟩,λ j=>by simp⟩;rcases List.mem_append.1 hk with h|h
 ·exact hd k h (by simp[hk'])
 ·exact hd1 k h hk'
theorem bW.unit(A:aJ):bW A (star A emp):=λ _ F h=>⟨F++[],⟨F,[],rfl,h,rfl,by simp⟩,λ j=>by simp⟩
end Go.Vc
namespace Go.Vc
theorem bW.unit'(A:aJ):bW (star A emp) A:=by
 rintro w F ⟨F1,F2,rfl,h,rfl,_⟩;exact⟨F1,h,λ j=>by simp⟩
theorem bW.out:∀ {l:List aJ} (i:Nat) {A:aJ},l[i]?=some A->bW (Sep l) (star A (Sep (l.eraseIdx i)))
 | [],_,_,h=>by simp at h
 | B :: l,0,A,h=>by simp at h; subst h; exact bW.refl _
 | B :: l,i+1,A,h=>(bW.right (bW.out (l:=l) i (by simpa using h))).trans bW.IY
theorem bW.back:∀ {l:List aJ} (i:Nat) {A:aJ},i<l.length->bW (star A (Sep (l.eraseIdx i))) (Sep (l.set i A))
 | [],_,_,h=>by simp at h
 | B :: l,0,A,h=>bW.refl _
 | B :: l,i+1,A,h=>bW.IY.trans (bW.right (bW.back (l:=l) i (by simpa using h)))
theorem St.out{w0 w:World}{l:List aJ}(h:St w0 w (Sep l))(i:Nat){A:aJ}(e:l[i]?=some A):St w0 w (star A (Sep (l.eraseIdx i))):=h.eqv (bW.out i e)
theorem St.back{w0 w:World}{l:List aJ}{A:aJ}{i:Nat}(h:St w0 w (star A (Sep (l.eraseIdx i))))(hi:i<l.length:=by decide):St w0 w (Sep (l.set i A)):=h.eqv (bW.back i hi)
section at_
variable {w0 w:World} {l:List aJ}
theorem St.ag{r:Nat}{cs:Array Value}{T:TypeId}(h:St w0 w (Sep l))(i:Nat)(e:l[i]?=some (ah r cs T))(j:Nat):w.cell? ⟨r,j,none⟩=cs[j]?:=(h.out i e).boxed j
theorem St.uD{b:Nat}{o:Obj}(h:St w0 w (Sep l))(i:Nat)(e:l[i]?=some (dU b o)):w.heap[b]?=some o:=(h.out i e).obj
theorem jf{i:Nat}{A:aJ}(e:l[i]?=some A):i<l.length:=by
 rcases Nat.lt_or_ge i l.length with h|h
 ·exact h
 ·rw[List.getElem?_eq_none h] at e; cases e
theorem St.putAt{b:Nat}{o:Obj}(h:St w0 w (Sep l))(i:Nat)(e:l[i]?=some (dU b o))(o' : Obj):St w0 (w.putObj b o') (Sep (l.set i (dU b o'))) :=
 (St.put (h.out i e) o').back (jf e)
theorem St.cm(h:St w0 w (Sep l))(cs:Array Value)(T:TypeId):St w0 (w.alloc (.cells cs T)) (Sep (ah w.heap.size cs T :: l)):=(h.box cs T).swap
theorem St.Ju(h:St w0 w (Sep l))(o:Obj):St w0 (w.alloc o) (Sep (dU w.heap.size o :: l)):=(h.newObj o).swap
theorem St.bL{cs:Array Value}{r:Nat}{T:TypeId}{v:Value}{j:Nat}{R:World->Prop}(h:St w0 w (Sep l))(i:Nat)(e:l[i]?=some (ah r cs T))(hj:j<cs.size)(hv:v.oneCell' = true)(k:∀ w',St w0 w' (Sep (l.set i (ah r (cs.setIfInBounds j v) T)))->R w'):dW w ⟨r,j,none⟩ v R:=by
 obtain⟨F,⟨ho,rfl⟩,use⟩:=(h.out i e).use;refine Fw ho hj hv (k _ ((use _ (ah r (cs.setIfInBounds j v) T) ⟨[r],⟨?_,rfl⟩,ax.set _ _ _ _ (by simp),λ j hj=>.inl hj⟩).back (jf e)));rw[heap_set,if_pos rfl,ho]; rfl
theorem St.az{x:Nat}{cs:Array Value}{T:TypeId}{R:World->Prop}(h:St w0 w (Sep l))(i:Nat)(e:l[i]?=some (ah x cs T))(vs:List Value)(hn:vs.length=cs.size)(h1:∀ v∈vs,v.oneCell' = true)(k:∀ w',St w0 w' (Sep (l.set i (ah x vs.toArray T)))->R w'):aN ⟨x,0,none⟩ 0 vs w R:=by
 obtain⟨F,⟨ho,rfl⟩,use⟩:=(h.out i e).use;refine wM vs 0 w cs ho (by omega) h1 λ w' hb hc _=>k w' ((use w' (ah x vs.toArray T) ⟨[x],⟨?_,rfl⟩,hc,λ j hj=>.inl hj⟩).back (jf e));rw[hb];have:cs.toList.drop (0+0+vs.length)=[]:=List.drop_of_length_le (by simp; omega);rw[this]
 simp
end at_
def bH(A B:aJ):Prop:=∀ w F,A.p w F->∃ F',B.p w F'/\∀ j∈F',j∈F
theorem bW.weak{A B:aJ}(h:bW A B):bH A B:=λ w F hA=>let ⟨F',hB,hj⟩:=h w F hA; ⟨F',hB,λ j hj'=>(hj j).1 hj'⟩
theorem bH.trans{A B C:aJ}(h:bH A B)(k:bH B C):bH A C:=λ w F hA =>
 let ⟨_,hB,h1⟩:=h w F hA;let ⟨F'',hC,h2⟩:=k w _ hB
 ⟨F'',hC,λ j hj=>h1 j (h2 j hj)⟩
theorem bH.right{A B C:aJ}(h:bH B C):bH (star A B) (star A C):=by
 rintro w F ⟨F1,F2,rfl,h1,h2,hd⟩;obtain⟨F2',h2',hj⟩:=h w F2 h2;exact⟨F1++F2',⟨F1,F2',rfl,h1,h2',λ k hk hk2=>hd k hk (hj k hk2)⟩,λ j hj'=>by rcases List.mem_append.1 hj' with h|h<;>simp[h,hj j]⟩
theorem bH.none(A:aJ):bH A emp:=λ _ _ _=>⟨[],rfl,by simp⟩
theorem St.weak{w0 w:World}{A B:aJ}(h:St w0 w A)(k:bH A B):St w0 w B:=by
 obtain⟨F,hA,hc,hn⟩:=h;obtain⟨F',hB,hs⟩:=k w F hA;exact⟨F',hB,hc,λ j hj=>hn j (hs j hj)⟩
def aA:List Nat->List aJ->List aJ
 | [],_=>[]
 | i :: is,l=>l.getD i emp :: aA is (l.set i emp)
theorem bH.pick:∀ (is:List Nat) (l:List aJ),bH (Sep l) (Sep (aA is l))
 | [],l=>bH.none _
 | i :: is,l=>by
  by_cases hi:i<l.length
  ·have e:l[i]?=some (l.getD i emp):=by simp[hi]
   refine(bW.out i e).weak.trans (bH.right ?_);refine bH.trans ?_ (bH.pick is (l.set i emp));refine bH.trans (bW.weak ?_) (bW.back (l:=l) (A:=emp) i hi).weak;exact(bW.unit _).trans bW.swap
  ·have e:l.getD i emp=emp:=by simp[List.getElem?_eq_none (Nat.le_of_not_lt hi)]
   have e2:l.set i emp=l:=List.set_eq_of_length_le (Nat.le_of_not_lt hi);unfold Vc.aA;rw[e,e2];exact(bH.pick is l).trans ((bW.unit _).trans bW.swap).weak
theorem St.aA{w0 w:World}{l:List aJ}(h:St w0 w (Sep l))(is:List Nat):St w0 w (Sep (Vc.aA is l)):=h.weak (bH.pick is l)
theorem bW.split{m:List aJ}:∀ (l:List aJ),bW (Sep (l++m)) (star (Sep l) (Sep m))
 | []=>(bW.unit _).trans bW.swap
 | _ :: l=>(bW.right (bW.split l)).trans bW.assoc'
theorem bW.cat{m:List aJ}:∀ (l:List aJ),bW (star (Sep l) (Sep m)) (Sep (l++m))
 | []=>bW.swap.trans (bW.unit' _)
 | _ :: l=>bW.assoc.trans (bW.right (bW.cat l))
theorem St.split{w0 w:World}{m:List aJ}(l:List aJ)(h:St w0 w (Sep (l++m))):St w0 w (star (Sep l) (Sep m)):=h.eqv (bW.split l)
theorem St.cat{w0 w:World}{l m:List aJ}(h:St w0 w (star (Sep l) (Sep m))):St w0 w (Sep (l++m)):=h.eqv (bW.cat l)
theorem St.join{w0 w:World}{A B:aJ}{l:List aJ}(h:St w0 w (Sep (A :: B :: l))):St w0 w (Sep (star A B :: l)):=h.eqv bW.assoc'
theorem St.one{w0 w:World}{A:aJ}(h:St w0 w A):St w0 w (Sep [A]):=h.eqv (bW.unit A)
theorem St.single{w0 w:World}{A:aJ}(h:St w0 w (Sep [A])):St w0 w A:=h.eqv (bW.unit' A)
theorem St.pair{w0 w:World}{A B:aJ}(h:St w0 w (Sep [A,B])):St w0 w (star A B):=h.eqv (bW.right (bW.unit' B))
theorem St.EL{w0 w:World}{A B:aJ}(h:St w0 w (star A B)):St w0 w (Sep [A,B]):=h.eqv (bW.right (bW.unit B))
theorem St.triple{w0 w:World}{A B C:aJ}(h:St w0 w (Sep [A,B,C])):St w0 w (star A (star B C)):=h.eqv (bW.right (bW.right (bW.unit' C)))
theorem St.Ca{w0 w:World}{A B C:aJ}(h:St w0 w (star A (star B C))):St w0 w (Sep [A,B,C]):=h.eqv (bW.right (bW.right (bW.unit C)))
end Go.Vc
namespace Go.Vc
theorem aq{P:Program}{f:FuncId}{args:Array Value}{w:World}{K:KP}{R:Ending->World->Prop}(h:Calls P f args w (nH K))(k:∀ v w',K v w'->R (.returned v) w'):Calls P f args w R :=
 h.mono λ e w' ⟨v,he,hv⟩=>by subst he; exact k v w' hv
theorem dN(g i j:Nat):(⟨g,i,none⟩:Addr).add j=⟨g,i+j,none⟩:=by unfold Addr.add; split<;>simp_all
theorem wJ{w:World}{e:TypeId}{sz n:Nat}{a:OA}{c:Nat}{xs:List Value}(own:w.ownsRow 0 e sz (.slice a n c) n xs)(hn:0<n):∃ g,a=some ⟨g,0,none⟩/\∀ (k:Nat) (v:Value),xs[k]?=some v->w.cell? ⟨g,k,none⟩=some v:=by
 rcases own.2 with⟨hv,rfl⟩|⟨g,cap,cur,hv,_,hg,h1,_,h3,h4⟩
 ·omega
 ·cases hv
  refine⟨g,rfl,λ k v hk=>?_⟩;rw[jY,hg,jb,<- Array.getElem?_toList,<- hk,<- h4,List.getElem?_take];rw[<- h4,List.getElem?_take] at hk
  split at hk
  ·rename_i hlt; rw[if_pos hlt]
  ·cases hk
theorem H6{r:Nat}{cs:Array Value}{T:TypeId}{n:Nat}(hn:cs.size=n)(hm:n<=maxLen):bH (ah r cs T) (kN T 1 (.slice (some ⟨r,0,none⟩) n n) n cs.toList):=by
 rintro w F ⟨h,rfl⟩;refine⟨[r],⟨⟨by simp[hn],.inr ⟨r,n,cs,rfl,Nat.zero_le _,h,Nat.le_refl _,hm,by omega,?_⟩⟩,by simp[Value.ownBlock]⟩,by simp⟩;rw[Nat.mul_one];exact List.take_of_length_le (by simp[hn])
theorem bH.left{A B C:aJ}(h:bH A B):bH (star A C) (star B C):=by
 rintro w F ⟨F1,F2,rfl,h1,h2,hd⟩;obtain⟨F1',h1',hj⟩:=h w F1 h1;exact⟨F1'++F2,⟨F1',F2,rfl,h1',h2,λ k hk hk2=>hd k (hj k hk) hk2⟩,λ j hj'=>by rcases List.mem_append.1 hj' with h|h<;>simp[h,hj j]⟩
theorem aQ{α:Type}{l:List α}{i:Nat}{a:α}(h:l[i]?=some a):l.take (i+1)=l.take i++[a]:=by
 rw[List.take_add_one,h]; rfl
theorem St.after{w0 w w' : World}{A B:aJ}(h:St w0 w A)(k:St w w' B):St w0 w' (star B A):=by
 obtain⟨F,hA,hc,hn⟩:=h;obtain⟨G,hB,hc',hn'⟩:=k;refine⟨G++F,⟨G,F,rfl,hB,A.loc hA hc' (by simp),λ k hk hk2=>?_⟩,hc.trans hc' (by simp),λ k hk=>?_⟩
 ·have:=hn' k hk;have:=A.lt hA k hk2;omega
 ·rcases List.mem_append.1 hk with h|h
  ·exact Nat.le_trans hc.size (hn' k h)
  ·exact hn k h
theorem sR{w:World}{e:TypeId}{sz n c:Nat}{a:OA}{xs:List Value}(own:w.ownsRow 0 e sz (.slice a n c) n xs):n<=c/\(a=none->c=0):=by
 rcases own.2 with⟨hv,rfl⟩|⟨g,cap,cur,hv,_,_,h1,_⟩
 ·cases hv; exact⟨Nat.zero_le _,λ _=>rfl⟩
 ·cases hv; exact⟨h1,λ h=>by cases h⟩
theorem bt{w:World}{a:Addr}:∀ (vs:List Value) (i:Nat),(∀ (j:Nat) (v:Value),vs[j]?=some v->w.cell? (a.add (i+j))=some v)->af w a i vs
 | [],_,_=>trivial
 | v :: vs,i,h=>⟨h 0 v rfl,bt vs (i+1) λ j u hj=>by have:=h (j+1) u (by simpa using hj); rwa [show i+(j+1)=i+1+j by omega] at this⟩
theorem St.cellsIn{w0 w:World}{l:List aJ}{r:Nat}{cs:Array Value}{T:TypeId}(h:St w0 w (Sep l))(i:Nat)(e:l[i]?=some (ah r cs T)):af w ⟨r,0,none⟩ 0 cs.toList :=
 bt _ 0 λ j v hj=>by
  rw[rE,Nat.zero_add,h.ag i e];simpa using hj
theorem Dh{P:Program}{gf:FuncId}{lb:Array Value}{F:FuncId->List Value->Prop}(he:fB P gf=true)(h:F gf lb.toList):wF P (.func (.func gf) #[] lb) F:=by
 show cond (true&&fB P gf) (F gf lb.toList) False;rw[he];exact h
theorem cI{P:Program}{g:FuncId}{x y args:Array Value}{w:World}{R:Ending->World->Prop}(he:fB P g=true)(h:Calls P g (x++args++y) w R):gw P (.func (.func g) x y) args w R:=by
 show cond (fB P g) (Calls P g (x++args++y) w R) False;rw[he];exact h
end Go.Vc
namespace Go.Vc
open Go Go.Deep
def cY(P:Program)(w:World):Nat->TypeId->List Value->Prop
 | 0,_,_=>True
 | d+1,t,cs=>match P.underlying t with
  | some .bool=>∃ b:Bool,cs=[.bool b]
  | some (.int k)=>∃ n:Int,cs=[.int k n]/\(Lit.int k n).wf=true
  | some .string=>∃ s:ByteArray,cs=[.string s]/\s.size<=maxLen
  | some (.slice e)=>∃ (a:OA) (l c:Nat),cs=[.slice a l c]/\l<=c/\c<=maxLen/\(a=none->c=0)/\l*P.bytesOf e<=reachBytes /\
    ∀ i,i<l->∃ q cs',a=some q/\w.cells? 0 (q.add (i*P.cellsOf e)) (P.cellsOf e)=some cs'/\cY P w d e cs'
  | some (.struct fs)=>cs.length=P.cellsOf t/\∀ f∈fs.toList,cY P w d f.type ((cs.drop f.offset).take (P.cellsOf f.type))
  | some (.array n e)=>cs.length=P.cellsOf t/\∀ i,i<n->cY P w d e ((cs.drop (i*P.cellsOf e)).take (P.cellsOf e))
  | _=>True
theorem FM{H:Type}{P:Program}{e:TypeId}:∀ {l:List (DataW H)} {d:DataW H} {y:Nat},d∈l->y∈d.weights P e->y∈DataW.weightsAll P e l
 | [],_,_,h,_=>by cases h
 | x :: l,d,y,h,hy=>by
  simp only[DataW.weightsAll,List.mem_append];rcases List.mem_cons.1 h with rfl|h
  ·exact .inl hy
  ·exact .inr (FM h hy)
theorem cA{H:Type}{P:Program}:∀ {ts:List TypeId} {l:List (DataW H)} {i:Nat} {t:TypeId} {d:DataW H} {y:Nat},ts[i]?=some t->l[i]?=some d->y∈d.weights P t->y∈DataW.weightsEach P ts l
 | [],_,_,_,_,_,h,_,_=>by simp at h
 | _ :: _,[],_,_,_,_,_,h,_=>by simp at h
 | t0 :: ts,d0 :: l,i,t,d,y,h1,h2,hy=>by
  simp only[DataW.weightsEach,List.mem_append]
  cases i with
  | zero=>simp at h1 h2; subst h1 h2; exact .inl hy
  | succ i=>exact .inr (cA (i:=i) (by simpa using h1) (by simpa using h2) hy)
theorem bp{H:Type}{enc:TypeId×Value->H}{P:Program}{w:World}{spare:Nat->Bool}{held:Bool}:∀ (d:Nat) {fuel:Nat} {t:TypeId} {cs:List Value} {x:DataW H×List MemPlace},DataW.trod enc P w 0 spare held fuel t cs=some x->(∀ y∈x.1.weights P t,y<=reachBytes)->cY P w d t cs
 | 0,_,_,_,_,_,_=>trivial
 | d+1,fuel,t,cs,x,h,hw=>by
  unfold cY
  split
  ·rename_i hu;obtain⟨b,rfl,_⟩:=DataW.trod_bool hu h;exact⟨b,rfl⟩
  ·rename_i k hu;obtain⟨n,rfl,_,hw⟩:=DataW.trod_int hu h;exact⟨n,rfl,hw⟩
  ·rename_i hu;obtain⟨s,rfl,_,hs⟩:=DataW.trod_string hu h;exact⟨s,rfl,hs⟩
  ·rename_i e hu;rcases open_slice hu h with⟨rfl,_⟩|⟨a,l,c,m,n,D,Pl,rfl,_,hl,hc,hm,hx,hi⟩
   ·exact⟨none,0,0,rfl,Nat.le_refl _,Nat.zero_le _,λ _=>rfl,by simp,λ i hi=>by omega⟩
   ·subst hx;simp only[DataW.weights,hu,List.length_map,List.length_range,List.mem_cons,List.mem_append] at hw;have hlm:l<=m:=by rw[hm]; split<;>omega
    have hb:=hw _ (.inl rfl);refine⟨some a,l,c,rfl,hl,hc,λ h=>(by cases h),?_,λ i hil=>?_⟩
    ·exact Nat.le_trans (Nat.mul_le_mul_right _ (by omega)) hb
    ·obtain⟨cs',h1,h2⟩:=hi i (by omega);exact⟨a,cs',rfl,h1,bp d h2 λ y hy=>hw y (.inr (.inl (FM (List.mem_map.2 ⟨i,by simpa using hil,rfl⟩) hy)))⟩
  ·rename_i fs hu;obtain⟨xs,n,_,rfl,hc,hl,hf⟩:=DataW.trod_struct hu h;refine⟨hc,λ f hm=>?_⟩;obtain⟨i,hi,rfl⟩:=List.mem_iff_getElem.1 hm;have hi' : i<fs.size:=by simpa using hi
   have h2:=hf i fs.toList[i] (by simp[hi']);rw[List.getElem?_eq_getElem (by omega)] at h2;simp only[DataW.weights,hu] at hw;exact bp d h2 λ y hy=>hw y (cA (i:=i) (by simp[hi']) (by rw[List.getElem?_map,List.getElem?_eq_getElem (by omega)]; rfl) hy)
  ·rename_i n e hu;obtain⟨xs,m,_,rfl,hc,hl,hf⟩:=DataW.trod_array hu h;refine⟨hc,λ i hi=>?_⟩;have h2:=hf i hi;rw[List.getElem?_eq_getElem (by omega)] at h2;simp only[DataW.weights,hu] at hw;exact bp d h2 λ y hy=>hw y (FM (List.mem_map.2 ⟨_,List.getElem_mem (by omega),rfl⟩) hy)
  ·trivial
end Go.Vc
namespace Go.Vc
open Go
abbrev sv (l:List UInt8):Value:=.string (bs l)
def In(n:Int):Prop:=-9223372036854775808<=n/\n<=9223372036854775807
theorem ay{n:Int}(h:In n):IntKind.i64.wrap n=n:=by
 obtain⟨h0,h1⟩:=h;simp only[IntKind.wrap,IntKind.signed,IntKind.bits]
 simp
 omega
theorem inc{k n:Nat}(h:n<=9223372036854775807)(hk:k<n):IntKind.i64.wrap ((k:Int)+1)=((k+1:Nat):Int):=ay ⟨by omega,by omega⟩
theorem oS(l:List UInt8)(i:Nat):(bs l)[i]?=l[i]?:=by
 by_cases h:i<l.length
 ·rw[getElem?_pos (bs l) i h,List.getElem?_eq_getElem h]; rfl
 ·rw[getElem?_neg (bs l) i h,List.getElem?_eq_none (by omega)]
theorem H7(l:List UInt8)(m n:Nat):(bs l).extract m n=bs ((l.drop m).take (n-m)):=by
 apply ByteArray.ext;rw[ByteArray.data_extract];apply Array.toList_inj.1;rw[Array.toList_extract,List.extract_eq_take_drop];simp[bs]
theorem Hu(l:List UInt8)(n:Nat):(bs l).extract 0 n=bs (l.take n):=by rw[H7]; simp
theorem wW(l:List UInt8):(bs l).toList=l:=by rw[Go.ByteArray.toList_eq]; simp[bs]
theorem dP(l:List UInt8):(bs l).size=l.length:=by simp[bs,ByteArray.size]
theorem jU(l m:List UInt8):bs l++bs m=bs (l++m):=by
 apply ByteArray.ext; simp[bs]
namespace I6
def l(u:I6):List Int:=[u.a,u.b,u.c,u.d,u.e,u.f]
def at'(u:I6):Nat->Int
 | 0=>u.a
 | 1=>u.b
 | 2=>u.c
 | 3=>u.d
 | 4=>u.e
 | 5=>u.f
 | _=>0
theorem get(u:I6)(k:Nat)(hk:k<6):(u.vs.toArray:Array Value)[k*1]?=some (iv (u.at' k)):=by
 match k,hk with
 | 0,_|1,_|2,_|3,_|4,_|5,_=>rfl
theorem ia(u:I6)(k:Nat)(hk:k<6):u.l[k]?=some (u.at' k):=by
 match k,hk with
 | 0,_|1,_|2,_|3,_|4,_|5,_=>rfl
theorem size(u:I6):u.vs.toArray.size=6:=rfl
theorem len(u:I6):u.l.length=6:=rfl
theorem one(u:I6):∀ v∈u.vs,v.oneCell' = true:=by
 intro v hv; simp[vs] at hv; rcases hv with rfl|rfl|rfl|rfl|rfl|rfl<;>rfl
theorem ext'{u v:I6}(h:∀ k,k<6->u.at' k=v.at' k):u=v:=by
 cases u; cases v
 have h0:=h 0 (by decide); have h1:=h 1 (by decide); have h2:=h 2 (by decide); have h3:=h 3 (by decide); have h4:=h 4 (by decide); have h5:=h 5 (by decide);simp only[at'] at h0 h1 h2 h3 h4 h5;subst h0 h1 h2 h3 h4 h5; rfl
theorem beq_iff{u v:I6}:u.beq v=true<->u=v:=by
 cases u; cases v
 simp[beq]
instance:DecidableEq I6:=λ u v=>if h:u.beq v=true then .isTrue (beq_iff.1 h) else .isFalse λ e=>h (beq_iff.2 e)
theorem beq_eq(u v:I6):u.beq v=decide (u=v):=by
 cases h:u.beq v with
 | true=>rw[decide_eq_true (beq_iff.1 h)]
 | false=>rw[decide_eq_false λ e=>by rw[beq_iff.2 e] at h; cases h]
def KA(l:List Int):I6:=⟨l.getD 0 0,l.getD 1 0,l.getD 2 0,l.getD 3 0,l.getD 4 0,l.getD 5 0⟩
def map(f:Int->Int)(u:I6):I6:=⟨f u.a,f u.b,f u.c,f u.d,f u.e,f u.f⟩
def zip(f:Int->Int->Int)(u v:I6):I6:=⟨f u.a v.a,f u.b v.b,f u.c v.c,f u.d v.d,f u.e v.e,f u.f v.f⟩
theorem fY(f:Int->Int->Int)(u v:I6)(k:Nat)(hk:k<6):(zip f u v).at' k=f (u.at' k) (v.at' k):=by
 match k,hk with
 | 0,_|1,_|2,_|3,_|4,_|5,_=>rfl
def mix(k:Nat)(u v:I6):I6:=⟨if 0<k then u.a else v.a,if 1<k then u.b else v.b,if 2<k then u.c else v.c,if 3<k then u.d else v.d,if 4<k then u.e else v.e,if 5<k then u.f else v.f⟩
theorem Ey(u v:I6):mix 0 u v=v:=rfl
theorem fD(u v:I6):mix 6 u v=u:=rfl
theorem bh(u v:I6)(k j:Nat)(hj:j<6):(mix k u v).at' j=if j<k then u.at' j else v.at' j:=by
 match j,hj with
 | 0,_|1,_|2,_|3,_|4,_|5,_=>rfl
theorem cE(u v:I6)(k:Nat)(hk:k<6):(mix k u v).vs.toArray.setIfInBounds k (iv (u.at' k))=(mix (k+1) u v).vs.toArray:=by
 match k,hk with
 | 0,_|1,_|2,_|3,_|4,_|5,_=>rfl
def put(u:I6)(k:Nat)(x:Int):I6:=match k with
 | 0=>{ u with a:=x }
 | 1=>{ u with b:=x }
 | 2=>{ u with c:=x }
 | 3=>{ u with d:=x }
 | 4=>{ u with e:=x }
 | 5=>{ u with f:=x }
 | _=>u
theorem gP(u:I6)(k:Nat)(x:Int)(hk:k<6):u.vs.toArray.setIfInBounds k (iv x)=(u.put k x).vs.toArray:=by
 match k,hk with
 | 0,_|1,_|2,_|3,_|4,_|5,_=>rfl
theorem fc(u:I6)(k j:Nat)(x:Int)(hk:k<6)(hj:j<6):(u.put k x).at' j=if j=k then x else u.at' j:=by
 match k,hk,j,hj with
 | 0,_,0,_|0,_,1,_|0,_,2,_|0,_,3,_|0,_,4,_|0,_,5,_=>rfl
 | 1,_,0,_|1,_,1,_|1,_,2,_|1,_,3,_|1,_,4,_|1,_,5,_=>rfl
 | 2,_,0,_|2,_,1,_|2,_,2,_|2,_,3,_|2,_,4,_|2,_,5,_=>rfl
 | 3,_,0,_|3,_,1,_|3,_,2,_|3,_,3,_|3,_,4,_|3,_,5,_=>rfl
 | 4,_,0,_|4,_,1,_|4,_,2,_|4,_,3,_|4,_,4,_|4,_,5,_=>rfl
 | 5,_,0,_|5,_,1,_|5,_,2,_|5,_,3,_|5,_,4,_|5,_,5,_=>rfl
end I6
theorem ax.cat{w w1 w2:World}{F G:List Nat}(h:ax w w1 F)(k:ax w1 w2 G):ax w w2 (F++G) :=
 ⟨Nat.le_trans h.size k.size,λ i hi hn=>(k.same i (Nat.lt_of_lt_of_le hi h.size) λ hg=>hn (List.mem_append_right _ hg)).trans (h.same i hi λ hf=>hn (List.mem_append_left _ hf)),h.env.trans k.env⟩
def held(Q:World->Prop):aJ where
 p w F:=(∀ w' G,ax w w' G->(∀ k∈F,k∉G)->Q w')/\∀ k∈F,k<w.heap.size
 loc:=λ {_ _ _ G} ⟨h,hl⟩ hc hd=>⟨λ w'' G' hc' hd'=>h w'' (G++G') (hc.cat hc') λ k hk hm=>(List.mem_append.1 hm).elim (hd k hk) (hd' k hk),λ k hk=>Nat.lt_of_lt_of_le (hl k hk) hc.size⟩
 lt:=λ ⟨_,hl⟩=>hl
theorem Ek{Q:World->Prop}{w:World}{F:List Nat}(h:(held Q).p w F):Q w:=h.1 w [] (ax.refl _ _) (by simp)
def nF(A:aJ)(Q:World->Prop):Prop:=∀ w F,A.p w F->Q w
theorem nF.weak{A:aJ}{Q:World->Prop}(h:nF A Q):bH A (held Q):=λ _ F hA =>
 ⟨F,⟨λ w' _ hc hd=>h w' F (A.loc hA hc hd),λ k hk=>A.lt hA k hk⟩,λ _ hj=>hj⟩
theorem nF.star{A B:aJ}{Q R:World->Prop}(h:nF A Q)(k:nF B R):nF (star A B) λ w=>Q w/\R w:=λ w _ ⟨F1,F2,_,h1,h2,_⟩=>⟨h w F1 h1,k w F2 h2⟩
theorem nF.mono{A:aJ}{Q R:World->Prop}(h:nF A Q)(k:∀ w,Q w->R w):nF A R:=λ w F hA=>k w (h w F hA)
theorem bB(Q:World->Prop):nF (held Q) Q:=λ _ _ h=>Ek h
theorem pg{Q R:World->Prop}(k:∀ w,Q w->R w):bH (held Q) (held R):=((bB Q).mono k).weak
theorem St.held{w0 w:World}{A:aJ}{Q:World->Prop}(h:St w0 w A)(k:nF A Q):St w0 w (Vc.held Q):=h.weak k.weak
theorem St.imp{w0 w:World}{A:aJ}{Q:World->Prop}(h:St w0 w A)(k:nF A Q):Q w:=let ⟨F,hA,_⟩:=h; k w F hA
theorem St.jc{w0 w:World}{l:List aJ}{Q:World->Prop}(h:St w0 w (Sep l))(i:Nat)(e:l[i]?=some (Vc.held Q)):Q w:=(h.out i e).first.imp (bB Q)
theorem St.av{w0 w:World}{l:List aJ}(h:St w0 w (Sep l))(cs:Array Value){T:TypeId}{R:Nat->World->Prop}(k:∀ r w',St w0 w' (Sep (ah r cs T :: l))->R r w'):au w (.cells cs T) R:=k _ _ (h.cm cs T)
theorem ai{α:Type}{p:Option α}{F:α->Prop}{q:α}(h:p=some q)(k:F q):ak p F:=by rw[h]; exact k
def DA{α:Type}(sz:Nat)(R:World->α->List Value->Prop)(w:World)(a:OA)(l:List α):Prop :=
 ∀ (i:Nat) (x:α),l[i]?=some x->∃ q cs,a=some q/\af w (q.add (i*sz)) 0 cs/\cs.length=sz/\R w x cs
abbrev bU {α:Type} (sz:Nat) (f:α->List Value) (w:World) (a:OA) (l:List α):Prop:=DA sz (λ _ x cs=>cs=f x) w a l
theorem DA.an{α:Type}{sz:Nat}{R:World->α->List Value->Prop}{w w' : World}{a:OA}{l:List α}(h:DA sz R w a l)(hc:ax w w' [])(hR:∀ x cs,R w x cs->R w' x cs):DA sz R w' a l:=λ i x hi =>
 let ⟨q,cs,h1,h2,h3,h4⟩:=h i x hi
 ⟨q,cs,h1,aK hc h2,h3,hR _ _ h4⟩
theorem bU.an{α:Type}{sz:Nat}{f:α->List Value}{w w' : World}{a:OA}{l:List α}(h:bU sz f w a l)(hc:ax w w' []):bU sz f w' a l:=DA.an h hc λ _ _ h=>h
theorem DA.take{α:Type}{sz:Nat}{R:World->α->List Value->Prop}{w:World}{a:OA}{l:List α}(h:DA sz R w a l)(n:Nat):DA sz R w a (l.take n):=λ i x hi=>by
 rw[List.getElem?_take] at hi
 split at hi
 ·exact h i x hi
 ·cases hi
theorem DA.nil{α:Type}{sz:Nat}{R:World->α->List Value->Prop}{w:World}{a:OA}:DA sz R w a []:=λ i x hi=>by simp at hi
theorem bU.at{α:Type}{sz:Nat}{f:α->List Value}{w:World}{a:OA}{l:List α}(h:bU sz f w a l){i:Nat}{x:α}(hi:l[i]?=some x):∃ q,a=some q/\af w (q.add (i*sz)) 0 (f x) :=
 let ⟨q,_,h1,h2,_,h4⟩:=h i x hi
 ⟨q,h1,h4▸h2⟩
theorem aL{w:World}{a:Addr}:∀ {vs:List Value} {i:Nat},af w a i vs->∀ (j:Nat) (v:Value),vs[j]?=some v->w.cell? (a.add (i+j))=some v
 | _ :: _,i,h,0,v,hj=>by simp at hj; subst hj; exact h.1
 | _ :: vs,i,h,j+1,v,hj=>by
  have:=aL h.2 j v (by simpa using hj)
  rwa [show i+(j+1)=i+1+j by omega]
theorem xL{α:Type}{sz:Nat}{f:α->List Value}(hf:∀ x,(f x).length=sz):∀ {l:List α} {i:Nat} {x:α},l[i]?=some x->∀ (j:Nat) (v:Value),(f x)[j]?=some v->(l.flatMap f)[i*sz+j]?=some v
 | [],_,_,h,_,_,_=>by simp at h
 | y :: l,0,x,h,j,v,hj=>by
  simp at h; subst h;have hlt:j<(f y).length:=(List.getElem?_eq_some_iff.1 hj).1;rw[List.flatMap_cons,Nat.zero_mul,Nat.zero_add,List.getElem?_append_left hlt]; exact hj
 | y :: l,i+1,x,h,j,v,hj=>by
  have h1:=xL hf (l:=l) (i:=i) (by simpa using h) j v hj;rw[List.flatMap_cons,List.getElem?_append_right (by rw[hf,Nat.add_mul]; omega),hf,Nat.add_mul];rw[show i*sz+1*sz+j-sz=i*sz+j by omega];exact h1
theorem bu{α:Type}{sz:Nat}{f:α->List Value}(hf:∀ x,(f x).length=sz):∀ (l:List α),(l.flatMap f).length=l.length*sz
 | []=>by simp
 | x :: l=>by rw[List.flatMap_cons,List.length_append,hf,bu hf l,List.length_cons,Nat.add_mul]; omega
theorem Fk{α:Type}{sz:Nat}{f:α->List Value}(hf:∀ x,(f x).length=sz){w:World}{e:TypeId}{a:OA}{c:Nat}{l:List α}(own:w.ownsRow 0 e sz (.slice a l.length c) l.length (l.flatMap f)):bU sz f w a l:=λ i x hi=>by
 have hlt:=(List.getElem?_eq_some_iff.1 hi).1;obtain⟨g,rfl,hget⟩:=wJ own (by omega);refine⟨_,f x,rfl,bt _ 0 λ j v hj=>?_,hf x,rfl⟩;rw[rE,Nat.zero_add];have h1:=xL hf hi j v hj;show w.cell? (Addr.add ⟨g,i*sz,none⟩ j)=some v;have:(⟨g,i*sz,none⟩:Addr).add j=⟨g,i*sz+j,none⟩:=by unfold Addr.add; split<;>simp_all
 rw[this];exact hget _ _ h1
end Go.Vc
namespace Go.Vc
open Go
theorem xm{P:Program}{w:World}{t ty e:TypeId}{z:Value}{sz by_:Nat}(hT:gW P t e z sz by_){a:OA}{n c c' : Nat}(hnc:n<=c):(Builtin.append_ #[t,t] ty #[.slice a n c,.slice none 0 c']).run P w=.ok (.slice a n c) w:=by
 obtain⟨i,hi,hz,hs,hby⟩:=hT.i;simp[Builtin.append_,run_underlying hT.u,sizeOf,typeInfo,hi,Builtin.lenOf,hnc,Builtin.firstCells]
 cases a<;>simp[storeCells]
abbrev dA {α:Type} (e:TypeId) (sz:Nat) (f:α->List Value) (a:OA) (c:Nat) (l:List α):aJ:=kN e sz (.slice a l.length c) l.length (l.flatMap f)
section
variable {α:Type} {e:TypeId} {sz:Nat} {f:α->List Value} {w0 w:World} {B:aJ} {a:OA} {c:Nat} {l:List α}
theorem bJ(hf:∀ x,(f x).length=sz):nF (dA e sz f a c l) λ w=>bU sz f w a l:=λ _ _ h=>Fk hf h.1
theorem St.rd(hf:∀ x,(f x).length=sz)(h:St w0 w (star (dA e sz f a c l) B)):bU sz f w a l:=Fk hf h.rowOf
theorem St.sU(h:St w0 w (star (dA e sz f a c l) B)):l.length<=c/\(a=none->c=0):=sR h.rowOf
theorem St.kO(h:St w0 w (star (dA e sz f a c l) B))(hl:0<l.length):∃ g,a=some ⟨g,0,none⟩:=let ⟨g,hg,_⟩:=wJ h.rowOf hl; ⟨g,hg⟩
theorem St.gU(h:St w0 w B):St w0 w (star (dA e sz f none 0 []) B):=h.Iv e sz |>.swap
theorem xM(hf:∀ x,(f x).length=sz):∀ (l:List α) (i:Nat) (x:α),i<l.length->(l.set i x).flatMap f=(l.flatMap f).take (i*sz)++f x++(l.flatMap f).drop (i*sz+sz)
 | [],_,_,h=>absurd h (by simp)
 | y :: l,0,x,_=>by
  have h0:(f y).length=sz:=hf y;simp[List.flatMap_cons,<- h0]
 | y :: l,i+1,x,h=>by
  have ih:=xM hf l i x (by simpa using h);have h0:(f y).length=sz:=hf y;rw[List.set_cons_succ,List.flatMap_cons,ih,List.flatMap_cons];have e1:(i+1)*sz=(f y).length+i*sz:=by rw[h0,Nat.add_mul]; omega
  rw[e1,List.take_length_add_append,Nat.add_assoc,List.drop_length_add_append]
  simp
theorem St.tc(hf:∀ x,(f x).length=sz){x:α}(h1:∀ v∈f x,v.oneCell' = true){g:Nat}(h:St w0 w (star (dA e sz f (some ⟨g,0,none⟩) c l) B)){i:Nat}(hi:i<l.length){R:World->Prop}(k:∀ w',St w0 w' (star (dA e sz f (some ⟨g,0,none⟩) c (l.set i x)) B)->R w'):aN (Addr.add ⟨g,0,none⟩ (i*sz)) 0 (f x) w R:=by
 obtain⟨F,⟨own,rfl⟩,use⟩:=h.use;rcases own.2 with⟨hv,_⟩|⟨g',cap,cur,hv,hb,hg,hnc,hcm,hcs,htake⟩
 ·cases hv
 ·cases hv
  have hx:=hf x;have hfl:=bu hf l;have hlen:(cur.toList.take (l.length*sz)).length=l.length*sz:=by rw[htake,hfl]
  have hcur:l.length*sz<=cur.size:=by rw[List.length_take] at hlen; simp at hlen; omega
  have h4:i*sz+sz<=l.length*sz:=by
   have:=Nat.mul_le_mul_right sz (show i+1<=l.length by omega);rw[Nat.add_mul] at this; omega
  rw[rE];refine wM (f x) 0 w cur hg (by omega) h1 λ w' hb' hc' _=>k w' (use w' _ ⟨[g],⟨⟨?_,.inr ⟨g,c,_,?_,hb,hb',?_,hcm,?_,?_⟩⟩,rfl⟩,hc',λ j hj=>.inl hj⟩)
  ·rw[bu hf,List.length_set]
  ·rw[List.length_set]
  ·rw[List.length_set]; exact hnc
  ·simp only[List.size_toArray,List.length_append,List.length_take,List.length_drop,Array.length_toList]; omega
  ·rw[List.length_set,xM hf l i x hi,<- htake];simp only[Nat.add_zero,List.append_assoc];rw[List.take_append,List.take_append,List.take_take,List.take_take,Nat.min_eq_right (by omega),Nat.min_eq_left (by omega),hx,List.drop_take];have e1:(List.take (i*sz) cur.toList).length=i*sz:=by rw[List.length_take]; simp; omega
   rw[e1,List.take_of_length_le (by omega:(f x).length<=l.length*sz-i*sz)]
   congr 3
   omega
theorem St.kQ{v:α->Value}{x:α}(h1:(v x).oneCell' = true){g:Nat}(h:St w0 w (star (dA e 1 (λ x=>[v x]) (some ⟨g,0,none⟩) c l) B)){i:Nat}(hi:i<l.length){R:World->Prop}(k:∀ w',St w0 w' (star (dA e 1 (λ x=>[v x]) (some ⟨g,0,none⟩) c (l.set i x)) B)->R w'):dW w (Addr.add ⟨g,0,none⟩ (i*1)) (v x) R:=by
 have:=St.tc (f:=λ x=>[v x]) (λ _=>rfl) (x:=x) (by simpa using h1) h hi (R:=R) k;have e0:(Addr.add ⟨g,0,none⟩ (i*1)).add 0=Addr.add ⟨g,0,none⟩ (i*1):=by rw[Addr.add_add]; simp
 simpa only[aN,e0] using this
end
section
variable {α:Type} {P:Program} {t ty e:TypeId} {z:Value} {sz by_:Nat} {f:α->List Value} {w0 w:World} {B:aJ} {a:OA} {c:Nat} {l:List α}
theorem bU.cell(hf:∀ x,(f x).length=sz)(h:bU sz f w a l):∀ (j:Nat) (u:Value),(l.flatMap f)[j]?=some u->∃ q,a=some q/\w.cell? (q.add j)=some u:=by
 suffices H:∀ (l:List α) (j:Nat) (u:Value),(l.flatMap f)[j]?=some u->∃ i r x,j=i*sz+r/\l[i]?=some x/\(f x)[r]?=some u by
  intro j u hj;obtain⟨i,r,x,rfl,hi,hr⟩:=H l j u hj;obtain⟨q,hq,hc⟩:=h.at hi;refine⟨q,hq,?_⟩;have:=aL hc r u hr;rw[Nat.zero_add,Addr.add_add] at this;exact this
 intro l
 induction l with
 | nil=>intro j u h; simp at h
 | cons x l ih =>
  intro j u h;rw[List.flatMap_cons] at h
  by_cases hj:j<sz
  ·rw[List.getElem?_append_left (by rw[hf]; exact hj)] at h;exact⟨0,j,x,by omega,rfl,h⟩
  ·rw[List.getElem?_append_right (by rw[hf]; omega),hf] at h;obtain⟨i,r,y,e1,h1,h2⟩:=ih _ _ h;exact⟨i+1,r,y,by rw[Nat.add_mul]; omega,by simpa using h1,h2⟩
theorem aY(hT:gW P t e z sz by_)(hf:∀ x,(f x).length=sz)(h1:∀ x,∀ v∈f x,v.oneCell' = true)(h:St w0 w (star (dA e sz f a c l) B)){a2:OA}{c2:Nat}{l2:List α}(hr:bU sz f w a2 l2)(hb:(l.length+l2.length)*by_<=140737488355328)(hm:l.length+l2.length<=9223372036854775807){R:Option Addr->Nat->Nat->World->Prop}(k:∀ a' c' w',St w0 w' (star (dA e sz f a' c' (l++l2)) B)->R a' (l++l2).length c' w') :
  aW P (Builtin.append_ #[t,t] ty #[.slice a l.length c,.slice a2 l2.length c2]) w λ e w1=>∃ a l c,e=.slice a l c/\R a l c w1:=by
 have one:∀ u∈l2.flatMap f,u.oneCell' = true:=λ u hu=>by
  obtain⟨x,_,hx⟩:=List.mem_flatMap.1 hu;exact h1 x u hx
 cases a2 with
 | some q =>
  refine zI hT h (bu hf l2) (λ j u hj=>?_) one hb hm λ v' w' h''=>?_
  ·obtain⟨q',hq,hc⟩:=hr.cell hf j u hj
   cases hq; exact hc
  ·obtain⟨a',c',rfl⟩:=pq h''.rowOf;refine⟨a',_,c',rfl,?_⟩;have h3:St w0 w' (star (dA e sz f a' c' (l++l2)) B):=by
    show St w0 w' (star (kN e sz (.slice a' (l++l2).length c') (l++l2).length ((l++l2).flatMap f)) B);rw[List.length_append,List.flatMap_append]; exact h''
   have:=k a' c' w' h3
   rwa [List.length_append] at this
 | none =>
  have hn:l2=[]:=by
   cases l2 with
   | nil=>rfl
   | cons x l2=>obtain⟨q,_,hq,_⟩:=hr 0 x rfl; cases hq
  subst hn;rw[List.length_nil];refine⟨_,w,xm hT (sR h.rowOf).1,a,_,c,rfl,?_⟩;rw[List.append_nil] at k;exact k a c w h
theorem rI(hT:gW P t e z sz by_)(hf:∀ x,(f x).length=sz){x:α}(h1:∀ v∈f x,v.oneCell' = true)(h:St w0 w (star (dA e sz f a c l) B))(hb:(l.length+1)*by_<=140737488355328)(hm:l.length+1<=9223372036854775807){R:Option Addr->Nat->Nat->World->Prop}(k:∀ a' c' w',St w0 w' (star (dA e sz f a' c' (l++[x])) B)->R a' (l++[x]).length c' w'){cs:Array Value}(hcs:cs=(f x).toArray) :
  au w (.cells cs e) λ r w1=>aW P (Builtin.append_ #[t,t] ty #[.slice a l.length c,.slice (some ⟨r,0,none⟩) 1 1]) w1 λ e w2=>∃ a l c,e=.slice a l c/\R a l c w2:=by
 refine F5 hT h (hf x) h1 hb hm (λ a' c' w' h'=>?_) hcs;have h3:St w0 w' (star (dA e sz f a' c' (l++[x])) B):=by
  show St w0 w' (star (kN e sz (.slice a' (l++[x]).length c') (l++[x]).length ((l++[x]).flatMap f)) B);rw[List.length_append,List.flatMap_append,List.flatMap_singleton]; exact h'
 have:=k a' c' w' h3
 rwa [List.length_append] at this
theorem yb{g:Nat}{cs:Array Value}(hf:∀ x,(f x).length=sz)(hg:w.heap[g]?=some (.cells cs e (0,0)))(hc:cs.toList=l.flatMap f)(hm:l.length<=maxLen) :
  w.ownsRow 0 e sz (.slice (some ⟨g,0,none⟩) l.length l.length) l.length (l.flatMap f):=by
 have hl:cs.size=l.length*sz:=by rw[<- Array.length_toList,hc,bu hf]
 refine⟨bu hf l,.inr ⟨g,l.length,cs,rfl,Nat.zero_le _,hg,Nat.le_refl _,hm,hl,?_⟩⟩;rw[hc];exact List.take_of_length_le (by rw[bu hf]; exact Nat.le_refl _)
theorem CM{cs:Array Value}{x:α}(hx:cs.toList=f x)(h0:0<cs.size):∀ n,(madeCells cs (n*cs.size)).toList=(List.replicate n x).flatMap f:=by
 have get:∀ m j,j<m->(madeCells cs m)[j]?=cs[j%cs.size]?:=λ m j hj=>by
  have:j%cs.size<cs.size:=Nat.mod_lt _ h0;simp[madeCells,hj,this]
 intro n;apply List.ext_getElem?;intro j;rw[Array.getElem?_toList];have hsz:∀ y:α,y=x->(f y).length=cs.size:=λ y hy=>by rw[hy,<- hx]; simp
 by_cases hj:j<n*cs.size
 ·rw[get _ _ hj];have hq:j / cs.size<n:=Nat.div_lt_of_lt_mul (by rw[Nat.mul_comm]; exact hj);have e1:((List.replicate n x).flatMap f)[j / cs.size*cs.size+j%cs.size]?=cs[j%cs.size]?:=by
   suffices H:∀ n q r,q<n->r<cs.size->((List.replicate n x).flatMap f)[q*cs.size+r]?=cs[r]? from H n _ _ hq (Nat.mod_lt _ h0)
   intro n
   induction n with
   | zero=>intro q r h; omega
   | succ n ih =>
    intro q r h hr;rw[List.replicate_succ,List.flatMap_cons]
    cases q with
    | zero =>
     rw[Nat.zero_mul,Nat.zero_add,List.getElem?_append_left (by rw[hsz x rfl]; exact hr),<- hx,Array.getElem?_toList]
    | succ q =>
     rw[List.getElem?_append_right (by rw[hsz x rfl,Nat.add_mul]; omega),hsz x rfl];rw[show(q+1)*cs.size+r-cs.size=q*cs.size+r by rw[Nat.add_mul]; omega];exact ih q r (by omega) hr
  rw[Nat.div_add_mod' j cs.size] at e1;rw[e1]
 ·rw[Array.getElem?_eq_none (by rw[size_madeCells]; omega),List.getElem?_eq_none];have:∀ n,((List.replicate n x).flatMap f).length=n*cs.size:=λ n=>by
   induction n with
   | zero=>simp
   | succ n ih=>rw[List.replicate_succ,List.flatMap_cons,List.length_append,ih,hsz x rfl,Nat.add_mul]; omega
  rw[this]; omega
theorem aE(hT:gW P t e z sz by_)(hf:∀ x,(f x).length=sz){x:α}(hz:z.cells.toList=f x)(h:St w0 w B){n:Nat}(hn:by_*n<=281474976710656)(h63:n<=9223372036854775807){R:Option Addr->Nat->Nat->World->Prop}(k:∀ g w',ax w w' []->St w0 w' (star (dA e sz f (some ⟨g,0,none⟩) n (List.replicate n x)) B)->R (some ⟨g,0,none⟩) n n w') :
  aW P (Instr.makeSlice t (iv n) (iv n)) w λ e w1=>∃ a l c,e=.slice a l c/\R a l c w1:=by
 obtain⟨i,hi,hzz,hs,hby⟩:=hT.i;have hb' : (i.bytes:Int)*(n:Int)<=281474976710656:=by
  have h:((i.bytes*n:Nat):Int)<=281474976710656:=by rw[hby]; omega
  rwa [Int.natCast_mul] at h
 have hr:=run_make (P:=P) w t e i z hT.u hi hzz .i64 .i64 (n:Int) (n:Int) (by omega) (Int.le_refl _) hb' (by omega);rw[Int.toNat_natCast,hs,<- hT.zc] at hr;refine⟨_,_,hr,_,_,_,rfl,k _ _ (ax.new _ _ _) ?_⟩;have own:(w.alloc (.cells (madeCells z.cells (n*z.cells.size)) e)).ownsRow 0 e sz (.slice (some ⟨w.heap.size,0,none⟩) (List.replicate n x).length (List.replicate n x).length) (List.replicate n x).length ((List.replicate n x).flatMap f) :=
  yb hf (by rw[iG,if_pos rfl]) (CM hz (by rw[hT.zc]; exact hT.pos) n) (by rw[List.length_replicate]; unfold maxLen; exact h63)
 have s:=h.add (ax.new w (.cells (madeCells z.cells (n*z.cells.size)) e) []) (B:=kN e sz _ _ _) (G:=[w.heap.size]) ⟨own,rfl⟩ (by simp);have s2:=s.swap;rw[List.length_replicate] at s2;unfold dA;rw[List.length_replicate];exact s2
theorem sS(w:World)(dT sT ty elem:TypeId)(g n dCap:Nat)(ad:Addr)(sCap:Nat)(cur:Array Value)(t:TypeId)(cs:List Value){sz:Nat}(hu:P.underlying dT=some (.slice elem))(hs:(P.info? elem).map (·.size)=some sz)(hg:w.heap[g]?=some (.cells cur t (0,0)))(hn:cs.length=n*sz)(hsrc:∀ j v,cs[j]?=some v->w.cell? (ad.add j)=some v)(hfit:cs.length<=cur.size)(h1:∀ v∈cs,v.oneCell' = true) :
  (Builtin.copy_ #[dT,sT] ty #[.slice (some ⟨g,0,none⟩) n dCap,.slice (some ad) n sCap]).run P w =
   .ok (goInt n) (w.setRow g (cs++cur.toList.drop cs.length).toArray):=by
 have hl:=run_loadCells_list (P:=P) w ad cs hsrc;have hst:=run_storeCells_at P g 0 t cs 0 cur w hg (by simpa using hfit) h1
 cases hq:P.info? elem with
 | none=>simp[hq] at hs
 | some i =>
  have hi:i.size=sz:=by simpa[hq] using hs
  rw[Nat.zero_add,List.take_zero,List.nil_append] at hst;simp[Builtin.copy_,run_underlying hu,Builtin.lenOf,Builtin.firstCells,sizeOf,typeInfo,hq,hi,<- hn,hl,hst]
theorem Gp(hT:gW P t e z sz by_)(hf:∀ x,(f x).length=sz)(h1:∀ x,∀ v∈f x,v.oneCell' = true){g n:Nat}(hn:l.length=n)(h:St w0 w (star (dA e sz f (some ⟨g,0,none⟩) c l) B)){a2:OA}{c2:Nat}{l2:List α}(hl:l2.length=n)(hr:bU sz f w a2 l2){K:KP}(k:∀ v w',St w0 w' (star (dA e sz f (some ⟨g,0,none⟩) c l2) B)->K v w') :
  aW P (Builtin.copy_ #[t,t] ty #[.slice (some ⟨g,0,none⟩) n c,.slice a2 n c2]) w K:=by
 obtain⟨i,hi,hzz,hs,hby⟩:=hT.i;have hsz:(P.info? e).map (·.size)=some sz:=by simp[hi,hs]
 subst hn;have one:∀ u∈l2.flatMap f,u.oneCell' = true:=λ u hu=>by
  obtain⟨x,_,hx⟩:=List.mem_flatMap.1 hu;exact h1 x u hx
 have hfl:=bu hf l2;have hfl1:=bu hf l;obtain⟨F,⟨own,rfl⟩,use⟩:=h.use;rcases own.2 with⟨hv,_⟩|⟨g',cap,cur,hv,hb,hg,hnc,hcm,hcs,htake⟩
 ·cases hv
 ·cases hv
  have hcur:l.length*sz<=cur.size:=by
   have:=congrArg List.length htake;rw[List.length_take,hfl1] at this; simp at this; omega
  by_cases h0:l.length=0
  ·obtain rfl:l=[]:=List.eq_nil_of_length_eq_zero h0;obtain rfl:l2=[]:=List.eq_nil_of_length_eq_zero hl
   cases a2 with
   | some ad =>
    have hr2:=sS (P:=P) w t t ty e g 0 c ad c2 cur e [] hT.u hsz hg (by simp) (by simp) (by simp) (by simp);refine⟨_,_,hr2,k _ _ ?_⟩;have:w.setRow g ([]++cur.toList.drop ([]:List Value).length).toArray=w.setRow g cur:=by simp
    rw[this];refine h.quiet ⟨by simp[World.setRow],λ j _ _=>?_,⟨rfl,rfl,rfl⟩⟩
    by_cases hj:j=g
    ·subst hj; rw[setRow_heap w j cur _ e _ hg,hg]
    ·exact setRow_other w g j _ hj
   | none =>
    refine⟨goInt 0,w,?_,k _ _ h⟩;simp[Builtin.copy_,run_underlying hT.u,Builtin.lenOf,Builtin.firstCells,sizeOf,typeInfo,hi,storeCells]
  ·obtain⟨x,hx⟩:∃ x,l2[0]?=some x:=by
    cases l2 with
    | nil=>simp at hl; omega
    | cons x l2=>exact⟨x,rfl⟩
   obtain⟨ad,rfl,_⟩:=hr.at hx;have hr2:=sS (P:=P) w t t ty e g l.length c ad c2 cur e (l2.flatMap f) hT.u hsz hg (by rw[hfl,hl]) (λ j v hj=>by obtain⟨q,hq,hc⟩:=hr.cell hf j v hj; cases hq; exact hc) (by rw[hfl,hl]; exact hcur) one;refine⟨_,_,hr2,k _ _ (use _ _ ⟨[g],⟨⟨hfl,.inr ⟨g,c,_,by rw[hl],hb,setRow_heap w g cur _ e _ hg,by rw[hl]; exact hnc,hcm,?_,?_⟩⟩,rfl⟩,⟨by simp[World.setRow],λ j _ hj=>setRow_other w g j _ (by simp[Value.ownBlock] at hj; exact hj),⟨rfl,rfl,rfl⟩⟩,λ j hj=>.inl (by simpa[Value.ownBlock] using hj)⟩)⟩
   ·rw[<- hcs];simp only[List.size_toArray,List.length_append,List.length_drop,Array.length_toList,hfl,hl];omega
   ·rw[List.take_append_of_le_length (by rw[hfl,hl]; exact Nat.le_refl _)];exact List.take_of_length_le (by rw[hfl,hl]; exact Nat.le_refl _)
theorem Co(hT:gW P t e z sz by_)(hf:∀ x,(f x).length=sz){x:α}(h1:∀ v∈f x,v.oneCell' = true)(s:St w0 w B)(h:bU sz f w a l){r:Nat}(hx:∀ j u,(f x)[j]?=some u->w.cell? ⟨r,j,none⟩=some u)(hb:(l.length+1)*by_<=140737488355328)(hm:l.length+1<=9223372036854775807){R:Option Addr->Nat->Nat->World->Prop}(k:∀ a' c' w',St w0 w' (star (dA e sz f a' c' (l++[x])) B)->R a' (l++[x]).length c' w') :
  aW P (Builtin.append_ #[t,t] ty #[.slice a l.length l.length,.slice (some ⟨r,0,none⟩) 1 1]) w λ e w2=>∃ a l c,e=.slice a l c/\R a l c w2:=by
 cases a with
 | none =>
  have hn:l=[]:=by
   cases l with
   | nil=>rfl
   | cons x l=>obtain⟨q,_,hq,_⟩:=h 0 x rfl; cases hq
  subst hn;refine zI hT (s.gU (e:=e) (sz:=sz) (f:=f)) (m:=1) (news:=f x) (by rw[hf]; omega) (λ j u hj=>by rw[rE]; exact hx j u hj) h1 (by simpa using hb) (by simp) λ v' w' h'=>?_;obtain⟨a',c',rfl⟩:=pq h'.rowOf;have h2:St w0 w' (star (dA e sz f a' c' ([]++[x])) B):=by
   show St w0 w' (star (kN e sz (.slice a' 1 c') 1 ([x].flatMap f)) B);rw[List.flatMap_singleton]; simpa using h'
  exact⟨a',_,c',rfl,k a' c' w' h2⟩
 | some q =>
  obtain⟨i,hi,hz,hs,hby⟩:=hT.i;have hfl:=bu hf l;have hr:=run_append_grow (P:=P) w t ty e i z hT.u hi hz q l.length l.length (l.flatMap f) (by rw[hfl,hs]) (λ j u hj=>by obtain⟨q',hq,hc⟩:=h.cell hf j u hj; cases hq; exact hc)
   ⟨r,0,none⟩ 1 1 (f x) (by rw[hf,hs]; omega) (λ j u hj=>by rw[rE]; exact hx j u hj) (by omega) (by omega) (growslice_fits (by omega) (by rw[hby]; exact hb))
  have hge:=grownCap_ge w (l.length+1) l.length e;have hcm:grownCap w (l.length+1) l.length e<=maxLen:=grownCap_le_maxLen w (l.length+1) l.length e (by unfold maxLen; omega);generalize grownCap w (l.length+1) l.length e=cap at hr hge hcm;refine⟨_,_,hr,_,_,_,rfl,?_⟩;have c0:ax w w.drew []:=ax.drew w [];have c1:ax w (w.drew.alloc (.cells ((l.flatMap f).toArray++(f x).toArray++Builtin.zeroCells z.cells (cap-(l.length+1))) e)) []:=c0.trans (ax.new _ _ []) (by simp);have own:(w.drew.alloc (.cells ((l.flatMap f).toArray++(f x).toArray++Builtin.zeroCells z.cells (cap-(l.length+1))) e)).ownsRow 0 e sz (.slice (some ⟨w.heap.size,0,none⟩) (l++[x]).length cap) (l++[x]).length ((l++[x]).flatMap f):=by
   have hx1:=hf x;refine⟨bu hf _,.inr ⟨w.heap.size,cap,_,by simp,Nat.zero_le _,by rw[iG,if_pos (show w.heap.size=w.drew.heap.size from rfl)],by simpa using hge,hcm,?_,?_⟩⟩
   ·have hzs:z.cells.size=sz:=hT.zc;simp only[Array.size_append,List.size_toArray,size_zeroCells,hzs,hfl,hx1];rw[show l.length*sz+sz=(l.length+1)*sz by rw[Nat.add_mul]; omega,<- Nat.add_mul]
    congr 1; omega
   ·rw[List.length_append,List.length_singleton,List.flatMap_append,List.flatMap_singleton];simp only[Array.toList_append,List.append_assoc];rw[<- List.append_assoc];have:(l.length+1)*sz=(l.flatMap f++f x).length:=by rw[List.length_append,hfl,hx1,Nat.add_mul]; omega
    rw[this,List.take_left]
  have s2:=s.add c1 (B:=kN e sz _ _ _) (G:=[w.heap.size]) ⟨own,rfl⟩ (by simp);have:=k _ _ _ s2.swap
  rwa [List.length_append] at this
theorem iD(hT:gW P t e z sz by_)(hf:∀ x,(f x).length=sz)(h1:∀ x,∀ v∈f x,v.oneCell' = true)(s:St w0 w B)(h:bU sz f w a l)(hb:l.length*by_<=140737488355328)(hm:l.length<=9223372036854775807){K:KP}(k:∀ a' c' w',St w0 w' (star (dA e sz f a' c' l) B)->K (.slice a' l.length c') w') :
  cond (a).isNone (K (.slice none 0 0) w) (au w (.cells #[] e) λ r1 w1=>aW P (Builtin.append_ #[t,t] ty #[.slice (some ⟨r1,0,none⟩) 0 0,.slice a l.length c]) w1 λ e1 w2=>∃ (a2:OA) (l2 c2:Nat),e1=(.slice a2 l2 c2)/\K (.slice a2 l2 c2) w2):=by
 cases a with
 | none =>
  have hn:l=[]:=by
   cases l with
   | nil=>rfl
   | cons x l=>obtain⟨q,_,hq,_⟩:=h 0 x rfl; cases hq
  subst hn;exact cT rfl (k none 0 w s.gU)
 | some q =>
  refine cF rfl (aR ?_);have s1:=s.box #[] e;have c1:=ax.new w (.cells #[] e) [];generalize w.alloc _=w1 at s1 c1 ⊢;generalize w.heap.size=r1 at s1 ⊢;have s2:St w0 w1 (star (dA e sz f (some ⟨r1,0,none⟩) 0 []) B):=s1.swap.weak (bH.left (by
   rintro w F ⟨h,rfl⟩;exact⟨[r1],⟨yb (f:=f) hf h rfl (by simp),by simp[Value.ownBlock]⟩,by simp⟩))
  exact aY (a2:=some q) (c2:=c) (l2:=l) hT hf h1 s2 (h.an c1) (by simp; omega) (by simp; omega) (R:=λ a' n c' w'=>K (.slice a' n c') w') (λ a' c' w' h'=>by rw[List.nil_append] at h' ⊢; exact k a' c' w' h')
theorem uk(hT:gW P t e z sz by_)(hf:∀ x,(f x).length=sz)(h1:∀ x,∀ v∈f x,v.oneCell' = true){x0:α}(hz:z.cells.toList=f x0)(s:St w0 w B)(h:bU sz f w a l)(hb:by_*l.length<=140737488355328)(hm:l.length<=9223372036854775807){K:KP}(k:∀ g w',St w0 w' (star (dA e sz f (some ⟨g,0,none⟩) l.length l) B)->K (.slice (some ⟨g,0,none⟩) l.length l.length) w') :
  aW P (Instr.makeSlice t (iv l.length) (iv l.length)) w λ e1 w1=>∃ (a2:OA) (l2 c2:Nat),e1=(.slice a2 l2 c2) /\
   aW P (Builtin.copy_ #[t,t] ty #[.slice a2 l2 c2,.slice a l.length c]) w1 λ _ w2=>K (.slice a2 l2 c2) w2:=by
 exact aE hT hf hz s (n:=l.length) (by omega) hm λ g w' hc s'=>Gp hT hf h1 (by simp) s' rfl (h.an hc) λ _ w2 s2=>k g w2 s2
end

import Derived.Shelf.Abstract
import Derived.ScopeJumps
import Derived.Test.YtemiicbbbojdiaaGreatDoorProg
import Derived.Laws.AppendOwn
import Derived.Laws.MakeOwn
import Derived.Laws.CopyRow
import Derived.Laws.IdiomCopy
import Derived.Laws.BytesArg
import Derived.IntWalk
import Derived.Laws.Bits64
import Derived.Laws.Strings
import Derived.Deep.Slices
import Derived.OpenShut
import Derived.KernelRfl
import Derived.Test.YtemiicbbbojdiaaGreatDoorT00
set_option linter.unusedVariables false
set_option maxRecDepth 100000
namespace Go.Vc
def cS:Code->List Nat
  | .region _ ops _=>ops.toList.filterMap (·.dst)
  | .seq a b=>cS a++cS b
  | .cond _ a b=>cS a++cS b
  | .block _ c=>cS c
  | .loop c=>cS c
  | .scope c=>cS c
  | _=>[]
theorem cW:∀ {c:Code} {l:Nat} {rest:Code},findLabel c l=some rest->∀ x∈cS rest,x∈cS c
  | .seq a b,l,rest,h,x,hx=>by
    simp only[findLabel] at h
    split at h
    · rename_i r hr
      cases h
      simp only[cS,List.mem_append] at hx ⊢;exact hx.imp (cW hr x) id
    · exact List.mem_append_right _ (cW h x hx)
  | .label l',l,rest,h,x,hx=>by
    simp only[findLabel] at h
    split at h
    · cases h; exact hx
    · cases h
  | .skip,_,_,h,_,_=>by simp[findLabel] at h
  | .region ..,_,_,h,_,_=>by simp[findLabel] at h
  | .cond ..,_,_,h,_,_=>by simp[findLabel] at h
  | .block ..,_,_,h,_,_=>by simp[findLabel] at h
  | .loop ..,_,_,h,_,_=>by simp[findLabel] at h
  | .exit ..,_,_,h,_,_=>by simp[findLabel] at h
  | .ret,_,_,h,_,_=>by simp[findLabel] at h
  | .goto ..,_,_,h,_,_=>by simp[findLabel] at h
  | .scope ..,_,_,h,_,_=>by simp[findLabel] at h
  | .rangeFunc ..,_,_,h,_,_=>by simp[findLabel] at h
  | .refuse ..,_,_,h,_,_=>by simp[findLabel] at h
abbrev Live:=List (Nat×TK)
def nH:List Nat->Nat->Bool
  | [],_=>false
  | x :: l,n=>cond (Nat.beq x n) true (nH l n)
theorem jE:∀ {l:List Nat} {n:Nat},nH l n=true<->n∈l
  | [],n=>by simp[nH]
  | x :: l,n=>by
    simp only[nH,List.mem_cons]
    cases h:Nat.beq x n with
    | true=>simp[Nat.eq_of_beq_eq_true h]
    | false =>
      have:n≠x:=λ e=>by rw[e,Nat.beq_refl] at h; cases h
      simp[jE,this]
def lk:List (Nat×Value)->Nat->Option Value
  | [],_=>none
  | (s,v) :: l,n=>cond (Nat.beq s n) (some v) (lk l n)
def og:Live->List Value->List (Nat×Value)
  | (s,_) :: l,v :: vs=>(s,v) :: og l vs
  | _,_=>[]
def eu(mods:List Nat)(lv:List (Nat×Value))(d:Nat->Value):Nat->Tm->Tm
  | _,[]=>[]
  | i,x :: t=>(match lk lv i with | some v=>v | none=>cond (nH mods i) (d i) x) :: eu mods lv d (i+1) t
def SJ:SK->Type->Type
  | .int _,X=>Int->X
  | .bool,X=>Bool->X
  | .str,X=>ByteArray->X
  | .ptr,X=>Option Addr->X
  | .slice,X=>Option Addr->Nat->Nat->X
  | .map,X=>Option Nat->X
  | .blk,X=>Nat->X
  | .six,X=>I6->X
  | .raw,X=>Value->X
def LJ:List SK->Type->Type
  | [],X=>X
  | k :: ks,X=>SJ k (LJ ks X)
def VJ:Live->Type->Type
  | [],X=>X
  | (_,.s k) :: l,X=>SJ k (VJ l X)
  | (_,.agg ks) :: l,X=>LJ ks (VJ l X)
def xy{X:Type}:(k:SK)->SJ k X->(Value->X->Prop)->Prop
  | .int k,J,F=>∀ n:Int,F (.int k n) (J n)
  | .bool,J,F=>∀ b:Bool,F (.bool b) (J b)
  | .str,J,F=>∀ s:ByteArray,F (.string s) (J s)
  | .ptr,J,F=>∀ p:Option Addr,F (.pointer p) (J p)
  | .slice,J,F=>∀ (a:OA) (l c:Nat),F (.slice a l c) (J a l c)
  | .map,J,F=>∀ r:Option Nat,F (.map r) (J r)
  | .blk,J,F=>∀ r:Nat,F (.pointer (some ⟨r,0,none⟩)) (J r)
  | .six,_,_=>True
  | .raw,J,F=>∀ v:Value,F v (J v)
def xx{X:Type}:(k:SK)->SJ k X->(List Value->X->Prop)->Prop
  | .int k,J,F=>∀ n:Int,F [.int k n] (J n)
  | .bool,J,F=>∀ b:Bool,F [.bool b] (J b)
  | .str,J,F=>∀ s:ByteArray,F [.string s] (J s)
  | .ptr,J,F=>∀ p:Option Addr,F [.pointer p] (J p)
  | .slice,J,F=>∀ (a:OA) (l c:Nat),F [.slice a l c] (J a l c)
  | .map,J,F=>∀ r:Option Nat,F [.map r] (J r)
  | .blk,J,F=>∀ r:Nat,F [.pointer (some ⟨r,0,none⟩)] (J r)
  | .six,J,F=>∀ u:I6,F u.vs (J u)
  | .raw,J,F=>∀ v:Value,F [v] (J v)
def vL{X:Type}:(ks:List SK)->LJ ks X->(List Value->X->Prop)->Prop
  | [],J,F=>F [] J
  | k :: ks,J,F=>xx k J λ xs J=>vL ks J λ vs J=>F (xs++vs) J
def pF{X:Type}:(l:Live)->VJ l X->(List Value->X->Prop)->Prop
  | [],J,F=>F [] J
  | (_,.s k) :: l,J,F=>xy k J λ v J=>pF l J λ vs J=>F (v :: vs) J
  | (_,.agg ks) :: l,J,F=>vL ks J λ cs J=>pF l J λ vs J=>F (.agg cs.toArray :: vs) J
def ji{X:Type}:(k:SK)->SJ k X->Value->(X->Prop)->Prop
  | .int k,J,v,F=>match v with
    | .int k' n=>cond (lK k k') (F (J n)) False
    | _=>False
  | .bool,J,v,F=>match v with
    | .bool b=>F (J b)
    | _=>False
  | .str,J,v,F=>match v with
    | .string s=>F (J s)
    | _=>False
  | .ptr,J,v,F=>match v with
    | .pointer p=>F (J p)
    | _=>False
  | .slice,J,v,F=>match v with
    | .slice a l c=>F (J a l c)
    | _=>False
  | .map,J,v,F=>match v with
    | .map r=>F (J r)
    | _=>False
  | .blk,J,v,F=>match v with
    | .pointer (some ⟨r,0,none⟩)=>F (J r)
    | _=>False
  | .six,_,_,_=>False
  | .raw,J,v,F=>F (J v)
def sI{X:Type}:(k:SK)->SJ k X->List Value->(X->List Value->Prop)->Prop
  | .int k,J,vs,F=>match vs with
    | .int k' n :: r=>cond (lK k k') (F (J n) r) False
    | _=>False
  | .bool,J,vs,F=>match vs with
    | .bool b :: r=>F (J b) r
    | _=>False
  | .str,J,vs,F=>match vs with
    | .string s :: r=>F (J s) r
    | _=>False
  | .ptr,J,vs,F=>match vs with
    | .pointer p :: r=>F (J p) r
    | _=>False
  | .slice,J,vs,F=>match vs with
    | .slice a l c :: r=>F (J a l c) r
    | _=>False
  | .map,J,vs,F=>match vs with
    | .map m :: r=>F (J m) r
    | _=>False
  | .blk,J,vs,F=>match vs with
    | .pointer (some ⟨b,0,none⟩) :: r=>F (J b) r
    | _=>False
  | .six,J,vs,F=>match vs with
    | .int .i64 a :: .int .i64 b :: .int .i64 c :: .int .i64 d :: .int .i64 e :: .int .i64 f :: r=>F (J ⟨a,b,c,d,e,f⟩) r
    | _=>False
  | .raw,J,vs,F=>match vs with
    | v :: r=>F (J v) r
    | _=>False
def sJ{X:Type}:(ks:List SK)->LJ ks X->List Value->(X->Prop)->Prop
  | [],J,[],F=>F J
  | k :: ks,J,vs,F=>sI k J vs λ J r=>sJ ks J r F
  | [],_,_ :: _,_=>False
def lf{X:Type}:(l:Live)->VJ l X->Tm->(X->Prop)->Prop
  | [],J,_,F=>F J
  | (s,.s k) :: l,J,t,F=>ji k J (gt t s) λ J=>lf l J t F
  | (s,.agg ks) :: l,J,t,F=>match gt t s with
    | .agg cs=>sJ ks J cs.toList λ J=>lf l J t F
    | _=>False
theorem pH{X:Type}{k:SK}{J:SJ k X}{v:Value}{F:X->Prop}(h:ji k J v F):∃ j,F j/\∀ G,xy k J G->G v j:=by
  cases k with
  | int k =>
    cases v<;>simp only[ji] at h
    obtain⟨hk,hR⟩:=bY h;have:=cV hk;subst this;exact⟨_,hR,λ G hG=>hG _⟩
  | bool=>cases v<;>simp only[ji] at h; exact⟨_,h,λ G hG=>hG _⟩
  | str=>cases v<;>simp only[ji] at h; exact⟨_,h,λ G hG=>hG _⟩
  | ptr=>cases v<;>simp only[ji] at h; exact⟨_,h,λ G hG=>hG _⟩
  | slice=>cases v<;>simp only[ji] at h; exact⟨_,h,λ G hG=>hG _ _ _⟩
  | map=>cases v<;>simp only[ji] at h; exact⟨_,h,λ G hG=>hG _⟩
  | blk =>
    simp only[ji] at h
    split at h
    · exact⟨_,h,λ G hG=>hG _⟩
    · exact h.elim
  | six=>exact h.elim
  | raw=>exact⟨_,h,λ G hG=>hG _⟩
theorem pG{X:Type}{k:SK}{J:SJ k X}{vs:List Value}{F:X->List Value->Prop}(h:sI k J vs F):∃ j xs r,vs=xs++r/\F j r/\∀ G,xx k J G->G xs j:=by
  cases k<;>simp only[sI] at h<;>split at h<;>first | exact h.elim | skip
  · obtain⟨hk,hR⟩:=bY h;have:=cV hk;subst this;exact⟨_,[_],_,rfl,hR,λ G hG=>hG _⟩
  · exact⟨_,[_],_,rfl,h,λ G hG=>hG _⟩
  · exact⟨_,[_],_,rfl,h,λ G hG=>hG _⟩
  · exact⟨_,[_],_,rfl,h,λ G hG=>hG _⟩
  · exact⟨_,[_],_,rfl,h,λ G hG=>hG _ _ _⟩
  · exact⟨_,[_],_,rfl,h,λ G hG=>hG _⟩
  · exact⟨_,[_],_,rfl,h,λ G hG=>hG _⟩
  · exact⟨_,[_,_,_,_,_,_],_,rfl,h,λ G hG=>hG ⟨_,_,_,_,_,_⟩⟩
  · exact⟨_,[_],_,rfl,h,λ G hG=>hG _⟩
theorem jv{X:Type}:∀ {ks:List SK} {J:LJ ks X} {vs:List Value} {F:X->Prop},sJ ks J vs F->∃ j,F j/\∀ G,vL ks J G->G vs j
  | [],J,[],F,h=>⟨J,h,λ G hG=>hG⟩
  | k :: ks,J,vs,F,h=>by
    obtain⟨j,xs,r,rfl,h1,h2⟩:=pG (show sI k J vs λ J r=>sJ ks J r F from by cases vs<;>exact h);obtain⟨j',h3,h4⟩:=jv h1;exact⟨j',h3,λ G hG=>h4 (λ vs J=>G (xs++vs) J) (h2 _ hG)⟩
  | [],_,_ :: _,_,h=>h.elim
def fC(l:Live)(t:Tm):List Value:=l.map λ s=>gt t s.1
theorem dD{X:Type}{t:Tm}:∀ {l:Live} {J:VJ l X} {F:X->Prop},lf l J t F->∃ j,F j/\∀ G,pF l J G->G (fC l t) j
  | [],J,F,h=>⟨J,h,λ G hG=>hG⟩
  | (s,.s k) :: l,J,F,h=>by
    obtain⟨j,h1,h2⟩:=pH (show ji k J (gt t s) λ J=>lf l J t F from h);obtain⟨j',h3,h4⟩:=dD h1;exact⟨j',h3,λ G hG=>h4 (λ vs J=>G (gt t s :: vs) J) (h2 _ hG)⟩
  | (s,.agg ks) :: l,J,F,h=>by
    unfold lf at h
    split at h
    · rename_i cs hcs;obtain⟨j,h1,h2⟩:=jv h;obtain⟨j',h3,h4⟩:=dD h1;refine⟨j',h3,λ G hG=>?_⟩;have:=h4 (λ vs J=>G (.agg cs :: vs) J) (by simpa using h2 _ hG);simpa[fC,hcs] using this
    · exact h.elim
theorem oL{t:Tm}{n:Nat}{v:Value}:∀ {l:Live},lk (og l (fC l t)) n=some v->v=gt t n
  | [],h=>by cases h
  | (s,k) :: l,h=>by
    simp only[fC,List.map_cons,og,lk] at h
    cases hb:Nat.beq s n with
    | true=>rw[hb] at h; cases h; rw[Nat.eq_of_beq_eq_true hb]
    | false=>rw[hb] at h; exact oL h
theorem oF{mods:List Nat}{lv:List (Nat×Value)}{d:Nat->Value}:∀ (t:Tm) (i j:Nat),j<t.length ->
    gt (eu mods lv d i t) j=match lk lv (i+j) with | some v=>v | none=>cond (nH mods (i+j)) (d (i+j)) (gt t j)
  | [],_,j,h=>by simp at h
  | x :: t,i,0,_=>by simp[eu,gt]
  | x :: t,i,j+1,h=>by
    have:=oF (mods:=mods) (lv:=lv) (d:=d) t (i+1) j (by simpa using h);rw[show i+1+j=i+(j+1) by omega] at this;exact this
theorem eB{mods:List Nat}{lv:List (Nat×Value)}{d:Nat->Value}:∀ (t:Tm) (i:Nat),(eu mods lv d i t).length=t.length
  | [],_=>rfl
  | x :: t,i=>by simp[eu,eB t (i+1)]
theorem fill_eq{mods:List Nat}{l:Live}{t t' : Tm}(h:jR mods t t'):eu mods (og l (fC l t')) (gt t') 0 t=t':=by
  refine qP _ _ ((eB t 0).trans h.1.symm) λ i hi=>?_;rw[eB] at hi;rw[oF t 0 i hi,Nat.zero_add]
  cases hl:lk (og l (fC l t')) i with
  | some v=>exact oL hl
  | none =>
    cases hm:nH mods i with
    | true=>rfl
    | false =>
      have:i∉mods:=λ h=>by rw[jE.2 h] at hm; cases hm
      exact(h.2 i this).symm
abbrev Df:=List Deferred
def o9(F:Tm->Df->World->Prop)(Q:Exit->Tm->Df->World->Prop):Exit->Tm->Df->World->Prop
  | .normal,t,d,w=>F t d w
  | e,t,d,w=>Q e t d w
def xA(id:Nat)(Q:Exit->Tm->Df->World->Prop):Exit->Tm->Df->World->Prop
  | .exit i,t,d,w=>cond (Nat.beq i id) (Q .normal t d w) (Q (.exit i) t d w)
  | e,t,d,w=>Q e t d w
def calm:Code->Bool
  | .seq a b=>calm a&&calm b
  | .cond _ a b=>calm a&&calm b
  | .block _ a=>calm a
  | .loop a=>calm a
  | .rangeFunc _ _ _ _=>false
  | .region _ ops _=>bh ops.toList
  | .scope _=>false
  | _=>true
def exs:Code->List Nat
  | .exit i=>[i]
  | .seq a b=>exs a++exs b
  | .cond _ a b=>exs a++exs b
  | .block id c=>(exs c).filter λ i=>!(Nat.beq i id)
  | .loop c=>exs c
  | .rangeFunc _ _ a b=>exs a++exs b
  | _=>[]
def kN:Code->Bool
  | .ret=>true
  | .seq a b=>kN a||kN b
  | .cond _ a b=>kN a||kN b
  | .block _ c=>kN c
  | .loop c=>kN c
  | .rangeFunc _ _ a b=>kN a||kN b
  | _=>false
def yB:List (Nat×(World->Prop))->Nat->World->Prop
  | [],_,_=>False
  | x :: l,i,w=>cond (Nat.beq i x.1) (x.2 w) (yB l i w)
theorem mb{F:Nat->World->Prop}{i:Nat}{w:World}:∀ {l:List Nat},yB (l.map λ id=>(id,F id)) i w->F i w
  | [],h=>h.elim
  | j :: l,h=>by
    simp only[List.map_cons,yB] at h
    cases hb:Nat.beq i j with
    | true=>rw[hb] at h; rw[Nat.eq_of_beq_eq_true hb]; exact h
    | false=>rw[hb] at h; exact mb h
def wN(P:Program)(gf:FuncId)(lb:List Value)(rec:FuncId->Nat->Loop)(w:World)(N R:World->Prop)(X:List (Nat×(World->Prop))):Prop :=
  ∀ fn:FuncId,Calls P gf (Value.func (.yield (w.heap.size+1)) #[] #[] :: lb).toArray ((w.alloc (.deferred (some []))).alloc (.loop (rec fn w.heap.size))) λ e w2=>(∃ v,e=.returned v) /\
    ∃ r,w2.heap[w.heap.size+1]? = some (.loop r)/\r.state≠.busy/\match r.pending with
      | none=>N (w2.putObj (w.heap.size+1) (.loop { r with state:=.exhausted }))
      | some .ret=>R (w2.putObj (w.heap.size+1) (.loop { r with state:=.exhausted }))
      | some (.exit i)=>yB X i (w2.putObj (w.heap.size+1) (.loop { r with state:=.exhausted }))
      | _=>False
def rN(P:Program)(v:Value)(F:FuncId->List Value->Prop):Prop:=match v with
  | .func (.func gf) first lb=>cond (first.isEmpty&&bx P gf) (F gf lb.toList) False
  | _=>False
def yz(c:Code)(sc:Code->Code->Nat->(Exit->Tm->Df->World->Prop)->Tm->Df->World->Prop)(p:Nat)(Q:Exit->Tm->Df->World->Prop):Exit->Tm->Df->World->Prop
  | .goto l,t,d,w=>match findLabel c l with
    | some rest=>sc c rest p Q t d w
    | none=>False
  | e,t,d,w=>Q e t d w
def k6(P:Program)(ann:Nat->Option Live)(sc:Code->Code->Nat->(Exit->Tm->Df->World->Prop)->Tm->Df->World->Prop):Code->Nat->(Exit->Tm->Df->World->Prop)->Tm->Df->World->Prop
  | .skip,_,Q,t,d,w=>Q .normal t d w
  | .label _,_,Q,t,d,w=>Q .normal t d w
  | .region _ ops draw,_,Q,t,d,w=>cond (bh ops.toList) (match draw with
    | false=>pg P ops ops.toList t w (λ t w=>Q .normal t d w)
    | true=>cond (P.follows .mixedOrders&&Region.noSelect ops) (dZ P ops ops.size (Array.replicate ops.size false) [] t w.drew (λ t w=>Q .normal t d w)) False)
    (cond draw False (jc P ops ops.toList t d w λ t d w=>Q .normal t d w))
  | .seq a b,p,Q,t,d,w=>match ann p with
    | none=>k6 P ann sc a (2*p) (o9 (k6 P ann sc b (2*p+1) Q) Q) t d w
    | some lv=>cond (calm a) (∃ J:VJ lv (World->Prop),(∀ w',pF lv J λ vs j=>j w'->∀ x:Nat->Value,k6 P ann sc b (2*p+1) Q (eu (cS a) (og lv vs) x 0 t) d w') /\
        k6 P ann sc a (2*p) (o9 (λ t' _ w'=>lf lv J t' λ j=>j w') Q) t d w) False
  | .cond c a b,p,Q,t,d,w=>match ev t c with
    | .bool x=>cond x (k6 P ann sc a (2*p) Q t d w) (k6 P ann sc b (2*p+1) Q t d w)
    | _=>False
  | .block id c,p,Q,t,d,w=>k6 P ann sc c (2*p) (xA id Q) t d w
  | .loop c,p,Q,t,d,w=>match ann p with
    | none=>k6 P ann sc c (2*p) (o9 (λ _ _ _=>False) Q) t d w
    | some lv=>cond (calm c) (∃ I:VJ lv (World->Nat->Prop),(lf lv I t λ i=>∃ m,i w m) /\
        ∀ w' m,pF lv I λ vs i=>i w' m->∀ x:Nat->Value,
          k6 P ann sc c (2*p) (o9 (λ t' _ w''=>lf lv I t' λ i'=>∃ m',m' < m/\i' w'' m') Q) (eu (cS c) (og lv vs) x 0 t) d w') False
  | .exit id,_,Q,t,d,w=>Q (.exit id) t d w
  | .ret,_,Q,t,d,w=>Q .ret t d w
  | .rangeFunc g ps assign body,_,Q,t,d,w=>rN P (ev t g) λ gf lb =>
      wN P gf lb (λ fn D=>{ state:=.ready,pending:=none,fn:=fn,tmps:=t.toArray,params:=ps,assign:=assign,body:=body,defers:=D }) w (λ w'=>Q .normal t ({ target:=.collected w.heap.size,args:=#[] } :: d) w') (λ w'=>cond (kN body) (Q .ret t ({ target:=.collected w.heap.size,args:=#[] } :: d) w') False) ((exs body).map λ i=>(i,λ w'=>Q (.exit i) t ({ target:=.collected w.heap.size,args:=#[] } :: d) w'))
  | .scope c,p,Q,t,d,w=>k6 P ann sc c (2*p) (yz c sc p Q) t d w
  | .goto l,_,Q,t,d,w=>Q (.goto l) t d w
  | _,_,_,_,_,_=>False
def yF(P:Program)(ann:Nat->Option Live):Nat->Code->Code->Nat->(Exit->Tm->Df->World->Prop)->Tm->Df->World->Prop
  | 0=>λ _ _ _ _ _ _ _=>False
  | n+1=>λ c rest p Q t d w=>k6 P ann (yF P ann n) rest (2*p+1) (yz c (yF P ann n) p Q) t d w
def vc(P:Program)(ann:Nat->Option Live):Code->Nat->(Exit->Tm->Df->World->Prop)->Tm->Df->World->Prop:=k6 P ann (yF P ann 2)
def lift(t0:Tm)(d0:Df)(c:Code)(Q:Exit->Tm->Df->World->Prop):Exit->Act->World->Prop:=λ e a w =>
  (∀ c,e≠.panic c)/\∃ t' d',a=bO t' d'/\jR (cS c) t0 t'/\(calm c=true->d' = d0)/\Q e t' d' w
theorem yw{P:Program}{c:Code}{Q:Exit->Act->World->Prop}{a:Act}{w:World}:c.wpIn (FW none) 0 P Q a w<->c.wp P Q a w:=wpIn_wide
theorem eg{P:Program}{c:Code}{Q:Exit->Act->World->Prop}{a:Act}{w:World}(h:∀ (b:Frame) (k:List Item) (cs:List Frame),∃ e a' w',Q e a' w'/\Arrives P (lone (b.at a (.code c :: .inScope c :: k)) cs w) b k cs e a' w'):(Code.scope c).wp P Q a w:=λ b k cs=>by
  obtain⟨e,a',w',hq,harr⟩:=h b k cs;exact⟨e,a',w',hq,.of_steps (.one step_scope) harr⟩
def bR(P:Program)(c cur:Code)(Q:Exit->Act->World->Prop)(a:Act)(w:World):Prop :=
  ∀ (b:Frame) (k:List Item) (cs:List Frame),∃ e a' w',Q e a' w'/\Arrives P (lone (b.at a (.code cur :: .inScope c :: k)) cs w) b k cs e a' w'
theorem bR.mono{P:Program}{c cur:Code}{Q Q' : Exit->Act->World->Prop}{a:Act}{w:World}(h:bR P c cur Q a w)(k:∀ e a w,Q e a w->Q' e a w):bR P c cur Q' a w:=λ b l cs =>
  let ⟨e,a',w',hq,harr⟩:=h b l cs
  ⟨e,a',w',k _ _ _ hq,harr⟩
theorem fB{P:Program}{c cur:Code}{Q:Exit->Act->World->Prop}{a:Act}{w:World}(h:cur.wp P (λ e a' w'=>(∀ l,e=.goto l->∃ rest,findLabel c l=some rest/\bR P c rest Q a' w')/\((∀ l,e≠.goto l)->Q e a' w')) a w):bR P c cur Q a w:=by
  intro b k cs;obtain⟨e,a₁,w₁,hq,harr⟩:=h b (.inScope c :: k) cs
  cases e with
  | normal=>exact⟨.normal,a₁,w₁,hq.2 (by simp),Steps.trans harr (.one step_inScope)⟩
  | exit id=>exact⟨.exit id,a₁,w₁,hq.2 (by simp),λ k' hk=>harr k' (by simp[exitTo,hk])⟩
  | goto l =>
    obtain⟨rest,hf,hs⟩:=hq.1 l rfl;have hg:gotoIn l (.inScope c :: k)=some (.code rest :: .inScope c :: k):=by simp[gotoIn,hf]
    obtain⟨e₂,a₂,w₂,hq₂,harr₂⟩:=hs b k cs;exact⟨e₂,a₂,w₂,hq₂,.of_steps (harr _ hg) harr₂⟩
  | ret=>exact⟨_,a₁,w₁,hq.2 (by simp),harr⟩
  | panic ch=>exact⟨_,a₁,w₁,hq.2 (by simp),harr⟩
  | outgrown=>exact⟨_,a₁,w₁,hq.2 (by simp),harr⟩
def vn(t0:Tm)(c:Code)(Q:Exit->Tm->Df->World->Prop):Exit->Act->World->Prop:=λ e a w =>
  (∀ c,e≠.panic c)/\∃ t' d',a=bO t' d'/\jR (cS c) t0 t'/\Q e t' d' w
def yH(P:Program)(sc:Code->Code->Nat->(Exit->Tm->Df->World->Prop)->Tm->Df->World->Prop):Prop :=
  ∀ (c rest:Code) (p:Nat) (Q:Exit->Tm->Df->World->Prop) (t:Tm) (d:Df) (w:World),(∀ x∈cS rest,x∈cS c)->sc c rest p Q t d w->bR P c rest (vn t c Q) (bO t d) w
theorem iV{P:Program}{sc:Code->Code->Nat->(Exit->Tm->Df->World->Prop)->Tm->Df->World->Prop}(hsc:yH P sc){c cur:Code}{p:Nat}{Q:Exit->Tm->Df->World->Prop}{t:Tm}{d:Df}{w:World}(hd:∀ x∈cS cur,x∈cS c)(h:cur.wpIn (FW none) 0 P (lift t d cur (yz c sc p Q)) (bO t d) w):bR P c cur (vn t c Q) (bO t d) w:=by
  refine fB (yw.1 (wpIn_mono h λ e a' w' hq=>?_));obtain⟨hp,t',d',rfl,ha,_,hq⟩:=hq;have ha':=cN hd ha;refine⟨λ l he=>?_,λ hn=>?_⟩
  · subst he;simp only[yz] at hq
    split at hq
    · rename_i rest hr;refine⟨rest,hr,(hsc c rest p Q t' d' w' (cW hr) hq).mono λ e a w hq=>?_⟩;obtain⟨hp,t'',d'',rfl,hb,hq⟩:=hq;exact⟨hp,t'',d'',rfl,cN (λ x hx=>(List.mem_append.1 hx).elim id id) (eM ha' hb),hq⟩
    · exact hq.elim
  · cases e with
    | goto l=>exact absurd rfl (hn l)
    | panic c=>exact absurd rfl (hp c)
    | _=>exact⟨hp,t',d',rfl,ha',hq⟩
theorem cC{P:Program}{ann:Nat->Option Live}{sc:Code->Code->Nat->(Exit->Tm->Df->World->Prop)->Tm->Df->World->Prop}(hsc:yH P sc){ro:Option Nat}:∀ (c:Code) (p:Nat) (Q:Exit->Tm->Df->World->Prop) (t:Tm) (d:Df) (w:World),(ro=none\/calm c=true) ->
    k6 P ann sc c p Q t d w->c.wpIn (FW ro) 0 P (lift t d c Q) (bO t d) w
  | .skip,_,Q,t,d,w,_,h=>wpIn_skip ⟨by simp,t,d,rfl,bt _ _,λ _=>rfl,h⟩
  | .label _,_,Q,t,d,w,_,h=>wpIn_label ⟨by simp,t,d,rfl,bt _ _,λ _=>rfl,h⟩
  | .exit id,_,Q,t,d,w,_,h=>wpIn_exit ⟨by simp,t,d,rfl,bt _ _,λ _=>rfl,h⟩
  | .ret,_,Q,t,d,w,_,h=>wpIn_ret ⟨by simp,t,d,rfl,bt _ _,λ _=>rfl,h⟩
  | .region id ops draw,_,Q,t,d,w,_,h=>by
    have hds:∀ (i:Nat) (o:Oper),ops[i]? = some o->∀ d,o.dst=some d->d∈ops.toList.filterMap (·.dst):=λ i o ho d hd =>
      List.mem_filterMap.2 ⟨o,by simpa using Array.mem_of_getElem? ho,hd⟩
    simp only[k6] at h
    cases hn:bh ops.toList with
    | false =>
      rw[hn] at h
      cases draw with
      | true=>exact h.elim
      | false =>
        obtain rfl:ro=none:=by
          rcases ‹ro=none\/_› with h | h
          · exact h
          · simp only[calm,hn] at h; cases h
        refine wpIn_region_list (fe (ds:=cS (.region id ops false)) (t0:=t) ops.toList t d w _ (λ t' d' w' ha hk=>⟨by simp,t',d',rfl,ha,λ hc=>?_,hk⟩) (λ o ho d hd=>List.mem_filterMap.2 ⟨o,ho,hd⟩) (bt _ _) h);simp only[calm,hn] at hc; cases hc
    | true =>
    rw[hn,cond_true] at h
    cases draw with
    | false =>
      refine wpIn_region_list (jd (d:=d) (ds:=cS (.region id ops false)) (t0:=t) ops.toList t w _ hn (λ t' w' ha hk=>⟨by simp,t',d,rfl,ha,λ _=>rfl,hk⟩) (λ o ho d hd=>List.mem_filterMap.2 ⟨o,ho,hd⟩) (bt _ _) h)
    | true =>
      obtain⟨h1,h2⟩:=bY h;simp only[Bool.and_eq_true] at h1;have hnd:∀ (j:Nat) (o:Oper),ops[j]? = some o->bp o.op=true:=λ j o ho=>by
        have:=List.all_eq_true.1 hn o (by simpa using Array.mem_of_getElem? ho);exact this
      refine wpIn_region_any h1.1 (fD _ _ [] _ _ ?_);refine eK (dd:=d) (ds:=cS (.region id ops true)) (t0:=t) (K:=λ t w=>Q .normal t d w) hnd h1.2 (λ c a w h=>h.1 c rfl) (λ t' w' ha hk=>⟨by simp,t',d,rfl,ha,λ _=>rfl,hk⟩) hds _ _ [] t _ (bt _ _) ?_ (λ p hp=>by cases hp) h2;intro j o _ hj;rcases Nat.lt_or_ge j ops.size with h | h<;>simp[h] at hj
  | .seq a b,p,Q,t,d,w,hc,h=>by
    have hca:ro=none\/calm a=true:=hc.imp id λ h=>by simp only[calm,Bool.and_eq_true] at h; exact h.1
    have hcb:ro=none\/calm b=true:=hc.imp id λ h=>by simp only[calm,Bool.and_eq_true] at h; exact h.2
    refine wpIn_seq ?_;simp only[k6] at h
    split at h
    · refine wpIn_mono (cC hsc a _ _ t d w hca h) (λ e a' w' hq=>?_);obtain⟨hp,t',d',rfl,ha,hd,hq⟩:=hq
      cases e with
      | normal =>
        refine wpIn_mono (cC hsc b _ _ t' d' w' hcb hq) (λ e a'' w'' hq'=>?_);obtain⟨hp',t'',d'',rfl,ha',hd',hq'⟩:=hq';refine⟨hp',t'',d'',rfl,eM ha ha',λ hk=>?_,hq'⟩;simp only[calm,Bool.and_eq_true] at hk;rw[hd' hk.2,hd hk.1]
      | panic c=>exact absurd rfl (hp c)
      | _=>exact⟨hp,t',d',rfl,cN (λ d hd=>List.mem_append_left _ hd) ha,λ hk=>hd (by simp only[calm,Bool.and_eq_true] at hk; exact hk.1),hq⟩
    · obtain⟨hk0,J,hb,h⟩:=bY h;refine wpIn_mono (cC hsc a _ _ t d w hca h) (λ e a' w' hq=>?_);obtain⟨hp,t',d',rfl,ha,hd,hq⟩:=hq;obtain rfl:=hd hk0
      cases e with
      | normal =>
        obtain⟨j,h1,h2⟩:=dD hq;have h3:=h2 _ (hb w') h1 (gt t');rw[fill_eq ha] at h3;refine wpIn_mono (cC hsc b _ _ t' d' w' hcb h3) (λ e a'' w'' hq'=>?_);obtain⟨hp',t'',d'',rfl,ha',hd',hq'⟩:=hq';refine⟨hp',t'',d'',rfl,eM ha ha',λ hk=>?_,hq'⟩;simp only[calm,Bool.and_eq_true] at hk;exact hd' hk.2
      | panic c=>exact absurd rfl (hp c)
      | _=>exact⟨hp,t',d',rfl,cN (λ d hd=>List.mem_append_left _ hd) ha,λ _=>rfl,hq⟩
  | .cond c a b,p,Q,t,d,w,hc,h=>by
    simp only[k6] at h
    split at h
    · rename_i x hx;refine wpIn_cond (t:=x) (by rw[bU]; exact hx) ?_
      cases x with
      | true =>
        refine wpIn_mono (cC hsc a _ _ t d w (hc.imp id λ h=>by simp only[calm,Bool.and_eq_true] at h; exact h.1) h) (λ e a' w' hq=>?_);obtain⟨hp,t',d',rfl,ha,hd,hq⟩:=hq;exact⟨hp,t',d',rfl,cN (λ d hd=>List.mem_append_left _ hd) ha,λ hk=>hd (by simp only[calm,Bool.and_eq_true] at hk; exact hk.1),hq⟩
      | false =>
        refine wpIn_mono (cC hsc b _ _ t d w (hc.imp id λ h=>by simp only[calm,Bool.and_eq_true] at h; exact h.2) h) (λ e a' w' hq=>?_);obtain⟨hp,t',d',rfl,ha,hd,hq⟩:=hq;exact⟨hp,t',d',rfl,cN (λ d hd=>List.mem_append_right _ hd) ha,λ hk=>hd (by simp only[calm,Bool.and_eq_true] at hk; exact hk.2),hq⟩
    · exact h.elim
  | .block id c,p,Q,t,d,w,hc,h=>by
    refine wpIn_block (wpIn_mono (cC hsc c _ _ t d w hc h) (λ e a' w' hq=>?_));obtain⟨hp,t',d',rfl,ha,hd,hq⟩:=hq
    cases e with
    | exit i =>
      simp only[Exit.inBlock];simp only[xA] at hq
      cases hb:Nat.beq i id with
      | true=>rw[hb] at hq; rw[if_pos (Nat.eq_of_beq_eq_true hb)]; exact⟨by simp,t',d',rfl,ha,hd,hq⟩
      | false =>
        rw[hb] at hq;rw[if_neg (λ e=>by rw[e,Nat.beq_refl] at hb; cases hb)];exact⟨by simp,t',d',rfl,ha,hd,hq⟩
    | _=>exact⟨hp,t',d',rfl,ha,hd,hq⟩
  | .loop c,p,Q,t,d,w,hc,h=>by
    simp only[k6] at h
    split at h
    · refine wpIn_loop_once (wpIn_mono (cC hsc c _ _ t d w hc h) (λ e a'' w'' hq'=>?_));obtain⟨hp',t'',d'',rfl,ha',hd',hq'⟩:=hq'
      cases e with
      | normal=>exact hq'.elim
      | panic c=>exact absurd rfl (hp' c)
      | _=>exact⟨hp',t'',d'',rfl,ha',hd',hq'⟩
    · rename_i lv hlv;obtain⟨hk0,I,h0,hr⟩:=bY h;obtain⟨i0,⟨m,h1⟩,h2⟩:=dD h0;refine wpIn_loop_ghost (λ n a w=>∃ t' i,a=bO t' d/\jR (cS c) t t'/\i w n/\∀ G,pF lv I G->G (fC lv t') i) m ⟨t,i0,rfl,bt _ _,h1,h2⟩ ?_;rintro n a w' ⟨t',i1,rfl,ha,hI,hG⟩;have h3:=hG _ (hr w' n) hI (gt t');rw[fill_eq ha] at h3;refine wpIn_mono (cC hsc c _ _ t' d w' hc h3) (λ e a'' w'' hq'=>?_);obtain⟨hp',t'',d'',rfl,ha',hd',hq'⟩:=hq';obtain rfl:=hd' hk0;have hag:jR (cS c) t t'':=cN (λ d hd=>(List.mem_append.1 hd).elim id id) (eM ha ha')
      cases e with
      | normal =>
        obtain⟨i2,⟨m',hm,h4⟩,h5⟩:=dD hq';exact⟨m',hm,t'',i2,rfl,hag,h4,h5⟩
      | panic c=>exact absurd rfl (hp' c)
      | _=>exact⟨hp',t'',d'',rfl,hag,λ _=>rfl,hq'⟩
  | .rangeFunc g ps assign body,p,Q,t,d,w,hc,h=>by
    simp only[k6,rN] at h
    split at h
    · rename_i gf first lb hg
      obtain⟨he,hh⟩:=bY h;clear h;simp only[Bool.and_eq_true,Array.isEmpty_iff] at he;obtain⟨rfl,he⟩:=he;obtain rfl:ro=none:=hc.resolve_right (by simp[calm]);refine wpIn_rangeFunc λ fn _=>?_;refine⟨w.heap.size+1,[{ target:=.collected w.heap.size,args:=#[] }],((w.alloc (.deferred (some []))).alloc (.loop { state:=.ready,pending:=none,fn:=fn,tmps:=t.toArray,params:=ps,assign:=assign,body:=body,defers:=w.heap.size })),
        { target:=.fn (.func gf) lb,args:=#[.func (.yield (w.heap.size+1)) #[] #[]] },((w.alloc (.deferred (some []))).alloc (.loop { state:=.ready,pending:=none,fn:=fn,tmps:=t.toArray,params:=ps,assign:=assign,body:=body,defers:=w.heap.size })),gf,
        #[.func (.yield (w.heap.size+1)) #[] #[]]++lb,((w.alloc (.deferred (some []))).alloc (.loop { state:=.ready,pending:=none,fn:=fn,tmps:=t.toArray,params:=ps,assign:=assign,body:=body,defers:=w.heap.size })),run_enterLoop_outer _ _ _ _ _,?_,λ _ _=>trivial,?_,λ h=>(by cases h),?_⟩
      · simp only[resolve,bU,hg];simp[go_sem,ev,Deferred.ofValue]
      · simp[invoke,go_sem,cU he]
      · have h1:=hh fn;have h2:(Value.func (.yield (w.heap.size+1)) #[] #[] :: lb.toList).toArray = #[.func (.yield (w.heap.size+1)) #[] #[]]++lb:=by simp
        rw[h2] at h1;refine CallsIn.mono (callsIn_wide.2 h1) λ e w2 hq=>?_;obtain⟨⟨v,rfl⟩,r,hr,hb,hq⟩:=hq;refine⟨r.pending,_,run_endLoop hr hb,?_⟩
        split at hq
        · rename_i hp;rw[hp] at hq ⊢;exact⟨by simp,t,_,rfl,bt _ _,λ h=>(by cases h),hq⟩
        · rename_i hp;rw[hp] at hq ⊢;exact wpIn_ret ⟨by simp,t,_,rfl,bt _ _,λ h=>(by cases h),(bY hq).2⟩
        · rename_i i hp;rw[hp] at hq ⊢;exact wpIn_exit ⟨by simp,t,_,rfl,bt _ _,λ h=>(by cases h),mb (F:=λ i w'=>Q (.exit i) t ({ target:=.collected w.heap.size,args:=#[] } :: d) w') hq⟩
        · exact hq.elim
    · exact h.elim
  | .scope c,p,Q,t,d,w,hc,h=>by
    obtain rfl:ro=none:=hc.resolve_right (by simp[calm]);refine yw.2 (eg ?_);have h1:=iV (cur:=c) hsc (λ _ h=>h) (cC hsc c (2*p) _ t d w (.inl rfl) h);exact h1.mono λ e a w ⟨hp,t',d',h2,h3,h4⟩=>⟨hp,t',d',h2,h3,λ hk=>(by simp[calm] at hk),h4⟩
  | .goto l,_,Q,t,d,w,_,h=>wpIn_goto ⟨by simp,t,d,rfl,bt _ _,λ _=>rfl,h⟩
  | .refuse _,_,_,_,_,_,_,h=>h.elim
theorem ob{P:Program}{ann:Nat->Option Live}:∀ n,yH P (yF P ann n)
  | 0=>λ _ _ _ _ _ _ _ _ h=>h.elim
  | n+1=>λ _ rest _ _ t d w hd h=>iV (ob n) hd (cC (ob n) rest _ _ t d w (.inl rfl) h)
theorem yu{P:Program}{ann:Nat->Option Live}{ro:Option Nat}(c:Code)(p:Nat)(Q:Exit->Tm->Df->World->Prop)(t:Tm)(d:Df)(w:World)(hc:ro=none\/calm c=true)(h:vc P ann c p Q t d w):c.wpIn (FW ro) 0 P (lift t d c Q) (bO t d) w:=cC (ob 2) c p Q t d w hc h
def rQ(P:Program):List ResultVar->Tm->World->(List Value->Prop)->Prop
  | [],_,_,F=>F []
  | .tmp s :: rs,t,w,F=>rQ P rs t w λ vs=>F (gt t s :: vs)
  | .cell a ty :: rs,t,w,F=>xR P ty (gt t a) w λ v _=>rQ P rs t w λ vs=>F (v :: vs)
def sr:List Value->Value
  | [v]=>v
  | vs=>.tuple vs.toArray
def yG(P:Program)(g:FuncId)(args:Array Value)(w:World)(R:World->Prop):Prop :=
  bx P g=true/\CallsDIn (FW none) 0 P g args .returning w λ e u w'=>∃ v,e=.returned v/\u=.returning/\R w'
def xg(P:Program)(fn:Func)(t:Tm)(K:KP):Df->World->Prop
  | [],w=>rQ P fn.results.toList t w λ vs=>K (sr vs) w
  | d :: ds,w=>match d.target with
    | .collected r=>w.heap[r]? = some (.deferred (some []))/\xg P fn t K ds (w.putObj r (.deferred none))
    | .fn (.func g) y=>yG P g (d.args++y) w λ w'=>xg P fn t K ds w'
    | _=>False
def uX(P:Program)(fn:Func)(K:KP):Exit->Tm->Df->World->Prop
  | .normal,t,d,w=>xg P fn t K d w
  | .ret,t,d,w=>xg P fn t K d w
  | _,_,_,_=>False
def jn(t:Tm):ResultVar->Sem Value
  | .tmp s=>pure (t.toArray.getD s undef)
  | .cell a ty=>do loadVar ty (<- asAddr (t.toArray.getD a undef))
theorem iS{P:Program}{w:World}{t:Tm}:∀ (rs:List ResultVar) (F:List Value->Prop),rQ P rs t w F ->
    ∃ vs,(rs.mapM (jn t)).run P w=.ok vs w/\F vs
  | [],F,h=>⟨[],by simp,h⟩
  | .tmp s :: rs,F,h=>by
    obtain⟨vs,hr,hF⟩:=iS rs _ h;exact⟨_,by simp only[List.mapM_cons,jn,Sem.run_bind,Sem.run_pure,Result.andThen_ok,hr,iD],hF⟩
  | .cell a ty :: rs,F,h=>by
    obtain⟨v,T,h1,h2,h3⟩:=kq h;obtain⟨vs,hr,hF⟩:=iS rs _ h3;refine⟨v :: vs,?_,hF⟩;have h4:=h2 w h1;rw[iD] at h4;have h5:(jn t (.cell a ty)).run P w=.ok v w:=by
      show(Sem.bind (asAddr (t.toArray.getD a undef)) λ p=>loadVar ty p).run P w=.ok v w;rw[Sem.run_bind'];generalize t.toArray.getD a undef=x at h4 ⊢
      cases x with
      | pointer p=>cases p with
        | none=>simp[Instr.loadAt,Instr.sureAddr] at h4
        | some p=>simpa[Instr.loadAt,Instr.sureAddr,asAddr] using h4
      | _=>simp[Instr.loadAt,Instr.sureAddr] at h4
    rw[List.mapM_cons,Sem.run_bind,h5];simp only[Result.andThen_ok,Sem.run_bind,hr,Sem.run_pure]
def jX(fn:Func):Code:=fn.body.getD .skip
theorem uG{P:Program}{fn:Func}{t:Tm}{w:World}{K:KP}(hr:rQ P fn.results.toList t w λ vs=>K (sr vs) w) :
    ∃ v,(results fn t.toArray).run P w=.ok v w/\K v w:=by
  obtain⟨vs,hrun,hk⟩:=iS _ _ hr;refine⟨sr vs,?_,hk⟩;have h3:results fn t.toArray=(do
      let vs <- fn.results.mapM (jn t)
      pure (if h:vs.size=1 then vs[0] else .tuple vs)):=by
    unfold results;have:(λ r=>match r with
        | .tmp i=>(pure (t.toArray.getD i undef):Sem Value)
        | .cell a i=>do loadVar i (<- asAddr (t.toArray.getD a undef)))=jn t:=by
      funext x; cases x<;>rfl
    rw[<- this];rfl
  rw[h3,Array.mapM_eq_mapM_toList];simp only[Sem.run_map,bind_pure_comp,hrun,Result.andThen_ok]
  cases vs with
  | nil=>rfl
  | cons v vs=>cases vs<;>rfl
theorem cI{P:Program}{fn:Func}{t:Tm}{K:KP}:∀ (d:Df) (w:World),xg P fn t K d w ->
    LeavesInM (FW none) 0 P fn t.toArray (λ e w'=>∃ v,e=.returned v/\K v w') d .returning w
  | [],w,h=>by
    obtain⟨v,hr,hk⟩:=uG h;exact⟨v,hr,v,rfl,hk⟩
  | d :: ds,w,h=>by
    refine⟨by simp,?_⟩;simp only[xg] at h
    split at h
    · rename_i r hr;exact .inl ⟨r,_,hr,run_takeDeferred h.1,cI ds _ h.2⟩
    · rename_i g y hr;obtain⟨he,h⟩:=h;refine .inr ⟨λ h=>(by cases h),Fn.func g,y,g,d.args++y,hr,?_,λ _ _=>trivial,CallsDIn.mono h ?_⟩
      · rw[hr]; exact cU he _ w
      · rintro e u w' ⟨v,rfl,rfl,hk⟩;exact cI ds w' hk
    · exact h.elim
theorem lF{P:Program}{ann:Nat->Option Live}{f:FuncId}{fn:Func}{c:Code}{args:List Value}{w:World}{K:KP}(hf:P.funcs[f]? = some fn)(hb:fn.body=some c)(h:vc P ann c 1 (uX P fn K) (args++List.replicate (fn.ntmps-args.length) undef) [] w) :
    Calls P f args.toArray w λ e w'=>∃ v,e=.returned v/\K v w':=by
  refine(callsIn_wide (n:=0)).1 (callsIn_of_wp_marks hf hb trivial ?_ rfl);have h1:({ tmps:=args.toArray++Array.replicate (fn.ntmps-args.toArray.size) undef,defers:=[] }:Act)=bO (args++List.replicate (fn.ntmps-args.length) undef) []:=by
    simp[bO]
  rw[h1];refine wpIn_mono (yu (ro:=none) c 1 _ _ _ w (.inl rfl) h) (λ e a' w' hq=>?_);obtain⟨hp,t',d',rfl,_,_,hq⟩:=hq
  cases e with
  | normal=>exact cI d' w' hq
  | ret=>exact cI d' w' hq
  | panic c=>exact absurd rfl (hp c)
  | _=>exact hq.elim
def sD(K:KP):Ending->World->Prop:=λ e w'=>∃ v,e=.returned v/\K v w'
theorem ai{P:Program}(ann:Nat->Option Live){f:FuncId}{fn:Func}{args:List Value}{w:World}{K:KP}{S:Prop}(hf:P.funcs[f]? = some fn)(hb:fn.body=some (jX fn))(h:S=vc P ann (jX fn) 1 (uX P fn K) (args++List.replicate (fn.ntmps-args.length) undef) [] w)(hS:S) :
    Calls P f args.toArray w (sD K):=lF hf hb (h▸hS)
def aZ(l:List (Nat×Live))(p:Nat):Option Live :=
  match l with
  | []=>none
  | (q,lv) :: l=>cond (Nat.beq q p) (some lv) (aZ l p)
abbrev iv (n:Int):Value:=.int .i64 n
def I6.on(u:I6)(l:List Value):List Value:=iv u.a :: iv u.b :: iv u.c :: iv u.d :: iv u.e :: iv u.f :: l
def z6:I6:=⟨0,0,0,0,0,0⟩
def I6.beq(u v:I6):Bool:=(u.a==v.a)&&((u.b==v.b)&&((u.c==v.c)&&((u.d==v.d)&&((u.e==v.e)&&((u.f==v.f)&&true)))))
def yp(w:World)(a:Addr)(v:Value)(R:World->Prop):Prop :=
  v.oneCell' = true/\(∃ x,w.cell? a=some x)/\w.frozen? a=false/\R (w.setCell a v)
def fS(a:Addr):Nat->List Value->World->(World->Prop)->Prop
  | _,[],w,R=>R w
  | i,v :: vs,w,R=>yp w (a.add i) v λ w'=>fS a (i+1) vs w' R
def aI(w:World)(o:Obj)(R:Nat->World->Prop):Prop:=R w.heap.size (w.alloc o)
def bs(l:List UInt8):ByteArray:=⟨l.toArray⟩
end Go.Vc
namespace Go.Proofs.YtemiicbbbojdiaaGreatDoor
open Go Go.Vc
abbrev CP (f:FuncId) (a:Array Value) (w:World) (K:KP):Prop:=Calls Tryz.prog f a w (sD K)
end Go.Proofs.YtemiicbbbojdiaaGreatDoor
namespace Go.Vc
theorem cT{b:Bool}{A B:Prop}(h:b=true)(k:A):cond b A B:=by rw[h]; exact k
theorem cF{b:Bool}{A B:Prop}(h:b=false)(k:B):cond b A B:=by rw[h]; exact k
def tL(o:Option Obj)(i:Nat):Option Value :=
  match o with
  | some (.cells c _ _)=>c[i]?
  | _=>none
def tM(o:Option Obj)(i:Nat):Bool :=
  match o with
  | some (.cells _ _ (lo,hi))=>lo<=i&&i<hi
  | _=>false
def yj(i:Nat)(v:Value)(o:Option Obj):Option Obj :=
  match o with
  | some (.cells c e f)=>some (.cells (c.setIfInBounds i v) e f)
  | o=>o
theorem cP(w:World)(b i:Nat):w.cell? ⟨b,i,none⟩=tL w.heap[b]? i:=by
  simp only[World.cell?,tL]
  cases w.heap[b]? with
  | none=>rfl
  | some o=>cases o<;>simp
theorem nv(w:World)(b i:Nat):w.frozen? ⟨b,i,none⟩=tM w.heap[b]? i:=by
  simp only[World.frozen?,tM]
  cases w.heap[b]? with
  | none=>rfl
  | some o=>cases o<;>rfl
theorem heap_set(w:World)(b i k:Nat)(v:Value):(w.setCell ⟨b,i,none⟩ v).heap[k]? = if b=k then yj i v w.heap[k]? else w.heap[k]?:=by
  simp only[World.setCell,Array.getElem?_modify]
  by_cases h:b=k
  · simp only[h,if_true,yj]
    cases w.heap[k]? with
    | none=>rfl
    | some o=>cases o<;>simp
  · simp[h]
theorem eA(w:World)(o:Obj)(k:Nat):(w.alloc o).heap[k]? = if k=w.heap.size then some o else w.heap[k]?:=by
  simp only[World.alloc,Array.getElem?_push]
theorem b9(c:Array Value)(e:TypeId)(f:Nat×Nat)(i:Nat):tL (some (.cells c e f)) i=c[i]?:=rfl
theorem nA(c:Array Value)(e:TypeId)(i:Nat):tM (some (.cells c e (0,0))) i=false:=by simp[tM]
structure Env (w w' : World):Prop where
  os:w'.os=w.os
  tape:w'.tape=w.tape
  out:w'.output=w.output
theorem Env.refl(w:World):Env w w:=⟨rfl,rfl,rfl⟩
theorem Env.trans{w w1 w2:World}(h:Env w w1)(k:Env w1 w2):Env w w2:=⟨k.os.trans h.os,k.tape.trans h.tape,k.out.trans h.out⟩
structure an (w w' : World) (F:List Nat):Prop where
  size:w.heap.size<=w'.heap.size
  same:∀ i,i<w.heap.size->i∉F->w'.heap[i]? = w.heap[i]?
  env:Env w w'
theorem an.refl(w:World)(F:List Nat):an w w F:=⟨Nat.le_refl _,λ _ _ _=>rfl,Env.refl _⟩
theorem an.drew(w:World)(F:List Nat):an w w.drew F:=⟨Nat.le_refl _,λ _ _ _=>rfl,⟨rfl,rfl,rfl⟩⟩
theorem an.trans{w w1 w2:World}{F G:List Nat}(h:an w w1 F)(h' : an w1 w2 G)(hG:∀ i∈G,i∈F\/w.heap.size<=i):an w w2 F :=
  ⟨Nat.le_trans h.size h'.size,λ i hi hn=>(h'.same i (Nat.lt_of_lt_of_le hi h.size) λ hg=>(hG i hg).elim hn (by omega)).trans (h.same i hi hn),h.env.trans h'.env⟩
theorem an.set(w:World)(b i:Nat)(v:Value){F:List Nat}(h:b∈F):an w (w.setCell ⟨b,i,none⟩ v) F :=
  ⟨by simp,λ k _ hn=>by rw[heap_set,if_neg (λ e:b=k=>hn (e▸h))],⟨rfl,rfl,rfl⟩⟩
theorem an.new(w:World)(o:Obj)(F:List Nat):an w (w.alloc o) F :=
  ⟨by simp,λ k hk _=>by rw[eA,if_neg (by omega)],⟨rfl,rfl,rfl⟩⟩
theorem an.grown{w w' : World}{r:Option Nat}(h:w.grownBy w' r):an w w' r.toList :=
  ⟨h.size,λ i hi hn=>h.block i hi (λ e=>hn (by rw[<- e]; simp)),⟨h.os,h.tape,h.output⟩⟩
theorem fu{w:World}{b:Nat}{o:Obj}(h:w.heap[b]? = some o):b<w.heap.size:=(Array.getElem?_eq_some_iff.1 h).1
theorem an.keep{w w' : World}{F:List Nat}(h:an w w' F){b:Nat}{o:Obj}(hb:w.heap[b]? = some o)(hn:b∉F):w'.heap[b]? = some o :=
  (h.same b (fu hb) hn).trans hb
theorem rZ{w:World}{b i:Nat}{v:Value}{R:World->Prop}{cs:Array Value}{T:TypeId}(h:w.heap[b]? = some (.cells cs T (0,0)))(hi:i<cs.size)(hv:v.oneCell' = true)(k:R (w.setCell ⟨b,i,none⟩ v)):yp w ⟨b,i,none⟩ v R :=
  ⟨hv,⟨cs[i],by rw[cP,h,b9]; simp[hi]⟩,by rw[nv,h,nA],k⟩
theorem aE{w:World}{o:Obj}{R:Nat->World->Prop}(h:R w.heap.size (w.alloc o)):aI w o R:=h
theorem vK(g j:Nat):(⟨g,0,none⟩:Addr).add j=⟨g,j,none⟩:=by unfold Addr.add; split<;>simp_all
theorem sg{b o:Nat}{T:TypeId}{R:World->Prop}:∀ (vs:List Value) (i:Nat) (w:World) (c:Array Value),w.heap[b]? = some (.cells c T (0,0))->o+i+vs.length<=c.size->(∀ v∈vs,v.oneCell' = true) ->
    (∀ w',w'.heap[b]? = some (.cells (c.toList.take (o+i)++vs++c.toList.drop (o+i+vs.length)).toArray T (0,0))->an w w' [b]->w'.heap.size=w.heap.size->R w')->fS ⟨b,o,none⟩ i vs w R
  | [],i,w,c,h,_,_,k=>k w (by simpa using h) (an.refl _ _) rfl
  | v :: vs,i,w,c,h,hl,h1,k=>by
    have ha:(⟨b,o,none⟩:Addr).add i=⟨b,o+i,none⟩:=by unfold Addr.add; split<;>simp_all
    show yp w _ v _;rw[ha];simp only[List.length_cons] at hl;refine rZ h (by omega) (h1 v (List.mem_cons_self ..)) ?_;refine sg vs (i+1) _ (c.setIfInBounds (o+i) v) (by rw[heap_set,if_pos rfl,h]; rfl) (by simp; omega) (λ u hu=>h1 u (List.mem_cons_of_mem _ hu)) ?_;intro w' hb hc hs;refine k w' ?_ ((an.set w b (o+i) v (by simp)).trans hc (λ j hj=>.inl hj)) (by rw[hs]; simp);rw[hb]
    congr 3
    have hlt:o+i<c.toList.length:=by simp; omega
    simp only[Array.toList_setIfInBounds,List.length_cons];rw[show o+(i+1)=o+i+1 by omega,List.take_succ_eq_append_getElem (by simpa using hlt),List.take_set_of_le (Nat.le_refl _)];simp only[List.getElem_set_self,List.append_assoc,List.cons_append,List.nil_append]
    congr 3
    rw[List.drop_set_of_lt (by omega)]
    congr 1
    omega
theorem kB{w:World}{base:Nat}{e:TypeId}{size:Nat}{v:Value}{n:Nat}{xs:List Value}{w' : World}(h:w.ownsRow base e size v n xs)(hs:∀ k,v.ownBlock=some k->w'.heap[k]? = w.heap[k]?):w'.ownsRow base e size v n xs:=by
  refine⟨h.1,?_⟩;rcases h.2 with hn | ⟨g,cap,cur,rfl,hb,hgg,rest⟩
  · exact .inl hn
  · exact .inr ⟨g,cap,cur,rfl,hb,(hs g rfl).trans hgg,rest⟩
theorem mj{w:World}{base:Nat}{e:TypeId}{size:Nat}{v:Value}{n:Nat}{xs:List Value}{w' : World}{F:List Nat}(h:w.ownsRow base e size v n xs)(hc:an w w' F)(hs:∀ k,v.ownBlock=some k->k∉F):w'.ownsRow base e size v n xs :=
  kB h λ k hk=>hc.same k (h.lt k hk).2 (hs k hk)
end Go.Vc
namespace Go.Vc
structure qi (P:Program) (t e:TypeId) (z:Value) (sz by_:Nat):Prop where
  u:P.underlying t=some (.slice e)
  i:∃ i,P.info? e=some i/\i.zero=some z/\i.size=sz/\i.bytes=by_
  zc:z.cells.size=sz
  pos:0<sz
theorem qi.mk'{P:Program}{t e:TypeId}{z:Value}{sz by_:Nat}(hu:P.underlying t=some (.slice e))(hi:(P.info? e).map (λ i=>(i.zero,i.size,i.bytes))=some (some z,sz,by_))(hz:z.cells.size=sz)(hp:0<sz):qi P t e z sz by_:=by
  refine⟨hu,?_,hz,hp⟩
  cases h:P.info? e with
  | none=>simp[h] at hi
  | some i=>simp[h] at hi; exact⟨i,rfl,hi.1,hi.2.1,hi.2.2⟩
def xe(w:World)(v v' : Value):Prop:=∀ j,v'.ownBlock=some j->v.ownBlock=some j\/w.heap.size<=j
theorem ie{P:Program}{w:World}{t ty e:TypeId}{z:Value}{sz by_:Nat}(hT:qi P t e z sz by_){v:Value}{n:Nat}{xs:List Value}(own:w.ownsRow 0 e sz v n xs){a:Addr}{m c:Nat}{news:List Value}(hl:news.length=m*sz)(hnews:∀ j u,news[j]? = some u->w.cell? (a.add j)=some u)(h1:∀ u∈news,u.oneCell' = true)(hb:(n+m)*by_<=140737488355328)(hm:n+m<=9223372036854775807){K:KP}(k:∀ v' w',w'.ownsRow 0 e sz v' (n+m) (xs++news)->an w w' v.ownBlock.toList->xe w v v'->K v' w') :
    iT P (Builtin.append_ #[t,t] ty #[v,.slice (some a) m c]) w K:=by
  obtain⟨i,hi,hz,hs,hby⟩:=hT.i;have hml:n+m<=maxLen:=by unfold maxLen; omega
  obtain⟨v',w',hr,ho,hg,_⟩:=run_append_own (P:=P) w 0 t ty e i z sz by_ hT.u hi hz hs hby hT.zc hT.pos v n xs own a m c news hl hnews h1 hml hb (Nat.zero_le _);refine⟨v',w',hr,k v' w' ho (an.grown hg) ?_⟩;rcases own.2 with⟨rfl,rfl⟩ | ⟨g,cap,cur,rfl,_,hgg,hnc,hcm,hcs,htake⟩
  · have own' : w.ownsRow w.heap.size e sz (.slice none 0 0) 0 xs:=⟨own.1,.inl ⟨rfl,rfl⟩⟩;obtain⟨v2,w2,hr2,ho2,_⟩:=run_append_own (P:=P) w w.heap.size t ty e i z sz by_ hT.u hi hz hs hby hT.zc hT.pos _ 0 xs own' a m c news hl hnews h1 hml hb (Nat.le_refl _);rw[hr] at hr2
    cases hr2
    exact λ j hj=>.inr (ho2.lt j hj).1
  · by_cases hroom:n+m<=cap
    · have hfit:n*i.size+news.length<=cur.size:=by rw[hl,hcs,hs,<- Nat.add_mul]; exact Nat.mul_le_mul_right _ hroom
      have hr2:=run_append_room (P:=P) w t ty e i hT.u hi g n cap cur hgg a m c news (by rw[hs]; exact hl) hnews h1 hroom hfit;rw[hr] at hr2
      cases hr2
      exact λ j hj=>.inl hj
    · have holds:∀ j u,xs[j]? = some u->w.cell? ((⟨g,0,none⟩:Addr).add j)=some u:=own.cells (g:=g) rfl;have hr2:=run_append_grow (P:=P) w t ty e i z hT.u hi hz ⟨g,0,none⟩ n cap xs (by rw[hs]; exact own.1) holds a m c news (by rw[hs]; exact hl) hnews (by omega) (by omega) (growslice_fits (by omega) (by rw[hby]; exact hb));rw[hr] at hr2
      cases hr2
      intro j hj;simp[Value.ownBlock] at hj;exact .inr (by omega)
theorem pX{w:World}{base:Nat}{e:TypeId}{sz:Nat}{v:Value}{n:Nat}{xs:List Value}(own:w.ownsRow base e sz v n xs):∃ a c,v=.slice a n c:=by
  rcases own.2 with⟨rfl,rfl⟩ | ⟨g,cap,cur,rfl,_⟩
  · exact⟨_,_,rfl⟩
  · exact⟨_,_,rfl⟩
end Go.Vc
namespace Go.Vc
structure aQ where
  p:World->List Nat->Prop
  loc:∀ {w w' : World} {F G:List Nat},p w F->an w w' G->(∀ k∈F,k∉G)->p w' F
  lt:∀ {w:World} {F:List Nat},p w F->∀ k∈F,k<w.heap.size
def To(A:aQ)(w w' : World)(F:List Nat):Prop:=∃ F',A.p w' F'/\an w w' F/\∀ k∈F',k∈F\/w.heap.size<=k
def star(A B:aQ):aQ where
  p w F:=∃ F1 F2,F=F1++F2/\A.p w F1/\B.p w F2/\∀ k∈F1,k∉F2
  loc:=by
    rintro w w' F G ⟨F1,F2,rfl,h1,h2,hd⟩ hc hn;exact⟨F1,F2,rfl,A.loc h1 hc λ k hk=>hn k (List.mem_append_left _ hk),B.loc h2 hc λ k hk=>hn k (List.mem_append_right _ hk),hd⟩
  lt:=by
    rintro w F ⟨F1,F2,rfl,h1,h2,hd⟩ k hk;rcases List.mem_append.1 hk with h | h
    · exact A.lt h1 k h
    · exact B.lt h2 k h
def St(w0 w:World)(A:aQ):Prop:=∃ F,A.p w F/\an w0 w []/\∀ k∈F,w0.heap.size<=k
theorem St.au{w0 w:World}{A:aQ}(h:St w0 w A):an w0 w []:=let ⟨_,_,hc,_⟩:=h; hc
theorem St.use{w0 w:World}{A B:aQ}(h:St w0 w (star A B)):∃ F1,A.p w F1/\∀ w' A',To A' w w' F1->St w0 w' (star A' B):=by
  obtain⟨F,⟨F1,F2,rfl,h1,h2,hd⟩,hc,hn⟩:=h;refine⟨F1,h1,λ w' A' ⟨F1',h1',hc',hf⟩=>?_⟩;refine⟨F1'++F2,⟨F1',F2,rfl,h1',B.loc h2 hc' λ j hj hj1=>hd j hj1 hj,λ j hj hj2=>?_⟩,hc.trans hc' (λ i hi=>.inr (hn i (List.mem_append_left _ hi))),λ j hj=>?_⟩
  · rcases hf j hj with h | h
    · exact hd j h hj2
    · have:=B.lt h2 j hj2; omega
  · rcases List.mem_append.1 hj with h | h
    · rcases hf j h with h | h
      · exact hn j (List.mem_append_left _ h)
      · exact Nat.le_trans hc.size h
    · exact hn j (List.mem_append_right _ h)
theorem St.quiet{w0 w w' : World}{A:aQ}(h:St w0 w A)(hc:an w w' []):St w0 w' A:=by
  obtain⟨F,hA,hc0,hn⟩:=h;exact⟨F,A.loc hA hc (by simp),hc0.trans hc (by simp),hn⟩
theorem St.add{w0 w w' : World}{A B:aQ}{G:List Nat}(h:St w0 w A)(hc:an w w' [])(hB:B.p w' G)(hG:∀ k∈G,w.heap.size<=k):St w0 w' (star A B):=by
  obtain⟨F,hA,hc0,hn⟩:=h;refine⟨F++G,⟨F,G,rfl,A.loc hA hc (by simp),hB,λ k hk hk2=>?_⟩,hc0.trans hc (by simp),λ k hk=>?_⟩
  · have:=A.lt hA k hk;have:=hG k hk2;omega
  · rcases List.mem_append.1 hk with h | h
    · exact hn k h
    · exact Nat.le_trans hc0.size (hG k h)
def emp:aQ where
  p _ F:=F=[]
  loc:=λ h _ _=>h
  lt:=λ h k hk=>by subst h; cases hk
theorem St.start(w:World):St w w emp:=⟨[],rfl,an.refl _ _,by simp⟩
theorem St.start'{w w' : World}(h:an w w' []):St w w' emp:=⟨[],rfl,h,by simp⟩
theorem St.first{w0 w:World}{A B:aQ}(h:St w0 w (star A B)):St w0 w A:=by
  obtain⟨F,⟨F1,F2,rfl,h1,_,_⟩,hc,hn⟩:=h;exact⟨F1,h1,hc,λ k hk=>hn k (List.mem_append_left _ hk)⟩
theorem St.swap{w0 w:World}{A B:aQ}(h:St w0 w (star A B)):St w0 w (star B A):=by
  obtain⟨F,⟨F1,F2,rfl,h1,h2,hd⟩,hc,hn⟩:=h;exact⟨F2++F1,⟨F2,F1,rfl,h2,h1,λ k hk hk1=>hd k hk1 hk⟩,hc,λ k hk=>hn k (by simpa[or_comm] using hk)⟩
theorem St.get{w0 w:World}{A:aQ}(h:St w0 w A):∃ F,A.p w F:=let ⟨F,hF,_⟩:=h; ⟨F,hF⟩
def aG(r:Nat)(cs:Array Value)(T:TypeId):aQ where
  p w F:=w.heap[r]? = some (.cells cs T (0,0))/\F=[r]
  loc:=λ ⟨h,he⟩ hc hd=>⟨hc.keep h (hd _ (by rw[he]; simp)),he⟩
  lt:=λ ⟨h,he⟩ k hk=>by subst he; simp at hk; subst hk; exact fu h
theorem St.box{w0 w:World}{A:aQ}(h:St w0 w A)(cs:Array Value)(T:TypeId):St w0 (w.alloc (.cells cs T)) (star A (aG w.heap.size cs T)) :=
  h.add (an.new _ _ _) (B:=aG w.heap.size cs T) ⟨by rw[eA,if_pos rfl],rfl⟩ (by simp)
theorem St.boxed{w0 w:World}{B:aQ}{r:Nat}{cs:Array Value}{T:TypeId}(h:St w0 w (star (aG r cs T) B))(i:Nat):w.cell? ⟨r,i,none⟩=cs[i]?:=by
  obtain⟨F,hF⟩:=h.first.get;rw[cP,hF.1,b9]
theorem bG{w w' : World}{a:Addr}{v:Value}(h:w.cell? a=some v)(hc:an w w' []):w'.cell? a=some v:=by
  rw[World.cell?_of_block (hc.same a.block (World.block_lt_of_cell? w a h) (by simp))]; exact h
theorem aV{w w' : World}{a:Addr}(hc:an w w' []):∀ {vs:List Value} {i:Nat},aa w a i vs->aa w' a i vs
  | [],_,_=>trivial
  | _ :: _,_,h=>⟨bG h.1 hc,aV hc h.2⟩
def dN(A B:aQ):Prop:=∀ w F,A.p w F->∃ F',B.p w F'/\∀ j,j∈F'<->j∈F
theorem dN.refl(A:aQ):dN A A:=λ _ F h=>⟨F,h,λ _=>Iff.rfl⟩
theorem dN.trans{A B C:aQ}(h:dN A B)(k:dN B C):dN A C:=λ w F hA =>
  let ⟨F',hB,h1⟩:=h w F hA;let ⟨F'',hC,h2⟩:=k w F' hB
  ⟨F'',hC,λ j=>(h2 j).trans (h1 j)⟩
theorem dN.right{A B C:aQ}(h:dN B C):dN (star A B) (star A C):=by
  rintro w F ⟨F1,F2,rfl,h1,h2,hd⟩;obtain⟨F2',h2',hj⟩:=h w F2 h2;exact⟨F1++F2',⟨F1,F2',rfl,h1,h2',λ k hk hk2=>hd k hk ((hj k).1 hk2)⟩,λ j=>by simp[hj]⟩
theorem dN.zM{A B C:aQ}:dN (star A (star B C)) (star B (star A C)):=by
  rintro w F ⟨F1,F',rfl,h1,⟨F2,F3,rfl,h2,h3,hd2⟩,hd⟩;refine⟨F2++(F1++F3),⟨F2,F1++F3,rfl,h2,⟨F1,F3,rfl,h1,h3,λ k hk hk3=>hd k hk (List.mem_append_right _ hk3)⟩,λ k hk hk1=>?_⟩,λ j=>by simp; constructor<;>(rintro(h | h | h)<;>simp[h])⟩;rcases List.mem_append.1 hk1 with h | h
  · exact hd k h (List.mem_append_left _ hk)
  · exact hd2 k hk h
theorem St.eqv{w0 w:World}{A B:aQ}(h:St w0 w A)(k:dN A B):St w0 w B:=by
  obtain⟨F,hA,hc,hn⟩:=h;obtain⟨F',hB,hj⟩:=k w F hA;exact⟨F',hB,hc,λ j hj'=>hn j ((hj j).1 hj')⟩
def Sep:List aQ->aQ
  | []=>emp
  | A :: l=>star A (Sep l)
end Go.Vc
namespace Go.Vc
def gM(e:TypeId)(sz:Nat)(v:Value)(n:Nat)(xs:List Value):aQ where
  p w F:=w.ownsRow 0 e sz v n xs/\F=v.ownBlock.toList
  loc:=λ ⟨h,he⟩ hc hd=>⟨mj h hc λ k hk=>hd k (by rw[he]; simp[hk]),he⟩
  lt:=λ ⟨h,he⟩ k hk=>by subst he; simp at hk; exact(h.lt k hk).2
theorem St.wH{w0 w:World}{A:aQ}(h:St w0 w A)(e:TypeId)(sz:Nat):St w0 w (star A (gM e sz (.slice none 0 0) 0 [])) :=
  h.add (an.refl _ _) (B:=gM e sz _ 0 []) (G:=[]) ⟨⟨by simp,.inl ⟨rfl,rfl⟩⟩,rfl⟩ (by simp)
theorem vM{P:Program}{w0 w:World}{B:aQ}{t ty e:TypeId}{z:Value}{sz by_:Nat}(hT:qi P t e z sz by_){v:Value}{n:Nat}{xs:List Value}(h:St w0 w (star (gM e sz v n xs) B)){a:Addr}{m c:Nat}{news:List Value}(hl:news.length=m*sz)(hnews:∀ j u,news[j]? = some u->w.cell? (a.add j)=some u)(h1:∀ u∈news,u.oneCell' = true)(hb:(n+m)*by_<=140737488355328)(hm:n+m<=9223372036854775807){K:KP}(k:∀ v' w',St w0 w' (star (gM e sz v' (n+m) (xs++news)) B)->K v' w'):iT P (Builtin.append_ #[t,t] ty #[v,.slice (some a) m c]) w K:=by
  obtain⟨F,⟨own,rfl⟩,use⟩:=h.use;refine ie hT own hl hnews h1 hb hm λ v' w' own' hc hn=>k v' w' (use w' (gM e sz v' (n+m) (xs++news)) ⟨_,⟨own',rfl⟩,hc,λ j hj=>?_⟩);rcases hn j (by simpa using hj) with h' | h'
  · exact .inl (by simp[h'])
  · exact .inr h'
theorem sK{P:Program}{w0 w:World}{B:aQ}{t ty e:TypeId}{z:Value}{sz by_:Nat}(hT:qi P t e z sz by_){v:Value}{n:Nat}{xs:List Value}(h:St w0 w (star (gM e sz v n xs) B)){news:List Value}(hl:news.length=sz)(h1:∀ u∈news,u.oneCell' = true)(hb:(n+1)*by_<=140737488355328)(hm:n+1<=9223372036854775807){R:Option Addr->Nat->Nat->World->Prop}(k:∀ a c w',St w0 w' (star (gM e sz (.slice a (n+1) c) (n+1) (xs++news)) B)->R a (n+1) c w'){cs:Array Value}(hcs:cs=news.toArray) :
    aI w (.cells cs e) λ r w1=>iT P (Builtin.append_ #[t,t] ty #[v,.slice (some ⟨r,0,none⟩) 1 1]) w1 λ e w2=>∃ a l c,e=.slice a l c/\R a l c w2:=by
  subst hcs;refine aE ?_;have h' : St w0 (w.alloc (.cells news.toArray e)) (star (gM e sz v n xs) B):=h.quiet (an.new _ _ _);refine vM hT h' (m:=1) (news:=news) (by omega) (λ j u hj=>?_) h1 hb hm λ v' w' h''=>?_
  · rw[vK,cP,eA,if_pos rfl,b9]; simpa using hj
  · obtain⟨F,⟨own,_⟩,_⟩:=h''.use;obtain⟨a,c,rfl⟩:=pX own;exact⟨a,_,c,rfl,k a c w' h''⟩
theorem St.rowOf{w0 w:World}{B:aQ}{e:TypeId}{sz n:Nat}{v:Value}{xs:List Value}(h:St w0 w (star (gM e sz v n xs) B)):w.ownsRow 0 e sz v n xs:=by
  obtain⟨F,⟨own,_⟩,_⟩:=h.use;exact own
end Go.Vc
namespace Go.Vc
theorem dN.swap{A B:aQ}:dN (star A B) (star B A):=by
  rintro w F ⟨F1,F2,rfl,h1,h2,hd⟩;exact⟨F2++F1,⟨F2,F1,rfl,h2,h1,λ k hk hk'=>hd k hk' hk⟩,λ j=>by simp[or_comm]⟩
theorem dN.unit(A:aQ):dN A (star A emp):=λ _ F h=>⟨F++[],⟨F,[],rfl,h,rfl,by simp⟩,λ j=>by simp⟩
end Go.Vc
namespace Go.Vc
theorem dN.out:∀ {l:List aQ} (i:Nat) {A:aQ},l[i]? = some A->dN (Sep l) (star A (Sep (l.eraseIdx i)))
  | [],_,_,h=>by simp at h
  | B :: l,0,A,h=>by simp at h; subst h; exact dN.refl _
  | B :: l,i+1,A,h=>(dN.right (dN.out (l:=l) i (by simpa using h))).trans dN.zM
theorem dN.back:∀ {l:List aQ} (i:Nat) {A:aQ},i<l.length->dN (star A (Sep (l.eraseIdx i))) (Sep (l.set i A))
  | [],_,_,h=>by simp at h
  | B :: l,0,A,h=>dN.refl _
  | B :: l,i+1,A,h=>dN.zM.trans (dN.right (dN.back (l:=l) i (by simpa using h)))
theorem St.out{w0 w:World}{l:List aQ}(h:St w0 w (Sep l))(i:Nat){A:aQ}(e:l[i]? = some A):St w0 w (star A (Sep (l.eraseIdx i))):=h.eqv (dN.out i e)
theorem St.back{w0 w:World}{l:List aQ}{A:aQ}{i:Nat}(h:St w0 w (star A (Sep (l.eraseIdx i))))(hi:i<l.length:=by decide):St w0 w (Sep (l.set i A)):=h.eqv (dN.back i hi)
section at_
variable {w0 w:World} {l:List aQ}
theorem St.af{r:Nat}{cs:Array Value}{T:TypeId}(h:St w0 w (Sep l))(i:Nat)(e:l[i]? = some (aG r cs T))(j:Nat):w.cell? ⟨r,j,none⟩=cs[j]?:=(h.out i e).boxed j
theorem iH{i:Nat}{A:aQ}(e:l[i]? = some A):i<l.length:=by
  rcases Nat.lt_or_ge i l.length with h | h
  · exact h
  · rw[List.getElem?_eq_none h] at e; cases e
theorem St.cr(h:St w0 w (Sep l))(cs:Array Value)(T:TypeId):St w0 (w.alloc (.cells cs T)) (Sep (aG w.heap.size cs T :: l)):=(h.box cs T).swap
theorem St.zH{cs:Array Value}{r:Nat}{T:TypeId}{v:Value}{j:Nat}{R:World->Prop}(h:St w0 w (Sep l))(i:Nat)(e:l[i]? = some (aG r cs T))(hj:j<cs.size)(hv:v.oneCell' = true)(k:∀ w',St w0 w' (Sep (l.set i (aG r (cs.setIfInBounds j v) T)))->R w'):yp w ⟨r,j,none⟩ v R:=by
  obtain⟨F,⟨ho,rfl⟩,use⟩:=(h.out i e).use;refine rZ ho hj hv (k _ ((use _ (aG r (cs.setIfInBounds j v) T) ⟨[r],⟨?_,rfl⟩,an.set _ _ _ _ (by simp),λ j hj=>.inl hj⟩).back (iH e)));rw[heap_set,if_pos rfl,ho]; rfl
theorem St.bP{x:Nat}{cs:Array Value}{T:TypeId}{R:World->Prop}(h:St w0 w (Sep l))(i:Nat)(e:l[i]? = some (aG x cs T))(vs:List Value)(hn:vs.length=cs.size)(h1:∀ v∈vs,v.oneCell' = true)(k:∀ w',St w0 w' (Sep (l.set i (aG x vs.toArray T)))->R w'):fS ⟨x,0,none⟩ 0 vs w R:=by
  obtain⟨F,⟨ho,rfl⟩,use⟩:=(h.out i e).use;refine sg vs 0 w cs ho (by omega) h1 λ w' hb hc _=>k w' ((use w' (aG x vs.toArray T) ⟨[x],⟨?_,rfl⟩,hc,λ j hj=>.inl hj⟩).back (iH e));rw[hb];have:cs.toList.drop (0+0+vs.length)=[]:=List.drop_of_length_le (by simp; omega);rw[this]
  simp
end at_
def b6(A B:aQ):Prop:=∀ w F,A.p w F->∃ F',B.p w F'/\∀ j∈F',j∈F
theorem dN.weak{A B:aQ}(h:dN A B):b6 A B:=λ w F hA=>let ⟨F',hB,hj⟩:=h w F hA; ⟨F',hB,λ j hj'=>(hj j).1 hj'⟩
theorem b6.trans{A B C:aQ}(h:b6 A B)(k:b6 B C):b6 A C:=λ w F hA =>
  let ⟨_,hB,h1⟩:=h w F hA;let ⟨F'',hC,h2⟩:=k w _ hB
  ⟨F'',hC,λ j hj=>h1 j (h2 j hj)⟩
theorem b6.right{A B C:aQ}(h:b6 B C):b6 (star A B) (star A C):=by
  rintro w F ⟨F1,F2,rfl,h1,h2,hd⟩;obtain⟨F2',h2',hj⟩:=h w F2 h2;exact⟨F1++F2',⟨F1,F2',rfl,h1,h2',λ k hk hk2=>hd k hk (hj k hk2)⟩,λ j hj'=>by rcases List.mem_append.1 hj' with h | h<;>simp[h,hj j]⟩
theorem b6.none(A:aQ):b6 A emp:=λ _ _ _=>⟨[],rfl,by simp⟩
theorem St.weak{w0 w:World}{A B:aQ}(h:St w0 w A)(k:b6 A B):St w0 w B:=by
  obtain⟨F,hA,hc,hn⟩:=h;obtain⟨F',hB,hs⟩:=k w F hA;exact⟨F',hB,hc,λ j hj=>hn j (hs j hj)⟩
def dn:List Nat->List aQ->List aQ
  | [],_=>[]
  | i :: is,l=>l.getD i emp :: dn is (l.set i emp)
theorem b6.pick:∀ (is:List Nat) (l:List aQ),b6 (Sep l) (Sep (dn is l))
  | [],l=>b6.none _
  | i :: is,l=>by
    by_cases hi:i<l.length
    · have e:l[i]? = some (l.getD i emp):=by simp[hi]
      refine(dN.out i e).weak.trans (b6.right ?_);refine b6.trans ?_ (b6.pick is (l.set i emp));refine b6.trans (dN.weak ?_) (dN.back (l:=l) (A:=emp) i hi).weak;exact(dN.unit _).trans dN.swap
    · have e:l.getD i emp=emp:=by simp[List.getElem?_eq_none (Nat.le_of_not_lt hi)]
      have e2:l.set i emp=l:=List.set_eq_of_length_le (Nat.le_of_not_lt hi);unfold Vc.dn;rw[e,e2];exact(b6.pick is l).trans ((dN.unit _).trans dN.swap).weak
theorem St.dn{w0 w:World}{l:List aQ}(h:St w0 w (Sep l))(is:List Nat):St w0 w (Sep (Vc.dn is l)):=h.weak (b6.pick is l)
theorem St.one{w0 w:World}{A:aQ}(h:St w0 w A):St w0 w (Sep [A]):=h.eqv (dN.unit A)
end Go.Vc
namespace Go.Vc
theorem aD{P:Program}{f:FuncId}{args:Array Value}{w:World}{K:KP}{R:Ending->World->Prop}(h:Calls P f args w (sD K))(k:∀ v w',K v w'->R (.returned v) w'):Calls P f args w R :=
  h.mono λ e w' ⟨v,he,hv⟩=>by subst he; exact k v w' hv
theorem cD(g i j:Nat):(⟨g,i,none⟩:Addr).add j=⟨g,i+j,none⟩:=by unfold Addr.add; split<;>simp_all
theorem kO{w:World}{e:TypeId}{sz n:Nat}{a:OA}{c:Nat}{xs:List Value}(own:w.ownsRow 0 e sz (.slice a n c) n xs)(hn:0<n):∃ g,a=some ⟨g,0,none⟩/\∀ (k:Nat) (v:Value),xs[k]? = some v->w.cell? ⟨g,k,none⟩=some v:=by
  rcases own.2 with⟨hv,rfl⟩ | ⟨g,cap,cur,hv,_,hg,h1,_,h3,h4⟩
  · omega
  · cases hv
    refine⟨g,rfl,λ k v hk=>?_⟩;rw[cP,hg,b9,<- Array.getElem?_toList,<- hk,<- h4,List.getElem?_take];rw[<- h4,List.getElem?_take] at hk
    split at hk
    · rename_i hlt; rw[if_pos hlt]
    · cases hk
theorem vO{r:Nat}{cs:Array Value}{T:TypeId}{n:Nat}(hn:cs.size=n)(hm:n<=maxLen):b6 (aG r cs T) (gM T 1 (.slice (some ⟨r,0,none⟩) n n) n cs.toList):=by
  rintro w F ⟨h,rfl⟩;refine⟨[r],⟨⟨by simp[hn],.inr ⟨r,n,cs,rfl,Nat.zero_le _,h,Nat.le_refl _,hm,by omega,?_⟩⟩,by simp[Value.ownBlock]⟩,by simp⟩;rw[Nat.mul_one];exact List.take_of_length_le (by simp[hn])
theorem b6.left{A B C:aQ}(h:b6 A B):b6 (star A C) (star B C):=by
  rintro w F ⟨F1,F2,rfl,h1,h2,hd⟩;obtain⟨F1',h1',hj⟩:=h w F1 h1;exact⟨F1'++F2,⟨F1',F2,rfl,h1',h2,λ k hk hk2=>hd k (hj k hk) hk2⟩,λ j hj'=>by rcases List.mem_append.1 hj' with h | h<;>simp[h,hj j]⟩
theorem cj{α:Type}{l:List α}{i:Nat}{a:α}(h:l[i]? = some a):l.take (i+1)=l.take i++[a]:=by
  rw[List.take_add_one,h]; rfl
theorem mQ{w:World}{e:TypeId}{sz n c:Nat}{a:OA}{xs:List Value}(own:w.ownsRow 0 e sz (.slice a n c) n xs):n<=c/\(a=none->c=0):=by
  rcases own.2 with⟨hv,rfl⟩ | ⟨g,cap,cur,hv,_,_,h1,_⟩
  · cases hv; exact⟨Nat.zero_le _,λ _=>rfl⟩
  · cases hv; exact⟨h1,λ h=>by cases h⟩
theorem cQ{w:World}{a:Addr}:∀ (vs:List Value) (i:Nat),(∀ (j:Nat) (v:Value),vs[j]? = some v->w.cell? (a.add (i+j))=some v)->aa w a i vs
  | [],_,_=>trivial
  | v :: vs,i,h=>⟨h 0 v rfl,cQ vs (i+1) λ j u hj=>by have:=h (j+1) u (by simpa using hj); rwa [show i+(j+1)=i+1+j by omega] at this⟩
theorem St.cellsIn{w0 w:World}{l:List aQ}{r:Nat}{cs:Array Value}{T:TypeId}(h:St w0 w (Sep l))(i:Nat)(e:l[i]? = some (aG r cs T)):aa w ⟨r,0,none⟩ 0 cs.toList :=
  cQ _ 0 λ j v hj=>by
    rw[vK,Nat.zero_add,h.af i e];simpa using hj
theorem qu{P:Program}{g:FuncId}{x y args:Array Value}{w:World}{R:Ending->World->Prop}(he:bx P g=true)(h:Calls P g (x++args++y) w R):lE P (.func (.func g) x y) args w R:=by
  show cond (bx P g) (Calls P g (x++args++y) w R) False;rw[he];exact h
end Go.Vc
namespace Go.Vc
open Go Go.Deep
def cw(P:Program)(w:World):Nat->TypeId->List Value->Prop
  | 0,_,_=>True
  | d+1,t,cs=>match P.underlying t with
    | some .bool=>∃ b:Bool,cs=[.bool b]
    | some (.int k)=>∃ n:Int,cs=[.int k n]/\(Lit.int k n).wf=true
    | some .string=>∃ s:ByteArray,cs=[.string s]/\s.size<=maxLen
    | some (.slice e)=>∃ (a:OA) (l c:Nat),cs=[.slice a l c]/\l<=c/\c<=maxLen/\(a=none->c=0)/\l*P.bytesOf e<=reachBytes /\
        ∀ i,i<l->∃ q cs',a=some q/\w.cells? 0 (q.add (i*P.cellsOf e)) (P.cellsOf e)=some cs'/\cw P w d e cs'
    | some (.struct fs)=>cs.length=P.cellsOf t/\∀ f∈fs.toList,cw P w d f.type ((cs.drop f.offset).take (P.cellsOf f.type))
    | some (.array n e)=>cs.length=P.cellsOf t/\∀ i,i<n->cw P w d e ((cs.drop (i*P.cellsOf e)).take (P.cellsOf e))
    | _=>True
theorem sy{H:Type}{P:Program}{e:TypeId}:∀ {l:List (DataW H)} {d:DataW H} {y:Nat},d∈l->y∈d.weights P e->y∈DataW.weightsAll P e l
  | [],_,_,h,_=>by cases h
  | x :: l,d,y,h,hy=>by
    simp only[DataW.weightsAll,List.mem_append];rcases List.mem_cons.1 h with rfl | h
    · exact .inl hy
    · exact .inr (sy h hy)
theorem kV{H:Type}{P:Program}:∀ {ts:List TypeId} {l:List (DataW H)} {i:Nat} {t:TypeId} {d:DataW H} {y:Nat},ts[i]? = some t->l[i]? = some d->y∈d.weights P t->y∈DataW.weightsEach P ts l
  | [],_,_,_,_,_,h,_,_=>by simp at h
  | _ :: _,[],_,_,_,_,_,h,_=>by simp at h
  | t0 :: ts,d0 :: l,i,t,d,y,h1,h2,hy=>by
    simp only[DataW.weightsEach,List.mem_append]
    cases i with
    | zero=>simp at h1 h2; subst h1 h2; exact .inl hy
    | succ i=>exact .inr (kV (i:=i) (by simpa using h1) (by simpa using h2) hy)
theorem eC{H:Type}{enc:TypeId×Value->H}{P:Program}{w:World}{spare:Nat->Bool}{held:Bool}:∀ (d:Nat) {fuel:Nat} {t:TypeId} {cs:List Value} {x:DataW H×List MemPlace},
    DataW.trod enc P w 0 spare held fuel t cs=some x->(∀ y∈x.1.weights P t,y<=reachBytes)->cw P w d t cs
  | 0,_,_,_,_,_,_=>trivial
  | d+1,fuel,t,cs,x,h,hw=>by
    unfold cw
    split
    · rename_i hu;obtain⟨b,rfl,_⟩:=DataW.trod_bool hu h;exact⟨b,rfl⟩
    · rename_i k hu;obtain⟨n,rfl,_,hw⟩:=DataW.trod_int hu h;exact⟨n,rfl,hw⟩
    · rename_i hu;obtain⟨s,rfl,_,hs⟩:=DataW.trod_string hu h;exact⟨s,rfl,hs⟩
    · rename_i e hu;rcases open_slice hu h with⟨rfl,_⟩ | ⟨a,l,c,m,n,D,Pl,rfl,_,hl,hc,hm,hx,hi⟩
      · exact⟨none,0,0,rfl,Nat.le_refl _,Nat.zero_le _,λ _=>rfl,by simp,λ i hi=>by omega⟩
      · subst hx;simp only[DataW.weights,hu,List.length_map,List.length_range,List.mem_cons,List.mem_append] at hw;have hlm:l<=m:=by rw[hm]; split<;>omega
        have hb:=hw _ (.inl rfl);refine⟨some a,l,c,rfl,hl,hc,λ h=>(by cases h),?_,λ i hil=>?_⟩
        · exact Nat.le_trans (Nat.mul_le_mul_right _ (by omega)) hb
        · obtain⟨cs',h1,h2⟩:=hi i (by omega);exact⟨a,cs',rfl,h1,eC d h2 λ y hy=>hw y (.inr (.inl (sy (List.mem_map.2 ⟨i,by simpa using hil,rfl⟩) hy)))⟩
    · rename_i fs hu;obtain⟨xs,n,_,rfl,hc,hl,hf⟩:=DataW.trod_struct hu h;refine⟨hc,λ f hm=>?_⟩;obtain⟨i,hi,rfl⟩:=List.mem_iff_getElem.1 hm;have hi' : i<fs.size:=by simpa using hi
      have h2:=hf i fs.toList[i] (by simp[hi']);rw[List.getElem?_eq_getElem (by omega)] at h2;simp only[DataW.weights,hu] at hw;exact eC d h2 λ y hy=>hw y (kV (i:=i) (by simp[hi']) (by rw[List.getElem?_map,List.getElem?_eq_getElem (by omega)]; rfl) hy)
    · rename_i n e hu;obtain⟨xs,m,_,rfl,hc,hl,hf⟩:=DataW.trod_array hu h;refine⟨hc,λ i hi=>?_⟩;have h2:=hf i hi;rw[List.getElem?_eq_getElem (by omega)] at h2;simp only[DataW.weights,hu] at hw;exact eC d h2 λ y hy=>hw y (sy (List.mem_map.2 ⟨_,List.getElem_mem (by omega),rfl⟩) hy)
    · trivial
end Go.Vc
namespace Go.Vc
open Go
abbrev sv (l:List UInt8):Value:=.string (bs l)
def In(n:Int):Prop:=-9223372036854775808<=n/\n<=9223372036854775807
theorem aH{n:Int}(h:In n):IntKind.i64.wrap n=n:=by
  obtain⟨h0,h1⟩:=h;simp only[IntKind.wrap,IntKind.signed,IntKind.bits]
  simp
  omega
theorem inc{k n:Nat}(h:n<=9223372036854775807)(hk:k<n):IntKind.i64.wrap ((k:Int)+1)=((k+1:Nat):Int):=aH ⟨by omega,by omega⟩
theorem fX(l:List UInt8)(i:Nat):(bs l)[i]? = l[i]?:=by
  by_cases h:i<l.length
  · rw[getElem?_pos (bs l) i h,List.getElem?_eq_getElem h]; rfl
  · rw[getElem?_neg (bs l) i h,List.getElem?_eq_none (by omega)]
theorem qq(l:List UInt8)(m n:Nat):(bs l).extract m n=bs ((l.drop m).take (n-m)):=by
  apply ByteArray.ext;rw[ByteArray.data_extract];apply Array.toList_inj.1;rw[Array.toList_extract,List.extract_eq_take_drop];simp[bs]
theorem uZ(l:List UInt8)(n:Nat):(bs l).extract 0 n=bs (l.take n):=by rw[qq]; simp
theorem gO(l:List UInt8):(bs l).toList=l:=by rw[Go.ByteArray.toList_eq]; simp[bs]
theorem bF(l:List UInt8):(bs l).size=l.length:=by simp[bs,ByteArray.size]
theorem ay(l m:List UInt8):bs l++bs m=bs (l++m):=by
  apply ByteArray.ext; simp[bs]
namespace I6
def l(u:I6):List Int:=[u.a,u.b,u.c,u.d,u.e,u.f]
def at'(u:I6):Nat->Int
  | 0=>u.a
  | 1=>u.b
  | 2=>u.c
  | 3=>u.d
  | 4=>u.e
  | 5=>u.f
  | _=>0
theorem get(u:I6)(k:Nat)(hk:k<6):(u.vs.toArray:Array Value)[k*1]? = some (iv (u.at' k)):=by
  match k,hk with
  | 0,_ | 1,_ | 2,_ | 3,_ | 4,_ | 5,_=>rfl
theorem gK(u:I6)(k:Nat)(hk:k<6):u.l[k]? = some (u.at' k):=by
  match k,hk with
  | 0,_ | 1,_ | 2,_ | 3,_ | 4,_ | 5,_=>rfl
theorem size(u:I6):u.vs.toArray.size=6:=rfl
theorem len(u:I6):u.l.length=6:=rfl
theorem one(u:I6):∀ v∈u.vs,v.oneCell' = true:=by
  intro v hv; simp[vs] at hv; rcases hv with rfl | rfl | rfl | rfl | rfl | rfl<;>rfl
theorem ext'{u v:I6}(h:∀ k,k<6->u.at' k=v.at' k):u=v:=by
  cases u; cases v
  have h0:=h 0 (by decide); have h1:=h 1 (by decide); have h2:=h 2 (by decide); have h3:=h 3 (by decide); have h4:=h 4 (by decide); have h5:=h 5 (by decide);simp only[at'] at h0 h1 h2 h3 h4 h5;subst h0 h1 h2 h3 h4 h5; rfl
theorem beq_iff{u v:I6}:u.beq v=true<->u=v:=by
  cases u; cases v
  simp[beq]
instance:DecidableEq I6:=λ u v=>if h:u.beq v=true then .isTrue (beq_iff.1 h) else .isFalse λ e=>h (beq_iff.2 e)
def vt(l:List Int):I6:=⟨l.getD 0 0,l.getD 1 0,l.getD 2 0,l.getD 3 0,l.getD 4 0,l.getD 5 0⟩
def map(f:Int->Int)(u:I6):I6:=⟨f u.a,f u.b,f u.c,f u.d,f u.e,f u.f⟩
def mix(k:Nat)(u v:I6):I6:=⟨if 0<k then u.a else v.a,if 1<k then u.b else v.b,if 2<k then u.c else v.c,if 3<k then u.d else v.d,if 4<k then u.e else v.e,if 5<k then u.f else v.f⟩
theorem wD(u v:I6)(k j:Nat)(hj:j<6):(mix k u v).at' j=if j<k then u.at' j else v.at' j:=by
  match j,hj with
  | 0,_ | 1,_ | 2,_ | 3,_ | 4,_ | 5,_=>rfl
theorem ux(u v:I6)(k:Nat)(hk:k<6):(mix k u v).vs.toArray.setIfInBounds k (iv (u.at' k))=(mix (k+1) u v).vs.toArray:=by
  match k,hk with
  | 0,_ | 1,_ | 2,_ | 3,_ | 4,_ | 5,_=>rfl
end I6
theorem an.cat{w w1 w2:World}{F G:List Nat}(h:an w w1 F)(k:an w1 w2 G):an w w2 (F++G) :=
  ⟨Nat.le_trans h.size k.size,λ i hi hn=>(k.same i (Nat.lt_of_lt_of_le hi h.size) λ hg=>hn (List.mem_append_right _ hg)).trans (h.same i hi λ hf=>hn (List.mem_append_left _ hf)),h.env.trans k.env⟩
def held(Q:World->Prop):aQ where
  p w F:=(∀ w' G,an w w' G->(∀ k∈F,k∉G)->Q w')/\∀ k∈F,k<w.heap.size
  loc:=λ {_ _ _ G} ⟨h,hl⟩ hc hd=>⟨λ w'' G' hc' hd'=>h w'' (G++G') (hc.cat hc') λ k hk hm=>(List.mem_append.1 hm).elim (hd k hk) (hd' k hk),λ k hk=>Nat.lt_of_lt_of_le (hl k hk) hc.size⟩
  lt:=λ ⟨_,hl⟩=>hl
theorem St.bX{w0 w:World}{l:List aQ}(h:St w0 w (Sep l))(cs:Array Value){T:TypeId}{R:Nat->World->Prop}(k:∀ r w',St w0 w' (Sep (aG r cs T :: l))->R r w'):aI w (.cells cs T) R:=k _ _ (h.cr cs T)
theorem bl{α:Type}{p:Option α}{F:α->Prop}{q:α}(h:p=some q)(k:F q):ah p F:=by rw[h]; exact k
def xw{α:Type}(sz:Nat)(R:World->α->List Value->Prop)(w:World)(a:OA)(l:List α):Prop :=
  ∀ (i:Nat) (x:α),l[i]? = some x->∃ q cs,a=some q/\aa w (q.add (i*sz)) 0 cs/\cs.length=sz/\R w x cs
abbrev jg {α:Type} (sz:Nat) (f:α->List Value) (w:World) (a:OA) (l:List α):Prop:=xw sz (λ _ x cs=>cs=f x) w a l
theorem xw.au{α:Type}{sz:Nat}{R:World->α->List Value->Prop}{w w' : World}{a:OA}{l:List α}(h:xw sz R w a l)(hc:an w w' [])(hR:∀ x cs,R w x cs->R w' x cs):xw sz R w' a l:=λ i x hi =>
  let ⟨q,cs,h1,h2,h3,h4⟩:=h i x hi
  ⟨q,cs,h1,aV hc h2,h3,hR _ _ h4⟩
theorem jg.au{α:Type}{sz:Nat}{f:α->List Value}{w w' : World}{a:OA}{l:List α}(h:jg sz f w a l)(hc:an w w' []):jg sz f w' a l:=xw.au h hc λ _ _ h=>h
theorem jg.at{α:Type}{sz:Nat}{f:α->List Value}{w:World}{a:OA}{l:List α}(h:jg sz f w a l){i:Nat}{x:α}(hi:l[i]? = some x):∃ q,a=some q/\aa w (q.add (i*sz)) 0 (f x) :=
  let ⟨q,_,h1,h2,_,h4⟩:=h i x hi
  ⟨q,h1,h4▸h2⟩
theorem ct{w:World}{a:Addr}:∀ {vs:List Value} {i:Nat},aa w a i vs->∀ (j:Nat) (v:Value),vs[j]? = some v->w.cell? (a.add (i+j))=some v
  | _ :: _,i,h,0,v,hj=>by simp at hj; subst hj; exact h.1
  | _ :: vs,i,h,j+1,v,hj=>by
    have:=ct h.2 j v (by simpa using hj)
    rwa [show i+(j+1)=i+1+j by omega]
theorem lM{α:Type}{sz:Nat}{f:α->List Value}(hf:∀ x,(f x).length=sz):∀ {l:List α} {i:Nat} {x:α},l[i]? = some x->∀ (j:Nat) (v:Value),(f x)[j]? = some v->(l.flatMap f)[i*sz+j]? = some v
  | [],_,_,h,_,_,_=>by simp at h
  | y :: l,0,x,h,j,v,hj=>by
    simp at h; subst h;have hlt:j<(f y).length:=(List.getElem?_eq_some_iff.1 hj).1;rw[List.flatMap_cons,Nat.zero_mul,Nat.zero_add,List.getElem?_append_left hlt]; exact hj
  | y :: l,i+1,x,h,j,v,hj=>by
    have h1:=lM hf (l:=l) (i:=i) (by simpa using h) j v hj;rw[List.flatMap_cons,List.getElem?_append_right (by rw[hf,Nat.add_mul]; omega),hf,Nat.add_mul];rw[show i*sz+1*sz+j-sz=i*sz+j by omega];exact h1
theorem lN{α:Type}{sz:Nat}{f:α->List Value}(hf:∀ x,(f x).length=sz):∀ (l:List α),(l.flatMap f).length=l.length*sz
  | []=>by simp
  | x :: l=>by rw[List.flatMap_cons,List.length_append,hf,lN hf l,List.length_cons,Nat.add_mul]; omega
theorem wP{α:Type}{sz:Nat}{f:α->List Value}(hf:∀ x,(f x).length=sz){w:World}{e:TypeId}{a:OA}{c:Nat}{l:List α}(own:w.ownsRow 0 e sz (.slice a l.length c) l.length (l.flatMap f)):jg sz f w a l:=λ i x hi=>by
  have hlt:=(List.getElem?_eq_some_iff.1 hi).1;obtain⟨g,rfl,hget⟩:=kO own (by omega);refine⟨_,f x,rfl,cQ _ 0 λ j v hj=>?_,hf x,rfl⟩;rw[vK,Nat.zero_add];have h1:=lM hf hi j v hj;show w.cell? (Addr.add ⟨g,i*sz,none⟩ j)=some v;have:(⟨g,i*sz,none⟩:Addr).add j=⟨g,i*sz+j,none⟩:=by unfold Addr.add; split<;>simp_all
  rw[this];exact hget _ _ h1
end Go.Vc
namespace Go.Vc
open Go
abbrev xo {α:Type} (e:TypeId) (sz:Nat) (f:α->List Value) (a:OA) (c:Nat) (l:List α):aQ:=gM e sz (.slice a l.length c) l.length (l.flatMap f)
section
variable {α:Type} {e:TypeId} {sz:Nat} {f:α->List Value} {w0 w:World} {B:aQ} {a:OA} {c:Nat} {l:List α}
theorem St.rd(hf:∀ x,(f x).length=sz)(h:St w0 w (star (xo e sz f a c l) B)):jg sz f w a l:=wP hf h.rowOf
theorem St.yh(h:St w0 w B):St w0 w (star (xo e sz f none 0 []) B):=h.wH e sz |>.swap
end
section
variable {α:Type} {P:Program} {t ty e:TypeId} {z:Value} {sz by_:Nat} {f:α->List Value} {w0 w:World} {B:aQ} {a:OA} {c:Nat} {l:List α}
theorem lg(hT:qi P t e z sz by_)(hf:∀ x,(f x).length=sz){x:α}(h1:∀ v∈f x,v.oneCell' = true)(h:St w0 w (star (xo e sz f a c l) B))(hb:(l.length+1)*by_<=140737488355328)(hm:l.length+1<=9223372036854775807){R:Option Addr->Nat->Nat->World->Prop}(k:∀ a' c' w',St w0 w' (star (xo e sz f a' c' (l++[x])) B)->R a' (l++[x]).length c' w'){cs:Array Value}(hcs:cs=(f x).toArray) :
    aI w (.cells cs e) λ r w1=>iT P (Builtin.append_ #[t,t] ty #[.slice a l.length c,.slice (some ⟨r,0,none⟩) 1 1]) w1 λ e w2=>∃ a l c,e=.slice a l c/\R a l c w2:=by
  refine sK hT h (hf x) h1 hb hm (λ a' c' w' h'=>?_) hcs;have h3:St w0 w' (star (xo e sz f a' c' (l++[x])) B):=by
    show St w0 w' (star (gM e sz (.slice a' (l++[x]).length c') (l++[x]).length ((l++[x]).flatMap f)) B);rw[List.length_append,List.flatMap_append,List.flatMap_singleton]; exact h'
  have:=k a' c' w' h3
  rwa [List.length_append] at this
end
theorem St.lG{w0 w:World}{l:List aQ}{r:Nat}{cs:Array Value}{T:TypeId}(h:St w0 w (Sep l))(i j:Nat)(e:l[i]? = some (aG r cs T)){vs:List Value}(hv:(cs.toList.drop j).take vs.length=vs):aa w ⟨r,j,none⟩ 0 vs :=
  cQ _ 0 λ k v hk=>by
    have hl:k<vs.length:=(List.getElem?_eq_some_iff.1 hk).1;have ha:(⟨r,j,none⟩:Addr).add (0+k)=⟨r,j+k,none⟩:=by unfold Addr.add; split<;>simp_all
    have h2:((cs.toList.drop j).take vs.length)[k]? = vs[k]?:=by rw[hv]
    rw[List.getElem?_take,if_pos hl,List.getElem?_drop,hk] at h2;rw[ha,h.af i e]; simpa using h2
section
variable {α:Type} {a b:List α}
end
end Go.Vc
namespace Go.Proofs.YtemiicbbbojdiaaGreatDoor
open Go Go.Vc _root_.Go.Proofs.Tryz
def oU(a:Int)(w:World)(K:KP):Prop:=cond (decide (a>=48)) (K (.bool (decide (a<=57))) w) (K (.bool false) w)
theorem nO{n1 w K}(h:oU n1 w K):CP 175 #[.int .i32 n1] w (K):=ai (aZ []) func175 (by kernel_rfl) (by kernel_rfl) h
def mz(a:Int)(w:World)(K:KP):Prop:=cond (decide (a>=97)) (K (.bool (decide (a<=122))) w) (K (.bool false) w)
theorem mA{n1 w K}(h:mz n1 w K):CP 149 #[.int .i32 n1] w (K):=ai (aZ []) func149 (by kernel_rfl) (by kernel_rfl) h
def oW(a:Int)(w:World)(K:KP):Prop:=Calls prog 149 #[.int .i32 a] w λ b c=>∃ d,b=.returned (.bool d)/\cond d (K (.bool true) c) (Calls prog 175 #[.int .i32 a] c λ b c=>∃ d,b=.returned (.bool d)/\cond d (K (.bool true) c) (K (.bool (a==95)) c))
theorem nQ{n1 w K}(h:oW n1 w K):CP 151 #[.int .i32 n1] w (K):=ai (aZ []) func151 (by kernel_rfl) (by kernel_rfl) h
def vv(a:ByteArray)(b:Int)(c:Value)(w:World)(K:KP):Prop:=∃ d:Int->World->Nat->Prop,(∃ e,d b w e)/\∀ f e g,d g f e->∀ h:Nat->Value,∃ h:Bool->World->Prop,(∀ i j,h j i->∀ k:Nat->Value,cond j (∃ j,j<e/\d (IntKind.i64.wrap (g+1)) i j) (0<=g/\g<=((a.size:Nat):Int)/\0<=b/\b<=(((g).toNat:Nat):Int)/\K (.string (a.extract ((b).toNat) ((g).toNat))) i))/\cond (decide (g<((a.size:Nat):Int))) (0<=g/\ah a[(g).toNat]? λ a=>lE prog c #[.int .i32 (IntKind.i32.wrap (a.toNat:Int))] f λ a b=>∃ c,a=.returned (.bool c)/\h c b) (h false f)
theorem rD{s1 n1 v1 w K}(h:vv s1 n1 v1 w K):CP 150 #[.string s1,iv n1,v1] w (K):=ai (aZ [(28,[(7,.s (.int .i64))]),(112,[(20,.s .bool)])]) func150 (by kernel_rfl) (by kernel_rfl) h
def mu(a:ByteArray)(w:World)(K:KP):Prop:=cond (!(a.toList==(bs []).toList)) (cond (decide (((a.size:Nat):Int)<=(12:Int))) (0<=(0:Int)/\ah a[((0:Int)).toNat]? λ b=>Calls prog 149 #[.int .i32 (IntKind.i32.wrap (b.toNat:Int))] w λ b c=>∃ d,b=.returned (.bool d)/\cond d (Calls prog 150 #[.string a,iv 0,.func (.func 151) #[] #[]] c λ b d=>∃ e,b=.returned (.string e)/\K (.bool (e.toList==a.toList)) d) (K (.bool false) c)) (K (.bool false) w)) (K (.bool false) w)
theorem mw{s1 w K}(h:mu s1 w K):CP 115 #[.string s1] w (K):=ai (aZ []) func115 (by kernel_rfl) (by kernel_rfl) h
def oT(a:I6)(w:World)(K:KP):Prop:=aI w (.cells a.vs.toArray 39) λ a b=>∃ (c:I6),aa b ⟨a,0,none⟩ 0 c.vs/\Calls prog 93 #[.agg c.vs.toArray] b λ b c=>∃ d,b=.returned (iv d)/\cond (d !=0) (K (iv 0) c) (∃ (b:I6),aa c ⟨a,0,none⟩ 0 b.vs/\∃ a:Int->Int->World->Nat->Prop,(∃ d,a 1 (0:Int) c d)/\∀ c d e f,a e f c d->∀ g:Nat->Value,cond (decide (f<6)) (0<=f/\f<6/\∃ g,(b.vs.toArray:Array Value)[(f).toNat*1]? = some (iv g)/\∃ b,b<d/\a (IntKind.i64.wrap (e*(IntKind.i64.wrap (g+1)))) (IntKind.i64.wrap (f+1)) c b) (cond (decide (e>1024)) (K (iv 0) c) (K (iv e) c)))
theorem nN{u1 w K}(h:oT u1 w K):CP 118 #[.agg u1.vs.toArray] w (K):=ai (aZ [(122,[(3,.s (.int .i64)),(10,.s (.int .i64))])]) func118 (by kernel_rfl) (by kernel_rfl) h
def oP(a:I6)(w:World)(K:KP):Prop:=aI w (.cells a.vs.toArray 39) λ a b=>∃ (c:I6),aa b ⟨a,0,none⟩ 0 c.vs/\∃ a:Int->World->Nat->Prop,(∃ d,a 0 b d)/\∀ b d e,a e b d->∀ f:Nat->Value,cond (decide (e<6)) (0<=e/\e<6/\∃ f,(c.vs.toArray:Array Value)[(e).toNat*1]? = some (iv f)/\∃ c:Bool->World->Prop,(∀ g h,c h g->∀ i:Nat->Value,cond h (K (iv 4) g) (∃ h,h<d/\a (IntKind.i64.wrap (e+1)) g h))/\cond (decide (f<0)) (c true b) (c (decide (f>4)) b)) (K (iv 0) b)
theorem nJ{u1 w K}(h:oP u1 w K):CP 93 #[.agg u1.vs.toArray] w (K):=ai (aZ [(26,[(6,.s (.int .i64))]),(1689,[(14,.s .bool)])]) func93 (by kernel_rfl) (by kernel_rfl) h
def jG(a b c:Int)(w:World)(K:KP):Prop:=cond (decide (a>=b)) (K (.bool (decide (a<=c))) w) (K (.bool false) w)
theorem kC{n1 n2 n3 w K}(h:jG n1 n2 n3 w K):CP 117 #[iv n1,iv n2,iv n3] w (K):=ai (aZ []) func117 (by kernel_rfl) (by kernel_rfl) h
def ry(a:OA)(b c:Nat)(d:ByteArray)(w:World)(K:KP):Prop:=∃ c:Int->World->Nat->Prop,(∃ e,c 0 w e)/\∀ f e g,c g f e->∀ h:Nat->Value,cond (decide (g<(b:Int))) (ah a λ a=>0<=g/\g<(b:Int)/\∃ b h i j k,aa f (Addr.add a ((g).toNat*5)) 0 [.string b,iv h,iv i,iv j,iv k]/\aI f (.cells #[.string (bs []),iv 0,iv 0,iv 0,iv 0] 89) λ a l=>fS ⟨a,0,none⟩ 0 [.string b,iv h,iv i,iv j,iv k] l λ b=>∃ h,b.cell? ⟨a,0,none⟩=some (.string h)/\cond (h.toList==d.toList) (K (.tuple #[iv g,.bool true]) b) (∃ a,a<e/\c (IntKind.i64.wrap (g+1)) b a)) (K (.tuple #[iv 0,.bool false]) f)
theorem pY{a1 l1 c1 s1 w K}(h:ry a1 l1 c1 s1 w K):CP 116 #[.slice a1 l1 c1,.string s1] w (K):=ai (aZ [(26,[(10,.s (.int .i64))])]) func116 (by kernel_rfl) (by kernel_rfl) h
def mB(a:OA)(b c:Nat)(w:World)(K:KP):Prop:=aI w (.cells z6.vs.toArray 39) λ c d=>aI d (.cells z6.vs.toArray 39) λ d e=>∃ f:Int->World->Nat->Prop,(∃ g,f 0 e g)/\∀ e g h,f h e g->∀ i:Nat->Value,cond (decide (h<(b:Int))) (∃ i:World->Prop,(∀ j,i j->∀ k:Nat->Value,∃ k,k<g/\f (IntKind.i64.wrap (h+1)) j k)/\ah a λ a=>0<=h/\h<(b:Int)/\∃ b f g j k,aa e (Addr.add a ((h).toNat*5)) 0 [.string b,iv f,iv g,iv j,iv k]/\aI e (.cells #[.string (bs []),iv 0,iv 0,iv 0,iv 0] 89) λ a l=>fS ⟨a,0,none⟩ 0 [.string b,iv f,iv g,iv j,iv k] l λ b=>cond (decide (h<6)) (∃ f,b.cell? ⟨a,1,none⟩=some (iv f)/\0<=h/\h<6/\yp b (Addr.add ⟨d,0,none⟩ ((h).toNat*1)) (iv f) λ a=>i a) (i b)) (∃ (a:I6),aa e ⟨d,0,none⟩ 0 a.vs/\fS ⟨c,0,none⟩ 0 a.vs e λ a=>∃ (b:I6),aa a ⟨c,0,none⟩ 0 b.vs/\K (.agg b.vs.toArray) a)
theorem mC{a1 l1 c1 w K}(h:mB a1 l1 c1 w K):CP 42 #[.slice a1 l1 c1] w (K):=ai (aZ [(58,[(8,.s (.int .i64))]),(467,[])]) func42 (by kernel_rfl) (by kernel_rfl) h
def rA(a:OA)(b c:Nat)(d:I6)(w:World)(K:KP):Prop:=aI w (.cells d.vs.toArray 39) λ a c=>∃ (d:I6),aa c ⟨a,0,none⟩ 0 d.vs/\Calls prog 93 #[.agg d.vs.toArray] c λ c d=>∃ e,c=.returned (iv e)/\cond (e !=0) (K (.bool false) d) (∃ (c:I6),aa d ⟨a,0,none⟩ 0 c.vs/\∃ a:Int->World->Nat->Prop,(∃ e,a 0 d e)/\∀ d e f,a f d e->∀ g:Nat->Value,cond (decide (f<6)) (0<=f/\f<6/\∃ g,(c.vs.toArray:Array Value)[(f).toNat*1]? = some (iv g)/\∃ c:Bool->World->Prop,(∀ h i,c i h->∀ j:Nat->Value,cond i (K (.bool false) h) (∃ i,i<e/\a (IntKind.i64.wrap (f+1)) h i))/\cond (decide (f>=(b:Int))) (c (g !=0) d) (c false d)) (K (.bool true) d))
theorem p4{a1 l1 c1 u1 w K}(h:rA a1 l1 c1 u1 w K):CP 86 #[.slice a1 l1 c1,.agg u1.vs.toArray] w (K):=ai (aZ [(58,[(11,.s (.int .i64))]),(3737,[(22,.s .bool)])]) func86 (by kernel_rfl) (by kernel_rfl) h
def oQ(a:OA)(b c:Nat)(w:World)(K:KP):Prop:=cond ((b:Int)==(0:Int)) (K (iv 1) w) (cond (decide ((b:Int)>(6:Int))) (K (iv 3) w) (∃ d:Int->World->Nat->Prop,(∃ e,d 0 w e)/\∀ f e g,d g f e->∀ h:Nat->Value,cond (decide (g<(b:Int))) (ah a λ h=>0<=g/\g<(b:Int)/\∃ i j k l m,aa f (Addr.add h ((g).toNat*5)) 0 [.string i,iv j,iv k,iv l,iv m]/\aI f (.cells #[.string (bs []),iv 0,iv 0,iv 0,iv 0] 89) λ h n=>fS ⟨h,0,none⟩ 0 [.string i,iv j,iv k,iv l,iv m] n λ i=>∃ j,i.cell? ⟨h,0,none⟩=some (.string j)/\Calls prog 115 #[.string j] i λ i j=>∃ k,i=.returned (.bool k)/\cond (!k) (K (iv 5) j) (0<=g/\g<=(c:Int)/\∃ i,j.drew.cell? ⟨h,0,none⟩=some (.string i)/\Calls prog 116 #[.slice (if c=0 then a else Option.map (λ x=>Addr.add x (0*5)) a) ((g).toNat-0) (c-0),.string i] j.drew λ i j=>∃ k l,i=.returned (.tuple #[iv k,.bool l])/\cond l (K (iv 7) j) (∃ i:Bool->World->Prop,(∀ k l,i l k->∀ m:Nat->Value,cond l (K (iv 4) k) (∃ l,l<e/\d (IntKind.i64.wrap (g+1)) k l))/\∃ d,j.cell? ⟨h,1,none⟩=some (iv d)/\Calls prog 117 #[iv d,iv 1,iv 4] j λ d e=>∃ g,d=.returned (.bool g)/\cond (!g) (i true e) (∃ d,e.cell? ⟨h,2,none⟩=some (iv d)/\Calls prog 117 #[iv d,iv 0,iv 1000000] e λ d e=>∃ g,d=.returned (.bool g)/\cond (!g) (i true e) (∃ d,e.cell? ⟨h,3,none⟩=some (iv d)/\Calls prog 117 #[iv d,iv 0,iv 1000] e λ d e=>∃ g,d=.returned (.bool g)/\cond (!g) (i true e) (∃ d,e.cell? ⟨h,4,none⟩=some (iv d)/\Calls prog 117 #[iv d,iv 0,iv 4] e λ d e=>∃ g,d=.returned (.bool g)/\i (!g) e)))))) (Calls prog 42 #[.slice a b c] f λ a b=>∃ (c:I6),a=.returned (.agg c.vs.toArray)/\Calls prog 118 #[.agg c.vs.toArray] b λ a b=>∃ c,a=.returned (iv c)/\cond (c==0) (K (iv 12) b) (K (iv 0) b))))
theorem nK{a1 l1 c1 w K}(h:oQ a1 l1 c1 w K):CP 79 #[.slice a1 l1 c1] w (K):=ai (aZ [(58,[(17,.s (.int .i64))]),(14951,[(57,.s .bool)])]) func79 (by kernel_rfl) (by kernel_rfl) h
def rz(a:OA)(b c:Nat)(d:ByteArray)(w:World)(K:KP):Prop:=∃ c:Int->World->Nat->Prop,(∃ e,c 0 w e)/\∀ f e g,c g f e->∀ h:Nat->Value,cond (decide (g<(b:Int))) (ah a λ a=>0<=g/\g<(b:Int)/\∃ b h i j,aa f (Addr.add a ((g).toNat*4)) 0 [.string b,iv h,iv i,iv j]/\aI f (.cells #[.string (bs []),iv 0,iv 0,iv 0] 92) λ a k=>fS ⟨a,0,none⟩ 0 [.string b,iv h,iv i,iv j] k λ b=>∃ h,b.cell? ⟨a,0,none⟩=some (.string h)/\cond (h.toList==d.toList) (K (.tuple #[iv g,.bool true]) b) (∃ a,a<e/\c (IntKind.i64.wrap (g+1)) b a)) (K (.tuple #[iv 0,.bool false]) f)
theorem pZ{a1 l1 c1 s1 w K}(h:rz a1 l1 c1 s1 w K):CP 119 #[.slice a1 l1 c1,.string s1] w (K):=ai (aZ [(26,[(10,.s (.int .i64))])]) func119 (by kernel_rfl) (by kernel_rfl) h
def oR(a:OA)(b c:Nat)(w:World)(K:KP):Prop:=cond ((b:Int)==(0:Int)) (K (iv 1) w) (cond (decide ((b:Int)>(8:Int))) (K (iv 3) w) (∃ d:Int->World->Nat->Prop,(∃ e,d 0 w e)/\∀ f e g,d g f e->∀ h:Nat->Value,cond (decide (g<(b:Int))) (ah a λ h=>0<=g/\g<(b:Int)/\∃ b i j k,aa f (Addr.add h ((g).toNat*4)) 0 [.string b,iv i,iv j,iv k]/\aI f (.cells #[.string (bs []),iv 0,iv 0,iv 0] 92) λ h l=>fS ⟨h,0,none⟩ 0 [.string b,iv i,iv j,iv k] l λ b=>∃ i,b.cell? ⟨h,0,none⟩=some (.string i)/\Calls prog 115 #[.string i] b λ b i=>∃ j,b=.returned (.bool j)/\cond (!j) (K (iv 5) i) (0<=g/\g<=(c:Int)/\∃ b,i.drew.cell? ⟨h,0,none⟩=some (.string b)/\Calls prog 119 #[.slice (if c=0 then a else Option.map (λ x=>Addr.add x (0*4)) a) ((g).toNat-0) (c-0),.string b] i.drew λ a b=>∃ c i,a=.returned (.tuple #[iv c,.bool i])/\cond i (K (iv 7) b) (∃ a:Bool->World->Prop,(∀ c i,a i c->∀ j:Nat->Value,cond i (K (iv 4) c) (∃ i,i<e/\d (IntKind.i64.wrap (g+1)) c i))/\∃ c,b.cell? ⟨h,1,none⟩=some (iv c)/\cond (decide (c<0)) (a true b) (∃ c,b.cell? ⟨h,1,none⟩=some (iv c)/\cond (decide (c>4)) (a true b) (∃ c,b.cell? ⟨h,2,none⟩=some (iv c)/\cond (decide (c<0)) (a true b) (∃ c,b.cell? ⟨h,2,none⟩=some (iv c)/\cond (decide (c>1000000)) (a true b) (∃ c,b.cell? ⟨h,3,none⟩=some (iv c)/\cond (decide (c<0)) (a true b) (∃ c,b.cell? ⟨h,3,none⟩=some (iv c)/\a (decide (c>24000)) b)))))))) (K (iv 0) f)))
theorem nL{a1 l1 c1 w K}(h:oR a1 l1 c1 w K):CP 80 #[.slice a1 l1 c1] w (K):=ai (aZ [(58,[(17,.s (.int .i64))]),(14951,[(63,.s .bool)])]) func80 (by kernel_rfl) (by kernel_rfl) h
def gA(a:OA)(b c:Nat)(d:OA)(e f:Nat)(g:OA)(h i:Nat)(j:OA)(k l:Nat)(w:World)(K:KP):Prop:=aI w (.cells #[.slice a b c,.slice d e f,.slice g h i,.slice j k l] 34) λ a b=>∃ c d e,b.cell? ⟨a,2,none⟩=some (.slice c d e)/\cond (decide ((d:Int)>(16:Int))) (K (iv 3) b) (∃ c d e,b.cell? ⟨a,2,none⟩=some (.slice c d e)/\∃ e:Int->World->Nat->Prop,(∃ f,e 0 b f)/\∀ b f g,e g b f->∀ h:Nat->Value,cond (decide (g<(d:Int))) (ah c λ c=>0<=g/\g<(d:Int)/\∃ d h i,aa b (Addr.add c ((g).toNat*3)) 0 [iv d,iv h,iv i]/\aI b (.cells #[iv 0,iv 0,iv 0] 95) λ c j=>fS ⟨c,0,none⟩ 0 [iv d,iv h,iv i] j λ d=>∃ h:Bool->World->Prop,(∀ i j,h j i->∀ k:Nat->Value,cond j (K (iv 6) i) (∃ j:Bool->World->Prop,(∀ k l,j l k->∀ m:Nat->Value,cond l (K (iv 4) k) (∃ l m n,k.cell? ⟨a,2,none⟩=some (.slice l m n)/\0<=g/\g<=(n:Int)/\∃ m:Int->World->Nat->Prop,(∃ o,m 0 k o)/\∀ k o p,m p k o->∀ q:Nat->Value,cond (decide (p<((((g).toNat-0):Nat):Int))) (ah (if n=0 then l else Option.map (λ x=>Addr.add x (0*3)) l) λ l=>0<=p/\p<((((g).toNat-0):Nat):Int)/\∃ n q r,aa k (Addr.add l ((p).toNat*3)) 0 [iv n,iv q,iv r]/\aI k (.cells #[iv 0,iv 0,iv 0] 95) λ l s=>fS ⟨l,0,none⟩ 0 [iv n,iv q,iv r] s λ n=>∃ q:Bool->World->Prop,(∀ r s,q s r->∀ t:Nat->Value,cond s (K (iv 7) r) (∃ s,s<o/\m (IntKind.i64.wrap (p+1)) r s))/\∃ m,n.cell? ⟨l,0,none⟩=some (iv m)/\∃ o,n.cell? ⟨c,0,none⟩=some (iv o)/\cond (m==o) (∃ m,n.cell? ⟨l,1,none⟩=some (iv m)/\∃ l,n.cell? ⟨c,1,none⟩=some (iv l)/\q (m==l) n) (q false n)) (∃ l,l<f/\e (IntKind.i64.wrap (g+1)) k l)))/\∃ e,i.cell? ⟨c,1,none⟩=some (iv e)/\cond (decide (e<0)) (j true i) (∃ e,i.cell? ⟨c,1,none⟩=some (iv e)/\cond (decide (e>4)) (j true i) (∃ e,i.cell? ⟨c,2,none⟩=some (iv e)/\cond (decide (e<0)) (j true i) (∃ e,i.cell? ⟨c,2,none⟩=some (iv e)/\j (decide (e>24)) i)))))/\∃ e,d.cell? ⟨c,0,none⟩=some (iv e)/\cond (decide (e<(-1:Int))) (h true d) (∃ e,d.cell? ⟨c,0,none⟩=some (iv e)/\∃ c f g,d.cell? ⟨a,1,none⟩=some (.slice c f g)/\h (decide (e>=(f:Int))) d)) (K (iv 0) b))
theorem iM{a1 l1 c1 a2 l2 c2 a3 l3 c3 a4 l4 c4 w K}(h:gA a1 l1 c1 a2 l2 c2 a3 l3 c3 a4 l4 c4 w K):CP 81 #[.agg #[.slice a1 l1 c1,.slice a2 l2 c2,.slice a3 l3 c3,.slice a4 l4 c4]] w (K):=ai (aZ [(58,[(14,.s (.int .i64))]),(7474,[(29,.s .bool)]),(14950,[(47,.s .bool)]),(59806,[(53,.s (.int .i64))]),(3827609,[(68,.s .bool)])]) func81 (by kernel_rfl) (by kernel_rfl) h
def fk(a:OA)(b c:Nat)(d:OA)(e f:Nat)(g:OA)(h i:Nat)(j:OA)(k l:Nat)(w:World)(K:KP):Prop:=aI w (.cells #[.slice a b c,.slice d e f,.slice g h i,.slice j k l] 34) λ a b=>∃ c d e,b.cell? ⟨a,3,none⟩=some (.slice c d e)/\cond (decide ((d:Int)>(6:Int))) (K (iv 3) b) (∃ c d e,b.cell? ⟨a,3,none⟩=some (.slice c d e)/\∃ e:Int->World->Nat->Prop,(∃ f,e 0 b f)/\∀ b f g,e g b f->∀ h:Nat->Value,cond (decide (g<(d:Int))) (ah c λ c=>0<=g/\g<(d:Int)/\∃ d h i,aa b (Addr.add c ((g).toNat*3)) 0 [iv d,iv h,iv i]/\aI b (.cells #[iv 0,iv 0,iv 0] 98) λ c j=>fS ⟨c,0,none⟩ 0 [iv d,iv h,iv i] j λ d=>∃ h:Bool->World->Prop,(∀ i j,h j i->∀ k:Nat->Value,cond j (K (iv 6) i) (∃ j:Bool->World->Prop,(∀ k l,j l k->∀ m:Nat->Value,cond l (K (iv 4) k) (∃ l m n,k.cell? ⟨a,3,none⟩=some (.slice l m n)/\0<=g/\g<=(n:Int)/\∃ m:Int->World->Nat->Prop,(∃ o,m 0 k o)/\∀ k o p,m p k o->∀ q:Nat->Value,cond (decide (p<((((g).toNat-0):Nat):Int))) (ah (if n=0 then l else Option.map (λ x=>Addr.add x (0*3)) l) λ l=>0<=p/\p<((((g).toNat-0):Nat):Int)/\∃ n q r,aa k (Addr.add l ((p).toNat*3)) 0 [iv n,iv q,iv r]/\aI k (.cells #[iv 0,iv 0,iv 0] 98) λ l s=>fS ⟨l,0,none⟩ 0 [iv n,iv q,iv r] s λ n=>∃ q,n.cell? ⟨l,0,none⟩=some (iv q)/\∃ l,n.cell? ⟨c,0,none⟩=some (iv l)/\cond (q==l) (K (iv 7) n) (∃ l,l<o/\m (IntKind.i64.wrap (p+1)) n l)) (∃ l,l<f/\e (IntKind.i64.wrap (g+1)) k l)))/\∃ e,i.drew.cell? ⟨c,1,none⟩=some (iv e)/\cond (decide (e<1)) (j true i.drew) (∃ e,i.drew.cell? ⟨c,1,none⟩=some (iv e)/\cond (decide (e>4)) (j true i.drew) (∃ e,i.drew.cell? ⟨c,2,none⟩=some (iv e)/\cond (decide (e<1)) (j true i.drew) (∃ e,i.drew.cell? ⟨c,2,none⟩=some (iv e)/\∃ f g k,i.drew.cell? ⟨a,0,none⟩=some (.slice f g k)/\∃ k,i.drew.cell? ⟨c,0,none⟩=some (iv k)/\ah f λ f=>0<=k/\k<(g:Int)/\∃ g,i.drew.cell? (Addr.add (Addr.add f ((k).toNat*5)) 1)=some (iv g)/\j (decide (e>g)) i.drew)))))/\∃ e,d.cell? ⟨c,0,none⟩=some (iv e)/\cond (decide (e<0)) (h true d) (∃ e,d.cell? ⟨c,0,none⟩=some (iv e)/\∃ c f g,d.cell? ⟨a,0,none⟩=some (.slice c f g)/\h (decide (e>=(f:Int))) d)) (K (iv 0) b))
theorem gq{a1 l1 c1 a2 l2 c2 a3 l3 c3 a4 l4 c4 w K}(h:fk a1 l1 c1 a2 l2 c2 a3 l3 c3 a4 l4 c4 w K):CP 82 #[.agg #[.slice a1 l1 c1,.slice a2 l2 c2,.slice a3 l3 c3,.slice a4 l4 c4]] w (K):=ai (aZ [(58,[(14,.s (.int .i64))]),(7474,[(29,.s .bool)]),(14950,[(54,.s .bool)]),(59806,[(60,.s (.int .i64))])]) func82 (by kernel_rfl) (by kernel_rfl) h
def oS(a:OA)(b c:Nat)(d:OA)(e f:Nat)(g:OA)(h i:Nat)(j:OA)(k l:Nat)(w:World)(K:KP):Prop:=aI w (.cells #[.slice a b c,.slice d e f,.slice g h i,.slice j k l] 34) λ a b=>∃ c d e,b.cell? ⟨a,0,none⟩=some (.slice c d e)/\Calls prog 79 #[.slice c d e] b λ b c=>∃ d,b=.returned (iv d)/\cond (d !=0) (K (iv d) c) (∃ b d e,c.cell? ⟨a,1,none⟩=some (.slice b d e)/\Calls prog 80 #[.slice b d e] c λ b c=>∃ d,b=.returned (iv d)/\cond (d !=0) (K (iv d) c) (∃ b d e f g h i j k l m n,aa c ⟨a,0,none⟩ 0 [.slice b d e,.slice f g h,.slice i j k,.slice l m n]/\Calls prog 81 #[.agg #[.slice b d e,.slice f g h,.slice i j k,.slice l m n]] c λ b c=>∃ d,b=.returned (iv d)/\cond (d !=0) (K (iv d) c) (∃ b d e f g h i j k l m n,aa c ⟨a,0,none⟩ 0 [.slice b d e,.slice f g h,.slice i j k,.slice l m n]/\Calls prog 82 #[.agg #[.slice b d e,.slice f g h,.slice i j k,.slice l m n]] c λ a b=>∃ c,a=.returned (iv c)/\K (iv c) b)))
theorem nM{a1 l1 c1 a2 l2 c2 a3 l3 c3 a4 l4 c4 w K}(h:oS a1 l1 c1 a2 l2 c2 a3 l3 c3 a4 l4 c4 w K):CP 53 #[.agg #[.slice a1 l1 c1,.slice a2 l2 c2,.slice a3 l3 c3,.slice a4 l4 c4]] w (K):=ai (aZ []) func53 (by kernel_rfl) (by kernel_rfl) h
end Go.Proofs.YtemiicbbbojdiaaGreatDoor

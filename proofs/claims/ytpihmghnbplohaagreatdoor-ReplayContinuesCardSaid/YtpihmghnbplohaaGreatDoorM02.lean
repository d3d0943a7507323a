import Derived.Shelf.Abstract
import Derived.ScopeJumps
import Derived.Test.YtpihmghnbplohaaGreatDoorProg
import Derived.Test.YtpihmghnbplohaaGreatDoorM01
set_option linter.unusedVariables false
set_option maxRecDepth 100000
namespace Go.Vc
def iK:Code->List Nat
  | .region _ ops _=>ops.toList.filterMap (·.dst)
  | .seq a b=>iK a++iK b
  | .cond _ a b=>iK a++iK b
  | .block _ c=>iK c
  | .loop c=>iK c
  | .scope c=>iK c
  | _=>[]
theorem iM:∀ {c:Code} {l:Nat} {rest:Code},findLabel c l=some rest->∀ x∈iK rest,x∈iK c
  | .seq a b,l,rest,h,x,hx=>by
    simp only[findLabel] at h
    split at h
    · rename_i r hr
      cases h
      simp only[iK,List.mem_append] at hx ⊢;exact hx.imp (iM hr x) id
    · exact List.mem_append_right _ (iM h x hx)
  | .label l',l,rest,h,x,hx=>by
    simp only[findLabel] at h
    split at h
    · cases h; exact hx
    · cases h
  | .skip,_,_,h,_,_=>by simp[findLabel] at h
  | .region ..,_,_,h,_,_=>by simp[findLabel] at h
  | .cond ..,_,_,h,_,_=>by simp[findLabel] at h
  | .block ..,_,_,h,_,_=>by simp[findLabel] at h
  | .loop ..,_,_,h,_,_=>by simp[findLabel] at h
  | .exit ..,_,_,h,_,_=>by simp[findLabel] at h
  | .ret,_,_,h,_,_=>by simp[findLabel] at h
  | .goto ..,_,_,h,_,_=>by simp[findLabel] at h
  | .scope ..,_,_,h,_,_=>by simp[findLabel] at h
  | .rangeFunc ..,_,_,h,_,_=>by simp[findLabel] at h
  | .refuse ..,_,_,h,_,_=>by simp[findLabel] at h
abbrev Live:=List (Nat×TK)
def Fg:List Nat->Nat->Bool
  | [],_=>false
  | x :: l,n=>cond (Nat.beq x n) true (Fg l n)
theorem Aq:∀ {l:List Nat} {n:Nat},Fg l n=true<->n∈l
  | [],n=>by simp[Fg]
  | x :: l,n=>by
    simp only[Fg,List.mem_cons]
    cases h:Nat.beq x n with
    | true=>simp[Nat.eq_of_beq_eq_true h]
    | false =>
      have:n≠x:=λ e=>by rw[e,Nat.beq_refl] at h; cases h
      simp[Aq,this]
def lk:List (Nat×Value)->Nat->Option Value
  | [],_=>none
  | (s,v) :: l,n=>cond (Nat.beq s n) (some v) (lk l n)
def Gf:Live->List Value->List (Nat×Value)
  | (s,_) :: l,v :: vs=>(s,v) :: Gf l vs
  | _,_=>[]
def nQ(mods:List Nat)(lv:List (Nat×Value))(d:Nat->Value):Nat->Tm->Tm
  | _,[]=>[]
  | i,x :: t=>(match lk lv i with | some v=>v | none=>cond (Fg mods i) (d i) x) :: nQ mods lv d (i+1) t
def SJ:SK->Type->Type
  | .int _,X=>Int->X
  | .bool,X=>Bool->X
  | .str,X=>ByteArray->X
  | .ptr,X=>Option Addr->X
  | .slice,X=>Option Addr->Nat->Nat->X
  | .map,X=>Option Nat->X
  | .blk,X=>Nat->X
  | .six,X=>I6->X
  | .raw,X=>Value->X
def LJ:List SK->Type->Type
  | [],X=>X
  | k :: ks,X=>SJ k (LJ ks X)
def VJ:Live->Type->Type
  | [],X=>X
  | (_,.s k) :: l,X=>SJ k (VJ l X)
  | (_,.agg ks) :: l,X=>LJ ks (VJ l X)
def RJ{X:Type}:(k:SK)->SJ k X->(Value->X->Prop)->Prop
  | .int k,J,F=>∀ n:Int,F (.int k n) (J n)
  | .bool,J,F=>∀ b:Bool,F (.bool b) (J b)
  | .str,J,F=>∀ s:ByteArray,F (.string s) (J s)
  | .ptr,J,F=>∀ p:Option Addr,F (.pointer p) (J p)
  | .slice,J,F=>∀ (a:OA) (l c:Nat),F (.slice a l c) (J a l c)
  | .map,J,F=>∀ r:Option Nat,F (.map r) (J r)
  | .blk,J,F=>∀ r:Nat,F (.pointer (some ⟨r,0,none⟩)) (J r)
  | .six,_,_=>True
  | .raw,J,F=>∀ v:Value,F v (J v)
def RI{X:Type}:(k:SK)->SJ k X->(List Value->X->Prop)->Prop
  | .int k,J,F=>∀ n:Int,F [.int k n] (J n)
  | .bool,J,F=>∀ b:Bool,F [.bool b] (J b)
  | .str,J,F=>∀ s:ByteArray,F [.string s] (J s)
  | .ptr,J,F=>∀ p:Option Addr,F [.pointer p] (J p)
  | .slice,J,F=>∀ (a:OA) (l c:Nat),F [.slice a l c] (J a l c)
  | .map,J,F=>∀ r:Option Nat,F [.map r] (J r)
  | .blk,J,F=>∀ r:Nat,F [.pointer (some ⟨r,0,none⟩)] (J r)
  | .six,J,F=>∀ u:I6,F u.vs (J u)
  | .raw,J,F=>∀ v:Value,F [v] (J v)
def Px{X:Type}:(ks:List SK)->LJ ks X->(List Value->X->Prop)->Prop
  | [],J,F=>F [] J
  | k :: ks,J,F=>RI k J λ xs J=>Px ks J λ vs J=>F (xs++vs) J
def HI{X:Type}:(l:Live)->VJ l X->(List Value->X->Prop)->Prop
  | [],J,F=>F [] J
  | (_,.s k) :: l,J,F=>RJ k J λ v J=>HI l J λ vs J=>F (v :: vs) J
  | (_,.agg ks) :: l,J,F=>Px ks J λ cs J=>HI l J λ vs J=>F (.agg cs.toArray :: vs) J
def zu{X:Type}:(k:SK)->SJ k X->Value->(X->Prop)->Prop
  | .int k,J,v,F=>match v with
    | .int k' n=>cond (Mn k k') (F (J n)) False
    | _=>False
  | .bool,J,v,F=>match v with
    | .bool b=>F (J b)
    | _=>False
  | .str,J,v,F=>match v with
    | .string s=>F (J s)
    | _=>False
  | .ptr,J,v,F=>match v with
    | .pointer p=>F (J p)
    | _=>False
  | .slice,J,v,F=>match v with
    | .slice a l c=>F (J a l c)
    | _=>False
  | .map,J,v,F=>match v with
    | .map r=>F (J r)
    | _=>False
  | .blk,J,v,F=>match v with
    | .pointer (some ⟨r,0,none⟩)=>F (J r)
    | _=>False
  | .six,_,_,_=>False
  | .raw,J,v,F=>F (J v)
def Mt{X:Type}:(k:SK)->SJ k X->List Value->(X->List Value->Prop)->Prop
  | .int k,J,vs,F=>match vs with
    | .int k' n :: r=>cond (Mn k k') (F (J n) r) False
    | _=>False
  | .bool,J,vs,F=>match vs with
    | .bool b :: r=>F (J b) r
    | _=>False
  | .str,J,vs,F=>match vs with
    | .string s :: r=>F (J s) r
    | _=>False
  | .ptr,J,vs,F=>match vs with
    | .pointer p :: r=>F (J p) r
    | _=>False
  | .slice,J,vs,F=>match vs with
    | .slice a l c :: r=>F (J a l c) r
    | _=>False
  | .map,J,vs,F=>match vs with
    | .map m :: r=>F (J m) r
    | _=>False
  | .blk,J,vs,F=>match vs with
    | .pointer (some ⟨b,0,none⟩) :: r=>F (J b) r
    | _=>False
  | .six,J,vs,F=>match vs with
    | .int .i64 a :: .int .i64 b :: .int .i64 c :: .int .i64 d :: .int .i64 e :: .int .i64 f :: r=>F (J ⟨a,b,c,d,e,f⟩) r
    | _=>False
  | .raw,J,vs,F=>match vs with
    | v :: r=>F (J v) r
    | _=>False
def Mu{X:Type}:(ks:List SK)->LJ ks X->List Value->(X->Prop)->Prop
  | [],J,[],F=>F J
  | k :: ks,J,vs,F=>Mt k J vs λ J r=>Mu ks J r F
  | [],_,_ :: _,_=>False
def CO{X:Type}:(l:Live)->VJ l X->Tm->(X->Prop)->Prop
  | [],J,_,F=>F J
  | (s,.s k) :: l,J,t,F=>zu k J (gt t s) λ J=>CO l J t F
  | (s,.agg ks) :: l,J,t,F=>match gt t s with
    | .agg cs=>Mu ks J cs.toList λ J=>CO l J t F
    | _=>False
theorem HL{X:Type}{k:SK}{J:SJ k X}{v:Value}{F:X->Prop}(h:zu k J v F):∃ j,F j/\∀ G,RJ k J G->G v j:=by
  cases k with
  | int k =>
    cases v<;>simp only[zu] at h
    obtain⟨hk,hR⟩:=jz h;have:=nO hk;subst this;exact⟨_,hR,λ G hG=>hG _⟩
  | bool=>cases v<;>simp only[zu] at h; exact⟨_,h,λ G hG=>hG _⟩
  | str=>cases v<;>simp only[zu] at h; exact⟨_,h,λ G hG=>hG _⟩
  | ptr=>cases v<;>simp only[zu] at h; exact⟨_,h,λ G hG=>hG _⟩
  | slice=>cases v<;>simp only[zu] at h; exact⟨_,h,λ G hG=>hG _ _ _⟩
  | map=>cases v<;>simp only[zu] at h; exact⟨_,h,λ G hG=>hG _⟩
  | blk =>
    simp only[zu] at h
    split at h
    · exact⟨_,h,λ G hG=>hG _⟩
    · exact h.elim
  | six=>exact h.elim
  | raw=>exact⟨_,h,λ G hG=>hG _⟩
theorem HK{X:Type}{k:SK}{J:SJ k X}{vs:List Value}{F:X->List Value->Prop}(h:Mt k J vs F):∃ j xs r,vs=xs++r/\F j r/\∀ G,RI k J G->G xs j:=by
  cases k<;>simp only[Mt] at h<;>split at h<;>first | exact h.elim | skip
  · obtain⟨hk,hR⟩:=jz h;have:=nO hk;subst this;exact⟨_,[_],_,rfl,hR,λ G hG=>hG _⟩
  · exact⟨_,[_],_,rfl,h,λ G hG=>hG _⟩
  · exact⟨_,[_],_,rfl,h,λ G hG=>hG _⟩
  · exact⟨_,[_],_,rfl,h,λ G hG=>hG _⟩
  · exact⟨_,[_],_,rfl,h,λ G hG=>hG _ _ _⟩
  · exact⟨_,[_],_,rfl,h,λ G hG=>hG _⟩
  · exact⟨_,[_],_,rfl,h,λ G hG=>hG _⟩
  · exact⟨_,[_,_,_,_,_,_],_,rfl,h,λ G hG=>hG ⟨_,_,_,_,_,_⟩⟩
  · exact⟨_,[_],_,rfl,h,λ G hG=>hG _⟩
theorem zU{X:Type}:∀ {ks:List SK} {J:LJ ks X} {vs:List Value} {F:X->Prop},Mu ks J vs F->∃ j,F j/\∀ G,Px ks J G->G vs j
  | [],J,[],F,h=>⟨J,h,λ G hG=>hG⟩
  | k :: ks,J,vs,F,h=>by
    obtain⟨j,xs,r,rfl,h1,h2⟩:=HK (show Mt k J vs λ J r=>Mu ks J r F from by cases vs<;>exact h);obtain⟨j',h3,h4⟩:=zU h1;exact⟨j',h3,λ G hG=>h4 (λ vs J=>G (xs++vs) J) (h2 _ hG)⟩
  | [],_,_ :: _,_,h=>h.elim
def q7(l:Live)(t:Tm):List Value:=l.map λ s=>gt t s.1
theorem j9{X:Type}{t:Tm}:∀ {l:Live} {J:VJ l X} {F:X->Prop},CO l J t F->∃ j,F j/\∀ G,HI l J G->G (q7 l t) j
  | [],J,F,h=>⟨J,h,λ G hG=>hG⟩
  | (s,.s k) :: l,J,F,h=>by
    obtain⟨j,h1,h2⟩:=HL (show zu k J (gt t s) λ J=>CO l J t F from h);obtain⟨j',h3,h4⟩:=j9 h1;exact⟨j',h3,λ G hG=>h4 (λ vs J=>G (gt t s :: vs) J) (h2 _ hG)⟩
  | (s,.agg ks) :: l,J,F,h=>by
    unfold CO at h
    split at h
    · rename_i cs hcs;obtain⟨j,h1,h2⟩:=zU h;obtain⟨j',h3,h4⟩:=j9 h1;refine⟨j',h3,λ G hG=>?_⟩;have:=h4 (λ vs J=>G (.agg cs :: vs) J) (by simpa using h2 _ hG);simpa[q7,hcs] using this
    · exact h.elim
theorem GQ{t:Tm}{n:Nat}{v:Value}:∀ {l:Live},lk (Gf l (q7 l t)) n=some v->v=gt t n
  | [],h=>by cases h
  | (s,k) :: l,h=>by
    simp only[q7,List.map_cons,Gf,lk] at h
    cases hb:Nat.beq s n with
    | true=>rw[hb] at h; cases h; rw[Nat.eq_of_beq_eq_true hb]
    | false=>rw[hb] at h; exact GQ h
theorem GH{mods:List Nat}{lv:List (Nat×Value)}{d:Nat->Value}:∀ (t:Tm) (i j:Nat),j<t.length ->
    gt (nQ mods lv d i t) j=match lk lv (i+j) with | some v=>v | none=>cond (Fg mods (i+j)) (d (i+j)) (gt t j)
  | [],_,j,h=>by simp at h
  | x :: t,i,0,_=>by simp[nQ,gt]
  | x :: t,i,j+1,h=>by
    have:=GH (mods:=mods) (lv:=lv) (d:=d) t (i+1) j (by simpa using h);rw[show i+1+j=i+(j+1) by omega] at this;exact this
theorem nZ{mods:List Nat}{lv:List (Nat×Value)}{d:Nat->Value}:∀ (t:Tm) (i:Nat),(nQ mods lv d i t).length=t.length
  | [],_=>rfl
  | x :: t,i=>by simp[nQ,nZ t (i+1)]
theorem fill_eq{mods:List Nat}{l:Live}{t t' : Tm}(h:Bc mods t t'):nQ mods (Gf l (q7 l t')) (gt t') 0 t=t':=by
  refine Kn _ _ ((nZ t 0).trans h.1.symm) λ i hi=>?_;rw[nZ] at hi;rw[GH t 0 i hi,Nat.zero_add]
  cases hl:lk (Gf l (q7 l t')) i with
  | some v=>exact GQ hl
  | none =>
    cases hm:Fg mods i with
    | true=>rfl
    | false =>
      have:i∉mods:=λ h=>by rw[Aq.2 h] at hm; cases hm
      exact(h.2 i this).symm
abbrev Df:=List Deferred
def Hx(F:Tm->Df->World->Prop)(Q:Exit->Tm->Df->World->Prop):Exit->Tm->Df->World->Prop
  | .normal,t,d,w=>F t d w
  | e,t,d,w=>Q e t d w
def RN(id:Nat)(Q:Exit->Tm->Df->World->Prop):Exit->Tm->Df->World->Prop
  | .exit i,t,d,w=>cond (Nat.beq i id) (Q .normal t d w) (Q (.exit i) t d w)
  | e,t,d,w=>Q e t d w
def calm:Code->Bool
  | .seq a b=>calm a&&calm b
  | .cond _ a b=>calm a&&calm b
  | .block _ a=>calm a
  | .loop a=>calm a
  | .rangeFunc _ _ _ _=>false
  | .region _ ops _=>oe ops.toList
  | .scope _=>false
  | _=>true
def exs:Code->List Nat
  | .exit i=>[i]
  | .seq a b=>exs a++exs b
  | .cond _ a b=>exs a++exs b
  | .block id c=>(exs c).filter λ i=>!(Nat.beq i id)
  | .loop c=>exs c
  | .rangeFunc _ _ a b=>exs a++exs b
  | _=>[]
def Cj:Code->Bool
  | .ret=>true
  | .seq a b=>Cj a||Cj b
  | .cond _ a b=>Cj a||Cj b
  | .block _ c=>Cj c
  | .loop c=>Cj c
  | .rangeFunc _ _ a b=>Cj a||Cj b
  | _=>false
def SP:List (Nat×(World->Prop))->Nat->World->Prop
  | [],_,_=>False
  | x :: l,i,w=>cond (Nat.beq i x.1) (x.2 w) (SP l i w)
theorem DF{F:Nat->World->Prop}{i:Nat}{w:World}:∀ {l:List Nat},SP (l.map λ id=>(id,F id)) i w->F i w
  | [],h=>h.elim
  | j :: l,h=>by
    simp only[List.map_cons,SP] at h
    cases hb:Nat.beq i j with
    | true=>rw[hb] at h; rw[Nat.eq_of_beq_eq_true hb]; exact h
    | false=>rw[hb] at h; exact DF h
def qR(P:Program)(gf:FuncId)(lb:List Value)(rec:FuncId->Nat->Loop)(w:World)(N R:World->Prop)(X:List (Nat×(World->Prop))):Prop :=
  ∀ fn:FuncId,Calls P gf (Value.func (.yield (w.heap.size+1)) #[] #[] :: lb).toArray ((w.alloc (.deferred (some []))).alloc (.loop (rec fn w.heap.size))) λ e w2=>(∃ v,e=.returned v) /\
    ∃ r,w2.heap[w.heap.size+1]? = some (.loop r)/\r.state≠.busy/\match r.pending with
      | none=>N (w2.putObj (w.heap.size+1) (.loop { r with state:=.exhausted }))
      | some .ret=>R (w2.putObj (w.heap.size+1) (.loop { r with state:=.exhausted }))
      | some (.exit i)=>SP X i (w2.putObj (w.heap.size+1) (.loop { r with state:=.exhausted }))
      | _=>False
def qS(P:Program)(v:Value)(F:FuncId->List Value->Prop):Prop:=match v with
  | .func (.func gf) first lb=>cond (first.isEmpty&&dw P gf) (F gf lb.toList) False
  | _=>False
def SO(c:Code)(sc:Code->Code->Nat->(Exit->Tm->Df->World->Prop)->Tm->Df->World->Prop)(p:Nat)(Q:Exit->Tm->Df->World->Prop):Exit->Tm->Df->World->Prop
  | .goto l,t,d,w=>match findLabel c l with
    | some rest=>sc c rest p Q t d w
    | none=>False
  | e,t,d,w=>Q e t d w
def CF(P:Program)(ann:Nat->Option Live)(sc:Code->Code->Nat->(Exit->Tm->Df->World->Prop)->Tm->Df->World->Prop):Code->Nat->(Exit->Tm->Df->World->Prop)->Tm->Df->World->Prop
  | .skip,_,Q,t,d,w=>Q .normal t d w
  | .label _,_,Q,t,d,w=>Q .normal t d w
  | .region _ ops draw,_,Q,t,d,w=>cond (oe ops.toList) (match draw with
    | false=>HA P ops ops.toList t w (λ t w=>Q .normal t d w)
    | true=>cond (P.follows .mixedOrders&&Region.noSelect ops) (l9 P ops ops.size (Array.replicate ops.size false) [] t w.drew (λ t w=>Q .normal t d w)) False)
    (cond draw False (zg P ops ops.toList t d w λ t d w=>Q .normal t d w))
  | .seq a b,p,Q,t,d,w=>match ann p with
    | none=>CF P ann sc a (2*p) (Hx (CF P ann sc b (2*p+1) Q) Q) t d w
    | some lv=>cond (calm a) (∃ J:VJ lv (World->Prop),(∀ w',HI lv J λ vs j=>j w'->∀ x:Nat->Value,CF P ann sc b (2*p+1) Q (nQ (iK a) (Gf lv vs) x 0 t) d w') /\
        CF P ann sc a (2*p) (Hx (λ t' _ w'=>CO lv J t' λ j=>j w') Q) t d w) False
  | .cond c a b,p,Q,t,d,w=>match ev t c with
    | .bool x=>cond x (CF P ann sc a (2*p) Q t d w) (CF P ann sc b (2*p+1) Q t d w)
    | _=>False
  | .block id c,p,Q,t,d,w=>CF P ann sc c (2*p) (RN id Q) t d w
  | .loop c,p,Q,t,d,w=>match ann p with
    | none=>CF P ann sc c (2*p) (Hx (λ _ _ _=>False) Q) t d w
    | some lv=>cond (calm c) (∃ I:VJ lv (World->Nat->Prop),(CO lv I t λ i=>∃ m,i w m) /\
        ∀ w' m,HI lv I λ vs i=>i w' m->∀ x:Nat->Value,
          CF P ann sc c (2*p) (Hx (λ t' _ w''=>CO lv I t' λ i'=>∃ m',m' < m/\i' w'' m') Q) (nQ (iK c) (Gf lv vs) x 0 t) d w') False
  | .exit id,_,Q,t,d,w=>Q (.exit id) t d w
  | .ret,_,Q,t,d,w=>Q .ret t d w
  | .rangeFunc g ps assign body,_,Q,t,d,w=>qS P (ev t g) λ gf lb =>
      qR P gf lb (λ fn D=>{ state:=.ready,pending:=none,fn:=fn,tmps:=t.toArray,params:=ps,assign:=assign,body:=body,defers:=D }) w (λ w'=>Q .normal t ({ target:=.collected w.heap.size,args:=#[] } :: d) w') (λ w'=>cond (Cj body) (Q .ret t ({ target:=.collected w.heap.size,args:=#[] } :: d) w') False) ((exs body).map λ i=>(i,λ w'=>Q (.exit i) t ({ target:=.collected w.heap.size,args:=#[] } :: d) w'))
  | .scope c,p,Q,t,d,w=>CF P ann sc c (2*p) (SO c sc p Q) t d w
  | .goto l,_,Q,t,d,w=>Q (.goto l) t d w
  | _,_,_,_,_,_=>False
def SX(P:Program)(ann:Nat->Option Live):Nat->Code->Code->Nat->(Exit->Tm->Df->World->Prop)->Tm->Df->World->Prop
  | 0=>λ _ _ _ _ _ _ _=>False
  | n+1=>λ c rest p Q t d w=>CF P ann (SX P ann n) rest (2*p+1) (SO c (SX P ann n) p Q) t d w
def vc(P:Program)(ann:Nat->Option Live):Code->Nat->(Exit->Tm->Df->World->Prop)->Tm->Df->World->Prop:=CF P ann (SX P ann 2)
def lift(t0:Tm)(d0:Df)(c:Code)(Q:Exit->Tm->Df->World->Prop):Exit->Act->World->Prop:=λ e a w =>
  (∀ c,e≠.panic c)/\∃ t' d',a=lg t' d'/\Bc (iK c) t0 t'/\(calm c=true->d' = d0)/\Q e t' d' w
theorem TB{P:Program}{c:Code}{Q:Exit->Act->World->Prop}{a:Act}{w:World}:c.wpIn (FW none) 0 P Q a w<->c.wp P Q a w:=wpIn_wide
theorem CE{P:Program}{c:Code}{Q:Exit->Act->World->Prop}{a:Act}{w:World}(h:∀ (b:Frame) (k:List Item) (cs:List Frame),∃ e a' w',Q e a' w'/\Arrives P (lone (b.at a (.code c :: .inScope c :: k)) cs w) b k cs e a' w'):(Code.scope c).wp P Q a w:=λ b k cs=>by
  obtain⟨e,a',w',hq,harr⟩:=h b k cs;exact⟨e,a',w',hq,.of_steps (.one step_scope) harr⟩
def lq(P:Program)(c cur:Code)(Q:Exit->Act->World->Prop)(a:Act)(w:World):Prop :=
  ∀ (b:Frame) (k:List Item) (cs:List Frame),∃ e a' w',Q e a' w'/\Arrives P (lone (b.at a (.code cur :: .inScope c :: k)) cs w) b k cs e a' w'
theorem lq.mono{P:Program}{c cur:Code}{Q Q' : Exit->Act->World->Prop}{a:Act}{w:World}(h:lq P c cur Q a w)(k:∀ e a w,Q e a w->Q' e a w):lq P c cur Q' a w:=λ b l cs =>
  let ⟨e,a',w',hq,harr⟩:=h b l cs
  ⟨e,a',w',k _ _ _ hq,harr⟩
theorem FL{P:Program}{c cur:Code}{Q:Exit->Act->World->Prop}{a:Act}{w:World}(h:cur.wp P (λ e a' w'=>(∀ l,e=.goto l->∃ rest,findLabel c l=some rest/\lq P c rest Q a' w')/\((∀ l,e≠.goto l)->Q e a' w')) a w):lq P c cur Q a w:=by
  intro b k cs;obtain⟨e,a₁,w₁,hq,harr⟩:=h b (.inScope c :: k) cs
  cases e with
  | normal=>exact⟨.normal,a₁,w₁,hq.2 (by simp),Steps.trans harr (.one step_inScope)⟩
  | exit id=>exact⟨.exit id,a₁,w₁,hq.2 (by simp),λ k' hk=>harr k' (by simp[exitTo,hk])⟩
  | goto l =>
    obtain⟨rest,hf,hs⟩:=hq.1 l rfl;have hg:gotoIn l (.inScope c :: k)=some (.code rest :: .inScope c :: k):=by simp[gotoIn,hf]
    obtain⟨e₂,a₂,w₂,hq₂,harr₂⟩:=hs b k cs;exact⟨e₂,a₂,w₂,hq₂,.of_steps (harr _ hg) harr₂⟩
  | ret=>exact⟨_,a₁,w₁,hq.2 (by simp),harr⟩
  | panic ch=>exact⟨_,a₁,w₁,hq.2 (by simp),harr⟩
  | outgrown=>exact⟨_,a₁,w₁,hq.2 (by simp),harr⟩
def OV(t0:Tm)(c:Code)(Q:Exit->Tm->Df->World->Prop):Exit->Act->World->Prop:=λ e a w =>
  (∀ c,e≠.panic c)/\∃ t' d',a=lg t' d'/\Bc (iK c) t0 t'/\Q e t' d' w
def S0(P:Program)(sc:Code->Code->Nat->(Exit->Tm->Df->World->Prop)->Tm->Df->World->Prop):Prop :=
  ∀ (c rest:Code) (p:Nat) (Q:Exit->Tm->Df->World->Prop) (t:Tm) (d:Df) (w:World),(∀ x∈iK rest,x∈iK c)->sc c rest p Q t d w->lq P c rest (OV t c Q) (lg t d) w
theorem yN{P:Program}{sc:Code->Code->Nat->(Exit->Tm->Df->World->Prop)->Tm->Df->World->Prop}(hsc:S0 P sc){c cur:Code}{p:Nat}{Q:Exit->Tm->Df->World->Prop}{t:Tm}{d:Df}{w:World}(hd:∀ x∈iK cur,x∈iK c)(h:cur.wpIn (FW none) 0 P (lift t d cur (SO c sc p Q)) (lg t d) w):lq P c cur (OV t c Q) (lg t d) w:=by
  refine FL (TB.1 (wpIn_mono h λ e a' w' hq=>?_));obtain⟨hp,t',d',rfl,ha,_,hq⟩:=hq;have ha':=iB hd ha;refine⟨λ l he=>?_,λ hn=>?_⟩
  · subst he;simp only[SO] at hq
    split at hq
    · rename_i rest hr;refine⟨rest,hr,(hsc c rest p Q t' d' w' (iM hr) hq).mono λ e a w hq=>?_⟩;obtain⟨hp,t'',d'',rfl,hb,hq⟩:=hq;exact⟨hp,t'',d'',rfl,iB (λ x hx=>(List.mem_append.1 hx).elim id id) (oX ha' hb),hq⟩
    · exact hq.elim
  · cases e with
    | goto l=>exact absurd rfl (hn l)
    | panic c=>exact absurd rfl (hp c)
    | _=>exact⟨hp,t',d',rfl,ha',hq⟩
theorem gN{P:Program}{ann:Nat->Option Live}{sc:Code->Code->Nat->(Exit->Tm->Df->World->Prop)->Tm->Df->World->Prop}(hsc:S0 P sc){ro:Option Nat}:∀ (c:Code) (p:Nat) (Q:Exit->Tm->Df->World->Prop) (t:Tm) (d:Df) (w:World),(ro=none\/calm c=true) ->
    CF P ann sc c p Q t d w->c.wpIn (FW ro) 0 P (lift t d c Q) (lg t d) w
  | .skip,_,Q,t,d,w,_,h=>wpIn_skip ⟨by simp,t,d,rfl,cI _ _,λ _=>rfl,h⟩
  | .label _,_,Q,t,d,w,_,h=>wpIn_label ⟨by simp,t,d,rfl,cI _ _,λ _=>rfl,h⟩
  | .exit id,_,Q,t,d,w,_,h=>wpIn_exit ⟨by simp,t,d,rfl,cI _ _,λ _=>rfl,h⟩
  | .ret,_,Q,t,d,w,_,h=>wpIn_ret ⟨by simp,t,d,rfl,cI _ _,λ _=>rfl,h⟩
  | .region id ops draw,_,Q,t,d,w,_,h=>by
    have hds:∀ (i:Nat) (o:Oper),ops[i]? = some o->∀ d,o.dst=some d->d∈ops.toList.filterMap (·.dst):=λ i o ho d hd =>
      List.mem_filterMap.2 ⟨o,by simpa using Array.mem_of_getElem? ho,hd⟩
    simp only[CF] at h
    cases hn:oe ops.toList with
    | false =>
      rw[hn] at h
      cases draw with
      | true=>exact h.elim
      | false =>
        obtain rfl:ro=none:=by
          rcases ‹ro=none\/_› with h | h
          · exact h
          · simp only[calm,hn] at h; cases h
        refine wpIn_region_list (pH (ds:=iK (.region id ops false)) (t0:=t) ops.toList t d w _ (λ t' d' w' ha hk=>⟨by simp,t',d',rfl,ha,λ hc=>?_,hk⟩) (λ o ho d hd=>List.mem_filterMap.2 ⟨o,ho,hd⟩) (cI _ _) h);simp only[calm,hn] at hc; cases hc
    | true =>
    rw[hn,cond_true] at h
    cases draw with
    | false =>
      refine wpIn_region_list (zh (d:=d) (ds:=iK (.region id ops false)) (t0:=t) ops.toList t w _ hn (λ t' w' ha hk=>⟨by simp,t',d,rfl,ha,λ _=>rfl,hk⟩) (λ o ho d hd=>List.mem_filterMap.2 ⟨o,ho,hd⟩) (cI _ _) h)
    | true =>
      obtain⟨h1,h2⟩:=jz h;simp only[Bool.and_eq_true] at h1;have hnd:∀ (j:Nat) (o:Oper),ops[j]? = some o->fN o.op=true:=λ j o ho=>by
        have:=List.all_eq_true.1 hn o (by simpa using Array.mem_of_getElem? ho);exact this
      refine wpIn_region_any h1.1 (zj _ _ [] _ _ ?_);refine oW (dd:=d) (ds:=iK (.region id ops true)) (t0:=t) (K:=λ t w=>Q .normal t d w) hnd h1.2 (λ c a w h=>h.1 c rfl) (λ t' w' ha hk=>⟨by simp,t',d,rfl,ha,λ _=>rfl,hk⟩) hds _ _ [] t _ (cI _ _) ?_ (λ p hp=>by cases hp) h2;intro j o _ hj;rcases Nat.lt_or_ge j ops.size with h | h<;>simp[h] at hj
  | .seq a b,p,Q,t,d,w,hc,h=>by
    have hca:ro=none\/calm a=true:=hc.imp id λ h=>by simp only[calm,Bool.and_eq_true] at h; exact h.1
    have hcb:ro=none\/calm b=true:=hc.imp id λ h=>by simp only[calm,Bool.and_eq_true] at h; exact h.2
    refine wpIn_seq ?_;simp only[CF] at h
    split at h
    · refine wpIn_mono (gN hsc a _ _ t d w hca h) (λ e a' w' hq=>?_);obtain⟨hp,t',d',rfl,ha,hd,hq⟩:=hq
      cases e with
      | normal =>
        refine wpIn_mono (gN hsc b _ _ t' d' w' hcb hq) (λ e a'' w'' hq'=>?_);obtain⟨hp',t'',d'',rfl,ha',hd',hq'⟩:=hq';refine⟨hp',t'',d'',rfl,oX ha ha',λ hk=>?_,hq'⟩;simp only[calm,Bool.and_eq_true] at hk;rw[hd' hk.2,hd hk.1]
      | panic c=>exact absurd rfl (hp c)
      | _=>exact⟨hp,t',d',rfl,iB (λ d hd=>List.mem_append_left _ hd) ha,λ hk=>hd (by simp only[calm,Bool.and_eq_true] at hk; exact hk.1),hq⟩
    · obtain⟨hk0,J,hb,h⟩:=jz h;refine wpIn_mono (gN hsc a _ _ t d w hca h) (λ e a' w' hq=>?_);obtain⟨hp,t',d',rfl,ha,hd,hq⟩:=hq;obtain rfl:=hd hk0
      cases e with
      | normal =>
        obtain⟨j,h1,h2⟩:=j9 hq;have h3:=h2 _ (hb w') h1 (gt t');rw[fill_eq ha] at h3;refine wpIn_mono (gN hsc b _ _ t' d' w' hcb h3) (λ e a'' w'' hq'=>?_);obtain⟨hp',t'',d'',rfl,ha',hd',hq'⟩:=hq';refine⟨hp',t'',d'',rfl,oX ha ha',λ hk=>?_,hq'⟩;simp only[calm,Bool.and_eq_true] at hk;exact hd' hk.2
      | panic c=>exact absurd rfl (hp c)
      | _=>exact⟨hp,t',d',rfl,iB (λ d hd=>List.mem_append_left _ hd) ha,λ _=>rfl,hq⟩
  | .cond c a b,p,Q,t,d,w,hc,h=>by
    simp only[CF] at h
    split at h
    · rename_i x hx;refine wpIn_cond (t:=x) (by rw[kJ]; exact hx) ?_
      cases x with
      | true =>
        refine wpIn_mono (gN hsc a _ _ t d w (hc.imp id λ h=>by simp only[calm,Bool.and_eq_true] at h; exact h.1) h) (λ e a' w' hq=>?_);obtain⟨hp,t',d',rfl,ha,hd,hq⟩:=hq;exact⟨hp,t',d',rfl,iB (λ d hd=>List.mem_append_left _ hd) ha,λ hk=>hd (by simp only[calm,Bool.and_eq_true] at hk; exact hk.1),hq⟩
      | false =>
        refine wpIn_mono (gN hsc b _ _ t d w (hc.imp id λ h=>by simp only[calm,Bool.and_eq_true] at h; exact h.2) h) (λ e a' w' hq=>?_);obtain⟨hp,t',d',rfl,ha,hd,hq⟩:=hq;exact⟨hp,t',d',rfl,iB (λ d hd=>List.mem_append_right _ hd) ha,λ hk=>hd (by simp only[calm,Bool.and_eq_true] at hk; exact hk.2),hq⟩
    · exact h.elim
  | .block id c,p,Q,t,d,w,hc,h=>by
    refine wpIn_block (wpIn_mono (gN hsc c _ _ t d w hc h) (λ e a' w' hq=>?_));obtain⟨hp,t',d',rfl,ha,hd,hq⟩:=hq
    cases e with
    | exit i =>
      simp only[Exit.inBlock];simp only[RN] at hq
      cases hb:Nat.beq i id with
      | true=>rw[hb] at hq; rw[if_pos (Nat.eq_of_beq_eq_true hb)]; exact⟨by simp,t',d',rfl,ha,hd,hq⟩
      | false =>
        rw[hb] at hq;rw[if_neg (λ e=>by rw[e,Nat.beq_refl] at hb; cases hb)];exact⟨by simp,t',d',rfl,ha,hd,hq⟩
    | _=>exact⟨hp,t',d',rfl,ha,hd,hq⟩
  | .loop c,p,Q,t,d,w,hc,h=>by
    simp only[CF] at h
    split at h
    · refine wpIn_loop_once (wpIn_mono (gN hsc c _ _ t d w hc h) (λ e a'' w'' hq'=>?_));obtain⟨hp',t'',d'',rfl,ha',hd',hq'⟩:=hq'
      cases e with
      | normal=>exact hq'.elim
      | panic c=>exact absurd rfl (hp' c)
      | _=>exact⟨hp',t'',d'',rfl,ha',hd',hq'⟩
    · rename_i lv hlv;obtain⟨hk0,I,h0,hr⟩:=jz h;obtain⟨i0,⟨m,h1⟩,h2⟩:=j9 h0;refine wpIn_loop_ghost (λ n a w=>∃ t' i,a=lg t' d/\Bc (iK c) t t'/\i w n/\∀ G,HI lv I G->G (q7 lv t') i) m ⟨t,i0,rfl,cI _ _,h1,h2⟩ ?_;rintro n a w' ⟨t',i1,rfl,ha,hI,hG⟩;have h3:=hG _ (hr w' n) hI (gt t');rw[fill_eq ha] at h3;refine wpIn_mono (gN hsc c _ _ t' d w' hc h3) (λ e a'' w'' hq'=>?_);obtain⟨hp',t'',d'',rfl,ha',hd',hq'⟩:=hq';obtain rfl:=hd' hk0;have hag:Bc (iK c) t t'':=iB (λ d hd=>(List.mem_append.1 hd).elim id id) (oX ha ha')
      cases e with
      | normal =>
        obtain⟨i2,⟨m',hm,h4⟩,h5⟩:=j9 hq';exact⟨m',hm,t'',i2,rfl,hag,h4,h5⟩
      | panic c=>exact absurd rfl (hp' c)
      | _=>exact⟨hp',t'',d'',rfl,hag,λ _=>rfl,hq'⟩
  | .rangeFunc g ps assign body,p,Q,t,d,w,hc,h=>by
    simp only[CF,qS] at h
    split at h
    · rename_i gf first lb hg
      obtain⟨he,hh⟩:=jz h;clear h;simp only[Bool.and_eq_true,Array.isEmpty_iff] at he;obtain⟨rfl,he⟩:=he;obtain rfl:ro=none:=hc.resolve_right (by simp[calm]);refine wpIn_rangeFunc λ fn _=>?_;refine⟨w.heap.size+1,[{ target:=.collected w.heap.size,args:=#[] }],((w.alloc (.deferred (some []))).alloc (.loop { state:=.ready,pending:=none,fn:=fn,tmps:=t.toArray,params:=ps,assign:=assign,body:=body,defers:=w.heap.size })),
        { target:=.fn (.func gf) lb,args:=#[.func (.yield (w.heap.size+1)) #[] #[]] },((w.alloc (.deferred (some []))).alloc (.loop { state:=.ready,pending:=none,fn:=fn,tmps:=t.toArray,params:=ps,assign:=assign,body:=body,defers:=w.heap.size })),gf,
        #[.func (.yield (w.heap.size+1)) #[] #[]]++lb,((w.alloc (.deferred (some []))).alloc (.loop { state:=.ready,pending:=none,fn:=fn,tmps:=t.toArray,params:=ps,assign:=assign,body:=body,defers:=w.heap.size })),run_enterLoop_outer _ _ _ _ _,?_,λ _ _=>trivial,?_,λ h=>(by cases h),?_⟩
      · simp only[resolve,kJ,hg];simp[go_sem,ev,Deferred.ofValue]
      · simp[invoke,go_sem,qK he]
      · have h1:=hh fn;have h2:(Value.func (.yield (w.heap.size+1)) #[] #[] :: lb.toList).toArray = #[.func (.yield (w.heap.size+1)) #[] #[]]++lb:=by simp
        rw[h2] at h1;refine CallsIn.mono (callsIn_wide.2 h1) λ e w2 hq=>?_;obtain⟨⟨v,rfl⟩,r,hr,hb,hq⟩:=hq;refine⟨r.pending,_,run_endLoop hr hb,?_⟩
        split at hq
        · rename_i hp;rw[hp] at hq ⊢;exact⟨by simp,t,_,rfl,cI _ _,λ h=>(by cases h),hq⟩
        · rename_i hp;rw[hp] at hq ⊢;exact wpIn_ret ⟨by simp,t,_,rfl,cI _ _,λ h=>(by cases h),(jz hq).2⟩
        · rename_i i hp;rw[hp] at hq ⊢;exact wpIn_exit ⟨by simp,t,_,rfl,cI _ _,λ h=>(by cases h),DF (F:=λ i w'=>Q (.exit i) t ({ target:=.collected w.heap.size,args:=#[] } :: d) w') hq⟩
        · exact hq.elim
    · exact h.elim
  | .scope c,p,Q,t,d,w,hc,h=>by
    obtain rfl:ro=none:=hc.resolve_right (by simp[calm]);refine TB.2 (CE ?_);have h1:=yN (cur:=c) hsc (λ _ h=>h) (gN hsc c (2*p) _ t d w (.inl rfl) h);exact h1.mono λ e a w ⟨hp,t',d',h2,h3,h4⟩=>⟨hp,t',d',h2,h3,λ hk=>(by simp[calm] at hk),h4⟩
  | .goto l,_,Q,t,d,w,_,h=>wpIn_goto ⟨by simp,t,d,rfl,cI _ _,λ _=>rfl,h⟩
  | .refuse _,_,_,_,_,_,_,h=>h.elim
theorem F7{P:Program}{ann:Nat->Option Live}:∀ n,S0 P (SX P ann n)
  | 0=>λ _ _ _ _ _ _ _ _ h=>h.elim
  | n+1=>λ _ rest _ _ t d w hd h=>yN (F7 n) hd (gN (F7 n) rest _ _ t d w (.inl rfl) h)
theorem HB{P:Program}{ann:Nat->Option Live}{ro:Option Nat}(c:Code)(p:Nat)(Q:Exit->Tm->Df->World->Prop)(t:Tm)(d:Df)(w:World)(hc:ro=none\/calm c=true)(h:vc P ann c p Q t d w):c.wpIn (FW ro) 0 P (lift t d c Q) (lg t d) w:=gN (F7 2) c p Q t d w hc h
def Cg(P:Program):List ResultVar->Tm->World->(List Value->Prop)->Prop
  | [],_,_,F=>F []
  | .tmp s :: rs,t,w,F=>Cg P rs t w λ vs=>F (gt t s :: vs)
  | .cell a ty :: rs,t,w,F=>RX P ty (gt t a) w λ v _=>Cg P rs t w λ vs=>F (v :: vs)
def L4:List Value->Value
  | [v]=>v
  | vs=>.tuple vs.toArray
def EI(P:Program)(g:FuncId)(args:Array Value)(w:World)(R:World->Prop):Prop :=
  dw P g=true/\CallsDIn (FW none) 0 P g args .returning w λ e u w'=>∃ v,e=.returned v/\u=.returning/\R w'
def Ry(P:Program)(fn:Func)(t:Tm)(K:KP):Df->World->Prop
  | [],w=>Cg P fn.results.toList t w λ vs=>K (L4 vs) w
  | d :: ds,w=>match d.target with
    | .collected r=>w.heap[r]? = some (.deferred (some []))/\Ry P fn t K ds (w.putObj r (.deferred none))
    | .fn (.func g) y=>EI P g (d.args++y) w λ w'=>Ry P fn t K ds w'
    | _=>False
def OJ(P:Program)(fn:Func)(K:KP):Exit->Tm->Df->World->Prop
  | .normal,t,d,w=>Ry P fn t K d w
  | .ret,t,d,w=>Ry P fn t K d w
  | _,_,_,_=>False
def Lj(t:Tm):ResultVar->Sem Value
  | .tmp s=>pure (t.toArray.getD s undef)
  | .cell a ty=>do loadVar ty (<- asAddr (t.toArray.getD a undef))
theorem yK{P:Program}{w:World}{t:Tm}:∀ (rs:List ResultVar) (F:List Value->Prop),Cg P rs t w F ->
    ∃ vs,(rs.mapM (Lj t)).run P w=.ok vs w/\F vs
  | [],F,h=>⟨[],by simp,h⟩
  | .tmp s :: rs,F,h=>by
    obtain⟨vs,hr,hF⟩:=yK rs _ h;exact⟨_,by simp only[List.mapM_cons,Lj,Sem.run_bind,Sem.run_pure,Result.andThen_ok,hr,GG],hF⟩
  | .cell a ty :: rs,F,h=>by
    obtain⟨v,T,h1,h2,h3⟩:=BW h;obtain⟨vs,hr,hF⟩:=yK rs _ h3;refine⟨v :: vs,?_,hF⟩;have h4:=h2 w h1;rw[GG] at h4;have h5:(Lj t (.cell a ty)).run P w=.ok v w:=by
      show(Sem.bind (asAddr (t.toArray.getD a undef)) λ p=>loadVar ty p).run P w=.ok v w;rw[Sem.run_bind'];generalize t.toArray.getD a undef=x at h4 ⊢
      cases x with
      | pointer p=>cases p with
        | none=>simp[Instr.loadAt,Instr.sureAddr] at h4
        | some p=>simpa[Instr.loadAt,Instr.sureAddr,asAddr] using h4
      | _=>simp[Instr.loadAt,Instr.sureAddr] at h4
    rw[List.mapM_cons,Sem.run_bind,h5];simp only[Result.andThen_ok,Sem.run_bind,hr,Sem.run_pure]
def bw(fn:Func):Code:=fn.body.getD .skip
theorem Ci{P:Program}{fn:Func}{t:Tm}{w:World}{K:KP}(hr:Cg P fn.results.toList t w λ vs=>K (L4 vs) w) :
    ∃ v,(results fn t.toArray).run P w=.ok v w/\K v w:=by
  obtain⟨vs,hrun,hk⟩:=yK _ _ hr;refine⟨L4 vs,?_,hk⟩;have h3:results fn t.toArray=(do
      let vs <- fn.results.mapM (Lj t)
      pure (if h:vs.size=1 then vs[0] else .tuple vs)):=by
    unfold results;have:(λ r=>match r with
        | .tmp i=>(pure (t.toArray.getD i undef):Sem Value)
        | .cell a i=>do loadVar i (<- asAddr (t.toArray.getD a undef)))=Lj t:=by
      funext x; cases x<;>rfl
    rw[<- this];rfl
  rw[h3,Array.mapM_eq_mapM_toList];simp only[Sem.run_map,bind_pure_comp,hrun,Result.andThen_ok]
  cases vs with
  | nil=>rfl
  | cons v vs=>cases vs<;>rfl
theorem ig{P:Program}{fn:Func}{t:Tm}{K:KP}:∀ (d:Df) (w:World),Ry P fn t K d w ->
    LeavesInM (FW none) 0 P fn t.toArray (λ e w'=>∃ v,e=.returned v/\K v w') d .returning w
  | [],w,h=>by
    obtain⟨v,hr,hk⟩:=Ci h;exact⟨v,hr,v,rfl,hk⟩
  | d :: ds,w,h=>by
    refine⟨by simp,?_⟩;simp only[Ry] at h
    split at h
    · rename_i r hr;exact .inl ⟨r,_,hr,run_takeDeferred h.1,ig ds _ h.2⟩
    · rename_i g y hr;obtain⟨he,h⟩:=h;refine .inr ⟨λ h=>(by cases h),Fn.func g,y,g,d.args++y,hr,?_,λ _ _=>trivial,CallsDIn.mono h ?_⟩
      · rw[hr]; exact qK he _ w
      · rintro e u w' ⟨v,rfl,rfl,hk⟩;exact ig ds w' hk
    · exact h.elim
theorem CY{P:Program}{ann:Nat->Option Live}{f:FuncId}{fn:Func}{c:Code}{args:List Value}{w:World}{K:KP}(hf:P.funcs[f]? = some fn)(hb:fn.body=some c)(h:vc P ann c 1 (OJ P fn K) (args++List.replicate (fn.ntmps-args.length) undef) [] w) :
    Calls P f args.toArray w λ e w'=>∃ v,e=.returned v/\K v w':=by
  refine(callsIn_wide (n:=0)).1 (callsIn_of_wp_marks hf hb trivial ?_ rfl);have h1:({ tmps:=args.toArray++Array.replicate (fn.ntmps-args.toArray.size) undef,defers:=[] }:Act)=lg (args++List.replicate (fn.ntmps-args.length) undef) []:=by
    simp[lg]
  rw[h1];refine wpIn_mono (HB (ro:=none) c 1 _ _ _ w (.inl rfl) h) (λ e a' w' hq=>?_);obtain⟨hp,t',d',rfl,_,_,hq⟩:=hq
  cases e with
  | normal=>exact ig d' w' hq
  | ret=>exact ig d' w' hq
  | panic c=>exact absurd rfl (hp c)
  | _=>exact hq.elim
theorem EV{P:Program}{ann:Nat->Option Live}{f:FuncId}{fn:Func}{c:Code}{args:List Value}{w:World}{R:World->Prop}(hf:P.funcs[f]? = some fn)(hb:fn.body=some c)(he:dw P f=true) (h:vc P ann c 1 (λ e t d w=>match e with
      | .normal=>d=[]/\Cg P fn.results.toList t w λ _=>R w
      | .ret=>d=[]/\Cg P fn.results.toList t w λ _=>R w
      | _=>False) (args++List.replicate (fn.ntmps-args.length) undef) [] w):EI P f args.toArray w R:=by
  refine⟨he,CallsDIn.mono (callsDIn_of_wp (R:=λ e w'=>∃ v,e=.returned v/\R w') hf hb trivial ?_) ?_⟩
  · have h1:({ tmps:=args.toArray++Array.replicate (fn.ntmps-args.toArray.size) undef,defers:=[] }:Act)=lg (args++List.replicate (fn.ntmps-args.length) undef) []:=by
      simp[lg]
    rw[h1];refine wpIn_mono (HB (ro:=none) c 1 _ _ _ w (.inl rfl) h) (λ e a' w' hq=>?_);obtain⟨hp,t',d',rfl,_,_,hq⟩:=hq
    cases e with
    | normal =>
      obtain⟨rfl,hq⟩:=hq;obtain⟨v,hr,hk⟩:=Ci (K:=λ _ w=>R w) hq;exact⟨rfl,v,hr,v,rfl,hk⟩
    | ret =>
      obtain⟨rfl,hq⟩:=hq;obtain⟨v,hr,hk⟩:=Ci (K:=λ _ w=>R w) hq;exact⟨rfl,v,hr,v,rfl,hk⟩
    | panic c=>exact absurd rfl (hp c)
    | _=>exact hq.elim
  · rintro e u w' ⟨rfl,v,rfl,hk⟩;exact⟨v,rfl,rfl,hk⟩
theorem MR{P:Program}(ann:Nat->Option Live){f:FuncId}{fn:Func}{args:List Value}{w:World}{R:World->Prop}{S:Prop}(hf:P.funcs[f]? = some fn)(hb:fn.body.isSome=true)(he:dw P f=true) (h:S=vc P ann (bw fn) 1 (λ e t d w=>match e with
      | .normal=>d=[]/\Cg P fn.results.toList t w λ _=>R w
      | .ret=>d=[]/\Cg P fn.results.toList t w λ _=>R w
      | _=>False) (args++List.replicate (fn.ntmps-args.length) undef) [] w) (hS:S):EI P f args.toArray w R:=by
  obtain⟨c,hc⟩:=Option.isSome_iff_exists.1 hb;refine EV (ann:=ann) hf hc he ?_;have:bw fn=c:=by simp[bw,hc]
  rw[<- this];exact h▸hS
def Tf(l:Nat)(K:Bool->World->Prop):Exit->Tm->Df->World->Prop
  | .normal,_,_,w=>∃ r,w.heap[l]? = some (.loop r)/\K true (w.putObj l (.loop { r with state:=.ready,pending:=none }))
  | .ret,_,_,w=>∃ r,w.heap[l]? = some (.loop r)/\K false (w.putObj l (.loop { r with state:=.done,pending:=some .ret }))
  | .exit i,_,_,w=>∃ r,w.heap[l]? = some (.loop r)/\K false (w.putObj l (.loop { r with state:=.done,pending:=some (.exit i) }))
  | _,_,_,_=>False
def S5(l:Nat)(F:Tm->World->Prop):Exit->Tm->Df->World->Prop
  | .normal,t,_,w=>∃ r,w.heap[l]? = some (.loop r)/\r.state=.ready/\F t (w.putObj l (.loop { r with state:=.busy }))
  | _,_,_,_=>False
def Ca:List Tmp->List Value->Tm->Tm
  | p :: ps,v :: vs,t=>Ca ps vs (st t p v)
  | _,_,t=>t
def Sf(P:Program)(ann:Nat->Option Live)(l:Nat)(assign body:Code)(K:Bool->World->Prop)(t:Tm)(w:World):Prop :=
  vc P ann assign 2 (S5 l λ t w=>vc P ann body 3 (Tf l K) t [] w) t [] w
theorem He:∀ (ps:List Tmp) (vs:List Value) (t:Tm),((ps.zip vs).foldl (λ (tm:Array Value) (x:Tmp×Value)=>tm.setIfInBounds x.1 x.2) t.toArray)=(Ca ps vs t).toArray
  | [],vs,t=>by simp[Ca]
  | p :: ps,[],t=>by simp[Ca]
  | p :: ps,v :: vs,t=>by
    have:=He ps vs (st t p v);simp only[List.zip_cons_cons,List.foldl_cons,Ca];rw[<- this,LO]
    simp
theorem Je{P:Program}{ann:Nat->Option Live}{l:Nat}{args:List Value}{w:World}{K:Bool->World->Prop}{r:Loop}{t:Tm}(hl:w.heap[l]? = some (.loop r))(ht:r.tmps=t.toArray)(hs:args.length=r.params.size)(hc:(calm r.assign&&calm r.body)=true)(h:Sf P ann l r.assign r.body K (Ca r.params.toList args t) w):cq P l args.toArray w K:=by
  simp only[Bool.and_eq_true] at hc;have hy:=run_yield (P:=P) (args:=args.toArray) hl (by simpa using hs);refine⟨_,_,_,_,hy,roundIn_of_wpIn (F:=Fence.wide) trivial ?_⟩;have h1:(r.params.zip args.toArray).foldl (λ tmps (x:Tmp×Value)=>tmps.setIfInBounds x.1 x.2) r.tmps=(Ca r.params.toList args t).toArray:=by
    rw[<- He,ht,<- Array.foldl_toList]
    congr 1
    simp
  have h2:({ tmps:=(r.params.zip args.toArray).foldl (λ tmps (x:Tmp×Value)=>tmps.setIfInBounds x.1 x.2) r.tmps,defers:=[] }:Act)=lg (Ca r.params.toList args t) []:=by
    rw[h1]; rfl
  refine wpIn_mono (show Code.wpIn (FW (some l)) 0 P r.assign _ _ w from h2▸HB (ro:=some l) _ _ _ _ _ _ (.inr hc.1) h) λ e a' w' hq=>?_;obtain⟨hp,t',d',rfl,_,hd,hq⟩:=hq;obtain rfl:=hd hc.1
  cases e with
  | normal =>
    obtain⟨r1,hr1,hst,hq⟩:=hq;refine⟨_,run_beginRound hr1 hst,?_⟩;refine wpIn_mono (show Code.wpIn (FW (some l)) 0 P r.body _ _ _ from HB (ro:=some l) _ _ _ _ _ _ (.inr hc.2) hq) λ e a'' w'' hq=>?_;obtain⟨hp,t'',d'',rfl,_,_,hq⟩:=hq
    cases e with
    | normal=>obtain⟨r2,hr2,hk⟩:=hq; exact⟨_,_,run_endRound none hr2,_,rfl,hk⟩
    | ret=>obtain⟨r2,hr2,hk⟩:=hq; exact⟨_,_,run_endRound (some .ret) hr2,_,rfl,hk⟩
    | exit i=>obtain⟨r2,hr2,hk⟩:=hq; exact⟨_,_,run_endRound (some (.exit i)) hr2,_,rfl,hk⟩
    | panic c=>exact absurd rfl (hp c)
    | _=>exact hq.elim
  | panic c=>exact absurd rfl (hp c)
  | _=>exact hq.elim
def qw(K:KP):Ending->World->Prop:=λ e w'=>∃ v,e=.returned v/\K v w'
theorem ah{P:Program}(ann:Nat->Option Live){f:FuncId}{fn:Func}{args:List Value}{w:World}{K:KP}{S:Prop}(hf:P.funcs[f]? = some fn)(hb:fn.body=some (bw fn))(h:S=vc P ann (bw fn) 1 (OJ P fn K) (args++List.replicate (fn.ntmps-args.length) undef) [] w)(hS:S) :
    Calls P f args.toArray w (qw K):=CY hf hb (h▸hS)
def ay(l:List (Nat×Live))(p:Nat):Option Live :=
  match l with
  | []=>none
  | (q,lv) :: l=>cond (Nat.beq q p) (some lv) (ay l p)
def Cl:Code->Nat->Nat->Option (Array Tmp×Code×Code)
  | .seq a b,p,q=>(Cl a (2*p) q).or (Cl b (2*p+1) q)
  | .cond _ a b,p,q=>(Cl a (2*p) q).or (Cl b (2*p+1) q)
  | .block _ a,p,q=>Cl a (2*p) q
  | .loop a,p,q=>Cl a (2*p) q
  | .rangeFunc _ ps a b,p,q=>cond (Nat.beq p q) (some (ps,a,b)) none
  | _,_,_=>none
def Ea(c:Code)(q:Nat):Array Tmp:=((Cl c 1 q).getD (#[],.skip,.skip)).1
def D8(c:Code)(q:Nat):Code:=((Cl c 1 q).getD (#[],.skip,.skip)).2.1
def D9(c:Code)(q:Nat):Code:=((Cl c 1 q).getD (#[],.skip,.skip)).2.2
theorem tI{P:Program}(ann:Nat->Option Live){l:Nat}{args:List Value}{w:World}{K:Bool->World->Prop}{r:Loop}{t:Tm}{ps:Array Tmp}{asg bdy:Code}{S:Prop}(hl:w.heap[l]? = some (.loop r))(ht:r.tmps=t.toArray)(hp:r.params=ps)(ha:r.assign=asg)(hb:r.body=bdy)(hs:args.length=ps.size)(hc:(calm asg&&calm bdy)=true)(h:S=Sf P ann l asg bdy K (Ca ps.toList args t) w)(hS:S):cq P l args.toArray w K:=by
  subst hp ha hb;exact Je hl ht hs hc (h▸hS)
abbrev iv (n:Int):Value:=.int .i64 n
def I6.on(u:I6)(l:List Value):List Value:=iv u.a :: iv u.b :: iv u.c :: iv u.d :: iv u.e :: iv u.f :: l
def z6:I6:=⟨0,0,0,0,0,0⟩
def I6.beq(u v:I6):Bool:=(u.a==v.a)&&((u.b==v.b)&&((u.c==v.c)&&((u.d==v.d)&&((u.e==v.e)&&((u.f==v.f)&&true)))))
def aN(w:World)(a:Addr)(v:Value)(R:World->Prop):Prop :=
  v.oneCell' = true/\(∃ x,w.cell? a=some x)/\w.frozen? a=false/\R (w.setCell a v)
def aQ(a:Addr):Nat->List Value->World->(World->Prop)->Prop
  | _,[],w,R=>R w
  | i,v :: vs,w,R=>aN w (a.add i) v λ w'=>aQ a (i+1) vs w' R
def ak(w:World)(o:Obj)(R:Nat->World->Prop):Prop:=R w.heap.size (w.alloc o)
def fU(k:IntKind)(x y:Int):Int:=k.wrap ((BitVec.ofInt k.bits x &&& BitVec.ofInt k.bits y).toNat:Int)
def Pb(k:IntKind)(x y:Int):Int:=k.wrap ((BitVec.ofInt k.bits x ||| BitVec.ofInt k.bits y).toNat:Int)
def Rv(k:IntKind)(x y:Int):Int:=k.wrap ((BitVec.ofInt k.bits x ^^^ BitVec.ofInt k.bits y).toNat:Int)
def bs(l:List UInt8):ByteArray:=⟨l.toArray⟩
end Go.Vc
namespace Go.Proofs.YtpihmghnbplohaaGreatDoor
open Go Go.Vc
abbrev CP (f:FuncId) (a:Array Value) (w:World) (K:KP):Prop:=Calls Tryz.prog f a w (qw K)
end Go.Proofs.YtpihmghnbplohaaGreatDoor

import Derived.Shelf.Abstract
import Derived.ScopeJumps
import Derived.Test.YtjpbdjhaajdepaaGreatDoorProg
import Derived.Test.YtjpbdjhaajdepaaGreatDoorM01
set_option maxRecDepth 100000
namespace Go.Vc
def jc:Code->List Nat
  | .region _ ops _=>ops.toList.filterMap (·.dst)
  | .seq a b=>jc a++jc b
  | .cond _ a b=>jc a++jc b
  | .block _ c=>jc c
  | .loop c=>jc c
  | .scope c=>jc c
  | _=>[]
theorem jg:∀ {c:Code} {l:Nat} {rest:Code},findLabel c l=some rest->∀ x∈jc rest,x∈jc c
  | .seq a b,l,rest,h,x,hx=>by
    simp only[findLabel] at h
    split at h
    · rename_i r hr
      cases h
      simp only[jc,List.mem_append] at hx ⊢;exact hx.imp (jg hr x) id
    · exact List.mem_append_right _ (jg h x hx)
  | .label l',l,rest,h,x,hx=>by
    simp only[findLabel] at h
    split at h
    · cases h; exact hx
    · cases h
  | .skip,_,_,h,_,_=>by simp[findLabel] at h
  | .region ..,_,_,h,_,_=>by simp[findLabel] at h
  | .cond ..,_,_,h,_,_=>by simp[findLabel] at h
  | .block ..,_,_,h,_,_=>by simp[findLabel] at h
  | .loop ..,_,_,h,_,_=>by simp[findLabel] at h
  | .exit ..,_,_,h,_,_=>by simp[findLabel] at h
  | .ret,_,_,h,_,_=>by simp[findLabel] at h
  | .goto ..,_,_,h,_,_=>by simp[findLabel] at h
  | .scope ..,_,_,h,_,_=>by simp[findLabel] at h
  | .rangeFunc ..,_,_,h,_,_=>by simp[findLabel] at h
  | .refuse ..,_,_,h,_,_=>by simp[findLabel] at h
abbrev Live:=List (Nat×TK)
def Fs:List Nat->Nat->Bool
  | [],_=>false
  | x :: l,n=>cond (Nat.beq x n) true (Fs l n)
theorem AA:∀ {l:List Nat} {n:Nat},Fs l n=true<->n∈l
  | [],n=>by simp[Fs]
  | x :: l,n=>by
    simp only[Fs,List.mem_cons]
    cases h:Nat.beq x n with
    | true=>simp[Nat.eq_of_beq_eq_true h]
    | false =>
      have:n≠x:=λ e=>by rw[e,Nat.beq_refl] at h; cases h
      simp[AA,this]
def lk:List (Nat×Value)->Nat->Option Value
  | [],_=>none
  | (s,v) :: l,n=>cond (Nat.beq s n) (some v) (lk l n)
def Gb:Live->List Value->List (Nat×Value)
  | (s,_) :: l,v :: vs=>(s,v) :: Gb l vs
  | _,_=>[]
def oD(mods:List Nat)(lv:List (Nat×Value))(d:Nat->Value):Nat->Tm->Tm
  | _,[]=>[]
  | i,x :: t=>(match lk lv i with | some v=>v | none=>cond (Fs mods i) (d i) x) :: oD mods lv d (i+1) t
def SJ:SK->Type->Type
  | .int _,X=>Int->X
  | .bool,X=>Bool->X
  | .str,X=>ByteArray->X
  | .ptr,X=>Option Addr->X
  | .slice,X=>Option Addr->Nat->Nat->X
  | .map,X=>Option Nat->X
  | .blk,X=>Nat->X
  | .six,X=>I6->X
  | .raw,X=>Value->X
def LJ:List SK->Type->Type
  | [],X=>X
  | k :: ks,X=>SJ k (LJ ks X)
def VJ:Live->Type->Type
  | [],X=>X
  | (_,.s k) :: l,X=>SJ k (VJ l X)
  | (_,.agg ks) :: l,X=>LJ ks (VJ l X)
def So{X:Type}:(k:SK)->SJ k X->(Value->X->Prop)->Prop
  | .int k,J,F=>∀ n:Int,F (.int k n) (J n)
  | .bool,J,F=>∀ b:Bool,F (.bool b) (J b)
  | .str,J,F=>∀ s:ByteArray,F (.string s) (J s)
  | .ptr,J,F=>∀ p:Option Addr,F (.pointer p) (J p)
  | .slice,J,F=>∀ (a:OA) (l c:Nat),F (.slice a l c) (J a l c)
  | .map,J,F=>∀ r:Option Nat,F (.map r) (J r)
  | .blk,J,F=>∀ r:Nat,F (.pointer (some ⟨r,0,none⟩)) (J r)
  | .six,_,_=>True
  | .raw,J,F=>∀ v:Value,F v (J v)
def Sn{X:Type}:(k:SK)->SJ k X->(List Value->X->Prop)->Prop
  | .int k,J,F=>∀ n:Int,F [.int k n] (J n)
  | .bool,J,F=>∀ b:Bool,F [.bool b] (J b)
  | .str,J,F=>∀ s:ByteArray,F [.string s] (J s)
  | .ptr,J,F=>∀ p:Option Addr,F [.pointer p] (J p)
  | .slice,J,F=>∀ (a:OA) (l c:Nat),F [.slice a l c] (J a l c)
  | .map,J,F=>∀ r:Option Nat,F [.map r] (J r)
  | .blk,J,F=>∀ r:Nat,F [.pointer (some ⟨r,0,none⟩)] (J r)
  | .six,J,F=>∀ u:I6,F u.vs (J u)
  | .raw,J,F=>∀ v:Value,F [v] (J v)
def P1{X:Type}:(ks:List SK)->LJ ks X->(List Value->X->Prop)->Prop
  | [],J,F=>F [] J
  | k :: ks,J,F=>Sn k J λ xs J=>P1 ks J λ vs J=>F (xs++vs) J
def HQ{X:Type}:(l:Live)->VJ l X->(List Value->X->Prop)->Prop
  | [],J,F=>F [] J
  | (_,.s k) :: l,J,F=>So k J λ v J=>HQ l J λ vs J=>F (v :: vs) J
  | (_,.agg ks) :: l,J,F=>P1 ks J λ cs J=>HQ l J λ vs J=>F (.agg cs.toArray :: vs) J
def zL{X:Type}:(k:SK)->SJ k X->Value->(X->Prop)->Prop
  | .int k,J,v,F=>match v with
    | .int k' n=>cond (Dp k k') (F (J n)) False
    | _=>False
  | .bool,J,v,F=>match v with
    | .bool b=>F (J b)
    | _=>False
  | .str,J,v,F=>match v with
    | .string s=>F (J s)
    | _=>False
  | .ptr,J,v,F=>match v with
    | .pointer p=>F (J p)
    | _=>False
  | .slice,J,v,F=>match v with
    | .slice a l c=>F (J a l c)
    | _=>False
  | .map,J,v,F=>match v with
    | .map r=>F (J r)
    | _=>False
  | .blk,J,v,F=>match v with
    | .pointer (some ⟨r,0,none⟩)=>F (J r)
    | _=>False
  | .six,_,_,_=>False
  | .raw,J,v,F=>F (J v)
def Mq{X:Type}:(k:SK)->SJ k X->List Value->(X->List Value->Prop)->Prop
  | .int k,J,vs,F=>match vs with
    | .int k' n :: r=>cond (Dp k k') (F (J n) r) False
    | _=>False
  | .bool,J,vs,F=>match vs with
    | .bool b :: r=>F (J b) r
    | _=>False
  | .str,J,vs,F=>match vs with
    | .string s :: r=>F (J s) r
    | _=>False
  | .ptr,J,vs,F=>match vs with
    | .pointer p :: r=>F (J p) r
    | _=>False
  | .slice,J,vs,F=>match vs with
    | .slice a l c :: r=>F (J a l c) r
    | _=>False
  | .map,J,vs,F=>match vs with
    | .map m :: r=>F (J m) r
    | _=>False
  | .blk,J,vs,F=>match vs with
    | .pointer (some ⟨b,0,none⟩) :: r=>F (J b) r
    | _=>False
  | .six,J,vs,F=>match vs with
    | .int .i64 a :: .int .i64 b :: .int .i64 c :: .int .i64 d :: .int .i64 e :: .int .i64 f :: r=>F (J ⟨a,b,c,d,e,f⟩) r
    | _=>False
  | .raw,J,vs,F=>match vs with
    | v :: r=>F (J v) r
    | _=>False
def Mr{X:Type}:(ks:List SK)->LJ ks X->List Value->(X->Prop)->Prop
  | [],J,[],F=>F J
  | k :: ks,J,vs,F=>Mq k J vs λ J r=>Mr ks J r F
  | [],_,_ :: _,_=>False
def C4{X:Type}:(l:Live)->VJ l X->Tm->(X->Prop)->Prop
  | [],J,_,F=>F J
  | (s,.s k) :: l,J,t,F=>zL k J (gt t s) λ J=>C4 l J t F
  | (s,.agg ks) :: l,J,t,F=>match gt t s with
    | .agg cs=>Mr ks J cs.toList λ J=>C4 l J t F
    | _=>False
theorem HT{X:Type}{k:SK}{J:SJ k X}{v:Value}{F:X->Prop}(h:zL k J v F):∃ j,F j/\∀ G,So k J G->G v j:=by
  cases k with
  | int k =>
    cases v<;>simp only[zL] at h
    obtain⟨hk,hR⟩:=gi h;have:=je hk;subst this;exact⟨_,hR,λ G hG=>hG _⟩
  | bool=>cases v<;>simp only[zL] at h; exact⟨_,h,λ G hG=>hG _⟩
  | str=>cases v<;>simp only[zL] at h; exact⟨_,h,λ G hG=>hG _⟩
  | ptr=>cases v<;>simp only[zL] at h; exact⟨_,h,λ G hG=>hG _⟩
  | slice=>cases v<;>simp only[zL] at h; exact⟨_,h,λ G hG=>hG _ _ _⟩
  | map=>cases v<;>simp only[zL] at h; exact⟨_,h,λ G hG=>hG _⟩
  | blk =>
    simp only[zL] at h
    split at h
    · exact⟨_,h,λ G hG=>hG _⟩
    · exact h.elim
  | six=>exact h.elim
  | raw=>exact⟨_,h,λ G hG=>hG _⟩
theorem HS{X:Type}{k:SK}{J:SJ k X}{vs:List Value}{F:X->List Value->Prop}(h:Mq k J vs F):∃ j xs r,vs=xs++r/\F j r/\∀ G,Sn k J G->G xs j:=by
  cases k<;>simp only[Mq] at h<;>split at h<;>first | exact h.elim | skip
  · obtain⟨hk,hR⟩:=gi h;have:=je hk;subst this;exact⟨_,[_],_,rfl,hR,λ G hG=>hG _⟩
  · exact⟨_,[_],_,rfl,h,λ G hG=>hG _⟩
  · exact⟨_,[_],_,rfl,h,λ G hG=>hG _⟩
  · exact⟨_,[_],_,rfl,h,λ G hG=>hG _⟩
  · exact⟨_,[_],_,rfl,h,λ G hG=>hG _ _ _⟩
  · exact⟨_,[_],_,rfl,h,λ G hG=>hG _⟩
  · exact⟨_,[_],_,rfl,h,λ G hG=>hG _⟩
  · exact⟨_,[_,_,_,_,_,_],_,rfl,h,λ G hG=>hG ⟨_,_,_,_,_,_⟩⟩
  · exact⟨_,[_],_,rfl,h,λ G hG=>hG _⟩
theorem Ae{X:Type}:∀ {ks:List SK} {J:LJ ks X} {vs:List Value} {F:X->Prop},Mr ks J vs F->∃ j,F j/\∀ G,P1 ks J G->G vs j
  | [],J,[],F,h=>⟨J,h,λ G hG=>hG⟩
  | k :: ks,J,vs,F,h=>by
    obtain⟨j,xs,r,rfl,h1,h2⟩:=HS (show Mq k J vs λ J r=>Mr ks J r F from by cases vs<;>exact h);obtain⟨j',h3,h4⟩:=Ae h1;exact⟨j',h3,λ G hG=>h4 (λ vs J=>G (xs++vs) J) (h2 _ hG)⟩
  | [],_,_ :: _,_,h=>h.elim
def rY(l:Live)(t:Tm):List Value:=l.map λ s=>gt t s.1
theorem kH{X:Type}{t:Tm}:∀ {l:Live} {J:VJ l X} {F:X->Prop},C4 l J t F->∃ j,F j/\∀ G,HQ l J G->G (rY l t) j
  | [],J,F,h=>⟨J,h,λ G hG=>hG⟩
  | (s,.s k) :: l,J,F,h=>by
    obtain⟨j,h1,h2⟩:=HT (show zL k J (gt t s) λ J=>C4 l J t F from h);obtain⟨j',h3,h4⟩:=kH h1;exact⟨j',h3,λ G hG=>h4 (λ vs J=>G (gt t s :: vs) J) (h2 _ hG)⟩
  | (s,.agg ks) :: l,J,F,h=>by
    unfold C4 at h
    split at h
    · rename_i cs hcs;obtain⟨j,h1,h2⟩:=Ae h;obtain⟨j',h3,h4⟩:=kH h1;refine⟨j',h3,λ G hG=>?_⟩;have:=h4 (λ vs J=>G (.agg cs :: vs) J) (by simpa using h2 _ hG);simpa[rY,hcs] using this
    · exact h.elim
theorem GW{t:Tm}{n:Nat}{v:Value}:∀ {l:Live},lk (Gb l (rY l t)) n=some v->v=gt t n
  | [],h=>by cases h
  | (s,k) :: l,h=>by
    simp only[rY,List.map_cons,Gb,lk] at h
    cases hb:Nat.beq s n with
    | true=>rw[hb] at h; cases h; rw[Nat.eq_of_beq_eq_true hb]
    | false=>rw[hb] at h; exact GW h
theorem GI{mods:List Nat}{lv:List (Nat×Value)}{d:Nat->Value}:∀ (t:Tm) (i j:Nat),j<t.length ->
    gt (oD mods lv d i t) j=match lk lv (i+j) with | some v=>v | none=>cond (Fs mods (i+j)) (d (i+j)) (gt t j)
  | [],_,j,h=>by simp at h
  | x :: t,i,0,_=>by simp[oD,gt]
  | x :: t,i,j+1,h=>by
    have:=GI (mods:=mods) (lv:=lv) (d:=d) t (i+1) j (by simpa using h);rw[show i+1+j=i+(j+1) by omega] at this;exact this
theorem oK{mods:List Nat}{lv:List (Nat×Value)}{d:Nat->Value}:∀ (t:Tm) (i:Nat),(oD mods lv d i t).length=t.length
  | [],_=>rfl
  | x :: t,i=>by simp[oD,oK t (i+1)]
theorem fill_eq{mods:List Nat}{l:Live}{t t' : Tm}(h:Bl mods t t'):oD mods (Gb l (rY l t')) (gt t') 0 t=t':=by
  refine Kn _ _ ((oK t 0).trans h.1.symm) λ i hi=>?_;rw[oK] at hi;rw[GI t 0 i hi,Nat.zero_add]
  cases hl:lk (Gb l (rY l t')) i with
  | some v=>exact GW hl
  | none =>
    cases hm:Fs mods i with
    | true=>rfl
    | false =>
      have:i∉mods:=λ h=>by rw[AA.2 h] at hm; cases hm
      exact(h.2 i this).symm
abbrev Df:=List Deferred
def HF(F:Tm->Df->World->Prop)(Q:Exit->Tm->Df->World->Prop):Exit->Tm->Df->World->Prop
  | .normal,t,d,w=>F t d w
  | e,t,d,w=>Q e t d w
def Sv(id:Nat)(Q:Exit->Tm->Df->World->Prop):Exit->Tm->Df->World->Prop
  | .exit i,t,d,w=>cond (Nat.beq i id) (Q .normal t d w) (Q (.exit i) t d w)
  | e,t,d,w=>Q e t d w
def calm:Code->Bool
  | .seq a b=>calm a&&calm b
  | .cond _ a b=>calm a&&calm b
  | .block _ a=>calm a
  | .loop a=>calm a
  | .rangeFunc _ _ _ _=>false
  | .region _ ops _=>cJ ops.toList
  | .scope _=>false
  | _=>true
def exs:Code->List Nat
  | .exit i=>[i]
  | .seq a b=>exs a++exs b
  | .cond _ a b=>exs a++exs b
  | .block id c=>(exs c).filter λ i=>!(Nat.beq i id)
  | .loop c=>exs c
  | .rangeFunc _ _ a b=>exs a++exs b
  | _=>[]
def Cu:Code->Bool
  | .ret=>true
  | .seq a b=>Cu a||Cu b
  | .cond _ a b=>Cu a||Cu b
  | .block _ c=>Cu c
  | .loop c=>Cu c
  | .rangeFunc _ _ a b=>Cu a||Cu b
  | _=>false
def TQ:List (Nat×(World->Prop))->Nat->World->Prop
  | [],_,_=>False
  | x :: l,i,w=>cond (Nat.beq i x.1) (x.2 w) (TQ l i w)
theorem DS{F:Nat->World->Prop}{i:Nat}{w:World}:∀ {l:List Nat},TQ (l.map λ id=>(id,F id)) i w->F i w
  | [],h=>h.elim
  | j :: l,h=>by
    simp only[List.map_cons,TQ] at h
    cases hb:Nat.beq i j with
    | true=>rw[hb] at h; rw[Nat.eq_of_beq_eq_true hb]; exact h
    | false=>rw[hb] at h; exact DS h
def Cp(P:Program)(gf:FuncId)(lb:List Value)(rec:FuncId->Nat->Loop)(w:World)(N R:World->Prop)(X:List (Nat×(World->Prop))):Prop :=
  ∀ fn:FuncId,Calls P gf (Value.func (.yield (w.heap.size+1)) #[] #[] :: lb).toArray ((w.alloc (.deferred (some []))).alloc (.loop (rec fn w.heap.size))) λ e w2=>(∃ v,e=.returned v) /\
    ∃ r,w2.heap[w.heap.size+1]? = some (.loop r)/\r.state≠.busy/\match r.pending with
      | none=>N (w2.putObj (w.heap.size+1) (.loop { r with state:=.exhausted }))
      | some .ret=>R (w2.putObj (w.heap.size+1) (.loop { r with state:=.exhausted }))
      | some (.exit i)=>TQ X i (w2.putObj (w.heap.size+1) (.loop { r with state:=.exhausted }))
      | _=>False
def yY(P:Program)(v:Value)(F:FuncId->List Value->Prop):Prop:=match v with
  | .func (.func gf) first lb=>cond (first.isEmpty&&bM P gf) (F gf lb.toList) False
  | _=>False
def TO(c:Code)(sc:Code->Code->Nat->(Exit->Tm->Df->World->Prop)->Tm->Df->World->Prop)(p:Nat)(Q:Exit->Tm->Df->World->Prop):Exit->Tm->Df->World->Prop
  | .goto l,t,d,w=>match findLabel c l with
    | some rest=>sc c rest p Q t d w
    | none=>False
  | e,t,d,w=>Q e t d w
def CS(P:Program)(ann:Nat->Option Live)(sc:Code->Code->Nat->(Exit->Tm->Df->World->Prop)->Tm->Df->World->Prop):Code->Nat->(Exit->Tm->Df->World->Prop)->Tm->Df->World->Prop
  | .skip,_,Q,t,d,w=>Q .normal t d w
  | .label _,_,Q,t,d,w=>Q .normal t d w
  | .region _ ops draw,_,Q,t,d,w=>cond (cJ ops.toList) (match draw with
    | false=>HI P ops ops.toList t w (λ t w=>Q .normal t d w)
    | true=>cond (P.follows .mixedOrders&&Region.noSelect ops) (mM P ops ops.size (Array.replicate ops.size false) [] t w.drew (λ t w=>Q .normal t d w)) False)
    (cond draw False (zD P ops ops.toList t d w λ t d w=>Q .normal t d w))
  | .seq a b,p,Q,t,d,w=>match ann p with
    | none=>CS P ann sc a (2*p) (HF (CS P ann sc b (2*p+1) Q) Q) t d w
    | some lv=>cond (calm a) (∃ J:VJ lv (World->Prop),(∀ w',HQ lv J λ vs j=>j w'->∀ x:Nat->Value,CS P ann sc b (2*p+1) Q (oD (jc a) (Gb lv vs) x 0 t) d w') /\
        CS P ann sc a (2*p) (HF (λ t' _ w'=>C4 lv J t' λ j=>j w') Q) t d w) False
  | .cond c a b,p,Q,t,d,w=>match ev t c with
    | .bool x=>cond x (CS P ann sc a (2*p) Q t d w) (CS P ann sc b (2*p+1) Q t d w)
    | _=>False
  | .block id c,p,Q,t,d,w=>CS P ann sc c (2*p) (Sv id Q) t d w
  | .loop c,p,Q,t,d,w=>match ann p with
    | none=>CS P ann sc c (2*p) (HF (λ _ _ _=>False) Q) t d w
    | some lv=>cond (calm c) (∃ I:VJ lv (World->Nat->Prop),(C4 lv I t λ i=>∃ m,i w m) /\
        ∀ w' m,HQ lv I λ vs i=>i w' m->∀ x:Nat->Value,
          CS P ann sc c (2*p) (HF (λ t' _ w''=>C4 lv I t' λ i'=>∃ m',m' < m/\i' w'' m') Q) (oD (jc c) (Gb lv vs) x 0 t) d w') False
  | .exit id,_,Q,t,d,w=>Q (.exit id) t d w
  | .ret,_,Q,t,d,w=>Q .ret t d w
  | .rangeFunc g ps assign body,_,Q,t,d,w=>yY P (ev t g) λ gf lb =>
      Cp P gf lb (λ fn D=>{ state:=.ready,pending:=none,fn:=fn,tmps:=t.toArray,params:=ps,assign:=assign,body:=body,defers:=D }) w (λ w'=>Q .normal t ({ target:=.collected w.heap.size,args:=#[] } :: d) w') (λ w'=>cond (Cu body) (Q .ret t ({ target:=.collected w.heap.size,args:=#[] } :: d) w') False) ((exs body).map λ i=>(i,λ w'=>Q (.exit i) t ({ target:=.collected w.heap.size,args:=#[] } :: d) w'))
  | .scope c,p,Q,t,d,w=>CS P ann sc c (2*p) (TO c sc p Q) t d w
  | .goto l,_,Q,t,d,w=>Q (.goto l) t d w
  | _,_,_,_,_,_=>False
def TW(P:Program)(ann:Nat->Option Live):Nat->Code->Code->Nat->(Exit->Tm->Df->World->Prop)->Tm->Df->World->Prop
  | 0=>λ _ _ _ _ _ _ _=>False
  | n+1=>λ c rest p Q t d w=>CS P ann (TW P ann n) rest (2*p+1) (TO c (TW P ann n) p Q) t d w
def vc(P:Program)(ann:Nat->Option Live):Code->Nat->(Exit->Tm->Df->World->Prop)->Tm->Df->World->Prop:=CS P ann (TW P ann 2)
def lift(t0:Tm)(d0:Df)(c:Code)(Q:Exit->Tm->Df->World->Prop):Exit->Act->World->Prop:=λ e a w =>
  (∀ c,e≠.panic c)/\∃ t' d',a=fm t' d'/\Bl (jc c) t0 t'/\(calm c=true->d' = d0)/\Q e t' d' w
theorem TF{P:Program}{c:Code}{Q:Exit->Act->World->Prop}{a:Act}{w:World}:c.wpIn (FW none) 0 P Q a w<->c.wp P Q a w:=wpIn_wide
theorem mO{P:Program}{c:Code}{Q:Exit->Act->World->Prop}{a:Act}{w:World}(h:∀ (b:Frame) (k:List Item) (cs:List Frame),∃ e a' w',Q e a' w'/\Arrives P (lone (b.at a (.code c :: .inScope c :: k)) cs w) b k cs e a' w'):(Code.scope c).wp P Q a w:=λ b k cs=>by
  obtain⟨e,a',w',hq,harr⟩:=h b k cs;exact⟨e,a',w',hq,.of_steps (.one step_scope) harr⟩
def fq(P:Program)(c cur:Code)(Q:Exit->Act->World->Prop)(a:Act)(w:World):Prop :=
  ∀ (b:Frame) (k:List Item) (cs:List Frame),∃ e a' w',Q e a' w'/\Arrives P (lone (b.at a (.code cur :: .inScope c :: k)) cs w) b k cs e a' w'
theorem fq.mono{P:Program}{c cur:Code}{Q Q' : Exit->Act->World->Prop}{a:Act}{w:World}(h:fq P c cur Q a w)(k:∀ e a w,Q e a w->Q' e a w):fq P c cur Q' a w:=λ b l cs =>
  let ⟨e,a',w',hq,harr⟩:=h b l cs
  ⟨e,a',w',k _ _ _ hq,harr⟩
theorem rQ{P:Program}{c cur:Code}{Q:Exit->Act->World->Prop}{a:Act}{w:World}(h:cur.wp P (λ e a' w'=>(∀ l,e=.goto l->∃ rest,findLabel c l=some rest/\fq P c rest Q a' w')/\((∀ l,e≠.goto l)->Q e a' w')) a w):fq P c cur Q a w:=by
  intro b k cs;obtain⟨e,a₁,w₁,hq,harr⟩:=h b (.inScope c :: k) cs
  cases e with
  | normal=>exact⟨.normal,a₁,w₁,hq.2 (by simp),Steps.trans harr (.one step_inScope)⟩
  | exit id=>exact⟨.exit id,a₁,w₁,hq.2 (by simp),λ k' hk=>harr k' (by simp[exitTo,hk])⟩
  | goto l =>
    obtain⟨rest,hf,hs⟩:=hq.1 l rfl;have hg:gotoIn l (.inScope c :: k)=some (.code rest :: .inScope c :: k):=by simp[gotoIn,hf]
    obtain⟨e₂,a₂,w₂,hq₂,harr₂⟩:=hs b k cs;exact⟨e₂,a₂,w₂,hq₂,.of_steps (harr _ hg) harr₂⟩
  | ret=>exact⟨_,a₁,w₁,hq.2 (by simp),harr⟩
  | panic ch=>exact⟨_,a₁,w₁,hq.2 (by simp),harr⟩
  | outgrown=>exact⟨_,a₁,w₁,hq.2 (by simp),harr⟩
def Pt(t0:Tm)(c:Code)(Q:Exit->Tm->Df->World->Prop):Exit->Act->World->Prop:=λ e a w =>
  (∀ c,e≠.panic c)/\∃ t' d',a=fm t' d'/\Bl (jc c) t0 t'/\Q e t' d' w
def TZ(P:Program)(sc:Code->Code->Nat->(Exit->Tm->Df->World->Prop)->Tm->Df->World->Prop):Prop :=
  ∀ (c rest:Code) (p:Nat) (Q:Exit->Tm->Df->World->Prop) (t:Tm) (d:Df) (w:World),(∀ x∈jc rest,x∈jc c)->sc c rest p Q t d w->fq P c rest (Pt t c Q) (fm t d) w
theorem ze{P:Program}{sc:Code->Code->Nat->(Exit->Tm->Df->World->Prop)->Tm->Df->World->Prop}(hsc:TZ P sc){c cur:Code}{p:Nat}{Q:Exit->Tm->Df->World->Prop}{t:Tm}{d:Df}{w:World}(hd:∀ x∈jc cur,x∈jc c)(h:cur.wpIn (FW none) 0 P (lift t d cur (TO c sc p Q)) (fm t d) w):fq P c cur (Pt t c Q) (fm t d) w:=by
  refine rQ (TF.1 (wpIn_mono h λ e a' w' hq=>?_));obtain⟨hp,t',d',rfl,ha,_,hq⟩:=hq;have ha':=iT hd ha;refine⟨λ l he=>?_,λ hn=>?_⟩
  · subst he;simp only[TO] at hq
    split at hq
    · rename_i rest hr;refine⟨rest,hr,(hsc c rest p Q t' d' w' (jg hr) hq).mono λ e a w hq=>?_⟩;obtain⟨hp,t'',d'',rfl,hb,hq⟩:=hq;exact⟨hp,t'',d'',rfl,iT (λ x hx=>(List.mem_append.1 hx).elim id id) (pS ha' hb),hq⟩
    · exact hq.elim
  · cases e with
    | goto l=>exact absurd rfl (hn l)
    | panic c=>exact absurd rfl (hp c)
    | _=>exact⟨hp,t',d',rfl,ha',hq⟩
theorem ie{P:Program}{ann:Nat->Option Live}{sc:Code->Code->Nat->(Exit->Tm->Df->World->Prop)->Tm->Df->World->Prop}(hsc:TZ P sc){ro:Option Nat}:∀ (c:Code) (p:Nat) (Q:Exit->Tm->Df->World->Prop) (t:Tm) (d:Df) (w:World),(ro=none\/calm c=true) ->
    CS P ann sc c p Q t d w->c.wpIn (FW ro) 0 P (lift t d c Q) (fm t d) w
  | .skip,_,Q,t,d,w,_,h=>wpIn_skip ⟨by simp,t,d,rfl,cR _ _,λ _=>rfl,h⟩
  | .label _,_,Q,t,d,w,_,h=>wpIn_label ⟨by simp,t,d,rfl,cR _ _,λ _=>rfl,h⟩
  | .exit id,_,Q,t,d,w,_,h=>wpIn_exit ⟨by simp,t,d,rfl,cR _ _,λ _=>rfl,h⟩
  | .ret,_,Q,t,d,w,_,h=>wpIn_ret ⟨by simp,t,d,rfl,cR _ _,λ _=>rfl,h⟩
  | .region id ops draw,_,Q,t,d,w,_,h=>by
    have hds:∀ (i:Nat) (o:Oper),ops[i]? = some o->∀ d,o.dst=some d->d∈ops.toList.filterMap (·.dst):=λ i o ho d hd =>
      List.mem_filterMap.2 ⟨o,by simpa using Array.mem_of_getElem? ho,hd⟩
    simp only[CS] at h
    cases hn:cJ ops.toList with
    | false =>
      rw[hn] at h
      cases draw with
      | true=>exact h.elim
      | false =>
        obtain rfl:ro=none:=by
          rcases ‹ro=none\/_› with h | h
          · exact h
          · simp only[calm,hn] at h; cases h
        refine wpIn_region_list (qj (ds:=jc (.region id ops false)) (t0:=t) ops.toList t d w _ (λ t' d' w' ha hk=>⟨by simp,t',d',rfl,ha,λ hc=>?_,hk⟩) (λ o ho d hd=>List.mem_filterMap.2 ⟨o,ho,hd⟩) (cR _ _) h);simp only[calm,hn] at hc; cases hc
    | true =>
    rw[hn,cond_true] at h
    cases draw with
    | false =>
      refine wpIn_region_list (zE (d:=d) (ds:=jc (.region id ops false)) (t0:=t) ops.toList t w _ hn (λ t' w' ha hk=>⟨by simp,t',d,rfl,ha,λ _=>rfl,hk⟩) (λ o ho d hd=>List.mem_filterMap.2 ⟨o,ho,hd⟩) (cR _ _) h)
    | true =>
      obtain⟨h1,h2⟩:=gi h;simp only[Bool.and_eq_true] at h1;have hnd:∀ (j:Nat) (o:Oper),ops[j]? = some o->cP o.op=true:=λ j o ho=>by
        have:=List.all_eq_true.1 hn o (by simpa using Array.mem_of_getElem? ho);exact this
      refine wpIn_region_any h1.1 (si _ _ [] _ _ ?_);refine pP (dd:=d) (ds:=jc (.region id ops true)) (t0:=t) (K:=λ t w=>Q .normal t d w) hnd h1.2 (λ c a w h=>h.1 c rfl) (λ t' w' ha hk=>⟨by simp,t',d,rfl,ha,λ _=>rfl,hk⟩) hds _ _ [] t _ (cR _ _) ?_ (λ p hp=>by cases hp) h2;intro j o _ hj;rcases Nat.lt_or_ge j ops.size with h | h<;>simp[h] at hj
  | .seq a b,p,Q,t,d,w,hc,h=>by
    have hca:ro=none\/calm a=true:=hc.imp id λ h=>by simp only[calm,Bool.and_eq_true] at h; exact h.1
    have hcb:ro=none\/calm b=true:=hc.imp id λ h=>by simp only[calm,Bool.and_eq_true] at h; exact h.2
    refine wpIn_seq ?_;simp only[CS] at h
    split at h
    · refine wpIn_mono (ie hsc a _ _ t d w hca h) (λ e a' w' hq=>?_);obtain⟨hp,t',d',rfl,ha,hd,hq⟩:=hq
      cases e with
      | normal =>
        refine wpIn_mono (ie hsc b _ _ t' d' w' hcb hq) (λ e a'' w'' hq'=>?_);obtain⟨hp',t'',d'',rfl,ha',hd',hq'⟩:=hq';refine⟨hp',t'',d'',rfl,pS ha ha',λ hk=>?_,hq'⟩;simp only[calm,Bool.and_eq_true] at hk;rw[hd' hk.2,hd hk.1]
      | panic c=>exact absurd rfl (hp c)
      | _=>exact⟨hp,t',d',rfl,iT (λ d hd=>List.mem_append_left _ hd) ha,λ hk=>hd (by simp only[calm,Bool.and_eq_true] at hk; exact hk.1),hq⟩
    · obtain⟨hk0,J,hb,h⟩:=gi h;refine wpIn_mono (ie hsc a _ _ t d w hca h) (λ e a' w' hq=>?_);obtain⟨hp,t',d',rfl,ha,hd,hq⟩:=hq;obtain rfl:=hd hk0
      cases e with
      | normal =>
        obtain⟨j,h1,h2⟩:=kH hq;have h3:=h2 _ (hb w') h1 (gt t');rw[fill_eq ha] at h3;refine wpIn_mono (ie hsc b _ _ t' d' w' hcb h3) (λ e a'' w'' hq'=>?_);obtain⟨hp',t'',d'',rfl,ha',hd',hq'⟩:=hq';refine⟨hp',t'',d'',rfl,pS ha ha',λ hk=>?_,hq'⟩;simp only[calm,Bool.and_eq_true] at hk;exact hd' hk.2
      | panic c=>exact absurd rfl (hp c)
      | _=>exact⟨hp,t',d',rfl,iT (λ d hd=>List.mem_append_left _ hd) ha,λ _=>rfl,hq⟩
  | .cond c a b,p,Q,t,d,w,hc,h=>by
    simp only[CS] at h
    split at h
    · rename_i x hx;refine wpIn_cond (t:=x) (by rw[fG]; exact hx) ?_
      cases x with
      | true =>
        refine wpIn_mono (ie hsc a _ _ t d w (hc.imp id λ h=>by simp only[calm,Bool.and_eq_true] at h; exact h.1) h) (λ e a' w' hq=>?_);obtain⟨hp,t',d',rfl,ha,hd,hq⟩:=hq;exact⟨hp,t',d',rfl,iT (λ d hd=>List.mem_append_left _ hd) ha,λ hk=>hd (by simp only[calm,Bool.and_eq_true] at hk; exact hk.1),hq⟩
      | false =>
        refine wpIn_mono (ie hsc b _ _ t d w (hc.imp id λ h=>by simp only[calm,Bool.and_eq_true] at h; exact h.2) h) (λ e a' w' hq=>?_);obtain⟨hp,t',d',rfl,ha,hd,hq⟩:=hq;exact⟨hp,t',d',rfl,iT (λ d hd=>List.mem_append_right _ hd) ha,λ hk=>hd (by simp only[calm,Bool.and_eq_true] at hk; exact hk.2),hq⟩
    · exact h.elim
  | .block id c,p,Q,t,d,w,hc,h=>by
    refine wpIn_block (wpIn_mono (ie hsc c _ _ t d w hc h) (λ e a' w' hq=>?_));obtain⟨hp,t',d',rfl,ha,hd,hq⟩:=hq
    cases e with
    | exit i =>
      simp only[Exit.inBlock];simp only[Sv] at hq
      cases hb:Nat.beq i id with
      | true=>rw[hb] at hq; rw[if_pos (Nat.eq_of_beq_eq_true hb)]; exact⟨by simp,t',d',rfl,ha,hd,hq⟩
      | false =>
        rw[hb] at hq;rw[if_neg (λ e=>by rw[e,Nat.beq_refl] at hb; cases hb)];exact⟨by simp,t',d',rfl,ha,hd,hq⟩
    | _=>exact⟨hp,t',d',rfl,ha,hd,hq⟩
  | .loop c,p,Q,t,d,w,hc,h=>by
    simp only[CS] at h
    split at h
    · refine wpIn_loop_once (wpIn_mono (ie hsc c _ _ t d w hc h) (λ e a'' w'' hq'=>?_));obtain⟨hp',t'',d'',rfl,ha',hd',hq'⟩:=hq'
      cases e with
      | normal=>exact hq'.elim
      | panic c=>exact absurd rfl (hp' c)
      | _=>exact⟨hp',t'',d'',rfl,ha',hd',hq'⟩
    · rename_i lv hlv;obtain⟨hk0,I,h0,hr⟩:=gi h;obtain⟨i0,⟨m,h1⟩,h2⟩:=kH h0;refine wpIn_loop_ghost (λ n a w=>∃ t' i,a=fm t' d/\Bl (jc c) t t'/\i w n/\∀ G,HQ lv I G->G (rY lv t') i) m ⟨t,i0,rfl,cR _ _,h1,h2⟩ ?_;rintro n a w' ⟨t',i1,rfl,ha,hI,hG⟩;have h3:=hG _ (hr w' n) hI (gt t');rw[fill_eq ha] at h3;refine wpIn_mono (ie hsc c _ _ t' d w' hc h3) (λ e a'' w'' hq'=>?_);obtain⟨hp',t'',d'',rfl,ha',hd',hq'⟩:=hq';obtain rfl:=hd' hk0;have hag:Bl (jc c) t t'':=iT (λ d hd=>(List.mem_append.1 hd).elim id id) (pS ha ha')
      cases e with
      | normal =>
        obtain⟨i2,⟨m',hm,h4⟩,h5⟩:=kH hq';exact⟨m',hm,t'',i2,rfl,hag,h4,h5⟩
      | panic c=>exact absurd rfl (hp' c)
      | _=>exact⟨hp',t'',d'',rfl,hag,λ _=>rfl,hq'⟩
  | .rangeFunc g ps assign body,p,Q,t,d,w,hc,h=>by
    simp only[CS,yY] at h
    split at h
    · rename_i gf first lb hg
      obtain⟨he,hh⟩:=gi h;clear h;simp only[Bool.and_eq_true,Array.isEmpty_iff] at he;obtain⟨rfl,he⟩:=he;obtain rfl:ro=none:=hc.resolve_right (by simp[calm]);refine wpIn_rangeFunc λ fn _=>?_;refine⟨w.heap.size+1,[{ target:=.collected w.heap.size,args:=#[] }],((w.alloc (.deferred (some []))).alloc (.loop { state:=.ready,pending:=none,fn:=fn,tmps:=t.toArray,params:=ps,assign:=assign,body:=body,defers:=w.heap.size })),
        { target:=.fn (.func gf) lb,args:=#[.func (.yield (w.heap.size+1)) #[] #[]] },((w.alloc (.deferred (some []))).alloc (.loop { state:=.ready,pending:=none,fn:=fn,tmps:=t.toArray,params:=ps,assign:=assign,body:=body,defers:=w.heap.size })),gf,
        #[.func (.yield (w.heap.size+1)) #[] #[]]++lb,((w.alloc (.deferred (some []))).alloc (.loop { state:=.ready,pending:=none,fn:=fn,tmps:=t.toArray,params:=ps,assign:=assign,body:=body,defers:=w.heap.size })),run_enterLoop_outer _ _ _ _ _,?_,λ _ _=>trivial,?_,λ h=>(by cases h),?_⟩
      · simp only[resolve,fG,hg];simp[go_sem,ev,Deferred.ofValue]
      · simp[invoke,go_sem,jd he]
      · have h1:=hh fn;have h2:(Value.func (.yield (w.heap.size+1)) #[] #[] :: lb.toList).toArray = #[.func (.yield (w.heap.size+1)) #[] #[]]++lb:=by simp
        rw[h2] at h1;refine CallsIn.mono (callsIn_wide.2 h1) λ e w2 hq=>?_;obtain⟨⟨v,rfl⟩,r,hr,hb,hq⟩:=hq;refine⟨r.pending,_,run_endLoop hr hb,?_⟩
        split at hq
        · rename_i hp;rw[hp] at hq ⊢;exact⟨by simp,t,_,rfl,cR _ _,λ h=>(by cases h),hq⟩
        · rename_i hp;rw[hp] at hq ⊢;exact wpIn_ret ⟨by simp,t,_,rfl,cR _ _,λ h=>(by cases h),(gi hq).2⟩
        · rename_i i hp;rw[hp] at hq ⊢;exact wpIn_exit ⟨by simp,t,_,rfl,cR _ _,λ h=>(by cases h),DS (F:=λ i w'=>Q (.exit i) t ({ target:=.collected w.heap.size,args:=#[] } :: d) w') hq⟩
        · exact hq.elim
    · exact h.elim
  | .scope c,p,Q,t,d,w,hc,h=>by
    obtain rfl:ro=none:=hc.resolve_right (by simp[calm]);refine TF.2 (mO ?_);have h1:=ze (cur:=c) hsc (λ _ h=>h) (ie hsc c (2*p) _ t d w (.inl rfl) h);exact h1.mono λ e a w ⟨hp,t',d',h2,h3,h4⟩=>⟨hp,t',d',h2,h3,λ hk=>(by simp[calm] at hk),h4⟩
  | .goto l,_,Q,t,d,w,_,h=>wpIn_goto ⟨by simp,t,d,rfl,cR _ _,λ _=>rfl,h⟩
  | .refuse _,_,_,_,_,_,_,h=>h.elim
theorem F5{P:Program}{ann:Nat->Option Live}:∀ n,TZ P (TW P ann n)
  | 0=>λ _ _ _ _ _ _ _ _ h=>h.elim
  | n+1=>λ _ rest _ _ t d w hd h=>ze (F5 n) hd (ie (F5 n) rest _ _ t d w (.inl rfl) h)
theorem HJ{P:Program}{ann:Nat->Option Live}{ro:Option Nat}(c:Code)(p:Nat)(Q:Exit->Tm->Df->World->Prop)(t:Tm)(d:Df)(w:World)(hc:ro=none\/calm c=true)(h:vc P ann c p Q t d w):c.wpIn (FW ro) 0 P (lift t d c Q) (fm t d) w:=ie (F5 2) c p Q t d w hc h
def Cr(P:Program):List ResultVar->Tm->World->(List Value->Prop)->Prop
  | [],_,_,F=>F []
  | .tmp s :: rs,t,w,F=>Cr P rs t w λ vs=>F (gt t s :: vs)
  | .cell a ty :: rs,t,w,F=>SV P ty (gt t a) w λ v _=>Cr P rs t w λ vs=>F (v :: vs)
def LV:List Value->Value
  | [v]=>v
  | vs=>.tuple vs.toArray
def EP(P:Program)(g:FuncId)(args:Array Value)(w:World)(R:World->Prop):Prop :=
  bM P g=true/\CallsDIn (FW none) 0 P g args .returning w λ e u w'=>∃ v,e=.returned v/\u=.returning/\R w'
def Sb(P:Program)(fn:Func)(t:Tm)(K:KP):Df->World->Prop
  | [],w=>Cr P fn.results.toList t w λ vs=>K (LV vs) w
  | d :: ds,w=>match d.target with
    | .collected r=>w.heap[r]? = some (.deferred (some []))/\Sb P fn t K ds (w.putObj r (.deferred none))
    | .fn (.func g) y=>EP P g (d.args++y) w λ w'=>Sb P fn t K ds w'
    | _=>False
def O9(P:Program)(fn:Func)(K:KP):Exit->Tm->Df->World->Prop
  | .normal,t,d,w=>Sb P fn t K d w
  | .ret,t,d,w=>Sb P fn t K d w
  | _,_,_,_=>False
def zV(t:Tm):ResultVar->Sem Value
  | .tmp s=>pure (t.toArray.getD s undef)
  | .cell a ty=>do loadVar ty (<- asAddr (t.toArray.getD a undef))
theorem y6{P:Program}{w:World}{t:Tm}:∀ (rs:List ResultVar) (F:List Value->Prop),Cr P rs t w F ->
    ∃ vs,(rs.mapM (zV t)).run P w=.ok vs w/\F vs
  | [],F,h=>⟨[],by simp,h⟩
  | .tmp s :: rs,F,h=>by
    obtain⟨vs,hr,hF⟩:=y6 rs _ h;exact⟨_,by simp only[List.mapM_cons,zV,Sem.run_bind,Sem.run_pure,Result.andThen_ok,hr,yB],hF⟩
  | .cell a ty :: rs,F,h=>by
    obtain⟨v,T,h1,h2,h3⟩:=B3 h;obtain⟨vs,hr,hF⟩:=y6 rs _ h3;refine⟨v :: vs,?_,hF⟩;have h4:=h2 w h1;rw[yB] at h4;have h5:(zV t (.cell a ty)).run P w=.ok v w:=by
      show(Sem.bind (asAddr (t.toArray.getD a undef)) λ p=>loadVar ty p).run P w=.ok v w;rw[Sem.run_bind'];generalize t.toArray.getD a undef=x at h4 ⊢
      cases x with
      | pointer p=>cases p with
        | none=>simp[Instr.loadAt,Instr.sureAddr] at h4
        | some p=>simpa[Instr.loadAt,Instr.sureAddr,asAddr] using h4
      | _=>simp[Instr.loadAt,Instr.sureAddr] at h4
    rw[List.mapM_cons,Sem.run_bind,h5];simp only[Result.andThen_ok,Sem.run_bind,hr,Sem.run_pure]
def dw(fn:Func):Code:=fn.body.getD .skip
theorem Ct{P:Program}{fn:Func}{t:Tm}{w:World}{K:KP}(hr:Cr P fn.results.toList t w λ vs=>K (LV vs) w) :
    ∃ v,(results fn t.toArray).run P w=.ok v w/\K v w:=by
  obtain⟨vs,hrun,hk⟩:=y6 _ _ hr;refine⟨LV vs,?_,hk⟩;have h3:results fn t.toArray=(do
      let vs <- fn.results.mapM (zV t)
      pure (if h:vs.size=1 then vs[0] else .tuple vs)):=by
    unfold results;have:(λ r=>match r with
        | .tmp i=>(pure (t.toArray.getD i undef):Sem Value)
        | .cell a i=>do loadVar i (<- asAddr (t.toArray.getD a undef)))=zV t:=by
      funext x; cases x<;>rfl
    rw[<- this];rfl
  rw[h3,Array.mapM_eq_mapM_toList];simp only[Sem.run_map,bind_pure_comp,hrun,Result.andThen_ok]
  cases vs with
  | nil=>rfl
  | cons v vs=>cases vs<;>rfl
theorem iI{P:Program}{fn:Func}{t:Tm}{K:KP}:∀ (d:Df) (w:World),Sb P fn t K d w ->
    LeavesInM (FW none) 0 P fn t.toArray (λ e w'=>∃ v,e=.returned v/\K v w') d .returning w
  | [],w,h=>by
    obtain⟨v,hr,hk⟩:=Ct h;exact⟨v,hr,v,rfl,hk⟩
  | d :: ds,w,h=>by
    refine⟨by simp,?_⟩;simp only[Sb] at h
    split at h
    · rename_i r hr;exact .inl ⟨r,_,hr,run_takeDeferred h.1,iI ds _ h.2⟩
    · rename_i g y hr;obtain⟨he,h⟩:=h;refine .inr ⟨λ h=>(by cases h),Fn.func g,y,g,d.args++y,hr,?_,λ _ _=>trivial,CallsDIn.mono h ?_⟩
      · rw[hr]; exact jd he _ w
      · rintro e u w' ⟨v,rfl,rfl,hk⟩;exact iI ds w' hk
    · exact h.elim
theorem De{P:Program}{ann:Nat->Option Live}{f:FuncId}{fn:Func}{c:Code}{args:List Value}{w:World}{K:KP}(hf:P.funcs[f]? = some fn)(hb:fn.body=some c)(h:vc P ann c 1 (O9 P fn K) (args++List.replicate (fn.ntmps-args.length) undef) [] w) :
    Calls P f args.toArray w λ e w'=>∃ v,e=.returned v/\K v w':=by
  refine(callsIn_wide (n:=0)).1 (callsIn_of_wp_marks hf hb trivial ?_ rfl);have h1:({ tmps:=args.toArray++Array.replicate (fn.ntmps-args.toArray.size) undef,defers:=[] }:Act)=fm (args++List.replicate (fn.ntmps-args.length) undef) []:=by
    simp[fm]
  rw[h1];refine wpIn_mono (HJ (ro:=none) c 1 _ _ _ w (.inl rfl) h) (λ e a' w' hq=>?_);obtain⟨hp,t',d',rfl,_,_,hq⟩:=hq
  cases e with
  | normal=>exact iI d' w' hq
  | ret=>exact iI d' w' hq
  | panic c=>exact absurd rfl (hp c)
  | _=>exact hq.elim
theorem E5{P:Program}{ann:Nat->Option Live}{f:FuncId}{fn:Func}{c:Code}{args:List Value}{w:World}{R:World->Prop}(hf:P.funcs[f]? = some fn)(hb:fn.body=some c)(he:bM P f=true) (h:vc P ann c 1 (λ e t d w=>match e with
      | .normal=>d=[]/\Cr P fn.results.toList t w λ _=>R w
      | .ret=>d=[]/\Cr P fn.results.toList t w λ _=>R w
      | _=>False) (args++List.replicate (fn.ntmps-args.length) undef) [] w):EP P f args.toArray w R:=by
  refine⟨he,CallsDIn.mono (callsDIn_of_wp (R:=λ e w'=>∃ v,e=.returned v/\R w') hf hb trivial ?_) ?_⟩
  · have h1:({ tmps:=args.toArray++Array.replicate (fn.ntmps-args.toArray.size) undef,defers:=[] }:Act)=fm (args++List.replicate (fn.ntmps-args.length) undef) []:=by
      simp[fm]
    rw[h1];refine wpIn_mono (HJ (ro:=none) c 1 _ _ _ w (.inl rfl) h) (λ e a' w' hq=>?_);obtain⟨hp,t',d',rfl,_,_,hq⟩:=hq
    cases e with
    | normal =>
      obtain⟨rfl,hq⟩:=hq;obtain⟨v,hr,hk⟩:=Ct (K:=λ _ w=>R w) hq;exact⟨rfl,v,hr,v,rfl,hk⟩
    | ret =>
      obtain⟨rfl,hq⟩:=hq;obtain⟨v,hr,hk⟩:=Ct (K:=λ _ w=>R w) hq;exact⟨rfl,v,hr,v,rfl,hk⟩
    | panic c=>exact absurd rfl (hp c)
    | _=>exact hq.elim
  · rintro e u w' ⟨rfl,v,rfl,hk⟩;exact⟨v,rfl,rfl,hk⟩
theorem MN{P:Program}(ann:Nat->Option Live){f:FuncId}{fn:Func}{args:List Value}{w:World}{R:World->Prop}{S:Prop}(hf:P.funcs[f]? = some fn)(hb:fn.body.isSome=true)(he:bM P f=true) (h:S=vc P ann (dw fn) 1 (λ e t d w=>match e with
      | .normal=>d=[]/\Cr P fn.results.toList t w λ _=>R w
      | .ret=>d=[]/\Cr P fn.results.toList t w λ _=>R w
      | _=>False) (args++List.replicate (fn.ntmps-args.length) undef) [] w) (hS:S):EP P f args.toArray w R:=by
  obtain⟨c,hc⟩:=Option.isSome_iff_exists.1 hb;refine E5 (ann:=ann) hf hc he ?_;have:dw fn=c:=by simp[dw,hc]
  rw[<- this];exact h▸hS
def UX(l:Nat)(K:Bool->World->Prop):Exit->Tm->Df->World->Prop
  | .normal,_,_,w=>∃ r,w.heap[l]? = some (.loop r)/\K true (w.putObj l (.loop { r with state:=.ready,pending:=none }))
  | .ret,_,_,w=>∃ r,w.heap[l]? = some (.loop r)/\K false (w.putObj l (.loop { r with state:=.done,pending:=some .ret }))
  | .exit i,_,_,w=>∃ r,w.heap[l]? = some (.loop r)/\K false (w.putObj l (.loop { r with state:=.done,pending:=some (.exit i) }))
  | _,_,_,_=>False
def T4(l:Nat)(F:Tm->World->Prop):Exit->Tm->Df->World->Prop
  | .normal,t,_,w=>∃ r,w.heap[l]? = some (.loop r)/\r.state=.ready/\F t (w.putObj l (.loop { r with state:=.busy }))
  | _,_,_,_=>False
def Cn:List Tmp->List Value->Tm->Tm
  | p :: ps,v :: vs,t=>Cn ps vs (st t p v)
  | _,_,t=>t
def Td(P:Program)(ann:Nat->Option Live)(l:Nat)(assign body:Code)(K:Bool->World->Prop)(t:Tm)(w:World):Prop :=
  vc P ann assign 2 (T4 l λ t w=>vc P ann body 3 (UX l K) t [] w) t [] w
theorem Hl:∀ (ps:List Tmp) (vs:List Value) (t:Tm),((ps.zip vs).foldl (λ (tm:Array Value) (x:Tmp×Value)=>tm.setIfInBounds x.1 x.2) t.toArray)=(Cn ps vs t).toArray
  | [],vs,t=>by simp[Cn]
  | p :: ps,[],t=>by simp[Cn]
  | p :: ps,v :: vs,t=>by
    have:=Hl ps vs (st t p v);simp only[List.zip_cons_cons,List.foldl_cons,Cn];rw[<- this,LB]
    simp
theorem Jf{P:Program}{ann:Nat->Option Live}{l:Nat}{args:List Value}{w:World}{K:Bool->World->Prop}{r:Loop}{t:Tm}(hl:w.heap[l]? = some (.loop r))(ht:r.tmps=t.toArray)(hs:args.length=r.params.size)(hc:(calm r.assign&&calm r.body)=true)(h:Td P ann l r.assign r.body K (Cn r.params.toList args t) w):lU P l args.toArray w K:=by
  simp only[Bool.and_eq_true] at hc;have hy:=run_yield (P:=P) (args:=args.toArray) hl (by simpa using hs);refine⟨_,_,_,_,hy,roundIn_of_wpIn (F:=Fence.wide) trivial ?_⟩;have h1:(r.params.zip args.toArray).foldl (λ tmps (x:Tmp×Value)=>tmps.setIfInBounds x.1 x.2) r.tmps=(Cn r.params.toList args t).toArray:=by
    rw[<- Hl,ht,<- Array.foldl_toList]
    congr 1
    simp
  have h2:({ tmps:=(r.params.zip args.toArray).foldl (λ tmps (x:Tmp×Value)=>tmps.setIfInBounds x.1 x.2) r.tmps,defers:=[] }:Act)=fm (Cn r.params.toList args t) []:=by
    rw[h1]; rfl
  refine wpIn_mono (show Code.wpIn (FW (some l)) 0 P r.assign _ _ w from h2▸HJ (ro:=some l) _ _ _ _ _ _ (.inr hc.1) h) λ e a' w' hq=>?_;obtain⟨hp,t',d',rfl,_,hd,hq⟩:=hq;obtain rfl:=hd hc.1
  cases e with
  | normal =>
    obtain⟨r1,hr1,hst,hq⟩:=hq;refine⟨_,run_beginRound hr1 hst,?_⟩;refine wpIn_mono (show Code.wpIn (FW (some l)) 0 P r.body _ _ _ from HJ (ro:=some l) _ _ _ _ _ _ (.inr hc.2) hq) λ e a'' w'' hq=>?_;obtain⟨hp,t'',d'',rfl,_,_,hq⟩:=hq
    cases e with
    | normal=>obtain⟨r2,hr2,hk⟩:=hq; exact⟨_,_,run_endRound none hr2,_,rfl,hk⟩
    | ret=>obtain⟨r2,hr2,hk⟩:=hq; exact⟨_,_,run_endRound (some .ret) hr2,_,rfl,hk⟩
    | exit i=>obtain⟨r2,hr2,hk⟩:=hq; exact⟨_,_,run_endRound (some (.exit i)) hr2,_,rfl,hk⟩
    | panic c=>exact absurd rfl (hp c)
    | _=>exact hq.elim
  | panic c=>exact absurd rfl (hp c)
  | _=>exact hq.elim
def xC(K:KP):Ending->World->Prop:=λ e w'=>∃ v,e=.returned v/\K v w'
theorem an{P:Program}(ann:Nat->Option Live){f:FuncId}{fn:Func}{args:List Value}{w:World}{K:KP}{S:Prop}(hf:P.funcs[f]? = some fn)(hb:fn.body=some (dw fn))(h:S=vc P ann (dw fn) 1 (O9 P fn K) (args++List.replicate (fn.ntmps-args.length) undef) [] w)(hS:S) :
    Calls P f args.toArray w (xC K):=De hf hb (h▸hS)
def aH(l:List (Nat×Live))(p:Nat):Option Live :=
  match l with
  | []=>none
  | (q,lv) :: l=>cond (Nat.beq q p) (some lv) (aH l p)
def Cv:Code->Nat->Nat->Option (Array Tmp×Code×Code)
  | .seq a b,p,q=>(Cv a (2*p) q).or (Cv b (2*p+1) q)
  | .cond _ a b,p,q=>(Cv a (2*p) q).or (Cv b (2*p+1) q)
  | .block _ a,p,q=>Cv a (2*p) q
  | .loop a,p,q=>Cv a (2*p) q
  | .rangeFunc _ ps a b,p,q=>cond (Nat.beq p q) (some (ps,a,b)) none
  | _,_,_=>none
def Ov(c:Code)(q:Nat):Array Tmp:=((Cv c 1 q).getD (#[],.skip,.skip)).1
def Ot(c:Code)(q:Nat):Code:=((Cv c 1 q).getD (#[],.skip,.skip)).2.1
def Ou(c:Code)(q:Nat):Code:=((Cv c 1 q).getD (#[],.skip,.skip)).2.2
theorem EF{P:Program}(ann:Nat->Option Live){l:Nat}{args:List Value}{w:World}{K:Bool->World->Prop}{r:Loop}{t:Tm}{ps:Array Tmp}{asg bdy:Code}{S:Prop}(hl:w.heap[l]? = some (.loop r))(ht:r.tmps=t.toArray)(hp:r.params=ps)(ha:r.assign=asg)(hb:r.body=bdy)(hs:args.length=ps.size)(hc:(calm asg&&calm bdy)=true)(h:S=Td P ann l asg bdy K (Cn ps.toList args t) w)(hS:S):lU P l args.toArray w K:=by
  subst hp ha hb;exact Jf hl ht hs hc (h▸hS)
abbrev iv (n:Int):Value:=.int .i64 n
def I6.on(u:I6)(l:List Value):List Value:=iv u.a :: iv u.b :: iv u.c :: iv u.d :: iv u.e :: iv u.f :: l
def z6:I6:=⟨0,0,0,0,0,0⟩
def I6.beq(u v:I6):Bool:=(u.a==v.a)&&((u.b==v.b)&&((u.c==v.c)&&((u.d==v.d)&&((u.e==v.e)&&((u.f==v.f)&&true)))))
def aQ(w:World)(a:Addr)(v:Value)(R:World->Prop):Prop :=
  v.oneCell' = true/\(∃ x,w.cell? a=some x)/\w.frozen? a=false/\R (w.setCell a v)
def aP(a:Addr):Nat->List Value->World->(World->Prop)->Prop
  | _,[],w,R=>R w
  | i,v :: vs,w,R=>aQ w (a.add i) v λ w'=>aP a (i+1) vs w' R
def av(w:World)(o:Obj)(R:Nat->World->Prop):Prop:=R w.heap.size (w.alloc o)
def rq(k:IntKind)(x y:Int):Int:=k.wrap ((BitVec.ofInt k.bits x &&& BitVec.ofInt k.bits y).toNat:Int)
def UW(k:IntKind)(x y:Int):Int:=k.wrap ((BitVec.ofInt k.bits x ||| BitVec.ofInt k.bits y).toNat:Int)
def R5(k:IntKind)(x y:Int):Int:=k.wrap ((BitVec.ofInt k.bits x ^^^ BitVec.ofInt k.bits y).toNat:Int)
def bs(l:List UInt8):ByteArray:=⟨l.toArray⟩
end Go.Vc
namespace Go.Proofs.YtjpbdjhaajdepaaGreatDoor
open Go Go.Vc
abbrev CP (f:FuncId) (a:Array Value) (w:World) (K:KP):Prop:=Calls Tryz.prog f a w (xC K)
end Go.Proofs.YtjpbdjhaajdepaaGreatDoor

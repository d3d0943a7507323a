import Derived.ScopeJumps
import Derived.Test.YtbnolaiklhbkkaaGreatDoorProg
import Derived.Laws.AppendOwn
import Derived.Laws.MakeOwn
import Derived.Laws.CopyRow
import Derived.Laws.IdiomCopy
import Derived.Laws.BytesArg
import Derived.IntWalk
import Derived.Laws.Bits64
import Derived.Laws.Strings
import Derived.Deep.Slices
import Derived.OpenShut
import Derived.Test.YtbnolaiklhbkkaaGreatDoorG00
set_option linter.unusedVariables false
set_option maxRecDepth 100000
namespace Go.Vc
def iP:Code->List Nat
 | .region _ ops _=>ops.toList.filterMap (·.dst)
 | .seq a b=>iP a++iP b
 | .cond _ a b=>iP a++iP b
 | .block _ c=>iP c
 | .loop c=>iP c
 | .scope c=>iP c
 | _=>[]
theorem iR:∀ {c:Code} {l:Nat} {rest:Code},findLabel c l=some rest->∀ x∈iP rest,x∈iP c
 | .seq a b,l,rest,h,x,hx=>by
  simp only[findLabel] at h
  split at h
  ·rename_i r hr
   cases h
   simp only[iP,List.mem_append] at hx ⊢;exact hx.imp (iR hr x) id
  ·exact List.mem_append_right _ (iR h x hx)
 | .label l',l,rest,h,x,hx=>by
  simp only[findLabel] at h
  split at h
  ·cases h; exact hx
  ·cases h
 | .skip,_,_,h,_,_=>by simp[findLabel] at h
 | .region ..,_,_,h,_,_=>by simp[findLabel] at h
 | .cond ..,_,_,h,_,_=>by simp[findLabel] at h
 | .block ..,_,_,h,_,_=>by simp[findLabel] at h
 | .loop ..,_,_,h,_,_=>by simp[findLabel] at h
 | .exit ..,_,_,h,_,_=>by simp[findLabel] at h
 | .ret,_,_,h,_,_=>by simp[findLabel] at h
 | .goto ..,_,_,h,_,_=>by simp[findLabel] at h
 | .scope ..,_,_,h,_,_=>by simp[findLabel] at h
 | .rangeFunc ..,_,_,h,_,_=>by simp[findLabel] at h
 | .refuse ..,_,_,h,_,_=>by simp[findLabel] at h
abbrev Live:=List (Nat×TK)
def FM:List Nat->Nat->Bool
 | [],_=>false
 | x :: l,n=>cond (Nat.beq x n) true (FM l n)
theorem Bb:∀ {l:List Nat} {n:Nat},FM l n=true<->n∈l
 | [],n=>by simp[FM]
 | x :: l,n=>by
  simp only[FM,List.mem_cons]
  cases h:Nat.beq x n with
  | true=>simp[Nat.eq_of_beq_eq_true h]
  | false =>
   have:n≠x:=λ e=>by rw[e,Nat.beq_refl] at h; cases h
   simp[Bb,this]
def lk:List (Nat×Value)->Nat->Option Value
 | [],_=>none
 | (s,v) :: l,n=>cond (Nat.beq s n) (some v) (lk l n)
def GK:Live->List Value->List (Nat×Value)
 | (s,_) :: l,v :: vs=>(s,v) :: GK l vs
 | _,_=>[]
def oG(mods:List Nat)(lv:List (Nat×Value))(d:Nat->Value):Nat->Tm->Tm
 | _,[]=>[]
 | i,x :: t=>(match lk lv i with|some v=>v|none=>cond (FM mods i) (d i) x) :: oG mods lv d (i+1) t
def SJ:SK->Type->Type
 | .int _,X=>Int->X
 | .bool,X=>Bool->X
 | .str,X=>ByteArray->X
 | .ptr,X=>Option Addr->X
 | .slice,X=>Option Addr->Nat->Nat->X
 | .map,X=>Option Nat->X
 | .blk,X=>Nat->X
 | .six,X=>I6->X
 | .raw,X=>Value->X
def LJ:List SK->Type->Type
 | [],X=>X
 | k :: ks,X=>SJ k (LJ ks X)
def VJ:Live->Type->Type
 | [],X=>X
 | (_,.s k) :: l,X=>SJ k (VJ l X)
 | (_,.agg ks) :: l,X=>LJ ks (VJ l X)
def SF{X:Type}:(k:SK)->SJ k X->(Value->X->Prop)->Prop
 | .int k,J,F=>∀ n:Int,F (.int k n) (J n)
 | .bool,J,F=>∀ b:Bool,F (.bool b) (J b)
 | .str,J,F=>∀ s:ByteArray,F (.string s) (J s)
 | .ptr,J,F=>∀ p:Option Addr,F (.pointer p) (J p)
 | .slice,J,F=>∀ (a:OA) (l c:Nat),F (.slice a l c) (J a l c)
 | .map,J,F=>∀ r:Option Nat,F (.map r) (J r)
 | .blk,J,F=>∀ r:Nat,F (.pointer (some ⟨r,0,none⟩)) (J r)
 | .six,_,_=>True
 | .raw,J,F=>∀ v:Value,F v (J v)
def SE{X:Type}:(k:SK)->SJ k X->(List Value->X->Prop)->Prop
 | .int k,J,F=>∀ n:Int,F [.int k n] (J n)
 | .bool,J,F=>∀ b:Bool,F [.bool b] (J b)
 | .str,J,F=>∀ s:ByteArray,F [.string s] (J s)
 | .ptr,J,F=>∀ p:Option Addr,F [.pointer p] (J p)
 | .slice,J,F=>∀ (a:OA) (l c:Nat),F [.slice a l c] (J a l c)
 | .map,J,F=>∀ r:Option Nat,F [.map r] (J r)
 | .blk,J,F=>∀ r:Nat,F [.pointer (some ⟨r,0,none⟩)] (J r)
 | .six,J,F=>∀ u:I6,F u.vs (J u)
 | .raw,J,F=>∀ v:Value,F [v] (J v)
def Qp{X:Type}:(ks:List SK)->LJ ks X->(List Value->X->Prop)->Prop
 | [],J,F=>F [] J
 | k :: ks,J,F=>SE k J λ xs J=>Qp ks J λ vs J=>F (xs++vs) J
def Iq{X:Type}:(l:Live)->VJ l X->(List Value->X->Prop)->Prop
 | [],J,F=>F [] J
 | (_,.s k) :: l,J,F=>SF k J λ v J=>Iq l J λ vs J=>F (v :: vs) J
 | (_,.agg ks) :: l,J,F=>Qp ks J λ cs J=>Iq l J λ vs J=>F (.agg cs.toArray :: vs) J
def Al{X:Type}:(k:SK)->SJ k X->Value->(X->Prop)->Prop
 | .int k,J,v,F=>match v with
  | .int k' n=>cond (MX k k') (F (J n)) False
  | _=>False
 | .bool,J,v,F=>match v with
  | .bool b=>F (J b)
  | _=>False
 | .str,J,v,F=>match v with
  | .string s=>F (J s)
  | _=>False
 | .ptr,J,v,F=>match v with
  | .pointer p=>F (J p)
  | _=>False
 | .slice,J,v,F=>match v with
  | .slice a l c=>F (J a l c)
  | _=>False
 | .map,J,v,F=>match v with
  | .map r=>F (J r)
  | _=>False
 | .blk,J,v,F=>match v with
  | .pointer (some ⟨r,0,none⟩)=>F (J r)
  | _=>False
 | .six,_,_,_=>False
 | .raw,J,v,F=>F (J v)
def Nb{X:Type}:(k:SK)->SJ k X->List Value->(X->List Value->Prop)->Prop
 | .int k,J,vs,F=>match vs with
  | .int k' n :: r=>cond (MX k k') (F (J n) r) False
  | _=>False
 | .bool,J,vs,F=>match vs with
  | .bool b :: r=>F (J b) r
  | _=>False
 | .str,J,vs,F=>match vs with
  | .string s :: r=>F (J s) r
  | _=>False
 | .ptr,J,vs,F=>match vs with
  | .pointer p :: r=>F (J p) r
  | _=>False
 | .slice,J,vs,F=>match vs with
  | .slice a l c :: r=>F (J a l c) r
  | _=>False
 | .map,J,vs,F=>match vs with
  | .map m :: r=>F (J m) r
  | _=>False
 | .blk,J,vs,F=>match vs with
  | .pointer (some ⟨b,0,none⟩) :: r=>F (J b) r
  | _=>False
 | .six,J,vs,F=>match vs with
  | .int .i64 a :: .int .i64 b :: .int .i64 c :: .int .i64 d :: .int .i64 e :: .int .i64 f :: r=>F (J ⟨a,b,c,d,e,f⟩) r
  | _=>False
 | .raw,J,vs,F=>match vs with
  | v :: r=>F (J v) r
  | _=>False
def Nc{X:Type}:(ks:List SK)->LJ ks X->List Value->(X->Prop)->Prop
 | [],J,[],F=>F J
 | k :: ks,J,vs,F=>Nb k J vs λ J r=>Nc ks J r F
 | [],_,_ :: _,_=>False
def Ds{X:Type}:(l:Live)->VJ l X->Tm->(X->Prop)->Prop
 | [],J,_,F=>F J
 | (s,.s k) :: l,J,t,F=>Al k J (gt t s) λ J=>Ds l J t F
 | (s,.agg ks) :: l,J,t,F=>match gt t s with
  | .agg cs=>Nc ks J cs.toList λ J=>Ds l J t F
  | _=>False
theorem It{X:Type}{k:SK}{J:SJ k X}{v:Value}{F:X->Prop}(h:Al k J v F):∃ j,F j/\∀ G,SF k J G->G v j:=by
 cases k with
 | int k =>
  cases v<;>simp only[Al] at h
  obtain⟨hk,hR⟩:=jI h;have:=oB hk;subst this;exact⟨_,hR,λ G hG=>hG _⟩
 | bool=>cases v<;>simp only[Al] at h; exact⟨_,h,λ G hG=>hG _⟩
 | str=>cases v<;>simp only[Al] at h; exact⟨_,h,λ G hG=>hG _⟩
 | ptr=>cases v<;>simp only[Al] at h; exact⟨_,h,λ G hG=>hG _⟩
 | slice=>cases v<;>simp only[Al] at h; exact⟨_,h,λ G hG=>hG _ _ _⟩
 | map=>cases v<;>simp only[Al] at h; exact⟨_,h,λ G hG=>hG _⟩
 | blk =>
  simp only[Al] at h
  split at h
  ·exact⟨_,h,λ G hG=>hG _⟩
  ·exact h.elim
 | six=>exact h.elim
 | raw=>exact⟨_,h,λ G hG=>hG _⟩
theorem Is{X:Type}{k:SK}{J:SJ k X}{vs:List Value}{F:X->List Value->Prop}(h:Nb k J vs F):∃ j xs r,vs=xs++r/\F j r/\∀ G,SE k J G->G xs j:=by
 cases k<;>simp only[Nb] at h<;>split at h<;>first|exact h.elim|skip
 ·obtain⟨hk,hR⟩:=jI h;have:=oB hk;subst this;exact⟨_,[_],_,rfl,hR,λ G hG=>hG _⟩
 ·exact⟨_,[_],_,rfl,h,λ G hG=>hG _⟩
 ·exact⟨_,[_],_,rfl,h,λ G hG=>hG _⟩
 ·exact⟨_,[_],_,rfl,h,λ G hG=>hG _⟩
 ·exact⟨_,[_],_,rfl,h,λ G hG=>hG _ _ _⟩
 ·exact⟨_,[_],_,rfl,h,λ G hG=>hG _⟩
 ·exact⟨_,[_],_,rfl,h,λ G hG=>hG _⟩
 ·exact⟨_,[_,_,_,_,_,_],_,rfl,h,λ G hG=>hG ⟨_,_,_,_,_,_⟩⟩
 ·exact⟨_,[_],_,rfl,h,λ G hG=>hG _⟩
theorem AN{X:Type}:∀ {ks:List SK} {J:LJ ks X} {vs:List Value} {F:X->Prop},Nc ks J vs F->∃ j,F j/\∀ G,Qp ks J G->G vs j
 | [],J,[],F,h=>⟨J,h,λ G hG=>hG⟩
 | k :: ks,J,vs,F,h=>by
  obtain⟨j,xs,r,rfl,h1,h2⟩:=Is (show Nb k J vs λ J r=>Nc ks J r F from by cases vs<;>exact h);obtain⟨j',h3,h4⟩:=AN h1;exact⟨j',h3,λ G hG=>h4 (λ vs J=>G (xs++vs) J) (h2 _ hG)⟩
 | [],_,_ :: _,_,h=>h.elim
def rW(l:Live)(t:Tm):List Value:=l.map λ s=>gt t s.1
theorem kB{X:Type}{t:Tm}:∀ {l:Live} {J:VJ l X} {F:X->Prop},Ds l J t F->∃ j,F j/\∀ G,Iq l J G->G (rW l t) j
 | [],J,F,h=>⟨J,h,λ G hG=>hG⟩
 | (s,.s k) :: l,J,F,h=>by
  obtain⟨j,h1,h2⟩:=It (show Al k J (gt t s) λ J=>Ds l J t F from h);obtain⟨j',h3,h4⟩:=kB h1;exact⟨j',h3,λ G hG=>h4 (λ vs J=>G (gt t s :: vs) J) (h2 _ hG)⟩
 | (s,.agg ks) :: l,J,F,h=>by
  unfold Ds at h
  split at h
  ·rename_i cs hcs;obtain⟨j,h1,h2⟩:=AN h;obtain⟨j',h3,h4⟩:=kB h1;refine⟨j',h3,λ G hG=>?_⟩;have:=h4 (λ vs J=>G (.agg cs :: vs) J) (by simpa using h2 _ hG);simpa[rW,hcs] using this
  ·exact h.elim
theorem Hy{t:Tm}{n:Nat}{v:Value}:∀ {l:Live},lk (GK l (rW l t)) n=some v->v=gt t n
 | [],h=>by cases h
 | (s,k) :: l,h=>by
  simp only[rW,List.map_cons,GK,lk] at h
  cases hb:Nat.beq s n with
  | true=>rw[hb] at h; cases h; rw[Nat.eq_of_beq_eq_true hb]
  | false=>rw[hb] at h; exact Hy h
theorem Hq{mods:List Nat}{lv:List (Nat×Value)}{d:Nat->Value}:∀ (t:Tm) (i j:Nat),j<t.length ->
  gt (oG mods lv d i t) j=match lk lv (i+j) with|some v=>v|none=>cond (FM mods (i+j)) (d (i+j)) (gt t j)
 | [],_,j,h=>by simp at h
 | x :: t,i,0,_=>by simp[oG,gt]
 | x :: t,i,j+1,h=>by
  have:=Hq (mods:=mods) (lv:=lv) (d:=d) t (i+1) j (by simpa using h);rw[show i+1+j=i+(j+1) by omega] at this;exact this
theorem oM{mods:List Nat}{lv:List (Nat×Value)}{d:Nat->Value}:∀ (t:Tm) (i:Nat),(oG mods lv d i t).length=t.length
 | [],_=>rfl
 | x :: t,i=>by simp[oG,oM t (i+1)]
theorem fill_eq{mods:List Nat}{l:Live}{t t' : Tm}(h:BQ mods t t'):oG mods (GK l (rW l t')) (gt t') 0 t=t':=by
 refine K0 _ _ ((oM t 0).trans h.1.symm) λ i hi=>?_;rw[oM] at hi;rw[Hq t 0 i hi,Nat.zero_add]
 cases hl:lk (GK l (rW l t')) i with
 | some v=>exact Hy hl
 | none =>
  cases hm:FM mods i with
  | true=>rfl
  | false =>
   have:i∉mods:=λ h=>by rw[Bb.2 h] at hm; cases hm
   exact(h.2 i this).symm
abbrev Df:=List Deferred
def Ie(F:Tm->Df->World->Prop)(Q:Exit->Tm->Df->World->Prop):Exit->Tm->Df->World->Prop
 | .normal,t,d,w=>F t d w
 | e,t,d,w=>Q e t d w
def SI(id:Nat)(Q:Exit->Tm->Df->World->Prop):Exit->Tm->Df->World->Prop
 | .exit i,t,d,w=>cond (Nat.beq i id) (Q .normal t d w) (Q (.exit i) t d w)
 | e,t,d,w=>Q e t d w
def calm:Code->Bool
 | .seq a b=>calm a&&calm b
 | .cond _ a b=>calm a&&calm b
 | .block _ a=>calm a
 | .loop a=>calm a
 | .rangeFunc _ _ _ _=>false
 | .region _ ops _=>oS ops.toList
 | .scope _=>false
 | _=>true
def exs:Code->List Nat
 | .exit i=>[i]
 | .seq a b=>exs a++exs b
 | .cond _ a b=>exs a++exs b
 | .block id c=>(exs c).filter λ i=>!(Nat.beq i id)
 | .loop c=>exs c
 | .rangeFunc _ _ a b=>exs a++exs b
 | _=>[]
def CR:Code->Bool
 | .ret=>true
 | .seq a b=>CR a||CR b
 | .cond _ a b=>CR a||CR b
 | .block _ c=>CR c
 | .loop c=>CR c
 | .rangeFunc _ _ a b=>CR a||CR b
 | _=>false
def TX:List (Nat×(World->Prop))->Nat->World->Prop
 | [],_,_=>False
 | x :: l,i,w=>cond (Nat.beq i x.1) (x.2 w) (TX l i w)
theorem Eb{F:Nat->World->Prop}{i:Nat}{w:World}:∀ {l:List Nat},TX (l.map λ id=>(id,F id)) i w->F i w
 | [],h=>h.elim
 | j :: l,h=>by
  simp only[List.map_cons,TX] at h
  cases hb:Nat.beq i j with
  | true=>rw[hb] at h; rw[Nat.eq_of_beq_eq_true hb]; exact h
  | false=>rw[hb] at h; exact Eb h
def zn(P:Program)(gf:FuncId)(lb:List Value)(rec:FuncId->Nat->Loop)(w:World)(N R:World->Prop)(X:List (Nat×(World->Prop))):Prop :=
 ∀ fn:FuncId,Calls P gf (Value.func (.yield (w.heap.size+1)) #[] #[] :: lb).toArray ((w.alloc (.deferred (some []))).alloc (.loop (rec fn w.heap.size))) λ e w2=>(∃ v,e=.returned v) /\
  ∃ r,w2.heap[w.heap.size+1]?=some (.loop r)/\r.state≠.busy/\match r.pending with
   | none=>N (w2.putObj (w.heap.size+1) (.loop { r with state:=.exhausted }))
   | some .ret=>R (w2.putObj (w.heap.size+1) (.loop { r with state:=.exhausted }))
   | some (.exit i)=>TX X i (w2.putObj (w.heap.size+1) (.loop { r with state:=.exhausted }))
   | _=>False
def vf(P:Program)(v:Value)(F:FuncId->List Value->Prop):Prop:=match v with
 | .func (.func gf) first lb=>cond (first.isEmpty&&dQ P gf) (F gf lb.toList) False
 | _=>False
def TW(c:Code)(sc:Code->Code->Nat->(Exit->Tm->Df->World->Prop)->Tm->Df->World->Prop)(p:Nat)(Q:Exit->Tm->Df->World->Prop):Exit->Tm->Df->World->Prop
 | .goto l,t,d,w=>match findLabel c l with
  | some rest=>sc c rest p Q t d w
  | none=>False
 | e,t,d,w=>Q e t d w
def Dk(P:Program)(ann:Nat->Option Live)(sc:Code->Code->Nat->(Exit->Tm->Df->World->Prop)->Tm->Df->World->Prop):Code->Nat->(Exit->Tm->Df->World->Prop)->Tm->Df->World->Prop
 | .skip,_,Q,t,d,w=>Q .normal t d w
 | .label _,_,Q,t,d,w=>Q .normal t d w
 | .region _ ops draw,_,Q,t,d,w=>cond (oS ops.toList) (match draw with
  | false=>Ii P ops ops.toList t w (λ t w=>Q .normal t d w)
  | true=>cond (P.follows .mixedOrders&&Region.noSelect ops) (mO P ops ops.size (Array.replicate ops.size false) [] t w.drew (λ t w=>Q .normal t d w)) False)
  (cond draw False (zU P ops ops.toList t d w λ t d w=>Q .normal t d w))
 | .seq a b,p,Q,t,d,w=>match ann p with
  | none=>Dk P ann sc a (2*p) (Ie (Dk P ann sc b (2*p+1) Q) Q) t d w
  | some lv=>cond (calm a) (∃ J:VJ lv (World->Prop),(∀ w',Iq lv J λ vs j=>j w'->∀ x:Nat->Value,Dk P ann sc b (2*p+1) Q (oG (iP a) (GK lv vs) x 0 t) d w') /\
    Dk P ann sc a (2*p) (Ie (λ t' _ w'=>Ds lv J t' λ j=>j w') Q) t d w) False
 | .cond c a b,p,Q,t,d,w=>match ev t c with
  | .bool x=>cond x (Dk P ann sc a (2*p) Q t d w) (Dk P ann sc b (2*p+1) Q t d w)
  | _=>False
 | .block id c,p,Q,t,d,w=>Dk P ann sc c (2*p) (SI id Q) t d w
 | .loop c,p,Q,t,d,w=>match ann p with
  | none=>Dk P ann sc c (2*p) (Ie (λ _ _ _=>False) Q) t d w
  | some lv=>cond (calm c) (∃ I:VJ lv (World->Nat->Prop),(Ds lv I t λ i=>∃ m,i w m) /\
    ∀ w' m,Iq lv I λ vs i=>i w' m->∀ x:Nat->Value,Dk P ann sc c (2*p) (Ie (λ t' _ w''=>Ds lv I t' λ i'=>∃ m',m' < m/\i' w'' m') Q) (oG (iP c) (GK lv vs) x 0 t) d w') False
 | .exit id,_,Q,t,d,w=>Q (.exit id) t d w
 | .ret,_,Q,t,d,w=>Q .ret t d w
 | .rangeFunc g ps assign body,_,Q,t,d,w=>vf P (ev t g) λ gf lb =>
   zn P gf lb (λ fn D=>{ state:=.ready,pending:=none,fn:=fn,tmps:=t.toArray,params:=ps,assign:=assign,body:=body,defers:=D }) w (λ w'=>Q .normal t ({ target:=.collected w.heap.size,args:=#[] } :: d) w') (λ w'=>cond (CR body) (Q .ret t ({ target:=.collected w.heap.size,args:=#[] } :: d) w') False) ((exs body).map λ i=>(i,λ w'=>Q (.exit i) t ({ target:=.collected w.heap.size,args:=#[] } :: d) w'))
 | .scope c,p,Q,t,d,w=>Dk P ann sc c (2*p) (TW c sc p Q) t d w
 | .goto l,_,Q,t,d,w=>Q (.goto l) t d w
 | _,_,_,_,_,_=>False
def T6(P:Program)(ann:Nat->Option Live):Nat->Code->Code->Nat->(Exit->Tm->Df->World->Prop)->Tm->Df->World->Prop
 | 0=>λ _ _ _ _ _ _ _=>False
 | n+1=>λ c rest p Q t d w=>Dk P ann (T6 P ann n) rest (2*p+1) (TW c (T6 P ann n) p Q) t d w
def vc(P:Program)(ann:Nat->Option Live):Code->Nat->(Exit->Tm->Df->World->Prop)->Tm->Df->World->Prop:=Dk P ann (T6 P ann 2)
def lift(t0:Tm)(d0:Df)(c:Code)(Q:Exit->Tm->Df->World->Prop):Exit->Act->World->Prop:=λ e a w =>
 (∀ c,e≠.panic c)/\∃ t' d',a=lU t' d'/\BQ (iP c) t0 t'/\(calm c=true->d' = d0)/\Q e t' d' w
theorem UK{P:Program}{c:Code}{Q:Exit->Act->World->Prop}{a:Act}{w:World}:c.wpIn (FW none) 0 P Q a w<->c.wp P Q a w:=wpIn_wide
theorem Dh{P:Program}{c:Code}{Q:Exit->Act->World->Prop}{a:Act}{w:World}(h:∀ (b:Frame) (k:List Item) (cs:List Frame),∃ e a' w',Q e a' w'/\Arrives P (lone (b.at a (.code c :: .inScope c :: k)) cs w) b k cs e a' w'):(Code.scope c).wp P Q a w:=λ b k cs=>by
 obtain⟨e,a',w',hq,harr⟩:=h b k cs;exact⟨e,a',w',hq,.of_steps (.one step_scope) harr⟩
def lW(P:Program)(c cur:Code)(Q:Exit->Act->World->Prop)(a:Act)(w:World):Prop :=
 ∀ (b:Frame) (k:List Item) (cs:List Frame),∃ e a' w',Q e a' w'/\Arrives P (lone (b.at a (.code cur :: .inScope c :: k)) cs w) b k cs e a' w'
theorem lW.mono{P:Program}{c cur:Code}{Q Q' : Exit->Act->World->Prop}{a:Act}{w:World}(h:lW P c cur Q a w)(k:∀ e a w,Q e a w->Q' e a w):lW P c cur Q' a w:=λ b l cs =>
 let ⟨e,a',w',hq,harr⟩:=h b l cs
 ⟨e,a',w',k _ _ _ hq,harr⟩
theorem Gu{P:Program}{c cur:Code}{Q:Exit->Act->World->Prop}{a:Act}{w:World}(h:cur.wp P (λ e a' w'=>(∀ l,e=.goto l->∃ rest,findLabel c l=some rest/\lW P c rest Q a' w')/\((∀ l,e≠.goto l)->Q e a' w')) a w):lW P c cur Q a w:=by
 intro b k cs;obtain⟨e,a₁,w₁,hq,harr⟩:=h b (.inScope c :: k) cs
 cases e with
 | normal=>exact⟨.normal,a₁,w₁,hq.2 (by simp),Steps.trans harr (.one step_inScope)⟩
 | exit id=>exact⟨.exit id,a₁,w₁,hq.2 (by simp),λ k' hk=>harr k' (by simp[exitTo,hk])⟩
 | goto l =>
  obtain⟨rest,hf,hs⟩:=hq.1 l rfl;have hg:gotoIn l (.inScope c :: k)=some (.code rest :: .inScope c :: k):=by simp[gotoIn,hf]
  obtain⟨e₂,a₂,w₂,hq₂,harr₂⟩:=hs b k cs;exact⟨e₂,a₂,w₂,hq₂,.of_steps (harr _ hg) harr₂⟩
 | ret=>exact⟨_,a₁,w₁,hq.2 (by simp),harr⟩
 | panic ch=>exact⟨_,a₁,w₁,hq.2 (by simp),harr⟩
 | outgrown=>exact⟨_,a₁,w₁,hq.2 (by simp),harr⟩
def P4(t0:Tm)(c:Code)(Q:Exit->Tm->Df->World->Prop):Exit->Act->World->Prop:=λ e a w =>
 (∀ c,e≠.panic c)/\∃ t' d',a=lU t' d'/\BQ (iP c) t0 t'/\Q e t' d' w
def Ua(P:Program)(sc:Code->Code->Nat->(Exit->Tm->Df->World->Prop)->Tm->Df->World->Prop):Prop :=
 ∀ (c rest:Code) (p:Nat) (Q:Exit->Tm->Df->World->Prop) (t:Tm) (d:Df) (w:World),(∀ x∈iP rest,x∈iP c)->sc c rest p Q t d w->lW P c rest (P4 t c Q) (lU t d) w
theorem zA{P:Program}{sc:Code->Code->Nat->(Exit->Tm->Df->World->Prop)->Tm->Df->World->Prop}(hsc:Ua P sc){c cur:Code}{p:Nat}{Q:Exit->Tm->Df->World->Prop}{t:Tm}{d:Df}{w:World}(hd:∀ x∈iP cur,x∈iP c)(h:cur.wpIn (FW none) 0 P (lift t d cur (TW c sc p Q)) (lU t d) w):lW P c cur (P4 t c Q) (lU t d) w:=by
 refine Gu (UK.1 (wpIn_mono h λ e a' w' hq=>?_));obtain⟨hp,t',d',rfl,ha,_,hq⟩:=hq;have ha':=iG hd ha;refine⟨λ l he=>?_,λ hn=>?_⟩
 ·subst he;simp only[TW] at hq
  split at hq
  ·rename_i rest hr;refine⟨rest,hr,(hsc c rest p Q t' d' w' (iR hr) hq).mono λ e a w hq=>?_⟩;obtain⟨hp,t'',d'',rfl,hb,hq⟩:=hq;exact⟨hp,t'',d'',rfl,iG (λ x hx=>(List.mem_append.1 hx).elim id id) (pT ha' hb),hq⟩
  ·exact hq.elim
 ·cases e with
  | goto l=>exact absurd rfl (hn l)
  | panic c=>exact absurd rfl (hp c)
  | _=>exact⟨hp,t',d',rfl,ha',hq⟩
theorem gU{P:Program}{ann:Nat->Option Live}{sc:Code->Code->Nat->(Exit->Tm->Df->World->Prop)->Tm->Df->World->Prop}(hsc:Ua P sc){ro:Option Nat}:∀ (c:Code) (p:Nat) (Q:Exit->Tm->Df->World->Prop) (t:Tm) (d:Df) (w:World),(ro=none\/calm c=true) ->
  Dk P ann sc c p Q t d w->c.wpIn (FW ro) 0 P (lift t d c Q) (lU t d) w
 | .skip,_,Q,t,d,w,_,h=>wpIn_skip ⟨by simp,t,d,rfl,cM _ _,λ _=>rfl,h⟩
 | .label _,_,Q,t,d,w,_,h=>wpIn_label ⟨by simp,t,d,rfl,cM _ _,λ _=>rfl,h⟩
 | .exit id,_,Q,t,d,w,_,h=>wpIn_exit ⟨by simp,t,d,rfl,cM _ _,λ _=>rfl,h⟩
 | .ret,_,Q,t,d,w,_,h=>wpIn_ret ⟨by simp,t,d,rfl,cM _ _,λ _=>rfl,h⟩
 | .region id ops draw,_,Q,t,d,w,_,h=>by
  have hds:∀ (i:Nat) (o:Oper),ops[i]?=some o->∀ d,o.dst=some d->d∈ops.toList.filterMap (·.dst):=λ i o ho d hd =>
   List.mem_filterMap.2 ⟨o,by simpa using Array.mem_of_getElem? ho,hd⟩
  simp only[Dk] at h
  cases hn:oS ops.toList with
  | false =>
   rw[hn] at h
   cases draw with
   | true=>exact h.elim
   | false =>
    obtain rfl:ro=none:=by
     rcases ‹ro=none\/_› with h|h
     ·exact h
     ·simp only[calm,hn] at h; cases h
    refine wpIn_region_list (qi (ds:=iP (.region id ops false)) (t0:=t) ops.toList t d w _ (λ t' d' w' ha hk=>⟨by simp,t',d',rfl,ha,λ hc=>?_,hk⟩) (λ o ho d hd=>List.mem_filterMap.2 ⟨o,ho,hd⟩) (cM _ _) h);simp only[calm,hn] at hc; cases hc
  | true =>
  rw[hn,cond_true] at h
  cases draw with
  | false =>
   refine wpIn_region_list (zV (d:=d) (ds:=iP (.region id ops false)) (t0:=t) ops.toList t w _ hn (λ t' w' ha hk=>⟨by simp,t',d,rfl,ha,λ _=>rfl,hk⟩) (λ o ho d hd=>List.mem_filterMap.2 ⟨o,ho,hd⟩) (cM _ _) h)
  | true =>
   obtain⟨h1,h2⟩:=jI h;simp only[Bool.and_eq_true] at h1;have hnd:∀ (j:Nat) (o:Oper),ops[j]?=some o->fL o.op=true:=λ j o ho=>by
    have:=List.all_eq_true.1 hn o (by simpa using Array.mem_of_getElem? ho);exact this
   refine wpIn_region_any h1.1 (Ab _ _ [] _ _ ?_);refine pR (dd:=d) (ds:=iP (.region id ops true)) (t0:=t) (K:=λ t w=>Q .normal t d w) hnd h1.2 (λ c a w h=>h.1 c rfl) (λ t' w' ha hk=>⟨by simp,t',d,rfl,ha,λ _=>rfl,hk⟩) hds _ _ [] t _ (cM _ _) ?_ (λ p hp=>by cases hp) h2;intro j o _ hj;rcases Nat.lt_or_ge j ops.size with h|h<;>simp[h] at hj
 | .seq a b,p,Q,t,d,w,hc,h=>by
  have hca:ro=none\/calm a=true:=hc.imp id λ h=>by simp only[calm,Bool.and_eq_true] at h; exact h.1
  have hcb:ro=none\/calm b=true:=hc.imp id λ h=>by simp only[calm,Bool.and_eq_true] at h; exact h.2
  refine wpIn_seq ?_;simp only[Dk] at h
  split at h
  ·refine wpIn_mono (gU hsc a _ _ t d w hca h) (λ e a' w' hq=>?_);obtain⟨hp,t',d',rfl,ha,hd,hq⟩:=hq
   cases e with
   | normal =>
    refine wpIn_mono (gU hsc b _ _ t' d' w' hcb hq) (λ e a'' w'' hq'=>?_);obtain⟨hp',t'',d'',rfl,ha',hd',hq'⟩:=hq';refine⟨hp',t'',d'',rfl,pT ha ha',λ hk=>?_,hq'⟩;simp only[calm,Bool.and_eq_true] at hk;rw[hd' hk.2,hd hk.1]
   | panic c=>exact absurd rfl (hp c)
   | _=>exact⟨hp,t',d',rfl,iG (λ d hd=>List.mem_append_left _ hd) ha,λ hk=>hd (by simp only[calm,Bool.and_eq_true] at hk; exact hk.1),hq⟩
  ·obtain⟨hk0,J,hb,h⟩:=jI h;refine wpIn_mono (gU hsc a _ _ t d w hca h) (λ e a' w' hq=>?_);obtain⟨hp,t',d',rfl,ha,hd,hq⟩:=hq;obtain rfl:=hd hk0
   cases e with
   | normal =>
    obtain⟨j,h1,h2⟩:=kB hq;have h3:=h2 _ (hb w') h1 (gt t');rw[fill_eq ha] at h3;refine wpIn_mono (gU hsc b _ _ t' d' w' hcb h3) (λ e a'' w'' hq'=>?_);obtain⟨hp',t'',d'',rfl,ha',hd',hq'⟩:=hq';refine⟨hp',t'',d'',rfl,pT ha ha',λ hk=>?_,hq'⟩;simp only[calm,Bool.and_eq_true] at hk;exact hd' hk.2
   | panic c=>exact absurd rfl (hp c)
   | _=>exact⟨hp,t',d',rfl,iG (λ d hd=>List.mem_append_left _ hd) ha,λ _=>rfl,hq⟩
 | .cond c a b,p,Q,t,d,w,hc,h=>by
  simp only[Dk] at h
  split at h
  ·rename_i x hx;refine wpIn_cond (t:=x) (by rw[kY]; exact hx) ?_
   cases x with
   | true =>
    refine wpIn_mono (gU hsc a _ _ t d w (hc.imp id λ h=>by simp only[calm,Bool.and_eq_true] at h; exact h.1) h) (λ e a' w' hq=>?_);obtain⟨hp,t',d',rfl,ha,hd,hq⟩:=hq;exact⟨hp,t',d',rfl,iG (λ d hd=>List.mem_append_left _ hd) ha,λ hk=>hd (by simp only[calm,Bool.and_eq_true] at hk; exact hk.1),hq⟩
   | false =>
    refine wpIn_mono (gU hsc b _ _ t d w (hc.imp id λ h=>by simp only[calm,Bool.and_eq_true] at h; exact h.2) h) (λ e a' w' hq=>?_);obtain⟨hp,t',d',rfl,ha,hd,hq⟩:=hq;exact⟨hp,t',d',rfl,iG (λ d hd=>List.mem_append_right _ hd) ha,λ hk=>hd (by simp only[calm,Bool.and_eq_true] at hk; exact hk.2),hq⟩
  ·exact h.elim
 | .block id c,p,Q,t,d,w,hc,h=>by
  refine wpIn_block (wpIn_mono (gU hsc c _ _ t d w hc h) (λ e a' w' hq=>?_));obtain⟨hp,t',d',rfl,ha,hd,hq⟩:=hq
  cases e with
  | exit i =>
   simp only[Exit.inBlock];simp only[SI] at hq
   cases hb:Nat.beq i id with
   | true=>rw[hb] at hq; rw[if_pos (Nat.eq_of_beq_eq_true hb)]; exact⟨by simp,t',d',rfl,ha,hd,hq⟩
   | false =>
    rw[hb] at hq;rw[if_neg (λ e=>by rw[e,Nat.beq_refl] at hb; cases hb)];exact⟨by simp,t',d',rfl,ha,hd,hq⟩
  | _=>exact⟨hp,t',d',rfl,ha,hd,hq⟩
 | .loop c,p,Q,t,d,w,hc,h=>by
  simp only[Dk] at h
  split at h
  ·refine wpIn_loop_once (wpIn_mono (gU hsc c _ _ t d w hc h) (λ e a'' w'' hq'=>?_));obtain⟨hp',t'',d'',rfl,ha',hd',hq'⟩:=hq'
   cases e with
   | normal=>exact hq'.elim
   | panic c=>exact absurd rfl (hp' c)
   | _=>exact⟨hp',t'',d'',rfl,ha',hd',hq'⟩
  ·rename_i lv hlv;obtain⟨hk0,I,h0,hr⟩:=jI h;obtain⟨i0,⟨m,h1⟩,h2⟩:=kB h0;refine wpIn_loop_ghost (λ n a w=>∃ t' i,a=lU t' d/\BQ (iP c) t t'/\i w n/\∀ G,Iq lv I G->G (rW lv t') i) m ⟨t,i0,rfl,cM _ _,h1,h2⟩ ?_;rintro n a w' ⟨t',i1,rfl,ha,hI,hG⟩;have h3:=hG _ (hr w' n) hI (gt t');rw[fill_eq ha] at h3;refine wpIn_mono (gU hsc c _ _ t' d w' hc h3) (λ e a'' w'' hq'=>?_);obtain⟨hp',t'',d'',rfl,ha',hd',hq'⟩:=hq';obtain rfl:=hd' hk0;have hag:BQ (iP c) t t'':=iG (λ d hd=>(List.mem_append.1 hd).elim id id) (pT ha ha')
   cases e with
   | normal =>
    obtain⟨i2,⟨m',hm,h4⟩,h5⟩:=kB hq';exact⟨m',hm,t'',i2,rfl,hag,h4,h5⟩
   | panic c=>exact absurd rfl (hp' c)
   | _=>exact⟨hp',t'',d'',rfl,hag,λ _=>rfl,hq'⟩
 | .rangeFunc g ps assign body,p,Q,t,d,w,hc,h=>by
  simp only[Dk,vf] at h
  split at h
  ·rename_i gf first lb hg
   obtain⟨he,hh⟩:=jI h;clear h;simp only[Bool.and_eq_true,Array.isEmpty_iff] at he;obtain⟨rfl,he⟩:=he;obtain rfl:ro=none:=hc.resolve_right (by simp[calm]);refine wpIn_rangeFunc λ fn _=>?_;refine⟨w.heap.size+1,[{ target:=.collected w.heap.size,args:=#[] }],((w.alloc (.deferred (some []))).alloc (.loop { state:=.ready,pending:=none,fn:=fn,tmps:=t.toArray,params:=ps,assign:=assign,body:=body,defers:=w.heap.size })),{ target:=.fn (.func gf) lb,args:=#[.func (.yield (w.heap.size+1)) #[] #[]] },((w.alloc (.deferred (some []))).alloc (.loop { state:=.ready,pending:=none,fn:=fn,tmps:=t.toArray,params:=ps,assign:=assign,body:=body,defers:=w.heap.size })),gf,#[.func (.yield (w.heap.size+1)) #[] #[]]++lb,((w.alloc (.deferred (some []))).alloc (.loop { state:=.ready,pending:=none,fn:=fn,tmps:=t.toArray,params:=ps,assign:=assign,body:=body,defers:=w.heap.size })),run_enterLoop_outer _ _ _ _ _,?_,λ _ _=>trivial,?_,λ h=>(by cases h),?_⟩
   ·simp only[resolve,kY,hg];simp[go_sem,ev,Deferred.ofValue]
   ·simp[invoke,go_sem,rH he]
   ·have h1:=hh fn;have h2:(Value.func (.yield (w.heap.size+1)) #[] #[] :: lb.toList).toArray = #[.func (.yield (w.heap.size+1)) #[] #[]]++lb:=by simp
    rw[h2] at h1;refine CallsIn.mono (callsIn_wide.2 h1) λ e w2 hq=>?_;obtain⟨⟨v,rfl⟩,r,hr,hb,hq⟩:=hq;refine⟨r.pending,_,run_endLoop hr hb,?_⟩
    split at hq
    ·rename_i hp;rw[hp] at hq ⊢;exact⟨by simp,t,_,rfl,cM _ _,λ h=>(by cases h),hq⟩
    ·rename_i hp;rw[hp] at hq ⊢;exact wpIn_ret ⟨by simp,t,_,rfl,cM _ _,λ h=>(by cases h),(jI hq).2⟩
    ·rename_i i hp;rw[hp] at hq ⊢;exact wpIn_exit ⟨by simp,t,_,rfl,cM _ _,λ h=>(by cases h),Eb (F:=λ i w'=>Q (.exit i) t ({ target:=.collected w.heap.size,args:=#[] } :: d) w') hq⟩
    ·exact hq.elim
  ·exact h.elim
 | .scope c,p,Q,t,d,w,hc,h=>by
  obtain rfl:ro=none:=hc.resolve_right (by simp[calm]);refine UK.2 (Dh ?_);have h1:=zA (cur:=c) hsc (λ _ h=>h) (gU hsc c (2*p) _ t d w (.inl rfl) h);exact h1.mono λ e a w ⟨hp,t',d',h2,h3,h4⟩=>⟨hp,t',d',h2,h3,λ hk=>(by simp[calm] at hk),h4⟩
 | .goto l,_,Q,t,d,w,_,h=>wpIn_goto ⟨by simp,t,d,rfl,cM _ _,λ _=>rfl,h⟩
 | .refuse _,_,_,_,_,_,_,h=>h.elim
theorem GD{P:Program}{ann:Nat->Option Live}:∀ n,Ua P (T6 P ann n)
 | 0=>λ _ _ _ _ _ _ _ _ h=>h.elim
 | n+1=>λ _ rest _ _ t d w hd h=>zA (GD n) hd (gU (GD n) rest _ _ t d w (.inl rfl) h)
theorem Ij{P:Program}{ann:Nat->Option Live}{ro:Option Nat}(c:Code)(p:Nat)(Q:Exit->Tm->Df->World->Prop)(t:Tm)(d:Df)(w:World)(hc:ro=none\/calm c=true)(h:vc P ann c p Q t d w):c.wpIn (FW ro) 0 P (lift t d c Q) (lU t d) w:=gU (GD 2) c p Q t d w hc h
def CO(P:Program):List ResultVar->Tm->World->(List Value->Prop)->Prop
 | [],_,_,F=>F []
 | .tmp s :: rs,t,w,F=>CO P rs t w λ vs=>F (gt t s :: vs)
 | .cell a ty :: rs,t,w,F=>Tb P ty (gt t a) w λ v _=>CO P rs t w λ vs=>F (v :: vs)
def MG:List Value->Value
 | [v]=>v
 | vs=>.tuple vs.toArray
def Fg(P:Program)(g:FuncId)(args:Array Value)(w:World)(R:World->Prop):Prop :=
 dQ P g=true/\CallsDIn (FW none) 0 P g args .returning w λ e u w'=>∃ v,e=.returned v/\u=.returning/\R w'
def Sq(P:Program)(fn:Func)(t:Tm)(K:KP):Df->World->Prop
 | [],w=>CO P fn.results.toList t w λ vs=>K (MG vs) w
 | d :: ds,w=>match d.target with
  | .collected r=>w.heap[r]?=some (.deferred (some []))/\Sq P fn t K ds (w.putObj r (.deferred none))
  | .fn (.func g) y=>Fg P g (d.args++y) w λ w'=>Sq P fn t K ds w'
  | _=>False
def PO(P:Program)(fn:Func)(K:KP):Exit->Tm->Df->World->Prop
 | .normal,t,d,w=>Sq P fn t K d w
 | .ret,t,d,w=>Sq P fn t K d w
 | _,_,_,_=>False
def LZ(t:Tm):ResultVar->Sem Value
 | .tmp s=>pure (t.toArray.getD s undef)
 | .cell a ty=>do loadVar ty (<- asAddr (t.toArray.getD a undef))
theorem zu{P:Program}{w:World}{t:Tm}:∀ (rs:List ResultVar) (F:List Value->Prop),CO P rs t w F ->
  ∃ vs,(rs.mapM (LZ t)).run P w=.ok vs w/\F vs
 | [],F,h=>⟨[],by simp,h⟩
 | .tmp s :: rs,F,h=>by
  obtain⟨vs,hr,hF⟩:=zu rs _ h;exact⟨_,by simp only[List.mapM_cons,LZ,Sem.run_bind,Sem.run_pure,Result.andThen_ok,hr,Hp],hF⟩
 | .cell a ty :: rs,F,h=>by
  obtain⟨v,T,h1,h2,h3⟩:=Cr h;obtain⟨vs,hr,hF⟩:=zu rs _ h3;refine⟨v :: vs,?_,hF⟩;have h4:=h2 w h1;rw[Hp] at h4;have h5:(LZ t (.cell a ty)).run P w=.ok v w:=by
   show(Sem.bind (asAddr (t.toArray.getD a undef)) λ p=>loadVar ty p).run P w=.ok v w;rw[Sem.run_bind'];generalize t.toArray.getD a undef=x at h4 ⊢
   cases x with
   | pointer p=>cases p with
    | none=>simp[Instr.loadAt,Instr.sureAddr] at h4
    | some p=>simpa[Instr.loadAt,Instr.sureAddr,asAddr] using h4
   | _=>simp[Instr.loadAt,Instr.sureAddr] at h4
  rw[List.mapM_cons,Sem.run_bind,h5];simp only[Result.andThen_ok,Sem.run_bind,hr,Sem.run_pure]
def bD(fn:Func):Code:=fn.body.getD .skip
theorem CQ{P:Program}{fn:Func}{t:Tm}{w:World}{K:KP}(hr:CO P fn.results.toList t w λ vs=>K (MG vs) w) :
  ∃ v,(results fn t.toArray).run P w=.ok v w/\K v w:=by
 obtain⟨vs,hrun,hk⟩:=zu _ _ hr;refine⟨MG vs,?_,hk⟩;have h3:results fn t.toArray=(do
   let vs <- fn.results.mapM (LZ t)
   pure (if h:vs.size=1 then vs[0] else .tuple vs)):=by
  unfold results;have:(λ r=>match r with
    | .tmp i=>(pure (t.toArray.getD i undef):Sem Value)
    | .cell a i=>do loadVar i (<- asAddr (t.toArray.getD a undef)))=LZ t:=by
   funext x; cases x<;>rfl
  rw[<- this];rfl
 rw[h3,Array.mapM_eq_mapM_toList];simp only[Sem.run_map,bind_pure_comp,hrun,Result.andThen_ok]
 cases vs with
 | nil=>rfl
 | cons v vs=>cases vs<;>rfl
theorem iz{P:Program}{fn:Func}{t:Tm}{K:KP}:∀ (d:Df) (w:World),Sq P fn t K d w ->
  LeavesInM (FW none) 0 P fn t.toArray (λ e w'=>∃ v,e=.returned v/\K v w') d .returning w
 | [],w,h=>by
  obtain⟨v,hr,hk⟩:=CQ h;exact⟨v,hr,v,rfl,hk⟩
 | d :: ds,w,h=>by
  refine⟨by simp,?_⟩;simp only[Sq] at h
  split at h
  ·rename_i r hr;exact .inl ⟨r,_,hr,run_takeDeferred h.1,iz ds _ h.2⟩
  ·rename_i g y hr;obtain⟨he,h⟩:=h;refine .inr ⟨λ h=>(by cases h),Fn.func g,y,g,d.args++y,hr,?_,λ _ _=>trivial,CallsDIn.mono h ?_⟩
   ·rw[hr]; exact rH he _ w
   ·rintro e u w' ⟨v,rfl,rfl,hk⟩;exact iz ds w' hk
  ·exact h.elim
theorem DD{P:Program}{ann:Nat->Option Live}{f:FuncId}{fn:Func}{c:Code}{args:List Value}{w:World}{K:KP}(hf:P.funcs[f]?=some fn)(hb:fn.body=some c)(h:vc P ann c 1 (PO P fn K) (args++List.replicate (fn.ntmps-args.length) undef) [] w) :
  Calls P f args.toArray w λ e w'=>∃ v,e=.returned v/\K v w':=by
 refine(callsIn_wide (n:=0)).1 (callsIn_of_wp_marks hf hb trivial ?_ rfl);have h1:({ tmps:=args.toArray++Array.replicate (fn.ntmps-args.toArray.size) undef,defers:=[] }:Act)=lU (args++List.replicate (fn.ntmps-args.length) undef) []:=by
  simp[lU]
 rw[h1];refine wpIn_mono (Ij (ro:=none) c 1 _ _ _ w (.inl rfl) h) (λ e a' w' hq=>?_);obtain⟨hp,t',d',rfl,_,_,hq⟩:=hq
 cases e with
 | normal=>exact iz d' w' hq
 | ret=>exact iz d' w' hq
 | panic c=>exact absurd rfl (hp c)
 | _=>exact hq.elim
theorem Fq{P:Program}{ann:Nat->Option Live}{f:FuncId}{fn:Func}{c:Code}{args:List Value}{w:World}{R:World->Prop}(hf:P.funcs[f]?=some fn)(hb:fn.body=some c)(he:dQ P f=true) (h:vc P ann c 1 (λ e t d w=>match e with
   | .normal=>d=[]/\CO P fn.results.toList t w λ _=>R w
   | .ret=>d=[]/\CO P fn.results.toList t w λ _=>R w
   | _=>False) (args++List.replicate (fn.ntmps-args.length) undef) [] w):Fg P f args.toArray w R:=by
 refine⟨he,CallsDIn.mono (callsDIn_of_wp (R:=λ e w'=>∃ v,e=.returned v/\R w') hf hb trivial ?_) ?_⟩
 ·have h1:({ tmps:=args.toArray++Array.replicate (fn.ntmps-args.toArray.size) undef,defers:=[] }:Act)=lU (args++List.replicate (fn.ntmps-args.length) undef) []:=by
   simp[lU]
  rw[h1];refine wpIn_mono (Ij (ro:=none) c 1 _ _ _ w (.inl rfl) h) (λ e a' w' hq=>?_);obtain⟨hp,t',d',rfl,_,_,hq⟩:=hq
  cases e with
  | normal =>
   obtain⟨rfl,hq⟩:=hq;obtain⟨v,hr,hk⟩:=CQ (K:=λ _ w=>R w) hq;exact⟨rfl,v,hr,v,rfl,hk⟩
  | ret =>
   obtain⟨rfl,hq⟩:=hq;obtain⟨v,hr,hk⟩:=CQ (K:=λ _ w=>R w) hq;exact⟨rfl,v,hr,v,rfl,hk⟩
  | panic c=>exact absurd rfl (hp c)
  | _=>exact hq.elim
 ·rintro e u w' ⟨rfl,v,rfl,hk⟩;exact⟨v,rfl,rfl,hk⟩
theorem NG{P:Program}(ann:Nat->Option Live){f:FuncId}{fn:Func}{args:List Value}{w:World}{R:World->Prop}{S:Prop}(hf:P.funcs[f]?=some fn)(hb:fn.body.isSome=true)(he:dQ P f=true) (h:S=vc P ann (bD fn) 1 (λ e t d w=>match e with
   | .normal=>d=[]/\CO P fn.results.toList t w λ _=>R w
   | .ret=>d=[]/\CO P fn.results.toList t w λ _=>R w
   | _=>False) (args++List.replicate (fn.ntmps-args.length) undef) [] w) (hS:S):Fg P f args.toArray w R:=by
 obtain⟨c,hc⟩:=Option.isSome_iff_exists.1 hb;refine Fq (ann:=ann) hf hc he ?_;have:bD fn=c:=by simp[bD,hc]
 rw[<- this];exact h▸hS
def Up(l:Nat)(K:Bool->World->Prop):Exit->Tm->Df->World->Prop
 | .normal,_,_,w=>∃ r,w.heap[l]?=some (.loop r)/\K true (w.putObj l (.loop { r with state:=.ready,pending:=none }))
 | .ret,_,_,w=>∃ r,w.heap[l]?=some (.loop r)/\K false (w.putObj l (.loop { r with state:=.done,pending:=some .ret }))
 | .exit i,_,_,w=>∃ r,w.heap[l]?=some (.loop r)/\K false (w.putObj l (.loop { r with state:=.done,pending:=some (.exit i) }))
 | _,_,_,_=>False
def Ud(l:Nat)(F:Tm->World->Prop):Exit->Tm->Df->World->Prop
 | .normal,t,_,w=>∃ r,w.heap[l]?=some (.loop r)/\r.state=.ready/\F t (w.putObj l (.loop { r with state:=.busy }))
 | _,_,_,_=>False
def CK:List Tmp->List Value->Tm->Tm
 | p :: ps,v :: vs,t=>CK ps vs (st t p v)
 | _,_,t=>t
def Tp(P:Program)(ann:Nat->Option Live)(l:Nat)(assign body:Code)(K:Bool->World->Prop)(t:Tm)(w:World):Prop :=
 vc P ann assign 2 (Ud l λ t w=>vc P ann body 3 (Up l K) t [] w) t [] w
theorem HQ:∀ (ps:List Tmp) (vs:List Value) (t:Tm),((ps.zip vs).foldl (λ (tm:Array Value) (x:Tmp×Value)=>tm.setIfInBounds x.1 x.2) t.toArray)=(CK ps vs t).toArray
 | [],vs,t=>by simp[CK]
 | p :: ps,[],t=>by simp[CK]
 | p :: ps,v :: vs,t=>by
  have:=HQ ps vs (st t p v);simp only[List.zip_cons_cons,List.foldl_cons,CK];rw[<- this,Ms]
  simp
theorem JP{P:Program}{ann:Nat->Option Live}{l:Nat}{args:List Value}{w:World}{K:Bool->World->Prop}{r:Loop}{t:Tm}(hl:w.heap[l]?=some (.loop r))(ht:r.tmps=t.toArray)(hs:args.length=r.params.size)(hc:(calm r.assign&&calm r.body)=true)(h:Tp P ann l r.assign r.body K (CK r.params.toList args t) w):iC P l args.toArray w K:=by
 simp only[Bool.and_eq_true] at hc;have hy:=run_yield (P:=P) (args:=args.toArray) hl (by simpa using hs);refine⟨_,_,_,_,hy,roundIn_of_wpIn (F:=Fence.wide) trivial ?_⟩;have h1:(r.params.zip args.toArray).foldl (λ tmps (x:Tmp×Value)=>tmps.setIfInBounds x.1 x.2) r.tmps=(CK r.params.toList args t).toArray:=by
  rw[<- HQ,ht,<- Array.foldl_toList]
  congr 1
  simp
 have h2:({ tmps:=(r.params.zip args.toArray).foldl (λ tmps (x:Tmp×Value)=>tmps.setIfInBounds x.1 x.2) r.tmps,defers:=[] }:Act)=lU (CK r.params.toList args t) []:=by
  rw[h1]; rfl
 refine wpIn_mono (show Code.wpIn (FW (some l)) 0 P r.assign _ _ w from h2▸Ij (ro:=some l) _ _ _ _ _ _ (.inr hc.1) h) λ e a' w' hq=>?_;obtain⟨hp,t',d',rfl,_,hd,hq⟩:=hq;obtain rfl:=hd hc.1
 cases e with
 | normal =>
  obtain⟨r1,hr1,hst,hq⟩:=hq;refine⟨_,run_beginRound hr1 hst,?_⟩;refine wpIn_mono (show Code.wpIn (FW (some l)) 0 P r.body _ _ _ from Ij (ro:=some l) _ _ _ _ _ _ (.inr hc.2) hq) λ e a'' w'' hq=>?_;obtain⟨hp,t'',d'',rfl,_,_,hq⟩:=hq
  cases e with
  | normal=>obtain⟨r2,hr2,hk⟩:=hq; exact⟨_,_,run_endRound none hr2,_,rfl,hk⟩
  | ret=>obtain⟨r2,hr2,hk⟩:=hq; exact⟨_,_,run_endRound (some .ret) hr2,_,rfl,hk⟩
  | exit i=>obtain⟨r2,hr2,hk⟩:=hq; exact⟨_,_,run_endRound (some (.exit i)) hr2,_,rfl,hk⟩
  | panic c=>exact absurd rfl (hp c)
  | _=>exact hq.elim
 | panic c=>exact absurd rfl (hp c)
 | _=>exact hq.elim
def xV(K:KP):Ending->World->Prop:=λ e w'=>∃ v,e=.returned v/\K v w'
theorem ah{P:Program}(ann:Nat->Option Live){f:FuncId}{fn:Func}{args:List Value}{w:World}{K:KP}{S:Prop}(hf:P.funcs[f]?=some fn)(hb:fn.body=some (bD fn))(h:S=vc P ann (bD fn) 1 (PO P fn K) (args++List.replicate (fn.ntmps-args.length) undef) [] w)(hS:S) :
  Calls P f args.toArray w (xV K):=DD hf hb (h▸hS)
def aA(l:List (Nat×Live))(p:Nat):Option Live :=
 match l with
 | []=>none
 | (q,lv) :: l=>cond (Nat.beq q p) (some lv) (aA l p)
def CS:Code->Nat->Nat->Option (Array Tmp×Code×Code)
 | .seq a b,p,q=>(CS a (2*p) q).or (CS b (2*p+1) q)
 | .cond _ a b,p,q=>(CS a (2*p) q).or (CS b (2*p+1) q)
 | .block _ a,p,q=>CS a (2*p) q
 | .loop a,p,q=>CS a (2*p) q
 | .rangeFunc _ ps a b,p,q=>cond (Nat.beq p q) (some (ps,a,b)) none
 | _,_,_=>none
def Gp(c:Code)(q:Nat):Array Tmp:=((CS c 1 q).getD (#[],.skip,.skip)).1
def Gm(c:Code)(q:Nat):Code:=((CS c 1 q).getD (#[],.skip,.skip)).2.1
def Gn(c:Code)(q:Nat):Code:=((CS c 1 q).getD (#[],.skip,.skip)).2.2
theorem Ac{P:Program}(ann:Nat->Option Live){l:Nat}{args:List Value}{w:World}{K:Bool->World->Prop}{r:Loop}{t:Tm}{ps:Array Tmp}{asg bdy:Code}{S:Prop}(hl:w.heap[l]?=some (.loop r))(ht:r.tmps=t.toArray)(hp:r.params=ps)(ha:r.assign=asg)(hb:r.body=bdy)(hs:args.length=ps.size)(hc:(calm asg&&calm bdy)=true)(h:S=Tp P ann l asg bdy K (CK ps.toList args t) w)(hS:S):iC P l args.toArray w K:=by
 subst hp ha hb;exact JP hl ht hs hc (h▸hS)
abbrev iv (n:Int):Value:=.int .i64 n
def I6.on(u:I6)(l:List Value):List Value:=iv u.a :: iv u.b :: iv u.c :: iv u.d :: iv u.e :: iv u.f :: l
def z6:I6:=⟨0,0,0,0,0,0⟩
def I6.beq(u v:I6):Bool:=(u.a==v.a)&&((u.b==v.b)&&((u.c==v.c)&&((u.d==v.d)&&((u.e==v.e)&&((u.f==v.f)&&true)))))
def aP(w:World)(a:Addr)(v:Value)(R:World->Prop):Prop :=
 v.oneCell' = true/\(∃ x,w.cell? a=some x)/\w.frozen? a=false/\R (w.setCell a v)
def aL(a:Addr):Nat->List Value->World->(World->Prop)->Prop
 | _,[],w,R=>R w
 | i,v :: vs,w,R=>aP w (a.add i) v λ w'=>aL a (i+1) vs w' R
def aq(w:World)(o:Obj)(R:Nat->World->Prop):Prop:=R w.heap.size (w.alloc o)
def rj(k:IntKind)(x y:Int):Int:=k.wrap ((BitVec.ofInt k.bits x &&& BitVec.ofInt k.bits y).toNat:Int)
def Um(k:IntKind)(x y:Int):Int:=k.wrap ((BitVec.ofInt k.bits x ||| BitVec.ofInt k.bits y).toNat:Int)
def Sm(k:IntKind)(x y:Int):Int:=k.wrap ((BitVec.ofInt k.bits x ^^^ BitVec.ofInt k.bits y).toNat:Int)
def bs(l:List UInt8):ByteArray:=⟨l.toArray⟩
end Go.Vc
namespace Go.Proofs.YtbnolaiklhbkkaaGreatDoor
open Go Go.Vc
abbrev CC:=Calls Tryz.prog
abbrev CP (f:FuncId) (a:Array Value) (w:World) (K:KP):Prop:=Calls Tryz.prog f a w (xV K)
end Go.Proofs.YtbnolaiklhbkkaaGreatDoor
namespace Go.Vc
theorem cT{b:Bool}{A B:Prop}(h:b=true)(k:A):cond b A B:=by rw[h]; exact k
theorem cF{b:Bool}{A B:Prop}(h:b=false)(k:B):cond b A B:=by rw[h]; exact k
def N3(o:Option Obj)(i:Nat):Option Value :=
 match o with
 | some (.cells c _ _)=>c[i]?
 | _=>none
def N4(o:Option Obj)(i:Nat):Bool :=
 match o with
 | some (.cells _ _ (lo,hi))=>lo<=i&&i<hi
 | _=>false
def RU(i:Nat)(v:Value)(o:Option Obj):Option Obj :=
 match o with
 | some (.cells c e f)=>some (.cells (c.setIfInBounds i v) e f)
 | o=>o
theorem kE(w:World)(b i:Nat):w.cell? ⟨b,i,none⟩=N3 w.heap[b]? i:=by
 simp only[World.cell?,N3]
 cases w.heap[b]? with
 | none=>rfl
 | some o=>cases o<;>simp
theorem FD(w:World)(b i:Nat):w.frozen? ⟨b,i,none⟩=N4 w.heap[b]? i:=by
 simp only[World.frozen?,N4]
 cases w.heap[b]? with
 | none=>rfl
 | some o=>cases o<;>rfl
theorem heap_set(w:World)(b i k:Nat)(v:Value):(w.setCell ⟨b,i,none⟩ v).heap[k]?=if b=k then RU i v w.heap[k]? else w.heap[k]?:=by
 simp only[World.setCell,Array.getElem?_modify]
 by_cases h:b=k
 ·simp only[h,if_true,RU]
  cases w.heap[k]? with
  | none=>rfl
  | some o=>cases o<;>simp
 ·simp[h]
theorem iU(w:World)(o:Obj)(k:Nat):(w.alloc o).heap[k]?=if k=w.heap.size then some o else w.heap[k]?:=by
 simp only[World.alloc,Array.getElem?_push]
theorem iS(c:Array Value)(e:TypeId)(f:Nat×Nat)(i:Nat):N3 (some (.cells c e f)) i=c[i]?:=rfl
theorem FE(c:Array Value)(e:TypeId)(i:Nat):N4 (some (.cells c e (0,0))) i=false:=by simp[N4]
theorem Gv(c:Array Value)(e:TypeId)(f:Nat×Nat)(i:Nat)(v:Value):RU i v (some (.cells c e f))=some (.cells (c.setIfInBounds i v) e f):=rfl
structure Env (w w' : World):Prop where
 os:w'.os=w.os
 tape:w'.tape=w.tape
 out:w'.output=w.output
theorem Env.refl(w:World):Env w w:=⟨rfl,rfl,rfl⟩
theorem Env.trans{w w1 w2:World}(h:Env w w1)(k:Env w1 w2):Env w w2:=⟨k.os.trans h.os,k.tape.trans h.tape,k.out.trans h.out⟩
structure ay (w w' : World) (F:List Nat):Prop where
 size:w.heap.size<=w'.heap.size
 same:∀ i,i<w.heap.size->i∉F->w'.heap[i]?=w.heap[i]?
 env:Env w w'
theorem ay.refl(w:World)(F:List Nat):ay w w F:=⟨Nat.le_refl _,λ _ _ _=>rfl,Env.refl _⟩
theorem ay.drew(w:World)(F:List Nat):ay w w.drew F:=⟨Nat.le_refl _,λ _ _ _=>rfl,⟨rfl,rfl,rfl⟩⟩
theorem ay.trans{w w1 w2:World}{F G:List Nat}(h:ay w w1 F)(h' : ay w1 w2 G)(hG:∀ i∈G,i∈F\/w.heap.size<=i):ay w w2 F :=
 ⟨Nat.le_trans h.size h'.size,λ i hi hn=>(h'.same i (Nat.lt_of_lt_of_le hi h.size) λ hg=>(hG i hg).elim hn (by omega)).trans (h.same i hi hn),h.env.trans h'.env⟩
theorem ay.set(w:World)(b i:Nat)(v:Value){F:List Nat}(h:b∈F):ay w (w.setCell ⟨b,i,none⟩ v) F :=
 ⟨by simp,λ k _ hn=>by rw[heap_set,if_neg (λ e:b=k=>hn (e▸h))],⟨rfl,rfl,rfl⟩⟩
theorem ay.new(w:World)(o:Obj)(F:List Nat):ay w (w.alloc o) F :=
 ⟨by simp,λ k hk _=>by rw[iU,if_neg (by omega)],⟨rfl,rfl,rfl⟩⟩
theorem ay.grown{w w' : World}{r:Option Nat}(h:w.grownBy w' r):ay w w' r.toList :=
 ⟨h.size,λ i hi hn=>h.block i hi (λ e=>hn (by rw[<- e]; simp)),⟨h.os,h.tape,h.output⟩⟩
theorem mE{w:World}{b:Nat}{o:Obj}(h:w.heap[b]?=some o):b<w.heap.size:=(Array.getElem?_eq_some_iff.1 h).1
theorem ay.keep{w w' : World}{F:List Nat}(h:ay w w' F){b:Nat}{o:Obj}(hb:w.heap[b]?=some o)(hn:b∉F):w'.heap[b]?=some o :=
 (h.same b (mE hb) hn).trans hb
theorem GA{w:World}{b i:Nat}{v:Value}{R:World->Prop}{cs:Array Value}{T:TypeId}(h:w.heap[b]?=some (.cells cs T (0,0)))(hi:i<cs.size)(hv:v.oneCell' = true)(k:R (w.setCell ⟨b,i,none⟩ v)):aP w ⟨b,i,none⟩ v R :=
 ⟨hv,⟨cs[i],by rw[kE,h,iS]; simp[hi]⟩,by rw[FD,h,FE],k⟩
theorem aJ{w:World}{o:Obj}{R:Nat->World->Prop}(h:R w.heap.size (w.alloc o)):aq w o R:=h
theorem sy(g j:Nat):(⟨g,0,none⟩:Addr).add j=⟨g,j,none⟩:=by unfold Addr.add; split<;>simp_all
theorem CZ{b o:Nat}{T:TypeId}{R:World->Prop}:∀ (vs:List Value) (i:Nat) (w:World) (c:Array Value),w.heap[b]?=some (.cells c T (0,0))->o+i+vs.length<=c.size->(∀ v∈vs,v.oneCell' = true) ->
  (∀ w',w'.heap[b]?=some (.cells (c.toList.take (o+i)++vs++c.toList.drop (o+i+vs.length)).toArray T (0,0))->ay w w' [b]->w'.heap.size=w.heap.size->R w')->aL ⟨b,o,none⟩ i vs w R
 | [],i,w,c,h,_,_,k=>k w (by simpa using h) (ay.refl _ _) rfl
 | v :: vs,i,w,c,h,hl,h1,k=>by
  have ha:(⟨b,o,none⟩:Addr).add i=⟨b,o+i,none⟩:=by unfold Addr.add; split<;>simp_all
  show aP w _ v _;rw[ha];simp only[List.length_cons] at hl;refine GA h (by omega) (h1 v (List.mem_cons_self ..)) ?_;refine CZ vs (i+1) _ (c.setIfInBounds (o+i) v) (by rw[heap_set,if_pos rfl,h]; rfl) (by simp; omega) (λ u hu=>h1 u (List.mem_cons_of_mem _ hu)) ?_;intro w' hb hc hs;refine k w' ?_ ((ay.set w b (o+i) v (by simp)).trans hc (λ j hj=>.inl hj)) (by rw[hs]; simp);rw[hb]
  congr 3
  have hlt:o+i<c.toList.length:=by simp; omega
  simp only[Array.toList_setIfInBounds,List.length_cons];rw[show o+(i+1)=o+i+1 by omega,List.take_succ_eq_append_getElem (by simpa using hlt),List.take_set_of_le (Nat.le_refl _)];simp only[List.getElem_set_self,List.append_assoc,List.cons_append,List.nil_append]
  congr 3
  rw[List.drop_set_of_lt (by omega)]
  congr 1
  omega
def gi(b:UInt8):Value:=.int .u8 (b.toNat:Int)
theorem CD{w:World}{base:Nat}{e:TypeId}{size:Nat}{v:Value}{n:Nat}{xs:List Value}{w' : World}(h:w.ownsRow base e size v n xs)(hs:∀ k,v.ownBlock=some k->w'.heap[k]?=w.heap[k]?):w'.ownsRow base e size v n xs:=by
 refine⟨h.1,?_⟩;rcases h.2 with hn|⟨g,cap,cur,rfl,hb,hgg,rest⟩
 ·exact .inl hn
 ·exact .inr ⟨g,cap,cur,rfl,hb,(hs g rfl).trans hgg,rest⟩
theorem Es{w:World}{base:Nat}{e:TypeId}{size:Nat}{v:Value}{n:Nat}{xs:List Value}{w' : World}{F:List Nat}(h:w.ownsRow base e size v n xs)(hc:ay w w' F)(hs:∀ k,v.ownBlock=some k->k∉F):w'.ownsRow base e size v n xs :=
 CD h λ k hk=>hc.same k (h.lt k hk).2 (hs k hk)
end Go.Vc
namespace Go.Vc
structure gV (P:Program) (t e:TypeId) (z:Value) (sz by_:Nat):Prop where
 u:P.underlying t=some (.slice e)
 i:∃ i,P.info? e=some i/\i.zero=some z/\i.size=sz/\i.bytes=by_
 zc:z.cells.size=sz
 pos:0<sz
theorem gV.mk'{P:Program}{t e:TypeId}{z:Value}{sz by_:Nat}(hu:P.underlying t=some (.slice e))(hi:(P.info? e).map (λ i=>(i.zero,i.size,i.bytes))=some (some z,sz,by_))(hz:z.cells.size=sz)(hp:0<sz):gV P t e z sz by_:=by
 refine⟨hu,?_,hz,hp⟩
 cases h:P.info? e with
 | none=>simp[h] at hi
 | some i=>simp[h] at hi; exact⟨i,rfl,hi.1,hi.2.1,hi.2.2⟩
def UM(w:World)(v v' : Value):Prop:=∀ j,v'.ownBlock=some j->v.ownBlock=some j\/w.heap.size<=j
theorem J9{P:Program}{w:World}{t ty e:TypeId}{z:Value}{sz by_:Nat}(hT:gV P t e z sz by_){v:Value}{n:Nat}{xs:List Value}(own:w.ownsRow 0 e sz v n xs){a:Addr}{m c:Nat}{news:List Value}(hl:news.length=m*sz)(hnews:∀ j u,news[j]?=some u->w.cell? (a.add j)=some u)(h1:∀ u∈news,u.oneCell' = true)(hb:(n+m)*by_<=140737488355328)(hm:n+m<=9223372036854775807){K:KP}(k:∀ v' w',w'.ownsRow 0 e sz v' (n+m) (xs++news)->ay w w' v.ownBlock.toList->UM w v v'->K v' w') :
  aV P (Builtin.append_ #[t,t] ty #[v,.slice (some a) m c]) w K:=by
 obtain⟨i,hi,hz,hs,hby⟩:=hT.i;have hml:n+m<=maxLen:=by unfold maxLen; omega
 obtain⟨v',w',hr,ho,hg,_⟩:=run_append_own (P:=P) w 0 t ty e i z sz by_ hT.u hi hz hs hby hT.zc hT.pos v n xs own a m c news hl hnews h1 hml hb (Nat.zero_le _);refine⟨v',w',hr,k v' w' ho (ay.grown hg) ?_⟩;rcases own.2 with⟨rfl,rfl⟩|⟨g,cap,cur,rfl,_,hgg,hnc,hcm,hcs,htake⟩
 ·have own' : w.ownsRow w.heap.size e sz (.slice none 0 0) 0 xs:=⟨own.1,.inl ⟨rfl,rfl⟩⟩;obtain⟨v2,w2,hr2,ho2,_⟩:=run_append_own (P:=P) w w.heap.size t ty e i z sz by_ hT.u hi hz hs hby hT.zc hT.pos _ 0 xs own' a m c news hl hnews h1 hml hb (Nat.le_refl _);rw[hr] at hr2
  cases hr2
  exact λ j hj=>.inr (ho2.lt j hj).1
 ·by_cases hroom:n+m<=cap
  ·have hfit:n*i.size+news.length<=cur.size:=by rw[hl,hcs,hs,<- Nat.add_mul]; exact Nat.mul_le_mul_right _ hroom
   have hr2:=run_append_room (P:=P) w t ty e i hT.u hi g n cap cur hgg a m c news (by rw[hs]; exact hl) hnews h1 hroom hfit;rw[hr] at hr2
   cases hr2
   exact λ j hj=>.inl hj
  ·have holds:∀ j u,xs[j]?=some u->w.cell? ((⟨g,0,none⟩:Addr).add j)=some u:=own.cells (g:=g) rfl;have hr2:=run_append_grow (P:=P) w t ty e i z hT.u hi hz ⟨g,0,none⟩ n cap xs (by rw[hs]; exact own.1) holds a m c news (by rw[hs]; exact hl) hnews (by omega) (by omega) (growslice_fits (by omega) (by rw[hby]; exact hb));rw[hr] at hr2
   cases hr2
   intro j hj;simp[Value.ownBlock] at hj;exact .inr (by omega)
theorem LL{w:World}{base:Nat}{e:TypeId}{v:Value}{n:Nat}{xs:List Value}(own:w.ownsRow base e 1 v n xs){a:OA}{l c:Nat}(hv:v=.slice a l c) :
  l=n/\(0<n->∃ g cur,a=some ⟨g,0,none⟩/\v.ownBlock=some g/\w.heap[g]?=some (.cells cur e (0,0))/\n<=cur.size/\cur.toList.take n=xs)/\n<=c:=by
 subst hv;rcases own.2 with⟨hv,rfl⟩|⟨g,cap,cur,hv,_,hg,h1,_,h3,h4⟩
 ·cases hv; exact⟨rfl,λ h=>absurd h (by omega),by omega⟩
 ·cases hv
  refine⟨rfl,λ _=>⟨g,cur,rfl,rfl,hg,?_,?_⟩,h1⟩
  ·rw[h3]; omega
  ·rw[<- h4,Nat.mul_one]
theorem p8{w:World}{base:Nat}{e:TypeId}{sz:Nat}{v:Value}{n:Nat}{xs:List Value}(own:w.ownsRow base e sz v n xs):∃ a c,v=.slice a n c:=by
 rcases own.2 with⟨rfl,rfl⟩|⟨g,cap,cur,rfl,_⟩
 ·exact⟨_,_,rfl⟩
 ·exact⟨_,_,rfl⟩
theorem Rj{P:Program}{w:World}{t e:TypeId}{z:Value}{by_:Nat}(hT:gV P t e z 1 by_)(hz1:z.cells = #[z]){n:Int}(h0:0<=n)(hn:(by_:Int)*n<=281474976710656)(h63:n<=9223372036854775807){K:KP}(k:K (.slice (some ⟨w.heap.size,0,none⟩) n.toNat n.toNat) (w.alloc (.cells (Array.replicate n.toNat z) e))) :
  aV P (Instr.makeSlice t (.int .i64 n) (.int .i64 n)) w K:=by
 obtain⟨i,hi,hz,hs,hby⟩:=hT.i;have hr:=run_make (P:=P) w t e i z hT.u hi hz .i64 .i64 n n h0 (Int.le_refl _) (by rw[hby]; exact hn) h63;refine⟨_,_,hr,?_⟩;have:madeCells z.cells (n.toNat*i.size)=Array.replicate n.toNat z:=by
  rw[hs,Nat.mul_one,hz1];apply Array.ext
  ·simp[size_madeCells]
  ·intro j h1 h2;simp[madeCells,Nat.mod_one]
 rw[this];exact k
theorem Km{P:Program}{w:World}{t ty e:TypeId}{z:Value}{by_:Nat}(hT:gV P t e z 1 by_){g dLen dCap:Nat}{cur:Array Value}(hg:w.heap[g]?=some (.cells cur e (0,0))){a:OA}{sLen sCap:Nat}{cs:List Value}(hn:cs.length=Nat.min sLen dLen)(hfit:dLen<=cur.size)(hsrc:0<cs.length->∃ ad,a=some ad/\∀ j u,cs[j]?=some u->w.cell? (ad.add j)=some u)(h1:∀ u∈cs,u.oneCell' = true){K:KP}(k:∀ w',w'.heap[g]?=some (.cells (cs++cur.toList.drop cs.length).toArray e (0,0))->ay w w' [g]->K (goInt cs.length) w') :
  aV P (Builtin.copy_ #[t,t] ty #[.slice (some ⟨g,0,none⟩) dLen dCap,.slice a sLen sCap]) w K:=by
 obtain⟨i,hi,hz,hs,hby⟩:=hT.i;have hsz:(P.info? e).map (·.size)=some 1:=by simp[hi,hs]
 by_cases h0:cs.length=0
 ·obtain rfl:cs=[]:=List.eq_nil_of_length_eq_zero h0;have hr:=run_copy_none (P:=P) w t t ty e (some ⟨g,0,none⟩) a dLen dCap sLen sCap hT.u hsz (by simpa using hn.symm);exact⟨_,_,hr,k w (by simpa using hg) (ay.refl _ _)⟩
 ·obtain⟨ad,rfl,hc⟩:=hsrc (by omega);have hm:cs.length<=dLen:=by have:=Nat.min_le_right sLen dLen; simp only[hn]; exact this
  have hr:=run_copy_row (P:=P) w t t ty e g 0 dLen dCap ad sLen sCap cur e cs hT.u hsz hg hn hc (by omega) h1;refine⟨_,_,hr,k _ ?_ ?_⟩
  ·rw[setRow_heap w g cur _ e _ hg]; simp
  ·exact⟨by simp[World.setRow],λ j _ hj=>setRow_other w g j _ (by simpa using hj),⟨rfl,rfl,rfl⟩⟩
theorem xk(l:List UInt8):strOfNums (l.map λ b=>(b.toNat:Int))=⟨l.toArray⟩:=by
 unfold strOfNums
 congr 1
 congr 1
 induction l with
 | nil=>rfl
 | cons b l ih=>simp[ih]
theorem Ig{P:Program}{w:World}{t e dst:TypeId}(ht:P.underlying t=some (.slice e))(he:P.underlying e=some (.int .u8))(hd:P.underlying dst=some .string){v:Value}{l:List UInt8}{base:Nat}{e' : TypeId}(own:w.ownsRow base e' 1 v l.length (l.map gi)){K:KP}(k:K (.string ⟨l.toArray⟩) w):aV P (convert t dst v) w K:=by
 obtain⟨a,c,rfl⟩:=p8 own;obtain⟨_,hc,_⟩:=LL own rfl
 by_cases h0:l=[]
 ·subst h0;rcases own.2 with⟨hv,_⟩|⟨g,cap,cur,hv,_⟩
  ·cases hv
   exact⟨_,_,run_convert_bytes_nil (P:=P) w t e ht he 0 0 dst hd,k⟩
  ·cases hv
   refine⟨_,_,run_convert_bytes_arg (P:=P) w t e ht he g 0 0 _ [] rfl (λ i hi=>absurd hi (by omega)) dst hd,?_⟩;exact k
 ·have hpos:0<l.length:=List.length_pos_iff.2 h0;obtain⟨g,cur,rfl,_,hg,hle,htake⟩:=hc hpos;refine⟨_,_,run_convert_bytes_arg (P:=P) w t e ht he g 0 l.length c (l.map λ b=>(b.toNat:Int)) (by simp) (λ i hi=>?_) dst hd,by rw[xk]; exact k⟩;rw[kE,hg,iS];have h2:(cur.toList.take l.length)[i]?=(l.map gi)[i]?:=by rw[htake]
  rw[List.getElem?_take,if_pos hi] at h2;simp only[Nat.zero_add];rw[<- Array.getElem?_toList,h2];simp[gi,hi]
end Go.Vc
namespace Go.Vc
structure aC where
 p:World->List Nat->Prop
 loc:∀ {w w' : World} {F G:List Nat},p w F->ay w w' G->(∀ k∈F,k∉G)->p w' F
 lt:∀ {w:World} {F:List Nat},p w F->∀ k∈F,k<w.heap.size
def To(A:aC)(w w' : World)(F:List Nat):Prop:=∃ F',A.p w' F'/\ay w w' F/\∀ k∈F',k∈F\/w.heap.size<=k
def star(A B:aC):aC where
 p w F:=∃ F1 F2,F=F1++F2/\A.p w F1/\B.p w F2/\∀ k∈F1,k∉F2
 loc:=by
  rintro w w' F G ⟨F1,F2,rfl,h1,h2,hd⟩ hc hn;exact⟨F1,F2,rfl,A.loc h1 hc λ k hk=>hn k (List.mem_append_left _ hk),B.loc h2 hc λ k hk=>hn k (List.mem_append_right _ hk),hd⟩
 lt:=by
  rintro w F ⟨F1,F2,rfl,h1,h2,hd⟩ k hk;rcases List.mem_append.1 hk with h|h
  ·exact A.lt h1 k h
  ·exact B.lt h2 k h
def St(w0 w:World)(A:aC):Prop:=∃ F,A.p w F/\ay w0 w []/\∀ k∈F,w0.heap.size<=k
theorem St.au{w0 w:World}{A:aC}(h:St w0 w A):ay w0 w []:=let ⟨_,_,hc,_⟩:=h; hc
theorem St.use{w0 w:World}{A B:aC}(h:St w0 w (star A B)):∃ F1,A.p w F1/\∀ w' A',To A' w w' F1->St w0 w' (star A' B):=by
 obtain⟨F,⟨F1,F2,rfl,h1,h2,hd⟩,hc,hn⟩:=h;refine⟨F1,h1,λ w' A' ⟨F1',h1',hc',hf⟩=>?_⟩;refine⟨F1'++F2,⟨F1',F2,rfl,h1',B.loc h2 hc' λ j hj hj1=>hd j hj1 hj,λ j hj hj2=>?_⟩,hc.trans hc' (λ i hi=>.inr (hn i (List.mem_append_left _ hi))),λ j hj=>?_⟩
 ·rcases hf j hj with h|h
  ·exact hd j h hj2
  ·have:=B.lt h2 j hj2; omega
 ·rcases List.mem_append.1 hj with h|h
  ·rcases hf j h with h|h
   ·exact hn j (List.mem_append_left _ h)
   ·exact Nat.le_trans hc.size h
  ·exact hn j (List.mem_append_right _ h)
theorem St.quiet{w0 w w' : World}{A:aC}(h:St w0 w A)(hc:ay w w' []):St w0 w' A:=by
 obtain⟨F,hA,hc0,hn⟩:=h;exact⟨F,A.loc hA hc (by simp),hc0.trans hc (by simp),hn⟩
theorem St.add{w0 w w' : World}{A B:aC}{G:List Nat}(h:St w0 w A)(hc:ay w w' [])(hB:B.p w' G)(hG:∀ k∈G,w.heap.size<=k):St w0 w' (star A B):=by
 obtain⟨F,hA,hc0,hn⟩:=h;refine⟨F++G,⟨F,G,rfl,A.loc hA hc (by simp),hB,λ k hk hk2=>?_⟩,hc0.trans hc (by simp),λ k hk=>?_⟩
 ·have:=A.lt hA k hk;have:=hG k hk2;omega
 ·rcases List.mem_append.1 hk with h|h
  ·exact hn k h
  ·exact Nat.le_trans hc0.size (hG k h)
def emp:aC where
 p _ F:=F=[]
 loc:=λ h _ _=>h
 lt:=λ h k hk=>by subst h; cases hk
theorem St.start(w:World):St w w emp:=⟨[],rfl,ay.refl _ _,by simp⟩
theorem St.start'{w w' : World}(h:ay w w' []):St w w' emp:=⟨[],rfl,h,by simp⟩
theorem St.first{w0 w:World}{A B:aC}(h:St w0 w (star A B)):St w0 w A:=by
 obtain⟨F,⟨F1,F2,rfl,h1,_,_⟩,hc,hn⟩:=h;exact⟨F1,h1,hc,λ k hk=>hn k (List.mem_append_left _ hk)⟩
theorem St.second{w0 w:World}{A B:aC}(h:St w0 w (star A B)):St w0 w B:=by
 obtain⟨F,⟨F1,F2,rfl,_,h2,_⟩,hc,hn⟩:=h;exact⟨F2,h2,hc,λ k hk=>hn k (List.mem_append_right _ hk)⟩
theorem St.swap{w0 w:World}{A B:aC}(h:St w0 w (star A B)):St w0 w (star B A):=by
 obtain⟨F,⟨F1,F2,rfl,h1,h2,hd⟩,hc,hn⟩:=h;exact⟨F2++F1,⟨F2,F1,rfl,h2,h1,λ k hk hk1=>hd k hk1 hk⟩,hc,λ k hk=>hn k (by simpa[or_comm] using hk)⟩
theorem St.get{w0 w:World}{A:aC}(h:St w0 w A):∃ F,A.p w F:=let ⟨F,hF,_⟩:=h; ⟨F,hF⟩
theorem St.Jv{w0 w:World}{A B C:aC}(h:St w0 w (star A (star B C))):St w0 w (star B (star A C)):=by
 obtain⟨F,⟨F1,F',rfl,h1,⟨F2,F3,rfl,h2,h3,hd2⟩,hd⟩,hc,hn⟩:=h;refine⟨F2++(F1++F3),⟨F2,F1++F3,rfl,h2,⟨F1,F3,rfl,h1,h3,λ k hk hk3=>hd k hk (List.mem_append_right _ hk3)⟩,λ k hk hk1=>?_⟩,hc,λ k hk=>hn k ?_⟩
 ·rcases List.mem_append.1 hk1 with h|h
  ·exact hd k h (List.mem_append_left _ hk)
  ·exact hd2 k hk h
 ·simp only[List.mem_append] at hk ⊢;rcases hk with h|h|h
  ·exact .inr (.inl h)
  ·exact .inl h
  ·exact .inr (.inr h)
theorem St.assoc{w0 w:World}{A B C:aC}(h:St w0 w (star (star A B) C)):St w0 w (star A (star B C)):=by
 obtain⟨F,⟨F',F3,rfl,⟨F1,F2,rfl,h1,h2,hd2⟩,h3,hd⟩,hc,hn⟩:=h;refine⟨F1++(F2++F3),⟨F1,F2++F3,rfl,h1,⟨F2,F3,rfl,h2,h3,λ k hk hk3=>hd k (List.mem_append_right _ hk) hk3⟩,λ k hk hk1=>?_⟩,hc,λ k hk=>hn k ?_⟩
 ·rcases List.mem_append.1 hk1 with h|h
  ·exact hd2 k hk h
  ·exact hd k (List.mem_append_left _ hk) h
 ·simpa using hk
def ai(r:Nat)(cs:Array Value)(T:TypeId):aC where
 p w F:=w.heap[r]?=some (.cells cs T (0,0))/\F=[r]
 loc:=λ ⟨h,he⟩ hc hd=>⟨hc.keep h (hd _ (by rw[he]; simp)),he⟩
 lt:=λ ⟨h,he⟩ k hk=>by subst he; simp at hk; subst hk; exact mE h
theorem St.box{w0 w:World}{A:aC}(h:St w0 w A)(cs:Array Value)(T:TypeId):St w0 (w.alloc (.cells cs T)) (star A (ai w.heap.size cs T)) :=
 h.add (ay.new _ _ _) (B:=ai w.heap.size cs T) ⟨by rw[iU,if_pos rfl],rfl⟩ (by simp)
theorem St.boxed{w0 w:World}{B:aC}{r:Nat}{cs:Array Value}{T:TypeId}(h:St w0 w (star (ai r cs T) B))(i:Nat):w.cell? ⟨r,i,none⟩=cs[i]?:=by
 obtain⟨F,hF⟩:=h.first.get;rw[kE,hF.1,iS]
theorem bO{w w' : World}{a:Addr}{v:Value}(h:w.cell? a=some v)(hc:ay w w' []):w'.cell? a=some v:=by
 rw[World.cell?_of_block (hc.same a.block (World.block_lt_of_cell? w a h) (by simp))]; exact h
theorem bu{w w' : World}{a:Addr}(hc:ay w w' []):∀ {vs:List Value} {i:Nat},af w a i vs->af w' a i vs
 | [],_,_=>trivial
 | _ :: _,_,h=>⟨bO h.1 hc,bu hc h.2⟩
def bf(A B:aC):Prop:=∀ w F,A.p w F->∃ F',B.p w F'/\∀ j,j∈F'<->j∈F
theorem bf.refl(A:aC):bf A A:=λ _ F h=>⟨F,h,λ _=>Iff.rfl⟩
theorem bf.trans{A B C:aC}(h:bf A B)(k:bf B C):bf A C:=λ w F hA =>
 let ⟨F',hB,h1⟩:=h w F hA;let ⟨F'',hC,h2⟩:=k w F' hB
 ⟨F'',hC,λ j=>(h2 j).trans (h1 j)⟩
theorem bf.right{A B C:aC}(h:bf B C):bf (star A B) (star A C):=by
 rintro w F ⟨F1,F2,rfl,h1,h2,hd⟩;obtain⟨F2',h2',hj⟩:=h w F2 h2;exact⟨F1++F2',⟨F1,F2',rfl,h1,h2',λ k hk hk2=>hd k hk ((hj k).1 hk2)⟩,λ j=>by simp[hj]⟩
theorem bf.Jv{A B C:aC}:bf (star A (star B C)) (star B (star A C)):=by
 rintro w F ⟨F1,F',rfl,h1,⟨F2,F3,rfl,h2,h3,hd2⟩,hd⟩;refine⟨F2++(F1++F3),⟨F2,F1++F3,rfl,h2,⟨F1,F3,rfl,h1,h3,λ k hk hk3=>hd k hk (List.mem_append_right _ hk3)⟩,λ k hk hk1=>?_⟩,λ j=>by simp; constructor<;>(rintro(h|h|h)<;>simp[h])⟩;rcases List.mem_append.1 hk1 with h|h
 ·exact hd k h (List.mem_append_left _ hk)
 ·exact hd2 k hk h
theorem St.eqv{w0 w:World}{A B:aC}(h:St w0 w A)(k:bf A B):St w0 w B:=by
 obtain⟨F,hA,hc,hn⟩:=h;obtain⟨F',hB,hj⟩:=k w F hA;exact⟨F',hB,hc,λ j hj'=>hn j ((hj j).1 hj')⟩
def Sep:List aC->aC
 | []=>emp
 | A :: l=>star A (Sep l)
end Go.Vc
namespace Go.Vc
def FJ:Nat->Nat->List UInt8
 | 0,_=>[]
 | k+1,x=>UInt8.ofNat (x%256) :: FJ k (x / 256)
theorem aU:∀ (k x:Nat),(FJ k x).length=k
 | 0,_=>rfl
 | k+1,x=>by simp[FJ,aU k]
theorem xF:∀ (k x i:Nat),i<k->(FJ k x)[i]?=some (UInt8.ofNat (x / 256 ^ i%256))
 | 0,_,_,h=>absurd h (by omega)
 | k+1,x,0,_=>by simp[FJ]
 | k+1,x,i+1,h=>by
  simp only[FJ,List.getElem?_cons_succ];rw[xF k (x / 256) i (by omega),Nat.div_div_eq_div_mul,Nat.pow_succ,Nat.mul_comm 256]
theorem Lg(k x:Nat):FJ (k+1) x=FJ k x++[UInt8.ofNat (x / 256 ^ k%256)]:=by
 apply List.ext_getElem?;intro i
 by_cases h:i<k
 ·rw[xF _ _ _ (by omega),List.getElem?_append_left (by rw[aU]; exact h),xF _ _ _ h]
 ·by_cases h2:i=k
  ·subst h2;rw[xF _ _ _ (by omega),List.getElem?_append_right (by rw[aU]; exact Nat.le_refl _)];simp[aU]
  ·rw[List.getElem?_eq_none (by rw[aU]; omega),List.getElem?_eq_none (by simp[aU]; omega)]
theorem Jj{w:World}{g:Nat}{e:TypeId}{l:List UInt8}(h:w.heap[g]?=some (.cells (l.map gi).toArray e (0,0)))(hl:l.length<=9223372036854775807) :
  w.ownsRow 0 e 1 (.slice (some ⟨g,0,none⟩) l.length l.length) l.length (l.map gi):=by
 refine⟨by simp,.inr ⟨g,l.length,(l.map gi).toArray,rfl,Nat.zero_le _,h,Nat.le_refl _,?_,?_,?_⟩⟩
 ·unfold maxLen; exact hl
 ·simp
 ·simp only[Nat.mul_one];exact List.take_of_length_le (by simp)
theorem ofNat_toNat(n:Nat):((UInt8.ofNat (n%256)).toNat:Int)=((n%256:Nat):Int):=by
 rw[UInt8.toNat_ofNat']; simp
theorem Lm(x i:Nat)(hi:i<8):IntKind.u8.wrap (Int.fdiv (x:Int) (2 ^ (min ((IntKind.i64.wrap ((8:Int)*(i:Int)))).toNat IntKind.u64.bits)))=((UInt8.ofNat (x / 256 ^ i%256)).toNat:Int):=by
 have h1:IntKind.i64.wrap ((8:Int)*(i:Int))=((8*i:Nat):Int):=by rw[IntWalk.i64_in _ (by omega)]; omega
 have h2:min (8*i) IntKind.u64.bits=8*i:=by
  have:IntKind.u64.bits=64:=rfl;omega
 rw[h1,Int.toNat_natCast,h2,ofNat_toNat];have h3:((2:Int) ^ (8*i))=((256 ^ i:Nat):Int):=by
  rw[Int.pow_mul]; simp
 rw[h3];have h4:Int.fdiv (x:Int) ((256 ^ i:Nat):Int)=((x / 256 ^ i:Nat):Int):=by
  rw[Int.fdiv_eq_ediv_of_nonneg _ (Int.natCast_nonneg _)]; exact(Int.natCast_ediv _ _).symm
 rw[h4,IntKind.wrap_u8];omega
theorem Ln{P:Program}{t:TypeId}{by_:Nat}(hT:gV P t 5 (.int .u8 0) 1 by_)(hby:by_=1)(x k:Nat)(hk:k<=8){w:World}{A:Option Addr->Nat->Nat->World->Prop}(hA:∀ w2 g,ay w w2 []->w2.heap[g]?=some (.cells ((FJ k x).map gi).toArray 5 (0,0))->w.heap.size<=g->A (some ⟨g,0,none⟩) k k w2) :
  aV P (Instr.makeSlice t (.int .i64 (k:Int)) (.int .i64 (k:Int))) w λ e1 w1=>∃ (a1:OA) (l1 c1:Nat),e1=(.slice a1 l1 c1) /\
   ∃ I1:Int->World->Nat->Prop,(∃ m1,I1 (0:Int) w1 m1)/\∀ (w2:World) (m1:Nat) (n3:Int),I1 n3 w2 m1->∀ _:Nat->Value,cond (decide (n3<((l1:Nat):Int))) (0<=(IntKind.i64.wrap ((8:Int)*n3))/\an a1 λ q1=>0<=n3/\n3<((l1:Nat):Int) /\
      aP w2 (Addr.add q1 ((n3).toNat*1)) (.int .u8 (IntKind.u8.wrap (Int.fdiv (x:Int) (2 ^ (min ((IntKind.i64.wrap ((8:Int)*n3))).toNat IntKind.u64.bits))))) λ w3 =>
      ∃ m2,m2<m1/\I1 (IntKind.i64.wrap (n3+(1:Int))) w3 m2) (A a1 l1 c1 w2):=by
 subst hby;refine Rj hT rfl (by omega) (by omega) (by omega) ⟨_,_,_,rfl,?_⟩;obtain⟨g,hg⟩:∃ g,w.heap.size=g:=⟨_,rfl⟩;rw[hg,Int.toNat_natCast];refine⟨λ n3 w2 m=>∃ i:Nat,n3=(i:Int)/\i<=k/\m=k-i/\ay w w2 []/\w2.heap[g]?=some (.cells (((FJ i x).map gi)++List.replicate (k-i) (Value.int .u8 0)).toArray 5 (0,0)),⟨k,0,rfl,by omega,by omega,ay.new _ _ _,by rw[iU,if_pos hg.symm]; simp[FJ]⟩,?_⟩
 rintro w2 m n3 ⟨i,rfl,hi,rfl,hc,hgg⟩ -
 by_cases hlt:i<k
 ·refine cT (decide_eq_true (by omega)) ⟨?_,by omega,by omega,?_⟩
  ·rw[IntWalk.i64_in _ (by omega)]; omega
  ·rw[Int.toNat_natCast,sy,Nat.mul_one];refine GA hgg (by simp[aU]; omega) rfl ⟨k-(i+1),by omega,i+1,?_,by omega,rfl,?_,?_⟩
   ·rw[IntWalk.i64_in _ (by omega)]; omega
   ·refine hc.trans (ay.set w2 g i _ (F:=[g]) (by simp)) (λ j hj=>.inr (by simp at hj; omega))
   ·rw[heap_set,if_pos rfl,hgg,Gv,Lm x i (by omega),Lg]
    congr 2
    rw[List.setIfInBounds_toArray]
    congr 1
    rw[List.set_append_right _ _ (by simp[aU])];rw[show k-i=(k-(i+1))+1 by omega,List.replicate_succ];simp[aU,gi]
 ·obtain rfl:i=k:=by omega
  refine cF (decide_eq_false (by omega)) (hA w2 g hc ?_ (by omega));rw[hgg]; simp
def lE(e:TypeId)(sz:Nat)(v:Value)(n:Nat)(xs:List Value):aC where
 p w F:=w.ownsRow 0 e sz v n xs/\F=v.ownBlock.toList
 loc:=λ ⟨h,he⟩ hc hd=>⟨Es h hc λ k hk=>hd k (by rw[he]; simp[hk]),he⟩
 lt:=λ ⟨h,he⟩ k hk=>by subst he; simp at hk; exact(h.lt k hk).2
theorem St.Lw{w0 w:World}{A:aC}(h:St w0 w A)(e:TypeId)(sz:Nat):St w0 w (star A (lE e sz (.slice none 0 0) 0 [])) :=
 h.add (ay.refl _ _) (B:=lE e sz _ 0 []) (G:=[]) ⟨⟨by simp,.inl ⟨rfl,rfl⟩⟩,rfl⟩ (by simp)
theorem Fk{P:Program}{w0 w:World}{B:aC}{t ty e:TypeId}{z:Value}{sz by_:Nat}(hT:gV P t e z sz by_){v:Value}{n:Nat}{xs:List Value}(h:St w0 w (star (lE e sz v n xs) B)){a:Addr}{m c:Nat}{news:List Value}(hl:news.length=m*sz)(hnews:∀ j u,news[j]?=some u->w.cell? (a.add j)=some u)(h1:∀ u∈news,u.oneCell' = true)(hb:(n+m)*by_<=140737488355328)(hm:n+m<=9223372036854775807){K:KP}(k:∀ v' w',St w0 w' (star (lE e sz v' (n+m) (xs++news)) B)->K v' w'):aV P (Builtin.append_ #[t,t] ty #[v,.slice (some a) m c]) w K:=by
 obtain⟨F,⟨own,rfl⟩,use⟩:=h.use;refine J9 hT own hl hnews h1 hb hm λ v' w' own' hc hn=>k v' w' (use w' (lE e sz v' (n+m) (xs++news)) ⟨_,⟨own',rfl⟩,hc,λ j hj=>?_⟩);rcases hn j (by simpa using hj) with h' | h'
 ·exact .inl (by simp[h'])
 ·exact .inr h'
theorem BS{P:Program}{w0 w:World}{B:aC}{t ty e:TypeId}{z:Value}{sz by_:Nat}(hT:gV P t e z sz by_){v:Value}{n:Nat}{xs:List Value}(h:St w0 w (star (lE e sz v n xs) B)){news:List Value}(hl:news.length=sz)(h1:∀ u∈news,u.oneCell' = true)(hb:(n+1)*by_<=140737488355328)(hm:n+1<=9223372036854775807){R:Option Addr->Nat->Nat->World->Prop}(k:∀ a c w',St w0 w' (star (lE e sz (.slice a (n+1) c) (n+1) (xs++news)) B)->R a (n+1) c w'){cs:Array Value}(hcs:cs=news.toArray) :
  aq w (.cells cs e) λ r w1=>aV P (Builtin.append_ #[t,t] ty #[v,.slice (some ⟨r,0,none⟩) 1 1]) w1 λ e w2=>∃ a l c,e=.slice a l c/\R a l c w2:=by
 subst hcs;refine aJ ?_;have h' : St w0 (w.alloc (.cells news.toArray e)) (star (lE e sz v n xs) B):=h.quiet (ay.new _ _ _);refine Fk hT h' (m:=1) (news:=news) (by omega) (λ j u hj=>?_) h1 hb hm λ v' w' h''=>?_
 ·rw[sy,kE,iU,if_pos rfl,iS]; simpa using hj
 ·obtain⟨F,⟨own,_⟩,_⟩:=h''.use;obtain⟨a,c,rfl⟩:=p8 own;exact⟨a,_,c,rfl,k a c w' h''⟩
theorem MF{P:Program}{w0 w:World}{B:aC}{t e dst:TypeId}(ht:P.underlying t=some (.slice e))(he:P.underlying e=some (.int .u8))(hd:P.underlying dst=some .string){v:Value}{l:List UInt8}{e' : TypeId}(h:St w0 w (star (lE e' 1 v l.length (l.map gi)) B)){K:KP}(k:K (.string ⟨l.toArray⟩) w):aV P (convert t dst v) w K:=by
 obtain⟨F,⟨own,_⟩,_⟩:=h.use;exact Ig ht he hd own k
theorem St.rowOf{w0 w:World}{B:aC}{e:TypeId}{sz n:Nat}{v:Value}{xs:List Value}(h:St w0 w (star (lE e sz v n xs) B)):w.ownsRow 0 e sz v n xs:=by
 obtain⟨F,⟨own,_⟩,_⟩:=h.use;exact own
def aY(b:Nat)(o:Obj):aC where
 p w F:=w.heap[b]?=some o/\F=[b]
 loc:=λ ⟨h,he⟩ hc hd=>⟨hc.keep h (hd b (by rw[he]; simp)),he⟩
 lt:=λ ⟨h,he⟩ k hk=>by subst he; simp at hk; subst hk; exact mE h
theorem ay.put(w:World)(b:Nat)(o:Obj){F:List Nat}(h:b∈F):ay w (w.putObj b o) F :=
 ⟨by simp[World.putObj],λ i _ hn=>World.putObj_heap_other (λ e=>hn (e▸h)),⟨rfl,rfl,rfl⟩⟩
theorem St.obj{w0 w:World}{B:aC}{b:Nat}{o:Obj}(h:St w0 w (star (aY b o) B)):w.heap[b]?=some o:=by
 obtain⟨F,⟨ho,_⟩,_⟩:=h.use;exact ho
theorem St.put{w0 w:World}{B:aC}{b:Nat}{o:Obj}(h:St w0 w (star (aY b o) B))(o' : Obj):St w0 (w.putObj b o') (star (aY b o') B):=by
 obtain⟨F,⟨ho,rfl⟩,use⟩:=h.use;exact use _ (aY b o') ⟨[b],⟨World.putObj_heap_same (mE ho),rfl⟩,ay.put w b o' (by simp),λ j hj=>.inl hj⟩
theorem St.newObj{w0 w:World}{A:aC}(h:St w0 w A)(o:Obj):St w0 (w.alloc o) (star A (aY w.heap.size o)) :=
 h.add (ay.new _ _ _) (B:=aY w.heap.size o) (G:=[w.heap.size]) ⟨by rw[iU,if_pos rfl],rfl⟩ (by simp)
def iT(h:Nat)(b:UInt8):Nat:=(h ^^^ b.toNat)*1099511628211%18446744073709551616
def Hr(l:List UInt8):Nat:=l.foldl iT 14695981039346656037
theorem vP(h:Nat)(b:UInt8):iT h b<18446744073709551616:=Nat.mod_lt _ (by decide)
theorem DZ(h:Nat)(hh:h<18446744073709551616)(b:UInt8) :
  IntKind.u64.wrap ((Sm .u64 (h:Int) (IntKind.u64.wrap (b.toNat:Int)))*(1099511628211:Int))=((iT h b:Nat):Int):=by
 have hb:=b.toNat_lt;have h1:IntKind.u64.wrap (b.toNat:Int)=(b.toNat:Int):=IntWalk.u64_in _ (by omega);have h2:Sm .u64 (h:Int) (b.toNat:Int)=((h ^^^ b.toNat:Nat):Int):=by
  show IntKind.u64.wrap (((BitVec.ofInt 64 (h:Int) ^^^ BitVec.ofInt 64 (b.toNat:Int)).toNat:Nat):Int)=_;have h3:(BitVec.ofInt 64 (h:Int) ^^^ BitVec.ofInt 64 (b.toNat:Int)).toNat=h ^^^ b.toNat:=by
   rw[BitVec.toNat_xor,BitVec.toNat_ofInt,BitVec.toNat_ofInt];have e1:((h:Int)%((2 ^ 64:Nat):Int)).toNat=h:=by omega
   have e2:((b.toNat:Int)%((2 ^ 64:Nat):Int)).toNat=b.toNat:=by omega
   rw[e1,e2]
  rw[h3];have h4:h ^^^ b.toNat<2 ^ 64:=Nat.xor_lt_two_pow (by omega) (by omega);exact IntWalk.u64_in _ (by omega)
 rw[h1,h2,IntKind.wrap_u64];unfold iT;omega
end Go.Vc
namespace Go.Vc
def QX{α:Type}(f:α->aC):aC where
 p w F:=∃ a,(f a).p w F
 loc:=λ ⟨a,h⟩ hc hd=>⟨a,(f a).loc h hc hd⟩
 lt:=λ ⟨a,h⟩=>(f a).lt h
theorem St.ex{α:Type}{f:α->aC}{w0 w:World}{B:aC}(h:St w0 w (star (QX f) B)):∃ a,St w0 w (star (f a) B):=by
 obtain⟨F,⟨F1,F2,rfl,⟨a,h1⟩,h2,hd⟩,hc,hn⟩:=h;exact⟨a,_,⟨F1,F2,rfl,h1,h2,hd⟩,hc,hn⟩
theorem St.wT{α:Type}{f:α->aC}{w0 w:World}{B:aC}(a:α)(h:St w0 w (star (f a) B)):St w0 w (star (QX f) B):=by
 obtain⟨F,⟨F1,F2,rfl,h1,h2,hd⟩,hc,hn⟩:=h;exact⟨_,⟨F1,F2,rfl,⟨a,h1⟩,h2,hd⟩,hc,hn⟩
theorem bf.swap{A B:aC}:bf (star A B) (star B A):=by
 rintro w F ⟨F1,F2,rfl,h1,h2,hd⟩;exact⟨F2++F1,⟨F2,F1,rfl,h2,h1,λ k hk hk'=>hd k hk' hk⟩,λ j=>by simp[or_comm]⟩
theorem bf.assoc{A B C:aC}:bf (star (star A B) C) (star A (star B C)):=by
 rintro w F ⟨F1,F2,rfl,⟨G1,G2,rfl,h1,h2,hd1⟩,h3,hd⟩;refine⟨G1++(G2++F2),⟨G1,G2++F2,rfl,h1,⟨G2,F2,rfl,h2,h3,λ k hk=>hd k (by simp[hk])⟩,λ k hk hk'=>?_⟩,λ j=>by simp⟩;rcases List.mem_append.1 hk' with h|h
 ·exact hd1 k hk h
 ·exact hd k (by simp[hk]) h
theorem bf.assoc'{A B C:aC}:bf (star A (star B C)) (star (star A B) C):=by
 rintro w F ⟨F1,F2,rfl,h1,⟨G1,G2,rfl,h2,h3,hd1⟩,hd⟩;refine⟨(F1++G1)++G2,⟨F1++G1,G2,rfl,⟨F1,G1,rfl,h1,h2,λ k hk hk'=>hd k hk (by simp[hk'])⟩,h3,λ k hk hk'=>?_⟩,λ j=>by simp⟩;rcases List.mem_append.1 hk with h|h
 ·exact hd k h (by simp[hk'])
 ·exact hd1 k h hk'
theorem bf.unit(A:aC):bf A (star A emp):=λ _ F h=>⟨F++[],⟨F,[],rfl,h,rfl,by simp⟩,λ j=>by simp⟩
end Go.Vc
namespace Go.Vc
theorem bf.unit'(A:aC):bf (star A emp) A:=by
 rintro w F ⟨F1,F2,rfl,h,rfl,_⟩;exact⟨F1,h,λ j=>by simp⟩
theorem bf.out:∀ {l:List aC} (i:Nat) {A:aC},l[i]?=some A->bf (Sep l) (star A (Sep (l.eraseIdx i)))
 | [],_,_,h=>by simp at h
 | B :: l,0,A,h=>by simp at h; subst h; exact bf.refl _
 | B :: l,i+1,A,h=>(bf.right (bf.out (l:=l) i (by simpa using h))).trans bf.Jv
theorem bf.back:∀ {l:List aC} (i:Nat) {A:aC},i<l.length->bf (star A (Sep (l.eraseIdx i))) (Sep (l.set i A))
 | [],_,_,h=>by simp at h
 | B :: l,0,A,h=>bf.refl _
 | B :: l,i+1,A,h=>bf.Jv.trans (bf.right (bf.back (l:=l) i (by simpa using h)))
theorem St.out{w0 w:World}{l:List aC}(h:St w0 w (Sep l))(i:Nat){A:aC}(e:l[i]?=some A):St w0 w (star A (Sep (l.eraseIdx i))):=h.eqv (bf.out i e)
theorem St.back{w0 w:World}{l:List aC}{A:aC}{i:Nat}(h:St w0 w (star A (Sep (l.eraseIdx i))))(hi:i<l.length:=by decide):St w0 w (Sep (l.set i A)):=h.eqv (bf.back i hi)
section at_
variable {w0 w:World} {l:List aC}
theorem St.ag{r:Nat}{cs:Array Value}{T:TypeId}(h:St w0 w (Sep l))(i:Nat)(e:l[i]?=some (ai r cs T))(j:Nat):w.cell? ⟨r,j,none⟩=cs[j]?:=(h.out i e).boxed j
theorem St.hU{b:Nat}{o:Obj}(h:St w0 w (Sep l))(i:Nat)(e:l[i]?=some (aY b o)):w.heap[b]?=some o:=(h.out i e).obj
theorem dS{i:Nat}{A:aC}(e:l[i]?=some A):i<l.length:=by
 rcases Nat.lt_or_ge i l.length with h|h
 ·exact h
 ·rw[List.getElem?_eq_none h] at e; cases e
theorem St.putAt{b:Nat}{o:Obj}(h:St w0 w (Sep l))(i:Nat)(e:l[i]?=some (aY b o))(o' : Obj):St w0 (w.putObj b o') (Sep (l.set i (aY b o'))) :=
 (St.put (h.out i e) o').back (dS e)
theorem St.bW(h:St w0 w (Sep l))(cs:Array Value)(T:TypeId):St w0 (w.alloc (.cells cs T)) (Sep (ai w.heap.size cs T :: l)):=(h.box cs T).swap
theorem St.Ru(h:St w0 w (Sep l))(o:Obj):St w0 (w.alloc o) (Sep (aY w.heap.size o :: l)):=(h.newObj o).swap
theorem St.aK{cs:Array Value}{r:Nat}{T:TypeId}{v:Value}{j:Nat}{R:World->Prop}(h:St w0 w (Sep l))(i:Nat)(e:l[i]?=some (ai r cs T))(hj:j<cs.size)(hv:v.oneCell' = true)(k:∀ w',St w0 w' (Sep (l.set i (ai r (cs.setIfInBounds j v) T)))->R w'):aP w ⟨r,j,none⟩ v R:=by
 obtain⟨F,⟨ho,rfl⟩,use⟩:=(h.out i e).use;refine GA ho hj hv (k _ ((use _ (ai r (cs.setIfInBounds j v) T) ⟨[r],⟨?_,rfl⟩,ay.set _ _ _ _ (by simp),λ j hj=>.inl hj⟩).back (dS e)));rw[heap_set,if_pos rfl,ho]; rfl
theorem St.az{x:Nat}{cs:Array Value}{T:TypeId}{R:World->Prop}(h:St w0 w (Sep l))(i:Nat)(e:l[i]?=some (ai x cs T))(vs:List Value)(hn:vs.length=cs.size)(h1:∀ v∈vs,v.oneCell' = true)(k:∀ w',St w0 w' (Sep (l.set i (ai x vs.toArray T)))->R w'):aL ⟨x,0,none⟩ 0 vs w R:=by
 obtain⟨F,⟨ho,rfl⟩,use⟩:=(h.out i e).use;refine CZ vs 0 w cs ho (by omega) h1 λ w' hb hc _=>k w' ((use w' (ai x vs.toArray T) ⟨[x],⟨?_,rfl⟩,hc,λ j hj=>.inl hj⟩).back (dS e));rw[hb];have:cs.toList.drop (0+0+vs.length)=[]:=List.drop_of_length_le (by simp; omega);rw[this]
 simp
end at_
def bC(A B:aC):Prop:=∀ w F,A.p w F->∃ F',B.p w F'/\∀ j∈F',j∈F
theorem bf.weak{A B:aC}(h:bf A B):bC A B:=λ w F hA=>let ⟨F',hB,hj⟩:=h w F hA; ⟨F',hB,λ j hj'=>(hj j).1 hj'⟩
theorem bC.trans{A B C:aC}(h:bC A B)(k:bC B C):bC A C:=λ w F hA =>
 let ⟨_,hB,h1⟩:=h w F hA;let ⟨F'',hC,h2⟩:=k w _ hB
 ⟨F'',hC,λ j hj=>h1 j (h2 j hj)⟩
theorem bC.right{A B C:aC}(h:bC B C):bC (star A B) (star A C):=by
 rintro w F ⟨F1,F2,rfl,h1,h2,hd⟩;obtain⟨F2',h2',hj⟩:=h w F2 h2;exact⟨F1++F2',⟨F1,F2',rfl,h1,h2',λ k hk hk2=>hd k hk (hj k hk2)⟩,λ j hj'=>by rcases List.mem_append.1 hj' with h|h<;>simp[h,hj j]⟩
theorem bC.none(A:aC):bC A emp:=λ _ _ _=>⟨[],rfl,by simp⟩
theorem St.weak{w0 w:World}{A B:aC}(h:St w0 w A)(k:bC A B):St w0 w B:=by
 obtain⟨F,hA,hc,hn⟩:=h;obtain⟨F',hB,hs⟩:=k w F hA;exact⟨F',hB,hc,λ j hj=>hn j (hs j hj)⟩
def av:List Nat->List aC->List aC
 | [],_=>[]
 | i :: is,l=>l.getD i emp :: av is (l.set i emp)
theorem bC.pick:∀ (is:List Nat) (l:List aC),bC (Sep l) (Sep (av is l))
 | [],l=>bC.none _
 | i :: is,l=>by
  by_cases hi:i<l.length
  ·have e:l[i]?=some (l.getD i emp):=by simp[hi]
   refine(bf.out i e).weak.trans (bC.right ?_);refine bC.trans ?_ (bC.pick is (l.set i emp));refine bC.trans (bf.weak ?_) (bf.back (l:=l) (A:=emp) i hi).weak;exact(bf.unit _).trans bf.swap
  ·have e:l.getD i emp=emp:=by simp[List.getElem?_eq_none (Nat.le_of_not_lt hi)]
   have e2:l.set i emp=l:=List.set_eq_of_length_le (Nat.le_of_not_lt hi);unfold Vc.av;rw[e,e2];exact(bC.pick is l).trans ((bf.unit _).trans bf.swap).weak
theorem St.av{w0 w:World}{l:List aC}(h:St w0 w (Sep l))(is:List Nat):St w0 w (Sep (Vc.av is l)):=h.weak (bC.pick is l)
theorem bf.split{m:List aC}:∀ (l:List aC),bf (Sep (l++m)) (star (Sep l) (Sep m))
 | []=>(bf.unit _).trans bf.swap
 | _ :: l=>(bf.right (bf.split l)).trans bf.assoc'
theorem bf.cat{m:List aC}:∀ (l:List aC),bf (star (Sep l) (Sep m)) (Sep (l++m))
 | []=>bf.swap.trans (bf.unit' _)
 | _ :: l=>bf.assoc.trans (bf.right (bf.cat l))
theorem St.split{w0 w:World}{m:List aC}(l:List aC)(h:St w0 w (Sep (l++m))):St w0 w (star (Sep l) (Sep m)):=h.eqv (bf.split l)
theorem St.cat{w0 w:World}{l m:List aC}(h:St w0 w (star (Sep l) (Sep m))):St w0 w (Sep (l++m)):=h.eqv (bf.cat l)
theorem St.join{w0 w:World}{A B:aC}{l:List aC}(h:St w0 w (Sep (A :: B :: l))):St w0 w (Sep (star A B :: l)):=h.eqv bf.assoc'
theorem St.one{w0 w:World}{A:aC}(h:St w0 w A):St w0 w (Sep [A]):=h.eqv (bf.unit A)
theorem St.single{w0 w:World}{A:aC}(h:St w0 w (Sep [A])):St w0 w A:=h.eqv (bf.unit' A)
theorem St.pair{w0 w:World}{A B:aC}(h:St w0 w (Sep [A,B])):St w0 w (star A B):=h.eqv (bf.right (bf.unit' B))
theorem St.vW{w0 w:World}{A B:aC}(h:St w0 w (star A B)):St w0 w (Sep [A,B]):=h.eqv (bf.right (bf.unit B))
theorem St.triple{w0 w:World}{A B C:aC}(h:St w0 w (Sep [A,B,C])):St w0 w (star A (star B C)):=h.eqv (bf.right (bf.right (bf.unit' C)))
theorem St.qh{w0 w:World}{A B C:aC}(h:St w0 w (star A (star B C))):St w0 w (Sep [A,B,C]):=h.eqv (bf.right (bf.right (bf.unit C)))
end Go.Vc
namespace Go.Vc
theorem ak{P:Program}{f:FuncId}{args:Array Value}{w:World}{K:KP}{R:Ending->World->Prop}(h:Calls P f args w (xV K))(k:∀ v w',K v w'->R (.returned v) w'):Calls P f args w R :=
 h.mono λ e w' ⟨v,he,hv⟩=>by subst he; exact k v w' hv
theorem bq(g i j:Nat):(⟨g,i,none⟩:Addr).add j=⟨g,i+j,none⟩:=by unfold Addr.add; split<;>simp_all
theorem CT{w:World}{e:TypeId}{sz n:Nat}{a:OA}{c:Nat}{xs:List Value}(own:w.ownsRow 0 e sz (.slice a n c) n xs)(hn:0<n):∃ g,a=some ⟨g,0,none⟩/\∀ (k:Nat) (v:Value),xs[k]?=some v->w.cell? ⟨g,k,none⟩=some v:=by
 rcases own.2 with⟨hv,rfl⟩|⟨g,cap,cur,hv,_,hg,h1,_,h3,h4⟩
 ·omega
 ·cases hv
  refine⟨g,rfl,λ k v hk=>?_⟩;rw[kE,hg,iS,<- Array.getElem?_toList,<- hk,<- h4,List.getElem?_take];rw[<- h4,List.getElem?_take] at hk
  split at hk
  ·rename_i hlt; rw[if_pos hlt]
  ·cases hk
theorem QC{r:Nat}{cs:Array Value}{T:TypeId}{n:Nat}(hn:cs.size=n)(hm:n<=maxLen):bC (ai r cs T) (lE T 1 (.slice (some ⟨r,0,none⟩) n n) n cs.toList):=by
 rintro w F ⟨h,rfl⟩;refine⟨[r],⟨⟨by simp[hn],.inr ⟨r,n,cs,rfl,Nat.zero_le _,h,Nat.le_refl _,hm,by omega,?_⟩⟩,by simp[Value.ownBlock]⟩,by simp⟩;rw[Nat.mul_one];exact List.take_of_length_le (by simp[hn])
theorem bC.left{A B C:aC}(h:bC A B):bC (star A C) (star B C):=by
 rintro w F ⟨F1,F2,rfl,h1,h2,hd⟩;obtain⟨F1',h1',hj⟩:=h w F1 h1;exact⟨F1'++F2,⟨F1',F2,rfl,h1',h2,λ k hk hk2=>hd k (hj k hk) hk2⟩,λ j hj'=>by rcases List.mem_append.1 hj' with h|h<;>simp[h,hj j]⟩
theorem aG{α:Type}{l:List α}{i:Nat}{a:α}(h:l[i]?=some a):l.take (i+1)=l.take i++[a]:=by
 rw[List.take_add_one,h]; rfl
theorem St.after{w0 w w' : World}{A B:aC}(h:St w0 w A)(k:St w w' B):St w0 w' (star B A):=by
 obtain⟨F,hA,hc,hn⟩:=h;obtain⟨G,hB,hc',hn'⟩:=k;refine⟨G++F,⟨G,F,rfl,hB,A.loc hA hc' (by simp),λ k hk hk2=>?_⟩,hc.trans hc' (by simp),λ k hk=>?_⟩
 ·have:=hn' k hk;have:=A.lt hA k hk2;omega
 ·rcases List.mem_append.1 hk with h|h
  ·exact Nat.le_trans hc.size (hn' k h)
  ·exact hn k h
theorem Mh{w0 w1 w:World}{A:aC}(hc:ay w0 w1 [])(h:St w1 w A):St w0 w A :=
 let ⟨F,hF,hc',hn⟩:=h
 ⟨F,hF,hc.trans hc' (by simp),λ k hk=>Nat.le_trans hc.size (hn k hk)⟩
theorem tT{w:World}{e:TypeId}{sz n c:Nat}{a:OA}{xs:List Value}(own:w.ownsRow 0 e sz (.slice a n c) n xs):n<=c/\(a=none->c=0):=by
 rcases own.2 with⟨hv,rfl⟩|⟨g,cap,cur,hv,_,_,h1,_⟩
 ·cases hv; exact⟨Nat.zero_le _,λ _=>rfl⟩
 ·cases hv; exact⟨h1,λ h=>by cases h⟩
theorem br{w:World}{a:Addr}:∀ (vs:List Value) (i:Nat),(∀ (j:Nat) (v:Value),vs[j]?=some v->w.cell? (a.add (i+j))=some v)->af w a i vs
 | [],_,_=>trivial
 | v :: vs,i,h=>⟨h 0 v rfl,br vs (i+1) λ j u hj=>by have:=h (j+1) u (by simpa using hj); rwa [show i+(j+1)=i+1+j by omega] at this⟩
theorem St.cellsIn{w0 w:World}{l:List aC}{r:Nat}{cs:Array Value}{T:TypeId}(h:St w0 w (Sep l))(i:Nat)(e:l[i]?=some (ai r cs T)):af w ⟨r,0,none⟩ 0 cs.toList :=
 br _ 0 λ j v hj=>by
  rw[sy,Nat.zero_add,h.ag i e];simpa using hj
theorem vg{P:Program}{gf:FuncId}{lb:Array Value}{F:FuncId->List Value->Prop}(he:dQ P gf=true)(h:F gf lb.toList):vf P (.func (.func gf) #[] lb) F:=by
 show cond (true&&dQ P gf) (F gf lb.toList) False;rw[he];exact h
theorem bx{P:Program}{g:FuncId}{x y args:Array Value}{w:World}{R:Ending->World->Prop}(he:dQ P g=true)(h:Calls P g (x++args++y) w R):cU P (.func (.func g) x y) args w R:=by
 show cond (dQ P g) (Calls P g (x++args++y) w R) False;rw[he];exact h
end Go.Vc
namespace Go.Vc
open Go Go.Deep
def fO(P:Program)(w:World):Nat->TypeId->List Value->Prop
 | 0,_,_=>True
 | d+1,t,cs=>match P.underlying t with
  | some .bool=>∃ b:Bool,cs=[.bool b]
  | some (.int k)=>∃ n:Int,cs=[.int k n]/\(Lit.int k n).wf=true
  | some .string=>∃ s:ByteArray,cs=[.string s]/\s.size<=maxLen
  | some (.slice e)=>∃ (a:OA) (l c:Nat),cs=[.slice a l c]/\l<=c/\c<=maxLen/\(a=none->c=0)/\l*P.bytesOf e<=reachBytes /\
    ∀ i,i<l->∃ q cs',a=some q/\w.cells? 0 (q.add (i*P.cellsOf e)) (P.cellsOf e)=some cs'/\fO P w d e cs'
  | some (.struct fs)=>cs.length=P.cellsOf t/\∀ f∈fs.toList,fO P w d f.type ((cs.drop f.offset).take (P.cellsOf f.type))
  | some (.array n e)=>cs.length=P.cellsOf t/\∀ i,i<n->fO P w d e ((cs.drop (i*P.cellsOf e)).take (P.cellsOf e))
  | _=>True
theorem MO{H:Type}{P:Program}{e:TypeId}:∀ {l:List (DataW H)} {d:DataW H} {y:Nat},d∈l->y∈d.weights P e->y∈DataW.weightsAll P e l
 | [],_,_,h,_=>by cases h
 | x :: l,d,y,h,hy=>by
  simp only[DataW.weightsAll,List.mem_append];rcases List.mem_cons.1 h with rfl|h
  ·exact .inl hy
  ·exact .inr (MO h hy)
theorem zZ{H:Type}{P:Program}:∀ {ts:List TypeId} {l:List (DataW H)} {i:Nat} {t:TypeId} {d:DataW H} {y:Nat},ts[i]?=some t->l[i]?=some d->y∈d.weights P t->y∈DataW.weightsEach P ts l
 | [],_,_,_,_,_,h,_,_=>by simp at h
 | _ :: _,[],_,_,_,_,_,h,_=>by simp at h
 | t0 :: ts,d0 :: l,i,t,d,y,h1,h2,hy=>by
  simp only[DataW.weightsEach,List.mem_append]
  cases i with
  | zero=>simp at h1 h2; subst h1 h2; exact .inl hy
  | succ i=>exact .inr (zZ (i:=i) (by simpa using h1) (by simpa using h2) hy)
theorem kZ{H:Type}{enc:TypeId×Value->H}{P:Program}{w:World}{spare:Nat->Bool}{held:Bool}:∀ (d:Nat) {fuel:Nat} {t:TypeId} {cs:List Value} {x:DataW H×List MemPlace},DataW.trod enc P w 0 spare held fuel t cs=some x->(∀ y∈x.1.weights P t,y<=reachBytes)->fO P w d t cs
 | 0,_,_,_,_,_,_=>trivial
 | d+1,fuel,t,cs,x,h,hw=>by
  unfold fO
  split
  ·rename_i hu;obtain⟨b,rfl,_⟩:=DataW.trod_bool hu h;exact⟨b,rfl⟩
  ·rename_i k hu;obtain⟨n,rfl,_,hw⟩:=DataW.trod_int hu h;exact⟨n,rfl,hw⟩
  ·rename_i hu;obtain⟨s,rfl,_,hs⟩:=DataW.trod_string hu h;exact⟨s,rfl,hs⟩
  ·rename_i e hu;rcases open_slice hu h with⟨rfl,_⟩|⟨a,l,c,m,n,D,Pl,rfl,_,hl,hc,hm,hx,hi⟩
   ·exact⟨none,0,0,rfl,Nat.le_refl _,Nat.zero_le _,λ _=>rfl,by simp,λ i hi=>by omega⟩
   ·subst hx;simp only[DataW.weights,hu,List.length_map,List.length_range,List.mem_cons,List.mem_append] at hw;have hlm:l<=m:=by rw[hm]; split<;>omega
    have hb:=hw _ (.inl rfl);refine⟨some a,l,c,rfl,hl,hc,λ h=>(by cases h),?_,λ i hil=>?_⟩
    ·exact Nat.le_trans (Nat.mul_le_mul_right _ (by omega)) hb
    ·obtain⟨cs',h1,h2⟩:=hi i (by omega);exact⟨a,cs',rfl,h1,kZ d h2 λ y hy=>hw y (.inr (.inl (MO (List.mem_map.2 ⟨i,by simpa using hil,rfl⟩) hy)))⟩
  ·rename_i fs hu;obtain⟨xs,n,_,rfl,hc,hl,hf⟩:=DataW.trod_struct hu h;refine⟨hc,λ f hm=>?_⟩;obtain⟨i,hi,rfl⟩:=List.mem_iff_getElem.1 hm;have hi' : i<fs.size:=by simpa using hi
   have h2:=hf i fs.toList[i] (by simp[hi']);rw[List.getElem?_eq_getElem (by omega)] at h2;simp only[DataW.weights,hu] at hw;exact kZ d h2 λ y hy=>hw y (zZ (i:=i) (by simp[hi']) (by rw[List.getElem?_map,List.getElem?_eq_getElem (by omega)]; rfl) hy)
  ·rename_i n e hu;obtain⟨xs,m,_,rfl,hc,hl,hf⟩:=DataW.trod_array hu h;refine⟨hc,λ i hi=>?_⟩;have h2:=hf i hi;rw[List.getElem?_eq_getElem (by omega)] at h2;simp only[DataW.weights,hu] at hw;exact kZ d h2 λ y hy=>hw y (MO (List.mem_map.2 ⟨_,List.getElem_mem (by omega),rfl⟩) hy)
  ·trivial
end Go.Vc
namespace Go.Vc
open Go
abbrev sv (l:List UInt8):Value:=.string (bs l)
def In(n:Int):Prop:=-9223372036854775808<=n/\n<=9223372036854775807
theorem aB{n:Int}(h:In n):IntKind.i64.wrap n=n:=by
 obtain⟨h0,h1⟩:=h;simp only[IntKind.wrap,IntKind.signed,IntKind.bits]
 simp
 omega
theorem inc{k n:Nat}(h:n<=9223372036854775807)(hk:k<n):IntKind.i64.wrap ((k:Int)+1)=((k+1:Nat):Int):=aB ⟨by omega,by omega⟩
theorem lZ(l:List UInt8)(i:Nat):(bs l)[i]?=l[i]?:=by
 by_cases h:i<l.length
 ·rw[getElem?_pos (bs l) i h,List.getElem?_eq_getElem h]; rfl
 ·rw[getElem?_neg (bs l) i h,List.getElem?_eq_none (by omega)]
theorem BX(l:List UInt8)(m n:Nat):(bs l).extract m n=bs ((l.drop m).take (n-m)):=by
 apply ByteArray.ext;rw[ByteArray.data_extract];apply Array.toList_inj.1;rw[Array.toList_extract,List.extract_eq_take_drop];simp[bs]
theorem SM(l:List UInt8)(n:Nat):(bs l).extract 0 n=bs (l.take n):=by rw[BX]; simp
theorem iI(l:List UInt8):(bs l).toList=l:=by rw[Go.ByteArray.toList_eq]; simp[bs]
theorem eH(l:List UInt8):(bs l).size=l.length:=by simp[bs,ByteArray.size]
theorem gT(l m:List UInt8):bs l++bs m=bs (l++m):=by
 apply ByteArray.ext; simp[bs]
theorem SL(b:ByteArray):b=bs b.data.toList:=by cases b; simp[bs]
namespace I6
def l(u:I6):List Int:=[u.a,u.b,u.c,u.d,u.e,u.f]
def at'(u:I6):Nat->Int
 | 0=>u.a
 | 1=>u.b
 | 2=>u.c
 | 3=>u.d
 | 4=>u.e
 | 5=>u.f
 | _=>0
theorem get(u:I6)(k:Nat)(hk:k<6):(u.vs.toArray:Array Value)[k*1]?=some (iv (u.at' k)):=by
 match k,hk with
 | 0,_|1,_|2,_|3,_|4,_|5,_=>rfl
theorem oP(u:I6)(k:Nat)(hk:k<6):u.l[k]?=some (u.at' k):=by
 match k,hk with
 | 0,_|1,_|2,_|3,_|4,_|5,_=>rfl
theorem size(u:I6):u.vs.toArray.size=6:=rfl
theorem len(u:I6):u.l.length=6:=rfl
theorem one(u:I6):∀ v∈u.vs,v.oneCell' = true:=by
 intro v hv; simp[vs] at hv; rcases hv with rfl|rfl|rfl|rfl|rfl|rfl<;>rfl
theorem ext'{u v:I6}(h:∀ k,k<6->u.at' k=v.at' k):u=v:=by
 cases u; cases v
 have h0:=h 0 (by decide); have h1:=h 1 (by decide); have h2:=h 2 (by decide); have h3:=h 3 (by decide); have h4:=h 4 (by decide); have h5:=h 5 (by decide);simp only[at'] at h0 h1 h2 h3 h4 h5;subst h0 h1 h2 h3 h4 h5; rfl
theorem beq_iff{u v:I6}:u.beq v=true<->u=v:=by
 cases u; cases v
 simp[beq]
instance:DecidableEq I6:=λ u v=>if h:u.beq v=true then .isTrue (beq_iff.1 h) else .isFalse λ e=>h (beq_iff.2 e)
theorem beq_eq(u v:I6):u.beq v=decide (u=v):=by
 cases h:u.beq v with
 | true=>rw[decide_eq_true (beq_iff.1 h)]
 | false=>rw[decide_eq_false λ e=>by rw[beq_iff.2 e] at h; cases h]
def UG(l:List Int):I6:=⟨l.getD 0 0,l.getD 1 0,l.getD 2 0,l.getD 3 0,l.getD 4 0,l.getD 5 0⟩
def map(f:Int->Int)(u:I6):I6:=⟨f u.a,f u.b,f u.c,f u.d,f u.e,f u.f⟩
def zip(f:Int->Int->Int)(u v:I6):I6:=⟨f u.a v.a,f u.b v.b,f u.c v.c,f u.d v.d,f u.e v.e,f u.f v.f⟩
theorem fG(f:Int->Int->Int)(u v:I6)(k:Nat)(hk:k<6):(zip f u v).at' k=f (u.at' k) (v.at' k):=by
 match k,hk with
 | 0,_|1,_|2,_|3,_|4,_|5,_=>rfl
def mix(k:Nat)(u v:I6):I6:=⟨if 0<k then u.a else v.a,if 1<k then u.b else v.b,if 2<k then u.c else v.c,if 3<k then u.d else v.d,if 4<k then u.e else v.e,if 5<k then u.f else v.f⟩
theorem Ls(u v:I6):mix 0 u v=v:=rfl
theorem xI(u v:I6):mix 6 u v=u:=rfl
theorem bT(u v:I6)(k j:Nat)(hj:j<6):(mix k u v).at' j=if j<k then u.at' j else v.at' j:=by
 match j,hj with
 | 0,_|1,_|2,_|3,_|4,_|5,_=>rfl
theorem eV(u v:I6)(k:Nat)(hk:k<6):(mix k u v).vs.toArray.setIfInBounds k (iv (u.at' k))=(mix (k+1) u v).vs.toArray:=by
 match k,hk with
 | 0,_|1,_|2,_|3,_|4,_|5,_=>rfl
def put(u:I6)(k:Nat)(x:Int):I6:=match k with
 | 0=>{ u with a:=x }
 | 1=>{ u with b:=x }
 | 2=>{ u with c:=x }
 | 3=>{ u with d:=x }
 | 4=>{ u with e:=x }
 | 5=>{ u with f:=x }
 | _=>u
theorem mG(u:I6)(k:Nat)(x:Int)(hk:k<6):u.vs.toArray.setIfInBounds k (iv x)=(u.put k x).vs.toArray:=by
 match k,hk with
 | 0,_|1,_|2,_|3,_|4,_|5,_=>rfl
theorem rP(u:I6)(k j:Nat)(x:Int)(hk:k<6)(hj:j<6):(u.put k x).at' j=if j=k then x else u.at' j:=by
 match k,hk,j,hj with
 | 0,_,0,_|0,_,1,_|0,_,2,_|0,_,3,_|0,_,4,_|0,_,5,_=>rfl
 | 1,_,0,_|1,_,1,_|1,_,2,_|1,_,3,_|1,_,4,_|1,_,5,_=>rfl
 | 2,_,0,_|2,_,1,_|2,_,2,_|2,_,3,_|2,_,4,_|2,_,5,_=>rfl
 | 3,_,0,_|3,_,1,_|3,_,2,_|3,_,3,_|3,_,4,_|3,_,5,_=>rfl
 | 4,_,0,_|4,_,1,_|4,_,2,_|4,_,3,_|4,_,4,_|4,_,5,_=>rfl
 | 5,_,0,_|5,_,1,_|5,_,2,_|5,_,3,_|5,_,4,_|5,_,5,_=>rfl
end I6
theorem ay.cat{w w1 w2:World}{F G:List Nat}(h:ay w w1 F)(k:ay w1 w2 G):ay w w2 (F++G) :=
 ⟨Nat.le_trans h.size k.size,λ i hi hn=>(k.same i (Nat.lt_of_lt_of_le hi h.size) λ hg=>hn (List.mem_append_right _ hg)).trans (h.same i hi λ hf=>hn (List.mem_append_left _ hf)),h.env.trans k.env⟩
def held(Q:World->Prop):aC where
 p w F:=(∀ w' G,ay w w' G->(∀ k∈F,k∉G)->Q w')/\∀ k∈F,k<w.heap.size
 loc:=λ {_ _ _ G} ⟨h,hl⟩ hc hd=>⟨λ w'' G' hc' hd'=>h w'' (G++G') (hc.cat hc') λ k hk hm=>(List.mem_append.1 hm).elim (hd k hk) (hd' k hk),λ k hk=>Nat.lt_of_lt_of_le (hl k hk) hc.size⟩
 lt:=λ ⟨_,hl⟩=>hl
theorem K4{Q:World->Prop}{w:World}{F:List Nat}(h:(held Q).p w F):Q w:=h.1 w [] (ay.refl _ _) (by simp)
def gQ(A:aC)(Q:World->Prop):Prop:=∀ w F,A.p w F->Q w
theorem gQ.weak{A:aC}{Q:World->Prop}(h:gQ A Q):bC A (held Q):=λ _ F hA =>
 ⟨F,⟨λ w' _ hc hd=>h w' F (A.loc hA hc hd),λ k hk=>A.lt hA k hk⟩,λ _ hj=>hj⟩
theorem gQ.star{A B:aC}{Q R:World->Prop}(h:gQ A Q)(k:gQ B R):gQ (star A B) λ w=>Q w/\R w:=λ w _ ⟨F1,F2,_,h1,h2,_⟩=>⟨h w F1 h1,k w F2 h2⟩
theorem gQ.mono{A:aC}{Q R:World->Prop}(h:gQ A Q)(k:∀ w,Q w->R w):gQ A R:=λ w F hA=>k w (h w F hA)
theorem aZ(Q:World->Prop):gQ (held Q) Q:=λ _ _ h=>K4 h
theorem pZ{Q R:World->Prop}(k:∀ w,Q w->R w):bC (held Q) (held R):=((aZ Q).mono k).weak
theorem St.held{w0 w:World}{A:aC}{Q:World->Prop}(h:St w0 w A)(k:gQ A Q):St w0 w (Vc.held Q):=h.weak k.weak
theorem St.imp{w0 w:World}{A:aC}{Q:World->Prop}(h:St w0 w A)(k:gQ A Q):Q w:=let ⟨F,hA,_⟩:=h; k w F hA
theorem St.cv{w0 w:World}{l:List aC}{Q:World->Prop}(h:St w0 w (Sep l))(i:Nat)(e:l[i]?=some (Vc.held Q)):Q w:=(h.out i e).first.imp (aZ Q)
theorem St.ax{w0 w:World}{l:List aC}(h:St w0 w (Sep l))(cs:Array Value){T:TypeId}{R:Nat->World->Prop}(k:∀ r w',St w0 w' (Sep (ai r cs T :: l))->R r w'):aq w (.cells cs T) R:=k _ _ (h.bW cs T)
theorem aj{α:Type}{p:Option α}{F:α->Prop}{q:α}(h:p=some q)(k:F q):an p F:=by rw[h]; exact k
def M4{α:Type}(sz:Nat)(R:World->α->List Value->Prop)(w:World)(a:OA)(l:List α):Prop :=
 ∀ (i:Nat) (x:α),l[i]?=some x->∃ q cs,a=some q/\af w (q.add (i*sz)) 0 cs/\cs.length=sz/\R w x cs
abbrev cG {α:Type} (sz:Nat) (f:α->List Value) (w:World) (a:OA) (l:List α):Prop:=M4 sz (λ _ x cs=>cs=f x) w a l
theorem M4.au{α:Type}{sz:Nat}{R:World->α->List Value->Prop}{w w' : World}{a:OA}{l:List α}(h:M4 sz R w a l)(hc:ay w w' [])(hR:∀ x cs,R w x cs->R w' x cs):M4 sz R w' a l:=λ i x hi =>
 let ⟨q,cs,h1,h2,h3,h4⟩:=h i x hi
 ⟨q,cs,h1,bu hc h2,h3,hR _ _ h4⟩
theorem cG.au{α:Type}{sz:Nat}{f:α->List Value}{w w' : World}{a:OA}{l:List α}(h:cG sz f w a l)(hc:ay w w' []):cG sz f w' a l:=M4.au h hc λ _ _ h=>h
theorem M4.take{α:Type}{sz:Nat}{R:World->α->List Value->Prop}{w:World}{a:OA}{l:List α}(h:M4 sz R w a l)(n:Nat):M4 sz R w a (l.take n):=λ i x hi=>by
 rw[List.getElem?_take] at hi
 split at hi
 ·exact h i x hi
 ·cases hi
theorem cG.at{α:Type}{sz:Nat}{f:α->List Value}{w:World}{a:OA}{l:List α}(h:cG sz f w a l){i:Nat}{x:α}(hi:l[i]?=some x):∃ q,a=some q/\af w (q.add (i*sz)) 0 (f x) :=
 let ⟨q,_,h1,h2,_,h4⟩:=h i x hi
 ⟨q,h1,h4▸h2⟩
theorem aS{w:World}{a:Addr}:∀ {vs:List Value} {i:Nat},af w a i vs->∀ (j:Nat) (v:Value),vs[j]?=some v->w.cell? (a.add (i+j))=some v
 | _ :: _,i,h,0,v,hj=>by simp at hj; subst hj; exact h.1
 | _ :: vs,i,h,j+1,v,hj=>by
  have:=aS h.2 j v (by simpa using hj)
  rwa [show i+(j+1)=i+1+j by omega]
theorem DV{α:Type}{sz:Nat}{f:α->List Value}(hf:∀ x,(f x).length=sz):∀ {l:List α} {i:Nat} {x:α},l[i]?=some x->∀ (j:Nat) (v:Value),(f x)[j]?=some v->(l.flatMap f)[i*sz+j]?=some v
 | [],_,_,h,_,_,_=>by simp at h
 | y :: l,0,x,h,j,v,hj=>by
  simp at h; subst h;have hlt:j<(f y).length:=(List.getElem?_eq_some_iff.1 hj).1;rw[List.flatMap_cons,Nat.zero_mul,Nat.zero_add,List.getElem?_append_left hlt]; exact hj
 | y :: l,i+1,x,h,j,v,hj=>by
  have h1:=DV hf (l:=l) (i:=i) (by simpa using h) j v hj;rw[List.flatMap_cons,List.getElem?_append_right (by rw[hf,Nat.add_mul]; omega),hf,Nat.add_mul];rw[show i*sz+1*sz+j-sz=i*sz+j by omega];exact h1
theorem ct{α:Type}{sz:Nat}{f:α->List Value}(hf:∀ x,(f x).length=sz):∀ (l:List α),(l.flatMap f).length=l.length*sz
 | []=>by simp
 | x :: l=>by rw[List.flatMap_cons,List.length_append,hf,ct hf l,List.length_cons,Nat.add_mul]; omega
theorem L4{α:Type}{sz:Nat}{f:α->List Value}(hf:∀ x,(f x).length=sz){w:World}{e:TypeId}{a:OA}{c:Nat}{l:List α}(own:w.ownsRow 0 e sz (.slice a l.length c) l.length (l.flatMap f)):cG sz f w a l:=λ i x hi=>by
 have hlt:=(List.getElem?_eq_some_iff.1 hi).1;obtain⟨g,rfl,hget⟩:=CT own (by omega);refine⟨_,f x,rfl,br _ 0 λ j v hj=>?_,hf x,rfl⟩;rw[sy,Nat.zero_add];have h1:=DV hf hi j v hj;show w.cell? (Addr.add ⟨g,i*sz,none⟩ j)=some v;have:(⟨g,i*sz,none⟩:Addr).add j=⟨g,i*sz+j,none⟩:=by unfold Addr.add; split<;>simp_all
 rw[this];exact hget _ _ h1

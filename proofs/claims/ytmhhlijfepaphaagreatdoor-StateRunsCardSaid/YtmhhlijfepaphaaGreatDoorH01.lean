import Derived.ScopeJumps
import Derived.Test.YtmhhlijfepaphaaGreatDoorProg
import Derived.Laws.AppendOwn
import Derived.Laws.MakeOwn
import Derived.Laws.CopyRow
import Derived.Laws.IdiomCopy
import Derived.Laws.BytesArg
import Derived.IntWalk
import Derived.Laws.Bits64
import Derived.Laws.Strings
import Derived.Deep.Slices
import Derived.OpenShut
import Derived.Test.YtmhhlijfepaphaaGreatDoorH00
set_option linter.all false
set_option maxRecDepth 100000
namespace Go.Vc
def rT:Code->List Nat
 |.region _ d _=>d.toList.filterMap (·.dst)
 |.seq a b=>rT a++rT b
 |.cond _ a b=>rT a++rT b
 |.block _ c=>rT c
 |.loop c=>rT c
 |.scope c=>rT c
 |_=>[]
theorem tj:∀{c:Code} {l:Nat} {d:Code},findLabel c l=some d->∀x∈rT d,x∈rT c
 |.seq a b,l,d,h,x,e=>by
  simp only[findLabel] at h
  split at h
  .rename_i r f
   cases h
   simp only[rT,aB] at e⊢;exact e.imp (tj f x) id
  exact cC _ (tj h x e)
 |.label f,l,d,h,x,e=>by
  simp only[findLabel] at h
  split at h
  .cases h;exact e
  grind
 |.skip,_,_,h,_,_=>by grind[findLabel]
 |.region ..,_,_,h,_,_=>by grind[findLabel]
 |.cond ..,_,_,h,_,_=>by grind[findLabel]
 |.block ..,_,_,h,_,_=>by grind[findLabel]
 |.loop ..,_,_,h,_,_=>by grind[findLabel]
 |.exit ..,_,_,h,_,_=>by grind[findLabel]
 |.ret,_,_,h,_,_=>by grind[findLabel]
 |.goto ..,_,_,h,_,_=>by grind[findLabel]
 |.scope ..,_,_,h,_,_=>by grind[findLabel]
 |.rangeFunc ..,_,_,h,_,_=>by grind[findLabel]
 |.refuse ..,_,_,h,_,_=>by grind[findLabel]
abbrev Live:=List (Nat×TK)
def L5:List Nat->Nat->Bool
 |[],_=>false
 |x::l,n=>cond (Nat.beq x n) true (L5 l n)
theorem F7:∀{l:List Nat} {n:Nat},L5 l n=true<->n∈l
 |[],n=>by simp[L5]
 |x::l,n=>by
  simp only[L5,aP]
  cases h:Nat.beq x n with
  |true=>simp[gy h]
  |false=>
   have:n≠x:=λe=>by rw[e,Nat.beq_refl] at h;cases h
   simp[F7,this]
def lk:List (Nat×Value)->Nat->Option Value
 |[],_=>none
 |(s,v)::l,n=>cond (Nat.beq s n) (some v) (lk l n)
def M6:Live->List Value->List (Nat×Value)
 |(s,_)::l,v::a=>(s,v)::M6 l a
 |_,_=>[]
def wT(mods:List Nat)(lv:List (Nat×Value))(d:Nat->Value):Nat->Tm->Tm
 |_,[]=>[]
 |i,x::t=>(match lk lv i with|some v=>v|none=>cond (L5 mods i) (d i) x)::wT mods lv d (i+1) t
def SJ:SK->Type->Type
 |.int _,X=>Int->X
 |.bool,X=>Bool->X
 |.str,X=>ByteArray->X
 |.ptr,X=>Option Addr->X
 |.slice,X=>Option Addr->Nat->Nat->X
 |.map,X=>Option Nat->X
 |.blk,X=>Nat->X
 |.six,X=>I6->X
 |.raw,X=>Value->X
def LJ:List SK->Type->Type
 |[],X=>X
 |k::a,X=>SJ k (LJ a X)
def VJ:Live->Type->Type
 |[],X=>X
 |(_,.s k)::l,X=>SJ k (VJ l X)
 |(_,.agg a)::l,X=>LJ a (VJ l X)
def aa4{X:Type}:(k:SK)->SJ k X->(Value->X->Prop)->Prop
 |.int k,J,F=>∀n:Int,F (.int k n) (J n)
 |.bool,J,F=>∀b:Bool,F (.bool b) (J b)
 |.str,J,F=>∀s:ByteArray,F (.string s) (J s)
 |.ptr,J,F=>∀p:Option Addr,F (.pointer p) (J p)
 |.slice,J,F=>∀(a:OA) (l c:Nat),F (.slice a l c) (J a l c)
 |.map,J,F=>∀r:Option Nat,F (.map r) (J r)
 |.blk,J,F=>∀r:Nat,F (.pointer (some ⟨r,0,none⟩)) (J r)
 |.six,_,_=>True
 |.raw,J,F=>∀v:Value,F v (J v)
def aa3{X:Type}:(k:SK)->SJ k X->(List Value->X->Prop)->Prop
 |.int k,J,F=>∀n:Int,F [.int k n] (J n)
 |.bool,J,F=>∀b:Bool,F [.bool b] (J b)
 |.str,J,F=>∀s:ByteArray,F [.string s] (J s)
 |.ptr,J,F=>∀p:Option Addr,F [.pointer p] (J p)
 |.slice,J,F=>∀(a:OA) (l c:Nat),F [.slice a l c] (J a l c)
 |.map,J,F=>∀r:Option Nat,F [.map r] (J r)
 |.blk,J,F=>∀r:Nat,F [.pointer (some ⟨r,0,none⟩)] (J r)
 |.six,J,F=>∀u:I6,F u.vs (J u)
 |.raw,J,F=>∀v:Value,F [v] (J v)
def Yv{X:Type}:(a:List SK)->LJ a X->(List Value->X->Prop)->Prop
 |[],J,F=>F [] J
 |k::a,J,F=>aa3 k J λc J=>Yv a J λb J=>F (c++b) J
def OY{X:Type}:(l:Live)->VJ l X->(List Value->X->Prop)->Prop
 |[],J,F=>F [] J
 |(_,.s k)::l,J,F=>aa4 k J λv J=>OY l J λa J=>F (v::a) J
 |(_,.agg b)::l,J,F=>Yv b J λcs J=>OY l J λa J=>F (.agg cs.toArray::a) J
def GQ{X:Type}:(k:SK)->SJ k X->Value->(X->Prop)->Prop
 |.int k,J,v,F=>match v with
  |.int a n=>cond (U3 k a) (F (J n)) False
  |_=>False
 |.bool,J,v,F=>match v with
  |.bool b=>F (J b)
  |_=>False
 |.str,J,v,F=>match v with
  |.string s=>F (J s)
  |_=>False
 |.ptr,J,v,F=>match v with
  |.pointer p=>F (J p)
  |_=>False
 |.slice,J,v,F=>match v with
  |.slice a l c=>F (J a l c)
  |_=>False
 |.map,J,v,F=>match v with
  |.map r=>F (J r)
  |_=>False
 |.blk,J,v,F=>match v with
  |.pointer (some ⟨r,0,none⟩)=>F (J r)
  |_=>False
 |.six,_,_,_=>False
 |.raw,J,v,F=>F (J v)
def Vj{X:Type}:(k:SK)->SJ k X->List Value->(X->List Value->Prop)->Prop
 |.int k,J,g,F=>match g with
  |.int a n::r=>cond (U3 k a) (F (J n) r) False
  |_=>False
 |.bool,J,g,F=>match g with
  |.bool b::r=>F (J b) r
  |_=>False
 |.str,J,g,F=>match g with
  |.string s::r=>F (J s) r
  |_=>False
 |.ptr,J,g,F=>match g with
  |.pointer p::r=>F (J p) r
  |_=>False
 |.slice,J,g,F=>match g with
  |.slice a l c::r=>F (J a l c) r
  |_=>False
 |.map,J,g,F=>match g with
  |.map m::r=>F (J m) r
  |_=>False
 |.blk,J,g,F=>match g with
  |.pointer (some ⟨b,0,none⟩)::r=>F (J b) r
  |_=>False
 |.six,J,g,F=>match g with
  |.int .i64 a::.int .i64 b::.int .i64 c::.int .i64 d::.int .i64 e::.int .i64 f::r=>F (J ⟨a,b,c,d,e,f⟩) r
  |_=>False
 |.raw,J,g,F=>match g with
  |v::r=>F (J v) r
  |_=>False
def Vl{X:Type}:(a:List SK)->LJ a X->List Value->(X->Prop)->Prop
 |[],J,[],F=>F J
 |k::a,J,b,F=>Vj k J b λJ r=>Vl a J r F
 |[],_,_::_,_=>False
def Lq{X:Type}:(l:Live)->VJ l X->Tm->(X->Prop)->Prop
 |[],J,_,F=>F J
 |(s,.s k)::l,J,t,F=>GQ k J (gt t s) λJ=>Lq l J t F
 |(s,.agg a)::l,J,t,F=>match gt t s with
  |.agg cs=>Vl a J cs.toList λJ=>Lq l J t F
  |_=>False
def O4{X:Type}{k:SK}{J:SJ k X}{v:Value}{F:X->Prop}(h:GQ k J v F):∃j,F j/\∀G,aa4 k J G->G v j:=by
 cases k with
 |int k=>
  cases v<;>simp only[GQ] at h
  obtain⟨c,b⟩:=tX h;have:=wR c;subst this;exact⟨_,b,λG a=>a _⟩
 |bool=>cases v<;>simp only[GQ] at h;exact⟨_,h,λG a=>a _⟩
 |str=>cases v<;>simp only[GQ] at h;exact⟨_,h,λG a=>a _⟩
 |ptr=>cases v<;>simp only[GQ] at h;exact⟨_,h,λG a=>a _⟩
 |slice=>cases v<;>simp only[GQ] at h;exact⟨_,h,λG a=>a _ _ _⟩
 |map=>cases v<;>simp only[GQ] at h;exact⟨_,h,λG a=>a _⟩
 |blk=>
  simp only[GQ] at h
  split at h
  .exact⟨_,h,λG a=>a _⟩
  exact h.elim
 |six=>exact h.elim
 |raw=>exact⟨_,h,λG a=>a _⟩
def O3{X:Type}{k:SK}{J:SJ k X}{vs:List Value}{F:X->List Value->Prop}(h:Vj k J vs F):∃j b r,vs=b++r/\F j r/\∀G,aa3 k J G->G b j:=by
 cases k<;>simp only[Vj] at h<;>split at h<;>first|exact h.elim|skip
 .obtain⟨d,c⟩:=tX h;have:=wR d;subst this;exact⟨_,[_],_,rfl,c,λG a=>a _⟩
 .exact⟨_,[_],_,rfl,h,λG a=>a _⟩
 .exact⟨_,[_],_,rfl,h,λG a=>a _⟩
 .exact⟨_,[_],_,rfl,h,λG a=>a _⟩
 .exact⟨_,[_],_,rfl,h,λG a=>a _ _ _⟩
 .exact⟨_,[_],_,rfl,h,λG a=>a _⟩
 .exact⟨_,[_],_,rfl,h,λG a=>a _⟩
 .exact⟨_,[_,_,_,_,_,_],_,rfl,h,λG a=>a ⟨_,_,_,_,_,_⟩⟩
 exact⟨_,[_],_,rfl,h,λG a=>a _⟩
theorem FK{X:Type}:∀{b:List SK} {J:LJ b X} {a:List Value} {F:X->Prop},Vl b J a F->∃j,F j/\∀G,Yv b J G->G a j
 |[],J,[],F,h=>⟨J,h,λG c=>c⟩
 |k::b,J,a,F,h=>by
  obtain⟨j,l,r,rfl,d,e⟩:=O3 (show Vj k J a λJ r=>Vl b J r F from by cases a<;>exact h);obtain⟨i,f,g⟩:=FK d;exact⟨i,f,λG c=>g (λa J=>G (l++a) J) (e _ c)⟩
 |[],_,_::_,_,h=>h.elim
def zF(l:Live)(t:Tm):List Value:=l.map λs=>gt t s.1
theorem uH{X:Type}{t:Tm}:∀{l:Live} {J:VJ l X} {F:X->Prop},Lq l J t F->∃j,F j/\∀G,OY l J G->G (zF l t) j
 |[],J,F,h=>⟨J,h,λG a=>a⟩
 |(s,.s k)::l,J,F,h=>by
  obtain⟨j,b,c⟩:=O4 (h);obtain⟨f,d,e⟩:=uH b;exact⟨f,d,λG a=>e (λg J=>G (gt t s::g) J) (c _ a)⟩
 |(s,.agg m)::l,J,F,h=>by
  unfold Lq at h
  split at h
  .rename_i cs i;obtain⟨j,b,c⟩:=FK h;obtain⟨f,d,e⟩:=uH b;refine⟨f,d,λG a=>?_⟩;have:=e (λg J=>G (.agg cs::g) J) (by simpa using c _ a);grind[zF]
  exact h.elim
theorem NR{t:Tm}{n:Nat}{v:Value}:∀{l:Live},lk (M6 l (zF l t)) n=some v->v=gt t n
 |[],h=>by cases h
 |(s,k)::l,h=>by
  simp only[zF,cD,M6,lk] at h
  cases hb:Nat.beq s n with
  |true=>rw[hb] at h;cases h;rw[gy hb]
  |false=>rw[hb] at h;exact NR h
theorem NH{mods:List Nat}{lv:List (Nat×Value)}{d:Nat->Value}:∀(t:Tm) (i j:Nat),j<t.length ->
  gt (wT mods lv d i t) j=match lk lv (i+j) with|some v=>v|none=>cond (L5 mods (i+j)) (d (i+j)) (gt t j)
 |[],_,j,h=>by simp at h
 |x::t,i,0,_=>by simp[wT,gt]
 |x::t,i,j+1,h=>by
  have:=NH (mods:=mods) (lv:=lv) (d:=d) t (i+1) j (by simpa using h);rw[show i+1+j=i+(j+1) by omega] at this;exact this
theorem wY{mods:List Nat}{lv:List (Nat×Value)}{d:Nat->Value}:∀(t:Tm) (i:Nat),(wT mods lv d i t).length=t.length
 |[],_=>rfl
 |x::t,i=>by simp[wT,wY t (i+1)]
def fill_eq{mods:List Nat}{l:Live}{t a:Tm}(h:GN mods t a):wT mods (M6 l (zF l a)) (gt a) 0 t=a:=by
 refine SG _ _ ((wY t 0).trans h.1.symm) λi b=>?_;rw[wY] at b;rw[NH t 0 i b,az]
 cases hl:lk (M6 l (zF l a)) i with
 |some v=>exact NR hl
 |none=>
  cases hm:L5 mods i with
  |true=>rfl
  |false=>
   have:i∉mods:=λh=>by grind[F7]
   exact(h.2 i this).symm
abbrev Df:=List Deferred
def ON(F:Tm->Df->World->Prop)(Q:Exit->Tm->Df->World->Prop):Exit->Tm->Df->World->Prop
 |.normal,t,d,w=>F t d w
 |e,t,d,w=>Q e t d w
def abj(id:Nat)(Q:Exit->Tm->Df->World->Prop):Exit->Tm->Df->World->Prop
 |.exit i,t,d,w=>cond (Nat.beq i id) (Q .normal t d w) (Q (.exit i) t d w)
 |e,t,d,w=>Q e t d w
def calm:Code->Bool
 |.seq a b=>calm a&&calm b
 |.cond _ a b=>calm a&&calm b
 |.block _ a=>calm a
 |.loop a=>calm a
 |.rangeFunc _ _ _ _=>false
 |.region _ c _=>xh c.toList
 |.scope _=>false
 |_=>true
def exs:Code->List Nat
 |.exit i=>[i]
 |.seq a b=>exs a++exs b
 |.cond _ a b=>exs a++exs b
 |.block id c=>(exs c).filter λi=>!(Nat.beq i id)
 |.loop c=>exs c
 |.rangeFunc _ _ a b=>exs a++exs b
 |_=>[]
def Io:Code->Bool
 |.ret=>true
 |.seq a b=>Io a||Io b
 |.cond _ a b=>Io a||Io b
 |.block _ c=>Io c
 |.loop c=>Io c
 |.rangeFunc _ _ a b=>Io a||Io b
 |_=>false
def lkX:List (Nat×(World->Prop))->Nat->World->Prop
 |[],_,_=>False
 |x::l,i,w=>cond (Nat.beq i x.1) (x.2 w) (lkX l i w)
theorem JU{F:Nat->World->Prop}{i:Nat}{w:World}:∀{l:List Nat},lkX (l.map λid=>(id,F id)) i w->F i w
 |[],h=>h.elim
 |j::l,h=>by
  simp only[cD,lkX] at h
  cases hb:Nat.beq i j with
  |true=>rw[hb] at h;rw[gy hb];exact h
  |false=>rw[hb] at h;exact JU h
def Ik(P:Program)(c:FuncId)(d:List Value)(b:FuncId->Nat->Loop)(w:World)(N R:World->Prop)(X:List (Nat×(World->Prop))):Prop:=
 ∀fn:FuncId,Calls P c (Value.func (.yield (w.heap.size+1)) #[] #[]::d).toArray ((w.alloc (.deferred (some []))).alloc (.loop (b fn w.heap.size))) λe a=>(∃v,e=.returned v) /\
  ∃r,a.heap[w.heap.size+1]?=some (.loop r)/\r.state≠.busy/\match r.pending with
   |none=>N (a.putObj (w.heap.size+1) (.loop {r with state:=.exhausted}))
   |some .ret=>R (a.putObj (w.heap.size+1) (.loop {r with state:=.exhausted}))
   |some (.exit i)=>lkX X i (a.putObj (w.heap.size+1) (.loop {r with state:=.exhausted}))
   |_=>False
def EH(P:Program)(v:Value)(F:FuncId->List Value->Prop):Prop:=match v with
 |.func (.func a) first b=>cond (first.isEmpty&&o4 P a) (F a b.toList) False
 |_=>False
def gtQ(c:Code)(b:Code->Code->Nat->(Exit->Tm->Df->World->Prop)->Tm->Df->World->Prop)(p:Nat)(Q:Exit->Tm->Df->World->Prop):Exit->Tm->Df->World->Prop
 |.goto l,t,d,w=>match findLabel c l with
  |some a=>b c a p Q t d w
  |none=>False
 |e,t,d,w=>Q e t d w
def IT(P:Program)(ann:Nat->Option Live)(h:Code->Code->Nat->(Exit->Tm->Df->World->Prop)->Tm->Df->World->Prop):Code->Nat->(Exit->Tm->Df->World->Prop)->Tm->Df->World->Prop
 |.skip,_,Q,t,d,w=>Q .normal t d w
 |.label _,_,Q,t,d,w=>Q .normal t d w
 |.region _ e k,_,Q,t,d,w=>cond (xh e.toList) (match k with
  |false=>OQ P e e.toList t w (λt w=>Q .normal t d w)
  |true=>cond (P.follows .mixedOrders&&Region.noSelect e) (vU P e e.size (Array.replicate e.size false) [] t w.drew (λt w=>Q .normal t d w)) False)
  (cond k False (E4 P e e.toList t d w λt d w=>Q .normal t d w))
 |.seq a b,p,Q,t,d,w=>match ann p with
  |none=>IT P ann h a (2*p) (ON (IT P ann h b (2*p+1) Q) Q) t d w
  |some g=>cond (calm a) (∃J:VJ g (World->Prop),(∀f,OY g J λo j=>j f->∀x:Nat->Value,IT P ann h b (2*p+1) Q (wT (rT a) (M6 g o) x 0 t) d f) /\
    IT P ann h a (2*p) (ON (λn _ f=>Lq g J n λj=>j f) Q) t d w) False
 |.cond c a b,p,Q,t,d,w=>match ev t c with
  |.bool x=>cond x (IT P ann h a (2*p) Q t d w) (IT P ann h b (2*p+1) Q t d w)
  |_=>False
 |.block id c,p,Q,t,d,w=>IT P ann h c (2*p) (abj id Q) t d w
 |.loop c,p,Q,t,d,w=>match ann p with
  |none=>IT P ann h c (2*p) (ON (λ_ _ _=>False) Q) t d w
  |some g=>cond (calm c) (∃I:VJ g (World->Nat->Prop),(Lq g I t λi=>∃m,i w m) /\
    ∀f m,OY g I λo i=>i f m->∀x:Nat->Value,IT P ann h c (2*p) (ON (λn _ j=>Lq g I n λr=>∃q,q<m/\r j q) Q) (wT (rT c) (M6 g o) x 0 t) d f) False
 |.exit id,_,Q,t,d,w=>Q (.exit id) t d w
 |.ret,_,Q,t,d,w=>Q .ret t d w
 |.rangeFunc g n assign body,_,Q,t,d,w=>EH P (ev t g) λj m=>
   Ik P j m (λfn D=>{state:=.ready,pending:=none,fn:=fn,tmps:=t.toArray,params:=n,assign:=assign,body:=body,defers:=D}) w (λf=>Q .normal t ({target:=.collected w.heap.size,args:=#[]}::d) f) (λf=>cond (Io body) (Q .ret t ({target:=.collected w.heap.size,args:=#[]}::d) f) False) ((exs body).map λi=>(i,λf=>Q (.exit i) t ({target:=.collected w.heap.size,args:=#[]}::d) f))
 |.scope c,p,Q,t,d,w=>IT P ann h c (2*p) (gtQ c h p Q) t d w
 |.goto l,_,Q,t,d,w=>Q (.goto l) t d w
 |_,_,_,_,_,_=>False
def vcN(P:Program)(ann:Nat->Option Live):Nat->Code->Code->Nat->(Exit->Tm->Df->World->Prop)->Tm->Df->World->Prop
 |0=>λ_ _ _ _ _ _ _=>False
 |n+1=>λc a p Q t d w=>IT P ann (vcN P ann n) a (2*p+1) (gtQ c (vcN P ann n) p Q) t d w
def vc(P:Program)(ann:Nat->Option Live):Code->Nat->(Exit->Tm->Df->World->Prop)->Tm->Df->World->Prop:=IT P ann (vcN P ann 2)
def lift(t0:Tm)(d0:Df)(c:Code)(Q:Exit->Tm->Df->World->Prop):Exit->Act->World->Prop:=λe a w=>
 (∀c,e≠.panic c)/\∃d b,a=vp d b/\GN (rT c) t0 d/\(calm c=true->b=d0)/\Q e d b w
def wpF{P:Program}{c:Code}{Q:Exit->Act->World->Prop}{a:Act}{w:World}:c.wpIn (FW none) 0 P Q a w<->c.wp P Q a w:=wpIn_wide
def IK{P:Program}{c:Code}{Q:Exit->Act->World->Prop}{a:Act}{w:World}(h:∀(b:Frame) (k:List Item) (cs:List Frame),∃e f g,Q e f g/\Arrives P (lone (b.at a (.code c::.inScope c::k)) cs w) b k cs e f g):(Code.scope c).wp P Q a w:=λb k cs=>by
 obtain⟨e,f,g,i,d⟩:=h b k cs;exact⟨e,f,g,i,.of_steps (.one step_scope) d⟩
def vt(P:Program)(c cur:Code)(Q:Exit->Act->World->Prop)(a:Act)(w:World):Prop:=
 ∀(b:Frame) (k:List Item) (cs:List Frame),∃e d f,Q e d f/\Arrives P (lone (b.at a (.code cur::.inScope c::k)) cs w) b k cs e d f
def vt.mono{P:Program}{c cur:Code}{Q Q':Exit->Act->World->Prop}{a:Act}{w:World}(h:vt P c cur Q a w)(k:∀e a w,Q e a w->Q' e a w):vt P c cur Q' a w:=λb l cs=>
 let ⟨e,a',w',hq,harr⟩:=h b l cs
 ⟨e,a',w',k _ _ _ hq,harr⟩
def ME{P:Program}{c cur:Code}{Q:Exit->Act->World->Prop}{a:Act}{w:World}(h:cur.wp P (λe r s=>(∀l,e=.goto l->∃i,findLabel c l=some i/\vt P c i Q r s)/\((∀l,e≠.goto l)->Q e r s)) a w):vt P c cur Q a w:=by
 intro b k cs;obtain⟨e,f,g,n,d⟩:=h b (.inScope c::k) cs
 cases e with
 |normal=>exact⟨.normal,f,g,n.2 (by simp),Steps.trans d (.one step_inScope)⟩
 |exit id=>exact⟨.exit id,f,g,n.2 (by simp),λy v=>d y (by simp[exitTo,v])⟩
 |goto l=>
  obtain⟨i,t,x⟩:=n.1 l rfl;have u:gotoIn l (.inScope c::k)=some (.code i::.inScope c::k):=by simp[gotoIn,t]
  obtain⟨p,o,q,m,j⟩:=x b k cs;exact⟨p,o,q,m,.of_steps (d _ u) j⟩
 |ret=>exact⟨_,f,g,n.2 (by simp),d⟩
 |panic j=>exact⟨_,f,g,n.2 (by simp),d⟩
 |outgrown=>exact⟨_,f,g,n.2 (by simp),d⟩
def X6(t0:Tm)(c:Code)(Q:Exit->Tm->Df->World->Prop):Exit->Act->World->Prop:=λe a w=>
 (∀c,e≠.panic c)/\∃b d,a=vp b d/\GN (rT c) t0 b/\Q e b d w
def ScR(P:Program)(b:Code->Code->Nat->(Exit->Tm->Df->World->Prop)->Tm->Df->World->Prop):Prop:=
 ∀(c a:Code) (p:Nat) (Q:Exit->Tm->Df->World->Prop) (t:Tm) (d:Df) (w:World),(∀x∈rT a,x∈rT c)->b c a p Q t d w->vt P c a (X6 t c Q) (vp t d) w
def EO{P:Program}{q:Code->Code->Nat->(Exit->Tm->Df->World->Prop)->Tm->Df->World->Prop}(k:ScR P q){c cur:Code}{p:Nat}{Q:Exit->Tm->Df->World->Prop}{t:Tm}{d:Df}{w:World}(hd:∀x∈rT cur,x∈rT c)(h:cur.wpIn (FW none) 0 P (lift t d cur (gtQ c q p Q)) (vp t d) w):vt P c cur (X6 t c Q) (vp t d) w:=by
 refine ME (wpF.1 (wpIn_mono h λe A z b=>?_));obtain⟨i,r,n,rfl,s,_,b⟩:=b;have g:=sZ hd s;refine⟨λl v=>?_,λy=>?_⟩
 .subst v;simp only[gtQ] at b
  split at b
  .rename_i f o;refine⟨f,o,(k c f p Q r n z (tj o) b).mono λe a w b=>?_⟩;obtain⟨i,m,j,rfl,u,b⟩:=b;exact⟨i,m,j,rfl,sZ (λx B=>(by grind)) (xV g u),b⟩
  exact b.elim
 cases e with
 |goto l=>exact absurd rfl (y l)
 |panic c=>exact absurd rfl (i c)
 |_=>exact⟨i,r,n,rfl,g,b⟩
theorem rY{P:Program}{ann:Nat->Option Live}{V:Code->Code->Nat->(Exit->Tm->Df->World->Prop)->Tm->Df->World->Prop}(s:ScR P V){ro:Option Nat}:∀(c:Code) (p:Nat) (Q:Exit->Tm->Df->World->Prop) (t:Tm) (d:Df) (w:World),(ro=none\/calm c=true) ->
  IT P ann V c p Q t d w->c.wpIn (FW ro) 0 P (lift t d c Q) (vp t d) w
 |.skip,_,Q,t,d,w,_,h=>wpIn_skip ⟨by simp,t,d,rfl,mI _ _,λ_=>rfl,h⟩
 |.label _,_,Q,t,d,w,_,h=>wpIn_label ⟨by simp,t,d,rfl,mI _ _,λ_=>rfl,h⟩
 |.exit id,_,Q,t,d,w,_,h=>wpIn_exit ⟨by simp,t,d,rfl,mI _ _,λ_=>rfl,h⟩
 |.ret,_,Q,t,d,w,_,h=>wpIn_ret ⟨by simp,t,d,rfl,mI _ _,λ_=>rfl,h⟩
 |.region id y M,_,Q,t,d,w,_,h=>by
  have e:∀(i:Nat) (o:Oper),y[i]?=some o->∀d,o.dst=some d->d∈y.toList.filterMap (·.dst):=λi o b d hd=>
   (by grind)
  simp only[IT] at h
  cases hn:xh y.toList with
  |false=>
   rw[hn] at h
   cases M with
   |true=>exact h.elim
   |false=>
    obtain rfl:ro=none:=by
     grind[calm]
    refine wpIn_region_list (yy (ds:=rT (.region id y false)) (t0:=t) y.toList t d w _ (λk z C q H=>⟨by simp,k,z,rfl,q,λB=>?_,H⟩) (λo b d hd=>ob.2 ⟨o,b,hd⟩) (mI _ _) h);grind[calm]
  |true=>
  rw[hn,cond_true] at h
  cases M with
  |false=>
   refine wpIn_region_list (E5 (d:=d) (ds:=rT (.region id y false)) (t0:=t) y.toList t w _ hn (λk C q H=>⟨by simp,k,d,rfl,q,λ_=>rfl,H⟩) (λo b d hd=>ob.2 ⟨o,b,hd⟩) (mI _ _) h)
  |true=>
   obtain⟨D,L⟩:=tX h;simp only[aF] at D;have f:∀(j:Nat) (o:Oper),y[j]?=some o->ri o.op=true:=λj o b=>by
    have:=bw.1 hn o (by grind);omega
   refine wpIn_region_any D.1 (E7 _ _ [] _ _ ?_);refine xS (dd:=d) (ds:=rT (.region id y true)) (t0:=t) (K:=λt w=>Q .normal t d w) f D.2 (λc a w h=>h.1 c rfl) (λk C q H=>⟨by simp,k,d,rfl,q,λ_=>rfl,H⟩) e _ _ [] t _ (mI _ _) ?_ (λp u=>by cases u) L;intro j o _ g;rcases aQ j y.size with h|h<;>simp[h] at g
 |.seq a b,p,Q,t,d,w,B,h=>by
  have m:ro=none\/calm a=true:=B.imp id λh=>by simp_all[calm]
  have n:ro=none\/calm b=true:=B.imp id λh=>by simp_all[calm]
  refine wpIn_seq ?_;simp only[IT] at h
  split at h
  .refine wpIn_mono (rY s a _ _ t d w m h) (λe G C f=>?_);obtain⟨u,k,z,rfl,q,hd,f⟩:=f
   cases e with
   |normal=>
    refine wpIn_mono (rY s b _ _ k z C n f) (λe N T g=>?_);obtain⟨o,r,v,rfl,A,E,g⟩:=g;refine⟨o,r,v,rfl,xV q A,λH=>?_,g⟩;simp_all[calm]
   |panic c=>exact absurd rfl (u c)
   |_=>exact⟨u,k,z,rfl,sZ (λd hd=>cr _ hd) q,λH=>hd (by simp_all[calm]),f⟩
  obtain⟨S,J,R,h⟩:=tX h;refine wpIn_mono (rY s a _ _ t d w m h) (λe G C f=>?_);obtain⟨u,k,z,rfl,q,hd,f⟩:=f;obtain rfl:=hd S
  cases e with
  |normal=>
   obtain⟨j,D,L⟩:=uH f;have O:=L _ (R C) D (gt k);rw[fill_eq q] at O;refine wpIn_mono (rY s b _ _ k z C n O) (λe N T g=>?_);obtain⟨o,r,v,rfl,A,E,g⟩:=g;refine⟨o,r,v,rfl,xV q A,λH=>?_,g⟩;simp_all[calm]
  |panic c=>exact absurd rfl (u c)
  |_=>exact⟨u,k,z,rfl,sZ (λd hd=>cr _ hd) q,λ_=>rfl,f⟩
 |.cond c a b,p,Q,t,d,w,B,h=>by
  simp only[IT] at h
  split at h
  .rename_i x j;refine wpIn_cond (t:=x) (by rw[uX];exact j) ?_
   cases x with
   |true=>
    refine wpIn_mono (rY s a _ _ t d w (B.imp id λh=>by simp_all[calm]) h) (λe G C f=>?_);obtain⟨u,k,z,rfl,q,hd,f⟩:=f;exact⟨u,k,z,rfl,sZ (λd hd=>cr _ hd) q,λH=>hd (by simp_all[calm]),f⟩
   |false=>
    refine wpIn_mono (rY s b _ _ t d w (B.imp id λh=>by simp_all[calm]) h) (λe G C f=>?_);obtain⟨u,k,z,rfl,q,hd,f⟩:=f;exact⟨u,k,z,rfl,sZ (λd hd=>cC _ hd) q,λH=>hd (by simp_all[calm]),f⟩
  exact h.elim
 |.block id c,p,Q,t,d,w,B,h=>by
  refine wpIn_block (wpIn_mono (rY s c _ _ t d w B h) (λe G C f=>?_));obtain⟨u,k,z,rfl,q,hd,f⟩:=f
  cases e with
  |exit i=>
   simp only[Exit.inBlock];simp only[abj] at f
   cases R:Nat.beq i id with
   |true=>rw[R] at f;rw[ag (gy R)];exact⟨by simp,k,z,rfl,q,hd,f⟩
   |false=>
    rw[R] at f;rw[af (λe=>by simp_all)];exact⟨by simp,k,z,rfl,q,hd,f⟩
  |_=>exact⟨u,k,z,rfl,q,hd,f⟩
 |.loop c,p,Q,t,d,w,B,h=>by
  simp only[IT] at h
  split at h
  .refine wpIn_loop_once (wpIn_mono (rY s c _ _ t d w B h) (λe N T g=>?_));obtain⟨o,r,v,rfl,A,E,g⟩:=g
   cases e with
   |normal=>exact g.elim
   |panic c=>exact absurd rfl (o c)
   |_=>exact⟨o,r,v,rfl,A,E,g⟩
  rename_i U hlv;obtain⟨S,I,W,J⟩:=tX h;obtain⟨i0,⟨m,D⟩,L⟩:=uH W;refine wpIn_loop_ghost (λn a w=>∃k i,a=vp k d/\GN (rT c) t k/\i w n/\∀G,OY U I G->G (zF U k) i) m ⟨t,i0,rfl,mI _ _,D,L⟩ ?_;rintro n a C ⟨k,i1,rfl,q,Z,Y⟩;have O:=Y _ (J C n) Z (gt k);rw[fill_eq q] at O;refine wpIn_mono (rY s c _ _ k d C B O) (λe N T g=>?_);obtain⟨o,r,v,rfl,A,E,g⟩:=g;obtain rfl:=E S;have j:GN (rT c) t r:=sZ (λd hd=>(by grind)) (xV q A)
  cases e with
  |normal=>
   obtain⟨i2,⟨m',hm,x⟩,X⟩:=uH g;exact⟨m',hm,r,i2,rfl,j,x,X⟩
  |panic c=>exact absurd rfl (o c)
  |_=>exact⟨o,r,v,rfl,j,λ_=>rfl,g⟩
 |.rangeFunc g n assign body,p,Q,t,d,w,B,h=>by
  simp only[IT,EH] at h
  split at h
  .rename_i o first m q
   obtain⟨j,A⟩:=tX h;clear h;simp only[aF,oF] at j;obtain⟨rfl,j⟩:=j;obtain rfl:ro=none:=B.resolve_right (by simp[calm]);refine wpIn_rangeFunc λfn _=>?_;refine⟨w.heap.size+1,[{target:=.collected w.heap.size,args:=#[]}],((w.alloc (.deferred (some []))).alloc (.loop {state:=.ready,pending:=none,fn:=fn,tmps:=t.toArray,params:=n,assign:=assign,body:=body,defers:=w.heap.size})),{target:=.fn (.func o) m,args:=#[.func (.yield (w.heap.size+1)) #[] #[]]},((w.alloc (.deferred (some []))).alloc (.loop {state:=.ready,pending:=none,fn:=fn,tmps:=t.toArray,params:=n,assign:=assign,body:=body,defers:=w.heap.size})),o,#[.func (.yield (w.heap.size+1)) #[] #[]]++m,((w.alloc (.deferred (some []))).alloc (.loop {state:=.ready,pending:=none,fn:=fn,tmps:=t.toArray,params:=n,assign:=assign,body:=body,defers:=w.heap.size})),run_enterLoop_outer _ _ _ _ _,?_,λ_ _=>trivial,?_,λh=>(by cases h),?_⟩
   .simp only[resolve,uX,q];simp[go_sem,ev,Deferred.ofValue]
   .simp[invoke,go_sem,zf j]
   have D:=A fn;have L:(Value.func (.yield (w.heap.size+1)) #[] #[]::m.toList).toArray = #[.func (.yield (w.heap.size+1)) #[] #[]]++m:=by simp
   rw[L] at D;refine CallsIn.mono (callsIn_wide.2 D) λe E f=>?_;obtain⟨⟨v,rfl⟩,r,J,R,f⟩:=f;refine⟨r.pending,_,run_endLoop J R,?_⟩
   split at f
   .rename_i u;rw[u] at f⊢;exact⟨by simp,t,_,rfl,mI _ _,λh=>(by cases h),f⟩
   .rename_i u;rw[u] at f⊢;exact wpIn_ret ⟨by simp,t,_,rfl,mI _ _,λh=>(by cases h),(tX f).2⟩
   .rename_i i u;rw[u] at f⊢;exact wpIn_exit ⟨by simp,t,_,rfl,mI _ _,λh=>(by cases h),JU (F:=λi C=>Q (.exit i) t ({target:=.collected w.heap.size,args:=#[]}::d) C) f⟩
   exact f.elim
  exact h.elim
 |.scope c,p,Q,t,d,w,B,h=>by
  obtain rfl:ro=none:=B.resolve_right (by simp[calm]);refine wpF.2 (IK ?_);have D:=EO (cur:=c) s (λ_ h=>h) (rY s c (2*p) _ t d w (.inl rfl) h);exact D.mono λe a w ⟨u,k,z,L,O,x⟩=>⟨u,k,z,L,O,λH=>(by grind[calm]),x⟩
 |.goto l,_,Q,t,d,w,_,h=>wpIn_goto ⟨by simp,t,d,rfl,mI _ _,λ_=>rfl,h⟩
 |.refuse _,_,_,_,_,_,_,h=>h.elim
theorem MT{P:Program}{ann:Nat->Option Live}:∀n,ScR P (vcN P ann n)
 |0=>λ_ _ _ _ _ _ _ _ h=>h.elim
 |n+1=>λ_ a _ _ t d w hd h=>EO (MT n) hd (rY (MT n) a _ _ t d w (.inl rfl) h)
def OR{P:Program}{ann:Nat->Option Live}{ro:Option Nat}(c:Code)(p:Nat)(Q:Exit->Tm->Df->World->Prop)(t:Tm)(d:Df)(w:World)(hc:ro=none\/calm c=true)(h:vc P ann c p Q t d w):c.wpIn (FW ro) 0 P (lift t d c Q) (vp t d) w:=rY (MT 2) c p Q t d w hc h
def Il(P:Program):List ResultVar->Tm->World->(List Value->Prop)->Prop
 |[],_,_,F=>F []
 |.tmp s::b,t,w,F=>Il P b t w λc=>F (gt t s::c)
 |.cell a d::b,t,w,F=>ldK P d (gt t a) w λv _=>Il P b t w λc=>F (v::c)
def UO:List Value->Value
 |[v]=>v
 |a=>.tuple a.toArray
def Li(P:Program)(g:FuncId)(args:Array Value)(w:World)(R:World->Prop):Prop:=
 o4 P g=true/\CallsDIn (FW none) 0 P g args .returning w λe u a=>∃v,e=.returned v/\u=.returning/\R a
def dfK(P:Program)(fn:Func)(t:Tm)(K:KP):Df->World->Prop
 |[],w=>Il P fn.results.toList t w λb=>K (UO b) w
 |d::a,w=>match d.target with
  |.collected r=>w.heap[r]?=some (.deferred (some []))/\dfK P fn t K a (w.putObj r (.deferred none))
  |.fn (.func g) y=>Li P g (d.args++y) w λc=>dfK P fn t K a c
  |_=>False
def RL(P:Program)(fn:Func)(K:KP):Exit->Tm->Df->World->Prop
 |.normal,t,d,w=>dfK P fn t K d w
 |.ret,t,d,w=>dfK P fn t K d w
 |_,_,_,_=>False
def T9(t:Tm):ResultVar->Sem Value
 |.tmp s=>pure (t.toArray.getD s undef)
 |.cell a b=>do loadVar b (<-asAddr (t.toArray.getD a undef))
theorem EJ{P:Program}{w:World}{t:Tm}:∀(b:List ResultVar) (F:List Value->Prop),Il P b t w F ->
  ∃d,(b.mapM (T9 t)).run P w=.ok d w/\F d
 |[],F,h=>⟨[],by simp,h⟩
 |.tmp s::b,F,h=>by
  obtain⟨d,f,e⟩:=EJ b _ h;exact⟨_,by simp only[List.mapM_cons,T9,Sem.run_bind,Sem.run_pure,Result.andThen_ok,f,NG],e⟩
 |.cell a g::b,F,h=>by
  obtain⟨v,T,i,j,k⟩:=HD h;obtain⟨d,f,e⟩:=EJ b _ k;refine⟨v::d,?_,e⟩;have c:=j w i;rw[NG] at c;have l:(T9 t (.cell a g)).run P w=.ok v w:=by
   show(Sem.bind (asAddr (t.toArray.getD a undef)) λp=>loadVar g p).run P w=.ok v w;rw[Sem.run_bind'];generalize t.toArray.getD a undef=x at c⊢
   cases x with
   |pointer p=>cases p with
    |none=>simp[Instr.loadAt,Instr.sureAddr] at c
    |some p=>simpa[Instr.loadAt,Instr.sureAddr,asAddr] using c
   |_=>simp[Instr.loadAt,Instr.sureAddr] at c
  rw[List.mapM_cons,Sem.run_bind,l];simp only[Result.andThen_ok,Sem.run_bind,f,Sem.run_pure]
def kK(fn:Func):Code:=fn.body.getD .skip
def Im{P:Program}{fn:Func}{t:Tm}{w:World}{K:KP}(f:Il P fn.results.toList t w λb=>K (UO b) w):
  ∃v,(results fn t.toArray).run P w=.ok v w/\K v w:=by
 obtain⟨b,c,e⟩:=EJ _ _ f;refine⟨UO b,?_,e⟩;have d:results fn t.toArray=(do
   let b <-fn.results.mapM (T9 t)
   pure (if h:b.size=1 then b[0] else .tuple b)):=by
  unfold results;have:(λr=>match r with
    |.tmp i=>(pure (t.toArray.getD i undef):Sem Value)
    |.cell a i=>do loadVar i (<-asAddr (t.toArray.getD a undef)))=T9 t:=by
   funext x;cases x<;>rfl
  rw[<-this];rfl
 rw[d,Array.mapM_eq_mapM_toList];simp only[Sem.run_map,bind_pure_comp,c,Result.andThen_ok]
 cases b with
 |nil=>rfl
 |cons v b=>cases b<;>rfl
theorem sK{P:Program}{fn:Func}{t:Tm}{K:KP}:∀(d:Df) (w:World),dfK P fn t K d w ->
  LeavesInM (FW none) 0 P fn t.toArray (λe c=>∃v,e=.returned v/\K v c) d .returning w
 |[],w,h=>by
  obtain⟨v,a,b⟩:=Im h;exact⟨v,a,v,rfl,b⟩
 |d::f,w,h=>by
  refine⟨by simp,?_⟩;simp only[dfK] at h
  split at h
  .rename_i r a;exact .inl ⟨r,_,a,run_takeDeferred h.1,sK f _ h.2⟩
  .rename_i g y a;obtain⟨i,h⟩:=h;refine .inr ⟨λh=>(by cases h),Fn.func g,y,g,d.args++y,a,?_,λ_ _=>trivial,CallsDIn.mono h ?_⟩
   .rw[a];exact zf i _ w
   rintro e u c ⟨v,rfl,rfl,b⟩;exact sK f c b
  exact h.elim
def Jg{P:Program}{ann:Nat->Option Live}{f:FuncId}{fn:Func}{c:Code}{args:List Value}{w:World}{K:KP}(j:P.funcs[f]?=some fn)(i:fn.body=some c)(h:vc P ann c 1 (RL P fn K) (args++List.replicate (fn.ntmps-args.length) undef) [] w):
  Calls P f args.toArray w λe b=>∃v,e=.returned v/\K v b:=by
 refine(callsIn_wide (n:=0)).1 (callsIn_of_wp_marks j i trivial ?_ rfl);have g:({tmps:=args.toArray++Array.replicate (fn.ntmps-args.toArray.size) undef,defers:=[]}:Act)=vp (args++List.replicate (fn.ntmps-args.length) undef) []:=by
  simp[vp]
 rw[g];refine wpIn_mono (OR (ro:=none) c 1 _ _ _ w (.inl rfl) h) (λe l b a=>?_);obtain⟨k,m,d,rfl,_,_,a⟩:=a
 cases e with
 |normal=>exact sK d b a
 |ret=>exact sK d b a
 |panic c=>exact absurd rfl (k c)
 |_=>exact a.elim
def LH{P:Program}{ann:Nat->Option Live}{f:FuncId}{fn:Func}{c:Code}{args:List Value}{w:World}{R:World->Prop}(m:P.funcs[f]?=some fn)(k:fn.body=some c)(l:o4 P f=true) (h:vc P ann c 1 (λe t d w=>match e with
   |.normal=>d=[]/\Il P fn.results.toList t w λ_=>R w
   |.ret=>d=[]/\Il P fn.results.toList t w λ_=>R w
   |_=>False) (args++List.replicate (fn.ntmps-args.length) undef) [] w):Li P f args.toArray w R:=by
 refine⟨l,CallsDIn.mono (callsDIn_of_wp (R:=λe i=>∃v,e=.returned v/\R i) m k trivial ?_) ?_⟩
 .have j:({tmps:=args.toArray++Array.replicate (fn.ntmps-args.toArray.size) undef,defers:=[]}:Act)=vp (args++List.replicate (fn.ntmps-args.length) undef) []:=by
   simp[vp]
  rw[j];refine wpIn_mono (OR (ro:=none) c 1 _ _ _ w (.inl rfl) h) (λe o i a=>?_);obtain⟨n,q,p,rfl,_,_,a⟩:=a
  cases e with
  |normal=>
   obtain⟨rfl,a⟩:=a;obtain⟨v,g,b⟩:=Im (K:=λ_ w=>R w) a;exact⟨rfl,v,g,v,rfl,b⟩
  |ret=>
   obtain⟨rfl,a⟩:=a;obtain⟨v,g,b⟩:=Im (K:=λ_ w=>R w) a;exact⟨rfl,v,g,v,rfl,b⟩
  |panic c=>exact absurd rfl (n c)
  |_=>exact a.elim
 rintro e u i ⟨rfl,v,rfl,b⟩;exact⟨v,rfl,rfl,b⟩
def VQ{P:Program}(ann:Nat->Option Live){f:FuncId}{fn:Func}{args:List Value}{w:World}{R:World->Prop}{S:Prop}(j:P.funcs[f]?=some fn)(g:fn.body.isSome=true)(i:o4 P f=true) (h:S=vc P ann (kK fn) 1 (λe t d w=>match e with
   |.normal=>d=[]/\Il P fn.results.toList t w λ_=>R w
   |.ret=>d=[]/\Il P fn.results.toList t w λ_=>R w
   |_=>False) (args++List.replicate (fn.ntmps-args.length) undef) [] w) (b:S):Li P f args.toArray w R:=by
 obtain⟨c,a⟩:=Option.isSome_iff_exists.1 g;refine LH (ann:=ann) j a i ?_;have:kK fn=c:=by simp[kK,a]
 rw[<-this];exact h▸b
def adt(l:Nat)(K:Bool->World->Prop):Exit->Tm->Df->World->Prop
 |.normal,_,_,w=>∃r,w.heap[l]?=some (.loop r)/\K true (w.putObj l (.loop {r with state:=.ready,pending:=none}))
 |.ret,_,_,w=>∃r,w.heap[l]?=some (.loop r)/\K false (w.putObj l (.loop {r with state:=.done,pending:=some .ret}))
 |.exit i,_,_,w=>∃r,w.heap[l]?=some (.loop r)/\K false (w.putObj l (.loop {r with state:=.done,pending:=some (.exit i)}))
 |_,_,_,_=>False
def acX(l:Nat)(F:Tm->World->Prop):Exit->Tm->Df->World->Prop
 |.normal,t,_,w=>∃r,w.heap[l]?=some (.loop r)/\r.state=.ready/\F t (w.putObj l (.loop {r with state:=.busy}))
 |_,_,_,_=>False
def H7:List Tmp->List Value->Tm->Tm
 |p::a,v::b,t=>H7 a b (st t p v)
 |_,_,t=>t
def ab7(P:Program)(ann:Nat->Option Live)(l:Nat)(assign body:Code)(K:Bool->World->Prop)(t:Tm)(w:World):Prop:=
 vc P ann assign 2 (acX l λt w=>vc P ann body 3 (adt l K) t [] w) t [] w
theorem Oe:∀(a:List Tmp) (b:List Value) (t:Tm),((a.zip b).foldl (λ(c:Array Value) (x:Tmp×Value)=>c.setIfInBounds x.1 x.2) t.toArray)=(H7 a b t).toArray
 |[],b,t=>by simp[H7]
 |p::a,[],t=>by simp[H7]
 |p::a,v::b,t=>by
  have:=Oe a b (st t p v);simp only[List.zip_cons_cons,bD,H7];rw[<-this,UE]
  simp
def Q0{P:Program}{ann:Nat->Option Live}{l:Nat}{args:List Value}{w:World}{K:Bool->World->Prop}{r:Loop}{t:Tm}(q:w.heap[l]?=some (.loop r))(u:r.tmps=t.toArray)(s:args.length=r.params.size)(hc:(calm r.assign&&calm r.body)=true)(h:ab7 P ann l r.assign r.body K (H7 r.params.toList args t) w):vu P l args.toArray w K:=by
 simp only[aF] at hc;have v:=run_yield (P:=P) (args:=args.toArray) q (by simpa using s);refine⟨_,_,_,_,v,roundIn_of_wpIn (F:=Fence.wide) trivial ?_⟩;have o:(r.params.zip args.toArray).foldl (λtmps (x:Tmp×Value)=>tmps.setIfInBounds x.1 x.2) r.tmps=(H7 r.params.toList args t).toArray:=by
  rw[<-Oe,u,<-Array.foldl_toList]
  congr 1
  simp
 have p:({tmps:=(r.params.zip args.toArray).foldl (λtmps (x:Tmp×Value)=>tmps.setIfInBounds x.1 x.2) r.tmps,defers:=[]}:Act)=vp (H7 r.params.toList args t) []:=by
  rw[o];rfl
 refine wpIn_mono (p▸OR (ro:=some l) _ _ _ _ _ _ (.inr hc.1) h) λe A E a=>?_;obtain⟨f,D,B,rfl,_,hd,a⟩:=a;obtain rfl:=hd hc.1
 cases e with
 |normal=>
  obtain⟨C,g,j,a⟩:=a;refine⟨_,run_beginRound g j,?_⟩;refine wpIn_mono (OR (ro:=some l) _ _ _ _ _ _ (.inr hc.2) a) λe m z a=>?_;obtain⟨f,y,n,rfl,_,_,a⟩:=a
  cases e with
  |normal=>obtain⟨k,b,d⟩:=a;exact⟨_,_,run_endRound none b,_,rfl,d⟩
  |ret=>obtain⟨k,b,d⟩:=a;exact⟨_,_,run_endRound (some .ret) b,_,rfl,d⟩
  |exit i=>obtain⟨k,b,d⟩:=a;exact⟨_,_,run_endRound (some (.exit i)) b,_,rfl,d⟩
  |panic c=>exact absurd rfl (f c)
  |_=>exact a.elim
 |panic c=>exact absurd rfl (f c)
 |_=>exact a.elim
def wo(K:KP):Ending->World->Prop:=λe a=>∃v,e=.returned v/\K v a
def uK{P:Program}(ann:Nat->Option Live){f:FuncId}{fn:Func}{args:List Value}{w:World}{K:KP}{S:Prop}(c:P.funcs[f]?=some fn)(b:fn.body=some (kK fn))(h:S=vc P ann (kK fn) 1 (RL P fn K) (args++List.replicate (fn.ntmps-args.length) undef) [] w)(a:S):
  Calls P f args.toArray w (wo K):=Jg c b (h▸a)
def Dt(l:List (Nat×Live))(p:Nat):Option Live:=
 match l with
 |[]=>none
 |(q,a)::l=>cond (Nat.beq q p) (some a) (Dt l p)
def Ip:Code->Nat->Nat->Option (Array Tmp×Code×Code)
 |.seq a b,p,q=>(Ip a (2*p) q).or (Ip b (2*p+1) q)
 |.cond _ a b,p,q=>(Ip a (2*p) q).or (Ip b (2*p+1) q)
 |.block _ a,p,q=>Ip a (2*p) q
 |.loop a,p,q=>Ip a (2*p) q
 |.rangeFunc _ c a b,p,q=>cond (Nat.beq p q) (some (c,a,b)) none
 |_,_,_=>none
def Xd(c:Code)(q:Nat):Array Tmp:=((Ip c 1 q).getD (#[],.skip,.skip)).1
def Xb(c:Code)(q:Nat):Code:=((Ip c 1 q).getD (#[],.skip,.skip)).2.1
def Xc(c:Code)(q:Nat):Code:=((Ip c 1 q).getD (#[],.skip,.skip)).2.2
def Lc{P:Program}(ann:Nat->Option Live){l:Nat}{args:List Value}{w:World}{K:Bool->World->Prop}{r:Loop}{t:Tm}{ps:Array Tmp}{a b:Code}{S:Prop}(e:w.heap[l]?=some (.loop r))(i:r.tmps=t.toArray)(f:r.params=ps)(ha:r.assign=a)(d:r.body=b)(g:args.length=ps.size)(hc:(calm a&&calm b)=true)(h:S=ab7 P ann l a b K (H7 ps.toList args t) w)(c:S):vu P l args.toArray w K:=by
 subst f ha d;exact Q0 e i g hc (h▸c)
abbrev iv (n:Int):Value:=.int .i64 n
def I6.on(u:I6)(l:List Value):List Value:=iv u.a::iv u.b::iv u.c::iv u.d::iv u.e::iv u.f::l
def z6:I6:=⟨0,0,0,0,0,0⟩
def I6.beq(u v:I6):Bool:=(u.a==v.a)&&((u.b==v.b)&&((u.c==v.c)&&((u.d==v.d)&&((u.e==v.e)&&((u.f==v.f)&&true)))))
def kB(w:World)(a:Addr)(v:Value)(R:World->Prop):Prop:=
 v.oneCell'=true/\(∃x,w.cell? a=some x)/\w.frozen? a=false/\R (w.setCell a v)
def yY(a:Addr):Nat->List Value->World->(World->Prop)->Prop
 |_,[],w,R=>R w
 |i,v::b,w,R=>kB w (a.add i) v λc=>yY a (i+1) b c R
def gK(w:World)(o:Obj)(R:Nat->World->Prop):Prop:=R w.heap.size (w.alloc o)
def O2(k:IntKind)(x y:Int):Int:=k.wrap ((BitVec.ofInt k.bits x &&& BitVec.ofInt k.bits y).toNat:Int)
def orI(k:IntKind)(x y:Int):Int:=k.wrap ((BitVec.ofInt k.bits x |||BitVec.ofInt k.bits y).toNat:Int)
def aaM(k:IntKind)(x y:Int):Int:=k.wrap ((BitVec.ofInt k.bits x ^^^ BitVec.ofInt k.bits y).toNat:Int)
def Vh(k:IntKind)(x y:Int):Int:=k.wrap ((BitVec.ofInt k.bits x &&& ~~~BitVec.ofInt k.bits y).toNat:Int)
def bs(l:List UInt8):ByteArray:=⟨l.toArray⟩
end Go.Vc
namespace Go.Proofs.YtmhhlijfepaphaaGreatDoor
open Go Go.Vc
abbrev CC:=Calls Tryz.prog
abbrev CP (f:FuncId) (a:Array Value) (w:World) (K:KP):Prop:=Calls Tryz.prog f a w (wo K)
end Go.Proofs.YtmhhlijfepaphaaGreatDoor
namespace Go.Vc
def cT{b:Bool}{A B:Prop}(h:b=true)(k:A):cond b A B:=by grind
def cF{b:Bool}{A B:Prop}(h:b=false)(k:B):cond b A B:=by grind
class Dc (b:Bool) (p n:outParam Prop):Prop where
 t:b=true<->p
 f:b=false<->n
instance (p:Prop) [Decidable p]:Dc (decide p) p (¬p):=⟨decide_eq_true_iff,ct⟩
instance {α:Type} [BEq α] [LawfulBEq α] (a b:α):Dc (a==b) (a=b) (¬a=b):=⟨bL,aC⟩
instance {α:Type} [BEq α] [LawfulBEq α] (a b:α):Dc (a !=b) (¬a=b) (a=b):=⟨by simp,by simp⟩
instance (b:Bool) (p n:Prop) [h:Dc b p n]:Dc (!b) n p:=⟨by rw[<-h.f];simp,by rw[<-h.t];simp⟩
instance (a b:Bool) (p q n m:Prop) [h:Dc a p n] [k:Dc b q m]:Dc (a&&b) (p/\q) (¬(p/\q)):=⟨by rw[<-h.t,<-k.t];simp,by rw[<-h.t,<-k.t];grind⟩
instance (a b:Bool) (p q n m:Prop) [h:Dc a p n] [k:Dc b q m]:Dc (a||b) (p\/q) (¬(p\/q)):=⟨by rw[<-h.t,<-k.t];simp,by rw[<-h.t,<-k.t];grind⟩
def gM{b:Bool}{p n A B:Prop}[d:Dc b p n](h:p)(x:A):cond b A B:=by rw[d.t.2 h];exact x
def iI{b:Bool}{p n A B:Prop}[d:Dc b p n](h:n)(x:B):cond b A B:=by rw[d.f.2 h];exact x
def cBq{b:Bool}{p n A B:Prop}[d:Dc b p n](x:p->A)(y:n->B):cond b A B:=by cases h:b;exact y (d.f.1 h);exact x (d.t.1 h)
def di{p:Prop}[Decidable p]{A B:Prop}(h:p)(k:A):cond (decide p) A B:=cT (o5 h) k
def dz{p:Prop}[Decidable p]{A B:Prop}(h:¬p)(k:B):cond (decide p) A B:=cF (ow h) k
def Zc(o:Option Obj)(i:Nat):Option Value:=
 match o with
 |some (.cells c _ _)=>c[i]?
 |_=>none
def Zd(o:Option Obj)(i:Nat):Bool:=
 match o with
 |some (.cells _ _ (lo,a))=>lo<=i&&i<a
 |_=>false
def aah(i:Nat)(v:Value)(o:Option Obj):Option Obj:=
 match o with
 |some (.cells c e f)=>some (.cells (c.setIfInBounds i v) e f)
 |o=>o
def uL(w:World)(b i:Nat):w.cell? ⟨b,i,none⟩=Zc w.heap[b]? i:=by
 simp only[World.cell?,Zc]
 cases w.heap[b]? with
 |none=>rfl
 |some o=>cases o<;>simp
def DU(w:World)(b i:Nat):w.frozen? ⟨b,i,none⟩=Zd w.heap[b]? i:=by
 simp only[World.frozen?,Zd]
 cases w.heap[b]? with
 |none=>rfl
 |some o=>cases o<;>rfl
def heap_set(w:World)(b i k:Nat)(v:Value):(w.setCell ⟨b,i,none⟩ v).heap[k]?=if b=k then aah i v w.heap[k]? else w.heap[k]?:=by
 simp only[World.setCell,gL]
 by_cases h:b=k
 .simp only[h,kD,aah]
  cases w.heap[k]? with
  |none=>rfl
  |some o=>cases o<;>simp
 simp[h]
def pR(w:World)(o:Obj)(k:Nat):(w.alloc o).heap[k]?=if k=w.heap.size then some o else w.heap[k]?:=by
 simp only[World.alloc,Array.getElem?_push]
def qL(c:Array Value)(e:TypeId)(f:Nat×Nat)(i:Nat):Zc (some (.cells c e f)) i=c[i]?:=rfl
def DW(c:Array Value)(e:TypeId)(i:Nat):Zd (some (.cells c e (0,0))) i=false:=by rfl
def MH(c:Array Value)(e:TypeId)(f:Nat×Nat)(i:Nat)(v:Value):aah i v (some (.cells c e f))=some (.cells (c.setIfInBounds i v) e f):=rfl
structure Env (w w':World):Prop where
 os:w'.os=w.os
 tape:w'.tape=w.tape
 out:w'.output=w.output
def Env.refl(w:World):Env w w:=⟨rfl,rfl,rfl⟩
def Env.trans{w a b:World}(h:Env w a)(k:Env a b):Env w b:=⟨k.os.trans h.os,k.tape.trans h.tape,k.out.trans h.out⟩
structure aZ (w w':World) (F:List Nat):Prop where
 size:w.heap.size<=w'.heap.size
 same:∀i,i<w.heap.size->i∉F->w'.heap[i]?=w.heap[i]?
 env:Env w w'
def aZ.refl(w:World)(F:List Nat):aZ w w F:=⟨aD _,λ_ _ _=>rfl,Env.refl _⟩
def aZ.drew(w:World)(F:List Nat):aZ w w.drew F:=⟨aD _,λ_ _ _=>rfl,⟨rfl,rfl,rfl⟩⟩
def aZ.trans{w c d:World}{F G:List Nat}(h:aZ w c F)(a:aZ c d G)(f:∀i∈G,i∈F\/w.heap.size<=i):aZ w d F:=
 ⟨bp h.size a.size,λi b e=>(a.same i (jg b h.size) λg=>(by grind)).trans (h.same i b e),h.env.trans a.env⟩
def aZ.set(w:World)(b i:Nat)(v:Value){F:List Nat}(h:b∈F):aZ w (w.setCell ⟨b,i,none⟩ v) F:=
 ⟨by simp,λk _ a=>by rw[heap_set,af (λe:b=k=>a (e▸h))],⟨rfl,rfl,rfl⟩⟩
def aZ.new(w:World)(o:Obj)(F:List Nat):aZ w (w.alloc o) F:=
 ⟨by simp,λk a _=>by rw[pR,af (by omega)],⟨rfl,rfl,rfl⟩⟩
def aZ.grown{w a:World}{r:Option Nat}(h:w.grownBy a r):aZ w a r.toList:=
 ⟨h.size,λi b c=>h.block i b (λe=>(by grind)),⟨h.os,h.tape,h.output⟩⟩
def qP{w:World}{b:Nat}{o:Obj}(h:w.heap[b]?=some o):b<w.heap.size:=(Array.getElem?_eq_some_iff.1 h).1
def aZ.keep{w c:World}{F:List Nat}(h:aZ w c F){b:Nat}{o:Obj}(a:w.heap[b]?=some o)(d:b∉F):c.heap[b]?=some o:=
 (h.same b (qP a) d).trans a
def Ix{w:World}{b i:Nat}{v:Value}{R:World->Prop}{cs:Array Value}{T:TypeId}(h:w.heap[b]?=some (.cells cs T (0,0)))(hi:i<cs.size)(a:v.oneCell'=true)(k:R (w.setCell ⟨b,i,none⟩ v)):kB w ⟨b,i,none⟩ v R:=
 ⟨a,⟨cs[i],by rw[uL,h,qL];simp[hi]⟩,by rw[DU,h,DW],k⟩
def dH{w:World}{o:Obj}{R:Nat->World->Prop}(h:R w.heap.size (w.alloc o)):gK w o R:=h
def wq(g j:Nat):(⟨g,0,none⟩:Addr).add j=⟨g,j,none⟩:=by grind[Addr.add]
theorem Iy{b o:Nat}{T:TypeId}{R:World->Prop}:∀(a:List Value) (i:Nat) (w:World) (c:Array Value),w.heap[b]?=some (.cells c T (0,0))->o+i+a.length<=c.size->(∀v∈a,v.oneCell'=true) ->
  (∀d,d.heap[b]?=some (.cells (c.toList.take (o+i)++a++c.toList.drop (o+i+a.length)).toArray T (0,0))->aZ w d [b]->d.heap.size=w.heap.size->R d)->yY ⟨b,o,none⟩ i a w R
 |[],i,w,c,h,_,_,k=>k w (by simpa using h) (aZ.refl _ _) rfl
 |v::a,i,w,c,h,n,q,k=>by
  have f:(⟨b,o,none⟩:Addr).add i=⟨b,o+i,none⟩:=by simp[Addr.add]
  show kB w _ v _;rw[f];simp only[bN] at n;refine Ix h (by omega) (by grind) ?_;refine Iy a (i+1) _ (c.setIfInBounds (o+i) v) (by rw[heap_set,ag rfl,h];rfl) (by simp;omega) (λu r=>(by grind)) ?_;intro d g l p;refine k d ?_ ((aZ.set w b (o+i) v (by simp)).trans l (λj m=>.inl m)) (by rw[p];simp);rw[g]
  congr 3
  have e:o+i<c.toList.length:=by simp;omega
  simp only[ki,bN];rw[show o+(i+1)=o+i+1 by omega,eB (by simpa using e),nF (aD _)];simp only[List.getElem_set_self,dA,List.cons_append,bZ]
  congr 3
  rw[nA (by omega)]
  congr 1
  omega
def qg(b:UInt8):Value:=.int .u8 (b.toNat:Int)
def HU{w:World}{base:Nat}{e:TypeId}{size:Nat}{v:Value}{n:Nat}{f:List Value}{d:World}(h:w.ownsRow base e size v n f)(l:∀k,v.ownBlock=some k->d.heap[k]?=w.heap[k]?):d.ownsRow base e size v n f:=by
 refine⟨h.1,?_⟩;rcases h.2 with j|⟨g,cap,b,rfl,i,c,a⟩
 .exact .inl j
 exact .inr ⟨g,cap,b,rfl,i,(l g rfl).trans c,a⟩
def B0{w:World}{base:Nat}{e:TypeId}{size:Nat}{v:Value}{n:Nat}{c:List Value}{b:World}{F:List Nat}(h:w.ownsRow base e size v n c)(hc:aZ w b F)(d:∀k,v.ownBlock=some k->k∉F):b.ownsRow base e size v n c:=
 HU h λk a=>hc.same k (h.lt k a).2 (d k a)
end Go.Vc
namespace Go.Vc
structure ru (P:Program) (t e:TypeId) (z:Value) (sz by_:Nat):Prop where
 u:P.underlying t=some (.slice e)
 i:∃i,P.info? e=some i/\i.zero=some z/\i.size=sz/\i.bytes=by_
 zc:z.cells.size=sz
 pos:0<sz
def ru.mk'{P:Program}{t e:TypeId}{z:Value}{sz a:Nat}(c:P.underlying t=some (.slice e))(hi:(P.info? e).map (λi=>(i.zero,i.size,i.bytes))=some (some z,sz,a))(d:z.cells.size=sz)(b:0<sz):ru P t e z sz a:=by
 refine⟨c,?_,d,b⟩
 cases h:P.info? e with
 |none=>simp[h] at hi
 |some i=>simp[h] at hi;exact⟨i,rfl,hi.1,hi.2.1,hi.2.2⟩
def Nxt(w:World)(v v':Value):Prop:=∀j,v'.ownBlock=some j->v.ownBlock=some j\/w.heap.size<=j
def Rx{P:Program}{w:World}{t ty e:TypeId}{z:Value}{sz h:Nat}(l:ru P t e z sz h){v:Value}{n:Nat}{r:List Value}(own:w.ownsRow 0 e sz v n r){a:Addr}{m c:Nat}{news:List Value}(B:news.length=m*sz)(b:∀j u,news[j]?=some u->w.cell? (a.add j)=some u)(F:∀u∈news,u.oneCell'=true)(L:(n+m)*h<=140737488355328)(R:n+m<=9223372036854775807){K:KP}(k:∀p q,q.ownsRow 0 e sz p (n+m) (r++news)->aZ w q v.ownBlock.toList->Nxt w v p->K p q):
  kg P (Builtin.append_ #[t,t] ty #[v,.slice (some a) m c]) w K:=by
 obtain⟨i,D,J,o,x⟩:=l.i;have C:n+m<=maxLen:=by grind[maxLen]
 obtain⟨p,q,E,Q,N,_⟩:=run_append_own (P:=P) w 0 t ty e i z sz h l.u D J o x l.zc l.pos v n r own a m c news B b F C L (e9 _);refine⟨p,q,E,k p q Q (aZ.grown N) ?_⟩;rcases own.2 with⟨rfl,rfl⟩|⟨g,cap,s,rfl,_,H,O,M,G,I⟩
 .have f:w.ownsRow w.heap.size e sz (.slice none 0 0) 0 r:=⟨own.1,.inl ⟨rfl,rfl⟩⟩;obtain⟨S,T,d,y,_⟩:=run_append_own (P:=P) w w.heap.size t ty e i z sz h l.u D J o x l.zc l.pos _ 0 r f a m c news B b F C L (aD _);rw[E] at d
  cases d
  exact λj A=>.inr (y.lt j A).1
 by_cases f:n+m<=cap
 .have y:n*i.size+news.length<=s.size:=by rw[B,G,o,<-cH];exact dZ _ f
  have d:=run_append_room (P:=P) w t ty e i l.u D g n cap s H a m c news (by rw[o];exact B) b F f y;rw[E] at d
  cases d
  exact λj A=>.inl A
 have holds:=own.cells (g:=g) rfl;have d:=run_append_grow (P:=P) w t ty e i z l.u D J ⟨g,0,none⟩ n cap r (by rw[o];exact own.1) holds a m c news (by rw[o];exact B) b (by omega) (by omega) (growslice_fits (by omega) (by grind));rw[E] at d
 cases d
 intro j A;simp[Value.ownBlock] at A;exact .inr (by omega)
def TD{w:World}{base:Nat}{e:TypeId}{v:Value}{n:Nat}{f:List Value}(own:w.ownsRow base e 1 v n f){a:OA}{l c:Nat}(d:v=.slice a l c):
  l=n/\(0<n->∃g b,a=some ⟨g,0,none⟩/\v.ownBlock=some g/\w.heap[g]?=some (.cells b e (0,0))/\n<=b.size/\b.toList.take n=f)/\n<=c:=by
 subst d;rcases own.2 with⟨d,rfl⟩|⟨g,cap,b,d,_,m,i,_,j,k⟩
 .cases d;exact⟨rfl,λh=>absurd h (by omega),by omega⟩
 cases d
 refine⟨rfl,λ_=>⟨g,b,rfl,rfl,m,?_,?_⟩,i⟩
 .rw[j];omega
 rw[<-k,eZ]
def yh{w:World}{base:Nat}{e:TypeId}{sz:Nat}{v:Value}{n:Nat}{d:List Value}(own:w.ownsRow base e sz v n d):∃a c,v=.slice a n c:=by
 rcases own.2 with⟨rfl,rfl⟩|⟨g,cap,b,rfl,_⟩
 .exact⟨_,_,rfl⟩
 exact⟨_,_,rfl⟩
def Zr{P:Program}{w:World}{t e:TypeId}{z:Value}{a:Nat}(d:ru P t e z 1 a)(c:z.cells = #[z]){n:Int}(f:0<=n)(r:(a:Int)*n<=281474976710656)(b:n<=9223372036854775807){K:KP}(k:K (.slice (some ⟨w.heap.size,0,none⟩) n.toNat n.toNat) (w.alloc (.cells (Array.replicate n.toNat z) e))):
  kg P (Instr.makeSlice t (.int .i64 n) (.int .i64 n)) w K:=by
 obtain⟨i,h,o,m,g⟩:=d.i;have l:=run_make (P:=P) w t e i z d.u h o .i64 .i64 n n f (bR _) (by grind) b;refine⟨_,_,l,?_⟩;have:madeCells z.cells (n.toNat*i.size)=Array.replicate n.toNat z:=by
  rw[m,eZ,c];apply Array.ext
  .simp[size_madeCells]
  intro j p q;simp[madeCells,Nat.mod_one]
 rw[this];exact k
def R8{P:Program}{w:World}{t ty e:TypeId}{z:Value}{m:Nat}(n:ru P t e z 1 m){g b d:Nat}{cur:Array Value}(o:w.heap[g]?=some (.cells cur e (0,0))){a:OA}{c f:Nat}{cs:List Value}(s:cs.length=Nat.min c b)(r:b<=cur.size)(h:0<cs.length->∃ad,a=some ad/\∀j u,cs[j]?=some u->w.cell? (ad.add j)=some u)(x:∀u∈cs,u.oneCell'=true){K:KP}(k:∀q,q.heap[g]?=some (.cells (cs++cur.toList.drop cs.length).toArray e (0,0))->aZ w q [g]->K (goInt cs.length) q):
  kg P (Builtin.copy_ #[t,t] ty #[.slice (some ⟨g,0,none⟩) b d,.slice a c f]) w K:=by
 obtain⟨i,B,F,E,y⟩:=n.i;have l:(P.info? e).map (·.size)=some 1:=by grind
 by_cases v:cs.length=0
 .obtain rfl:cs=[]:=fh v;have p:=run_copy_none (P:=P) w t t ty e (some ⟨g,0,none⟩) a b d c f n.u l (by omega);exact⟨_,_,p,k w (by simpa using o) (aZ.refl _ _)⟩
 obtain⟨ad,rfl,A⟩:=h (by omega);have D:cs.length<=b:=by have:=Nat.min_le_right c b;simp only[s];omega
 have p:=run_copy_row (P:=P) w t t ty e g 0 b d ad c f cur e cs n.u l o s A (by omega) x;refine⟨_,_,p,k _ ?_ ?_⟩
 .rw[setRow_heap w g cur _ e _ o];simp
 exact⟨by simp[World.setRow],λj _ C=>setRow_other w g j _ (by grind),⟨rfl,rfl,rfl⟩⟩
def CI(l:List UInt8):strOfNums (l.map λb=>(b.toNat:Int))=⟨l.toArray⟩:=by
 unfold strOfNums
 congr 1
 congr 1
 induction l<;>simp_all
def Dh{P:Program}{w:World}{t e dst:TypeId}(n:P.underlying t=some (.slice e))(m:P.underlying e=some (.int .u8))(hd:P.underlying dst=some .string){v:Value}{l:List UInt8}{base:Nat}{q:TypeId}(own:w.ownsRow base q 1 v l.length (l.map qg)){K:KP}(k:K (.string ⟨l.toArray⟩) w):kg P (convert t dst v) w K:=by
 obtain⟨a,c,rfl⟩:=yh own;obtain⟨_,r,_⟩:=TD own rfl
 by_cases o:l=[]
 .subst o;rcases own.2 with⟨b,_⟩|⟨g,cap,f,b,_⟩
  .cases b
   exact⟨_,_,run_convert_bytes_nil (P:=P) w t e n m 0 0 dst hd,k⟩
  cases b
  refine⟨_,_,run_convert_bytes_arg (P:=P) w t e n m g 0 0 _ [] rfl (λi j=>absurd j (by omega)) dst hd,?_⟩;exact k
 have h:=nD.2 o;obtain⟨g,f,rfl,_,s,u,d⟩:=r h;refine⟨_,_,run_convert_bytes_arg (P:=P) w t e n m g 0 l.length c (l.map λb=>(b.toNat:Int)) (by simp) (λi j=>?_) dst hd,by rw[CI];exact k⟩;rw[uL,s,qL];have p:(f.toList.take l.length)[i]?=(l.map qg)[i]?:=by rw[d]
 rw[bz,ag j] at p;simp only[az];rw[<-dy,p];simp[qg,j]
end Go.Vc
namespace Go.Vc
structure bP where
 p:World->List Nat->Prop
 loc:∀{w w':World} {F G:List Nat},p w F->aZ w w' G->(∀k∈F,k∉G)->p w' F
 lt:∀{w:World} {F:List Nat},p w F->∀k∈F,k<w.heap.size
def To(A:bP)(w b:World)(F:List Nat):Prop:=∃a,A.p b a/\aZ w b F/\∀k∈a,k∈F\/w.heap.size<=k
def star(A B:bP):bP where
 p w F:=∃a b,F=a++b/\A.p w a/\B.p w b/\∀k∈a,k∉b
 loc:=by
  rintro w h F G ⟨a,b,rfl,c,d,hd⟩ f g;exact⟨a,b,rfl,A.loc c f λk e=>(by grind),B.loc d f λk e=>(by grind),hd⟩
 lt:=by
  rintro w F ⟨a,b,rfl,c,d,hd⟩ k e;rcases aB.1 e with h|h
  .exact A.lt c k h
  exact B.lt d k h
def St(w0 w:World)(A:bP):Prop:=∃F,A.p w F/\aZ w0 w []/\∀k∈F,w0.heap.size<=k
def St.aK{w0 w:World}{A:bP}(h:St w0 w A):aZ w0 w []:=let ⟨_,_,hc,_⟩:=h;hc
def St.use{w0 w:World}{A B:bP}(h:St w0 w (star A B)):∃d,A.p w d/\∀m e,To e w m d->St w0 m (star e B):=by
 obtain⟨F,⟨d,n,rfl,s,o,hd⟩,q,l⟩:=h;refine⟨d,s,λm e ⟨a,f,b,r⟩=>?_⟩;refine⟨a++n,⟨a,n,rfl,f,B.loc o b λj c g=>hd j g c,λj c k=>?_⟩,q.trans b (λi t=>.inr (l i (cr _ t))),λj c=>?_⟩
 .rcases r j c with h|h
  .grind
  have:=B.lt o j k;omega
 rcases aB.1 c with h|h
 .rcases r j h with h|h
  .exact l j (cr _ h)
  exact bp q.size h
 exact l j (cC _ h)
def St.quiet{w0 w b:World}{A:bP}(h:St w0 w A)(hc:aZ w b []):St w0 b A:=by
 obtain⟨F,c,a,d⟩:=h;exact⟨F,A.loc c hc (by simp),a.trans hc (by simp),d⟩
theorem St.add{w0 w c:World}{A B:bP}{G:List Nat}(h:St w0 w A)(hc:aZ w c [])(e:B.p c G)(f:∀k∈G,w.heap.size<=k):St w0 c (star A B):=by
 obtain⟨F,d,a,i⟩:=h;refine⟨F++G,⟨F,G,rfl,A.loc d hc (by simp),e,λk b g=>?_⟩,a.trans hc (by simp),λk b=>?_⟩
 .have:=A.lt d k b;grind
 rcases aB.1 b with h|h
 .exact i k h
 exact bp a.size (f k h)
def emp:bP where
 p _ F:=F=[]
 loc:=λh _ _=>h
 lt:=λh k a=>by subst h;cases a
def St.start(w:World):St w w emp:=⟨[],rfl,aZ.refl _ _,by simp⟩
def St.start'{w a:World}(h:aZ w a []):St w a emp:=⟨[],rfl,h,by simp⟩
def St.first{w0 w:World}{A B:bP}(h:St w0 w (star A B)):St w0 w A:=by
 obtain⟨F,⟨a,f,rfl,b,_,_⟩,c,e⟩:=h;exact⟨a,b,c,λk d=>e k (cr _ d)⟩
def St.second{w0 w:World}{A B:bP}(h:St w0 w (star A B)):St w0 w B:=by
 obtain⟨F,⟨f,a,rfl,_,b,_⟩,c,e⟩:=h;exact⟨a,b,c,λk d=>e k (cC _ d)⟩
def St.swap{w0 w:World}{A B:bP}(h:St w0 w (star A B)):St w0 w (star B A):=by
 obtain⟨F,⟨b,c,rfl,e,f,hd⟩,g,i⟩:=h;exact⟨c++b,⟨c,b,rfl,f,e,λk d a=>hd k a d⟩,g,λk d=>i k (by grind)⟩
def St.get{w0 w:World}{A:bP}(h:St w0 w A):∃F,A.p w F:=let ⟨F,hF,_⟩:=h;⟨F,hF⟩
def St.sP{w0 w:World}{A B C:bP}(h:St w0 w (star A (star B C))):St w0 w (star B (star A C)):=by
 obtain⟨F,⟨a,o,rfl,e,⟨c,b,rfl,f,g,j⟩,hd⟩,i,n⟩:=h;refine⟨c++(a++b),⟨c,a++b,rfl,f,⟨a,b,rfl,e,g,λk d m=>(by grind)⟩,λk d l=>?_⟩,i,λk d=>n k ?_⟩
 .grind
 grind
def St.assoc{w0 w:World}{A B C:bP}(h:St w0 w (star (star A B) C)):St w0 w (star A (star B C)):=by
 obtain⟨F,⟨o,b,rfl,⟨c,a,rfl,e,f,j⟩,g,hd⟩,i,n⟩:=h;refine⟨c++(a++b),⟨c,a++b,rfl,e,⟨a,b,rfl,f,g,λk d m=>(by grind)⟩,λk d l=>?_⟩,i,λk d=>n k ?_⟩
 .grind
 grind
def ay(r:Nat)(cs:Array Value)(T:TypeId):bP where
 p w F:=w.heap[r]?=some (.cells cs T (0,0))/\F=[r]
 loc:=λ⟨h,a⟩ c hd=>⟨c.keep h (by grind),a⟩
 lt:=λ⟨h,a⟩ k b=>by subst a;simp at b;subst b;exact qP h
def St.box{w0 w:World}{A:bP}(h:St w0 w A)(cs:Array Value)(T:TypeId):St w0 (w.alloc (.cells cs T)) (star A (ay w.heap.size cs T)):=
 h.add (aZ.new _ _ _) (B:=ay w.heap.size cs T) ⟨by rw[pR,ag rfl],rfl⟩ (by simp)
def St.boxed{w0 w:World}{B:bP}{r:Nat}{cs:Array Value}{T:TypeId}(h:St w0 w (star (ay r cs T) B))(i:Nat):w.cell? ⟨r,i,none⟩=cs[i]?:=by
 obtain⟨F,a⟩:=h.first.get;rw[uL,a.1,qL]
def iV{w b:World}{a:Addr}{v:Value}(h:w.cell? a=some v)(hc:aZ w b []):b.cell? a=some v:=by
 rw[World.cell?_of_block (hc.same a.block (World.block_lt_of_cell? w a h) (by simp))];exact h
theorem ff{w c:World}{a:Addr}(hc:aZ w c []):∀{b:List Value} {i:Nat},aU w a i b->aU c a i b
 |[],_,_=>trivial
 |_::_,_,h=>⟨iV h.1 hc,ff hc h.2⟩
def fF(A B:bP):Prop:=∀w F,A.p w F->∃a,B.p w a/\∀j,j∈a<->j∈F
def fF.refl(A:bP):fF A A:=λ_ F h=>⟨F,h,λ_=>Iff.rfl⟩
def fF.trans{A B C:bP}(h:fF A B)(k:fF B C):fF A C:=λw F a=>
 let ⟨F',hB,h1⟩:=h w F a;let ⟨F'',hC,h2⟩:=k w F' hB
 ⟨F'',hC,λj=>(by grind)⟩
def fF.right{A B C:bP}(h:fF B C):fF (star A B) (star A C):=by
 rintro w F ⟨c,d,rfl,e,f,hd⟩;obtain⟨a,b,i⟩:=h w d f;exact⟨c++a,⟨c,a,rfl,e,b,λk l g=>(by grind)⟩,λj=>by grind⟩
def fF.sP{A B C:bP}:fF (star A (star B C)) (star B (star A C)):=by
 rintro w F ⟨a,m,rfl,d,⟨c,b,rfl,e,f,g⟩,hd⟩;refine⟨c++(a++b),⟨c,a++b,rfl,e,⟨a,b,rfl,d,f,λk h l=>(by grind)⟩,λk h i=>?_⟩,λj=>by grind⟩;grind
def St.eqv{w0 w:World}{A B:bP}(h:St w0 w A)(k:fF A B):St w0 w B:=by
 obtain⟨F,c,e,g⟩:=h;obtain⟨b,d,f⟩:=k w F c;exact⟨b,d,e,λj a=>g j ((f j).1 a)⟩
def Sep:List bP->bP
 |[]=>emp
 |A::l=>star A (Sep l)
end Go.Vc
namespace Go.Vc
def F0:Nat->Nat->List UInt8
 |0,_=>[]
 |k+1,x=>UInt8.ofNat (x%256)::F0 k (x / 256)
theorem fM:∀(k x:Nat),(F0 k x).length=k
 |0,_=>rfl
 |k+1,x=>by simp[F0,fM k]
theorem HE:∀(k x i:Nat),i<k->(F0 k x)[i]?=some (UInt8.ofNat (x / 256 ^ i%256))
 |0,_,_,h=>(by omega)
 |k+1,x,0,_=>by simp[F0]
 |k+1,x,i+1,h=>by
  simp only[F0,iN];rw[HE k (x / 256) i (by omega),lW,jN,lq 256]
def JT(k x:Nat):F0 (k+1) x=F0 k x++[UInt8.ofNat (x / 256 ^ k%256)]:=by
 apply aX;intro i
 by_cases h:i<k
 .grind[HE,fM]
 by_cases a:i=k
 .subst a;rw[HE _ _ _ (by omega),dJ (by simp[fM])];simp[fM]
 grind[fM]
def BB{w:World}{g:Nat}{e:TypeId}{l:List UInt8}(h:w.heap[g]?=some (.cells (l.map qg).toArray e (0,0)))(a:l.length<=9223372036854775807):
  w.ownsRow 0 e 1 (.slice (some ⟨g,0,none⟩) l.length l.length) l.length (l.map qg):=by
 refine⟨by simp,.inr ⟨g,l.length,(l.map qg).toArray,rfl,e9 _,h,aD _,?_,?_,?_⟩⟩
 .grind[maxLen]
 .simp
 simp only[eZ];exact bB (by simp)
def ofNat_toNat(n:Nat):((UInt8.ofNat (n%256)).toNat:Int)=((n%256:Nat):Int):=by
 simp_all
def S4(x i:Nat)(hi:i<8):IntKind.u8.wrap (Int.fdiv (x:Int) (2 ^ (min ((IntKind.i64.wrap ((8:Int)*(i:Int)))).toNat IntKind.u64.bits)))=((UInt8.ofNat (x / 256 ^ i%256)).toNat:Int):=by
 have a:IntKind.i64.wrap ((8:Int)*(i:Int))=((8*i:Nat):Int):=by grind[IntWalk.i64_in]
 have b:min (8*i) IntKind.u64.bits=8*i:=by
  have:IntKind.u64.bits=64:=rfl;omega
 rw[a,aq,b,ofNat_toNat];have c:((2:Int) ^ (8*i))=((256 ^ i:Nat):Int):=by
  simp[Int.pow_mul]
 rw[c];have d:Int.fdiv (x:Int) ((256 ^ i:Nat):Int)=((x / 256 ^ i:Nat):Int):=by
  grind
 grind[IntKind.wrap_u8]
def S5{P:Program}{t:TypeId}{d:Nat}(o:ru P t 5 (.int .u8 0) 1 d)(l:d=1)(x k:Nat)(s:k<=8){w:World}{A:Option Addr->Nat->Nat->World->Prop}(n:∀a g,aZ w a []->a.heap[g]?=some (.cells ((F0 k x).map qg).toArray 5 (0,0))->w.heap.size<=g->A (some ⟨g,0,none⟩) k k a):
  kg P (Instr.makeSlice t (.int .i64 (k:Int)) (.int .i64 (k:Int))) w λm q=>∃(h:OA) (c i:Nat),m=(.slice h c i) /\
   ∃f:Int->World->Nat->Prop,(∃e,f (0:Int) q e)/\∀(a:World) (e:Nat) (b:Int),f b a e->∀_:Nat->Value,cond (decide (b<((c:Nat):Int))) (0<=(IntKind.i64.wrap ((8:Int)*b))/\fN h λp=>0<=b/\b<((c:Nat):Int) /\
      kB a (Addr.add p ((b).toNat*1)) (.int .u8 (IntKind.u8.wrap (Int.fdiv (x:Int) (2 ^ (min ((IntKind.i64.wrap ((8:Int)*b))).toNat IntKind.u64.bits))))) λr=>
      ∃j,j<e/\f (IntKind.i64.wrap (b+(1:Int))) r j) (A h c i a):=by
 subst l;refine Zr o rfl (by omega) (by omega) (by omega) ⟨_,_,_,rfl,?_⟩;obtain⟨g,f⟩:∃g,w.heap.size=g:=⟨_,rfl⟩;rw[f,aq];refine⟨λb a m=>∃i:Nat,b=(i:Int)/\i<=k/\m=k-i/\aZ w a []/\a.heap[g]?=some (.cells (((F0 i x).map qg)++List.replicate (k-i) (Value.int .u8 0)).toArray 5 (0,0)),⟨k,0,rfl,by omega,by omega,aZ.new _ _ _,by rw[pR,ag f.symm];simp[F0]⟩,?_⟩
 rintro a m b ⟨i,rfl,q,rfl,e,c⟩-
 by_cases p:i<k
 .refine cT (by grind) ⟨?_,by omega,by omega,?_⟩
  .grind[IntWalk.i64_in]
  rw[aq,wq,eZ];refine Ix c (by simp[fM];omega) rfl ⟨k-(i+1),by omega,i+1,?_,by omega,rfl,?_,?_⟩
  .grind[IntWalk.i64_in]
  .refine e.trans (aZ.set a g i _ (F:=[g]) (by simp)) (λj h=>.inr (by simp at h;omega))
  rw[heap_set,ag rfl,c,MH,S4 x i (by omega),JT]
  congr 2
  rw[List.setIfInBounds_toArray]
  congr 1
  rw[mE _ _ (by simp[fM])];rw[show k-i=(k-(i+1))+1 by omega,jZ];simp[fM,qg]
 obtain rfl:i=k:=by omega
 refine cF (by grind) (n a g e ?_ (by omega));rw[c];simp
def sV{P:Program}{w:World}{t dst:TypeId}(d:P.underlying t=some (.slice 5))(a:P.underlying 5=some (.int .u8))(hd:P.underlying dst=some .string){n:Int}{b:UInt8}(c:n=(b.toNat:Int)){K:KP}(k:K (.string ⟨#[b]⟩) (w.alloc (.cells #[.int .u8 n] 5))):
  kg P (convert t dst (.slice (some ⟨w.heap.size,0,none⟩) 1 1)) (w.alloc (.cells #[.int .u8 n] 5)) K:=by
 subst c;have own:(w.alloc (.cells #[.int .u8 (b.toNat:Int)] 5)).ownsRow 0 5 1 (.slice (some ⟨w.heap.size,0,none⟩) [b].length [b].length) [b].length ([b].map qg):=
  BB (l:=[b]) (by rw[pR,ag rfl];rfl) (by simp)
 exact Dh d a hd own k
def vN(e:TypeId)(sz:Nat)(v:Value)(n:Nat)(d:List Value):bP where
 p w F:=w.ownsRow 0 e sz v n d/\F=v.ownBlock.toList
 loc:=λ⟨h,a⟩ c hd=>⟨B0 h c λk b=>(by grind),a⟩
 lt:=λ⟨h,a⟩ k b=>by subst a;simp at b;exact(h.lt k b).2
def St.Tj{w0 w:World}{A:bP}(h:St w0 w A)(e:TypeId)(sz:Nat):St w0 w (star A (vN e sz (.slice none 0 0) 0 [])):=
 h.add (aZ.refl _ _) (B:=vN e sz _ 0 []) (G:=[]) ⟨⟨by simp,.inl ⟨rfl,rfl⟩⟩,rfl⟩ (by simp)
def Ls{P:Program}{w0 w:World}{B:bP}{t ty e:TypeId}{z:Value}{sz d:Nat}(r:ru P t e z sz d){v:Value}{n:Nat}{o:List Value}(h:St w0 w (star (vN e sz v n o) B)){a:Addr}{m c:Nat}{news:List Value}(y:news.length=m*sz)(b:∀j u,news[j]?=some u->w.cell? (a.add j)=some u)(q:∀u∈news,u.oneCell'=true)(s:(n+m)*d<=140737488355328)(A:n+m<=9223372036854775807){K:KP}(k:∀g i,St w0 i (star (vN e sz g (n+m) (o++news)) B)->K g i):kg P (Builtin.append_ #[t,t] ty #[v,.slice (some a) m c]) w K:=by
 obtain⟨F,⟨own,rfl⟩,l⟩:=h.use;refine Rx r own y b q s A λg i f x C=>k g i (l i (vN e sz g (n+m) (o++news)) ⟨_,⟨f,rfl⟩,x,λj D=>?_⟩);rcases C j (by grind) with p |p
 .exact .inl (by grind)
 exact .inr p
def GR{P:Program}{w0 w:World}{B:bP}{t ty e:TypeId}{z:Value}{sz b:Nat}(q:ru P t e z sz b){v:Value}{n:Nat}{i:List Value}(h:St w0 w (star (vN e sz v n i) B)){news:List Value}(y:news.length=sz)(p:∀u∈news,u.oneCell'=true)(s:(n+1)*b<=140737488355328)(x:n+1<=9223372036854775807){R:Option Addr->Nat->Nat->World->Prop}(k:∀a c f,St w0 f (star (vN e sz (.slice a (n+1) c) (n+1) (i++news)) B)->R a (n+1) c f){cs:Array Value}(g:cs=news.toArray):
  gK w (.cells cs e) λr d=>kg P (Builtin.append_ #[t,t] ty #[v,.slice (some ⟨r,0,none⟩) 1 1]) d λe j=>∃a l c,e=.slice a l c/\R a l c j:=by
 subst g;refine dH ?_;have o:St w0 (w.alloc (.cells news.toArray e)) (star (vN e sz v n i) B):=h.quiet (aZ.new _ _ _);refine Ls q o (m:=1) (news:=news) (by omega) (λj u r=>?_) p s x λA f d=>?_
 .rw[wq,uL,pR,ag rfl,qL];simpa using r
 obtain⟨F,⟨own,_⟩,_⟩:=d.use;obtain⟨a,c,rfl⟩:=yh own;exact⟨a,_,c,rfl,k a c f d⟩
def UN{P:Program}{w0 w:World}{B:bP}{t e dst:TypeId}(c:P.underlying t=some (.slice e))(b:P.underlying e=some (.int .u8))(hd:P.underlying dst=some .string){v:Value}{l:List UInt8}{a:TypeId}(h:St w0 w (star (vN a 1 v l.length (l.map qg)) B)){K:KP}(k:K (.string ⟨l.toArray⟩) w):kg P (convert t dst v) w K:=by
 obtain⟨F,⟨own,_⟩,_⟩:=h.use;exact Dh c b hd own k
def St.rowOf{w0 w:World}{B:bP}{e:TypeId}{sz n:Nat}{v:Value}{a:List Value}(h:St w0 w (star (vN e sz v n a) B)):w.ownsRow 0 e sz v n a:=by
 obtain⟨F,⟨own,_⟩,_⟩:=h.use;exact own
def iZ(b:Nat)(o:Obj):bP where
 p w F:=w.heap[b]?=some o/\F=[b]
 loc:=λ⟨h,a⟩ d hd=>⟨d.keep h (by grind),a⟩
 lt:=λ⟨h,a⟩ k c=>by subst a;simp at c;subst c;exact qP h
theorem aZ.put(w:World)(b:Nat)(o:Obj){F:List Nat}(h:b∈F):aZ w (w.putObj b o) F:=
 ⟨by simp[World.putObj],λi _ a=>World.putObj_heap_other (λe=>a (e▸h)),⟨rfl,rfl,rfl⟩⟩
def St.obj{w0 w:World}{B:bP}{b:Nat}{o:Obj}(h:St w0 w (star (iZ b o) B)):w.heap[b]?=some o:=by
 obtain⟨F,⟨a,_⟩,_⟩:=h.use;exact a
theorem St.put{w0 w:World}{B:bP}{b:Nat}{o:Obj}(h:St w0 w (star (iZ b o) B))(a:Obj):St w0 (w.putObj b a) (star (iZ b a) B):=by
 obtain⟨F,⟨d,rfl⟩,use⟩:=h.use;exact use _ (iZ b a) ⟨[b],⟨World.putObj_heap_same (qP d),rfl⟩,aZ.put w b a (by simp),λj c=>.inl c⟩
def St.newObj{w0 w:World}{A:bP}(h:St w0 w A)(o:Obj):St w0 (w.alloc o) (star A (iZ w.heap.size o)):=
 h.add (aZ.new _ _ _) (B:=iZ w.heap.size o) (G:=[w.heap.size]) ⟨by rw[pR,ag rfl],rfl⟩ (by simp)
def pQ(h:Nat)(b:UInt8):Nat:=(h ^^^ b.toNat)*1099511628211%18446744073709551616
def JF(l:List UInt8):Nat:=l.foldl pQ 14695981039346656037
def wW(h:Nat)(b:UInt8):pQ h b<18446744073709551616:=jE _ (by decide)
def BY(h:Nat)(g:h<18446744073709551616)(b:UInt8):
  IntKind.u64.wrap ((aaM .u64 (h:Int) (IntKind.u64.wrap (b.toNat:Int)))*(1099511628211:Int))=((pQ h b:Nat):Int):=by
 have f:=b.toNat_lt;have c:IntKind.u64.wrap (b.toNat:Int)=(b.toNat:Int):=IntWalk.u64_in _ (by omega);have d:aaM .u64 (h:Int) (b.toNat:Int)=((h ^^^ b.toNat:Nat):Int):=by
  show IntKind.u64.wrap (((BitVec.ofInt 64 (h:Int) ^^^ BitVec.ofInt 64 (b.toNat:Int)).toNat:Nat):Int)=_;have a:(BitVec.ofInt 64 (h:Int) ^^^ BitVec.ofInt 64 (b.toNat:Int)).toNat=h ^^^ b.toNat:=by
   grind
  rw[a];have e:=Nat.xor_lt_two_pow (by omega) (by omega);exact IntWalk.u64_in _ (by omega)
 grind[IntKind.wrap_u64,pQ]
end Go.Vc
namespace Go.Vc
def V4{c:Type}(f:c->bP):bP where
 p w F:=∃a,(f a).p w F
 loc:=λ⟨a,h⟩ b hd=>⟨a,(f a).loc h b hd⟩
 lt:=λ⟨a,h⟩=>(f a).lt h
def St.ex{j:Type}{f:j->bP}{w0 w:World}{B:bP}(h:St w0 w (star (V4 f) B)):∃a,St w0 w (star (f a) B):=by
 obtain⟨F,⟨b,c,rfl,⟨a,d⟩,e,hd⟩,g,i⟩:=h;exact⟨a,_,⟨b,c,rfl,d,e,hd⟩,g,i⟩
def St.xe{b:Type}{f:b->bP}{w0 w:World}{B:bP}(a:b)(h:St w0 w (star (f a) B)):St w0 w (star (V4 f) B):=by
 obtain⟨F,⟨c,d,rfl,e,g,hd⟩,i,j⟩:=h;exact⟨_,⟨c,d,rfl,⟨a,e⟩,g,hd⟩,i,j⟩
def fF.swap{A B:bP}:fF (star A B) (star B A):=by
 rintro w F ⟨b,c,rfl,d,e,hd⟩;exact⟨c++b,⟨c,b,rfl,e,d,λk f a=>hd k a f⟩,λj=>by grind⟩
def fF.assoc{A B C:bP}:fF (star (star A B) C) (star A (star B C)):=by
 rintro w F ⟨l,a,rfl,⟨c,b,rfl,d,e,g⟩,f,hd⟩;refine⟨c++(b++a),⟨c,b++a,rfl,d,⟨b,a,rfl,e,f,λk h=>(by grind)⟩,λk h i=>?_⟩,λj=>by simp⟩;grind
def fF.assoc'{A B C:bP}:fF (star A (star B C)) (star (star A B) C):=by
 rintro w F ⟨a,l,rfl,e,⟨b,d,rfl,f,g,h⟩,hd⟩;refine⟨(a++b)++d,⟨a++b,d,rfl,⟨a,b,rfl,e,f,λk i c=>(by grind)⟩,g,λk i c=>?_⟩,λj=>by simp⟩;grind
def fF.unit(A:bP):fF A (star A emp):=λ_ F h=>⟨F++[],⟨F,[],rfl,h,rfl,by simp⟩,λj=>by simp⟩
end Go.Vc
namespace Go.Vc
def fF.unit'(A:bP):fF (star A emp) A:=by
 rintro w F ⟨a,b,rfl,h,rfl,_⟩;exact⟨a,h,λj=>by simp⟩
theorem fF.out:∀{l:List bP} (i:Nat) {A:bP},l[i]?=some A->fF (Sep l) (star A (Sep (l.eraseIdx i)))
 |[],_,_,h=>by grind
 |B::l,0,A,h=>by simp at h;subst h;exact fF.refl _
 |B::l,i+1,A,h=>(fF.right (fF.out (l:=l) i (by grind))).trans fF.sP
theorem fF.back:∀{l:List bP} (i:Nat) {A:bP},i<l.length->fF (star A (Sep (l.eraseIdx i))) (Sep (l.set i A))
 |[],_,_,h=>by grind
 |B::l,0,A,h=>fF.refl _
 |B::l,i+1,A,h=>fF.sP.trans (fF.right (fF.back (l:=l) i (by grind)))
def St.out{w0 w:World}{l:List bP}(h:St w0 w (Sep l))(i:Nat){A:bP}(e:l[i]?=some A):St w0 w (star A (Sep (l.eraseIdx i))):=h.eqv (fF.out i e)
def St.back{w0 w:World}{l:List bP}{A:bP}{i:Nat}(h:St w0 w (star A (Sep (l.eraseIdx i))))(hi:i<l.length:=by decide):St w0 w (Sep (l.set i A)):=h.eqv (fF.back i hi)
section at_
variable {w0 w:World} {l:List bP}
def St.aj{r:Nat}{cs:Array Value}{T:TypeId}(h:St w0 w (Sep l))(i:Nat)(e:l[i]?=some (ay r cs T))(j:Nat):w.cell? ⟨r,j,none⟩=cs[j]?:=(h.out i e).boxed j
def St.xk{b:Nat}{o:Obj}(h:St w0 w (Sep l))(i:Nat)(e:l[i]?=some (iZ b o)):w.heap[b]?=some o:=(h.out i e).obj
def kL{i:Nat}{A:bP}(e:l[i]?=some A):i<l.length:=by
 grind
def St.putAt{b:Nat}{o:Obj}(h:St w0 w (Sep l))(i:Nat)(e:l[i]?=some (iZ b o))(a:Obj):St w0 (w.putObj b a) (Sep (l.set i (iZ b a))):=
 (St.put (h.out i e) a).back (kL e)
def St.jR(h:St w0 w (Sep l))(cs:Array Value)(T:TypeId):St w0 (w.alloc (.cells cs T)) (Sep (ay w.heap.size cs T::l)):=(h.box cs T).swap
def St.ZA(h:St w0 w (Sep l))(o:Obj):St w0 (w.alloc o) (Sep (iZ w.heap.size o::l)):=(h.newObj o).swap
def St.cL{cs:Array Value}{r:Nat}{T:TypeId}{v:Value}{j:Nat}{R:World->Prop}(h:St w0 w (Sep l))(i:Nat)(e:l[i]?=some (ay r cs T))(a:j<cs.size)(d:v.oneCell'=true)(k:∀c,St w0 c (Sep (l.set i (ay r (cs.setIfInBounds j v) T)))->R c):kB w ⟨r,j,none⟩ v R:=by
 obtain⟨F,⟨b,rfl⟩,use⟩:=(h.out i e).use;refine Ix b a d (k _ ((use _ (ay r (cs.setIfInBounds j v) T) ⟨[r],⟨?_,rfl⟩,aZ.set _ _ _ _ (by simp),λj a=>.inl a⟩).back (kL e)));rw[heap_set,ag rfl,b];rfl
def St.aR{x:Nat}{cs:Array Value}{T:TypeId}{R:World->Prop}(h:St w0 w (Sep l))(i:Nat)(e:l[i]?=some (ay x cs T))(vs:List Value)(m:vs.length=cs.size)(b:∀v∈vs,v.oneCell'=true)(k:∀a,St w0 a (Sep (l.set i (ay x vs.toArray T)))->R a):yY ⟨x,0,none⟩ 0 vs w R:=by
 obtain⟨F,⟨g,rfl⟩,use⟩:=(h.out i e).use;refine Iy vs 0 w cs g (by omega) b λa c d _=>k a ((use a (ay x vs.toArray T) ⟨[x],⟨?_,rfl⟩,d,λj f=>.inl f⟩).back (kL e));rw[c];have:cs.toList.drop (0+0+vs.length)=[]:=List.drop_of_length_le (by simp;omega);rw[this]
 simp
end at_
def dU(A B:bP):Prop:=∀w F,A.p w F->∃a,B.p w a/\∀j∈a,j∈F
def fF.weak{A B:bP}(h:fF A B):dU A B:=λw F b=>let ⟨F',hB,hj⟩:=h w F b;⟨F',hB,λj a=>(hj j).1 a⟩
def dU.trans{A B C:bP}(h:dU A B)(k:dU B C):dU A C:=λw F a=>
 let ⟨_,hB,h1⟩:=h w F a;let ⟨F'',hC,h2⟩:=k w _ hB
 ⟨F'',hC,λj b=>h1 j (h2 j b)⟩
def dU.right{A B C:bP}(h:dU B C):dU (star A B) (star A C):=by
 rintro w F ⟨c,d,rfl,e,f,hd⟩;obtain⟨a,b,l⟩:=h w d f;exact⟨c++a,⟨c,a,rfl,e,b,λk m i=>(by grind)⟩,λj g=>by grind⟩
def dU.none(A:bP):dU A emp:=λ_ _ _=>⟨[],rfl,by simp⟩
def St.weak{w0 w:World}{A B:bP}(h:St w0 w A)(k:dU A B):St w0 w B:=by
 obtain⟨F,b,d,f⟩:=h;obtain⟨a,c,g⟩:=k w F b;exact⟨a,c,d,λj e=>f j (g j e)⟩
def aM:List Nat->List bP->List bP
 |[],_=>[]
 |i::is,l=>l.getD i emp::aM is (l.set i emp)
theorem dU.pick:∀(is:List Nat) (l:List bP),dU (Sep l) (Sep (aM is l))
 |[],l=>dU.none _
 |i::is,l=>by
  by_cases a:i<l.length
  .have e:l[i]?=some (l.getD i emp):=by grind
   refine(fF.out i e).weak.trans (dU.right ?_);refine dU.trans ?_ (dU.pick is (l.set i emp));refine dU.trans (fF.weak ?_) (fF.back (l:=l) (A:=emp) i a).weak;exact(fF.unit _).trans fF.swap
  have e:l.getD i emp=emp:=by grind
  have b:l.set i emp=l:=kT (Nat.le_of_not_lt a);unfold Vc.aM;rw[e,b];exact(dU.pick is l).trans ((fF.unit _).trans fF.swap).weak
def St.aM{w0 w:World}{l:List bP}(h:St w0 w (Sep l))(is:List Nat):St w0 w (Sep (Vc.aM is l)):=h.weak (dU.pick is l)
theorem fF.split{m:List bP}:∀(l:List bP),fF (Sep (l++m)) (star (Sep l) (Sep m))
 |[]=>(fF.unit _).trans fF.swap
 |_::l=>(fF.right (fF.split l)).trans fF.assoc'
theorem fF.cat{m:List bP}:∀(l:List bP),fF (star (Sep l) (Sep m)) (Sep (l++m))
 |[]=>fF.swap.trans (fF.unit' _)
 |_::l=>fF.assoc.trans (fF.right (fF.cat l))
def St.split{w0 w:World}{m:List bP}(l:List bP)(h:St w0 w (Sep (l++m))):St w0 w (star (Sep l) (Sep m)):=h.eqv (fF.split l)
def St.cat{w0 w:World}{l m:List bP}(h:St w0 w (star (Sep l) (Sep m))):St w0 w (Sep (l++m)):=h.eqv (fF.cat l)
def St.join{w0 w:World}{A B:bP}{l:List bP}(h:St w0 w (Sep (A::B::l))):St w0 w (Sep (star A B::l)):=h.eqv fF.assoc'
def St.one{w0 w:World}{A:bP}(h:St w0 w A):St w0 w (Sep [A]):=h.eqv (fF.unit A)
def St.single{w0 w:World}{A:bP}(h:St w0 w (Sep [A])):St w0 w A:=h.eqv (fF.unit' A)
def St.pair{w0 w:World}{A B:bP}(h:St w0 w (Sep [A,B])):St w0 w (star A B):=h.eqv (fF.right (fF.unit' B))
def St.yW{w0 w:World}{A B:bP}(h:St w0 w (star A B)):St w0 w (Sep [A,B]):=h.eqv (fF.right (fF.unit B))
def St.triple{w0 w:World}{A B C:bP}(h:St w0 w (Sep [A,B,C])):St w0 w (star A (star B C)):=h.eqv (fF.right (fF.right (fF.unit' C)))
def St.sU{w0 w:World}{A B C:bP}(h:St w0 w (star A (star B C))):St w0 w (Sep [A,B,C]):=h.eqv (fF.right (fF.right (fF.unit C)))
end Go.Vc
namespace Go.Vc
def bg{P:Program}{f:FuncId}{args:Array Value}{w:World}{K:KP}{R:Ending->World->Prop}(h:Calls P f args w (wo K))(k:∀v a,K v a->R (.returned v) a):Calls P f args w R:=
 h.mono λe a ⟨v,b,c⟩=>by subst b;exact k v a c
def gW(g i j:Nat):(⟨g,i,none⟩:Addr).add j=⟨g,i+j,none⟩:=by simp[Addr.add]
def Ou{w:World}{e:TypeId}{sz n:Nat}{a:OA}{c:Nat}{i:List Value}(own:w.ownsRow 0 e sz (.slice a n c) n i)(p:0<n):∃g,a=some ⟨g,0,none⟩/\∀(k:Nat) (v:Value),i[k]?=some v->w.cell? ⟨g,k,none⟩=some v:=by
 rcases own.2 with⟨h,rfl⟩|⟨g,cap,j,h,_,l,m,_,o,f⟩
 .omega
 cases h
 refine⟨g,rfl,λk v b=>?_⟩;rw[uL,l,qL,<-dy,<-b,<-f,bz];rw[<-f,bz] at b
 split at b
 .rename_i d;rw[ag d]
 cases b
def dU.left{A B C:bP}(h:dU A B):dU (star A C) (star B C):=by
 rintro w F ⟨d,c,rfl,e,f,hd⟩;obtain⟨a,b,l⟩:=h w d e;exact⟨a++c,⟨a,c,rfl,b,f,λk m i=>(by grind)⟩,λj g=>by grind⟩
def bJ{b:Type}{l:List b}{i:Nat}{a:b}(h:l[i]?=some a):l.take (i+1)=l.take i++[a]:=by
 grind[List.take_add_one]
def St.after{w0 w g:World}{A B:bP}(h:St w0 w A)(k:St w g B):St w0 g (star B A):=by
 obtain⟨F,e,f,j⟩:=h;obtain⟨G,i,a,b⟩:=k;refine⟨G++F,⟨G,F,rfl,i,A.loc e a (by simp),λk c d=>?_⟩,f.trans a (by simp),λk c=>?_⟩
 .have:=b k c;have:=A.lt e k d;omega
 rcases aB.1 c with h|h
 .exact bp f.size (b k h)
 exact j k h
def EU{w0 a w:World}{A:bP}(hc:aZ w0 a [])(h:St a w A):St w0 w A:=
 let ⟨F,hF,hc',hn⟩:=h
 ⟨F,hF,hc.trans hc' (by simp),λk b=>bp hc.size (hn k b)⟩
def xC{w:World}{e:TypeId}{sz n c:Nat}{a:OA}{f:List Value}(own:w.ownsRow 0 e sz (.slice a n c) n f):n<=c/\(a=none->c=0):=by
 rcases own.2 with⟨d,rfl⟩|⟨g,cap,b,d,_,_,h,_⟩
 .grind
 grind
theorem fm{w:World}{a:Addr}:∀(b:List Value) (i:Nat),(∀(j:Nat) (v:Value),b[j]?=some v->w.cell? (a.add (i+j))=some v)->aU w a i b
 |[],_,_=>trivial
 |v::b,i,h=>⟨h 0 v rfl,fm b (i+1) λj u c=>by have:=h (j+1) u (by simpa using c);rwa [show i+(j+1)=i+1+j by omega] at this⟩
def St.cellsIn{w0 w:World}{l:List bP}{r:Nat}{cs:Array Value}{T:TypeId}(h:St w0 w (Sep l))(i:Nat)(e:l[i]?=some (ay r cs T)):aU w ⟨r,0,none⟩ 0 cs.toList:=
 fm _ 0 λj v a=>by
  rw[wq,az,h.aj i e];simpa using a
def Gu{P:Program}{a:FuncId}{b:Array Value}{F:FuncId->List Value->Prop}(c:o4 P a=true)(h:F a b.toList):EH P (.func (.func a) #[] b) F:=by
 show cond (true&&o4 P a) (F a b.toList) False;rw[c];exact h
def iJ{P:Program}{g:FuncId}{x y args:Array Value}{w:World}{R:Ending->World->Prop}(a:o4 P g=true)(h:Calls P g (x++args++y) w R):rZ P (.func (.func g) x y) args w R:=by
 show cond (o4 P g) (Calls P g (x++args++y) w R) False;rw[a];exact h
def bF{P:Program}{f:FuncId}{args:Array Value}{w:World}{v:Value}{Q:World->Prop}{R:Ending->World->Prop}(h:Calls P f args w (wo λr a=>r=v/\Q a))(k:∀a,Q a->R (.returned v) a):Calls P f args w R:=
 bg h λ_ a e=>by rw[e.1];exact k a e.2
def kR{P:Program}{f:FuncId}{args:Array Value}{w:World}{v:Value}{R:Ending->World->Prop}(h:Calls P f args w (wo λr a=>r=v/\a=w))(k:R (.returned v) w):Calls P f args w R:=
 bg h λ_ a e=>by rw[e.1,e.2];exact k
def St.qu{w0 w:World}{A:bP}(s:St w0 w A){P:Program}{f:FuncId}{args:Array Value}{v:Value}{R:Ending->World->Prop}(h:Calls P f args w (wo λr a=>r=v/\aZ w a []))(k:∀a,St w0 a A->R (.returned v) a):Calls P f args w R:=
 bF h λa c=>k a (s.quiet c)
end Go.Vc
namespace Go.Vc
open Go Go.Deep
def wm(P:Program)(w:World):Nat->TypeId->List Value->Prop
 |0,_,_=>True
 |d+1,t,cs=>match P.underlying t with
  |some .bool=>∃b:Bool,cs=[.bool b]
  |some (.int k)=>∃n:Int,cs=[.int k n]/\(Lit.int k n).wf=true
  |some .string=>∃s:ByteArray,cs=[.string s]/\s.size<=maxLen
  |some (.slice e)=>∃(a:OA) (l c:Nat),cs=[.slice a l c]/\l<=c/\c<=maxLen/\(a=none->c=0)/\l*P.bytesOf e<=reachBytes /\
    ∀i,i<l->∃q f,a=some q/\w.cells? 0 (q.add (i*P.cellsOf e)) (P.cellsOf e)=some f/\wm P w d e f
  |some (.struct g)=>cs.length=P.cellsOf t/\∀f∈g.toList,wm P w d f.type ((cs.drop f.offset).take (P.cellsOf f.type))
  |some (.array n e)=>cs.length=P.cellsOf t/\∀i,i<n->wm P w d e ((cs.drop (i*P.cellsOf e)).take (P.cellsOf e))
  |_=>True
theorem UY{H:Type}{P:Program}{e:TypeId}:∀{l:List (DataW H)} {d:DataW H} {y:Nat},d∈l->y∈d.weights P e->y∈DataW.weightsAll P e l
 |[],_,_,h,_=>by cases h
 |x::l,d,y,h,a=>by
  simp only[DataW.weightsAll,aB];rcases aP.1 h with rfl|h
  .grind
  exact .inr (UY h a)
theorem vV{H:Type}{P:Program}:∀{c:List TypeId} {l:List (DataW H)} {i:Nat} {t:TypeId} {d:DataW H} {y:Nat},c[i]?=some t->l[i]?=some d->y∈d.weights P t->y∈DataW.weightsEach P c l
 |[],_,_,_,_,_,h,_,_=>by grind
 |_::_,[],_,_,_,_,_,h,_=>by grind
 |t0::c,d0::l,i,t,d,y,a,b,e=>by
  simp only[DataW.weightsEach,aB]
  cases i with
  |zero=>simp at a b;subst a b;exact .inl e
  |succ i=>exact .inr (vV (i:=i) (by simpa using a) (by simpa using b) e)
theorem oO{H:Type}{enc:TypeId×Value->H}{P:Program}{w:World}{spare:Nat->Bool}{held:Bool}:∀(d:Nat) {o:Nat} {t:TypeId} {cs:List Value} {x:DataW H×List MemPlace},DataW.trod enc P w 0 spare held o t cs=some x->(∀y∈x.1.weights P t,y<=reachBytes)->wm P w d t cs
 |0,_,_,_,_,_,_=>trivial
 |d+1,o,t,cs,x,h,j=>by
  unfold wm
  split
  .rename_i g;obtain⟨b,rfl,_⟩:=DataW.trod_bool g h;exact⟨b,rfl⟩
  .rename_i k g;obtain⟨n,rfl,_,j⟩:=DataW.trod_int g h;exact⟨n,rfl,j⟩
  .rename_i g;obtain⟨s,rfl,_,a⟩:=DataW.trod_string g h;exact⟨s,rfl,a⟩
  .rename_i e g;rcases open_slice g h with⟨rfl,_⟩|⟨a,l,c,m,n,D,B,rfl,_,r,k,s,A,p⟩
   .exact⟨none,0,0,rfl,aD _,e9 _,λ_=>rfl,by simp,λi p=>by omega⟩
   subst A;simp only[DataW.weights,g,bu,oG,aP,aB] at j;have z:l<=m:=by grind
   have C:=j _ (.inl rfl);refine⟨some a,l,c,rfl,r,k,λh=>(by cases h),?_,λi v=>?_⟩
   .grind
   obtain⟨f,u,b⟩:=p i (by omega);exact⟨a,f,rfl,u,oO d b λy q=>j y (.inr (.inl (UY (by grind) q)))⟩
  .rename_i c g;obtain⟨v,n,_,rfl,k,r,a⟩:=DataW.trod_struct g h;refine⟨k,λf s=>?_⟩;obtain⟨i,p,rfl⟩:=dY.1 s;have u:i<c.size:=by omega
   have b:=a i c.toList[i] (by grind);rw[fI (by omega)] at b;simp only[DataW.weights,g] at j;exact oO d b λy q=>j y (vV (i:=i) (by grind) (by grind) q)
  .rename_i n e g;obtain⟨v,m,_,rfl,k,r,a⟩:=DataW.trod_array g h;refine⟨k,λi p=>?_⟩;have b:=a i p;rw[fI (by omega)] at b;simp only[DataW.weights,g] at j;exact oO d b λy q=>j y (UY (by grind) q)
  grind
end Go.Vc
namespace Go.Vc
open Go
abbrev sv (l:List UInt8):Value:=.string (bs l)
def In(n:Int):Prop:=-9223372036854775808<=n/\n<=9223372036854775807
def fQ{n:Int}(h:In n):IntKind.i64.wrap n=n:=by
 obtain⟨a,b⟩:=h;grind[IntKind.wrap,IntKind.signed,IntKind.bits]
def gC{n:Int}(h:-9223372036854775808<=n/\n<=9223372036854775807):IntKind.i64.wrap n=n:=fQ h
def mS{N k m:Nat}{Q:Nat->Prop}(h:k<N/\m=N-k/\k<9223372036854775807)(q:Q (k+1)):∃b,b<m/\∃a:Nat,IntKind.i64.wrap ((k:Int)+1)=(a:Int)/\a<=N/\b=N-a/\Q a:=
 ⟨N-(k+1),by omega,k+1,fQ ⟨by omega,by omega⟩,by omega,rfl,q⟩
def inc{k n:Nat}(h:n<=9223372036854775807)(a:k<n):IntKind.i64.wrap ((k:Int)+1)=((k+1:Nat):Int):=fQ ⟨by omega,by omega⟩
def lJ(l:List UInt8)(i:Nat):(bs l)[i]?=l[i]?:=by
 by_cases h:i<l.length
 .rw[getElem?_pos (bs l) i h,fI h];rfl
 rw[getElem?_neg (bs l) i h,aJ (by omega)]
def DA(l:List UInt8)(m n:Nat):(bs l).extract m n=bs ((l.drop m).take (n-m)):=by
 apply ByteArray.ext;simp[bs]
def Jd(l:List UInt8)(n:Nat):(bs l).extract 0 n=bs (l.take n):=by simp[DA]
def j9(l:List UInt8):(bs l).toList=l:=by simp[bs]
def jC(l:List UInt8):(bs l).size=l.length:=by rfl
def mc(l m:List UInt8):bs l++bs m=bs (l++m):=by
 rfl
def abn(b:ByteArray):b=bs b.data.toList:=by rfl
namespace I6
def l(u:I6):List Int:=[u.a,u.b,u.c,u.d,u.e,u.f]
def at'(u:I6):Nat->Int
 |0=>u.a
 |1=>u.b
 |2=>u.c
 |3=>u.d
 |4=>u.e
 |5=>u.f
 |_=>0
def get(u:I6)(k:Nat)(a:k<6):(u.vs.toArray:Array Value)[k*1]?=some (iv (u.at' k)):=by
 match k,a with
 |0,_|1,_|2,_|3,_|4,_|5,_=>rfl
def vG(u:I6)(k:Nat)(a:k<6):u.l[k]?=some (u.at' k):=by
 match k,a with
 |0,_|1,_|2,_|3,_|4,_|5,_=>rfl
def size(u:I6):u.vs.toArray.size=6:=rfl
def len(u:I6):u.l.length=6:=rfl
def one(u:I6):∀v∈u.vs,v.oneCell'=true:=by
 intro v a;simp[vs] at a;rcases a with rfl|rfl|rfl|rfl|rfl|rfl<;>rfl
def ext'{u v:I6}(h:∀k,k<6->u.at' k=v.at' k):u=v:=by
 cases u;cases v
 have a:=h 0 (by decide);have b:=h 1 (by decide);have c:=h 2 (by decide);have d:=h 3 (by decide);have e:=h 4 (by decide);have f:=h 5 (by decide);simp only[at'] at a b c d e f;subst a b c d e f;rfl
def beq_iff{u v:I6}:u.beq v=true<->u=v:=by
 cases u;cases v
 simp[beq]
instance:DecidableEq I6:=λu v=>if h:u.beq v=true then .isTrue (beq_iff.1 h) else .isFalse λe=>h (beq_iff.2 e)
theorem beq_eq(u v:I6):u.beq v=decide (u=v):=by
 cases h:u.beq v with
 |true=>rw[o5 (beq_iff.1 h)]
 |false=>rw[ow λe=>by rw[beq_iff.2 e] at h;cases h]
def Ff(l:List Int):I6:=⟨l.getD 0 0,l.getD 1 0,l.getD 2 0,l.getD 3 0,l.getD 4 0,l.getD 5 0⟩
def map(f:Int->Int)(u:I6):I6:=⟨f u.a,f u.b,f u.c,f u.d,f u.e,f u.f⟩
def zip(f:Int->Int->Int)(u v:I6):I6:=⟨f u.a v.a,f u.b v.b,f u.c v.c,f u.d v.d,f u.e v.e,f u.f v.f⟩
def mU(f:Int->Int->Int)(u v:I6)(k:Nat)(a:k<6):(zip f u v).at' k=f (u.at' k) (v.at' k):=by
 match k,a with
 |0,_|1,_|2,_|3,_|4,_|5,_=>rfl
def mix(k:Nat)(u v:I6):I6:=⟨if 0<k then u.a else v.a,if 1<k then u.b else v.b,if 2<k then u.c else v.c,if 3<k then u.d else v.d,if 4<k then u.e else v.e,if 5<k then u.f else v.f⟩
def Ta(u v:I6):mix 0 u v=v:=rfl
def sM(u v:I6):mix 6 u v=u:=rfl
def iy(u v:I6)(k j:Nat)(a:j<6):(mix k u v).at' j=if j<k then u.at' j else v.at' j:=by
 match j,a with
 |0,_|1,_|2,_|3,_|4,_|5,_=>rfl
def lE(u v:I6)(k:Nat)(a:k<6):(mix k u v).vs.toArray.setIfInBounds k (iv (u.at' k))=(mix (k+1) u v).vs.toArray:=by
 match k,a with
 |0,_|1,_|2,_|3,_|4,_|5,_=>rfl
def put(u:I6)(k:Nat)(x:Int):I6:=match k with
 |0=>{u with a:=x}
 |1=>{u with b:=x}
 |2=>{u with c:=x}
 |3=>{u with d:=x}
 |4=>{u with e:=x}
 |5=>{u with f:=x}
 |_=>u
def nW(u:I6)(k:Nat)(x:Int)(a:k<6):u.vs.toArray.setIfInBounds k (iv x)=(u.put k x).vs.toArray:=by
 match k,a with
 |0,_|1,_|2,_|3,_|4,_|5,_=>rfl
def mq(u:I6)(k j:Nat)(x:Int)(b:k<6)(a:j<6):(u.put k x).at' j=if j=k then x else u.at' j:=by
 match k,b,j,a with
 |0,_,0,_|0,_,1,_|0,_,2,_|0,_,3,_|0,_,4,_|0,_,5,_=>rfl
 |1,_,0,_|1,_,1,_|1,_,2,_|1,_,3,_|1,_,4,_|1,_,5,_=>rfl
 |2,_,0,_|2,_,1,_|2,_,2,_|2,_,3,_|2,_,4,_|2,_,5,_=>rfl
 |3,_,0,_|3,_,1,_|3,_,2,_|3,_,3,_|3,_,4,_|3,_,5,_=>rfl
 |4,_,0,_|4,_,1,_|4,_,2,_|4,_,3,_|4,_,4,_|4,_,5,_=>rfl
 |5,_,0,_|5,_,1,_|5,_,2,_|5,_,3,_|5,_,4,_|5,_,5,_=>rfl
end I6
def aZ.cat{w c d:World}{F G:List Nat}(h:aZ w c F)(k:aZ c d G):aZ w d (F++G):=
 ⟨bp h.size k.size,λi a b=>(k.same i (jg a h.size) λf=>b (cC _ f)).trans (h.same i a λe=>b (cr _ e)),h.env.trans k.env⟩
def held(Q:World->Prop):bP where
 p w F:=(∀f G,aZ w f G->(∀k∈F,k∉G)->Q f)/\∀k∈F,k<w.heap.size
 loc:=λ{_ _ _ G} ⟨h,b⟩ d hd=>⟨λc g a i=>h c (G++g) (d.cat a) λk e j=>(by grind),λk e=>jg (b k e) d.size⟩
 lt:=λ⟨_,b⟩=>b
def JG{Q:World->Prop}{w:World}{F:List Nat}(h:(held Q).p w F):Q w:=h.1 w [] (aZ.refl _ _) (by simp)
def nY(A:bP)(Q:World->Prop):Prop:=∀w F,A.p w F->Q w
def nY.weak{A:bP}{Q:World->Prop}(h:nY A Q):dU A (held Q):=λ_ F a=>
 ⟨F,⟨λe _ b hd=>h e F (A.loc a b hd),λk d=>A.lt a k d⟩,λ_ c=>c⟩
def nY.star{A B:bP}{Q R:World->Prop}(h:nY A Q)(k:nY B R):nY (star A B) λw=>Q w/\R w:=λw _ ⟨a,b,_,c,d,_⟩=>⟨h w a c,k w b d⟩
def nY.mono{A:bP}{Q R:World->Prop}(h:nY A Q)(k:∀w,Q w->R w):nY A R:=λw F a=>k w (h w F a)
def cV(Q:World->Prop):nY (held Q) Q:=λ_ _ h=>JG h
def jY{Q R:World->Prop}(k:∀w,Q w->R w):dU (held Q) (held R):=((cV Q).mono k).weak
def St.held{w0 w:World}{A:bP}{Q:World->Prop}(h:St w0 w A)(k:nY A Q):St w0 w (Vc.held Q):=h.weak k.weak
def St.imp{w0 w:World}{A:bP}{Q:World->Prop}(h:St w0 w A)(k:nY A Q):Q w:=let ⟨F,hA,_⟩:=h;k w F hA
def St.eu{w0 w:World}{l:List bP}{Q:World->Prop}(h:St w0 w (Sep l))(i:Nat)(e:l[i]?=some (Vc.held Q)):Q w:=(h.out i e).first.imp (cV Q)
def St.aY{w0 w:World}{l:List bP}(h:St w0 w (Sep l))(cs:Array Value){T:TypeId}{R:Nat->World->Prop}(k:∀r a,St w0 a (Sep (ay r cs T::l))->R r a):gK w (.cells cs T) R:=k _ _ (h.jR cs T)
def bE{w:World}(cs:Array Value){T:TypeId}{R:Nat->World->Prop}(k:∀r a,St w a (Sep [ay r cs T,emp])->R r a):gK w (.cells cs T) R:=(St.start w).one.aY cs k
def av{a:Type}{p:Option a}{F:a->Prop}{q:a}(h:p=some q)(k:F q):fN p F:=by rw[h];exact k
def Dn{b:Type}(sz:Nat)(R:World->b->List Value->Prop)(w:World)(a:OA)(l:List b):Prop:=
 ∀(i:Nat) (x:b),l[i]?=some x->∃q cs,a=some q/\aU w (q.add (i*sz)) 0 cs/\cs.length=sz/\R w x cs
abbrev iA {b:Type} (sz:Nat) (f:b->List Value) (w:World) (a:OA) (l:List b):Prop:=Dn sz (λ_ x cs=>cs=f x) w a l
def Dn.aK{c:Type}{sz:Nat}{R:World->c->List Value->Prop}{w b:World}{a:OA}{l:List c}(h:Dn sz R w a l)(hc:aZ w b [])(d:∀x cs,R w x cs->R b x cs):Dn sz R b a l:=λi x e=>
 let ⟨q,cs,h1,h2,h3,h4⟩:=h i x e
 ⟨q,cs,h1,ff hc h2,h3,d _ _ h4⟩
def iA.aK{c:Type}{sz:Nat}{f:c->List Value}{w b:World}{a:OA}{l:List c}(h:iA sz f w a l)(hc:aZ w b []):iA sz f b a l:=Dn.aK h hc λ_ _ h=>h
def Dn.take{c:Type}{sz:Nat}{R:World->c->List Value->Prop}{w:World}{a:OA}{l:List c}(h:Dn sz R w a l)(n:Nat):Dn sz R w a (l.take n):=λi x b=>by
 rw[bz] at b
 split at b
 .exact h i x b
 cases b
def Dn.nil{c:Type}{sz:Nat}{R:World->c->List Value->Prop}{w:World}{a:OA}:Dn sz R w a []:=λi x b=>by simp at b
def iA.at{b:Type}{sz:Nat}{f:b->List Value}{w:World}{a:OA}{l:List b}(h:iA sz f w a l){i:Nat}{x:b}(hi:l[i]?=some x):∃q,a=some q/\aU w (q.add (i*sz)) 0 (f x):=
 let ⟨q,_,h1,h2,_,h4⟩:=h i x hi
 ⟨q,h1,h4▸h2⟩
theorem bX{w:World}{a:Addr}:∀{c:List Value} {i:Nat},aU w a i c->∀(j:Nat) (v:Value),c[j]?=some v->w.cell? (a.add (i+j))=some v
 |_::_,i,h,0,v,b=>by simp at b;subst b;exact h.1
 |_::c,i,h,j+1,v,b=>by
  have:=bX h.2 j v (by simpa using b)
  rwa [show i+(j+1)=i+1+j by omega]
theorem DR{d:Type}{sz:Nat}{f:d->List Value}(b:∀x,(f x).length=sz):∀{l:List d} {i:Nat} {x:d},l[i]?=some x->∀(j:Nat) (v:Value),(f x)[j]?=some v->(l.flatMap f)[i*sz+j]?=some v
 |[],_,_,h,_,_,_=>by simp at h
 |y::l,0,x,h,j,v,a=>by
  simp at h;subst h;have c:=(ai.1 a).1;rw[bQ,gz,az,dK c];exact a
 |y::l,i+1,x,h,j,v,a=>by
  have c:=DR b (l:=l) (i:=i) (by grind) j v a;rw[bQ,dJ (by rw[b,cH];omega),b,cH];rw[show i*sz+1*sz+j-sz=i*sz+j by omega];exact c
theorem jB{b:Type}{sz:Nat}{f:b->List Value}(a:∀x,(f x).length=sz):∀(l:List b),(l.flatMap f).length=l.length*sz
 |[]=>by simp
 |x::l=>by rw[bQ,aA,a,jB a l,bN,cH];omega
def Ug{k:Type}{sz:Nat}{f:k->List Value}(d:∀x,(f x).length=sz){w:World}{e:TypeId}{a:OA}{c:Nat}{l:List k}(own:w.ownsRow 0 e sz (.slice a l.length c) l.length (l.flatMap f)):iA sz f w a l:=λi x h=>by
 have o:=(ai.1 h).1;obtain⟨g,rfl,b⟩:=Ou own (by omega);refine⟨_,f x,rfl,fm _ 0 λj v n=>?_,d x,rfl⟩;rw[wq,az];have m:=DR d h j v n;have:(⟨g,i*sz,none⟩:Addr).add j=⟨g,i*sz+j,none⟩:=by simp[Addr.add]
 rw[this];exact b _ _ m

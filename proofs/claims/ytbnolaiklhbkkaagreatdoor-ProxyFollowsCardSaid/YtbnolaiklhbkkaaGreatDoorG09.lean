import Derived.Test.YtbnolaiklhbkkaaGreatDoorG08
set_option linter.unusedVariables false
set_option maxRecDepth 100000
namespace Go.Proofs.YtbnolaiklhbkkaaGreatDoor
open Go Go.Vc _root_.Go.Proofs.Tryz
def jU(a:I6)(w:World)(K:KP):=aq w (.cells a.vs.toArray 53) λ a b=>∃ c:I6,af b (qd a 0) 0 c.vs/\∃ a:Int->qN,(∃ d,a 0 b d)/\∀ b d e,a e b d->∀ f:qv,cond (decide (e<6)) (0<=e/\e<6/\∃ f,(c.vs.toArray:Array Value)[(e).toNat*1]?=some (iv f)/\∃ c:Bool->qW,(∀ g h,c h g->∀ i:qv,cond h (K (iv 4) g) (∃ h,h<d/\a (IntKind.i64.wrap (e+1)) g h))/\cond (decide (f<0)) (c true b) (c (decide (f>1000000)) b)) (K qz b)
theorem o4{u1 w K}(h:jU u1 w K):CP 43 #[.agg u1.vs.toArray] w K:=ah (aA [(26,[(6,.s (.int .i64))]),(1689,[(14,.s .bool)])]) func43 (by kernel_rfl) (by kernel_rfl) h
def mZ(a:I6)(w:World)(K:KP):=aq w (.cells a.vs.toArray 53) λ a b=>∃ c:I6,af b (qd a 0) 0 c.vs/\∃ a:Int->qN,(∃ d,a 0 b d)/\∀ b d e,a e b d->∀ f:qv,cond (decide (e<6)) (0<=e/\e<6/\∃ f,(c.vs.toArray:Array Value)[(e).toNat*1]?=some (iv f)/\∃ c:Bool->qW,(∀ g h,c h g->∀ i:qv,cond h (K (.bool false) g) (∃ h,h<d/\a (IntKind.i64.wrap (e+1)) g h))/\cond (decide (f<0)) (c true b) (c (decide (f>1000000)) b)) (K (.bool true) b)
theorem rG{u1 w K}(h:mZ u1 w K):CP 87 #[.agg u1.vs.toArray] w K:=ah (aA [(26,[(6,.s (.int .i64))]),(1689,[(14,.s .bool)])]) func87 (by kernel_rfl) (by kernel_rfl) h
def qO(a:OA)(b c:Nat)(d:I6)(w:World)(K:KP):=aq w (.cells d.vs.toArray 44) λ c d=>∃ e:Int->Int->qN,(∃ f,e 0 (0:Int) d f)/\∀ d f g h,e g h d f->∀ i:qv,cond (decide (h<(b:Int))) (∃ i:Int->qW,(∀ j k,i k j->∀ l:qv,∃ l,l<f/\e k (IntKind.i64.wrap (h+1)) j l)/\an a λ a=>0<=h/\h<(b:Int)/\∃ b,∃ e:I6,∃ f,af d (Addr.add a ((h).toNat*8)) 0 (iv b :: e.on [iv f])/\aq d (.cells #[qz,qz,qz,qz,qz,qz,qz,qz] 68) λ a h=>aL (qd a 0) 0 (iv b :: e.on [iv f]) h λ b=>∃ e:Bool->qW,(∀ f h,e h f->∀ j:qv,cond h (∃ h,f.cell? (qd a 7)=some (iv h)/\i h f) (i g f))/\∃ f,b.cell? (qd a 7)=some (iv f)/\cond (decide (f>g)) (∃ f:I6,af b (qd a 1) 0 f.vs/\∃ a:I6,af b (qd c 0) 0 a.vs/\CC 120 #[.agg f.vs.toArray,.agg a.vs.toArray] b λ a c=>∃ f,a=.returned (.bool f)/\e f c) (e false b)) (K (iv g) d)
theorem uO{a1 l1 c1 u1 w K}(h:qO a1 l1 c1 u1 w K):CP 123 #[.slice a1 l1 c1,.agg u1.vs.toArray] w K:=ah (aA [(58,[(5,.s (.int .i64)),(10,.s (.int .i64))]),(467,[(5,.s (.int .i64))]),(3737,[(23,.s .bool)])]) func123 (by kernel_rfl) (by kernel_rfl) h
def iO(a:OA)(b c:Nat)(w:World)(K:KP):=∃ c:OA->Nat->Nat->Int->qN,(∃ d,c none 0 0 0 w d)/\∀ e d f g h i,c f g h i e d->∀ j:qv,cond (decide (i<(b:Int))) (∃ j:OA->Nat->Nat->qW,(∀ k l m n,j l m n k->∀ o:qv,∃ o,o<d/\c l m n (IntKind.i64.wrap (i+1)) k o)/\an a λ a=>0<=i/\i<(b:Int)/\∃ b,∃ c:I6,∃ d,af e (Addr.add a ((i).toNat*8)) 0 (iv b :: c.on [iv d])/\aq e (.cells #[qz,qz,qz,qz,qz,qz,qz,qz] 68) λ a i=>aL (qd a 0) 0 (iv b :: c.on [iv d]) i λ b=>∃ c:Bool->qW,(∀ d i,c i d->∀ k:qv,cond i (∃ i,∃ k:I6,∃ l,af d (qd a 0) 0 (iv i :: k.on [iv l])/\aq d (.cells (iv i :: k.on [iv l]:List Value).toArray 68) λ i k=>aV prog (Builtin.append_ #[148,148] 148 #[.slice f g h,.slice (some (qd i 0)) 1 1]) k λ i k=>∃ l m n,i=(.slice l m n)/\j l m n k) (j f g h d))/\∃ d:I6,af b (qd a 1) 0 d.vs/\CC 65 #[.agg d.vs.toArray] b λ b d=>∃ i,b=.returned (iv i)/\cond (i==0) (∃ b,d.cell? (qd a 7)=some (iv b)/\cond (decide (b>=1)) (∃ b,d.cell? (qd a 7)=some (iv b)/\c (decide (b<=1000000)) d) (c false d)) (c false d)) (K (.slice f g h) e)
theorem nJ{a1 l1 c1 w K}(h:iO a1 l1 c1 w K):CP 89 #[.slice a1 l1 c1] w K:=ah (aA [(58,[(3,.s .slice),(8,.s (.int .i64))]),(467,[(3,.s .slice)]),(3737,[(25,.s .bool)])]) func89 (by kernel_rfl) (by kernel_rfl) h
def dL(a:OA)(b c:Nat)(d e:I6)(w:World)(K:KP):=aq w (.cells d.vs.toArray 53) λ d f=>aq f (.cells e.vs.toArray 44) λ e f=>∃ g:I6,af f.drew (qd e 0) 0 g.vs/\∃ h:I6,af f.drew (qd d 0) 0 h.vs/\∃ i:I6,af f.drew (qd e 0) 0 i.vs/\CC 123 #[.slice a b c,.agg g.vs.toArray] f.drew λ a b=>∃ c,a=.returned (iv c)/\af b (qd e 0) 0 i.vs/\af b (qd d 0) 0 h.vs/\CC 86 #[.agg h.vs.toArray,.agg i.vs.toArray] b λ a b=>∃ d,a=.returned (iv d)/\K (iv (IntKind.i64.wrap (c-d))) b
theorem iw{a1 l1 c1 u1 u2 w K}(h:dL a1 l1 c1 u1 u2 w K):CP 88 #[.slice a1 l1 c1,.agg u1.vs.toArray,.agg u2.vs.toArray] w K:=ah (aA []) func88 (by kernel_rfl) (by kernel_rfl) h
def jJ(a:OA)(b c:Nat)(d e:I6)(w:World)(K:KP):=aq w (.cells d.vs.toArray 53) λ d f=>aq f (.cells e.vs.toArray 44) λ e f=>∃ g:Bool->qW,(∀ h i,g i h->∀ j:qv,cond i (K qz h) (∃ i:I6,af h.drew (qd d 0) 0 i.vs/\∃ j:I6,af h.drew (qd e 0) 0 j.vs/\CC 89 #[.slice a b c] h.drew λ a b=>∃ c h k,a=.returned (.slice c h k)/\af b (qd e 0) 0 j.vs/\af b (qd d 0) 0 i.vs/\CC 88 #[.slice c h k,.agg i.vs.toArray,.agg j.vs.toArray] b λ a b=>∃ c,a=.returned (iv c)/\K (iv c) b))/\∃ a:I6,af f (qd d 0) 0 a.vs/\CC 87 #[.agg a.vs.toArray] f λ a b=>∃ c,a=.returned (.bool c)/\cond (!c) (g true b) (∃ a:I6,af b (qd e 0) 0 a.vs/\CC 65 #[.agg a.vs.toArray] b λ a b=>∃ c,a=.returned (iv c)/\g (c !=0) b)
theorem oA{a1 l1 c1 u1 u2 w K}(h:jJ a1 l1 c1 u1 u2 w K):CP 47 #[.slice a1 l1 c1,.agg u1.vs.toArray,.agg u2.vs.toArray] w K:=ah (aA [(6,[(14,.s .bool)])]) func47 (by kernel_rfl) (by kernel_rfl) h
def tK(a:I6)(b c d:Nat)(w:World)(K:KP):=aq w (.cells a.vs.toArray 44) λ a e=>∃ f g h i j k l m n o p q,af e (qd b 0) 0 [.slice f g h,.slice i j k,.slice l m n,.slice o p q]/\∃ r,e.cell? (qd c 0)=some (iv r)/\∃ s:I6,af e (qd a 0) 0 s.vs/\CC 45 #[.agg #[.slice f g h,.slice i j k,.slice l m n,.slice o p q],iv r,.agg s.vs.toArray] e λ e f=>∃ g,e=.returned (iv g)/\cond (g==0) (∃ e g h i j k l m n o p q,af f (qd b 0) 0 [.slice e g h,.slice i j k,.slice l m n,.slice o p q]/\∃ b,f.cell? (qd c 0)=some (iv b)/\∃ c:I6,af f (qd d 0) 0 c.vs/\∃ d:I6,af f (qd a 0) 0 d.vs/\CC 46 #[.agg #[.slice e g h,.slice i j k,.slice l m n,.slice o p q],iv b,.agg (c.on (d.vs):List Value).toArray] f λ a b=>∃ c,a=.returned (iv c)/\K (.bool (c==0)) b) (K (.bool false) f)
theorem wV{u1 b1 b2 b3 w K}(h:tK u1 b1 b2 b3 w K):CP 44 #[.agg u1.vs.toArray,.pointer (some ⟨b1,0,none⟩),.pointer (some ⟨b2,0,none⟩),.pointer (some ⟨b3,0,none⟩)] w K:=ah (aA []) func44 (by kernel_rfl) (by kernel_rfl) h
noncomputable def di(a1:OA)(l1:Nat)(c1:Nat)(a2:OA)(l2:Nat)(c2:Nat)(a3:OA)(l3:Nat)(c3:Nat)(a4:OA)(l4:Nat)(c4:Nat)(n1:Int)(a5:OA)(l5:Nat)(c5:Nat)(u1:I6)(r1:Nat)(r2:Nat)(r3:Nat)(r4:Nat)(r5:Nat)(a6:OA)(l6:Nat)(c6:Nat)(a7:OA)(l7:Nat)(c7:Nat)(a8:OA)(l8:Nat)(c8:Nat)(a9:OA)(l9:Nat)(c9:Nat)(n2:Int)(b1:Bool)(x1:Nat->Value)(u4:I6)(n3:Int)(r6:Nat)(r7:Nat)(a10:OA)(l10:Nat)(c10:Nat)(u6:I6)(u7:I6)(n4:Int)(r8:Nat)(a11:OA)(l11:Nat)(c11:Nat)(u8:I6)(v1:Value):Tm:=[.agg #[.slice a1 l1 c1,.slice a2 l2 c2,.slice a3 l3 c3,.slice a4 l4 c4],iv n1,.slice a5 l5 c5,.agg u1.vs.toArray,qp r1,qp r2,qp r3,qp r4,qp r5,qz,iv n2,iv n3,qp r6,qp r7,qp r8,undef,undef,.agg #[.slice a6 l6 c6,.slice a7 l7 c7,.slice a8 l8 c8,.slice a9 l9 c9],iv n2,iv n2,.bool (n2 !=0),undef,undef,x1 23,x1 24,x1 25,x1 26,x1 27,x1 28,x1 29,x1 30,.bool b1,undef,.agg u4.vs.toArray,iv n3,iv n3,.bool (n3 !=0),undef,undef,.func (.func 44) #[] #[qp r1,qp r2,qp r4],.slice a10 l10 c10,.agg u6.vs.toArray,.agg u7.vs.toArray,iv n4,qp r1,.slice a11 l11 c11,.agg u8.vs.toArray,v1,undef,undef,undef,undef,undef,undef,undef,undef,undef,undef,undef,undef,undef,undef,undef,undef]
noncomputable def nS(a1:OA)(l1:Nat)(c1:Nat)(a2:OA)(l2:Nat)(c2:Nat)(a3:OA)(l3:Nat)(c3:Nat)(a4:OA)(l4:Nat)(c4:Nat)(n1:Int)(a5:OA)(l5:Nat)(c5:Nat)(u1:I6)(r1:Nat)(r2:Nat)(r3:Nat)(r4:Nat)(r5:Nat)(a6:OA)(l6:Nat)(c6:Nat)(a7:OA)(l7:Nat)(c7:Nat)(a8:OA)(l8:Nat)(c8:Nat)(a9:OA)(l9:Nat)(c9:Nat)(n2:Int)(b1:Bool)(x1:Nat->Value)(u4:I6)(n3:Int)(r6:Nat)(r7:Nat)(a10:OA)(l10:Nat)(c10:Nat)(u6:I6)(u7:I6)(n4:Int)(r8:Nat)(a11:OA)(l11:Nat)(c11:Nat)(u8:I6)(v1:Value)(fn:FuncId)(D:Nat):Loop:={ state:=.ready,pending:=none,fn:=fn,tmps:=(di a1 l1 c1 a2 l2 c2 a3 l3 c3 a4 l4 c4 n1 a5 l5 c5 u1 r1 r2 r3 r4 r5 a6 l6 c6 a7 l7 c7 a8 l8 c8 a9 l9 c9 n2 b1 x1 u4 n3 r6 r7 a10 l10 c10 u6 u7 n4 r8 a11 l11 c11 u8 v1).toArray,params:=Gp (bD Tryz.f19) 2042,assign:=Gm (bD Tryz.f19) 2042,body:=Gn (bD Tryz.f19) 2042,defers:=D }
def jS(a:OA)(b:Nat)(c:Nat)(d:OA)(e:Nat)(f:Nat)(g:OA)(h:Nat)(i:Nat)(j:OA)(k:Nat)(l:Nat)(m:Int)(n:OA)(o:Nat)(p:Nat)(q:I6)(r:Nat)(s:Nat)(t:Nat)(u:Nat)(v:Nat)(x:OA)(y:Nat)(z:Nat)(A:OA)(B:Nat)(C:Nat)(D:OA)(E:Nat)(F:Nat)(G:OA)(H:Nat)(I:Nat)(J:Int)(L:Bool)(M:Nat->Value)(N:I6)(O:Int)(P:Nat)(Q:Nat)(R:OA)(S:Nat)(T:Nat)(U:I6)(V:I6)(W:Int)(X:Nat)(Y:OA)(Z:Nat)(a1:Nat)(a2:I6)(a3:Value)(a4:Nat)(a5:I6)(w:World)(K:Bool->qW):Prop:=aq w (.cells z6.vs.toArray 44) λ a b=>aL (qd a 0) 0 a5.vs b λ b=>∃ c,b.heap[a4]?=some (.loop c)/\c.state=.ready/\∃ d e f,(World.putObj b a4 (.loop { c with state:=.busy })).cell? (qd t 0)=some (.slice d e f)/\∃ g:I6,af (World.putObj b a4 (.loop { c with state:=.busy })) (qd u 0) 0 g.vs/\∃ h:I6,af (World.putObj b a4 (.loop { c with state:=.busy })) (qd a 0) 0 h.vs/\CC 47 #[.slice d e f,.agg g.vs.toArray,.agg h.vs.toArray] (World.putObj b a4 (.loop { c with state:=.busy })) λ b c=>∃ d,b=.returned (iv d)/\∃ b:Bool->qW,(∀ e f,b f e->∀ g:qv,cond f (∃ f:I6,af e (qd a 0) 0 f.vs/\aL (qd Q 0) 0 f.vs e λ f=>aP f (qd X 0) (iv d) λ f=>∃ g,f.heap[a4]?=some (.loop g)/\K true (World.putObj f a4 (.loop { g with state:=.ready,pending:=none }))) (∃ f,e.heap[a4]?=some (.loop f)/\K true (World.putObj e a4 (.loop { f with state:=.ready,pending:=none }))))/\∃ e,c.cell? (qd X 0)=some (iv e)/\cond (decide (d>e)) (∃ d:Value,c.cell? (qd P 0)=some d/\∃ e:I6,af c (qd a 0) 0 e.vs/\cU prog d #[.agg e.vs.toArray] c λ a d=>∃ e,a=.returned (.bool e)/\b e d) (b false c)
theorem oW{a1:OA}{l1:Nat}{c1:Nat}{a2:OA}{l2:Nat}{c2:Nat}{a3:OA}{l3:Nat}{c3:Nat}{a4:OA}{l4:Nat}{c4:Nat}{n1:Int}{a5:OA}{l5:Nat}{c5:Nat}{u1:I6}{r1:Nat}{r2:Nat}{r3:Nat}{r4:Nat}{r5:Nat}{a6:OA}{l6:Nat}{c6:Nat}{a7:OA}{l7:Nat}{c7:Nat}{a8:OA}{l8:Nat}{c8:Nat}{a9:OA}{l9:Nat}{c9:Nat}{n2:Int}{b1:Bool}{x1:Nat->Value}{u4:I6}{n3:Int}{r6:Nat}{r7:Nat}{a10:OA}{l10:Nat}{c10:Nat}{u6:I6}{u7:I6}{n4:Int}{r8:Nat}{a11:OA}{l11:Nat}{c11:Nat}{u8:I6}{v1:Value}{l13:Nat}{u11:I6}{w:World}{K:Bool->World->Prop}{r:Loop}(hl:w.heap[l13]?=some (.loop r))(ht:r.tmps=(di a1 l1 c1 a2 l2 c2 a3 l3 c3 a4 l4 c4 n1 a5 l5 c5 u1 r1 r2 r3 r4 r5 a6 l6 c6 a7 l7 c7 a8 l8 c8 a9 l9 c9 n2 b1 x1 u4 n3 r6 r7 a10 l10 c10 u6 u7 n4 r8 a11 l11 c11 u8 v1).toArray)(hp:r.params=Gp (bD Tryz.f19) 2042)(ha:r.assign=Gm (bD Tryz.f19) 2042)(hb:r.body=Gn (bD Tryz.f19) 2042)(h:jS a1 l1 c1 a2 l2 c2 a3 l3 c3 a4 l4 c4 n1 a5 l5 c5 u1 r1 r2 r3 r4 r5 a6 l6 c6 a7 l7 c7 a8 l8 c8 a9 l9 c9 n2 b1 x1 u4 n3 r6 r7 a10 l10 c10 u6 u7 n4 r8 a11 l11 c11 u8 v1 l13 u11 w K):iC prog l13 #[.agg u11.vs.toArray] w K:=Ac (aA [(13,[(60,.s .bool)])]) (args:=[.agg u11.vs.toArray]) hl ht hp ha hb (by kernel_rfl) (by kernel_rfl) (by kernel_rfl) h
def zj(a:OA)(b c:Nat)(d:OA)(e f:Nat)(g:OA)(h i:Nat)(j:OA)(k l:Nat)(m:Int)(n:OA)(o p:Nat)(q:I6)(w:World)(K:KP):=aq w (.cells #[.slice a b c,.slice d e f,.slice g h i,.slice j k l] 27) λ r s=>aq s (.cells #[iv m] 3) λ s t=>aq t (.cells #[.slice n o p] 62) λ t u=>aq u (.cells q.vs.toArray 53) λ u v=>aq v (.cells z6.vs.toArray 44) λ v x=>∃ y z A B C D E F G H I J,af x (qd r 0) 0 [.slice y z A,.slice B C D,.slice E F G,.slice H I J]/\CC 42 #[.agg #[.slice y z A,.slice B C D,.slice E F G,.slice H I J]] x λ x L=>∃ M,x=.returned (iv M)/\cond (M !=0) (aL (qd v 0) 0 z6.vs L λ x=>∃ N:I6,af x (qd v 0) 0 N.vs/\K (.tuple #[.agg N.vs.toArray,iv M]) x) (∃ x:Bool->qW,(∀ N O,x O N->∀ P:qv,cond O (aL (qd v 0) 0 z6.vs N λ Q=>∃ R:I6,af Q (qd v 0) 0 R.vs/\K (.tuple #[.agg R.vs.toArray,iv 6]) Q) (∃ Q:I6,af N (qd u 0) 0 Q.vs/\CC 43 #[.agg Q.vs.toArray] N λ N R=>∃ S,N=.returned (iv S)/\cond (S !=0) (aL (qd v 0) 0 z6.vs R λ N=>∃ T:I6,af N (qd v 0) 0 T.vs/\K (.tuple #[.agg T.vs.toArray,iv S]) N) (aq R (.cells #[.nilFunc] 115) λ N R=>aP R (qd N 0) (.func (.func 44) #[] #[qp r,qp s,qp u]) λ R=>aq R (.cells z6.vs.toArray 44) λ R T=>∃ U V W,T.cell? (qd t 0)=some (.slice U V W)/\∃ X:I6,af T (qd u 0) 0 X.vs/\∃ Y:I6,af T (qd R 0) 0 Y.vs/\CC 47 #[.slice U V W,.agg X.vs.toArray,.agg Y.vs.toArray] T λ T Z=>∃ a1,T=.returned (iv a1)/\aq Z (.cells #[qz] 2) λ T Z=>aP Z (qd T 0) (iv a1) λ Z=>∃ a2 a3 a4,Z.cell? (qd r 0)=some (.slice a2 a3 a4)/\CC 49 #[.slice a2 a3 a4] Z λ Z a5=>∃ a6:I6,Z=.returned (.agg a6.vs.toArray)/\CC 48 #[.agg a6.vs.toArray] a5 λ Z a5=>∃ a7:Value,Z=.returned a7/\vf prog a7 λ Z a8=>zn prog Z a8 (nS a b c d e f g h i j k l m n o p q r s t u v y z A B C D E F G H I J M O P Q S N R U V W X Y a1 T a2 a3 a4 a6 a7) a5 (λ a=>∃ b:I6,af a (qd R 0) 0 b.vs/\aL (qd v 0) 0 b.vs a λ a=>a.heap[a5.heap.size]?=some (.deferred (some []))/\∃ b:I6,af (World.putObj a a5.heap.size (.deferred none)) (qd v 0) 0 b.vs/\K (.tuple #[.agg b.vs.toArray,qz]) (World.putObj a a5.heap.size (.deferred none))) (λ _=>False) [])))/\∃ a,L.cell? (qd s 0)=some (iv a)/\cond (decide (a<0)) (x true L) (∃ a,L.cell? (qd s 0)=some (iv a)/\∃ b c d,L.cell? (qd r 1)=some (.slice b c d)/\x (decide (a>=(c:Int))) L))
theorem Ax{a1 l1 c1 a2 l2 c2 a3 l3 c3 a4 l4 c4 n1 a5 l5 c5 u1 w K}(h:zj a1 l1 c1 a2 l2 c2 a3 l3 c3 a4 l4 c4 n1 a5 l5 c5 u1 w K):CP 19 #[.agg #[.slice a1 l1 c1,.slice a2 l2 c2,.slice a3 l3 c3,.slice a4 l4 c4],iv n1,.slice a5 l5 c5,.agg u1.vs.toArray] w K:=ah (aA [(14,[(31,.s .bool)])]) func19 (by kernel_rfl) (by kernel_rfl) h
theorem ID(w:World)(p:I6):CP 43 #[.agg p.vs.toArray] w (λ r w'=>r=iv (if dJ p then 0 else 4)/\ay w w' []):=by
 refine o4 ?_;unfold jU;refine(St.start w).one.ax p.vs.toArray λ r1 w1 s1=>⟨p,s1.cellsIn 0 rfl,λ n w2 m=>∃ k:Nat,n=k/\k<=6/\m=6-k/\(p.l.take k).all jq=true/\w2=w1,⟨6,0,rfl,by omega,by omega,rfl,rfl⟩,?_⟩;rintro w2 m n ⟨k,rfl,hk,hm,ha,rfl⟩ -
 by_cases hlt:(k:Int)<6
 ·have hk' : k<6:=by omega
  refine cT (dT hlt) ⟨by omega,by omega,_,p.get k hk',λ b w3=>b = !(jq (p.at' k))/\w3=w2,?_,?_⟩
  ·rintro w3 b ⟨rfl,rfl⟩ -
   cases hx:jq (p.at' k) with
   | true=>exact cF rfl ⟨6-(k+1),by omega,k+1,inc (by decide) hk',by omega,rfl,iB ha (p.oP k hk') hx,rfl⟩
   | false=>exact cT rfl ⟨by rw[dJ,kA (p.oP k hk') hx]; rfl,s1.au⟩
  ·by_cases g:p.at' k<0
   ·exact cT (dT g) ⟨by simp[jq]; omega,rfl⟩
   ·refine cF (dF g) ⟨?_,rfl⟩
    by_cases g2:p.at' k>1000000
    ·rw[dT g2]; simp[jq]; omega
    ·rw[dF g2]; simp[jq]; omega
 ·obtain rfl:k=6:=by omega
  refine cF (by simp) ⟨?_,s1.au⟩;rw[dJ,show p.l.all jq=true from ha]; rfl
theorem Kv(w:World)(p:I6):CP 87 #[.agg p.vs.toArray] w (λ r w'=>r=.bool (dJ p)/\ay w w' []):=by
 refine rG ?_;unfold mZ;refine(St.start w).one.ax p.vs.toArray λ r1 w1 s1=>⟨p,s1.cellsIn 0 rfl,λ n w2 m=>∃ k:Nat,n=k/\k<=6/\m=6-k/\(p.l.take k).all jq=true/\w2=w1,⟨6,0,rfl,by omega,by omega,rfl,rfl⟩,?_⟩;rintro w2 m n ⟨k,rfl,hk,hm,ha,rfl⟩ -
 by_cases hlt:(k:Int)<6
 ·have hk' : k<6:=by omega
  refine cT (dT hlt) ⟨by omega,by omega,_,p.get k hk',λ b w3=>b = !(jq (p.at' k))/\w3=w2,?_,?_⟩
  ·rintro w3 b ⟨rfl,rfl⟩ -
   cases hx:jq (p.at' k) with
   | true=>exact cF rfl ⟨6-(k+1),by omega,k+1,inc (by decide) hk',by omega,rfl,iB ha (p.oP k hk') hx,rfl⟩
   | false=>exact cT rfl ⟨by rw[dJ,kA (p.oP k hk') hx],s1.au⟩
  ·by_cases g:p.at' k<0
   ·exact cT (dT g) ⟨by simp[jq]; omega,rfl⟩
   ·refine cF (dF g) ⟨?_,rfl⟩
    by_cases g2:p.at' k>1000000
    ·rw[dT g2]; simp[jq]; omega
    ·rw[dF g2]; simp[jq]; omega
 ·obtain rfl:k=6:=by omega
  refine cF (by simp) ⟨?_,s1.au⟩;rw[dJ,show p.l.all jq=true from ha]
def AG(b:I6)(v:Int)(x:Of):Int:=if x.v>v/\within x.want b=true then x.v else v
def JK(l:List Of)(b:I6):Int:=l.foldl (AG b) 0
theorem PC{w:World}{a:OA}{c:Nat}{l:List Of}(hr:Fa w a l)(hl:l.length<=1000000)(b:I6) :
  CP 123 #[.slice a l.length c,.agg b.vs.toArray] w (λ r w'=>r=iv (JK l b)/\ay w w' []):=by
 refine uO ?_;unfold qO;refine(St.start w).one.ax b.vs.toArray λ r1 w1 s1=>?_;let M:List aC:=[ai r1 b.vs.toArray 44,emp];refine⟨λ n i w2 m=>∃ k:Nat,i=k/\k<=l.length/\m=l.length-k/\n=(l.take k).foldl (AG b) 0/\St w w2 (Sep M),⟨l.length,0,rfl,by omega,by omega,rfl,s1⟩,?_⟩;rintro w2 m n i ⟨k,rfl,hk,hm,rfl,s2⟩ -
 by_cases hlt:(k:Int)<(l.length:Int)
 ·have hx:l[k]?=some (l[k]'(by omega)):=gE (by omega);generalize l[k]'(by omega)=y at hx;obtain⟨p,hp,hcl⟩:=(hr.au s2.au).at hx;have ef:=pY (f:=AG b) (a:=0) hx;generalize(l.take k).foldl (AG b) 0=v0 at ef;refine cT (dT hlt) ⟨λ n w3=>n=(l.take (k+1)).foldl (AG b) 0/\St w w3 (Sep M),?_,aj hp ⟨by omega,by omega,_,y.want,_,hcl,s2.ax PG.cells.toArray λ r2 w4 s4=>s4.az 0 rfl y.cells rfl y.one λ w5 s5=>?_⟩⟩
  ·rintro w3 n ⟨rfl,s3⟩ -;exact⟨l.length-(k+1),by omega,k+1,aB ⟨by omega,by omega⟩,by omega,rfl,rfl,s3⟩
  have s5:St w w5 (Sep (ai r2 y.cells.toArray 68 :: M)):=s5;refine⟨λ t w6=>t=decide (y.v>v0/\within y.want b=true)/\St w w6 (Sep (ai r2 y.cells.toArray 68 :: M)),?_,_,s5.ag 0 rfl 7,?_⟩
  ·rintro w6 t ⟨rfl,s6⟩ -
   by_cases hb:y.v>v0/\within y.want b=true
   ·exact cT (dT hb) ⟨_,s6.ag 0 rfl 7,by rw[ef,AG,if_pos hb],s6.av [1,2]⟩
   ·exact cF (dF hb) ⟨by rw[ef,AG,if_neg hb],s6.av [1,2]⟩
  by_cases g:y.v>v0
  ·refine cT (dT g) ⟨y.want,s5.aF 0 1 rfl rfl,b,s5.cellsIn 1 rfl,ak (pS w5 y.want b) ?_⟩;rintro v w6 ⟨rfl,c6⟩;refine⟨_,rfl,?_,s5.quiet c6⟩
   cases hw:within y.want b with
   | true=>exact(dT (p:=y.v>v0/\true=true) ⟨g,rfl⟩).symm
   | false=>exact(dF (p:=y.v>v0/\false=true) λ h=>by cases h.2).symm
  ·exact cF (dF g) ⟨(dF λ h=>g h.1).symm,s5⟩
 ·obtain rfl:l.length=k:=by omega
  rw[List.take_length];exact cF (dF hlt) ⟨rfl,s2.au⟩
def sS(x:Of):Bool:=x.want.l.all eY&&(decide (1<=x.v)&&decide (x.v<=1000000))
def IA(l:List Of):List Of:=l.filter sS
theorem Kl(l:List Of):(IA l).length<=l.length:=List.length_filter_le _ _
theorem IL{α:Type}{f:α->Bool}{l:List α}{k:Nat}{y:α}(hx:l[k]?=some y):(l.take (k+1)).filter f=if f y=true then (l.take k).filter f++[y] else (l.take k).filter f:=by
 rw[aG hx,List.filter_append]
 cases h:f y<;>simp[h]
theorem Tz:gV prog 148 68 (.agg PG.cells.toArray) 8 64:=gV.mk' underlying148 (by kernel_rfl) rfl (by decide)
theorem Fp{w:World}{a:OA}{c:Nat}{l:List Of}(hr:Fa w a l)(hl:l.length<=100000) :
  CP 89 #[.slice a l.length c] w (λ r w'=>∃ a' c',r=.slice a' (IA l).length c'/\St w w' (vm a' c' (IA l))):=by
 refine nJ ?_;unfold iO;refine⟨λ a' n c' i w2 m=>∃ k:Nat,i=k/\k<=l.length/\m=l.length-k/\n=((l.take k).filter sS).length/\St w w2 (Sep [vm a' c' ((l.take k).filter sS),emp]),⟨l.length,0,rfl,by omega,by omega,rfl,(St.start w).one.dP (e:=68) (sz:=8) (f:=Of.cells)⟩,?_⟩;rintro w2 m a2 l2 c2 i ⟨k,rfl,hk,hm,rfl,s2⟩ -
 by_cases hlt:(k:Int)<(l.length:Int)
 ·have hx:l[k]?=some (l[k]'(by omega)):=gE (by omega);generalize l[k]'(by omega)=y at hx;obtain⟨p,hp,hcl⟩:=(hr.au s2.au).at hx;have ef:=IL (f:=sS) hx;have hlen:((l.take k).filter sS).length<=100000:=Nat.le_trans (List.length_filter_le _ _) (by rw[List.length_take]; omega);generalize(l.take k).filter sS=o0 at ef s2 hlen;refine cT (dT hlt) ⟨λ a' n c' w3=>n=((l.take (k+1)).filter sS).length/\St w w3 (Sep [vm a' c' ((l.take (k+1)).filter sS),emp]),?_,aj hp ⟨by omega,by omega,_,y.want,_,hcl,s2.ax PG.cells.toArray λ r2 w4 s4=>s4.az 0 rfl y.cells rfl y.one λ w5 s5=>?_⟩⟩
  ·rintro w3 a3 n c3 ⟨rfl,s3⟩ -;exact⟨l.length-(k+1),by omega,k+1,aB ⟨by omega,by omega⟩,by omega,rfl,rfl,s3⟩
  have s5:St w w5 (Sep [ai r2 y.cells.toArray 68,vm a2 c2 o0,emp]):=s5;refine⟨λ t w6=>t=sS y/\St w w6 (Sep [ai r2 y.cells.toArray 68,vm a2 c2 o0,emp]),?_,y.want,s5.aF 0 1 rfl rfl,ak (bN w5 y.want) ?_⟩
  ·rintro w6 t ⟨rfl,s6⟩ -
   cases hb:sS y with
   | true =>
    rw[if_pos hb] at ef;refine cT rfl ⟨_,y.want,_,s6.cellsIn 0 rfl,s6.ax y.cells.toArray λ r9 w8 s8=>?_⟩;refine cS (l2:=[y]) Tz Of.len Of.one (s8.out 2 rfl) (gR (s8.cellsIn 0 rfl) rfl) (by simp; omega) (by simp; omega) λ a' c' w9 s9=>?_;have s9:=s9.back (i:=2) (by show 2<4; decide);exact⟨by rw[ef],by rw[ef]; exact s9.av [2,3]⟩
   | false =>
    rw[if_neg (by rw[hb]; decide)] at ef;exact cF rfl ⟨by rw[ef],by rw[ef]; exact s6.av [1,2]⟩
  rintro v w6 ⟨rfl,c6⟩;have s6:=s5.quiet c6;refine⟨_,rfl,?_⟩
  cases hq:y.want.l.all eY with
  | false=>exact cF rfl ⟨by rw[sS,hq]; rfl,s6⟩
  | true =>
   have e1:sS y=(decide (1<=y.v)&&decide (y.v<=1000000)):=by rw[sS,hq]; rfl
   refine cT rfl ⟨_,s6.ag 0 rfl 7,?_⟩
   by_cases g1:1<=y.v
   ·rw[dT g1,Bool.true_and] at e1;exact cT (dT g1) ⟨_,s6.ag 0 rfl 7,e1.symm,s6⟩
   ·exact cF (dF g1) ⟨by rw[e1,dF g1]; rfl,s6⟩
 ·obtain rfl:l.length=k:=by omega
  rw[List.take_length] at s2 ⊢;exact cF (dF hlt) ⟨_,_,rfl,s2.first⟩
theorem MN{l:List Of}{b:I6}(h:∀ x∈l,x.v<=1000000):0<=JK l b/\JK l b<=1000000:=by
 unfold JK
 suffices H:∀ (l:List Of) (v:Int),(∀ x∈l,x.v<=1000000)->0<=v->v<=1000000->0<=l.foldl (AG b) v/\l.foldl (AG b) v<=1000000 from H l 0 h (by omega) (by omega)
 intro l
 induction l with
 | nil=>intro v _ h1 h2; exact⟨h1,h2⟩
 | cons x l ih =>
  intro v hx h1 h2;refine ih _ (λ y hy=>hx y (List.mem_cons_of_mem _ hy)) ?_ ?_<;>unfold AG<;>split<;>first|omega|(have:=hx x (List.mem_cons_self ..); omega)
theorem QH{l:List Of}:∀ x∈IA l,x.v<=1000000:=λ x hx=>by
 have:=(List.mem_filter.1 hx).2;simp only[sS,Bool.and_eq_true,decide_eq_true_eq] at this;exact this.2.2
theorem Kn{p u:I6}(hp:I6.Le p 1000000)(hu:I6.Le u 4):0<=cost p u/\cost p u<=24000000:=by
 have key:∀ k,k<6->0<=p.at' k*u.at' k/\p.at' k*u.at' k<=4000000:=λ k hk=>by
  obtain⟨a1,a2⟩:=hp k hk; obtain⟨b1,b2⟩:=hu k hk;refine⟨Int.mul_nonneg a1 b1,?_⟩;have:=Int.mul_le_mul a2 b2 b1 (by omega);omega
 have h0:=key 0 (by decide); have h1:=key 1 (by decide); have h2:=key 2 (by decide); have h3:=key 3 (by decide); have h4:=key 4 (by decide); have h5:=key 5 (by decide);simp only[I6.at'] at h0 h1 h2 h3 h4 h5;unfold cost;omega
def xu(l:List Of)(p b:I6):Int:=if dJ p=true/\b.l.all eY=true then JK (IA l) b-cost p b else 0
theorem FU{w:World}{a:OA}{c:Nat}{l:List Of}(hr:Fa w a l)(hl:l.length<=1000000)(hv:∀ x∈l,x.v<=1000000){p b:I6}(hp:I6.Le p 1000000)(hb:I6.Le b 4) :
  CP 88 #[.slice a l.length c,.agg p.vs.toArray,.agg b.vs.toArray] w (λ r w'=>r=iv (JK l b-cost p b)/\ay w w' []):=by
 refine iw ?_;unfold dL;refine(St.start w).one.ax p.vs.toArray λ r1 w1 s1=>s1.ax b.vs.toArray λ r2 w2 s2=>?_;have s3:=s2.quiet (ay.drew w2 []);refine⟨b,s3.cellsIn 0 rfl,p,s3.cellsIn 1 rfl,b,s3.cellsIn 0 rfl,ak (PC (hr.au s3.au) hl b) ?_⟩;rintro v w4 ⟨rfl,c4⟩;have s4:=s3.quiet c4;refine⟨_,rfl,s4.cellsIn 0 rfl,s4.cellsIn 1 rfl,ak (gr w4 hp hb) ?_⟩;rintro v w5 ⟨rfl,c5⟩;have h1:=MN (b:=b) hv;have h2:=Kn hp hb;exact⟨_,rfl,by rw[aB ⟨by omega,by omega⟩],(s4.quiet c5).au⟩
theorem Gc{b:I6}(h:b.l.all eY=true):I6.Le b 4:=λ k hk=>by
 have:=List.all_eq_true.1 h _ (List.mem_of_getElem? (b.oP k hk));simpa[eY] using this
theorem BH{w:World}{a:OA}{c:Nat}{l:List Of}(hr:Fa w a l)(hl:l.length<=100000)(p b:I6) :
  CP 47 #[.slice a l.length c,.agg p.vs.toArray,.agg b.vs.toArray] w (λ r w'=>r=iv (xu l p b)/\ay w w' []):=by
 refine oA ?_;unfold jJ;refine(St.start w).one.ax p.vs.toArray λ r1 w1 s1=>s1.ax b.vs.toArray λ r2 w2 s2=>?_;have s2:St w w2 (Sep [ai r2 b.vs.toArray 44,ai r1 p.vs.toArray 53,emp]):=s2;refine⟨λ t w3=>t = !(dJ p&&b.l.all eY)/\St w w3 (Sep [ai r2 b.vs.toArray 44,ai r1 p.vs.toArray 53,emp]),?_,p,s2.cellsIn 1 rfl,ak (Kv w2 p) ?_⟩
 ·rintro w3 t ⟨rfl,s3⟩ -
  cases hg:(dJ p&&b.l.all eY) with
  | false =>
   refine cT rfl ⟨?_,s3.au⟩;rw[xu,if_neg];rintro⟨h1,h2⟩;rw[h1,h2] at hg; cases hg
  | true =>
   obtain⟨h1,h2⟩:=Bool.and_eq_true_iff.1 hg;have s4:=s3.quiet (ay.drew w3 []);refine cF rfl ⟨p,s4.cellsIn 1 rfl,b,s4.cellsIn 0 rfl,ak (Fp (hr.au s4.au) hl) ?_⟩;rintro v w5 ⟨a',c',rfl,s5⟩;have s6:=s4.and s5;have s6:St w w5 (Sep [_,_,_,_]):=s6;have hrd:Fa w5 a' (IA l):=St.rd Of.len (s6.out 0 rfl);refine⟨_,_,_,rfl,s6.cellsIn 1 rfl,s6.cellsIn 2 rfl,ak (FU (c:=c') hrd (Nat.le_trans (Kl l) (by omega)) QH (lu.1 h1) (Gc h2)) ?_⟩;rintro v w7 ⟨rfl,c7⟩;exact⟨_,rfl,by rw[xu,if_pos ⟨h1,h2⟩],(s6.quiet c7).au⟩
 rintro v w3 ⟨rfl,c3⟩;have s3:=s2.quiet c3;refine⟨_,rfl,?_⟩
 cases hp:dJ p with
 | false=>exact cT rfl ⟨rfl,s3⟩
 | true =>
  refine cF rfl ⟨b,s3.cellsIn 0 rfl,ak (bN w3 b) ?_⟩;rintro v w4 ⟨rfl,c4⟩;refine⟨_,rfl,?_,s3.quiet c4⟩
  cases hq:b.l.all eY<;>rfl
def v8(a:ByteArray)(w:World)(K:KP):=aq w (.cells #[qn,qn,qn,qn] 27) λ b c=>cond (decide (((a.size:Nat):Int)>(4000:Int))) (aL (qd b 0) 0 [qn,qn,qn,qn] c λ d=>∃ e f g h i j k l m n o p,af d (qd b 0) 0 [.slice e f g,.slice h i j,.slice k l m,.slice n o p]/\K (.tuple #[.agg #[.slice e f g,.slice h i j,.slice k l m,.slice n o p],qz,iv 3]) d) (aq c (.cells #[qn,qn,qn,qn] 27) λ c d=>CC 151 #[.string a,.string (bs [10])] d λ a d=>∃ e f g,a=.returned (.slice e f g)/\∃ a:Int->qN,(∃ g,a 0 d g)/\∀ d g h,a h d g->∀ i:qv,cond (decide (h<(f:Int))) (∃ i:qW,(∀ j,i j->∀ k:qv,∃ k,k<g/\a (IntKind.i64.wrap (h+1)) j k)/\an e λ a=>0<=h/\h<(f:Int)/\∃ e,d.cell? (Addr.add a ((h).toNat*1))=some (.string e)/\cond (e.toList==(bs []).toList) (i d) (CC 151 #[.string e,.string (bs [32])] d λ a e=>∃ f g j,a=.returned (.slice f g j)/\CC 152 #[qp c,.slice f g j] e λ a e=>∃ f,a=.returned (iv f)/\cond (f !=0) (aL (qd b 0) 0 [qn,qn,qn,qn] e λ a=>∃ g j k l m n o p q r s t,af a (qd b 0) 0 [.slice g j k,.slice l m n,.slice o p q,.slice r s t]/\K (.tuple #[.agg #[.slice g j k,.slice l m n,.slice o p q,.slice r s t],iv (IntKind.i64.wrap (h+1)),iv f]) a) (i e))) (∃ a e f g h i j k l m n o,af d (qd c 0) 0 [.slice a e f,.slice g h i,.slice j k l,.slice m n o]/\CC 42 #[.agg #[.slice a e f,.slice g h i,.slice j k l,.slice m n o]] d λ a d=>∃ e,a=.returned (iv e)/\cond (e !=0) (aL (qd b 0) 0 [qn,qn,qn,qn] d λ a=>∃ f g h i j k l m n o p q,af a (qd b 0) 0 [.slice f g h,.slice i j k,.slice l m n,.slice o p q]/\K (.tuple #[.agg #[.slice f g h,.slice i j k,.slice l m n,.slice o p q],qz,iv e]) a) (∃ a e f g h i j k l m n o,af d (qd c 0) 0 [.slice a e f,.slice g h i,.slice j k l,.slice m n o]/\aL (qd b 0) 0 [.slice a e f,.slice g h i,.slice j k l,.slice m n o] d λ a=>∃ c d e f g h i j k l m n,af a (qd b 0) 0 [.slice c d e,.slice f g h,.slice i j k,.slice l m n]/\K (.tuple #[.agg #[.slice c d e,.slice f g h,.slice i j k,.slice l m n],qz,qz]) a)))
theorem zG{s1 w K}(h:v8 s1 w K):CP 109 #[.string s1] w K:=ah (aA [(122,[(17,.s (.int .i64))]),(979,[])]) func109 (by kernel_rfl) (by kernel_rfl) h
def zJ(a:Nat)(b:OA)(c d:Nat)(w:World)(K:KP):=an b λ e=>0<=(0:Int)/\(0:Int)<(c:Int)/\∃ f,w.cell? (Addr.add e (((0:Int)).toNat*1))=some (.string f)/\CC 180 #[.string f] w λ e f=>∃ g,e=.returned (iv g)/\cond (g==0) (K (iv 22) f) (cond (g==(c:Int)) (∃ e g h i j k l m n o p q,af f.drew (qd a 0) 0 [.slice e g h,.slice i j k,.slice l m n,.slice o p q]/\an b λ r=>0<=(0:Int)/\(0:Int)<(c:Int)/\∃ s,f.drew.cell? (Addr.add r (((0:Int)).toNat*1))=some (.string s)/\an b λ r=>0<=(1:Int)/\(1:Int)<(c:Int)/\∃ t,f.drew.cell? (Addr.add r (((1:Int)).toNat*1))=some (.string t)/\CC 181 #[.agg #[.slice e g h,.slice i j k,.slice l m n,.slice o p q],.string s,.string t] f.drew λ e g=>∃ h i,e=.returned (.tuple #[iv h,iv i])/\cond (i !=0) (K (iv i) g) (0<=(2:Int)/\(2:Int)<=(c:Int)/\CC 182 #[.slice (if d=((2:Int)).toNat then b else Option.map (λ x=>Addr.add x (((2:Int)).toNat*1)) b) (c-((2:Int)).toNat) (d-((2:Int)).toNat)] g λ d e=>∃ g i j k,d=.returned (.tuple #[.slice g i j,iv k])/\cond (k !=0) (K (iv k) e) (∃ d:qW,(∀ j,d j->∀ l:qv,K (iv k) j)/\an b λ j=>0<=(0:Int)/\(0:Int)<(c:Int)/\∃ k,e.cell? (Addr.add j (((0:Int)).toNat*1))=some (.string k)/\cond (k.toList==(bs [112,114,111,100,117,99,116]).toList) (∃ j l m,e.drew.cell? (qd a 0)=some (.slice j l m)/\an b λ n=>0<=(1:Int)/\(1:Int)<(c:Int)/\∃ o,e.drew.cell? (Addr.add n (((1:Int)).toNat*1))=some (.string o)/\an g λ n=>0<=(0:Int)/\(0:Int)<(i:Int)/\∃ p,e.drew.cell? (Addr.add n (((0:Int)).toNat*1))=some (iv p)/\an g λ n=>0<=(1:Int)/\(1:Int)<(i:Int)/\∃ q,e.drew.cell? (Addr.add n (((1:Int)).toNat*1))=some (iv q)/\an g λ n=>0<=(2:Int)/\(2:Int)<(i:Int)/\∃ r,e.drew.cell? (Addr.add n (((2:Int)).toNat*1))=some (iv r)/\an g λ n=>0<=(3:Int)/\(3:Int)<(i:Int)/\∃ s,e.drew.cell? (Addr.add n (((3:Int)).toNat*1))=some (iv s)/\aq e.drew (.cells #[.string o,iv p,iv q,iv r,iv s] 94) λ n o=>o.cell? (qd a 0)=some (.slice j l m)/\aV prog (Builtin.append_ #[22,22] 22 #[.slice j l m,.slice (some (qd n 0)) 1 1]) o λ j l=>∃ m n o,j=(.slice m n o)/\aP l (qd a 0) (.slice m n o) λ j=>d j) (cond (k.toList==(bs [98,105,100,100,101,114]).toList) (∃ j l m,e.drew.cell? (qd a 1)=some (.slice j l m)/\an b λ b=>0<=(1:Int)/\(1:Int)<(c:Int)/\∃ c,e.drew.cell? (Addr.add b (((1:Int)).toNat*1))=some (.string c)/\an g λ b=>0<=(0:Int)/\(0:Int)<(i:Int)/\∃ n,e.drew.cell? (Addr.add b (((0:Int)).toNat*1))=some (iv n)/\an g λ b=>0<=(1:Int)/\(1:Int)<(i:Int)/\∃ o,e.drew.cell? (Addr.add b (((1:Int)).toNat*1))=some (iv o)/\an g λ b=>0<=(2:Int)/\(2:Int)<(i:Int)/\∃ p,e.drew.cell? (Addr.add b (((2:Int)).toNat*1))=some (iv p)/\aq e.drew (.cells #[.string c,iv n,iv o,iv p] 96) λ b c=>c.cell? (qd a 1)=some (.slice j l m)/\aV prog (Builtin.append_ #[23,23] 23 #[.slice j l m,.slice (some (qd b 0)) 1 1]) c λ b c=>∃ j l m,b=(.slice j l m)/\aP c (qd a 1) (.slice j l m) λ b=>d b) (cond (k.toList==(bs [99,97,112]).toList) (∃ b c j,e.drew.cell? (qd a 2)=some (.slice b c j)/\an g λ l=>0<=(0:Int)/\(0:Int)<(i:Int)/\∃ m,e.drew.cell? (Addr.add l (((0:Int)).toNat*1))=some (iv m)/\an g λ l=>0<=(1:Int)/\(1:Int)<(i:Int)/\∃ n,e.drew.cell? (Addr.add l (((1:Int)).toNat*1))=some (iv n)/\aq e.drew (.cells #[iv h,iv m,iv n] 98) λ l m=>m.cell? (qd a 2)=some (.slice b c j)/\aV prog (Builtin.append_ #[24,24] 24 #[.slice b c j,.slice (some (qd l 0)) 1 1]) m λ b c=>∃ j l m,b=(.slice j l m)/\aP c (qd a 2) (.slice j l m) λ b=>d b) (cond (k.toList==(bs [97,115,105,100,101]).toList) (∃ b c j,e.drew.cell? (qd a 3)=some (.slice b c j)/\an g λ k=>0<=(0:Int)/\(0:Int)<(i:Int)/\∃ l,e.drew.cell? (Addr.add k (((0:Int)).toNat*1))=some (iv l)/\an g λ g=>0<=(1:Int)/\(1:Int)<(i:Int)/\∃ i,e.drew.cell? (Addr.add g (((1:Int)).toNat*1))=some (iv i)/\aq e.drew (.cells #[iv h,iv l,iv i] 100) λ g h=>h.cell? (qd a 3)=some (.slice b c j)/\aV prog (Builtin.append_ #[25,25] 25 #[.slice b c j,.slice (some (qd g 0)) 1 1]) h λ b c=>∃ g h i,b=(.slice g h i)/\aP c (qd a 3) (.slice g h i) λ a=>d a) (d e))))))) (K (iv 2) f))
theorem AB{b1 a1 l1 c1 w K}(h:zJ b1 a1 l1 c1 w K):CP 152 #[.pointer (some ⟨b1,0,none⟩),.slice a1 l1 c1] w K:=ah (aA [(223,[])]) func152 (by kernel_rfl) (by kernel_rfl) h
def qX(a:OA)(b c:Nat)(d:OA)(e f:Nat)(g:OA)(h i:Nat)(j:OA)(k l:Nat)(m:Int)(n:I6)(w:World)(K:KP):=aq w (.cells #[.slice a b c,.slice d e f,.slice g h i,.slice j k l] 27) λ a b=>aq b (.cells n.vs.toArray 44) λ b c=>∃ d e f g h i j k l n o p,af c (qd a 0) 0 [.slice d e f,.slice g h i,.slice j k l,.slice n o p]/\CC 42 #[.agg #[.slice d e f,.slice g h i,.slice j k l,.slice n o p]] c λ c d=>∃ e,c=.returned (iv e)/\cond (e !=0) (K (iv e) d) (∃ c e f g h i j k l n o p,af d (qd a 0) 0 [.slice c e f,.slice g h i,.slice j k l,.slice n o p]/\∃ a:I6,af d (qd b 0) 0 a.vs/\CC 84 #[.agg #[.slice c e f,.slice g h i,.slice j k l,.slice n o p],iv m,.agg a.vs.toArray] d λ a b=>∃ c,a=.returned (iv c)/\K (iv c) b)
theorem vq{a1 l1 c1 a2 l2 c2 a3 l3 c3 a4 l4 c4 n1 u1 w K}(h:qX a1 l1 c1 a2 l2 c2 a3 l3 c3 a4 l4 c4 n1 u1 w K):CP 45 #[.agg #[.slice a1 l1 c1,.slice a2 l2 c2,.slice a3 l3 c3,.slice a4 l4 c4],iv n1,.agg u1.vs.toArray] w K:=ah (aA []) func45 (by kernel_rfl) (by kernel_rfl) h
def wg(a:ByteArray)(w:World)(K:KP):=cond (a.toList==(bs [112,114,111,100,117,99,116]).toList) (K (iv 6) w) (cond (a.toList==(bs [98,105,100,100,101,114]).toList) (K (iv 5) w) (∃ b:Bool->qW,(∀ c d,b d c->∀ e:qv,cond d (K (iv 4) c) (K qz c))/\cond (a.toList==(bs [99,97,112]).toList) (b (a.toList==(bs [99,97,112]).toList) w) (b (a.toList==(bs [97,115,105,100,101]).toList) w)))
theorem zK{s1 w K}(h:wg s1 w K):CP 180 #[.string s1] w K:=ah (aA [(431,[(8,.s .bool)])]) func180 (by kernel_rfl) (by kernel_rfl) h
def we(a:OA)(b c:Nat)(d:OA)(e f:Nat)(g:OA)(h i:Nat)(j:OA)(k l:Nat)(m n:ByteArray)(w:World)(K:KP):=aq w (.cells #[.slice a b c,.slice d e f,.slice g h i,.slice j k l] 27) λ a b=>∃ c:Int->Bool->qW,(∀ d e f,c e f d->∀ g:qv,cond (!f) (K (.tuple #[qz,iv 6]) d) (K (.tuple #[iv e,qz]) d))/\∃ d:Bool->qW,(∀ e f,d f e->∀ g:qv,cond f (CC 115 #[.string n] e λ f g=>∃ h,f=.returned (.bool h)/\cond (!h) (K (.tuple #[qz,iv 5]) g) (K (.tuple #[qz,qz]) g)) (cond (m.toList==(bs [99,97,112]).toList) (cond (!(n.toList==(bs [42]).toList)) (∃ f g h,e.cell? (qd a 1)=some (.slice f g h)/\CC 118 #[.slice f g h,.string n] e λ f g=>∃ h i,f=.returned (.tuple #[iv h,.bool i])/\c h i g) (c (-1:Int) true e)) (cond (m.toList==(bs [97,115,105,100,101]).toList) (∃ f g h,e.cell? (qd a 0)=some (.slice f g h)/\CC 116 #[.slice f g h,.string n] e λ a f=>∃ g h,a=.returned (.tuple #[iv g,.bool h])/\c g h f) (c (-1:Int) true e))))/\cond (m.toList==(bs [112,114,111,100,117,99,116]).toList) (d (m.toList==(bs [112,114,111,100,117,99,116]).toList) b) (d (m.toList==(bs [98,105,100,100,101,114]).toList) b)
theorem zI{a1 l1 c1 a2 l2 c2 a3 l3 c3 a4 l4 c4 s1 s2 w K}(h:we a1 l1 c1 a2 l2 c2 a3 l3 c3 a4 l4 c4 s1 s2 w K):CP 181 #[.agg #[.slice a1 l1 c1,.slice a2 l2 c2,.slice a3 l3 c3,.slice a4 l4 c4],.string s1,.string s2] w K:=ah (aA [(7,[(8,.s (.int .i64)),(9,.s .bool)]),(58,[(11,.s .bool)])]) func181 (by kernel_rfl) (by kernel_rfl) h
def qZ(a:OA)(b c:Nat)(w:World)(K:KP):=∃ c:OA->Nat->Nat->Int->qN,(∃ d,c none 0 0 0 w d)/\∀ e d f g h i,c f g h i e d->∀ j:qv,cond (decide (i<(b:Int))) (an a λ a=>0<=i/\i<(b:Int)/\∃ b,e.cell? (Addr.add a ((i).toNat*1))=some (.string b)/\CC 202 #[.string b] e λ a b=>∃ j k,a=.returned (.tuple #[iv j,iv k])/\cond (k !=0) (K (.tuple #[qn,iv k]) b) (aq b (.cells #[iv j] 3) λ a b=>aV prog (Builtin.append_ #[189,189] 189 #[.slice f g h,.slice (some (qd a 0)) 1 1]) b λ a b=>∃ j k l,a=(.slice j k l)/\∃ a,a<d/\c j k l (IntKind.i64.wrap (i+1)) b a)) (K (.tuple #[.slice f g h,qz]) e)
theorem vt{a1 l1 c1 w K}(h:qZ a1 l1 c1 w K):CP 182 #[.slice a1 l1 c1] w K:=ah (aA [(58,[(4,.s .slice),(11,.s (.int .i64))])]) func182 (by kernel_rfl) (by kernel_rfl) h
def qY(a:OA)(b c:Nat)(d:OA)(e f:Nat)(g:OA)(h i:Nat)(j:OA)(k l:Nat)(m:Int)(n:I6)(w:World)(K:KP):=aq w (.cells #[.slice a b c,.slice d e f,.slice g h i,.slice j k l] 27) λ a b=>aq b (.cells n.vs.toArray 44) λ b c=>∃ d:Bool->qW,(∀ e f,d f e->∀ g:qv,cond f (K (iv 6) e) (∃ f:I6,af e (qd b 0) 0 f.vs/\CC 65 #[.agg f.vs.toArray] e λ e f=>∃ g,e=.returned (iv g)/\cond (g !=0) (K (iv g) f) (∃ e g h i j k l n o p q r,af f (qd a 0) 0 [.slice e g h,.slice i j k,.slice l n o,.slice p q r]/\CC 119 #[.agg #[.slice e g h,.slice i j k,.slice l n o,.slice p q r]] f λ e f=>∃ g h:I6,e=.returned (.tuple #[.agg g.vs.toArray,.agg h.vs.toArray])/\aq f (.cells z6.vs.toArray 44) λ e f=>aq f (.cells z6.vs.toArray 44) λ f i=>aL (qd e 0) 0 g.vs i λ g=>aL (qd f 0) 0 h.vs g λ g=>∃ h:Bool->qW,(∀ i j,h j i->∀ k:qv,cond j (K (iv 14) i) (∃ j k l,i.cell? (qd a 2)=some (.slice j k l)/\∃ l:Int->qN,(∃ n,l 0 i n)/\∀ i n o,l o i n->∀ p:qv,cond (decide (o<(k:Int))) (an j λ j=>0<=o/\o<(k:Int)/\∃ k p q,af i (Addr.add j ((o).toNat*3)) 0 [iv k,iv p,iv q]/\aq i (.cells #[qz,qz,qz] 98) λ j r=>aL (qd j 0) 0 [iv k,iv p,iv q] r λ k=>∃ p:Bool->qW,(∀ q r,p r q->∀ s:qv,cond r (K (iv 14) q) (∃ r,r<n/\l (IntKind.i64.wrap (o+1)) q r))/\∃ l,k.drew.cell? (qd j 0)=some (iv l)/\cond (l==(-1:Int)) (∃ l n o,k.drew.cell? (qd a 0)=some (.slice l n o)/\∃ q,k.drew.cell? (qd j 1)=some (iv q)/\∃ r:I6,af k.drew (qd b 0) 0 r.vs/\∃ s,k.drew.cell? (qd j 2)=some (iv s)/\CC 122 #[.slice l n o,iv q,.agg r.vs.toArray] k.drew λ l n=>∃ o,l=.returned (iv o)/\n.cell? (qd j 2)=some (iv s)/\p (decide (o>s)) n) (∃ l,k.drew.cell? (qd j 0)=some (iv l)/\cond (l==m) (∃ l n o,k.drew.cell? (qd a 0)=some (.slice l n o)/\∃ q,k.drew.cell? (qd j 1)=some (iv q)/\∃ r:I6,af k.drew (qd b 0) 0 r.vs/\∃ s,k.drew.cell? (qd j 2)=some (iv s)/\CC 122 #[.slice l n o,iv q,.agg r.vs.toArray] k.drew λ l n=>∃ o,l=.returned (iv o)/\n.cell? (qd j 2)=some (iv s)/\p (decide (o>s)) n) (p false k.drew))) (K qz i)))/\∃ i:I6,af g.drew (qd b 0) 0 i.vs/\∃ j k l,g.drew.cell? (qd a 0)=some (.slice j k l)/\CC 49 #[.slice j k l] g.drew λ g j=>∃ k:I6,g=.returned (.agg k.vs.toArray)/\af j (qd b 0) 0 i.vs/\CC 120 #[.agg i.vs.toArray,.agg k.vs.toArray] j λ g i=>∃ j,g=.returned (.bool j)/\cond (!j) (h true i) (∃ g j k l n o p q r s t u,af i (qd a 0) 0 [.slice g j k,.slice l n o,.slice p q r,.slice s t u]/\∃ v:I6,af i (qd f 0) 0 v.vs/\∃ f:I6,af i (qd b 0) 0 f.vs/\∃ b:I6,af i (qd e 0) 0 b.vs/\CC 121 #[.agg #[.slice g j k,.slice l n o,.slice p q r,.slice s t u],.agg v.vs.toArray,iv m,.agg f.vs.toArray] i λ f g=>∃ i:I6,f=.returned (.agg i.vs.toArray)/\af g (qd e 0) 0 b.vs/\CC 120 #[.agg i.vs.toArray,.agg b.vs.toArray] g λ b e=>∃ f,b=.returned (.bool f)/\h (!f) e))))/\cond (decide (m<0)) (d true c) (∃ b e f,c.cell? (qd a 1)=some (.slice b e f)/\d (decide (m>=(e:Int))) c)
theorem vr{a1 l1 c1 a2 l2 c2 a3 l3 c3 a4 l4 c4 n1 u1 w K}(h:qY a1 l1 c1 a2 l2 c2 a3 l3 c3 a4 l4 c4 n1 u1 w K):CP 84 #[.agg #[.slice a1 l1 c1,.slice a2 l2 c2,.slice a3 l3 c3,.slice a4 l4 c4],iv n1,.agg u1.vs.toArray] w K:=ah (aA [(6,[(20,.s .bool)]),(62,[(46,.s .bool)]),(506,[(50,.s (.int .i64))]),(32409,[(73,.s .bool)])]) func84 (by kernel_rfl) (by kernel_rfl) h
def tY(a:ByteArray)(w:World)(K:KP):=∃ b:Int->qN,(∃ c,b 0 w c)/\∀ d c e,b e d c->∀ f:qv,cond (decide (e<((a.size:Nat):Int))) (∃ f:Bool->qW,(∀ g h,f h g->∀ i:qv,cond h (K (.tuple #[qz,iv 2]) g) (∃ h,h<c/\b (IntKind.i64.wrap (e+1)) g h))/\0<=e/\an a[(e).toNat]? λ b=>cond (decide ((b.toNat:Int)<(48:Int))) (f true d) (0<=e/\an a[(e).toNat]? λ b=>f (decide ((b.toNat:Int)>(57:Int))) d)) (∃ b:Bool->qW,(∀ c e,b e c->∀ f:qv,cond e (K (.tuple #[qz,iv 2]) c) (cond (decide (((a.size:Nat):Int)>(9:Int))) (K (.tuple #[qz,iv 4]) c) (CC 231 #[.string a] c λ c e=>∃ f,∃ g:Value,c=.returned (.tuple #[iv f,g])/\K (.tuple #[iv f,qz]) e)))/\cond (a.toList==(bs []).toList) (b true d) (0<=(0:Int)/\an a[((0:Int)).toNat]? λ c=>cond ((c.toNat:Int)==(48:Int)) (b (decide (((a.size:Nat):Int)>(1:Int))) d) (b false d)))
theorem xg{s1 w K}(h:tY s1 w K):CP 202 #[.string s1] w K:=ah (aA [(26,[(9,.s (.int .i64))]),(1689,[(21,.s .bool)]),(14,[(34,.s .bool)])]) func202 (by kernel_rfl) (by kernel_rfl) h
def tZ(a:OA)(b c:Nat)(d:OA)(e f:Nat)(g:OA)(h i:Nat)(j:OA)(k l:Nat)(w:World)(K:KP):=aq w (.cells #[.slice a b c,.slice d e f,.slice g h i,.slice j k l] 27) λ a b=>aq b (.cells z6.vs.toArray 44) λ b c=>aq c (.cells z6.vs.toArray 44) λ c d=>∃ e f g,d.cell? (qd a 0)=some (.slice e f g)/\CC 49 #[.slice e f g] d λ d e=>∃ f:I6,d=.returned (.agg f.vs.toArray)/\aL (qd b 0) 0 f.vs e λ d=>∃ e f g,d.cell? (qd a 3)=some (.slice e f g)/\∃ a:Int->qN,(∃ g,a 0 d g)/\∀ d g h,a h d g->∀ i:qv,cond (decide (h<(f:Int))) (an e λ e=>0<=h/\h<(f:Int)/\∃ f i j,af d (Addr.add e ((h).toNat*3)) 0 [iv f,iv i,iv j]/\aq d (.cells #[qz,qz,qz] 100) λ e k=>aL (qd e 0) 0 [iv f,iv i,iv j] k λ f=>∃ i,f.drew.cell? (qd e 0)=some (iv i)/\0<=i/\i<6/\∃ j,f.drew.cell? (Addr.add (qd b 0) ((i).toNat*1))=some (iv j)/\∃ k,f.drew.cell? (qd e 2)=some (iv k)/\0<=i/\i<6/\aP f.drew (Addr.add (qd b 0) ((i).toNat*1)) (iv (IntKind.i64.wrap (j-k))) λ f=>∃ i,f.cell? (qd e 0)=some (iv i)/\∃ j,f.cell? (qd e 1)=some (iv j)/\0<=i/\i<6/\aP f (Addr.add (qd c 0) ((i).toNat*1)) (iv j) λ e=>∃ f,f<g/\a (IntKind.i64.wrap (h+1)) e f) (∃ a:I6,af d.drew (qd b 0) 0 a.vs/\∃ e:I6,af d.drew (qd c 0) 0 e.vs/\aL (qd b 0) 0 a.vs d.drew λ a=>af a (qd c 0) 0 e.vs/\aL (qd c 0) 0 e.vs a λ a=>∃ d:I6,af a (qd b 0) 0 d.vs/\∃ b:I6,af a (qd c 0) 0 b.vs/\K (.tuple #[.agg d.vs.toArray,.agg b.vs.toArray]) a)
theorem xh{a1 l1 c1 a2 l2 c2 a3 l3 c3 a4 l4 c4 w K}(h:tZ a1 l1 c1 a2 l2 c2 a3 l3 c3 a4 l4 c4 w K):CP 119 #[.agg #[.slice a1 l1 c1,.slice a2 l2 c2,.slice a3 l3 c3,.slice a4 l4 c4]] w K:=ah (aA [(58,[(12,.s (.int .i64))])]) func119 (by kernel_rfl) (by kernel_rfl) h
def q7(a:OA)(b c:Nat)(d:OA)(e f:Nat)(g:OA)(h i:Nat)(j:OA)(k l:Nat)(m:I6)(n:Int)(o:I6)(w:World)(K:KP):=aq w (.cells #[.slice a b c,.slice d e f,.slice g h i,.slice j k l] 27) λ a b=>aq b (.cells m.vs.toArray 44) λ b c=>aq c (.cells o.vs.toArray 44) λ c d=>aq d (.cells z6.vs.toArray 44) λ d e=>∃ f:Int->qN,(∃ g,f 0 e g)/\∀ e g h,f h e g->∀ i:qv,cond (decide (h<6)) (∃ i:qW,(∀ j,i j->∀ k:qv,∃ k,k<g/\f (IntKind.i64.wrap (h+1)) j k)/\∃ f:Bool->qW,(∀ g j,f j g->∀ k:qv,cond j (0<=h/\h<6/\aP g (Addr.add (qd c 0) ((h).toNat*1)) qz λ j=>i j) (i g))/\0<=h/\h<6/\∃ g,e.drew.cell? (Addr.add (qd b 0) ((h).toNat*1))=some (iv g)/\cond (g==0) (f true e.drew) (0<=h/\h<6/\∃ g,e.drew.cell? (Addr.add (qd b 0) ((h).toNat*1))=some (iv g)/\∃ b h i,e.drew.cell? (qd a 1)=some (.slice b h i)/\an b λ a=>0<=n/\n<(h:Int)/\∃ b,e.drew.cell? (Addr.add (Addr.add a ((n).toNat*4)) 1)=some (iv b)/\f (g==b) e.drew)) (∃ a:I6,af e (qd c 0) 0 a.vs/\aL (qd d 0) 0 a.vs e λ a=>∃ b:I6,af a (qd d 0) 0 b.vs/\K (.agg b.vs.toArray) a)
theorem vu{a1 l1 c1 a2 l2 c2 a3 l3 c3 a4 l4 c4 u1 n1 u2 w K}(h:q7 a1 l1 c1 a2 l2 c2 a3 l3 c3 a4 l4 c4 u1 n1 u2 w K):CP 121 #[.agg #[.slice a1 l1 c1,.slice a2 l2 c2,.slice a3 l3 c3,.slice a4 l4 c4],.agg u1.vs.toArray,iv n1,.agg u2.vs.toArray] w K:=ah (aA [(26,[(10,.s (.int .i64))]),(211,[]),(1689,[(28,.s .bool)])]) func121 (by kernel_rfl) (by kernel_rfl) h
def si(ps:List Pr)(l:List T3):Nat->I6×I6
 | 0=>(aX ps,z6)
 | k+1=>match l[k]? with
  | none=>si ps l k
  | some x=>((si ps l k).1.put x.a.toNat ((si ps l k).1.at' x.a.toNat-x.c),(si ps l k).2.put x.a.toNat x.b)
def JU(ps:List Pr)(l:List T3):I6×I6:=si ps l l.length
theorem GR{ps:List Pr}{l:List T3}(h2:ps.length<=6)(hg:∀ p∈ps,p.sup<=4)(h:fN ps l){i:Nat}{x:T3}(hx:l[i]?=some x):0<=x.a/\x.a<6/\1<=x.c/\x.c<=4:=by
 have:=(h.good i x hx).1;simp only[Am,Bool.and_eq_true,decide_eq_true_eq] at this;have h3:(ps[x.a.toNat]?.map Pr.sup).getD 0<=4:=by
  cases hp:ps[x.a.toNat]? with
  | none=>show(0:Int)<=4; omega
  | some p=>exact hg p (List.mem_of_getElem? hp)
 omega
theorem Pt{ps:List Pr}(h:bZ ps):∀ p∈ps,p.sup<=4:=λ p hp=>by
 obtain⟨i,hi⟩:=List.getElem?_of_mem hp;have:=(h.good i p hi).1;simp only[tJ,Gq,Bool.and_eq_true,decide_eq_true_eq] at this;omega
theorem Me{ps:List Pr}{l:List T3}(hp:bZ ps)(h:fN ps l):∀ (k:Nat) (j:Nat),j<6->-(4*(k:Int))<=(si ps l k).1.at' j/\(si ps l k).1.at' j<=4
 | 0,j,hj=>by have:=sup_le hp j hj; show _<=(aX ps).at' j/\(aX ps).at' j<=4; omega
 | k+1,j,hj=>by
  have ih:=Me hp h k;rw[si]
  cases hx:l[k]? with
  | none=>have:=ih j hj; show _<=(si ps l k).1.at' j/\(si ps l k).1.at' j<=4; omega
  | some x =>
   have hi:=GR hp.l2 (Pt hp) h hx;show _<=((si ps l k).1.put x.a.toNat _).at' j/\((si ps l k).1.put x.a.toNat _).at' j<=4;rw[I6.rP _ _ _ _ (by omega) hj];have h1:=ih j hj;have h2:=ih x.a.toNat (by omega)
   split<;>omega
theorem Mg{w:World}{S:Se}(h:S.In w)(hs:S.Ok) :
  CP 119 #[.agg S.arr] w (λ r w'=>r=.tuple #[.agg (JU S.ps S.sa).1.vs.toArray,.agg (JU S.ps S.sa).2.vs.toArray]/\ay w w' []):=by
 refine xh ?_;unfold tZ;have hl:=hs.sa.l1; have hpl:=hs.ps.l2;refine(St.start w).one.ax S.arr λ r1 w1 s1=>s1.ax z6.vs.toArray λ r2 w2 s2=>s2.ax z6.vs.toArray λ r3 w3 s3=>?_;refine⟨_,_,_,s3.ag 2 rfl 0,ak (lN (h.au s3.au).ps (by omega)) ?_⟩;rintro v w4 ⟨rfl,c4⟩;refine⟨_,rfl,(s3.quiet c4).az 1 rfl (aX S.ps).vs rfl (I6.one _) λ w5 s5=>⟨_,_,_,s5.ag 2 rfl 3,?_⟩⟩;refine⟨λ n w6 m=>∃ k:Nat,n=k/\k<=S.sa.length/\m=S.sa.length-k/\St w w6 (Sep [ai r3 (si S.ps S.sa k).2.vs.toArray 44,ai r2 (si S.ps S.sa k).1.vs.toArray 44,emp]),⟨S.sa.length,0,rfl,by omega,by omega,s5.av [0,1,3]⟩,?_⟩;rintro w6 m n ⟨k,rfl,hk,hm,s6⟩ -
 by_cases hlt:(k:Int)<(S.sa.length:Int)
 ·have hx:S.sa[k]?=some (S.sa[k]'(by omega)):=gE (by omega);generalize S.sa[k]'(by omega)=x at hx;obtain⟨q,hq,hcl⟩:=(h.au s6.au).sa k x hx;have hi:=GR hpl (Pt hs.ps) hs.sa hx;obtain⟨i,hai⟩:=Int.eq_ofNat_of_zero_le hi.1;have hi6:i<6:=by omega
  refine cT (dT hlt) (aj hq ⟨by omega,by omega,_,_,_,hcl,s6.ax #[iv 0,iv 0,iv 0] λ r4 w7 s7=>s7.az 0 rfl x.cells rfl x.one λ w8 s8=>?_⟩);have s9:=s8.quiet (ay.drew w8 []);have bd:=Me hs.ps hs.sa k i hi6;have eF:si S.ps S.sa (k+1)=((si S.ps S.sa k).1.put i ((si S.ps S.sa k).1.at' i-x.c),(si S.ps S.sa k).2.put i x.b):=by
   rw[si,hx]; show((si S.ps S.sa k).1.put x.a.toNat _,_)=_;rw[hai,Int.toNat_natCast]
  refine⟨i,by rw[s9.ag 0 rfl 0,<- hai]; rfl,by omega,by omega,(si S.ps S.sa k).1.at' i,by rw[fm]; exact aI s9 2 rfl hi6,x.c,s9.ag 0 rfl 2,by omega,by omega,?_⟩;rw[fm,aB ⟨by omega,by omega⟩];refine s9.aK 2 rfl hi6 rfl λ w9 s10=>⟨i,by rw[s10.ag 0 rfl 0,<- hai]; rfl,x.b,s10.ag 0 rfl 1,by omega,by omega,?_⟩;rw[fm];refine s10.aK 1 rfl hi6 rfl λ w10 s11=>⟨S.sa.length-(k+1),by omega,k+1,aB ⟨by omega,by omega⟩,by omega,rfl,?_⟩;rw[eF];have s12:=s11.av [1,2,3];have e1:=I6.mG (si S.ps S.sa k).1 i ((si S.ps S.sa k).1.at' i-x.c) hi6;have e2:=I6.mG (si S.ps S.sa k).2 i x.b hi6;show St w w10 (Sep [ai r3 (I6.put _ _ _).vs.toArray _,ai r2 (I6.put _ _ _).vs.toArray _,emp]);rw[<- e1,<- e2];exact s12
 ·obtain rfl:S.sa.length=k:=by omega
  have s7:=s6.quiet (ay.drew w6 []);exact cF (dF hlt) ⟨_,s7.cellsIn 1 rfl,_,s7.cellsIn 0 rfl,s7.az 1 rfl _ rfl (I6.one _) λ w8 s8=>⟨s8.cellsIn 0 rfl,s8.az 0 rfl _ rfl (I6.one _) λ w9 s9=>⟨_,s9.cellsIn 1 rfl,_,s9.cellsIn 0 rfl,rfl,s9.au⟩⟩⟩
def qC(b:Br)(cls u:I6):I6:=I6.zip (λ c x=>if c=0\/c=b.cls then 0 else x) cls u
theorem Ji{w:World}{S:Se}(h:S.In w){n:Nat}{b:Br}(hb:S.bd[n]?=some b)(cls u:I6) :
  CP 121 #[.agg S.arr,.agg cls.vs.toArray,iv n,.agg u.vs.toArray] w (λ r w'=>r=.agg (qC b cls u).vs.toArray/\ay w w' []):=by
 refine vu ?_;unfold q7;have hn:=(List.getElem?_eq_some_iff.1 hb).1;refine(St.start w).one.ax S.arr λ r1 w1 s1=>s1.ax cls.vs.toArray λ r2 w2 s2=>s2.ax u.vs.toArray λ r3 w3 s3=>s3.ax z6.vs.toArray λ r4 w4 s4=>?_;refine⟨λ n w6 m=>∃ k:Nat,n=k/\k<=6/\m=6-k/\St w w6 (Sep [ai r4 z6.vs.toArray 44,ai r3 (I6.mix k (qC b cls u) u).vs.toArray 44,ai r2 cls.vs.toArray 44,ai r1 S.arr 27,emp]),⟨6,0,rfl,by omega,by omega,s4⟩,?_⟩;rintro w5 m n2 ⟨k,rfl,hk,hm,s5⟩ -
 by_cases hlt:(k:Int)<6
 ·have hk' : k<6:=by omega
  have eo:(qC b cls u).at' k=if cls.at' k=0\/cls.at' k=b.cls then 0 else u.at' k:=by rw[qC,I6.fG _ _ _ _ hk']
  refine cT (dT hlt) ⟨λ w6=>St w w6 (Sep [ai r4 z6.vs.toArray 44,ai r3 (I6.mix (k+1) (qC b cls u) u).vs.toArray 44,ai r2 cls.vs.toArray 44,ai r1 S.arr 27,emp]),λ w6 s6 _=>⟨6-(k+1),by omega,k+1,inc (by decide) hk',by omega,rfl,s6⟩,?_⟩;have s6:=s5.quiet (ay.drew w5 []);have cl2:=aI s6 2 rfl hk';refine⟨λ x w7=>x=decide (cls.at' k=0\/cls.at' k=b.cls)/\St w w7 (Sep [ai r4 z6.vs.toArray 44,ai r3 (I6.mix k (qC b cls u) u).vs.toArray 44,ai r2 cls.vs.toArray 44,ai r1 S.arr 27,emp]),?_,by omega,by omega,_,by rw[fm]; exact cl2,?_⟩
  ·rintro w7 x ⟨rfl,s7⟩ -
   by_cases g:cls.at' k=0\/cls.at' k=b.cls
   ·rw[if_pos g] at eo;refine cT (dT g) ⟨by omega,by omega,?_⟩;rw[fm];refine s7.aK 1 rfl hk' rfl λ w8 s8=>?_;have:=I6.eV (qC b cls u) u k hk';rw[eo] at this;rw[<- this]; exact s8
   ·rw[if_neg g] at eo;refine cF (dF g) ?_;have:I6.mix (k+1) (qC b cls u) u=I6.mix k (qC b cls u) u:=I6.ext' λ j hj=>by
     rw[I6.bT _ _ _ _ hj,I6.bT _ _ _ _ hj]
     by_cases e:j=k
     ·subst e; rw[if_pos (by omega),if_neg (by omega),eo]
     ·by_cases e2:j<k
      ·rw[if_pos e2,if_pos (by omega)]
      ·rw[if_neg e2,if_neg (by omega)]
    rw[this]; exact s7
  ·by_cases g:cls.at' k=0
   ·exact cT (by simpa using g) ⟨by rw[dT (Or.inl g)],s6⟩
   ·obtain⟨q,hq,hc⟩:=GU (h.au s6.au).bd hb 1 (iv b.cls) rfl;refine cF (by simpa using g) ⟨by omega,by omega,_,by rw[fm]; exact cl2,_,_,_,s6.ag 3 rfl 1,aj hq ⟨by omega,by omega,b.cls,by rw[Int.toNat_natCast]; exact hc,?_,s6⟩⟩
    by_cases g2:cls.at' k=b.cls
    ·rw[dT (Or.inr g2)]; simpa using g2
    ·rw[dF (by rintro(h|h); exact g h; exact g2 h)]; simpa using g2
 ·obtain rfl:k=6:=by omega
  rw[I6.xI] at s5;exact cF (by simp) ⟨_,s5.cellsIn 1 rfl,s5.az 0 rfl _ rfl (I6.one _) λ w9 s9=>⟨_,s9.cellsIn 0 rfl,rfl,s9.au⟩⟩
def mb(ps:List Pr)(n:Nat)(u:I6)(x:T3):Bool:=(decide (x.a=-1)||decide (x.a=(n:Int)))&&decide (Ih ps x.b u>x.c)
def fQ(S:Se)(n:Nat)(b:Br)(u:I6):Int :=
 if u.l.all eY then (if within u (aX S.ps)&&within (qC b (JU S.ps S.sa).2 u) (JU S.ps S.sa).1&&!S.cp.any (mb S.ps n u) then 0 else 14) else 4
theorem Ir{w:World}{S:Se}(h:S.In w)(hs:S.Ok){n:Nat}{b:Br}(hb:S.bd[n]?=some b)(u:I6) :
  CP 84 #[.agg S.arr,iv n,.agg u.vs.toArray] w (λ r w'=>r=iv (fQ S n b u)/\ay w w' []):=by
 refine vr ?_;unfold qY;have hn:=(List.getElem?_eq_some_iff.1 hb).1;have hpl:=hs.ps.l2; have hcl:=hs.cp.l1; have hbl:=hs.bd.l2;refine(St.start w).one.ax S.arr λ r1 w1 s1=>s1.ax u.vs.toArray λ r2 w2 s2=>?_;refine⟨λ x w3=>x=false/\w3=w2,?_,cF (dF (by omega)) ⟨_,_,_,s2.ag 1 rfl 1,dF (by omega),rfl⟩⟩;rintro w3 x ⟨rfl,rfl⟩ -;refine cF rfl ⟨u,s2.cellsIn 0 rfl,ak (bN w3 u) ?_⟩;rintro v w4 ⟨rfl,c4⟩;have s4:=s2.quiet c4;refine⟨_,rfl,?_⟩
 cases hq:u.l.all eY with
 | false=>exact cT rfl ⟨by rw[fQ,hq]; rfl,s4.au⟩
 | true =>
 have hu:=JT hq;refine cF rfl ⟨_,_,_,_,_,_,_,_,_,_,_,_,s4.cellsIn 1 rfl,ak (Mg (h.au s4.au) hs) ?_⟩;rintro v w5 ⟨rfl,c5⟩;refine⟨_,_,rfl,(s4.quiet c5).ax z6.vs.toArray λ r3 w6 s6=>s6.ax z6.vs.toArray λ r4 w7 s7=>s7.az 1 rfl _ rfl (I6.one _) λ w8 s8=>s8.az 0 rfl _ rfl (I6.one _) λ w9 s9=>?_⟩;refine⟨λ x w10=>x = !(within u (aX S.ps)&&within (qC b (JU S.ps S.sa).2 u) (JU S.ps S.sa).1)/\St w w10 (Sep [ai r2 u.vs.toArray 44,ai r1 S.arr 27,emp]),?_,?_⟩
 ·rintro w10 x ⟨rfl,s10⟩ -
  cases hw:(within u (aX S.ps)&&within (qC b (JU S.ps S.sa).2 u) (JU S.ps S.sa).1) with
  | false=>exact cT rfl ⟨by rw[fQ,if_pos hq,hw]; rfl,s10.au⟩
  | true =>
   refine cF rfl ⟨_,_,_,s10.ag 1 rfl 2,λ i w11 m=>∃ k:Nat,i=k/\k<=S.cp.length/\m=S.cp.length-k/\(S.cp.take k).any (mb S.ps n u)=false/\St w w11 (Sep [ai r2 u.vs.toArray 44,ai r1 S.arr 27,emp]),⟨S.cp.length,0,rfl,by omega,by omega,rfl,s10⟩,?_⟩;rintro w11 m i ⟨k,rfl,hk,hm,ha,s11⟩ -
   by_cases hlt:(k:Int)<(S.cp.length:Int)
   ·have hx:S.cp[k]?=some (S.cp[k]'(by omega)):=gE (by omega);generalize S.cp[k]'(by omega)=x at hx;obtain⟨q,hq2,hcl2⟩:=(h.au s11.au).cp k x hx;refine cT (dT hlt) (aj hq2 ⟨by omega,by omega,_,_,_,hcl2,s11.ax #[iv 0,iv 0,iv 0] λ r5 w12 s12=>s12.az 0 rfl x.cells rfl x.one λ w13 s13=>?_⟩);have s14:=s13.quiet (ay.drew w13 []);refine⟨λ y w15=>y=mb S.ps n u x/\St w w15 (Sep [ai r5 x.cells.toArray 98,ai r2 u.vs.toArray 44,ai r1 S.arr 27,emp]),?_,?_⟩
    ·rintro w15 y ⟨rfl,s15⟩ -
     cases hc:mb S.ps n u x with
     | true =>
      refine cT rfl ⟨?_,s15.au⟩;rw[fQ,if_pos hq,hw,iq hx hc]; rfl
     | false=>exact cF rfl ⟨S.cp.length-(k+1),by omega,k+1,aB ⟨by omega,by omega⟩,by omega,rfl,fS ha hx hc,s15.av [1,2,3]⟩
    ·refine⟨x.a,s14.ag 0 rfl 0,?_⟩;have cu:CP 122 #[.slice S.a1 S.ps.length S.c1,iv x.b,.agg u.vs.toArray] w13.drew (λ r w'=>r=iv (Ih S.ps x.b u)/\ay w13.drew w' []):=PA (h.au s14.au).ps h.h1 hs.ps hu x.b
     by_cases g1:x.a=-1
     ·refine cT (by simpa using g1) ⟨_,_,_,s14.ag 2 rfl 0,x.b,s14.ag 0 rfl 1,u,s14.cellsIn 1 rfl,x.c,s14.ag 0 rfl 2,ak cu ?_⟩;rintro v w15 ⟨rfl,c15⟩;have s15:=s14.quiet c15;exact⟨_,rfl,s15.ag 0 rfl 2,by rw[mb,dT g1,Bool.true_or,Bool.true_and],s15⟩
     refine cF (by simpa using g1) ⟨x.a,s14.ag 0 rfl 0,?_⟩
     by_cases g2:x.a=(n:Int)
     ·refine cT (by simpa using g2) ⟨_,_,_,s14.ag 2 rfl 0,x.b,s14.ag 0 rfl 1,u,s14.cellsIn 1 rfl,x.c,s14.ag 0 rfl 2,ak cu ?_⟩;rintro v w15 ⟨rfl,c15⟩;have s15:=s14.quiet c15;exact⟨_,rfl,s15.ag 0 rfl 2,by rw[mb,dT g2,Bool.or_true,Bool.true_and],s15⟩
     ·exact cF (by simpa using g2) ⟨by rw[mb,dF g1,dF g2]; rfl,s14⟩
   ·obtain rfl:S.cp.length=k:=by omega
    rw[List.take_length] at ha;exact cF (dF hlt) ⟨by rw[fQ,if_pos hq,hw,ha]; rfl,s11.au⟩
 ·have s10:=s9.quiet (ay.drew w9 []);refine⟨_,s10.cellsIn 2 rfl,_,_,_,s10.ag 3 rfl 0,ak (lN (h.au s10.au).ps (by omega)) ?_⟩;rintro v w17 ⟨rfl,c17⟩;have s17:=s10.quiet c17;refine⟨_,rfl,s17.cellsIn 2 rfl,ak (pS _ u _) ?_⟩;rintro v w18 ⟨rfl,c18⟩;have s18:=s17.quiet c18;refine⟨_,rfl,?_⟩
  cases hw:within u (aX S.ps) with
  | false=>exact cT rfl ⟨rfl,s18.av [2,3,4]⟩
  | true =>
   refine cF rfl ⟨_,_,_,_,_,_,_,_,_,_,_,_,s18.cellsIn 3 rfl,_,s18.cellsIn 0 rfl,_,s18.cellsIn 2 rfl,_,s18.cellsIn 1 rfl,ak (Ji (h.au s18.au) hb _ _) ?_⟩;rintro v w19 ⟨rfl,c19⟩;have s19:=s18.quiet c19;refine⟨_,rfl,s19.cellsIn 1 rfl,ak (pS _ _ _) ?_⟩;rintro v w20 ⟨rfl,c20⟩;exact⟨_,rfl,by rw[Bool.true_and],(s19.quiet c20).av [2,3,4]⟩
theorem uu{w:World}{S:Se}(h:S.In w)(hs:S.Ok){n:Nat}{b:Br}(hb:S.bd[n]?=some b)(u:I6) :
  CP 45 #[.agg S.arr,iv n,.agg u.vs.toArray] w (λ r w'=>r=iv (fQ S n b u)/\ay w w' []):=by
 refine vq ?_;unfold qX;refine(St.start w).one.ax S.arr λ r1 w1 s1=>s1.ax u.vs.toArray λ r2 w2 s2=>⟨_,_,_,_,_,_,_,_,_,_,_,_,s2.cellsIn 1 rfl,ak (ER (h.au s2.au)) ?_⟩;rintro v w3 ⟨⟨e,rfl,he⟩,c3⟩;obtain rfl:=he.2 hs;have s3:=s2.quiet c3;refine⟨_,rfl,cF rfl ⟨_,_,_,_,_,_,_,_,_,_,_,_,s3.cellsIn 1 rfl,_,s3.cellsIn 0 rfl,ak (Ir (h.au s3.au) hs hb u) ?_⟩⟩;rintro v w4 ⟨rfl,c4⟩;exact⟨_,rfl,rfl,(s3.quiet c4).au⟩
section
variable {b:Nat} {C:Ck} {w0 w:World} {B:aC}
theorem xN{p:I6}(h:dJ p=true):I6.Le p 1000000:=lu.1 h
theorem PS(hk:C.Ok){n:Nat}:∀ c∈mc C n,c.Ok:=λ c hc=>by
 obtain⟨x,hx,rfl⟩:=List.mem_map.1 hc;exact⟨xN (hk.cp x hx),xE (hk.ca x hx) (by omega) n⟩
def dI(C:Ck)(n:Nat)(y:Br)(u:I6):Int :=
 if C.ov||C.dp.getD n false then 10 else if fQ C.s n y u≠0 then fQ C.s n y u else if xY y ⟨C.p,u⟩≠0 then xY y ⟨C.p,u⟩ else BO C.o.rule C.s y (mc C n) ⟨C.p,u⟩
def gh(C:Ck)(n:Nat)(u:I6):Ck:={ C with ask:=C.ask.set n u,bd:=C.bd.set n true }
theorem FG(s:St w0 w (Sep (bM b C++[B])))(hk:C.Ok){n:Nat}{y:Br}(hy:C.s.bd[n]?=some y)(u:I6) :
  CP 61 #[.pointer (some ⟨b,0,none⟩),iv n,.agg u.vs.toArray] w (λ r w'=>r=iv (dI C n y u)/\(if dI C n y u=0 then St w0 w' (Sep (bM b (gh C n u)++[B])) else St w0 w' (Sep (bM b C++[B])))):=by
 refine rB ?_;unfold mW;have hn:=(List.getElem?_eq_some_iff.1 hy).1;have z:=hk.s.bd.l2; have z1:=hk.dp; have z2:=hk.ask; have z3:=hk.bd; have z4:=hk.cl;have bad:∀ {e:Int} {w' : World},e≠0->dI C n y u=e->St w0 w' (Sep (bM b C++[B]))->(iv e=iv (dI C n y u)/\(if dI C n y u=0 then St w0 w' (Sep (bM b (gh C n u)++[B])) else St w0 w' (Sep (bM b C++[B])))):=λ he hb hc=>by
  rw[hb,if_neg he]; exact⟨rfl,hc⟩
 refine s.ax u.vs.toArray λ r1 w1 s1=>?_;refine⟨_,s1.ag 1 rfl 18,?_⟩
 cases hov:C.ov with
 | true=>exact cT rfl (bad (by decide) (by rw[dI,hov]; rfl) s1.second)
 | false =>
 have rdO:∀ {w' : World} {L:List aC},St w0 w' (Sep (L++(bM b C++[B])))->C.Rd b w':=λ s=>((s.split _).second.split (bM b C)).first.imp mV;have rd1:C.Rd b w1:=rdO (L:=[_]) s1;refine cF rfl (ak (FH rd1 n) ?_);rintro v w2 ⟨rfl,rfl⟩;refine⟨_,rfl,cF (by simp; omega) ?_⟩;have hx:C.dp[n]?=some (C.dp[n]'(by omega)):=gE (by omega);generalize C.dp[n]'(by omega)=x at hx;have hgx:C.dp.getD n false=x:=by rw[List.getD_eq_getElem?_getD,hx]; rfl
 obtain⟨q,hq,hcl⟩:=rd1.dp.at hx;refine⟨_,_,_,rd1.cell 17 rfl,aj hq ⟨by omega,by omega,x,hcl.1,?_⟩⟩
 cases x with
 | true=>exact cT rfl (bad (by decide) (by rw[dI,hgx]; simp) s1.second)
 | false =>
 have e0:dI C n y u=if fQ C.s n y u≠0 then fQ C.s n y u else if xY y ⟨C.p,u⟩≠0 then xY y ⟨C.p,u⟩ else BO C.o.rule C.s y (mc C n) ⟨C.p,u⟩:=by rw[dI,hov,hgx]; rfl
 have s2:=s1.quiet (ay.drew w2 []);refine cF rfl ⟨C.p,s2.aF 1 9 rfl rfl,u,s2.cellsIn 0 rfl,s2.ax nD.cells.toArray λ r2 w3 s3=>⟨s3.cellsIn 1 rfl,s3.aF 2 9 rfl rfl,s3.az 0 rfl (Ch.mk C.p u).cells rfl (Ch.one _) λ w4 s4=>?_⟩⟩;have s5:=s4.quiet (ay.drew w4 []);have inC:∀ {w' : World} {L:List aC} {i:Nat},St w0 w' (Sep L)->L[i]?=some (held C.In)->C.In w':=λ s e=>s.cv _ e;have i5:=(inC s5 (i:=7) rfl).s;refine⟨_,_,_,_,_,_,_,_,_,_,_,_,s5.aF 2 0 rfl rfl,u,s5.cellsIn 1 rfl,ak (uu i5 hk.s hy u) ?_⟩;rintro v w5 ⟨rfl,c5⟩;have s6:=(s5.quiet c5);refine⟨_,rfl,?_⟩
 by_cases h1:fQ C.s n y u=0
 ·rw[if_neg (by simpa using h1)] at e0;have hu:I6.Le u 4:=by
   unfold fQ at h1
   split at h1
   ·rename_i h; exact JT h
   ·cases h1
  have hc:(Ch.mk C.p u).Ok:=⟨xN hk.p,hu⟩;have s7:=s6.quiet (ay.drew w5 []);have i7:JQ w5.drew C.s:=⟨(inC s7 (i:=7) rfl).s,hk.s⟩;have a7:=s7.aF (vs:=C.s.arr.toList) 2 0 rfl rfl;have b7:af w5.drew ⟨r2,0,none⟩ 0 (C.p.on u.vs):=s7.cellsIn 0 rfl;refine cF (by rw[h1]; rfl) ⟨_,_,_,_,_,_,_,_,_,_,_,_,a7,C.p,u,b7,?_⟩;have h7:=Dp i7 hy hc;refine ak h7 ?_;rintro v w6 ⟨rfl,c6⟩;have s8:=(s7.quiet c6).quiet (ay.drew w6 []);refine⟨_,rfl,?_⟩
  by_cases h2:xY y ⟨C.p,u⟩=0
  ·rw[if_neg (by simpa using h2)] at e0;have rd8:C.Rd b w6.drew:=rdO (L:=[_,_]) s8;refine cF (by rw[h2]; rfl) ⟨_,_,_,_,_,_,_,_,_,_,_,_,s8.aF 2 0 rfl rfl,_,s8.ag 2 rfl 7,C.p,u,s8.cellsIn 0 rfl,ak (AR rd8 hk hn) ?_⟩;rintro v w7 ⟨a',c',rfl,k7⟩;have s9:St w0 w7 (Sep (_ :: _)):=s8.and k7;have hcap:(mc C n).length<=c':=(St.pz s9).1;have hlen:(mc C n).length=C.cl.length:=by simp[mc]
   have i9:JQ w7 C.s:=⟨(inC s9 (i:=8) rfl).s,hk.s⟩;refine⟨_,_,_,rfl,s9.cellsIn 1 rfl,s9.ag 3 rfl 7,s9.aF 3 0 rfl rfl,ak (JZ i9 hy (St.rd Ch.len s9) hcap (by omega) (PS hk) hc C.o.rule) ?_⟩;rintro v w8 ⟨rfl,c8⟩;have s10:=(s9.quiet c8);refine⟨_,rfl,?_⟩
   by_cases h3:BO C.o.rule C.s y (mc C n) ⟨C.p,u⟩=0
   ·have s11:=s10.quiet (ay.drew w8 []);obtain⟨g1,e1⟩:=(s11.out 4 rfl).vj (by omega);obtain⟨g2,e2⟩:=(s11.out 5 rfl).vj (by omega);refine cF (by rw[h3]; rfl) ⟨_,_,_,s11.ag 3 rfl 15,_,_,_,s11.ag 3 rfl 16,u,s11.cellsIn 2 rfl,aj e1 ⟨by omega,by omega,?_⟩⟩;rw[Int.toNat_natCast];have t1:=s11.out 4 rfl;rw[e1] at t1;refine St.EV cC (x:=u) u.one t1 (i:=n) (by omega) λ w9 s12=>aj e2 ⟨by omega,by omega,?_⟩;have t2:=(s12.back (show 4<10 by decide)).out 5 rfl;rw[e2] at t2;refine St.jf (v:=.bool) (x:=true) rfl t2 (i:=n) (by omega) λ w10 s13=>?_;have s14:=s13.back (show 5<10 by decide);rw[<- e1,<- e2] at s14;have eb:dI C n y u=0:=by rw[e0,h3]
    rw[eb];refine⟨rfl,?_⟩;rw[if_pos rfl];have eC:(gh C n u).cells=C.cells:=by simp[gh,Ck.cells]
    show St w0 w10 (Sep [ai b (gh C n u).cells.toArray 106,_,_,_,_,_,B]);rw[eC]; exact s14.av [3,4,5,6,7,8,9]
   ·exact cT (by simpa using h3) (bad h3 e0 (s10.av [3,4,5,6,7,8,9]))
  ·rw[if_pos (by simpa using h2)] at e0;exact cT (by simpa using h2) (bad h2 e0 ((s7.quiet c6).av [2,3,4,5,6,7,8]))
 ·rw[if_pos (by simpa using h1)] at e0;exact cT (by simpa using h1) (bad h1 e0 (s6.av [2,3,4,5,6,7,8]))
end
def qT(S:Se)(n:Nat)(y:Br)(p u:I6):Bool:=decide (fQ S n y u=0)&&decide (xY y ⟨p,u⟩=0)
theorem LP{w:World}{S:Se}(h:JQ w S){n:Nat}{y:Br}(hy:S.bd[n]?=some y){p u:I6}(hp:I6.Le p 1000000)(hu:I6.Le u 4){b1 b2 b3:Nat}(e1:af w ⟨b1,0,none⟩ 0 S.arr.toList)(e2:w.cell? ⟨b2,0,none⟩=some (iv n))(e3:af w ⟨b3,0,none⟩ 0 p.vs) :
  CP 44 #[.agg u.vs.toArray,pt b1,pt b2,pt b3] w (λ r w'=>r=.bool (qT S n y p u)/\ay w w' []):=by
 refine wV ?_;unfold tK;refine(St.start w).one.ax u.vs.toArray λ r1 w1 s1=>⟨_,_,_,_,_,_,_,_,_,_,_,_,bu s1.au e1,_,bO e2 s1.au,u,s1.cellsIn 0 rfl,ak (uu (h.i.au s1.au) h.o hy u) ?_⟩;rintro v w2 ⟨rfl,c2⟩;have s2:=s1.quiet c2;refine⟨_,rfl,?_⟩
 by_cases g:fQ S n y u=0
 ·refine cT (by rw[g]; rfl) ⟨_,_,_,_,_,_,_,_,_,_,_,_,bu s2.au e1,_,bO e2 s2.au,p,bu s2.au e3,u,s2.cellsIn 0 rfl,ak (Dp (h.au s2.au) hy (c:=⟨p,u⟩) ⟨hp,hu⟩) ?_⟩;rintro v w3 ⟨rfl,c3⟩;refine⟨_,rfl,?_,(s2.quiet c3).au⟩;rw[qT,dT g]; rfl
 ·exact cF (by simpa using g) ⟨by rw[qT,dF g]; rfl,s2.au⟩
def AO(S:Se)(n:Nat)(y:Br)(l:List Of)(p:I6)(σ:I6×Int)(u:I6):I6×Int:=if xu l p u>σ.2/\qT S n y p u=true then (u,xu l p u) else σ
def fZ(S:Se)(n:Nat)(y:Br)(l:List Of)(p m:I6):Nat->I6×Int
 | 0=>(z6,xu l p z6)
 | i+1=>AO S n y l p (fZ S n y l p m i) (bI m i)
def Nl(S:Se)(n:Nat)(y:Br)(l:List Of)(p:I6):I6:=(fZ S n y l p (aX S.ps) (aQ (aX S.ps))).1
section
variable {w0 w:World} {B:aC} {m:I6} {l D:Nat} {lp:Loop}
def Qy(S:Se)(n:Nat)(l:List Of)(p:I6)(r1 r2 r3 r4 r6 r7 r8:Nat)(al:OA)(cl:Nat)(B:aC)(f:Value)(σ:I6×Int):List aC :=
 [ai r7 σ.1.vs.toArray 44,ai r8 #[iv σ.2] 2,ai r3 #[.slice al l.length cl] 62,ai r4 p.vs.toArray 53,ai r1 S.arr 27,ai r2 #[iv n] 3,ai r6 #[f] 115,B]
theorem Fl{S:Se}{n:Nat}{y:Br}(hy:S.bd[n]?=some y)(ho:S.Ok){ofs:List Of}{p:I6}(hp:I6.Le p 1000000)(hS:∀ {w'},ay w0 w' []->S.In w'){al:OA}{cl:Nat}(hl:∀ {w'},ay w0 w' []->Fa w' al ofs)(hlen:ofs.length<=100000)(hm:I6.Le m 4){i:Nat}(hi:i<aQ m){Fr:aC}{a1:OA}{l1:Nat}{c1:Nat}{a2:OA}{l2:Nat}{c2:Nat}{a3:OA}{l3:Nat}{c3:Nat}{a4:OA}{l4:Nat}{c4:Nat}{n1:Int}{a5:OA}{l5:Nat}{c5:Nat}{u1:I6}{r1:Nat}{r2:Nat}{r3:Nat}{r4:Nat}{r5:Nat}{a6:OA}{l6:Nat}{c6:Nat}{a7:OA}{l7:Nat}{c7:Nat}{a8:OA}{l8:Nat}{c8:Nat}{a9:OA}{l9:Nat}{c9:Nat}{n2:Int}{b1:Bool}{x1:Nat->Value}{u4:I6}{n3:Int}{r6:Nat}{r7:Nat}{a10:OA}{l10:Nat}{c10:Nat}{u6:I6}{u7:I6}{n4:Int}{r8:Nat}{a11:OA}{l11:Nat}{c11:Nat}{u8:I6}{v1:Value}(hT:lp.tmps=(di a1 l1 c1 a2 l2 c2 a3 l3 c3 a4 l4 c4 n1 a5 l5 c5 u1 r1 r2 r3 r4 r5 a6 l6 c6 a7 l7 c7 a8 l8 c8 a9 l9 c9 n2 b1 x1 u4 n3 r6 r7 a10 l10 c10 u6 u7 n4 r8 a11 l11 c11 u8 v1).toArray)(hP:lp.params=Gp (bD Tryz.f19) 2042)(hA:lp.assign=Gm (bD Tryz.f19) 2042)(hB:lp.body=Gn (bD Tryz.f19) 2042)(hst:lp.state=.ready)(hpd:lp.pending=none)(h:St w0 w (star (Sep (aY l (.loop lp) :: Qy S n ofs p r1 r2 r3 r4 r6 r7 r8 al cl B (.func (.func 44) #[] #[pt r1,pt r2,pt r4]) (fZ S n y ofs p m i))) Fr)) :
  iC prog l #[.agg (bI m i).vs.toArray] w λ b w2=>b=true/\St w0 w2 (star (Sep (aY l (.loop lp) :: Qy S n ofs p r1 r2 r3 r4 r6 r7 r8 al cl B (.func (.func 44) #[] #[pt r1,pt r2,pt r4]) (fZ S n y ofs p m (i+1)))) Fr):=by
 have hu:=fI hm i;have hle:I6.Le (bI m i) 4:=hu.le;generalize hσ:fZ S n y ofs p m i=σ at h;have eσ:fZ S n y ofs p m (i+1)=AO S n y ofs p σ (bI m i):=by rw[fZ,hσ]
 generalize fZ S n y ofs p m (i+1)=σ' at eσ;have s:St w0 w (Sep (aY l (.loop lp) :: Qy S n ofs p r1 r2 r3 r4 r6 r7 r8 al cl B (.func (.func 44) #[] #[pt r1,pt r2,pt r4]) σ++[Fr])):=h.open;refine oW (s.hU 0 rfl) hT hP hA hB ?_;unfold jS;have hpd2:({ ({ lp with state:=.busy }:Loop) with state:=.ready,pending:=none }:Loop)=lp:=by cases lp; simp_all
 generalize bI m i=u at *;let L:Loop->I6×Int->Nat->List aC:=λ lp σ r9=>ai r9 u.vs.toArray 44 :: aY l (.loop lp) :: Qy S n ofs p r1 r2 r3 r4 r6 r7 r8 al cl B (.func (.func 44) #[] #[pt r1,pt r2,pt r4]) σ++[Fr];refine s.ax z6.vs.toArray λ r9 w1 s1=>s1.az 0 rfl u.vs rfl (I6.one _) λ w2 s2=>?_;have s2:St w0 w2 (Sep (L lp σ r9)):=s2;refine⟨lp,s2.hU 1 rfl,hst,?_⟩;have s3:St w0 _ (Sep (L { lp with state:=.busy } σ r9)):=s2.putAt 1 rfl (.loop { lp with state:=.busy });refine⟨_,_,_,s3.ag 4 rfl 0,p,s3.cellsIn 5 rfl,u,s3.cellsIn 0 rfl,ak (BH (hl s3.au) hlen p u) ?_⟩;rintro v w4 ⟨rfl,c4⟩;have s4:=s3.quiet c4;refine⟨_,rfl,λ b w5=>b=decide (xu ofs p u>σ.2/\qT S n y p u=true)/\St w0 w5 (Sep (L { lp with state:=.busy } σ r9)),?_,_,s4.ag 3 rfl 0,?_⟩
 ·rintro w5 b ⟨rfl,s5⟩ -
  by_cases hb:xu ofs p u>σ.2/\qT S n y p u=true
  ·rw[AO,if_pos hb] at eσ;subst eσ;refine cT (dT hb) ⟨u,s5.cellsIn 0 rfl,s5.az 2 rfl u.vs rfl (I6.one _) λ w6 s6=>s6.aK 3 rfl (by show 0<1; decide) rfl λ w7 s7=>⟨_,s7.hU 1 rfl,rfl,?_⟩⟩;have s8:=s7.putAt 1 rfl (.loop lp);rw[hpd2];exact(s8.av [1,2,3,4,5,6,7,8,9,10]).shut
  ·rw[AO,if_neg hb] at eσ;subst eσ;refine cF (dF hb) ⟨_,s5.hU 1 rfl,rfl,?_⟩;have s8:=s5.putAt 1 rfl (.loop lp);rw[hpd2];exact(s8.av [1,2,3,4,5,6,7,8,9,10]).shut
 ·by_cases g:xu ofs p u>σ.2
  ·refine cT (dT g) ⟨_,s4.ag 8 rfl 0,u,s4.cellsIn 0 rfl,bx (by kernel_rfl) (ak (LP ⟨hS s4.au,ho⟩ hy hp hle (s4.cellsIn 6 rfl) (s4.ag 7 rfl 0) (s4.cellsIn 5 rfl)) ?_)⟩;rintro v w5 ⟨rfl,c5⟩;refine⟨_,rfl,?_,s4.quiet c5⟩
   cases hw:qT S n y p u with
   | true=>exact(dT (p:=xu ofs p u>σ.2/\true=true) ⟨g,rfl⟩).symm
   | false=>exact(dF (p:=xu ofs p u>σ.2/\false=true) λ h=>by cases h.2).symm
  ·exact cF (dF g) ⟨(dF λ h=>g h.1).symm,s4⟩
end
theorem TF{l:List Pr}(h:bZ l):pr (aX l).l<=1024:=by
 rw[C7,ue h.l2]; exact h.lim
def mQ : Br:=⟨[],0,0,0⟩
def iu(S:Se)(n:Int)(l:List Of)(p:I6):I6×Int:=if vp S≠0 then (z6,vp S) else if n<0\/n>=(S.bd.length:Int) then (z6,6) else if dJ p=false then (z6,4) else (Nl S n.toNat (S.bd.getD n.toNat mQ) l p,0)
set_option maxHeartbeats 1000000 in
theorem yf{w:World}{S:Se}(h:S.In w){a:OA}{c:Nat}{l:List Of}(hl:Fa w a l)(hlen:l.length<=100000)(n:Int)(p:I6) :
  CP 19 #[.agg S.arr,iv n,.slice a l.length c,.agg p.vs.toArray] w (λ r w'=>r=.tuple #[.agg (iu S n l p).1.vs.toArray,iv (iu S n l p).2]/\ay w w' []):=by
 refine Ax ?_;unfold zj;refine(St.start w).one.ax S.arr λ r1 w1 s1=>s1.ax #[iv n] λ r2 w2 s2=>s2.ax #[.slice a l.length c] λ r3 w3 s3=>s3.ax p.vs.toArray λ r4 w4 s4=>s4.ax z6.vs.toArray λ r5 w5 s5=>?_;let M:List aC:=[ai r5 z6.vs.toArray 44,ai r4 p.vs.toArray 53,ai r3 #[.slice a l.length c] 62,ai r2 #[iv n] 3,ai r1 S.arr 27,emp];have s5:St w w5 (Sep M):=s5;refine⟨_,_,_,_,_,_,_,_,_,_,_,_,s5.cellsIn 4 rfl,ak (lF (h.au s5.au)) ?_⟩;rintro v w6 ⟨⟨rfl,he⟩,c6⟩;have s6:St w w6 (Sep M):=s5.quiet c6;refine⟨_,rfl,?_⟩;have bad:∀ {k:Int} {w' : World},St w w' (Sep M)->iu S n l p=(z6,k)->aL ⟨r5,0,none⟩ 0 z6.vs w' λ w7=>∃ u2:I6,af w7 ⟨r5,0,none⟩ 0 u2.vs/\(.tuple #[.agg u2.vs.toArray,iv k]:Value)=.tuple #[.agg (iu S n l p).1.vs.toArray,iv (iu S n l p).2]/\ay w w7 []:=λ {k w'} s hk =>
  s.az 0 rfl z6.vs rfl (I6.one _) λ w7 s7=>⟨z6,s7.cellsIn 0 rfl,by rw[hk],s7.au⟩
 by_cases g:vp S=0
 rotate_left
 ·exact cT (by simpa using g) (bad s6 (by rw[iu,if_pos g]))
 have hok:S.Ok:=he.1 g;have e1:iu S n l p=if n<0\/n>=(S.bd.length:Int) then (z6,6) else if dJ p=false then (z6,4) else (Nl S n.toNat (S.bd.getD n.toNat mQ) l p,0):=by rw[iu,if_neg (λ h=>h g)]
 refine cF (by rw[g]; rfl) ⟨λ b w8=>b=decide (n<0\/n>=(S.bd.length:Int))/\St w w8 (Sep M),?_,?_⟩
 rotate_left
 ·refine⟨_,s6.ag 3 rfl 0,?_⟩
  by_cases g1:n<0
  ·exact cT (dT g1) ⟨(dT (.inl g1)).symm,s6⟩
  ·refine cF (dF g1) ⟨_,s6.ag 3 rfl 0,_,_,_,s6.ag 4 rfl 1,?_,s6⟩
   by_cases g2:n>=(S.bd.length:Int)
   ·rw[dT g2,dT (.inr g2)]
   ·rw[dF g2,dF (λ h=>h.elim g1 g2)]
 rintro w8 b ⟨rfl,s8⟩ -
 by_cases g1:n<0\/n>=(S.bd.length:Int)
 ·exact cT (dT g1) (bad s8 (by rw[e1,if_pos g1]))
 rw[if_neg g1] at e1;refine cF (dF g1) ⟨p,s8.cellsIn 1 rfl,ak (ID w8 p) ?_⟩;rintro v w9 ⟨rfl,c9⟩;have s9:St w w9 (Sep M):=s8.quiet c9;refine⟨_,rfl,?_⟩
 cases hp:dJ p with
 | false=>exact cT rfl (bad s9 (by rw[e1,if_pos hp]; rfl))
 | true =>
 rw[if_neg (by rw[hp]; decide)] at e1;have hp6:=lu.1 hp;obtain⟨k,rfl⟩:=Int.eq_ofNat_of_zero_le (show 0<=n by omega);have hy:S.bd[k]?=some (S.bd[k]'(by omega)):=gE (by omega);rw[show((k:Int).toNat)=k from Int.toNat_natCast k,List.getD_eq_getElem?_getD,hy,Option.getD_some] at e1;generalize S.bd[k]'(by omega)=y at hy e1;have hsl:=sup_le hok.ps;have hspr:=TF hok.ps;refine cF rfl (s9.ax #[.nilFunc] λ r6 w10 s10=>s10.aK 0 rfl (by decide) rfl λ w11 s11=>s11.ax z6.vs.toArray λ r7 w12 s12=>⟨_,_,_,s12.ag 4 rfl 0,p,s12.cellsIn 3 rfl,z6,s12.cellsIn 0 rfl,ak (BH (hl.au s12.au) hlen p z6) ?_⟩);rintro v w13 ⟨rfl,c13⟩;have s13:=s12.quiet c13;refine⟨_,rfl,s13.ax #[iv 0] λ r8 w14 s14=>s14.aK 0 rfl (by decide) rfl λ w15 s15=>⟨_,_,_,s15.ag 7 rfl 0,ak (lN (h.au s15.au).ps (by have:=hok.ps.l2; omega)) ?_⟩⟩;rintro v w16 ⟨rfl,c16⟩;have s16:=s15.quiet c16;refine⟨_,rfl,ak (J4 s16 (aX S.ps) hsl hspr) ?_⟩;rintro v w17 ⟨b,rfl,s17⟩;have s17:St w w17 (Sep [ai b (aX S.ps).vs.toArray 44,ai r8 #[iv (xu l p z6)] 2,ai r7 z6.vs.toArray 44,ai r6 #[.func (.func 44) #[] #[pt r1,pt r2,pt r4]] 115,ai r5 z6.vs.toArray 44,ai r4 p.vs.toArray 53,ai r3 #[.slice a l.length c] 62,ai r2 #[iv k] 3,ai r1 S.arr 27,emp]):=s17;refine⟨_,rfl,vg (by kernel_rfl) ?_⟩;refine ve s17 (λ _ _=>⟨rfl,rfl⟩) λ fn lo w18 s18=>?_;have s18' : St w w18 (Sep ((aY lo (.loop _) :: Qy S k l p r1 r2 r3 r4 r6 r7 r8 a c (aY w17.heap.size (.deferred (some []))) (.func (.func 44) #[] #[pt r1,pt r2,pt r4]) (fZ S k y l p (aX S.ps) 0))++[ai b (aX S.ps).vs.toArray 44,ai r5 z6.vs.toArray 44,emp])):=s18.av [0,4,3,8,7,10,9,5,1,2,6,11];have s19:=s18'.split _;refine ak (B4 hsl (R:=λ i=>Sep (aY lo (.loop _) :: Qy S k l p r1 r2 r3 r4 r6 r7 r8 a c (aY w17.heap.size (.deferred (some []))) (.func (.func 44) #[] #[pt r1,pt r2,pt r4]) (fZ S k y l p (aX S.ps) i)))
  (λ i w1 Fr hi hh=>Fl hy hok hp6 (λ hc=>h.au hc) (λ hc=>hl.au hc) hlen hsl hi rfl rfl rfl rfl rfl rfl hh) s19) ?_
 rintro v w20 ⟨rfl,s20⟩;have s20':=St.cat (l:=aY lo (.loop _) :: Qy S k l p r1 r2 r3 r4 r6 r7 r8 a c _ _ _) (m:=[ai b (aX S.ps).vs.toArray 44,ai r5 z6.vs.toArray 44,emp]) s20;refine⟨_,rfl,_,s20',λ w21 s21=>?_⟩;have s21:St w w21 (Sep [ai r7 (fZ S k y l p (aX S.ps) (aQ (aX S.ps))).1.vs.toArray 44,ai r8 #[iv (fZ S k y l p (aX S.ps) (aQ (aX S.ps))).2] 2,ai r3 #[.slice a l.length c] 62,ai r4 p.vs.toArray 53,ai r1 S.arr 27,ai r2 #[iv k] 3,ai r6 #[.func (.func 44) #[] #[pt r1,pt r2,pt r4]] 115,aY w17.heap.size (.deferred (some [])),ai b (aX S.ps).vs.toArray 44,ai r5 z6.vs.toArray 44,emp]):=s21;refine⟨_,s21.cellsIn 0 rfl,s21.az 9 rfl _ rfl (I6.one _) λ w22 s22=>⟨s22.hU 7 rfl,?_⟩⟩;have s23:=s22.putAt 7 rfl (.deferred none);exact⟨_,s23.cellsIn 9 rfl,by rw[e1]; rfl,s23.au⟩
def EG(a:I6)(w:World)(K:KP):=aq w (.cells a.vs.toArray 44) λ a b=>∃ c:Int->qN,(∃ d,c 0 b d)/\∀ b d e,c e b d->∀ f:qv,cond (decide (e<6)) (∃ f:Bool->qW,(∀ g h,f h g->∀ i:qv,cond h (K (iv 4) g) (∃ h,h<d/\c (IntKind.i64.wrap (e+1)) g h))/\0<=e/\e<6/\∃ c,b.cell? (Addr.add (qd a 0) ((e).toNat*1))=some (iv c)/\cond (decide (c<0)) (f true b) (0<=e/\e<6/\∃ c,b.cell? (Addr.add (qd a 0) ((e).toNat*1))=some (iv c)/\f (decide (c>4)) b)) (K qz b)
theorem EH{u1 w K}(h:EG u1 w K):CP 79 #[.agg u1.vs.toArray] w K:=ah (aA [(26,[(3,.s (.int .i64))]),(420,[(17,.s .bool)])]) func79 (by kernel_rfl) (by kernel_rfl) h
def EI(a:I6)(w:World)(K:KP):=aq w (.cells a.vs.toArray 44) λ a b=>∃ c:I6,af b (qd a 0) 0 c.vs/\CC 79 #[.agg c.vs.toArray] b λ b c=>∃ d,b=.returned (iv d)/\cond (d !=0) (K qz c) (∃ b:Int->Int->qN,(∃ d,b 1 (0:Int) c d)/\∀ c d e f,b e f c d->∀ g:qv,cond (decide (f<6)) (0<=f/\f<6/\∃ g,c.cell? (Addr.add (qd a 0) ((f).toNat*1))=some (iv g)/\∃ a,a<d/\b (IntKind.i64.wrap (e*(IntKind.i64.wrap (g+1)))) (IntKind.i64.wrap (f+1)) c a) (cond (decide (e>1024)) (K qz c) (K (iv e) c)))
theorem EJ{u1 w K}(h:EI u1 w K):CP 41 #[.agg u1.vs.toArray] w K:=ah (aA [(122,[(3,.s (.int .i64)),(4,.s (.int .i64))])]) func41 (by kernel_rfl) (by kernel_rfl) h
def HR(a:I6)(w:World)(K:KP):=aq w (.cells a.vs.toArray 44) λ a b=>∃ c:I6,af b (qd a 0) 0 c.vs/\CC 41 #[.agg c.vs.toArray] b λ b c=>∃ d,b=.returned (iv d)/\cond (d==0) (K qn c) (aq c (.cells z6.vs.toArray 44) λ b c=>∃ d:OA->Nat->Nat->Int->qN,(∃ e,d (some (qd b 0)) 1 1 0 c e)/\∀ b e c f g h,d c f g h b e->∀ i:qv,cond (decide (h<6)) (∃ i:OA->Nat->Nat->Int->qN,(∃ j,i none 0 0 0 b j)/\∀ k j l m n o,i l m n o k j->∀ p:qv,cond (decide (o<(f:Int))) (∃ p:OA->Nat->Nat->Int->qN,(∃ q,p l m n 0 k q)/\∀ r q s t u v,p s t u v r q->∀ x:qv,0<=h/\h<6/\∃ x,r.cell? (Addr.add (qd a 0) ((h).toNat*1))=some (iv x)/\cond (decide (v<=x)) (an c λ a=>0<=o/\o<(f:Int)/\∃ x:I6,af r (Addr.add a ((o).toNat*6)) 0 x.vs/\aq r (.cells z6.vs.toArray 44) λ a y=>aL (qd a 0) 0 x.vs y λ x=>0<=h/\h<6/\aP x (Addr.add (qd a 0) ((h).toNat*1)) (iv v) λ x=>∃ y:I6,af x (qd a 0) 0 y.vs/\aq x (.cells y.vs.toArray 44) λ a x=>aV prog (Builtin.append_ #[59,59] 59 #[.slice s t u,.slice (some (qd a 0)) 1 1]) x λ a x=>∃ y z A,a=(.slice y z A)/\∃ a,a<q/\p y z A (IntKind.i64.wrap (v+1)) x a) (∃ a,a<j/\i s t u (IntKind.i64.wrap (o+1)) r a)) (∃ a,a<e/\d l m n (IntKind.i64.wrap (h+1)) k a)) (K (.slice c f g) b))
theorem Gb{u1 w K}(h:HR u1 w K):CP 17 #[.agg u1.vs.toArray] w K:=ah (aA [(122,[(3,.s .slice),(4,.s (.int .i64))]),(31306,[(5,.s .slice),(6,.s (.int .i64))]),(2003602,[(5,.s .slice),(7,.s (.int .i64))])]) func17 (by kernel_rfl) (by kernel_rfl) h
def Bs(a:OA)(b c:Nat)(w:World)(K:KP):=aq w (.cells z6.vs.toArray 44) λ c d=>aq d (.cells z6.vs.toArray 44) λ d e=>∃ f:Int->qN,(∃ g,f 0 e g)/\∀ e g h,f h e g->∀ i:qv,∃ i:Bool->qW,(∀ j k,i k j->∀ l:qv,cond k (an a λ a=>0<=h/\h<(b:Int)/\∃ k,j.cell? (Addr.add (Addr.add a ((h).toNat*5)) 1)=some (iv k)/\0<=h/\h<6/\aP j (Addr.add (qd d 0) ((h).toNat*1)) (iv k) λ a=>∃ k,k<g/\f (IntKind.i64.wrap (h+1)) a k) (∃ a:I6,af j (qd d 0) 0 a.vs/\aL (qd c 0) 0 a.vs j λ a=>∃ d:I6,af a (qd c 0) 0 d.vs/\K (.agg d.vs.toArray) a))/\cond (decide (h<(b:Int))) (i (decide (h<6)) e) (i false e)
theorem CL{a1 l1 c1 w K}(h:Bs a1 l1 c1 w K):CP 18 #[.slice a1 l1 c1] w K:=ah (aA [(58,[(4,.s (.int .i64))]),(232,[(12,.s .bool)])]) func18 (by kernel_rfl) (by kernel_rfl) h
def LS(a:OA)(b c:Nat)(d:OA)(e f:Nat)(g:OA)(h i:Nat)(j:OA)(k l:Nat)(m:OA)(n o:Nat)(w:World)(K:KP):=aq w (.cells #[.slice a b c,.slice d e f,.slice g h i,.slice j k l] 27) λ a b=>∃ c:Bool->qW,(∀ d e,c e d->∀ f:qv,cond e (K (.bool false) d) (∃ e:Int->qN,(∃ f,e 0 d f)/\∀ d f g,e g d f->∀ h:qv,cond (decide (g<(n:Int))) (an m λ h=>0<=g/\g<(n:Int)/\∃ i j k,d.cell? (Addr.add h ((g).toNat*1))=some (.slice i j k)/\cond (decide ((j:Int)>(10:Int))) (K (.bool false) d) (∃ h,h<f/\e (IntKind.i64.wrap (g+1)) d h)) (K (.bool true) d)))/\∃ d e f,b.cell? (qd a 0)=some (.slice d e f)/\cond (decide ((e:Int)>(3:Int))) (c true b) (∃ d e f,b.cell? (qd a 1)=some (.slice d e f)/\cond (decide ((e:Int)>(4:Int))) (c true b) (∃ d e f,b.cell? (qd a 2)=some (.slice d e f)/\cond (decide ((e:Int)>(10:Int))) (c true b) (∃ d e f,b.cell? (qd a 3)=some (.slice d e f)/\cond (decide ((e:Int)>(6:Int))) (c true b) (cond (decide ((n:Int)>(6:Int))) (c true b) (∃ d e f,b.cell? (qd a 0)=some (.slice d e f)/\CC 18 #[.slice d e f] b λ a b=>∃ d:I6,a=.returned (.agg d.vs.toArray)/\CC 17 #[.agg d.vs.toArray] b λ a b=>∃ d e f,a=.returned (.slice d e f)/\c (decide ((e:Int)>(30:Int))) b)))))
theorem Jk{a1 l1 c1 a2 l2 c2 a3 l3 c3 a4 l4 c4 a5 l5 c5 w K}(h:LS a1 l1 c1 a2 l2 c2 a3 l3 c3 a4 l4 c4 a5 l5 c5 w K):CP 4 #[.agg #[.slice a1 l1 c1,.slice a2 l2 c2,.slice a3 l3 c3,.slice a4 l4 c4],.slice a5 l5 c5] w K:=ah (aA [(6,[(40,.s .bool)]),(58,[(5,.s (.int .i64))])]) func4 (by kernel_rfl) (by kernel_rfl) h
theorem Gf(w:World)(u:I6):CP 79 #[.agg u.vs.toArray] w (λ r w'=>r=iv (if u.l.all eY then 0 else 4)/\ay w w' []):=by
 refine EH ?_;unfold EG;refine(St.start w).one.ax u.vs.toArray λ r1 w1 s1=>?_;refine⟨λ n w2 m=>∃ k:Nat,n=k/\k<=6/\m=6-k/\(u.l.take k).all eY=true/\w2=w1,⟨6,0,rfl,by omega,by omega,rfl,rfl⟩,?_⟩;rintro w2 m n ⟨k,rfl,hk,hm,ha,rfl⟩ -
 by_cases hlt:(k:Int)<6
 ·have hk' : k<6:=by omega
  have g2:=u.oP k hk';refine cT (dT hlt) ⟨λ b w3=>b = !eY (u.at' k)/\w3=w2,?_,by omega,by omega,u.at' k,by rw[fm,aI s1 0 rfl hk'],?_⟩
  ·rintro w3 b ⟨rfl,rfl⟩ -
   cases hx:eY (u.at' k) with
   | true=>exact cF rfl ⟨6-(k+1),by omega,k+1,inc (by decide) hk',by omega,rfl,iB ha g2 hx,rfl⟩
   | false=>exact cT rfl ⟨by rw[kA g2 hx]; rfl,s1.au⟩
  ·by_cases h0:u.at' k<0
   ·exact cT (dT h0) ⟨by simp[eY]; omega,rfl⟩
   ·refine cF (dF h0) ⟨by omega,by omega,u.at' k,by rw[fm,aI s1 0 rfl hk'],?_,rfl⟩;unfold eY;rw[dT (show 0<=u.at' k by omega),Bool.true_and]
    by_cases h4:u.at' k<=4
    ·rw[dT h4,dF (by omega)]; rfl
    ·rw[dF h4,dT (by omega)]; rfl
 ·obtain rfl:k=6:=by omega
  refine cF (dF hlt) ⟨?_,s1.au⟩;rw[show u.l.all eY=true from ha]; rfl
def Fm(m:I6):Int:=if m.l.all eY=true/\pr m.l<=1024 then pr m.l else 0
theorem Gg(w:World)(m:I6):CP 41 #[.agg m.vs.toArray] w (λ r w'=>r=iv (Fm m)/\ay w w' []):=by
 refine EJ ?_;unfold EI;refine(St.start w).one.ax m.vs.toArray λ r1 w1 s1=>⟨m,s1.cellsIn 0 rfl,ak (Gf w1 m) ?_⟩;rintro v w2 ⟨rfl,c2⟩;have s2:=s1.quiet c2;refine⟨_,rfl,?_⟩
 cases hq:m.l.all eY with
 | false=>exact cT rfl ⟨by rw[Fm,if_neg (by rw[hq]; simp)],s2.au⟩
 | true =>
  have hm:=Gc hq;have hb:∀ k,k<=6->1<=Ah m k/\Ah m k<=15625:=λ k hk=>by
   have h:=pq (Il hm) k hk;refine⟨by omega,Int.le_trans h.2.2 ?_⟩
   match k,hk with
   | 0,_|1,_|2,_|3,_|4,_|5,_|6,_=>decide
  refine cF rfl ⟨λ n i w3 mm=>∃ k:Nat,i=k/\k<=6/\mm=6-k/\n=Ah m k/\w3=w2,⟨6,0,rfl,by omega,by omega,rfl,rfl⟩,?_⟩;rintro w3 mm n i ⟨k,rfl,hk,hmm,rfl,rfl⟩ -
  by_cases hlt:(k:Int)<6
  ·have hk' : k<6:=by omega
   have h1:=hm k hk';have h2:=hb k hk;have h3:=hb (k+1) (by omega);refine cT (dT hlt) ⟨by omega,by omega,m.at' k,by rw[fm,aI s2 0 rfl hk'],6-(k+1),by omega,k+1,inc (by decide) hk',by omega,rfl,?_,rfl⟩;rw[Ah] at h3 ⊢;rw[aB (n:=m.at' k+1) ⟨by omega,by omega⟩,aB ⟨by omega,by omega⟩]
  ·obtain rfl:k=6:=by omega
   refine cF (by simp) ?_
   by_cases g:Ah m 6>1024
   ·exact cT (dT g) ⟨by rw[Fm,if_neg (by rw[rO]; omega)],s2.au⟩
   ·exact cF (dF g) ⟨by rw[Fm,if_pos ⟨hq,by rw[rO]; omega⟩,rO],s2.au⟩
def vY(a:Nat)(b:OA)(c d:Nat)(e:OA)(f g:Nat)(h:OA)(i j:Nat)(k:OA)(l m:Nat)(n:OA)(o p:Nat)(w:World)(K:KP):=aq w (.cells #[.slice b c d,.slice e f g,.slice h i j,.slice k l m] 27) λ b c=>∃ d:Int->qN,(∃ e,d 0 c e)/\∀ c e f,d f c e->∀ g:qv,cond (decide (f<(o:Int))) (∃ g:qW,(∀ h,g h->∀ i:qv,∃ i,i<e/\d (IntKind.i64.wrap (f+1)) h i)/\an n λ d=>0<=f/\f<(o:Int)/\∃ e h i,c.cell? (Addr.add d ((f).toNat*1))=some (.slice e h i)/\∃ d:Nat->qW,(∀ j k,d k j->∀ l:qv,∃ l:I6,af j (qd k 0) 0 l.vs/\CC 61 #[qp a,iv f,.agg l.vs.toArray] j λ j k=>∃ l,j=.returned (iv l)/\cond (l !=0) (CC 61 #[qp a,iv f,.agg z6.vs.toArray] k λ j l=>∃ m,j=.returned (iv m)/\g l) (g k))/\∃ g j k l m n o p q r s t,af c.drew (qd b 0) 0 [.slice g j k,.slice l m n,.slice o p q,.slice r s t]/\(CC 14 #[qp a] c.drew λ u v=>∃ x:I6,u=.returned (.agg x.vs.toArray)/\af v (qd b 0) 0 [.slice g j k,.slice l m n,.slice o p q,.slice r s t]/\(CC 19 #[.agg #[.slice g j k,.slice l m n,.slice o p q,.slice r s t],iv f,.slice e h i,.agg x.vs.toArray] v λ u y=>∃ z:I6,∃ A,u=.returned (.tuple #[.agg z.vs.toArray,iv A])/\aq y (.cells z6.vs.toArray 44) λ u y=>aL (qd u 0) 0 z.vs y λ y=>d u y)/\aq v (.cells z6.vs.toArray 44) λ u v=>af v (qd b 0) 0 [.slice g j k,.slice l m n,.slice o p q,.slice r s t]/\CC 19 #[.agg #[.slice g j k,.slice l m n,.slice o p q,.slice r s t],iv f,.slice e h i,.agg x.vs.toArray] v λ v x=>∃ y:I6,∃ z,v=.returned (.tuple #[.agg y.vs.toArray,iv z])/\aL (qd u 0) 0 y.vs x λ v=>d u v)/\aq c.drew (.cells z6.vs.toArray 44) λ u v=>af v (qd b 0) 0 [.slice g j k,.slice l m n,.slice o p q,.slice r s t]/\CC 14 #[qp a] v λ v x=>∃ y:I6,v=.returned (.agg y.vs.toArray)/\af x (qd b 0) 0 [.slice g j k,.slice l m n,.slice o p q,.slice r s t]/\CC 19 #[.agg #[.slice g j k,.slice l m n,.slice o p q,.slice r s t],iv f,.slice e h i,.agg y.vs.toArray] x λ b e=>∃ f:I6,∃ g,b=.returned (.tuple #[.agg f.vs.toArray,iv g])/\aL (qd u 0) 0 f.vs e λ b=>d u b) (CC 62 #[qp a] c λ a b=>∃ c d,a=.returned (.tuple #[.bool c,iv d])/\K (.tuple #[]) b)
theorem zk{b1 a1 l1 c1 a2 l2 c2 a3 l3 c3 a4 l4 c4 a5 l5 c5 w K}(h:vY b1 a1 l1 c1 a2 l2 c2 a3 l3 c3 a4 l4 c4 a5 l5 c5 w K):CP 28 #[.pointer (some ⟨b1,0,none⟩),.agg #[.slice a1 l1 c1,.slice a2 l2 c2,.slice a3 l3 c3,.slice a4 l4 c4],.slice a5 l5 c5] w K:=ah (aA [(26,[(12,.s (.int .i64))]),(211,[]),(1689,[(8,.s (.blk))])]) func28 (by kernel_rfl) (by kernel_rfl) h
def Bp(a:OA)(b c:Nat)(d:OA)(e f:Nat)(g:OA)(h i:Nat)(j:OA)(k l:Nat)(m n o p:Int)(q:OA)(r s:Nat)(w:World)(K:KP):=aq w (.cells #[.slice a b c,.slice d e f,.slice g h i,.slice j k l] 27) λ a b=>aq b (.cells #[iv m,iv n,iv o,iv p] 29) λ b c=>∃ d e f g h i j k l m n o,af c (qd a 0) 0 [.slice d e f,.slice g h i,.slice j k l,.slice m n o]/\∃ p t u v,af c (qd b 0) 0 [iv p,iv t,iv u,iv v]/\CC 27 #[.agg #[.slice d e f,.slice g h i,.slice j k l,.slice m n o],.agg #[iv p,iv t,iv u,iv v]] c λ b c=>∃ d e,b=.returned (.tuple #[.pointer d,iv e])/\cond (e !=0) (K (.tuple #[.pointer none,iv e]) c) (∃ b e f,c.cell? (qd a 1)=some (.slice b e f)/\cond ((r:Int) !=(e:Int)) (K (.tuple #[.pointer none,iv 3]) c) (∃ b:qN,(∃ e,b c e)/\∀ c e,b c e->∀ f:qv,CC 22 #[.pointer d] c λ c f=>∃ g,c=.returned (.bool g)/\cond (!g) (∃ c g h i j k l m n o p t,af f (qd a 0) 0 [.slice c g h,.slice i j k,.slice l m n,.slice o p t]/\CC 28 #[.pointer d,.agg #[.slice c g h,.slice i j k,.slice l m n,.slice o p t],.slice q r s] f λ a c=>a=.returned (.tuple #[])/\∃ a,a<e/\b c a) (K (.tuple #[.pointer d,qz]) f)))
theorem CH{a1 l1 c1 a2 l2 c2 a3 l3 c3 a4 l4 c4 n1 n2 n3 n4 a5 l5 c5 w K}(h:Bp a1 l1 c1 a2 l2 c2 a3 l3 c3 a4 l4 c4 n1 n2 n3 n4 a5 l5 c5 w K):CP 7 #[.agg #[.slice a1 l1 c1,.slice a2 l2 c2,.slice a3 l3 c3,.slice a4 l4 c4],.agg #[iv n1,iv n2,iv n3,iv n4],.slice a5 l5 c5] w K:=ah (aA [(124,[])]) func7 (by kernel_rfl) (by kernel_rfl) h
def kH(a:Nat)(w:World)(K:KP):=∃ b,w.cell? (qd a 18)=some (.bool b)/\K (.bool b) w
theorem qq{b1 w K}(h:kH b1 w K):CP 22 #[.pointer (some ⟨b1,0,none⟩)] w K:=ah (aA []) func22 (by kernel_rfl) (by kernel_rfl) h

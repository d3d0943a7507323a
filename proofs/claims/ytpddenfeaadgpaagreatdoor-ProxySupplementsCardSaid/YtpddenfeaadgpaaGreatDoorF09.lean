import Derived.Test.YtpddenfeaadgpaaGreatDoorF08
set_option linter.unusedVariables false
set_option maxRecDepth 100000
namespace Go.Proofs.YtpddenfeaadgpaaGreatDoor
open Go Go.Vc _root_.Go.Proofs.Tryz
def uM(a:OA)(b c:Nat)(w:World)(K:KP):=cond (decide ((b:Int)>(0:Int))) (ak a λ a=>0<=(IntKind.i64.wrap ((b:Int)-(1:Int)))/\(IntKind.i64.wrap ((b:Int)-(1:Int)))<(b:Int)/\∃ c:I6,af w (Addr.add (Addr.add a (((IntKind.i64.wrap ((b:Int)-(1:Int)))).toNat*12)) 6) 0 c.vs/\K (.bool (I6.beq c z6)) w) (K (.bool false) w)
theorem v8{a1 l1 c1 w K}(h:uM a1 l1 c1 w K):CP 135 #[.slice a1 l1 c1] w K:=aj (aC []) func135 (by kernel_rfl) (by kernel_rfl) h
def uT(a:OA)(b c:Nat)(d:OA)(e f:Nat)(g:OA)(h i:Nat)(j:OA)(k l:Nat)(m:I6)(w:World)(K:KP):=au w (.cells #[.slice a b c,.slice d e f,.slice g h i,.slice j k l] 27) λ a b=>au b (.cells m.vs.toArray 35) λ b c=>∃ d e f,c.cell? (qd a 0)=some (.slice d e f)/\∃ a:I6,af c (qd b 0) 0 a.vs/\CC 81 #[.slice d e f,qz,.agg a.vs.toArray] c λ a b=>∃ c d e,a=.returned (.tuple #[iv c,iv d,iv e])/\K (iv c) b
theorem wo{a1 l1 c1 a2 l2 c2 a3 l3 c3 a4 l4 c4 u1 w K}(h:uT a1 l1 c1 a2 l2 c2 a3 l3 c3 a4 l4 c4 u1 w K):CP 136 #[.agg #[.slice a1 l1 c1,.slice a2 l2 c2,.slice a3 l3 c3,.slice a4 l4 c4],.agg u1.vs.toArray] w K:=aj (aC []) func136 (by kernel_rfl) (by kernel_rfl) h
def kD(a:OA)(b c:Nat)(d:OA)(e f:Nat)(g:OA)(h i:Nat)(j:OA)(k l:Nat)(m:Int)(n:OA)(o p:Nat)(w:World)(K:KP):=au w (.cells #[.slice a b c,.slice d e f,.slice g h i,.slice j k l] 27) λ a b=>∃ c d e f g h i j k l p q,af b (qd a 0) 0 [.slice c d e,.slice f g h,.slice i j k,.slice l p q]/\CC 82 #[.agg #[.slice c d e,.slice f g h,.slice i j k,.slice l p q],iv m] b λ b c=>∃ d,b=.returned (.bool d)/\cond (!d) (K qz c) (∃ b d e,c.cell? (qd a 1)=some (.slice b d e)/\ak b λ b=>0<=m/\m<(d:Int)/\∃ d,c.cell? (Addr.add (Addr.add b ((m).toNat*4)) 3)=some (iv d)/\∃ b:Int->Int->qN,(∃ e,b d 0 c e)/\∀ c e d f,b d f c e->∀ g:qv,cond (decide (f<(o:Int))) (∃ g h i j k l m p q r s t,af c.drew (qd a 0) 0 [.slice g h i,.slice j k l,.slice m p q,.slice r s t]/\ak n λ a=>0<=f/\f<(o:Int)/\∃ n:I6,af c.drew (Addr.add (Addr.add a ((f).toNat*12)) 6) 0 n.vs/\CC 136 #[.agg #[.slice g h i,.slice j k l,.slice m p q,.slice r s t],.agg n.vs.toArray] c.drew λ a g=>∃ h,a=.returned (iv h)/\∃ a,a<e/\b (if h<d then h else d) (IntKind.i64.wrap (f+1)) g a) (K (iv d) c))
theorem ou{a1 l1 c1 a2 l2 c2 a3 l3 c3 a4 l4 c4 n1 a5 l5 c5 w K}(h:kD a1 l1 c1 a2 l2 c2 a3 l3 c3 a4 l4 c4 n1 a5 l5 c5 w K):CP 137 #[.agg #[.slice a1 l1 c1,.slice a2 l2 c2,.slice a3 l3 c3,.slice a4 l4 c4],iv n1,.slice a5 l5 c5] w K:=aj (aC [(122,[(7,.s (.int .i64)),(8,.s (.int .i64))])]) func137 (by kernel_rfl) (by kernel_rfl) h
def mu(a:OA)(b c:Nat)(w:World)(K:KP):=au w (.cells z6.vs.toArray 35) λ c d=>∃ e:OA->Nat->Nat->Int->qN,(∃ f,e (some (qd c 0)) 1 1 0 d f)/\∀ c f d g h i,e d g h i c f->∀ j:qv,cond (decide (i<(b:Int))) (ak a λ j=>0<=i/\i<(b:Int)/\∃ k:I6,af c (Addr.add (Addr.add j ((i).toNat*12)) 6) 0 k.vs/\au c (.cells k.vs.toArray 35) λ j k=>aW prog (Builtin.append_ #[46,46] 46 #[.slice d g h,.slice (some (qd j 0)) 1 1]) k λ h j=>∃ k l m,h=(.slice k l m)/\∃ h,h<f/\e k l m (IntKind.i64.wrap (i+1)) j h) (aW prog (Instr.makeSlice 161 (iv (g:Int)) (iv (g:Int))) c λ c e=>∃ f h i,c=(.slice f h i)/\∃ c:Int->qN,(∃ i,c 0 e i)/\∀ e i j,c j e i->∀ k:qv,cond (decide (j<=(g:Int))) (∃ k:Bool->Int->qN,(∃ l,k true 0 e l)/\∀ m l n o,k n o m l->∀ p:qv,cond (decide (o<(b:Int))) (∃ p:Bool->Int->qN,(∃ q,p n 0 m q)/\∀ r q s t,p s t r q->∀ u:qv,cond (decide (t<(g:Int))) (ak f λ u=>0<=t/\t<(h:Int)/\∃ v,r.drew.cell? (Addr.add u ((t).toNat*1))=some (iv v)/\ak a λ x=>0<=o/\o<(b:Int)/\∃ y:I6,af r.drew (Addr.add x ((o).toNat*12)) 0 y.vs/\ak a λ x=>0<=o/\o<(b:Int)/\∃ z:I6,af r.drew (Addr.add (Addr.add x ((o).toNat*12)) 6) 0 z.vs/\ak a λ x=>0<=o/\o<(b:Int)/\∃ A:I6,af r.drew (Addr.add x ((o).toNat*12)) 0 A.vs/\ak d λ B=>0<=t/\t<(g:Int)/\∃ C:I6,af r.drew (Addr.add B ((t).toNat*6)) 0 C.vs/\CC 83 #[.agg y.vs.toArray,.agg z.vs.toArray] r.drew λ y z=>∃ D,y=.returned (iv D)/\af z (Addr.add B ((t).toNat*6)) 0 C.vs/\af z (Addr.add x ((o).toNat*12)) 0 A.vs/\z.cell? (Addr.add u ((t).toNat*1))=some (iv v)/\CC 83 #[.agg A.vs.toArray,.agg C.vs.toArray] z λ x y=>∃ z,x=.returned (iv z)/\y.cell? (Addr.add u ((t).toNat*1))=some (iv v)/\∃ u:Bool->Int->qN,(∃ x,u s 0 y x)/\∀ y x A B,u A B y x->∀ C:qv,cond (decide (B<(g:Int))) (∃ C:Bool->qW,(∀ E F,C F E->∀ G:qv,∃ G,G<x/\u F (IntKind.i64.wrap (B+1)) E G)/\∃ u:Bool->qW,(∀ x E,u E x->∀ F:qv,cond E (ak f λ E=>0<=B/\B<(h:Int)/\dW x (Addr.add E ((B).toNat*1)) (iv (IntKind.i64.wrap ((IntKind.i64.wrap (v+D))-z))) λ E=>C false E) (C A x))/\ak d λ d=>0<=B/\B<(g:Int)/\∃ g:I6,af y.drew (Addr.add d ((B).toNat*6)) 0 g.vs/\ak a λ a=>0<=o/\o<(b:Int)/\∃ b:I6,af y.drew (Addr.add (Addr.add a ((o).toNat*12)) 6) 0 b.vs/\cond (I6.beq g b) (ak f λ a=>0<=B/\B<(h:Int)/\∃ b,y.drew.cell? (Addr.add a ((B).toNat*1))=some (iv b)/\u (decide (b<(IntKind.i64.wrap ((IntKind.i64.wrap (v+D))-z)))) y.drew) (u false y.drew)) (∃ a,a<q/\p A (IntKind.i64.wrap (t+1)) y a)) (∃ a,a<l/\k s (IntKind.i64.wrap (o+1)) r a)) (cond n (K (.bool true) m) (∃ a,a<i/\c (IntKind.i64.wrap (j+1)) m a))) (K (.bool false) e))
theorem pJ{a1 l1 c1 w K}(h:mu a1 l1 c1 w K):CP 138 #[.slice a1 l1 c1] w K:=aj (aC [(58,[(3,.s .slice),(4,.s (.int .i64))]),(250,[(6,.s (.int .i64))]),(64074,[(7,.s .bool),(8,.s (.int .i64))]),(4100754,[(7,.s .bool),(9,.s (.int .i64))]),(524896550,[(7,.s .bool),(11,.s (.int .i64))]),(2099586201,[(7,.s .bool)]),(8398344804,[(99,.s .bool)])]) func138 (by kernel_rfl) (by kernel_rfl) h
def uI(a:OA)(b c:Nat)(d:OA)(e f:Nat)(g:OA)(h i:Nat)(j:OA)(k l:Nat)(m n:Int)(o:OA)(p q:Nat)(r s:I6)(w:World)(K:KP):=au w (.cells #[.slice a b c,.slice d e f,.slice g h i,.slice j k l] 27) λ a b=>au b (.cells (r.on (s.vs):List Value).toArray 90) λ b c=>∃ d:Bool->qW,(∀ e f,d f e->∀ g:qv,cond f (K (iv 4) e) (∃ f g h i j k l r s t u v,af e (qd a 0) 0 [.slice f g h,.slice i j k,.slice l r s,.slice t u v]/\CC 82 #[.agg #[.slice f g h,.slice i j k,.slice l r s,.slice t u v],iv n] e λ e f=>∃ g,e=.returned (.bool g)/\cond (!g) (K (iv 6) f) (∃ e:I6,af f (qd b 6) 0 e.vs/\CC 84 #[.agg e.vs.toArray] f λ e f=>∃ g,e=.returned (iv g)/\cond (g !=0) (K (iv g) f) (CC 135 #[.slice o p q] f λ e f=>∃ g,e=.returned (.bool g)/\cond g (∃ e:I6,af f (qd b 6) 0 e.vs/\cond (I6.beq e z6) (K qz f) (K (iv 15) f)) (∃ e:Bool->qW,(∀ g h,e h g->∀ i:qv,cond h (K qz g) (∃ h:Bool->qW,(∀ i j,h j i->∀ k:qv,cond j (K qz i) (K (iv 15) i))/\cond (m !=1) (∃ i j:I6,af g.drew (qd b 0) 0 (i.on (j.vs))/\(au g.drew (.cells #[] 90) λ k l=>af l (qd b 0) 0 (i.on (j.vs))/\(aW prog (Builtin.append_ #[68,68] 68 #[.slice (some (qd k 0)) 0 0,.slice o p q]) l λ r s=>∃ t u v,r=(.slice t u v)/\af s (qd b 0) 0 (i.on (j.vs))/\au s (.cells (i.on (j.vs):List Value).toArray 90) λ r s=>aW prog (Builtin.append_ #[68,68] 68 #[.slice t u v,.slice (some (qd r 0)) 1 1]) s λ r s=>∃ t u v,r=(.slice t u v)/\CC 138 #[.slice t u v] s λ r s=>∃ t,r=.returned (.bool t)/\h t s)/\au l (.cells (i.on (j.vs):List Value).toArray 90) λ l r=>aW prog (Builtin.append_ #[68,68] 68 #[.slice (some (qd k 0)) 0 0,.slice o p q]) r λ k r=>∃ s t u,k=(.slice s t u)/\aW prog (Builtin.append_ #[68,68] 68 #[.slice s t u,.slice (some (qd l 0)) 1 1]) r λ k l=>∃ r s t,k=(.slice r s t)/\CC 138 #[.slice r s t] l λ k l=>∃ r,k=.returned (.bool r)/\h r l)/\au g.drew (.cells (i.on (j.vs):List Value).toArray 90) λ i j=>au j (.cells #[] 90) λ j k=>aW prog (Builtin.append_ #[68,68] 68 #[.slice (some (qd j 0)) 0 0,.slice o p q]) k λ j k=>∃ l r s,j=(.slice l r s)/\aW prog (Builtin.append_ #[68,68] 68 #[.slice l r s,.slice (some (qd i 0)) 1 1]) k λ i j=>∃ k l r,i=(.slice k l r)/\CC 138 #[.slice k l r] j λ i j=>∃ k,i=.returned (.bool k)/\h k j) (((h false g.drew)/\h false g.drew)/\h false g.drew)))/\cond (m !=2) (∃ g h i j k l r s t u v x,af f.drew (qd a 0) 0 [.slice g h i,.slice j k l,.slice r s t,.slice u v x]/\∃ y:I6,af f.drew (qd b 6) 0 y.vs/\∃ b z A B C D E F G H I J,af f.drew (qd a 0) 0 [.slice b z A,.slice B C D,.slice E F G,.slice H I J]/\CC 136 #[.agg #[.slice g h i,.slice j k l,.slice r s t,.slice u v x],.agg y.vs.toArray] f.drew λ g h=>∃ i,g=.returned (iv i)/\af h (qd a 0) 0 [.slice b z A,.slice B C D,.slice E F G,.slice H I J]/\CC 137 #[.agg #[.slice b z A,.slice B C D,.slice E F G,.slice H I J],iv n,.slice o p q] h λ a b=>∃ g,a=.returned (iv g)/\e (decide (i<=g)) b) (e false f.drew))))))/\cond (decide (m<1)) (d true c) (d (decide (m>3)) c)
theorem vX{a1 l1 c1 a2 l2 c2 a3 l3 c3 a4 l4 c4 n1 n2 a5 l5 c5 u1 u2 w K}(h:uI a1 l1 c1 a2 l2 c2 a3 l3 c3 a4 l4 c4 n1 n2 a5 l5 c5 u1 u2 w K):CP 94 #[.agg #[.slice a1 l1 c1,.slice a2 l2 c2,.slice a3 l3 c3,.slice a4 l4 c4],iv n1,iv n2,.slice a5 l5 c5,.agg (u1.on (u2.vs):List Value).toArray] w K:=aj (aC [(6,[(17,.s .bool)]),(126,[(46,.s .bool)]),(254,[(57,.s .bool)])]) func94 (by kernel_rfl) (by kernel_rfl) h
def E7(a:OA)(b c:Nat)(w:World)(K:KP):=au w (.cells z6.vs.toArray 35) λ c d=>au d (.cells z6.vs.toArray 35) λ d e=>∃ f:Int->qN,(∃ g,f 0 e g)/\∀ e g h,f h e g->∀ i:qv,cond (decide (h<(b:Int))) (∃ i:Int->qN,(∃ j,i 0 e j)/\∀ k j l,i l k j->∀ m:qv,cond (decide (l<6)) (0<=l/\l<6/\∃ m,k.drew.cell? (Addr.add (qd d 0) ((l).toNat*1))=some (iv m)/\ak a λ a=>0<=h/\h<(b:Int)/\0<=l/\l<6/\∃ b,k.drew.cell? (Addr.add (Addr.add a ((h).toNat*6)) ((l).toNat*1))=some (iv b)/\0<=l/\l<6/\dW k.drew (Addr.add (qd d 0) ((l).toNat*1)) (iv (IntKind.i64.wrap (m+b))) λ a=>∃ b,b<j/\i (IntKind.i64.wrap (l+1)) a b) (∃ a,a<g/\f (IntKind.i64.wrap (h+1)) k a)) (∃ a:I6,af e (qd d 0) 0 a.vs/\aN (qd c 0) 0 a.vs e λ a=>∃ b:I6,af a (qd c 0) 0 b.vs/\K (.agg b.vs.toArray) a)
theorem C6{a1 l1 c1 w K}(h:E7 a1 l1 c1 w K):CP 176 #[.slice a1 l1 c1] w K:=aj (aC [(58,[(4,.s (.int .i64))]),(3730,[(5,.s (.int .i64))])]) func176 (by kernel_rfl) (by kernel_rfl) h
def sH(a:I6)(b:OA)(c d:Nat)(e:Int)(f:I6)(w:World)(K:KP):=au w (.cells a.vs.toArray 35) λ a g=>au g (.cells f.vs.toArray 35) λ f g=>CC 176 #[.slice b c d] g λ d g=>∃ h:I6,d=.returned (.agg h.vs.toArray)/\au g (.cells z6.vs.toArray 35) λ d g=>aN (qd d 0) 0 h.vs g λ g=>∃ h:Int->qN,(∃ i,h 0 g i)/\∀ g i j,h j g i->∀ k:qv,cond (decide (j<6)) (ak b λ b=>0<=e/\e<(c:Int)/\0<=j/\j<6/\∃ c,g.drew.cell? (Addr.add (Addr.add b ((e).toNat*6)) ((j).toNat*1))=some (iv c)/\0<=j/\j<6/\∃ b,g.drew.cell? (Addr.add (qd f 0) ((j).toNat*1))=some (iv b)/\∃ e:Bool->qW,(∀ f k,e k f->∀ l:qv,cond k (K (.bool true) f) (∃ k,k<i/\h (IntKind.i64.wrap (j+1)) f k))/\cond (decide ((IntKind.i64.wrap (c-b))>(0:Int))) (0<=j/\j<6/\∃ f,g.drew.drew.cell? (Addr.add (qd d 0) ((j).toNat*1))=some (iv f)/\0<=j/\j<6/\∃ d,g.drew.drew.cell? (Addr.add (qd a 0) ((j).toNat*1))=some (iv d)/\e (decide ((IntKind.i64.wrap (f-(IntKind.i64.wrap (c-b))))<d)) g.drew.drew) (e false g.drew.drew)) (K (.bool false) g)
theorem tO{u1 a1 l1 c1 n1 u2 w K}(h:sH u1 a1 l1 c1 n1 u2 w K):CP 139 #[.agg u1.vs.toArray,.slice a1 l1 c1,iv n1,.agg u2.vs.toArray] w K:=aj (aC [(58,[(10,.s (.int .i64))]),(1865,[(40,.s .bool)])]) func139 (by kernel_rfl) (by kernel_rfl) h
def uS(a:I6)(b:OA)(c d:Nat)(e:Int)(f:I6)(w:World)(K:KP):=au w (.cells a.vs.toArray 35) λ a g=>au g (.cells f.vs.toArray 35) λ f g=>au g (.cells z6.vs.toArray 35) λ g h=>CC 176 #[.slice b c d] h λ d h=>∃ i:I6,d=.returned (.agg i.vs.toArray)/\au h (.cells z6.vs.toArray 35) λ d h=>aN (qd d 0) 0 i.vs h λ h=>∃ i:I6,af h (qd f 0) 0 i.vs/\au h (.cells z6.vs.toArray 35) λ f h=>aN (qd f 0) 0 i.vs h λ h=>∃ i:Int->qN,(∃ j,i 0 h j)/\∀ h j k,i k h j->∀ l:qv,cond (decide (k<6)) (∃ l:qN,(∃ m,l h m)/\∀ n m,l n m->∀ o:qv,∃ o:Bool->qW,(∀ p q,o q p->∀ r:qv,cond q (0<=k/\k<6/\∃ q,p.cell? (Addr.add (qd f 0) ((k).toNat*1))=some (iv q)/\0<=k/\k<6/\dW p (Addr.add (qd f 0) ((k).toNat*1)) (iv (IntKind.i64.wrap (q+1))) λ q=>∃ r,r<m/\l q r) (∃ l,l<j/\i (IntKind.i64.wrap (k+1)) p l))/\0<=k/\k<6/\∃ i,n.drew.cell? (Addr.add (qd f 0) ((k).toNat*1))=some (iv i)/\ak b λ j=>0<=e/\e<(c:Int)/\0<=k/\k<6/\∃ l,n.drew.cell? (Addr.add (Addr.add j ((e).toNat*6)) ((k).toNat*1))=some (iv l)/\cond (decide (i<l)) (0<=k/\k<6/\∃ i,n.drew.cell? (Addr.add (qd d 0) ((k).toNat*1))=some (iv i)/\ak b λ b=>0<=e/\e<(c:Int)/\0<=k/\k<6/\∃ c,n.drew.cell? (Addr.add (Addr.add b ((e).toNat*6)) ((k).toNat*1))=some (iv c)/\0<=k/\k<6/\∃ b,n.drew.cell? (Addr.add (qd f 0) ((k).toNat*1))=some (iv b)/\0<=k/\k<6/\∃ d,n.drew.cell? (Addr.add (qd a 0) ((k).toNat*1))=some (iv d)/\o (decide ((IntKind.i64.wrap (i-(IntKind.i64.wrap (c-b))))<d)) n.drew) (o false n.drew)) (∃ a:I6,af h (qd f 0) 0 a.vs/\aN (qd g 0) 0 a.vs h λ a=>∃ b:I6,af a (qd g 0) 0 b.vs/\K (.agg b.vs.toArray) a)
theorem wm{u1 a1 l1 c1 n1 u2 w K}(h:uS u1 a1 l1 c1 n1 u2 w K):CP 140 #[.agg u1.vs.toArray,.slice a1 l1 c1,iv n1,.agg u2.vs.toArray] w K:=aj (aC [(122,[(11,.s (.int .i64))]),(3912,[]),(15648,[(48,.s .bool)])]) func140 (by kernel_rfl) (by kernel_rfl) h
def yp(a:Int)(b:I6)(c:OA)(d e:Nat)(f:OA)(g h:Nat)(w:World)(K:KP):=au w (.cells b.vs.toArray 35) λ b i=>∃ j:Bool->qW,(∀ k l,j l k->∀ m:qv,cond l (K (.tuple #[qn,iv 4]) k) (∃ l:Bool->qW,(∀ m n,l n m->∀ o:qv,cond n (K (.tuple #[qn,iv 3]) m) (∃ n:I6,af m (qd b 0) 0 n.vs/\au m (.cells n.vs.toArray 35) λ m n=>aW prog (Builtin.append_ #[46,46] 46 #[.slice (some (qd m 0)) 1 1,.slice c d e]) n λ m n=>∃ o p q,m=(.slice o p q)/\aW prog (Builtin.append_ #[46,46] 46 #[.slice o p q,.slice f g h]) n λ h m=>∃ n o p,h=(.slice n o p)/\∃ h:Int->qN,(∃ p,h 0 m p)/\∀ m p q,h q m p->∀ r:qv,cond (decide (q<(o:Int))) (ak n λ n=>0<=q/\q<(o:Int)/\∃ o:I6,af m (Addr.add n ((q).toNat*6)) 0 o.vs/\CC 84 #[.agg o.vs.toArray] m λ n o=>∃ r,n=.returned (iv r)/\cond (r !=0) (K (.tuple #[qn,iv 4]) o) (∃ n,n<p/\h (IntKind.i64.wrap (q+1)) o n)) (au m (.cells #[] 35) λ h m=>aW prog (Builtin.append_ #[46,46] 46 #[.slice (some (qd h 0)) 0 0,.slice c d e]) m λ c e=>∃ h m n,c=(.slice h m n)/\∃ c:Int->qN,(∃ o,c 0 e o)/\∀ e o p,c p e o->∀ q:qv,cond (decide (p<(m:Int))) (∃ q:qW,(∀ r,q r->∀ s:qv,∃ s,s<o/\c (IntKind.i64.wrap (p+1)) r s)/\cond (a==1) (ak f λ c=>0<=p/\p<(g:Int)/\∃ o:I6,af e (Addr.add c ((p).toNat*6)) 0 o.vs/\ak h λ c=>0<=p/\p<(m:Int)/\aN (Addr.add c ((p).toNat*6)) 0 o.vs e λ c=>q c) (cond (a==2) (∃ c:I6,af e.drew (qd b 0) 0 c.vs/\ak f λ o=>0<=p/\p<(g:Int)/\∃ r:I6,af e.drew (Addr.add o ((p).toNat*6)) 0 r.vs/\CC 139 #[.agg c.vs.toArray,.slice h m n,iv p,.agg r.vs.toArray] e.drew λ c o=>∃ r,c=.returned (.bool r)/\cond (!r) (ak f λ c=>0<=p/\p<(g:Int)/\∃ r:I6,af o (Addr.add c ((p).toNat*6)) 0 r.vs/\ak h λ c=>0<=p/\p<(m:Int)/\aN (Addr.add c ((p).toNat*6)) 0 r.vs o λ c=>q c) (q o)) (cond (a==3) (∃ c:I6,af e.drew (qd b 0) 0 c.vs/\ak f λ b=>0<=p/\p<(g:Int)/\∃ f:I6,af e.drew (Addr.add b ((p).toNat*6)) 0 f.vs/\CC 140 #[.agg c.vs.toArray,.slice h m n,iv p,.agg f.vs.toArray] e.drew λ b c=>∃ f:I6,b=.returned (.agg f.vs.toArray)/\ak h λ b=>0<=p/\p<(m:Int)/\aN (Addr.add b ((p).toNat*6)) 0 f.vs c λ b=>q b) (q e)))) (K (.tuple #[.slice h m n,qz]) e))))/\cond ((d:Int) !=(g:Int)) (l true k) (l (decide ((d:Int)>(8:Int))) k)))/\cond (decide (a<1)) (j true i) (j (decide (a>3)) i)
theorem yq{n1 u1 a1 l1 c1 a2 l2 c2 w K}(h:yp n1 u1 a1 l1 c1 a2 l2 c2 w K):CP 96 #[iv n1,.agg u1.vs.toArray,.slice a1 l1 c1,.slice a2 l2 c2] w K:=aj (aC [(6,[(19,.s .bool)]),(14,[(29,.s .bool)]),(506,[(11,.s (.int .i64))]),(2042,[(13,.s (.int .i64))]),(8169,[])]) func96 (by kernel_rfl) (by kernel_rfl) h
def yU(a:OA)(b c:Nat)(w:World)(K:KP):=au w (.cells z6.vs.toArray 30) λ c d=>au d (.cells z6.vs.toArray 30) λ d e=>∃ f:Int->qN,(∃ g,f 0 e g)/\∀ e g h,f h e g->∀ i:qv,∃ i:Bool->qW,(∀ j k,i k j->∀ l:qv,cond k (ak a λ a=>0<=h/\h<(b:Int)/\∃ k,j.cell? (Addr.add (Addr.add a ((h).toNat*5)) 2)=some (iv k)/\0<=h/\h<6/\dW j (Addr.add (qd d 0) ((h).toNat*1)) (iv k) λ a=>∃ k,k<g/\f (IntKind.i64.wrap (h+1)) a k) (∃ a:I6,af j (qd d 0) 0 a.vs/\aN (qd c 0) 0 a.vs j λ a=>∃ d:I6,af a (qd c 0) 0 d.vs/\K (.agg d.vs.toArray) a))/\cond (decide (h<(b:Int))) (i (decide (h<6)) e) (i false e)
theorem yV{a1 l1 c1 w K}(h:yU a1 l1 c1 w K):CP 93 #[.slice a1 l1 c1] w K:=aj (aC [(58,[(4,.s (.int .i64))]),(232,[(12,.s .bool)])]) func93 (by kernel_rfl) (by kernel_rfl) h
def uV(a b c d e:Int)(w:World)(K:KP):=au w (.cells #[iv a,iv b,iv c,iv d] 41) λ a b=>∃ c,b.cell? (qd a 1)=some (iv c)/\(100:Int)≠0/\∃ d:Int->qW,(∀ f g,d g f->∀ h:qv,∃ h,f.cell? (qd a 0)=some (iv h)/\K (iv (IntKind.i64.wrap ((IntKind.i64.wrap (e+h))+g))) f)/\(100:Int)≠0/\cond (decide ((Int.tmod (IntKind.i64.wrap (e*c)) (100:Int))>(0:Int))) (d (IntKind.i64.wrap ((IntKind.i64.wrap (Int.tdiv (IntKind.i64.wrap (e*c)) (100:Int)))+(1:Int))) b) (d (IntKind.i64.wrap (Int.tdiv (IntKind.i64.wrap (e*c)) (100:Int))) b)
theorem wu{n1 n2 n3 n4 n5 w K}(h:uV n1 n2 n3 n4 n5 w K):CP 142 #[.agg #[iv n1,iv n2,iv n3,iv n4],iv n5] w K:=aj (aC [(15,[(6,.s (.int .i64))])]) func142 (by kernel_rfl) (by kernel_rfl) h
def sD(a:I6)(w:World)(K:KP):=au w (.cells a.vs.toArray 30) λ a b=>∃ c:Int->qN,(∃ d,c 0 b d)/\∀ b d e,c e b d->∀ f:qv,cond (decide (e<6)) (∃ f:Bool->qW,(∀ g h,f h g->∀ i:qv,cond h (K (.bool false) g) (∃ h,h<d/\c (IntKind.i64.wrap (e+1)) g h))/\0<=e/\e<6/\∃ c,b.cell? (Addr.add (qd a 0) ((e).toNat*1))=some (iv c)/\cond (decide (c<0)) (f true b) (0<=e/\e<6/\∃ c,b.cell? (Addr.add (qd a 0) ((e).toNat*1))=some (iv c)/\f (decide (c>1000000)) b)) (K (.bool true) b)
theorem tL{u1 w K}(h:sD u1 w K):CP 141 #[.agg u1.vs.toArray] w K:=aj (aC [(26,[(3,.s (.int .i64))]),(420,[(17,.s .bool)])]) func141 (by kernel_rfl) (by kernel_rfl) h
def BV(a b c d:Int)(e f:I6)(w:World)(K:KP):=au w (.cells #[iv a,iv b,iv c,iv d] 41) λ a b=>au b (.cells e.vs.toArray 30) λ b c=>au c (.cells f.vs.toArray 35) λ c d=>au d (.cells z6.vs.toArray 30) λ d e=>∃ f:Bool->qW,(∀ g h,f h g->∀ i:qv,cond h (aN (qd d 0) 0 z6.vs g λ h=>∃ i:I6,af h (qd d 0) 0 i.vs/\K (.tuple #[.agg i.vs.toArray,iv 4]) h) (∃ h:Int->qN,(∃ i,h 0 g i)/\∀ g i j,h j g i->∀ k:qv,cond (decide (j<6)) (∃ k:qW,(∀ l,k l->∀ m:qv,∃ m,m<i/\h (IntKind.i64.wrap (j+1)) l m)/\0<=j/\j<6/\∃ h,g.cell? (Addr.add (qd c 0) ((j).toNat*1))=some (iv h)/\cond (decide (h>0)) (∃ c h i l,af g.drew (qd a 0) 0 [iv c,iv h,iv i,iv l]/\0<=j/\j<6/\∃ m,g.drew.cell? (Addr.add (qd b 0) ((j).toNat*1))=some (iv m)/\CC 142 #[.agg #[iv c,iv h,iv i,iv l],iv m] g.drew λ c h=>∃ i,c=.returned (iv i)/\0<=j/\j<6/\dW h (Addr.add (qd b 0) ((j).toNat*1)) (iv i) λ c=>k c) (k g)) (∃ c:I6,af g (qd b 0) 0 c.vs/\CC 141 #[.agg c.vs.toArray] g λ c g=>∃ h,c=.returned (.bool h)/\cond (!h) (aN (qd d 0) 0 z6.vs g λ c=>∃ h:I6,af c (qd d 0) 0 h.vs/\K (.tuple #[.agg h.vs.toArray,iv 4]) c) (∃ c:I6,af g (qd b 0) 0 c.vs/\aN (qd d 0) 0 c.vs g λ c=>∃ g:I6,af c (qd d 0) 0 g.vs/\K (.tuple #[.agg g.vs.toArray,qz]) c))))/\∃ c d g h,af e (qd a 0) 0 [iv c,iv d,iv g,iv h]/\CC 23 #[.agg #[iv c,iv d,iv g,iv h]] e λ a c=>∃ d,a=.returned (iv d)/\cond (d !=0) (f true c) (∃ a:I6,af c (qd b 0) 0 a.vs/\CC 141 #[.agg a.vs.toArray] c λ a b=>∃ c,a=.returned (.bool c)/\f (!c) b)
theorem Az{n1 n2 n3 n4 u1 u2 w K}(h:BV n1 n2 n3 n4 u1 u2 w K):CP 97 #[.agg #[iv n1,iv n2,iv n3,iv n4],.agg u1.vs.toArray,.agg u2.vs.toArray] w K:=aj (aC [(6,[(16,.s .bool)]),(58,[(8,.s (.int .i64))]),(233,[])]) func97 (by kernel_rfl) (by kernel_rfl) h
theorem G4{N:Nat}{s:Qs}{x:Int}{h:Nat->Bool}{m:Nat}(hm:m<N)(hc:h m=true/\(qJ x h m s).v m<x):(b8 (qJ x h m s).v N).set m x=b8 (qJ x h (m+1) s).v N:=by
 have e:qJ x h (m+1) s=⟨iP (qJ x h m s).v m x,false⟩:=by show(if _ then _ else _)=_; rw[if_pos hc]
 rw[e]; exact ri _ _ _ _
theorem AW(l:List Ch):(nC l).length=l.length+1:=by simp[nC]
theorem AV(l:List Ch){k:Nat}(hk:k<l.length+1):(nC l)[k]?=some (wQ l k):=by
 unfold wQ;rw[List.getD_eq_getElem?_getD,gE (by rw[AW]; exact hk)]; rfl
theorem FL{l:List Ch}(ho:∀ c∈l,c.Ok){k:Nat}(hk:k<l.length+1):I6.Le (wQ l k) 4:=by
 match k,hk with
 | 0,_=>exact Ce (by omega)
 | k+1,hk =>
  rw[lG l (by omega),List.getD_eq_getElem?_getD,gE (by omega)];exact(ho _ (List.getElem_mem _)).w
theorem I7{l:List Ch}(ho:∀ c∈l,c.Ok){i k:Nat}(hi:i<l.length)(hk:k<l.length+1) : -24000000<=cQ l i k/\cQ l i k<=24000000:=by
 unfold cQ;have hc:(l.getD i dj).Ok:=by rw[List.getD_eq_getElem?_getD,gE hi]; exact ho _ (List.getElem_mem hi)
 have h1:=cS hc.p hc.w;have h2:=cS hc.p (FL ho hk);omega
set_option maxHeartbeats 2000000 in
theorem qL{w:World}{a:OA}{c:Nat}{l:List Ch}(hr:nG w a l)(hl:l.length<=100)(ho:∀ c∈l,c.Ok) :
  CP 138 #[.slice a l.length c] w (λ r w'=>r=.bool (bO l)/\ax w w' []):=by
 refine pJ ?_;unfold mu;rw[<- DX ho];refine(St.start w).one.av z6.vs.toArray λ r1 w1 s1=>?_;have s1:St w w1 (Sep [bn (some ⟨r1,0,none⟩) 1 [z6],emp]):=St.weak s1 (bH.left (bN (n:=1) (sz:=6) rfl (by decide)));refine⟨λ a2 l2 c2 i w2 m=>∃ k:Nat,i=k/\k<=l.length/\m=l.length-k/\l2=(z6 :: (l.take k).map Ch.want).length/\St w w2 (Sep [bn a2 c2 (z6 :: (l.take k).map Ch.want),emp]),⟨l.length,0,rfl,by omega,by omega,rfl,s1⟩,?_⟩;rintro w2 m a2 l2 c2 i ⟨k,rfl,hk,hm,rfl,s2⟩ -
 by_cases hlt:(k:Int)<(l.length:Int)
 ·have hx:l[k]?=some (l[k]'(by omega)):=gE (by omega);generalize l[k]'(by omega)=y at hx;obtain⟨p,hp,hcl⟩:=(hr.an s2.an).at hx;refine cT (dT hlt) (ai hp ⟨by omega,by omega,y.want,fM hcl,s2.av y.want.vs.toArray λ r2 w3 s3=>?_⟩);have hlen4:(z6 :: (l.take k).map Ch.want).length<=101:=by simp; omega
  refine aY (l2:=[y.want]) eZ aM I6.one (s3.out 1 rfl) (cH (s3.cellsIn 0 rfl) rfl) (by simp only[List.length_singleton]; omega) (by simp only[List.length_singleton]; omega) λ a' c' w9 s9=>?_;have s9:=s9.back (i:=1) (by show 1<3; decide);have e1:(z6 :: (l.take k).map Ch.want)++[y.want]=z6 :: (l.take (k+1)).map Ch.want:=by rw[aQ hx,List.map_append]; rfl
  rw[e1] at s9 ⊢;exact⟨l.length-(k+1),by omega,k+1,ay ⟨by omega,by omega⟩,by omega,rfl,rfl,s9.aA [1,2]⟩
 obtain rfl:k=l.length:=by omega
 rw[List.take_length] at s2 ⊢;have s2:St w w2 (Sep [bn a2 c2 (nC l),emp]):=s2;have hN:(z6 :: l.map Ch.want).length=l.length+1:=by simp
 rw[hN];refine cF (dF hlt) (aE (x:=0) JI hO rfl s2 (n:=l.length+1) (by omega) (by omega) λ g w5 c5 s5=>?_);let M:Qs->List aJ:=λ s=>[Kl (some ⟨g,0,none⟩) (l.length+1) (b8 s.v (l.length+1)),bn a2 c2 (nC l),emp];have s5:St w w5 (Sep (M ⟨λ _=>0,true⟩)):=by
  have e:List.replicate (l.length+1) (0:Int)=b8 (λ _=>0) (l.length+1):=by
   apply List.ext_getElem?;intro j
   by_cases hj:j<l.length+1
   ·rw[nT _ hj,List.getElem?_replicate,if_pos hj]
   ·rw[List.getElem?_eq_none (by simp; omega),List.getElem?_eq_none (by rw[cq]; omega)]
  rw[e] at s5;exact s5
 have rdw:∀ {s:Qs} {w'},St w w' (Sep (M s))->∀ k,k<l.length+1->∃ q,a2=some q/\af w' (Addr.add q (k*6)) 0 (wQ l k).vs:=λ s k hk=>(St.rd aM (s.out 1 rfl)).at (AV l hk);have rdv:∀ {s:Qs} {w'},St w w' (Sep (M s))->∀ k,k<l.length+1->w'.cell? (Addr.add ⟨g,0,none⟩ (k*1))=some (iv (s.v k)):=λ s k hk=>by
  obtain⟨q,hq,hc⟩:=nW (St.rd hO (s.out 0 rfl)) (nT _ hk)
  cases hq; exact hc
 have rdl:∀ {w'},ax w w' []->∀ i,i<l.length->∃ q,a=some q/\af w' (Addr.add q (i*12)) 0 (l.getD i dj).cells:=λ hc i hi=>by
  have hx:l[i]?=some (l.getD i dj):=by rw[List.getD_eq_getElem?_getD,gE hi]; rfl
  exact(hr.an hc).at hx
 have okl:∀ i,i<l.length->(l.getD i dj).Ok:=λ i hi=>by rw[List.getD_eq_getElem?_getD,gE hi]; exact ho _ (List.getElem_mem hi)
 have hnN:l.length*(l.length+1)<=10100:=Nat.le_trans (Nat.mul_le_mul hl (show l.length+1<=101 by omega)) (by decide);generalize hP:l.length*(l.length+1)=P at hnN;let bd:Nat->Qs->Prop:=λ T s=>∀ j,j<l.length+1->0<=s.v j/\s.v j<=(T:Int)*24000000;refine⟨λ i w6 m=>∃ (r T:Nat) (s:Qs),i=r/\r<=l.length+2/\m=l.length+2-r/\(T=r*P/\bd T s/\DW l=qF (cQ l) (hQ l) l.length (l.length+1) (l.length+2-r) s)/\St w w6 (Sep (M s)),⟨l.length+2,0,0,⟨λ _=>0,true⟩,rfl,by omega,by omega,⟨by simp,λ j _=>⟨Int.le_refl _,by simp⟩,rfl⟩,s5⟩,?_⟩;rintro w6 m3 i ⟨r,T,s,rfl,hrr,hm3,⟨hT,hbd,hq⟩,s6⟩ -
 by_cases hlt2:(r:Int)<=((l.length+1:Nat):Int)
 rotate_left
 ·obtain rfl:r=l.length+2:=by omega
  refine cF (dF hlt2) ⟨?_,s6.an⟩;rw[hq,Nat.sub_self]; rfl
 have hTb:T<=101*10100:=by rw[hT]; exact Nat.mul_le_mul (by omega) hnN
 let t0:Qs:={ s with calm:=true };have s6:St w w6 (Sep (M t0)):=s6;refine cT (dT hlt2) ⟨λ b i w7 m=>∃ (n T' : Nat),i=n/\n<=l.length/\m=l.length-n/\(T' = T+n*(l.length+1)/\bd T' (qI (cQ l) (hQ l) (l.length+1) n t0)/\b=(qI (cQ l) (hQ l) (l.length+1) n t0).calm)/\St w w7 (Sep (M (qI (cQ l) (hQ l) (l.length+1) n t0))),⟨l.length,0,T,rfl,by omega,by omega,⟨by omega,hbd,rfl⟩,s6⟩,?_⟩;rintro w7 m5 b i ⟨n,T',rfl,hn,hm5,⟨hT',hbd',rfl⟩,s7⟩ -
 by_cases hlt3:(n:Int)<(l.length:Int)
 rotate_left
 ·obtain rfl:n=l.length:=by omega
  have eF:qF (cQ l) (hQ l) l.length (l.length+1) (l.length+2-r) s=if (qI (cQ l) (hQ l) (l.length+1) l.length t0).calm=true then true else qF (cQ l) (hQ l) l.length (l.length+1) (l.length+2-(r+1)) (qI (cQ l) (hQ l) (l.length+1) l.length t0):=by
   rw[show l.length+2-r=(l.length+2-(r+1))+1 by omega]; rfl
  refine cF (dF hlt3) ?_;rw[eF] at hq
  cases hc:(qI (cQ l) (hQ l) (l.length+1) l.length t0).calm with
  | true=>exact cT rfl ⟨by rw[hq,if_pos hc],s7.an⟩
  | false =>
   rw[if_neg (by rw[hc]; decide)] at hq;exact cF rfl ⟨l.length+2-(r+1),by omega,r+1,T',_,ay ⟨by omega,by omega⟩,by omega,rfl,⟨by rw[hT',hT,hP,Nat.add_mul,Nat.one_mul],hbd',hq⟩,s7⟩
 have hn' : n<l.length:=by omega
 have hnb:n*(l.length+1)+(l.length+1)<=P:=by
  rw[<- hP];have:=Nat.mul_le_mul_right (l.length+1) (show n+1<=l.length by omega);rw[Nat.add_mul] at this; omega
 generalize ht1:qI (cQ l) (hQ l) (l.length+1) n t0=t1 at hbd' s7;refine cT (dT hlt3) ⟨λ b i w8 m=>∃ (k T2:Nat),i=k/\k<=l.length+1/\m=l.length+1-k/\(T2=T' + k/\bd T2 (qK (cQ l) (hQ l) (l.length+1) n k t1)/\b=(qK (cQ l) (hQ l) (l.length+1) n k t1).calm)/\St w w8 (Sep (M (qK (cQ l) (hQ l) (l.length+1) n k t1))),⟨l.length+1,0,T',rfl,by omega,by omega,⟨by omega,hbd',rfl⟩,s7⟩,?_⟩;rintro w8 m7 b i ⟨k,T2,rfl,hk,hm7,⟨hT2,hbd2,rfl⟩,s8⟩ -
 by_cases hlt4:(k:Int)<((l.length+1:Nat):Int)
 rotate_left
 ·obtain rfl:k=l.length+1:=by omega
  have e:qK (cQ l) (hQ l) (l.length+1) n (l.length+1) t1=qI (cQ l) (hQ l) (l.length+1) (n+1) t0:=by rw[<- ht1]; rfl
  rw[e] at hbd2 s8 ⊢;exact cF (dF hlt4) ⟨l.length-(n+1),by omega,n+1,T2,ay ⟨by omega,by omega⟩,by omega,rfl,⟨by rw[hT2,hT',Nat.add_mul]; omega,hbd2,rfl⟩,s8⟩
 have hk' : k<l.length+1:=by omega
 have eK:qK (cQ l) (hQ l) (l.length+1) n (k+1) t1=qJ ((qK (cQ l) (hQ l) (l.length+1) n k t1).v k+cQ l n k) (hQ l n) (l.length+1) (qK (cQ l) (hQ l) (l.length+1) n k t1):=rfl;generalize qK (cQ l) (hQ l) (l.length+1) n k t1=t2 at hbd2 s8 eK;have s9:St w w8.drew (Sep (M t2)):=s8.quiet (ax.drew w8 []);obtain⟨ql,hql,hcl⟩:=rdl s9.an n hn';obtain⟨qw,hqw,hcw⟩:=rdw s9 k hk';have oc:=okl n hn';have hvk:=hbd2 k hk';have hcb:=I7 ho hn' hk';have hclp:∀ {w'} {q:Addr} {c:Ch},af w' q 0 c.cells->af w' q 0 c.p.vs:=λ {w' q c} h=>bt _ 0 λ j v hj=>by
  have h6:j<6:=(List.getElem?_eq_some_iff.1 hj).1;exact aL h j v (by
   match j,h6,hj with
   | 0,_,hj|1,_,hj|2,_,hj|3,_,hj|4,_,hj|5,_,hj=>simpa[Ch.cells,I6.on,I6.vs] using hj)
 have hT2b:T2+1<=2000000:=by omega
 have hx0 : -24000000<=t2.v k+cQ l n k/\t2.v k+cQ l n k<=((T2+1:Nat):Int)*24000000:=by
  obtain⟨v1,v2⟩:=hvk;rw[show((T2+1:Nat):Int)=(T2:Int)+1 by omega,Int.add_mul];omega
 refine cT (dT hlt4) (ai rfl ⟨by omega,by omega,t2.v k,rdv s9 k hk',ai hql ⟨by omega,by omega,(l.getD n dj).p,hclp hcl,ai hql ⟨by omega,by omega,(l.getD n dj).want,fM hcl,ai hql ⟨by omega,by omega,(l.getD n dj).p,hclp hcl,ai hqw ⟨by omega,by omega,wQ l k,hcw,aq (pO _ oc.p oc.w) ?_⟩⟩⟩⟩⟩);rintro v w10 ⟨rfl,c10⟩;have s10:St w w10 (Sep (M t2)):=s9.quiet c10;refine⟨_,rfl,aK c10 hcw,aK c10 (hclp hcl),rdv s10 k hk',aq (pO _ oc.p (FL ho hk')) ?_⟩;rintro v w11 ⟨rfl,c11⟩;have s11:St w w11 (Sep (M t2)):=s10.quiet c11;have h1:=cS oc.p oc.w;have h2:=cS oc.p (FL ho hk');have ex:IntKind.i64.wrap ((IntKind.i64.wrap (t2.v k+cost (l.getD n dj).p (l.getD n dj).want))-cost (l.getD n dj).p (wQ l k))=t2.v k+cQ l n k:=by
  obtain⟨v1,v2⟩:=hvk;rw[ay (n:=t2.v k+cost (l.getD n dj).p (l.getD n dj).want) ⟨by omega,by omega⟩,ay ⟨by omega,by omega⟩];unfold cQ; omega
 refine⟨_,rfl,rdv s11 k hk',?_⟩;rw[ex];generalize hxx:t2.v k+cQ l n k=x at hx0 eK;refine⟨λ b i w12 m=>∃ j:Nat,i=j/\j<=l.length+1/\m=l.length+1-j/\b=(qJ x (hQ l n) j t2).calm/\St w w12 (Sep (M (qJ x (hQ l n) j t2))),⟨l.length+1,0,rfl,by omega,by omega,rfl,s11⟩,?_⟩;rintro w12 m9 b i ⟨j,rfl,hj,hm9,rfl,s12⟩ -
 by_cases hlt5:(j:Int)<((l.length+1:Nat):Int)
 rotate_left
 ·obtain rfl:j=l.length+1:=by omega
  rw[<- eK] at s12 ⊢;refine cF (dF hlt5) ⟨l.length+1-(k+1),by omega,k+1,T2+1,ay ⟨by omega,by omega⟩,by omega,rfl,⟨by omega,λ j hj=>?_,rfl⟩,s12⟩;rw[eK,E3];have h3:=hbd2 j hj;have e3:((T2+1:Nat):Int)*24000000=(T2:Int)*24000000+24000000:=by rw[show((T2+1:Nat):Int)=(T2:Int)+1 by omega,Int.add_mul]; omega
  split
  ·rename_i hg; omega
  ·omega
 have hj' : j<l.length+1:=by omega
 have s13:St w w12.drew (Sep (M (qJ x (hQ l n) j t2))):=s12.quiet (ax.drew w12 []);obtain⟨q8,hq8,hc8⟩:=rdw s13 j hj';obtain⟨q9,hq9,hc9⟩:=rdl s13.an n hn';have eS:qJ x (hQ l n) (j+1) t2=if hQ l n j=true/\(qJ x (hQ l n) j t2).v j<x then ⟨iP (qJ x (hQ l n) j t2).v j x,false⟩ else qJ x (hQ l n) j t2:=rfl
 refine cT (dT hlt5) ⟨λ b w14=>b=(qJ x (hQ l n) (j+1) t2).calm/\St w w14 (Sep (M (qJ x (hQ l n) (j+1) t2))),?_,λ b w14=>b=decide (hQ l n j=true/\(qJ x (hQ l n) j t2).v j<x)/\St w w14 (Sep (M (qJ x (hQ l n) j t2))),?_,ai hq8 ⟨by omega,by omega,wQ l j,hc8,ai hq9 ⟨by omega,by omega,(l.getD n dj).want,fM hc9,?_⟩⟩⟩
 ·rintro w14 b ⟨rfl,s14⟩ -;exact⟨l.length+1-(j+1),by omega,j+1,ay ⟨by omega,by omega⟩,by omega,rfl,rfl,s14⟩
 ·rintro w14 b ⟨rfl,s14⟩ -
  by_cases hc:hQ l n j=true/\(qJ x (hQ l n) j t2).v j<x
  ·refine cT (dT hc) (ai rfl ⟨by omega,by omega,?_⟩);refine St.kQ (v:=λ x=>iv x) rfl (x:=x) (St.out (l:=M (qJ x (hQ l n) j t2)) s14 0 rfl) (i:=j) (by rw[cq]; exact hj') λ w15 s15=>?_;rw[G4 hj' hc] at s15;exact⟨by rw[eS,if_pos hc],s15⟩
  ·exact cF (dF hc) ⟨by rw[eS,if_neg hc],by rw[eS,if_neg hc]; exact s14⟩
 rw[I6.beq_eq]
 by_cases hw:wQ l j=(l.getD n dj).want
 ·have hh:hQ l n j=true:=dT hw;refine cT (dT hw) (ai rfl ⟨by omega,by omega,_,rdv s13 j hj',?_,s13⟩)
  by_cases g2:(qJ x (hQ l n) j t2).v j<x
  ·rw[dT g2,dT ⟨hh,g2⟩]
  ·rw[dF g2,dF λ h=>g2 h.2]
 ·have hh:hQ l n j=false:=dF hw;exact cF (dF hw) ⟨(dF λ h=>by rw[hh] at h; cases h.1).symm,s13⟩
theorem ze{w:World}{a:OA}{c:Nat}{l:List Ch}(h:nG w a l)(hl:l.length<=1000):CP 135 #[.slice a l.length c] w (λ r w'=>r=.bool (eW l)/\ax w w' []):=by
 refine v8 ?_;unfold uM
 by_cases h0:l.length=0
 ·have:l=[]:=List.eq_nil_of_length_eq_zero h0;subst this;exact cF (by simp) ⟨rfl,ax.refl _ _⟩
 ·have hx:l[l.length-1]?=some (l[l.length-1]'(by omega)):=gE (by omega);generalize l[l.length-1]'(by omega)=y at hx;obtain⟨p,hp,hcl⟩:=h.at hx;have e:(IntKind.i64.wrap ((l.length:Int)-(1:Int))).toNat=l.length-1:=by rw[ay ⟨by omega,by omega⟩]; omega
  have e2:IntKind.i64.wrap ((l.length:Int)-(1:Int))=(l.length:Int)-1:=ay ⟨by omega,by omega⟩;refine cT (dT (by omega)) (ai hp ⟨by omega,by omega,y.want,by rw[e]; exact fM hcl,?_,ax.refl _ _⟩);have e3:l.getLast? = some y:=by rw[List.getLast?_eq_getElem?]; exact hx
  rw[I6.beq_eq,eW,e3]; rfl
theorem qk{w:World}{s:Se}(h:xe w s){u:I6}(hu:u.l.all dD=true):CP 136 #[.agg s.arr,.agg u.vs.toArray] w (λ r w'=>r=iv (nh s.ps u)/\ax w w' []):=by
 refine wo ?_;unfold uT;refine(St.start w).one.av s.arr λ r1 w1 s1=>s1.av u.vs.toArray λ r2 w2 s2=>⟨_,_,_,s2.ag 1 rfl 0,u,s2.cellsIn 0 rfl,aq (u5 (h.an s2.an).i.ps h.o.ps hu 0) ?_⟩;rintro v w3 ⟨rfl,c3⟩;exact⟨_,_,_,rfl,rfl,(s2.quiet c3).an⟩
theorem C7{w:World}{s:Se}(h:xe w s){n:Nat}{b:Br}(hb:s.bd[n]?=some b){a:OA}{k:Nat}{l:List Ch}(hr:nG w a l)(hl:l.length<=1000)(ho:∀ c∈l,c.Ok) :
  CP 137 #[.agg s.arr,iv n,.slice a l.length k] w (λ r w'=>r=iv (xJ s b l)/\ax w w' []):=by
 refine ou ?_;unfold kD;have hn:=(List.getElem?_eq_some_iff.1 hb).1;refine(St.start w).one.av s.arr λ r1 w1 s1=>⟨_,_,_,_,_,_,_,_,_,_,_,_,s1.cellsIn 0 rfl,aq (kE (s:=s) n) ?_⟩;rintro v w2 ⟨rfl,c2⟩;have s2:St w w2 (Sep [ah r1 s.arr 27,emp]):=s1.quiet c2;obtain⟨q,hq,hcl⟩:=nL ((h.an s2.an).i.bd) hb 3 _ rfl;refine⟨_,rfl,cF (by simp; omega) ⟨_,_,_,s2.ag 0 rfl 1,ai hq ⟨by omega,by omega,b.pts,by rw[Int.toNat_natCast]; exact hcl,?_⟩⟩⟩;let f:Int->Ch->Int:=λ m c=>if nh s.ps c.want<m then nh s.ps c.want else m
 refine⟨λ x i w3 m=>∃ j:Nat,i=j/\j<=l.length/\m=l.length-j/\x=(l.take j).foldl f b.pts/\St w w3 (Sep [ah r1 s.arr 27,emp]),⟨l.length,0,rfl,by omega,by omega,rfl,s2⟩,?_⟩;rintro w3 m x i ⟨j,rfl,hj,hm,rfl,s3⟩ -
 by_cases hlt:(j:Int)<(l.length:Int)
 ·have hx:l[j]?=some (l[j]'(by omega)):=gE (by omega);generalize l[j]'(by omega)=y at hx;have ef:=dK (f:=f) (a:=b.pts) hx;have s4:=s3.quiet (ax.drew w3 []);obtain⟨p,hp,hcy⟩:=(hr.an s4.an).at hx;refine cT (dT hlt) ⟨_,_,_,_,_,_,_,_,_,_,_,_,s4.cellsIn 0 rfl,ai hp ⟨by omega,by omega,y.want,fM hcy,aq (qk (h.an s4.an) (leq (ho y (List.mem_of_getElem? hx)).w)) ?_⟩⟩;rintro v w5 ⟨rfl,c5⟩;exact⟨_,rfl,l.length-(j+1),by omega,j+1,ay ⟨by omega,by omega⟩,by omega,rfl,by rw[ef],s4.quiet c5⟩
 ·obtain rfl:l.length=j:=by omega
  rw[List.take_length];exact cF (dF hlt) ⟨rfl,s3.an⟩
section
variable {w0 w:World} {B:aJ} {a:OA} {c:Nat} {l:List Ch}
theorem DN{r k:Nat}(s:St w0 w (star (nu (some ⟨r,0,none⟩) 0 []) B))(hr:nG w a l)(hl:l.length<=1000){R:Option Addr->Nat->Nat->World->Prop}(kk:∀ a' c' w',St w0 w' (star (nu a' c' l) B)->R a' l.length c' w') :
  aW prog (Builtin.append_ #[68,68] 68 #[.slice (some ⟨r,0,none⟩) 0 0,.slice a l.length k]) w λ e w1=>∃ a l c,e=.slice a l c/\R a l c w1 :=
 aY (l2:=l) Hg Ch.len Ch.one s hr (by simp only[List.length_nil]; omega) (by simp only[List.length_nil]; omega) λ a' c' w' s'=>by
  rw[List.nil_append] at s' ⊢;exact kk a' c' w' s'
theorem A5{r:Nat}{x:Ch}(s:St w0 w (star (nu a c l) B))(hx:af w ⟨r,0,none⟩ 0 x.cells)(hl:l.length<=1000){R:Option Addr->Nat->Nat->World->Prop}(kk:∀ a' c' w',St w0 w' (star (nu a' c' (l++[x])) B)->R a' (l++[x]).length c' w') :
  aW prog (Builtin.append_ #[68,68] 68 #[.slice a l.length c,.slice (some ⟨r,0,none⟩) 1 1]) w λ e w1=>∃ a l c,e=.slice a l c/\R a l c w1 :=
 aY (l2:=[x]) Hg Ch.len Ch.one s (cH hx rfl) (by simp only[List.length_singleton]; omega) (by simp only[List.length_singleton]; omega) kk
end
set_option maxHeartbeats 1000000 in
theorem y9{w:World}{s:Se}(h:xe w s){n:Nat}{b:Br}(hb:s.bd[n]?=some b){a:OA}{k:Nat}{l:List Ch}(hr:nG w a l)(hl:l.length+1<=100)(ho:∀ c∈l,c.Ok){c:Ch}(hc:c.Ok)(rule:Int) :
  CP 94 #[.agg s.arr,iv rule,iv n,.slice a l.length k,c.v] w (λ r w'=>r=iv (mJ rule s b l c)/\ax w w' []):=by
 refine vX ?_;unfold uI;have hn:=(List.getElem?_eq_some_iff.1 hb).1;have hlc:(l++[c]).length<=100:=by simp; omega
 have hoc:∀ x∈l++[c],x.Ok:=λ x hx=>by
  rcases List.mem_append.1 hx with hx|hx
  ·exact ho x hx
  ·cases List.mem_singleton.1 hx; exact hc
 refine(St.start w).one.av s.arr λ r1 w1 s1=>s1.av c.cells.toArray λ r2 w2 s2=>?_;let M:List aJ:=[ah r2 c.cells.toArray 90,ah r1 s.arr 27,emp];have s2:St w w2 (Sep M):=s2;refine⟨λ x w3=>x=decide (¬ (1<=rule/\rule<=3))/\St w w3 (Sep M),?_,?_⟩
 rotate_left
 ·by_cases g:rule<1
  ·exact cT (dT g) ⟨(dT (by omega)).symm,s2⟩
  ·refine cF (dF g) ⟨?_,s2⟩
   by_cases g2:rule>3
   ·rw[dT g2,dT (show ¬ (1<=rule/\rule<=3) by omega)]
   ·rw[dF g2,dF (show ¬ ¬ (1<=rule/\rule<=3) by omega)]
 rintro w3 x ⟨rfl,s3⟩ -
 by_cases hrl:1<=rule/\rule<=3
 rotate_left
 ·exact cT (dT hrl) ⟨by rw[mJ,if_neg hrl],s3.an⟩
 have eA:mJ rule s b l c=if (if eW l then decide (c.want=z6) else mD rule s b l c) then 0 else 15:=by rw[mJ,if_pos hrl]
 refine cF (dF (λ hh=>hh hrl)) ⟨_,_,_,_,_,_,_,_,_,_,_,_,s3.cellsIn 1 rfl,aq (kE (s:=s) n) ?_⟩;rintro v w4 ⟨rfl,c4⟩;have s4:St w w4 (Sep M):=s3.quiet c4;refine⟨_,rfl,cF (by simp; omega) ⟨c.want,bz s4 0 rfl,aq (cM w4 c.want) ?_⟩⟩;rintro v w5 ⟨rfl,c5⟩;have s5:St w w5 (Sep M):=s4.quiet c5;refine⟨_,rfl,cF (by rw[leq hc.w]; rfl) (aq (ze (hr.an s5.an) (by omega)) ?_)⟩;rintro v w6 ⟨rfl,c6⟩;have s6:St w w6 (Sep M):=s5.quiet c6;refine⟨_,rfl,?_⟩
 cases hex:eW l with
 | true =>
  rw[hex] at eA;refine cT rfl ⟨c.want,bz s6 0 rfl,?_⟩;rw[I6.beq_eq]
  by_cases g:c.want=z6
  ·exact cT (dT g) ⟨by rw[eA,if_pos rfl,if_pos (dT g)],s6.an⟩
  ·exact cF (dF g) ⟨by rw[eA,if_pos rfl,if_neg (by rw[dF g]; decide)],s6.an⟩
 | false =>
 rw[hex,if_neg (show ¬ false=true by decide)] at eA;have s7:St w w6.drew (Sep M):=s6.quiet (ax.drew w6 []);refine cF rfl ⟨λ x w7=>x=(decide (rule≠2)&&mg s b l c)/\St w w7 (Sep M),?_,?_⟩
 rotate_left
 ·by_cases g:rule=2
  ·exact cF (by simpa using g) ⟨by rw[dF (λ hh=>hh g)]; rfl,s7⟩
  ·refine cT (by simpa using g) ⟨_,_,_,_,_,_,_,_,_,_,_,_,s7.cellsIn 1 rfl,c.want,bz s7 0 rfl,_,_,_,_,_,_,_,_,_,_,_,_,s7.cellsIn 1 rfl,aq (qk (h.an s7.an) (leq hc.w)) ?_⟩;rintro v w8 ⟨rfl,c8⟩;have s8:St w w8 (Sep M):=s7.quiet c8;refine⟨_,rfl,s8.cellsIn 1 rfl,aq (C7 (h.an s8.an) hb (hr.an s8.an) (by omega) ho) ?_⟩;rintro v w9 ⟨rfl,c9⟩;exact⟨_,rfl,by rw[dT g,Bool.true_and]; rfl,s8.quiet c9⟩
 rintro w7 x ⟨rfl,s8⟩ -;have hru:mD rule s b l c=((decide (rule≠2)&&mg s b l c)||(decide (rule≠1)&&bO (l++[c]))):=by
  unfold mD
  by_cases g1:rule=1
  ·rw[if_pos g1,dT (show rule≠2 by omega),dF (λ hh=>hh g1)]; simp
  ·rw[if_neg g1,dT g1,Bool.true_and]
   by_cases g2:rule=2
   ·rw[if_pos g2,dF (λ hh=>hh g2)]; simp
   ·rw[if_neg g2,dT g2,Bool.true_and]
 rw[hru] at eA
 cases hf:(decide (rule≠2)&&mg s b l c) with
 | true=>exact cT rfl ⟨by rw[eA,hf]; rfl,s8.an⟩
 | false =>
 rw[hf,Bool.false_or] at eA;have s9:St w w7.drew (Sep M):=s8.quiet (ax.drew w7 []);refine cF rfl ⟨λ x w8=>x=(decide (rule≠1)&&bO (l++[c]))/\ax w w8 [],?_,?_⟩
 ·rintro w8 x ⟨rfl,c8⟩ -
  cases hg:(decide (rule≠1)&&bO (l++[c])) with
  | true=>exact cT rfl ⟨by rw[eA,hg]; rfl,c8⟩
  | false=>exact cF rfl ⟨by rw[eA,hg]; rfl,c8⟩
 by_cases g1:rule=1
 ·have e0:false=(decide (rule≠1)&&bO (l++[c])):=by rw[dF (λ hh=>hh g1)]; rfl
  exact cF (by simpa using g1) ⟨⟨⟨e0,s9.an⟩,e0,s9.an⟩,e0,s9.an⟩
 have fin:∀ {a' : OA} {c' : Nat} {w' : World} {B:aJ},St w w' (star (nu a' c' (l++[c])) B)->CC 138 #[.slice a' (l++[c]).length c'] w' λ e w''=>∃ b:Bool,e=.returned (.bool b)/\b=(decide (rule≠1)&&bO (l++[c]))/\ax w w'' []:=λ s' =>
  aq (qL (St.rd Ch.len s') hlc hoc) λ v w'' hv=>⟨bO (l++[c]),by rw[hv.1],by rw[dT g1,Bool.true_and],s'.an.trans hv.2 (by simp)⟩
 refine cT (by simpa using g1) ⟨c.p,c.want,s9.cellsIn 0 rfl,⟨?_,?_⟩⟩
 ·refine s9.av #[] λ r3 w10 t1=>⟨t1.cellsIn 1 rfl,⟨?_,?_⟩⟩
  ·have t2:St w w10 (star (nu (some ⟨r3,0,none⟩) 0 []) (Sep M)):=St.weak t1 (bH.left (bN (n:=0) (sz:=12) rfl (by decide)));refine DN t2 (hr.an t1.an) (by omega) λ a' c' w11 t3=>?_;have t3:St w w11 (Sep [nu a' c' l,ah r2 c.cells.toArray 90,ah r1 s.arr 27,emp]):=t3;refine⟨t3.cellsIn 1 rfl,t3.av c.cells.toArray λ r4 w12 t4=>?_⟩;refine A5 (x:=c) (t4.out 1 rfl) (t4.cellsIn 0 rfl) (by omega) λ a2 c2 w13 t5=>fin t5
  ·refine t1.av c.cells.toArray λ r5 w11 t3=>?_;have t4:St w w11 (Sep [ah r3 #[] 90,ah r5 c.cells.toArray 90,emp]):=t3.aA [1,0,4];have t5:St w w11 (star (nu (some ⟨r3,0,none⟩) 0 []) (Sep [ah r5 c.cells.toArray 90,emp])):=St.weak t4 (bH.left (bN (n:=0) (sz:=12) rfl (by decide)));refine DN t5 (hr.an t5.an) (by omega) λ a' c' w12 t6=>?_;have t6:St w w12 (Sep [nu a' c' l,ah r5 c.cells.toArray 90,emp]):=t6;exact A5 (x:=c) (t6.out 0 rfl) (t6.cellsIn 1 rfl) (by omega) λ a2 c2 w13 t7=>fin t7
 ·refine s9.av c.cells.toArray λ r6 w10 t1=>t1.av #[] λ r7 w11 t3=>?_;have t4:St w w11 (Sep [ah r7 #[] 90,ah r6 c.cells.toArray 90,emp]):=t3.aA [0,1,4];have t5:St w w11 (star (nu (some ⟨r7,0,none⟩) 0 []) (Sep [ah r6 c.cells.toArray 90,emp])):=St.weak t4 (bH.left (bN (n:=0) (sz:=12) rfl (by decide)));refine DN t5 (hr.an t5.an) (by omega) λ a' c' w12 t6=>?_;have t6:St w w12 (Sep [nu a' c' l,ah r6 c.cells.toArray 90,emp]):=t6;exact A5 (x:=c) (t6.out 0 rfl) (t6.cellsIn 1 rfl) (by omega) λ a2 c2 w13 t7=>fin t7
theorem St.GU{w0 w1 w:World}{l:List aJ}(s:St w0 w (Sep l))(h:ax w1 w [])(cs:Array Value){T:TypeId}{R:Nat->World->Prop}(k:∀ r w',St w0 w' (Sep (ah r cs T :: l))->ax w1 w' []->R r w'):au w (.cells cs T) R :=
 k _ _ (s.cm cs T) (h.trans (ax.new _ _ []) (by simp))
theorem nv(w:World){b:Int}(hb:Go.Vc.In b):CP 31 #[iv b] w (λ r w'=>∃ a1 a2,r=.agg (o5 b a1 a2 2).arr/\(∀ {w''},ax w' w'' []->(o5 b a1 a2 2).In w'')/\ax w w' []):=by
 refine tG ?_;unfold sg;refine(St.start w).one.av _ λ r1 w1 s1=>s1.av (l:=[_,_]) (Ky.flatMap Pr.cells).toArray λ r2 w2 s2=>s2.av (l:=[_,_,_]) ((Kx b).flatMap Br.cells).toArray λ r3 w3 s3=>s3.az 2 rfl (o5 b (some ⟨r2,0,none⟩) (some ⟨r3,0,none⟩) 2).arr.toList rfl (by intro v hv; simp[Se.arr,o5] at hv; rcases hv with rfl|rfl|rfl<;>rfl) λ w4 s4=>?_;refine⟨_,_,_,_,_,_,_,_,_,_,_,_,s4.cellsIn 2 rfl,some ⟨r2,0,none⟩,some ⟨r3,0,none⟩,rfl,λ {w''} hc=>?_,s4.an⟩;have s5:=s4.quiet hc;have i64:∀ n:Int,0<=n->n<=5->Go.Vc.In n:=λ n h1 h2=>⟨by omega,by omega⟩;refine⟨λ i x hx=>?_,λ i x hx=>?_,λ i x hx=>?_,λ i x hx=>?_,Nat.le_refl 2,Nat.le_refl 2,Nat.le_refl 0,Nat.le_refl 0⟩
 ·match i,hx with
  | 0,rfl=>exact⟨⟨i64 _ (by decide) (by decide),i64 _ (by decide) (by decide),i64 _ (by decide) (by decide),i64 _ (by decide) (by decide)⟩,_,rfl,by rw[dN]; exact s5.aF 1 0 rfl rfl⟩
  | 1,rfl=>exact⟨⟨i64 _ (by decide) (by decide),i64 _ (by decide) (by decide),i64 _ (by decide) (by decide),i64 _ (by decide) (by decide)⟩,_,rfl,by rw[dN]; exact s5.aF 1 5 rfl rfl⟩
 ·match i,hx with
  | 0,rfl=>exact⟨⟨i64 0 (by decide) (by decide),hb,i64 5 (by decide) (by decide)⟩,_,rfl,by rw[dN]; exact s5.aF 0 0 rfl rfl⟩
  | 1,rfl=>exact⟨⟨i64 _ (by decide) (by decide),i64 _ (by decide) (by decide),i64 _ (by decide) (by decide)⟩,_,rfl,by rw[dN]; exact s5.aF 0 4 rfl rfl⟩
 ·exact absurd hx (by show ¬ ([]:List T3)[i]?=some x; simp)
 ·exact absurd hx (by show ¬ ([]:List T3)[i]?=some x; simp)
theorem x9(w:World):CP 32 #[] w (λ r w'=>∃ a,r=.slice a 2 2/\(∀ {w''},ax w' w'' []->iQ w'' a Hv)/\ax w w' []):=by
 refine qD ?_;unfold nX;refine(St.start w).one.av (Hv.flatMap Of.cells).toArray λ r1 w1 s1=>⟨_,rfl,λ {w''} hc i x hx=>?_,s1.an⟩;have s5:=s1.quiet hc
 match i,hx with
 | 0,rfl=>exact⟨_,_,rfl,by rw[dN]; exact s5.aF 0 0 rfl rfl,rfl,rfl⟩
 | 1,rfl=>exact⟨_,_,rfl,by rw[dN]; exact s5.aF 0 8 rfl rfl,rfl,rfl⟩
theorem IQ(w:World)(n:Int)(a:OA)(l c:Nat):CP 25 #[.pointer none,iv n,.slice a l c] w (λ r w'=>r=.slice none 0 0/\w' = w):=by
 refine kB ?_;unfold gN;exact⟨rfl,rfl⟩
theorem ke(b:Int)(a1 a2:OA)(c:Nat):(o5 b a1 a2 c).er=o5 b none none 0:=rfl
theorem rV{b:Int}(h0:0<=b)(h1:b<=5):Go.Vc.In b:=⟨by omega,by omega⟩
theorem wK(S:Se)(o:Po)(n:Nat):dV S.er o n=dV S o n:=rfl
def Jb(r5 r6:Nat):List Lx:=[⟨some ⟨r5,0,none⟩,1,[⟨0,⟨1,0,0,0,0,0⟩,5⟩]⟩,⟨some ⟨r6,0,none⟩,1,[⟨0,⟨1,0,0,0,0,0⟩,3⟩]⟩]
def JX:List Lx:=[⟨none,0,[]⟩,⟨none,0,[]⟩]
set_option maxHeartbeats 2000000 in
theorem iq{w:World}(ht:zH w):CP 9 #[] w (λ r w'=>r=.bool true/\ax w w' []):=by
 refine rZ ?_;unfold p8;refine aq (nv w (rV (by decide) (by decide))) ?_;rintro v w1 ⟨a1,a2,rfl,i1,c1⟩;have s1:=(St.start w).one.quiet c1;refine⟨_,_,_,_,_,_,_,_,_,_,_,_,rfl,aq (x9 w1) ?_⟩;rintro v w2 ⟨a3,rfl,o2,c2⟩;have s2:=s1.quiet c2;refine⟨_,_,_,rfl,aq (mM (i1 c2) (o2 (ax.refl _ _)) (by decide) 0 ⟨3,1,0,0,0,0⟩) ?_⟩;rintro v w3 ⟨rfl,c3⟩;have s3:=s2.quiet c3;rw[<- nM,ke,show o5 0 none none 0=zT from rfl,Jc];refine⟨⟨1,1,0,0,0,0⟩,0,rfl,s3.av z6.vs.toArray λ r1 w4 s4=>s4.az 0 rfl (⟨1,1,0,0,0,0⟩:I6).vs rfl (I6.one _) λ w5 s5=>?_⟩;refine aq (nv w5 (rV (b:=3) (by decide) (by decide))) ?_;rintro v w6 ⟨b1,b2,rfl,i6,c6⟩;have s6:=s5.quiet c6;refine⟨_,_,_,_,_,_,_,_,_,_,_,_,rfl,aq (x9 w6) ?_⟩;rintro v w7 ⟨a4,rfl,o7,c7⟩;have s7:=s6.quiet c7;refine⟨_,_,_,rfl,aq (mM (i6 c7) (o7 (ax.refl _ _)) (by decide) 0 ⟨3,1,0,0,0,0⟩) ?_⟩;rintro v w8 ⟨rfl,c8⟩;have s8:=s7.quiet c8;rw[<- nM,ke,Jd];refine⟨⟨1,0,0,0,0,0⟩,0,rfl,s8.av z6.vs.toArray λ r2 w9 s9=>s9.az 0 rfl (⟨1,0,0,0,0,0⟩:I6).vs rfl (I6.one _) λ w10 s10=>?_⟩;refine aq (nv w10 (rV (b:=0) (by decide) (by decide))) ?_;rintro v w11 ⟨d1,d2,rfl,i11,c11⟩;have s11:=s10.quiet c11;refine⟨_,_,_,_,_,_,_,_,_,_,_,_,rfl,aq (x9 w11) ?_⟩;rintro v w12 ⟨a5,rfl,o12,c12⟩;have s12:=s11.quiet c12;refine⟨_,_,_,rfl,aq (mM (i11 c12) (o12 (ax.refl _ _)) (by decide) 2 z6) ?_⟩;rintro v w13 ⟨rfl,c13⟩;have s13:=s12.quiet c13;rw[<- nM,ke,show o5 0 none none 0=zT from rfl,Je];generalize(cG zT 2 Hv z6).1=u3;refine⟨u3,6,rfl,s13.av z6.vs.toArray λ r3 w14 s14=>s14.az 0 rfl u3.vs rfl (I6.one _) λ w15 s15=>?_⟩;refine aq (nv w15 (rV (b:=0) (by decide) (by decide))) ?_;rintro v w16 ⟨f1,f2,rfl,i16,c16⟩;have s16:=s15.quiet c16;refine⟨_,_,_,_,_,_,_,_,_,_,_,_,rfl,aq (x9 w16) ?_⟩;rintro v w17 ⟨a6,rfl,o17,c17⟩;have s17:=s16.quiet c17;refine⟨_,_,_,rfl,aq (mM (i16 c17) (o17 (ax.refl _ _)) (by decide) 0 ⟨-1,0,0,0,0,0⟩) ?_⟩;rintro v w18 ⟨rfl,c18⟩;have s18:=s17.quiet c18;rw[<- nM,ke,show o5 0 none none 0=zT from rfl,Jf];generalize(cG zT 0 Hv ⟨-1,0,0,0,0,0⟩).1=u4;refine⟨u4,4,rfl,s18.av z6.vs.toArray λ r4 w19 s19=>s19.az 0 rfl u4.vs rfl (I6.one _) λ w20 s20=>?_⟩;refine aq (nv w20 (rV (b:=0) (by decide) (by decide))) ?_;rintro v w21 ⟨g1,g2,rfl,i21,c21⟩;have s21:=s20.quiet c21;refine⟨_,_,_,_,_,_,_,_,_,_,_,_,rfl,St.GU s21 (ax.refl w21 []) (⟨0,⟨1,0,0,0,0,0⟩,5⟩:Of).cells.toArray λ r5 w22 s22 c22=>St.GU s22 c22 (⟨0,⟨1,0,0,0,0,0⟩,3⟩:Of).cells.toArray λ r6 w23 s23 c23=>St.GU s23 c23 #[.slice (some ⟨r5,0,none⟩) 1 1,.slice (some ⟨r6,0,none⟩) 1 1] λ r7 w24 s24 c24=>?_⟩;have hL1:wV w24 (some ⟨r7,0,none⟩) (Jb r5 r6):=by
  refine⟨λ i x hx=>?_,λ x hx=>?_⟩
  ·match i,hx with
   | 0,rfl=>exact⟨_,_,rfl,by rw[dN]; exact s24.aF 0 0 rfl rfl,rfl,rfl⟩
   | 1,rfl=>exact⟨_,_,rfl,by rw[dN]; exact s24.aF 0 1 rfl rfl,rfl,rfl⟩
  ·simp only[Jb,List.mem_cons,List.not_mem_nil,or_false] at hx;rcases hx with rfl|rfl
   ·exact⟨cH (s24.cellsIn 2 rfl) rfl,by show(1:Nat)<=100000; decide⟩
   ·exact⟨cH (s24.cellsIn 1 rfl) rfl,by show(1:Nat)<=100000; decide⟩
 have hr1:dV (o5 0 g1 g2 2) zD (Jb r5 r6).length=0:=(wK _ _ _).symm.trans (by rw[ke]; exact Be.1);have hk1:=pH (i21 c24) zD (cl:=2) hL1;generalize hRM:runM (o5 0 g1 g2 2) zD (Jb r5 r6)=RM at hk1;refine aq hk1 ?_;rintro v w25 (⟨h0,_⟩|⟨_,_,_,_,g,C,eC,hi,hov,rfl,k25⟩)
 ·exact absurd hr1 h0
 have s25:=s24.and k25;rw[<- hRM,Fo,ke,show(Jb r5 r6).map Lx.l=Gx from rfl] at eC;have eC:C.er=(Dm zT zD Gx).er:=eC;have hcl:C.cl.length=4:=by
  have:=congrArg (λ C:Ck=>C.cl.length) eC;simp only[mZ] at this;rw[this]; exact Be.2.1
 have hp:C.p=⟨3,0,0,0,0,0⟩:=by
  have hpe:∀ D:Ck,D.er.p=D.p:=λ _=>rfl;have h3:=congrArg Ck.p eC;rw[hpe,hpe,Be.2.2] at h3;exact h3
 refine⟨_,_,rfl,aq (nv w25 (rV (b:=0) (by decide) (by decide))) ?_⟩;rintro v w26 ⟨g3,g4,rfl,i26,c26⟩;have s26:=s25.quiet c26;have hr2:dV (o5 0 g3 g4 2) zD ([]:List Lx).length=3:=(wK _ _ _).symm.trans (by rw[ke]; exact Jg);have hk3:=pH (i26 (ax.refl _ _)) zD (al:=none) (cl:=0) (L:=[]) ⟨λ i x hx=>by simp at hx,λ x hx=>by simp at hx⟩;generalize runM (o5 0 g3 g4 2) zD []=RM3 at hk3;refine⟨_,_,_,_,_,_,_,_,_,_,_,_,rfl,aq hk3 ?_⟩;rintro v w27 (⟨h0,rfl,c27⟩|⟨h0,_⟩)
 rotate_left
 ·rw[hr2] at h0; cases h0
 rw[hr2];have s27:=s26.quiet c27;refine⟨_,_,rfl,aq (nv w27 (rV (b:=0) (by decide) (by decide))) ?_⟩;rintro v w28 ⟨g5,g6,rfl,i28,c28⟩;have s28:=s27.quiet c28;refine⟨_,_,_,_,_,_,_,_,_,_,_,_,rfl,St.GU (l:=Sep (eu g C) :: _) s28 (ax.refl w28 []) #[.slice none 0 0,.slice none 0 0] λ r8 w29 s29 c29=>?_⟩;have hL2:wV w29 (some ⟨r8,0,none⟩) JX:=by
  refine⟨λ i x hx=>?_,λ x hx=>?_⟩
  ·match i,hx with
   | 0,rfl=>exact⟨_,_,rfl,by rw[dN]; exact s29.aF 0 0 rfl rfl,rfl,rfl⟩
   | 1,rfl=>exact⟨_,_,rfl,by rw[dN]; exact s29.aF 0 1 rfl rfl,rfl,rfl⟩
  ·simp only[JX,List.mem_cons,List.not_mem_nil,or_false] at hx;rcases hx with rfl|rfl<;>exact⟨λ i x hx=>by simp at hx,by decide⟩
 have hr3:dV (o5 0 g5 g6 2) zD JX.length=0:=(wK _ _ _).symm.trans (by rw[ke]; exact Be.1);have hk2:=xK (i28 c29) (ht.an s29.an) zD (cl:=2) hL2;generalize hRM2:runM (o5 0 g5 g6 2) zD JX=RM2 at hk2;refine aq hk2 ?_;rintro v w30 (⟨h0,_⟩|⟨_,_,_,_,ae,ce,rfl,k30⟩)
 ·exact absurd hr3 h0
 have s30:St w w30 (Sep (oI ae ce _ :: ah r8 _ _ :: Sep (eu g C) :: _)):=s29.and k30;have eE:∃ t,nS (o5 0 g5 g6 2) RM2=[tF t,qC 0 z6,qC 1 z6,o4]:=by
  have e1:RM2.er=(Dm zT zD [[],[]]).er:=by rw[<- hRM2]; exact Fo _ _ _
  have e2:RM2.cl.map Rn.ask=[[z6,z6]]:=by
   have h1:=congrArg (λ C:Ck=>C.cl.map Rn.ask) e1;have h2:∀ C:Ck,C.er.cl.map Rn.ask=C.cl.map Rn.ask:=λ C=>by show(C.cl.map Rn.er).map Rn.ask=_; rw[List.map_map]; rfl
   simp only[h2] at h1;rw[h1]; exact Jh
  generalize RM2=D at e2;unfold nS;generalize dM (o5 0 g5 g6 2)=t
  match h:D.cl,e2 with
  | [x],e2 =>
   have hx:x.ask=[z6,z6]:=by simpa using e2
   refine⟨t,?_⟩;show tE x.ask [tF t] x.ask.length++[o4]=_;rw[hx]; rfl
  | [],e2=>cases e2
  | _ :: _ :: _,e2=>simp at e2
 obtain⟨t,eE⟩:=eE;rw[eE] at s30 ⊢;have rd:∀ {w'},ax w30 w' []->C.Rd g w':=λ hc=>((s30.out 2 rfl).first.imp nO).an hc;have hE:∀ {w'},ax w30 w' []->bU 11 Ev.cells w' ae [tF t,qC 0 z6,qC 1 z6,o4]:=λ hc=>(St.rd rU (s30.out 0 rfl)).an hc;refine⟨ae,4,ce,0,rfl,λ b w31=>b=false/\w31=w30,?_,cF rfl ⟨_,s30.cellsIn 9 rfl,cF rfl (cF rfl ⟨_,s30.cellsIn 8 rfl,cF rfl (cF rfl (cF rfl (cF rfl (cF rfl ⟨rfl,rfl⟩))))⟩)⟩⟩;rintro w31 _ ⟨rfl,rfl⟩ -;refine cF rfl (aq (vH (rd (ax.refl _ _))) ?_);rintro v w32 ⟨rfl,rfl⟩;refine⟨_,rfl,?_⟩;rw[hov];refine cT rfl (aq (Ep (rd (ax.refl _ _))) ?_);rintro v w33 ⟨rfl,rfl⟩;refine⟨_,rfl,?_⟩;rw[hcl];refine cT rfl (aq (ld (rd (ax.refl _ _))) ?_);rintro v w34 ⟨rfl,c34⟩;refine⟨_,rfl,?_⟩;rw[hp];obtain⟨q1,hq1,hc1⟩:=(hE c34).at (i:=1) (x:=qC 0 z6) rfl;obtain⟨q3,hq3,hc3⟩:=(hE c34).at (i:=3) (x:=o4) rfl;refine cT rfl (cT rfl (cT rfl (ai hq1 ⟨by decide,by decide,_,_,_,z6,_,_,hc1,cT (by decide) (ai hq3 ⟨by decide,by decide,_,_,_,z6,_,_,hc3,cT (by decide) (aq (x9 w34) ?_)⟩)⟩)));rintro v w35 ⟨a7,rfl,_,c35⟩;refine⟨_,_,_,rfl,aq (IQ w35 0 a7 2 2) ?_⟩;rintro v w36 ⟨rfl,rfl⟩;exact⟨_,_,_,rfl,rfl,((s30.quiet c34).quiet c35).an⟩
def jv(a:OA)(b c:Nat)(d:OA)(e f:Nat)(g:OA)(h i:Nat)(j:OA)(k l:Nat)(m:Int)(n:OA)(o p:Nat)(q:I6)(w:World)(K:KP):=au w (.cells #[.slice a b c,.slice d e f,.slice g h i,.slice j k l] 27) λ a b=>au b (.cells q.vs.toArray 30) λ b c=>∃ d e f g h i j k l q r s,af c (qd a 0) 0 [.slice d e f,.slice g h i,.slice j k l,.slice q r s]/\au c (.cells #[.slice n o p] 28) λ c t=>CC 8 #[.agg #[.slice d e f,.slice g h i,.slice j k l,.slice q r s],.slice (some (qd c 0)) 1 1] t λ c d=>∃ e,c=.returned (.bool e)/\cond (!e) (CC 9 #[] d λ c e=>∃ f,c=.returned (.bool f)/\K (.bool f) e) (∃ c e f g h i j k l q r s,af d (qd a 0) 0 [.slice c e f,.slice g h i,.slice j k l,.slice q r s]/\∃ t:I6,af d (qd b 0) 0 t.vs/\CC 10 #[.agg #[.slice c e f,.slice g h i,.slice j k l,.slice q r s],iv m,.slice n o p,.agg t.vs.toArray] d λ c d=>∃ e:I6,∃ f,c=.returned (.tuple #[.agg e.vs.toArray,iv f])/\au d (.cells z6.vs.toArray 35) λ c d=>aN (qd c 0) 0 e.vs d λ d=>∃ e g h i j k l q r s t u,af d (qd a 0) 0 [.slice e g h,.slice i j k,.slice l q r,.slice s t u]/\∃ a:I6,af d (qd b 0) 0 a.vs/\CC 11 #[.agg #[.slice e g h,.slice i j k,.slice l q r,.slice s t u],iv m,.slice n o p,.agg a.vs.toArray] d λ a b=>∃ d:I6,∃ e,a=.returned (.tuple #[.agg d.vs.toArray,iv e])/\au b (.cells z6.vs.toArray 35) λ a b=>aN (qd a 0) 0 d.vs b λ b=>∃ d:I6,af b (qd c 0) 0 d.vs/\∃ c:I6,af b (qd a 0) 0 c.vs/\cond (I6.beq d c) (cond (f==e) (CC 9 #[] b λ a c=>∃ d,a=.returned (.bool d)/\K (.bool d) c) (K (.bool false) b)) (K (.bool false) b))
theorem mW{a1 l1 c1 a2 l2 c2 a3 l3 c3 a4 l4 c4 n1 a5 l5 c5 u1 w K}(h:jv a1 l1 c1 a2 l2 c2 a3 l3 c3 a4 l4 c4 n1 a5 l5 c5 u1 w K):CP 3 #[.agg #[.slice a1 l1 c1,.slice a2 l2 c2,.slice a3 l3 c3,.slice a4 l4 c4],iv n1,.slice a5 l5 c5,.agg u1.vs.toArray] w K:=aj (aC []) func3 (by kernel_rfl) (by kernel_rfl) h
theorem EV{w:World}(ht:zH w){S:Se}(h:S.In w){a:OA}{c:Nat}{l:List Of}(hl:iQ w a l)(n:Int)(p:I6) :
  CP 3 #[.agg S.arr,iv n,.slice a l.length c,.agg p.vs.toArray] w (λ r w'=>r=.bool true/\ax w w' []):=by
 refine mW ?_;unfold jv;refine(St.start w).one.av S.arr λ r1 w1 s1=>s1.av p.vs.toArray λ r2 w2 s2=>⟨_,_,_,_,_,_,_,_,_,_,_,_,s2.cellsIn 1 rfl,s2.av #[.slice a l.length c] λ r3 w3 s3=>?_⟩;have s3:St w w3 (Sep [ah r3 #[.slice a l.length c] 28,ah r2 p.vs.toArray 30,ah r1 S.arr 27,emp]):=s3;have hF:bU 1 Lx.cells w3 (some ⟨r3,0,none⟩) [⟨a,c,l⟩]:=cH (s3.cellsIn 0 rfl) rfl;refine aq (kF (L:=[⟨a,c,l⟩]) (h.an s3.an) hF) ?_;rintro v w4 ⟨⟨b,rfl,hb⟩,c4⟩;have s4:=s3.quiet c4;refine⟨_,rfl,?_⟩;have aw:∀ {w'},ax w w' []->CC 9 #[] w' λ e2 w5=>∃ b2,e2=.returned (.bool b2)/\(.bool b2:Value)=.bool true/\ax w w5 []:=λ hc=>aq (iq (ht.an hc)) λ v w5 hv=>⟨true,by rw[hv.1],rfl,hc.trans hv.2 (by simp)⟩
 cases b with
 | false=>exact cT rfl (aw s4.an)
 | true =>
 have hlen:l.length<=100000:=by have:=(hb rfl).l _ (List.mem_singleton.2 rfl); simp only[] at this; omega
 refine cF rfl ⟨_,_,_,_,_,_,_,_,_,_,_,_,s4.cellsIn 2 rfl,p,s4.cellsIn 1 rfl,aq (mM (h.an s4.an) (hl.an s4.an) hlen n p) ?_⟩;rintro v w6 ⟨rfl,c6⟩;refine⟨_,_,rfl,(s4.quiet c6).av z6.vs.toArray λ r4 w7 s7=>s7.az 0 rfl _ rfl (I6.one _) λ w8 s8=>⟨_,_,_,_,_,_,_,_,_,_,_,_,s8.cellsIn 3 rfl,p,s8.cellsIn 2 rfl,aq (uY (h.an s8.an) (hl.an s8.an) hlen n p) ?_⟩⟩;rintro v w9 ⟨rfl,c9⟩;refine⟨_,_,rfl,(s8.quiet c9).av z6.vs.toArray λ r5 w10 s10=>s10.az 0 rfl _ rfl (I6.one _) λ w11 s11=>⟨_,s11.cellsIn 1 rfl,_,s11.cellsIn 0 rfl,?_⟩⟩;exact cT (by simp[I6.beq]) (cT (by simp) (aw s11.an))
def yD(a b c d:Int)(w:World)(K:KP):=au w (.cells #[iv a,iv b,iv c,iv d] 41) λ a b=>∃ c:Bool->qW,(∀ d e,c e d->∀ f:qv,cond e (K (iv 4) d) (K qz d))/\∃ d,b.cell? (qd a 0)=some (iv d)/\cond (decide (d<1)) (c true b) (∃ d,b.cell? (qd a 0)=some (iv d)/\cond (decide (d>1000000)) (c true b) (∃ d,b.cell? (qd a 1)=some (iv d)/\cond (decide (d<0)) (c true b) (∃ d,b.cell? (qd a 1)=some (iv d)/\cond (decide (d>100)) (c true b) (∃ d,b.cell? (qd a 2)=some (iv d)/\cond (decide (d<1)) (c true b) (∃ d,b.cell? (qd a 2)=some (iv d)/\cond (decide (d>3)) (c true b) (∃ d,b.cell? (qd a 3)=some (iv d)/\cond (decide (d<1)) (c true b) (∃ d,b.cell? (qd a 3)=some (iv d)/\c (decide (d>3)) b)))))))
theorem yE{n1 n2 n3 n4 w K}(h:yD n1 n2 n3 n4 w K):CP 23 #[.agg #[iv n1,iv n2,iv n3,iv n4]] w K:=aj (aC [(6,[(40,.s .bool)])]) func23 (by kernel_rfl) (by kernel_rfl) h
def jw(a:OA)(b c:Nat)(d:OA)(e f:Nat)(g:OA)(h i:Nat)(j:OA)(k l:Nat)(m n o p:Int)(q:OA)(r s:Nat)(w:World)(K:KP):=au w (.cells #[.slice a b c,.slice d e f,.slice g h i,.slice j k l] 27) λ a b=>au b (.cells #[iv m,iv n,iv o,iv p] 41) λ b c=>∃ d:Bool->qW,(∀ e f,d f e->∀ g:qv,cond f (CC 9 #[] e λ f g=>∃ h,f=.returned (.bool h)/\K (.bool h) g) (∃ f:Int->qN,(∃ g,f 0 e g)/\∀ e g h,f h e g->∀ i:qv,∃ i j k,e.cell? (qd a 1)=some (.slice i j k)/\cond (decide (h<(j:Int))) (∃ i j k,e.cell? (qd a 1)=some (.slice i j k)/\ak i λ i=>0<=h/\h<(j:Int)/\∃ j,e.cell? (Addr.add (Addr.add i ((h).toNat*4)) 2)=some (iv j)/\cond (j !=0) (CC 9 #[] e λ i j=>∃ k,i=.returned (.bool k)/\K (.bool k) j) (∃ i,i<g/\f (IntKind.i64.wrap (h+1)) e i)) (dW e (qd b 3) (iv 2) λ e=>∃ f g h i,af e (qd b 0) 0 [iv f,iv g,iv h,iv i]/\CC 23 #[.agg #[iv f,iv g,iv h,iv i]] e λ e f=>∃ g,e=.returned (iv g)/\cond (g !=0) (CC 9 #[] f λ e g=>∃ h,e=.returned (.bool h)/\K (.bool h) g) (∃ e g h i j k l m n o p t,af f (qd a 0) 0 [.slice e g h,.slice i j k,.slice l m n,.slice o p t]/\∃ u v x y,af f (qd b 0) 0 [iv u,iv v,iv x,iv y]/\CC 12 #[.agg #[.slice e g h,.slice i j k,.slice l m n,.slice o p t],.agg #[iv u,iv v,iv x,iv y],.slice q r s] f λ b e=>∃ f g,b=.returned (.tuple #[.pointer f,iv g])/\∃ b:Bool->qW,(∀ h i,b i h->∀ j:qv,cond i (K (.bool false) h) (CC 18 #[.pointer f] h λ h i=>∃ j k l,h=.returned (.slice j k l)/\∃ h:Int->qN,(∃ l,h 0 i l)/\∀ i l m,h m i l->∀ n:qv,cond (decide (m<(k:Int))) (∃ n:Int->qN,(∃ o,n 0 i o)/\∀ p o t,n t p o->∀ u:qv,∃ u:Bool->qW,(∀ v x,u x v->∀ y:qv,cond x (∃ x:Nat->Int->qW,(∀ y z A,x z A y->∀ B:qv,∃ B:Bool->qW,(∀ C D,B D C->∀ E:qv,cond D (K (.bool false) C) (∃ D,D<o/\n (IntKind.i64.wrap (t+1)) C D))/\cond (A !=0) (B true y.drew) (ak j λ n=>0<=m/\m<(k:Int)/\∃ o A C,y.drew.cell? (Addr.add (Addr.add n ((m).toNat*9)) 6)=some (.slice o A C)/\ak o λ n=>0<=t/\t<(A:Int)/\∃ o:I6,af y.drew (Addr.add n ((t).toNat*6)) 0 o.vs/\∃ n:I6,af y.drew (qd z 0) 0 n.vs/\B (!(I6.beq o n)) y.drew))/\∃ n o y z A B C D E F G H,af v.drew (qd a 0) 0 [.slice n o y,.slice z A B,.slice C D E,.slice F G H]/\ak q λ I=>0<=t/\t<(r:Int)/\∃ J L M,v.drew.cell? (Addr.add I ((t).toNat*1))=some (.slice J L M)/\ak j λ N=>0<=m/\m<(k:Int)/\∃ O:I6,af v.drew (Addr.add N ((m).toNat*9)) 0 O.vs/\(CC 10 #[.agg #[.slice n o y,.slice z A B,.slice C D E,.slice F G H],iv t,.slice J L M,.agg O.vs.toArray] v.drew λ P Q=>∃ R:I6,∃ S,P=.returned (.tuple #[.agg R.vs.toArray,iv S])/\au Q (.cells z6.vs.toArray 35) λ P Q=>aN (qd P 0) 0 R.vs Q λ Q=>x P S Q)/\au v.drew (.cells z6.vs.toArray 35) λ P Q=>af Q (Addr.add N ((m).toNat*9)) 0 O.vs/\Q.cell? (Addr.add I ((t).toNat*1))=some (.slice J L M)/\af Q (qd a 0) 0 [.slice n o y,.slice z A B,.slice C D E,.slice F G H]/\CC 10 #[.agg #[.slice n o y,.slice z A B,.slice C D E,.slice F G H],iv t,.slice J L M,.agg O.vs.toArray] Q λ n o=>∃ y:I6,∃ z,n=.returned (.tuple #[.agg y.vs.toArray,iv z])/\aN (qd P 0) 0 y.vs o λ n=>x P z n) (∃ n,n<l/\h (IntKind.i64.wrap (m+1)) v n))/\cond (decide (t<(r:Int))) (ak j λ h=>0<=m/\m<(k:Int)/\∃ j l n,p.cell? (Addr.add (Addr.add h ((m).toNat*9)) 6)=some (.slice j l n)/\u (decide (t<(l:Int))) p) (u false p)) (cond (decide ((k:Int)>(0:Int))) (CC 9 #[] i λ h j=>∃ k,h=.returned (.bool k)/\K (.bool k) j) (K (.bool false) i))))/\cond (g !=0) (b true e) (b (f).isNone e)))))/\∃ b e f g h i j k l m n o,af c (qd a 0) 0 [.slice b e f,.slice g h i,.slice j k l,.slice m n o]/\CC 8 #[.agg #[.slice b e f,.slice g h i,.slice j k l,.slice m n o],.slice q r s] c λ b c=>∃ e,b=.returned (.bool e)/\cond (!e) (d true c) (∃ b e f,c.cell? (qd a 2)=some (.slice b e f)/\cond (decide ((e:Int)>(0:Int))) (d true c) (∃ b e f,c.cell? (qd a 3)=some (.slice b e f)/\cond (decide ((e:Int)>(0:Int))) (d true c) (∃ b e f g h i j k l m n o,af c (qd a 0) 0 [.slice b e f,.slice g h i,.slice j k l,.slice m n o]/\CC 22 #[.agg #[.slice b e f,.slice g h i,.slice j k l,.slice m n o]] c λ b c=>∃ e,b=.returned (iv e)/\cond (e !=0) (d true c) (∃ b e f,c.cell? (qd a 1)=some (.slice b e f)/\d ((r:Int) !=(e:Int)) c))))
theorem mX{a1 l1 c1 a2 l2 c2 a3 l3 c3 a4 l4 c4 n1 n2 n3 n4 a5 l5 c5 w K}(h:jw a1 l1 c1 a2 l2 c2 a3 l3 c3 a4 l4 c4 n1 n2 n3 n4 a5 l5 c5 w K):CP 6 #[.agg #[.slice a1 l1 c1,.slice a2 l2 c2,.slice a3 l3 c3,.slice a4 l4 c4],.agg #[iv n1,iv n2,iv n3,iv n4],.slice a5 l5 c5] w K:=aj (aC [(6,[(43,.s .bool)]),(58,[(7,.s (.int .i64))]),(254,[(77,.s .bool)]),(4090,[(11,.s (.int .i64))]),(261778,[(12,.s (.int .i64))]),(1047112,[(99,.s .bool)]),(4188452,[(13,.s (.blk)),(14,.s (.int .i64))]),(8376905,[(130,.s .bool)])]) func6 (by kernel_rfl) (by kernel_rfl) h
theorem nj(w:World)(o:Po):CP 23 #[o.v] w (λ r w'=>r=iv (ei o)/\ax w w' []):=by
 refine yE ?_;unfold yD;refine(St.start w).one.av o.cells.toArray λ r1 w1 s1=>?_;refine⟨λ b w2=>b=decide (¬ o.ok)/\w2=w1,?_,o.step,s1.ag 0 rfl 0,?_⟩
 ·rintro w2 b ⟨rfl,rfl⟩ -
  by_cases h:o.ok
  ·exact cF (dF λ hh=>hh h) ⟨by rw[ei,if_pos h],s1.an⟩
  ·exact cT (dT h) ⟨by rw[ei,if_neg h],s1.an⟩
 have no : ¬ o.ok->true=decide (¬ o.ok)/\w1=w1:=λ h=>⟨(dT h).symm,rfl⟩
 by_cases g1:o.step<1
 ·exact cT (dT g1) (no λ h=>by obtain⟨h1,_⟩:=h; omega)
 refine cF (dF g1) ⟨o.step,s1.ag 0 rfl 0,?_⟩
 by_cases g2:o.step>1000000
 ·exact cT (dT g2) (no λ h=>by obtain⟨_,h1,_⟩:=h; omega)
 refine cF (dF g2) ⟨o.pct,s1.ag 0 rfl 1,?_⟩
 by_cases g3:o.pct<0
 ·exact cT (dT g3) (no λ h=>by obtain⟨_,_,h1,_⟩:=h; omega)
 refine cF (dF g3) ⟨o.pct,s1.ag 0 rfl 1,?_⟩
 by_cases g4:o.pct>100
 ·exact cT (dT g4) (no λ h=>by obtain⟨_,_,_,h1,_⟩:=h; omega)
 refine cF (dF g4) ⟨o.und,s1.ag 0 rfl 2,?_⟩
 by_cases g5:o.und<1
 ·exact cT (dT g5) (no λ h=>by obtain⟨_,_,_,_,h1,_⟩:=h; omega)
 refine cF (dF g5) ⟨o.und,s1.ag 0 rfl 2,?_⟩
 by_cases g6:o.und>3
 ·exact cT (dT g6) (no λ h=>by obtain⟨_,_,_,_,_,h1,_⟩:=h; omega)
 refine cF (dF g6) ⟨o.rule,s1.ag 0 rfl 3,?_⟩
 by_cases g7:o.rule<1
 ·exact cT (dT g7) (no λ h=>by obtain⟨_,_,_,_,_,_,h1,_⟩:=h; omega)
 refine cF (dF g7) ⟨o.rule,s1.ag 0 rfl 3,?_,rfl⟩
 by_cases g8:o.rule>3
 ·rw[dT g8];exact(no λ h=>by obtain⟨_,_,_,_,_,_,_,h1⟩:=h; omega).1
 ·rw[dF g8];exact(dF λ hh=>hh ⟨by omega,by omega,by omega,by omega,by omega,by omega,by omega,by omega⟩).symm
set_option maxHeartbeats 1000000 in
theorem EW{w:World}(ht:zH w){S:Se}(h:S.In w)(o:Po){al:OA}{cl:Nat}{L:List Lx}(hF:bU 1 Lx.cells w al L)(hI:∀ x∈L,iQ w x.a x.l) :
  CP 6 #[.agg S.arr,o.v,.slice al L.length cl] w (λ r w'=>r=.bool true/\ax w w' []):=by
 refine mX ?_;unfold jw;refine(St.start w).one.av S.arr λ r1 w1 s1=>s1.av o.cells.toArray λ r2 w2 s2=>?_;have s2:St w w2 (Sep [ah r2 o.cells.toArray 41,ah r1 S.arr 27,emp]):=s2;have aw:∀ {w'},ax w w' []->CC 9 #[] w' λ e2 w5=>∃ b2,e2=.returned (.bool b2)/\(.bool b2:Value)=.bool true/\ax w w5 []:=λ hc=>aq (iq (ht.an hc)) λ v w5 hv=>⟨true,by rw[hv.1],rfl,hc.trans hv.2 (by simp)⟩;refine⟨λ b w3=>(b=false->HS S L/\S.Ok/\L.length=S.bd.length)/\St w w3 (Sep [ah r2 o.cells.toArray 41,ah r1 S.arr 27,emp]),?_,_,_,_,_,_,_,_,_,_,_,_,_,s2.cellsIn 1 rfl,aq (kF (h.an s2.an) (hF.an s2.an)) ?_⟩
 rotate_left
 ·rintro v w3 ⟨⟨b,rfl,hb⟩,c3⟩;have s3:=s2.quiet c3;refine⟨_,rfl,?_⟩
  cases b with
  | false=>exact cT rfl ⟨λ h=>(by cases h),s3⟩
  | true =>
   refine cF rfl ⟨_,_,_,s3.ag 1 rfl 2,?_⟩
   by_cases g1:(S.cp.length:Int)>0
   ·exact cT (dT g1) ⟨λ h=>(by cases h),s3⟩
   refine cF (dF g1) ⟨_,_,_,s3.ag 1 rfl 3,?_⟩
   by_cases g2:(S.sa.length:Int)>0
   ·exact cT (dT g2) ⟨λ h=>(by cases h),s3⟩
   refine cF (dF g2) ⟨_,_,_,_,_,_,_,_,_,_,_,_,s3.cellsIn 1 rfl,aq (dL (h.an s3.an)) ?_⟩;rintro v w4 ⟨⟨rfl,he⟩,c4⟩;have s4:=s3.quiet c4;refine⟨_,rfl,?_⟩
   by_cases g3:jP S=0
   ·refine cF (by rw[g3]; rfl) ⟨_,_,_,s4.ag 1 rfl 1,λ hh=>⟨hb rfl,he.1 g3,?_⟩,s4⟩;have:=(bne_eq_false_iff_eq.1 hh);omega
   ·exact cT (by simpa using g3) ⟨λ h=>(by cases h),s4⟩
 rintro w3 b ⟨hb,s3⟩ -
 cases b with
 | true=>exact cT rfl (aw s3.an)
 | false =>
 obtain⟨hf,hs,hll⟩:=hb rfl;have h8:=hs.bd.l2;have hL:∀ {w'},ax w w' []->wV w' al L:=λ hc=>wV.an ⟨hF,λ x hx=>⟨hI x hx,by have:=hf.l x hx; omega⟩⟩ hc;refine cF rfl ⟨λ i w5 m=>∃ k:Nat,i=k/\k<=S.bd.length/\m=S.bd.length-k/\(∀ y∈S.bd.take k,y.bud=0)/\St w w5 (Sep [ah r2 o.cells.toArray 41,ah r1 S.arr 27,emp]),⟨S.bd.length,0,rfl,by omega,by omega,λ y hy=>by simp at hy,s3⟩,?_⟩;rintro w5 m i ⟨k,rfl,hk,hm,hbud,s5⟩ -;refine⟨_,_,_,s5.ag 1 rfl 1,?_⟩
 by_cases hlt:(k:Int)<(S.bd.length:Int)
 ·have hx:S.bd[k]?=some (S.bd[k]'(by omega)):=gE (by omega);generalize S.bd[k]'(by omega)=y at hx;obtain⟨q,hq,hcl⟩:=nL (h.an s5.an).bd hx 2 _ rfl;refine cT (dT hlt) ⟨_,_,_,s5.ag 1 rfl 1,ai hq ⟨by omega,by omega,y.bud,by rw[Int.toNat_natCast]; exact hcl,?_⟩⟩
  by_cases g:y.bud=0
  ·refine cF (by rw[g]; rfl) ⟨S.bd.length-(k+1),by omega,k+1,ay ⟨by omega,by omega⟩,by omega,rfl,λ z hz=>?_,s5⟩;rw[aQ hx] at hz;rcases List.mem_append.1 hz with hz|hz
   ·exact hbud z hz
   ·cases List.mem_singleton.1 hz; exact g
  ·exact cT (by simpa using g) (aw s5.an)
 obtain rfl:k=S.bd.length:=by omega
 rw[List.take_length] at hbud;refine cF (dF hlt) (s5.bL 0 rfl (j:=3) (by show 3<4; decide) rfl λ w7 s7=>?_);let o2:Po:={ o with rule:=2 };have s7:St w w7 (Sep [ah r2 o2.cells.toArray 41,ah r1 S.arr 27,emp]):=s7;refine⟨_,_,_,_,s7.cellsIn 0 rfl,aq (nj w7 o2) ?_⟩;rintro v w8 ⟨rfl,c8⟩;have s8:=s7.quiet c8;refine⟨_,rfl,?_⟩
 by_cases hoo:o2.ok
 rotate_left
 ·exact cT (by rw[ei,if_neg hoo]; rfl) (aw s8.an)
 refine cF (by rw[ei,if_pos hoo]; rfl) ⟨_,_,_,_,_,_,_,_,_,_,_,_,s8.cellsIn 1 rfl,_,_,_,_,s8.cellsIn 0 rfl,aq (pH (h.an s8.an) o2 (hL s8.an)) ?_⟩;have hr0:dV S o2 L.length=0:=by
  rw[dV,gj,if_neg (show ¬ jP S≠0 by rw[sW hs]; simp),ei,if_pos hoo,if_neg (by simp),if_neg (by simpa using hll)]
 rintro v w10 (⟨h0,_⟩|⟨_,_,_,_,g,C,eC,hi,hov,rfl,k10⟩)
 ·exact absurd hr0 h0
 have FR:=Fp hs hbud (L:=L) (o:=o2) rfl hoo hll;have hn0:=IK S o2 L;have s10:=(s8.quiet k10.an);refine⟨_,_,rfl,⟨λ b w11=>b=false/\w11=w10,?_,cF rfl ⟨rfl,rfl⟩⟩⟩;rintro w11 b ⟨rfl,rfl⟩ -;refine cF rfl (aq (lf (k10.imp nO) hi.ok) ?_);rintro v w12 ⟨l',a',c',el,rfl,k12⟩;have s12:=s10.quiet k12.an;have hrr:∀ {w'},ax w12 w' []->bU 9 Rn.cells w' a' l':=λ hc=>bU.an (St.rd Rn.len k12) hc;have hin:∀ {w'},ax w12 w' []->∀ x∈l',x.In w':=λ hc x hx=>((k12.second.imp (bB _)) x hx).an hc;have ecl:l'.map Rn.er=(runM S o2 L).cl.map Rn.er:=el.trans (congrArg Ck.cl eC);have hask:∀ x∈l',∀ i,i<S.bd.length->bw x.p=true/\x.ask.getD i z6=gh S L i x.p:=λ x hx i hi2=>by
  have hm:x.er∈(runM S o2 L).cl.map Rn.er:=by rw[<- ecl]; exact List.mem_map_of_mem hx
  obtain⟨y,hy,e⟩:=List.mem_map.1 hm;have e1:y.p=x.p:=(congrArg Rn.p e:y.er.p=x.er.p);have e2:y.ask=x.ask:=(congrArg Rn.ask e:y.er.ask=x.er.ask);have h1:=FR.cl y hy i hi2;have h2:=FR.inv.ok.cp y hy;rw[e1,e2] at h1;rw[e1] at h2;exact⟨h2,h1⟩
 have hl' : l'.length=(runM S o2 L).cl.length:=by have:=congrArg List.length ecl; simpa using this
 have h30:=FR.inv.ok.cl;refine⟨_,_,_,rfl,λ i w13 m=>∃ k:Nat,i=k/\k<=l'.length/\m=l'.length-k/\ax w12 w13 [],⟨l'.length,0,rfl,by omega,by omega,ax.refl _ _⟩,?_⟩;rintro w13 m i ⟨n,rfl,hn,hm,d13⟩ -
 by_cases hlt2:(n:Int)<(l'.length:Int)
 rotate_left
 ·exact cF (dF hlt2) (cT (dT (by omega)) (aw (s12.quiet d13).an))
 have hx:l'[n]?=some (l'[n]'(by omega)):=gE (by omega);generalize l'[n]'(by omega)=x at hx;have hxm:=List.mem_of_getElem? hx;have rdx:∀ {w'},ax w12 w' []->∃ q,a' = some q/\af w' (Addr.add q (n*9)) 0 x.p.vs/\w'.cell? (Addr.add (Addr.add q (n*9)) 6)=some (.slice x.xa x.ask.length x.xc):=λ hc=>by
  obtain⟨q,hq,hcl⟩:=(hrr hc).at hx;refine⟨q,hq,bt _ 0 λ j v hj=>?_,?_⟩
  ·have h6:j<6:=(List.getElem?_eq_some_iff.1 hj).1;have:=aL hcl j v (by
    match j,h6,hj with
    | 0,_,hj|1,_,hj|2,_,hj|3,_,hj|4,_,hj|5,_,hj=>simpa[Rn.cells,I6.on,I6.vs] using hj)
   exact this
  ·have:=aL hcl 6 _ rfl
   rwa [Nat.zero_add] at this
 refine cT (dT hlt2) ⟨λ i w14 m=>∃ k:Nat,i=k/\k<=L.length/\m=L.length-k/\ax w12 w14 [],⟨L.length,0,rfl,by omega,by omega,d13⟩,?_⟩;rintro w14 m5 i ⟨k,rfl,hk5,hm5,d14⟩ -;refine⟨λ b w15=>(b=true->k<L.length/\k<x.ask.length)/\(b=false->True)/\ax w12 w15 [],?_,?_⟩
 rotate_left
 ·by_cases g1:(k:Int)<(L.length:Int)
  ·obtain⟨q,hq,_,hc6⟩:=rdx d14;refine cT (dT g1) (ai hq ⟨by omega,by omega,x.xa,x.ask.length,x.xc,hc6,λ hh=>⟨by omega,?_⟩,λ _=>trivial,d14⟩);have:=of_decide_eq_true hh;omega
  ·exact cF (dF g1) ⟨λ h=>(by cases h),λ _=>trivial,d14⟩
 rintro w15 b ⟨hbt,-,d15⟩ -
 cases b with
 | false=>exact cF rfl ⟨l'.length-(n+1),by omega,n+1,ay ⟨by omega,by omega⟩,by omega,rfl,d15⟩
 | true =>
 obtain⟨g1,g2⟩:=hbt rfl;have hy:L[k]?=some (L[k]'g1):=gE g1;generalize L[k]'g1=y at hy;have hym:=List.mem_of_getElem? hy;have eL:(L[k]?.map Lx.l).getD []=y.l:=by rw[hy]; rfl
 obtain⟨p1,p2⟩:=hask x hxm k (by omega);have hbr:=xu hs (L:=L) (show k<S.bd.length by omega) p1;rw[eL] at hbr;have d16:ax w12 w15.drew []:=d15.trans (ax.drew w15 []) (by simp);have s16:=s12.quiet d16;obtain⟨q,hq,hcp,_⟩:=rdx d16;obtain⟨ql,hql,hcy⟩:=((hL s16.an).r).at hy;have bc:∀ {w'},ax w w' []->CC 10 #[.agg S.arr,iv k,.slice y.a y.l.length y.c,.agg x.p.vs.toArray] w' (nH λ r w''=>r=.tuple #[.agg (gh S L k x.p).vs.toArray,iv 0]/\ax w' w'' []):=λ hc=>by
  have:=mM (h.an hc) (((hL hc).i y hym).1) (((hL hc).i y hym).2) (c:=y.c) k x.p;rw[hbr] at this;exact this
 refine cT rfl ⟨λ r3 nn w16=>nn=0/\∃ w00,ax w12 w00 []/\St w00 w16 (Sep [ah r3 (gh S L k x.p).vs.toArray 35,emp]),?_,_,_,_,_,_,_,_,_,_,_,_,_,s16.cellsIn 1 rfl,ai hql ⟨by omega,by omega,y.a,y.l.length,y.c,by rw[Int.toNat_natCast]; exact hcy.1,ai hq ⟨by omega,by omega,x.p,by rw[Int.toNat_natCast]; exact hcp,aq (bc s16.an) ?_,?_⟩⟩⟩
 ·rintro w16 r3 nn ⟨rfl,w00,d00,t16⟩ -;have t17:=t16.quiet (ax.drew w16 []);have d17:ax w12 w16.drew []:=d00.trans t17.an (by simp);obtain⟨q2,hq2,_,hc6⟩:=rdx d17;have hax:x.ask[k]?=some (gh S L k x.p):=by
   have:=gE g2;rw[List.getD_eq_getElem?_getD,this] at p2;rw[this]; exact congrArg some p2
  obtain⟨q3,hq3,hc3⟩:=((hin d17 x hxm).ask).at hax;refine⟨λ b w17=>b=false/\ax w12 w17 [],?_,cF rfl (ai hq2 ⟨by omega,by omega,x.xa,x.ask.length,x.xc,hc6,ai hq3 ⟨by omega,by omega,gh S L k x.p,hc3,gh S L k x.p,t17.cellsIn 0 rfl,by rw[I6.beq_eq]; simp,d17⟩⟩)⟩;rintro w17 b ⟨rfl,d18⟩ -;exact cF rfl ⟨L.length-(k+1),by omega,k+1,ay ⟨by omega,by omega⟩,by omega,rfl,d18⟩
 ·rintro v w18 ⟨rfl,c18⟩;refine⟨_,_,rfl,(St.start w18).one.av z6.vs.toArray λ r4 w19 t19=>t19.az 0 rfl _ rfl (I6.one _) λ w20 t20=>⟨rfl,w18,d16.trans c18 (by simp),t20⟩⟩
 ·refine(St.start w15.drew).one.av z6.vs.toArray λ r5 w21 t21=>?_;have d21:ax w w21 []:=s16.an.trans t21.an (by simp);refine⟨by rw[Int.toNat_natCast]; exact aK t21.an hcp,by rw[Int.toNat_natCast]; exact br hcy.1 t21.an,aK t21.an (s16.cellsIn 1 rfl),aq (bc d21) ?_⟩;rintro v w22 ⟨rfl,c22⟩;exact⟨_,_,rfl,(t21.quiet c22).az 0 rfl _ rfl (I6.one _) λ w23 t23=>⟨rfl,w15.drew,d16,t23⟩⟩
theorem CN{l:List Pr}:I6.mix l.length (aU l) z6=aU l:=I6.ext' λ j hj=>by
 rw[I6.bh _ _ _ _ hj]
 split
 ·rfl
 ·rw[fu,iN _ _ hj];simp only[List.getD_eq_getElem?_getD,List.getElem?_map];rw[List.getElem?_eq_none (by omega)]; rfl
theorem aX{w:World}{a:OA}{c:Nat}{l:List Pr}(h:dX w a l) :
  CP 93 #[.slice a l.length c] w (λ r w'=>r=.agg (aU l).vs.toArray/\ax w w' []):=by
 refine yV ?_;unfold yU;refine(St.start w).one.av z6.vs.toArray λ r1 w1 s1=>s1.av z6.vs.toArray λ r2 w2 s2=>?_;refine⟨λ n w3 m=>∃ k:Nat,n=k/\(k<=6/\k<=l.length)/\m=6-k/\St w w3 (Sep [ah r2 (I6.mix k (aU l) z6).vs.toArray 30,ah r1 z6.vs.toArray 30,emp]),⟨6,0,rfl,by omega,by omega,s2⟩,?_⟩;rintro w3 m n ⟨k,rfl,hk,hm,s3⟩ -;refine⟨λ b w4=>b=decide (k<l.length/\k<6)/\St w w4 (Sep [ah r2 (I6.mix k (aU l) z6).vs.toArray 30,ah r1 z6.vs.toArray 30,emp]),?_,?_⟩
 ·rintro w4 b ⟨rfl,s4⟩ -
  by_cases hlt:k<l.length/\k<6
  ·have hx:l[k]?=some (l[k]'(by omega)):=gE (by omega);generalize l[k]'(by omega)=x at hx;obtain⟨q,hq,hc⟩:=uF (h.an s4.an) hx 2 _ rfl;refine cT (dT hlt) (ai hq ⟨by omega,by omega,x.res,hc,by omega,by omega,?_⟩);rw[bV,show x.res=(aU l).at' k by rw[iN l k hlt.2]; simp[List.getElem?_map,hx]];refine s4.bL 0 rfl hlt.2 rfl λ w5 s5=>⟨6-(k+1),by omega,k+1,inc (by decide) hlt.2,by omega,rfl,?_⟩;rw[I6.cE _ _ _ hlt.2] at s5;exact s5
  ·refine cF (dF hlt) ⟨_,s4.cellsIn 0 rfl,s4.az 1 rfl (I6.mix k (aU l) z6).vs rfl (I6.one _) λ w5 s5=>⟨_,s5.cellsIn 1 rfl,?_,s5.an⟩⟩
   by_cases h6:k=6
   ·rw[h6,I6.fD]
   ·rw[show k=l.length by omega,CN]
 ·by_cases g:k<l.length
  ·refine cT (dT (by omega)) ⟨?_,s3⟩
   by_cases g2:k<6
   ·rw[dT (show(k:Int)<6 by omega),dT ⟨g,g2⟩]
   ·rw[dF (show ¬ (k:Int)<6 by omega),dF λ h=>g2 h.2]
  ·exact cF (dF (by omega)) ⟨by rw[dF λ h=>g h.1],s3⟩
theorem ox(w:World)(p:I6):CP 141 #[.agg p.vs.toArray] w (λ r w'=>r=.bool (bw p)/\ax w w' []):=by
 refine tL ?_;unfold sD;refine(St.start w).one.av p.vs.toArray λ r1 w1 s1=>?_;refine⟨λ n w2 m=>∃ k:Nat,n=k/\k<=6/\m=6-k/\(p.l.take k).all fy=true/\w2=w1,⟨6,0,rfl,by omega,by omega,rfl,rfl⟩,?_⟩;rintro w2 m n ⟨k,rfl,hk,hm,ha,rfl⟩ -
 by_cases hlt:(k:Int)<6
 ·have hk' : k<6:=by omega
  refine cT (dT hlt) ⟨λ b w3=>b = !fy (p.at' k)/\w3=w2,?_,by omega,by omega,p.at' k,by rw[bV,aB s1 0 rfl hk'],?_⟩
  ·rintro w3 b ⟨rfl,rfl⟩ -
   cases hx:fy (p.at' k) with
   | true=>exact cF rfl ⟨6-(k+1),by omega,k+1,inc (by decide) hk',by omega,rfl,cN ha (p.ia k hk') hx,rfl⟩
   | false=>exact cT rfl ⟨by rw[bw,dO (p.ia k hk') hx],s1.an⟩
  ·by_cases g:p.at' k<0
   ·exact cT (dT g) ⟨by simp[fy]; omega,rfl⟩
   ·refine cF (dF g) ⟨by omega,by omega,p.at' k,by rw[bV,aB s1 0 rfl hk'],?_,rfl⟩
    by_cases g2:p.at' k>1000000
    ·rw[dT g2]; simp[fy]; omega
    ·rw[dF g2]; simp[fy]; omega
 ·obtain rfl:k=6:=by omega
  refine cF (by simp) ⟨?_,s1.an⟩;rw[bw,show p.l.all fy=true from ha]
theorem zh(w:World){o:Po}(ho:o.ok){p:Int}(hp:0<=p/\p<=1000000):CP 142 #[o.v,iv p] w (λ r w'=>r=iv (nk o p)/\ax w w' []):=by
 refine wu ?_;unfold uV;obtain⟨h1,h2,h3,h4,_⟩:=ho;have h5:0<=p*o.pct:=Int.mul_nonneg hp.1 h3;have h6:p*o.pct<=1000000*100:=Int.le_trans (Int.mul_le_mul_of_nonneg_left h4 hp.1) (Int.mul_le_mul_of_nonneg_right hp.2 (by omega));have e1:IntKind.i64.wrap (p*o.pct)=p*o.pct:=ay ⟨by omega,by omega⟩;have e2:Int.tdiv (p*o.pct) 100=p*o.pct / 100:=Int.tdiv_eq_ediv_of_nonneg h5;have e3:Int.tmod (p*o.pct) 100=p*o.pct%100:=Int.tmod_eq_emod_of_nonneg h5;refine(St.start w).one.av o.cells.toArray λ r1 w1 s1=>⟨o.pct,s1.ag 0 rfl 1,by decide,λ n w2=>n=(p*o.pct+99) / 100/\w2=w1,?_,by decide,?_⟩
 ·rintro w2 n ⟨rfl,rfl⟩ -;refine⟨o.step,s1.ag 0 rfl 0,?_,s1.an⟩;rw[ay (n:=p+o.step) ⟨by omega,by omega⟩,ay ⟨by omega,by omega⟩]; rfl
 ·rw[e1,e2,e3]
  by_cases g:p*o.pct%100>0
  ·refine cT (dT g) ⟨?_,rfl⟩;rw[ay (n:=p*o.pct / 100) ⟨by omega,by omega⟩,ay ⟨by omega,by omega⟩]; omega
  ·refine cF (dF g) ⟨?_,rfl⟩;rw[ay ⟨by omega,by omega⟩]; omega
set_option maxHeartbeats 1000000 in
theorem Da(w:World){o:Po}(ho:o.ok){p:I6}(hp:bw p=true)(ex:I6):CP 97 #[o.v,.agg p.vs.toArray,.agg ex.vs.toArray] w (λ r w'=>r=.tuple #[.agg (fj o p ex).1.vs.toArray,iv (fj o p ex).2]/\ax w w' []):=by
 refine Az ?_;unfold BV;have hle:=eY.1 hp;refine(St.start w).one.av o.cells.toArray λ r1 w1 s1=>s1.av p.vs.toArray λ r2 w2 s2=>s2.av ex.vs.toArray λ r3 w3 s3=>s3.av z6.vs.toArray λ r4 w4 s4=>?_;let M:I6->List aJ:=λ q=>[ah r4 z6.vs.toArray 30,ah r3 ex.vs.toArray 35,ah r2 q.vs.toArray 30,ah r1 o.cells.toArray 41,emp];have s4:St w w4 (Sep (M p)):=s4;refine⟨λ b w5=>b=false/\St w w5 (Sep (M p)),?_,_,_,_,_,s4.cellsIn 3 rfl,aq (nj w4 o) ?_⟩
 rotate_left
 ·rintro v w5 ⟨rfl,c5⟩;have s5:St w w5 (Sep (M p)):=s4.quiet c5;refine⟨_,rfl,cF (by rw[ei,if_pos ho]; rfl) ⟨p,s5.cellsIn 2 rfl,aq (ox w5 p) ?_⟩⟩;rintro v w6 ⟨rfl,c6⟩;exact⟨_,rfl,by rw[hp]; rfl,s5.quiet c6⟩
 rintro w5 b ⟨rfl,s5⟩ -;refine cF rfl ⟨λ i w6 m=>∃ k:Nat,i=k/\k<=6/\m=6-k/\St w w6 (Sep (M (I6.mix k (aS o p ex) p))),⟨6,0,rfl,by omega,by omega,s5⟩,?_⟩;rintro w6 m i ⟨k,rfl,hk,hm,s6⟩ -
 by_cases hlt:(k:Int)<6
 ·have hk' : k<6:=by omega
  have er:(aS o p ex).at' k=if ex.at' k>0 then nk o (p.at' k) else p.at' k:=I6.fY _ _ _ _ hk'
  refine cT (dT hlt) ⟨λ w7=>St w w7 (Sep (M (I6.mix (k+1) (aS o p ex) p))),?_,by omega,by omega,ex.at' k,by rw[bV,aB s6 1 rfl hk'],?_⟩
  ·rintro w7 s7 -;exact⟨6-(k+1),by omega,k+1,inc (by decide) hk',by omega,rfl,s7⟩
  by_cases g:ex.at' k>0
  ·have s7:St w w6.drew (Sep (M (I6.mix k (aS o p ex) p))):=s6.quiet (ax.drew w6 []);refine cT (dT g) ⟨_,_,_,_,s7.cellsIn 3 rfl,by omega,by omega,p.at' k,by rw[bV,aB s7 2 rfl hk',I6.bh _ _ _ _ hk',if_neg (by omega)],aq (zh _ ho (hle k hk')) ?_⟩;rintro v w8 ⟨rfl,c8⟩;have s8:St w w8 (Sep (M (I6.mix k (aS o p ex) p))):=s7.quiet c8;refine⟨_,rfl,by omega,by omega,?_⟩;rw[bV,show nk o (p.at' k)=(aS o p ex).at' k by rw[er,if_pos g]];refine s8.bL 2 rfl hk' rfl λ w9 s9=>?_;rw[I6.cE _ _ _ hk'] at s9;exact s9
  ·refine cF (dF g) ?_;have:I6.mix (k+1) (aS o p ex) p=I6.mix k (aS o p ex) p:=I6.ext' λ j hj=>by
    rw[I6.bh _ _ _ _ hj,I6.bh _ _ _ _ hj]
    by_cases e:j=k
    ·subst e; rw[if_pos (by omega),if_neg (by omega),er,if_neg g]
    ·by_cases e2:j<k
     ·rw[if_pos e2,if_pos (by omega)]
     ·rw[if_neg e2,if_neg (by omega)]
   rw[this]; exact s6
 ·obtain rfl:k=6:=by omega
  rw[I6.fD] at s6;refine cF (dF hlt) ⟨_,s6.cellsIn 2 rfl,aq (ox w6 _) ?_⟩;rintro v w7 ⟨rfl,c7⟩;have s7:St w w7 (Sep (M (aS o p ex))):=s6.quiet c7;refine⟨_,rfl,?_⟩
  cases hv:bw (aS o p ex) with
  | false =>
   have hne:aS o p ex≠p:=λ e=>by rw[e,hp] at hv; cases hv
   have e1:fj o p ex=(z6,4):=by rw[fj,if_pos ⟨hne,hv⟩]
   rw[e1];exact cT rfl (s7.az 0 rfl z6.vs rfl (I6.one _) λ w8 s8=>⟨z6,s8.cellsIn 0 rfl,rfl,s8.an⟩)
  | true =>
   have e1:fj o p ex=(aS o p ex,0):=by rw[fj,if_neg (by rw[hv]; simp)]
   rw[e1];exact cF rfl ⟨_,s7.cellsIn 2 rfl,s7.az 0 rfl _ rfl (I6.one _) λ w8 s8=>⟨_,s8.cellsIn 0 rfl,rfl,s8.an⟩⟩
theorem FK(u:I6){k:Nat}(hk:k<6):u.vs[k]?=some (iv (u.at' k)):=by
 have:=u.get k hk;simpa using this
set_option maxHeartbeats 1000000 in
theorem zi{w:World}{a:OA}{c:Nat}{l:List I6}(hr:bU 6 I6.vs w a l)(hl:l.length<=1000)(hb:∀ u∈l,I6.Le u 1000000) :
  CP 176 #[.slice a l.length c] w (λ r w'=>r=.agg (bF l).vs.toArray/\ax w w' []):=by
 refine C6 ?_;unfold E7;refine(St.start w).one.av z6.vs.toArray λ r1 w1 s1=>s1.av z6.vs.toArray λ r2 w2 s2=>?_;have s2:St w w2 (Sep [ah r2 (bF ([]:List I6)).vs.toArray 35,ah r1 z6.vs.toArray 35,emp]):=s2;refine⟨λ i w3 m=>∃ k:Nat,i=k/\k<=l.length/\m=l.length-k/\St w w3 (Sep [ah r2 (bF (l.take k)).vs.toArray 35,ah r1 z6.vs.toArray 35,emp]),⟨l.length,0,rfl,by omega,by omega,s2⟩,?_⟩;rintro w3 m i ⟨k,rfl,hk,hm,s3⟩ -
 by_cases hlt:(k:Int)<(l.length:Int)
 ·have hx:l[k]?=some (l[k]'(by omega)):=gE (by omega);generalize l[k]'(by omega)=y at hx;have hyb:=hb y (List.mem_of_getElem? hx);have es:bF (l.take (k+1))=(bF (l.take k)).zip (· + ·) y:=by rw[aQ hx,vh]
  have bd:∀ j,j<6->0<=(bF (l.take k)).at' j/\(bF (l.take k)).at' j<=1000000000:=λ j hj=>by
   have:=lC (B:=1000000) (l:=l.take k) (λ u hu=>hb u (List.mem_of_mem_take hu)) j hj;rw[bF,I6.kq _ _ hj];have h2:(l.take k).length<=1000:=by rw[List.length_take]; omega
   omega
  generalize bF (l.take k)=S0 at s3 es bd;refine cT (dT hlt) ⟨λ i w4 m=>∃ n:Nat,i=n/\n<=6/\m=6-n/\St w w4 (Sep [ah r2 (I6.mix n (bF (l.take (k+1))) S0).vs.toArray 35,ah r1 z6.vs.toArray 35,emp]),⟨6,0,rfl,by omega,by omega,s3⟩,?_⟩;rintro w4 m4 i ⟨n,rfl,hn,hm4,s4⟩ -
  by_cases hlt2:(n:Int)<6
  ·have hn' : n<6:=by omega
   have s5:=s4.quiet (ax.drew w4 []);obtain⟨p,hp,hcl⟩:=(hr.an s5.an).at hx;have hcell:=aL hcl n _ (FK y hn');rw[Nat.zero_add] at hcell;have b1:=bd n hn';have b2:=hyb n hn';refine cT (dT hlt2) ⟨by omega,by omega,S0.at' n,by rw[bV,aB s5 0 rfl hn',I6.bh _ _ _ _ hn',if_neg (by omega)],ai hp ⟨by omega,by omega,by omega,by omega,y.at' n,?_,by omega,by omega,?_⟩⟩
   ·rw[Int.toNat_natCast,Int.toNat_natCast,Nat.mul_one]; exact hcell
   rw[bV,ay (n:=S0.at' n+y.at' n) ⟨by omega,by omega⟩,show S0.at' n+y.at' n=(bF (l.take (k+1))).at' n by rw[es,I6.fY _ _ _ _ hn']];refine s5.bL 0 rfl hn' rfl λ w6 s6=>⟨6-(n+1),by omega,n+1,inc (by decide) hn',by omega,rfl,?_⟩;rw[I6.cE _ _ _ hn'] at s6;exact s6
  ·obtain rfl:n=6:=by omega
   rw[I6.fD] at s4;exact cF (dF hlt2) ⟨l.length-(k+1),by omega,k+1,ay ⟨by omega,by omega⟩,by omega,rfl,s4⟩
 ·obtain rfl:k=l.length:=by omega
  rw[List.take_length] at s3;exact cF (dF hlt) ⟨_,s3.cellsIn 0 rfl,s3.az 1 rfl _ rfl (I6.one _) λ w4 s4=>⟨_,s4.cellsIn 1 rfl,rfl,s4.an⟩⟩
section
variable {w:World} {a:OA} {c:Nat} {l:List I6} (hr:bU 6 I6.vs w a l) (hl:l.length<=1000) (hb:∀ u∈l,I6.Le u 4) {i:Nat} {x:I6} (hx:l[i]?=some x) {sup ask:I6} (hs:I6.Le sup 4) (ha:I6.Le ask 4)
include hb in
theorem zu(hl:l.length<=1000)(j:Nat)(hj:j<6):0<=(bF l).at' j/\(bF l).at' j<=4000:=by
 have:=lC (B:=4) (l:=l) hb j hj;rw[bF,I6.kq _ _ hj];omega
include hr hx in
theorem zQ{w' : World}(hc:ax w w' [])(j:Nat)(hj:j<6):∃ q,a=some q/\w'.cell? (Addr.add (Addr.add q (((i:Nat):Int).toNat*6)) (((j:Nat):Int).toNat*1))=some (iv (x.at' j)):=by
 obtain⟨p,hp,hcl⟩:=(hr.an hc).at hx;have:=aL hcl j _ (FK x hj);rw[Nat.zero_add] at this;exact⟨p,hp,by rw[Int.toNat_natCast,Int.toNat_natCast,Nat.mul_one]; exact this⟩
include hr hl hb hx hs ha in
theorem wD:CP 139 #[.agg sup.vs.toArray,.slice a l.length c,iv i,.agg ask.vs.toArray] w (λ r w'=>r=.bool (ct sup (bF l) x ask)/\ax w w' []):=by
 refine tO ?_;unfold sH;have hi:=(List.getElem?_eq_some_iff.1 hx).1;have hxb:=hb x (List.mem_of_getElem? hx);refine(St.start w).one.av sup.vs.toArray λ r1 w1 s1=>s1.av ask.vs.toArray λ r2 w2 s2=>aq (zi (hr.an s2.an) hl (λ u hu=>AY (hb u hu) (by omega))) ?_;rintro v w3 ⟨rfl,c3⟩;have hsm:=zu hb hl;generalize bF l=tot at hsm;refine⟨_,rfl,(s2.quiet c3).av z6.vs.toArray λ r3 w4 s4=>s4.az 0 rfl tot.vs rfl (I6.one _) λ w5 s5=>?_⟩;let M:List aJ:=[ah r3 tot.vs.toArray 35,ah r2 ask.vs.toArray 35,ah r1 sup.vs.toArray 35,emp];have s5:St w w5 (Sep M):=s5;refine⟨λ j w6 m=>∃ k:Nat,j=k/\k<=6/\m=6-k/\(∀ j,j<k->sM sup tot x ask j=false)/\St w w6 (Sep M),⟨6,0,rfl,by omega,by omega,λ j hj=>by omega,s5⟩,?_⟩;rintro w6 m j ⟨k,rfl,hk,hm,hall,s6⟩ -
 by_cases hlt:(k:Int)<6
 ·have hk' : k<6:=by omega
  have s7:St w w6.drew (Sep M):=s6.quiet (ax.drew w6 []);have s8:St w w6.drew.drew (Sep M):=s7.quiet (ax.drew _ []);obtain⟨q,hq,hcx⟩:=zQ hr hx s7.an k hk';have b1:=hxb k hk'; have b2:=ha k hk'; have b3:=hsm k hk'; have b4:=hs k hk';refine cT (dT hlt) (ai hq ⟨by omega,by omega,by omega,by omega,x.at' k,hcx,by omega,by omega,ask.at' k,by rw[bV,aB s7 1 rfl hk'],λ b w7=>b=sM sup tot x ask k/\St w w7 (Sep M),?_,?_⟩)
  ·rintro w7 b ⟨rfl,s9⟩ -
   cases hrf:sM sup tot x ask k with
   | true=>exact cT rfl ⟨by rw[ct,List.any_eq_true.2 ⟨k,List.mem_range.2 hk',hrf⟩],s9.an⟩
   | false =>
    refine cF rfl ⟨6-(k+1),by omega,k+1,inc (by decide) hk',by omega,rfl,λ j hj=>?_,s9⟩;rcases Nat.lt_or_ge j k with h' | h'
    ·exact hall j h'
    ·obtain rfl:j=k:=by omega
     exact hrf
  rw[ay (n:=x.at' k-ask.at' k) ⟨by omega,by omega⟩]
  by_cases g:x.at' k-ask.at' k>0
  ·refine cT (dT g) ⟨by omega,by omega,tot.at' k,by rw[bV,aB s8 0 rfl hk'],by omega,by omega,sup.at' k,by rw[bV,aB s8 2 rfl hk'],?_,s8⟩;rw[ay ⟨by omega,by omega⟩,sM,dT (show ask.at' k<x.at' k by omega),Bool.true_and]
   by_cases g2:tot.at' k-x.at' k+ask.at' k<sup.at' k
   ·rw[dT g2,dT (by omega)]
   ·rw[dF g2,dF (by omega)]
  ·exact cF (dF g) ⟨by rw[sM,dF (show ¬ ask.at' k<x.at' k by omega),Bool.false_and],s8⟩
 ·obtain rfl:k=6:=by omega
  refine cF (dF hlt) ⟨?_,s6.an⟩;have:ct sup tot x ask=false:=by
   rw[ct,List.any_eq_false];intro j hj;rw[hall j (List.mem_range.1 hj)]; simp
  rw[this]
theorem Ap{s t n a v:Int}(h1:a<=v)(h2:v<=iI s t n a):(v<n/\t-(n-v)<s)<->v<iI s t n a:=by
 unfold iI at h2 ⊢
 by_cases g:a<n
 ·rw[if_pos g] at h2 ⊢
  by_cases g1:0>t-s
  ·rw[if_pos g1] at h2 ⊢
   split at h2
   ·rename_i g2; rw[if_pos g2]; omega
   ·rename_i g2; rw[if_neg g2]; omega
  ·rw[if_neg g1] at h2 ⊢
   split at h2
   ·rename_i g2; rw[if_pos g2]; omega
   ·rename_i g2; rw[if_neg g2]; omega
 ·rw[if_neg g] at h2 ⊢; omega
theorem EN{s t n a:Int}:a<=iI s t n a:=by
 unfold iI
 split
 ·split<;>split<;>omega
 ·omega
include hr hl hb hx hs ha in
set_option maxHeartbeats 1000000 in
theorem zg:CP 140 #[.agg sup.vs.toArray,.slice a l.length c,iv i,.agg ask.vs.toArray] w (λ r w'=>r=.agg (gL sup (bF l) x ask).vs.toArray/\ax w w' []):=by
 refine wm ?_;unfold uS;have hi:=(List.getElem?_eq_some_iff.1 hx).1;have hxb:=hb x (List.mem_of_getElem? hx);refine(St.start w).one.av sup.vs.toArray λ r1 w1 s1=>s1.av ask.vs.toArray λ r2 w2 s2=>s2.av z6.vs.toArray λ r3 w3 s3=>aq (zi (hr.an s3.an) hl (λ u hu=>AY (hb u hu) (by omega))) ?_;rintro v w4 ⟨rfl,c4⟩;have hsm:=zu hb hl;generalize bF l=tot at hsm;refine⟨_,rfl,(s3.quiet c4).av z6.vs.toArray λ r4 w5 s5=>s5.az 0 rfl tot.vs rfl (I6.one _) λ w6 s6=>⟨ask,s6.cellsIn 2 rfl,s6.av z6.vs.toArray λ r5 w7 s7=>s7.az 0 rfl ask.vs rfl (I6.one _) λ w8 s8=>?_⟩⟩;let M:I6->List aJ:=λ u=>[ah r5 u.vs.toArray 35,ah r4 tot.vs.toArray 35,ah r3 z6.vs.toArray 35,ah r2 ask.vs.toArray 35,ah r1 sup.vs.toArray 35,emp];have s8:St w w8 (Sep (M ask)):=s8;generalize hP:gL sup tot x ask=P;have eP:∀ k,k<6->P.at' k=iI (sup.at' k) (tot.at' k) (x.at' k) (ask.at' k):=λ k hk=>by rw[<- hP,gL,I6.kq _ _ hk]
 refine⟨λ j w9 m=>∃ k:Nat,j=k/\k<=6/\m=6-k/\St w w9 (Sep (M (I6.mix k P ask))),⟨6,0,rfl,by omega,by omega,s8⟩,?_⟩;rintro w9 m j ⟨k,rfl,hk,hm,s9⟩ -
 by_cases hlt:(k:Int)<6
 ·have hk' : k<6:=by omega
  have b1:=hxb k hk'; have b2:=ha k hk'; have b3:=hsm k hk'; have b4:=hs k hk';have p1:=EN (s:=sup.at' k) (t:=tot.at' k) (n:=x.at' k) (a:=ask.at' k);have p2:=sw (s:=sup.at' k) (t:=tot.at' k) b1 b2;have ek:=eP k hk';refine cT (dT hlt) ⟨λ w10 m=>∃ v:Int,ask.at' k<=v/\v<=P.at' k/\m=(P.at' k-v).toNat/\St w w10 (Sep (M ((I6.mix k P ask).put k v))),⟨_,ask.at' k,by omega,by omega,rfl,?_⟩,?_⟩
  ·have:(I6.mix k P ask).put k (ask.at' k)=I6.mix k P ask:=I6.ext' λ j hj=>by
    rw[I6.fc _ _ _ _ hk' hj]
    split
    ·rename_i e; subst e; rw[I6.bh _ _ _ _ hj,if_neg (by omega)]
    ·rfl
   rw[this]; exact s9
  rintro w10 m3 ⟨v,v1,v2,hm3,s10⟩ -;have hst:=Ap (s:=sup.at' k) (t:=tot.at' k) (n:=x.at' k) v1 (by rw[<- ek]; exact v2);have pv:∀ {u:I6},(u.put k v).at' k=v:=λ {u}=>by rw[I6.fc _ _ _ _ hk' hk',if_pos rfl]
  have s11:St w w10.drew (Sep (M ((I6.mix k P ask).put k v))):=s10.quiet (ax.drew w10 []);obtain⟨q,hq,hcx⟩:=zQ hr hx s11.an k hk';refine⟨λ b w11=>b=decide (v<P.at' k)/\St w w11 (Sep (M ((I6.mix k P ask).put k v))),?_,by omega,by omega,v,by rw[bV,aB s11 0 rfl hk',pv],ai hq ⟨by omega,by omega,by omega,by omega,x.at' k,hcx,?_⟩⟩
  ·rintro w11 b ⟨rfl,s12⟩ -
   by_cases hv:v<P.at' k
   ·refine cT (dT hv) ⟨by omega,by omega,v,by rw[bV,aB s12 0 rfl hk',pv],by omega,by omega,?_⟩;rw[bV,ay ⟨by omega,by omega⟩];refine s12.bL 0 rfl hk' rfl λ w13 s13=>⟨(P.at' k-(v+1)).toNat,by omega,v+1,by omega,by omega,rfl,?_⟩;rw[I6.gP _ _ _ hk'] at s13;have:((I6.mix k P ask).put k v).put k (v+1)=(I6.mix k P ask).put k (v+1):=I6.ext' λ j hj=>by
     rw[I6.fc _ _ _ _ hk' hj,I6.fc _ _ _ _ hk' hj,I6.fc _ _ _ _ hk' hj]
     split<;>rfl
    rw[this] at s13;exact s13
   ·refine cF (dF hv) ⟨6-(k+1),by omega,k+1,inc (by decide) hk',by omega,rfl,?_⟩;have:(I6.mix k P ask).put k v=I6.mix (k+1) P ask:=I6.ext' λ j hj=>by
     rw[I6.fc _ _ _ _ hk' hj,I6.bh _ _ _ _ hj,I6.bh _ _ _ _ hj]
     by_cases e:j=k
     ·subst e; rw[if_pos rfl,if_pos (by omega)]; omega
     ·rw[if_neg e]
      by_cases e2:j<k
      ·rw[if_pos e2,if_pos (by omega)]
      ·rw[if_neg e2,if_neg (by omega)]
    rw[this] at s12;exact s12
  rw[<- ek] at hst
  by_cases g:v<x.at' k
  ·refine cT (dT g) ⟨by omega,by omega,tot.at' k,by rw[bV,aB s11 1 rfl hk'],ai hq ⟨by omega,by omega,by omega,by omega,x.at' k,hcx,by omega,by omega,v,by rw[bV,aB s11 0 rfl hk',pv],by omega,by omega,sup.at' k,by rw[bV,aB s11 4 rfl hk'],?_,s11⟩⟩;rw[ay (n:=x.at' k-v) ⟨by omega,by omega⟩,ay ⟨by omega,by omega⟩]
   by_cases g2:tot.at' k-(x.at' k-v)<sup.at' k
   ·rw[dT g2,dT (hst.1 ⟨g,g2⟩)]
   ·rw[dF g2,dF λ h=>g2 (hst.2 h).2]
  ·exact cF (dF g) ⟨(dF λ h=>g (hst.2 h).1).symm,s11⟩
 ·obtain rfl:k=6:=by omega
  rw[I6.fD] at s9;exact cF (dF hlt) ⟨_,s9.cellsIn 0 rfl,s9.az 2 rfl _ rfl (I6.one _) λ w10 s10=>⟨_,s10.cellsIn 2 rfl,rfl,s10.an⟩⟩
end
section
variable {w0 w:World} {B:aJ} {a:OA} {c:Nat} {l:List I6}
theorem A3{r k:Nat}(s:St w0 w (star (bn (some ⟨r,0,none⟩) 0 []) B))(hr:bU 6 I6.vs w a l)(hl:l.length<=1000){R:Option Addr->Nat->Nat->World->Prop}(kk:∀ a' c' w',St w0 w' (star (bn a' c' l) B)->R a' l.length c' w') :
  aW prog (Builtin.append_ #[46,46] 46 #[.slice (some ⟨r,0,none⟩) 0 0,.slice a l.length k]) w λ e w1=>∃ a l c,e=.slice a l c/\R a l c w1 :=
 aY (l2:=l) eZ aM I6.one s hr (by simp only[List.length_nil]; omega) (by simp only[List.length_nil]; omega) λ a' c' w' s'=>by
  rw[List.nil_append] at s' ⊢;exact kk a' c' w' s'
end
set_option maxHeartbeats 1000000 in
theorem AF{w:World}{p:Int}(hp:1<=p/\p<=3){sup:I6}(hs:I6.Le sup 4){a1 a2:OA}{c1 c2:Nat}{l1 l2:List I6}(h1:bU 6 I6.vs w a1 l1)(h2:bU 6 I6.vs w a2 l2)(hl:l2.length=l1.length)(h8:l1.length<=8)(b1:∀ u∈l1,I6.Le u 4)(b2:∀ u∈l2,I6.Le u 4) :
  CP 96 #[iv p,.agg sup.vs.toArray,.slice a1 l1.length c1,.slice a2 l2.length c2] w (λ r w'=>∃ a c,r=.tuple #[.slice a (HQ p sup l1 l2).length c,iv 0]/\St w w' (bn a c (HQ p sup l1 l2))):=by
 refine yq ?_;unfold yp;refine(St.start w).one.av sup.vs.toArray λ r1 w1 s1=>?_;have s1:St w w1 (Sep [ah r1 sup.vs.toArray 35,emp]):=s1;refine⟨λ b w2=>b=false/\w2=w1,?_,cF (dF (by omega)) ⟨dF (by omega),rfl⟩⟩;rintro w2 b ⟨rfl,rfl⟩ -;refine cF rfl ⟨λ b w3=>b=false/\w3=w2,?_,cF (by rw[hl]; simp) ⟨dF (by omega),rfl⟩⟩;rintro w3 b ⟨rfl,rfl⟩ -;refine cF rfl ⟨sup,s1.cellsIn 0 rfl,s1.av sup.vs.toArray λ r2 w4 s4=>?_⟩;have s4:St w w4 (star (bn (some ⟨r2,0,none⟩) 1 [sup]) (Sep [ah r1 sup.vs.toArray 35,emp])):=St.weak s4 (bH.left (bN (n:=1) (sz:=6) rfl (by decide)));refine aY (l:=[sup]) (l2:=l1) eZ aM I6.one s4 (h1.an s4.an) (by simp only[List.length_singleton]; omega) (by simp only[List.length_singleton]; omega) λ a3 c3 w5 s5=>?_;refine aY (l:=[sup]++l1) (l2:=l2) eZ aM I6.one s5 (h2.an s5.an) (by rw[List.length_append]; simp only[List.length_singleton]; omega) (by rw[List.length_append]; simp only[List.length_singleton]; omega) λ a4 c4 w6 s6=>?_;have hall:∀ u∈[sup]++l1++l2,I6.Le u 4:=λ u hu=>by
  rcases List.mem_append.1 hu with hu|hu
  ·rcases List.mem_append.1 hu with hu|hu
   ·cases List.mem_singleton.1 hu; exact hs
   ·exact b1 u hu
  ·exact b2 u hu
 have hlen:([sup]++l1++l2).length<=100:=by simp only[List.length_append,List.length_singleton]; omega
 generalize[sup]++l1++l2=all at s6 hall hlen;have s6:St w w6 (Sep [bn a4 c4 all,ah r1 sup.vs.toArray 35,emp]):=s6;refine⟨λ i w7 m=>∃ k:Nat,i=k/\k<=all.length/\m=all.length-k/\St w w7 (Sep [bn a4 c4 all,ah r1 sup.vs.toArray 35,emp]),⟨all.length,0,rfl,by omega,by omega,s6⟩,?_⟩;rintro w7 m i ⟨k,rfl,hk,hm,s7⟩ -
 by_cases hlt:(k:Int)<(all.length:Int)
 ·have hx:all[k]?=some (all[k]'(by omega)):=gE (by omega);generalize all[k]'(by omega)=y at hx;obtain⟨q,hq,hcl⟩:=(St.rd aM (s7.out 0 rfl)).at hx;refine cT (dT hlt) (ai hq ⟨by omega,by omega,y,hcl,aq (cM w7 y) ?_⟩);rintro v w8 ⟨rfl,c8⟩;exact⟨_,rfl,cF (by rw[leq (hall y (List.mem_of_getElem? hx))]; rfl) ⟨all.length-(k+1),by omega,k+1,ay ⟨by omega,by omega⟩,by omega,rfl,s7.quiet c8⟩⟩
 refine cF (dF hlt) ((s7.aA [1,2]).av #[] λ r3 w9 s9=>?_);have s9:St w w9 (star (bn (some ⟨r3,0,none⟩) 0 []) (Sep [ah r1 sup.vs.toArray 35,emp])):=St.weak s9 (bH.left (bN (n:=0) (sz:=6) rfl (by decide)));refine A3 s9 (h1.an s9.an) (by omega) λ a5 c5 w10 s10=>?_;have s10:St w w10 (Sep [bn a5 c5 (jQ p sup l1 l2 0),ah r1 sup.vs.toArray 35,emp]):=s10;have len:∀ k,(jQ p sup l1 l2 k).length=l1.length:=λ k=>(pV (B:=4) (by omega) b1 b2 k).1;have le4:∀ k,∀ u∈jQ p sup l1 l2 k,I6.Le u 4:=λ k=>(pV (B:=4) (by omega) b1 b2 k).2;refine⟨λ i w11 m=>∃ k:Nat,i=k/\k<=l1.length/\m=l1.length-k/\St w w11 (Sep [bn a5 c5 (jQ p sup l1 l2 k),ah r1 sup.vs.toArray 35,emp]),⟨l1.length,0,rfl,by omega,by omega,s10⟩,?_⟩;clear hlt hm hk s7 s10;rintro w11 m i ⟨k,rfl,hk,hm,s11⟩ -
 by_cases hlt:(k:Int)<(l1.length:Int)
 rotate_left
 ·obtain rfl:k=l1.length:=by omega
  have e1:HQ p sup l1 l2=jQ p sup l1 l2 l1.length:=by rw[HQ,hl]
  refine cF (dF hlt) ⟨a5,c5,by rw[e1,len],?_⟩;rw[e1]; exact s11.first
 have hx2:l2[k]?=some (l2[k]'(by omega)):=gE (by omega);have hU:jQ p sup l1 l2 (k+1)=dG p sup (jQ p sup l1 l2 k) k (l2.getD k z6):=rfl;rw[show l2.getD k z6=l2[k]'(by omega) by rw[List.getD_eq_getElem?_getD,hx2]; rfl] at hU;generalize l2[k]'(by omega)=y at hx2 hU;have hy4:=b2 y (List.mem_of_getElem? hx2);have lk:=len k;have lb:=le4 k;generalize hUk:jQ p sup l1 l2 k=U at s11 hU lk lb;have hxU:U[k]?=some (U[k]'(by omega)):=gE (by omega);have hgU:U.getD k z6=U[k]'(by omega):=by rw[List.getD_eq_getElem?_getD,hxU]; rfl
 generalize U[k]'(by omega)=x at hxU hgU;obtain⟨g,rfl⟩:=St.kO (s11.out 0 rfl) (by omega);have st:∀ {w' : World} {z:I6},St w w' (Sep [bn (some ⟨g,0,none⟩) c5 U,ah r1 sup.vs.toArray 35,emp])->dG p sup U k y=U.set k z->aN (Addr.add ⟨g,0,none⟩ (((k:Nat):Int).toNat*6)) 0 z.vs w' λ w13=>St w w13 (Sep [bn (some ⟨g,0,none⟩) c5 (jQ p sup l1 l2 (k+1)),ah r1 sup.vs.toArray 35,emp]):=λ {w' z} t e=>by
  rw[Int.toNat_natCast];refine St.tc aM (I6.one z) (t.out 0 rfl) (by omega) λ w13 t13=>?_;rw[hU,e]; exact t13
 refine cT (dT hlt) ⟨λ w12=>St w w12 (Sep [bn (some ⟨g,0,none⟩) c5 (jQ p sup l1 l2 (k+1)),ah r1 sup.vs.toArray 35,emp]),?_,?_⟩
 ·rintro w12 s12 -;exact⟨l1.length-(k+1),by omega,k+1,ay ⟨by omega,by omega⟩,by omega,rfl,s12⟩
 rw[<- lk];have hlk:U.length<=1000:=by omega
 have ry:∀ {w'},ax w w' []->∃ q,a2=some q/\af w' (Addr.add q (((k:Nat):Int).toNat*6)) 0 y.vs:=λ hc=>by rw[Int.toNat_natCast]; exact(h2.an hc).at hx2
 by_cases p1:p=1
 ·obtain⟨q,hq,hcy⟩:=ry s11.an;exact cT (by simpa using p1) (ai hq ⟨by omega,by omega,y,hcy,ai rfl ⟨by omega,by omega,st s11 (by rw[dG,if_neg (by omega),if_neg (by omega)])⟩⟩)
 refine cF (by simpa using p1) ?_;have s12:=s11.quiet (ax.drew w11 []);obtain⟨q,hq,hcy⟩:=ry s12.an;have hrU:∀ {w'},St w w' (Sep [bn (some ⟨g,0,none⟩) c5 U,ah r1 sup.vs.toArray 35,emp])->bU 6 I6.vs w' (some ⟨g,0,none⟩) U:=λ t=>St.rd aM (t.out 0 rfl)
 by_cases p2:p=2
 ·refine cT (by simpa using p2) ⟨sup,s12.cellsIn 1 rfl,ai hq ⟨by omega,by omega,y,hcy,aq (wD (hrU s12) hlk lb hxU hs hy4) ?_⟩⟩;rintro v w14 ⟨rfl,c14⟩;have s14:=s12.quiet c14;obtain⟨q2,hq2,hcy2⟩:=ry s14.an;refine⟨_,rfl,?_⟩
  cases hrf:ct sup (bF U) x y with
  | true =>
   refine cF rfl ?_;rw[hU,dG,if_pos p2,hgU,if_pos hrf]; exact s14
  | false=>exact cT rfl (ai hq2 ⟨by omega,by omega,y,hcy2,ai rfl ⟨by omega,by omega,st s14 (by rw[dG,if_pos p2,hgU,if_neg (by rw[hrf]; decide)])⟩⟩)
 ·have p3:p=3:=by omega
  refine cF (by simpa using p2) (cT (by simpa using p3) ⟨sup,s12.cellsIn 1 rfl,ai hq ⟨by omega,by omega,y,hcy,aq (zg (hrU s12) hlk lb hxU hs hy4) ?_⟩⟩);rintro v w14 ⟨rfl,c14⟩;exact⟨_,rfl,ai rfl ⟨by omega,by omega,st (s12.quiet c14) (by rw[dG,if_neg p2,if_pos p3,hgU])⟩⟩

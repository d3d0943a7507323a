import Derived.Test.YtpihmghnbplohaaGreatDoorQ03
set_option linter.unusedVariables false
set_option maxRecDepth 100000
namespace Go.Proofs.YtpihmghnbplohaaGreatDoor
open Go Go.Vc Tryz
def vn(a:I6)(b:OA)(c d:Nat)(w:World)(K:KP):=au w (.cells a.vs.toArray 41) λ a e=>au e (.cells z6.vs.toArray 41) λ e f=>∃ g:I6,af f.drew (qd a 0) 0 g.vs/\CC 192 #[.slice b c d] f.drew λ b c=>∃ d:I6,b=.returned (.agg d.vs.toArray)/\af c (qd a 0) 0 g.vs/\CC 191 #[.agg d.vs.toArray,.agg g.vs.toArray] c λ a b=>∃ c:I6,a=.returned (.agg c.vs.toArray)/\aU (qd e 0) 0 c.vs b λ a=>∃ b:I6,af a (qd e 0) 0 b.vs/\K (.agg b.vs.toArray) a
theorem yB{u1 a1 l1 c1 w K}(h:vn u1 a1 l1 c1 w K):CP 151 #[.agg u1.vs.toArray,.slice a1 l1 c1] w K:=an (aF []) func151 (by kernel_rfl) (by kernel_rfl) h
def A5(a b:I6)(w:World)(K:KP):=au w (.cells a.vs.toArray 305) λ a c=>au c (.cells b.vs.toArray 305) λ b c=>au c (.cells z6.vs.toArray 41) λ c d=>au d (.cells z6.vs.toArray 41) λ d e=>∃ f:Int->qN,(∃ g,f 0 e g)/\∀ e g h,f h e g->∀ i:qv,cond (decide (h<6)) (∃ i:qW,(∀ j,i j->∀ k:qv,∃ k,k<g/\f (IntKind.i64.wrap (h+1)) j k)/\0<=h/\h<6/\∃ f,e.drew.cell? (Addr.add (qd a 0) ((h).toNat*1))=some (iv f)/\0<=h/\h<6/\∃ g,e.drew.cell? (Addr.add (qd b 0) ((h).toNat*1))=some (iv g)/\cond (decide (f>g)) (0<=h/\h<6/\∃ f,e.drew.drew.cell? (Addr.add (qd a 0) ((h).toNat*1))=some (iv f)/\0<=h/\h<6/\∃ a,e.drew.drew.cell? (Addr.add (qd b 0) ((h).toNat*1))=some (iv a)/\0<=h/\h<6/\aS e.drew.drew (Addr.add (qd d 0) ((h).toNat*1)) (iv (IntKind.i64.wrap (f-a))) λ a=>i a) (i e.drew)) (∃ a:I6,af e (qd d 0) 0 a.vs/\aU (qd c 0) 0 a.vs e λ a=>∃ b:I6,af a (qd c 0) 0 b.vs/\K (.agg b.vs.toArray) a)
theorem BB{u1 u2 w K}(h:A5 u1 u2 w K):CP 191 #[.agg u1.vs.toArray,.agg u2.vs.toArray] w K:=an (aF [(58,[(7,.s (.int .i64))]),(467,[])]) func191 (by kernel_rfl) (by kernel_rfl) h
def xG(a:OA)(b c:Nat)(w:World)(K:KP):=au w (.cells z6.vs.toArray 305) λ c d=>au d (.cells z6.vs.toArray 305) λ d e=>∃ f:Int->qN,(∃ g,f 0 e g)/\∀ e g h,f h e g->∀ i:qv,cond (decide (h<(b:Int))) (av a λ a=>0<=h/\h<(b:Int)/\∃ b:I6,af e (Addr.add a ((h).toNat*6)) 0 b.vs/\au e (.cells z6.vs.toArray 41) λ a i=>aU (qd a 0) 0 b.vs i λ b=>∃ i:Int->qN,(∃ j,i 0 b j)/\∀ b j k,i k b j->∀ l:qv,cond (decide (k<6)) (0<=k/\k<6/\∃ l,b.drew.cell? (Addr.add (qd d 0) ((k).toNat*1))=some (iv l)/\0<=k/\k<6/\∃ m,b.drew.cell? (Addr.add (qd a 0) ((k).toNat*1))=some (iv m)/\0<=k/\k<6/\aS b.drew (Addr.add (qd d 0) ((k).toNat*1)) (iv (IntKind.i64.wrap (l+m))) λ a=>∃ l,l<j/\i (IntKind.i64.wrap (k+1)) a l) (∃ a,a<g/\f (IntKind.i64.wrap (h+1)) b a)) (∃ a:I6,af e (qd d 0) 0 a.vs/\aU (qd c 0) 0 a.vs e λ a=>∃ b:I6,af a (qd c 0) 0 b.vs/\K (.agg b.vs.toArray) a)
theorem A6{a1 l1 c1 w K}(h:xG a1 l1 c1 w K):CP 192 #[.slice a1 l1 c1] w K:=an (aF [(58,[(9,.s (.int .i64))]),(14950,[(13,.s (.int .i64))])]) func192 (by kernel_rfl) (by kernel_rfl) h
def lQ(a b c d:Int)(w:World)(K:KP):=au w (.cells #[iv a,iv b,iv c,iv d] 23) λ a b=>∃ c:Bool->qW,(∀ d e,c e d->∀ f:qv,cond e (K (iv 4) d) (K qz d))/\∃ d,b.cell? (qd a 0)=some (iv d)/\cond (decide (d<1)) (c true b) (∃ d,b.cell? (qd a 0)=some (iv d)/\cond (decide (d>1000000)) (c true b) (∃ d,b.cell? (qd a 1)=some (iv d)/\cond (decide (d<0)) (c true b) (∃ d,b.cell? (qd a 1)=some (iv d)/\cond (decide (d>100)) (c true b) (∃ d,b.cell? (qd a 2)=some (iv d)/\cond (decide (d<1)) (c true b) (∃ d,b.cell? (qd a 2)=some (iv d)/\cond (decide (d>3)) (c true b) (∃ d,b.cell? (qd a 3)=some (iv d)/\cond (decide (d<1)) (c true b) (∃ d,b.cell? (qd a 3)=some (iv d)/\c (decide (d>3)) b)))))))
theorem rF{n1 n2 n3 n4 w K}(h:lQ n1 n2 n3 n4 w K):CP 120 #[.agg #[iv n1,iv n2,iv n3,iv n4]] w K:=an (aF [(6,[(40,.s .bool)])]) func120 (by kernel_rfl) (by kernel_rfl) h
def lR(a:OA)(b c:Nat)(w:World)(K:KP):=au w (.cells z6.vs.toArray 103) λ d e=>au e (.cells z6.vs.toArray 103) λ e f=>0<=(if (6:Int)<(b:Int) then (6:Int) else (b:Int))/\(if (6:Int)<(b:Int) then (6:Int) else (b:Int))<=(c:Int)/\∃ g:Int->qN,(∃ h,g 0 f h)/\∀ f h i,g i f h->∀ j:qv,cond (decide (i<(((((if (6:Int)<(b:Int) then (6:Int) else (b:Int))).toNat-0):Nat):Int))) (av (if c=0 then a else Option.map (λ x=>Addr.add x (0*5)) a) λ a=>0<=i/\i<(((((if (6:Int)<(b:Int) then (6:Int) else (b:Int))).toNat-0):Nat):Int)/\∃ b c j k l,af f (Addr.add a ((i).toNat*5)) 0 [.string b,iv c,iv j,iv k,iv l]/\au f (.cells #[.string (bs []),qz,qz,qz,qz] 170) λ a m=>aU (qd a 0) 0 [.string b,iv c,iv j,iv k,iv l] m λ b=>∃ c,b.cell? (qd a 2)=some (iv c)/\0<=i/\i<6/\aS b (Addr.add (qd e 0) ((i).toNat*1)) (iv c) λ a=>∃ b,b<h/\g (IntKind.i64.wrap (i+1)) a b) (∃ a:I6,af f (qd e 0) 0 a.vs/\aU (qd d 0) 0 a.vs f λ a=>∃ b:I6,af a (qd d 0) 0 b.vs/\K (.agg b.vs.toArray) a)
theorem rG{a1 l1 c1 w K}(h:lR a1 l1 c1 w K):CP 141 #[.slice a1 l1 c1] w K:=an (aF [(58,[(12,.s (.int .i64))])]) func141 (by kernel_rfl) (by kernel_rfl) h
def iX(a:OA)(b c:Nat)(d:OA)(e f:Nat)(g:OA)(h i:Nat)(j:OA)(k l:Nat)(m:Int)(n o:I6)(w:World)(K:KP):=au w (.cells #[.slice a b c,.slice d e f,.slice g h i,.slice j k l] 100) λ a b=>au b (.cells (n.on (o.vs):List Value).toArray 235) λ b c=>∃ d e f g h i j k l n o p,af c (qd a 0) 0 [.slice d e f,.slice g h i,.slice j k l,.slice n o p]/\CC 179 #[.agg #[.slice d e f,.slice g h i,.slice j k l,.slice n o p],iv m] c λ c d=>∃ e,c=.returned (.bool e)/\cond (!e) (K (iv 6) d) (∃ c e f,d.cell? (qd a 1)=some (.slice c e f)/\av c λ a=>0<=m/\m<(e:Int)/\∃ c,d.cell? (Addr.add (Addr.add a ((m).toNat*4)) 2)=some (iv c)/\∃ a:Bool->qW,(∀ e f,a f e->∀ g:qv,cond f (K (iv 17) e) (K qz e))/\cond (c !=0) (∃ e:I6,af d (qd b 0) 0 e.vs/\∃ f:I6,af d (qd b 6) 0 f.vs/\CC 180 #[.agg e.vs.toArray,.agg f.vs.toArray] d λ b e=>∃ f,b=.returned (iv f)/\a (decide (c<f)) e) (a false d))
theorem mM{a1 l1 c1 a2 l2 c2 a3 l3 c3 a4 l4 c4 n1 u1 u2 w K}(h:iX a1 l1 c1 a2 l2 c2 a3 l3 c3 a4 l4 c4 n1 u1 u2 w K):CP 145 #[.agg #[.slice a1 l1 c1,.slice a2 l2 c2,.slice a3 l3 c3,.slice a4 l4 c4],iv n1,.agg (u1.on (u2.vs):List Value).toArray] w K:=an (aF [(29,[(28,.s .bool)])]) func145 (by kernel_rfl) (by kernel_rfl) h
def nO(a:OA)(b c:Nat)(d:OA)(e f:Nat)(g:OA)(h i:Nat)(j:OA)(k l:Nat)(m n:Int)(o:OA)(p q:Nat)(r s:I6)(w:World)(K:KP):=au w (.cells #[.slice a b c,.slice d e f,.slice g h i,.slice j k l] 100) λ a b=>au b (.cells (r.on (s.vs):List Value).toArray 235) λ b c=>∃ d e f g h i j k l r s t,af c (qd a 0) 0 [.slice d e f,.slice g h i,.slice j k l,.slice r s t]/\au c (.cells #[qn,qn,qn,qn,qz,qn] 297) λ c u=>aU (qd c 0) 0 [.slice d e f,.slice g h i,.slice j k l,.slice r s t,iv n,.slice o p q] u λ d=>∃ e f g h i j k l r s t u v x y z,af d (qd c 0) 0 [.slice e f g,.slice h i j,.slice k l r,.slice s t u,iv v,.slice x y z]/\∃ A:KP,(∀ B,∀ C:Value,A C B->∀ D:qv,∃ D E F G H I J L M N O P,af B (qd a 0) 0 [.slice D E F,.slice G H I,.slice J L M,.slice N O P]/\CC 179 #[.agg #[.slice D E F,.slice G H I,.slice J L M,.slice N O P],iv n] B λ a n=>∃ B,a=.returned (.bool B)/\cond (!B) (K (iv 6) n) (∃ a:I6,af n (qd b 6) 0 a.vs/\CC 86 #[.agg a.vs.toArray] n λ a n=>∃ B,a=.returned (iv B)/\cond (B !=0) (K (iv B) n) (∃ a:KP,(∀ B,∀ D:Value,a D B->∀ E:qv,∃ E F:I6,af B (qd b 0) 0 (E.on (F.vs))/\eu prog D #[.agg (E.on (F.vs):List Value).toArray] B λ b B=>∃ D,b=.returned (.bool D)/\cond (!D) (K (iv 15) B) (K qz B))/\CC 184 #[.slice o p q] n λ b n=>∃ o,b=.returned (.bool o)/\cond o (a (.func (.func 185) #[] #[]) n) (a C n))))/\cond (m==1) (A (.func (.func 181) #[.agg #[.slice e f g,.slice h i j,.slice k l r,.slice s t u,iv v,.slice x y z]] #[]) d) (cond (m==2) (∃ a b e f g h i j k l n o p q r s,af d (qd c 0) 0 [.slice a b e,.slice f g h,.slice i j k,.slice l n o,iv p,.slice q r s]/\A (.func (.func 182) #[.agg #[.slice a b e,.slice f g h,.slice i j k,.slice l n o,iv p,.slice q r s]] #[]) d) (cond (m==3) (∃ a b e f g h i j k l m n o p q r,af d (qd c 0) 0 [.slice a b e,.slice f g h,.slice i j k,.slice l m n,iv o,.slice p q r]/\A (.func (.func 183) #[.agg #[.slice a b e,.slice f g h,.slice i j k,.slice l m n,iv o,.slice p q r]] #[]) d) (K (iv 4) d)))
theorem sH{a1 l1 c1 a2 l2 c2 a3 l3 c3 a4 l4 c4 n1 n2 a5 l5 c5 u1 u2 w K}(h:nO a1 l1 c1 a2 l2 c2 a3 l3 c3 a4 l4 c4 n1 n2 a5 l5 c5 u1 u2 w K):CP 146 #[.agg #[.slice a1 l1 c1,.slice a2 l2 c2,.slice a3 l3 c3,.slice a4 l4 c4],iv n1,iv n2,.slice a5 l5 c5,.agg (u1.on (u2.vs):List Value).toArray] w K:=an (aF [(15,[(12,.s (.raw))]),(127,[(12,.s (.raw))])]) func146 (by kernel_rfl) (by kernel_rfl) h
def oo(a:Int)(b:I6)(c:OA)(d e:Nat)(f:OA)(g h:Nat)(w:World)(K:KP):=au w (.cells b.vs.toArray 41) λ b i=>∃ j:I6,af i (qd b 0) 0 j.vs/\CC 186 #[iv a,.agg j.vs.toArray,.slice c d e,.slice f g h] i λ h i=>∃ j,h=.returned (iv j)/\cond (j !=0) (K (.tuple #[qn,iv j]) i) (CC 187 #[.slice c d e] i λ c d=>∃ e h i,c=.returned (.slice e h i)/\∃ c:Int->qN,(∃ j,c 0 d j)/\∀ d j k,c k d j->∀ l:qv,cond (decide (k<(g:Int))) (∃ l:qW,(∀ m,l m->∀ n:qv,∃ n,n<j/\c (IntKind.i64.wrap (k+1)) m n)/\av f λ c=>0<=k/\k<(g:Int)/\∃ f:I6,af d (Addr.add c ((k).toNat*6)) 0 f.vs/\au d (.cells z6.vs.toArray 41) λ c g=>aU (qd c 0) 0 f.vs g λ f=>CC 188 #[.slice e h i] f λ f g=>∃ j:I6,f=.returned (.agg j.vs.toArray)/\au g (.cells z6.vs.toArray 41) λ f g=>aU (qd f 0) 0 j.vs g λ g=>∃ j:qW,(∀ m,j m->∀ n:qv,∃ n:I6,af m (qd c 0) 0 n.vs/\av e λ o=>0<=k/\k<(h:Int)/\aU (Addr.add o ((k).toNat*6)) 0 n.vs m λ m=>l m)/\cond (a==2) (∃ m:I6,af g.drew (qd b 0) 0 m.vs/\∃ n:I6,af g.drew (qd f 0) 0 n.vs/\av e λ o=>0<=k/\k<(h:Int)/\∃ p:I6,af g.drew (Addr.add o ((k).toNat*6)) 0 p.vs/\∃ o:I6,af g.drew (qd c 0) 0 o.vs/\CC 189 #[.agg m.vs.toArray,.agg n.vs.toArray,.agg p.vs.toArray,.agg o.vs.toArray] g.drew λ m n=>∃ o,m=.returned (.bool o)/\cond o (l n) (j n)) (cond (a==3) (∃ a:I6,af g.drew (qd b 0) 0 a.vs/\∃ b:I6,af g.drew (qd f 0) 0 b.vs/\av e λ f=>0<=k/\k<(h:Int)/\∃ l:I6,af g.drew (Addr.add f ((k).toNat*6)) 0 l.vs/\∃ f:I6,af g.drew (qd c 0) 0 f.vs/\CC 190 #[.agg a.vs.toArray,.agg b.vs.toArray,.agg l.vs.toArray,.agg f.vs.toArray] g.drew λ a b=>∃ f:I6,a=.returned (.agg f.vs.toArray)/\aU (qd c 0) 0 f.vs b λ a=>j a) (j g))) (K (.tuple #[.slice e h i,qz]) d))
theorem tD{n1 u1 a1 l1 c1 a2 l2 c2 w K}(h:oo n1 u1 a1 l1 c1 a2 l2 c2 w K):CP 149 #[iv n1,.agg u1.vs.toArray,.slice a1 l1 c1,.slice a2 l2 c2] w K:=an (aF [(122,[(27,.s (.int .i64))]),(979,[]),(15667,[])]) func149 (by kernel_rfl) (by kernel_rfl) h
def nW(a b c d:Int)(e f:I6)(w:World)(K:KP):=au w (.cells #[iv a,iv b,iv c,iv d] 23) λ a b=>au b (.cells e.vs.toArray 103) λ b c=>au c (.cells f.vs.toArray 41) λ c d=>au d (.cells z6.vs.toArray 103) λ d e=>∃ f g h i,af e (qd a 0) 0 [iv f,iv g,iv h,iv i]/\CC 120 #[.agg #[iv f,iv g,iv h,iv i]] e λ e f=>∃ g,e=.returned (iv g)/\cond (g !=0) (aU (qd d 0) 0 z6.vs f λ e=>∃ h:I6,af e (qd d 0) 0 h.vs/\K (.tuple #[.agg h.vs.toArray,iv g]) e) (∃ e:Value->Nat->qW,(∀ g,∀ h:Value,∀ i,e h i g->∀ j:qv,∃ j:I6,af g (qd c 0) 0 j.vs/\∃ c:Int->qN,(∃ k,c 0 g k)/\∀ g k l,c l g k->∀ m:qv,cond (decide (l<6)) (∃ m:qW,(∀ n,m n->∀ o:qv,∃ o,o<k/\c (IntKind.i64.wrap (l+1)) n o)/\0<=l/\l<6/\∃ c,(j.vs.toArray:Array Value)[(l).toNat*1]?=some (iv c)/\∃ j:Bool->qW,(∀ k n,j n k->∀ o:qv,cond n (0<=l/\l<6/\∃ n,k.cell? (Addr.add (qd b 0) ((l).toNat*1))=some (iv n)/\eu prog h #[iv n] k λ h n=>∃ o,h=.returned (iv o)/\0<=l/\l<6/\aS n (Addr.add (qd i 0) ((l).toNat*1)) (iv o) λ h=>m h) (m k))/\cond (decide (c>0)) (∃ c:I6,af g (qd b 0) 0 c.vs/\CC 194 #[.agg c.vs.toArray] g λ c h=>∃ k,c=.returned (.bool k)/\j k h) (j false g)) (∃ c:Bool->qW,(∀ h j,c j h->∀ k:qv,cond j (aU (qd d 0) 0 z6.vs h λ j=>∃ k:I6,af j (qd d 0) 0 k.vs/\K (.tuple #[.agg k.vs.toArray,iv 4]) j) (∃ j:I6,af h (qd i 0) 0 j.vs/\aU (qd d 0) 0 j.vs h λ h=>∃ j:I6,af h (qd d 0) 0 j.vs/\K (.tuple #[.agg j.vs.toArray,qz]) h))/\∃ d:I6,af g (qd b 0) 0 d.vs/\CC 194 #[.agg d.vs.toArray] g λ d g=>∃ h,d=.returned (.bool h)/\cond (!h) (c true g) (∃ d:I6,af g (qd i 0) 0 d.vs/\∃ h:I6,af g (qd b 0) 0 h.vs/\cond (!(I6.beq d h)) (∃ d:I6,af g (qd i 0) 0 d.vs/\CC 194 #[.agg d.vs.toArray] g λ d h=>∃ i,d=.returned (.bool i)/\c (!i) h) (c false g))))/\∃ c d g h,af f.drew (qd a 0) 0 [iv c,iv d,iv g,iv h]/\∃ i:I6,af f.drew (qd b 0) 0 i.vs/\(CC 193 #[.agg #[iv c,iv d,iv g,iv h]] f.drew λ j k=>∃ l:Value,j=.returned l/\af k (qd b 0) 0 i.vs/\au k (.cells z6.vs.toArray 103) λ j k=>af k (qd b 0) 0 i.vs/\aU (qd j 0) 0 i.vs k λ k=>e l j k)/\au f.drew (.cells z6.vs.toArray 103) λ f j=>af j (qd b 0) 0 i.vs/\af j (qd a 0) 0 [iv c,iv d,iv g,iv h]/\CC 193 #[.agg #[iv c,iv d,iv g,iv h]] j λ a c=>∃ d:Value,a=.returned d/\af c (qd b 0) 0 i.vs/\aU (qd f 0) 0 i.vs c λ a=>e d f a)
theorem sV{n1 n2 n3 n4 u1 u2 w K}(h:nW n1 n2 n3 n4 u1 u2 w K):CP 152 #[.agg #[iv n1,iv n2,iv n3,iv n4],.agg u1.vs.toArray,.agg u2.vs.toArray] w K:=an (aF [(7,[(9,.s (.raw)),(10,.s (.blk))]),(122,[(23,.s (.int .i64))]),(979,[]),(7833,[(32,.s .bool)]),(62,[(53,.s .bool)])]) func152 (by kernel_rfl) (by kernel_rfl) h
def tO(a:OA)(b c:Nat)(d:OA)(e f:Nat)(g:OA)(h i:Nat)(j:OA)(k l:Nat)(m:Int)(w:World)(K:KP):=au w (.cells #[.slice a b c,.slice d e f,.slice g h i,.slice j k l] 100) λ a b=>cond (decide (m>=0)) (∃ c d e,b.cell? (qd a 1)=some (.slice c d e)/\K (.bool (decide (m<(d:Int)))) b) (K (.bool false) b)
theorem xN{a1 l1 c1 a2 l2 c2 a3 l3 c3 a4 l4 c4 n1 w K}(h:tO a1 l1 c1 a2 l2 c2 a3 l3 c3 a4 l4 c4 n1 w K):CP 179 #[.agg #[.slice a1 l1 c1,.slice a2 l2 c2,.slice a3 l3 c3,.slice a4 l4 c4],iv n1] w K:=an (aF []) func179 (by kernel_rfl) (by kernel_rfl) h
def gQ(a:OA)(b c:Nat)(d:OA)(e f:Nat)(g:OA)(h i:Nat)(j:OA)(k l:Nat)(m:Int)(n:OA)(o p:Nat)(q r:I6)(w:World)(K:KP):=au w (.cells #[.slice a b c,.slice d e f,.slice g h i,.slice j k l,iv m,.slice n o p] 297) λ a b=>au b (.cells (q.on (r.vs):List Value).toArray 235) λ b c=>∃ d e f g h i j k l m n o p q r s,af c.drew (qd a 0) 0 [.slice d e f,.slice g h i,.slice j k l,.slice m n o,iv p,.slice q r s]/\∃ t u:I6,af c.drew (qd b 0) 0 (t.on (u.vs))/\∃ b v x y z A B C D E F G,af c.drew (qd a 0) 0 [.slice b v x,.slice y z A,.slice B C D,.slice E F G]/\∃ H,c.drew.cell? (qd a 4)=some (iv H)/\∃ I J L,c.drew.cell? (qd a 5)=some (.slice I J L)/\CC 226 #[.agg #[.slice d e f,.slice g h i,.slice j k l,.slice m n o,iv p,.slice q r s],.agg (t.on (u.vs):List Value).toArray] c.drew λ c d=>∃ e,c=.returned (iv e)/\d.cell? (qd a 5)=some (.slice I J L)/\d.cell? (qd a 4)=some (iv H)/\af d (qd a 0) 0 [.slice b v x,.slice y z A,.slice B C D,.slice E F G]/\CC 227 #[.agg #[.slice b v x,.slice y z A,.slice B C D,.slice E F G],iv H,.slice I J L] d λ a b=>∃ c,a=.returned (iv c)/\K (.bool (decide (e<=c))) b
theorem kZ{a1 l1 c1 a2 l2 c2 a3 l3 c3 a4 l4 c4 n1 a5 l5 c5 u1 u2 w K}(h:gQ a1 l1 c1 a2 l2 c2 a3 l3 c3 a4 l4 c4 n1 a5 l5 c5 u1 u2 w K):CP 181 #[.agg #[.slice a1 l1 c1,.slice a2 l2 c2,.slice a3 l3 c3,.slice a4 l4 c4,iv n1,.slice a5 l5 c5],.agg (u1.on (u2.vs):List Value).toArray] w K:=an (aF []) func181 (by kernel_rfl) (by kernel_rfl) h
def fK(a:OA)(b c:Nat)(d:OA)(e f:Nat)(g:OA)(h i:Nat)(j:OA)(k l:Nat)(m:Int)(n:OA)(o p:Nat)(q r:I6)(w:World)(K:KP):=au w (.cells #[.slice a b c,.slice d e f,.slice g h i,.slice j k l,iv m,.slice n o p] 297) λ a b=>au b (.cells (q.on (r.vs):List Value).toArray 235) λ b c=>∃ d:Bool->qW,(∀ e f,d f e->∀ g:qv,K (.bool f) e)/\∃ e f g,c.drew.cell? (qd a 5)=some (.slice e f g)/\∃ h i j,c.drew.cell? (qd a 5)=some (.slice h i j)/\∃ k l m,c.drew.cell? (qd a 5)=some (.slice k l m)/\0<=(l:Int)/\(l:Int)<=(g:Int)/\0<=(i:Int)/\(i:Int)<=((((l:Int)).toNat:Nat):Int)/\∃ n o:I6,af c.drew (qd b 0) 0 (n.on (o.vs))/\(au c.drew (.cells (n.on (o.vs):List Value).toArray 235) λ p q=>q.cell? (qd a 5)=some (.slice k l m)/\q.cell? (qd a 5)=some (.slice h i j)/\q.cell? (qd a 5)=some (.slice e f g)/\(bn prog (Builtin.append_ #[239,239] 239 #[.slice (if ((l:Int)).toNat=0 then e else Option.map (λ x=>Addr.add x (0*12)) e) (((i:Int)).toNat-0) (((l:Int)).toNat-0),.slice (some (qd p 0)) 1 1]) q λ r s=>∃ t u v,r=(.slice t u v)/\(CC 228 #[.slice t u v] s λ r y=>∃ z A B C D E F,r=.returned (.tuple #[.agg #[.slice z A B,.slice C D E],.bool F])/\au y (.cells #[qn,qn] 351) λ r y=>aU (qd r 0) 0 [.slice z A B,.slice C D E] y λ r=>d F r)/\au s (.cells #[qn,qn] 351) λ r s=>CC 228 #[.slice t u v] s λ s t=>∃ u v y z A B C,s=.returned (.tuple #[.agg #[.slice u v y,.slice z A B],.bool C])/\aU (qd r 0) 0 [.slice u v y,.slice z A B] t λ r=>d C r)/\au q (.cells #[qn,qn] 351) λ q r=>r.cell? (qd a 5)=some (.slice k l m)/\r.cell? (qd a 5)=some (.slice h i j)/\r.cell? (qd a 5)=some (.slice e f g)/\bn prog (Builtin.append_ #[239,239] 239 #[.slice (if ((l:Int)).toNat=0 then e else Option.map (λ x=>Addr.add x (0*12)) e) (((i:Int)).toNat-0) (((l:Int)).toNat-0),.slice (some (qd p 0)) 1 1]) r λ p r=>∃ s t u,p=(.slice s t u)/\CC 228 #[.slice s t u] r λ p r=>∃ s t u v y z A,p=.returned (.tuple #[.agg #[.slice s t u,.slice v y z],.bool A])/\aU (qd q 0) 0 [.slice s t u,.slice v y z] r λ p=>d A p)/\au c.drew (.cells #[qn,qn] 351) λ c p=>af p (qd b 0) 0 (n.on (o.vs))/\p.cell? (qd a 5)=some (.slice k l m)/\p.cell? (qd a 5)=some (.slice h i j)/\p.cell? (qd a 5)=some (.slice e f g)/\au p (.cells (n.on (o.vs):List Value).toArray 235) λ b n=>n.cell? (qd a 5)=some (.slice k l m)/\n.cell? (qd a 5)=some (.slice h i j)/\n.cell? (qd a 5)=some (.slice e f g)/\bn prog (Builtin.append_ #[239,239] 239 #[.slice (if ((l:Int)).toNat=0 then e else Option.map (λ x=>Addr.add x (0*12)) e) (((i:Int)).toNat-0) (((l:Int)).toNat-0),.slice (some (qd b 0)) 1 1]) n λ a b=>∃ e f g,a=(.slice e f g)/\CC 228 #[.slice e f g] b λ a b=>∃ e f g h i j k,a=.returned (.tuple #[.agg #[.slice e f g,.slice h i j],.bool k])/\aU (qd c 0) 0 [.slice e f g,.slice h i j] b λ a=>d k a
theorem jA{a1 l1 c1 a2 l2 c2 a3 l3 c3 a4 l4 c4 n1 a5 l5 c5 u1 u2 w K}(h:fK a1 l1 c1 a2 l2 c2 a3 l3 c3 a4 l4 c4 n1 a5 l5 c5 u1 u2 w K):CP 182 #[.agg #[.slice a1 l1 c1,.slice a2 l2 c2,.slice a3 l3 c3,.slice a4 l4 c4,iv n1,.slice a5 l5 c5],.agg (u1.on (u2.vs):List Value).toArray] w K:=an (aF [(3,[(6,.s .bool)])]) func182 (by kernel_rfl) (by kernel_rfl) h
def fL(a:OA)(b c:Nat)(d:OA)(e f:Nat)(g:OA)(h i:Nat)(j:OA)(k l:Nat)(m:Int)(n:OA)(o p:Nat)(q r:I6)(w:World)(K:KP):=au w (.cells #[.slice a b c,.slice d e f,.slice g h i,.slice j k l,iv m,.slice n o p] 297) λ a b=>au b (.cells (q.on (r.vs):List Value).toArray 235) λ b c=>∃ d e f g h i j k l m n o p q r s,af c (qd a 0) 0 [.slice d e f,.slice g h i,.slice j k l,.slice m n o,iv p,.slice q r s]/\∃ t u:I6,af c (qd b 0) 0 (t.on (u.vs))/\CC 181 #[.agg #[.slice d e f,.slice g h i,.slice j k l,.slice m n o,iv p,.slice q r s],.agg (t.on (u.vs):List Value).toArray] c λ c d=>∃ e,c=.returned (.bool e)/\cond e (K (.bool true) d) (∃ c e f g h i j k l m n o p q r s,af d (qd a 0) 0 [.slice c e f,.slice g h i,.slice j k l,.slice m n o,iv p,.slice q r s]/\∃ a t:I6,af d (qd b 0) 0 (a.on (t.vs))/\CC 182 #[.agg #[.slice c e f,.slice g h i,.slice j k l,.slice m n o,iv p,.slice q r s],.agg (a.on (t.vs):List Value).toArray] d λ a b=>∃ c,a=.returned (.bool c)/\K (.bool c) b)
theorem jB{a1 l1 c1 a2 l2 c2 a3 l3 c3 a4 l4 c4 n1 a5 l5 c5 u1 u2 w K}(h:fL a1 l1 c1 a2 l2 c2 a3 l3 c3 a4 l4 c4 n1 a5 l5 c5 u1 u2 w K):CP 183 #[.agg #[.slice a1 l1 c1,.slice a2 l2 c2,.slice a3 l3 c3,.slice a4 l4 c4,iv n1,.slice a5 l5 c5],.agg (u1.on (u2.vs):List Value).toArray] w K:=an (aF []) func183 (by kernel_rfl) (by kernel_rfl) h
def nP(a:OA)(b c:Nat)(w:World)(K:KP):=cond (decide ((b:Int)>(0:Int))) (av a λ a=>0<=(IntKind.i64.wrap ((b:Int)-(1:Int)))/\(IntKind.i64.wrap ((b:Int)-(1:Int)))<(b:Int)/\∃ c:I6,af w (Addr.add (Addr.add a (((IntKind.i64.wrap ((b:Int)-(1:Int)))).toNat*12)) 6) 0 c.vs/\K (.bool (I6.beq c z6)) w) (K (.bool false) w)
theorem sJ{a1 l1 c1 w K}(h:nP a1 l1 c1 w K):CP 184 #[.slice a1 l1 c1] w K:=an (aF []) func184 (by kernel_rfl) (by kernel_rfl) h
def kn(a b:I6)(w:World)(K:KP):=au w (.cells (a.on (b.vs):List Value).toArray 235) λ a b=>∃ c:I6,af b (qd a 6) 0 c.vs/\K (.bool (I6.beq c z6)) b
theorem oV{u1 u2 w K}(h:kn u1 u2 w K):CP 185 #[.agg (u1.on (u2.vs):List Value).toArray] w K:=an (aF []) func185 (by kernel_rfl) (by kernel_rfl) h
def oq(a:Int)(b:I6)(c:OA)(d e:Nat)(f:OA)(g h:Nat)(w:World)(K:KP):=au w (.cells b.vs.toArray 41) λ b i=>∃ j:Bool->qW,(∀ k l,j l k->∀ m:qv,cond l (K (iv 4) k) (∃ l:Bool->qW,(∀ m n,l n m->∀ o:qv,cond n (K (iv 3) m) (∃ n:I6,af m (qd b 0) 0 n.vs/\CC 86 #[.agg n.vs.toArray] m λ b m=>∃ n,b=.returned (iv n)/\cond (n !=0) (K (iv 4) m) (∃ b:Int->qN,(∃ n,b 0 m n)/\∀ m n o,b o m n->∀ p:qv,cond (decide (o<2)) (0<=o/\o<2/\∃ p q r,(#[.slice c d e,.slice f g h]:Array Value)[(o).toNat*1]?=some (.slice p q r)/\∃ c:Int->qN,(∃ e,c 0 m e)/\∀ f e h,c h f e->∀ r:qv,cond (decide (h<(q:Int))) (av p λ p=>0<=h/\h<(q:Int)/\∃ q:I6,af f (Addr.add p ((h).toNat*6)) 0 q.vs/\au f (.cells z6.vs.toArray 41) λ p r=>aU (qd p 0) 0 q.vs r λ q=>∃ r:I6,af q (qd p 0) 0 r.vs/\CC 86 #[.agg r.vs.toArray] q λ p q=>∃ r,p=.returned (iv r)/\cond (r !=0) (K (iv 4) q) (∃ p,p<e/\c (IntKind.i64.wrap (h+1)) q p)) (∃ c,c<n/\b (IntKind.i64.wrap (o+1)) f c)) (K qz m))))/\cond ((d:Int) !=(g:Int)) (l true k) (l (decide ((d:Int)>(8:Int))) k)))/\cond (decide (a<1)) (j true i) (j (decide (a>3)) i)
theorem tE{n1 u1 a1 l1 c1 a2 l2 c2 w K}(h:oq n1 u1 a1 l1 c1 a2 l2 c2 w K):CP 186 #[iv n1,.agg u1.vs.toArray,.slice a1 l1 c1,.slice a2 l2 c2] w K:=an (aF [(12,[(13,.s .bool)]),(51,[(20,.s .bool)]),(58,[(38,.s (.int .i64))]),(14950,[(43,.s (.int .i64))])]) func186 (by kernel_rfl) (by kernel_rfl) h
def CN(a:OA)(b c:Nat)(w:World)(K:KP):=au w (.cells z6.vs.toArray 41) λ d e=>CC 192 #[.slice a b c] e λ a b=>∃ c:I6,a=.returned (.agg c.vs.toArray)/\aU (qd d 0) 0 c.vs b λ a=>∃ b:I6,af a (qd d 0) 0 b.vs/\K (.agg b.vs.toArray) a
theorem EG{a1 l1 c1 w K}(h:CN a1 l1 c1 w K):CP 188 #[.slice a1 l1 c1] w K:=an (aF []) func188 (by kernel_rfl) (by kernel_rfl) h
def kU(a b c d:I6)(w:World)(K:KP):=au w (.cells a.vs.toArray 41) λ a e=>au e (.cells b.vs.toArray 41) λ b e=>au e (.cells c.vs.toArray 41) λ c e=>au e (.cells d.vs.toArray 41) λ d e=>∃ f:Int->qN,(∃ g,f 0 e g)/\∀ e g h,f h e g->∀ i:qv,cond (decide (h<6)) (∃ i:Bool->qW,(∀ j k,i k j->∀ l:qv,cond k (K (.bool true) j) (∃ k,k<g/\f (IntKind.i64.wrap (h+1)) j k))/\0<=h/\h<6/\∃ f,e.drew.cell? (Addr.add (qd d 0) ((h).toNat*1))=some (iv f)/\0<=h/\h<6/\∃ g,e.drew.cell? (Addr.add (qd c 0) ((h).toNat*1))=some (iv g)/\cond (decide (f<g)) (0<=h/\h<6/\∃ f,e.drew.cell? (Addr.add (qd b 0) ((h).toNat*1))=some (iv f)/\0<=h/\h<6/\∃ b,e.drew.cell? (Addr.add (qd c 0) ((h).toNat*1))=some (iv b)/\0<=h/\h<6/\∃ c,e.drew.cell? (Addr.add (qd d 0) ((h).toNat*1))=some (iv c)/\0<=h/\h<6/\∃ d,e.drew.cell? (Addr.add (qd a 0) ((h).toNat*1))=some (iv d)/\i (decide ((IntKind.i64.wrap ((IntKind.i64.wrap (f-b))+c))<d)) e.drew) (i false e.drew)) (K (.bool false) e)
theorem qB{u1 u2 u3 u4 w K}(h:kU u1 u2 u3 u4 w K):CP 189 #[.agg u1.vs.toArray,.agg u2.vs.toArray,.agg u3.vs.toArray,.agg u4.vs.toArray] w K:=an (aF [(26,[(10,.s (.int .i64))]),(1689,[(36,.s .bool)])]) func189 (by kernel_rfl) (by kernel_rfl) h
def mJ(a b c d:I6)(w:World)(K:KP):=au w (.cells a.vs.toArray 41) λ a e=>au e (.cells b.vs.toArray 41) λ b e=>au e (.cells c.vs.toArray 41) λ c e=>au e (.cells d.vs.toArray 41) λ d e=>au e (.cells z6.vs.toArray 41) λ e f=>∃ g:Int->qN,(∃ h,g 0 f h)/\∀ f h i,g i f h->∀ j:qv,cond (decide (i<6)) (∃ j:qW,(∀ k,j k->∀ l:qv,∃ l,l<h/\g (IntKind.i64.wrap (i+1)) k l)/\0<=i/\i<6/\∃ g,f.drew.cell? (Addr.add (qd d 0) ((i).toNat*1))=some (iv g)/\0<=i/\i<6/\∃ h,f.drew.cell? (Addr.add (qd c 0) ((i).toNat*1))=some (iv h)/\cond (decide (g<h)) (0<=i/\i<6/\∃ g,f.drew.drew.cell? (Addr.add (qd c 0) ((i).toNat*1))=some (iv g)/\0<=i/\i<6/\∃ h,f.drew.drew.cell? (Addr.add (qd c 0) ((i).toNat*1))=some (iv h)/\0<=i/\i<6/\∃ c,f.drew.drew.cell? (Addr.add (qd d 0) ((i).toNat*1))=some (iv c)/\0<=i/\i<6/\∃ k,f.drew.drew.cell? (Addr.add (qd b 0) ((i).toNat*1))=some (iv k)/\0<=i/\i<6/\∃ b,f.drew.drew.cell? (Addr.add (qd a 0) ((i).toNat*1))=some (iv b)/\0<=i/\i<6/\aS f.drew.drew (Addr.add (qd d 0) ((i).toNat*1)) (iv (IntKind.i64.wrap (g-(if (if (0:Int)>(IntKind.i64.wrap (k-b)) then (0:Int) else (IntKind.i64.wrap (k-b)))<(IntKind.i64.wrap (h-c)) then (if (0:Int)>(IntKind.i64.wrap (k-b)) then (0:Int) else (IntKind.i64.wrap (k-b))) else (IntKind.i64.wrap (h-c)))))) λ a=>j a) (j f.drew)) (∃ a:I6,af f (qd d 0) 0 a.vs/\aU (qd e 0) 0 a.vs f λ a=>∃ b:I6,af a (qd e 0) 0 b.vs/\K (.agg b.vs.toArray) a)
theorem rP{u1 u2 u3 u4 w K}(h:mJ u1 u2 u3 u4 w K):CP 190 #[.agg u1.vs.toArray,.agg u2.vs.toArray,.agg u3.vs.toArray,.agg u4.vs.toArray] w K:=an (aF [(26,[(10,.s (.int .i64))]),(211,[])]) func190 (by kernel_rfl) (by kernel_rfl) h
def ud(a b c d:Int)(w:World)(K:KP):=au w (.cells #[iv a,iv b,iv c,iv d] 23) λ a b=>K (.func (.func 229) #[] #[qp a]) b
theorem iC{n1 n2 n3 n4 w K}(h:ud n1 n2 n3 n4 w K):CP 193 #[.agg #[iv n1,iv n2,iv n3,iv n4]] w K:=an (aF []) func193 (by kernel_rfl) (by kernel_rfl) h
def lS(a:I6)(w:World)(K:KP):=au w (.cells a.vs.toArray 103) λ a b=>∃ c:I6,af b (qd a 0) 0 c.vs/\∃ a:Int->qN,(∃ d,a 0 b d)/\∀ b d e,a e b d->∀ f:qv,cond (decide (e<6)) (0<=e/\e<6/\∃ f,(c.vs.toArray:Array Value)[(e).toNat*1]?=some (iv f)/\CC 230 #[iv f] b λ c f=>∃ g,c=.returned (iv g)/\cond (g !=0) (K (.bool false) f) (∃ c,c<d/\a (IntKind.i64.wrap (e+1)) f c)) (K (.bool true) b)
theorem rI{u1 w K}(h:lS u1 w K):CP 194 #[.agg u1.vs.toArray] w K:=an (aF [(26,[(6,.s (.int .i64))])]) func194 (by kernel_rfl) (by kernel_rfl) h
def fM(a:OA)(b c:Nat)(d:OA)(e f:Nat)(g:OA)(h i:Nat)(j:OA)(k l:Nat)(m:Int)(n:OA)(o p:Nat)(q r:I6)(w:World)(K:KP):=au w (.cells #[.slice a b c,.slice d e f,.slice g h i,.slice j k l,iv m,.slice n o p] 297) λ a b=>au b (.cells (q.on (r.vs):List Value).toArray 235) λ b c=>∃ d e f,c.cell? (qd a 0)=some (.slice d e f)/\∃ a:I6,af c (qd b 6) 0 a.vs/\CC 75 #[.slice d e f,.agg a.vs.toArray] c λ a b=>∃ c,a=.returned (iv c)/\K (iv c) b
theorem jC{a1 l1 c1 a2 l2 c2 a3 l3 c3 a4 l4 c4 n1 a5 l5 c5 u1 u2 w K}(h:fM a1 l1 c1 a2 l2 c2 a3 l3 c3 a4 l4 c4 n1 a5 l5 c5 u1 u2 w K):CP 226 #[.agg #[.slice a1 l1 c1,.slice a2 l2 c2,.slice a3 l3 c3,.slice a4 l4 c4,iv n1,.slice a5 l5 c5],.agg (u1.on (u2.vs):List Value).toArray] w K:=an (aF []) func226 (by kernel_rfl) (by kernel_rfl) h
def iq(a:OA)(b c:Nat)(d:OA)(e f:Nat)(g:OA)(h i:Nat)(j:OA)(k l:Nat)(m:Int)(n:OA)(o p:Nat)(w:World)(K:KP):=au w (.cells #[.slice a b c,.slice d e f,.slice g h i,.slice j k l] 100) λ a b=>∃ c d e f g h i j k l q r,af b (qd a 0) 0 [.slice c d e,.slice f g h,.slice i j k,.slice l q r]/\CC 179 #[.agg #[.slice c d e,.slice f g h,.slice i j k,.slice l q r],iv m] b λ b c=>∃ d,b=.returned (.bool d)/\cond (!d) (K qz c) (∃ b d e f g h i j k l q r,af c.drew (qd a 0) 0 [.slice b d e,.slice f g h,.slice i j k,.slice l q r]/\∃ s t u,c.drew.cell? (qd a 1)=some (.slice s t u)/\av s λ a=>0<=m/\m<(t:Int)/\∃ s,c.drew.cell? (Addr.add (Addr.add a ((m).toNat*4)) 3)=some (iv s)/\∃ a:Int->Int->qN,(∃ t,a s 0 c.drew t)/\∀ c t s u,a s u c t->∀ v:qv,cond (decide (u<(o:Int))) (av n λ v=>0<=u/\u<(o:Int)/\∃ x y:I6,af c (Addr.add v ((u).toNat*12)) 0 (x.on (y.vs))/\au c (.cells #[qz,qz,qz,qz,qz,qz,qz,qz,qz,qz,qz,qz] 235) λ v z=>aU (qd v 0) 0 (x.on (y.vs)) z λ x=>∃ y z:I6,af x (qd v 0) 0 (y.on (z.vs))/\CC 226 #[.agg #[.slice b d e,.slice f g h,.slice i j k,.slice l q r,iv m,.slice n o p],.agg (y.on (z.vs):List Value).toArray] x λ b d=>∃ e,b=.returned (iv e)/\∃ b,b<t/\a (if e<s then e else s) (IntKind.i64.wrap (u+1)) d b) (K (iv s) c))
theorem lE{a1 l1 c1 a2 l2 c2 a3 l3 c3 a4 l4 c4 n1 a5 l5 c5 w K}(h:iq a1 l1 c1 a2 l2 c2 a3 l3 c3 a4 l4 c4 n1 a5 l5 c5 w K):CP 227 #[.agg #[.slice a1 l1 c1,.slice a2 l2 c2,.slice a3 l3 c3,.slice a4 l4 c4],iv n1,.slice a5 l5 c5] w K:=an (aF [(122,[(8,.s (.int .i64)),(28,.s (.int .i64))])]) func227 (by kernel_rfl) (by kernel_rfl) h
def p6(a:OA)(b c:Nat)(w:World)(K:KP):=au w (.cells #[qn,qn] 351) λ d e=>CC 267 #[.slice a b c] e λ e f=>∃ g,e=.returned (.bool g)/\cond (!g) (aU (qd d 0) 0 [qn,qn] f λ e=>∃ g h i j k l,af e (qd d 0) 0 [.slice g h i,.slice j k l]/\K (.tuple #[.agg #[.slice g h i,.slice j k l],.bool false]) e) (CC 268 #[.slice a b c] f λ c e=>∃ f g h i j k,c=.returned (.tuple #[.slice f g h,.slice i j k])/\cond (!(i).isNone) (aU (qd d 0) 0 [.slice i j k,qn] e λ c=>∃ i j k l m n,af c (qd d 0) 0 [.slice i j k,.slice l m n]/\K (.tuple #[.agg #[.slice i j k,.slice l m n],.bool false]) c) (∃ c:Int->Int->qN,(∃ i,c 0 (0:Int) e i)/\∀ e i j k,c j k e i->∀ l:qv,cond (decide (k<(b:Int))) (av a λ l=>0<=k/\k<(b:Int)/\∃ m n:I6,af e (Addr.add l ((k).toNat*12)) 0 (m.on (n.vs))/\au e (.cells #[qz,qz,qz,qz,qz,qz,qz,qz,qz,qz,qz,qz] 235) λ l o=>aU (qd l 0) 0 (m.on (n.vs)) o λ m=>∃ n:I6,af m.drew (qd l 0) 0 n.vs/\∃ o:I6,af m.drew (qd l 6) 0 o.vs/\av f λ l=>0<=k/\k<(g:Int)/\∃ p,m.drew.cell? (Addr.add l ((k).toNat*1))=some (iv p)/\CC 180 #[.agg n.vs.toArray,.agg o.vs.toArray] m.drew λ m n=>∃ o,m=.returned (iv o)/\n.cell? (Addr.add l ((k).toNat*1))=some (iv p)/\∃ l,l<i/\c (if (IntKind.i64.wrap (o-p))>j then (IntKind.i64.wrap (o-p)) else j) (IntKind.i64.wrap (k+1)) n l) (∃ c:Int->Int->qN,(∃ i,c j 0 e i)/\∀ e i j k,c j k e i->∀ l:qv,cond (decide (k<(b:Int))) (∃ l:Int->qW,(∀ m n,l n m->∀ o:qv,∃ o,o<i/\c n (IntKind.i64.wrap (k+1)) m o)/\av a λ a=>0<=k/\k<(b:Int)/\∃ b c:I6,af e (Addr.add a ((k).toNat*12)) 0 (b.on (c.vs))/\au e (.cells #[qz,qz,qz,qz,qz,qz,qz,qz,qz,qz,qz,qz] 235) λ a i=>aU (qd a 0) 0 (b.on (c.vs)) i λ b=>∃ c:I6,af b (qd a 6) 0 c.vs/\cond (I6.beq c z6) (av f λ a=>0<=k/\k<(g:Int)/\∃ c,b.cell? (Addr.add a ((k).toNat*1))=some (iv c)/\l (IntKind.i64.wrap (0-c)) b) (l j b)) (∃ a:Int->qN,(∃ b,a 0 e b)/\∀ c b e,a e c b->∀ i:qv,cond (decide (e<(g:Int))) (av f λ i=>0<=e/\e<(g:Int)/\∃ k,c.cell? (Addr.add i ((e).toNat*1))=some (iv k)/\av f λ i=>0<=e/\e<(g:Int)/\aS c (Addr.add i ((e).toNat*1)) (iv (IntKind.i64.wrap (k+j))) λ i=>∃ j,j<b/\a (IntKind.i64.wrap (e+1)) i j) (aU (qd d 0) 0 [qn,.slice f g h] c λ a=>∃ b c e f g h,af a (qd d 0) 0 [.slice b c e,.slice f g h]/\K (.tuple #[.agg #[.slice b c e,.slice f g h],.bool true]) a)))))
theorem uT{a1 l1 c1 w K}(h:p6 a1 l1 c1 w K):CP 228 #[.slice a1 l1 c1] w K:=an (aF [(506,[(6,.s (.int .i64)),(27,.s (.int .i64))]),(1018,[(6,.s (.int .i64)),(47,.s (.int .i64))]),(8147,[(6,.s (.int .i64))]),(2042,[(64,.s (.int .i64))])]) func228 (by kernel_rfl) (by kernel_rfl) h
def rH(a:Int)(b:Nat)(w:World)(K:KP):=∃ c,w.cell? (qd b 0)=some (iv c)/\∃ d,w.cell? (qd b 1)=some (iv d)/\(100:Int)≠0/\K (iv (IntKind.i64.wrap ((IntKind.i64.wrap (a+c))+(IntKind.i64.wrap (Int.tdiv (IntKind.i64.wrap ((IntKind.i64.wrap (a*d))+(99:Int))) (100:Int)))))) w
theorem mS{n1 b1 w K}(h:rH n1 b1 w K):CP 229 #[iv n1,.pointer (some ⟨b1,0,none⟩)] w K:=an (aF []) func229 (by kernel_rfl) (by kernel_rfl) h
def tQ(a:Int)(w:World)(K:KP):=CC 269 #[iv a] w λ a b=>∃ c,a=.returned (.bool c)/\cond (!c) (K (iv 4) b) (K qz b)
theorem xP{n1 w K}(h:tQ n1 w K):CP 230 #[iv n1] w K:=an (aF []) func230 (by kernel_rfl) (by kernel_rfl) h
def oe(a:OA)(b c:Nat)(d:OA)(e f:Nat)(g:OA)(h i:Nat)(w:World)(K:KP):=au w (.cells #[.slice d e f,.slice g h i] 351) λ d e=>CC 267 #[.slice a b c] e λ e f=>∃ g,e=.returned (.bool g)/\cond (!g) (K (iv 4) f) (∃ e g h i j k,af f (qd d 0) 0 [.slice e g h,.slice i j k]/\CC 284 #[.slice a b c,.agg #[.slice e g h,.slice i j k]] f λ e f=>∃ g,e=.returned (.bool g)/\cond (!g) (K (iv 2) f) (∃ e g h,f.cell? (qd d 0)=some (.slice e g h)/\cond ((g:Int)==(0:Int)) (∃ e g h,f.cell? (qd d 1)=some (.slice e g h)/\CC 285 #[.slice a b c,.slice e g h] f λ c e=>∃ g,c=.returned (.bool g)/\cond (!g) (K (iv 13) e) (K qz e)) (∃ c e g,f.cell? (qd d 0)=some (.slice c e g)/\∃ g:Int->Int->qN,(∃ h,g 0 (0:Int) f h)/\∀ f h i j,g i j f h->∀ k:qv,cond (decide (j<(e:Int))) (av c λ c=>0<=j/\j<(e:Int)/\∃ e,f.cell? (Addr.add c ((j).toNat*1))=some (iv e)/\av a λ c=>0<=e/\e<(b:Int)/\∃ k l:I6,af f.drew (Addr.add c ((e).toNat*12)) 0 (k.on (l.vs))/\∃ c e m,f.drew.cell? (qd d 0)=some (.slice c e m)/\∃ m n o,f.drew.cell? (qd d 0)=some (.slice m n o)/\(n:Int)≠0/\av c λ c=>0<=(Int.tmod (IntKind.i64.wrap (j+1)) (n:Int))/\(Int.tmod (IntKind.i64.wrap (j+1)) (n:Int))<(e:Int)/\∃ d,f.drew.cell? (Addr.add c (((Int.tmod (IntKind.i64.wrap (j+1)) (n:Int))).toNat*1))=some (iv d)/\av a λ a=>0<=d/\d<(b:Int)/\∃ b c:I6,af f.drew (Addr.add a ((d).toNat*12)) 0 (b.on (c.vs))/\CC 286 #[.agg (k.on (l.vs):List Value).toArray,.agg (b.on (c.vs):List Value).toArray] f.drew λ a b=>∃ c,a=.returned (iv c)/\∃ a,a<h/\g (IntKind.i64.wrap (i+c)) (IntKind.i64.wrap (j+1)) b a) (cond (decide (i>=0)) (K (iv 13) f) (K qz f)))))
theorem tq{a1 l1 c1 a2 l2 c2 a3 l3 c3 w K}(h:oe a1 l1 c1 a2 l2 c2 a3 l3 c3 w K):CP 254 #[.slice a1 l1 c1,.agg #[.slice a2 l2 c2,.slice a3 l3 c3]] w K:=an (aF [(506,[(5,.s (.int .i64)),(27,.s (.int .i64))])]) func254 (by kernel_rfl) (by kernel_rfl) h
def kJ(a:OA)(b c:Nat)(w:World)(K:KP):=∃ c:Int->qN,(∃ d,c 0 w d)/\∀ e d f,c f e d->∀ g:qv,cond (decide (f<(b:Int))) (av a λ a=>0<=f/\f<(b:Int)/\∃ b g:I6,af e (Addr.add a ((f).toNat*12)) 0 (b.on (g.vs))/\au e (.cells #[qz,qz,qz,qz,qz,qz,qz,qz,qz,qz,qz,qz] 235) λ a h=>aU (qd a 0) 0 (b.on (g.vs)) h λ b=>∃ g h:I6,af b (qd a 0) 0 (g.on (h.vs))/\CC 294 #[.agg (g.on (h.vs):List Value).toArray] b λ a b=>∃ g,a=.returned (.bool g)/\cond (!g) (K (.bool false) b) (∃ a,a<d/\c (IntKind.i64.wrap (f+1)) b a)) (K (.bool true) e)
theorem p7{a1 l1 c1 w K}(h:kJ a1 l1 c1 w K):CP 267 #[.slice a1 l1 c1] w K:=an (aF [(26,[(7,.s (.int .i64))])]) func267 (by kernel_rfl) (by kernel_rfl) h
def mw(a:OA)(b c:Nat)(w:World)(K:KP):=bn prog (Instr.makeSlice 319 (iv (b:Int)) (iv (b:Int))) w λ c d=>∃ e f g,c=(.slice e f g)/\bn prog (Instr.makeSlice 65 (iv (b:Int)) (iv (b:Int))) d λ c d=>∃ h i j,c=(.slice h i j)/\∃ c:Int->qN,(∃ k,c 0 d k)/\∀ d k l,c l d k->∀ m:qv,cond (decide (l<(i:Int))) (av h λ m=>0<=l/\l<(i:Int)/\aS d (Addr.add m ((l).toNat*1)) (iv (-1)) λ m=>∃ n,n<k/\c (IntKind.i64.wrap (l+1)) m n) (∃ c:Int->qW,(∀ k l,c l k->∀ m:qv,cond (decide (l<0)) (K (.tuple #[.slice e f g,qn]) k) (CC 295 #[.slice h i j,iv l] k λ g j=>∃ k l m,g=.returned (.slice k l m)/\K (.tuple #[qn,.slice k l m]) j))/\∃ g:Int->Int->qN,(∃ j,g (-1:Int) (0:Int) d j)/\∀ d j k l,g k l d j->∀ m:qv,cond (decide (l<(b:Int))) (∃ m:Int->Int->qN,(∃ n,m (-1:Int) (0:Int) d n)/\∀ o n p q,m p q o n->∀ r:qv,cond (decide (q<(b:Int))) (∃ r:Int->Int->qN,(∃ s,r p 0 o s)/\∀ t s u v,r u v t s->∀ x:qv,cond (decide (v<(b:Int))) (∃ x:Int->qW,(∀ y z,x z y->∀ A:qv,∃ A,A<s/\r z (IntKind.i64.wrap (v+1)) y A)/\av e λ r=>0<=q/\q<(f:Int)/\∃ s,t.drew.cell? (Addr.add r ((q).toNat*1))=some (iv s)/\av a λ y=>0<=q/\q<(b:Int)/\∃ z A:I6,af t.drew (Addr.add y ((q).toNat*12)) 0 (z.on (A.vs))/\av a λ a=>0<=v/\v<(b:Int)/\∃ b y:I6,af t.drew (Addr.add a ((v).toNat*12)) 0 (b.on (y.vs))/\CC 286 #[.agg (z.on (A.vs):List Value).toArray,.agg (b.on (y.vs):List Value).toArray] t.drew λ a b=>∃ y,a=.returned (iv y)/\b.cell? (Addr.add r ((q).toNat*1))=some (iv s)/\av e λ a=>0<=v/\v<(f:Int)/\∃ r,b.cell? (Addr.add a ((v).toNat*1))=some (iv r)/\cond (decide ((IntKind.i64.wrap (s+y))<r)) (av e λ a=>0<=v/\v<(f:Int)/\aS b (Addr.add a ((v).toNat*1)) (iv (IntKind.i64.wrap (s+y))) λ a=>av h λ e=>0<=v/\v<(i:Int)/\aS a (Addr.add e ((v).toNat*1)) (iv q) λ a=>x v a) (x u b)) (∃ a,a<n/\m u (IntKind.i64.wrap (q+1)) t a)) (cond (decide (p<0)) (c p o) (∃ a,a<j/\g p (IntKind.i64.wrap (l+1)) o a))) (c k d))
theorem rL{a1 l1 c1 w K}(h:mw a1 l1 c1 w K):CP 268 #[.slice a1 l1 c1] w K:=an (aF [(218,[(19,.s (.int .i64))]),(223,[(7,.s (.int .i64))]),(1786,[(7,.s (.int .i64)),(28,.s (.int .i64))]),(914634,[(7,.s (.int .i64)),(32,.s (.int .i64))]),(234146406,[(7,.s (.int .i64)),(37,.s (.int .i64))]),(1873171251,[(7,.s (.int .i64))])]) func268 (by kernel_rfl) (by kernel_rfl) h
def BG(a:Int)(w:World)(K:KP):=cond (decide (a>=0)) (K (.bool (decide (a<=1000000))) w) (K (.bool false) w)
theorem C7{n1 w K}(h:BG n1 w K):CP 269 #[iv n1] w K:=an (aF []) func269 (by kernel_rfl) (by kernel_rfl) h
def og(a:OA)(b c:Nat)(d:OA)(e f:Nat)(g:OA)(h i:Nat)(w:World)(K:KP):=au w (.cells #[.slice d e f,.slice g h i] 351) λ a c=>∃ d:Bool->qW,(∀ e f,d f e->∀ g:qv,cond f (K (.bool false) e) (∃ f g h,e.cell? (qd a 0)=some (.slice f g h)/\∃ h:Int->qN,(∃ i,h 0 e i)/\∀ e i j,h j e i->∀ k:qv,cond (decide (j<(g:Int))) (av f λ f=>0<=j/\j<(g:Int)/\∃ g,e.cell? (Addr.add f ((j).toNat*1))=some (iv g)/\∃ f:Bool->qW,(∀ k l,f l k->∀ m:qv,cond l (K (.bool false) k) (∃ l,l<i/\h (IntKind.i64.wrap (j+1)) k l))/\cond (decide (g<0)) (f true e) (f (decide (g>=(b:Int))) e)) (∃ b f g,e.cell? (qd a 1)=some (.slice b f g)/\∃ g:Int->qN,(∃ h,g 0 e h)/\∀ e h i,g i e h->∀ j:qv,cond (decide (i<(f:Int))) (av b λ b=>0<=i/\i<(f:Int)/\∃ f,e.cell? (Addr.add b ((i).toNat*1))=some (iv f)/\∃ b:Bool->qW,(∀ j k,b k j->∀ l:qv,cond k (K (.bool false) j) (∃ k,k<h/\g (IntKind.i64.wrap (i+1)) j k))/\cond (decide (f<(-1099511627776:Int))) (b true e) (b (decide (f>1099511627776)) e)) (K (.bool true) e))))/\∃ b e f,c.cell? (qd a 0)=some (.slice b e f)/\cond (decide ((e:Int)>(0:Int))) (∃ b e f,c.cell? (qd a 1)=some (.slice b e f)/\cond (decide ((e:Int)>(0:Int))) (d true c) (∃ b e f,c.cell? (qd a 0)=some (.slice b e f)/\d (decide ((e:Int)>(1000:Int))) c)) (∃ b e f,c.cell? (qd a 0)=some (.slice b e f)/\d (decide ((e:Int)>(1000:Int))) c)
theorem tr{a1 l1 c1 a2 l2 c2 a3 l3 c3 w K}(h:og a1 l1 c1 a2 l2 c2 a3 l3 c3 w K):CP 284 #[.slice a1 l1 c1,.agg #[.slice a2 l2 c2,.slice a3 l3 c3]] w K:=an (aF [(6,[(24,.s .bool)]),(58,[(28,.s (.int .i64))]),(3737,[(39,.s .bool)]),(122,[(44,.s (.int .i64))]),(7833,[(53,.s .bool)])]) func284 (by kernel_rfl) (by kernel_rfl) h
def kK(a:OA)(b c:Nat)(d:OA)(e f:Nat)(w:World)(K:KP):=cond ((e:Int) !=(b:Int)) (K (.bool false) w) (∃ c:Int->qN,(∃ f,c 0 w f)/\∀ g f h,c h g f->∀ i:qv,cond (decide (h<(b:Int))) (av a λ i=>0<=h/\h<(b:Int)/\∃ j k:I6,af g (Addr.add i ((h).toNat*12)) 0 (j.on (k.vs))/\au g (.cells #[qz,qz,qz,qz,qz,qz,qz,qz,qz,qz,qz,qz] 235) λ i l=>aU (qd i 0) 0 (j.on (k.vs)) l λ j=>∃ k:Bool->qW,(∀ l m,k m l->∀ n:qv,cond m (K (.bool false) l) (∃ m:Int->qN,(∃ n,m 0 l n)/\∀ l n o,m o l n->∀ p:qv,cond (decide (o<(b:Int))) (av a λ a=>0<=o/\o<(b:Int)/\∃ b p:I6,af l (Addr.add a ((o).toNat*12)) 0 (b.on (p.vs))/\au l (.cells #[qz,qz,qz,qz,qz,qz,qz,qz,qz,qz,qz,qz] 235) λ a q=>aU (qd a 0) 0 (b.on (p.vs)) q λ b=>av d λ p=>0<=o/\o<(e:Int)/\∃ q,b.drew.cell? (Addr.add p ((o).toNat*1))=some (iv q)/\av d λ r=>0<=h/\h<(e:Int)/\∃ s,b.drew.cell? (Addr.add r ((h).toNat*1))=some (iv s)/\∃ t u:I6,af b.drew (qd i 0) 0 (t.on (u.vs))/\∃ v x:I6,af b.drew (qd a 0) 0 (v.on (x.vs))/\CC 286 #[.agg (t.on (u.vs):List Value).toArray,.agg (v.on (x.vs):List Value).toArray] b.drew λ a b=>∃ t,a=.returned (iv t)/\b.cell? (Addr.add r ((h).toNat*1))=some (iv s)/\b.cell? (Addr.add p ((o).toNat*1))=some (iv q)/\cond (decide ((IntKind.i64.wrap (q-s))>t)) (K (.bool false) b) (∃ a,a<n/\m (IntKind.i64.wrap (o+1)) b a)) (∃ a,a<f/\c (IntKind.i64.wrap (h+1)) l a)))/\av d λ a=>0<=h/\h<(e:Int)/\∃ b,j.drew.cell? (Addr.add a ((h).toNat*1))=some (iv b)/\∃ c:I6,af j.drew (qd i 0) 0 c.vs/\∃ f:I6,af j.drew (qd i 6) 0 f.vs/\CC 180 #[.agg c.vs.toArray,.agg f.vs.toArray] j.drew λ c f=>∃ j,c=.returned (iv j)/\f.cell? (Addr.add a ((h).toNat*1))=some (iv b)/\cond (decide (b<j)) (k true f) (∃ a:I6,af f (qd i 6) 0 a.vs/\cond (I6.beq a z6) (av d λ a=>0<=h/\h<(e:Int)/\∃ b,f.cell? (Addr.add a ((h).toNat*1))=some (iv b)/\k (b !=0) f) (k false f))) (K (.bool true) g))
theorem qc{a1 l1 c1 a2 l2 c2 w K}(h:kK a1 l1 c1 a2 l2 c2 w K):CP 285 #[.slice a1 l1 c1,.slice a2 l2 c2] w K:=an (aF [(58,[(16,.s (.int .i64))]),(7474,[(43,.s .bool)]),(29902,[(46,.s (.int .i64))])]) func285 (by kernel_rfl) (by kernel_rfl) h
def sx(a b c d:I6)(w:World)(K:KP):=au w (.cells (a.on (b.vs):List Value).toArray 235) λ a b=>au b (.cells (c.on (d.vs):List Value).toArray 235) λ b c=>∃ d:I6,af c.drew (qd a 0) 0 d.vs/\∃ e:I6,af c.drew (qd b 6) 0 e.vs/\∃ b:I6,af c.drew (qd a 0) 0 b.vs/\∃ f:I6,af c.drew (qd a 6) 0 f.vs/\CC 180 #[.agg d.vs.toArray,.agg e.vs.toArray] c.drew λ c d=>∃ e,c=.returned (iv e)/\af d (qd a 6) 0 f.vs/\af d (qd a 0) 0 b.vs/\CC 180 #[.agg b.vs.toArray,.agg f.vs.toArray] d λ a b=>∃ c,a=.returned (iv c)/\K (iv (IntKind.i64.wrap (e-c))) b
theorem wB{u1 u2 u3 u4 w K}(h:sx u1 u2 u3 u4 w K):CP 286 #[.agg (u1.on (u2.vs):List Value).toArray,.agg (u3.on (u4.vs):List Value).toArray] w K:=an (aF []) func286 (by kernel_rfl) (by kernel_rfl) h
def qe(a b:I6)(w:World)(K:KP):=au w (.cells (a.on (b.vs):List Value).toArray 235) λ a b=>∃ c:I6,af b (qd a 0) 0 c.vs/\∃ d:Int->qN,(∃ e,d 0 b e)/\∀ b e f,d f b e->∀ g:qv,cond (decide (f<6)) (0<=f/\f<6/\∃ g,(c.vs.toArray:Array Value)[(f).toNat*1]?=some (iv g)/\∃ c:Bool->qW,(∀ h i,c i h->∀ j:qv,cond i (K (.bool false) h) (∃ i,i<e/\d (IntKind.i64.wrap (f+1)) h i))/\cond (decide (g<0)) (c true b) (c (decide (g>1000000)) b)) (∃ c:I6,af b (qd a 6) 0 c.vs/\CC 86 #[.agg c.vs.toArray] b λ a b=>∃ c,a=.returned (iv c)/\K (.bool (c==0)) b)
theorem uV{u1 u2 w K}(h:qe u1 u2 w K):CP 294 #[.agg (u1.on (u2.vs):List Value).toArray] w K:=an (aF [(26,[(7,.s (.int .i64))]),(1689,[(15,.s .bool)])]) func294 (by kernel_rfl) (by kernel_rfl) h
def p8(a:OA)(b c:Nat)(d:Int)(w:World)(K:KP):=bn prog (Instr.makeMap 419 none) w λ c e=>∃ f:Option Nat,c=(.map f)/\∃ c:Int->qN,(∃ g,c d e g)/\∀ d g e,c e d g->∀ h:qv,bn prog (Instr.lookup 419 (.map f) (iv e) false) d λ d h=>∃ i,d=(.bool i)/\cond (!i) (bn prog (Instr.mapUpdate 419 (.map f) (iv e) (.bool true)) h λ _e1 d=>av a λ i=>0<=e/\e<(b:Int)/\∃ j,d.cell? (Addr.add i ((e).toNat*1))=some (iv j)/\∃ i,i<g/\c j d i) (bn prog (Builtin.clear_ #[419] 0 #[.map f]) h λ _e2 c=>∃ d:Int->OA->Nat->Nat->qN,(∃ g,d e none 0 0 c g)/\∀ c g e h i j,d e h i j c g->∀ k:qv,bn prog (Instr.lookup 419 (.map f) (iv e) false) c λ c k=>∃ l,c=(.bool l)/\cond (!l) (bn prog (Instr.mapUpdate 419 (.map f) (iv e) (.bool true)) k λ _e3 c=>au c (.cells #[iv e] 3) λ c f=>bn prog (Builtin.append_ #[65,65] 65 #[.slice h i j,.slice (some (qd c 0)) 1 1]) f λ c f=>∃ j l m,c=(.slice j l m)/\av a λ a=>0<=e/\e<(b:Int)/\∃ b,f.cell? (Addr.add a ((e).toNat*1))=some (iv b)/\∃ a,a<g/\d b j l m f a) (bn prog (Instr.makeSlice 65 (iv (i:Int)) (iv (i:Int))) k λ a b=>∃ c d e,a=(.slice c d e)/\∃ a:Int->qN,(∃ f,a 0 b f)/\∀ b f g,a g b f->∀ j:qv,cond (decide (g<(i:Int))) (av h λ h=>0<=g/\g<(i:Int)/\∃ j,b.cell? (Addr.add h ((g).toNat*1))=some (iv j)/\av c λ h=>0<=(IntKind.i64.wrap ((IntKind.i64.wrap ((i:Int)-(1:Int)))-g))/\(IntKind.i64.wrap ((IntKind.i64.wrap ((i:Int)-(1:Int)))-g))<(d:Int)/\aS b (Addr.add h (((IntKind.i64.wrap ((IntKind.i64.wrap ((i:Int)-(1:Int)))-g))).toNat*1)) (iv j) λ h=>∃ i,i<f/\a (IntKind.i64.wrap (g+1)) h i) (K (.slice c d e) b)))
theorem uU{a1 l1 c1 n1 w K}(h:p8 a1 l1 c1 n1 w K):CP 295 #[.slice a1 l1 c1,iv n1] w K:=an (aF [(28,[(1,.s (.int .i64))]),(252,[(1,.s (.int .i64)),(6,.s .slice)]),(2042,[(41,.s (.int .i64))])]) func295 (by kernel_rfl) (by kernel_rfl) h
def I6.of(f:Nat->Int):I6:=⟨f 0,f 1,f 2,f 3,f 4,f 5⟩
theorem I6.Ao(f:Nat->Int)(k:Nat)(hk:k<6):(I6.of f).at' k=f k:=by
 match k,hk with
 | 0,_|1,_|2,_|3,_|4,_|5,_=>rfl
def GM(l:List I6)(k:Nat):Int:=l.foldl (λ s u=>s+u.at' k) 0
def iT(l:List I6):I6:=I6.of (GM l)
theorem L3(l:List I6)(u:I6)(k:Nat):GM (l++[u]) k=GM l k+u.at' k:=by simp[GM]
theorem L0(l:List I6)(u:I6):iT (l++[u])=(iT l).zip (· + ·) u:=by
 refine I6.ext' λ k hk=>?_;rw[I6.j7 _ _ _ _ hk,iT,I6.Ao _ _ hk,iT,I6.Ao _ _ hk,L3]
theorem Ez{B:Int}{l:List I6}(h:∀ u∈l,I6.Le u B)(k:Nat)(hk:k<6):0<=GM l k/\GM l k<=B*l.length:=by
 suffices H:∀ (l:List I6) (s:Int),(∀ u∈l,I6.Le u B)->s<=l.foldl (λ s u=>s+u.at' k) s/\l.foldl (λ s u=>s+u.at' k) s<=s+B*l.length by
  have:=H l 0 h;unfold GM; omega
 intro l
 induction l with
 | nil=>intro s _; simp
 | cons u l ih =>
  intro s hl;have h1:=hl u (by simp) k hk;have h2:=ih (s+u.at' k) λ v hv=>hl v (by simp[hv]);simp only[List.foldl_cons,List.length_cons];rw[Int.natCast_add,Int.mul_add];omega
def uL(a b:I6):I6:=a.zip (λ x y=>if x>y then x-y else 0) b
abbrev Mn (w:World) (a:OA) (l:List I6):Prop:=dx 6 I6.vs w a l
theorem CQ{w:World}{a:OA}{c:Nat}{l:List I6}(h:Mn w a l)(hb:∀ u∈l,I6.Le u 1000000)(hl:l.length<=1000) :
  CP 192 #[.slice a l.length c] w (λ r w'=>r=.agg (iT l).vs.toArray/\aD w w' []):=by
 refine A6 ?_;unfold xG;refine(St.start w).one.aB z6.vs.toArray λ r1 w1 s1=>s1.aB z6.vs.toArray λ r2 w2 s2=>?_;refine⟨λ n w3 m=>∃ k:Nat,n=k/\k<=l.length/\m=l.length-k/\St w w3 (Sep [ah r2 (iT (l.take k)).vs.toArray 305,ah r1 z6.vs.toArray 305,emp]),⟨l.length,0,rfl,by omega,by omega,s2⟩,?_⟩;rintro w3 m n ⟨k,rfl,hk,hm,s3⟩ -
 by_cases hlt:(k:Int)<(l.length:Int)
 ·have hx:l[k]?=some (l[k]'(by omega)):=gE (by omega);generalize l[k]'(by omega)=x at hx;have hxm:=hb x (List.mem_of_getElem? hx);obtain⟨q,hq,hcl⟩:=(h.aC s3.aC).at hx;refine cT (by simpa using hlt) ?_;rw[hq];refine⟨by omega,by omega,x,hcl,s3.aB z6.vs.toArray λ r3 w4 s4=>s4.aE 0 rfl x.vs rfl (I6.one _) λ w5 s5=>?_⟩;refine⟨λ n w6 m=>∃ j:Nat,n=j/\j<=6/\m=6-j/\St w w6 (Sep [ah r3 x.vs.toArray 41,ah r2 (I6.mix j ((iT (l.take k)).zip (· + ·) x) (iT (l.take k))).vs.toArray 305,ah r1 z6.vs.toArray 305,emp]),⟨6,0,rfl,by omega,by omega,s5⟩,?_⟩;rintro w6 m6 n6 ⟨j,rfl,hj,hm6,s6⟩ -
  by_cases hlt6:(j:Int)<6
  ·have hj' : j<6:=by omega
   have s7:=s6.quiet (aD.drew _ _);have hs:=Ez (l:=l.take k) (B:=1000000) (λ u hu=>hb u (List.mem_of_mem_take hu)) j hj';have hx6:=hxm j hj';have hlen:(l.take k).length<=1000:=by simp; omega
   have e1:(iT (l.take k)).at' j=GM (l.take k) j:=I6.Ao _ _ hj';refine cT (dT hlt6) ⟨by omega,by omega,(iT (l.take k)).at' j,?_,by omega,by omega,x.at' j,?_,by omega,by omega,?_⟩
   ·rw[iU,aR s7 1 rfl hj',I6.cH _ _ _ _ hj',if_neg (by omega)]
   ·rw[iU,aR s7 0 rfl hj']
   ·rw[iU,aH ⟨by omega,by omega⟩];refine s7.aM 1 rfl hj' rfl λ w8 s8=>⟨6-(j+1),by omega,j+1,inc (by decide) hj',by omega,rfl,?_⟩;rw[show(iT (l.take k)).at' j+x.at' j=((iT (l.take k)).zip (· + ·) x).at' j by rw[I6.j7 _ _ _ _ hj'],I6.ij _ _ _ hj'] at s8;exact s8
  ·obtain rfl:j=6:=by omega
   refine cF (by simp) ⟨l.length-(k+1),by omega,k+1,aH ⟨by omega,by omega⟩,by omega,rfl,?_⟩;rw[aO hx,L0];exact s6.aA [1,2,3]
 ·obtain rfl:k=l.length:=by omega
  rw[List.take_length] at s3;exact cF (by simp) ⟨_,s3.cellsIn 0 rfl,s3.aE 1 rfl (iT l).vs rfl (I6.one _) λ w8 s8=>⟨_,s8.cellsIn 1 rfl,rfl,s8.aC⟩⟩
theorem XW{w:World}{a:OA}{c:Nat}{l:List I6}(h:Mn w a l)(hb:∀ u∈l,I6.Le u 1000000)(hl:l.length<=1000) :
  CP 188 #[.slice a l.length c] w (λ r w'=>r=.agg (iT l).vs.toArray/\aD w w' []):=by
 refine EG ?_;unfold CN;refine(St.start w).one.aB z6.vs.toArray λ r1 w1 s1=>aq (CQ (h.aC s1.aC) hb hl) ?_;rintro v w2 ⟨rfl,c2⟩;exact⟨_,rfl,(s1.quiet c2).aE 0 rfl (iT l).vs rfl (I6.one _) λ w8 s8=>⟨_,s8.cellsIn 0 rfl,rfl,s8.aC⟩⟩
theorem VM(w:World)(u v:I6)(hu:I6.Le u 1000000000)(hv:I6.Le v 1000000000):CP 191 #[.agg u.vs.toArray,.agg v.vs.toArray] w (λ r w'=>r=.agg (uL u v).vs.toArray/\aD w w' []):=by
 refine BB ?_;unfold A5;refine(St.start w).one.aB u.vs.toArray λ r1 w1 s1=>s1.aB v.vs.toArray λ r2 w2 s2=>s2.aB z6.vs.toArray λ r3 w3 s3=>s3.aB z6.vs.toArray λ r4 w4 s4=>?_;let I:Nat->World->Prop:=λ k w'=>St w w' (Sep [ah r4 (I6.mix k (uL u v) z6).vs.toArray 41,ah r3 z6.vs.toArray 41,ah r2 v.vs.toArray 305,ah r1 u.vs.toArray 305,emp]);refine⟨λ n w5 m=>∃ k:Nat,n=k/\k<=6/\m=6-k/\I k w5,⟨6,0,rfl,by omega,by omega,s4⟩,?_⟩;rintro w5 m n ⟨k,rfl,hk,hm,s5⟩ -
 by_cases hlt:(k:Int)<6
 ·have hk' : k<6:=by omega
  have s6:=St.quiet s5 (aD.drew _ _);have s7:=s6.quiet (aD.drew _ _);have h1:=hu k hk';have h2:=hv k hk';have e:(uL u v).at' k=if u.at' k>v.at' k then u.at' k-v.at' k else 0:=I6.j7 _ _ _ _ hk'
  refine cT (dT hlt) ⟨I (k+1),?_,by omega,by omega,u.at' k,by rw[iU,aR s6 3 rfl hk'],by omega,by omega,v.at' k,by rw[iU,aR s6 2 rfl hk'],?_⟩
  ·rintro w6 s6 -;exact⟨6-(k+1),by omega,k+1,inc (by decide) hk',by omega,rfl,s6⟩
  ·by_cases g:u.at' k>v.at' k
   ·refine cT (dT g) ⟨by omega,by omega,u.at' k,by rw[iU,aR s7 3 rfl hk'],by omega,by omega,v.at' k,by rw[iU,aR s7 2 rfl hk'],by omega,by omega,?_⟩;rw[iU,aH ⟨by omega,by omega⟩];refine s7.aM 0 rfl hk' rfl λ w8 s8=>?_;rw[if_pos g] at e;rw[<- e,I6.ij _ _ _ hk'] at s8;exact s8
   ·refine cF (dF g) ?_;rw[if_neg g] at e;have:I6.mix (k+1) (uL u v) z6=I6.mix k (uL u v) z6:=by
     refine I6.ext' λ j hj=>?_;rw[I6.cH _ _ _ _ hj,I6.cH _ _ _ _ hj,vA]
     by_cases h3:j<k
     ·rw[if_pos (by omega),if_pos h3]
     ·rw[if_neg h3]
      split
      ·obtain rfl:j=k:=by omega
       exact e
      ·rfl
    show I (k+1) _;simp only[I];rw[this]; exact s6
 ·obtain rfl:k=6:=by omega
  exact cF (by simp) ⟨_,St.cellsIn s5 0 rfl,St.aE s5 1 rfl (uL u v).vs rfl (I6.one _) λ w8 s8=>⟨_,s8.cellsIn 1 rfl,rfl,s8.aC⟩⟩
theorem SM{l:List I6}(h:∀ u∈l,I6.Le u 1000000)(hl:l.length<=1000):I6.Le (iT l) 1000000000:=λ k hk=>by
 have:=Ez h k hk;rw[iT,I6.Ao _ _ hk];omega
theorem Nb{w:World}{a:OA}{c:Nat}{l:List I6}(u:I6)(hu:I6.Le u 1000000000)(h:Mn w a l)(hb:∀ u∈l,I6.Le u 1000000)(hl:l.length<=1000) :
  CP 151 #[.agg u.vs.toArray,.slice a l.length c] w (λ r w'=>r=.agg (uL (iT l) u).vs.toArray/\aD w w' []):=by
 refine yB ?_;unfold vn;refine(St.start w).one.aB u.vs.toArray λ r1 w1 s1=>s1.aB z6.vs.toArray λ r2 w2 s2=>?_;have s3:=s2.quiet (aD.drew _ _);refine⟨_,s3.cellsIn 1 rfl,aq (CQ (h.aC s3.aC) hb hl) ?_⟩;rintro v w3 ⟨rfl,c3⟩;have s4:=s3.quiet c3;refine⟨_,rfl,s4.cellsIn 1 rfl,aq (VM w3 _ _ (SM hb hl) hu) ?_⟩;rintro v w4 ⟨rfl,c4⟩;exact⟨_,rfl,(s4.quiet c4).aE 0 rfl (uL (iT l) u).vs rfl (I6.one _) λ w8 s8=>⟨_,s8.cellsIn 0 rfl,rfl,s8.aC⟩⟩
def rR(n:Int):Bool:=decide (0<=n)&&decide (n<=1000000)
theorem Ze(w:World)(n:Int):CP 269 #[iv n] w (λ r w'=>r=.bool (rR n)/\w' = w):=by
 refine C7 ?_;unfold BG
 by_cases h:n>=0
 ·exact cT (dT h) ⟨by simp[rR,h],rfl⟩
 ·exact cF (dF h) ⟨by simp[rR]; omega,rfl⟩
theorem Mq(w:World)(n:Int):CP 230 #[iv n] w (λ r w'=>r=iv (if rR n then 0 else 4)/\w' = w):=by
 refine xP ?_;unfold tQ;refine aq (Ze w n) ?_;rintro v w1 ⟨rfl,rfl⟩;refine⟨_,rfl,?_⟩
 cases h:rR n with
 | true=>exact cF rfl ⟨rfl,rfl⟩
 | false=>exact cT rfl ⟨rfl,rfl⟩
def oM(p:I6):Bool:=p.l.all rR
theorem EJ(w:World)(p:I6):CP 194 #[.agg p.vs.toArray] w (λ r w'=>r=.bool (oM p)/\aD w w' []):=by
 refine rI ?_;unfold lS;refine(St.start w).one.aB p.vs.toArray λ r1 w1 s1=>⟨p,s1.cellsIn 0 rfl,λ n w2 m=>∃ k:Nat,n=k/\k<=6/\m=6-k/\(p.l.take k).all rR=true/\w2=w1,⟨6,0,rfl,by omega,by omega,rfl,rfl⟩,?_⟩;rintro w2 m n ⟨k,rfl,hk,hm,ha,rfl⟩ -
 by_cases hlt:(k:Int)<6
 ·have hk' : k<6:=by omega
  refine cT (dT hlt) ⟨by omega,by omega,_,p.get k hk',aq (Mq w2 _) ?_⟩;rintro v w3 ⟨rfl,rfl⟩;refine⟨_,rfl,?_⟩
  cases hx:rR (p.at' k) with
  | true=>exact cF rfl ⟨6-(k+1),by omega,k+1,inc (by decide) hk',by omega,rfl,vH ha (p.nu k hk') hx,rfl⟩
  | false=>exact cT rfl ⟨by rw[oM,y8 (p.nu k hk') hx],s1.aC⟩
 ·obtain rfl:k=6:=by omega
  refine cF (by simp) ⟨?_,s1.aC⟩;rw[oM,show p.l.all rR=true from ha]
theorem uN{p:I6}:oM p=true<->I6.Le p 1000000:=by
 constructor
 ·intro h k hk;have:=List.all_eq_true.1 h _ (List.mem_of_getElem? (p.nu k hk));simpa[rR] using this
 ·intro h;have h0:=h 0 (by decide); have h1:=h 1 (by decide); have h2:=h 2 (by decide); have h3:=h 3 (by decide); have h4:=h 4 (by decide); have h5:=h 5 (by decide);simp only[I6.at'] at h0 h1 h2 h3 h4 h5;simp[oM,I6.l,rR,h0,h1,h2,h3,h4,h5]
structure Po where
 step:Int
 pct:Int
 und:Int
 rule:Int
def Po.cells(o:Po):List Value:=[iv o.step,iv o.pct,iv o.und,iv o.rule]
def Po.v(o:Po):Value:=.agg o.cells.toArray
def Po.ok(o:Po):Prop:=1<=o.step/\o.step<=1000000/\0<=o.pct/\o.pct<=100/\1<=o.und/\o.und<=3/\1<=o.rule/\o.rule<=3
instance (o:Po):Decidable o.ok:=by unfold Po.ok; infer_instance
def pX(o:Po):Int:=if o.ok then 0 else 4
theorem wm(w:World)(o:Po):CP 120 #[o.v] w (λ r w'=>r=iv (pX o)/\aD w w' []):=by
 refine rF ?_;unfold lQ;refine(St.start w).one.aB o.cells.toArray λ r1 w1 s1=>?_;refine⟨λ b w2=>w2=w1/\(b=true<->¬ o.ok),?_,?_⟩
 ·rintro w2 b ⟨rfl,hb⟩ -
  by_cases h:o.ok
  ·obtain rfl:b=false:=by
    cases b with
    | false=>rfl
    | true=>exact absurd h (hb.1 rfl)
   exact cF rfl ⟨by rw[pX,if_pos h],s1.aC⟩
  ·obtain rfl:=hb.2 h;exact cT rfl ⟨by rw[pX,if_neg h],s1.aC⟩
 have bad : ¬ o.ok->(true=true<->¬ o.ok):=λ h=>⟨λ _=>h,λ _=>rfl⟩;refine⟨_,s1.ag 0 rfl 0,?_⟩
 by_cases g1:o.step<1
 ·exact cT (dT g1) ⟨rfl,bad λ h=>by unfold Po.ok at h; omega⟩
 refine cF (dF g1) ⟨_,s1.ag 0 rfl 0,?_⟩
 by_cases g2:o.step>1000000
 ·exact cT (dT g2) ⟨rfl,bad λ h=>by unfold Po.ok at h; omega⟩
 refine cF (dF g2) ⟨_,s1.ag 0 rfl 1,?_⟩
 by_cases g3:o.pct<0
 ·exact cT (dT g3) ⟨rfl,bad λ h=>by unfold Po.ok at h; omega⟩
 refine cF (dF g3) ⟨_,s1.ag 0 rfl 1,?_⟩
 by_cases g4:o.pct>100
 ·exact cT (dT g4) ⟨rfl,bad λ h=>by unfold Po.ok at h; omega⟩
 refine cF (dF g4) ⟨_,s1.ag 0 rfl 2,?_⟩
 by_cases g5:o.und<1
 ·exact cT (dT g5) ⟨rfl,bad λ h=>by unfold Po.ok at h; omega⟩
 refine cF (dF g5) ⟨_,s1.ag 0 rfl 2,?_⟩
 by_cases g6:o.und>3
 ·exact cT (dT g6) ⟨rfl,bad λ h=>by unfold Po.ok at h; omega⟩
 refine cF (dF g6) ⟨_,s1.ag 0 rfl 3,?_⟩
 by_cases g7:o.rule<1
 ·exact cT (dT g7) ⟨rfl,bad λ h=>by unfold Po.ok at h; omega⟩
 refine cF (dF g7) ⟨_,s1.ag 0 rfl 3,rfl,?_⟩;rw[decide_eq_true_eq];unfold Po.ok;omega
def jZ(l:List Pr):I6:=I6.RU (l.map Pr.res)
theorem wL(l:List Pr)(k:Nat)(hk:k<6):(jZ l).at' k=(l.map Pr.res).getD k 0:=by
 match k,hk with
 | 0,_|1,_|2,_|3,_|4,_|5,_=>rfl
theorem Ex{w:World}{a:OA}{c:Nat}{l:List Pr}(h:fy w a l)(hl:l.length<=6)(hc:l.length<=c) :
  CP 141 #[.slice a l.length c] w (λ r w'=>r=.agg (jZ l).vs.toArray/\aD w w' []):=by
 refine rG ?_;unfold lR;have e:(if (6:Int)<((l.length:Nat):Int) then (6:Int) else ((l.length:Nat):Int))=(l.length:Int):=by rw[if_neg (by omega)]
 rw[e,O5,Int.toNat_natCast,Nat.sub_zero];refine(St.start w).one.aB z6.vs.toArray λ r1 w1 s1=>s1.aB z6.vs.toArray λ r2 w2 s2=>⟨by omega,by omega,?_⟩;refine⟨λ n w3 m=>∃ k:Nat,n=k/\k<=l.length/\m=l.length-k/\St w w3 (Sep [ah r2 (I6.mix k (jZ l) z6).vs.toArray 103,ah r1 z6.vs.toArray 103,emp]),⟨l.length,0,rfl,by omega,by omega,s2⟩,?_⟩;rintro w3 m n ⟨k,rfl,hk,hm,s3⟩ -
 by_cases hlt:(k:Int)<(l.length:Int)
 ·have hx:l[k]?=some (l[k]'(by omega)):=gE (by omega);generalize l[k]'(by omega)=x at hx;obtain⟨_,q,hq,hcl⟩:=(h.aC s3.aC) k x hx;have h6:k<6:=by omega
  refine cT (by simpa using hlt) ?_;rw[hq];refine⟨by omega,by omega,_,_,_,_,_,hcl,aL ?_⟩;refine(s3.cD _ 170).aE 0 rfl x.cells rfl x.one λ w6 s6=>⟨_,s6.ag 0 rfl 2,by omega,by omega,?_⟩;rw[iU];refine s6.aM 1 rfl h6 rfl λ w7 s7=>⟨l.length-(k+1),by omega,k+1,aH ⟨by omega,by omega⟩,by omega,rfl,?_⟩;have e1:x.res=(jZ l).at' k:=by rw[wL l k h6]; simp[List.getElem?_map,hx]
  rw[e1,I6.ij _ _ _ h6] at s7;exact s7.aA [1,2,3]
 ·obtain rfl:k=l.length:=by omega
  have hcn:I6.mix l.length (jZ l) z6=jZ l:=by
   refine I6.ext' λ j hj=>?_;rw[I6.cH _ _ _ _ hj,vA]
   split
   ·rfl
   ·rw[wL l j hj,List.getD_eq_getElem?_getD,List.getElem?_eq_none (by simp; omega)]; rfl
  rw[hcn] at s3;exact cF (by simp) ⟨_,s3.cellsIn 0 rfl,s3.aE 1 rfl (jZ l).vs rfl (I6.one _) λ w8 s8=>⟨_,s8.cellsIn 1 rfl,rfl,s8.aC⟩⟩
def It(o:Po)(p:Int):Int:=p+o.step+(p*o.pct+99) / 100
theorem Sb{w0 w:World}{l:List aJ}{o:Po}(ho:o.ok){p:Int}(hp:0<=p/\p<=1000000){r:Nat}{T:TypeId}(s:St w0 w (Sep l))(i:Nat)(e:l[i]?=some (ah r o.cells.toArray T)) :
  CP 229 #[iv p,.pointer (some ⟨r,0,none⟩)] w (λ v w'=>v=iv (It o p)/\w' = w):=by
 refine mS ⟨_,s.ag i e 0,_,s.ag i e 1,by decide,?_,rfl⟩;obtain⟨h1,h2,h3,h4,_⟩:=ho;have h5:0<=p*o.pct:=Int.mul_nonneg hp.1 h3;have h6:p*o.pct<=1000000*100:=Int.le_trans (Int.mul_le_mul_of_nonneg_left h4 hp.1) (Int.mul_le_mul_of_nonneg_right hp.2 (by omega));have h7:Int.tdiv (p*o.pct+99) 100=(p*o.pct+99) / 100:=Int.tdiv_eq_ediv_of_nonneg (by omega);rw[aH (n:=p+o.step) ⟨by omega,by omega⟩,aH (n:=p*o.pct) ⟨by omega,by omega⟩,aH (n:=p*o.pct+99) ⟨by omega,by omega⟩,h7,aH (n:=(p*o.pct+99) / 100) ⟨by omega,by omega⟩,aH ⟨by omega,by omega⟩];rfl
def bV(o:Po)(p ex:I6):I6:=p.zip (λ x n=>if n>0 then It o x else x) ex
def xu(o:Po)(p ex:I6):I6×Int:=if bV o p ex≠p/\oM (bV o p ex)=false then (z6,4) else (bV o p ex,0)
theorem Ob(w:World){o:Po}(ho:o.ok){p:I6}(hp:oM p=true)(ex:I6):CP 152 #[o.v,.agg p.vs.toArray,.agg ex.vs.toArray] w (λ r w'=>r=.tuple #[.agg (xu o p ex).1.vs.toArray,iv (xu o p ex).2]/\aD w w' []):=by
 refine sV ?_;unfold nW;have hle:=uN.1 hp;refine(St.start w).one.aB o.cells.toArray λ r1 w1 s1=>s1.aB p.vs.toArray λ r2 w2 s2=>s2.aB ex.vs.toArray λ r3 w3 s3=>s3.aB z6.vs.toArray λ r4 w4 s4=>?_;refine⟨_,_,_,_,s4.cellsIn 3 rfl,aq (wm w4 o) ?_⟩;rintro v w5 ⟨rfl,c5⟩;have s5:=s4.quiet c5;have s6:=s5.quiet (aD.drew _ _);let L:Nat->Nat->I6->List aJ:=λ b r out=>[ah r out.vs.toArray 103,ah b o.cells.toArray 23,ah r4 z6.vs.toArray 103,ah r3 ex.vs.toArray 41,ah r2 p.vs.toArray 103,emp];refine⟨_,rfl,cF (by rw[pX,if_pos ho]; rfl) ⟨λ v r w'=>∃ b,v=.func (.func 229) #[] #[.pointer (some ⟨b,0,none⟩)]/\St w w' (Sep (L b r p)),?_,?_⟩⟩
 ·rintro w7 v r5 ⟨b,rfl,s7⟩ -;refine⟨ex,s7.cellsIn 3 rfl,λ n w8 m=>∃ k:Nat,n=k/\k<=6/\m=6-k/\St w w8 (Sep (L b r5 (I6.mix k (bV o p ex) p))),⟨6,0,rfl,by omega,by omega,s7⟩,?_⟩;rintro w8 m n ⟨k,rfl,hk,hm,s8⟩ -
  by_cases hlt:(k:Int)<6
  ·have hk' : k<6:=by omega
   have er:(bV o p ex).at' k=if ex.at' k>0 then It o (p.at' k) else p.at' k:=I6.j7 _ _ _ _ hk'
   refine cT (dT hlt) ⟨λ w9=>St w w9 (Sep (L b r5 (I6.mix (k+1) (bV o p ex) p))),?_,by omega,by omega,_,ex.get k hk',λ g w10=>g=decide (ex.at' k>0)/\St w w10 (Sep (L b r5 (I6.mix k (bV o p ex) p))),?_,?_⟩
   ·rintro w9 s9 -;exact⟨6-(k+1),by omega,k+1,inc (by decide) hk',by omega,rfl,s9⟩
   ·rintro w10 g ⟨rfl,s10⟩ -
    by_cases hg:ex.at' k>0
    ·refine cT (dT hg) ⟨by omega,by omega,p.at' k,by rw[iU,aR s10 4 rfl hk'],bO (by kernel_rfl) (aq (Sb ho (hle k hk') s10 1 rfl) ?_)⟩;rintro v w11 ⟨rfl,rfl⟩;refine⟨_,rfl,by omega,by omega,?_⟩;rw[iU];refine s10.aM 0 rfl hk' rfl λ w12 s12=>?_;rw[if_pos hg] at er;rw[<- er,I6.ij _ _ _ hk'] at s12;exact s12
    ·refine cF (dF hg) ?_;rw[if_neg hg] at er;have:I6.mix (k+1) (bV o p ex) p=I6.mix k (bV o p ex) p:=by
      refine I6.ext' λ j hj=>?_;rw[I6.cH _ _ _ _ hj,I6.cH _ _ _ _ hj]
      by_cases h3:j<k
      ·rw[if_pos (by omega),if_pos h3]
      ·rw[if_neg h3]
       split
       ·obtain rfl:j=k:=by omega
        exact er
       ·rfl
     rw[this]; exact s10
   ·by_cases hg:ex.at' k>0
    ·refine cT (dT hg) ⟨_,s8.cellsIn 4 rfl,aq (EJ w8 p) ?_⟩;rintro v w13 ⟨rfl,c13⟩;exact⟨_,rfl,by rw[hp,dT hg],s8.quiet c13⟩
    ·exact cF (dF hg) ⟨by rw[dF hg],s8⟩
  ·obtain rfl:k=6:=by omega
   refine cF (by simp) ⟨λ g w14=>g=decide (bV o p ex≠p/\oM (bV o p ex)=false)/\St w w14 (Sep (L b r5 (bV o p ex))),?_,p,s8.cellsIn 4 rfl,aq (EJ w8 p) ?_⟩
   ·rintro w14 g ⟨rfl,s14⟩ -
    by_cases hg:bV o p ex≠p/\oM (bV o p ex)=false
    ·refine cT (dT hg) (s14.aE 2 rfl z6.vs rfl (I6.one _) λ w15 s15=>⟨_,s15.cellsIn 2 rfl,?_,s15.aC⟩);rw[xu,if_pos hg]
    ·refine cF (dF hg) ⟨_,s14.cellsIn 0 rfl,s14.aE 2 rfl (bV o p ex).vs rfl (I6.one _) λ w15 s15=>⟨_,s15.cellsIn 2 rfl,?_,s15.aC⟩⟩;rw[xu,if_neg hg]
   ·rintro v w17 ⟨rfl,c17⟩;have s17:=s8.quiet c17;refine⟨_,rfl,cF (by rw[hp]; rfl) ⟨_,s17.cellsIn 0 rfl,_,s17.cellsIn 4 rfl,?_⟩⟩;rw[I6.yM,I6.beq_eq]
    by_cases hne:bV o p ex=p
    ·exact cF (by simp[hne]) ⟨by simp[hne],s17⟩
    ·refine cT (by simp[hne]) ⟨_,s17.cellsIn 0 rfl,aq (EJ w17 _) ?_⟩;rintro v w18 ⟨rfl,c18⟩;refine⟨_,rfl,?_,s17.quiet c18⟩;rw[I6.yM]
     cases oM (bV o p ex)<;>simp[hne]
 ·refine⟨_,_,_,_,s6.cellsIn 3 rfl,p,s6.cellsIn 2 rfl,?_,?_⟩
  ·refine aq (K:=λ v w'=>∃ b,v=.func (.func 229) #[] #[.pointer (some ⟨b,0,none⟩)]/\St w w' (Sep (ah b o.cells.toArray 23 :: [ah r4 z6.vs.toArray 103,ah r3 ex.vs.toArray 41,ah r2 p.vs.toArray 103,ah r1 o.cells.toArray 23,emp]))) (iC ?_) ?_
   ·exact s6.aB o.cells.toArray λ b w' s'=>⟨b,rfl,s'⟩
   ·rintro v w19 ⟨b,rfl,s19⟩;refine⟨_,rfl,s19.cellsIn 3 rfl,s19.aB z6.vs.toArray λ r6 w20 s20=>⟨s20.cellsIn 4 rfl,s20.aE 0 rfl p.vs rfl (I6.one _) λ w21 s21=>⟨b,rfl,s21.aA [0,1,2,3,4,6]⟩⟩⟩
  ·refine s6.aB z6.vs.toArray λ r7 w22 s22=>⟨s22.cellsIn 3 rfl,s22.cellsIn 4 rfl,?_⟩;refine aq (K:=λ v w'=>∃ b,v=.func (.func 229) #[] #[.pointer (some ⟨b,0,none⟩)]/\St w w' (Sep (ah b o.cells.toArray 23 :: [ah r7 z6.vs.toArray 103,ah r4 z6.vs.toArray 103,ah r3 ex.vs.toArray 41,ah r2 p.vs.toArray 103,ah r1 o.cells.toArray 23,emp]))) (iC ?_) ?_
   ·exact s22.aB o.cells.toArray λ b w' s'=>⟨b,rfl,s'⟩
   ·rintro v w23 ⟨b,rfl,s23⟩;exact⟨_,rfl,s23.cellsIn 4 rfl,s23.aE 1 rfl p.vs rfl (I6.one _) λ w24 s24=>⟨b,rfl,s24.aA [1,0,2,3,4,6]⟩⟩
def iP(a:OA)(b c:Nat)(w:World)(K:KP):=cond (a).isNone (K qn w) (au w (.cells #[] 170) λ d e=>bn prog (Builtin.append_ #[95,95] 95 #[.slice (some (qd d 0)) 0 0,.slice a b c]) e λ a b=>∃ c d e,a=(.slice c d e)/\K (.slice c d e) b)
theorem mC{a1 l1 c1 w K}(h:iP a1 l1 c1 w K):CP 80 #[.slice a1 l1 c1] w K:=an (aF []) func80 (by kernel_rfl) (by kernel_rfl) h
def jf(a:OA)(b c:Nat)(w:World)(K:KP):=cond (a).isNone (K qn w) (au w (.cells #[] 159) λ d e=>bn prog (Builtin.append_ #[96,96] 96 #[.slice (some (qd d 0)) 0 0,.slice a b c]) e λ a b=>∃ c d e,a=(.slice c d e)/\K (.slice c d e) b)
theorem nD{a1 l1 c1 w K}(h:jf a1 l1 c1 w K):CP 81 #[.slice a1 l1 c1] w K:=an (aF []) func81 (by kernel_rfl) (by kernel_rfl) h
def mB(a:OA)(b c:Nat)(w:World)(K:KP):=cond (a).isNone (K qn w) (au w (.cells #[] 174) λ d e=>bn prog (Builtin.append_ #[97,97] 97 #[.slice (some (qd d 0)) 0 0,.slice a b c]) e λ a b=>∃ c d e,a=(.slice c d e)/\K (.slice c d e) b)
theorem rM{a1 l1 c1 w K}(h:mB a1 l1 c1 w K):CP 82 #[.slice a1 l1 c1] w K:=an (aF []) func82 (by kernel_rfl) (by kernel_rfl) h
def jX(a:OA)(b c:Nat)(w:World)(K:KP):=cond (a).isNone (K qn w) (au w (.cells #[] 177) λ d e=>bn prog (Builtin.append_ #[98,98] 98 #[.slice (some (qd d 0)) 0 0,.slice a b c]) e λ a b=>∃ c d e,a=(.slice c d e)/\K (.slice c d e) b)
theorem oO{a1 l1 c1 w K}(h:jX a1 l1 c1 w K):CP 83 #[.slice a1 l1 c1] w K:=an (aF []) func83 (by kernel_rfl) (by kernel_rfl) h
def jg(a:OA)(b c:Nat)(w:World)(K:KP):=cond (a).isNone (K qn w) (au w (.cells #[] 41) λ d e=>bn prog (Builtin.append_ #[154,154] 154 #[.slice (some (qd d 0)) 0 0,.slice a b c]) e λ a b=>∃ c d e,a=(.slice c d e)/\K (.slice c d e) b)
theorem nE{a1 l1 c1 w K}(h:jg a1 l1 c1 w K):CP 187 #[.slice a1 l1 c1] w K:=an (aF []) func187 (by kernel_rfl) (by kernel_rfl) h
theorem SC:fZ prog 154 41 (.agg z6.vs.toArray) 6 48:=fZ.mk' underlying154 (by kernel_rfl) rfl (by decide)
theorem dh(u:I6):u.vs.length=6:=rfl
abbrev CE (a:OA) (c:Nat) (l:List I6):aJ:=cJ 41 6 I6.vs a c l
theorem MM{w0 w:World}{B:aJ}(s:St w0 w B){a:OA}{c:Nat}{l:List I6}(h:Mn w a l)(hl:l.length<=1000) :
  CP 187 #[.slice a l.length c] w (λ r w'=>∃ a' c',r=.slice a' l.length c'/\St w0 w' (star (CE a' c' l) B)):=by
 refine nE ?_;unfold jg;exact o9 (c:=c) (K:=λ r w'=>∃ a' c',r=.slice a' l.length c'/\St w0 w' (star (CE a' c' l) B)) SC dh I6.one s h (by omega) (by omega) λ a' c' w' s'=>⟨a',c',rfl,s'⟩
def LG(sup tot now ask:I6)(k:Nat):Bool:=decide (ask.at' k<now.at' k)&&decide (tot.at' k-now.at' k+ask.at' k<sup.at' k)
def jV(sup tot now ask:I6):Bool:=(List.range 6).any (LG sup tot now ask)
theorem LH(w:World)(sup tot now ask:I6)(h1:I6.Le sup 1000000)(h2:I6.Le tot 1000000)(h3:I6.Le now 1000000)(h4:I6.Le ask 1000000) :
  CP 189 #[.agg sup.vs.toArray,.agg tot.vs.toArray,.agg now.vs.toArray,.agg ask.vs.toArray] w (λ r w'=>r=.bool (jV sup tot now ask)/\aD w w' []):=by
 refine qB ?_;unfold kU;refine(St.start w).one.aB sup.vs.toArray λ r1 w1 s1=>s1.aB tot.vs.toArray λ r2 w2 s2=>s2.aB now.vs.toArray λ r3 w3 s3=>s3.aB ask.vs.toArray λ r4 w4 s4=>?_;refine⟨λ n w5 m=>∃ k:Nat,n=k/\k<=6/\m=6-k/\(∀ j,j<k->LG sup tot now ask j=false)/\aD w4 w5 [],⟨6,0,rfl,by omega,by omega,λ j hj=>by omega,aD.refl _ _⟩,?_⟩;rintro w5 m n ⟨k,rfl,hk,hm,ha,hc⟩ -
 by_cases hlt:(k:Int)<6
 ·have hk' : k<6:=by omega
  have c5:aD w4 w5.drew []:=hc.trans (aD.drew w5 []) (by simp);have s5:=s4.quiet c5;have q1:=h1 k hk'; have q2:=h2 k hk'; have q3:=h3 k hk'; have q4:=h4 k hk';have ge1:=aR s5 3 rfl hk'; have ge2:=aR s5 2 rfl hk'; have ge3:=aR s5 1 rfl hk'; have ge4:=aR s5 0 rfl hk';refine cT (dT hlt) ⟨λ b w6=>b=LG sup tot now ask k/\aD w4 w6 [],?_,by omega,by omega,_,by rw[iU,ge4],by omega,by omega,_,by rw[iU,ge3],?_⟩
  ·rintro w6 b ⟨rfl,c6⟩ -
   cases hr:LG sup tot now ask k with
   | true=>exact cT rfl ⟨by rw[jV,List.any_eq_true.2 ⟨k,List.mem_range.2 hk',hr⟩],(s4.quiet c6).aC⟩
   | false =>
    refine cF rfl ⟨6-(k+1),by omega,k+1,inc (by decide) hk',by omega,rfl,λ j hj=>?_,c6⟩;rcases Nat.lt_or_ge j k with h' | h'
    ·exact ha j h'
    ·obtain rfl:j=k:=by omega
     exact hr
  ·by_cases g:ask.at' k<now.at' k
   ·refine cT (dT g) ⟨by omega,by omega,_,by rw[iU,ge2],by omega,by omega,_,by rw[iU,ge3],by omega,by omega,_,by rw[iU,ge4],by omega,by omega,_,by rw[iU,ge1],?_,c5⟩;rw[aH (n:=tot.at' k-now.at' k) ⟨by omega,by omega⟩,aH ⟨by omega,by omega⟩,LG,dT g,Bool.true_and]
   ·exact cF (dF g) ⟨by rw[LG,dF g,Bool.false_and],c5⟩
 ·obtain rfl:k=6:=by omega
  refine cF (by simp) ⟨?_,(s4.quiet hc).aC⟩;have:jV sup tot now ask=false:=by
   rw[jV,List.any_eq_false];intro j hj;rw[ha j (List.mem_range.1 hj)]; simp
  rw[this]
def Ar(sup tot now ask:Int):Int:=if ask<now then now-(if (if 0>tot-sup then 0 else tot-sup)<now-ask then (if 0>tot-sup then 0 else tot-sup) else now-ask) else ask
def pW(sup tot now ask:I6):I6:=I6.of λ k=>Ar (sup.at' k) (tot.at' k) (now.at' k) (ask.at' k)
theorem Gn{s t n a B:Int}(h3:0<=n/\n<=B)(h4:0<=a/\a<=B):0<=Ar s t n a/\Ar s t n a<=B:=by
 unfold Ar
 split
 ·split<;>split<;>omega
 ·omega
theorem Oy{s t n a:I6}{B:Int}(h3:I6.Le n B)(h4:I6.Le a B):I6.Le (pW s t n a) B:=λ k hk=>by
 rw[pW,I6.Ao _ _ hk]; exact Gn (h3 k hk) (h4 k hk)
theorem Oz(w:World)(sup tot now ask:I6)(h1:I6.Le sup 1000000)(h2:I6.Le tot 1000000)(h3:I6.Le now 1000000)(h4:I6.Le ask 1000000) :
  CP 190 #[.agg sup.vs.toArray,.agg tot.vs.toArray,.agg now.vs.toArray,.agg ask.vs.toArray] w (λ r w'=>r=.agg (pW sup tot now ask).vs.toArray/\aD w w' []):=by
 refine rP ?_;unfold mJ;refine(St.start w).one.aB sup.vs.toArray λ r1 w1 s1=>s1.aB tot.vs.toArray λ r2 w2 s2=>s2.aB now.vs.toArray λ r3 w3 s3=>s3.aB ask.vs.toArray λ r4 w4 s4=>s4.aB z6.vs.toArray λ r5 w5 s5=>?_;let I:Nat->World->Prop:=λ k w'=>St w w' (Sep [ah r5 z6.vs.toArray 41,ah r4 (I6.mix k (pW sup tot now ask) ask).vs.toArray 41,ah r3 now.vs.toArray 41,ah r2 tot.vs.toArray 41,ah r1 sup.vs.toArray 41,emp]);refine⟨λ n w6 m=>∃ k:Nat,n=k/\k<=6/\m=6-k/\I k w6,⟨6,0,rfl,by omega,by omega,s5⟩,?_⟩;rintro w6 m n ⟨k,rfl,hk,hm,s6⟩ -
 by_cases hlt:(k:Int)<6
 ·have hk' : k<6:=by omega
  have s7:=St.quiet s6 (aD.drew _ _);have s8:=s7.quiet (aD.drew _ _);have q1:=h1 k hk'; have q2:=h2 k hk'; have q3:=h3 k hk'; have q4:=h4 k hk';have ea:(I6.mix k (pW sup tot now ask) ask).at' k=ask.at' k:=by rw[I6.cH _ _ _ _ hk',if_neg (by omega)]
  have ep:(pW sup tot now ask).at' k=Ar (sup.at' k) (tot.at' k) (now.at' k) (ask.at' k):=I6.Ao _ _ hk';refine cT (dT hlt) ⟨I (k+1),?_,by omega,by omega,ask.at' k,by rw[iU,aR s7 1 rfl hk',ea],by omega,by omega,now.at' k,by rw[iU,aR s7 2 rfl hk'],?_⟩
  ·rintro w9 s9 -;exact⟨6-(k+1),by omega,k+1,inc (by decide) hk',by omega,rfl,s9⟩
  ·by_cases g:ask.at' k<now.at' k
   ·refine cT (dT g) ⟨by omega,by omega,now.at' k,by rw[iU,aR s8 2 rfl hk'],by omega,by omega,now.at' k,by rw[iU,aR s8 2 rfl hk'],by omega,by omega,ask.at' k,by rw[iU,aR s8 1 rfl hk',ea],by omega,by omega,tot.at' k,by rw[iU,aR s8 3 rfl hk'],by omega,by omega,sup.at' k,by rw[iU,aR s8 4 rfl hk'],by omega,by omega,?_⟩
    have hp:=Gn (s:=sup.at' k) (t:=tot.at' k) q3 q4;rw[Ar,if_pos g] at ep hp;rw[iU,aH (n:=tot.at' k-sup.at' k) ⟨by omega,by omega⟩,aH (n:=now.at' k-ask.at' k) ⟨by omega,by omega⟩,aH ⟨by omega,by omega⟩,<- ep];refine s8.aM 1 rfl hk' rfl λ w9 s9=>?_;rw[I6.ij _ _ _ hk'] at s9;exact s9
   ·refine cF (dF g) ?_;rw[Ar,if_neg g] at ep;have:I6.mix (k+1) (pW sup tot now ask) ask=I6.mix k (pW sup tot now ask) ask:=by
     refine I6.ext' λ j hj=>?_;rw[I6.cH _ _ _ _ hj,I6.cH _ _ _ _ hj]
     by_cases h3:j<k
     ·rw[if_pos (by omega),if_pos h3]
     ·rw[if_neg h3]
      split
      ·obtain rfl:j=k:=by omega
       exact ep
      ·rfl
    show I (k+1) _;simp only[I];rw[this]; exact s7
 ·obtain rfl:k=6:=by omega
  exact cF (by simp) ⟨_,St.cellsIn s6 1 rfl,St.aE s6 0 rfl (pW sup tot now ask).vs rfl (I6.one _) λ w8 s8=>⟨_,s8.cellsIn 0 rfl,rfl,s8.aC⟩⟩
theorem PB{w:World}{p:Int}(hp:1<=p/\p<=3){sup:I6}(hs:I6.Le sup 4){a1 a2:OA}{c1 c2:Nat}{l1 l2:List I6}(h1:Mn w a1 l1)(h2:Mn w a2 l2)(hl:l2.length=l1.length)(h8:l1.length<=8)(b1:∀ u∈l1,I6.Le u 4)(b2:∀ u∈l2,I6.Le u 4) :
  CP 186 #[iv p,.agg sup.vs.toArray,.slice a1 l1.length c1,.slice a2 l2.length c2] w (λ r w'=>r=iv 0/\aD w w' []):=by
 refine tE ?_;unfold oq;refine(St.start w).one.aB sup.vs.toArray λ r1 w1 s1=>⟨λ b w2=>b=false/\w2=w1,?_,cF (dF (by omega)) ⟨dF (by omega),rfl⟩⟩;rintro w2 b ⟨rfl,rfl⟩ -;refine cF rfl ⟨λ b w3=>b=false/\w3=w2,?_,cF (by simp[hl]) ⟨dF (by omega),rfl⟩⟩;rintro w3 b ⟨rfl,rfl⟩ -;refine cF rfl ⟨_,s1.cellsIn 0 rfl,aq (dI w3 sup) ?_⟩;rintro v w4 ⟨rfl,c4⟩;have s4:=s1.quiet c4;refine⟨_,rfl,cF (by rw[leq hs]; rfl) ⟨λ n w5 m=>∃ k:Nat,n=k/\k<=2/\m=2-k/\aD w w5 [],⟨2,0,rfl,by omega,by omega,s4.aC⟩,?_⟩⟩;rintro w5 m n ⟨k,rfl,hk,hm,c5⟩ -
 by_cases hlt:(k:Int)<2
 ·have hk' : k<2:=by omega
  obtain⟨a,c,l,e1,hr,hb,hl8⟩:∃ (a:OA) (c:Nat) (l:List I6),(#[.slice a1 l1.length c1,.slice a2 l2.length c2]:Array Value)[(k:Int).toNat*1]?=some (.slice a l.length c)/\Mn w a l/\(∀ u∈l,I6.Le u 4)/\l.length<=8:=by
   match k,hk' with
   | 0,_=>exact⟨a1,c1,l1,rfl,h1,b1,h8⟩
   | 1,_=>exact⟨a2,c2,l2,rfl,h2,b2,by omega⟩
  refine cT (dT hlt) ⟨by omega,by omega,_,_,_,e1,λ n w6 m=>∃ j:Nat,n=j/\j<=l.length/\m=l.length-j/\aD w w6 [],⟨l.length,0,rfl,by omega,by omega,c5⟩,?_⟩;rintro w6 m6 n6 ⟨j,rfl,hj,hm6,c6⟩ -
  by_cases hlt6:(j:Int)<(l.length:Int)
  ·have hx:l[j]?=some (l[j]'(by omega)):=gE (by omega);generalize l[j]'(by omega)=x at hx;obtain⟨q,hq,hcl⟩:=(hr.aC c6).at hx;refine cT (by simpa using hlt6) ?_;rw[hq];refine⟨by omega,by omega,x,hcl,(St.start' c6).one.aB z6.vs.toArray λ r2 w7 s7=>s7.aE 0 rfl x.vs rfl (I6.one _) λ w8 s8=>⟨_,s8.cellsIn 0 rfl,aq (dI w8 x) ?_⟩⟩;rintro v w9 ⟨rfl,c9⟩;exact⟨_,rfl,cF (by rw[leq (hb x (List.mem_of_getElem? hx))]; rfl) ⟨l.length-(j+1),by omega,j+1,aH ⟨by omega,by omega⟩,by omega,rfl,(s8.quiet c9).aC⟩⟩
  ·exact cF (by simpa using hlt6) ⟨2-(k+1),by omega,k+1,inc (by decide) hk',by omega,rfl,c6⟩
 ·exact cF (dF hlt) ⟨rfl,c5⟩
def nI(p:Int)(sup:I6)(out:List I6)(i:Nat)(ask:I6):List I6 :=
 if p=2 then (if jV sup (iT out) (out.getD i z6) ask then out else out.set i ask)
 else if p=3 then out.set i (pW sup (iT out) (out.getD i z6) ask) else out.set i ask
def xH(p:Int)(sup:I6)(bef asked:List I6):Nat->List I6
 | 0=>bef
 | k+1=>nI p sup (xH p sup bef asked k) k (asked.getD k z6)
def ZB(p:Int)(sup:I6)(bef asked:List I6):List I6:=xH p sup bef asked asked.length
theorem yI{l:List I6}{B:Int}(h:∀ u∈l,I6.Le u B)(hB:0<=B)(i:Nat):I6.Le (l.getD i z6) B:=by
 rw[List.getD_eq_getElem?_getD]
 cases hg:l[i]? with
 | none=>exact λ k _=>by rw[show(none:Option I6).getD z6=z6 from rfl,vA]; omega
 | some u=>exact h u (List.mem_of_getElem? hg)
theorem ID{l:List I6}{B:Int}(h:∀ u∈l,I6.Le u B){x:I6}(hx:I6.Le x B)(i:Nat):∀ u∈l.set i x,I6.Le u B:=λ u hu=>by
 rcases List.mem_or_eq_of_mem_set hu with h' | rfl
 ·exact h u h'
 ·exact hx
theorem L9{p:Int}{sup:I6}{out:List I6}{i:Nat}{ask:I6}{B:Int}(hB:0<=B)(h:∀ u∈out,I6.Le u B)(ha:I6.Le ask B):(nI p sup out i ask).length=out.length/\∀ u∈nI p sup out i ask,I6.Le u B:=by
 unfold nI
 split
 ·split
  ·exact⟨rfl,h⟩
  ·exact⟨by simp,ID h ha i⟩
 ·split
  ·exact⟨by simp,ID h (Oy (yI h hB i) ha) i⟩
  ·exact⟨by simp,ID h ha i⟩
theorem EI{p:Int}{sup:I6}{bef asked:List I6}{B:Int}(hB:0<=B)(h:∀ u∈bef,I6.Le u B)(ha:∀ u∈asked,I6.Le u B):∀ k,(xH p sup bef asked k).length=bef.length/\∀ u∈xH p sup bef asked k,I6.Le u B
 | 0=>⟨rfl,h⟩
 | k+1=>by
  obtain⟨h1,h2⟩:=EI (p:=p) (sup:=sup) hB h ha k;obtain⟨h3,h4⟩:=L9 (p:=p) (sup:=sup) (i:=k) hB h2 (yI ha hB k);exact⟨h3.trans h1,h4⟩
theorem PA{w0 w:World}{B:aJ}(s:St w0 w B){p:Int}(hp:1<=p/\p<=3){sup:I6}(hs:I6.Le sup 4){a1 a2:OA}{c1 c2:Nat}{l1 l2:List I6}(h1:Mn w a1 l1)(h2:Mn w a2 l2)(hl:l2.length=l1.length)(h8:l1.length<=8)(b1:∀ u∈l1,I6.Le u 4)(b2:∀ u∈l2,I6.Le u 4) :
  CP 149 #[iv p,.agg sup.vs.toArray,.slice a1 l1.length c1,.slice a2 l2.length c2] w (λ r w'=>∃ a c,r=.tuple #[.slice a l1.length c,iv 0]/\St w0 w' (star (CE a c (ZB p sup l1 l2)) B)/\aD w w' []):=by
 refine tD ?_;unfold oo;refine(St.start w).one.aB sup.vs.toArray λ r1 w1 t1=>⟨_,t1.cellsIn 0 rfl,aq (PB hp hs (h1.aC t1.aC) (h2.aC t1.aC) hl h8 b1 b2) ?_⟩;rintro v w2 ⟨rfl,c2⟩;have t2:=t1.quiet c2;refine⟨_,rfl,cF rfl (aq (MM t2 (h1.aC t2.aC) (by omega)) ?_)⟩;rintro v w3 ⟨a,c,rfl,t3⟩;refine⟨_,_,_,rfl,?_⟩;have len:∀ k,(xH p sup l1 l2 k).length=l1.length:=λ k=>(EI (B:=4) (by omega) b1 b2 k).1;have le4:∀ k,∀ u∈xH p sup l1 l2 k,I6.Le u 4:=λ k=>(EI (B:=4) (by omega) b1 b2 k).2;have up:∀ {u:I6},I6.Le u 4->I6.Le u 1000000:=λ h k hk=>by have:=h k hk; omega
 have tsum:∀ k,I6.Le (iT (xH p sup l1 l2 k)) 1000000:=λ k j hj=>by
  have:=Ez (le4 k) j hj;rw[iT,I6.Ao _ _ hj];have:=len k;omega
 let Q:Nat->aJ:=λ k=>Sep [CE a c (xH p sup l1 l2 k),ah r1 sup.vs.toArray 41,emp];refine⟨λ n w4 m=>∃ k:Nat,n=k/\k<=l2.length/\m=l2.length-k/\St w w4 (Q k),⟨l2.length,0,rfl,by omega,by omega,t3⟩,?_⟩;rintro w4 m n ⟨k,rfl,hk,hm,t4⟩ -
 by_cases hlt:(k:Int)<(l2.length:Int)
 ·have hx:l2[k]?=some (l2[k]'(by omega)):=gE (by omega);generalize l2[k]'(by omega)=x at hx;have hxD:l2.getD k z6=x:=by rw[List.getD_eq_getElem?_getD,hx]; rfl
  have hx4:=b2 x (List.mem_of_getElem? hx);have hk1:k<l1.length:=by omega
  obtain⟨q,hq,hcl⟩:=(h2.aC (St.aC t4)).at hx;have hg:∃ g,a=some ⟨g,0,none⟩:=St.wD (l:=xH p sup l1 l2 k) (St.out t4 0 rfl) (by rw[len]; omega);obtain⟨g,rfl⟩:=hg;have hnow:(xH p sup l1 l2 k)[k]?=some ((xH p sup l1 l2 k).getD k z6):=by
   rw[List.getD_eq_getElem?_getD,gE (by rw[len]; exact hk1)]; rfl
  have hnow4:=yI (le4 k) (by omega) k;refine cT (by simpa using hlt) ⟨λ w5=>St w w5 (Q (k+1)),?_,?_⟩
  ·rintro w5 t5 -;exact⟨l2.length-(k+1),by omega,k+1,aH ⟨by omega,by omega⟩,by omega,rfl,t5⟩
  rw[hq];refine⟨by omega,by omega,x,hcl,St.aB t4 z6.vs.toArray λ r2 w6 t6=>t6.aE 0 rfl x.vs rfl (I6.one _) λ w7 t7=>?_⟩;have rd7:Mn w7 (some ⟨g,0,none⟩) (xH p sup l1 l2 k):=St.rd dh (t7.out 1 rfl);have hsum:=XW (c:=c) rd7 (λ u hu=>up (le4 k u hu)) (by rw[len]; omega);rw[len] at hsum;refine aq hsum ?_;rintro v w8 ⟨rfl,c8⟩;refine⟨_,rfl,(t7.quiet c8).aB z6.vs.toArray λ r3 w9 t9=>t9.aE 0 rfl (iT (xH p sup l1 l2 k)).vs rfl (I6.one _) λ w10 t10=>?_⟩;generalize htot:iT (xH p sup l1 l2 k)=tot at t10;have ht6:I6.Le tot 1000000:=htot▸tsum k;let now:=(xH p sup l1 l2 k).getD k z6;have rdN:∀ {w' : World} {l:List aJ} {y:I6},St w w' (Sep (ah r3 tot.vs.toArray 41 :: ah r2 y.vs.toArray 41 :: CE (some ⟨g,0,none⟩) c (xH p sup l1 l2 k) :: l))->af w' (Addr.add ⟨g,0,none⟩ (((k:Nat):Int).toNat*6)) 0 now.vs:=λ t=>by
   obtain⟨q',hq',hc'⟩:=dx.at (St.rd dh (t.out 2 rfl)) hnow
   cases hq'; exact hc'
  have t10' : St w w10 (Sep [ah r3 tot.vs.toArray 41,ah r2 x.vs.toArray 41,CE (some ⟨g,0,none⟩) c (xH p sup l1 l2 k),ah r1 sup.vs.toArray 41,emp]):=t10;have t11:=t10'.quiet (aD.drew w10 []);refine⟨λ w'=>∃ y:I6,xH p sup l1 l2 (k+1)=(xH p sup l1 l2 k).set k y/\St w w' (Sep [ah r3 tot.vs.toArray 41,ah r2 y.vs.toArray 41,CE (some ⟨g,0,none⟩) c (xH p sup l1 l2 k),ah r1 sup.vs.toArray 41,emp]),?_,?_⟩
  ·rintro w11 ⟨y,ey,t⟩ -;refine⟨_,t.cellsIn 1 rfl,by omega,by omega,?_⟩;rw[Int.toNat_natCast];refine St.GK dh (I6.one y) (t.out 2 rfl) (i:=k) (by rw[len]; exact hk1) λ w12 t12=>?_;show St w w12 (Q (k+1));simp only[Q];rw[ey];exact(t12.back (l:=[ah r3 tot.vs.toArray 41,ah r2 y.vs.toArray 41,CE (some ⟨g,0,none⟩) c (xH p sup l1 l2 k),ah r1 sup.vs.toArray 41,emp]) (i:=2) (by simp)).aA [2,3,4]
  ·have estep:xH p sup l1 l2 (k+1)=nI p sup (xH p sup l1 l2 k) k x:=by show nI _ _ _ _ (l2.getD k z6)=_; rw[hxD]
   by_cases p2:p=2
   ·refine cT (by simpa using p2) ⟨_,t11.cellsIn 3 rfl,_,t11.cellsIn 0 rfl,by omega,by omega,_,rdN t11,_,t11.cellsIn 1 rfl,aq (LH _ sup tot now x (up hs) ht6 (up hnow4) (up hx4)) ?_⟩;rintro v w13 ⟨rfl,c13⟩;refine⟨_,rfl,?_⟩;have t13:=t11.quiet c13;have e2:xH p sup l1 l2 (k+1)=if jV sup tot now x then xH p sup l1 l2 k else (xH p sup l1 l2 k).set k x:=by
     rw[estep,nI,if_pos p2,htot]
    cases hr:jV sup tot now x with
    | true =>
     refine cT rfl ?_;rw[hr,if_pos rfl] at e2;show St w w13 (Q (k+1));simp only[Q];rw[e2];exact t13.aA [2,3,4]
    | false =>
     rw[hr] at e2;exact cF rfl ⟨x,e2,t13⟩
   ·refine cF (by simpa using p2) ?_
    by_cases p3:p=3
    ·refine cT (by simpa using p3) ⟨_,t11.cellsIn 3 rfl,_,t11.cellsIn 0 rfl,by omega,by omega,_,rdN t11,_,t11.cellsIn 1 rfl,aq (Oz _ sup tot now x (up hs) ht6 (up hnow4) (up hx4)) ?_⟩;rintro v w14 ⟨rfl,c14⟩;refine⟨_,rfl,(t11.quiet c14).aE 1 rfl (pW sup tot now x).vs rfl (I6.one _) λ w15 t15=>⟨_,?_,t15⟩⟩;rw[estep,nI,if_neg p2,if_pos p3,htot]
    ·refine cF (by simpa using p3) ⟨x,?_,t10'⟩;rw[estep,nI,if_neg p2,if_neg p3]
 ·obtain rfl:k=l2.length:=by omega
  refine cF (by simp) ⟨a,c,rfl,?_,St.aC t4⟩;exact(s.after (St.aA t4 [0]).single)
structure Br where
 nm:List UInt8
 cls:Int
 bud:Int
 pts:Int
def Br.cells(p:Br):List Value:=[sv p.nm,iv p.cls,iv p.bud,iv p.pts]
def Br.In(p:Br):Prop:=Go.Vc.In p.cls/\Go.Vc.In p.bud/\Go.Vc.In p.pts
def lD(w:World)(a:OA)(l:List Br):Prop:=∀ (i:Nat) (p:Br),l[i]?=some p->p.In/\∃ q,a=some q/\af w (q.add (i*4)) 0 p.cells
theorem lD.aC{w w' : World}{a:OA}{l:List Br}(h:lD w a l)(hc:aD w w' []):lD w' a l:=λ i p hp =>
 let ⟨h1,q,hq,h2⟩:=h i p hp
 ⟨h1,q,hq,bP hc h2⟩
theorem lD.take{w:World}{a:OA}{l:List Br}(h:lD w a l)(n:Nat):lD w a (l.take n):=λ i p hp=>by
 rw[List.getElem?_take] at hp
 split at hp
 ·exact h i p hp
 ·cases hp
theorem Br.one(p:Br):∀ v∈p.cells,v.oneCell' = true:=by
 intro v hv; simp[Br.cells] at hv; rcases hv with rfl|rfl|rfl|rfl<;>rfl
theorem We{a:OA}{c:Nat}:(if c=0 then a else Option.map (λ x=>Addr.add x (0*4)) a)=a:=by
 split
 ·rfl
 ·cases a<;>simp[Addr.add]
theorem Sk{w:World}{a:OA}{c:Nat}{l:List Br}(h:lD w a l)(hl:l.length<=1000)(nm:List UInt8) :
  CP 220 #[.slice a l.length c,sv nm] w (λ r w'=>(∃ k:Int,r=.tuple #[iv k,.bool (l.any λ p=>p.nm==nm)])/\aD w w' []):=by
 refine Cq ?_;unfold Il;refine⟨λ n w1 m=>∃ k:Nat,n=k/\k<=l.length/\m=l.length-k/\(l.take k).any (λ p=>p.nm==nm)=false/\aD w w1 [],⟨l.length,0,rfl,by omega,by omega,rfl,aD.refl _ _⟩,?_⟩;rintro w1 m n ⟨k,rfl,hk,hm,ha,hc⟩ -
 by_cases hlt:(k:Int)<(l.length:Int)
 ·have hx:l[k]?=some (l[k]'(by omega)):=gE (by omega);generalize l[k]'(by omega)=x at hx;obtain⟨_,q,rfl,hcl⟩:=(h.aC hc) k x hx;refine cT (by simpa using hlt) ⟨by omega,by omega,_,_,_,_,hcl,aL ?_⟩;refine((St.start' hc).one.cD _ 159).aE 0 rfl x.cells rfl x.one λ w3 s3=>?_;refine⟨_,by rw[s3.ag 0 rfl]; rfl,?_⟩
  by_cases hn:x.nm=nm
  ·exact cT (by rw[hn]; simp) ⟨⟨k,by rw[kq hx (by simpa using hn)]⟩,s3.aC⟩
  ·exact cF (by rw[jm,jm]; simpa using hn) ⟨l.length-(k+1),by omega,k+1,by rw[aH ⟨by omega,by omega⟩]; rfl,by omega,rfl,iw ha hx (by simpa using hn),s3.aC⟩
 ·refine cF (by simpa using hlt) ⟨⟨0,?_⟩,hc⟩;rw[List.take_of_length_le (by omega)] at ha;rw[ha]
def Dk(x:Br):Bool:=(decide (0<=x.cls)&&decide (x.cls<=4))&&((decide (0<=x.bud)&&decide (x.bud<=1000000))&&(decide (0<=x.pts)&&decide (x.pts<=24000)))
def yE(l:List Br)(i:Nat)(p:Br):Prop:=(gx p.nm&&Dk p)=true/\((l.take i).any λ q=>q.nm==p.nm)=false
structure I2 (l:List Br):Prop where
 l1:1<=l.length
 l2:l.length<=8
 good:∀ i p,l[i]?=some p->yE l i p
theorem qO{x:Br}(hh : ¬ (0<=x.cls/\x.cls<=4/\0<=x.bud/\x.bud<=1000000/\0<=x.pts/\x.pts<=24000)):true = !Dk x:=by
 cases hr:Dk x with
 | false=>rfl
 | true =>
  exfalso; apply hh
  simp only[Dk,Bool.and_eq_true,decide_eq_true_eq] at hr;omega
def Qf(l:List Br)(i:Nat)(p:Br):Int:=if gx p.nm=false then 5 else if ((l.take i).any λ q=>q.nm==p.nm) then 7 else if Dk p=false then 4 else 0
theorem E5{l:List Br}{i:Nat}{p:Br}(h:yE l i p):Qf l i p=0:=by
 obtain⟨h1,h2⟩:=h;rw[Bool.and_eq_true] at h1;rw[Qf,h1.1,h2,h1.2]; rfl
def Me(l:List Br):Int:=if l.length=0 then 1 else if 8<l.length then 3 else gr (Qf l) 0 l
theorem LD{w:World}{a:OA}{c:Nat}{l:List Br}(h:lD w a l)(hcap:l.length<=c) :
  CP 175 #[.slice a l.length c] w ((C2 (I2 l) (Me l) w)):=by
 refine Ig ?_;unfold JV
 by_cases h0:l.length=0
 ·exact cT (by rw[h0]; rfl) (bw (by decide) (λ hp=>by have:=hp.l1; omega) (aD.refl _ _) (by rw[Me,if_pos h0]))
 refine cF (by simpa using h0) ?_;rcases Nat.lt_or_ge 8 l.length with h6|h6
 ·exact cT (dT (by omega)) (bw (by decide) (λ hp=>by have:=hp.l2; omega) (aD.refl _ _) (by rw[Me,if_neg h0,if_pos h6]))
 refine cF (dF (by omega)) ⟨λ n w1 m=>∃ k:Nat,n=k/\k<=l.length/\m=l.length-k/\(∀ i p,i<k->l[i]?=some p->yE l i p)/\aD w w1 [],⟨l.length,0,rfl,by omega,by omega,λ i p hi=>by omega,aD.refl _ _⟩,?_⟩;rintro w1 m n ⟨k,rfl,hk,hm,ha,hc⟩ -
 by_cases hlt:(k:Int)<(l.length:Int)
 ·have hx:l[k]?=some (l[k]'(by omega)):=gE (by omega);generalize l[k]'(by omega)=x at hx;obtain⟨_,q,hq,hcl⟩:=(h.aC hc) k x hx;have bad : ¬ yE l k x->¬ I2 l:=λ hb hp=>hb (hp.good k x hx);have bk:∀ {e:Int},e≠0->Qf l k x=e->Me l=e:=λ he h=>by
   have:=lW (f:=Qf l) (n:=0) (λ i p hi hp=>by rw[Nat.zero_add]; exact E5 (ha i p hi hp)) hx (by rw[Nat.zero_add,h]; exact he);rw[Nat.zero_add,h] at this;rw[Me,if_neg h0,if_neg (by omega),this]
  refine cT (by simpa using hlt) ?_;rw[hq];refine⟨by omega,by omega,_,_,_,_,hcl,aL ?_⟩;refine((St.start' hc).one.cD _ 159).aE 0 rfl x.cells rfl x.one λ w3 s3=>?_;generalize hr1:w1.heap.size=r1 at s3 ⊢;have cx:∀ {w' : World},aD w3 w' []->∀ (j:Nat) (v:Value),x.cells[j]?=some v->w'.cell? ⟨r1,j,none⟩=some v:=λ hc j v hv=>dJ (by rw[s3.ag 0 rfl]; simpa using hv) hc;refine⟨_,cx (aD.refl _ _) 0 _ rfl,aq (z8 w3 x.nm) ?_⟩;rintro v w4 ⟨rfl,rfl⟩;refine⟨_,rfl,?_⟩
  cases hn:gx x.nm with
  | false=>exact cT rfl (bw (by decide) (bad λ hg=>by have:=hg.1; simp[hn] at this) s3.aC (bk (by decide) (by rw[Qf,hn]; rfl)))
  | true =>
   have d4:aD w4 w4.drew []:=aD.drew w4 [];refine cF rfl ⟨by omega,by omega,_,cx d4 0 _ rfl,?_⟩;rw[<- hq,We];have hf:=Sk (c:=c-0) ((h.aC (s3.aC.trans d4 (by simp))).take k) (by rw[List.length_take]; omega) x.nm;rw[List.length_take,Nat.min_eq_left hk] at hf;refine aq hf ?_;rintro v w5 ⟨⟨kk,rfl⟩,c5⟩;have d5:aD w4 w5 []:=d4.trans c5 (by simp);refine⟨_,_,rfl,?_⟩
   cases hany:((l.take k).any λ p=>p.nm==x.nm) with
   | true=>exact cT rfl (bw (by decide) (bad λ hg=>by have:=hg.2; rw[hany] at this; cases this) (s3.aC.trans d5 (by simp)) (bk (by decide) (by rw[Qf,hn,hany]; rfl)))
   | false =>
    refine cF rfl ⟨λ b w6=>w6=w5/\b = !Dk x,?_,?_⟩
    ·rintro w6 b ⟨rfl,rfl⟩ -;have c7:=s3.aC.trans d5 (by simp)
     cases hr:Dk x with
     | false=>exact cT rfl (bw (by decide) (bad λ hg=>by have:=hg.1; simp[hr] at this) c7 (bk (by decide) (by rw[Qf,hn,hany,hr]; rfl)))
     | true =>
      refine cF rfl ⟨l.length-(k+1),by omega,k+1,by rw[aH ⟨by omega,by omega⟩]; rfl,by omega,rfl,λ i p hi hp=>?_,c7⟩;rcases Nat.lt_or_ge i k with h' | h'
      ·exact ha i p h' hp
      ·obtain rfl:i=k:=by omega
       rw[hx] at hp; cases hp;exact⟨by simp[hn,hr],hany⟩
    ·refine⟨_,cx d5 1 _ rfl,?_⟩
     by_cases g1:x.cls<0
     ·exact cT (dT g1) ⟨rfl,qO (by omega)⟩
     refine cF (dF g1) ⟨_,cx d5 1 _ rfl,?_⟩
     by_cases g2:x.cls>4
     ·exact cT (dT g2) ⟨rfl,qO (by omega)⟩
     refine cF (dF g2) ⟨_,cx d5 2 _ rfl,?_⟩
     by_cases g3:x.bud<0
     ·exact cT (dT g3) ⟨rfl,qO (by omega)⟩
     refine cF (dF g3) ⟨_,cx d5 2 _ rfl,?_⟩
     by_cases g4:x.bud>1000000
     ·exact cT (dT g4) ⟨rfl,qO (by omega)⟩
     refine cF (dF g4) ⟨_,cx d5 3 _ rfl,?_⟩
     by_cases g5:x.pts<0
     ·exact cT (dT g5) ⟨rfl,qO (by omega)⟩
     refine cF (dF g5) ⟨_,cx d5 3 _ rfl,rfl,?_⟩
     by_cases g6:x.pts>24000
     ·rw[dT g6]; exact qO (by omega)
     ·rw[dF g6];have:Dk x=true:=by simp only[Dk,Bool.and_eq_true,decide_eq_true_eq]; omega
      rw[this]; rfl
 ·obtain rfl:k=l.length:=by omega
  exact cF (by simp) (qR ⟨by omega,h6,λ i p hp=>ha i p (List.getElem?_eq_some_iff.1 hp).1 hp⟩ hc (by rw[Me,if_neg h0,if_neg (by omega),iE λ i p hp=>by rw[Nat.zero_add]; exact E5 (ha i p (List.getElem?_eq_some_iff.1 hp).1 hp)]))
structure T3 where
 a:Int
 b:Int
 c:Int
def T3.cells(p:T3):List Value:=[iv p.a,iv p.b,iv p.c]
def ES(w:World)(a:OA)(l:List T3):Prop:=∀ (i:Nat) (p:T3),l[i]?=some p->∃ q,a=some q/\af w (q.add (i*3)) 0 p.cells
theorem ES.aC{w w' : World}{a:OA}{l:List T3}(h:ES w a l)(hc:aD w w' []):ES w' a l:=λ i p hp =>
 let ⟨q,hq,h2⟩:=h i p hp
 ⟨q,hq,bP hc h2⟩
theorem T3.one(p:T3):∀ v∈p.cells,v.oneCell' = true:=by
 intro v hv; simp[T3.cells] at hv; rcases hv with rfl|rfl|rfl<;>rfl
theorem slice3{a:OA}{c:Nat}:(if c=0 then a else Option.map (λ x=>Addr.add x (0*3)) a)=a:=by
 split
 ·rfl
 ·cases a<;>simp[Addr.add]
def BK(n:Nat)(x:T3):Bool:=(decide (-1<=x.a)&&decide (x.a<(n:Int)))&&((decide (0<=x.b)&&decide (x.b<=4))&&(decide (0<=x.c)&&decide (x.c<=24)))
def kM(x y:T3):Bool:=y.a==x.a&&y.b==x.b
def I3(n:Nat)(l:List T3)(i:Nat)(p:T3):Prop:=BK n p=true/\((l.take i).any λ q=>kM p q)=false
structure CZ (n:Nat) (l:List T3):Prop where
 l1:l.length<=16
 good:∀ i p,l[i]?=some p->I3 n l i p
def Qr(n:Nat)(l:List T3)(i:Nat)(x:T3):Int:=if (decide (-1<=x.a)&&decide (x.a<(n:Int)))=false then 6 else if ((decide (0<=x.b)&&decide (x.b<=4))&&(decide (0<=x.c)&&decide (x.c<=24)))=false then 4 else if ((l.take i).any λ q=>kM x q) then 7 else 0
theorem Ff{n:Nat}{l:List T3}{i:Nat}{p:T3}(h:I3 n l i p):Qr n l i p=0:=by
 obtain⟨h1,h2⟩:=h;unfold BK at h1;rw[Bool.and_eq_true] at h1;rw[Qr,h1.1,h1.2,h2]; rfl
def MO(n:Nat)(l:List T3):Int:=if 16<l.length then 3 else gr (Qr n l) 0 l
theorem Qg{w:World}{a1 a2 a3 a4:OA}{l1 c1 l2 c2 c3 l4 c4:Nat}{l:List T3}(h:ES w a3 l)(hcap:l.length<=c3) :
  CP 176 #[.agg #[.slice a1 l1 c1,.slice a2 l2 c2,.slice a3 l.length c3,.slice a4 l4 c4]] w ((C2 (CZ l2 l) (MO l2 l) w)):=by
 refine Aq ?_;unfold xw;refine aL ?_;have s1:=(St.start w).one.cD #[.slice a1 l1 c1,.slice a2 l2 c2,.slice a3 l.length c3,.slice a4 l4 c4] 100;generalize hw1:w.alloc _=w1 at s1 ⊢;generalize hr1:w.heap.size=r1 at s1 ⊢;have cb:∀ {w' : World},aD w1 w' []->∀ (j:Nat) (v:Value),(#[.slice a1 l1 c1,.slice a2 l2 c2,.slice a3 l.length c3,.slice a4 l4 c4]:Array Value)[j]?=some v->w'.cell? ⟨r1,j,none⟩=some v:=λ hc j v hv=>dJ (by rw[s1.ag 0 rfl]; exact hv) hc;have z1:aD w1 w1 []:=aD.refl _ _;refine⟨_,_,_,cb z1 2 _ rfl,?_⟩;rcases Nat.lt_or_ge 16 l.length with h6|h6
 ·exact cT (dT (by omega)) (bw (by decide) (λ hp=>by have:=hp.l1; omega) s1.aC (by rw[MO,if_pos h6]))
 refine cF (dF (by omega)) ⟨_,_,_,cb z1 2 _ rfl,λ n w2 m=>∃ k:Nat,n=k/\k<=l.length/\m=l.length-k/\(∀ i p,i<k->l[i]?=some p->I3 l2 l i p)/\aD w1 w2 [],⟨l.length,0,rfl,by omega,by omega,λ i p hi=>by omega,z1⟩,?_⟩;rintro w2 m n ⟨k,rfl,hk,hm,ha,hc⟩ -;have hcw:aD w w2 []:=s1.aC.trans hc (by simp)
 by_cases hlt:(k:Int)<(l.length:Int)
 ·have hx:l[k]?=some (l[k]'(by omega)):=gE (by omega);generalize l[k]'(by omega)=x at hx;obtain⟨q,hq,hcl⟩:=(h.aC hcw) k x hx;have bad : ¬ I3 l2 l k x->¬ CZ l2 l:=λ hb hp=>hb (hp.good k x hx);have bk:∀ {e:Int},e≠0->Qr l2 l k x=e->MO l2 l=e:=λ he h=>by
   have:=lW (f:=Qr l2 l) (n:=0) (λ i p hi hp=>by rw[Nat.zero_add]; exact Ff (ha i p hi hp)) hx (by rw[Nat.zero_add,h]; exact he);rw[Nat.zero_add,h] at this;rw[MO,if_neg (by omega),this]
  refine cT (by simpa using hlt) ?_;rw[hq];refine⟨by omega,by omega,_,_,_,hcl,aL ?_⟩;refine((St.start w2).one.cD _ 174).aE 0 rfl x.cells rfl x.one λ w4 s4=>?_;generalize hr2:w2.heap.size=r2 at s4 ⊢;have d4:aD w1 w4 []:=hc.trans s4.aC (by simp);have cw4:aD w w4 []:=s1.aC.trans d4 (by simp);have cx:∀ {w' : World},aD w4 w' []->∀ (j:Nat) (v:Value),x.cells[j]?=some v->w'.cell? ⟨r2,j,none⟩=some v:=λ hc j v hv=>dJ (by rw[s4.ag 0 rfl]; simpa using hv) hc;have z4:aD w4 w4 []:=aD.refl _ _;refine⟨λ b w5=>w5=w4/\b = !(decide (-1<=x.a)&&decide (x.a<(l2:Int))),?_,?_⟩
  ·rintro w5 b ⟨rfl,rfl⟩ -
   cases g0:(decide (-1<=x.a)&&decide (x.a<(l2:Int))) with
   | false=>exact cT rfl (bw (by decide) (bad λ hg=>by have:=hg.1; unfold BK at this; rw[g0] at this; cases this) cw4 (bk (by decide) (by rw[Qr,g0]; rfl)))
   | true =>
    refine cF rfl ⟨λ b w6=>w6=w5/\b = !((decide (0<=x.b)&&decide (x.b<=4))&&(decide (0<=x.c)&&decide (x.c<=24))),?_,?_⟩
    ·rintro w6 b ⟨rfl,rfl⟩ -
     cases g1:((decide (0<=x.b)&&decide (x.b<=4))&&(decide (0<=x.c)&&decide (x.c<=24))) with
     | false=>exact cT rfl (bw (by decide) (bad λ hg=>by have:=hg.1; unfold BK at this; rw[g0,g1] at this; cases this) cw4 (bk (by decide) (by rw[Qr,g0,g1]; rfl)))
     | true =>
      refine cF rfl ⟨_,_,_,cb d4 2 _ rfl,by omega,by omega,λ n w7 m=>∃ j:Nat,n=j/\j<=k/\m=k-j/\(l.take j).any (λ p=>kM x p)=false/\aD w6 w7 [],⟨k,0,rfl,by omega,by omega,rfl,z4⟩,?_⟩;rintro w7 m7 n7 ⟨j,rfl,hj,hm7,hany,c7⟩ -
      by_cases hjk:(j:Int)<(k:Int)
      ·have hy:l[j]?=some (l[j]'(by omega)):=gE (by omega);generalize l[j]'(by omega)=y at hy;obtain⟨q',hq',hcl'⟩:=(h.aC (cw4.trans c7 (by simp))) j y hy;rw[hq] at hq'; cases hq';refine cT (by simpa using hjk) ?_;rw[slice3,hq];refine⟨by omega,by simpa using hjk,_,_,_,hcl',aL ?_⟩;refine((St.start' c7).one.cD _ 174).aE 0 rfl y.cells rfl y.one λ w9 s9=>?_;have cy:∀ (j:Nat) (v:Value),y.cells[j]?=some v->w9.cell? ⟨w7.heap.size,j,none⟩=some v:=λ j v hv=>by rw[s9.ag 0 rfl]; simpa using hv
       refine⟨λ b w10=>w10=w9/\b=kM x y,?_,_,cy 0 _ rfl,_,cx s9.aC 0 _ rfl,?_⟩
       ·rintro w10 b ⟨rfl,rfl⟩ -
        cases hs:kM x y with
        | true =>
         have h2:(l.take k)[j]?=some y:=by rw[List.getElem?_take,if_pos (by omega)]; exact hy
         have h3:=kq (p:=λ q=>kM x q) h2 hs;refine cT rfl (bw (by decide) (bad λ hg=>?_) (cw4.trans s9.aC (by simp)) (bk (by decide) (by rw[Qr,g0,g1,h3]; rfl)));have h1:=hg.2;rw[h3] at h1
         cases h1
        | false=>exact cF rfl ⟨k-(j+1),by omega,j+1,by rw[aH ⟨by omega,by omega⟩]; rfl,by omega,rfl,iw hany hy hs,s9.aC⟩
       ·by_cases hA:y.a=x.a
        ·refine cT (by simpa using hA) ⟨_,cy 1 _ rfl,_,cx s9.aC 1 _ rfl,rfl,?_⟩;simp[kM,hA]
        ·exact cF (by simpa using hA) ⟨rfl,by simp[kM,hA]⟩
      ·obtain rfl:j=k:=by omega
       refine cF (by simp) ⟨l.length-(j+1),by omega,j+1,by rw[aH ⟨by omega,by omega⟩]; rfl,by omega,rfl,λ i p hi hp=>?_,d4.trans c7 (by simp)⟩;rcases Nat.lt_or_ge i j with h' | h'
       ·exact ha i p h' hp
       ·obtain rfl:i=j:=by omega
        rw[hx] at hp; cases hp;exact⟨by unfold BK; rw[g0,g1]; rfl,hany⟩
    ·have no : ¬ (0<=x.b/\x.b<=4/\0<=x.c/\x.c<=24)->true = !((decide (0<=x.b)&&decide (x.b<=4))&&(decide (0<=x.c)&&decide (x.c<=24))):=λ hh=>by
      cases hr:((decide (0<=x.b)&&decide (x.b<=4))&&(decide (0<=x.c)&&decide (x.c<=24))) with
      | false=>rfl
      | true =>
       exfalso; apply hh
       simp only[Bool.and_eq_true,decide_eq_true_eq] at hr;omega
     refine⟨_,cx z4 1 _ rfl,?_⟩
     by_cases g1:x.b<0
     ·exact cT (dT g1) ⟨rfl,no (by omega)⟩
     refine cF (dF g1) ⟨_,cx z4 1 _ rfl,?_⟩
     by_cases g2:x.b>4
     ·exact cT (dT g2) ⟨rfl,no (by omega)⟩
     refine cF (dF g2) ⟨_,cx z4 2 _ rfl,?_⟩
     by_cases g3:x.c<0
     ·exact cT (dT g3) ⟨rfl,no (by omega)⟩
     refine cF (dF g3) ⟨_,cx z4 2 _ rfl,rfl,?_⟩
     by_cases g4:x.c>24
     ·rw[dT g4]; exact no (by omega)
     ·rw[dF g4,dT (show 0<=x.b by omega),dT (show x.b<=4 by omega),dT (show 0<=x.c by omega),dT (show x.c<=24 by omega)];rfl
  ·refine⟨_,cx z4 0 _ rfl,?_⟩
   by_cases g1:x.a < -1
   ·exact cT (dT g1) ⟨rfl,by rw[dF (show ¬ -1<=x.a by omega)]; rfl⟩
   ·refine cF (dF g1) ⟨_,cx z4 0 _ rfl,_,_,_,cb d4 1 _ rfl,rfl,?_⟩;rw[dT (show -1<=x.a by omega),Bool.true_and]
    by_cases g2:x.a<(l2:Int)
    ·rw[dT g2,dF (by omega)]; rfl
    ·rw[dF g2,dT (by omega)]; rfl
 ·obtain rfl:k=l.length:=by omega
  exact cF (by simp) (qR ⟨h6,λ i p hp=>ha i p (List.getElem?_eq_some_iff.1 hp).1 hp⟩ hcw (by rw[MO,if_neg (by omega),iE λ i p hp=>by rw[Nat.zero_add]; exact Ff (ha i p (List.getElem?_eq_some_iff.1 hp).1 hp)]))

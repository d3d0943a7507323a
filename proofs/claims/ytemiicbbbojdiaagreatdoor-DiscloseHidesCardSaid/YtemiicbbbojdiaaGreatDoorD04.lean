import Derived.Test.YtemiicbbbojdiaaGreatDoorD03
set_option linter.unusedVariables false
set_option maxRecDepth 100000
namespace Go.Proofs.YtemiicbbbojdiaaGreatDoor
open Go Go.Vc _root_.Go.Proofs.Tryz
def v8(a:I6)(b:OA)(c d:Nat)(w:World)(K:KP):=av w (.cells a.vs.toArray 39) λ a e=>av e (.cells z6.vs.toArray 39) λ e f=>∃ g:I6,af f.drew (qd a 0) 0 g.vs/\CC 69 #[.slice b c d] f.drew λ b c=>∃ d:I6,b=.returned (.agg d.vs.toArray)/\af c (qd a 0) 0 g.vs/\CC 68 #[.agg d.vs.toArray,.agg g.vs.toArray] c λ a b=>∃ c:I6,a=.returned (.agg c.vs.toArray)/\aK (qd e 0) 0 c.vs b λ a=>∃ b:I6,af a (qd e 0) 0 b.vs/\K (.agg b.vs.toArray) a
theorem zq{u1 a1 l1 c1 w K}(h:v8 u1 a1 l1 c1 w K):CP 41 #[.agg u1.vs.toArray,.slice a1 l1 c1] w K:=ah (aE []) func41 (by kernel_rfl) (by kernel_rfl) h
def BJ(a b:I6)(w:World)(K:KP):=av w (.cells a.vs.toArray 133) λ a c=>av c (.cells b.vs.toArray 133) λ b c=>av c (.cells z6.vs.toArray 39) λ c d=>av d (.cells z6.vs.toArray 39) λ d e=>∃ f:Int->qN,(∃ g,f 0 e g)/\∀ e g h,f h e g->∀ i:qv,cond (decide (h<6)) (∃ i:qW,(∀ j,i j->∀ k:qv,∃ k,k<g/\f (IntKind.i64.wrap (h+1)) j k)/\0<=h/\h<6/\∃ f,e.drew.cell? (Addr.add (qd a 0) ((h).toNat*1))=some (iv f)/\0<=h/\h<6/\∃ g,e.drew.cell? (Addr.add (qd b 0) ((h).toNat*1))=some (iv g)/\cond (decide (f>g)) (0<=h/\h<6/\∃ f,e.drew.drew.cell? (Addr.add (qd a 0) ((h).toNat*1))=some (iv f)/\0<=h/\h<6/\∃ a,e.drew.drew.cell? (Addr.add (qd b 0) ((h).toNat*1))=some (iv a)/\0<=h/\h<6/\aQ e.drew.drew (Addr.add (qd d 0) ((h).toNat*1)) (iv (IntKind.i64.wrap (f-a))) λ a=>i a) (i e.drew)) (∃ a:I6,af e (qd d 0) 0 a.vs/\aK (qd c 0) 0 a.vs e λ a=>∃ b:I6,af a (qd c 0) 0 b.vs/\K (.agg b.vs.toArray) a)
theorem Cb{u1 u2 w K}(h:BJ u1 u2 w K):CP 68 #[.agg u1.vs.toArray,.agg u2.vs.toArray] w K:=ah (aE [(58,[(7,.s (.int .i64))]),(467,[])]) func68 (by kernel_rfl) (by kernel_rfl) h
def yD(a:OA)(b c:Nat)(w:World)(K:KP):=av w (.cells z6.vs.toArray 133) λ c d=>av d (.cells z6.vs.toArray 133) λ d e=>∃ f:Int->qN,(∃ g,f 0 e g)/\∀ e g h,f h e g->∀ i:qv,cond (decide (h<(b:Int))) (au a λ a=>0<=h/\h<(b:Int)/\∃ b:I6,af e (Addr.add a ((h).toNat*6)) 0 b.vs/\av e (.cells z6.vs.toArray 39) λ a i=>aK (qd a 0) 0 b.vs i λ b=>∃ i:Int->qN,(∃ j,i 0 b j)/\∀ b j k,i k b j->∀ l:qv,cond (decide (k<6)) (0<=k/\k<6/\∃ l,b.drew.cell? (Addr.add (qd d 0) ((k).toNat*1))=some (iv l)/\0<=k/\k<6/\∃ m,b.drew.cell? (Addr.add (qd a 0) ((k).toNat*1))=some (iv m)/\0<=k/\k<6/\aQ b.drew (Addr.add (qd d 0) ((k).toNat*1)) (iv (IntKind.i64.wrap (l+m))) λ a=>∃ l,l<j/\i (IntKind.i64.wrap (k+1)) a l) (∃ a,a<g/\f (IntKind.i64.wrap (h+1)) b a)) (∃ a:I6,af e (qd d 0) 0 a.vs/\aK (qd c 0) 0 a.vs e λ a=>∃ b:I6,af a (qd c 0) 0 b.vs/\K (.agg b.vs.toArray) a)
theorem BK{a1 l1 c1 w K}(h:yD a1 l1 c1 w K):CP 69 #[.slice a1 l1 c1] w K:=ah (aE [(58,[(9,.s (.int .i64))]),(14950,[(13,.s (.int .i64))])]) func69 (by kernel_rfl) (by kernel_rfl) h
def mu(a b c d:Int)(w:World)(K:KP):=av w (.cells #[iv a,iv b,iv c,iv d] 23) λ a b=>∃ c:Bool->qW,(∀ d e,c e d->∀ f:qv,cond e (K (iv 4) d) (K qz d))/\∃ d,b.cell? (qd a 0)=some (iv d)/\cond (decide (d<1)) (c true b) (∃ d,b.cell? (qd a 0)=some (iv d)/\cond (decide (d>1000000)) (c true b) (∃ d,b.cell? (qd a 1)=some (iv d)/\cond (decide (d<0)) (c true b) (∃ d,b.cell? (qd a 1)=some (iv d)/\cond (decide (d>100)) (c true b) (∃ d,b.cell? (qd a 2)=some (iv d)/\cond (decide (d<1)) (c true b) (∃ d,b.cell? (qd a 2)=some (iv d)/\cond (decide (d>3)) (c true b) (∃ d,b.cell? (qd a 3)=some (iv d)/\cond (decide (d<1)) (c true b) (∃ d,b.cell? (qd a 3)=some (iv d)/\c (decide (d>3)) b)))))))
theorem sg{n1 n2 n3 n4 w K}(h:mu n1 n2 n3 n4 w K):CP 134 #[.agg #[iv n1,iv n2,iv n3,iv n4]] w K:=ah (aE [(6,[(40,.s .bool)])]) func134 (by kernel_rfl) (by kernel_rfl) h
def mw(a:OA)(b c:Nat)(w:World)(K:KP):=av w (.cells z6.vs.toArray 37) λ d e=>av e (.cells z6.vs.toArray 37) λ e f=>0<=(if (6:Int)<(b:Int) then (6:Int) else (b:Int))/\(if (6:Int)<(b:Int) then (6:Int) else (b:Int))<=(c:Int)/\∃ g:Int->qN,(∃ h,g 0 f h)/\∀ f h i,g i f h->∀ j:qv,cond (decide (i<(((((if (6:Int)<(b:Int) then (6:Int) else (b:Int))).toNat-0):Nat):Int))) (au (if c=0 then a else Option.map (λ x=>Addr.add x (0*5)) a) λ a=>0<=i/\i<(((((if (6:Int)<(b:Int) then (6:Int) else (b:Int))).toNat-0):Nat):Int)/\∃ b c j k l,af f (Addr.add a ((i).toNat*5)) 0 [.string b,iv c,iv j,iv k,iv l]/\av f (.cells #[.string (bs []),qz,qz,qz,qz] 89) λ a m=>aK (qd a 0) 0 [.string b,iv c,iv j,iv k,iv l] m λ b=>∃ c,b.cell? (qd a 2)=some (iv c)/\0<=i/\i<6/\aQ b (Addr.add (qd e 0) ((i).toNat*1)) (iv c) λ a=>∃ b,b<h/\g (IntKind.i64.wrap (i+1)) a b) (∃ a:I6,af f (qd e 0) 0 a.vs/\aK (qd d 0) 0 a.vs f λ a=>∃ b:I6,af a (qd d 0) 0 b.vs/\K (.agg b.vs.toArray) a)
theorem sr{a1 l1 c1 w K}(h:mw a1 l1 c1 w K):CP 162 #[.slice a1 l1 c1] w K:=ah (aE [(58,[(12,.s (.int .i64))])]) func162 (by kernel_rfl) (by kernel_rfl) h
def jj(a:OA)(b c:Nat)(d:OA)(e f:Nat)(g:OA)(h i:Nat)(j:OA)(k l:Nat)(m:Int)(n o:I6)(w:World)(K:KP):=av w (.cells #[.slice a b c,.slice d e f,.slice g h i,.slice j k l] 34) λ a b=>av b (.cells (n.on (o.vs):List Value).toArray 78) λ b c=>∃ d e f g h i j k l n o p,af c (qd a 0) 0 [.slice d e f,.slice g h i,.slice j k l,.slice n o p]/\CC 187 #[.agg #[.slice d e f,.slice g h i,.slice j k l,.slice n o p],iv m] c λ c d=>∃ e,c=.returned (.bool e)/\cond (!e) (K (iv 6) d) (∃ c e f,d.cell? (qd a 1)=some (.slice c e f)/\au c λ a=>0<=m/\m<(e:Int)/\∃ c,d.cell? (Addr.add (Addr.add a ((m).toNat*4)) 2)=some (iv c)/\∃ a:Bool->qW,(∀ e f,a f e->∀ g:qv,cond f (K (iv 17) e) (K qz e))/\cond (c !=0) (∃ e:I6,af d (qd b 0) 0 e.vs/\∃ f:I6,af d (qd b 6) 0 f.vs/\CC 188 #[.agg e.vs.toArray,.agg f.vs.toArray] d λ b e=>∃ f,b=.returned (iv f)/\a (decide (c<f)) e) (a false d))
theorem nk{a1 l1 c1 a2 l2 c2 a3 l3 c3 a4 l4 c4 n1 u1 u2 w K}(h:jj a1 l1 c1 a2 l2 c2 a3 l3 c3 a4 l4 c4 n1 u1 u2 w K):CP 165 #[.agg #[.slice a1 l1 c1,.slice a2 l2 c2,.slice a3 l3 c3,.slice a4 l4 c4],iv n1,.agg (u1.on (u2.vs):List Value).toArray] w K:=ah (aE [(29,[(28,.s .bool)])]) func165 (by kernel_rfl) (by kernel_rfl) h
def om(a:OA)(b c:Nat)(d:OA)(e f:Nat)(g:OA)(h i:Nat)(j:OA)(k l:Nat)(m n:Int)(o:OA)(p q:Nat)(r s:I6)(w:World)(K:KP):=av w (.cells #[.slice a b c,.slice d e f,.slice g h i,.slice j k l] 34) λ a b=>av b (.cells (r.on (s.vs):List Value).toArray 78) λ b c=>∃ d e f g h i j k l r s t,af c (qd a 0) 0 [.slice d e f,.slice g h i,.slice j k l,.slice r s t]/\av c (.cells #[qn,qn,qn,qn,qz,qn] 252) λ c u=>aK (qd c 0) 0 [.slice d e f,.slice g h i,.slice j k l,.slice r s t,iv n,.slice o p q] u λ d=>∃ e f g h i j k l r s t u v x y z,af d (qd c 0) 0 [.slice e f g,.slice h i j,.slice k l r,.slice s t u,iv v,.slice x y z]/\∃ A:KP,(∀ B,∀ C:Value,A C B->∀ D:qv,∃ D E F G H I J L M N O P,af B (qd a 0) 0 [.slice D E F,.slice G H I,.slice J L M,.slice N O P]/\CC 187 #[.agg #[.slice D E F,.slice G H I,.slice J L M,.slice N O P],iv n] B λ a n=>∃ B,a=.returned (.bool B)/\cond (!B) (K (iv 6) n) (∃ a:I6,af n (qd b 6) 0 a.vs/\CC 93 #[.agg a.vs.toArray] n λ a n=>∃ B,a=.returned (iv B)/\cond (B !=0) (K (iv B) n) (∃ a:KP,(∀ B,∀ D:Value,a D B->∀ E:qv,∃ E F:I6,af B (qd b 0) 0 (E.on (F.vs))/\cO prog D #[.agg (E.on (F.vs):List Value).toArray] B λ b B=>∃ D,b=.returned (.bool D)/\cond (!D) (K (iv 15) B) (K qz B))/\CC 192 #[.slice o p q] n λ b n=>∃ o,b=.returned (.bool o)/\cond o (a (.func (.func 193) #[] #[]) n) (a C n))))/\cond (m==1) (A (.func (.func 189) #[.agg #[.slice e f g,.slice h i j,.slice k l r,.slice s t u,iv v,.slice x y z]] #[]) d) (cond (m==2) (∃ a b e f g h i j k l n o p q r s,af d (qd c 0) 0 [.slice a b e,.slice f g h,.slice i j k,.slice l n o,iv p,.slice q r s]/\A (.func (.func 190) #[.agg #[.slice a b e,.slice f g h,.slice i j k,.slice l n o,iv p,.slice q r s]] #[]) d) (cond (m==3) (∃ a b e f g h i j k l m n o p q r,af d (qd c 0) 0 [.slice a b e,.slice f g h,.slice i j k,.slice l m n,iv o,.slice p q r]/\A (.func (.func 191) #[.agg #[.slice a b e,.slice f g h,.slice i j k,.slice l m n,iv o,.slice p q r]] #[]) d) (K (iv 4) d)))
theorem tC{a1 l1 c1 a2 l2 c2 a3 l3 c3 a4 l4 c4 n1 n2 a5 l5 c5 u1 u2 w K}(h:om a1 l1 c1 a2 l2 c2 a3 l3 c3 a4 l4 c4 n1 n2 a5 l5 c5 u1 u2 w K):CP 166 #[.agg #[.slice a1 l1 c1,.slice a2 l2 c2,.slice a3 l3 c3,.slice a4 l4 c4],iv n1,iv n2,.slice a5 l5 c5,.agg (u1.on (u2.vs):List Value).toArray] w K:=ah (aE [(15,[(12,.s (.raw))]),(127,[(12,.s (.raw))])]) func166 (by kernel_rfl) (by kernel_rfl) h
def oK(a:Int)(b:I6)(c:OA)(d e:Nat)(f:OA)(g h:Nat)(w:World)(K:KP):=av w (.cells b.vs.toArray 39) λ b i=>∃ j:I6,af i (qd b 0) 0 j.vs/\CC 194 #[iv a,.agg j.vs.toArray,.slice c d e,.slice f g h] i λ h i=>∃ j,h=.returned (iv j)/\cond (j !=0) (K (.tuple #[qn,iv j]) i) (CC 195 #[.slice c d e] i λ c d=>∃ e h i,c=.returned (.slice e h i)/\∃ c:Int->qN,(∃ j,c 0 d j)/\∀ d j k,c k d j->∀ l:qv,cond (decide (k<(g:Int))) (∃ l:qW,(∀ m,l m->∀ n:qv,∃ n,n<j/\c (IntKind.i64.wrap (k+1)) m n)/\au f λ c=>0<=k/\k<(g:Int)/\∃ f:I6,af d (Addr.add c ((k).toNat*6)) 0 f.vs/\av d (.cells z6.vs.toArray 39) λ c g=>aK (qd c 0) 0 f.vs g λ f=>CC 196 #[.slice e h i] f λ f g=>∃ j:I6,f=.returned (.agg j.vs.toArray)/\av g (.cells z6.vs.toArray 39) λ f g=>aK (qd f 0) 0 j.vs g λ g=>∃ j:qW,(∀ m,j m->∀ n:qv,∃ n:I6,af m (qd c 0) 0 n.vs/\au e λ o=>0<=k/\k<(h:Int)/\aK (Addr.add o ((k).toNat*6)) 0 n.vs m λ m=>l m)/\cond (a==2) (∃ m:I6,af g.drew (qd b 0) 0 m.vs/\∃ n:I6,af g.drew (qd f 0) 0 n.vs/\au e λ o=>0<=k/\k<(h:Int)/\∃ p:I6,af g.drew (Addr.add o ((k).toNat*6)) 0 p.vs/\∃ o:I6,af g.drew (qd c 0) 0 o.vs/\CC 197 #[.agg m.vs.toArray,.agg n.vs.toArray,.agg p.vs.toArray,.agg o.vs.toArray] g.drew λ m n=>∃ o,m=.returned (.bool o)/\cond o (l n) (j n)) (cond (a==3) (∃ a:I6,af g.drew (qd b 0) 0 a.vs/\∃ b:I6,af g.drew (qd f 0) 0 b.vs/\au e λ f=>0<=k/\k<(h:Int)/\∃ l:I6,af g.drew (Addr.add f ((k).toNat*6)) 0 l.vs/\∃ f:I6,af g.drew (qd c 0) 0 f.vs/\CC 198 #[.agg a.vs.toArray,.agg b.vs.toArray,.agg l.vs.toArray,.agg f.vs.toArray] g.drew λ a b=>∃ f:I6,a=.returned (.agg f.vs.toArray)/\aK (qd c 0) 0 f.vs b λ a=>j a) (j g))) (K (.tuple #[.slice e h i,qz]) d))
theorem uf{n1 u1 a1 l1 c1 a2 l2 c2 w K}(h:oK n1 u1 a1 l1 c1 a2 l2 c2 w K):CP 167 #[iv n1,.agg u1.vs.toArray,.slice a1 l1 c1,.slice a2 l2 c2] w K:=ah (aE [(122,[(27,.s (.int .i64))]),(979,[]),(15667,[])]) func167 (by kernel_rfl) (by kernel_rfl) h
def oz(a b c d:Int)(e f:I6)(w:World)(K:KP):=av w (.cells #[iv a,iv b,iv c,iv d] 23) λ a b=>av b (.cells e.vs.toArray 37) λ b c=>av c (.cells f.vs.toArray 39) λ c d=>av d (.cells z6.vs.toArray 37) λ d e=>∃ f g h i,af e (qd a 0) 0 [iv f,iv g,iv h,iv i]/\CC 134 #[.agg #[iv f,iv g,iv h,iv i]] e λ e f=>∃ g,e=.returned (iv g)/\cond (g !=0) (aK (qd d 0) 0 z6.vs f λ e=>∃ h:I6,af e (qd d 0) 0 h.vs/\K (.tuple #[.agg h.vs.toArray,iv g]) e) (∃ e:Value->Nat->qW,(∀ g,∀ h:Value,∀ i,e h i g->∀ j:qv,∃ j:I6,af g (qd c 0) 0 j.vs/\∃ c:Int->qN,(∃ k,c 0 g k)/\∀ g k l,c l g k->∀ m:qv,cond (decide (l<6)) (∃ m:qW,(∀ n,m n->∀ o:qv,∃ o,o<k/\c (IntKind.i64.wrap (l+1)) n o)/\0<=l/\l<6/\∃ c,(j.vs.toArray:Array Value)[(l).toNat*1]?=some (iv c)/\∃ j:Bool->qW,(∀ k n,j n k->∀ o:qv,cond n (0<=l/\l<6/\∃ n,k.cell? (Addr.add (qd b 0) ((l).toNat*1))=some (iv n)/\cO prog h #[iv n] k λ h n=>∃ o,h=.returned (iv o)/\0<=l/\l<6/\aQ n (Addr.add (qd i 0) ((l).toNat*1)) (iv o) λ h=>m h) (m k))/\cond (decide (c>0)) (∃ c:I6,af g (qd b 0) 0 c.vs/\CC 200 #[.agg c.vs.toArray] g λ c h=>∃ k,c=.returned (.bool k)/\j k h) (j false g)) (∃ c:Bool->qW,(∀ h j,c j h->∀ k:qv,cond j (aK (qd d 0) 0 z6.vs h λ j=>∃ k:I6,af j (qd d 0) 0 k.vs/\K (.tuple #[.agg k.vs.toArray,iv 4]) j) (∃ j:I6,af h (qd i 0) 0 j.vs/\aK (qd d 0) 0 j.vs h λ h=>∃ j:I6,af h (qd d 0) 0 j.vs/\K (.tuple #[.agg j.vs.toArray,qz]) h))/\∃ d:I6,af g (qd b 0) 0 d.vs/\CC 200 #[.agg d.vs.toArray] g λ d g=>∃ h,d=.returned (.bool h)/\cond (!h) (c true g) (∃ d:I6,af g (qd i 0) 0 d.vs/\∃ h:I6,af g (qd b 0) 0 h.vs/\cond (!(I6.beq d h)) (∃ d:I6,af g (qd i 0) 0 d.vs/\CC 200 #[.agg d.vs.toArray] g λ d h=>∃ i,d=.returned (.bool i)/\c (!i) h) (c false g))))/\∃ c d g h,af f.drew (qd a 0) 0 [iv c,iv d,iv g,iv h]/\∃ i:I6,af f.drew (qd b 0) 0 i.vs/\(CC 199 #[.agg #[iv c,iv d,iv g,iv h]] f.drew λ j k=>∃ l:Value,j=.returned l/\af k (qd b 0) 0 i.vs/\av k (.cells z6.vs.toArray 37) λ j k=>af k (qd b 0) 0 i.vs/\aK (qd j 0) 0 i.vs k λ k=>e l j k)/\av f.drew (.cells z6.vs.toArray 37) λ f j=>af j (qd b 0) 0 i.vs/\af j (qd a 0) 0 [iv c,iv d,iv g,iv h]/\CC 199 #[.agg #[iv c,iv d,iv g,iv h]] j λ a c=>∃ d:Value,a=.returned d/\af c (qd b 0) 0 i.vs/\aK (qd f 0) 0 i.vs c λ a=>e d f a)
theorem tO{n1 n2 n3 n4 u1 u2 w K}(h:oz n1 n2 n3 n4 u1 u2 w K):CP 169 #[.agg #[iv n1,iv n2,iv n3,iv n4],.agg u1.vs.toArray,.agg u2.vs.toArray] w K:=ah (aE [(7,[(9,.s (.raw)),(10,.s (.blk))]),(122,[(23,.s (.int .i64))]),(979,[]),(7833,[(32,.s .bool)]),(62,[(53,.s .bool)])]) func169 (by kernel_rfl) (by kernel_rfl) h
def uu(a:OA)(b c:Nat)(d:OA)(e f:Nat)(g:OA)(h i:Nat)(j:OA)(k l:Nat)(m:Int)(w:World)(K:KP):=av w (.cells #[.slice a b c,.slice d e f,.slice g h i,.slice j k l] 34) λ a b=>cond (decide (m>=0)) (∃ c d e,b.cell? (qd a 1)=some (.slice c d e)/\K (.bool (decide (m<(d:Int)))) b) (K (.bool false) b)
theorem yL{a1 l1 c1 a2 l2 c2 a3 l3 c3 a4 l4 c4 n1 w K}(h:uu a1 l1 c1 a2 l2 c2 a3 l3 c3 a4 l4 c4 n1 w K):CP 187 #[.agg #[.slice a1 l1 c1,.slice a2 l2 c2,.slice a3 l3 c3,.slice a4 l4 c4],iv n1] w K:=ah (aE []) func187 (by kernel_rfl) (by kernel_rfl) h
def gL(a:OA)(b c:Nat)(d:OA)(e f:Nat)(g:OA)(h i:Nat)(j:OA)(k l:Nat)(m:Int)(n:OA)(o p:Nat)(q r:I6)(w:World)(K:KP):=av w (.cells #[.slice a b c,.slice d e f,.slice g h i,.slice j k l,iv m,.slice n o p] 252) λ a b=>av b (.cells (q.on (r.vs):List Value).toArray 78) λ b c=>∃ d e f g h i j k l m n o p q r s,af c.drew (qd a 0) 0 [.slice d e f,.slice g h i,.slice j k l,.slice m n o,iv p,.slice q r s]/\∃ t u:I6,af c.drew (qd b 0) 0 (t.on (u.vs))/\∃ b v x y z A B C D E F G,af c.drew (qd a 0) 0 [.slice b v x,.slice y z A,.slice B C D,.slice E F G]/\∃ H,c.drew.cell? (qd a 4)=some (iv H)/\∃ I J L,c.drew.cell? (qd a 5)=some (.slice I J L)/\CC 220 #[.agg #[.slice d e f,.slice g h i,.slice j k l,.slice m n o,iv p,.slice q r s],.agg (t.on (u.vs):List Value).toArray] c.drew λ c d=>∃ e,c=.returned (iv e)/\d.cell? (qd a 5)=some (.slice I J L)/\d.cell? (qd a 4)=some (iv H)/\af d (qd a 0) 0 [.slice b v x,.slice y z A,.slice B C D,.slice E F G]/\CC 221 #[.agg #[.slice b v x,.slice y z A,.slice B C D,.slice E F G],iv H,.slice I J L] d λ a b=>∃ c,a=.returned (iv c)/\K (.bool (decide (e<=c))) b
theorem lM{a1 l1 c1 a2 l2 c2 a3 l3 c3 a4 l4 c4 n1 a5 l5 c5 u1 u2 w K}(h:gL a1 l1 c1 a2 l2 c2 a3 l3 c3 a4 l4 c4 n1 a5 l5 c5 u1 u2 w K):CP 189 #[.agg #[.slice a1 l1 c1,.slice a2 l2 c2,.slice a3 l3 c3,.slice a4 l4 c4,iv n1,.slice a5 l5 c5],.agg (u1.on (u2.vs):List Value).toArray] w K:=ah (aE []) func189 (by kernel_rfl) (by kernel_rfl) h
def fH(a:OA)(b c:Nat)(d:OA)(e f:Nat)(g:OA)(h i:Nat)(j:OA)(k l:Nat)(m:Int)(n:OA)(o p:Nat)(q r:I6)(w:World)(K:KP):=av w (.cells #[.slice a b c,.slice d e f,.slice g h i,.slice j k l,iv m,.slice n o p] 252) λ a b=>av b (.cells (q.on (r.vs):List Value).toArray 78) λ b c=>∃ d:Bool->qW,(∀ e f,d f e->∀ g:qv,K (.bool f) e)/\∃ e f g,c.drew.cell? (qd a 5)=some (.slice e f g)/\∃ h i j,c.drew.cell? (qd a 5)=some (.slice h i j)/\∃ k l m,c.drew.cell? (qd a 5)=some (.slice k l m)/\0<=(l:Int)/\(l:Int)<=(g:Int)/\0<=(i:Int)/\(i:Int)<=((((l:Int)).toNat:Nat):Int)/\∃ n o:I6,af c.drew (qd b 0) 0 (n.on (o.vs))/\(av c.drew (.cells (n.on (o.vs):List Value).toArray 78) λ p q=>q.cell? (qd a 5)=some (.slice k l m)/\q.cell? (qd a 5)=some (.slice h i j)/\q.cell? (qd a 5)=some (.slice e f g)/\(bp prog (Builtin.append_ #[40,40] 40 #[.slice (if ((l:Int)).toNat=0 then e else Option.map (λ x=>Addr.add x (0*12)) e) (((i:Int)).toNat-0) (((l:Int)).toNat-0),.slice (some (qd p 0)) 1 1]) q λ r s=>∃ t u v,r=(.slice t u v)/\(CC 222 #[.slice t u v] s λ r y=>∃ z A B C D E F,r=.returned (.tuple #[.agg #[.slice z A B,.slice C D E],.bool F])/\av y (.cells #[qn,qn] 292) λ r y=>aK (qd r 0) 0 [.slice z A B,.slice C D E] y λ r=>d F r)/\av s (.cells #[qn,qn] 292) λ r s=>CC 222 #[.slice t u v] s λ s t=>∃ u v y z A B C,s=.returned (.tuple #[.agg #[.slice u v y,.slice z A B],.bool C])/\aK (qd r 0) 0 [.slice u v y,.slice z A B] t λ r=>d C r)/\av q (.cells #[qn,qn] 292) λ q r=>r.cell? (qd a 5)=some (.slice k l m)/\r.cell? (qd a 5)=some (.slice h i j)/\r.cell? (qd a 5)=some (.slice e f g)/\bp prog (Builtin.append_ #[40,40] 40 #[.slice (if ((l:Int)).toNat=0 then e else Option.map (λ x=>Addr.add x (0*12)) e) (((i:Int)).toNat-0) (((l:Int)).toNat-0),.slice (some (qd p 0)) 1 1]) r λ p r=>∃ s t u,p=(.slice s t u)/\CC 222 #[.slice s t u] r λ p r=>∃ s t u v y z A,p=.returned (.tuple #[.agg #[.slice s t u,.slice v y z],.bool A])/\aK (qd q 0) 0 [.slice s t u,.slice v y z] r λ p=>d A p)/\av c.drew (.cells #[qn,qn] 292) λ c p=>af p (qd b 0) 0 (n.on (o.vs))/\p.cell? (qd a 5)=some (.slice k l m)/\p.cell? (qd a 5)=some (.slice h i j)/\p.cell? (qd a 5)=some (.slice e f g)/\av p (.cells (n.on (o.vs):List Value).toArray 78) λ b n=>n.cell? (qd a 5)=some (.slice k l m)/\n.cell? (qd a 5)=some (.slice h i j)/\n.cell? (qd a 5)=some (.slice e f g)/\bp prog (Builtin.append_ #[40,40] 40 #[.slice (if ((l:Int)).toNat=0 then e else Option.map (λ x=>Addr.add x (0*12)) e) (((i:Int)).toNat-0) (((l:Int)).toNat-0),.slice (some (qd b 0)) 1 1]) n λ a b=>∃ e f g,a=(.slice e f g)/\CC 222 #[.slice e f g] b λ a b=>∃ e f g h i j k,a=.returned (.tuple #[.agg #[.slice e f g,.slice h i j],.bool k])/\aK (qd c 0) 0 [.slice e f g,.slice h i j] b λ a=>d k a
theorem jL{a1 l1 c1 a2 l2 c2 a3 l3 c3 a4 l4 c4 n1 a5 l5 c5 u1 u2 w K}(h:fH a1 l1 c1 a2 l2 c2 a3 l3 c3 a4 l4 c4 n1 a5 l5 c5 u1 u2 w K):CP 190 #[.agg #[.slice a1 l1 c1,.slice a2 l2 c2,.slice a3 l3 c3,.slice a4 l4 c4,iv n1,.slice a5 l5 c5],.agg (u1.on (u2.vs):List Value).toArray] w K:=ah (aE [(3,[(6,.s .bool)])]) func190 (by kernel_rfl) (by kernel_rfl) h
def fI(a:OA)(b c:Nat)(d:OA)(e f:Nat)(g:OA)(h i:Nat)(j:OA)(k l:Nat)(m:Int)(n:OA)(o p:Nat)(q r:I6)(w:World)(K:KP):=av w (.cells #[.slice a b c,.slice d e f,.slice g h i,.slice j k l,iv m,.slice n o p] 252) λ a b=>av b (.cells (q.on (r.vs):List Value).toArray 78) λ b c=>∃ d e f g h i j k l m n o p q r s,af c (qd a 0) 0 [.slice d e f,.slice g h i,.slice j k l,.slice m n o,iv p,.slice q r s]/\∃ t u:I6,af c (qd b 0) 0 (t.on (u.vs))/\CC 189 #[.agg #[.slice d e f,.slice g h i,.slice j k l,.slice m n o,iv p,.slice q r s],.agg (t.on (u.vs):List Value).toArray] c λ c d=>∃ e,c=.returned (.bool e)/\cond e (K (.bool true) d) (∃ c e f g h i j k l m n o p q r s,af d (qd a 0) 0 [.slice c e f,.slice g h i,.slice j k l,.slice m n o,iv p,.slice q r s]/\∃ a t:I6,af d (qd b 0) 0 (a.on (t.vs))/\CC 190 #[.agg #[.slice c e f,.slice g h i,.slice j k l,.slice m n o,iv p,.slice q r s],.agg (a.on (t.vs):List Value).toArray] d λ a b=>∃ c,a=.returned (.bool c)/\K (.bool c) b)
theorem jM{a1 l1 c1 a2 l2 c2 a3 l3 c3 a4 l4 c4 n1 a5 l5 c5 u1 u2 w K}(h:fI a1 l1 c1 a2 l2 c2 a3 l3 c3 a4 l4 c4 n1 a5 l5 c5 u1 u2 w K):CP 191 #[.agg #[.slice a1 l1 c1,.slice a2 l2 c2,.slice a3 l3 c3,.slice a4 l4 c4,iv n1,.slice a5 l5 c5],.agg (u1.on (u2.vs):List Value).toArray] w K:=ah (aE []) func191 (by kernel_rfl) (by kernel_rfl) h
def oo(a:OA)(b c:Nat)(w:World)(K:KP):=cond (decide ((b:Int)>(0:Int))) (au a λ a=>0<=(IntKind.i64.wrap ((b:Int)-(1:Int)))/\(IntKind.i64.wrap ((b:Int)-(1:Int)))<(b:Int)/\∃ c:I6,af w (Addr.add (Addr.add a (((IntKind.i64.wrap ((b:Int)-(1:Int)))).toNat*12)) 6) 0 c.vs/\K (.bool (I6.beq c z6)) w) (K (.bool false) w)
theorem tD{a1 l1 c1 w K}(h:oo a1 l1 c1 w K):CP 192 #[.slice a1 l1 c1] w K:=ah (aE []) func192 (by kernel_rfl) (by kernel_rfl) h
def kL(a b:I6)(w:World)(K:KP):=av w (.cells (a.on (b.vs):List Value).toArray 78) λ a b=>∃ c:I6,af b (qd a 6) 0 c.vs/\K (.bool (I6.beq c z6)) b
theorem pE{u1 u2 w K}(h:kL u1 u2 w K):CP 193 #[.agg (u1.on (u2.vs):List Value).toArray] w K:=ah (aE []) func193 (by kernel_rfl) (by kernel_rfl) h
def oL(a:Int)(b:I6)(c:OA)(d e:Nat)(f:OA)(g h:Nat)(w:World)(K:KP):=av w (.cells b.vs.toArray 39) λ b i=>∃ j:Bool->qW,(∀ k l,j l k->∀ m:qv,cond l (K (iv 4) k) (∃ l:Bool->qW,(∀ m n,l n m->∀ o:qv,cond n (K (iv 3) m) (∃ n:I6,af m (qd b 0) 0 n.vs/\CC 93 #[.agg n.vs.toArray] m λ b m=>∃ n,b=.returned (iv n)/\cond (n !=0) (K (iv 4) m) (∃ b:Int->qN,(∃ n,b 0 m n)/\∀ m n o,b o m n->∀ p:qv,cond (decide (o<2)) (0<=o/\o<2/\∃ p q r,(#[.slice c d e,.slice f g h]:Array Value)[(o).toNat*1]?=some (.slice p q r)/\∃ c:Int->qN,(∃ e,c 0 m e)/\∀ f e h,c h f e->∀ r:qv,cond (decide (h<(q:Int))) (au p λ p=>0<=h/\h<(q:Int)/\∃ q:I6,af f (Addr.add p ((h).toNat*6)) 0 q.vs/\av f (.cells z6.vs.toArray 39) λ p r=>aK (qd p 0) 0 q.vs r λ q=>∃ r:I6,af q (qd p 0) 0 r.vs/\CC 93 #[.agg r.vs.toArray] q λ p q=>∃ r,p=.returned (iv r)/\cond (r !=0) (K (iv 4) q) (∃ p,p<e/\c (IntKind.i64.wrap (h+1)) q p)) (∃ c,c<n/\b (IntKind.i64.wrap (o+1)) f c)) (K qz m))))/\cond ((d:Int) !=(g:Int)) (l true k) (l (decide ((d:Int)>(8:Int))) k)))/\cond (decide (a<1)) (j true i) (j (decide (a>3)) i)
theorem ug{n1 u1 a1 l1 c1 a2 l2 c2 w K}(h:oL n1 u1 a1 l1 c1 a2 l2 c2 w K):CP 194 #[iv n1,.agg u1.vs.toArray,.slice a1 l1 c1,.slice a2 l2 c2] w K:=ah (aE [(12,[(13,.s .bool)]),(51,[(20,.s .bool)]),(58,[(38,.s (.int .i64))]),(14950,[(43,.s (.int .i64))])]) func194 (by kernel_rfl) (by kernel_rfl) h
def Dh(a:OA)(b c:Nat)(w:World)(K:KP):=av w (.cells z6.vs.toArray 39) λ d e=>CC 69 #[.slice a b c] e λ a b=>∃ c:I6,a=.returned (.agg c.vs.toArray)/\aK (qd d 0) 0 c.vs b λ a=>∃ b:I6,af a (qd d 0) 0 b.vs/\K (.agg b.vs.toArray) a
theorem ES{a1 l1 c1 w K}(h:Dh a1 l1 c1 w K):CP 196 #[.slice a1 l1 c1] w K:=ah (aE []) func196 (by kernel_rfl) (by kernel_rfl) h
def lG(a b c d:I6)(w:World)(K:KP):=av w (.cells a.vs.toArray 39) λ a e=>av e (.cells b.vs.toArray 39) λ b e=>av e (.cells c.vs.toArray 39) λ c e=>av e (.cells d.vs.toArray 39) λ d e=>∃ f:Int->qN,(∃ g,f 0 e g)/\∀ e g h,f h e g->∀ i:qv,cond (decide (h<6)) (∃ i:Bool->qW,(∀ j k,i k j->∀ l:qv,cond k (K (.bool true) j) (∃ k,k<g/\f (IntKind.i64.wrap (h+1)) j k))/\0<=h/\h<6/\∃ f,e.drew.cell? (Addr.add (qd d 0) ((h).toNat*1))=some (iv f)/\0<=h/\h<6/\∃ g,e.drew.cell? (Addr.add (qd c 0) ((h).toNat*1))=some (iv g)/\cond (decide (f<g)) (0<=h/\h<6/\∃ f,e.drew.cell? (Addr.add (qd b 0) ((h).toNat*1))=some (iv f)/\0<=h/\h<6/\∃ b,e.drew.cell? (Addr.add (qd c 0) ((h).toNat*1))=some (iv b)/\0<=h/\h<6/\∃ c,e.drew.cell? (Addr.add (qd d 0) ((h).toNat*1))=some (iv c)/\0<=h/\h<6/\∃ d,e.drew.cell? (Addr.add (qd a 0) ((h).toNat*1))=some (iv d)/\i (decide ((IntKind.i64.wrap ((IntKind.i64.wrap (f-b))+c))<d)) e.drew) (i false e.drew)) (K (.bool false) e)
theorem qQ{u1 u2 u3 u4 w K}(h:lG u1 u2 u3 u4 w K):CP 197 #[.agg u1.vs.toArray,.agg u2.vs.toArray,.agg u3.vs.toArray,.agg u4.vs.toArray] w K:=ah (aE [(26,[(10,.s (.int .i64))]),(1689,[(36,.s .bool)])]) func197 (by kernel_rfl) (by kernel_rfl) h
def mY(a b c d:I6)(w:World)(K:KP):=av w (.cells a.vs.toArray 39) λ a e=>av e (.cells b.vs.toArray 39) λ b e=>av e (.cells c.vs.toArray 39) λ c e=>av e (.cells d.vs.toArray 39) λ d e=>av e (.cells z6.vs.toArray 39) λ e f=>∃ g:Int->qN,(∃ h,g 0 f h)/\∀ f h i,g i f h->∀ j:qv,cond (decide (i<6)) (∃ j:qW,(∀ k,j k->∀ l:qv,∃ l,l<h/\g (IntKind.i64.wrap (i+1)) k l)/\0<=i/\i<6/\∃ g,f.drew.cell? (Addr.add (qd d 0) ((i).toNat*1))=some (iv g)/\0<=i/\i<6/\∃ h,f.drew.cell? (Addr.add (qd c 0) ((i).toNat*1))=some (iv h)/\cond (decide (g<h)) (0<=i/\i<6/\∃ g,f.drew.drew.cell? (Addr.add (qd c 0) ((i).toNat*1))=some (iv g)/\0<=i/\i<6/\∃ h,f.drew.drew.cell? (Addr.add (qd c 0) ((i).toNat*1))=some (iv h)/\0<=i/\i<6/\∃ c,f.drew.drew.cell? (Addr.add (qd d 0) ((i).toNat*1))=some (iv c)/\0<=i/\i<6/\∃ k,f.drew.drew.cell? (Addr.add (qd b 0) ((i).toNat*1))=some (iv k)/\0<=i/\i<6/\∃ b,f.drew.drew.cell? (Addr.add (qd a 0) ((i).toNat*1))=some (iv b)/\0<=i/\i<6/\aQ f.drew.drew (Addr.add (qd d 0) ((i).toNat*1)) (iv (IntKind.i64.wrap (g-(if (if (0:Int)>(IntKind.i64.wrap (k-b)) then (0:Int) else (IntKind.i64.wrap (k-b)))<(IntKind.i64.wrap (h-c)) then (if (0:Int)>(IntKind.i64.wrap (k-b)) then (0:Int) else (IntKind.i64.wrap (k-b))) else (IntKind.i64.wrap (h-c)))))) λ a=>j a) (j f.drew)) (∃ a:I6,af f (qd d 0) 0 a.vs/\aK (qd e 0) 0 a.vs f λ a=>∃ b:I6,af a (qd e 0) 0 b.vs/\K (.agg b.vs.toArray) a)
theorem sN{u1 u2 u3 u4 w K}(h:mY u1 u2 u3 u4 w K):CP 198 #[.agg u1.vs.toArray,.agg u2.vs.toArray,.agg u3.vs.toArray,.agg u4.vs.toArray] w K:=ah (aE [(26,[(10,.s (.int .i64))]),(211,[])]) func198 (by kernel_rfl) (by kernel_rfl) h
def uK(a b c d:Int)(w:World)(K:KP):=av w (.cells #[iv a,iv b,iv c,iv d] 23) λ a b=>K (.func (.func 223) #[] #[qp a]) b
theorem iH{n1 n2 n3 n4 w K}(h:uK n1 n2 n3 n4 w K):CP 199 #[.agg #[iv n1,iv n2,iv n3,iv n4]] w K:=ah (aE []) func199 (by kernel_rfl) (by kernel_rfl) h
def mz(a:I6)(w:World)(K:KP):=av w (.cells a.vs.toArray 37) λ a b=>∃ c:I6,af b (qd a 0) 0 c.vs/\∃ a:Int->qN,(∃ d,a 0 b d)/\∀ b d e,a e b d->∀ f:qv,cond (decide (e<6)) (0<=e/\e<6/\∃ f,(c.vs.toArray:Array Value)[(e).toNat*1]?=some (iv f)/\CC 224 #[iv f] b λ c f=>∃ g,c=.returned (iv g)/\cond (g !=0) (K (.bool false) f) (∃ c,c<d/\a (IntKind.i64.wrap (e+1)) f c)) (K (.bool true) b)
theorem sx{u1 w K}(h:mz u1 w K):CP 200 #[.agg u1.vs.toArray] w K:=ah (aE [(26,[(6,.s (.int .i64))])]) func200 (by kernel_rfl) (by kernel_rfl) h
def fJ(a:OA)(b c:Nat)(d:OA)(e f:Nat)(g:OA)(h i:Nat)(j:OA)(k l:Nat)(m:Int)(n:OA)(o p:Nat)(q r:I6)(w:World)(K:KP):=av w (.cells #[.slice a b c,.slice d e f,.slice g h i,.slice j k l,iv m,.slice n o p] 252) λ a b=>av b (.cells (q.on (r.vs):List Value).toArray 78) λ b c=>∃ d e f,c.cell? (qd a 0)=some (.slice d e f)/\∃ a:I6,af c (qd b 6) 0 a.vs/\CC 258 #[.slice d e f,.agg a.vs.toArray] c λ a b=>∃ c,a=.returned (iv c)/\K (iv c) b
theorem jN{a1 l1 c1 a2 l2 c2 a3 l3 c3 a4 l4 c4 n1 a5 l5 c5 u1 u2 w K}(h:fJ a1 l1 c1 a2 l2 c2 a3 l3 c3 a4 l4 c4 n1 a5 l5 c5 u1 u2 w K):CP 220 #[.agg #[.slice a1 l1 c1,.slice a2 l2 c2,.slice a3 l3 c3,.slice a4 l4 c4,iv n1,.slice a5 l5 c5],.agg (u1.on (u2.vs):List Value).toArray] w K:=ah (aE []) func220 (by kernel_rfl) (by kernel_rfl) h
def iA(a:OA)(b c:Nat)(d:OA)(e f:Nat)(g:OA)(h i:Nat)(j:OA)(k l:Nat)(m:Int)(n:OA)(o p:Nat)(w:World)(K:KP):=av w (.cells #[.slice a b c,.slice d e f,.slice g h i,.slice j k l] 34) λ a b=>∃ c d e f g h i j k l q r,af b (qd a 0) 0 [.slice c d e,.slice f g h,.slice i j k,.slice l q r]/\CC 187 #[.agg #[.slice c d e,.slice f g h,.slice i j k,.slice l q r],iv m] b λ b c=>∃ d,b=.returned (.bool d)/\cond (!d) (K qz c) (∃ b d e f g h i j k l q r,af c.drew (qd a 0) 0 [.slice b d e,.slice f g h,.slice i j k,.slice l q r]/\∃ s t u,c.drew.cell? (qd a 1)=some (.slice s t u)/\au s λ a=>0<=m/\m<(t:Int)/\∃ s,c.drew.cell? (Addr.add (Addr.add a ((m).toNat*4)) 3)=some (iv s)/\∃ a:Int->Int->qN,(∃ t,a s 0 c.drew t)/\∀ c t s u,a s u c t->∀ v:qv,cond (decide (u<(o:Int))) (au n λ v=>0<=u/\u<(o:Int)/\∃ x y:I6,af c (Addr.add v ((u).toNat*12)) 0 (x.on (y.vs))/\av c (.cells #[qz,qz,qz,qz,qz,qz,qz,qz,qz,qz,qz,qz] 78) λ v z=>aK (qd v 0) 0 (x.on (y.vs)) z λ x=>∃ y z:I6,af x (qd v 0) 0 (y.on (z.vs))/\CC 220 #[.agg #[.slice b d e,.slice f g h,.slice i j k,.slice l q r,iv m,.slice n o p],.agg (y.on (z.vs):List Value).toArray] x λ b d=>∃ e,b=.returned (iv e)/\∃ b,b<t/\a (if e<s then e else s) (IntKind.i64.wrap (u+1)) d b) (K (iv s) c))
theorem lX{a1 l1 c1 a2 l2 c2 a3 l3 c3 a4 l4 c4 n1 a5 l5 c5 w K}(h:iA a1 l1 c1 a2 l2 c2 a3 l3 c3 a4 l4 c4 n1 a5 l5 c5 w K):CP 221 #[.agg #[.slice a1 l1 c1,.slice a2 l2 c2,.slice a3 l3 c3,.slice a4 l4 c4],iv n1,.slice a5 l5 c5] w K:=ah (aE [(122,[(8,.s (.int .i64)),(28,.s (.int .i64))])]) func221 (by kernel_rfl) (by kernel_rfl) h
def qB(a:OA)(b c:Nat)(w:World)(K:KP):=av w (.cells #[qn,qn] 292) λ d e=>CC 259 #[.slice a b c] e λ e f=>∃ g,e=.returned (.bool g)/\cond (!g) (aK (qd d 0) 0 [qn,qn] f λ e=>∃ g h i j k l,af e (qd d 0) 0 [.slice g h i,.slice j k l]/\K (.tuple #[.agg #[.slice g h i,.slice j k l],.bool false]) e) (CC 260 #[.slice a b c] f λ c e=>∃ f g h i j k,c=.returned (.tuple #[.slice f g h,.slice i j k])/\cond (!(i).isNone) (aK (qd d 0) 0 [.slice i j k,qn] e λ c=>∃ i j k l m n,af c (qd d 0) 0 [.slice i j k,.slice l m n]/\K (.tuple #[.agg #[.slice i j k,.slice l m n],.bool false]) c) (∃ c:Int->Int->qN,(∃ i,c 0 (0:Int) e i)/\∀ e i j k,c j k e i->∀ l:qv,cond (decide (k<(b:Int))) (au a λ l=>0<=k/\k<(b:Int)/\∃ m n:I6,af e (Addr.add l ((k).toNat*12)) 0 (m.on (n.vs))/\av e (.cells #[qz,qz,qz,qz,qz,qz,qz,qz,qz,qz,qz,qz] 78) λ l o=>aK (qd l 0) 0 (m.on (n.vs)) o λ m=>∃ n:I6,af m.drew (qd l 0) 0 n.vs/\∃ o:I6,af m.drew (qd l 6) 0 o.vs/\au f λ l=>0<=k/\k<(g:Int)/\∃ p,m.drew.cell? (Addr.add l ((k).toNat*1))=some (iv p)/\CC 188 #[.agg n.vs.toArray,.agg o.vs.toArray] m.drew λ m n=>∃ o,m=.returned (iv o)/\n.cell? (Addr.add l ((k).toNat*1))=some (iv p)/\∃ l,l<i/\c (if (IntKind.i64.wrap (o-p))>j then (IntKind.i64.wrap (o-p)) else j) (IntKind.i64.wrap (k+1)) n l) (∃ c:Int->Int->qN,(∃ i,c j 0 e i)/\∀ e i j k,c j k e i->∀ l:qv,cond (decide (k<(b:Int))) (∃ l:Int->qW,(∀ m n,l n m->∀ o:qv,∃ o,o<i/\c n (IntKind.i64.wrap (k+1)) m o)/\au a λ a=>0<=k/\k<(b:Int)/\∃ b c:I6,af e (Addr.add a ((k).toNat*12)) 0 (b.on (c.vs))/\av e (.cells #[qz,qz,qz,qz,qz,qz,qz,qz,qz,qz,qz,qz] 78) λ a i=>aK (qd a 0) 0 (b.on (c.vs)) i λ b=>∃ c:I6,af b (qd a 6) 0 c.vs/\cond (I6.beq c z6) (au f λ a=>0<=k/\k<(g:Int)/\∃ c,b.cell? (Addr.add a ((k).toNat*1))=some (iv c)/\l (IntKind.i64.wrap (0-c)) b) (l j b)) (∃ a:Int->qN,(∃ b,a 0 e b)/\∀ c b e,a e c b->∀ i:qv,cond (decide (e<(g:Int))) (au f λ i=>0<=e/\e<(g:Int)/\∃ k,c.cell? (Addr.add i ((e).toNat*1))=some (iv k)/\au f λ i=>0<=e/\e<(g:Int)/\aQ c (Addr.add i ((e).toNat*1)) (iv (IntKind.i64.wrap (k+j))) λ i=>∃ j,j<b/\a (IntKind.i64.wrap (e+1)) i j) (aK (qd d 0) 0 [qn,.slice f g h] c λ a=>∃ b c e f g h,af a (qd d 0) 0 [.slice b c e,.slice f g h]/\K (.tuple #[.agg #[.slice b c e,.slice f g h],.bool true]) a)))))
theorem vK{a1 l1 c1 w K}(h:qB a1 l1 c1 w K):CP 222 #[.slice a1 l1 c1] w K:=ah (aE [(506,[(6,.s (.int .i64)),(27,.s (.int .i64))]),(1018,[(6,.s (.int .i64)),(47,.s (.int .i64))]),(8147,[(6,.s (.int .i64))]),(2042,[(64,.s (.int .i64))])]) func222 (by kernel_rfl) (by kernel_rfl) h
def su(a:Int)(b:Nat)(w:World)(K:KP):=∃ c,w.cell? (qd b 0)=some (iv c)/\∃ d,w.cell? (qd b 1)=some (iv d)/\(100:Int)≠0/\K (iv (IntKind.i64.wrap ((IntKind.i64.wrap (a+c))+(IntKind.i64.wrap (Int.tdiv (IntKind.i64.wrap ((IntKind.i64.wrap (a*d))+(99:Int))) (100:Int)))))) w
theorem nw{n1 b1 w K}(h:su n1 b1 w K):CP 223 #[iv n1,.pointer (some ⟨b1,0,none⟩)] w K:=ah (aE []) func223 (by kernel_rfl) (by kernel_rfl) h
def ux(a:Int)(w:World)(K:KP):=CC 261 #[iv a] w λ a b=>∃ c,a=.returned (.bool c)/\cond (!c) (K (iv 4) b) (K qz b)
theorem yN{n1 w K}(h:ux n1 w K):CP 224 #[iv n1] w K:=ah (aE []) func224 (by kernel_rfl) (by kernel_rfl) h
def oG(a:OA)(b c:Nat)(d:OA)(e f:Nat)(g:OA)(h i:Nat)(w:World)(K:KP):=av w (.cells #[.slice d e f,.slice g h i] 292) λ d e=>CC 259 #[.slice a b c] e λ e f=>∃ g,e=.returned (.bool g)/\cond (!g) (K (iv 4) f) (∃ e g h i j k,af f (qd d 0) 0 [.slice e g h,.slice i j k]/\CC 276 #[.slice a b c,.agg #[.slice e g h,.slice i j k]] f λ e f=>∃ g,e=.returned (.bool g)/\cond (!g) (K (iv 2) f) (∃ e g h,f.cell? (qd d 0)=some (.slice e g h)/\cond ((g:Int)==(0:Int)) (∃ e g h,f.cell? (qd d 1)=some (.slice e g h)/\CC 277 #[.slice a b c,.slice e g h] f λ c e=>∃ g,c=.returned (.bool g)/\cond (!g) (K (iv 13) e) (K qz e)) (∃ c e g,f.cell? (qd d 0)=some (.slice c e g)/\∃ g:Int->Int->qN,(∃ h,g 0 (0:Int) f h)/\∀ f h i j,g i j f h->∀ k:qv,cond (decide (j<(e:Int))) (au c λ c=>0<=j/\j<(e:Int)/\∃ e,f.cell? (Addr.add c ((j).toNat*1))=some (iv e)/\au a λ c=>0<=e/\e<(b:Int)/\∃ k l:I6,af f.drew (Addr.add c ((e).toNat*12)) 0 (k.on (l.vs))/\∃ c e m,f.drew.cell? (qd d 0)=some (.slice c e m)/\∃ m n o,f.drew.cell? (qd d 0)=some (.slice m n o)/\(n:Int)≠0/\au c λ c=>0<=(Int.tmod (IntKind.i64.wrap (j+1)) (n:Int))/\(Int.tmod (IntKind.i64.wrap (j+1)) (n:Int))<(e:Int)/\∃ d,f.drew.cell? (Addr.add c (((Int.tmod (IntKind.i64.wrap (j+1)) (n:Int))).toNat*1))=some (iv d)/\au a λ a=>0<=d/\d<(b:Int)/\∃ b c:I6,af f.drew (Addr.add a ((d).toNat*12)) 0 (b.on (c.vs))/\CC 278 #[.agg (k.on (l.vs):List Value).toArray,.agg (b.on (c.vs):List Value).toArray] f.drew λ a b=>∃ c,a=.returned (iv c)/\∃ a,a<h/\g (IntKind.i64.wrap (i+c)) (IntKind.i64.wrap (j+1)) b a) (cond (decide (i>=0)) (K (iv 13) f) (K qz f)))))
theorem ua{a1 l1 c1 a2 l2 c2 a3 l3 c3 w K}(h:oG a1 l1 c1 a2 l2 c2 a3 l3 c3 w K):CP 248 #[.slice a1 l1 c1,.agg #[.slice a2 l2 c2,.slice a3 l3 c3]] w K:=ah (aE [(506,[(5,.s (.int .i64)),(27,.s (.int .i64))])]) func248 (by kernel_rfl) (by kernel_rfl) h
def lg(a:OA)(b c:Nat)(w:World)(K:KP):=∃ c:Int->qN,(∃ d,c 0 w d)/\∀ e d f,c f e d->∀ g:qv,cond (decide (f<(b:Int))) (au a λ a=>0<=f/\f<(b:Int)/\∃ b g:I6,af e (Addr.add a ((f).toNat*12)) 0 (b.on (g.vs))/\av e (.cells #[qz,qz,qz,qz,qz,qz,qz,qz,qz,qz,qz,qz] 78) λ a h=>aK (qd a 0) 0 (b.on (g.vs)) h λ b=>∃ g h:I6,af b (qd a 0) 0 (g.on (h.vs))/\CC 287 #[.agg (g.on (h.vs):List Value).toArray] b λ a b=>∃ g,a=.returned (.bool g)/\cond (!g) (K (.bool false) b) (∃ a,a<d/\c (IntKind.i64.wrap (f+1)) b a)) (K (.bool true) e)
theorem qC{a1 l1 c1 w K}(h:lg a1 l1 c1 w K):CP 259 #[.slice a1 l1 c1] w K:=ah (aE [(26,[(7,.s (.int .i64))])]) func259 (by kernel_rfl) (by kernel_rfl) h
def mM(a:OA)(b c:Nat)(w:World)(K:KP):=bp prog (Instr.makeSlice 271 (iv (b:Int)) (iv (b:Int))) w λ c d=>∃ e f g,c=(.slice e f g)/\bp prog (Instr.makeSlice 244 (iv (b:Int)) (iv (b:Int))) d λ c d=>∃ h i j,c=(.slice h i j)/\∃ c:Int->qN,(∃ k,c 0 d k)/\∀ d k l,c l d k->∀ m:qv,cond (decide (l<(i:Int))) (au h λ m=>0<=l/\l<(i:Int)/\aQ d (Addr.add m ((l).toNat*1)) (iv (-1)) λ m=>∃ n,n<k/\c (IntKind.i64.wrap (l+1)) m n) (∃ c:Int->qW,(∀ k l,c l k->∀ m:qv,cond (decide (l<0)) (K (.tuple #[.slice e f g,qn]) k) (CC 288 #[.slice h i j,iv l] k λ g j=>∃ k l m,g=.returned (.slice k l m)/\K (.tuple #[qn,.slice k l m]) j))/\∃ g:Int->Int->qN,(∃ j,g (-1:Int) (0:Int) d j)/\∀ d j k l,g k l d j->∀ m:qv,cond (decide (l<(b:Int))) (∃ m:Int->Int->qN,(∃ n,m (-1:Int) (0:Int) d n)/\∀ o n p q,m p q o n->∀ r:qv,cond (decide (q<(b:Int))) (∃ r:Int->Int->qN,(∃ s,r p 0 o s)/\∀ t s u v,r u v t s->∀ x:qv,cond (decide (v<(b:Int))) (∃ x:Int->qW,(∀ y z,x z y->∀ A:qv,∃ A,A<s/\r z (IntKind.i64.wrap (v+1)) y A)/\au e λ r=>0<=q/\q<(f:Int)/\∃ s,t.drew.cell? (Addr.add r ((q).toNat*1))=some (iv s)/\au a λ y=>0<=q/\q<(b:Int)/\∃ z A:I6,af t.drew (Addr.add y ((q).toNat*12)) 0 (z.on (A.vs))/\au a λ a=>0<=v/\v<(b:Int)/\∃ b y:I6,af t.drew (Addr.add a ((v).toNat*12)) 0 (b.on (y.vs))/\CC 278 #[.agg (z.on (A.vs):List Value).toArray,.agg (b.on (y.vs):List Value).toArray] t.drew λ a b=>∃ y,a=.returned (iv y)/\b.cell? (Addr.add r ((q).toNat*1))=some (iv s)/\au e λ a=>0<=v/\v<(f:Int)/\∃ r,b.cell? (Addr.add a ((v).toNat*1))=some (iv r)/\cond (decide ((IntKind.i64.wrap (s+y))<r)) (au e λ a=>0<=v/\v<(f:Int)/\aQ b (Addr.add a ((v).toNat*1)) (iv (IntKind.i64.wrap (s+y))) λ a=>au h λ e=>0<=v/\v<(i:Int)/\aQ a (Addr.add e ((v).toNat*1)) (iv q) λ a=>x v a) (x u b)) (∃ a,a<n/\m u (IntKind.i64.wrap (q+1)) t a)) (cond (decide (p<0)) (c p o) (∃ a,a<j/\g p (IntKind.i64.wrap (l+1)) o a))) (c k d))
theorem sG{a1 l1 c1 w K}(h:mM a1 l1 c1 w K):CP 260 #[.slice a1 l1 c1] w K:=ah (aE [(218,[(19,.s (.int .i64))]),(223,[(7,.s (.int .i64))]),(1786,[(7,.s (.int .i64)),(28,.s (.int .i64))]),(914634,[(7,.s (.int .i64)),(32,.s (.int .i64))]),(234146406,[(7,.s (.int .i64)),(37,.s (.int .i64))]),(1873171251,[(7,.s (.int .i64))])]) func260 (by kernel_rfl) (by kernel_rfl) h
def Cl(a:Int)(w:World)(K:KP):=cond (decide (a>=0)) (K (.bool (decide (a<=1000000))) w) (K (.bool false) w)
theorem Dx{n1 w K}(h:Cl n1 w K):CP 261 #[iv n1] w K:=ah (aE []) func261 (by kernel_rfl) (by kernel_rfl) h
def oH(a:OA)(b c:Nat)(d:OA)(e f:Nat)(g:OA)(h i:Nat)(w:World)(K:KP):=av w (.cells #[.slice d e f,.slice g h i] 292) λ a c=>∃ d:Bool->qW,(∀ e f,d f e->∀ g:qv,cond f (K (.bool false) e) (∃ f g h,e.cell? (qd a 0)=some (.slice f g h)/\∃ h:Int->qN,(∃ i,h 0 e i)/\∀ e i j,h j e i->∀ k:qv,cond (decide (j<(g:Int))) (au f λ f=>0<=j/\j<(g:Int)/\∃ g,e.cell? (Addr.add f ((j).toNat*1))=some (iv g)/\∃ f:Bool->qW,(∀ k l,f l k->∀ m:qv,cond l (K (.bool false) k) (∃ l,l<i/\h (IntKind.i64.wrap (j+1)) k l))/\cond (decide (g<0)) (f true e) (f (decide (g>=(b:Int))) e)) (∃ b f g,e.cell? (qd a 1)=some (.slice b f g)/\∃ g:Int->qN,(∃ h,g 0 e h)/\∀ e h i,g i e h->∀ j:qv,cond (decide (i<(f:Int))) (au b λ b=>0<=i/\i<(f:Int)/\∃ f,e.cell? (Addr.add b ((i).toNat*1))=some (iv f)/\∃ b:Bool->qW,(∀ j k,b k j->∀ l:qv,cond k (K (.bool false) j) (∃ k,k<h/\g (IntKind.i64.wrap (i+1)) j k))/\cond (decide (f<(-1099511627776:Int))) (b true e) (b (decide (f>1099511627776)) e)) (K (.bool true) e))))/\∃ b e f,c.cell? (qd a 0)=some (.slice b e f)/\cond (decide ((e:Int)>(0:Int))) (∃ b e f,c.cell? (qd a 1)=some (.slice b e f)/\cond (decide ((e:Int)>(0:Int))) (d true c) (∃ b e f,c.cell? (qd a 0)=some (.slice b e f)/\d (decide ((e:Int)>(1000:Int))) c)) (∃ b e f,c.cell? (qd a 0)=some (.slice b e f)/\d (decide ((e:Int)>(1000:Int))) c)
theorem uc{a1 l1 c1 a2 l2 c2 a3 l3 c3 w K}(h:oH a1 l1 c1 a2 l2 c2 a3 l3 c3 w K):CP 276 #[.slice a1 l1 c1,.agg #[.slice a2 l2 c2,.slice a3 l3 c3]] w K:=ah (aE [(6,[(24,.s .bool)]),(58,[(28,.s (.int .i64))]),(3737,[(39,.s .bool)]),(122,[(44,.s (.int .i64))]),(7833,[(53,.s .bool)])]) func276 (by kernel_rfl) (by kernel_rfl) h
def lq(a:OA)(b c:Nat)(d:OA)(e f:Nat)(w:World)(K:KP):=cond ((e:Int) !=(b:Int)) (K (.bool false) w) (∃ c:Int->qN,(∃ f,c 0 w f)/\∀ g f h,c h g f->∀ i:qv,cond (decide (h<(b:Int))) (au a λ i=>0<=h/\h<(b:Int)/\∃ j k:I6,af g (Addr.add i ((h).toNat*12)) 0 (j.on (k.vs))/\av g (.cells #[qz,qz,qz,qz,qz,qz,qz,qz,qz,qz,qz,qz] 78) λ i l=>aK (qd i 0) 0 (j.on (k.vs)) l λ j=>∃ k:Bool->qW,(∀ l m,k m l->∀ n:qv,cond m (K (.bool false) l) (∃ m:Int->qN,(∃ n,m 0 l n)/\∀ l n o,m o l n->∀ p:qv,cond (decide (o<(b:Int))) (au a λ a=>0<=o/\o<(b:Int)/\∃ b p:I6,af l (Addr.add a ((o).toNat*12)) 0 (b.on (p.vs))/\av l (.cells #[qz,qz,qz,qz,qz,qz,qz,qz,qz,qz,qz,qz] 78) λ a q=>aK (qd a 0) 0 (b.on (p.vs)) q λ b=>au d λ p=>0<=o/\o<(e:Int)/\∃ q,b.drew.cell? (Addr.add p ((o).toNat*1))=some (iv q)/\au d λ r=>0<=h/\h<(e:Int)/\∃ s,b.drew.cell? (Addr.add r ((h).toNat*1))=some (iv s)/\∃ t u:I6,af b.drew (qd i 0) 0 (t.on (u.vs))/\∃ v x:I6,af b.drew (qd a 0) 0 (v.on (x.vs))/\CC 278 #[.agg (t.on (u.vs):List Value).toArray,.agg (v.on (x.vs):List Value).toArray] b.drew λ a b=>∃ t,a=.returned (iv t)/\b.cell? (Addr.add r ((h).toNat*1))=some (iv s)/\b.cell? (Addr.add p ((o).toNat*1))=some (iv q)/\cond (decide ((IntKind.i64.wrap (q-s))>t)) (K (.bool false) b) (∃ a,a<n/\m (IntKind.i64.wrap (o+1)) b a)) (∃ a,a<f/\c (IntKind.i64.wrap (h+1)) l a)))/\au d λ a=>0<=h/\h<(e:Int)/\∃ b,j.drew.cell? (Addr.add a ((h).toNat*1))=some (iv b)/\∃ c:I6,af j.drew (qd i 0) 0 c.vs/\∃ f:I6,af j.drew (qd i 6) 0 f.vs/\CC 188 #[.agg c.vs.toArray,.agg f.vs.toArray] j.drew λ c f=>∃ j,c=.returned (iv j)/\f.cell? (Addr.add a ((h).toNat*1))=some (iv b)/\cond (decide (b<j)) (k true f) (∃ a:I6,af f (qd i 6) 0 a.vs/\cond (I6.beq a z6) (au d λ a=>0<=h/\h<(e:Int)/\∃ b,f.cell? (Addr.add a ((h).toNat*1))=some (iv b)/\k (b !=0) f) (k false f))) (K (.bool true) g))
theorem qE{a1 l1 c1 a2 l2 c2 w K}(h:lq a1 l1 c1 a2 l2 c2 w K):CP 277 #[.slice a1 l1 c1,.slice a2 l2 c2] w K:=ah (aE [(58,[(16,.s (.int .i64))]),(7474,[(43,.s .bool)]),(29902,[(46,.s (.int .i64))])]) func277 (by kernel_rfl) (by kernel_rfl) h
def tn(a b c d:I6)(w:World)(K:KP):=av w (.cells (a.on (b.vs):List Value).toArray 78) λ a b=>av b (.cells (c.on (d.vs):List Value).toArray 78) λ b c=>∃ d:I6,af c.drew (qd a 0) 0 d.vs/\∃ e:I6,af c.drew (qd b 6) 0 e.vs/\∃ b:I6,af c.drew (qd a 0) 0 b.vs/\∃ f:I6,af c.drew (qd a 6) 0 f.vs/\CC 188 #[.agg d.vs.toArray,.agg e.vs.toArray] c.drew λ c d=>∃ e,c=.returned (iv e)/\af d (qd a 6) 0 f.vs/\af d (qd a 0) 0 b.vs/\CC 188 #[.agg b.vs.toArray,.agg f.vs.toArray] d λ a b=>∃ c,a=.returned (iv c)/\K (iv (IntKind.i64.wrap (e-c))) b
theorem xz{u1 u2 u3 u4 w K}(h:tn u1 u2 u3 u4 w K):CP 278 #[.agg (u1.on (u2.vs):List Value).toArray,.agg (u3.on (u4.vs):List Value).toArray] w K:=ah (aE []) func278 (by kernel_rfl) (by kernel_rfl) h
def qF(a b:I6)(w:World)(K:KP):=av w (.cells (a.on (b.vs):List Value).toArray 78) λ a b=>∃ c:I6,af b (qd a 0) 0 c.vs/\∃ d:Int->qN,(∃ e,d 0 b e)/\∀ b e f,d f b e->∀ g:qv,cond (decide (f<6)) (0<=f/\f<6/\∃ g,(c.vs.toArray:Array Value)[(f).toNat*1]?=some (iv g)/\∃ c:Bool->qW,(∀ h i,c i h->∀ j:qv,cond i (K (.bool false) h) (∃ i,i<e/\d (IntKind.i64.wrap (f+1)) h i))/\cond (decide (g<0)) (c true b) (c (decide (g>1000000)) b)) (∃ c:I6,af b (qd a 6) 0 c.vs/\CC 93 #[.agg c.vs.toArray] b λ a b=>∃ c,a=.returned (iv c)/\K (.bool (c==0)) b)
theorem vM{u1 u2 w K}(h:qF u1 u2 w K):CP 287 #[.agg (u1.on (u2.vs):List Value).toArray] w K:=ah (aE [(26,[(7,.s (.int .i64))]),(1689,[(15,.s .bool)])]) func287 (by kernel_rfl) (by kernel_rfl) h
def qD(a:OA)(b c:Nat)(d:Int)(w:World)(K:KP):=bp prog (Instr.makeMap 360 none) w λ c e=>∃ f:Option Nat,c=(.map f)/\∃ c:Int->qN,(∃ g,c d e g)/\∀ d g e,c e d g->∀ h:qv,bp prog (Instr.lookup 360 (.map f) (iv e) false) d λ d h=>∃ i,d=(.bool i)/\cond (!i) (bp prog (Instr.mapUpdate 360 (.map f) (iv e) (.bool true)) h λ _e1 d=>au a λ i=>0<=e/\e<(b:Int)/\∃ j,d.cell? (Addr.add i ((e).toNat*1))=some (iv j)/\∃ i,i<g/\c j d i) (bp prog (Builtin.clear_ #[360] 0 #[.map f]) h λ _e2 c=>∃ d:Int->OA->Nat->Nat->qN,(∃ g,d e none 0 0 c g)/\∀ c g e h i j,d e h i j c g->∀ k:qv,bp prog (Instr.lookup 360 (.map f) (iv e) false) c λ c k=>∃ l,c=(.bool l)/\cond (!l) (bp prog (Instr.mapUpdate 360 (.map f) (iv e) (.bool true)) k λ _e3 c=>av c (.cells #[iv e] 3) λ c f=>bp prog (Builtin.append_ #[244,244] 244 #[.slice h i j,.slice (some (qd c 0)) 1 1]) f λ c f=>∃ j l m,c=(.slice j l m)/\au a λ a=>0<=e/\e<(b:Int)/\∃ b,f.cell? (Addr.add a ((e).toNat*1))=some (iv b)/\∃ a,a<g/\d b j l m f a) (bp prog (Instr.makeSlice 244 (iv (i:Int)) (iv (i:Int))) k λ a b=>∃ c d e,a=(.slice c d e)/\∃ a:Int->qN,(∃ f,a 0 b f)/\∀ b f g,a g b f->∀ j:qv,cond (decide (g<(i:Int))) (au h λ h=>0<=g/\g<(i:Int)/\∃ j,b.cell? (Addr.add h ((g).toNat*1))=some (iv j)/\au c λ h=>0<=(IntKind.i64.wrap ((IntKind.i64.wrap ((i:Int)-(1:Int)))-g))/\(IntKind.i64.wrap ((IntKind.i64.wrap ((i:Int)-(1:Int)))-g))<(d:Int)/\aQ b (Addr.add h (((IntKind.i64.wrap ((IntKind.i64.wrap ((i:Int)-(1:Int)))-g))).toNat*1)) (iv j) λ h=>∃ i,i<f/\a (IntKind.i64.wrap (g+1)) h i) (K (.slice c d e) b)))
theorem vL{a1 l1 c1 n1 w K}(h:qD a1 l1 c1 n1 w K):CP 288 #[.slice a1 l1 c1,iv n1] w K:=ah (aE [(28,[(1,.s (.int .i64))]),(252,[(1,.s (.int .i64)),(6,.s .slice)]),(2042,[(41,.s (.int .i64))])]) func288 (by kernel_rfl) (by kernel_rfl) h
def I6.of(f:Nat->Int):I6:=⟨f 0,f 1,f 2,f 3,f 4,f 5⟩
theorem I6.yh(f:Nat->Int)(k:Nat)(hk:k<6):(I6.of f).at' k=f k:=by
 match k,hk with
 | 0,_|1,_|2,_|3,_|4,_|5,_=>rfl
def nZ(l:List I6)(k:Nat):Int:=l.foldl (λ s u=>s+u.at' k) 0
def dr(l:List I6):I6:=I6.of (nZ l)
theorem Dg(l:List I6)(u:I6)(k:Nat):nZ (l++[u]) k=nZ l k+u.at' k:=by simp[nZ]
theorem LK(l:List I6)(u:I6):dr (l++[u])=(dr l).zip (· + ·) u:=by
 refine I6.ext' λ k hk=>?_;rw[I6.ji _ _ _ _ hk,dr,I6.yh _ _ hk,dr,I6.yh _ _ hk,Dg]
theorem zS{B:Int}{l:List I6}(h:∀ u∈l,I6.Le u B)(k:Nat)(hk:k<6):0<=nZ l k/\nZ l k<=B*l.length:=by
 suffices H:∀ (l:List I6) (s:Int),(∀ u∈l,I6.Le u B)->s<=l.foldl (λ s u=>s+u.at' k) s/\l.foldl (λ s u=>s+u.at' k) s<=s+B*l.length by
  have:=H l 0 h;unfold nZ; omega
 intro l
 induction l with
 | nil=>intro s _; simp
 | cons u l ih =>
  intro s hl;have h1:=hl u (by simp) k hk;have h2:=ih (s+u.at' k) λ v hv=>hl v (by simp[hv]);simp only[List.foldl_cons,List.length_cons];rw[Int.natCast_add,Int.mul_add];omega
def eZ(a b:I6):I6:=a.zip (λ x y=>if x>y then x-y else 0) b
abbrev L4 (w:World) (a:OA) (l:List I6):Prop:=bG 6 I6.vs w a l
theorem Dj{w:World}{a:OA}{c:Nat}{l:List I6}(h:L4 w a l)(hb:∀ u∈l,I6.Le u 1000000)(hl:l.length<=1000) :
  CP 69 #[.slice a l.length c] w (λ r w'=>r=.agg (dr l).vs.toArray/\Chg w w' []):=by
 refine BK ?_;unfold yD;refine(St.start w).one.aB z6.vs.toArray λ r1 w1 s1=>s1.aB z6.vs.toArray λ r2 w2 s2=>?_;refine⟨λ n w3 m=>∃ k:Nat,n=k/\k<=l.length/\m=l.length-k/\St w w3 (Sep [ai r2 (dr (l.take k)).vs.toArray 133,ai r1 z6.vs.toArray 133,emp]),⟨l.length,0,rfl,by omega,by omega,s2⟩,?_⟩;rintro w3 m n ⟨k,rfl,hk,hm,s3⟩ -
 by_cases hlt:(k:Int)<(l.length:Int)
 ·have hx:l[k]?=some (l[k]'(by omega)):=gE (by omega);generalize l[k]'(by omega)=x at hx;have hxm:=hb x (List.mem_of_getElem? hx);obtain⟨q,hq,hcl⟩:=(h.aA s3.aA).at hx;refine cT (by simpa using hlt) ?_;rw[hq];refine⟨by omega,by omega,x,hcl,s3.aB z6.vs.toArray λ r3 w4 s4=>s4.aC 0 rfl x.vs rfl (I6.one _) λ w5 s5=>?_⟩;refine⟨λ n w6 m=>∃ j:Nat,n=j/\j<=6/\m=6-j/\St w w6 (Sep [ai r3 x.vs.toArray 39,ai r2 (I6.mix j ((dr (l.take k)).zip (· + ·) x) (dr (l.take k))).vs.toArray 133,ai r1 z6.vs.toArray 133,emp]),⟨6,0,rfl,by omega,by omega,s5⟩,?_⟩;rintro w6 m6 n6 ⟨j,rfl,hj,hm6,s6⟩ -
  by_cases hlt6:(j:Int)<6
  ·have hj' : j<6:=by omega
   have s7:=s6.quiet (Chg.drew _ _);have hs:=zS (l:=l.take k) (B:=1000000) (λ u hu=>hb u (List.mem_of_mem_take hu)) j hj';have hx6:=hxm j hj';have hlen:(l.take k).length<=1000:=by simp; omega
   have e1:(dr (l.take k)).at' j=nZ (l.take k) j:=I6.yh _ _ hj';refine cT (dT hlt6) ⟨by omega,by omega,(dr (l.take k)).at' j,?_,by omega,by omega,x.at' j,?_,by omega,by omega,?_⟩
   ·rw[fj,aI s7 1 rfl hj',I6.cv _ _ _ _ hj',if_neg (by omega)]
   ·rw[fj,aI s7 0 rfl hj']
   ·rw[fj,aF ⟨by omega,by omega⟩];refine s7.aJ 1 rfl hj' rfl λ w8 s8=>⟨6-(j+1),by omega,j+1,inc (by decide) hj',by omega,rfl,?_⟩;rw[show(dr (l.take k)).at' j+x.at' j=((dr (l.take k)).zip (· + ·) x).at' j by rw[I6.ji _ _ _ _ hj'],I6.iw _ _ _ hj'] at s8;exact s8
  ·obtain rfl:j=6:=by omega
   refine cF (by simp) ⟨l.length-(k+1),by omega,k+1,aF ⟨by omega,by omega⟩,by omega,rfl,?_⟩;rw[aH hx,LK];exact s6.ay [1,2,3]
 ·obtain rfl:k=l.length:=by omega
  rw[List.take_length] at s3;exact cF (by simp) ⟨_,s3.cellsIn 0 rfl,s3.aC 1 rfl (dr l).vs rfl (I6.one _) λ w8 s8=>⟨_,s8.cellsIn 1 rfl,rfl,s8.aA⟩⟩
theorem WJ{w:World}{a:OA}{c:Nat}{l:List I6}(h:L4 w a l)(hb:∀ u∈l,I6.Le u 1000000)(hl:l.length<=1000) :
  CP 196 #[.slice a l.length c] w (λ r w'=>r=.agg (dr l).vs.toArray/\Chg w w' []):=by
 refine ES ?_;unfold Dh;refine(St.start w).one.aB z6.vs.toArray λ r1 w1 s1=>an (Dj (h.aA s1.aA) hb hl) ?_;rintro v w2 ⟨rfl,c2⟩;exact⟨_,rfl,(s1.quiet c2).aC 0 rfl (dr l).vs rfl (I6.one _) λ w8 s8=>⟨_,s8.cellsIn 0 rfl,rfl,s8.aA⟩⟩
theorem UO(w:World)(u v:I6)(hu:I6.Le u 1000000000)(hv:I6.Le v 1000000000):CP 68 #[.agg u.vs.toArray,.agg v.vs.toArray] w (λ r w'=>r=.agg (eZ u v).vs.toArray/\Chg w w' []):=by
 refine Cb ?_;unfold BJ;refine(St.start w).one.aB u.vs.toArray λ r1 w1 s1=>s1.aB v.vs.toArray λ r2 w2 s2=>s2.aB z6.vs.toArray λ r3 w3 s3=>s3.aB z6.vs.toArray λ r4 w4 s4=>?_;let I:Nat->World->Prop:=λ k w'=>St w w' (Sep [ai r4 (I6.mix k (eZ u v) z6).vs.toArray 39,ai r3 z6.vs.toArray 39,ai r2 v.vs.toArray 133,ai r1 u.vs.toArray 133,emp]);refine⟨λ n w5 m=>∃ k:Nat,n=k/\k<=6/\m=6-k/\I k w5,⟨6,0,rfl,by omega,by omega,s4⟩,?_⟩;rintro w5 m n ⟨k,rfl,hk,hm,s5⟩ -
 by_cases hlt:(k:Int)<6
 ·have hk' : k<6:=by omega
  have s6:=St.quiet s5 (Chg.drew _ _);have s7:=s6.quiet (Chg.drew _ _);have h1:=hu k hk';have h2:=hv k hk';have e:(eZ u v).at' k=if u.at' k>v.at' k then u.at' k-v.at' k else 0:=I6.ji _ _ _ _ hk'
  refine cT (dT hlt) ⟨I (k+1),?_,by omega,by omega,u.at' k,by rw[fj,aI s6 3 rfl hk'],by omega,by omega,v.at' k,by rw[fj,aI s6 2 rfl hk'],?_⟩
  ·rintro w6 s6 -;exact⟨6-(k+1),by omega,k+1,inc (by decide) hk',by omega,rfl,s6⟩
  ·by_cases g:u.at' k>v.at' k
   ·refine cT (dT g) ⟨by omega,by omega,u.at' k,by rw[fj,aI s7 3 rfl hk'],by omega,by omega,v.at' k,by rw[fj,aI s7 2 rfl hk'],by omega,by omega,?_⟩;rw[fj,aF ⟨by omega,by omega⟩];refine s7.aJ 0 rfl hk' rfl λ w8 s8=>?_;rw[if_pos g] at e;rw[<- e,I6.iw _ _ _ hk'] at s8;exact s8
   ·refine cF (dF g) ?_;rw[if_neg g] at e;have:I6.mix (k+1) (eZ u v) z6=I6.mix k (eZ u v) z6:=by
     refine I6.ext' λ j hj=>?_;rw[I6.cv _ _ _ _ hj,I6.cv _ _ _ _ hj,wq]
     by_cases h3:j<k
     ·rw[if_pos (by omega),if_pos h3]
     ·rw[if_neg h3]
      split
      ·obtain rfl:j=k:=by omega
       exact e
      ·rfl
    show I (k+1) _;simp only[I];rw[this]; exact s6
 ·obtain rfl:k=6:=by omega
  exact cF (by simp) ⟨_,St.cellsIn s5 0 rfl,St.aC s5 1 rfl (eZ u v).vs rfl (I6.one _) λ w8 s8=>⟨_,s8.cellsIn 1 rfl,rfl,s8.aA⟩⟩
theorem RV{l:List I6}(h:∀ u∈l,I6.Le u 1000000)(hl:l.length<=1000):I6.Le (dr l) 1000000000:=λ k hk=>by
 have:=zS h k hk;rw[dr,I6.yh _ _ hk];omega
theorem FG{w:World}{a:OA}{c:Nat}{l:List I6}(u:I6)(hu:I6.Le u 1000000000)(h:L4 w a l)(hb:∀ u∈l,I6.Le u 1000000)(hl:l.length<=1000) :
  CP 41 #[.agg u.vs.toArray,.slice a l.length c] w (λ r w'=>r=.agg (eZ (dr l) u).vs.toArray/\Chg w w' []):=by
 refine zq ?_;unfold v8;refine(St.start w).one.aB u.vs.toArray λ r1 w1 s1=>s1.aB z6.vs.toArray λ r2 w2 s2=>?_;have s3:=s2.quiet (Chg.drew _ _);refine⟨_,s3.cellsIn 1 rfl,an (Dj (h.aA s3.aA) hb hl) ?_⟩;rintro v w3 ⟨rfl,c3⟩;have s4:=s3.quiet c3;refine⟨_,rfl,s4.cellsIn 1 rfl,an (UO w3 _ _ (RV hb hl) hu) ?_⟩;rintro v w4 ⟨rfl,c4⟩;exact⟨_,rfl,(s4.quiet c4).aC 0 rfl (eZ (dr l) u).vs rfl (I6.one _) λ w8 s8=>⟨_,s8.cellsIn 0 rfl,rfl,s8.aA⟩⟩
def sO(n:Int):Bool:=decide (0<=n)&&decide (n<=1000000)
theorem XW(w:World)(n:Int):CP 261 #[iv n] w (λ r w'=>r=.bool (sO n)/\w' = w):=by
 refine Dx ?_;unfold Cl
 by_cases h:n>=0
 ·exact cT (dT h) ⟨by simp[sO,h],rfl⟩
 ·exact cF (dF h) ⟨by simp[sO]; omega,rfl⟩
theorem L7(w:World)(n:Int):CP 224 #[iv n] w (λ r w'=>r=iv (if sO n then 0 else 4)/\w' = w):=by
 refine yN ?_;unfold ux;refine an (XW w n) ?_;rintro v w1 ⟨rfl,rfl⟩;refine⟨_,rfl,?_⟩
 cases h:sO n with
 | true=>exact cF rfl ⟨rfl,rfl⟩
 | false=>exact cT rfl ⟨rfl,rfl⟩
def o6(p:I6):Bool:=p.l.all sO
theorem EU(w:World)(p:I6):CP 200 #[.agg p.vs.toArray] w (λ r w'=>r=.bool (o6 p)/\Chg w w' []):=by
 refine sx ?_;unfold mz;refine(St.start w).one.aB p.vs.toArray λ r1 w1 s1=>⟨p,s1.cellsIn 0 rfl,λ n w2 m=>∃ k:Nat,n=k/\k<=6/\m=6-k/\(p.l.take k).all sO=true/\w2=w1,⟨6,0,rfl,by omega,by omega,rfl,rfl⟩,?_⟩;rintro w2 m n ⟨k,rfl,hk,hm,ha,rfl⟩ -
 by_cases hlt:(k:Int)<6
 ·have hk' : k<6:=by omega
  refine cT (dT hlt) ⟨by omega,by omega,_,p.get k hk',an (L7 w2 _) ?_⟩;rintro v w3 ⟨rfl,rfl⟩;refine⟨_,rfl,?_⟩
  cases hx:sO (p.at' k) with
  | true=>exact cF rfl ⟨6-(k+1),by omega,k+1,inc (by decide) hk',by omega,rfl,wD ha (p.oY k hk') hx,rfl⟩
  | false=>exact cT rfl ⟨by rw[o6,zY (p.oY k hk') hx],s1.aA⟩
 ·obtain rfl:k=6:=by omega
  refine cF (by simp) ⟨?_,s1.aA⟩;rw[o6,show p.l.all sO=true from ha]
theorem vD{p:I6}:o6 p=true<->I6.Le p 1000000:=by
 constructor
 ·intro h k hk;have:=List.all_eq_true.1 h _ (List.mem_of_getElem? (p.oY k hk));simpa[sO] using this
 ·intro h;have h0:=h 0 (by decide); have h1:=h 1 (by decide); have h2:=h 2 (by decide); have h3:=h 3 (by decide); have h4:=h 4 (by decide); have h5:=h 5 (by decide);simp only[I6.at'] at h0 h1 h2 h3 h4 h5;simp[o6,I6.l,sO,h0,h1,h2,h3,h4,h5]
structure Po where
 step:Int
 pct:Int
 und:Int
 rule:Int
def Po.cells(o:Po):List Value:=[iv o.step,iv o.pct,iv o.und,iv o.rule]
def Po.v(o:Po):Value:=.agg o.cells.toArray
def Po.ok(o:Po):Prop:=1<=o.step/\o.step<=1000000/\0<=o.pct/\o.pct<=100/\1<=o.und/\o.und<=3/\1<=o.rule/\o.rule<=3
instance (o:Po):Decidable o.ok:=by unfold Po.ok; infer_instance
def qx(o:Po):Int:=if o.ok then 0 else 4
theorem xo(w:World)(o:Po):CP 134 #[o.v] w (λ r w'=>r=iv (qx o)/\Chg w w' []):=by
 refine sg ?_;unfold mu;refine(St.start w).one.aB o.cells.toArray λ r1 w1 s1=>?_;refine⟨λ b w2=>w2=w1/\(b=true<->¬ o.ok),?_,?_⟩
 ·rintro w2 b ⟨rfl,hb⟩ -
  by_cases h:o.ok
  ·obtain rfl:b=false:=by
    cases b with
    | false=>rfl
    | true=>exact absurd h (hb.1 rfl)
   exact cF rfl ⟨by rw[qx,if_pos h],s1.aA⟩
  ·obtain rfl:=hb.2 h;exact cT rfl ⟨by rw[qx,if_neg h],s1.aA⟩
 have bad : ¬ o.ok->(true=true<->¬ o.ok):=λ h=>⟨λ _=>h,λ _=>rfl⟩;refine⟨_,s1.ag 0 rfl 0,?_⟩
 by_cases g1:o.step<1
 ·exact cT (dT g1) ⟨rfl,bad λ h=>by unfold Po.ok at h; omega⟩
 refine cF (dF g1) ⟨_,s1.ag 0 rfl 0,?_⟩
 by_cases g2:o.step>1000000
 ·exact cT (dT g2) ⟨rfl,bad λ h=>by unfold Po.ok at h; omega⟩
 refine cF (dF g2) ⟨_,s1.ag 0 rfl 1,?_⟩
 by_cases g3:o.pct<0
 ·exact cT (dT g3) ⟨rfl,bad λ h=>by unfold Po.ok at h; omega⟩
 refine cF (dF g3) ⟨_,s1.ag 0 rfl 1,?_⟩
 by_cases g4:o.pct>100
 ·exact cT (dT g4) ⟨rfl,bad λ h=>by unfold Po.ok at h; omega⟩
 refine cF (dF g4) ⟨_,s1.ag 0 rfl 2,?_⟩
 by_cases g5:o.und<1
 ·exact cT (dT g5) ⟨rfl,bad λ h=>by unfold Po.ok at h; omega⟩
 refine cF (dF g5) ⟨_,s1.ag 0 rfl 2,?_⟩
 by_cases g6:o.und>3
 ·exact cT (dT g6) ⟨rfl,bad λ h=>by unfold Po.ok at h; omega⟩
 refine cF (dF g6) ⟨_,s1.ag 0 rfl 3,?_⟩
 by_cases g7:o.rule<1
 ·exact cT (dT g7) ⟨rfl,bad λ h=>by unfold Po.ok at h; omega⟩
 refine cF (dF g7) ⟨_,s1.ag 0 rfl 3,rfl,?_⟩;rw[decide_eq_true_eq];unfold Po.ok;omega
def kq(l:List Pr):I6:=I6.QZ (l.map Pr.res)
theorem xI(l:List Pr)(k:Nat)(hk:k<6):(kq l).at' k=(l.map Pr.res).getD k 0:=by
 match k,hk with
 | 0,_|1,_|2,_|3,_|4,_|5,_=>rfl
theorem EI{w:World}{a:OA}{c:Nat}{l:List Pr}(h:fh w a l)(hl:l.length<=6)(hc:l.length<=c) :
  CP 162 #[.slice a l.length c] w (λ r w'=>r=.agg (kq l).vs.toArray/\Chg w w' []):=by
 refine sr ?_;unfold mw;have e:(if (6:Int)<((l.length:Nat):Int) then (6:Int) else ((l.length:Nat):Int))=(l.length:Int):=by rw[if_neg (by omega)]
 rw[e,Oo,Int.toNat_natCast,Nat.sub_zero];refine(St.start w).one.aB z6.vs.toArray λ r1 w1 s1=>s1.aB z6.vs.toArray λ r2 w2 s2=>⟨by omega,by omega,?_⟩;refine⟨λ n w3 m=>∃ k:Nat,n=k/\k<=l.length/\m=l.length-k/\St w w3 (Sep [ai r2 (I6.mix k (kq l) z6).vs.toArray 37,ai r1 z6.vs.toArray 37,emp]),⟨l.length,0,rfl,by omega,by omega,s2⟩,?_⟩;rintro w3 m n ⟨k,rfl,hk,hm,s3⟩ -
 by_cases hlt:(k:Int)<(l.length:Int)
 ·have hx:l[k]?=some (l[k]'(by omega)):=gE (by omega);generalize l[k]'(by omega)=x at hx;obtain⟨_,q,hq,hcl⟩:=(h.aA s3.aA) k x hx;have h6:k<6:=by omega
  refine cT (by simpa using hlt) ?_;rw[hq];refine⟨by omega,by omega,_,_,_,_,_,hcl,aL ?_⟩;refine(s3.cN _ 89).aC 0 rfl x.cells rfl x.one λ w6 s6=>⟨_,s6.ag 0 rfl 2,by omega,by omega,?_⟩;rw[fj];refine s6.aJ 1 rfl h6 rfl λ w7 s7=>⟨l.length-(k+1),by omega,k+1,aF ⟨by omega,by omega⟩,by omega,rfl,?_⟩;have e1:x.res=(kq l).at' k:=by rw[xI l k h6]; simp[List.getElem?_map,hx]
  rw[e1,I6.iw _ _ _ h6] at s7;exact s7.ay [1,2,3]
 ·obtain rfl:k=l.length:=by omega
  have hcn:I6.mix l.length (kq l) z6=kq l:=by
   refine I6.ext' λ j hj=>?_;rw[I6.cv _ _ _ _ hj,wq]
   split
   ·rfl
   ·rw[xI l j hj,List.getD_eq_getElem?_getD,List.getElem?_eq_none (by simp; omega)]; rfl
  rw[hcn] at s3;exact cF (by simp) ⟨_,s3.cellsIn 0 rfl,s3.aC 1 rfl (kq l).vs rfl (I6.one _) λ w8 s8=>⟨_,s8.cellsIn 1 rfl,rfl,s8.aA⟩⟩
def Io(o:Po)(p:Int):Int:=p+o.step+(p*o.pct+99) / 100
theorem Rl{w0 w:World}{l:List aG}{o:Po}(ho:o.ok){p:Int}(hp:0<=p/\p<=1000000){r:Nat}{T:TypeId}(s:St w0 w (Sep l))(i:Nat)(e:l[i]?=some (ai r o.cells.toArray T)) :
  CP 223 #[iv p,.pointer (some ⟨r,0,none⟩)] w (λ v w'=>v=iv (Io o p)/\w' = w):=by
 refine nw ⟨_,s.ag i e 0,_,s.ag i e 1,by decide,?_,rfl⟩;obtain⟨h1,h2,h3,h4,_⟩:=ho;have h5:0<=p*o.pct:=Int.mul_nonneg hp.1 h3;have h6:p*o.pct<=1000000*100:=Int.le_trans (Int.mul_le_mul_of_nonneg_left h4 hp.1) (Int.mul_le_mul_of_nonneg_right hp.2 (by omega));have h7:Int.tdiv (p*o.pct+99) 100=(p*o.pct+99) / 100:=Int.tdiv_eq_ediv_of_nonneg (by omega);rw[aF (n:=p+o.step) ⟨by omega,by omega⟩,aF (n:=p*o.pct) ⟨by omega,by omega⟩,aF (n:=p*o.pct+99) ⟨by omega,by omega⟩,h7,aF (n:=(p*o.pct+99) / 100) ⟨by omega,by omega⟩,aF ⟨by omega,by omega⟩];rfl
def bP(o:Po)(p ex:I6):I6:=p.zip (λ x n=>if n>0 then Io o x else x) ex
def yg(o:Po)(p ex:I6):I6×Int:=if bP o p ex≠p/\o6 (bP o p ex)=false then (z6,4) else (bP o p ex,0)
theorem Nz(w:World){o:Po}(ho:o.ok){p:I6}(hp:o6 p=true)(ex:I6):CP 169 #[o.v,.agg p.vs.toArray,.agg ex.vs.toArray] w (λ r w'=>r=.tuple #[.agg (yg o p ex).1.vs.toArray,iv (yg o p ex).2]/\Chg w w' []):=by
 refine tO ?_;unfold oz;have hle:=vD.1 hp;refine(St.start w).one.aB o.cells.toArray λ r1 w1 s1=>s1.aB p.vs.toArray λ r2 w2 s2=>s2.aB ex.vs.toArray λ r3 w3 s3=>s3.aB z6.vs.toArray λ r4 w4 s4=>?_;refine⟨_,_,_,_,s4.cellsIn 3 rfl,an (xo w4 o) ?_⟩;rintro v w5 ⟨rfl,c5⟩;have s5:=s4.quiet c5;have s6:=s5.quiet (Chg.drew _ _);let L:Nat->Nat->I6->List aG:=λ b r out=>[ai r out.vs.toArray 37,ai b o.cells.toArray 23,ai r4 z6.vs.toArray 37,ai r3 ex.vs.toArray 39,ai r2 p.vs.toArray 37,emp];refine⟨_,rfl,cF (by rw[qx,if_pos ho]; rfl) ⟨λ v r w'=>∃ b,v=.func (.func 223) #[] #[.pointer (some ⟨b,0,none⟩)]/\St w w' (Sep (L b r p)),?_,?_⟩⟩
 ·rintro w7 v r5 ⟨b,rfl,s7⟩ -;refine⟨ex,s7.cellsIn 3 rfl,λ n w8 m=>∃ k:Nat,n=k/\k<=6/\m=6-k/\St w w8 (Sep (L b r5 (I6.mix k (bP o p ex) p))),⟨6,0,rfl,by omega,by omega,s7⟩,?_⟩;rintro w8 m n ⟨k,rfl,hk,hm,s8⟩ -
  by_cases hlt:(k:Int)<6
  ·have hk' : k<6:=by omega
   have er:(bP o p ex).at' k=if ex.at' k>0 then Io o (p.at' k) else p.at' k:=I6.ji _ _ _ _ hk'
   refine cT (dT hlt) ⟨λ w9=>St w w9 (Sep (L b r5 (I6.mix (k+1) (bP o p ex) p))),?_,by omega,by omega,_,ex.get k hk',λ g w10=>g=decide (ex.at' k>0)/\St w w10 (Sep (L b r5 (I6.mix k (bP o p ex) p))),?_,?_⟩
   ·rintro w9 s9 -;exact⟨6-(k+1),by omega,k+1,inc (by decide) hk',by omega,rfl,s9⟩
   ·rintro w10 g ⟨rfl,s10⟩ -
    by_cases hg:ex.at' k>0
    ·refine cT (dT hg) ⟨by omega,by omega,p.at' k,by rw[fj,aI s10 4 rfl hk'],br (by kernel_rfl) (an (Rl ho (hle k hk') s10 1 rfl) ?_)⟩;rintro v w11 ⟨rfl,rfl⟩;refine⟨_,rfl,by omega,by omega,?_⟩;rw[fj];refine s10.aJ 0 rfl hk' rfl λ w12 s12=>?_;rw[if_pos hg] at er;rw[<- er,I6.iw _ _ _ hk'] at s12;exact s12
    ·refine cF (dF hg) ?_;rw[if_neg hg] at er;have:I6.mix (k+1) (bP o p ex) p=I6.mix k (bP o p ex) p:=by
      refine I6.ext' λ j hj=>?_;rw[I6.cv _ _ _ _ hj,I6.cv _ _ _ _ hj]
      by_cases h3:j<k
      ·rw[if_pos (by omega),if_pos h3]
      ·rw[if_neg h3]
       split
       ·obtain rfl:j=k:=by omega
        exact er
       ·rfl
     rw[this]; exact s10
   ·by_cases hg:ex.at' k>0
    ·refine cT (dT hg) ⟨_,s8.cellsIn 4 rfl,an (EU w8 p) ?_⟩;rintro v w13 ⟨rfl,c13⟩;exact⟨_,rfl,by rw[hp,dT hg],s8.quiet c13⟩
    ·exact cF (dF hg) ⟨by rw[dF hg],s8⟩
  ·obtain rfl:k=6:=by omega
   refine cF (by simp) ⟨λ g w14=>g=decide (bP o p ex≠p/\o6 (bP o p ex)=false)/\St w w14 (Sep (L b r5 (bP o p ex))),?_,p,s8.cellsIn 4 rfl,an (EU w8 p) ?_⟩
   ·rintro w14 g ⟨rfl,s14⟩ -
    by_cases hg:bP o p ex≠p/\o6 (bP o p ex)=false
    ·refine cT (dT hg) (s14.aC 2 rfl z6.vs rfl (I6.one _) λ w15 s15=>⟨_,s15.cellsIn 2 rfl,?_,s15.aA⟩);rw[yg,if_pos hg]
    ·refine cF (dF hg) ⟨_,s14.cellsIn 0 rfl,s14.aC 2 rfl (bP o p ex).vs rfl (I6.one _) λ w15 s15=>⟨_,s15.cellsIn 2 rfl,?_,s15.aA⟩⟩;rw[yg,if_neg hg]
   ·rintro v w17 ⟨rfl,c17⟩;have s17:=s8.quiet c17;refine⟨_,rfl,cF (by rw[hp]; rfl) ⟨_,s17.cellsIn 0 rfl,_,s17.cellsIn 4 rfl,?_⟩⟩;rw[I6.Ed,I6.beq_eq]
    by_cases hne:bP o p ex=p
    ·exact cF (by simp[hne]) ⟨by simp[hne],s17⟩
    ·refine cT (by simp[hne]) ⟨_,s17.cellsIn 0 rfl,an (EU w17 _) ?_⟩;rintro v w18 ⟨rfl,c18⟩;refine⟨_,rfl,?_,s17.quiet c18⟩;rw[I6.Ed]
     cases o6 (bP o p ex)<;>simp[hne]
 ·refine⟨_,_,_,_,s6.cellsIn 3 rfl,p,s6.cellsIn 2 rfl,?_,?_⟩
  ·refine an (K:=λ v w'=>∃ b,v=.func (.func 223) #[] #[.pointer (some ⟨b,0,none⟩)]/\St w w' (Sep (ai b o.cells.toArray 23 :: [ai r4 z6.vs.toArray 37,ai r3 ex.vs.toArray 39,ai r2 p.vs.toArray 37,ai r1 o.cells.toArray 23,emp]))) (iH ?_) ?_
   ·exact s6.aB o.cells.toArray λ b w' s'=>⟨b,rfl,s'⟩
   ·rintro v w19 ⟨b,rfl,s19⟩;refine⟨_,rfl,s19.cellsIn 3 rfl,s19.aB z6.vs.toArray λ r6 w20 s20=>⟨s20.cellsIn 4 rfl,s20.aC 0 rfl p.vs rfl (I6.one _) λ w21 s21=>⟨b,rfl,s21.ay [0,1,2,3,4,6]⟩⟩⟩
  ·refine s6.aB z6.vs.toArray λ r7 w22 s22=>⟨s22.cellsIn 3 rfl,s22.cellsIn 4 rfl,?_⟩;refine an (K:=λ v w'=>∃ b,v=.func (.func 223) #[] #[.pointer (some ⟨b,0,none⟩)]/\St w w' (Sep (ai b o.cells.toArray 23 :: [ai r7 z6.vs.toArray 37,ai r4 z6.vs.toArray 37,ai r3 ex.vs.toArray 39,ai r2 p.vs.toArray 37,ai r1 o.cells.toArray 23,emp]))) (iH ?_) ?_
   ·exact s22.aB o.cells.toArray λ b w' s'=>⟨b,rfl,s'⟩
   ·rintro v w23 ⟨b,rfl,s23⟩;exact⟨_,rfl,s23.cellsIn 4 rfl,s23.aC 1 rfl p.vs rfl (I6.one _) λ w24 s24=>⟨b,rfl,s24.ay [1,0,2,3,4,6]⟩⟩
def iV(a:OA)(b c:Nat)(w:World)(K:KP):=cond (a).isNone (K qn w) (av w (.cells #[] 89) λ d e=>bp prog (Builtin.append_ #[29,29] 29 #[.slice (some (qd d 0)) 0 0,.slice a b c]) e λ a b=>∃ c d e,a=(.slice c d e)/\K (.slice c d e) b)
theorem mQ{a1 l1 c1 w K}(h:iV a1 l1 c1 w K):CP 35 #[.slice a1 l1 c1] w K:=ah (aE []) func35 (by kernel_rfl) (by kernel_rfl) h
def jv(a:OA)(b c:Nat)(w:World)(K:KP):=cond (a).isNone (K qn w) (av w (.cells #[] 92) λ d e=>bp prog (Builtin.append_ #[30,30] 30 #[.slice (some (qd d 0)) 0 0,.slice a b c]) e λ a b=>∃ c d e,a=(.slice c d e)/\K (.slice c d e) b)
theorem nT{a1 l1 c1 w K}(h:jv a1 l1 c1 w K):CP 36 #[.slice a1 l1 c1] w K:=ah (aE []) func36 (by kernel_rfl) (by kernel_rfl) h
def mP(a:OA)(b c:Nat)(w:World)(K:KP):=cond (a).isNone (K qn w) (av w (.cells #[] 95) λ d e=>bp prog (Builtin.append_ #[31,31] 31 #[.slice (some (qd d 0)) 0 0,.slice a b c]) e λ a b=>∃ c d e,a=(.slice c d e)/\K (.slice c d e) b)
theorem sH{a1 l1 c1 w K}(h:mP a1 l1 c1 w K):CP 37 #[.slice a1 l1 c1] w K:=ah (aE []) func37 (by kernel_rfl) (by kernel_rfl) h
def ki(a:OA)(b c:Nat)(w:World)(K:KP):=cond (a).isNone (K qn w) (av w (.cells #[] 98) λ d e=>bp prog (Builtin.append_ #[32,32] 32 #[.slice (some (qd d 0)) 0 0,.slice a b c]) e λ a b=>∃ c d e,a=(.slice c d e)/\K (.slice c d e) b)
theorem o9{a1 l1 c1 w K}(h:ki a1 l1 c1 w K):CP 38 #[.slice a1 l1 c1] w K:=ah (aE []) func38 (by kernel_rfl) (by kernel_rfl) h
def jw(a:OA)(b c:Nat)(w:World)(K:KP):=cond (a).isNone (K qn w) (av w (.cells #[] 39) λ d e=>bp prog (Builtin.append_ #[41,41] 41 #[.slice (some (qd d 0)) 0 0,.slice a b c]) e λ a b=>∃ c d e,a=(.slice c d e)/\K (.slice c d e) b)
theorem nU{a1 l1 c1 w K}(h:jw a1 l1 c1 w K):CP 195 #[.slice a1 l1 c1] w K:=ah (aE []) func195 (by kernel_rfl) (by kernel_rfl) h
theorem RL:iz prog 41 39 (.agg z6.vs.toArray) 6 48:=iz.mk' underlying41 (by kernel_rfl) rfl (by decide)
theorem aR(u:I6):u.vs.length=6:=rfl
abbrev eJ (a:OA) (c:Nat) (l:List I6):aG:=cH 39 6 I6.vs a c l
theorem Ms{w0 w:World}{B:aG}(s:St w0 w B){a:OA}{c:Nat}{l:List I6}(h:L4 w a l)(hl:l.length<=1000) :
  CP 195 #[.slice a l.length c] w (λ r w'=>∃ a' c',r=.slice a' l.length c'/\St w0 w' (star (eJ a' c' l) B)):=by
 refine nU ?_;unfold jw;exact pT (c:=c) (K:=λ r w'=>∃ a' c',r=.slice a' l.length c'/\St w0 w' (star (eJ a' c' l) B)) RL aR I6.one s h (by omega) (by omega) λ a' c' w' s'=>⟨a',c',rfl,s'⟩
def Lr(sup tot now ask:I6)(k:Nat):Bool:=decide (ask.at' k<now.at' k)&&decide (tot.at' k-now.at' k+ask.at' k<sup.at' k)
def kg(sup tot now ask:I6):Bool:=(List.range 6).any (Lr sup tot now ask)
theorem Ls(w:World)(sup tot now ask:I6)(h1:I6.Le sup 1000000)(h2:I6.Le tot 1000000)(h3:I6.Le now 1000000)(h4:I6.Le ask 1000000) :
  CP 197 #[.agg sup.vs.toArray,.agg tot.vs.toArray,.agg now.vs.toArray,.agg ask.vs.toArray] w (λ r w'=>r=.bool (kg sup tot now ask)/\Chg w w' []):=by
 refine qQ ?_;unfold lG;refine(St.start w).one.aB sup.vs.toArray λ r1 w1 s1=>s1.aB tot.vs.toArray λ r2 w2 s2=>s2.aB now.vs.toArray λ r3 w3 s3=>s3.aB ask.vs.toArray λ r4 w4 s4=>?_;refine⟨λ n w5 m=>∃ k:Nat,n=k/\k<=6/\m=6-k/\(∀ j,j<k->Lr sup tot now ask j=false)/\Chg w4 w5 [],⟨6,0,rfl,by omega,by omega,λ j hj=>by omega,Chg.refl _ _⟩,?_⟩;rintro w5 m n ⟨k,rfl,hk,hm,ha,hc⟩ -
 by_cases hlt:(k:Int)<6
 ·have hk' : k<6:=by omega
  have c5:Chg w4 w5.drew []:=hc.trans (Chg.drew w5 []) (by simp);have s5:=s4.quiet c5;have q1:=h1 k hk'; have q2:=h2 k hk'; have q3:=h3 k hk'; have q4:=h4 k hk';have ge1:=aI s5 3 rfl hk'; have ge2:=aI s5 2 rfl hk'; have ge3:=aI s5 1 rfl hk'; have ge4:=aI s5 0 rfl hk';refine cT (dT hlt) ⟨λ b w6=>b=Lr sup tot now ask k/\Chg w4 w6 [],?_,by omega,by omega,_,by rw[fj,ge4],by omega,by omega,_,by rw[fj,ge3],?_⟩
  ·rintro w6 b ⟨rfl,c6⟩ -
   cases hr:Lr sup tot now ask k with
   | true=>exact cT rfl ⟨by rw[kg,List.any_eq_true.2 ⟨k,List.mem_range.2 hk',hr⟩],(s4.quiet c6).aA⟩
   | false =>
    refine cF rfl ⟨6-(k+1),by omega,k+1,inc (by decide) hk',by omega,rfl,λ j hj=>?_,c6⟩;rcases Nat.lt_or_ge j k with h' | h'
    ·exact ha j h'
    ·obtain rfl:j=k:=by omega
     exact hr
  ·by_cases g:ask.at' k<now.at' k
   ·refine cT (dT g) ⟨by omega,by omega,_,by rw[fj,ge2],by omega,by omega,_,by rw[fj,ge3],by omega,by omega,_,by rw[fj,ge4],by omega,by omega,_,by rw[fj,ge1],?_,c5⟩;rw[aF (n:=tot.at' k-now.at' k) ⟨by omega,by omega⟩,aF ⟨by omega,by omega⟩,Lr,dT g,Bool.true_and]
   ·exact cF (dF g) ⟨by rw[Lr,dF g,Bool.false_and],c5⟩
 ·obtain rfl:k=6:=by omega
  refine cF (by simp) ⟨?_,(s4.quiet hc).aA⟩;have:kg sup tot now ask=false:=by
   rw[kg,List.any_eq_false];intro j hj;rw[ha j (List.mem_range.1 hj)]; simp
  rw[this]
def Bb(sup tot now ask:Int):Int:=if ask<now then now-(if (if 0>tot-sup then 0 else tot-sup)<now-ask then (if 0>tot-sup then 0 else tot-sup) else now-ask) else ask
def qw(sup tot now ask:I6):I6:=I6.of λ k=>Bb (sup.at' k) (tot.at' k) (now.at' k) (ask.at' k)
theorem GC{s t n a B:Int}(h3:0<=n/\n<=B)(h4:0<=a/\a<=B):0<=Bb s t n a/\Bb s t n a<=B:=by
 unfold Bb
 split
 ·split<;>split<;>omega
 ·omega
theorem NT{s t n a:I6}{B:Int}(h3:I6.Le n B)(h4:I6.Le a B):I6.Le (qw s t n a) B:=λ k hk=>by
 rw[qw,I6.yh _ _ hk]; exact GC (h3 k hk) (h4 k hk)
theorem NU(w:World)(sup tot now ask:I6)(h1:I6.Le sup 1000000)(h2:I6.Le tot 1000000)(h3:I6.Le now 1000000)(h4:I6.Le ask 1000000) :
  CP 198 #[.agg sup.vs.toArray,.agg tot.vs.toArray,.agg now.vs.toArray,.agg ask.vs.toArray] w (λ r w'=>r=.agg (qw sup tot now ask).vs.toArray/\Chg w w' []):=by
 refine sN ?_;unfold mY;refine(St.start w).one.aB sup.vs.toArray λ r1 w1 s1=>s1.aB tot.vs.toArray λ r2 w2 s2=>s2.aB now.vs.toArray λ r3 w3 s3=>s3.aB ask.vs.toArray λ r4 w4 s4=>s4.aB z6.vs.toArray λ r5 w5 s5=>?_;let I:Nat->World->Prop:=λ k w'=>St w w' (Sep [ai r5 z6.vs.toArray 39,ai r4 (I6.mix k (qw sup tot now ask) ask).vs.toArray 39,ai r3 now.vs.toArray 39,ai r2 tot.vs.toArray 39,ai r1 sup.vs.toArray 39,emp]);refine⟨λ n w6 m=>∃ k:Nat,n=k/\k<=6/\m=6-k/\I k w6,⟨6,0,rfl,by omega,by omega,s5⟩,?_⟩;rintro w6 m n ⟨k,rfl,hk,hm,s6⟩ -
 by_cases hlt:(k:Int)<6
 ·have hk' : k<6:=by omega
  have s7:=St.quiet s6 (Chg.drew _ _);have s8:=s7.quiet (Chg.drew _ _);have q1:=h1 k hk'; have q2:=h2 k hk'; have q3:=h3 k hk'; have q4:=h4 k hk';have ea:(I6.mix k (qw sup tot now ask) ask).at' k=ask.at' k:=by rw[I6.cv _ _ _ _ hk',if_neg (by omega)]
  have ep:(qw sup tot now ask).at' k=Bb (sup.at' k) (tot.at' k) (now.at' k) (ask.at' k):=I6.yh _ _ hk';refine cT (dT hlt) ⟨I (k+1),?_,by omega,by omega,ask.at' k,by rw[fj,aI s7 1 rfl hk',ea],by omega,by omega,now.at' k,by rw[fj,aI s7 2 rfl hk'],?_⟩
  ·rintro w9 s9 -;exact⟨6-(k+1),by omega,k+1,inc (by decide) hk',by omega,rfl,s9⟩
  ·by_cases g:ask.at' k<now.at' k
   ·refine cT (dT g) ⟨by omega,by omega,now.at' k,by rw[fj,aI s8 2 rfl hk'],by omega,by omega,now.at' k,by rw[fj,aI s8 2 rfl hk'],by omega,by omega,ask.at' k,by rw[fj,aI s8 1 rfl hk',ea],by omega,by omega,tot.at' k,by rw[fj,aI s8 3 rfl hk'],by omega,by omega,sup.at' k,by rw[fj,aI s8 4 rfl hk'],by omega,by omega,?_⟩
    have hp:=GC (s:=sup.at' k) (t:=tot.at' k) q3 q4;rw[Bb,if_pos g] at ep hp;rw[fj,aF (n:=tot.at' k-sup.at' k) ⟨by omega,by omega⟩,aF (n:=now.at' k-ask.at' k) ⟨by omega,by omega⟩,aF ⟨by omega,by omega⟩,<- ep];refine s8.aJ 1 rfl hk' rfl λ w9 s9=>?_;rw[I6.iw _ _ _ hk'] at s9;exact s9
   ·refine cF (dF g) ?_;rw[Bb,if_neg g] at ep;have:I6.mix (k+1) (qw sup tot now ask) ask=I6.mix k (qw sup tot now ask) ask:=by
     refine I6.ext' λ j hj=>?_;rw[I6.cv _ _ _ _ hj,I6.cv _ _ _ _ hj]
     by_cases h3:j<k
     ·rw[if_pos (by omega),if_pos h3]
     ·rw[if_neg h3]
      split
      ·obtain rfl:j=k:=by omega
       exact ep
      ·rfl
    show I (k+1) _;simp only[I];rw[this]; exact s7
 ·obtain rfl:k=6:=by omega
  exact cF (by simp) ⟨_,St.cellsIn s6 1 rfl,St.aC s6 0 rfl (qw sup tot now ask).vs rfl (I6.one _) λ w8 s8=>⟨_,s8.cellsIn 0 rfl,rfl,s8.aA⟩⟩
theorem OS{w:World}{p:Int}(hp:1<=p/\p<=3){sup:I6}(hs:I6.Le sup 4){a1 a2:OA}{c1 c2:Nat}{l1 l2:List I6}(h1:L4 w a1 l1)(h2:L4 w a2 l2)(hl:l2.length=l1.length)(h8:l1.length<=8)(b1:∀ u∈l1,I6.Le u 4)(b2:∀ u∈l2,I6.Le u 4) :
  CP 194 #[iv p,.agg sup.vs.toArray,.slice a1 l1.length c1,.slice a2 l2.length c2] w (λ r w'=>r=iv 0/\Chg w w' []):=by
 refine ug ?_;unfold oL;refine(St.start w).one.aB sup.vs.toArray λ r1 w1 s1=>⟨λ b w2=>b=false/\w2=w1,?_,cF (dF (by omega)) ⟨dF (by omega),rfl⟩⟩;rintro w2 b ⟨rfl,rfl⟩ -;refine cF rfl ⟨λ b w3=>b=false/\w3=w2,?_,cF (by simp[hl]) ⟨dF (by omega),rfl⟩⟩;rintro w3 b ⟨rfl,rfl⟩ -;refine cF rfl ⟨_,s1.cellsIn 0 rfl,an (de w3 sup) ?_⟩;rintro v w4 ⟨rfl,c4⟩;have s4:=s1.quiet c4;refine⟨_,rfl,cF (by rw[leq hs]; rfl) ⟨λ n w5 m=>∃ k:Nat,n=k/\k<=2/\m=2-k/\Chg w w5 [],⟨2,0,rfl,by omega,by omega,s4.aA⟩,?_⟩⟩;rintro w5 m n ⟨k,rfl,hk,hm,c5⟩ -
 by_cases hlt:(k:Int)<2
 ·have hk' : k<2:=by omega
  obtain⟨a,c,l,e1,hr,hb,hl8⟩:∃ (a:OA) (c:Nat) (l:List I6),(#[.slice a1 l1.length c1,.slice a2 l2.length c2]:Array Value)[(k:Int).toNat*1]?=some (.slice a l.length c)/\L4 w a l/\(∀ u∈l,I6.Le u 4)/\l.length<=8:=by
   match k,hk' with
   | 0,_=>exact⟨a1,c1,l1,rfl,h1,b1,h8⟩
   | 1,_=>exact⟨a2,c2,l2,rfl,h2,b2,by omega⟩
  refine cT (dT hlt) ⟨by omega,by omega,_,_,_,e1,λ n w6 m=>∃ j:Nat,n=j/\j<=l.length/\m=l.length-j/\Chg w w6 [],⟨l.length,0,rfl,by omega,by omega,c5⟩,?_⟩;rintro w6 m6 n6 ⟨j,rfl,hj,hm6,c6⟩ -
  by_cases hlt6:(j:Int)<(l.length:Int)
  ·have hx:l[j]?=some (l[j]'(by omega)):=gE (by omega);generalize l[j]'(by omega)=x at hx;obtain⟨q,hq,hcl⟩:=(hr.aA c6).at hx;refine cT (by simpa using hlt6) ?_;rw[hq];refine⟨by omega,by omega,x,hcl,(St.start' c6).one.aB z6.vs.toArray λ r2 w7 s7=>s7.aC 0 rfl x.vs rfl (I6.one _) λ w8 s8=>⟨_,s8.cellsIn 0 rfl,an (de w8 x) ?_⟩⟩;rintro v w9 ⟨rfl,c9⟩;exact⟨_,rfl,cF (by rw[leq (hb x (List.mem_of_getElem? hx))]; rfl) ⟨l.length-(j+1),by omega,j+1,aF ⟨by omega,by omega⟩,by omega,rfl,(s8.quiet c9).aA⟩⟩
  ·exact cF (by simpa using hlt6) ⟨2-(k+1),by omega,k+1,inc (by decide) hk',by omega,rfl,c6⟩
 ·exact cF (dF hlt) ⟨rfl,c5⟩
def ob(p:Int)(sup:I6)(out:List I6)(i:Nat)(ask:I6):List I6 :=
 if p=2 then (if kg sup (dr out) (out.getD i z6) ask then out else out.set i ask)
 else if p=3 then out.set i (qw sup (dr out) (out.getD i z6) ask) else out.set i ask
def yG(p:Int)(sup:I6)(bef asked:List I6):Nat->List I6
 | 0=>bef
 | k+1=>ob p sup (yG p sup bef asked k) k (asked.getD k z6)
def Yd(p:Int)(sup:I6)(bef asked:List I6):List I6:=yG p sup bef asked asked.length
theorem zE{l:List I6}{B:Int}(h:∀ u∈l,I6.Le u B)(hB:0<=B)(i:Nat):I6.Le (l.getD i z6) B:=by
 rw[List.getD_eq_getElem?_getD]
 cases hg:l[i]? with
 | none=>exact λ k _=>by rw[show(none:Option I6).getD z6=z6 from rfl,wq]; omega
 | some u=>exact h u (List.mem_of_getElem? hg)
theorem IB{l:List I6}{B:Int}(h:∀ u∈l,I6.Le u B){x:I6}(hx:I6.Le x B)(i:Nat):∀ u∈l.set i x,I6.Le u B:=λ u hu=>by
 rcases List.mem_or_eq_of_mem_set hu with h' | rfl
 ·exact h u h'
 ·exact hx
theorem LM{p:Int}{sup:I6}{out:List I6}{i:Nat}{ask:I6}{B:Int}(hB:0<=B)(h:∀ u∈out,I6.Le u B)(ha:I6.Le ask B):(ob p sup out i ask).length=out.length/\∀ u∈ob p sup out i ask,I6.Le u B:=by
 unfold ob
 split
 ·split
  ·exact⟨rfl,h⟩
  ·exact⟨by simp,IB h ha i⟩
 ·split
  ·exact⟨by simp,IB h (NT (zE h hB i) ha) i⟩
  ·exact⟨by simp,IB h ha i⟩
theorem ET{p:Int}{sup:I6}{bef asked:List I6}{B:Int}(hB:0<=B)(h:∀ u∈bef,I6.Le u B)(ha:∀ u∈asked,I6.Le u B):∀ k,(yG p sup bef asked k).length=bef.length/\∀ u∈yG p sup bef asked k,I6.Le u B
 | 0=>⟨rfl,h⟩
 | k+1=>by
  obtain⟨h1,h2⟩:=ET (p:=p) (sup:=sup) hB h ha k;obtain⟨h3,h4⟩:=LM (p:=p) (sup:=sup) (i:=k) hB h2 (zE ha hB k);exact⟨h3.trans h1,h4⟩
theorem OR{w0 w:World}{B:aG}(s:St w0 w B){p:Int}(hp:1<=p/\p<=3){sup:I6}(hs:I6.Le sup 4){a1 a2:OA}{c1 c2:Nat}{l1 l2:List I6}(h1:L4 w a1 l1)(h2:L4 w a2 l2)(hl:l2.length=l1.length)(h8:l1.length<=8)(b1:∀ u∈l1,I6.Le u 4)(b2:∀ u∈l2,I6.Le u 4) :
  CP 167 #[iv p,.agg sup.vs.toArray,.slice a1 l1.length c1,.slice a2 l2.length c2] w (λ r w'=>∃ a c,r=.tuple #[.slice a l1.length c,iv 0]/\St w0 w' (star (eJ a c (Yd p sup l1 l2)) B)/\Chg w w' []):=by
 refine uf ?_;unfold oK;refine(St.start w).one.aB sup.vs.toArray λ r1 w1 t1=>⟨_,t1.cellsIn 0 rfl,an (OS hp hs (h1.aA t1.aA) (h2.aA t1.aA) hl h8 b1 b2) ?_⟩;rintro v w2 ⟨rfl,c2⟩;have t2:=t1.quiet c2;refine⟨_,rfl,cF rfl (an (Ms t2 (h1.aA t2.aA) (by omega)) ?_)⟩;rintro v w3 ⟨a,c,rfl,t3⟩;refine⟨_,_,_,rfl,?_⟩;have len:∀ k,(yG p sup l1 l2 k).length=l1.length:=λ k=>(ET (B:=4) (by omega) b1 b2 k).1;have le4:∀ k,∀ u∈yG p sup l1 l2 k,I6.Le u 4:=λ k=>(ET (B:=4) (by omega) b1 b2 k).2;have up:∀ {u:I6},I6.Le u 4->I6.Le u 1000000:=λ h k hk=>by have:=h k hk; omega
 have tsum:∀ k,I6.Le (dr (yG p sup l1 l2 k)) 1000000:=λ k j hj=>by
  have:=zS (le4 k) j hj;rw[dr,I6.yh _ _ hj];have:=len k;omega
 let Q:Nat->aG:=λ k=>Sep [eJ a c (yG p sup l1 l2 k),ai r1 sup.vs.toArray 39,emp];refine⟨λ n w4 m=>∃ k:Nat,n=k/\k<=l2.length/\m=l2.length-k/\St w w4 (Q k),⟨l2.length,0,rfl,by omega,by omega,t3⟩,?_⟩;rintro w4 m n ⟨k,rfl,hk,hm,t4⟩ -
 by_cases hlt:(k:Int)<(l2.length:Int)
 ·have hx:l2[k]?=some (l2[k]'(by omega)):=gE (by omega);generalize l2[k]'(by omega)=x at hx;have hxD:l2.getD k z6=x:=by rw[List.getD_eq_getElem?_getD,hx]; rfl
  have hx4:=b2 x (List.mem_of_getElem? hx);have hk1:k<l1.length:=by omega
  obtain⟨q,hq,hcl⟩:=(h2.aA (St.aA t4)).at hx;have hg:∃ g,a=some ⟨g,0,none⟩:=St.nQ (l:=yG p sup l1 l2 k) (St.out t4 0 rfl) (by rw[len]; omega);obtain⟨g,rfl⟩:=hg;have hnow:(yG p sup l1 l2 k)[k]?=some ((yG p sup l1 l2 k).getD k z6):=by
   rw[List.getD_eq_getElem?_getD,gE (by rw[len]; exact hk1)]; rfl
  have hnow4:=zE (le4 k) (by omega) k;refine cT (by simpa using hlt) ⟨λ w5=>St w w5 (Q (k+1)),?_,?_⟩
  ·rintro w5 t5 -;exact⟨l2.length-(k+1),by omega,k+1,aF ⟨by omega,by omega⟩,by omega,rfl,t5⟩
  rw[hq];refine⟨by omega,by omega,x,hcl,St.aB t4 z6.vs.toArray λ r2 w6 t6=>t6.aC 0 rfl x.vs rfl (I6.one _) λ w7 t7=>?_⟩;have rd7:L4 w7 (some ⟨g,0,none⟩) (yG p sup l1 l2 k):=St.rd aR (t7.out 1 rfl);have hsum:=WJ (c:=c) rd7 (λ u hu=>up (le4 k u hu)) (by rw[len]; omega);rw[len] at hsum;refine an hsum ?_;rintro v w8 ⟨rfl,c8⟩;refine⟨_,rfl,(t7.quiet c8).aB z6.vs.toArray λ r3 w9 t9=>t9.aC 0 rfl (dr (yG p sup l1 l2 k)).vs rfl (I6.one _) λ w10 t10=>?_⟩;generalize htot:dr (yG p sup l1 l2 k)=tot at t10;have ht6:I6.Le tot 1000000:=htot▸tsum k;let now:=(yG p sup l1 l2 k).getD k z6;have rdN:∀ {w' : World} {l:List aG} {y:I6},St w w' (Sep (ai r3 tot.vs.toArray 39 :: ai r2 y.vs.toArray 39 :: eJ (some ⟨g,0,none⟩) c (yG p sup l1 l2 k) :: l))->af w' (Addr.add ⟨g,0,none⟩ (((k:Nat):Int).toNat*6)) 0 now.vs:=λ t=>by
   obtain⟨q',hq',hc'⟩:=bG.at (St.rd aR (t.out 2 rfl)) hnow
   cases hq'; exact hc'
  have t10' : St w w10 (Sep [ai r3 tot.vs.toArray 39,ai r2 x.vs.toArray 39,eJ (some ⟨g,0,none⟩) c (yG p sup l1 l2 k),ai r1 sup.vs.toArray 39,emp]):=t10;have t11:=t10'.quiet (Chg.drew w10 []);refine⟨λ w'=>∃ y:I6,yG p sup l1 l2 (k+1)=(yG p sup l1 l2 k).set k y/\St w w' (Sep [ai r3 tot.vs.toArray 39,ai r2 y.vs.toArray 39,eJ (some ⟨g,0,none⟩) c (yG p sup l1 l2 k),ai r1 sup.vs.toArray 39,emp]),?_,?_⟩
  ·rintro w11 ⟨y,ey,t⟩ -;refine⟨_,t.cellsIn 1 rfl,by omega,by omega,?_⟩;rw[Int.toNat_natCast];refine St.yB aR (I6.one y) (t.out 2 rfl) (i:=k) (by rw[len]; exact hk1) λ w12 t12=>?_;show St w w12 (Q (k+1));simp only[Q];rw[ey];exact(t12.back (l:=[ai r3 tot.vs.toArray 39,ai r2 y.vs.toArray 39,eJ (some ⟨g,0,none⟩) c (yG p sup l1 l2 k),ai r1 sup.vs.toArray 39,emp]) (i:=2) (by simp)).ay [2,3,4]
  ·have estep:yG p sup l1 l2 (k+1)=ob p sup (yG p sup l1 l2 k) k x:=by show ob _ _ _ _ (l2.getD k z6)=_; rw[hxD]
   by_cases p2:p=2
   ·refine cT (by simpa using p2) ⟨_,t11.cellsIn 3 rfl,_,t11.cellsIn 0 rfl,by omega,by omega,_,rdN t11,_,t11.cellsIn 1 rfl,an (Ls _ sup tot now x (up hs) ht6 (up hnow4) (up hx4)) ?_⟩;rintro v w13 ⟨rfl,c13⟩;refine⟨_,rfl,?_⟩;have t13:=t11.quiet c13;have e2:yG p sup l1 l2 (k+1)=if kg sup tot now x then yG p sup l1 l2 k else (yG p sup l1 l2 k).set k x:=by
     rw[estep,ob,if_pos p2,htot]
    cases hr:kg sup tot now x with
    | true =>
     refine cT rfl ?_;rw[hr,if_pos rfl] at e2;show St w w13 (Q (k+1));simp only[Q];rw[e2];exact t13.ay [2,3,4]
    | false =>
     rw[hr] at e2;exact cF rfl ⟨x,e2,t13⟩
   ·refine cF (by simpa using p2) ?_
    by_cases p3:p=3
    ·refine cT (by simpa using p3) ⟨_,t11.cellsIn 3 rfl,_,t11.cellsIn 0 rfl,by omega,by omega,_,rdN t11,_,t11.cellsIn 1 rfl,an (NU _ sup tot now x (up hs) ht6 (up hnow4) (up hx4)) ?_⟩;rintro v w14 ⟨rfl,c14⟩;refine⟨_,rfl,(t11.quiet c14).aC 1 rfl (qw sup tot now x).vs rfl (I6.one _) λ w15 t15=>⟨_,?_,t15⟩⟩;rw[estep,ob,if_neg p2,if_pos p3,htot]
    ·refine cF (by simpa using p3) ⟨x,?_,t10'⟩;rw[estep,ob,if_neg p2,if_neg p3]
 ·obtain rfl:k=l2.length:=by omega
  refine cF (by simp) ⟨a,c,rfl,?_,St.aA t4⟩;exact(s.after (St.ay t4 [0]).single)
structure Br where
 nm:List UInt8
 cls:Int
 bud:Int
 pts:Int
def Br.cells(p:Br):List Value:=[sv p.nm,iv p.cls,iv p.bud,iv p.pts]
def Br.In(p:Br):Prop:=Go.Vc.In p.cls/\Go.Vc.In p.bud/\Go.Vc.In p.pts
def lJ(w:World)(a:OA)(l:List Br):Prop:=∀ (i:Nat) (p:Br),l[i]?=some p->p.In/\∃ q,a=some q/\af w (q.add (i*4)) 0 p.cells
theorem lJ.aA{w w' : World}{a:OA}{l:List Br}(h:lJ w a l)(hc:Chg w w' []):lJ w' a l:=λ i p hp =>
 let ⟨h1,q,hq,h2⟩:=h i p hp
 ⟨h1,q,hq,cA hc h2⟩
theorem lJ.take{w:World}{a:OA}{l:List Br}(h:lJ w a l)(n:Nat):lJ w a (l.take n):=λ i p hp=>by
 rw[List.getElem?_take] at hp
 split at hp
 ·exact h i p hp
 ·cases hp
theorem Br.one(p:Br):∀ v∈p.cells,v.oneCell' = true:=by
 intro v hv; simp[Br.cells] at hv; rcases hv with rfl|rfl|rfl|rfl<;>rfl
theorem On{a:OA}{c:Nat}:(if c=0 then a else Option.map (λ x=>Addr.add x (0*4)) a)=a:=by
 split
 ·rfl
 ·cases a<;>simp[Addr.add]
theorem Ru{w:World}{a:OA}{c:Nat}{l:List Br}(h:lJ w a l)(hl:l.length<=1000)(nm:List UInt8) :
  CP 119 #[.slice a l.length c,sv nm] w (λ r w'=>(∃ k:Int,r=.tuple #[iv k,.bool (l.any λ p=>p.nm==nm)])/\Chg w w' []):=by
 refine CU ?_;unfold Ig;refine⟨λ n w1 m=>∃ k:Nat,n=k/\k<=l.length/\m=l.length-k/\(l.take k).any (λ p=>p.nm==nm)=false/\Chg w w1 [],⟨l.length,0,rfl,by omega,by omega,rfl,Chg.refl _ _⟩,?_⟩;rintro w1 m n ⟨k,rfl,hk,hm,ha,hc⟩ -
 by_cases hlt:(k:Int)<(l.length:Int)
 ·have hx:l[k]?=some (l[k]'(by omega)):=gE (by omega);generalize l[k]'(by omega)=x at hx;obtain⟨_,q,rfl,hcl⟩:=(h.aA hc) k x hx;refine cT (by simpa using hlt) ⟨by omega,by omega,_,_,_,_,hcl,aL ?_⟩;refine((St.start' hc).one.cN _ 92).aC 0 rfl x.cells rfl x.one λ w3 s3=>?_;refine⟨_,by rw[s3.ag 0 rfl]; rfl,?_⟩
  by_cases hn:x.nm=nm
  ·exact cT (by rw[hn]; simp) ⟨⟨k,by rw[kM hx (by simpa using hn)]⟩,s3.aA⟩
  ·exact cF (by rw[jy,jy]; simpa using hn) ⟨l.length-(k+1),by omega,k+1,by rw[aF ⟨by omega,by omega⟩]; rfl,by omega,rfl,iB ha hx (by simpa using hn),s3.aA⟩
 ·refine cF (by simpa using hlt) ⟨⟨0,?_⟩,hc⟩;rw[List.take_of_length_le (by omega)] at ha;rw[ha]
def DF(x:Br):Bool:=(decide (0<=x.cls)&&decide (x.cls<=4))&&((decide (0<=x.bud)&&decide (x.bud<=1000000))&&(decide (0<=x.pts)&&decide (x.pts<=24000)))
def zv(l:List Br)(i:Nat)(p:Br):Prop:=(gm p.nm&&DF p)=true/\((l.take i).any λ q=>q.nm==p.nm)=false
structure IX (l:List Br):Prop where
 l1:1<=l.length
 l2:l.length<=8
 good:∀ i p,l[i]?=some p->zv l i p
theorem rj{x:Br}(hh : ¬ (0<=x.cls/\x.cls<=4/\0<=x.bud/\x.bud<=1000000/\0<=x.pts/\x.pts<=24000)):true = !DF x:=by
 cases hr:DF x with
 | false=>rfl
 | true =>
  exfalso; apply hh
  simp only[DF,Bool.and_eq_true,decide_eq_true_eq] at hr;omega
def Pv(l:List Br)(i:Nat)(p:Br):Int:=if gm p.nm=false then 5 else if ((l.take i).any λ q=>q.nm==p.nm) then 7 else if DF p=false then 4 else 0
theorem Fj{l:List Br}{i:Nat}{p:Br}(h:zv l i p):Pv l i p=0:=by
 obtain⟨h1,h2⟩:=h;rw[Bool.and_eq_true] at h1;rw[Pv,h1.1,h2,h1.2]; rfl
def LS(l:List Br):Int:=if l.length=0 then 1 else if 8<l.length then 3 else gi (Pv l) 0 l
theorem Lp{w:World}{a:OA}{c:Nat}{l:List Br}(h:lJ w a l)(hcap:l.length<=c) :
  CP 80 #[.slice a l.length c] w ((Dt (IX l) (LS l) w)):=by
 refine H9 ?_;unfold JM
 by_cases h0:l.length=0
 ·exact cT (by rw[h0]; rfl) (bt (by decide) (λ hp=>by have:=hp.l1; omega) (Chg.refl _ _) (by rw[LS,if_pos h0]))
 refine cF (by simpa using h0) ?_;rcases Nat.lt_or_ge 8 l.length with h6|h6
 ·exact cT (dT (by omega)) (bt (by decide) (λ hp=>by have:=hp.l2; omega) (Chg.refl _ _) (by rw[LS,if_neg h0,if_pos h6]))
 refine cF (dF (by omega)) ⟨λ n w1 m=>∃ k:Nat,n=k/\k<=l.length/\m=l.length-k/\(∀ i p,i<k->l[i]?=some p->zv l i p)/\Chg w w1 [],⟨l.length,0,rfl,by omega,by omega,λ i p hi=>by omega,Chg.refl _ _⟩,?_⟩;rintro w1 m n ⟨k,rfl,hk,hm,ha,hc⟩ -
 by_cases hlt:(k:Int)<(l.length:Int)
 ·have hx:l[k]?=some (l[k]'(by omega)):=gE (by omega);generalize l[k]'(by omega)=x at hx;obtain⟨_,q,hq,hcl⟩:=(h.aA hc) k x hx;have bad : ¬ zv l k x->¬ IX l:=λ hb hp=>hb (hp.good k x hx);have bk:∀ {e:Int},e≠0->Pv l k x=e->LS l=e:=λ he h=>by
   have:=mC (f:=Pv l) (n:=0) (λ i p hi hp=>by rw[Nat.zero_add]; exact Fj (ha i p hi hp)) hx (by rw[Nat.zero_add,h]; exact he);rw[Nat.zero_add,h] at this;rw[LS,if_neg h0,if_neg (by omega),this]
  refine cT (by simpa using hlt) ?_;rw[hq];refine⟨by omega,by omega,_,_,_,_,hcl,aL ?_⟩;refine((St.start' hc).one.cN _ 92).aC 0 rfl x.cells rfl x.one λ w3 s3=>?_;generalize hr1:w1.heap.size=r1 at s3 ⊢;have cx:∀ {w' : World},Chg w3 w' []->∀ (j:Nat) (v:Value),x.cells[j]?=some v->w'.cell? ⟨r1,j,none⟩=some v:=λ hc j v hv=>dh (by rw[s3.ag 0 rfl]; simpa using hv) hc;refine⟨_,cx (Chg.refl _ _) 0 _ rfl,an (AR w3 x.nm) ?_⟩;rintro v w4 ⟨rfl,rfl⟩;refine⟨_,rfl,?_⟩
  cases hn:gm x.nm with
  | false=>exact cT rfl (bt (by decide) (bad λ hg=>by have:=hg.1; simp[hn] at this) s3.aA (bk (by decide) (by rw[Pv,hn]; rfl)))
  | true =>
   have d4:Chg w4 w4.drew []:=Chg.drew w4 [];refine cF rfl ⟨by omega,by omega,_,cx d4 0 _ rfl,?_⟩;rw[<- hq,On];have hf:=Ru (c:=c-0) ((h.aA (s3.aA.trans d4 (by simp))).take k) (by rw[List.length_take]; omega) x.nm;rw[List.length_take,Nat.min_eq_left hk] at hf;refine an hf ?_;rintro v w5 ⟨⟨kk,rfl⟩,c5⟩;have d5:Chg w4 w5 []:=d4.trans c5 (by simp);refine⟨_,_,rfl,?_⟩
   cases hany:((l.take k).any λ p=>p.nm==x.nm) with
   | true=>exact cT rfl (bt (by decide) (bad λ hg=>by have:=hg.2; rw[hany] at this; cases this) (s3.aA.trans d5 (by simp)) (bk (by decide) (by rw[Pv,hn,hany]; rfl)))
   | false =>
    refine cF rfl ⟨λ b w6=>w6=w5/\b = !DF x,?_,?_⟩
    ·rintro w6 b ⟨rfl,rfl⟩ -;have c7:=s3.aA.trans d5 (by simp)
     cases hr:DF x with
     | false=>exact cT rfl (bt (by decide) (bad λ hg=>by have:=hg.1; simp[hr] at this) c7 (bk (by decide) (by rw[Pv,hn,hany,hr]; rfl)))
     | true =>
      refine cF rfl ⟨l.length-(k+1),by omega,k+1,by rw[aF ⟨by omega,by omega⟩]; rfl,by omega,rfl,λ i p hi hp=>?_,c7⟩;rcases Nat.lt_or_ge i k with h' | h'
      ·exact ha i p h' hp
      ·obtain rfl:i=k:=by omega
       rw[hx] at hp; cases hp;exact⟨by simp[hn,hr],hany⟩
    ·refine⟨_,cx d5 1 _ rfl,?_⟩
     by_cases g1:x.cls<0
     ·exact cT (dT g1) ⟨rfl,rj (by omega)⟩
     refine cF (dF g1) ⟨_,cx d5 1 _ rfl,?_⟩
     by_cases g2:x.cls>4
     ·exact cT (dT g2) ⟨rfl,rj (by omega)⟩
     refine cF (dF g2) ⟨_,cx d5 2 _ rfl,?_⟩
     by_cases g3:x.bud<0
     ·exact cT (dT g3) ⟨rfl,rj (by omega)⟩
     refine cF (dF g3) ⟨_,cx d5 2 _ rfl,?_⟩
     by_cases g4:x.bud>1000000
     ·exact cT (dT g4) ⟨rfl,rj (by omega)⟩
     refine cF (dF g4) ⟨_,cx d5 3 _ rfl,?_⟩
     by_cases g5:x.pts<0
     ·exact cT (dT g5) ⟨rfl,rj (by omega)⟩
     refine cF (dF g5) ⟨_,cx d5 3 _ rfl,rfl,?_⟩
     by_cases g6:x.pts>24000
     ·rw[dT g6]; exact rj (by omega)
     ·rw[dF g6];have:DF x=true:=by simp only[DF,Bool.and_eq_true,decide_eq_true_eq]; omega
      rw[this]; rfl
 ·obtain rfl:k=l.length:=by omega
  exact cF (by simp) (ry ⟨by omega,h6,λ i p hp=>ha i p (List.getElem?_eq_some_iff.1 hp).1 hp⟩ hc (by rw[LS,if_neg h0,if_neg (by omega),iJ λ i p hp=>by rw[Nat.zero_add]; exact Fj (ha i p (List.getElem?_eq_some_iff.1 hp).1 hp)]))
structure T3 where
 a:Int
 b:Int
 c:Int
def T3.cells(p:T3):List Value:=[iv p.a,iv p.b,iv p.c]
def E6(w:World)(a:OA)(l:List T3):Prop:=∀ (i:Nat) (p:T3),l[i]?=some p->∃ q,a=some q/\af w (q.add (i*3)) 0 p.cells
theorem E6.aA{w w' : World}{a:OA}{l:List T3}(h:E6 w a l)(hc:Chg w w' []):E6 w' a l:=λ i p hp =>
 let ⟨q,hq,h2⟩:=h i p hp
 ⟨q,hq,cA hc h2⟩
theorem T3.one(p:T3):∀ v∈p.cells,v.oneCell' = true:=by
 intro v hv; simp[T3.cells] at hv; rcases hv with rfl|rfl|rfl<;>rfl
theorem slice3{a:OA}{c:Nat}:(if c=0 then a else Option.map (λ x=>Addr.add x (0*3)) a)=a:=by
 split
 ·rfl
 ·cases a<;>simp[Addr.add]
def Co(n:Nat)(x:T3):Bool:=(decide (-1<=x.a)&&decide (x.a<(n:Int)))&&((decide (0<=x.b)&&decide (x.b<=4))&&(decide (0<=x.c)&&decide (x.c<=24)))
def lz(x y:T3):Bool:=y.a==x.a&&y.b==x.b
def IY(n:Nat)(l:List T3)(i:Nat)(p:T3):Prop:=Co n p=true/\((l.take i).any λ q=>lz p q)=false
structure Ds (n:Nat) (l:List T3):Prop where
 l1:l.length<=16
 good:∀ i p,l[i]?=some p->IY n l i p
def PG(n:Nat)(l:List T3)(i:Nat)(x:T3):Int:=if (decide (-1<=x.a)&&decide (x.a<(n:Int)))=false then 6 else if ((decide (0<=x.b)&&decide (x.b<=4))&&(decide (0<=x.c)&&decide (x.c<=24)))=false then 4 else if ((l.take i).any λ q=>lz x q) then 7 else 0
theorem Fx{n:Nat}{l:List T3}{i:Nat}{p:T3}(h:IY n l i p):PG n l i p=0:=by
 obtain⟨h1,h2⟩:=h;unfold Co at h1;rw[Bool.and_eq_true] at h1;rw[PG,h1.1,h1.2,h2]; rfl
def Mw(n:Nat)(l:List T3):Int:=if 16<l.length then 3 else gi (PG n l) 0 l
theorem Pw{w:World}{a1 a2 a3 a4:OA}{l1 c1 l2 c2 c3 l4 c4:Nat}{l:List T3}(h:E6 w a3 l)(hcap:l.length<=c3) :
  CP 81 #[.agg #[.slice a1 l1 c1,.slice a2 l2 c2,.slice a3 l.length c3,.slice a4 l4 c4]] w ((Dt (Ds l2 l) (Mw l2 l) w)):=by
 refine Ba ?_;unfold yj;refine aL ?_;have s1:=(St.start w).one.cN #[.slice a1 l1 c1,.slice a2 l2 c2,.slice a3 l.length c3,.slice a4 l4 c4] 34;generalize hw1:w.alloc _=w1 at s1 ⊢;generalize hr1:w.heap.size=r1 at s1 ⊢;have cb:∀ {w' : World},Chg w1 w' []->∀ (j:Nat) (v:Value),(#[.slice a1 l1 c1,.slice a2 l2 c2,.slice a3 l.length c3,.slice a4 l4 c4]:Array Value)[j]?=some v->w'.cell? ⟨r1,j,none⟩=some v:=λ hc j v hv=>dh (by rw[s1.ag 0 rfl]; exact hv) hc;have z1:Chg w1 w1 []:=Chg.refl _ _;refine⟨_,_,_,cb z1 2 _ rfl,?_⟩;rcases Nat.lt_or_ge 16 l.length with h6|h6
 ·exact cT (dT (by omega)) (bt (by decide) (λ hp=>by have:=hp.l1; omega) s1.aA (by rw[Mw,if_pos h6]))
 refine cF (dF (by omega)) ⟨_,_,_,cb z1 2 _ rfl,λ n w2 m=>∃ k:Nat,n=k/\k<=l.length/\m=l.length-k/\(∀ i p,i<k->l[i]?=some p->IY l2 l i p)/\Chg w1 w2 [],⟨l.length,0,rfl,by omega,by omega,λ i p hi=>by omega,z1⟩,?_⟩;rintro w2 m n ⟨k,rfl,hk,hm,ha,hc⟩ -;have hcw:Chg w w2 []:=s1.aA.trans hc (by simp)
 by_cases hlt:(k:Int)<(l.length:Int)
 ·have hx:l[k]?=some (l[k]'(by omega)):=gE (by omega);generalize l[k]'(by omega)=x at hx;obtain⟨q,hq,hcl⟩:=(h.aA hcw) k x hx;have bad : ¬ IY l2 l k x->¬ Ds l2 l:=λ hb hp=>hb (hp.good k x hx);have bk:∀ {e:Int},e≠0->PG l2 l k x=e->Mw l2 l=e:=λ he h=>by
   have:=mC (f:=PG l2 l) (n:=0) (λ i p hi hp=>by rw[Nat.zero_add]; exact Fx (ha i p hi hp)) hx (by rw[Nat.zero_add,h]; exact he);rw[Nat.zero_add,h] at this;rw[Mw,if_neg (by omega),this]
  refine cT (by simpa using hlt) ?_;rw[hq];refine⟨by omega,by omega,_,_,_,hcl,aL ?_⟩;refine((St.start w2).one.cN _ 95).aC 0 rfl x.cells rfl x.one λ w4 s4=>?_;generalize hr2:w2.heap.size=r2 at s4 ⊢;have d4:Chg w1 w4 []:=hc.trans s4.aA (by simp);have cw4:Chg w w4 []:=s1.aA.trans d4 (by simp);have cx:∀ {w' : World},Chg w4 w' []->∀ (j:Nat) (v:Value),x.cells[j]?=some v->w'.cell? ⟨r2,j,none⟩=some v:=λ hc j v hv=>dh (by rw[s4.ag 0 rfl]; simpa using hv) hc;have z4:Chg w4 w4 []:=Chg.refl _ _;refine⟨λ b w5=>w5=w4/\b = !(decide (-1<=x.a)&&decide (x.a<(l2:Int))),?_,?_⟩
  ·rintro w5 b ⟨rfl,rfl⟩ -
   cases g0:(decide (-1<=x.a)&&decide (x.a<(l2:Int))) with
   | false=>exact cT rfl (bt (by decide) (bad λ hg=>by have:=hg.1; unfold Co at this; rw[g0] at this; cases this) cw4 (bk (by decide) (by rw[PG,g0]; rfl)))
   | true =>
    refine cF rfl ⟨λ b w6=>w6=w5/\b = !((decide (0<=x.b)&&decide (x.b<=4))&&(decide (0<=x.c)&&decide (x.c<=24))),?_,?_⟩
    ·rintro w6 b ⟨rfl,rfl⟩ -
     cases g1:((decide (0<=x.b)&&decide (x.b<=4))&&(decide (0<=x.c)&&decide (x.c<=24))) with
     | false=>exact cT rfl (bt (by decide) (bad λ hg=>by have:=hg.1; unfold Co at this; rw[g0,g1] at this; cases this) cw4 (bk (by decide) (by rw[PG,g0,g1]; rfl)))
     | true =>
      refine cF rfl ⟨_,_,_,cb d4 2 _ rfl,by omega,by omega,λ n w7 m=>∃ j:Nat,n=j/\j<=k/\m=k-j/\(l.take j).any (λ p=>lz x p)=false/\Chg w6 w7 [],⟨k,0,rfl,by omega,by omega,rfl,z4⟩,?_⟩;rintro w7 m7 n7 ⟨j,rfl,hj,hm7,hany,c7⟩ -
      by_cases hjk:(j:Int)<(k:Int)
      ·have hy:l[j]?=some (l[j]'(by omega)):=gE (by omega);generalize l[j]'(by omega)=y at hy;obtain⟨q',hq',hcl'⟩:=(h.aA (cw4.trans c7 (by simp))) j y hy;rw[hq] at hq'; cases hq';refine cT (by simpa using hjk) ?_;rw[slice3,hq];refine⟨by omega,by simpa using hjk,_,_,_,hcl',aL ?_⟩;refine((St.start' c7).one.cN _ 95).aC 0 rfl y.cells rfl y.one λ w9 s9=>?_;have cy:∀ (j:Nat) (v:Value),y.cells[j]?=some v->w9.cell? ⟨w7.heap.size,j,none⟩=some v:=λ j v hv=>by rw[s9.ag 0 rfl]; simpa using hv
       refine⟨λ b w10=>w10=w9/\b=lz x y,?_,_,cy 0 _ rfl,_,cx s9.aA 0 _ rfl,?_⟩
       ·rintro w10 b ⟨rfl,rfl⟩ -
        cases hs:lz x y with
        | true =>
         have h2:(l.take k)[j]?=some y:=by rw[List.getElem?_take,if_pos (by omega)]; exact hy
         have h3:=kM (p:=λ q=>lz x q) h2 hs;refine cT rfl (bt (by decide) (bad λ hg=>?_) (cw4.trans s9.aA (by simp)) (bk (by decide) (by rw[PG,g0,g1,h3]; rfl)));have h1:=hg.2;rw[h3] at h1
         cases h1
        | false=>exact cF rfl ⟨k-(j+1),by omega,j+1,by rw[aF ⟨by omega,by omega⟩]; rfl,by omega,rfl,iB hany hy hs,s9.aA⟩
       ·by_cases hA:y.a=x.a
        ·refine cT (by simpa using hA) ⟨_,cy 1 _ rfl,_,cx s9.aA 1 _ rfl,rfl,?_⟩;simp[lz,hA]
        ·exact cF (by simpa using hA) ⟨rfl,by simp[lz,hA]⟩
      ·obtain rfl:j=k:=by omega
       refine cF (by simp) ⟨l.length-(j+1),by omega,j+1,by rw[aF ⟨by omega,by omega⟩]; rfl,by omega,rfl,λ i p hi hp=>?_,d4.trans c7 (by simp)⟩;rcases Nat.lt_or_ge i j with h' | h'
       ·exact ha i p h' hp
       ·obtain rfl:i=j:=by omega
        rw[hx] at hp; cases hp;exact⟨by unfold Co; rw[g0,g1]; rfl,hany⟩
    ·have no : ¬ (0<=x.b/\x.b<=4/\0<=x.c/\x.c<=24)->true = !((decide (0<=x.b)&&decide (x.b<=4))&&(decide (0<=x.c)&&decide (x.c<=24))):=λ hh=>by
      cases hr:((decide (0<=x.b)&&decide (x.b<=4))&&(decide (0<=x.c)&&decide (x.c<=24))) with
      | false=>rfl
      | true =>
       exfalso; apply hh
       simp only[Bool.and_eq_true,decide_eq_true_eq] at hr;omega
     refine⟨_,cx z4 1 _ rfl,?_⟩
     by_cases g1:x.b<0
     ·exact cT (dT g1) ⟨rfl,no (by omega)⟩
     refine cF (dF g1) ⟨_,cx z4 1 _ rfl,?_⟩
     by_cases g2:x.b>4
     ·exact cT (dT g2) ⟨rfl,no (by omega)⟩
     refine cF (dF g2) ⟨_,cx z4 2 _ rfl,?_⟩
     by_cases g3:x.c<0
     ·exact cT (dT g3) ⟨rfl,no (by omega)⟩
     refine cF (dF g3) ⟨_,cx z4 2 _ rfl,rfl,?_⟩
     by_cases g4:x.c>24
     ·rw[dT g4]; exact no (by omega)
     ·rw[dF g4,dT (show 0<=x.b by omega),dT (show x.b<=4 by omega),dT (show 0<=x.c by omega),dT (show x.c<=24 by omega)];rfl
  ·refine⟨_,cx z4 0 _ rfl,?_⟩
   by_cases g1:x.a < -1
   ·exact cT (dT g1) ⟨rfl,by rw[dF (show ¬ -1<=x.a by omega)]; rfl⟩
   ·refine cF (dF g1) ⟨_,cx z4 0 _ rfl,_,_,_,cb d4 1 _ rfl,rfl,?_⟩;rw[dT (show -1<=x.a by omega),Bool.true_and]
    by_cases g2:x.a<(l2:Int)
    ·rw[dT g2,dF (by omega)]; rfl
    ·rw[dF g2,dT (by omega)]; rfl
 ·obtain rfl:k=l.length:=by omega
  exact cF (by simp) (ry ⟨h6,λ i p hp=>ha i p (List.getElem?_eq_some_iff.1 hp).1 hp⟩ hcw (by rw[Mw,if_neg (by omega),iJ λ i p hp=>by rw[Nat.zero_add]; exact Fx (ha i p (List.getElem?_eq_some_iff.1 hp).1 hp)]))

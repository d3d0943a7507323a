import Derived.Test.YtmffhopdpbikgaaGreatDoorE03
set_option linter.unusedVariables false
set_option maxRecDepth 100000
namespace Go.Proofs.YtmffhopdpbikgaaGreatDoor
open Go Go.Vc _root_.Go.Proofs.Tryz
def tY(a:I6)(b:OA)(c d:Nat)(w:World)(K:KP):=an w (.cells a.vs.toArray 34) λ a e=>an e (.cells z6.vs.toArray 34) λ e f=>∃ g:I6,af f.drew (qd a 0) 0 g.vs/\CC 181 #[.slice b c d] f.drew λ b c=>∃ d:I6,b=.returned (.agg d.vs.toArray)/\af c (qd a 0) 0 g.vs/\CC 180 #[.agg d.vs.toArray,.agg g.vs.toArray] c λ a b=>∃ c:I6,a=.returned (.agg c.vs.toArray)/\aK (qd e 0) 0 c.vs b λ a=>∃ b:I6,af a (qd e 0) 0 b.vs/\K (.agg b.vs.toArray) a
theorem xm{u1 a1 l1 c1 w K}(h:tY u1 a1 l1 c1 w K):CP 124 #[.agg u1.vs.toArray,.slice a1 l1 c1] w K:=ah (az []) func124 (by kernel_rfl) (by kernel_rfl) h
def zI(a b:I6)(w:World)(K:KP):=an w (.cells a.vs.toArray 254) λ a c=>an c (.cells b.vs.toArray 254) λ b c=>an c (.cells z6.vs.toArray 34) λ c d=>an d (.cells z6.vs.toArray 34) λ d e=>∃ f:Int->qN,(∃ g,f 0 e g)/\∀ e g h,f h e g->∀ i:qv,cond (decide (h<6)) (∃ i:qW,(∀ j,i j->∀ k:qv,∃ k,k<g/\f (IntKind.i64.wrap (h+1)) j k)/\0<=h/\h<6/\∃ f,e.drew.cell? (Addr.add (qd a 0) ((h).toNat*1))=some (iv f)/\0<=h/\h<6/\∃ g,e.drew.cell? (Addr.add (qd b 0) ((h).toNat*1))=some (iv g)/\cond (decide (f>g)) (0<=h/\h<6/\∃ f,e.drew.drew.cell? (Addr.add (qd a 0) ((h).toNat*1))=some (iv f)/\0<=h/\h<6/\∃ a,e.drew.drew.cell? (Addr.add (qd b 0) ((h).toNat*1))=some (iv a)/\0<=h/\h<6/\aM e.drew.drew (Addr.add (qd d 0) ((h).toNat*1)) (iv (IntKind.i64.wrap (f-a))) λ a=>i a) (i e.drew)) (∃ a:I6,af e (qd d 0) 0 a.vs/\aK (qd c 0) 0 a.vs e λ a=>∃ b:I6,af a (qd c 0) 0 b.vs/\K (.agg b.vs.toArray) a)
theorem Ag{u1 u2 w K}(h:zI u1 u2 w K):CP 180 #[.agg u1.vs.toArray,.agg u2.vs.toArray] w K:=ah (az [(58,[(7,.s (.int .i64))]),(467,[])]) func180 (by kernel_rfl) (by kernel_rfl) h
def wv(a:OA)(b c:Nat)(w:World)(K:KP):=an w (.cells z6.vs.toArray 254) λ c d=>an d (.cells z6.vs.toArray 254) λ d e=>∃ f:Int->qN,(∃ g,f 0 e g)/\∀ e g h,f h e g->∀ i:qv,cond (decide (h<(b:Int))) (aq a λ a=>0<=h/\h<(b:Int)/\∃ b:I6,af e (Addr.add a ((h).toNat*6)) 0 b.vs/\an e (.cells z6.vs.toArray 34) λ a i=>aK (qd a 0) 0 b.vs i λ b=>∃ i:Int->qN,(∃ j,i 0 b j)/\∀ b j k,i k b j->∀ l:qv,cond (decide (k<6)) (0<=k/\k<6/\∃ l,b.drew.cell? (Addr.add (qd d 0) ((k).toNat*1))=some (iv l)/\0<=k/\k<6/\∃ m,b.drew.cell? (Addr.add (qd a 0) ((k).toNat*1))=some (iv m)/\0<=k/\k<6/\aM b.drew (Addr.add (qd d 0) ((k).toNat*1)) (iv (IntKind.i64.wrap (l+m))) λ a=>∃ l,l<j/\i (IntKind.i64.wrap (k+1)) a l) (∃ a,a<g/\f (IntKind.i64.wrap (h+1)) b a)) (∃ a:I6,af e (qd d 0) 0 a.vs/\aK (qd c 0) 0 a.vs e λ a=>∃ b:I6,af a (qd c 0) 0 b.vs/\K (.agg b.vs.toArray) a)
theorem zJ{a1 l1 c1 w K}(h:wv a1 l1 c1 w K):CP 181 #[.slice a1 l1 c1] w K:=ah (az [(58,[(9,.s (.int .i64))]),(14950,[(13,.s (.int .i64))])]) func181 (by kernel_rfl) (by kernel_rfl) h
def kH(a b c d:Int)(w:World)(K:KP):=an w (.cells #[iv a,iv b,iv c,iv d] 23) λ a b=>∃ c:Bool->qW,(∀ d e,c e d->∀ f:qv,cond e (K (iv 4) d) (K qz d))/\∃ d,b.cell? (qd a 0)=some (iv d)/\cond (decide (d<1)) (c true b) (∃ d,b.cell? (qd a 0)=some (iv d)/\cond (decide (d>1000000)) (c true b) (∃ d,b.cell? (qd a 1)=some (iv d)/\cond (decide (d<0)) (c true b) (∃ d,b.cell? (qd a 1)=some (iv d)/\cond (decide (d>100)) (c true b) (∃ d,b.cell? (qd a 2)=some (iv d)/\cond (decide (d<1)) (c true b) (∃ d,b.cell? (qd a 2)=some (iv d)/\cond (decide (d>3)) (c true b) (∃ d,b.cell? (qd a 3)=some (iv d)/\cond (decide (d<1)) (c true b) (∃ d,b.cell? (qd a 3)=some (iv d)/\c (decide (d>3)) b)))))))
theorem qo{n1 n2 n3 n4 w K}(h:kH n1 n2 n3 n4 w K):CP 86 #[.agg #[iv n1,iv n2,iv n3,iv n4]] w K:=ah (az [(6,[(40,.s .bool)])]) func86 (by kernel_rfl) (by kernel_rfl) h
def kI(a:OA)(b c:Nat)(w:World)(K:KP):=an w (.cells z6.vs.toArray 53) λ d e=>an e (.cells z6.vs.toArray 53) λ e f=>0<=(if (6:Int)<(b:Int) then (6:Int) else (b:Int))/\(if (6:Int)<(b:Int) then (6:Int) else (b:Int))<=(c:Int)/\∃ g:Int->qN,(∃ h,g 0 f h)/\∀ f h i,g i f h->∀ j:qv,cond (decide (i<(((((if (6:Int)<(b:Int) then (6:Int) else (b:Int))).toNat-0):Nat):Int))) (aq (if c=0 then a else Option.map (λ x=>Addr.add x (0*5)) a) λ a=>0<=i/\i<(((((if (6:Int)<(b:Int) then (6:Int) else (b:Int))).toNat-0):Nat):Int)/\∃ b c j k l,af f (Addr.add a ((i).toNat*5)) 0 [.string b,iv c,iv j,iv k,iv l]/\an f (.cells #[.string (bs []),qz,qz,qz,qz] 120) λ a m=>aK (qd a 0) 0 [.string b,iv c,iv j,iv k,iv l] m λ b=>∃ c,b.cell? (qd a 2)=some (iv c)/\0<=i/\i<6/\aM b (Addr.add (qd e 0) ((i).toNat*1)) (iv c) λ a=>∃ b,b<h/\g (IntKind.i64.wrap (i+1)) a b) (∃ a:I6,af f (qd e 0) 0 a.vs/\aK (qd d 0) 0 a.vs f λ a=>∃ b:I6,af a (qd d 0) 0 b.vs/\K (.agg b.vs.toArray) a)
theorem qq{a1 l1 c1 w K}(h:kI a1 l1 c1 w K):CP 118 #[.slice a1 l1 c1] w K:=ah (az [(58,[(12,.s (.int .i64))])]) func118 (by kernel_rfl) (by kernel_rfl) h
def gG(a:OA)(b c:Nat)(d:OA)(e f:Nat)(g:OA)(h i:Nat)(j:OA)(k l:Nat)(m:Int)(n o:I6)(w:World)(K:KP):=an w (.cells #[.slice a b c,.slice d e f,.slice g h i,.slice j k l] 75) λ a b=>an b (.cells (n.on (o.vs):List Value).toArray 123) λ b c=>∃ d e f g h i j k l n o p,af c (qd a 0) 0 [.slice d e f,.slice g h i,.slice j k l,.slice n o p]/\CC 169 #[.agg #[.slice d e f,.slice g h i,.slice j k l,.slice n o p],iv m] c λ c d=>∃ e,c=.returned (.bool e)/\cond (!e) (K (iv 6) d) (∃ c e f,d.cell? (qd a 1)=some (.slice c e f)/\aq c λ a=>0<=m/\m<(e:Int)/\∃ c,d.cell? (Addr.add (Addr.add a ((m).toNat*4)) 2)=some (iv c)/\∃ a:Bool->qW,(∀ e f,a f e->∀ g:qv,cond f (K (iv 17) e) (K qz e))/\cond (c !=0) (∃ e:I6,af d (qd b 0) 0 e.vs/\∃ f:I6,af d (qd b 6) 0 f.vs/\CC 65 #[.agg e.vs.toArray,.agg f.vs.toArray] d λ b e=>∃ f,b=.returned (iv f)/\a (decide (c<f)) e) (a false d))
theorem lM{a1 l1 c1 a2 l2 c2 a3 l3 c3 a4 l4 c4 n1 u1 u2 w K}(h:gG a1 l1 c1 a2 l2 c2 a3 l3 c3 a4 l4 c4 n1 u1 u2 w K):CP 120 #[.agg #[.slice a1 l1 c1,.slice a2 l2 c2,.slice a3 l3 c3,.slice a4 l4 c4],iv n1,.agg (u1.on (u2.vs):List Value).toArray] w K:=ah (az [(29,[(28,.s .bool)])]) func120 (by kernel_rfl) (by kernel_rfl) h
def mE(a:OA)(b c:Nat)(d:OA)(e f:Nat)(g:OA)(h i:Nat)(j:OA)(k l:Nat)(m n:Int)(o:OA)(p q:Nat)(r s:I6)(w:World)(K:KP):=an w (.cells #[.slice a b c,.slice d e f,.slice g h i,.slice j k l] 75) λ a b=>an b (.cells (r.on (s.vs):List Value).toArray 123) λ b c=>∃ d e f g h i j k l r s t,af c (qd a 0) 0 [.slice d e f,.slice g h i,.slice j k l,.slice r s t]/\an c (.cells #[qn,qn,qn,qn,qz,qn] 247) λ c u=>aK (qd c 0) 0 [.slice d e f,.slice g h i,.slice j k l,.slice r s t,iv n,.slice o p q] u λ d=>∃ e f g h i j k l r s t u v x y z,af d (qd c 0) 0 [.slice e f g,.slice h i j,.slice k l r,.slice s t u,iv v,.slice x y z]/\∃ A:KP,(∀ B,∀ C:Value,A C B->∀ D:qv,∃ D E F G H I J L M N O P,af B (qd a 0) 0 [.slice D E F,.slice G H I,.slice J L M,.slice N O P]/\CC 169 #[.agg #[.slice D E F,.slice G H I,.slice J L M,.slice N O P],iv n] B λ a n=>∃ B,a=.returned (.bool B)/\cond (!B) (K (iv 6) n) (∃ a:I6,af n (qd b 6) 0 a.vs/\CC 47 #[.agg a.vs.toArray] n λ a n=>∃ B,a=.returned (iv B)/\cond (B !=0) (K (iv B) n) (∃ a:KP,(∀ B,∀ D:Value,a D B->∀ E:qv,∃ E F:I6,af B (qd b 0) 0 (E.on (F.vs))/\cr prog D #[.agg (E.on (F.vs):List Value).toArray] B λ b B=>∃ D,b=.returned (.bool D)/\cond (!D) (K (iv 15) B) (K qz B))/\CC 173 #[.slice o p q] n λ b n=>∃ o,b=.returned (.bool o)/\cond o (a (.func (.func 174) #[] #[]) n) (a C n))))/\cond (m==1) (A (.func (.func 170) #[.agg #[.slice e f g,.slice h i j,.slice k l r,.slice s t u,iv v,.slice x y z]] #[]) d) (cond (m==2) (∃ a b e f g h i j k l n o p q r s,af d (qd c 0) 0 [.slice a b e,.slice f g h,.slice i j k,.slice l n o,iv p,.slice q r s]/\A (.func (.func 171) #[.agg #[.slice a b e,.slice f g h,.slice i j k,.slice l n o,iv p,.slice q r s]] #[]) d) (cond (m==3) (∃ a b e f g h i j k l m n o p q r,af d (qd c 0) 0 [.slice a b e,.slice f g h,.slice i j k,.slice l m n,iv o,.slice p q r]/\A (.func (.func 172) #[.agg #[.slice a b e,.slice f g h,.slice i j k,.slice l m n,iv o,.slice p q r]] #[]) d) (K (iv 4) d)))
theorem rj{a1 l1 c1 a2 l2 c2 a3 l3 c3 a4 l4 c4 n1 n2 a5 l5 c5 u1 u2 w K}(h:mE a1 l1 c1 a2 l2 c2 a3 l3 c3 a4 l4 c4 n1 n2 a5 l5 c5 u1 u2 w K):CP 121 #[.agg #[.slice a1 l1 c1,.slice a2 l2 c2,.slice a3 l3 c3,.slice a4 l4 c4],iv n1,iv n2,.slice a5 l5 c5,.agg (u1.on (u2.vs):List Value).toArray] w K:=ah (az [(15,[(12,.s (.raw))]),(127,[(12,.s (.raw))])]) func121 (by kernel_rfl) (by kernel_rfl) h
def mX(a:Int)(b:I6)(c:OA)(d e:Nat)(f:OA)(g h:Nat)(w:World)(K:KP):=an w (.cells b.vs.toArray 34) λ b i=>∃ j:I6,af i (qd b 0) 0 j.vs/\CC 175 #[iv a,.agg j.vs.toArray,.slice c d e,.slice f g h] i λ h i=>∃ j,h=.returned (iv j)/\cond (j !=0) (K (.tuple #[qn,iv j]) i) (CC 176 #[.slice c d e] i λ c d=>∃ e h i,c=.returned (.slice e h i)/\∃ c:Int->qN,(∃ j,c 0 d j)/\∀ d j k,c k d j->∀ l:qv,cond (decide (k<(g:Int))) (∃ l:qW,(∀ m,l m->∀ n:qv,∃ n,n<j/\c (IntKind.i64.wrap (k+1)) m n)/\aq f λ c=>0<=k/\k<(g:Int)/\∃ f:I6,af d (Addr.add c ((k).toNat*6)) 0 f.vs/\an d (.cells z6.vs.toArray 34) λ c g=>aK (qd c 0) 0 f.vs g λ f=>CC 177 #[.slice e h i] f λ f g=>∃ j:I6,f=.returned (.agg j.vs.toArray)/\an g (.cells z6.vs.toArray 34) λ f g=>aK (qd f 0) 0 j.vs g λ g=>∃ j:qW,(∀ m,j m->∀ n:qv,∃ n:I6,af m (qd c 0) 0 n.vs/\aq e λ o=>0<=k/\k<(h:Int)/\aK (Addr.add o ((k).toNat*6)) 0 n.vs m λ m=>l m)/\cond (a==2) (∃ m:I6,af g.drew (qd b 0) 0 m.vs/\∃ n:I6,af g.drew (qd f 0) 0 n.vs/\aq e λ o=>0<=k/\k<(h:Int)/\∃ p:I6,af g.drew (Addr.add o ((k).toNat*6)) 0 p.vs/\∃ o:I6,af g.drew (qd c 0) 0 o.vs/\CC 178 #[.agg m.vs.toArray,.agg n.vs.toArray,.agg p.vs.toArray,.agg o.vs.toArray] g.drew λ m n=>∃ o,m=.returned (.bool o)/\cond o (l n) (j n)) (cond (a==3) (∃ a:I6,af g.drew (qd b 0) 0 a.vs/\∃ b:I6,af g.drew (qd f 0) 0 b.vs/\aq e λ f=>0<=k/\k<(h:Int)/\∃ l:I6,af g.drew (Addr.add f ((k).toNat*6)) 0 l.vs/\∃ f:I6,af g.drew (qd c 0) 0 f.vs/\CC 179 #[.agg a.vs.toArray,.agg b.vs.toArray,.agg l.vs.toArray,.agg f.vs.toArray] g.drew λ a b=>∃ f:I6,a=.returned (.agg f.vs.toArray)/\aK (qd c 0) 0 f.vs b λ a=>j a) (j g))) (K (.tuple #[.slice e h i,qz]) d))
theorem si{n1 u1 a1 l1 c1 a2 l2 c2 w K}(h:mX n1 u1 a1 l1 c1 a2 l2 c2 w K):CP 122 #[iv n1,.agg u1.vs.toArray,.slice a1 l1 c1,.slice a2 l2 c2] w K:=ah (az [(122,[(27,.s (.int .i64))]),(979,[]),(15667,[])]) func122 (by kernel_rfl) (by kernel_rfl) h
def mL(a b c d:Int)(e f:I6)(w:World)(K:KP):=an w (.cells #[iv a,iv b,iv c,iv d] 23) λ a b=>an b (.cells e.vs.toArray 53) λ b c=>an c (.cells f.vs.toArray 34) λ c d=>an d (.cells z6.vs.toArray 53) λ d e=>∃ f g h i,af e (qd a 0) 0 [iv f,iv g,iv h,iv i]/\CC 86 #[.agg #[iv f,iv g,iv h,iv i]] e λ e f=>∃ g,e=.returned (iv g)/\cond (g !=0) (aK (qd d 0) 0 z6.vs f λ e=>∃ h:I6,af e (qd d 0) 0 h.vs/\K (.tuple #[.agg h.vs.toArray,iv g]) e) (∃ e:Value->Nat->qW,(∀ g,∀ h:Value,∀ i,e h i g->∀ j:qv,∃ j:I6,af g (qd c 0) 0 j.vs/\∃ c:Int->qN,(∃ k,c 0 g k)/\∀ g k l,c l g k->∀ m:qv,cond (decide (l<6)) (∃ m:qW,(∀ n,m n->∀ o:qv,∃ o,o<k/\c (IntKind.i64.wrap (l+1)) n o)/\0<=l/\l<6/\∃ c,(j.vs.toArray:Array Value)[(l).toNat*1]?=some (iv c)/\∃ j:Bool->qW,(∀ k n,j n k->∀ o:qv,cond n (0<=l/\l<6/\∃ n,k.cell? (Addr.add (qd b 0) ((l).toNat*1))=some (iv n)/\cr prog h #[iv n] k λ h n=>∃ o,h=.returned (iv o)/\0<=l/\l<6/\aM n (Addr.add (qd i 0) ((l).toNat*1)) (iv o) λ h=>m h) (m k))/\cond (decide (c>0)) (∃ c:I6,af g (qd b 0) 0 c.vs/\CC 183 #[.agg c.vs.toArray] g λ c h=>∃ k,c=.returned (.bool k)/\j k h) (j false g)) (∃ c:Bool->qW,(∀ h j,c j h->∀ k:qv,cond j (aK (qd d 0) 0 z6.vs h λ j=>∃ k:I6,af j (qd d 0) 0 k.vs/\K (.tuple #[.agg k.vs.toArray,iv 4]) j) (∃ j:I6,af h (qd i 0) 0 j.vs/\aK (qd d 0) 0 j.vs h λ h=>∃ j:I6,af h (qd d 0) 0 j.vs/\K (.tuple #[.agg j.vs.toArray,qz]) h))/\∃ d:I6,af g (qd b 0) 0 d.vs/\CC 183 #[.agg d.vs.toArray] g λ d g=>∃ h,d=.returned (.bool h)/\cond (!h) (c true g) (∃ d:I6,af g (qd i 0) 0 d.vs/\∃ h:I6,af g (qd b 0) 0 h.vs/\cond (!(I6.beq d h)) (∃ d:I6,af g (qd i 0) 0 d.vs/\CC 183 #[.agg d.vs.toArray] g λ d h=>∃ i,d=.returned (.bool i)/\c (!i) h) (c false g))))/\∃ c d g h,af f.drew (qd a 0) 0 [iv c,iv d,iv g,iv h]/\∃ i:I6,af f.drew (qd b 0) 0 i.vs/\(CC 182 #[.agg #[iv c,iv d,iv g,iv h]] f.drew λ j k=>∃ l:Value,j=.returned l/\af k (qd b 0) 0 i.vs/\an k (.cells z6.vs.toArray 53) λ j k=>af k (qd b 0) 0 i.vs/\aK (qd j 0) 0 i.vs k λ k=>e l j k)/\an f.drew (.cells z6.vs.toArray 53) λ f j=>af j (qd b 0) 0 i.vs/\af j (qd a 0) 0 [iv c,iv d,iv g,iv h]/\CC 182 #[.agg #[iv c,iv d,iv g,iv h]] j λ a c=>∃ d:Value,a=.returned d/\af c (qd b 0) 0 i.vs/\aK (qd f 0) 0 i.vs c λ a=>e d f a)
theorem rJ{n1 n2 n3 n4 u1 u2 w K}(h:mL n1 n2 n3 n4 u1 u2 w K):CP 125 #[.agg #[iv n1,iv n2,iv n3,iv n4],.agg u1.vs.toArray,.agg u2.vs.toArray] w K:=ah (az [(7,[(9,.s (.raw)),(10,.s (.blk))]),(122,[(23,.s (.int .i64))]),(979,[]),(7833,[(32,.s .bool)]),(62,[(53,.s .bool)])]) func125 (by kernel_rfl) (by kernel_rfl) h
def sG(a:OA)(b c:Nat)(d:OA)(e f:Nat)(g:OA)(h i:Nat)(j:OA)(k l:Nat)(m:Int)(w:World)(K:KP):=an w (.cells #[.slice a b c,.slice d e f,.slice g h i,.slice j k l] 75) λ a b=>cond (decide (m>=0)) (∃ c d e,b.cell? (qd a 1)=some (.slice c d e)/\K (.bool (decide (m<(d:Int)))) b) (K (.bool false) b)
theorem wF{a1 l1 c1 a2 l2 c2 a3 l3 c3 a4 l4 c4 n1 w K}(h:sG a1 l1 c1 a2 l2 c2 a3 l3 c3 a4 l4 c4 n1 w K):CP 169 #[.agg #[.slice a1 l1 c1,.slice a2 l2 c2,.slice a3 l3 c3,.slice a4 l4 c4],iv n1] w K:=ah (az []) func169 (by kernel_rfl) (by kernel_rfl) h
def fe(a:OA)(b c:Nat)(d:OA)(e f:Nat)(g:OA)(h i:Nat)(j:OA)(k l:Nat)(m:Int)(n:OA)(o p:Nat)(q r:I6)(w:World)(K:KP):=an w (.cells #[.slice a b c,.slice d e f,.slice g h i,.slice j k l,iv m,.slice n o p] 247) λ a b=>an b (.cells (q.on (r.vs):List Value).toArray 123) λ b c=>∃ d e f g h i j k l m n o p q r s,af c.drew (qd a 0) 0 [.slice d e f,.slice g h i,.slice j k l,.slice m n o,iv p,.slice q r s]/\∃ t u:I6,af c.drew (qd b 0) 0 (t.on (u.vs))/\∃ b v x y z A B C D E F G,af c.drew (qd a 0) 0 [.slice b v x,.slice y z A,.slice B C D,.slice E F G]/\∃ H,c.drew.cell? (qd a 4)=some (iv H)/\∃ I J L,c.drew.cell? (qd a 5)=some (.slice I J L)/\CC 211 #[.agg #[.slice d e f,.slice g h i,.slice j k l,.slice m n o,iv p,.slice q r s],.agg (t.on (u.vs):List Value).toArray] c.drew λ c d=>∃ e,c=.returned (iv e)/\d.cell? (qd a 5)=some (.slice I J L)/\d.cell? (qd a 4)=some (iv H)/\af d (qd a 0) 0 [.slice b v x,.slice y z A,.slice B C D,.slice E F G]/\CC 212 #[.agg #[.slice b v x,.slice y z A,.slice B C D,.slice E F G],iv H,.slice I J L] d λ a b=>∃ c,a=.returned (iv c)/\K (.bool (decide (e<=c))) b
theorem jW{a1 l1 c1 a2 l2 c2 a3 l3 c3 a4 l4 c4 n1 a5 l5 c5 u1 u2 w K}(h:fe a1 l1 c1 a2 l2 c2 a3 l3 c3 a4 l4 c4 n1 a5 l5 c5 u1 u2 w K):CP 170 #[.agg #[.slice a1 l1 c1,.slice a2 l2 c2,.slice a3 l3 c3,.slice a4 l4 c4,iv n1,.slice a5 l5 c5],.agg (u1.on (u2.vs):List Value).toArray] w K:=ah (az []) func170 (by kernel_rfl) (by kernel_rfl) h
def dL(a:OA)(b c:Nat)(d:OA)(e f:Nat)(g:OA)(h i:Nat)(j:OA)(k l:Nat)(m:Int)(n:OA)(o p:Nat)(q r:I6)(w:World)(K:KP):=an w (.cells #[.slice a b c,.slice d e f,.slice g h i,.slice j k l,iv m,.slice n o p] 247) λ a b=>an b (.cells (q.on (r.vs):List Value).toArray 123) λ b c=>∃ d:Bool->qW,(∀ e f,d f e->∀ g:qv,K (.bool f) e)/\∃ e f g,c.drew.cell? (qd a 5)=some (.slice e f g)/\∃ h i j,c.drew.cell? (qd a 5)=some (.slice h i j)/\∃ k l m,c.drew.cell? (qd a 5)=some (.slice k l m)/\0<=(l:Int)/\(l:Int)<=(g:Int)/\0<=(i:Int)/\(i:Int)<=((((l:Int)).toNat:Nat):Int)/\∃ n o:I6,af c.drew (qd b 0) 0 (n.on (o.vs))/\(an c.drew (.cells (n.on (o.vs):List Value).toArray 123) λ p q=>q.cell? (qd a 5)=some (.slice k l m)/\q.cell? (qd a 5)=some (.slice h i j)/\q.cell? (qd a 5)=some (.slice e f g)/\(aP prog (Builtin.append_ #[92,92] 92 #[.slice (if ((l:Int)).toNat=0 then e else Option.map (λ x=>Addr.add x (0*12)) e) (((i:Int)).toNat-0) (((l:Int)).toNat-0),.slice (some (qd p 0)) 1 1]) q λ r s=>∃ t u v,r=(.slice t u v)/\(CC 213 #[.slice t u v] s λ r y=>∃ z A B C D E F,r=.returned (.tuple #[.agg #[.slice z A B,.slice C D E],.bool F])/\an y (.cells #[qn,qn] 175) λ r y=>aK (qd r 0) 0 [.slice z A B,.slice C D E] y λ r=>d F r)/\an s (.cells #[qn,qn] 175) λ r s=>CC 213 #[.slice t u v] s λ s t=>∃ u v y z A B C,s=.returned (.tuple #[.agg #[.slice u v y,.slice z A B],.bool C])/\aK (qd r 0) 0 [.slice u v y,.slice z A B] t λ r=>d C r)/\an q (.cells #[qn,qn] 175) λ q r=>r.cell? (qd a 5)=some (.slice k l m)/\r.cell? (qd a 5)=some (.slice h i j)/\r.cell? (qd a 5)=some (.slice e f g)/\aP prog (Builtin.append_ #[92,92] 92 #[.slice (if ((l:Int)).toNat=0 then e else Option.map (λ x=>Addr.add x (0*12)) e) (((i:Int)).toNat-0) (((l:Int)).toNat-0),.slice (some (qd p 0)) 1 1]) r λ p r=>∃ s t u,p=(.slice s t u)/\CC 213 #[.slice s t u] r λ p r=>∃ s t u v y z A,p=.returned (.tuple #[.agg #[.slice s t u,.slice v y z],.bool A])/\aK (qd q 0) 0 [.slice s t u,.slice v y z] r λ p=>d A p)/\an c.drew (.cells #[qn,qn] 175) λ c p=>af p (qd b 0) 0 (n.on (o.vs))/\p.cell? (qd a 5)=some (.slice k l m)/\p.cell? (qd a 5)=some (.slice h i j)/\p.cell? (qd a 5)=some (.slice e f g)/\an p (.cells (n.on (o.vs):List Value).toArray 123) λ b n=>n.cell? (qd a 5)=some (.slice k l m)/\n.cell? (qd a 5)=some (.slice h i j)/\n.cell? (qd a 5)=some (.slice e f g)/\aP prog (Builtin.append_ #[92,92] 92 #[.slice (if ((l:Int)).toNat=0 then e else Option.map (λ x=>Addr.add x (0*12)) e) (((i:Int)).toNat-0) (((l:Int)).toNat-0),.slice (some (qd b 0)) 1 1]) n λ a b=>∃ e f g,a=(.slice e f g)/\CC 213 #[.slice e f g] b λ a b=>∃ e f g h i j k,a=.returned (.tuple #[.agg #[.slice e f g,.slice h i j],.bool k])/\aK (qd c 0) 0 [.slice e f g,.slice h i j] b λ a=>d k a
theorem ia{a1 l1 c1 a2 l2 c2 a3 l3 c3 a4 l4 c4 n1 a5 l5 c5 u1 u2 w K}(h:dL a1 l1 c1 a2 l2 c2 a3 l3 c3 a4 l4 c4 n1 a5 l5 c5 u1 u2 w K):CP 171 #[.agg #[.slice a1 l1 c1,.slice a2 l2 c2,.slice a3 l3 c3,.slice a4 l4 c4,iv n1,.slice a5 l5 c5],.agg (u1.on (u2.vs):List Value).toArray] w K:=ah (az [(3,[(6,.s .bool)])]) func171 (by kernel_rfl) (by kernel_rfl) h
def dM(a:OA)(b c:Nat)(d:OA)(e f:Nat)(g:OA)(h i:Nat)(j:OA)(k l:Nat)(m:Int)(n:OA)(o p:Nat)(q r:I6)(w:World)(K:KP):=an w (.cells #[.slice a b c,.slice d e f,.slice g h i,.slice j k l,iv m,.slice n o p] 247) λ a b=>an b (.cells (q.on (r.vs):List Value).toArray 123) λ b c=>∃ d e f g h i j k l m n o p q r s,af c (qd a 0) 0 [.slice d e f,.slice g h i,.slice j k l,.slice m n o,iv p,.slice q r s]/\∃ t u:I6,af c (qd b 0) 0 (t.on (u.vs))/\CC 170 #[.agg #[.slice d e f,.slice g h i,.slice j k l,.slice m n o,iv p,.slice q r s],.agg (t.on (u.vs):List Value).toArray] c λ c d=>∃ e,c=.returned (.bool e)/\cond e (K (.bool true) d) (∃ c e f g h i j k l m n o p q r s,af d (qd a 0) 0 [.slice c e f,.slice g h i,.slice j k l,.slice m n o,iv p,.slice q r s]/\∃ a t:I6,af d (qd b 0) 0 (a.on (t.vs))/\CC 171 #[.agg #[.slice c e f,.slice g h i,.slice j k l,.slice m n o,iv p,.slice q r s],.agg (a.on (t.vs):List Value).toArray] d λ a b=>∃ c,a=.returned (.bool c)/\K (.bool c) b)
theorem ic{a1 l1 c1 a2 l2 c2 a3 l3 c3 a4 l4 c4 n1 a5 l5 c5 u1 u2 w K}(h:dM a1 l1 c1 a2 l2 c2 a3 l3 c3 a4 l4 c4 n1 a5 l5 c5 u1 u2 w K):CP 172 #[.agg #[.slice a1 l1 c1,.slice a2 l2 c2,.slice a3 l3 c3,.slice a4 l4 c4,iv n1,.slice a5 l5 c5],.agg (u1.on (u2.vs):List Value).toArray] w K:=ah (az []) func172 (by kernel_rfl) (by kernel_rfl) h
def mF(a:OA)(b c:Nat)(w:World)(K:KP):=cond (decide ((b:Int)>(0:Int))) (aq a λ a=>0<=(IntKind.i64.wrap ((b:Int)-(1:Int)))/\(IntKind.i64.wrap ((b:Int)-(1:Int)))<(b:Int)/\∃ c:I6,af w (Addr.add (Addr.add a (((IntKind.i64.wrap ((b:Int)-(1:Int)))).toNat*12)) 6) 0 c.vs/\K (.bool (I6.beq c z6)) w) (K (.bool false) w)
theorem rq{a1 l1 c1 w K}(h:mF a1 l1 c1 w K):CP 173 #[.slice a1 l1 c1] w K:=ah (az []) func173 (by kernel_rfl) (by kernel_rfl) h
def jo(a b:I6)(w:World)(K:KP):=an w (.cells (a.on (b.vs):List Value).toArray 123) λ a b=>∃ c:I6,af b (qd a 6) 0 c.vs/\K (.bool (I6.beq c z6)) b
theorem nS{u1 u2 w K}(h:jo u1 u2 w K):CP 174 #[.agg (u1.on (u2.vs):List Value).toArray] w K:=ah (az []) func174 (by kernel_rfl) (by kernel_rfl) h
def mY(a:Int)(b:I6)(c:OA)(d e:Nat)(f:OA)(g h:Nat)(w:World)(K:KP):=an w (.cells b.vs.toArray 34) λ b i=>∃ j:Bool->qW,(∀ k l,j l k->∀ m:qv,cond l (K (iv 4) k) (∃ l:Bool->qW,(∀ m n,l n m->∀ o:qv,cond n (K (iv 3) m) (∃ n:I6,af m (qd b 0) 0 n.vs/\CC 47 #[.agg n.vs.toArray] m λ b m=>∃ n,b=.returned (iv n)/\cond (n !=0) (K (iv 4) m) (∃ b:Int->qN,(∃ n,b 0 m n)/\∀ m n o,b o m n->∀ p:qv,cond (decide (o<2)) (0<=o/\o<2/\∃ p q r,(#[.slice c d e,.slice f g h]:Array Value)[(o).toNat*1]?=some (.slice p q r)/\∃ c:Int->qN,(∃ e,c 0 m e)/\∀ f e h,c h f e->∀ r:qv,cond (decide (h<(q:Int))) (aq p λ p=>0<=h/\h<(q:Int)/\∃ q:I6,af f (Addr.add p ((h).toNat*6)) 0 q.vs/\an f (.cells z6.vs.toArray 34) λ p r=>aK (qd p 0) 0 q.vs r λ q=>∃ r:I6,af q (qd p 0) 0 r.vs/\CC 47 #[.agg r.vs.toArray] q λ p q=>∃ r,p=.returned (iv r)/\cond (r !=0) (K (iv 4) q) (∃ p,p<e/\c (IntKind.i64.wrap (h+1)) q p)) (∃ c,c<n/\b (IntKind.i64.wrap (o+1)) f c)) (K qz m))))/\cond ((d:Int) !=(g:Int)) (l true k) (l (decide ((d:Int)>(8:Int))) k)))/\cond (decide (a<1)) (j true i) (j (decide (a>3)) i)
theorem sj{n1 u1 a1 l1 c1 a2 l2 c2 w K}(h:mY n1 u1 a1 l1 c1 a2 l2 c2 w K):CP 175 #[iv n1,.agg u1.vs.toArray,.slice a1 l1 c1,.slice a2 l2 c2] w K:=ah (az [(12,[(13,.s .bool)]),(51,[(20,.s .bool)]),(58,[(38,.s (.int .i64))]),(14950,[(43,.s (.int .i64))])]) func175 (by kernel_rfl) (by kernel_rfl) h
def Bk(a:OA)(b c:Nat)(w:World)(K:KP):=an w (.cells z6.vs.toArray 34) λ d e=>CC 181 #[.slice a b c] e λ a b=>∃ c:I6,a=.returned (.agg c.vs.toArray)/\aK (qd d 0) 0 c.vs b λ a=>∃ b:I6,af a (qd d 0) 0 b.vs/\K (.agg b.vs.toArray) a
theorem CG{a1 l1 c1 w K}(h:Bk a1 l1 c1 w K):CP 177 #[.slice a1 l1 c1] w K:=ah (az []) func177 (by kernel_rfl) (by kernel_rfl) h
def jT(a b c d:I6)(w:World)(K:KP):=an w (.cells a.vs.toArray 34) λ a e=>an e (.cells b.vs.toArray 34) λ b e=>an e (.cells c.vs.toArray 34) λ c e=>an e (.cells d.vs.toArray 34) λ d e=>∃ f:Int->qN,(∃ g,f 0 e g)/\∀ e g h,f h e g->∀ i:qv,cond (decide (h<6)) (∃ i:Bool->qW,(∀ j k,i k j->∀ l:qv,cond k (K (.bool true) j) (∃ k,k<g/\f (IntKind.i64.wrap (h+1)) j k))/\0<=h/\h<6/\∃ f,e.drew.cell? (Addr.add (qd d 0) ((h).toNat*1))=some (iv f)/\0<=h/\h<6/\∃ g,e.drew.cell? (Addr.add (qd c 0) ((h).toNat*1))=some (iv g)/\cond (decide (f<g)) (0<=h/\h<6/\∃ f,e.drew.cell? (Addr.add (qd b 0) ((h).toNat*1))=some (iv f)/\0<=h/\h<6/\∃ b,e.drew.cell? (Addr.add (qd c 0) ((h).toNat*1))=some (iv b)/\0<=h/\h<6/\∃ c,e.drew.cell? (Addr.add (qd d 0) ((h).toNat*1))=some (iv c)/\0<=h/\h<6/\∃ d,e.drew.cell? (Addr.add (qd a 0) ((h).toNat*1))=some (iv d)/\i (decide ((IntKind.i64.wrap ((IntKind.i64.wrap (f-b))+c))<d)) e.drew) (i false e.drew)) (K (.bool false) e)
theorem pE{u1 u2 u3 u4 w K}(h:jT u1 u2 u3 u4 w K):CP 178 #[.agg u1.vs.toArray,.agg u2.vs.toArray,.agg u3.vs.toArray,.agg u4.vs.toArray] w K:=ah (az [(26,[(10,.s (.int .i64))]),(1689,[(36,.s .bool)])]) func178 (by kernel_rfl) (by kernel_rfl) h
def lE(a b c d:I6)(w:World)(K:KP):=an w (.cells a.vs.toArray 34) λ a e=>an e (.cells b.vs.toArray 34) λ b e=>an e (.cells c.vs.toArray 34) λ c e=>an e (.cells d.vs.toArray 34) λ d e=>an e (.cells z6.vs.toArray 34) λ e f=>∃ g:Int->qN,(∃ h,g 0 f h)/\∀ f h i,g i f h->∀ j:qv,cond (decide (i<6)) (∃ j:qW,(∀ k,j k->∀ l:qv,∃ l,l<h/\g (IntKind.i64.wrap (i+1)) k l)/\0<=i/\i<6/\∃ g,f.drew.cell? (Addr.add (qd d 0) ((i).toNat*1))=some (iv g)/\0<=i/\i<6/\∃ h,f.drew.cell? (Addr.add (qd c 0) ((i).toNat*1))=some (iv h)/\cond (decide (g<h)) (0<=i/\i<6/\∃ g,f.drew.drew.cell? (Addr.add (qd c 0) ((i).toNat*1))=some (iv g)/\0<=i/\i<6/\∃ h,f.drew.drew.cell? (Addr.add (qd c 0) ((i).toNat*1))=some (iv h)/\0<=i/\i<6/\∃ c,f.drew.drew.cell? (Addr.add (qd d 0) ((i).toNat*1))=some (iv c)/\0<=i/\i<6/\∃ k,f.drew.drew.cell? (Addr.add (qd b 0) ((i).toNat*1))=some (iv k)/\0<=i/\i<6/\∃ b,f.drew.drew.cell? (Addr.add (qd a 0) ((i).toNat*1))=some (iv b)/\0<=i/\i<6/\aM f.drew.drew (Addr.add (qd d 0) ((i).toNat*1)) (iv (IntKind.i64.wrap (g-(if (if (0:Int)>(IntKind.i64.wrap (k-b)) then (0:Int) else (IntKind.i64.wrap (k-b)))<(IntKind.i64.wrap (h-c)) then (if (0:Int)>(IntKind.i64.wrap (k-b)) then (0:Int) else (IntKind.i64.wrap (k-b))) else (IntKind.i64.wrap (h-c)))))) λ a=>j a) (j f.drew)) (∃ a:I6,af f (qd d 0) 0 a.vs/\aK (qd e 0) 0 a.vs f λ a=>∃ b:I6,af a (qd e 0) 0 b.vs/\K (.agg b.vs.toArray) a)
theorem qF{u1 u2 u3 u4 w K}(h:lE u1 u2 u3 u4 w K):CP 179 #[.agg u1.vs.toArray,.agg u2.vs.toArray,.agg u3.vs.toArray,.agg u4.vs.toArray] w K:=ah (az [(26,[(10,.s (.int .i64))]),(211,[])]) func179 (by kernel_rfl) (by kernel_rfl) h
def sS(a b c d:Int)(w:World)(K:KP):=an w (.cells #[iv a,iv b,iv c,iv d] 23) λ a b=>K (.func (.func 214) #[] #[qp a]) b
theorem fQ{n1 n2 n3 n4 w K}(h:sS n1 n2 n3 n4 w K):CP 182 #[.agg #[iv n1,iv n2,iv n3,iv n4]] w K:=ah (az []) func182 (by kernel_rfl) (by kernel_rfl) h
def kJ(a:I6)(w:World)(K:KP):=an w (.cells a.vs.toArray 53) λ a b=>∃ c:I6,af b (qd a 0) 0 c.vs/\∃ a:Int->qN,(∃ d,a 0 b d)/\∀ b d e,a e b d->∀ f:qv,cond (decide (e<6)) (0<=e/\e<6/\∃ f,(c.vs.toArray:Array Value)[(e).toNat*1]?=some (iv f)/\CC 215 #[iv f] b λ c f=>∃ g,c=.returned (iv g)/\cond (g !=0) (K (.bool false) f) (∃ c,c<d/\a (IntKind.i64.wrap (e+1)) f c)) (K (.bool true) b)
theorem qt{u1 w K}(h:kJ u1 w K):CP 183 #[.agg u1.vs.toArray] w K:=ah (az [(26,[(6,.s (.int .i64))])]) func183 (by kernel_rfl) (by kernel_rfl) h
def dN(a:OA)(b c:Nat)(d:OA)(e f:Nat)(g:OA)(h i:Nat)(j:OA)(k l:Nat)(m:Int)(n:OA)(o p:Nat)(q r:I6)(w:World)(K:KP):=an w (.cells #[.slice a b c,.slice d e f,.slice g h i,.slice j k l,iv m,.slice n o p] 247) λ a b=>an b (.cells (q.on (r.vs):List Value).toArray 123) λ b c=>∃ d e f,c.cell? (qd a 0)=some (.slice d e f)/\∃ a:I6,af c (qd b 6) 0 a.vs/\CC 235 #[.slice d e f,.agg a.vs.toArray] c λ a b=>∃ c,a=.returned (iv c)/\K (iv c) b
theorem ig{a1 l1 c1 a2 l2 c2 a3 l3 c3 a4 l4 c4 n1 a5 l5 c5 u1 u2 w K}(h:dN a1 l1 c1 a2 l2 c2 a3 l3 c3 a4 l4 c4 n1 a5 l5 c5 u1 u2 w K):CP 211 #[.agg #[.slice a1 l1 c1,.slice a2 l2 c2,.slice a3 l3 c3,.slice a4 l4 c4,iv n1,.slice a5 l5 c5],.agg (u1.on (u2.vs):List Value).toArray] w K:=ah (az []) func211 (by kernel_rfl) (by kernel_rfl) h
def fK(a:OA)(b c:Nat)(d:OA)(e f:Nat)(g:OA)(h i:Nat)(j:OA)(k l:Nat)(m:Int)(n:OA)(o p:Nat)(w:World)(K:KP):=an w (.cells #[.slice a b c,.slice d e f,.slice g h i,.slice j k l] 75) λ a b=>∃ c d e f g h i j k l q r,af b (qd a 0) 0 [.slice c d e,.slice f g h,.slice i j k,.slice l q r]/\CC 169 #[.agg #[.slice c d e,.slice f g h,.slice i j k,.slice l q r],iv m] b λ b c=>∃ d,b=.returned (.bool d)/\cond (!d) (K qz c) (∃ b d e f g h i j k l q r,af c.drew (qd a 0) 0 [.slice b d e,.slice f g h,.slice i j k,.slice l q r]/\∃ s t u,c.drew.cell? (qd a 1)=some (.slice s t u)/\aq s λ a=>0<=m/\m<(t:Int)/\∃ s,c.drew.cell? (Addr.add (Addr.add a ((m).toNat*4)) 3)=some (iv s)/\∃ a:Int->Int->qN,(∃ t,a s 0 c.drew t)/\∀ c t s u,a s u c t->∀ v:qv,cond (decide (u<(o:Int))) (aq n λ v=>0<=u/\u<(o:Int)/\∃ x y:I6,af c (Addr.add v ((u).toNat*12)) 0 (x.on (y.vs))/\an c (.cells #[qz,qz,qz,qz,qz,qz,qz,qz,qz,qz,qz,qz] 123) λ v z=>aK (qd v 0) 0 (x.on (y.vs)) z λ x=>∃ y z:I6,af x (qd v 0) 0 (y.on (z.vs))/\CC 211 #[.agg #[.slice b d e,.slice f g h,.slice i j k,.slice l q r,iv m,.slice n o p],.agg (y.on (z.vs):List Value).toArray] x λ b d=>∃ e,b=.returned (iv e)/\∃ b,b<t/\a (if e<s then e else s) (IntKind.i64.wrap (u+1)) d b) (K (iv s) c))
theorem kg{a1 l1 c1 a2 l2 c2 a3 l3 c3 a4 l4 c4 n1 a5 l5 c5 w K}(h:fK a1 l1 c1 a2 l2 c2 a3 l3 c3 a4 l4 c4 n1 a5 l5 c5 w K):CP 212 #[.agg #[.slice a1 l1 c1,.slice a2 l2 c2,.slice a3 l3 c3,.slice a4 l4 c4],iv n1,.slice a5 l5 c5] w K:=ah (az [(122,[(8,.s (.int .i64)),(28,.s (.int .i64))])]) func212 (by kernel_rfl) (by kernel_rfl) h
def oS(a:OA)(b c:Nat)(w:World)(K:KP):=an w (.cells #[qn,qn] 175) λ d e=>CC 133 #[.slice a b c] e λ e f=>∃ g,e=.returned (.bool g)/\cond (!g) (aK (qd d 0) 0 [qn,qn] f λ e=>∃ g h i j k l,af e (qd d 0) 0 [.slice g h i,.slice j k l]/\K (.tuple #[.agg #[.slice g h i,.slice j k l],.bool false]) e) (CC 236 #[.slice a b c] f λ c e=>∃ f g h i j k,c=.returned (.tuple #[.slice f g h,.slice i j k])/\cond (!(i).isNone) (aK (qd d 0) 0 [.slice i j k,qn] e λ c=>∃ i j k l m n,af c (qd d 0) 0 [.slice i j k,.slice l m n]/\K (.tuple #[.agg #[.slice i j k,.slice l m n],.bool false]) c) (∃ c:Int->Int->qN,(∃ i,c 0 (0:Int) e i)/\∀ e i j k,c j k e i->∀ l:qv,cond (decide (k<(b:Int))) (aq a λ l=>0<=k/\k<(b:Int)/\∃ m n:I6,af e (Addr.add l ((k).toNat*12)) 0 (m.on (n.vs))/\an e (.cells #[qz,qz,qz,qz,qz,qz,qz,qz,qz,qz,qz,qz] 123) λ l o=>aK (qd l 0) 0 (m.on (n.vs)) o λ m=>∃ n:I6,af m.drew (qd l 0) 0 n.vs/\∃ o:I6,af m.drew (qd l 6) 0 o.vs/\aq f λ l=>0<=k/\k<(g:Int)/\∃ p,m.drew.cell? (Addr.add l ((k).toNat*1))=some (iv p)/\CC 65 #[.agg n.vs.toArray,.agg o.vs.toArray] m.drew λ m n=>∃ o,m=.returned (iv o)/\n.cell? (Addr.add l ((k).toNat*1))=some (iv p)/\∃ l,l<i/\c (if (IntKind.i64.wrap (o-p))>j then (IntKind.i64.wrap (o-p)) else j) (IntKind.i64.wrap (k+1)) n l) (∃ c:Int->Int->qN,(∃ i,c j 0 e i)/\∀ e i j k,c j k e i->∀ l:qv,cond (decide (k<(b:Int))) (∃ l:Int->qW,(∀ m n,l n m->∀ o:qv,∃ o,o<i/\c n (IntKind.i64.wrap (k+1)) m o)/\aq a λ a=>0<=k/\k<(b:Int)/\∃ b c:I6,af e (Addr.add a ((k).toNat*12)) 0 (b.on (c.vs))/\an e (.cells #[qz,qz,qz,qz,qz,qz,qz,qz,qz,qz,qz,qz] 123) λ a i=>aK (qd a 0) 0 (b.on (c.vs)) i λ b=>∃ c:I6,af b (qd a 6) 0 c.vs/\cond (I6.beq c z6) (aq f λ a=>0<=k/\k<(g:Int)/\∃ c,b.cell? (Addr.add a ((k).toNat*1))=some (iv c)/\l (IntKind.i64.wrap (0-c)) b) (l j b)) (∃ a:Int->qN,(∃ b,a 0 e b)/\∀ c b e,a e c b->∀ i:qv,cond (decide (e<(g:Int))) (aq f λ i=>0<=e/\e<(g:Int)/\∃ k,c.cell? (Addr.add i ((e).toNat*1))=some (iv k)/\aq f λ i=>0<=e/\e<(g:Int)/\aM c (Addr.add i ((e).toNat*1)) (iv (IntKind.i64.wrap (k+j))) λ i=>∃ j,j<b/\a (IntKind.i64.wrap (e+1)) i j) (aK (qd d 0) 0 [qn,.slice f g h] c λ a=>∃ b c e f g h,af a (qd d 0) 0 [.slice b c e,.slice f g h]/\K (.tuple #[.agg #[.slice b c e,.slice f g h],.bool true]) a)))))
theorem tL{a1 l1 c1 w K}(h:oS a1 l1 c1 w K):CP 213 #[.slice a1 l1 c1] w K:=ah (az [(506,[(6,.s (.int .i64)),(27,.s (.int .i64))]),(1018,[(6,.s (.int .i64)),(47,.s (.int .i64))]),(8147,[(6,.s (.int .i64))]),(2042,[(64,.s (.int .i64))])]) func213 (by kernel_rfl) (by kernel_rfl) h
def qs(a:Int)(b:Nat)(w:World)(K:KP):=∃ c,w.cell? (qd b 0)=some (iv c)/\∃ d,w.cell? (qd b 1)=some (iv d)/\(100:Int)≠0/\K (iv (IntKind.i64.wrap ((IntKind.i64.wrap (a+c))+(IntKind.i64.wrap (Int.tdiv (IntKind.i64.wrap ((IntKind.i64.wrap (a*d))+(99:Int))) (100:Int)))))) w
theorem lU{n1 b1 w K}(h:qs n1 b1 w K):CP 214 #[iv n1,.pointer (some ⟨b1,0,none⟩)] w K:=ah (az []) func214 (by kernel_rfl) (by kernel_rfl) h
def sH(a:Int)(w:World)(K:KP):=CC 237 #[iv a] w λ a b=>∃ c,a=.returned (.bool c)/\cond (!c) (K (iv 4) b) (K qz b)
theorem wG{n1 w K}(h:sH n1 w K):CP 215 #[iv n1] w K:=ah (az []) func215 (by kernel_rfl) (by kernel_rfl) h
def mS(a:OA)(b c:Nat)(d:OA)(e f:Nat)(g:OA)(h i:Nat)(w:World)(K:KP):=an w (.cells #[.slice d e f,.slice g h i] 175) λ d e=>CC 133 #[.slice a b c] e λ e f=>∃ g,e=.returned (.bool g)/\cond (!g) (K (iv 4) f) (∃ e g h i j k,af f (qd d 0) 0 [.slice e g h,.slice i j k]/\CC 134 #[.slice a b c,.agg #[.slice e g h,.slice i j k]] f λ e f=>∃ g,e=.returned (.bool g)/\cond (!g) (K (iv 2) f) (∃ e g h,f.cell? (qd d 0)=some (.slice e g h)/\cond ((g:Int)==(0:Int)) (∃ e g h,f.cell? (qd d 1)=some (.slice e g h)/\CC 135 #[.slice a b c,.slice e g h] f λ c e=>∃ g,c=.returned (.bool g)/\cond (!g) (K (iv 13) e) (K qz e)) (∃ c e g,f.cell? (qd d 0)=some (.slice c e g)/\∃ g:Int->Int->qN,(∃ h,g 0 (0:Int) f h)/\∀ f h i j,g i j f h->∀ k:qv,cond (decide (j<(e:Int))) (aq c λ c=>0<=j/\j<(e:Int)/\∃ e,f.cell? (Addr.add c ((j).toNat*1))=some (iv e)/\aq a λ c=>0<=e/\e<(b:Int)/\∃ k l:I6,af f.drew (Addr.add c ((e).toNat*12)) 0 (k.on (l.vs))/\∃ c e m,f.drew.cell? (qd d 0)=some (.slice c e m)/\∃ m n o,f.drew.cell? (qd d 0)=some (.slice m n o)/\(n:Int)≠0/\aq c λ c=>0<=(Int.tmod (IntKind.i64.wrap (j+1)) (n:Int))/\(Int.tmod (IntKind.i64.wrap (j+1)) (n:Int))<(e:Int)/\∃ d,f.drew.cell? (Addr.add c (((Int.tmod (IntKind.i64.wrap (j+1)) (n:Int))).toNat*1))=some (iv d)/\aq a λ a=>0<=d/\d<(b:Int)/\∃ b c:I6,af f.drew (Addr.add a ((d).toNat*12)) 0 (b.on (c.vs))/\CC 136 #[.agg (k.on (l.vs):List Value).toArray,.agg (b.on (c.vs):List Value).toArray] f.drew λ a b=>∃ c,a=.returned (iv c)/\∃ a,a<h/\g (IntKind.i64.wrap (i+c)) (IntKind.i64.wrap (j+1)) b a) (cond (decide (i>=0)) (K (iv 13) f) (K qz f)))))
theorem rV{a1 l1 c1 a2 l2 c2 a3 l3 c3 w K}(h:mS a1 l1 c1 a2 l2 c2 a3 l3 c3 w K):CP 100 #[.slice a1 l1 c1,.agg #[.slice a2 l2 c2,.slice a3 l3 c3]] w K:=ah (az [(506,[(5,.s (.int .i64)),(27,.s (.int .i64))])]) func100 (by kernel_rfl) (by kernel_rfl) h
def jK(a:OA)(b c:Nat)(w:World)(K:KP):=∃ c:Int->qN,(∃ d,c 0 w d)/\∀ e d f,c f e d->∀ g:qv,cond (decide (f<(b:Int))) (aq a λ a=>0<=f/\f<(b:Int)/\∃ b g:I6,af e (Addr.add a ((f).toNat*12)) 0 (b.on (g.vs))/\an e (.cells #[qz,qz,qz,qz,qz,qz,qz,qz,qz,qz,qz,qz] 123) λ a h=>aK (qd a 0) 0 (b.on (g.vs)) h λ b=>∃ g h:I6,af b (qd a 0) 0 (g.on (h.vs))/\CC 194 #[.agg (g.on (h.vs):List Value).toArray] b λ a b=>∃ g,a=.returned (.bool g)/\cond (!g) (K (.bool false) b) (∃ a,a<d/\c (IntKind.i64.wrap (f+1)) b a)) (K (.bool true) e)
theorem oT{a1 l1 c1 w K}(h:jK a1 l1 c1 w K):CP 133 #[.slice a1 l1 c1] w K:=ah (az [(26,[(7,.s (.int .i64))])]) func133 (by kernel_rfl) (by kernel_rfl) h
def kY(a:OA)(b c:Nat)(w:World)(K:KP):=aP prog (Instr.makeSlice 130 (iv (b:Int)) (iv (b:Int))) w λ c d=>∃ e f g,c=(.slice e f g)/\aP prog (Instr.makeSlice 65 (iv (b:Int)) (iv (b:Int))) d λ c d=>∃ h i j,c=(.slice h i j)/\∃ c:Int->qN,(∃ k,c 0 d k)/\∀ d k l,c l d k->∀ m:qv,cond (decide (l<(i:Int))) (aq h λ m=>0<=l/\l<(i:Int)/\aM d (Addr.add m ((l).toNat*1)) (iv (-1)) λ m=>∃ n,n<k/\c (IntKind.i64.wrap (l+1)) m n) (∃ c:Int->qW,(∀ k l,c l k->∀ m:qv,cond (decide (l<0)) (K (.tuple #[.slice e f g,qn]) k) (CC 250 #[.slice h i j,iv l] k λ g j=>∃ k l m,g=.returned (.slice k l m)/\K (.tuple #[qn,.slice k l m]) j))/\∃ g:Int->Int->qN,(∃ j,g (-1:Int) (0:Int) d j)/\∀ d j k l,g k l d j->∀ m:qv,cond (decide (l<(b:Int))) (∃ m:Int->Int->qN,(∃ n,m (-1:Int) (0:Int) d n)/\∀ o n p q,m p q o n->∀ r:qv,cond (decide (q<(b:Int))) (∃ r:Int->Int->qN,(∃ s,r p 0 o s)/\∀ t s u v,r u v t s->∀ x:qv,cond (decide (v<(b:Int))) (∃ x:Int->qW,(∀ y z,x z y->∀ A:qv,∃ A,A<s/\r z (IntKind.i64.wrap (v+1)) y A)/\aq e λ r=>0<=q/\q<(f:Int)/\∃ s,t.drew.cell? (Addr.add r ((q).toNat*1))=some (iv s)/\aq a λ y=>0<=q/\q<(b:Int)/\∃ z A:I6,af t.drew (Addr.add y ((q).toNat*12)) 0 (z.on (A.vs))/\aq a λ a=>0<=v/\v<(b:Int)/\∃ b y:I6,af t.drew (Addr.add a ((v).toNat*12)) 0 (b.on (y.vs))/\CC 136 #[.agg (z.on (A.vs):List Value).toArray,.agg (b.on (y.vs):List Value).toArray] t.drew λ a b=>∃ y,a=.returned (iv y)/\b.cell? (Addr.add r ((q).toNat*1))=some (iv s)/\aq e λ a=>0<=v/\v<(f:Int)/\∃ r,b.cell? (Addr.add a ((v).toNat*1))=some (iv r)/\cond (decide ((IntKind.i64.wrap (s+y))<r)) (aq e λ a=>0<=v/\v<(f:Int)/\aM b (Addr.add a ((v).toNat*1)) (iv (IntKind.i64.wrap (s+y))) λ a=>aq h λ e=>0<=v/\v<(i:Int)/\aM a (Addr.add e ((v).toNat*1)) (iv q) λ a=>x v a) (x u b)) (∃ a,a<n/\m u (IntKind.i64.wrap (q+1)) t a)) (cond (decide (p<0)) (c p o) (∃ a,a<j/\g p (IntKind.i64.wrap (l+1)) o a))) (c k d))
theorem qA{a1 l1 c1 w K}(h:kY a1 l1 c1 w K):CP 236 #[.slice a1 l1 c1] w K:=ah (az [(218,[(19,.s (.int .i64))]),(223,[(7,.s (.int .i64))]),(1786,[(7,.s (.int .i64)),(28,.s (.int .i64))]),(914634,[(7,.s (.int .i64)),(32,.s (.int .i64))]),(234146406,[(7,.s (.int .i64)),(37,.s (.int .i64))]),(1873171251,[(7,.s (.int .i64))])]) func236 (by kernel_rfl) (by kernel_rfl) h
def Ao(a:Int)(w:World)(K:KP):=cond (decide (a>=0)) (K (.bool (decide (a<=1000000))) w) (K (.bool false) w)
theorem Bw{n1 w K}(h:Ao n1 w K):CP 237 #[iv n1] w K:=ah (az []) func237 (by kernel_rfl) (by kernel_rfl) h
def mT(a:OA)(b c:Nat)(d:OA)(e f:Nat)(g:OA)(h i:Nat)(w:World)(K:KP):=an w (.cells #[.slice d e f,.slice g h i] 175) λ a c=>∃ d:Bool->qW,(∀ e f,d f e->∀ g:qv,cond f (K (.bool false) e) (∃ f g h,e.cell? (qd a 0)=some (.slice f g h)/\∃ h:Int->qN,(∃ i,h 0 e i)/\∀ e i j,h j e i->∀ k:qv,cond (decide (j<(g:Int))) (aq f λ f=>0<=j/\j<(g:Int)/\∃ g,e.cell? (Addr.add f ((j).toNat*1))=some (iv g)/\∃ f:Bool->qW,(∀ k l,f l k->∀ m:qv,cond l (K (.bool false) k) (∃ l,l<i/\h (IntKind.i64.wrap (j+1)) k l))/\cond (decide (g<0)) (f true e) (f (decide (g>=(b:Int))) e)) (∃ b f g,e.cell? (qd a 1)=some (.slice b f g)/\∃ g:Int->qN,(∃ h,g 0 e h)/\∀ e h i,g i e h->∀ j:qv,cond (decide (i<(f:Int))) (aq b λ b=>0<=i/\i<(f:Int)/\∃ f,e.cell? (Addr.add b ((i).toNat*1))=some (iv f)/\∃ b:Bool->qW,(∀ j k,b k j->∀ l:qv,cond k (K (.bool false) j) (∃ k,k<h/\g (IntKind.i64.wrap (i+1)) j k))/\cond (decide (f<(-1099511627776:Int))) (b true e) (b (decide (f>1099511627776)) e)) (K (.bool true) e))))/\∃ b e f,c.cell? (qd a 0)=some (.slice b e f)/\cond (decide ((e:Int)>(0:Int))) (∃ b e f,c.cell? (qd a 1)=some (.slice b e f)/\cond (decide ((e:Int)>(0:Int))) (d true c) (∃ b e f,c.cell? (qd a 0)=some (.slice b e f)/\d (decide ((e:Int)>(1000:Int))) c)) (∃ b e f,c.cell? (qd a 0)=some (.slice b e f)/\d (decide ((e:Int)>(1000:Int))) c)
theorem rW{a1 l1 c1 a2 l2 c2 a3 l3 c3 w K}(h:mT a1 l1 c1 a2 l2 c2 a3 l3 c3 w K):CP 134 #[.slice a1 l1 c1,.agg #[.slice a2 l2 c2,.slice a3 l3 c3]] w K:=ah (az [(6,[(24,.s .bool)]),(58,[(28,.s (.int .i64))]),(3737,[(39,.s .bool)]),(122,[(44,.s (.int .i64))]),(7833,[(53,.s .bool)])]) func134 (by kernel_rfl) (by kernel_rfl) h
def jL(a:OA)(b c:Nat)(d:OA)(e f:Nat)(w:World)(K:KP):=cond ((e:Int) !=(b:Int)) (K (.bool false) w) (∃ c:Int->qN,(∃ f,c 0 w f)/\∀ g f h,c h g f->∀ i:qv,cond (decide (h<(b:Int))) (aq a λ i=>0<=h/\h<(b:Int)/\∃ j k:I6,af g (Addr.add i ((h).toNat*12)) 0 (j.on (k.vs))/\an g (.cells #[qz,qz,qz,qz,qz,qz,qz,qz,qz,qz,qz,qz] 123) λ i l=>aK (qd i 0) 0 (j.on (k.vs)) l λ j=>∃ k:Bool->qW,(∀ l m,k m l->∀ n:qv,cond m (K (.bool false) l) (∃ m:Int->qN,(∃ n,m 0 l n)/\∀ l n o,m o l n->∀ p:qv,cond (decide (o<(b:Int))) (aq a λ a=>0<=o/\o<(b:Int)/\∃ b p:I6,af l (Addr.add a ((o).toNat*12)) 0 (b.on (p.vs))/\an l (.cells #[qz,qz,qz,qz,qz,qz,qz,qz,qz,qz,qz,qz] 123) λ a q=>aK (qd a 0) 0 (b.on (p.vs)) q λ b=>aq d λ p=>0<=o/\o<(e:Int)/\∃ q,b.drew.cell? (Addr.add p ((o).toNat*1))=some (iv q)/\aq d λ r=>0<=h/\h<(e:Int)/\∃ s,b.drew.cell? (Addr.add r ((h).toNat*1))=some (iv s)/\∃ t u:I6,af b.drew (qd i 0) 0 (t.on (u.vs))/\∃ v x:I6,af b.drew (qd a 0) 0 (v.on (x.vs))/\CC 136 #[.agg (t.on (u.vs):List Value).toArray,.agg (v.on (x.vs):List Value).toArray] b.drew λ a b=>∃ t,a=.returned (iv t)/\b.cell? (Addr.add r ((h).toNat*1))=some (iv s)/\b.cell? (Addr.add p ((o).toNat*1))=some (iv q)/\cond (decide ((IntKind.i64.wrap (q-s))>t)) (K (.bool false) b) (∃ a,a<n/\m (IntKind.i64.wrap (o+1)) b a)) (∃ a,a<f/\c (IntKind.i64.wrap (h+1)) l a)))/\aq d λ a=>0<=h/\h<(e:Int)/\∃ b,j.drew.cell? (Addr.add a ((h).toNat*1))=some (iv b)/\∃ c:I6,af j.drew (qd i 0) 0 c.vs/\∃ f:I6,af j.drew (qd i 6) 0 f.vs/\CC 65 #[.agg c.vs.toArray,.agg f.vs.toArray] j.drew λ c f=>∃ j,c=.returned (iv j)/\f.cell? (Addr.add a ((h).toNat*1))=some (iv b)/\cond (decide (b<j)) (k true f) (∃ a:I6,af f (qd i 6) 0 a.vs/\cond (I6.beq a z6) (aq d λ a=>0<=h/\h<(e:Int)/\∃ b,f.cell? (Addr.add a ((h).toNat*1))=some (iv b)/\k (b !=0) f) (k false f))) (K (.bool true) g))
theorem oV{a1 l1 c1 a2 l2 c2 w K}(h:jL a1 l1 c1 a2 l2 c2 w K):CP 135 #[.slice a1 l1 c1,.slice a2 l2 c2] w K:=ah (az [(58,[(16,.s (.int .i64))]),(7474,[(43,.s .bool)]),(29902,[(46,.s (.int .i64))])]) func135 (by kernel_rfl) (by kernel_rfl) h
def qX(a b c d:I6)(w:World)(K:KP):=an w (.cells (a.on (b.vs):List Value).toArray 123) λ a b=>an b (.cells (c.on (d.vs):List Value).toArray 123) λ b c=>∃ d:I6,af c.drew (qd a 0) 0 d.vs/\∃ e:I6,af c.drew (qd b 6) 0 e.vs/\∃ b:I6,af c.drew (qd a 0) 0 b.vs/\∃ f:I6,af c.drew (qd a 6) 0 f.vs/\CC 65 #[.agg d.vs.toArray,.agg e.vs.toArray] c.drew λ c d=>∃ e,c=.returned (iv e)/\af d (qd a 6) 0 f.vs/\af d (qd a 0) 0 b.vs/\CC 65 #[.agg b.vs.toArray,.agg f.vs.toArray] d λ a b=>∃ c,a=.returned (iv c)/\K (iv (IntKind.i64.wrap (e-c))) b
theorem vm{u1 u2 u3 u4 w K}(h:qX u1 u2 u3 u4 w K):CP 136 #[.agg (u1.on (u2.vs):List Value).toArray,.agg (u3.on (u4.vs):List Value).toArray] w K:=ah (az []) func136 (by kernel_rfl) (by kernel_rfl) h
def oW(a b:I6)(w:World)(K:KP):=an w (.cells (a.on (b.vs):List Value).toArray 123) λ a b=>∃ c:I6,af b (qd a 0) 0 c.vs/\∃ d:Int->qN,(∃ e,d 0 b e)/\∀ b e f,d f b e->∀ g:qv,cond (decide (f<6)) (0<=f/\f<6/\∃ g,(c.vs.toArray:Array Value)[(f).toNat*1]?=some (iv g)/\∃ c:Bool->qW,(∀ h i,c i h->∀ j:qv,cond i (K (.bool false) h) (∃ i,i<e/\d (IntKind.i64.wrap (f+1)) h i))/\cond (decide (g<0)) (c true b) (c (decide (g>1000000)) b)) (∃ c:I6,af b (qd a 6) 0 c.vs/\CC 47 #[.agg c.vs.toArray] b λ a b=>∃ c,a=.returned (iv c)/\K (.bool (c==0)) b)
theorem tN{u1 u2 w K}(h:oW u1 u2 w K):CP 194 #[.agg (u1.on (u2.vs):List Value).toArray] w K:=ah (az [(26,[(7,.s (.int .i64))]),(1689,[(15,.s .bool)])]) func194 (by kernel_rfl) (by kernel_rfl) h
def oU(a:OA)(b c:Nat)(d:Int)(w:World)(K:KP):=aP prog (Instr.makeMap 331 none) w λ c e=>∃ f:Option Nat,c=(.map f)/\∃ c:Int->qN,(∃ g,c d e g)/\∀ d g e,c e d g->∀ h:qv,aP prog (Instr.lookup 331 (.map f) (iv e) false) d λ d h=>∃ i,d=(.bool i)/\cond (!i) (aP prog (Instr.mapUpdate 331 (.map f) (iv e) (.bool true)) h λ _e1 d=>aq a λ i=>0<=e/\e<(b:Int)/\∃ j,d.cell? (Addr.add i ((e).toNat*1))=some (iv j)/\∃ i,i<g/\c j d i) (aP prog (Builtin.clear_ #[331] 0 #[.map f]) h λ _e2 c=>∃ d:Int->OA->Nat->Nat->qN,(∃ g,d e none 0 0 c g)/\∀ c g e h i j,d e h i j c g->∀ k:qv,aP prog (Instr.lookup 331 (.map f) (iv e) false) c λ c k=>∃ l,c=(.bool l)/\cond (!l) (aP prog (Instr.mapUpdate 331 (.map f) (iv e) (.bool true)) k λ _e3 c=>an c (.cells #[iv e] 3) λ c f=>aP prog (Builtin.append_ #[65,65] 65 #[.slice h i j,.slice (some (qd c 0)) 1 1]) f λ c f=>∃ j l m,c=(.slice j l m)/\aq a λ a=>0<=e/\e<(b:Int)/\∃ b,f.cell? (Addr.add a ((e).toNat*1))=some (iv b)/\∃ a,a<g/\d b j l m f a) (aP prog (Instr.makeSlice 65 (iv (i:Int)) (iv (i:Int))) k λ a b=>∃ c d e,a=(.slice c d e)/\∃ a:Int->qN,(∃ f,a 0 b f)/\∀ b f g,a g b f->∀ j:qv,cond (decide (g<(i:Int))) (aq h λ h=>0<=g/\g<(i:Int)/\∃ j,b.cell? (Addr.add h ((g).toNat*1))=some (iv j)/\aq c λ h=>0<=(IntKind.i64.wrap ((IntKind.i64.wrap ((i:Int)-(1:Int)))-g))/\(IntKind.i64.wrap ((IntKind.i64.wrap ((i:Int)-(1:Int)))-g))<(d:Int)/\aM b (Addr.add h (((IntKind.i64.wrap ((IntKind.i64.wrap ((i:Int)-(1:Int)))-g))).toNat*1)) (iv j) λ h=>∃ i,i<f/\a (IntKind.i64.wrap (g+1)) h i) (K (.slice c d e) b)))
theorem tM{a1 l1 c1 n1 w K}(h:oU a1 l1 c1 n1 w K):CP 250 #[.slice a1 l1 c1,iv n1] w K:=ah (az [(28,[(1,.s (.int .i64))]),(252,[(1,.s (.int .i64)),(6,.s .slice)]),(2042,[(41,.s (.int .i64))])]) func250 (by kernel_rfl) (by kernel_rfl) h
def I6.of(f:Nat->Int):I6:=⟨f 0,f 1,f 2,f 3,f 4,f 5⟩
theorem I6.y4(f:Nat->Int)(k:Nat)(hk:k<6):(I6.of f).at' k=f k:=by
 match k,hk with
 | 0,_|1,_|2,_|3,_|4,_|5,_=>rfl
def Ep(l:List I6)(k:Nat):Int:=l.foldl (λ s u=>s+u.at' k) 0
def gB(l:List I6):I6:=I6.of (Ep l)
theorem IP(l:List I6)(u:I6)(k:Nat):Ep (l++[u]) k=Ep l k+u.at' k:=by simp[Ep]
theorem IN(l:List I6)(u:I6):gB (l++[u])=(gB l).zip (· + ·) u:=by
 refine I6.ext' λ k hk=>?_;rw[I6.jf _ _ _ _ hk,gB,I6.y4 _ _ hk,gB,I6.y4 _ _ hk,IP]
theorem CA{B:Int}{l:List I6}(h:∀ u∈l,I6.Le u B)(k:Nat)(hk:k<6):0<=Ep l k/\Ep l k<=B*l.length:=by
 suffices H:∀ (l:List I6) (s:Int),(∀ u∈l,I6.Le u B)->s<=l.foldl (λ s u=>s+u.at' k) s/\l.foldl (λ s u=>s+u.at' k) s<=s+B*l.length by
  have:=H l 0 h;unfold Ep; omega
 intro l
 induction l with
 | nil=>intro s _; simp
 | cons u l ih =>
  intro s hl;have h1:=hl u (by simp) k hk;have h2:=ih (s+u.at' k) λ v hv=>hl v (by simp[hv]);simp only[List.foldl_cons,List.length_cons];rw[Int.natCast_add,Int.mul_add];omega
def tE(a b:I6):I6:=a.zip (λ x y=>if x>y then x-y else 0) b
abbrev Ja (w:World) (a:OA) (l:List I6):Prop:=cW 6 I6.vs w a l
theorem Bm{w:World}{a:OA}{c:Nat}{l:List I6}(h:Ja w a l)(hb:∀ u∈l,I6.Le u 1000000)(hl:l.length<=1000) :
  CP 181 #[.slice a l.length c] w (λ r w'=>r=.agg (gB l).vs.toArray/\aA w w' []):=by
 refine zJ ?_;unfold wv;refine(St.start w).one.ax z6.vs.toArray λ r1 w1 s1=>s1.ax z6.vs.toArray λ r2 w2 s2=>?_;refine⟨λ n w3 m=>∃ k:Nat,n=k/\k<=l.length/\m=l.length-k/\St w w3 (Sep [ai r2 (gB (l.take k)).vs.toArray 254,ai r1 z6.vs.toArray 254,emp]),⟨l.length,0,rfl,by omega,by omega,s2⟩,?_⟩;rintro w3 m n ⟨k,rfl,hk,hm,s3⟩ -
 by_cases hlt:(k:Int)<(l.length:Int)
 ·have hx:l[k]?=some (l[k]'(by omega)):=gE (by omega);generalize l[k]'(by omega)=x at hx;have hxm:=hb x (List.mem_of_getElem? hx);obtain⟨q,hq,hcl⟩:=(h.av s3.av).at hx;refine cT (by simpa using hlt) ?_;rw[hq];refine⟨by omega,by omega,x,hcl,s3.ax z6.vs.toArray λ r3 w4 s4=>s4.ay 0 rfl x.vs rfl (I6.one _) λ w5 s5=>?_⟩;refine⟨λ n w6 m=>∃ j:Nat,n=j/\j<=6/\m=6-j/\St w w6 (Sep [ai r3 x.vs.toArray 34,ai r2 (I6.mix j ((gB (l.take k)).zip (· + ·) x) (gB (l.take k))).vs.toArray 254,ai r1 z6.vs.toArray 254,emp]),⟨6,0,rfl,by omega,by omega,s5⟩,?_⟩;rintro w6 m6 n6 ⟨j,rfl,hj,hm6,s6⟩ -
  by_cases hlt6:(j:Int)<6
  ·have hj' : j<6:=by omega
   have s7:=s6.quiet (aA.drew _ _);have hs:=CA (l:=l.take k) (B:=1000000) (λ u hu=>hb u (List.mem_of_mem_take hu)) j hj';have hx6:=hxm j hj';have hlen:(l.take k).length<=1000:=by simp; omega
   have e1:(gB (l.take k)).at' j=Ep (l.take k) j:=I6.y4 _ _ hj';refine cT (dT hlt6) ⟨by omega,by omega,(gB (l.take k)).at' j,?_,by omega,by omega,x.at' j,?_,by omega,by omega,?_⟩
   ·rw[e9,aH s7 1 rfl hj',I6.bV _ _ _ _ hj',if_neg (by omega)]
   ·rw[e9,aH s7 0 rfl hj']
   ·rw[e9,aB ⟨by omega,by omega⟩];refine s7.aJ 1 rfl hj' rfl λ w8 s8=>⟨6-(j+1),by omega,j+1,inc (by decide) hj',by omega,rfl,?_⟩;rw[show(gB (l.take k)).at' j+x.at' j=((gB (l.take k)).zip (· + ·) x).at' j by rw[I6.jf _ _ _ _ hj'],I6.fH _ _ _ hj'] at s8;exact s8
  ·obtain rfl:j=6:=by omega
   refine cF (by simp) ⟨l.length-(k+1),by omega,k+1,aB ⟨by omega,by omega⟩,by omega,rfl,?_⟩;rw[aG hx,IN];exact s6.au [1,2,3]
 ·obtain rfl:k=l.length:=by omega
  rw[List.take_length] at s3;exact cF (by simp) ⟨_,s3.cellsIn 0 rfl,s3.ay 1 rfl (gB l).vs rfl (I6.one _) λ w8 s8=>⟨_,s8.cellsIn 1 rfl,rfl,s8.av⟩⟩
theorem RD{w:World}{a:OA}{c:Nat}{l:List I6}(h:Ja w a l)(hb:∀ u∈l,I6.Le u 1000000)(hl:l.length<=1000) :
  CP 177 #[.slice a l.length c] w (λ r w'=>r=.agg (gB l).vs.toArray/\aA w w' []):=by
 refine CG ?_;unfold Bk;refine(St.start w).one.ax z6.vs.toArray λ r1 w1 s1=>aj (Bm (h.av s1.av) hb hl) ?_;rintro v w2 ⟨rfl,c2⟩;exact⟨_,rfl,(s1.quiet c2).ay 0 rfl (gB l).vs rfl (I6.one _) λ w8 s8=>⟨_,s8.cellsIn 0 rfl,rfl,s8.av⟩⟩
theorem PY(w:World)(u v:I6)(hu:I6.Le u 1000000000)(hv:I6.Le v 1000000000):CP 180 #[.agg u.vs.toArray,.agg v.vs.toArray] w (λ r w'=>r=.agg (tE u v).vs.toArray/\aA w w' []):=by
 refine Ag ?_;unfold zI;refine(St.start w).one.ax u.vs.toArray λ r1 w1 s1=>s1.ax v.vs.toArray λ r2 w2 s2=>s2.ax z6.vs.toArray λ r3 w3 s3=>s3.ax z6.vs.toArray λ r4 w4 s4=>?_;let I:Nat->World->Prop:=λ k w'=>St w w' (Sep [ai r4 (I6.mix k (tE u v) z6).vs.toArray 34,ai r3 z6.vs.toArray 34,ai r2 v.vs.toArray 254,ai r1 u.vs.toArray 254,emp]);refine⟨λ n w5 m=>∃ k:Nat,n=k/\k<=6/\m=6-k/\I k w5,⟨6,0,rfl,by omega,by omega,s4⟩,?_⟩;rintro w5 m n ⟨k,rfl,hk,hm,s5⟩ -
 by_cases hlt:(k:Int)<6
 ·have hk' : k<6:=by omega
  have s6:=St.quiet s5 (aA.drew _ _);have s7:=s6.quiet (aA.drew _ _);have h1:=hu k hk';have h2:=hv k hk';have e:(tE u v).at' k=if u.at' k>v.at' k then u.at' k-v.at' k else 0:=I6.jf _ _ _ _ hk'
  refine cT (dT hlt) ⟨I (k+1),?_,by omega,by omega,u.at' k,by rw[e9,aH s6 3 rfl hk'],by omega,by omega,v.at' k,by rw[e9,aH s6 2 rfl hk'],?_⟩
  ·rintro w6 s6 -;exact⟨6-(k+1),by omega,k+1,inc (by decide) hk',by omega,rfl,s6⟩
  ·by_cases g:u.at' k>v.at' k
   ·refine cT (dT g) ⟨by omega,by omega,u.at' k,by rw[e9,aH s7 3 rfl hk'],by omega,by omega,v.at' k,by rw[e9,aH s7 2 rfl hk'],by omega,by omega,?_⟩;rw[e9,aB ⟨by omega,by omega⟩];refine s7.aJ 0 rfl hk' rfl λ w8 s8=>?_;rw[if_pos g] at e;rw[<- e,I6.fH _ _ _ hk'] at s8;exact s8
   ·refine cF (dF g) ?_;rw[if_neg g] at e;have:I6.mix (k+1) (tE u v) z6=I6.mix k (tE u v) z6:=by
     refine I6.ext' λ j hj=>?_;rw[I6.bV _ _ _ _ hj,I6.bV _ _ _ _ hj,uk]
     by_cases h3:j<k
     ·rw[if_pos (by omega),if_pos h3]
     ·rw[if_neg h3]
      split
      ·obtain rfl:j=k:=by omega
       exact e
      ·rfl
    show I (k+1) _;simp only[I];rw[this]; exact s6
 ·obtain rfl:k=6:=by omega
  exact cF (by simp) ⟨_,St.cellsIn s5 0 rfl,St.ay s5 1 rfl (tE u v).vs rfl (I6.one _) λ w8 s8=>⟨_,s8.cellsIn 1 rfl,rfl,s8.av⟩⟩
theorem NL{l:List I6}(h:∀ u∈l,I6.Le u 1000000)(hl:l.length<=1000):I6.Le (gB l) 1000000000:=λ k hk=>by
 have:=CA h k hk;rw[gB,I6.y4 _ _ hk];omega
theorem JS{w:World}{a:OA}{c:Nat}{l:List I6}(u:I6)(hu:I6.Le u 1000000000)(h:Ja w a l)(hb:∀ u∈l,I6.Le u 1000000)(hl:l.length<=1000) :
  CP 124 #[.agg u.vs.toArray,.slice a l.length c] w (λ r w'=>r=.agg (tE (gB l) u).vs.toArray/\aA w w' []):=by
 refine xm ?_;unfold tY;refine(St.start w).one.ax u.vs.toArray λ r1 w1 s1=>s1.ax z6.vs.toArray λ r2 w2 s2=>?_;have s3:=s2.quiet (aA.drew _ _);refine⟨_,s3.cellsIn 1 rfl,aj (Bm (h.av s3.av) hb hl) ?_⟩;rintro v w3 ⟨rfl,c3⟩;have s4:=s3.quiet c3;refine⟨_,rfl,s4.cellsIn 1 rfl,aj (PY w3 _ _ (NL hb hl) hu) ?_⟩;rintro v w4 ⟨rfl,c4⟩;exact⟨_,rfl,(s4.quiet c4).ay 0 rfl (tE (gB l) u).vs rfl (I6.one _) λ w8 s8=>⟨_,s8.cellsIn 0 rfl,rfl,s8.av⟩⟩
def qG(n:Int):Bool:=decide (0<=n)&&decide (n<=1000000)
theorem R5(w:World)(n:Int):CP 237 #[iv n] w (λ r w'=>r=.bool (qG n)/\w' = w):=by
 refine Bw ?_;unfold Ao
 by_cases h:n>=0
 ·exact cT (dT h) ⟨by simp[qG,h],rfl⟩
 ·exact cF (dF h) ⟨by simp[qG]; omega,rfl⟩
theorem Jd(w:World)(n:Int):CP 215 #[iv n] w (λ r w'=>r=iv (if qG n then 0 else 4)/\w' = w):=by
 refine wG ?_;unfold sH;refine aj (R5 w n) ?_;rintro v w1 ⟨rfl,rfl⟩;refine⟨_,rfl,?_⟩
 cases h:qG n with
 | true=>exact cF rfl ⟨rfl,rfl⟩
 | false=>exact cT rfl ⟨rfl,rfl⟩
def nF(p:I6):Bool:=p.l.all qG
theorem CI(w:World)(p:I6):CP 183 #[.agg p.vs.toArray] w (λ r w'=>r=.bool (nF p)/\aA w w' []):=by
 refine qt ?_;unfold kJ;refine(St.start w).one.ax p.vs.toArray λ r1 w1 s1=>⟨p,s1.cellsIn 0 rfl,λ n w2 m=>∃ k:Nat,n=k/\k<=6/\m=6-k/\(p.l.take k).all qG=true/\w2=w1,⟨6,0,rfl,by omega,by omega,rfl,rfl⟩,?_⟩;rintro w2 m n ⟨k,rfl,hk,hm,ha,rfl⟩ -
 by_cases hlt:(k:Int)<6
 ·have hk' : k<6:=by omega
  refine cT (dT hlt) ⟨by omega,by omega,_,p.get k hk',aj (Jd w2 _) ?_⟩;rintro v w3 ⟨rfl,rfl⟩;refine⟨_,rfl,?_⟩
  cases hx:qG (p.at' k) with
  | true=>exact cF rfl ⟨6-(k+1),by omega,k+1,inc (by decide) hk',by omega,rfl,uu ha (p.yT k hk') hx,rfl⟩
  | false=>exact cT rfl ⟨by rw[nF,xN (p.yT k hk') hx],s1.av⟩
 ·obtain rfl:k=6:=by omega
  refine cF (by simp) ⟨?_,s1.av⟩;rw[nF,show p.l.all qG=true from ha]
theorem tH{p:I6}:nF p=true<->I6.Le p 1000000:=by
 constructor
 ·intro h k hk;have:=List.all_eq_true.1 h _ (List.mem_of_getElem? (p.yT k hk));simpa[qG] using this
 ·intro h;have h0:=h 0 (by decide); have h1:=h 1 (by decide); have h2:=h 2 (by decide); have h3:=h 3 (by decide); have h4:=h 4 (by decide); have h5:=h 5 (by decide);simp only[I6.at'] at h0 h1 h2 h3 h4 h5;simp[nF,I6.l,qG,h0,h1,h2,h3,h4,h5]
structure Po where
 step:Int
 pct:Int
 und:Int
 rule:Int
def Po.cells(o:Po):List Value:=[iv o.step,iv o.pct,iv o.und,iv o.rule]
def Po.v(o:Po):Value:=.agg o.cells.toArray
def Po.ok(o:Po):Prop:=1<=o.step/\o.step<=1000000/\0<=o.pct/\o.pct<=100/\1<=o.und/\o.und<=3/\1<=o.rule/\o.rule<=3
instance (o:Po):Decidable o.ok:=by unfold Po.ok; infer_instance
def oP(o:Po):Int:=if o.ok then 0 else 4
theorem ve(w:World)(o:Po):CP 86 #[o.v] w (λ r w'=>r=iv (oP o)/\aA w w' []):=by
 refine qo ?_;unfold kH;refine(St.start w).one.ax o.cells.toArray λ r1 w1 s1=>?_;refine⟨λ b w2=>w2=w1/\(b=true<->¬ o.ok),?_,?_⟩
 ·rintro w2 b ⟨rfl,hb⟩ -
  by_cases h:o.ok
  ·obtain rfl:b=false:=by
    cases b with
    | false=>rfl
    | true=>exact absurd h (hb.1 rfl)
   exact cF rfl ⟨by rw[oP,if_pos h],s1.av⟩
  ·obtain rfl:=hb.2 h;exact cT rfl ⟨by rw[oP,if_neg h],s1.av⟩
 have bad : ¬ o.ok->(true=true<->¬ o.ok):=λ h=>⟨λ _=>h,λ _=>rfl⟩;refine⟨_,s1.ag 0 rfl 0,?_⟩
 by_cases g1:o.step<1
 ·exact cT (dT g1) ⟨rfl,bad λ h=>by unfold Po.ok at h; omega⟩
 refine cF (dF g1) ⟨_,s1.ag 0 rfl 0,?_⟩
 by_cases g2:o.step>1000000
 ·exact cT (dT g2) ⟨rfl,bad λ h=>by unfold Po.ok at h; omega⟩
 refine cF (dF g2) ⟨_,s1.ag 0 rfl 1,?_⟩
 by_cases g3:o.pct<0
 ·exact cT (dT g3) ⟨rfl,bad λ h=>by unfold Po.ok at h; omega⟩
 refine cF (dF g3) ⟨_,s1.ag 0 rfl 1,?_⟩
 by_cases g4:o.pct>100
 ·exact cT (dT g4) ⟨rfl,bad λ h=>by unfold Po.ok at h; omega⟩
 refine cF (dF g4) ⟨_,s1.ag 0 rfl 2,?_⟩
 by_cases g5:o.und<1
 ·exact cT (dT g5) ⟨rfl,bad λ h=>by unfold Po.ok at h; omega⟩
 refine cF (dF g5) ⟨_,s1.ag 0 rfl 2,?_⟩
 by_cases g6:o.und>3
 ·exact cT (dT g6) ⟨rfl,bad λ h=>by unfold Po.ok at h; omega⟩
 refine cF (dF g6) ⟨_,s1.ag 0 rfl 3,?_⟩
 by_cases g7:o.rule<1
 ·exact cT (dT g7) ⟨rfl,bad λ h=>by unfold Po.ok at h; omega⟩
 refine cF (dF g7) ⟨_,s1.ag 0 rfl 3,rfl,?_⟩;rw[decide_eq_true_eq];unfold Po.ok;omega
def iW(l:List Pr):I6:=I6.Sw (l.map Pr.res)
theorem vv(l:List Pr)(k:Nat)(hk:k<6):(iW l).at' k=(l.map Pr.res).getD k 0:=by
 match k,hk with
 | 0,_|1,_|2,_|3,_|4,_|5,_=>rfl
theorem Cy{w:World}{a:OA}{c:Nat}{l:List Pr}(h:dx w a l)(hl:l.length<=6)(hc:l.length<=c) :
  CP 118 #[.slice a l.length c] w (λ r w'=>r=.agg (iW l).vs.toArray/\aA w w' []):=by
 refine qq ?_;unfold kI;have e:(if (6:Int)<((l.length:Nat):Int) then (6:Int) else ((l.length:Nat):Int))=(l.length:Int):=by rw[if_neg (by omega)]
 rw[e,Lc,Int.toNat_natCast,Nat.sub_zero];refine(St.start w).one.ax z6.vs.toArray λ r1 w1 s1=>s1.ax z6.vs.toArray λ r2 w2 s2=>⟨by omega,by omega,?_⟩;refine⟨λ n w3 m=>∃ k:Nat,n=k/\k<=l.length/\m=l.length-k/\St w w3 (Sep [ai r2 (I6.mix k (iW l) z6).vs.toArray 53,ai r1 z6.vs.toArray 53,emp]),⟨l.length,0,rfl,by omega,by omega,s2⟩,?_⟩;rintro w3 m n ⟨k,rfl,hk,hm,s3⟩ -
 by_cases hlt:(k:Int)<(l.length:Int)
 ·have hx:l[k]?=some (l[k]'(by omega)):=gE (by omega);generalize l[k]'(by omega)=x at hx;obtain⟨_,q,hq,hcl⟩:=(h.av s3.av) k x hx;have h6:k<6:=by omega
  refine cT (by simpa using hlt) ?_;rw[hq];refine⟨by omega,by omega,_,_,_,_,_,hcl,aI ?_⟩;refine(s3.bO _ 120).ay 0 rfl x.cells rfl x.one λ w6 s6=>⟨_,s6.ag 0 rfl 2,by omega,by omega,?_⟩;rw[e9];refine s6.aJ 1 rfl h6 rfl λ w7 s7=>⟨l.length-(k+1),by omega,k+1,aB ⟨by omega,by omega⟩,by omega,rfl,?_⟩;have e1:x.res=(iW l).at' k:=by rw[vv l k h6]; simp[List.getElem?_map,hx]
  rw[e1,I6.fH _ _ _ h6] at s7;exact s7.au [1,2,3]
 ·obtain rfl:k=l.length:=by omega
  have hcn:I6.mix l.length (iW l) z6=iW l:=by
   refine I6.ext' λ j hj=>?_;rw[I6.bV _ _ _ _ hj,uk]
   split
   ·rfl
   ·rw[vv l j hj,List.getD_eq_getElem?_getD,List.getElem?_eq_none (by simp; omega)]; rfl
  rw[hcn] at s3;exact cF (by simp) ⟨_,s3.cellsIn 0 rfl,s3.ay 1 rfl (iW l).vs rfl (I6.one _) λ w8 s8=>⟨_,s8.cellsIn 1 rfl,rfl,s8.av⟩⟩
def FC(o:Po)(p:Int):Int:=p+o.step+(p*o.pct+99) / 100
theorem Nf{w0 w:World}{l:List aD}{o:Po}(ho:o.ok){p:Int}(hp:0<=p/\p<=1000000){r:Nat}{T:TypeId}(s:St w0 w (Sep l))(i:Nat)(e:l[i]?=some (ai r o.cells.toArray T)) :
  CP 214 #[iv p,.pointer (some ⟨r,0,none⟩)] w (λ v w'=>v=iv (FC o p)/\w' = w):=by
 refine lU ⟨_,s.ag i e 0,_,s.ag i e 1,by decide,?_,rfl⟩;obtain⟨h1,h2,h3,h4,_⟩:=ho;have h5:0<=p*o.pct:=Int.mul_nonneg hp.1 h3;have h6:p*o.pct<=1000000*100:=Int.le_trans (Int.mul_le_mul_of_nonneg_left h4 hp.1) (Int.mul_le_mul_of_nonneg_right hp.2 (by omega));have h7:Int.tdiv (p*o.pct+99) 100=(p*o.pct+99) / 100:=Int.tdiv_eq_ediv_of_nonneg (by omega);rw[aB (n:=p+o.step) ⟨by omega,by omega⟩,aB (n:=p*o.pct) ⟨by omega,by omega⟩,aB (n:=p*o.pct+99) ⟨by omega,by omega⟩,h7,aB (n:=(p*o.pct+99) / 100) ⟨by omega,by omega⟩,aB ⟨by omega,by omega⟩];rfl
def bE(o:Po)(p ex:I6):I6:=p.zip (λ x n=>if n>0 then FC o x else x) ex
def vY(o:Po)(p ex:I6):I6×Int:=if bE o p ex≠p/\nF (bE o p ex)=false then (z6,4) else (bE o p ex,0)
theorem Ku(w:World){o:Po}(ho:o.ok){p:I6}(hp:nF p=true)(ex:I6):CP 125 #[o.v,.agg p.vs.toArray,.agg ex.vs.toArray] w (λ r w'=>r=.tuple #[.agg (vY o p ex).1.vs.toArray,iv (vY o p ex).2]/\aA w w' []):=by
 refine rJ ?_;unfold mL;have hle:=tH.1 hp;refine(St.start w).one.ax o.cells.toArray λ r1 w1 s1=>s1.ax p.vs.toArray λ r2 w2 s2=>s2.ax ex.vs.toArray λ r3 w3 s3=>s3.ax z6.vs.toArray λ r4 w4 s4=>?_;refine⟨_,_,_,_,s4.cellsIn 3 rfl,aj (ve w4 o) ?_⟩;rintro v w5 ⟨rfl,c5⟩;have s5:=s4.quiet c5;have s6:=s5.quiet (aA.drew _ _);let L:Nat->Nat->I6->List aD:=λ b r out=>[ai r out.vs.toArray 53,ai b o.cells.toArray 23,ai r4 z6.vs.toArray 53,ai r3 ex.vs.toArray 34,ai r2 p.vs.toArray 53,emp];refine⟨_,rfl,cF (by rw[oP,if_pos ho]; rfl) ⟨λ v r w'=>∃ b,v=.func (.func 214) #[] #[.pointer (some ⟨b,0,none⟩)]/\St w w' (Sep (L b r p)),?_,?_⟩⟩
 ·rintro w7 v r5 ⟨b,rfl,s7⟩ -;refine⟨ex,s7.cellsIn 3 rfl,λ n w8 m=>∃ k:Nat,n=k/\k<=6/\m=6-k/\St w w8 (Sep (L b r5 (I6.mix k (bE o p ex) p))),⟨6,0,rfl,by omega,by omega,s7⟩,?_⟩;rintro w8 m n ⟨k,rfl,hk,hm,s8⟩ -
  by_cases hlt:(k:Int)<6
  ·have hk' : k<6:=by omega
   have er:(bE o p ex).at' k=if ex.at' k>0 then FC o (p.at' k) else p.at' k:=I6.jf _ _ _ _ hk'
   refine cT (dT hlt) ⟨λ w9=>St w w9 (Sep (L b r5 (I6.mix (k+1) (bE o p ex) p))),?_,by omega,by omega,_,ex.get k hk',λ g w10=>g=decide (ex.at' k>0)/\St w w10 (Sep (L b r5 (I6.mix k (bE o p ex) p))),?_,?_⟩
   ·rintro w9 s9 -;exact⟨6-(k+1),by omega,k+1,inc (by decide) hk',by omega,rfl,s9⟩
   ·rintro w10 g ⟨rfl,s10⟩ -
    by_cases hg:ex.at' k>0
    ·refine cT (dT hg) ⟨by omega,by omega,p.at' k,by rw[e9,aH s10 4 rfl hk'],bn (by kernel_rfl) (aj (Nf ho (hle k hk') s10 1 rfl) ?_)⟩;rintro v w11 ⟨rfl,rfl⟩;refine⟨_,rfl,by omega,by omega,?_⟩;rw[e9];refine s10.aJ 0 rfl hk' rfl λ w12 s12=>?_;rw[if_pos hg] at er;rw[<- er,I6.fH _ _ _ hk'] at s12;exact s12
    ·refine cF (dF hg) ?_;rw[if_neg hg] at er;have:I6.mix (k+1) (bE o p ex) p=I6.mix k (bE o p ex) p:=by
      refine I6.ext' λ j hj=>?_;rw[I6.bV _ _ _ _ hj,I6.bV _ _ _ _ hj]
      by_cases h3:j<k
      ·rw[if_pos (by omega),if_pos h3]
      ·rw[if_neg h3]
       split
       ·obtain rfl:j=k:=by omega
        exact er
       ·rfl
     rw[this]; exact s10
   ·by_cases hg:ex.at' k>0
    ·refine cT (dT hg) ⟨_,s8.cellsIn 4 rfl,aj (CI w8 p) ?_⟩;rintro v w13 ⟨rfl,c13⟩;exact⟨_,rfl,by rw[hp,dT hg],s8.quiet c13⟩
    ·exact cF (dF hg) ⟨by rw[dF hg],s8⟩
  ·obtain rfl:k=6:=by omega
   refine cF (by simp) ⟨λ g w14=>g=decide (bE o p ex≠p/\nF (bE o p ex)=false)/\St w w14 (Sep (L b r5 (bE o p ex))),?_,p,s8.cellsIn 4 rfl,aj (CI w8 p) ?_⟩
   ·rintro w14 g ⟨rfl,s14⟩ -
    by_cases hg:bE o p ex≠p/\nF (bE o p ex)=false
    ·refine cT (dT hg) (s14.ay 2 rfl z6.vs rfl (I6.one _) λ w15 s15=>⟨_,s15.cellsIn 2 rfl,?_,s15.av⟩);rw[vY,if_pos hg]
    ·refine cF (dF hg) ⟨_,s14.cellsIn 0 rfl,s14.ay 2 rfl (bE o p ex).vs rfl (I6.one _) λ w15 s15=>⟨_,s15.cellsIn 2 rfl,?_,s15.av⟩⟩;rw[vY,if_neg hg]
   ·rintro v w17 ⟨rfl,c17⟩;have s17:=s8.quiet c17;refine⟨_,rfl,cF (by rw[hp]; rfl) ⟨_,s17.cellsIn 0 rfl,_,s17.cellsIn 4 rfl,?_⟩⟩;rw[I6.B5,I6.beq_eq]
    by_cases hne:bE o p ex=p
    ·exact cF (by simp[hne]) ⟨by simp[hne],s17⟩
    ·refine cT (by simp[hne]) ⟨_,s17.cellsIn 0 rfl,aj (CI w17 _) ?_⟩;rintro v w18 ⟨rfl,c18⟩;refine⟨_,rfl,?_,s17.quiet c18⟩;rw[I6.B5]
     cases nF (bE o p ex)<;>simp[hne]
 ·refine⟨_,_,_,_,s6.cellsIn 3 rfl,p,s6.cellsIn 2 rfl,?_,?_⟩
  ·refine aj (K:=λ v w'=>∃ b,v=.func (.func 214) #[] #[.pointer (some ⟨b,0,none⟩)]/\St w w' (Sep (ai b o.cells.toArray 23 :: [ai r4 z6.vs.toArray 53,ai r3 ex.vs.toArray 34,ai r2 p.vs.toArray 53,ai r1 o.cells.toArray 23,emp]))) (fQ ?_) ?_
   ·exact s6.ax o.cells.toArray λ b w' s'=>⟨b,rfl,s'⟩
   ·rintro v w19 ⟨b,rfl,s19⟩;refine⟨_,rfl,s19.cellsIn 3 rfl,s19.ax z6.vs.toArray λ r6 w20 s20=>⟨s20.cellsIn 4 rfl,s20.ay 0 rfl p.vs rfl (I6.one _) λ w21 s21=>⟨b,rfl,s21.au [0,1,2,3,4,6]⟩⟩⟩
  ·refine s6.ax z6.vs.toArray λ r7 w22 s22=>⟨s22.cellsIn 3 rfl,s22.cellsIn 4 rfl,?_⟩;refine aj (K:=λ v w'=>∃ b,v=.func (.func 214) #[] #[.pointer (some ⟨b,0,none⟩)]/\St w w' (Sep (ai b o.cells.toArray 23 :: [ai r7 z6.vs.toArray 53,ai r4 z6.vs.toArray 53,ai r3 ex.vs.toArray 34,ai r2 p.vs.toArray 53,ai r1 o.cells.toArray 23,emp]))) (fQ ?_) ?_
   ·exact s22.ax o.cells.toArray λ b w' s'=>⟨b,rfl,s'⟩
   ·rintro v w23 ⟨b,rfl,s23⟩;exact⟨_,rfl,s23.cellsIn 4 rfl,s23.ay 1 rfl p.vs rfl (I6.one _) λ w24 s24=>⟨b,rfl,s24.au [1,0,2,3,4,6]⟩⟩
def gw(a:OA)(b c:Nat)(w:World)(K:KP):=cond (a).isNone (K qn w) (an w (.cells #[] 120) λ d e=>aP prog (Builtin.append_ #[70,70] 70 #[.slice (some (qd d 0)) 0 0,.slice a b c]) e λ a b=>∃ c d e,a=(.slice c d e)/\K (.slice c d e) b)
theorem lg{a1 l1 c1 w K}(h:gw a1 l1 c1 w K):CP 82 #[.slice a1 l1 c1] w K:=ah (az []) func82 (by kernel_rfl) (by kernel_rfl) h
def gN(a:OA)(b c:Nat)(w:World)(K:KP):=cond (a).isNone (K qn w) (an w (.cells #[] 137) λ d e=>aP prog (Builtin.append_ #[71,71] 71 #[.slice (some (qd d 0)) 0 0,.slice a b c]) e λ a b=>∃ c d e,a=(.slice c d e)/\K (.slice c d e) b)
theorem mj{a1 l1 c1 w K}(h:gN a1 l1 c1 w K):CP 83 #[.slice a1 l1 c1] w K:=ah (az []) func83 (by kernel_rfl) (by kernel_rfl) h
def kZ(a:OA)(b c:Nat)(w:World)(K:KP):=cond (a).isNone (K qn w) (an w (.cells #[] 153) λ d e=>aP prog (Builtin.append_ #[72,72] 72 #[.slice (some (qd d 0)) 0 0,.slice a b c]) e λ a b=>∃ c d e,a=(.slice c d e)/\K (.slice c d e) b)
theorem qB{a1 l1 c1 w K}(h:kZ a1 l1 c1 w K):CP 84 #[.slice a1 l1 c1] w K:=ah (az []) func84 (by kernel_rfl) (by kernel_rfl) h
def iT(a:OA)(b c:Nat)(w:World)(K:KP):=cond (a).isNone (K qn w) (an w (.cells #[] 156) λ d e=>aP prog (Builtin.append_ #[73,73] 73 #[.slice (some (qd d 0)) 0 0,.slice a b c]) e λ a b=>∃ c d e,a=(.slice c d e)/\K (.slice c d e) b)
theorem nJ{a1 l1 c1 w K}(h:iT a1 l1 c1 w K):CP 85 #[.slice a1 l1 c1] w K:=ah (az []) func85 (by kernel_rfl) (by kernel_rfl) h
def gO(a:OA)(b c:Nat)(w:World)(K:KP):=cond (a).isNone (K qn w) (an w (.cells #[] 34) λ d e=>aP prog (Builtin.append_ #[54,54] 54 #[.slice (some (qd d 0)) 0 0,.slice a b c]) e λ a b=>∃ c d e,a=(.slice c d e)/\K (.slice c d e) b)
theorem mq{a1 l1 c1 w K}(h:gO a1 l1 c1 w K):CP 176 #[.slice a1 l1 c1] w K:=ah (az []) func176 (by kernel_rfl) (by kernel_rfl) h
theorem NB:hU prog 54 34 (.agg z6.vs.toArray) 6 48:=hU.mk' underlying54 (by kernel_rfl) rfl (by decide)
theorem cG(u:I6):u.vs.length=6:=rfl
abbrev A9 (a:OA) (c:Nat) (l:List I6):aD:=bM 34 6 I6.vs a c l
theorem JA{w0 w:World}{B:aD}(s:St w0 w B){a:OA}{c:Nat}{l:List I6}(h:Ja w a l)(hl:l.length<=1000) :
  CP 176 #[.slice a l.length c] w (λ r w'=>∃ a' c',r=.slice a' l.length c'/\St w0 w' (star (A9 a' c' l) B)):=by
 refine mq ?_;unfold gO;exact om (c:=c) (K:=λ r w'=>∃ a' c',r=.slice a' l.length c'/\St w0 w' (star (A9 a' c' l) B)) NB cG I6.one s h (by omega) (by omega) λ a' c' w' s'=>⟨a',c',rfl,s'⟩
def Ix(sup tot now ask:I6)(k:Nat):Bool:=decide (ask.at' k<now.at' k)&&decide (tot.at' k-now.at' k+ask.at' k<sup.at' k)
def iQ(sup tot now ask:I6):Bool:=(List.range 6).any (Ix sup tot now ask)
theorem Iy(w:World)(sup tot now ask:I6)(h1:I6.Le sup 1000000)(h2:I6.Le tot 1000000)(h3:I6.Le now 1000000)(h4:I6.Le ask 1000000) :
  CP 178 #[.agg sup.vs.toArray,.agg tot.vs.toArray,.agg now.vs.toArray,.agg ask.vs.toArray] w (λ r w'=>r=.bool (iQ sup tot now ask)/\aA w w' []):=by
 refine pE ?_;unfold jT;refine(St.start w).one.ax sup.vs.toArray λ r1 w1 s1=>s1.ax tot.vs.toArray λ r2 w2 s2=>s2.ax now.vs.toArray λ r3 w3 s3=>s3.ax ask.vs.toArray λ r4 w4 s4=>?_;refine⟨λ n w5 m=>∃ k:Nat,n=k/\k<=6/\m=6-k/\(∀ j,j<k->Ix sup tot now ask j=false)/\aA w4 w5 [],⟨6,0,rfl,by omega,by omega,λ j hj=>by omega,aA.refl _ _⟩,?_⟩;rintro w5 m n ⟨k,rfl,hk,hm,ha,hc⟩ -
 by_cases hlt:(k:Int)<6
 ·have hk' : k<6:=by omega
  have c5:aA w4 w5.drew []:=hc.trans (aA.drew w5 []) (by simp);have s5:=s4.quiet c5;have q1:=h1 k hk'; have q2:=h2 k hk'; have q3:=h3 k hk'; have q4:=h4 k hk';have ge1:=aH s5 3 rfl hk'; have ge2:=aH s5 2 rfl hk'; have ge3:=aH s5 1 rfl hk'; have ge4:=aH s5 0 rfl hk';refine cT (dT hlt) ⟨λ b w6=>b=Ix sup tot now ask k/\aA w4 w6 [],?_,by omega,by omega,_,by rw[e9,ge4],by omega,by omega,_,by rw[e9,ge3],?_⟩
  ·rintro w6 b ⟨rfl,c6⟩ -
   cases hr:Ix sup tot now ask k with
   | true=>exact cT rfl ⟨by rw[iQ,List.any_eq_true.2 ⟨k,List.mem_range.2 hk',hr⟩],(s4.quiet c6).av⟩
   | false =>
    refine cF rfl ⟨6-(k+1),by omega,k+1,inc (by decide) hk',by omega,rfl,λ j hj=>?_,c6⟩;rcases Nat.lt_or_ge j k with h' | h'
    ·exact ha j h'
    ·obtain rfl:j=k:=by omega
     exact hr
  ·by_cases g:ask.at' k<now.at' k
   ·refine cT (dT g) ⟨by omega,by omega,_,by rw[e9,ge2],by omega,by omega,_,by rw[e9,ge3],by omega,by omega,_,by rw[e9,ge4],by omega,by omega,_,by rw[e9,ge1],?_,c5⟩;rw[aB (n:=tot.at' k-now.at' k) ⟨by omega,by omega⟩,aB ⟨by omega,by omega⟩,Ix,dT g,Bool.true_and]
   ·exact cF (dF g) ⟨by rw[Ix,dF g,Bool.false_and],c5⟩
 ·obtain rfl:k=6:=by omega
  refine cF (by simp) ⟨?_,(s4.quiet hc).av⟩;have:iQ sup tot now ask=false:=by
   rw[iQ,List.any_eq_false];intro j hj;rw[ha j (List.mem_range.1 hj)]; simp
  rw[this]
def y8(sup tot now ask:Int):Int:=if ask<now then now-(if (if 0>tot-sup then 0 else tot-sup)<now-ask then (if 0>tot-sup then 0 else tot-sup) else now-ask) else ask
def oO(sup tot now ask:I6):I6:=I6.of λ k=>y8 (sup.at' k) (tot.at' k) (now.at' k) (ask.at' k)
theorem D8{s t n a B:Int}(h3:0<=n/\n<=B)(h4:0<=a/\a<=B):0<=y8 s t n a/\y8 s t n a<=B:=by
 unfold y8
 split
 ·split<;>split<;>omega
 ·omega
theorem KG{s t n a:I6}{B:Int}(h3:I6.Le n B)(h4:I6.Le a B):I6.Le (oO s t n a) B:=λ k hk=>by
 rw[oO,I6.y4 _ _ hk]; exact D8 (h3 k hk) (h4 k hk)
theorem KH(w:World)(sup tot now ask:I6)(h1:I6.Le sup 1000000)(h2:I6.Le tot 1000000)(h3:I6.Le now 1000000)(h4:I6.Le ask 1000000) :
  CP 179 #[.agg sup.vs.toArray,.agg tot.vs.toArray,.agg now.vs.toArray,.agg ask.vs.toArray] w (λ r w'=>r=.agg (oO sup tot now ask).vs.toArray/\aA w w' []):=by
 refine qF ?_;unfold lE;refine(St.start w).one.ax sup.vs.toArray λ r1 w1 s1=>s1.ax tot.vs.toArray λ r2 w2 s2=>s2.ax now.vs.toArray λ r3 w3 s3=>s3.ax ask.vs.toArray λ r4 w4 s4=>s4.ax z6.vs.toArray λ r5 w5 s5=>?_;let I:Nat->World->Prop:=λ k w'=>St w w' (Sep [ai r5 z6.vs.toArray 34,ai r4 (I6.mix k (oO sup tot now ask) ask).vs.toArray 34,ai r3 now.vs.toArray 34,ai r2 tot.vs.toArray 34,ai r1 sup.vs.toArray 34,emp]);refine⟨λ n w6 m=>∃ k:Nat,n=k/\k<=6/\m=6-k/\I k w6,⟨6,0,rfl,by omega,by omega,s5⟩,?_⟩;rintro w6 m n ⟨k,rfl,hk,hm,s6⟩ -
 by_cases hlt:(k:Int)<6
 ·have hk' : k<6:=by omega
  have s7:=St.quiet s6 (aA.drew _ _);have s8:=s7.quiet (aA.drew _ _);have q1:=h1 k hk'; have q2:=h2 k hk'; have q3:=h3 k hk'; have q4:=h4 k hk';have ea:(I6.mix k (oO sup tot now ask) ask).at' k=ask.at' k:=by rw[I6.bV _ _ _ _ hk',if_neg (by omega)]
  have ep:(oO sup tot now ask).at' k=y8 (sup.at' k) (tot.at' k) (now.at' k) (ask.at' k):=I6.y4 _ _ hk';refine cT (dT hlt) ⟨I (k+1),?_,by omega,by omega,ask.at' k,by rw[e9,aH s7 1 rfl hk',ea],by omega,by omega,now.at' k,by rw[e9,aH s7 2 rfl hk'],?_⟩
  ·rintro w9 s9 -;exact⟨6-(k+1),by omega,k+1,inc (by decide) hk',by omega,rfl,s9⟩
  ·by_cases g:ask.at' k<now.at' k
   ·refine cT (dT g) ⟨by omega,by omega,now.at' k,by rw[e9,aH s8 2 rfl hk'],by omega,by omega,now.at' k,by rw[e9,aH s8 2 rfl hk'],by omega,by omega,ask.at' k,by rw[e9,aH s8 1 rfl hk',ea],by omega,by omega,tot.at' k,by rw[e9,aH s8 3 rfl hk'],by omega,by omega,sup.at' k,by rw[e9,aH s8 4 rfl hk'],by omega,by omega,?_⟩
    have hp:=D8 (s:=sup.at' k) (t:=tot.at' k) q3 q4;rw[y8,if_pos g] at ep hp;rw[e9,aB (n:=tot.at' k-sup.at' k) ⟨by omega,by omega⟩,aB (n:=now.at' k-ask.at' k) ⟨by omega,by omega⟩,aB ⟨by omega,by omega⟩,<- ep];refine s8.aJ 1 rfl hk' rfl λ w9 s9=>?_;rw[I6.fH _ _ _ hk'] at s9;exact s9
   ·refine cF (dF g) ?_;rw[y8,if_neg g] at ep;have:I6.mix (k+1) (oO sup tot now ask) ask=I6.mix k (oO sup tot now ask) ask:=by
     refine I6.ext' λ j hj=>?_;rw[I6.bV _ _ _ _ hj,I6.bV _ _ _ _ hj]
     by_cases h3:j<k
     ·rw[if_pos (by omega),if_pos h3]
     ·rw[if_neg h3]
      split
      ·obtain rfl:j=k:=by omega
       exact ep
      ·rfl
    show I (k+1) _;simp only[I];rw[this]; exact s7
 ·obtain rfl:k=6:=by omega
  exact cF (by simp) ⟨_,St.cellsIn s6 1 rfl,St.ay s6 0 rfl (oO sup tot now ask).vs rfl (I6.one _) λ w8 s8=>⟨_,s8.cellsIn 0 rfl,rfl,s8.av⟩⟩
theorem LB{w:World}{p:Int}(hp:1<=p/\p<=3){sup:I6}(hs:I6.Le sup 4){a1 a2:OA}{c1 c2:Nat}{l1 l2:List I6}(h1:Ja w a1 l1)(h2:Ja w a2 l2)(hl:l2.length=l1.length)(h8:l1.length<=8)(b1:∀ u∈l1,I6.Le u 4)(b2:∀ u∈l2,I6.Le u 4) :
  CP 175 #[iv p,.agg sup.vs.toArray,.slice a1 l1.length c1,.slice a2 l2.length c2] w (λ r w'=>r=iv 0/\aA w w' []):=by
 refine sj ?_;unfold mY;refine(St.start w).one.ax sup.vs.toArray λ r1 w1 s1=>⟨λ b w2=>b=false/\w2=w1,?_,cF (dF (by omega)) ⟨dF (by omega),rfl⟩⟩;rintro w2 b ⟨rfl,rfl⟩ -;refine cF rfl ⟨λ b w3=>b=false/\w3=w2,?_,cF (by simp[hl]) ⟨dF (by omega),rfl⟩⟩;rintro w3 b ⟨rfl,rfl⟩ -;refine cF rfl ⟨_,s1.cellsIn 0 rfl,aj (bR w3 sup) ?_⟩;rintro v w4 ⟨rfl,c4⟩;have s4:=s1.quiet c4;refine⟨_,rfl,cF (by rw[leq hs]; rfl) ⟨λ n w5 m=>∃ k:Nat,n=k/\k<=2/\m=2-k/\aA w w5 [],⟨2,0,rfl,by omega,by omega,s4.av⟩,?_⟩⟩;rintro w5 m n ⟨k,rfl,hk,hm,c5⟩ -
 by_cases hlt:(k:Int)<2
 ·have hk' : k<2:=by omega
  obtain⟨a,c,l,e1,hr,hb,hl8⟩:∃ (a:OA) (c:Nat) (l:List I6),(#[.slice a1 l1.length c1,.slice a2 l2.length c2]:Array Value)[(k:Int).toNat*1]?=some (.slice a l.length c)/\Ja w a l/\(∀ u∈l,I6.Le u 4)/\l.length<=8:=by
   match k,hk' with
   | 0,_=>exact⟨a1,c1,l1,rfl,h1,b1,h8⟩
   | 1,_=>exact⟨a2,c2,l2,rfl,h2,b2,by omega⟩
  refine cT (dT hlt) ⟨by omega,by omega,_,_,_,e1,λ n w6 m=>∃ j:Nat,n=j/\j<=l.length/\m=l.length-j/\aA w w6 [],⟨l.length,0,rfl,by omega,by omega,c5⟩,?_⟩;rintro w6 m6 n6 ⟨j,rfl,hj,hm6,c6⟩ -
  by_cases hlt6:(j:Int)<(l.length:Int)
  ·have hx:l[j]?=some (l[j]'(by omega)):=gE (by omega);generalize l[j]'(by omega)=x at hx;obtain⟨q,hq,hcl⟩:=(hr.av c6).at hx;refine cT (by simpa using hlt6) ?_;rw[hq];refine⟨by omega,by omega,x,hcl,(St.start' c6).one.ax z6.vs.toArray λ r2 w7 s7=>s7.ay 0 rfl x.vs rfl (I6.one _) λ w8 s8=>⟨_,s8.cellsIn 0 rfl,aj (bR w8 x) ?_⟩⟩;rintro v w9 ⟨rfl,c9⟩;exact⟨_,rfl,cF (by rw[leq (hb x (List.mem_of_getElem? hx))]; rfl) ⟨l.length-(j+1),by omega,j+1,aB ⟨by omega,by omega⟩,by omega,rfl,(s8.quiet c9).av⟩⟩
  ·exact cF (by simpa using hlt6) ⟨2-(k+1),by omega,k+1,inc (by decide) hk',by omega,rfl,c6⟩
 ·exact cF (dF hlt) ⟨rfl,c5⟩
def mB(p:Int)(sup:I6)(out:List I6)(i:Nat)(ask:I6):List I6 :=
 if p=2 then (if iQ sup (gB out) (out.getD i z6) ask then out else out.set i ask)
 else if p=3 then out.set i (oO sup (gB out) (out.getD i z6) ask) else out.set i ask
def wB(p:Int)(sup:I6)(bef asked:List I6):Nat->List I6
 | 0=>bef
 | k+1=>mB p sup (wB p sup bef asked k) k (asked.getD k z6)
def Sp(p:Int)(sup:I6)(bef asked:List I6):List I6:=wB p sup bef asked asked.length
theorem xy{l:List I6}{B:Int}(h:∀ u∈l,I6.Le u B)(hB:0<=B)(i:Nat):I6.Le (l.getD i z6) B:=by
 rw[List.getD_eq_getElem?_getD]
 cases hg:l[i]? with
 | none=>exact λ k _=>by rw[show(none:Option I6).getD z6=z6 from rfl,uk]; omega
 | some u=>exact h u (List.mem_of_getElem? hg)
theorem FO{l:List I6}{B:Int}(h:∀ u∈l,I6.Le u B){x:I6}(hx:I6.Le x B)(i:Nat):∀ u∈l.set i x,I6.Le u B:=λ u hu=>by
 rcases List.mem_or_eq_of_mem_set hu with h' | rfl
 ·exact h u h'
 ·exact hx
theorem IS{p:Int}{sup:I6}{out:List I6}{i:Nat}{ask:I6}{B:Int}(hB:0<=B)(h:∀ u∈out,I6.Le u B)(ha:I6.Le ask B):(mB p sup out i ask).length=out.length/\∀ u∈mB p sup out i ask,I6.Le u B:=by
 unfold mB
 split
 ·split
  ·exact⟨rfl,h⟩
  ·exact⟨by simp,FO h ha i⟩
 ·split
  ·exact⟨by simp,FO h (KG (xy h hB i) ha) i⟩
  ·exact⟨by simp,FO h ha i⟩
theorem CH{p:Int}{sup:I6}{bef asked:List I6}{B:Int}(hB:0<=B)(h:∀ u∈bef,I6.Le u B)(ha:∀ u∈asked,I6.Le u B):∀ k,(wB p sup bef asked k).length=bef.length/\∀ u∈wB p sup bef asked k,I6.Le u B
 | 0=>⟨rfl,h⟩
 | k+1=>by
  obtain⟨h1,h2⟩:=CH (p:=p) (sup:=sup) hB h ha k;obtain⟨h3,h4⟩:=IS (p:=p) (sup:=sup) (i:=k) hB h2 (xy ha hB k);exact⟨h3.trans h1,h4⟩
theorem LA{w0 w:World}{B:aD}(s:St w0 w B){p:Int}(hp:1<=p/\p<=3){sup:I6}(hs:I6.Le sup 4){a1 a2:OA}{c1 c2:Nat}{l1 l2:List I6}(h1:Ja w a1 l1)(h2:Ja w a2 l2)(hl:l2.length=l1.length)(h8:l1.length<=8)(b1:∀ u∈l1,I6.Le u 4)(b2:∀ u∈l2,I6.Le u 4) :
  CP 122 #[iv p,.agg sup.vs.toArray,.slice a1 l1.length c1,.slice a2 l2.length c2] w (λ r w'=>∃ a c,r=.tuple #[.slice a l1.length c,iv 0]/\St w0 w' (star (A9 a c (Sp p sup l1 l2)) B)/\aA w w' []):=by
 refine si ?_;unfold mX;refine(St.start w).one.ax sup.vs.toArray λ r1 w1 t1=>⟨_,t1.cellsIn 0 rfl,aj (LB hp hs (h1.av t1.av) (h2.av t1.av) hl h8 b1 b2) ?_⟩;rintro v w2 ⟨rfl,c2⟩;have t2:=t1.quiet c2;refine⟨_,rfl,cF rfl (aj (JA t2 (h1.av t2.av) (by omega)) ?_)⟩;rintro v w3 ⟨a,c,rfl,t3⟩;refine⟨_,_,_,rfl,?_⟩;have len:∀ k,(wB p sup l1 l2 k).length=l1.length:=λ k=>(CH (B:=4) (by omega) b1 b2 k).1;have le4:∀ k,∀ u∈wB p sup l1 l2 k,I6.Le u 4:=λ k=>(CH (B:=4) (by omega) b1 b2 k).2;have up:∀ {u:I6},I6.Le u 4->I6.Le u 1000000:=λ h k hk=>by have:=h k hk; omega
 have tsum:∀ k,I6.Le (gB (wB p sup l1 l2 k)) 1000000:=λ k j hj=>by
  have:=CA (le4 k) j hj;rw[gB,I6.y4 _ _ hj];have:=len k;omega
 let Q:Nat->aD:=λ k=>Sep [A9 a c (wB p sup l1 l2 k),ai r1 sup.vs.toArray 34,emp];refine⟨λ n w4 m=>∃ k:Nat,n=k/\k<=l2.length/\m=l2.length-k/\St w w4 (Q k),⟨l2.length,0,rfl,by omega,by omega,t3⟩,?_⟩;rintro w4 m n ⟨k,rfl,hk,hm,t4⟩ -
 by_cases hlt:(k:Int)<(l2.length:Int)
 ·have hx:l2[k]?=some (l2[k]'(by omega)):=gE (by omega);generalize l2[k]'(by omega)=x at hx;have hxD:l2.getD k z6=x:=by rw[List.getD_eq_getElem?_getD,hx]; rfl
  have hx4:=b2 x (List.mem_of_getElem? hx);have hk1:k<l1.length:=by omega
  obtain⟨q,hq,hcl⟩:=(h2.av (St.av t4)).at hx;have hg:∃ g,a=some ⟨g,0,none⟩:=St.mg (l:=wB p sup l1 l2 k) (St.out t4 0 rfl) (by rw[len]; omega);obtain⟨g,rfl⟩:=hg;have hnow:(wB p sup l1 l2 k)[k]?=some ((wB p sup l1 l2 k).getD k z6):=by
   rw[List.getD_eq_getElem?_getD,gE (by rw[len]; exact hk1)]; rfl
  have hnow4:=xy (le4 k) (by omega) k;refine cT (by simpa using hlt) ⟨λ w5=>St w w5 (Q (k+1)),?_,?_⟩
  ·rintro w5 t5 -;exact⟨l2.length-(k+1),by omega,k+1,aB ⟨by omega,by omega⟩,by omega,rfl,t5⟩
  rw[hq];refine⟨by omega,by omega,x,hcl,St.ax t4 z6.vs.toArray λ r2 w6 t6=>t6.ay 0 rfl x.vs rfl (I6.one _) λ w7 t7=>?_⟩;have rd7:Ja w7 (some ⟨g,0,none⟩) (wB p sup l1 l2 k):=St.rd cG (t7.out 1 rfl);have hsum:=RD (c:=c) rd7 (λ u hu=>up (le4 k u hu)) (by rw[len]; omega);rw[len] at hsum;refine aj hsum ?_;rintro v w8 ⟨rfl,c8⟩;refine⟨_,rfl,(t7.quiet c8).ax z6.vs.toArray λ r3 w9 t9=>t9.ay 0 rfl (gB (wB p sup l1 l2 k)).vs rfl (I6.one _) λ w10 t10=>?_⟩;generalize htot:gB (wB p sup l1 l2 k)=tot at t10;have ht6:I6.Le tot 1000000:=htot▸tsum k;let now:=(wB p sup l1 l2 k).getD k z6;have rdN:∀ {w' : World} {l:List aD} {y:I6},St w w' (Sep (ai r3 tot.vs.toArray 34 :: ai r2 y.vs.toArray 34 :: A9 (some ⟨g,0,none⟩) c (wB p sup l1 l2 k) :: l))->af w' (Addr.add ⟨g,0,none⟩ (((k:Nat):Int).toNat*6)) 0 now.vs:=λ t=>by
   obtain⟨q',hq',hc'⟩:=cW.at (St.rd cG (t.out 2 rfl)) hnow
   cases hq'; exact hc'
  have t10' : St w w10 (Sep [ai r3 tot.vs.toArray 34,ai r2 x.vs.toArray 34,A9 (some ⟨g,0,none⟩) c (wB p sup l1 l2 k),ai r1 sup.vs.toArray 34,emp]):=t10;have t11:=t10'.quiet (aA.drew w10 []);refine⟨λ w'=>∃ y:I6,wB p sup l1 l2 (k+1)=(wB p sup l1 l2 k).set k y/\St w w' (Sep [ai r3 tot.vs.toArray 34,ai r2 y.vs.toArray 34,A9 (some ⟨g,0,none⟩) c (wB p sup l1 l2 k),ai r1 sup.vs.toArray 34,emp]),?_,?_⟩
  ·rintro w11 ⟨y,ey,t⟩ -;refine⟨_,t.cellsIn 1 rfl,by omega,by omega,?_⟩;rw[Int.toNat_natCast];refine St.Bi cG (I6.one y) (t.out 2 rfl) (i:=k) (by rw[len]; exact hk1) λ w12 t12=>?_;show St w w12 (Q (k+1));simp only[Q];rw[ey];exact(t12.back (l:=[ai r3 tot.vs.toArray 34,ai r2 y.vs.toArray 34,A9 (some ⟨g,0,none⟩) c (wB p sup l1 l2 k),ai r1 sup.vs.toArray 34,emp]) (i:=2) (by simp)).au [2,3,4]
  ·have estep:wB p sup l1 l2 (k+1)=mB p sup (wB p sup l1 l2 k) k x:=by show mB _ _ _ _ (l2.getD k z6)=_; rw[hxD]
   by_cases p2:p=2
   ·refine cT (by simpa using p2) ⟨_,t11.cellsIn 3 rfl,_,t11.cellsIn 0 rfl,by omega,by omega,_,rdN t11,_,t11.cellsIn 1 rfl,aj (Iy _ sup tot now x (up hs) ht6 (up hnow4) (up hx4)) ?_⟩;rintro v w13 ⟨rfl,c13⟩;refine⟨_,rfl,?_⟩;have t13:=t11.quiet c13;have e2:wB p sup l1 l2 (k+1)=if iQ sup tot now x then wB p sup l1 l2 k else (wB p sup l1 l2 k).set k x:=by
     rw[estep,mB,if_pos p2,htot]
    cases hr:iQ sup tot now x with
    | true =>
     refine cT rfl ?_;rw[hr,if_pos rfl] at e2;show St w w13 (Q (k+1));simp only[Q];rw[e2];exact t13.au [2,3,4]
    | false =>
     rw[hr] at e2;exact cF rfl ⟨x,e2,t13⟩
   ·refine cF (by simpa using p2) ?_
    by_cases p3:p=3
    ·refine cT (by simpa using p3) ⟨_,t11.cellsIn 3 rfl,_,t11.cellsIn 0 rfl,by omega,by omega,_,rdN t11,_,t11.cellsIn 1 rfl,aj (KH _ sup tot now x (up hs) ht6 (up hnow4) (up hx4)) ?_⟩;rintro v w14 ⟨rfl,c14⟩;refine⟨_,rfl,(t11.quiet c14).ay 1 rfl (oO sup tot now x).vs rfl (I6.one _) λ w15 t15=>⟨_,?_,t15⟩⟩;rw[estep,mB,if_neg p2,if_pos p3,htot]
    ·refine cF (by simpa using p3) ⟨x,?_,t10'⟩;rw[estep,mB,if_neg p2,if_neg p3]
 ·obtain rfl:k=l2.length:=by omega
  refine cF (by simp) ⟨a,c,rfl,?_,St.av t4⟩;exact(s.after (St.au t4 [0]).single)
structure Br where
 nm:List UInt8
 cls:Int
 bud:Int
 pts:Int
def Br.cells(p:Br):List Value:=[sv p.nm,iv p.cls,iv p.bud,iv p.pts]
def Br.In(p:Br):Prop:=Go.Vc.In p.cls/\Go.Vc.In p.bud/\Go.Vc.In p.pts
def kf(w:World)(a:OA)(l:List Br):Prop:=∀ (i:Nat) (p:Br),l[i]?=some p->p.In/\∃ q,a=some q/\af w (q.add (i*4)) 0 p.cells
theorem kf.av{w w' : World}{a:OA}{l:List Br}(h:kf w a l)(hc:aA w w' []):kf w' a l:=λ i p hp =>
 let ⟨h1,q,hq,h2⟩:=h i p hp
 ⟨h1,q,hq,bC hc h2⟩
theorem kf.take{w:World}{a:OA}{l:List Br}(h:kf w a l)(n:Nat):kf w a (l.take n):=λ i p hp=>by
 rw[List.getElem?_take] at hp
 split at hp
 ·exact h i p hp
 ·cases hp
theorem Br.one(p:Br):∀ v∈p.cells,v.oneCell' = true:=by
 intro v hv; simp[Br.cells] at hv; rcases hv with rfl|rfl|rfl|rfl<;>rfl
theorem Qo{a:OA}{c:Nat}:(if c=0 then a else Option.map (λ x=>Addr.add x (0*4)) a)=a:=by
 split
 ·rfl
 ·cases a<;>simp[Addr.add]
theorem No{w:World}{a:OA}{c:Nat}{l:List Br}(h:kf w a l)(hl:l.length<=1000)(nm:List UInt8) :
  CP 132 #[.slice a l.length c,sv nm] w (λ r w'=>(∃ k:Int,r=.tuple #[iv k,.bool (l.any λ p=>p.nm==nm)])/\aA w w' []):=by
 refine AY ?_;unfold Fx;refine⟨λ n w1 m=>∃ k:Nat,n=k/\k<=l.length/\m=l.length-k/\(l.take k).any (λ p=>p.nm==nm)=false/\aA w w1 [],⟨l.length,0,rfl,by omega,by omega,rfl,aA.refl _ _⟩,?_⟩;rintro w1 m n ⟨k,rfl,hk,hm,ha,hc⟩ -
 by_cases hlt:(k:Int)<(l.length:Int)
 ·have hx:l[k]?=some (l[k]'(by omega)):=gE (by omega);generalize l[k]'(by omega)=x at hx;obtain⟨_,q,rfl,hcl⟩:=(h.av hc) k x hx;refine cT (by simpa using hlt) ⟨by omega,by omega,_,_,_,_,hcl,aI ?_⟩;refine((St.start' hc).one.bO _ 137).ay 0 rfl x.cells rfl x.one λ w3 s3=>?_;refine⟨_,by rw[s3.ag 0 rfl]; rfl,?_⟩
  by_cases hn:x.nm=nm
  ·exact cT (by rw[hn]; simp) ⟨⟨k,by rw[jq hx (by simpa using hn)]⟩,s3.av⟩
  ·exact cF (by rw[iw,iw]; simpa using hn) ⟨l.length-(k+1),by omega,k+1,by rw[aB ⟨by omega,by omega⟩]; rfl,by omega,rfl,fL ha hx (by simpa using hn),s3.av⟩
 ·refine cF (by simpa using hlt) ⟨⟨0,?_⟩,hc⟩;rw[List.take_of_length_le (by omega)] at ha;rw[ha]
def BC(x:Br):Bool:=(decide (0<=x.cls)&&decide (x.cls<=4))&&((decide (0<=x.bud)&&decide (x.bud<=1000000))&&(decide (0<=x.pts)&&decide (x.pts<=24000)))
def xq(l:List Br)(i:Nat)(p:Br):Prop:=(ei p.nm&&BC p)=true/\((l.take i).any λ q=>q.nm==p.nm)=false
structure Gb (l:List Br):Prop where
 l1:1<=l.length
 l2:l.length<=8
 good:∀ i p,l[i]?=some p->xq l i p
theorem pO{x:Br}(hh : ¬ (0<=x.cls/\x.cls<=4/\0<=x.bud/\x.bud<=1000000/\0<=x.pts/\x.pts<=24000)):true = !BC x:=by
 cases hr:BC x with
 | false=>rfl
 | true =>
  exfalso; apply hh
  simp only[BC,Bool.and_eq_true,decide_eq_true_eq] at hr;omega
def L7(l:List Br)(i:Nat)(p:Br):Int:=if ei p.nm=false then 5 else if ((l.take i).any λ q=>q.nm==p.nm) then 7 else if BC p=false then 4 else 0
theorem C6{l:List Br}{i:Nat}{p:Br}(h:xq l i p):L7 l i p=0:=by
 obtain⟨h1,h2⟩:=h;rw[Bool.and_eq_true] at h1;rw[L7,h1.1,h2,h1.2]; rfl
def IZ(l:List Br):Int:=if l.length=0 then 1 else if 8<l.length then 3 else dY (L7 l) 0 l
theorem Iv{w:World}{a:OA}{c:Nat}{l:List Br}(h:kf w a l)(hcap:l.length<=c) :
  CP 97 #[.slice a l.length c] w ((Bs (Gb l) (IZ l) w)):=by
 refine Fs ?_;unfold GX
 by_cases h0:l.length=0
 ·exact cT (by rw[h0]; rfl) (aW (by decide) (λ hp=>by have:=hp.l1; omega) (aA.refl _ _) (by rw[IZ,if_pos h0]))
 refine cF (by simpa using h0) ?_;rcases Nat.lt_or_ge 8 l.length with h6|h6
 ·exact cT (dT (by omega)) (aW (by decide) (λ hp=>by have:=hp.l2; omega) (aA.refl _ _) (by rw[IZ,if_neg h0,if_pos h6]))
 refine cF (dF (by omega)) ⟨λ n w1 m=>∃ k:Nat,n=k/\k<=l.length/\m=l.length-k/\(∀ i p,i<k->l[i]?=some p->xq l i p)/\aA w w1 [],⟨l.length,0,rfl,by omega,by omega,λ i p hi=>by omega,aA.refl _ _⟩,?_⟩;rintro w1 m n ⟨k,rfl,hk,hm,ha,hc⟩ -
 by_cases hlt:(k:Int)<(l.length:Int)
 ·have hx:l[k]?=some (l[k]'(by omega)):=gE (by omega);generalize l[k]'(by omega)=x at hx;obtain⟨_,q,hq,hcl⟩:=(h.av hc) k x hx;have bad : ¬ xq l k x->¬ Gb l:=λ hb hp=>hb (hp.good k x hx);have bk:∀ {e:Int},e≠0->L7 l k x=e->IZ l=e:=λ he h=>by
   have:=kM (f:=L7 l) (n:=0) (λ i p hi hp=>by rw[Nat.zero_add]; exact C6 (ha i p hi hp)) hx (by rw[Nat.zero_add,h]; exact he);rw[Nat.zero_add,h] at this;rw[IZ,if_neg h0,if_neg (by omega),this]
  refine cT (by simpa using hlt) ?_;rw[hq];refine⟨by omega,by omega,_,_,_,_,hcl,aI ?_⟩;refine((St.start' hc).one.bO _ 137).ay 0 rfl x.cells rfl x.one λ w3 s3=>?_;generalize hr1:w1.heap.size=r1 at s3 ⊢;have cx:∀ {w' : World},aA w3 w' []->∀ (j:Nat) (v:Value),x.cells[j]?=some v->w'.cell? ⟨r1,j,none⟩=some v:=λ hc j v hv=>ct (by rw[s3.ag 0 rfl]; simpa using hv) hc;refine⟨_,cx (aA.refl _ _) 0 _ rfl,aj (yN w3 x.nm) ?_⟩;rintro v w4 ⟨rfl,rfl⟩;refine⟨_,rfl,?_⟩
  cases hn:ei x.nm with
  | false=>exact cT rfl (aW (by decide) (bad λ hg=>by have:=hg.1; simp[hn] at this) s3.av (bk (by decide) (by rw[L7,hn]; rfl)))
  | true =>
   have d4:aA w4 w4.drew []:=aA.drew w4 [];refine cF rfl ⟨by omega,by omega,_,cx d4 0 _ rfl,?_⟩;rw[<- hq,Qo];have hf:=No (c:=c-0) ((h.av (s3.av.trans d4 (by simp))).take k) (by rw[List.length_take]; omega) x.nm;rw[List.length_take,Nat.min_eq_left hk] at hf;refine aj hf ?_;rintro v w5 ⟨⟨kk,rfl⟩,c5⟩;have d5:aA w4 w5 []:=d4.trans c5 (by simp);refine⟨_,_,rfl,?_⟩
   cases hany:((l.take k).any λ p=>p.nm==x.nm) with
   | true=>exact cT rfl (aW (by decide) (bad λ hg=>by have:=hg.2; rw[hany] at this; cases this) (s3.av.trans d5 (by simp)) (bk (by decide) (by rw[L7,hn,hany]; rfl)))
   | false =>
    refine cF rfl ⟨λ b w6=>w6=w5/\b = !BC x,?_,?_⟩
    ·rintro w6 b ⟨rfl,rfl⟩ -;have c7:=s3.av.trans d5 (by simp)
     cases hr:BC x with
     | false=>exact cT rfl (aW (by decide) (bad λ hg=>by have:=hg.1; simp[hr] at this) c7 (bk (by decide) (by rw[L7,hn,hany,hr]; rfl)))
     | true =>
      refine cF rfl ⟨l.length-(k+1),by omega,k+1,by rw[aB ⟨by omega,by omega⟩]; rfl,by omega,rfl,λ i p hi hp=>?_,c7⟩;rcases Nat.lt_or_ge i k with h' | h'
      ·exact ha i p h' hp
      ·obtain rfl:i=k:=by omega
       rw[hx] at hp; cases hp;exact⟨by simp[hn,hr],hany⟩
    ·refine⟨_,cx d5 1 _ rfl,?_⟩
     by_cases g1:x.cls<0
     ·exact cT (dT g1) ⟨rfl,pO (by omega)⟩
     refine cF (dF g1) ⟨_,cx d5 1 _ rfl,?_⟩
     by_cases g2:x.cls>4
     ·exact cT (dT g2) ⟨rfl,pO (by omega)⟩
     refine cF (dF g2) ⟨_,cx d5 2 _ rfl,?_⟩
     by_cases g3:x.bud<0
     ·exact cT (dT g3) ⟨rfl,pO (by omega)⟩
     refine cF (dF g3) ⟨_,cx d5 2 _ rfl,?_⟩
     by_cases g4:x.bud>1000000
     ·exact cT (dT g4) ⟨rfl,pO (by omega)⟩
     refine cF (dF g4) ⟨_,cx d5 3 _ rfl,?_⟩
     by_cases g5:x.pts<0
     ·exact cT (dT g5) ⟨rfl,pO (by omega)⟩
     refine cF (dF g5) ⟨_,cx d5 3 _ rfl,rfl,?_⟩
     by_cases g6:x.pts>24000
     ·rw[dT g6]; exact pO (by omega)
     ·rw[dF g6];have:BC x=true:=by simp only[BC,Bool.and_eq_true,decide_eq_true_eq]; omega
      rw[this]; rfl
 ·obtain rfl:k=l.length:=by omega
  exact cF (by simp) (pP ⟨by omega,h6,λ i p hp=>ha i p (List.getElem?_eq_some_iff.1 hp).1 hp⟩ hc (by rw[IZ,if_neg h0,if_neg (by omega),fV λ i p hp=>by rw[Nat.zero_add]; exact C6 (ha i p (List.getElem?_eq_some_iff.1 hp).1 hp)]))
structure T3 where
 a:Int
 b:Int
 c:Int
def T3.cells(p:T3):List Value:=[iv p.a,iv p.b,iv p.c]
def CR(w:World)(a:OA)(l:List T3):Prop:=∀ (i:Nat) (p:T3),l[i]?=some p->∃ q,a=some q/\af w (q.add (i*3)) 0 p.cells
theorem CR.av{w w' : World}{a:OA}{l:List T3}(h:CR w a l)(hc:aA w w' []):CR w' a l:=λ i p hp =>
 let ⟨q,hq,h2⟩:=h i p hp
 ⟨q,hq,bC hc h2⟩
theorem T3.one(p:T3):∀ v∈p.cells,v.oneCell' = true:=by
 intro v hv; simp[T3.cells] at hv; rcases hv with rfl|rfl|rfl<;>rfl
theorem slice3{a:OA}{c:Nat}:(if c=0 then a else Option.map (λ x=>Addr.add x (0*3)) a)=a:=by
 split
 ·rfl
 ·cases a<;>simp[Addr.add]
def Au(n:Nat)(x:T3):Bool:=(decide (-1<=x.a)&&decide (x.a<(n:Int)))&&((decide (0<=x.b)&&decide (x.b<=4))&&(decide (0<=x.c)&&decide (x.c<=24)))
def jM(x y:T3):Bool:=y.a==x.a&&y.b==x.b
def Gc(n:Nat)(l:List T3)(i:Nat)(p:T3):Prop:=Au n p=true/\((l.take i).any λ q=>jM p q)=false
structure Bq (n:Nat) (l:List T3):Prop where
 l1:l.length<=16
 good:∀ i p,l[i]?=some p->Gc n l i p
def Mi(n:Nat)(l:List T3)(i:Nat)(x:T3):Int:=if (decide (-1<=x.a)&&decide (x.a<(n:Int)))=false then 6 else if ((decide (0<=x.b)&&decide (x.b<=4))&&(decide (0<=x.c)&&decide (x.c<=24)))=false then 4 else if ((l.take i).any λ q=>jM x q) then 7 else 0
theorem Dn{n:Nat}{l:List T3}{i:Nat}{p:T3}(h:Gc n l i p):Mi n l i p=0:=by
 obtain⟨h1,h2⟩:=h;unfold Au at h1;rw[Bool.and_eq_true] at h1;rw[Mi,h1.1,h1.2,h2]; rfl
def JE(n:Nat)(l:List T3):Int:=if 16<l.length then 3 else dY (Mi n l) 0 l
theorem L9{w:World}{a1 a2 a3 a4:OA}{l1 c1 l2 c2 c3 l4 c4:Nat}{l:List T3}(h:CR w a3 l)(hcap:l.length<=c3) :
  CP 98 #[.agg #[.slice a1 l1 c1,.slice a2 l2 c2,.slice a3 l.length c3,.slice a4 l4 c4]] w ((Bs (Bq l2 l) (JE l2 l) w)):=by
 refine y7 ?_;unfold vZ;refine aI ?_;have s1:=(St.start w).one.bO #[.slice a1 l1 c1,.slice a2 l2 c2,.slice a3 l.length c3,.slice a4 l4 c4] 75;generalize hw1:w.alloc _=w1 at s1 ⊢;generalize hr1:w.heap.size=r1 at s1 ⊢;have cb:∀ {w' : World},aA w1 w' []->∀ (j:Nat) (v:Value),(#[.slice a1 l1 c1,.slice a2 l2 c2,.slice a3 l.length c3,.slice a4 l4 c4]:Array Value)[j]?=some v->w'.cell? ⟨r1,j,none⟩=some v:=λ hc j v hv=>ct (by rw[s1.ag 0 rfl]; exact hv) hc;have z1:aA w1 w1 []:=aA.refl _ _;refine⟨_,_,_,cb z1 2 _ rfl,?_⟩;rcases Nat.lt_or_ge 16 l.length with h6|h6
 ·exact cT (dT (by omega)) (aW (by decide) (λ hp=>by have:=hp.l1; omega) s1.av (by rw[JE,if_pos h6]))
 refine cF (dF (by omega)) ⟨_,_,_,cb z1 2 _ rfl,λ n w2 m=>∃ k:Nat,n=k/\k<=l.length/\m=l.length-k/\(∀ i p,i<k->l[i]?=some p->Gc l2 l i p)/\aA w1 w2 [],⟨l.length,0,rfl,by omega,by omega,λ i p hi=>by omega,z1⟩,?_⟩;rintro w2 m n ⟨k,rfl,hk,hm,ha,hc⟩ -;have hcw:aA w w2 []:=s1.av.trans hc (by simp)
 by_cases hlt:(k:Int)<(l.length:Int)
 ·have hx:l[k]?=some (l[k]'(by omega)):=gE (by omega);generalize l[k]'(by omega)=x at hx;obtain⟨q,hq,hcl⟩:=(h.av hcw) k x hx;have bad : ¬ Gc l2 l k x->¬ Bq l2 l:=λ hb hp=>hb (hp.good k x hx);have bk:∀ {e:Int},e≠0->Mi l2 l k x=e->JE l2 l=e:=λ he h=>by
   have:=kM (f:=Mi l2 l) (n:=0) (λ i p hi hp=>by rw[Nat.zero_add]; exact Dn (ha i p hi hp)) hx (by rw[Nat.zero_add,h]; exact he);rw[Nat.zero_add,h] at this;rw[JE,if_neg (by omega),this]
  refine cT (by simpa using hlt) ?_;rw[hq];refine⟨by omega,by omega,_,_,_,hcl,aI ?_⟩;refine((St.start w2).one.bO _ 153).ay 0 rfl x.cells rfl x.one λ w4 s4=>?_;generalize hr2:w2.heap.size=r2 at s4 ⊢;have d4:aA w1 w4 []:=hc.trans s4.av (by simp);have cw4:aA w w4 []:=s1.av.trans d4 (by simp);have cx:∀ {w' : World},aA w4 w' []->∀ (j:Nat) (v:Value),x.cells[j]?=some v->w'.cell? ⟨r2,j,none⟩=some v:=λ hc j v hv=>ct (by rw[s4.ag 0 rfl]; simpa using hv) hc;have z4:aA w4 w4 []:=aA.refl _ _;refine⟨λ b w5=>w5=w4/\b = !(decide (-1<=x.a)&&decide (x.a<(l2:Int))),?_,?_⟩
  ·rintro w5 b ⟨rfl,rfl⟩ -
   cases g0:(decide (-1<=x.a)&&decide (x.a<(l2:Int))) with
   | false=>exact cT rfl (aW (by decide) (bad λ hg=>by have:=hg.1; unfold Au at this; rw[g0] at this; cases this) cw4 (bk (by decide) (by rw[Mi,g0]; rfl)))
   | true =>
    refine cF rfl ⟨λ b w6=>w6=w5/\b = !((decide (0<=x.b)&&decide (x.b<=4))&&(decide (0<=x.c)&&decide (x.c<=24))),?_,?_⟩
    ·rintro w6 b ⟨rfl,rfl⟩ -
     cases g1:((decide (0<=x.b)&&decide (x.b<=4))&&(decide (0<=x.c)&&decide (x.c<=24))) with
     | false=>exact cT rfl (aW (by decide) (bad λ hg=>by have:=hg.1; unfold Au at this; rw[g0,g1] at this; cases this) cw4 (bk (by decide) (by rw[Mi,g0,g1]; rfl)))
     | true =>
      refine cF rfl ⟨_,_,_,cb d4 2 _ rfl,by omega,by omega,λ n w7 m=>∃ j:Nat,n=j/\j<=k/\m=k-j/\(l.take j).any (λ p=>jM x p)=false/\aA w6 w7 [],⟨k,0,rfl,by omega,by omega,rfl,z4⟩,?_⟩;rintro w7 m7 n7 ⟨j,rfl,hj,hm7,hany,c7⟩ -
      by_cases hjk:(j:Int)<(k:Int)
      ·have hy:l[j]?=some (l[j]'(by omega)):=gE (by omega);generalize l[j]'(by omega)=y at hy;obtain⟨q',hq',hcl'⟩:=(h.av (cw4.trans c7 (by simp))) j y hy;rw[hq] at hq'; cases hq';refine cT (by simpa using hjk) ?_;rw[slice3,hq];refine⟨by omega,by simpa using hjk,_,_,_,hcl',aI ?_⟩;refine((St.start' c7).one.bO _ 153).ay 0 rfl y.cells rfl y.one λ w9 s9=>?_;have cy:∀ (j:Nat) (v:Value),y.cells[j]?=some v->w9.cell? ⟨w7.heap.size,j,none⟩=some v:=λ j v hv=>by rw[s9.ag 0 rfl]; simpa using hv
       refine⟨λ b w10=>w10=w9/\b=jM x y,?_,_,cy 0 _ rfl,_,cx s9.av 0 _ rfl,?_⟩
       ·rintro w10 b ⟨rfl,rfl⟩ -
        cases hs:jM x y with
        | true =>
         have h2:(l.take k)[j]?=some y:=by rw[List.getElem?_take,if_pos (by omega)]; exact hy
         have h3:=jq (p:=λ q=>jM x q) h2 hs;refine cT rfl (aW (by decide) (bad λ hg=>?_) (cw4.trans s9.av (by simp)) (bk (by decide) (by rw[Mi,g0,g1,h3]; rfl)));have h1:=hg.2;rw[h3] at h1
         cases h1
        | false=>exact cF rfl ⟨k-(j+1),by omega,j+1,by rw[aB ⟨by omega,by omega⟩]; rfl,by omega,rfl,fL hany hy hs,s9.av⟩
       ·by_cases hA:y.a=x.a
        ·refine cT (by simpa using hA) ⟨_,cy 1 _ rfl,_,cx s9.av 1 _ rfl,rfl,?_⟩;simp[jM,hA]
        ·exact cF (by simpa using hA) ⟨rfl,by simp[jM,hA]⟩
      ·obtain rfl:j=k:=by omega
       refine cF (by simp) ⟨l.length-(j+1),by omega,j+1,by rw[aB ⟨by omega,by omega⟩]; rfl,by omega,rfl,λ i p hi hp=>?_,d4.trans c7 (by simp)⟩;rcases Nat.lt_or_ge i j with h' | h'
       ·exact ha i p h' hp
       ·obtain rfl:i=j:=by omega
        rw[hx] at hp; cases hp;exact⟨by unfold Au; rw[g0,g1]; rfl,hany⟩
    ·have no : ¬ (0<=x.b/\x.b<=4/\0<=x.c/\x.c<=24)->true = !((decide (0<=x.b)&&decide (x.b<=4))&&(decide (0<=x.c)&&decide (x.c<=24))):=λ hh=>by
      cases hr:((decide (0<=x.b)&&decide (x.b<=4))&&(decide (0<=x.c)&&decide (x.c<=24))) with
      | false=>rfl
      | true =>
       exfalso; apply hh
       simp only[Bool.and_eq_true,decide_eq_true_eq] at hr;omega
     refine⟨_,cx z4 1 _ rfl,?_⟩
     by_cases g1:x.b<0
     ·exact cT (dT g1) ⟨rfl,no (by omega)⟩
     refine cF (dF g1) ⟨_,cx z4 1 _ rfl,?_⟩
     by_cases g2:x.b>4
     ·exact cT (dT g2) ⟨rfl,no (by omega)⟩
     refine cF (dF g2) ⟨_,cx z4 2 _ rfl,?_⟩
     by_cases g3:x.c<0
     ·exact cT (dT g3) ⟨rfl,no (by omega)⟩
     refine cF (dF g3) ⟨_,cx z4 2 _ rfl,rfl,?_⟩
     by_cases g4:x.c>24
     ·rw[dT g4]; exact no (by omega)
     ·rw[dF g4,dT (show 0<=x.b by omega),dT (show x.b<=4 by omega),dT (show 0<=x.c by omega),dT (show x.c<=24 by omega)];rfl
  ·refine⟨_,cx z4 0 _ rfl,?_⟩
   by_cases g1:x.a < -1
   ·exact cT (dT g1) ⟨rfl,by rw[dF (show ¬ -1<=x.a by omega)]; rfl⟩
   ·refine cF (dF g1) ⟨_,cx z4 0 _ rfl,_,_,_,cb d4 1 _ rfl,rfl,?_⟩;rw[dT (show -1<=x.a by omega),Bool.true_and]
    by_cases g2:x.a<(l2:Int)
    ·rw[dT g2,dF (by omega)]; rfl
    ·rw[dF g2,dT (by omega)]; rfl
 ·obtain rfl:k=l.length:=by omega
  exact cF (by simp) (pP ⟨h6,λ i p hp=>ha i p (List.getElem?_eq_some_iff.1 hp).1 hp⟩ hcw (by rw[JE,if_neg (by omega),fV λ i p hp=>by rw[Nat.zero_add]; exact Dn (ha i p (List.getElem?_eq_some_iff.1 hp).1 hp)]))

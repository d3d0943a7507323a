import Derived.Test.YtpihmghnbplohaaGreatDoorQ10
set_option linter.unusedVariables false
set_option maxRecDepth 100000
namespace Go.Proofs.YtpihmghnbplohaaGreatDoor
open Go Go.Vc Tryz
def p4(a:OA)(b c:Nat)(d e f g:Int)(w:World)(K:KP):=au w (.cells #[iv d,iv e,iv f,iv g] 23) λ c d=>au d (.cells #[qz,qz,qz,qz,qz,qz,qz,qz,qz,qz,qz,qz,qn,qn,qn] 67) λ d e=>au e (.cells #[qz,qz,qz,qz,qz,qz,qz,qz,qz,qz,qz,qz,qn,qn,qn] 67) λ e f=>au f (.cells #[qz,qz,qz,qz,qz,qz,qz,qz,qz,qz,qz,qz,qz,qz,qz,qz,qz,qz,qz,qz,qz,qz,qz,qz] 150) λ f g=>∃ h i j k,af g (qd c 0) 0 [iv h,iv i,iv j,iv k]/\CC 32 #[.agg #[iv h,iv i,iv j,iv k]] g λ c g=>∃ h,c=.returned (.pointer h)/\∃ c:Int->qN,(∃ i,c 0 g i)/\∀ g i j,c j g i->∀ k:qv,cond (decide (j<(b:Int))) (∃ k:qW,(∀ l,k l->∀ m:qv,∃ m,m<i/\c (IntKind.i64.wrap (j+1)) l m)/\av a λ a=>0<=j/\j<(b:Int)/\∃ b c i,∃ l:I6,∃ m n,af g (Addr.add a ((j).toNat*11)) 0 (iv b :: iv c :: iv i :: l.on [.string m,.int .u64 n])/\au g (.cells #[qz,qz,qz,qz,qz,qz,qz,qz,qz,.string (bs []),.int .u64 0] 43) λ a j=>aU (qd a 0) 0 (iv b :: iv c :: iv i :: l.on [.string m,.int .u64 n]) j λ b=>∃ c i j,∃ l:I6,∃ m n,af b (qd a 0) 0 (iv c :: iv i :: iv j :: l.on [.string m,.int .u64 n])/\CC 17 #[.pointer h,.agg (iv c :: iv i :: iv j :: l.on [.string m,.int .u64 n]:List Value).toArray] b λ b c=>∃ i,b=.returned (iv i)/\cond (i !=0) (∃ b,c.cell? (qd e 11)=some (iv b)/\aS c (qd e 11) (iv (IntKind.i64.wrap (b+1))) λ b=>k b) (∃ b,c.cell? (qd a 0)=some (iv b)/\0<=b/\b<11/\∃ i,c.cell? (Addr.add (qd e 0) ((b).toNat*1))=some (iv i)/\0<=b/\b<11/\aS c (Addr.add (qd e 0) ((b).toNat*1)) (iv (IntKind.i64.wrap (i+1))) λ b=>∃ c,b.drew.cell? (qd a 1)=some (iv c)/\0<=c/\c<8/\∃ i,b.drew.cell? (qd a 0)=some (iv i)/\CC 72 #[.pointer (some (Addr.add (qd f 0) ((c).toNat*3))),iv i] b.drew λ b c=>b=.returned (.tuple #[])/\∃ b,c.cell? (qd a 0)=some (iv b)/\cond (b==8) (∃ b i j,c.cell? (qd e 14)=some (.slice b i j)/\∃ l,c.cell? (qd a 2)=some (iv l)/\au c (.cells #[iv l] 3) λ a l=>bn prog (Builtin.append_ #[65,65] 65 #[.slice b i j,.slice (some (qd a 0)) 1 1]) l λ a b=>∃ i j l,a=(.slice i j l)/\aS b (qd e 14) (.slice i j l) λ a=>k a) (k c))) (CC 45 #[.pointer h] g λ a b=>∃ c,a=.returned (.pointer c)/\cond (c).isNone (∃ a g i j k l m n o p q r s t u v x y z A B,af b (qd e 0) 0 [iv a,iv g,iv i,iv j,iv k,iv l,iv m,iv n,iv o,iv p,iv q,iv r,.slice s t u,.slice v x y,.slice z A B]/\aU (qd d 0) 0 [iv a,iv g,iv i,iv j,iv k,iv l,iv m,iv n,iv o,iv p,iv q,iv r,.slice s t u,.slice v x y,.slice z A B] b λ a=>∃ g i j k l m n o p q r s t u v x y z A B C,af a (qd d 0) 0 [iv g,iv i,iv j,iv k,iv l,iv m,iv n,iv o,iv p,iv q,iv r,iv s,.slice t u v,.slice x y z,.slice A B C]/\K (.agg #[iv g,iv i,iv j,iv k,iv l,iv m,iv n,iv o,iv p,iv q,iv r,iv s,.slice t u v,.slice x y z,.slice A B C]) a) (CC 44 #[.pointer h] b λ a b=>∃ g i j k l m n o p q r s,a=.returned (.agg #[.slice g i j,.slice k l m,.slice n o p,.slice q r s])/\au b (.cells #[qn,qn,qn,qn] 100) λ a b=>aU (qd a 0) 0 [.slice g i j,.slice k l m,.slice n o p,.slice q r s] b λ b=>CC 73 #[.pointer c] b λ b c=>∃ g i j,b=.returned (.slice g i j)/\∃ b:Int->qN,(∃ j,b 0 c j)/\∀ c j k,b k c j->∀ l:qv,cond (decide (k<(i:Int))) (av g λ l=>0<=k/\k<(i:Int)/\∃ m:I6,∃ n o p q r s t u v,af c (Addr.add l ((k).toNat*9)) 0 (m.on [.slice n o p,.slice q r s,.slice t u v])/\au c (.cells #[qz,qz,qz,qz,qz,qz,qn,qn,qn] 157) λ l x=>aU (qd l 0) 0 (m.on [.slice n o p,.slice q r s,.slice t u v]) x λ m=>∃ n o p,m.cell? (qd e 12)=some (.slice n o p)/\∃ q:I6,af m (qd l 0) 0 q.vs/\au m (.cells q.vs.toArray 103) λ l m=>bn prog (Builtin.append_ #[63,63] 63 #[.slice n o p,.slice (some (qd l 0)) 1 1]) m λ l m=>∃ n o p,l=(.slice n o p)/\aS m (qd e 12) (.slice n o p) λ l=>∃ m,m<j/\b (IntKind.i64.wrap (k+1)) l m) (∃ b j k,c.cell? (qd a 1)=some (.slice b j k)/\∃ k:Int->qN,(∃ l,k 0 c l)/\∀ c l m,k m c l->∀ n:qv,cond (decide (m<(j:Int))) (av b λ b=>0<=m/\m<(j:Int)/\∃ j n o p,af c (Addr.add b ((m).toNat*4)) 0 [.string j,iv n,iv o,iv p]/\au c (.cells #[.string (bs []),qz,qz,qz] 159) λ b q=>aU (qd b 0) 0 [.string j,iv n,iv o,iv p] q λ j=>∃ n:Nat->qW,(∀ o p,n p o->∀ q:qv,∃ q:Int->qN,(∃ r,q 0 o r)/\∀ o r s,q s o r->∀ t:qv,cond (decide (s<(i:Int))) (av g λ g=>0<=s/\s<(i:Int)/\∃ i:I6,∃ t u v x y z A B C,af o (Addr.add g ((s).toNat*9)) 0 (i.on [.slice t u v,.slice x y z,.slice A B C])/\au o (.cells #[qz,qz,qz,qz,qz,qz,qn,qn,qn] 157) λ g D=>aU (qd g 0) 0 (i.on [.slice t u v,.slice x y z,.slice A B C]) D λ i=>∃ t u v,i.drew.cell? (qd p 5)=some (.slice t u v)/\∃ x y z,i.drew.cell? (qd a 0)=some (.slice x y z)/\∃ a A B,i.drew.cell? (qd g 6)=some (.slice a A B)/\av a λ a=>0<=m/\m<(A:Int)/\∃ g:I6,af i.drew (Addr.add a ((m).toNat*6)) 0 g.vs/\CC 75 #[.slice x y z,.agg g.vs.toArray] i.drew λ a g=>∃ i,a=.returned (iv i)/\g.cell? (qd p 5)=some (.slice t u v)/\au g (.cells #[iv i] 3) λ a g=>g.cell? (qd p 5)=some (.slice t u v)/\bn prog (Builtin.append_ #[65,65] 65 #[.slice t u v,.slice (some (qd a 0)) 1 1]) g λ a g=>∃ i t u,a=(.slice i t u)/\aS g (qd p 5) (.slice i t u) λ a=>∃ g,g<r/\q (IntKind.i64.wrap (s+1)) a g) (∃ a g i,o.cell? (qd e 13)=some (.slice a g i)/\∃ q r s t u v x y,af o (qd p 0) 0 [.string q,iv r,iv s,iv t,.bool u,.slice v x y]/\au o (.cells #[.string q,iv r,iv s,iv t,.bool u,.slice v x y] 124) λ o p=>bn prog (Builtin.append_ #[64,64] 64 #[.slice a g i,.slice (some (qd o 0)) 1 1]) p λ a g=>∃ i o p,a=(.slice i o p)/\aS g (qd e 13) (.slice i o p) λ a=>∃ g,g<l/\k (IntKind.i64.wrap (m+1)) a g))/\∃ a,j.drew.cell? (qd b 0)=some (.string a)/\0<=m/\m<8/\∃ g,j.drew.cell? (Addr.add (qd f 0) ((m).toNat*3))=some (iv g)/\0<=m/\m<8/\∃ i,j.drew.cell? (Addr.add (Addr.add (qd f 0) ((m).toNat*3)) 1)=some (iv i)/\0<=m/\m<8/\∃ k,j.drew.cell? (Addr.add (Addr.add (qd f 0) ((m).toNat*3)) 2)=some (iv k)/\(CC 74 #[.pointer h,iv m] j.drew λ l o=>∃ p,l=.returned (.bool p)/\o.cell? (Addr.add (Addr.add (qd f 0) ((m).toNat*3)) 2)=some (iv k)/\o.cell? (Addr.add (Addr.add (qd f 0) ((m).toNat*3)) 1)=some (iv i)/\o.cell? (Addr.add (qd f 0) ((m).toNat*3))=some (iv g)/\o.cell? (qd b 0)=some (.string a)/\au o (.cells #[.string (bs []),qz,qz,qz,.bool false,qn] 124) λ l o=>o.cell? (Addr.add (Addr.add (qd f 0) ((m).toNat*3)) 2)=some (iv k)/\o.cell? (Addr.add (Addr.add (qd f 0) ((m).toNat*3)) 1)=some (iv i)/\o.cell? (Addr.add (qd f 0) ((m).toNat*3))=some (iv g)/\o.cell? (qd b 0)=some (.string a)/\aU (qd l 0) 0 [.string a,iv g,iv i,iv k,.bool p,qn] o λ o=>n l o)/\au j.drew (.cells #[.string (bs []),qz,qz,qz,.bool false,qn] 124) λ j l=>l.cell? (Addr.add (Addr.add (qd f 0) ((m).toNat*3)) 2)=some (iv k)/\l.cell? (Addr.add (Addr.add (qd f 0) ((m).toNat*3)) 1)=some (iv i)/\l.cell? (Addr.add (qd f 0) ((m).toNat*3))=some (iv g)/\l.cell? (qd b 0)=some (.string a)/\CC 74 #[.pointer h,iv m] l λ h l=>∃ o,h=.returned (.bool o)/\l.cell? (Addr.add (Addr.add (qd f 0) ((m).toNat*3)) 2)=some (iv k)/\l.cell? (Addr.add (Addr.add (qd f 0) ((m).toNat*3)) 1)=some (iv i)/\l.cell? (Addr.add (qd f 0) ((m).toNat*3))=some (iv g)/\l.cell? (qd b 0)=some (.string a)/\aU (qd j 0) 0 [.string a,iv g,iv i,iv k,.bool o,qn] l λ a=>n j a) (∃ a b f g h i j k l m n o p q r s t u v x y,af c (qd e 0) 0 [iv a,iv b,iv f,iv g,iv h,iv i,iv j,iv k,iv l,iv m,iv n,iv o,.slice p q r,.slice s t u,.slice v x y]/\aU (qd d 0) 0 [iv a,iv b,iv f,iv g,iv h,iv i,iv j,iv k,iv l,iv m,iv n,iv o,.slice p q r,.slice s t u,.slice v x y] c λ a=>∃ b c e f g h i j k l m n o p q r s t u v x,af a (qd d 0) 0 [iv b,iv c,iv e,iv f,iv g,iv h,iv i,iv j,iv k,iv l,iv m,iv n,.slice o p q,.slice r s t,.slice u v x]/\K (.agg #[iv b,iv c,iv e,iv f,iv g,iv h,iv i,iv j,iv k,iv l,iv m,iv n,.slice o p q,.slice r s t,.slice u v x]) a))))
theorem uS{a1 l1 c1 n1 n2 n3 n4 w K}(h:p4 a1 l1 c1 n1 n2 n3 n4 w K):CP 27 #[.slice a1 l1 c1,.agg #[iv n1,iv n2,iv n3,iv n4]] w K:=an (aF [(250,[(24,.s (.int .i64))]),(2003,[]),(8186,[(72,.s (.int .i64))]),(16378,[(87,.s (.int .i64))]),(1048217,[(17,.s (.blk))]),(16771482,[(112,.s (.int .i64))])]) func27 (by kernel_rfl) (by kernel_rfl) h
def jW(a:OA)(b:Int)(w:World)(K:KP):=cond (b==2) (av a λ c=>∃ d,w.cell? c=some (iv d)/\av a λ c=>aS w c (iv (IntKind.i64.wrap (d+1))) λ c=>K (.tuple #[]) c) (cond (b==5) (av a λ c=>∃ d,w.cell? (Addr.add c 1)=some (iv d)/\av a λ c=>aS w (Addr.add c 1) (iv (IntKind.i64.wrap (d+1))) λ c=>K (.tuple #[]) c) (cond (b==6) (av a λ b=>∃ c,w.cell? (Addr.add b 2)=some (iv c)/\av a λ a=>aS w (Addr.add a 2) (iv (IntKind.i64.wrap (c+1))) λ a=>K (.tuple #[]) a) (K (.tuple #[]) w)))
theorem oN{p1 n1 w K}(h:jW p1 n1 w K):CP 72 #[.pointer p1,iv n1] w K:=an (aF []) func72 (by kernel_rfl) (by kernel_rfl) h
def oh(a:Nat)(b:Int)(w:World)(K:KP):=CC 116 #[qp a,iv b] w λ c d=>∃ e,c=.returned (.bool e)/\cond e (0<=b/\b<8/\∃ c,d.cell? (Addr.add (Addr.add (qd a 10) ((b).toNat*11)) 10)=some (.bool c)/\K (.bool c) d) (K (.bool false) d)
theorem tA{b1 n1 w K}(h:oh b1 n1 w K):CP 74 #[.pointer (some ⟨b1,0,none⟩),iv n1] w K:=an (aF []) func74 (by kernel_rfl) (by kernel_rfl) h
def qo(a:Nat)(b:Int)(w:World)(K:KP):=cond (decide (b>=0)) (∃ c d e,w.cell? (qd a 6)=some (.slice c d e)/\K (.bool (decide (b<(d:Int)))) w) (K (.bool false) w)
theorem vg{b1 n1 w K}(h:qo b1 n1 w K):CP 116 #[.pointer (some ⟨b1,0,none⟩),iv n1] w K:=an (aF []) func116 (by kernel_rfl) (by kernel_rfl) h
def Ca(a:OA)(b c:Nat)(w:World)(K:KP):=cond (decide ((b:Int)>(60:Int))) (K (.bool false) w) (∃ c:Int->qN,(∃ d,c 0 w d)/\∀ e d f,c f e d->∀ g:qv,cond (decide (f<(b:Int))) (av a λ a=>0<=f/\f<(b:Int)/\∃ b,e.cell? (Addr.add (Addr.add a ((f).toNat*11)) 9)=some (.string b)/\cond (decide (((b.size:Nat):Int)>(2000:Int))) (K (.bool false) e) (∃ a,a<d/\c (IntKind.i64.wrap (f+1)) e a)) (K (.bool true) e))
theorem DX{a1 l1 c1 w K}(h:Ca a1 l1 c1 w K):CP 18 #[.slice a1 l1 c1] w K:=an (aF [(58,[(3,.s (.int .i64))])]) func18 (by kernel_rfl) (by kernel_rfl) h
def xp(a b c d e f g h i j k l:Int)(m:OA)(n o:Nat)(p:OA)(q r:Nat)(s:OA)(t u:Nat)(w:World)(K:KP):=au w (.cells #[iv a,iv b,iv c,iv d,iv e,iv f,iv g,iv h,iv i,iv j,iv k,iv l,.slice m n o,.slice p q r,.slice s t u] 67) λ a b=>au b (.cells #[qz,qz,qz,qz,qz,qz,qz,qz,qz,qz,qz,qz,qn,qn,qn] 73) λ b c=>∃ d e f g h i j k l m n,af c (qd a 0) 0 [iv d,iv e,iv f,iv g,iv h,iv i,iv j,iv k,iv l,iv m,iv n]/\∃ o,c.cell? (qd a 11)=some (iv o)/\∃ p q r,c.cell? (qd a 12)=some (.slice p q r)/\∃ s t u,c.cell? (qd a 14)=some (.slice s t u)/\au c (.cells #[qz,qz,qz,qz,qz,qz,qz,qz,qz,qz,qz,qz,qn,qn,qn] 73) λ c v=>aU (qd c 0) 0 [iv d,iv e,iv f,iv g,iv h,iv i,iv j,iv k,iv l,iv m,iv n,iv o,.slice p q r,qn,.slice s t u] v λ d=>∃ e:Int->qN,(∃ f,e 0 d f)/\∀ d f g,e g d f->∀ h:qv,∃ h i j,d.cell? (qd a 13)=some (.slice h i j)/\cond (decide (g<(i:Int))) (∃ h i j,d.cell? (qd a 13)=some (.slice h i j)/\av h λ a=>0<=g/\g<(i:Int)/\∃ h i j k l m n o,af d (Addr.add a ((g).toNat*6)) 0 [.string h,iv i,iv j,iv k,.bool l,.slice m n o]/\au d (.cells #[.string (bs []),qz,qz,qz,.bool false,qn] 124) λ a p=>aU (qd a 0) 0 [.string h,iv i,iv j,iv k,.bool l,.slice m n o] p λ h=>∃ i j k,h.cell? (qd c 13)=some (.slice i j k)/\∃ l,h.cell? (qd a 0)=some (.string l)/\∃ m,h.cell? (qd a 1)=some (iv m)/\∃ n,h.cell? (qd a 2)=some (iv n)/\∃ o,h.cell? (qd a 3)=some (iv o)/\∃ p,h.cell? (qd a 4)=some (.bool p)/\∃ q r s,h.cell? (qd a 5)=some (.slice q r s)/\au h (.cells #[.string l,iv m,iv n,iv o,.bool p,.slice q r s] 147) λ a h=>bn prog (Builtin.append_ #[71,71] 71 #[.slice i j k,.slice (some (qd a 0)) 1 1]) h λ a h=>∃ i j k,a=(.slice i j k)/\aS h (qd c 13) (.slice i j k) λ a=>∃ h,h<f/\e (IntKind.i64.wrap (g+1)) a h) (∃ a e f g h i j k l m n o p q r s t u v x y,af d (qd c 0) 0 [iv a,iv e,iv f,iv g,iv h,iv i,iv j,iv k,iv l,iv m,iv n,iv o,.slice p q r,.slice s t u,.slice v x y]/\aU (qd b 0) 0 [iv a,iv e,iv f,iv g,iv h,iv i,iv j,iv k,iv l,iv m,iv n,iv o,.slice p q r,.slice s t u,.slice v x y] d λ a=>∃ c d e f g h i j k l m n o p q r s t u v x,af a (qd b 0) 0 [iv c,iv d,iv e,iv f,iv g,iv h,iv i,iv j,iv k,iv l,iv m,iv n,.slice o p q,.slice r s t,.slice u v x]/\K (.agg #[iv c,iv d,iv e,iv f,iv g,iv h,iv i,iv j,iv k,iv l,iv m,iv n,.slice o p q,.slice r s t,.slice u v x]) a)
theorem Af{n1 n2 n3 n4 n5 n6 n7 n8 n9 n10 n11 n12 a1 l1 c1 a2 l2 c2 a3 l3 c3 w K}(h:xp n1 n2 n3 n4 n5 n6 n7 n8 n9 n10 n11 n12 a1 l1 c1 a2 l2 c2 a3 l3 c3 w K):CP 26 #[.agg #[iv n1,iv n2,iv n3,iv n4,iv n5,iv n6,iv n7,iv n8,iv n9,iv n10,iv n11,iv n12,.slice a1 l1 c1,.slice a2 l2 c2,.slice a3 l3 c3]] w K:=an (aF [(58,[(4,.s (.int .i64))])]) func26 (by kernel_rfl) (by kernel_rfl) h
def Aw(a b c d e f g h i j k l:Int)(m:OA)(n o:Nat)(p:OA)(q r:Nat)(s:OA)(t u:Nat)(v x y z A B C D E F G H:Int)(I:OA)(J L:Nat)(M:OA)(N O:Nat)(P:OA)(Q R:Nat)(w:World)(K:KP):=au w (.cells #[iv a,iv b,iv c,iv d,iv e,iv f,iv g,iv h,iv i,iv j,iv k,iv l,.slice m n o,.slice p q r,.slice s t u] 73) λ a b=>au b (.cells #[iv v,iv x,iv y,iv z,iv A,iv B,iv C,iv D,iv E,iv F,iv G,iv H,.slice I J L,.slice M N O,.slice P Q R] 73) λ b c=>∃ d:Bool->qW,(∀ e f,d f e->∀ g:qv,cond f (K (.bool false) e) (∃ f:Int->qN,(∃ g,f 0 e g)/\∀ e g h,f h e g->∀ i:qv,∃ i j k,e.cell? (qd a 12)=some (.slice i j k)/\cond (decide (h<(j:Int))) (∃ i j k,e.drew.cell? (qd a 12)=some (.slice i j k)/\av i λ i=>0<=h/\h<(j:Int)/\∃ j:I6,af e.drew (Addr.add i ((h).toNat*6)) 0 j.vs/\∃ i k l,e.drew.cell? (qd b 12)=some (.slice i k l)/\av i λ i=>0<=h/\h<(k:Int)/\∃ k:I6,af e.drew (Addr.add i ((h).toNat*6)) 0 k.vs/\cond (!(I6.beq j k)) (K (.bool false) e.drew) (∃ i,i<g/\f (IntKind.i64.wrap (h+1)) e.drew i)) (∃ f:Int->qN,(∃ g,f 0 e g)/\∀ e g h,f h e g->∀ i:qv,∃ i j k,e.cell? (qd a 13)=some (.slice i j k)/\cond (decide (h<(j:Int))) (∃ i:Nat->Nat->qW,(∀ j k l,i k l j->∀ m:qv,∃ m:Bool->qW,(∀ n o,m o n->∀ p:qv,cond o (K (.bool false) n) (∃ o,o<g/\f (IntKind.i64.wrap (h+1)) n o))/\∃ f,j.cell? (qd k 0)=some (.string f)/\∃ g,j.cell? (qd l 0)=some (.string g)/\cond (!(f.toList==g.toList)) (m true j) (∃ f,j.cell? (qd k 1)=some (iv f)/\∃ g,j.cell? (qd l 1)=some (iv g)/\cond (f !=g) (m true j) (∃ f,j.cell? (qd k 2)=some (iv f)/\∃ g,j.cell? (qd l 2)=some (iv g)/\cond (f !=g) (m true j) (∃ f,j.cell? (qd k 3)=some (iv f)/\∃ g,j.cell? (qd l 3)=some (iv g)/\cond (f !=g) (m true j) (∃ f,j.cell? (qd k 4)=some (.bool f)/\∃ g,j.cell? (qd l 4)=some (.bool g)/\cond (!(f==g)) (m true j) (∃ f g n,j.cell? (qd k 5)=some (.slice f g n)/\∃ k o p,j.cell? (qd l 5)=some (.slice k o p)/\CC 71 #[.slice f g n,.slice k o p] j λ f g=>∃ j,f=.returned (.bool j)/\m (!j) g))))))/\∃ f g j,e.drew.cell? (qd a 13)=some (.slice f g j)/\av f λ k=>0<=h/\h<(g:Int)/\∃ l m n o p q r s,af e.drew (Addr.add k ((h).toNat*6)) 0 [.string l,iv m,iv n,iv o,.bool p,.slice q r s]/\∃ t u v,e.drew.cell? (qd b 13)=some (.slice t u v)/\av t λ x=>0<=h/\h<(u:Int)/\∃ y z A B C D E F,af e.drew (Addr.add x ((h).toNat*6)) 0 [.string y,iv z,iv A,iv B,.bool C,.slice D E F]/\(au e.drew (.cells #[.string (bs []),qz,qz,qz,.bool false,qn] 147) λ G H=>af H (Addr.add x ((h).toNat*6)) 0 [.string y,iv z,iv A,iv B,.bool C,.slice D E F]/\H.cell? (qd b 13)=some (.slice t u v)/\af H (Addr.add k ((h).toNat*6)) 0 [.string l,iv m,iv n,iv o,.bool p,.slice q r s]/\H.cell? (qd a 13)=some (.slice f g j)/\au H (.cells #[.string (bs []),qz,qz,qz,.bool false,qn] 147) λ H I=>af I (Addr.add x ((h).toNat*6)) 0 [.string y,iv z,iv A,iv B,.bool C,.slice D E F]/\I.cell? (qd b 13)=some (.slice t u v)/\af I (Addr.add k ((h).toNat*6)) 0 [.string l,iv m,iv n,iv o,.bool p,.slice q r s]/\I.cell? (qd a 13)=some (.slice f g j)/\aU (qd G 0) 0 [.string l,iv m,iv n,iv o,.bool p,.slice q r s] I λ I=>af I (Addr.add x ((h).toNat*6)) 0 [.string y,iv z,iv A,iv B,.bool C,.slice D E F]/\I.cell? (qd b 13)=some (.slice t u v)/\aU (qd H 0) 0 [.string y,iv z,iv A,iv B,.bool C,.slice D E F] I λ I=>i G H I)/\au e.drew (.cells #[.string (bs []),qz,qz,qz,.bool false,qn] 147) λ G H=>af H (Addr.add x ((h).toNat*6)) 0 [.string y,iv z,iv A,iv B,.bool C,.slice D E F]/\H.cell? (qd b 13)=some (.slice t u v)/\af H (Addr.add k ((h).toNat*6)) 0 [.string l,iv m,iv n,iv o,.bool p,.slice q r s]/\H.cell? (qd a 13)=some (.slice f g j)/\au H (.cells #[.string (bs []),qz,qz,qz,.bool false,qn] 147) λ H I=>af I (Addr.add x ((h).toNat*6)) 0 [.string y,iv z,iv A,iv B,.bool C,.slice D E F]/\I.cell? (qd b 13)=some (.slice t u v)/\af I (Addr.add k ((h).toNat*6)) 0 [.string l,iv m,iv n,iv o,.bool p,.slice q r s]/\I.cell? (qd a 13)=some (.slice f g j)/\aU (qd H 0) 0 [.string l,iv m,iv n,iv o,.bool p,.slice q r s] I λ f=>af f (Addr.add x ((h).toNat*6)) 0 [.string y,iv z,iv A,iv B,.bool C,.slice D E F]/\f.cell? (qd b 13)=some (.slice t u v)/\aU (qd G 0) 0 [.string y,iv z,iv A,iv B,.bool C,.slice D E F] f λ f=>i H G f) (K (.bool true) e))))/\∃ e f g h i j k l m n o,af c (qd a 0) 0 [iv e,iv f,iv g,iv h,iv i,iv j,iv k,iv l,iv m,iv n,iv o]/\∃ p q r s t u v x y z A,af c (qd b 0) 0 [iv p,iv q,iv r,iv s,iv t,iv u,iv v,iv x,iv y,iv z,iv A]/\cond (!((e==p)&&((f==q)&&((g==r)&&((h==s)&&((i==t)&&((j==u)&&((k==v)&&((l==x)&&((m==y)&&((n==z)&&((o==A)&&true)))))))))))) (d true c) (∃ e,c.cell? (qd a 11)=some (iv e)/\∃ f,c.cell? (qd b 11)=some (iv f)/\cond (e !=f) (d true c) (∃ e f g,c.cell? (qd a 12)=some (.slice e f g)/\∃ e g h,c.cell? (qd b 12)=some (.slice e g h)/\cond ((f:Int) !=(g:Int)) (d true c) (∃ e f g,c.cell? (qd a 13)=some (.slice e f g)/\∃ e g h,c.cell? (qd b 13)=some (.slice e g h)/\cond ((f:Int) !=(g:Int)) (d true c) (∃ e f g,c.cell? (qd a 14)=some (.slice e f g)/\∃ a h i,c.cell? (qd b 14)=some (.slice a h i)/\CC 71 #[.slice e f g,.slice a h i] c λ a b=>∃ c,a=.returned (.bool c)/\d (!c) b))))
theorem Bx{n1 n2 n3 n4 n5 n6 n7 n8 n9 n10 n11 n12 a1 l1 c1 a2 l2 c2 a3 l3 c3 n13 n14 n15 n16 n17 n18 n19 n20 n21 n22 n23 n24 a4 l4 c4 a5 l5 c5 a6 l6 c6 w K}(h:Aw n1 n2 n3 n4 n5 n6 n7 n8 n9 n10 n11 n12 a1 l1 c1 a2 l2 c2 a3 l3 c3 n13 n14 n15 n16 n17 n18 n19 n20 n21 n22 n23 n24 a4 l4 c4 a5 l5 c5 a6 l6 c6 w K):CP 25 #[.agg #[iv n1,iv n2,iv n3,iv n4,iv n5,iv n6,iv n7,iv n8,iv n9,iv n10,iv n11,iv n12,.slice a1 l1 c1,.slice a2 l2 c2,.slice a3 l3 c3],.agg #[iv n13,iv n14,iv n15,iv n16,iv n17,iv n18,iv n19,iv n20,iv n21,iv n22,iv n23,iv n24,.slice a4 l4 c4,.slice a5 l5 c5,.slice a6 l6 c6]] w K:=an (aF [(6,[(46,.s .bool)]),(58,[(5,.s (.int .i64))]),(122,[(6,.s (.int .i64))]),(1956,[(7,.s (.blk)),(8,.s (.blk))]),(3913,[(122,.s .bool)])]) func25 (by kernel_rfl) (by kernel_rfl) h
def pZ(a:OA)(b c:Nat)(d:OA)(e f:Nat)(w:World)(K:KP):=cond ((b:Int) !=(e:Int)) (K (.bool false) w) (∃ c:Int->qN,(∃ f,c 0 w f)/\∀ g f h,c h g f->∀ i:qv,cond (decide (h<(b:Int))) (av a λ a=>0<=h/\h<(b:Int)/\∃ b,g.drew.cell? (Addr.add a ((h).toNat*1))=some (iv b)/\av d λ a=>0<=h/\h<(e:Int)/\∃ d,g.drew.cell? (Addr.add a ((h).toNat*1))=some (iv d)/\cond (b !=d) (K (.bool false) g.drew) (∃ a,a<f/\c (IntKind.i64.wrap (h+1)) g.drew a)) (K (.bool true) g))
theorem uO{a1 l1 c1 a2 l2 c2 w K}(h:pZ a1 l1 c1 a2 l2 c2 w K):CP 71 #[.slice a1 l1 c1,.slice a2 l2 c2] w K:=an (aF [(58,[(5,.s (.int .i64))])]) func71 (by kernel_rfl) (by kernel_rfl) h
structure Bs where
 nm:List UInt8
 dm:Int
 bi:Int
 wd:Int
 out:Bool
 pts:List Int
 pa:Option Addr
 pc:Nat
def Bs.cells(x:Bs):List Value:=[sv x.nm,iv x.dm,iv x.bi,iv x.wd,.bool x.out,.slice x.pa x.pts.length x.pc]
theorem Bs.len(x:Bs):x.cells.length=6:=rfl
theorem Bs.one(x:Bs):∀ v∈x.cells,v.oneCell' = true:=by
 intro v hv; simp[Bs.cells] at hv; rcases hv with rfl|rfl|rfl|rfl|rfl|rfl<;>rfl
def Bs.er(x:Bs):Bs:={ x with pa:=none,pc:=0 }
def S8:Bs:=⟨[],0,0,0,false,[],none,0⟩
abbrev Bs.In (x:Bs) (w:World):Prop:=dx 1 i1 w x.pa x.pts
abbrev y7 (l:List Bs) (w:World):Prop:=∀ x∈l,x.In w
theorem Zu:fZ prog 64 124 (.agg S8.cells.toArray) 6 72:=fZ.mk' underlying64 (by kernel_rfl) rfl (by decide)
theorem Zw:fZ prog 63 103 (.agg z6.vs.toArray) 6 48:=fZ.mk' underlying63 (by kernel_rfl) rfl (by decide)
abbrev Yk (a:OA) (c:Nat) (l:List I6):aJ:=cJ 103 6 I6.vs a c l
abbrev XG (a:OA) (c:Nat) (l:List Bs):aJ:=cJ 124 6 Bs.cells a c l
abbrev yV (a:OA) (c:Nat) (l:List Int):aJ:=cJ 3 1 i1 a c l
structure Sm where
 cn:Nat->Int
 rf:Int
 ps:List I6
 pa:Option Addr
 pc:Nat
 bs:List Bs
 ba:Option Addr
 bc:Nat
 rr:List Int
 ra:Option Addr
 rc:Nat
def Sm.cells(M:Sm):List Value:=[iv (M.cn 0),iv (M.cn 1),iv (M.cn 2),iv (M.cn 3),iv (M.cn 4),iv (M.cn 5),iv (M.cn 6),iv (M.cn 7),iv (M.cn 8),iv (M.cn 9),iv (M.cn 10),iv M.rf,.slice M.pa M.ps.length M.pc,.slice M.ba M.bs.length M.bc,.slice M.ra M.rr.length M.rc]
theorem Sm.one(M:Sm):∀ v∈M.cells,v.oneCell' = true:=by
 intro v hv; simp[Sm.cells] at hv;rcases hv with rfl|rfl|rfl|rfl|rfl|rfl|rfl|rfl|rfl|rfl|rfl|rfl|rfl|rfl|rfl<;>rfl
def fX:Sm:=⟨λ _=>0,0,[],none,0,[],none,0,[],none,0⟩
def Sm.er(M:Sm):Sm:={ M with pa:=none,pc:=0,bs:=M.bs.map Bs.er,ba:=none,bc:=0,ra:=none,rc:=0 }
structure Sm.In (M:Sm) (w:World):Prop where
 ps:dx 6 I6.vs w M.pa M.ps
 bs:dx 6 Bs.cells w M.ba M.bs
 bi:y7 M.bs w
 rr:dx 1 i1 w M.ra M.rr
theorem Sm.In.aC{M:Sm}{w w' : World}(h:M.In w)(hc:aD w w' []):M.In w':=⟨h.ps.aC hc,h.bs.aC hc,λ x hx=>dx.aC (h.bi x hx) hc,h.rr.aC hc⟩
theorem XV(M:Sm){i:Nat}(hi:i<11):M.cells.toArray[i]?=some (iv (M.cn i)):=by
 match i,hi with
 | 0,_|1,_|2,_|3,_|4,_|5,_|6,_|7,_|8,_|9,_|10,_=>rfl
theorem Wg(M:Sm){i:Nat}(hi:i<11):M.cells.toArray.setIfInBounds i (iv (M.cn i+1))=({ M with cn:=bT M.cn i }:Sm).cells.toArray:=by
 match i,hi with
 | 0,_|1,_|2,_|3,_|4,_|5,_|6,_|7,_|8,_|9,_|10,_=>rfl
def sE(d b w:Nat->Int):List Value:=[iv (d 0),iv (b 0),iv (w 0),iv (d 1),iv (b 1),iv (w 1),iv (d 2),iv (b 2),iv (w 2),iv (d 3),iv (b 3),iv (w 3),iv (d 4),iv (b 4),iv (w 4),iv (d 5),iv (b 5),iv (w 5),iv (d 6),iv (b 6),iv (w 6),iv (d 7),iv (b 7),iv (w 7)]
section
variable {d b wd:Nat->Int}
theorem L6{i:Nat}(hi:i<8):(sE d b wd).toArray[i*3]?=some (iv (d i)):=by
 match i,hi with
 | 0,_|1,_|2,_|3,_|4,_|5,_|6,_|7,_=>rfl
theorem L5{i:Nat}(hi:i<8):(sE d b wd).toArray[i*3+1]?=some (iv (b i)):=by
 match i,hi with
 | 0,_|1,_|2,_|3,_|4,_|5,_|6,_|7,_=>rfl
theorem L7{i:Nat}(hi:i<8):(sE d b wd).toArray[i*3+2]?=some (iv (wd i)):=by
 match i,hi with
 | 0,_|1,_|2,_|3,_|4,_|5,_|6,_|7,_=>rfl
theorem X3{i:Nat}(hi:i<8):(sE d b wd).toArray.setIfInBounds (i*3) (iv (d i+1))=(sE (bT d i) b wd).toArray:=by
 match i,hi with
 | 0,_|1,_|2,_|3,_|4,_|5,_|6,_|7,_=>rfl
theorem X2{i:Nat}(hi:i<8):(sE d b wd).toArray.setIfInBounds (i*3+1) (iv (b i+1))=(sE d (bT b i) wd).toArray:=by
 match i,hi with
 | 0,_|1,_|2,_|3,_|4,_|5,_|6,_|7,_=>rfl
theorem X4{i:Nat}(hi:i<8):(sE d b wd).toArray.setIfInBounds (i*3+2) (iv (wd i+1))=(sE d b (bT wd i)).toArray:=by
 match i,hi with
 | 0,_|1,_|2,_|3,_|4,_|5,_|6,_|7,_=>rfl
theorem G8(r i:Nat):Addr.add ⟨r,0,none⟩ (((i:Nat):Int).toNat*3)=⟨r,i*3,none⟩:=by rw[gY,Int.toNat_natCast]
theorem Wt{w0 w:World}{m:List aJ}{r i:Nat}{k:Int}(s:St w0 w (Sep (ah r (sE d b wd).toArray 150 :: m)))(hi:i<8)(h1:0<=d i/\d i<=1000)(h2:0<=b i/\b i<=1000)(h3:0<=wd i/\wd i<=1000) :
  CP 72 #[.pointer (some (Addr.add ⟨r,0,none⟩ (((i:Nat):Int).toNat*3))),iv k] w (λ v w'=>v=.tuple #[] /\
   St w0 w' (Sep (ah r (sE (if k=2 then bT d i else d) (if k=5 then bT b i else b) (if k=6 then bT wd i else wd)).toArray 150 :: m))):=by
 refine oN ?_;unfold jW;rw[G8]
 by_cases k2:k=2
 ·subst k2;refine cT rfl (ay rfl ⟨d i,?_,ay rfl ?_⟩)
  ·rw[s.ag 0 rfl]; exact L6 hi
  rw[aH ⟨by omega,by omega⟩];refine s.aM 0 rfl (by show i*3<24; omega) rfl λ w1 s1=>⟨rfl,?_⟩;rw[X3 hi] at s1;exact s1
 refine cF (by simpa using k2) ?_;rw[if_neg k2]
 by_cases k5:k=5
 ·subst k5;refine cT rfl (ay rfl ⟨b i,?_,ay rfl ?_⟩)
  ·rw[aZ,s.ag 0 rfl]; exact L5 hi
  rw[aH ⟨by omega,by omega⟩,aZ];refine s.aM 0 rfl (by show i*3+1<24; omega) rfl λ w1 s1=>⟨rfl,?_⟩;rw[X2 hi] at s1;exact s1
 refine cF (by simpa using k5) ?_;rw[if_neg k5]
 by_cases k6:k=6
 ·subst k6;refine cT rfl (ay rfl ⟨wd i,?_,ay rfl ?_⟩)
  ·rw[aZ,s.ag 0 rfl]; exact L7 hi
  rw[aH ⟨by omega,by omega⟩,aZ];refine s.aM 0 rfl (by show i*3+2<24; omega) rfl λ w1 s1=>⟨rfl,?_⟩;rw[X4 hi] at s1;exact s1
 refine cF (by simpa using k6) ⟨rfl,?_⟩;rw[if_neg k6];exact s
end
theorem TW{w0 w:World}{b:Nat}{S:Sx}{m:List aJ}(s:St w0 w (Sep (ah b S.cells.toArray 114 :: m)))(h8:S.bd.length=8){i:Nat}(hi:i<8)(hn:i<S.s.bd.length) :
  CP 74 #[pt b,iv i] w (λ r w'=>r=.bool (S.bd.getD i cP).out/\w' = w):=by
 refine tA ?_;unfold oh;refine aq (K:=λ r w'=>r=.bool true/\w' = w) (vg ?_) ?_
 ·unfold qo;refine cT (dT (by omega)) ⟨S.s.a2,S.s.bd.length,S.s.c2,?_,by rw[dT (by omega)],rfl⟩;rw[s.ag 0 rfl];rfl
 ·rintro v w1 ⟨rfl,rfl⟩;refine⟨_,rfl,cT rfl ⟨by omega,by omega,_,?_,rfl,rfl⟩⟩;rw[WL,aZ,s.ag 0 rfl];exact Pm h8 hi (getD_at (by omega))
def vD(σ:Cs)(a:OA)(c:Nat):Sm:={ fX with cn:=σ.cn,rf:=σ.rf,rr:=σ.rr,ra:=a,rc:=c }
def ZJ(b r2 r3 r4:Nat)(σ:Cs)(S:Sx)(C:Ck)(a:OA)(c:Nat):List aJ :=
 [ah b S.cells.toArray 114,held (qG S C),ah r3 (vD σ a c).cells.toArray 67,yV a c σ.rr,ah r4 (sE σ.dm σ.bi σ.wd).toArray 150,ah r2 fX.cells.toArray 67,emp]
def CI(w0 w' : World)(b r2 r3 r4:Nat)(σ:Cs):Prop:=∃ (S:Sx) (C:Ck) (a:OA) (c:Nat),σ.S=S.er/\σ.C=C.er/\PX S/\St w0 w' (Sep (ZJ b r2 r3 r4 σ S C a c))
def Yq:Array Value:=#[iv 0,iv 0,iv 0,iv 0,iv 0,iv 0,iv 0,iv 0,iv 0,.string (bs []),.int .u64 0]
theorem ZI(r i:Nat):Addr.add ⟨r,0,none⟩ (((i:Nat):Int).toNat*1)=⟨r,i,none⟩:=by rw[gY,Int.toNat_natCast,Nat.mul_one]
section
variable {w0 w:World} {b r2 r3 r4 r5:Nat} {σ:Cs} {k:Nat} {R:World->Prop} {e:Ev} {S:Sx} {C:Ck} {a:OA} {c:Nat}
theorem Qs(IV:Iv σ k)(hk:k<=100)(hi:e.In)(eS:σ.S=S.er)(eC:σ.C=C.er)(kok:PX S)(s:St w0 w (Sep (ah r5 e.cells.toArray 43 :: ZJ b r2 r3 r4 σ S C a c)))(K:∀ w',CI w0 w' b r2 r3 r4 (kT σ e)->R w') :
  CC 17 #[pt b,e.v] w λ e2 w10=>∃ n18:Int,e2=.returned (iv n18) /\
   cond (n18 !=(0:Int)) (∃ n19:Int,w10.cell? ⟨r3,11,none⟩=some (iv n19)/\aS w10 ⟨r3,11,none⟩ (iv (IntKind.i64.wrap (n19+(1:Int)))) λ w11=>R w11)
   (∃ (n20:Int),w10.cell? ⟨r5,0,none⟩=some (iv n20) /\
    0<=n20/\n20<((11:Nat):Int) /\
    ∃ (n21:Int),w10.cell? (Addr.add ⟨r3,0,none⟩ ((n20).toNat*1))=some (iv n21) /\
    0<=n20/\n20<((11:Nat):Int) /\
    aS w10 (Addr.add ⟨r3,0,none⟩ ((n20).toNat*1)) (iv (IntKind.i64.wrap (n21+(1:Int)))) λ w12 =>
    ∃ (n22:Int),w12.drew.cell? ⟨r5,1,none⟩=some (iv n22) /\
    0<=n22/\n22<((8:Nat):Int) /\
    ∃ (n23:Int),w12.drew.cell? ⟨r5,0,none⟩=some (iv n23) /\
    CC 72 #[(.pointer (some (Addr.add ⟨r4,0,none⟩ ((n22).toNat*3)))),(iv n23)] w12.drew λ e3 w13=>e3=.returned (.tuple #[]) /\
    ∃ (n24:Int),w13.cell? ⟨r5,0,none⟩=some (iv n24) /\
    cond (n24==(8:Int))
    (∃ (a2:OA) (l2 c2:Nat),w13.cell? ⟨r3,14,none⟩=some (.slice a2 l2 c2) /\
    ∃ (n25:Int),w13.cell? ⟨r5,2,none⟩=some (iv n25) /\
    au w13 (.cells #[(iv n25)] 3) λ r6 w14 =>
    bn prog (Builtin.append_ #[65,65] 65 #[(.slice a2 l2 c2),(.slice (some ⟨r6,0,none⟩) 1 1)]) w14 λ e4 w15=>∃ (a3:OA) (l3 c3:Nat),e4=(.slice a3 l3 c3) /\
    aS w15 ⟨r3,14,none⟩ (.slice a3 l3 c3) λ w16 =>
    R w16) (R w13)):=by
 have hok:ET S C:=IV.ok.er (by rw[eS,gI]) (by rw[eC,Jo]);have hbd:=IV.bd;have hrr:=IV.rr;have hap:Da σ.S σ.C e=Da S C e:=by rw[eS,eC,Un]
 have s9:St w0 w (Sep [ah b S.cells.toArray 114,held (qG S C),Sep [ah r5 e.cells.toArray 43,ah r3 (vD σ a c).cells.toArray 67,yV a c σ.rr,ah r4 (sE σ.dm σ.bi σ.wd).toArray 150,ah r2 fX.cells.toArray 67,emp]]):=(s.aA [1,2,0,3,4,5,6,7]).Pq;refine aq (P5 s9 hok kok hi) ?_;rintro v w10 ⟨rfl,k1,k2⟩;refine⟨_,rfl,?_⟩
 by_cases ha:Da S C e=0
 ·obtain⟨S',C',eS',eC',hg,s10⟩:=k2 ha;have s10:St w0 w10 (Sep [ah b S'.cells.toArray 114,held (qG S' C'),ah r5 e.cells.toArray 43,ah r3 (vD σ a c).cells.toArray 67,yV a c σ.rr,ah r4 (sE σ.dm σ.bi σ.wd).toArray 150,ah r2 fX.cells.toArray 67,emp]):=s10.dR [_,_];obtain⟨hs,hE⟩:=zf ha;obtain⟨h1,h2,h3,h4,h5⟩:=tC hs;have hR:=ju h1 hi.d;obtain⟨okN,phN⟩:=Tb hok ha hi;obtain⟨kk,hkk⟩:∃ kk:Nat,e.kind=kk:=⟨e.kind.toNat,(Int.toNat_of_nonneg hR.k.1).symm⟩;obtain⟨n,hn⟩:∃ n:Nat,e.bidder=n:=⟨e.bidder.toNat,(Int.toNat_of_nonneg hR.b.1).symm⟩;have hk1:kk<11:=by have:=hR.k; omega
  have hn8:n<8:=by have:=hR.b; omega
  have hph:S'.ph=(G9 S C e).ph:=show S'.er.ph=(G9 S C e).er.ph by rw[eS']
  have kok' : PX S':=⟨λ h=>absurd (hph.symm.trans h) phN,λ _=>hg⟩;have hst:kT σ e={ S:=(G9 σ.S σ.C e).er,C:=(WR σ.S σ.C e).er,cn:=bT σ.cn kk,rf:=σ.rf,dm:=if (kk:Int)=2 then bT σ.dm n else σ.dm,bi:=if (kk:Int)=5 then bT σ.bi n else σ.bi,wd:=if (kk:Int)=6 then bT σ.wd n else σ.wd,rr:=if (kk:Int)=8 then σ.rr++[e.round] else σ.rr }:=by
   unfold kT;rw[if_neg (by rw[hap]; exact λ h=>h ha),hkk,hn,Int.toNat_natCast,Int.toNat_natCast]
  have eS2:(kT σ e).S=S'.er:=by rw[hst]; show(G9 σ.S σ.C e).er=_; rw[eS,eC,Uo,eS']
  have eC2:(kT σ e).C=C'.er:=by rw[hst]; show(WR σ.S σ.C e).er=_; rw[eS,eC,eC']; exact DA S C e
  have ck:w10.cell? ⟨r5,0,none⟩=some (iv (kk:Int)):=by rw[<- hkk]; exact s10.ag 2 rfl 0
  have cc:w10.cell? (Addr.add ⟨r3,0,none⟩ (((kk:Nat):Int).toNat*1))=some (iv (σ.cn kk)):=by rw[ZI,s10.ag 3 rfl]; exact XV (vD σ a c) hk1
  refine cF (by rw[ha]; rfl) ⟨_,ck,by omega,by omega,_,cc,by omega,by omega,?_⟩;have hc:=hbd.1 kk;rw[ZI,aH ⟨by omega,by omega⟩];refine s10.aM 3 rfl (by show kk<15; omega) rfl λ w12 s12=>?_;have s12:St w0 w12 (Sep [ah b S'.cells.toArray 114,held (qG S' C'),ah r5 e.cells.toArray 43,ah r3 ((vD σ a c).cells.toArray.setIfInBounds kk (iv ((vD σ a c).cn kk+1))) 67,yV a c σ.rr,ah r4 (sE σ.dm σ.bi σ.wd).toArray 150,ah r2 fX.cells.toArray 67,emp]):=s12;rw[Wg _ hk1] at s12;have s13:=s12.quiet (aD.drew w12 []);have cb:w12.drew.cell? ⟨r5,1,none⟩=some (iv (n:Int)):=by rw[<- hn]; exact s13.ag 2 rfl 1
  have ck2:w12.drew.cell? ⟨r5,0,none⟩=some (iv (kk:Int)):=by rw[<- hkk]; exact s13.ag 2 rfl 0
  have ht:=hbd.2.2.2 n;refine⟨_,cb,by omega,by omega,_,ck2,aq (Wt (k:=(kk:Int)) (s13.aA [5,0,1,2,3,4,6,7]) hn8 (by omega) (by omega) (by omega)) ?_⟩;rintro v w13 ⟨rfl,s14⟩;have s14:St w0 w13 (Sep [ah r4 (sE (if (kk:Int)=2 then bT σ.dm n else σ.dm) (if (kk:Int)=5 then bT σ.bi n else σ.bi) (if (kk:Int)=6 then bT σ.wd n else σ.wd)).toArray 150,ah b S'.cells.toArray 114,held (qG S' C'),ah r5 e.cells.toArray 43,ah r3 ({ vD σ a c with cn:=bT σ.cn kk }:Sm).cells.toArray 67,yV a c σ.rr,ah r2 fX.cells.toArray 67,emp]):=s14;have ck3:w13.cell? ⟨r5,0,none⟩=some (iv (kk:Int)):=by rw[<- hkk]; exact s14.ag 3 rfl 0
  refine⟨rfl,_,ck3,?_⟩
  by_cases g8:kk=8
  ·have c8:=hbd.1 8;refine cT (by rw[g8]; rfl) ⟨a,σ.rr.length,c,s14.ag 4 rfl 14,_,s14.ag 3 rfl 2,cW (x:=e.round) Wb cA (z7 _) (s14.out 5 rfl) (by omega) (by omega) (λ a' c' w' s15=>?_) rfl⟩;have s15:St w0 w' (Sep [ah r4 (sE (if (kk:Int)=2 then bT σ.dm n else σ.dm) (if (kk:Int)=5 then bT σ.bi n else σ.bi) (if (kk:Int)=6 then bT σ.wd n else σ.wd)).toArray 150,ah b S'.cells.toArray 114,held (qG S' C'),ah r5 e.cells.toArray 43,ah r3 ({ vD σ a c with cn:=bT σ.cn kk }:Sm).cells.toArray 67,yV a' c' (σ.rr++[e.round]),ah r2 fX.cells.toArray 67,emp]):=s15.back (i:=5) (by show 5<8; decide);refine s15.aM 4 rfl (j:=14) (by show 14<15; decide) rfl λ w16 s16=>K _ ⟨S',C',a',c',eS2,eC2,kok',?_⟩;have s17:St w0 w16 (Sep [ah r4 (sE (if (kk:Int)=2 then bT σ.dm n else σ.dm) (if (kk:Int)=5 then bT σ.bi n else σ.bi) (if (kk:Int)=6 then bT σ.wd n else σ.wd)).toArray 150,ah b S'.cells.toArray 114,held (qG S' C'),ah r5 e.cells.toArray 43,ah r3 (vD { σ with cn:=bT σ.cn kk,rr:=σ.rr++[e.round] } a' c').cells.toArray 67,yV a' c' (σ.rr++[e.round]),ah r2 fX.cells.toArray 67,emp]):=s16;rw[hst];show St w0 w16 (Sep [ah b S'.cells.toArray 114,held (qG S' C'),ah r3 (vD { σ with cn:=bT σ.cn kk,rr:=if (kk:Int)=8 then σ.rr++[e.round] else σ.rr } a' c').cells.toArray 67,yV a' c' (if (kk:Int)=8 then σ.rr++[e.round] else σ.rr),ah r4 _ 150,ah r2 fX.cells.toArray 67,emp]);rw[if_pos (show(kk:Int)=8 by omega)];exact s17.aA [1,2,4,5,0,6,7]
  ·refine cF (by rw[beq_eq_false_iff_ne]; omega) (K _ ⟨S',C',a,c,eS2,eC2,kok',?_⟩);rw[hst];show St w0 w13 (Sep [ah b S'.cells.toArray 114,held (qG S' C'),ah r3 (vD { σ with cn:=bT σ.cn kk,rr:=if (kk:Int)=8 then σ.rr++[e.round] else σ.rr } a c).cells.toArray 67,yV a c (if (kk:Int)=8 then σ.rr++[e.round] else σ.rr),ah r4 _ 150,ah r2 fX.cells.toArray 67,emp]);rw[if_neg (show ¬ (kk:Int)=8 by omega)];exact s14.aA [1,2,4,5,0,6,7]
 ·have s10:St w0 w10 (Sep [ah b S.cells.toArray 114,held (qG S C),ah r5 e.cells.toArray 43,ah r3 (vD σ a c).cells.toArray 67,yV a c σ.rr,ah r4 (sE σ.dm σ.bi σ.wd).toArray 150,ah r2 fX.cells.toArray 67,emp]):=(k1 ha).dR [_,_];refine cT (by simpa using ha) ⟨σ.rf,s10.ag 3 rfl 11,?_⟩;have hr:=hbd.2;rw[aH ⟨by omega,by omega⟩];refine s10.aM 3 rfl (j:=11) (by show 11<15; decide) rfl λ w11 s11=>K _ ⟨S,C,a,c,?_,?_,kok,?_⟩
  ·unfold kT; rw[if_pos (by rw[hap]; exact ha)]; exact eS
  ·unfold kT; rw[if_pos (by rw[hap]; exact ha)]; exact eC
  ·unfold kT; rw[if_pos (by rw[hap]; exact ha)];exact s11.aA [0,1,3,4,5,6,7]
end
def MH(σ:Cs)(i:Nat):Bs:=⟨(σ.S.s.bd.getD i PR).nm,σ.dm i,σ.bi i,σ.wd i,(σ.S.bd.getD i cP).out,σ.C.cl.map λ x=>Ir σ.S.s.ps (x.ask.getD i z6),none,0⟩
def Ux(σ:Cs):List Bs:=(List.range σ.S.s.bd.length).map (MH σ)
def XU(σ:Cs):Sm:={ cn:=σ.cn,rf:=σ.rf,ps:=if σ.S.ph=0 then [] else σ.C.cl.map Rn.p,pa:=none,pc:=0,bs:=Ux σ,ba:=none,bc:=0,rr:=σ.rr,ra:=none,rc:=0 }
def Yz(b r2 r3 r4 r7:Nat)(σ:Cs)(S:Sx)(S2:Se)(l:List Rn)(al:OA)(cl:Nat)(M:Sm):List aJ :=
 [Yk M.pa M.pc M.ps,ah r3 M.cells.toArray 67,LR al cl l,held (nQ l),ah r7 S2.arr 100,held S2.In,ah b S.cells.toArray 114,yV M.ra M.rc M.rr,ah r4 (sE σ.dm σ.bi σ.wd).toArray 150,ah r2 fX.cells.toArray 67,emp]
def Ti(b r2 r3 r4 r7:Nat)(σ:Cs)(S:Sx)(S2:Se)(l:List Rn)(al:OA)(cl:Nat)(M:Sm):List aJ :=
 [XG M.ba M.bc M.bs,held (y7 M.bs),ah r3 M.cells.toArray 67,Yk M.pa M.pc M.ps,LR al cl l,held (nQ l),ah r7 S2.arr 100,held S2.In,ah b S.cells.toArray 114,yV M.ra M.rc M.rr,ah r4 (sE σ.dm σ.bi σ.wd).toArray 150,ah r2 fX.cells.toArray 67,emp]
theorem N9{w:World}{o:Obj}{A B:Nat->World->Prop}(h:au w o A)(k:au w o B):au w o λ r w'=>A r w'/\B r w':=⟨h,k⟩
def m2(σ:Cs)(a:OA)(c:Nat)(ps:List I6)(pa:OA)(pc:Nat)(bs:List Bs)(ba:OA)(bc:Nat):Sm:={ vD σ a c with ps:=ps,pa:=pa,pc:=pc,bs:=bs,ba:=ba,bc:=bc }
section
variable {w0 w:World} {b r2 r3 r4:Nat} {σ:Cs} {S:Sx} {C:Ck} {a:OA} {c:Nat}
set_option maxHeartbeats 1000000 in
theorem BS{w:World}{a:OA}{c:Nat}{l:List Ev}(o:Po)(h:dx 11 Ev.cells w a l)(hi:∀ e∈l,e.In)(hl:l.length<=61) :
  CP 27 #[.slice a l.length c,o.v] w (λ r w'=>∃ M:Sm,r=.agg M.cells.toArray/\M.er=XU (Er o l)/\St w w' (held M.In)):=by
 refine uS ?_;unfold p4;refine(St.start w).one.aB o.cells.toArray λ r1 w1 s1=>s1.aB fX.cells.toArray λ r2 w2 s2=>s2.aB fX.cells.toArray λ r3 w3 s3=>s3.aB (sE (λ _=>0) (λ _=>0) (λ _=>0)).toArray λ r4 w4 s4=>?_;have s4:St w w4 (Sep [ah r4 (sE (λ _=>0) (λ _=>0) (λ _=>0)).toArray 150,ah r3 fX.cells.toArray 67,ah r2 fX.cells.toArray 67,ah r1 o.cells.toArray 23,emp]):=s4;refine⟨_,_,_,_,s4.cellsIn 3 rfl,aq (Wh w4 o) ?_⟩;rintro v w5 ⟨b,rfl,k5⟩;have s5:St w w5 (Sep [Sep [ah b (pQ o).cells.toArray 114],ah r4 (sE (λ _=>0) (λ _=>0) (λ _=>0)).toArray 150,ah r3 fX.cells.toArray 67,ah r2 fX.cells.toArray 67,ah r1 o.cells.toArray 23,emp]):=s4.and k5;refine⟨_,rfl,λ n w' m=>∃ k:Nat,n=k/\k<=l.length/\m=l.length-k/\CI w w' b r2 r3 r4 (Er o (l.take k)),⟨l.length,0,rfl,by omega,by omega,?_⟩,?_⟩
 ·have s6:St w w5 (Sep [ah b (pQ o).cells.toArray 114,ah r4 (sE (λ _=>0) (λ _=>0) (λ _=>0)).toArray 150,ah r3 fX.cells.toArray 67,ah r2 fX.cells.toArray 67,ah r1 o.cells.toArray 23,emp]):=s4.and k5.single;have s7:St w w5 (Sep [held (qG (pQ o) Yb),yV none 0 [],ah b (pQ o).cells.toArray 114,ah r4 (sE (λ _=>0) (λ _=>0) (λ _=>0)).toArray 150,ah r3 fX.cells.toArray 67,ah r2 fX.cells.toArray 67,ah r1 o.cells.toArray 23,emp]):=St.sg (s6.dW) λ w'=>RO o w';exact⟨pQ o,Yb,none,0,(RN o).symm,rfl,⟨λ _=>rfl,λ h=>absurd rfl h⟩,s7.aA [2,0,4,1,3,5,7]⟩
 rintro w6 m1 n9 ⟨k,rfl,hk,hm,S,C,a3,c3,eS,eC,kok,s6⟩ -;have IV:=OS o (l.take k) λ e he=>hi e (List.mem_of_mem_take he);have hlk:(l.take k).length=k:=by rw[List.length_take]; omega
 rw[hlk] at IV
 by_cases hlt:(k:Int)<(l.length:Int)
 ·have hx:l[k]?=some (l[k]'(by omega)):=gE (by omega);generalize l[k]'(by omega)=e at hx;obtain⟨q,hq,hcl⟩:=(h.aC s6.aC).at hx;refine cT (dT hlt) ⟨λ w'=>CI w w' b r2 r3 r4 (Er o (l.take (k+1))),λ w' hw _=>⟨l.length-(k+1),by omega,k+1,aH ⟨by omega,by omega⟩,by omega,rfl,hw⟩,ay hq ⟨by omega,by omega,_,_,_,e.want,_,_,hcl,s6.aB Yq λ r5 w8 s8=>s8.aE 0 rfl e.cells rfl e.one λ w9 s9=>⟨_,_,_,e.want,_,_,s9.cellsIn 0 rfl,Qs IV (by omega) (hi e (List.mem_of_getElem? hx)) eS eC kok s9 λ w' hw=>?_⟩⟩⟩;rw[aO hx,LP];exact hw
 obtain rfl:k=l.length:=by omega
 rw[List.take_length] at IV eS eC s6;generalize Er o l=σ at *;refine cF (dF hlt) ?_;have hok:ET S C:=IV.ok.er (by rw[eS,gI]) (by rw[eC,Jo]);have e1:σ.S.ph=S.ph:=by rw[eS]; rfl
 have e2:σ.S.s.bd=S.s.bd:=by rw[eS]; rfl
 have e3:σ.S.s.ps=S.s.ps:=by rw[eS]; rfl
 have e4:∀ i,(σ.S.bd.getD i cP).out=(S.bd.getD i cP).out:=λ i=>by rw[eS,M0]
 have e5:σ.C.cl=C.cl.map Rn.er:=by rw[eC]; rfl
 refine aq (OW (s6.cellsIn 0 rfl) hok.b8 (s6.bB 1 rfl) hok kok) ?_;rintro v w17 ⟨p,C',rfl,eC',kok',k17⟩;have s17:St w w17 (Sep [WC p C',ah b S.cells.toArray 114,held (qG S C),ah r3 (vD σ a3 c3).cells.toArray 67,yV a3 c3 σ.rr,ah r4 (sE σ.dm σ.bi σ.wd).toArray 150,ah r2 fX.cells.toArray 67,emp]):=s6.and k17;refine⟨p,rfl,?_⟩
 by_cases h0:S.ph=0
 ·obtain rfl:p=none:=kok'.1 h0;refine cT rfl ⟨_,_,_,_,_,_,_,_,_,_,_,_,_,_,_,_,_,_,_,_,_,s17.cellsIn 3 rfl,s17.aE 6 rfl (vD σ a3 c3).cells rfl (Sm.one _) λ w18 s18=>⟨_,_,_,_,_,_,_,_,_,_,_,_,_,_,_,_,_,_,_,_,_,s18.cellsIn 6 rfl,vD σ a3 c3,rfl,?_,?_⟩⟩
  ·have hb:Ux σ=[]:=by
    unfold Ux;rw[e2,show S.s.bd=[] from show S.s.er.bd=gN.bd by rw[hok.z h0]]; rfl
   unfold XU;rw[hb,if_pos (e1.trans h0)]; rfl
  ·exact((s18.aA [4]).xk ((bz cA).mono λ w' i=>(⟨λ i p h=>by simp[vD,fX] at h,λ i p h=>by simp[vD,fX] at h,λ x hx=>by simp[vD,fX] at hx,i⟩:(vD σ a3 c3).In w'))).single
 ·obtain⟨g,rfl⟩:∃ g,p=some ⟨g,0,none⟩:=kok'.2 h0;have hok' : ET S C':=hok.er rfl eC';have hI:=hok'.c h0;have hso:=hok.so h0;have s18:St w w17 (Sep [held (C'.Rd g),ah b S.cells.toArray 114,held (qG S C),ah r3 (vD σ a3 c3).cells.toArray 67,yV a3 c3 σ.rr,ah r4 (sE σ.dm σ.bi σ.wd).toArray 150,ah r2 fX.cells.toArray 67,emp]):=s17.xk zB;refine cF rfl (aq (Pa (s18.cellsIn 1 rfl) (s18.bB 2 rfl).h.1 (X1 hok)) ?_);rintro v w19 ⟨S2,eS2,rfl,k19⟩;have s19:St w w19 (Sep [held S2.In,held (C'.Rd g),ah b S.cells.toArray 114,held (qG S C),ah r3 (vD σ a3 c3).cells.toArray 67,yV a3 c3 σ.rr,ah r4 (sE σ.dm σ.bi σ.wd).toArray 150,ah r2 fX.cells.toArray 67,emp]):=s18.and k19;refine⟨S2.a1,S2.ps.length,S2.c1,S2.a2,S2.bd.length,S2.c2,S2.a3,S2.cp.length,S2.c3,S2.a4,S2.sa.length,S2.c4,rfl,s19.aB gN.arr λ r7 w20 s20=>s20.aE 0 rfl S2.arr.toList rfl (by simp[Se.arr,Value.oneCell']) λ w21 s21=>?_⟩;have s21:St w w21 (Sep [ah r7 S2.arr 100,held S2.In,held (C'.Rd g),ah b S.cells.toArray 114,held (qG S C),ah r3 (vD σ a3 c3).cells.toArray 67,yV a3 c3 σ.rr,ah r4 (sE σ.dm σ.bi σ.wd).toArray 150,ah r2 fX.cells.toArray 67,emp]):=s21;refine aq (B9 (s21.bB 2 rfl) hI.ok) ?_;rintro v w22 ⟨l',a4,c4,el,rfl,k22⟩;have s22:St w w22 (Sep [LR a4 c4 l',held (nQ l'),ah r7 S2.arr 100,held S2.In,held (C'.Rd g),ah b S.cells.toArray 114,held (qG S C),ah r3 (vD σ a3 c3).cells.toArray 67,yV a3 c3 σ.rr,ah r4 (sE σ.dm σ.bi σ.wd).toArray 150,ah r2 fX.cells.toArray 67,emp]):=(s21.and k22).two;have QC:l'.map Rn.er=σ.C.cl:=by rw[e5,el]; exact show C'.er.cl=C.er.cl by rw[eC']
  have hl' : l'.length=C'.cl.length:=by have:=congrArg List.length el; simpa using this
  have hl30:=hI.ok.cl;have mem:∀ x∈l',∃ y∈C'.cl,y.er=x.er:=λ x hx=>by
   have:x.er∈C'.cl.map Rn.er:=by rw[<- el]; exact List.mem_map_of_mem hx
   exact List.mem_map.1 this
  have eb2:S2.bd=S.s.bd:=tU eS2;have ep2:S2.ps=S.s.ps:=show S2.er.ps=S.s.er.ps by rw[eS2]
  have ecb:C'.s.bd=S.s.bd:=tU (hok'.cs h0);have ok2:S2.Ok:=Ka eS2 hso;refine⟨a4,l'.length,c4,rfl,λ n w' m=>∃ (k:Nat) (ap:OA) (cp:Nat),n=k/\k<=l'.length/\m=l'.length-k/\St w w' (Sep (Yz b r2 r3 r4 r7 σ S S2 l' a4 c4 { vD σ a3 c3 with ps:=(l'.take k).map Rn.p,pa:=ap,pc:=cp })),⟨l'.length,0,none,0,rfl,by omega,by omega,?_⟩,?_⟩
  ·have s23:St w w22 (Sep [Yk none 0 [],LR a4 c4 l',held (nQ l'),ah r7 S2.arr 100,held S2.In,held (C'.Rd g),ah b S.cells.toArray 114,held (qG S C),ah r3 (vD σ a3 c3).cells.toArray 67,yV a3 c3 σ.rr,ah r4 (sE σ.dm σ.bi σ.wd).toArray 150,ah r2 fX.cells.toArray 67,emp]):=s22.dW;exact s23.aA [0,8,1,2,3,4,6,9,10,11,12]
  rintro w23 m3 n50 ⟨k,ap,cp,rfl,hk,hm,s23⟩ -
  by_cases hlt2:(k:Int)<(l'.length:Int)
  ·have hx:l'[k]?=some (l'[k]'(by omega)):=gE (by omega);generalize l'[k]'(by omega)=x at hx;obtain⟨q,hq,hcl⟩:=((s23.out 2 rfl).rd Rn.len).at hx;refine cT (dT hlt2) (ay hq ⟨by omega,by omega,x.p,_,_,_,_,_,_,_,_,_,hcl,s23.aB WB.cells.toArray λ r8 w24 s24=>s24.aE 0 rfl x.cells rfl x.one λ w25 s25=>?_⟩);have hlen:((l'.take k).map Rn.p).length=k:=by simp; omega
   refine⟨ap,((l'.take k).map Rn.p).length,cp,s25.ag 2 rfl 12,x.p,s25.aQ 0 0 rfl rfl,cW (l:=(l'.take k).map Rn.p) Zw dh (I6.one _) (x:=x.p) (s25.out 1 rfl) (by omega) (by omega) (λ a' c' w' s26=>?_) rfl⟩;have s26:St w w' (Sep (ah r8 x.cells.toArray 157 :: Yk a' c' ((l'.take k).map Rn.p++[x.p]) :: (Yz b r2 r3 r4 r7 σ S S2 l' a4 c4 { vD σ a3 c3 with ps:=(l'.take k).map Rn.p,pa:=ap,pc:=cp }).drop 1)):=s26.back (i:=1) (by show 1<12; decide);refine s26.aM 2 rfl (j:=12) (by show 12<15; decide) rfl λ w28 s28=>⟨l'.length-(k+1),by omega,k+1,a',c',aH ⟨by omega,by omega⟩,by omega,rfl,?_⟩;rw[aO hx,List.map_append,List.map_singleton];exact s28.second
  obtain rfl:k=l'.length:=by omega
  rw[List.take_length] at s23;generalize hM:({ vD σ a3 c3 with ps:=l'.map Rn.p,pa:=ap,pc:=cp }:Sm)=M2 at s23;have hN8:S2.bd.length<=8:=by rw[eb2]; exact hso.bd.l2
  have hlb:∀ {y:Rn},y∈l'->y.ask.length=S2.bd.length/\∀ u∈y.ask,I6.Le u 4:=λ {y} hy=>by
   obtain⟨z,hz,ez⟩:=mem y hy;have ea:z.ask=y.ask:=show z.er.ask=y.er.ask by rw[ez]
   rw[<- ea,eb2,<- ecb];exact⟨(hI.ok.cz z hz).ask,hI.ok.ca z hz⟩
  refine cF (dF hlt2) ⟨_,_,_,s23.ag 4 rfl 1,λ n w' m=>∃ (k:Nat) (bl:List Bs) (ba:OA) (bc:Nat),n=k/\k<=S2.bd.length/\m=S2.bd.length-k/\bl.map Bs.er=(List.range k).map (MH σ)/\St w w' (Sep (Ti b r2 r3 r4 r7 σ S S2 l' a4 c4 { M2 with bs:=bl,ba:=ba,bc:=bc })),⟨S2.bd.length,0,[],none,0,rfl,by omega,by omega,rfl,?_⟩,?_⟩
  ·have s24:St w w23 (Sep (held (y7 []) :: XG none 0 [] :: Yz b r2 r3 r4 r7 σ S S2 l' a4 c4 M2)):=St.sg (s23.dW) λ w' x hx=>by cases hx
   have e:({ M2 with bs:=[],ba:=none,bc:=0 }:Sm)=M2:=by rw[<- hM]; rfl
   rw[e];have e2:M2.bs=[]:=by rw[<- hM]; rfl
   have e3:M2.ba=none:=by rw[<- hM]; rfl
   have e4:M2.bc=0:=by rw[<- hM]; rfl
   unfold Ti;rw[e2,e3,e4];exact s24.aA [1,0,3,2,4,5,6,7,8,9,10,11,12]
  rintro w24 m5 n51 ⟨k,bl,ba,bc,rfl,hk,hm5,hbl,s24⟩ -;generalize hM3:({ M2 with bs:=bl,ba:=ba,bc:=bc }:Sm)=M3 at s24;have hblk:bl.length=k:=by have:=congrArg List.length hbl; simpa using this
  have m1:M3.bs=bl:=by rw[<- hM3]
  have m2:M3.ba=ba:=by rw[<- hM3]
  have m3:M3.bc=bc:=by rw[<- hM3]
  by_cases hlt3:(k:Int)<(S2.bd.length:Int)
  ·have hx:S2.bd[k]?=some (S2.bd[k]'(by omega)):=gE (by omega);generalize S2.bd[k]'(by omega)=x at hx;have hk8:k<8:=by omega
   have hkn:k<S.s.bd.length:=by rw[<- eb2]; omega
   obtain⟨q,hq,hcl⟩:=(s24.bB 7 rfl).bd.fl.at hx;refine cT (dT hlt3) (ay hq ⟨by omega,by omega,_,_,_,_,hcl,s24.aB PR.cells.toArray λ r10 w30 s30=>s30.aE 0 rfl x.cells rfl x.one λ w31 s31=>?_⟩);have s32:=s31.quiet (aD.drew w31 []);let B0:Bs:=⟨x.nm,σ.dm k,σ.bi k,σ.wd k,(S.bd.getD k cP).out,[],none,0⟩;refine⟨λ r w'=>St w w' (Sep (ah r B0.cells.toArray 124 :: Ti b r2 r3 r4 r7 σ S S2 l' a4 c4 M3)),?_,_,s32.ag 0 rfl 0,by omega,by omega,σ.dm k,by rw[G8,s32.ag 11 rfl]; exact L6 hk8,by omega,by omega,σ.bi k,by rw[G8,aZ,s32.ag 11 rfl]; exact L5 hk8,by omega,by omega,σ.wd k,by rw[G8,aZ,s32.ag 11 rfl]; exact L7 hk8,?_,?_⟩
   ·rintro w32 r11 s33 -;let f:Rn->Int:=λ y=>Ir S2.ps (y.ask.getD k z6);refine⟨λ n w' m=>∃ (j:Nat) (ai:OA) (ci:Nat),n=j/\j<=l'.length/\m=l'.length-j/\St w w' (Sep (yV ai ci ((l'.take j).map f) :: ah r11 ({ B0 with pts:=(l'.take j).map f,pa:=ai,pc:=ci }:Bs).cells.toArray 124 :: Ti b r2 r3 r4 r7 σ S S2 l' a4 c4 M3)),⟨l'.length,0,none,0,rfl,by omega,by omega,s33.dW⟩,?_⟩;rintro w33 m7 n55 ⟨j,ai,ci,rfl,hj,hm7,s34⟩ -;have hlen:((l'.take j).map f).length=j:=by simp; omega
    by_cases hlt4:(j:Int)<(l'.length:Int)
    ·have hy:l'[j]?=some (l'[j]'(by omega)):=gE (by omega);generalize l'[j]'(by omega)=y at hy;have hym:=List.mem_of_getElem? hy;obtain⟨q1,hq1,hcl1⟩:=((s34.out 6 rfl).rd Rn.len).at hy;refine cT (dT hlt4) (ay hq1 ⟨by omega,by omega,y.p,_,_,_,_,_,_,_,_,_,hcl1,s34.aB WB.cells.toArray λ r12 w34 s35=>s35.aE 0 rfl y.cells rfl y.one λ w35 s36=>?_⟩);have s37:=s36.quiet (aD.drew w35 []);obtain⟨z1,z2⟩:=hlb hym;have hu:y.ask[k]?=some (y.ask.getD k z6):=getD_at (by omega);obtain⟨q2,hq2,hcl2⟩:=((s37.bB 8 rfl) y hym).ask.at hu;refine⟨ai,((l'.take j).map f).length,ci,s37.ag 2 rfl 5,S2.a1,S2.ps.length,S2.c1,s37.ag 9 rfl 0,y.xa,y.ask.length,y.xc,s37.ag 0 rfl 6,ay hq2 ⟨by omega,by omega,_,hcl2,aq (Gp (s37.bB 10 rfl).ps (s37.bB 10 rfl).h1 ok2.ps (z2 _ (List.mem_of_getElem? hu))) ?_⟩⟩;rintro v w36 ⟨rfl,c36⟩;have s38:=s37.quiet c36;refine⟨_,rfl,s38.ag 2 rfl 5,N9 (s38.aB _ λ r w' s'=>s'.ag 3 rfl 5) (cW (l:=(l'.take j).map f) Wb cA (z7 _) (x:=f y) (s38.out 1 rfl) (by omega) (by omega) (λ a' c' w' s39=>?_) rfl)⟩;have s39:St w w' (Sep (ah r12 y.cells.toArray 157 :: yV a' c' ((l'.take j).map f++[f y]) :: ah r11 ({ B0 with pts:=(l'.take j).map f,pa:=ai,pc:=ci }:Bs).cells.toArray 124 :: Ti b r2 r3 r4 r7 σ S S2 l' a4 c4 M3)):=s39.back (i:=1) (by show 1<16; decide);refine s39.aM 2 rfl (j:=5) (by show 5<6; decide) rfl λ w28 s40=>⟨l'.length-(j+1),by omega,j+1,a',c',aH ⟨by omega,by omega⟩,by omega,rfl,?_⟩;rw[aO hy,List.map_append,List.map_singleton];exact s40.second
    obtain rfl:j=l'.length:=by omega
    rw[List.take_length] at s34;let B1:Bs:={ B0 with pts:=l'.map f,pa:=ai,pc:=ci };refine cF (dF hlt4) ⟨ba,bl.length,bc,?_,_,_,_,_,_,_,_,_,s34.cellsIn 1 rfl,?_⟩
    ·rw[s34.ag 4 rfl,<- hM3]; rfl
    subst hM3;have s35:St w w33 (Sep (yV ai ci B1.pts :: ah r11 B1.cells.toArray 124 :: XG ba bc bl :: held (y7 bl) :: (Ti b r2 r3 r4 r7 σ S S2 l' a4 c4 { M2 with bs:=bl,ba:=ba,bc:=bc }).drop 2)):=s34;refine cW (l:=bl) Zu Bs.len (Bs.one B1) (x:=B1) (s35.out 2 rfl) (by omega) (by omega) (λ a' c' w' s41=>?_) rfl;have s41:St w w' (Sep (yV ai ci B1.pts :: ah r11 B1.cells.toArray 124 :: XG a' c' (bl++[B1]) :: held (y7 bl) :: (Ti b r2 r3 r4 r7 σ S S2 l' a4 c4 { M2 with bs:=bl,ba:=ba,bc:=bc }).drop 2)):=s41.back (i:=2) (by show 2<15; decide);refine s41.aM 4 rfl (j:=13) (by show 13<15; decide) rfl λ w42 s42=>⟨S2.bd.length-(k+1),by omega,k+1,bl++[B1],a',c',aH ⟨by omega,by omega⟩,by omega,rfl,?_,?_⟩
    ·rw[List.range_succ,List.map_append,List.map_append,hbl,List.map_singleton,List.map_singleton];have e1:(σ.S.s.bd.getD k PR).nm=x.nm:=by rw[e2,<- eb2,List.getD_eq_getElem?_getD,hx]; rfl
     have e6:MH σ k=B1.er:=by
      unfold MH;rw[e1,e4,<- QC,List.map_map,e3,<- ep2]; rfl
     rw[e6]
    ·have s43:St w w42 (Sep (yV ai ci B1.pts :: held (y7 bl) :: XG a' c' (bl++[B1]) :: ah r3 ({ M2 with bs:=bl++[B1],ba:=a',bc:=c' }:Sm).cells.toArray 67 :: (Ti b r2 r3 r4 r7 σ S S2 l' a4 c4 { M2 with bs:=bl++[B1],ba:=a',bc:=c' }).drop 3)):=s42.aA [0,3,2,4,5,6,7,8,9,10,11,12,13,14];have s44:=s43.pK (S:=y7 (bl++[B1])) (bz cA) (bu _) λ w' h1 h2 y hy=>(List.mem_append.1 hy).elim (h2 y) λ e=>by rw[List.mem_singleton.1 e]; exact h1
     exact s44.aA [1,0,2,3,4,5,6,7,8,9,10,11,12]
   ·refine aq (TW (s32.aA [9]) hok.b8 hk8 hkn) ?_;rintro v w43 ⟨rfl,rfl⟩;refine⟨_,rfl,by rw[G8,aZ,s32.ag 11 rfl]; exact L7 hk8,by rw[G8,aZ,s32.ag 11 rfl]; exact L5 hk8,by rw[G8,s32.ag 11 rfl]; exact L6 hk8,s32.ag 0 rfl 0,s32.aB S8.cells.toArray λ r15 w44 s44=>⟨by rw[G8,aZ,s44.ag 12 rfl]; exact L7 hk8,by rw[G8,aZ,s44.ag 12 rfl]; exact L5 hk8,by rw[G8,s44.ag 12 rfl]; exact L6 hk8,s44.ag 1 rfl 0,s44.aE 0 rfl B0.cells rfl (Bs.one _) λ w45 s45=>s45.aA [0,2,3,4,5,6,7,8,9,10,11,12,13,14]⟩⟩
   ·refine s32.aB S8.cells.toArray λ r16 w46 s46=>⟨by rw[G8,aZ,s46.ag 12 rfl]; exact L7 hk8,by rw[G8,aZ,s46.ag 12 rfl]; exact L5 hk8,by rw[G8,s46.ag 12 rfl]; exact L6 hk8,s46.ag 1 rfl 0,aq (TW (s46.aA [10]) hok.b8 hk8 hkn) ?_⟩;rintro v w47 ⟨rfl,rfl⟩;exact⟨_,rfl,by rw[G8,aZ,s46.ag 12 rfl]; exact L7 hk8,by rw[G8,aZ,s46.ag 12 rfl]; exact L5 hk8,by rw[G8,s46.ag 12 rfl]; exact L6 hk8,s46.ag 1 rfl 0,s46.aE 0 rfl B0.cells rfl (Bs.one _) λ w48 s48=>s48.aA [0,2,3,4,5,6,7,8,9,10,11,12,13,14]⟩
  obtain rfl:k=S2.bd.length:=by omega
  refine cF (dF hlt3) ⟨_,_,_,_,_,_,_,_,_,_,_,_,_,_,_,_,_,_,_,_,_,s24.cellsIn 2 rfl,s24.aE 11 rfl M3.cells rfl (Sm.one _) λ w49 s49=>⟨_,_,_,_,_,_,_,_,_,_,_,_,_,_,_,_,_,_,_,_,_,s49.cellsIn 11 rfl,M3,rfl,?_,?_⟩⟩
  ·subst hM3 hM;unfold XU Ux;rw[if_neg (by rw[e1]; exact h0),e2,<- eb2,<- hbl,<- QC,List.map_map]; rfl
  ·have s50:=(s49.aA [0,1,3,9]).held ((bz Bs.len).cons ((bu _).cons ((bz dh).cons ((bz cA).cons jk.nil))));exact s50.weak (lX λ w' ⟨i1,i2,i3,i4,_⟩=>⟨i3,i1,i2,i4⟩)
end
theorem W5{w:World}{a:OA}{c:Nat}{l:List Ev}(h:dx 11 Ev.cells w a l) :
  CP 18 #[.slice a l.length c] w (λ r w'=>∃ b:Bool,r=.bool b/\w' = w/\(b=true->l.length<=60)):=by
 refine DX ?_;unfold Ca
 by_cases g:(l.length:Int)>60
 ·exact cT (dT g) ⟨false,rfl,rfl,λ h=>by cases h⟩
 refine cF (dF g) ⟨λ n w' m=>∃ k:Nat,n=k/\k<=l.length/\m=l.length-k/\w' = w,⟨l.length,0,rfl,by omega,by omega,rfl⟩,?_⟩;rintro w' m n ⟨k,rfl,hk,hm,rfl⟩ -
 by_cases hlt:(k:Int)<(l.length:Int)
 ·have hx:l[k]?=some (l[k]'(by omega)):=gE (by omega);generalize l[k]'(by omega)=e at hx;obtain⟨q,hq,hcl⟩:=h.at hx;have hc:=bf hcl 9 (sv e.text) rfl;refine cT (dT hlt) (ay hq ⟨by omega,by omega,bs e.text,hc,?_⟩)
  by_cases g2:(((bs e.text).size:Nat):Int)>2000
  ·exact cT (dT g2) ⟨false,rfl,rfl,λ h=>by cases h⟩
  ·exact cF (dF g2) ⟨l.length-(k+1),by omega,k+1,aH ⟨by omega,by omega⟩,by omega,rfl,rfl⟩
 ·exact cF (dF hlt) ⟨true,rfl,rfl,λ _=>by omega⟩
abbrev MB:Prop:=∀ w:World,CP 19 #[] w (λ r w'=>r=.bool true/\aD w w' [])
theorem Us{σ:Cs}{k:Nat}(IV:Iv σ k):σ.S.s.bd.length<=8:=by
 have hok:=IV.ok
 by_cases h:σ.S.ph=0
 ·rw[show σ.S.s.bd=[] from show σ.S.s.er.bd=gN.bd by rw[hok.z h]]; decide
 ·exact(hok.so h).bd.l2
theorem Zx:fZ prog 71 147 (.agg S8.cells.toArray) 6 72:=fZ.mk' underlying71 (by kernel_rfl) rfl (by decide)
abbrev ZM (a:OA) (c:Nat) (l:List Bs):aJ:=cJ 147 6 Bs.cells a c l
theorem Eb{w:World}{M:Sm}(h:M.In w)(hb:M.bs.length<=1000) :
  CP 26 #[.agg M.cells.toArray] w (λ r w'=>∃ (ba:OA) (bc:Nat),r=.agg ({ M with ba:=ba,bc:=bc }:Sm).cells.toArray/\St w w' (held λ w''=>dx 6 Bs.cells w'' ba M.bs)):=by
 refine Af ?_;unfold xp;refine(St.start w).one.aB M.cells.toArray λ r1 w1 s1=>s1.aB fX.cells.toArray λ r2 w2 s2=>?_;have s2:St w w2 (Sep [ah r2 fX.cells.toArray 73,ah r1 M.cells.toArray 67,emp]):=s2;refine⟨_,_,_,_,_,_,_,_,_,_,_,s2.aQ 1 0 rfl rfl,_,s2.ag 1 rfl 11,_,_,_,s2.ag 1 rfl 12,_,_,_,s2.ag 1 rfl 14,s2.aB fX.cells.toArray λ r3 w3 s3=>s3.aE 0 rfl ({ M with bs:=[],ba:=none,bc:=0 }:Sm).cells rfl (Sm.one _) λ w4 s4=>?_⟩;refine⟨λ n w' m=>∃ (k:Nat) (ba:OA) (bc:Nat),n=k/\k<=M.bs.length/\m=M.bs.length-k/\St w w' (Sep [ZM ba bc (M.bs.take k),ah r3 ({ M with bs:=M.bs.take k,ba:=ba,bc:=bc }:Sm).cells.toArray 73,ah r2 fX.cells.toArray 73,ah r1 M.cells.toArray 67,emp]),⟨M.bs.length,0,none,0,rfl,by omega,by omega,?_⟩,?_⟩
 ·have s5:St w w4 (Sep (ah r3 ({ M with bs:=[],ba:=none,bc:=0 }:Sm).cells.toArray 73 :: [ah r2 fX.cells.toArray 73,ah r1 M.cells.toArray 67,emp])):=s4;exact s5.dW
 rintro w5 m1 n25 ⟨k,ba,bc,rfl,hk,hm,s5⟩ -;refine⟨_,_,_,s5.ag 3 rfl 13,?_⟩
 by_cases hlt:(k:Int)<(M.bs.length:Int)
 ·have hx:M.bs[k]?=some (M.bs[k]'(by omega)):=gE (by omega);generalize M.bs[k]'(by omega)=x at hx;obtain⟨q,hq,hcl⟩:=(h.aC s5.aC).bs.at hx;have hl:(M.bs.take k).length=k:=by rw[List.length_take]; omega
  refine cT (dT hlt) ⟨_,_,_,s5.ag 3 rfl 13,ay hq ⟨by omega,by omega,_,_,_,_,_,_,_,_,hcl,s5.aB S8.cells.toArray λ r4 w6 s6=>s6.aE 0 rfl x.cells rfl x.one λ w7 s7=>?_⟩⟩;refine⟨ba,(M.bs.take k).length,bc,s7.ag 2 rfl 13,_,s7.ag 0 rfl 0,_,s7.ag 0 rfl 1,_,s7.ag 0 rfl 2,_,s7.ag 0 rfl 3,_,s7.ag 0 rfl 4,_,_,_,s7.ag 0 rfl 5,cW (l:=M.bs.take k) Zx Bs.len x.one (x:=x) (s7.out 1 rfl) (by omega) (by omega) (λ a' c' w' s8=>?_) rfl⟩;have s8:St w w' (Sep (ah r4 x.cells.toArray 124 :: ZM a' c' (M.bs.take k++[x]) :: [ah r3 ({ M with bs:=M.bs.take k,ba:=ba,bc:=bc }:Sm).cells.toArray 73,ah r2 fX.cells.toArray 73,ah r1 M.cells.toArray 67,emp])):=s8.back (i:=1) (by show 1<6; decide);refine s8.aM 2 rfl (j:=13) (by show 13<15; decide) rfl λ w10 s10=>⟨M.bs.length-(k+1),by omega,k+1,a',c',aH ⟨by omega,by omega⟩,by omega,rfl,?_⟩;rw[aO hx];exact s10.second
 obtain rfl:k=M.bs.length:=by omega
 rw[List.take_length] at s5;refine cF (dF hlt) ⟨_,_,_,_,_,_,_,_,_,_,_,_,_,_,_,_,_,_,_,_,_,s5.cellsIn 1 rfl,s5.aE 2 rfl ({ M with ba:=ba,bc:=bc }:Sm).cells rfl (Sm.one _) λ w11 s11=>⟨_,_,_,_,_,_,_,_,_,_,_,_,_,_,_,_,_,_,_,_,_,s11.cellsIn 2 rfl,ba,bc,rfl,?_⟩⟩;exact((s11.aA [0]).xk (bz Bs.len)).single
theorem J8{w:World}{a1:OA}{c1:Nat}{a2:OA}{c2:Nat}{l:List Int}(h1:dx 1 i1 w a1 l)(h2:dx 1 i1 w a2 l)(hl:l.length<=1000000) :
  CP 71 #[.slice a1 l.length c1,.slice a2 l.length c2] w (λ r w'=>r=.bool true/\aD w w' []):=by
 refine uO ?_;unfold pZ;refine cF (by simp) ⟨λ n w' m=>∃ k:Nat,n=k/\k<=l.length/\m=l.length-k/\aD w w' [],⟨l.length,0,rfl,by omega,by omega,aD.refl _ _⟩,?_⟩;rintro w1 m n ⟨k,rfl,hk,hm,hc⟩ -
 by_cases hlt:(k:Int)<(l.length:Int)
 ·have hx:l[k]?=some (l[k]'(by omega)):=gE (by omega);generalize l[k]'(by omega)=x at hx;have hd:aD w w1.drew []:=hc.trans (aD.drew w1 []) (by simp);obtain⟨q1,hq1,hc1⟩:=fu (h1.aC hd) hx;obtain⟨q2,hq2,hc2⟩:=fu (h2.aC hd) hx;refine cT (dT hlt) (ay hq1 ⟨by omega,by omega,x,hc1,ay hq2 ⟨by omega,by omega,x,hc2,cF (by simp) ⟨l.length-(k+1),by omega,k+1,aH ⟨by omega,by omega⟩,by omega,rfl,hd⟩⟩⟩)
 ·exact cF (dF hlt) ⟨rfl,hc⟩
theorem OV{w:World}{M1 M2:Sm}(h1:M1.In w)(h2:M2.In w)(e:M1.er=M2.er)(l1:M1.ps.length<=1000)(l2:M1.bs.length<=1000)(l3:M1.rr.length<=1000)(l4:∀ x∈M1.bs,x.pts.length<=1000) :
  CP 25 #[.agg M1.cells.toArray,.agg M2.cells.toArray] w (λ r w'=>r=.bool true/\aD w w' []):=by
 refine Bx ?_;unfold Aw;have e1:M2.cn=M1.cn:=show M2.er.cn=M1.er.cn by rw[e]
 have e2:M2.rf=M1.rf:=show M2.er.rf=M1.er.rf by rw[e]
 have e3:M2.ps=M1.ps:=show M2.er.ps=M1.er.ps by rw[e]
 have e4:M2.bs.map Bs.er=M1.bs.map Bs.er:=show M2.er.bs=M1.er.bs by rw[e]
 have e5:M2.rr=M1.rr:=show M2.er.rr=M1.er.rr by rw[e]
 have eb:M2.bs.length=M1.bs.length:=by have:=congrArg List.length e4; simpa using this
 refine(St.start w).one.aB M1.cells.toArray λ r1 w1 s1=>s1.aB M2.cells.toArray λ r2 w2 s2=>?_;have s2:St w w2 (Sep [ah r2 M2.cells.toArray 73,ah r1 M1.cells.toArray 73,emp]):=s2;let Q:World->Prop:=λ w'=>St w w' (Sep [ah r2 M2.cells.toArray 73,ah r1 M1.cells.toArray 73,emp]);refine⟨λ b w'=>b=false/\Q w',?_,_,_,_,_,_,_,_,_,_,_,_,s2.aQ 1 0 rfl rfl,_,_,_,_,_,_,_,_,_,_,_,s2.aQ 0 0 rfl rfl,cF (by rw[e1]; simp) ⟨_,s2.ag 1 rfl 11,_,s2.ag 0 rfl 11,cF (by rw[e2]; simp) ⟨_,_,_,s2.ag 1 rfl 12,_,_,_,s2.ag 0 rfl 12,cF (by rw[e3]; simp) ⟨_,_,_,s2.ag 1 rfl 13,_,_,_,s2.ag 0 rfl 13,cF (by rw[eb]; simp) ⟨_,_,_,s2.ag 1 rfl 14,_,_,_,s2.ag 0 rfl 14,?_⟩⟩⟩⟩⟩
 ·rintro w3 b ⟨rfl,s3⟩ -;refine cF rfl ⟨λ n w' m=>∃ k:Nat,n=k/\k<=M1.ps.length/\m=M1.ps.length-k/\Q w',⟨M1.ps.length,0,rfl,by omega,by omega,s3⟩,?_⟩;rintro w4 m1 n ⟨k,rfl,hk,hm,s4⟩ -;refine⟨_,_,_,s4.ag 1 rfl 12,?_⟩
  by_cases hlt:(k:Int)<(M1.ps.length:Int)
  ·have hx:M1.ps[k]?=some (M1.ps[k]'(by omega)):=gE (by omega);generalize M1.ps[k]'(by omega)=u at hx;have s5:=s4.quiet (aD.drew w4 []);obtain⟨q1,hq1,hc1⟩:=(h1.aC s5.aC).ps.at hx;obtain⟨q2,hq2,hc2⟩:=(h2.aC s5.aC).ps.at (by rw[e3]; exact hx);refine cT (dT hlt) ⟨_,_,_,s5.ag 1 rfl 12,ay hq1 ⟨by omega,by omega,u,hc1,_,_,_,s5.ag 0 rfl 12,ay hq2 ⟨by omega,by rw[e3]; omega,u,hc2,cF (by simp[I6.beq]) ⟨M1.ps.length-(k+1),by omega,k+1,aH ⟨by omega,by omega⟩,by omega,rfl,s5⟩⟩⟩⟩
  refine cF (dF hlt) ⟨λ n w' m=>∃ k:Nat,n=k/\k<=M1.bs.length/\m=M1.bs.length-k/\Q w',⟨M1.bs.length,0,rfl,by omega,by omega,s4⟩,?_⟩;clear hlt hm hk;rintro w5 m3 n ⟨k,rfl,hk,hm,s5⟩ -;refine⟨_,_,_,s5.ag 1 rfl 13,?_⟩
  by_cases hlt:(k:Int)<(M1.bs.length:Int)
  ·have hx:M1.bs[k]?=some (M1.bs[k]'(by omega)):=gE (by omega);have hy:M2.bs[k]?=some (M2.bs[k]'(by omega)):=gE (by omega);generalize M1.bs[k]'(by omega)=x at hx;generalize M2.bs[k]'(by omega)=y at hy;have exy:x.er=y.er:=by
    have g1:(M1.bs.map Bs.er)[k]?=some x.er:=by rw[List.getElem?_map,hx]; rfl
    have g2:(M2.bs.map Bs.er)[k]?=some y.er:=by rw[List.getElem?_map,hy]; rfl
    rw[e4,g1] at g2;exact Option.some.inj g2
   have x1:y.nm=x.nm:=show y.er.nm=x.er.nm by rw[exy]
   have x2:y.dm=x.dm:=show y.er.dm=x.er.dm by rw[exy]
   have x3:y.bi=x.bi:=show y.er.bi=x.er.bi by rw[exy]
   have x4:y.wd=x.wd:=show y.er.wd=x.er.wd by rw[exy]
   have x5:y.out=x.out:=show y.er.out=x.er.out by rw[exy]
   have x6:y.pts=x.pts:=show y.er.pts=x.er.pts by rw[exy]
   have s6:St w w5.drew (Sep [ah r2 M2.cells.toArray 73,ah r1 M1.cells.toArray 73,emp]):=s5.quiet (aD.drew w5 []);obtain⟨q1,hq1,hc1⟩:=h1.bs.at hx;obtain⟨q2,hq2,hc2⟩:=h2.bs.at hy;have hx' : ∀ {w' : World} {l:List aJ},St w w' (Sep l)->af w' (q1.add (k*6)) 0 x.cells:=λ s=>bP s.aC hc1;have hy' : ∀ {w' : World} {l:List aJ},St w w' (Sep l)->af w' (q2.add (k*6)) 0 y.cells:=λ s=>bP s.aC hc2;refine cT (dT hlt) ⟨λ a b w'=>∃ B:List aJ,St w w' (Sep (ah a x.cells.toArray 147 :: ah b y.cells.toArray 147 :: B))/\Q w',?_,_,_,_,s6.ag 1 rfl 13,ay hq1 ⟨by omega,by omega,_,_,_,_,_,_,_,_,hx' s6,_,_,_,s6.ag 0 rfl 13,ay hq2 ⟨by omega,by omega,_,_,_,_,_,_,_,_,hy' s6,?_,?_⟩⟩⟩
   ·rintro w6 r3 r4 ⟨B,s7,q7⟩ -;refine⟨λ b w'=>b=false/\Q w',?_,_,s7.ag 0 rfl 0,_,s7.ag 1 rfl 0,cF (by rw[x1,Hu _ _ rfl]; rfl) ⟨_,s7.ag 0 rfl 1,_,s7.ag 1 rfl 1,cF (by rw[x2]; simp) ⟨_,s7.ag 0 rfl 2,_,s7.ag 1 rfl 2,cF (by rw[x3]; simp) ⟨_,s7.ag 0 rfl 3,_,s7.ag 1 rfl 3,cF (by rw[x4]; simp) ⟨_,s7.ag 0 rfl 4,_,s7.ag 1 rfl 4,cF (by rw[x5]; simp) ⟨_,_,_,s7.ag 0 rfl 5,_,_,_,s7.ag 1 rfl 5,?_⟩⟩⟩⟩⟩⟩
    ·rintro w7 b ⟨rfl,q8⟩ -;exact cF rfl ⟨M1.bs.length-(k+1),by omega,k+1,aH ⟨by omega,by omega⟩,by omega,rfl,q8⟩
    ·have i2:=(h2.aC s7.aC).bi y (List.mem_of_getElem? hy);have i1':=(h1.aC s7.aC).bi x (List.mem_of_getElem? hx);have:=l4 x (List.mem_of_getElem? hx);rw[Bs.In,x6] at i2;rw[x6];refine aq (J8 i1' i2 (by omega)) ?_;rintro v w7 ⟨rfl,c7⟩;exact⟨true,rfl,rfl,St.quiet q7 c7⟩
   ·exact s6.aB S8.cells.toArray λ r5 w9 s9=>⟨hy' s9,s9.ag 1 rfl 13,hx' s9,s9.ag 2 rfl 13,s9.aB S8.cells.toArray λ r6 w10 s10=>⟨hy' s10,s10.ag 2 rfl 13,hx' s10,s10.ag 3 rfl 13,s10.aE 1 rfl x.cells rfl x.one λ w11 s11=>⟨hy' s11,s11.ag 2 rfl 13,s11.aE 0 rfl y.cells rfl y.one λ w12 s12=>⟨[],s12.aA [1,0],s12.aA [2,3,4]⟩⟩⟩⟩
   ·exact s6.aB S8.cells.toArray λ r7 w13 s9=>⟨hy' s9,s9.ag 1 rfl 13,hx' s9,s9.ag 2 rfl 13,s9.aB S8.cells.toArray λ r8 w14 s10=>⟨hy' s10,s10.ag 2 rfl 13,hx' s10,s10.ag 3 rfl 13,s10.aE 0 rfl x.cells rfl x.one λ w15 s11=>⟨hy' s11,s11.ag 2 rfl 13,s11.aE 1 rfl y.cells rfl y.one λ w16 s12=>⟨[],s12.aA [0,1],s12.aA [2,3,4]⟩⟩⟩⟩
  exact cF (dF hlt) ⟨rfl,s5.aC⟩
 ·rw[e5];have i2:=(h2.aC s2.aC).rr;rw[e5] at i2;refine aq (J8 (h1.aC s2.aC).rr i2 (by omega)) ?_;rintro v w7 ⟨rfl,c7⟩;exact⟨true,rfl,rfl,St.quiet s2 c7⟩
theorem Wa:fZ prog 24 43 (.agg Yq) 11 96:=fZ.mk' underlying24 (by kernel_rfl) rfl (by decide)
abbrev GA (a:OA) (c:Nat) (l:List Ev):aJ:=cJ 43 11 Ev.cells a c l
theorem Ev.len(e:Ev):e.cells.length=11:=rfl
theorem AW{σ:Cs}{k:Nat}(IV:Iv σ k)(hk:k<=61){M:Sm}(hM:M.er=XU σ):M.ps.length<=1000/\M.bs.length<=1000/\M.rr.length<=1000/\∀ x∈M.bs,x.pts.length<=1000:=by
 have e3:M.ps=if σ.S.ph=0 then [] else σ.C.cl.map Rn.p:=show M.er.ps=_ by rw[hM]; rfl
 have e4:M.bs.map Bs.er=Ux σ:=show M.er.bs=_ by rw[hM]; rfl
 have e5:M.rr=σ.rr:=show M.er.rr=_ by rw[hM]; rfl
 have hlen:M.bs.length=σ.S.s.bd.length:=by have:=congrArg List.length e4; simpa[Ux] using this
 have h8:=Us IV;have hr:=IV.rr;have hb:=IV.bd.1 8;refine⟨?_,by omega,by rw[e5]; omega,λ x hx=>?_⟩
 ·rw[e3]
  split
  ·decide
  ·rename_i h0;have:=(IV.ok.c h0).ok.cl;rw[List.length_map]; omega
 ·have hx2:x.er∈Ux σ:=by rw[<- e4]; exact List.mem_map_of_mem hx
  obtain⟨i,hi,hxi⟩:=List.mem_map.1 hx2;have hph:σ.S.ph≠0:=λ h0=>by
   rw[show σ.S.s.bd=[] from show σ.S.s.er.bd=gN.bd by rw[IV.ok.z h0]] at hi
   cases hi
  have h1:x.pts.length=σ.C.cl.length:=show x.er.pts.length=_ by rw[<- hxi]; simp[MH]
  have:=(IV.ok.c hph).ok.cl;omega
def XJ  (w:World) (K:KP):=K (.bool false) w
theorem O2{w K}(h:XJ w K):CP 109 #[.nilIface,.iface 30 (iv 19)] w K:=an (aF []) func109 (by kernel_rfl) (by kernel_rfl) h
def TZ  (w:World) (K:KP):=CC 135 #[.iface 30 (iv 19),.iface 30 (iv 19),.bool true] w λ a b=>∃ c,a=.returned (.bool c)/\K (.bool c) b
theorem O1{w K}(h:TZ w K):CP 109 #[.iface 30 (iv 19),.iface 30 (iv 19)] w K:=an (aF []) func109 (by kernel_rfl) (by kernel_rfl) h
def Zt  (w:World) (K:KP):=K (.bool true) w
theorem Sy{w K}(h:Zt w K):CP 135 #[.iface 30 (iv 19),.iface 30 (iv 19),.bool true] w K:=an (aF []) func135 (by kernel_rfl) (by kernel_rfl) h
def N5(a:Nat)(w:World)(K:KP):=∃ b,w.cell? (qd a 3)=some (.bool b)/\cond b (K (iv 19) w) (K qz w)
theorem Lr{b1 w K}(h:N5 b1 w K):CP 105 #[.pointer (some ⟨b1,0,none⟩)] w K:=an (aF []) func105 (by kernel_rfl) (by kernel_rfl) h
def TP(a:Nat)(w:World)(K:KP):=∃ b:Bool->qW,(∀ c d,b d c->∀ e:qv,cond d (aS c (qd a 3) (.bool true) λ d=>K (.iface 30 (iv 19)) d) (∃ d:qW,(∀ e,d e->∀ f:qv,K .nilIface e)/\∃ e,c.cell? (qd a 4)=some (.bool e)/\cond e (∃ e,c.cell? (qd a 5)=some (iv e)/\aS c (qd a 5) (iv (IntKind.i64.wrap (e-1))) λ e=>d e) (d c)))/\∃ c,w.cell? (qd a 4)=some (.bool c)/\cond c (∃ c,w.cell? (qd a 5)=some (iv c)/\b (c==0) w) (b false w)
theorem N6{b1 w K}(h:TP b1 w K):CP 108 #[.pointer (some ⟨b1,0,none⟩)] w K:=an (aF [(6,[(13,.s .bool)]),(7,[])]) func108 (by kernel_rfl) (by kernel_rfl) h
def JM(a:Nat)(b:ByteArray)(w:World)(K:KP):=CC 105 #[qp a] w λ c d=>∃ e,c=.returned (iv e)/\cond (e !=0) (K (iv e) d) (∃ c,d.drew.cell? (qd a 0)=some (iv c)/\∃ e f g,d.drew.cell? (qd a 1)=some (.slice e f g)/\cond (decide (((b.size:Nat):Int)>(IntKind.i64.wrap (c-(f:Int))))) (K (iv 18) d.drew) (∃ c:Int->qN,(∃ e,c 0 d.drew e)/\∀ d e f,c f d e->∀ g:qv,cond (decide (f<((b.size:Nat):Int))) (CC 108 #[qp a] d λ g h=>∃ i:Value,g=.returned i/\CC 109 #[i,.iface 30 (iv 19)] h λ g h=>∃ i,g=.returned (.bool i)/\cond i (K (iv 19) h) (∃ g i j,h.drew.cell? (qd a 1)=some (.slice g i j)/\0<=f/\av b[(f).toNat]? λ b=>au h.drew (.cells #[.int .u8 (b.toNat:Int)] 5) λ b h=>h.cell? (qd a 1)=some (.slice g i j)/\bn prog (Builtin.append_ #[125,125] 125 #[.slice g i j,.slice (some (qd b 0)) 1 1]) h λ b g=>∃ h i j,b=(.slice h i j)/\aS g (qd a 1) (.slice h i j) λ a=>∃ b,b<e/\c (IntKind.i64.wrap (f+1)) a b)) (K qz d)))
theorem HW{b1 s1 w K}(h:JM b1 s1 w K):CP 68 #[.pointer (some ⟨b1,0,none⟩),.string s1] w K:=an (aF [(122,[(28,.s (.int .i64))])]) func68 (by kernel_rfl) (by kernel_rfl) h
def TM(a:Nat)(w:World)(K:KP):=CC 105 #[qp a] w λ b c=>∃ d,b=.returned (iv d)/\cond (d !=0) (K (iv d) c) (CC 108 #[qp a] c λ b c=>∃ d:Value,b=.returned d/\CC 109 #[d,.iface 30 (iv 19)] c λ b c=>∃ d,b=.returned (.bool d)/\cond d (K (iv 19) c) (∃ b d e,c.cell? (qd a 1)=some (.slice b d e)/\aS c (qd a 2) (iv (d:Int)) λ a=>K qz a))
theorem NZ{b1 w K}(h:TM b1 w K):CP 63 #[.pointer (some ⟨b1,0,none⟩)] w K:=an (aF []) func63 (by kernel_rfl) (by kernel_rfl) h
def Xk(a:Nat)(b:Int)(w:World)(K:KP):=bn prog (Instr.makeSlice 125 (iv b) (iv b)) w λ c d=>∃ e f g,c=(.slice e f g)/\∃ c h i,d.cell? (qd a 1)=some (.slice c h i)/\bn prog (Builtin.copy_ #[125,125] 3 #[.slice e f g,.slice c h i]) d λ _e1 c=>∃ d,c.cell? (qd a 2)=some (iv d)/\aS c (qd a 1) (.slice e f g) λ c=>aS c (qd a 2) (iv (if b<d then b else d)) λ a=>K (.tuple #[]) a
theorem RJ{b1 n1 w K}(h:Xk b1 n1 w K):CP 110 #[.pointer (some ⟨b1,0,none⟩),iv n1] w K:=an (aF []) func110 (by kernel_rfl) (by kernel_rfl) h
def Cf(a:Nat)(b:Int)(w:World)(K:KP):=CC 105 #[qp a] w λ c d=>∃ e,c=.returned (iv e)/\cond (e !=0) (K (iv e) d) (∃ c:Bool->qW,(∀ e f,c f e->∀ g:qv,cond f (K (iv 4) e) (CC 108 #[qp a] e λ e f=>∃ g:Value,e=.returned g/\CC 109 #[g,.iface 30 (iv 19)] f λ e f=>∃ g,e=.returned (.bool g)/\cond g (K (iv 19) f) (CC 110 #[qp a,iv b] f λ e f=>e=.returned (.tuple #[])/\K qz f)))/\cond (decide (b<0)) (c true d) (∃ e f g,d.cell? (qd a 1)=some (.slice e f g)/\c (decide (b>(f:Int))) d))
theorem D1{b1 n1 w K}(h:Cf b1 n1 w K):CP 60 #[.pointer (some ⟨b1,0,none⟩),iv n1] w K:=an (aF [(14,[(22,.s .bool)])]) func60 (by kernel_rfl) (by kernel_rfl) h
def TL(a:Nat)(w:World)(K:KP):=CC 105 #[qp a] w λ b c=>∃ d,b=.returned (iv d)/\cond (d !=0) (K (.tuple #[.string (bs []),iv d]) c) (∃ b d e,c.cell? (qd a 1)=some (.slice b d e)/\bn prog (convert 125 9 (.slice b d e)) c λ a b=>∃ c,a=(.string c)/\K (.tuple #[.string c,qz]) b)
theorem NX{b1 w K}(h:TL b1 w K):CP 58 #[.pointer (some ⟨b1,0,none⟩)] w K:=an (aF []) func58 (by kernel_rfl) (by kernel_rfl) h
def Xj(a:Nat)(w:World)(K:KP):=∃ b c d,w.cell? (qd a 1)=some (.slice b c d)/\K (iv (c:Int)) w
theorem NY{b1 w K}(h:Xj b1 w K):CP 62 #[.pointer (some ⟨b1,0,none⟩)] w K:=an (aF []) func62 (by kernel_rfl) (by kernel_rfl) h
def NW(a:Nat)(w:World)(K:KP):=∃ b,w.cell? (qd a 2)=some (iv b)/\K (iv b) w
theorem F6{b1 w K}(h:NW b1 w K):CP 61 #[.pointer (some ⟨b1,0,none⟩)] w K:=an (aF []) func61 (by kernel_rfl) (by kernel_rfl) h
def Xi(a:Int)(w:World)(K:KP):=∃ b:Bool->qW,(∀ c d,b d c->∀ e:qv,cond d (K (.tuple #[.pointer none,iv 4]) c) (au c (.cells #[iv a,qn,qz,.bool false,.bool false,qz] 127) λ c d=>K (.tuple #[qp c,qz]) d))/\cond (decide (a<1)) (b true w) (b (decide (a>262144)) w)
theorem RI{n1 w K}(h:Xi n1 w K):CP 20 #[iv n1] w K:=an (aF [(6,[(9,.s .bool)])]) func20 (by kernel_rfl) (by kernel_rfl) h
end Go.Proofs.YtpihmghnbplohaaGreatDoor
namespace Go.Vc
structure MS where
 size:Int
 b:List UInt8
 dur:Nat
 down:Bool
 left:Option Nat
namespace MS
def bL(s:MS):Bool×MS :=
 match s.left with
 | some 0=>(false,{ s with down:=true })
 | some (n+1)=>(true,{ s with left:=some n })
 | none=>(true,s)
def sM:List UInt8->MS->Int×MS
 | [],s=>(0,s)
 | c :: cs,s=>match s.left with
  | some 0=>(19,{ s with down:=true })
  | some (n+1)=>sM cs { s with left:=some n,b:=s.b++[c] }
  | none=>sM cs { s with b:=s.b++[c] }
def app(x:List UInt8)(s:MS):Int×MS :=
 if s.down=true then (19,s) else if s.size-s.b.length<x.length then (18,s) else sM x s
def syn(s:MS):Int×MS :=
 if s.down=true then (19,s) else if s.bL.1=true then (0,{ s.bL.2 with dur:=s.b.length }) else (19,s.bL.2)
def cut(n:Nat)(s:MS):MS:={ s with b:=s.b.take n,dur:=min s.dur n }
def Ko(n:Int)(s:MS):Int×MS :=
 if s.down=true then (19,s) else if n<0\/s.b.length<n then (4,s) else if s.bL.1=true then (0,s.bL.2.cut n.toNat) else (19,s.bL.2)
def rd(s:MS):List UInt8×Int:=if s.down=true then ([],19) else (s.b,0)
theorem Mv{s:MS}{x:List UInt8}(h:s.down=true):s.app x=(19,s):=by unfold app; rw[if_pos h]
theorem Mw{s:MS}{x:List UInt8}(h:s.down=false)(hx:s.size-s.b.length<x.length):s.app x=(18,s):=by
 unfold app; rw[if_neg (by rw[h]; decide),if_pos hx]
theorem Mx{s:MS}{x:List UInt8}(h:s.down=false)(hx : ¬ s.size-s.b.length<x.length):s.app x=sM x s:=by
 unfold app; rw[if_neg (by rw[h]; decide),if_neg hx]
structure Ok (s:MS):Prop where
 s1:s.b.length<=s.size
 s2:s.size<=262144
 d:s.dur<=s.b.length
 l:∀ n,s.left=some n->(n:Int)<=9223372036854775807
theorem IJ{s:MS}(h:s.Ok):s.bL.2.Ok:=by
 unfold bL
 split
 ·exact⟨h.s1,h.s2,h.d,h.l⟩
 ·rename_i n hn;exact⟨h.s1,h.s2,h.d,λ k hk=>by have:=h.l _ hn; simp at hk; omega⟩
 ·exact h
theorem Kg(s:MS):s.bL.2.b=s.b/\s.bL.2.size=s.size/\s.bL.2.dur=s.dur:=by
 unfold bL; split<;>exact⟨rfl,rfl,rfl⟩
theorem UE{s:MS}(h:s.Ok)(n:Nat):(s.cut n).Ok:=by
 have h1:=h.s1;have h2:=h.d;refine⟨?_,h.s2,?_,h.l⟩<;>simp only[cut,List.length_take]<;>omega
theorem Dc:∀ (x:List UInt8) {s:MS},s.Ok->s.b.length+x.length<=s.size->(sM x s).2.Ok
 | [],s,h,_=>h
 | c :: cs,s,h,hl=>by
  have h1:=h.s1;have h2:=h.d;simp only[List.length_cons] at hl;unfold sM
  split
  ·exact⟨h.s1,h.s2,h.d,h.l⟩
  ·rename_i n hn;refine Dc cs ⟨?_,h.s2,?_,λ k hk=>?_⟩ ?_
   ·simp; omega
   ·simp; omega
   ·have:=h.l _ hn; simp at hk; omega
   ·simp; omega
  ·refine Dc cs ⟨?_,h.s2,?_,h.l⟩ ?_
   ·simp; omega
   ·simp; omega
   ·simp; omega
theorem Up{s:MS}(h:s.Ok)(x:List UInt8):(s.app x).2.Ok:=by
 unfold app
 split
 ·exact h
 ·split
  ·exact h
  ·exact Dc x h (by omega)
end MS
end Go.Vc
namespace Go.Proofs.YtpihmghnbplohaaGreatDoor
open Go Go.Vc Tryz
def bR(s:MS)(v:Value):Array Value:=#[.int .i64 s.size,v,.int .i64 (s.dur:Int),.bool s.down,.bool s.left.isSome,.int .i64 (s.left.getD 0:Nat)]
structure tM (w:World) (x:Nat) (s:MS) (v:Value):Prop where
 blk:w.heap[x]?=some (.cells (bR s v) 127 (0,0))
 own:w.ownsRow 0 5 1 v s.b.length (s.b.map dS)
 ne:v.ownBlock≠some x
def C3(w:World)(x:Nat)(s:MS)(F:List Nat):Prop:=∃ v,tM w x s v/\F=x :: v.ownBlock.toList
def fJ(w w' : World)(x:Nat)(s:MS)(F:List Nat):Prop:=∃ F',C3 w' x s F'/\aD w w' F/\∀ k∈F',k∈F\/w.heap.size<=k
theorem C3.lt{w:World}{x:Nat}{s:MS}{F:List Nat}(h:C3 w x s F):∀ k∈F,k<w.heap.size:=by
 obtain⟨v,h,rfl⟩:=h;intro k hk;rcases List.mem_cons.1 hk with rfl|hk
 ·exact eJ h.blk
 ·exact(h.own.lt k (by simpa using hk)).2
theorem C3.keep{w w' : World}{x:Nat}{s:MS}{F G:List Nat}(h:C3 w x s F)(hc:aD w w' G)(hd:∀ k∈F,k∉G):C3 w' x s F:=by
 obtain⟨v,h,rfl⟩:=h;exact⟨v,⟨hc.keep h.blk (hd x (by simp)),fS h.own hc λ k hk=>hd k (by simp[hk]),h.ne⟩,rfl⟩
theorem fJ.refl{w w' : World}{x:Nat}{s:MS}{F:List Nat}(h:C3 w x s F)(hc:aD w w' []):fJ w w' x s F :=
 ⟨F,h.keep hc (by simp),hc.mono (by simp),λ _ hk=>.inl hk⟩
theorem fJ.trans{w w1 w2:World}{x:Nat}{s s' : MS}{F:List Nat}(h:fJ w w1 x s F)(k:∀ F',C3 w1 x s F'->fJ w1 w2 x s' F'):fJ w w2 x s' F:=by
 obtain⟨F1,h1,hc,hf⟩:=h;obtain⟨F2,h2,hc2,hf2⟩:=k F1 h1;refine⟨F2,h2,hc.trans hc2 hf,λ i hi=>?_⟩;rcases hf2 i hi with h|h
 ·exact hf i h
 ·exact .inr (Nat.le_trans hc.size h)
theorem Ak{w:World}{x:Nat}{s s' : MS}{v u:Value}{i:Nat}(h:tM w x s v)(hc:(bR s v).setIfInBounds i u=bR s' v)(hb:s'.b=s.b) :
  tM (w.setCell ⟨x,i,none⟩ u) x s' v :=
 ⟨by rw[heap_set,if_pos rfl,h.blk,AP,hc],by rw[hb]; exact nv h.own λ k hk=>by rw[heap_set,if_neg (λ e:x=k=>h.ne (e▸hk))],h.ne⟩
theorem HZ{w:World}{x:Nat}{s:MS}{v u:Value}{i:Nat}{R:World->Prop}(h:tM w x s v)(hi:i<6)(hu:u.oneCell' = true)(k:R (w.setCell ⟨x,i,none⟩ u)):aS w ⟨x,i,none⟩ u R :=
 qi h.blk (by simpa[bR] using hi) hu k
theorem eK{w:World}{x:Nat}{s:MS}{v:Value}(h:tM w x s v)(i:Nat):w.cell? ⟨x,i,none⟩=(bR s v)[i]?:=by
 rw[cK,h.blk,cv]
theorem yY{w:World}{x:Nat}{s:MS}{v:Value}(h:tM w x s v) :
  CP 105 #[.pointer (some ⟨x,0,none⟩)] w (λ r w'=>r=.int .i64 (if s.down=true then 19 else 0)/\w' = w):=by
 refine Lr ?_;unfold N5;refine⟨s.down,eK h 3,?_⟩
 cases s.down<;>exact⟨rfl,rfl⟩
theorem Wj{w:World}{x:Nat}{s:MS}{v:Value}(h:tM w x s v)(ho:s.Ok) :
  CP 108 #[.pointer (some ⟨x,0,none⟩)] w (λ r w'=>r=(if s.bL.1=true then .nilIface else .iface 30 (.int .i64 19))/\tM w' x s.bL.2 v/\aD w w' [x]):=by
 refine N6 ?_;unfold TP;have c4:=eK h 4;have c5:=eK h 5;have ol:=ho.l
 cases hl:s.left with
 | none =>
  have hs:s.bL=(true,s):=by simp[MS.bL,hl]
  simp only[bR,hl] at c4 c5;refine⟨λ b w'=>w' = w/\b=false,?_,⟨false,c4,rfl,rfl⟩⟩;rintro w1 b ⟨rfl,rfl⟩ -;refine⟨λ w'=>w' = w1,?_,⟨false,c4,rfl⟩⟩;rintro w2 rfl -;exact⟨by rw[hs]; rfl,by rw[hs]; exact h,aD.refl _ _⟩
 | some n =>
  have c4' : w.cell? ⟨x,4,none⟩=some (.bool true):=by rw[c4]; simp[bR,hl]
  have c5' : w.cell? ⟨x,5,none⟩=some (.int .i64 (n:Int)):=by rw[c5]; simp[bR,hl]
  refine⟨λ b w'=>w' = w/\b=((n:Int)==0),?_,⟨true,c4',_,c5',rfl,rfl⟩⟩;rintro w1 b ⟨rfl,rfl⟩ -
  cases n with
  | zero =>
   have hs:s.bL=(false,{ s with down:=true }):=by simp[MS.bL,hl]
   exact HZ h (by omega) rfl ⟨by rw[hs]; rfl,by rw[hs]; exact Ak h rfl rfl,aD.set _ _ _ _ (by simp)⟩
  | succ n =>
   have hs:s.bL=(true,{ s with left:=some n }):=by simp[MS.bL,hl]
   have hne:(((n+1:Nat):Int)==0)=false:=by simp; omega
   rw[hne];refine⟨λ w'=>w' = w1.setCell ⟨x,5,none⟩ (.int .i64 (n:Int)),?_,⟨true,c4',_,c5',?_⟩⟩
   ·rintro w2 rfl -;exact⟨by rw[hs]; rfl,by rw[hs]; exact Ak h (by simp[bR,hl]) rfl,aD.set _ _ _ _ (by simp)⟩
   ·have hw:IntKind.i64.wrap (((n+1:Nat):Int)-1)=(n:Int):=by
     have:=ol _ hl;rw[IntWalk.i64_in _ (by omega)]; omega
    rw[hw];exact HZ h (by omega) rfl rfl
theorem Xd(w:World):CP 109 #[.nilIface,.iface 30 (.int .i64 19)] w (λ r w'=>r=.bool false/\w' = w):=O2 ⟨rfl,rfl⟩
theorem Xb(w:World):CP 109 #[.iface 30 (.int .i64 19),.iface 30 (.int .i64 19)] w (λ r w'=>r=.bool true/\w' = w):=by
 refine O1 ?_;unfold TZ;refine aq (Sy (K:=λ r w'=>r=.bool true/\w' = w) ⟨rfl,rfl⟩) ?_;rintro v w' ⟨rfl,rfl⟩;exact⟨true,rfl,rfl,rfl⟩
theorem AZ{w:World}{x:Nat}{s:MS}{v:Value}(h:tM w x s v)(ho:s.Ok){R:Ending->World->Prop}{C:Value->World->Ending->World->Prop}(hC:∀ r w1,CC 109 #[r,.iface 30 (.int .i64 19)] w1 (C r w1)->R (.returned r) w1)(k:∀ r w1,tM w1 x s.bL.2 v->aD w w1 [x]->C r w1 (.returned (.bool (!s.bL.1))) w1) :
  CC 108 #[.pointer (some ⟨x,0,none⟩)] w R:=by
 refine aq (Wj h ho) ?_;rintro r w1 ⟨rfl,hM,hc⟩;refine hC _ _ ?_;have hk:=k (if s.bL.1=true then .nilIface else .iface 30 (.int .i64 19)) w1 hM hc
 cases hs:s.bL.1 with
 | true =>
  rw[hs] at hk;refine aq (Xd w1) ?_;rintro v w' ⟨rfl,rfl⟩;exact hk
 | false =>
  rw[hs] at hk;refine aq (Xb w1) ?_;rintro v w' ⟨rfl,rfl⟩;exact hk
theorem V9:fZ prog 125 5 (.int .u8 0) 1 1:=fZ.mk' underlying125 (by kernel_rfl) rfl (by decide)
theorem KF(c:UInt8)(cs:List UInt8)(s:MS):MS.sM (c :: cs) s=if s.bL.1=true then MS.sM cs { s.bL.2 with b:=s.b++[c] } else (19,s.bL.2):=by
 unfold MS.bL;simp only[MS.sM]
 split<;>simp_all
theorem Hr{w:World}{x:Nat}{s:MS}{v:Value}(h:tM w x s v)(ho:s.Ok)(hsz:s.b.length<s.size)(c:UInt8){a:OA}{l cp:Nat}(hv:v=.slice a l cp){R:World->Prop}(k:∀ w',fJ w w' x { s with b:=s.b++[c] } (x :: v.ownBlock.toList)->R w') :
  au w (.cells #[.int .u8 (c.toNat:Int)] 5) λ r w5=>w5.cell? ⟨x,1,none⟩=some (.slice a l cp) /\
   bn prog (Builtin.append_ #[125,125] 125 #[.slice a l cp,.slice (some ⟨r,0,none⟩) 1 1]) w5 λ e w6=>∃ (a3:OA) (l3 c3:Nat),e=.slice a3 l3 c3/\aS w6 ⟨x,1,none⟩ (.slice a3 l3 c3) λ w7=>R w7:=by
 subst hv;have hx:=eJ h.blk;have h5:(w.alloc (.cells #[.int .u8 (c.toNat:Int)] 5)).heap[x]?=some (.cells (bR s (.slice a l cp)) 127 (0,0)):=by rw[cw,if_neg (by omega)]; exact h.blk
 have own5:=fS (w':=w.alloc (.cells #[.int .u8 (c.toNat:Int)] 5)) h.own (aD.new w _ []) (by simp);have s1:=ho.s1;have s2:=ho.s2;refine⟨by rw[cK,h5]; rfl,tS V9 own5 (m:=1) (news:=[dS c]) rfl (λ j u hj=>?_) (by simp[dS,Value.oneCell']) (by omega) (by omega) ?_⟩
 ·cases j with
  | zero=>simp at hj; subst hj; rw[show(⟨w.heap.size,0,none⟩:Addr).add 0=⟨w.heap.size,0,none⟩ from rfl,cK,cw,if_pos rfl]; rfl
  | succ j=>simp at hj
 ·intro v' w6 own6 hc6 hn6;obtain⟨a3,c3,rfl⟩:=bJ own6;have hx6:w6.heap[x]?=some (.cells (bR s (.slice a l cp)) 127 (0,0)):=hc6.keep h5 (by intro e; exact h.ne (by simpa using e));refine⟨a3,_,c3,rfl,qi hx6 (by simp[bR]) rfl (k _ ?_)⟩;have hne:Value.ownBlock (.slice a3 (s.b.length+1) c3)≠some x:=by
   intro e;rcases hn6 x e with h' | h'
   ·exact h.ne h'
   ·simp at h'; omega
  refine⟨_,⟨.slice a3 (s.b.length+1) c3,⟨?_,?_,hne⟩,rfl⟩,?_,?_⟩
  ·rw[heap_set,if_pos rfl,hx6]; rfl
  ·have:=nv (w':=w6.setCell ⟨x,1,none⟩ (.slice a3 (s.b.length+1) c3)) own6 λ k hk=>by rw[heap_set,if_neg (λ e:x=k=>hne (e▸hk))]
   simpa using this
  ·refine((aD.new w _ _).trans (hc6.mono (G:=x :: (Value.ownBlock (.slice a l cp)).toList) (λ i hi=>List.mem_cons_of_mem _ hi)) (λ i hi=>.inl hi)).trans (aD.set _ _ _ _ (F:=[x]) (by simp)) (λ i hi=>.inl (by simp at hi; simp[hi]))
  ·intro i hi;rcases List.mem_cons.1 hi with rfl|hi
   ·exact .inl (by simp)
   ·rcases hn6 i (by simpa using hi) with h' | h'
    ·exact .inl (by simp[h'])
    ·exact .inr (by simp at h'; omega)
theorem KG{s s' : MS}(c:UInt8)(ho:s.Ok)(hsz:s.b.length<s.size)(hs:s' = { s.bL.2 with b:=s.b++[c] }):s'.Ok:=by
 subst hs;have h1:=MS.IJ ho;have h2:=MS.Kg s;refine⟨?_,?_,?_,?_⟩
 ·simp; rw[h2.2.1]; omega
 ·exact h1.s2
 ·have:=h1.d
  simp
  rw[h2.1] at this;omega
 ·exact h1.l
theorem De{w:World}{x:Nat}{s:MS}{F:List Nat}(h:C3 w x s F)(ho:s.Ok)(t:ByteArray) :
  CP 68 #[.pointer (some ⟨x,0,none⟩),.string t] w (λ r w'=>r=.int .i64 (s.app t.data.toList).1/\fJ w w' x (s.app t.data.toList).2 F):=by
 obtain⟨v,hv,rfl⟩:=h;refine HW ?_;unfold JM;refine aq (yY hv) ?_;rintro _ w1 ⟨rfl,rfl⟩;refine⟨_,rfl,?_⟩;have hsize:t.size=t.data.toList.length:=Array.length_toList.symm
 cases hd:s.down with
 | true =>
  have:s.app t.data.toList=(19,s):=MS.Mv hd;rw[this];exact⟨rfl,fJ.refl ⟨v,hv,rfl⟩ (aD.refl _ _)⟩
 | false =>
  show cond ((0:Int) !=0) _ _;obtain⟨a,cp,hve⟩:=bJ hv.own;have e0:w1.drew.cell? ⟨x,0,none⟩=some (.int .i64 s.size):=eK hv 0;have e1:w1.drew.cell? ⟨x,1,none⟩=some (.slice a s.b.length cp):=by rw[<- hve]; exact eK hv 1
  refine⟨s.size,e0,a,s.b.length,cp,e1,?_⟩;have s1:=ho.s1;have s2:=ho.s2;have hw:IntKind.i64.wrap (s.size-(s.b.length:Int))=s.size-s.b.length:=IntWalk.i64_in _ (by omega);rw[hw]
  by_cases hfull:s.size-s.b.length<(t.size:Int)
  ·have:s.app t.data.toList=(18,s):=MS.Mw hd (by rw[<- hsize]; exact hfull);rw[this,dT (show((t.size:Nat):Int)>s.size-s.b.length from hfull)];exact⟨rfl,fJ.refl ⟨v,hv,rfl⟩ (aD.drew _ _)⟩
  ·have:s.app t.data.toList=MS.sM t.data.toList s:=MS.Mx hd (by rw[<- hsize]; exact hfull);rw[this,dF (show ¬ ((t.size:Nat):Int)>s.size-s.b.length from hfull)];refine⟨λ n w' m=>∃ (k:Nat) (s' : MS),n=(k:Int)/\k<=t.size/\m=t.size-k/\s'.Ok/\s'.b.length+(t.size-k)<=s'.size /\
    MS.sM (t.data.toList.drop k) s' = MS.sM t.data.toList s/\fJ w1 w' x s' (x :: v.ownBlock.toList),?_,?_⟩
   ·exact⟨t.size,0,s,rfl,by omega,by omega,ho,by omega,rfl,fJ.refl ⟨v,hv,rfl⟩ (aD.drew _ _)⟩
   ·rintro w2 m n ⟨k,s',rfl,hk,rfl,ho',hsz',happ,hto⟩ -
    by_cases hlt:k<t.size
    ·rw[dT (show(k:Int)<((t.size:Nat):Int) by omega)];have hkl:k<t.data.toList.length:=by omega
     have hdrop:t.data.toList.drop k=t.data.toList[k] :: t.data.toList.drop (k+1):=List.drop_eq_getElem_cons hkl;rw[hdrop,KF] at happ;obtain⟨F',⟨v',hv',rfl⟩,hc',hf'⟩:=hto;refine AZ hv' ho' (λ r w3 hh=>⟨_,rfl,hh⟩) ?_;intro r w3 hM3 hc3;refine⟨_,rfl,?_⟩;have hto3:fJ w1 w3 x s'.bL.2 (x :: v.ownBlock.toList):=⟨_,⟨v',hM3,rfl⟩,hc'.trans hc3 (λ i hi=>by simp at hi; subst hi; exact .inl (by simp)),hf'⟩
     cases hst:s'.bL.1 with
     | false =>
      rw[hst] at happ;rw[<- happ];exact⟨rfl,hto3⟩
     | true =>
      rw[hst,if_pos rfl] at happ;show cond false _ _;obtain⟨a',cp',hve'⟩:=bJ hM3.own;have hb:=MS.Kg s';have hM3d:tM w3.drew x s'.bL.2 v':=⟨hM3.blk,hM3.own,hM3.ne⟩;have e1' : w3.drew.cell? ⟨x,1,none⟩=some (.slice a' s'.bL.2.b.length cp'):=by rw[<- hve']; exact eK hM3d 1
      refine⟨a',_,cp',e1',by omega,?_⟩;have hget:t[(k:Int).toNat]?=some t.data.toList[k]:=by
       simp[hlt];rfl
      rw[hget];refine Hr hM3d (MS.IJ ho') (by rw[hb.1,hb.2.1]; omega) t.data.toList[k] hve' ?_;intro w4 hto4;have hs'':=KG (s:=s') t.data.toList[k] ho' (by omega) rfl;refine⟨t.size-(k+1),by omega,k+1,{ s'.bL.2 with b:=s'.b++[t.data.toList[k]] },?_,by omega,rfl,hs'',?_,happ,?_⟩
      ·exact IntWalk.i64_in _ (by omega)
      ·simp; rw[hb.2.1]; omega
      ·have e:{ s'.bL.2 with b:=s'.b++[t.data.toList[k]] }={ s'.bL.2 with b:=s'.bL.2.b++[t.data.toList[k]] }:=by rw[hb.1]
       rw[e];refine hto3.trans λ F' hF'=>?_;obtain⟨v2,hv2,rfl⟩:=hF';have:v2=v':=by
        have h1:=hv2.blk.symm.trans hM3.blk;simp[bR] at h1;exact h1
       subst this;obtain⟨F4,h4,hc4,hf4⟩:=hto4;exact⟨F4,h4,(aD.drew w3 _).trans hc4 (λ i hi=>.inl hi),hf4⟩
    ·have hkk:k=t.size:=by omega
     subst hkk;rw[dF (show ¬ ((t.size:Int)<((t.size:Nat):Int)) by omega)];have:t.data.toList.drop t.size=[]:=List.drop_eq_nil_of_le (by omega);rw[this] at happ;rw[<- happ];exact⟨rfl,hto⟩
theorem Aj{w w' : World}{x:Nat}{s s' : MS}{v:Value}(_h:tM w x s v)(h' : tM w' x s' v)(hc:aD w w' [x]):fJ w w' x s' (x :: v.ownBlock.toList) :=
 ⟨_,⟨v,h',rfl⟩,hc.mono (by simp),λ _ hk=>.inl hk⟩
theorem IL{w:World}{x:Nat}{s:MS}{F:List Nat}(h:C3 w x s F)(ho:s.Ok) :
  CP 63 #[.pointer (some ⟨x,0,none⟩)] w (λ r w'=>r=.int .i64 s.syn.1/\fJ w w' x s.syn.2 F):=by
 obtain⟨v,hv,rfl⟩:=h;refine NZ ?_;unfold TM;refine aq (yY hv) ?_;rintro _ w1 ⟨rfl,rfl⟩;refine⟨_,rfl,?_⟩
 cases hd:s.down with
 | true =>
  have:s.syn=(19,s):=by unfold MS.syn; rw[if_pos hd]
  rw[this];exact⟨rfl,fJ.refl ⟨v,hv,rfl⟩ (aD.refl _ _)⟩
 | false =>
  show cond ((0:Int) !=0) _ _;refine AZ hv ho (λ r w3 hh=>⟨_,rfl,hh⟩) ?_;intro r w3 hM3 hc3;refine⟨_,rfl,?_⟩
  cases hst:s.bL.1 with
  | false =>
   have:s.syn=(19,s.bL.2):=by unfold MS.syn; rw[if_neg (by rw[hd]; decide),if_neg (by rw[hst]; decide)]
   rw[this];exact⟨rfl,Aj hv hM3 hc3⟩
  | true =>
   have:s.syn=(0,{ s.bL.2 with dur:=s.b.length }):=by unfold MS.syn; rw[if_neg (by rw[hd]; decide),if_pos hst]
   rw[this];show cond false _ _;obtain⟨a',cp',hve'⟩:=bJ hM3.own;have hb:=MS.Kg s;refine⟨a',_,cp',by rw[<- hve']; exact eK hM3 1,HZ hM3 (by omega) rfl ⟨rfl,?_⟩⟩;refine Aj hv (Ak hM3 (by rw[hb.1]; rfl) rfl) (hc3.trans (aD.set _ _ _ _ (F:=[x]) (by simp)) (λ i hi=>.inl hi))
theorem D9{w:World}{base:Nat}{e:TypeId}{v:Value}{n:Nat}{xs:List Value}(own:w.ownsRow base e 1 v n xs){a:OA}{l c:Nat}(hv:v=.slice a l c)(h0:0<n) :
  ∃ g,a=some ⟨g,0,none⟩/\v.ownBlock=some g/\∀ j u,xs[j]?=some u->w.cell? ⟨g,j,none⟩=some u:=by
 obtain⟨_,h,_⟩:=Gf own hv;obtain⟨g,cur,ha,hg,hh,hle,ht⟩:=h h0;refine⟨g,ha,hg,λ j u hj=>?_⟩;rw[cK,hh,cv,<- Array.getElem?_toList];rw[<- ht,List.getElem?_take] at hj
 split at hj
 ·exact hj
 ·cases hj
theorem KL(l:List UInt8):∀ u∈l.map dS,u.oneCell' = true:=by
 intro u hu;obtain⟨b,_,rfl⟩:=List.mem_map.1 hu;rfl
theorem KR{w:World}{x:Nat}{s:MS}{F:List Nat}(h:C3 w x s F)(ho:s.Ok){n:Int}(h0:0<=n)(hn:n<=s.b.length) :
  CP 110 #[.pointer (some ⟨x,0,none⟩),.int .i64 n] w (λ r w'=>r=.tuple #[]/\fJ w w' x (s.cut n.toNat) F):=by
 obtain⟨v,hv,rfl⟩:=h;refine RJ ?_;unfold Xk;have s1:=ho.s1;have s2:=ho.s2;have hx:=eJ hv.blk;refine N0 V9 rfl h0 (by omega) (by omega) ?_;generalize hg:w.heap.size=g;generalize hw1:w.alloc (.cells (Array.replicate n.toNat (.int .u8 0)) 5)=w1;have hg1:w1.heap[g]?=some (.cells (Array.replicate n.toNat (.int .u8 0)) 5 (0,0)):=by rw[<- hw1,cw,if_pos hg.symm]
 have hx1:w1.heap[x]?=some (.cells (bR s v) 127 (0,0)):=by rw[<- hw1,cw,if_neg (by omega)]; exact hv.blk
 have hc1:aD w w1 []:=by rw[<- hw1]; exact aD.new _ _ _
 have own1:=fS hv.own hc1 (by simp);obtain⟨a,cp,hve⟩:=bJ own1;have hgx:g≠x:=by omega
 refine⟨_,_,_,rfl,a,s.b.length,cp,by rw[cK,hx1,cv,<- hve]; rfl,?_⟩;have hlen:((s.b.take n.toNat).map dS).length=n.toNat:=by simp; omega
 refine Vc.Hy V9 hg1 (cs:=(s.b.take n.toNat).map dS) (by rw[hlen]; show _=min _ _; omega) (by simp) (λ hpos=>?_) (KL _) ?_
 ·rw[hlen] at hpos;obtain⟨g0,rfl,_,hc⟩:=D9 own1 hve (by omega);refine⟨_,rfl,λ j u hj=>?_⟩;have:(⟨g0,0,none⟩:Addr).add j=⟨g0,j,none⟩:=by unfold Addr.add; split<;>simp_all
  rw[this];refine hc j u ?_;rw[List.map_take] at hj;rw[List.getElem?_take] at hj
  split at hj
  ·exact hj
  ·cases hj
 ·intro w2 hg2 hc2;rw[hlen] at hg2;have hx2:=hc2.keep hx1 (by simpa using hgx.symm);refine⟨(s.dur:Int),by rw[cK,hx2]; rfl,qi hx2 (by simp[bR]) rfl ?_⟩;have hx3:(w2.setCell ⟨x,1,none⟩ (.slice (some ⟨g,0,none⟩) n.toNat n.toNat)).heap[x]?=some (.cells (bR s (.slice (some ⟨g,0,none⟩) n.toNat n.toNat)) 127 (0,0)):=by
   rw[heap_set,if_pos rfl,hx2]; rfl
  refine qi hx3 (by simp[bR]) rfl ⟨rfl,?_⟩;refine⟨_,⟨.slice (some ⟨g,0,none⟩) n.toNat n.toNat,⟨?_,?_,?_⟩,rfl⟩,?_,?_⟩
  ·rw[heap_set,if_pos rfl,hx3];have:(if n<(s.dur:Int) then n else (s.dur:Int))=((min s.dur n.toNat:Nat):Int):=by split<;>omega
   rw[this];rfl
  ·refine⟨by simp[MS.cut],.inr ⟨g,n.toNat,((s.b.take n.toNat).map dS++(Array.replicate n.toNat (Value.int .u8 0)).toList.drop n.toNat).toArray,?_,Nat.zero_le _,?_,?_,?_,?_,?_⟩⟩
   ·simp[MS.cut]; omega
   ·rw[heap_set,if_neg hgx.symm,heap_set,if_neg hgx.symm,hg2]
   ·simp[MS.cut]; omega
   ·unfold maxLen; omega
   ·simp; omega
   ·have h1:(s.cut n.toNat).b.length=n.toNat:=by simp[MS.cut]; omega
    rw[h1,Nat.mul_one];have h2:(s.cut n.toNat).b=s.b.take n.toNat:=rfl;rw[h2];exact List.take_left' hlen
  ·simp[Value.ownBlock]; omega
  ·refine⟨?_,λ i hi hn=>?_,(hc1.env.trans hc2.env).trans ((Env.set _ _ _).trans (Env.set _ _ _))⟩
   ·have:=hc1.size;have:=hc2.size
    simp; omega
   ·have hix:x≠i:=λ e=>hn (by simp[e]);rw[heap_set,if_neg hix,heap_set,if_neg hix,hc2.same i (by have:=hc1.size; omega) (by simp; omega),hc1.same i hi (by simp)]
  ·intro k hk;simp[Value.ownBlock] at hk;rcases hk with rfl|rfl
   ·exact .inl (by simp)
   ·exact .inr (by omega)
theorem A8{w:World}{x:Nat}{s:MS}{F:List Nat}(h:C3 w x s F)(ho:s.Ok)(n:Int) :
  CP 60 #[.pointer (some ⟨x,0,none⟩),.int .i64 n] w (λ r w'=>r=.int .i64 (s.Ko n).1/\fJ w w' x (s.Ko n).2 F):=by
 obtain⟨v,hv,rfl⟩:=h;refine D1 ?_;unfold Cf;refine aq (yY hv) ?_;rintro _ w1 ⟨rfl,rfl⟩;refine⟨_,rfl,?_⟩
 cases hd:s.down with
 | true =>
  have:s.Ko n=(19,s):=by unfold MS.Ko; rw[if_pos hd]
  rw[this];exact⟨rfl,fJ.refl ⟨v,hv,rfl⟩ (aD.refl _ _)⟩
 | false =>
  show cond ((0:Int) !=0) _ _;obtain⟨a,cp,hve⟩:=bJ hv.own;refine⟨λ b w'=>w' = w1/\b=decide (n<0\/(s.b.length:Int)<n),?_,?_⟩
  ·rintro w2 b ⟨rfl,rfl⟩ -
   by_cases hbad:n<0\/(s.b.length:Int)<n
   ·have:s.Ko n=(4,s):=by unfold MS.Ko; rw[if_neg (by rw[hd]; decide),if_pos hbad]
    rw[this,dT hbad];exact⟨rfl,fJ.refl ⟨v,hv,rfl⟩ (aD.refl _ _)⟩
   ·rw[dF hbad];refine AZ hv ho (λ r w3 hh=>⟨_,rfl,hh⟩) ?_;intro r w3 hM3 hc3;refine⟨_,rfl,?_⟩;have hto3:=Aj hv hM3 hc3
    cases hst:s.bL.1 with
    | false =>
     have:s.Ko n=(19,s.bL.2):=by unfold MS.Ko; rw[if_neg (by rw[hd]; decide),if_neg hbad,if_neg (by rw[hst]; decide)]
     rw[this];exact⟨rfl,hto3⟩
    | true =>
     have:s.Ko n=(0,s.bL.2.cut n.toNat):=by unfold MS.Ko; rw[if_neg (by rw[hd]; decide),if_neg hbad,if_pos hst]
     rw[this];show cond false _ _;refine aq (KR ⟨v,hM3,rfl⟩ (MS.IJ ho) (by omega) (by rw[(MS.Kg s).1]; omega)) ?_;rintro _ w4 ⟨rfl,hto4⟩;refine⟨rfl,rfl,?_⟩;obtain⟨F4,h4,hc4,hf4⟩:=hto4;obtain⟨F3,h3,hc3',hf3⟩:=hto3;refine⟨F4,h4,hc3'.trans hc4 (λ i hi=>.inl hi),λ i hi=>?_⟩;rcases hf4 i hi with h|h
     ·exact .inl h
     ·exact .inr (Nat.le_trans hc3'.size h)
  ·by_cases hneg:n<0
   ·rw[dT hneg];exact⟨rfl,(dT (Or.inl hneg)).symm⟩
   ·rw[dF hneg];refine⟨a,s.b.length,cp,by rw[<- hve]; exact eK hv 1,rfl,?_⟩;rw[decide_eq_decide];omega
theorem Iw{w:World}{x:Nat}{s:MS}{F:List Nat}(h:C3 w x s F) :
  CP 58 #[.pointer (some ⟨x,0,none⟩)] w (λ r w'=>r=.tuple #[.string ⟨s.rd.1.toArray⟩,.int .i64 s.rd.2]/\w' = w):=by
 obtain⟨v,hv,rfl⟩:=h;refine NX ?_;unfold TL;refine aq (yY hv) ?_;rintro _ w1 ⟨rfl,rfl⟩;refine⟨_,rfl,?_⟩
 cases hd:s.down with
 | true =>
  have:s.rd=([],19):=by unfold MS.rd; rw[if_pos hd]
  rw[this];exact⟨rfl,rfl⟩
 | false =>
  have:s.rd=(s.b,0):=by unfold MS.rd; rw[if_neg (by rw[hd]; decide)]
  rw[this];show cond ((0:Int) !=0) _ _;obtain⟨a,cp,hve⟩:=bJ hv.own;refine⟨a,_,cp,by rw[<- hve]; exact eK hv 1,?_⟩;rw[<- hve];exact vo underlying125 underlying5 underlying9 hv.own ⟨_,rfl,rfl,rfl⟩
theorem IE{w:World}{x:Nat}{s:MS}{F:List Nat}(h:C3 w x s F) :
  CP 62 #[.pointer (some ⟨x,0,none⟩)] w (λ r w'=>r=.int .i64 (s.b.length:Int)/\w' = w):=by
 obtain⟨v,hv,rfl⟩:=h;obtain⟨a,cp,hve⟩:=bJ hv.own;exact NY ⟨a,_,cp,by rw[<- hve]; exact eK hv 1,rfl,rfl⟩
theorem Bn{w:World}{x:Nat}{s:MS}{F:List Nat}(h:C3 w x s F) :
  CP 61 #[.pointer (some ⟨x,0,none⟩)] w (λ r w'=>r=.int .i64 (s.dur:Int)/\w' = w):=by
 obtain⟨v,hv,rfl⟩:=h;exact F6 ⟨_,eK hv 2,rfl,rfl⟩
theorem Ls(w:World)(n:Int) :
  CP 20 #[.int .i64 n] w (λ r w'=>if n<1\/262144<n then r=.tuple #[.pointer none,.int .i64 4]/\w' = w else
   ∃ y,r=.tuple #[.pointer (some ⟨y,0,none⟩),.int .i64 0]/\C3 w' y ⟨n,[],0,false,none⟩ [y]/\aD w w' []/\w.heap.size<=y):=by
 refine RI ?_;unfold Xi;refine⟨λ b w'=>w' = w/\b=decide (n<1\/262144<n),?_,?_⟩
 ·rintro w1 b ⟨rfl,rfl⟩ -
  by_cases hbad:n<1\/262144<n
  ·rw[dT hbad,cond_true]
   dsimp only
   rw[if_pos hbad];exact⟨rfl,rfl⟩
  ·rw[dF hbad,cond_false];refine aL ?_
   dsimp only
   rw[if_neg hbad];refine⟨w1.heap.size,rfl,⟨.slice none 0 0,⟨?_,World.ownsRow_nil _ _ _ _,by simp[Value.ownBlock]⟩,by simp[Value.ownBlock]⟩,aD.new _ _ _,Nat.le_refl _⟩;rw[cw,if_pos rfl];rfl
 ·by_cases h1:n<1
  ·rw[dT h1]; exact⟨rfl,(dT (Or.inl h1)).symm⟩
  ·rw[dF h1];refine⟨rfl,?_⟩;rw[decide_eq_decide];omega
def dA(x:Nat)(s:MS):aJ where
 p w F:=C3 w x s F
 loc:=λ h hc hd=>C3.keep h hc hd
 lt:=λ h=>C3.lt h
section st
variable {w0 w:World} {x:Nat} {s:MS} {B:aJ}
theorem KI(h:St w0 w (star (dA x s) B))(ho:s.Ok)(t:ByteArray):CP 68 #[.pointer (some ⟨x,0,none⟩),.string t] w (λ r w'=>r=.int .i64 (s.app t.data.toList).1/\St w0 w' (star (dA x (s.app t.data.toList).2) B)):=by
 obtain⟨F,hF,k⟩:=h.use;exact(De hF ho t).mono λ e w' ⟨v,he,hv,hto⟩=>⟨v,he,hv,k w' (dA x _) hto⟩
theorem SP(h:St w0 w (star (dA x s) B))(ho:s.Ok):CP 63 #[.pointer (some ⟨x,0,none⟩)] w (λ r w'=>r=.int .i64 s.syn.1/\St w0 w' (star (dA x s.syn.2) B)):=by
 obtain⟨F,hF,k⟩:=h.use;exact(IL hF ho).mono λ e w' ⟨v,he,hv,hto⟩=>⟨v,he,hv,k w' (dA x _) hto⟩
theorem GU(h:St w0 w (star (dA x s) B))(ho:s.Ok)(n:Int):CP 60 #[.pointer (some ⟨x,0,none⟩),.int .i64 n] w (λ r w'=>r=.int .i64 (s.Ko n).1/\St w0 w' (star (dA x (s.Ko n).2) B)):=by
 obtain⟨F,hF,k⟩:=h.use;exact(A8 hF ho n).mono λ e w' ⟨v,he,hv,hto⟩=>⟨v,he,hv,k w' (dA x _) hto⟩
theorem Sh(h:St w0 w (star (dA x s) B)):CP 58 #[.pointer (some ⟨x,0,none⟩)] w (λ r w'=>r=.tuple #[.string ⟨s.rd.1.toArray⟩,.int .i64 s.rd.2]/\w' = w):=by
 obtain⟨F,hF,k⟩:=h.use;exact Iw hF
theorem SA(h:St w0 w (star (dA x s) B)):CP 62 #[.pointer (some ⟨x,0,none⟩)] w (λ r w'=>r=.int .i64 (s.b.length:Int)/\w' = w):=by
 obtain⟨F,hF,k⟩:=h.use;exact IE hF
theorem HC(h:St w0 w (star (dA x s) B)):CP 61 #[.pointer (some ⟨x,0,none⟩)] w (λ r w'=>r=.int .i64 (s.dur:Int)/\w' = w):=by
 obtain⟨F,hF,k⟩:=h.use;exact Bn hF
theorem VD{A:aJ}(h:St w0 w A){n:Int}(hn : ¬ (n<1\/262144<n)):CP 20 #[.int .i64 n] w (λ r w'=>∃ y,r=.tuple #[.pointer (some ⟨y,0,none⟩),.int .i64 0]/\St w0 w' (star A (dA y ⟨n,[],0,false,none⟩))):=by
 refine(Ls w n).mono λ e w' ⟨v,he,h'⟩=>?_
 dsimp only at h'
 rw[if_neg hn] at h';obtain⟨y,hv,hM,hc,hy⟩:=h';exact⟨v,he,y,hv,h.add hc (B:=dA y _) hM (by simpa using hy)⟩
end st
theorem bytes_beq(a b:ByteArray)(h:a.data.toList=b.data.toList):(a.toList==b.toList)=true:=by
 rw[Go.ByteArray.toList_eq,Go.ByteArray.toList_eq,h]; simp
theorem KK(a b:ByteArray)(h:a.data.toList=b.data.toList):(!(a.toList==b.toList))=false:=by rw[bytes_beq a b h]; rfl
theorem TT{n:Int}(h : ¬ (n<1\/262144<n)):MS.Ok ⟨n,[],0,false,none⟩ :=
 ⟨by simp; omega,by simp; omega,by simp,λ _ h=>by cases h⟩

import Derived.Lib.AtoiBound
import Derived.Test.YtbnolaiklhbkkaaGreatDoorG09
set_option linter.unusedVariables false
set_option maxRecDepth 100000
namespace Go.Proofs.YtbnolaiklhbkkaaGreatDoor
open Go Go.Vc _root_.Go.Proofs.Tryz
def BD(a b c d:Int)(w:World)(K:KP):=aq w (.cells #[iv a,iv b,iv c,iv d] 29) λ a b=>∃ c d e f,af b (qd a 0) 0 [iv c,iv d,iv e,iv f]/\aq b (.cells #[iv c,iv d,iv e,iv f,qz,qn,qn,qn,qn,.pointer none,qz,qz,qz,qz,qz,qz,qz,qz,qn,.bool false,.bool false,qz,qz,qz,qz,qz,qz,qz,qz,qn,.bool false,.bool false,qz,qz,qz,qz,qz,qz,qz,qz,qn,.bool false,.bool false,qz,qz,qz,qz,qz,qz,qz,qz,qn,.bool false,.bool false,qz,qz,qz,qz,qz,qz,qz,qz,qn,.bool false,.bool false,qz,qz,qz,qz,qz,qz,qz,qz,qn,.bool false,.bool false,qz,qz,qz,qz,qz,qz,qz,qz,qn,.bool false,.bool false,qz,qz,qz,qz,qz,qz,qz,qz,qn,.bool false,.bool false,.int .u64 0,qz,.int .u64 0] 86) λ a b=>K (qp a) b
theorem C4{n1 n2 n3 n4 w K}(h:BD n1 n2 n3 n4 w K):CP 8 #[.agg #[iv n1,iv n2,iv n3,iv n4]] w K:=ah (aA []) func8 (by kernel_rfl) (by kernel_rfl) h
def j4(a:Nat)(w:World)(K:KP):=aq w (.cells #[qn,qn,qn,qn] 27) λ b c=>∃ d e f g h i j k l m n o,af c (qd a 5) 0 [.slice d e f,.slice g h i,.slice j k l,.slice m n o]/\aq c (.cells #[qn,qn,qn,qn] 27) λ a c=>aL (qd a 0) 0 [.slice d e f,.slice g h i,.slice j k l,.slice m n o] c λ c=>∃ d e f,c.drew.cell? (qd a 0)=some (.slice d e f)/\∃ g h i,c.drew.cell? (qd a 1)=some (.slice g h i)/\∃ j k l,c.drew.cell? (qd a 2)=some (.slice j k l)/\∃ m n o,c.drew.cell? (qd a 3)=some (.slice m n o)/\CC 37 #[.slice d e f] c.drew λ c d=>∃ e f p,c=.returned (.slice e f p)/\d.cell? (qd a 3)=some (.slice m n o)/\d.cell? (qd a 2)=some (.slice j k l)/\d.cell? (qd a 1)=some (.slice g h i)/\CC 38 #[.slice g h i] d λ c d=>∃ g h i,c=.returned (.slice g h i)/\d.cell? (qd a 3)=some (.slice m n o)/\d.cell? (qd a 2)=some (.slice j k l)/\CC 39 #[.slice j k l] d λ c d=>∃ j k l,c=.returned (.slice j k l)/\d.cell? (qd a 3)=some (.slice m n o)/\CC 40 #[.slice m n o] d λ a c=>∃ d m n,a=.returned (.slice d m n)/\aL (qd b 0) 0 [.slice e f p,.slice g h i,.slice j k l,.slice d m n] c λ a=>∃ c d e f g h i j k l m n,af a (qd b 0) 0 [.slice c d e,.slice f g h,.slice i j k,.slice l m n]/\K (.agg #[.slice c d e,.slice f g h,.slice i j k,.slice l m n]) a
theorem pI{b1 w K}(h:j4 b1 w K):CP 13 #[.pointer (some ⟨b1,0,none⟩)] w K:=ah (aA []) func13 (by kernel_rfl) (by kernel_rfl) h
def jZ(a:Nat)(b c d:Int)(e:I6)(f:ByteArray)(g:Int)(w:World)(K:KP):=aq w (.cells #[qp a] 40) λ a h=>aq h (.cells (iv b :: iv c :: iv d :: e.on [.string f,.int .u64 g]:List Value).toArray 47) λ b c=>aq c (.cells #[qz] 34) λ c d=>∃ e,d.cell? (qd a 0)=some (.pointer e)/\cond (e).isNone (aP d (qd c 0) (iv 6) λ e=>∃ f,e.cell? (qd c 0)=some (iv f)/\K (iv f) e) (∃ e f g,∃ h:I6,∃ i j,af d (qd b 0) 0 (iv e :: iv f :: iv g :: h.on [.string i,.int .u64 j])/\CC 29 #[.agg (iv e :: iv f :: iv g :: h.on [.string i,.int .u64 j]:List Value).toArray] d λ d e=>∃ f,d=.returned (iv f)/\cond (f !=0) (aP e (qd c 0) (iv f) λ d=>∃ f,d.cell? (qd c 0)=some (iv f)/\K (iv f) d) (∃ d,e.cell? (qd a 0)=some (.pointer d)/\an d λ d=>∃ f,e.cell? (Addr.add d 99)=some (iv f)/\cond (decide (f>=600)) (aP e (qd c 0) (iv 18) λ d=>∃ f,d.cell? (qd c 0)=some (iv f)/\K (iv f) d) (∃ d,e.drew.cell? (qd b 0)=some (iv d)/\∃ f,e.drew.cell? (qd a 0)=some (.pointer f)/\an f λ f=>∃ g,e.drew.cell? (Addr.add f 4)=some (iv g)/\CC 30 #[iv d,iv g] e.drew λ d e=>∃ f,d=.returned (.bool f)/\cond (!f) (aP e (qd c 0) (iv 10) λ d=>∃ f,d.cell? (qd c 0)=some (iv f)/\K (iv f) d) (∃ d:Bool->qW,(∀ f g,d g f->∀ h:qv,cond g (aP f (qd c 0) (iv 6) λ g=>∃ h,g.cell? (qd c 0)=some (iv h)/\K (iv h) g) (∃ g:Bool->qW,(∀ h i,g i h->∀ j:qv,cond i (aP h (qd c 0) (iv 10) λ i=>∃ j,i.cell? (qd c 0)=some (iv j)/\K (iv j) i) (∃ i,h.cell? (qd a 0)=some (.pointer i)/\an i λ i=>∃ j k l m n o p q r s t u v x y z A B C,∃ D:I6,∃ E F G H I J L,∃ M:I6,∃ N O P Q R S T,∃ U:I6,∃ V W X Y Z a1 a2,∃ a3:I6,∃ a4 a5 a6 a7 a8 a9 b1,∃ b2:I6,∃ b3 b4 b5 b6 b7 b8 b9,∃ c1:I6,∃ c2 c3 c4 c5 c6 c7 c8,∃ c9:I6,∃ d1 d2 d3 d4 d5 d6 d7,∃ d8:I6,∃ d9 e1 e2 e3 e4 e5 e6 e7 e8,af h i 0 (iv j :: iv k :: iv l :: iv m :: iv n :: .slice o p q :: .slice r s t :: .slice u v x :: .slice y z A :: .pointer B :: iv C :: D.on (iv E :: .slice F G H :: .bool I :: .bool J :: iv L :: M.on (iv N :: .slice O P Q :: .bool R :: .bool S :: iv T :: U.on (iv V :: .slice W X Y :: .bool Z :: .bool a1 :: iv a2 :: a3.on (iv a4 :: .slice a5 a6 a7 :: .bool a8 :: .bool a9 :: iv b1 :: b2.on (iv b3 :: .slice b4 b5 b6 :: .bool b7 :: .bool b8 :: iv b9 :: c1.on (iv c2 :: .slice c3 c4 c5 :: .bool c6 :: .bool c7 :: iv c8 :: c9.on (iv d1 :: .slice d2 d3 d4 :: .bool d5 :: .bool d6 :: iv d7 :: d8.on [iv d9,.slice e1 e2 e3,.bool e4,.bool e5,.int .u64 e6,iv e7,.int .u64 e8]))))))))/\aq h (.cells #[qz,qz,qz,qz,qz,qn,qn,qn,qn,.pointer none,qz,qz,qz,qz,qz,qz,qz,qz,qn,.bool false,.bool false,qz,qz,qz,qz,qz,qz,qz,qz,qn,.bool false,.bool false,qz,qz,qz,qz,qz,qz,qz,qz,qn,.bool false,.bool false,qz,qz,qz,qz,qz,qz,qz,qz,qn,.bool false,.bool false,qz,qz,qz,qz,qz,qz,qz,qz,qn,.bool false,.bool false,qz,qz,qz,qz,qz,qz,qz,qz,qn,.bool false,.bool false,qz,qz,qz,qz,qz,qz,qz,qz,qn,.bool false,.bool false,qz,qz,qz,qz,qz,qz,qz,qz,qn,.bool false,.bool false,.int .u64 0,qz,.int .u64 0] 86) λ h i=>aL (qd h 0) 0 (iv j :: iv k :: iv l :: iv m :: iv n :: .slice o p q :: .slice r s t :: .slice u v x :: .slice y z A :: .pointer B :: iv C :: D.on (iv E :: .slice F G H :: .bool I :: .bool J :: iv L :: M.on (iv N :: .slice O P Q :: .bool R :: .bool S :: iv T :: U.on (iv V :: .slice W X Y :: .bool Z :: .bool a1 :: iv a2 :: a3.on (iv a4 :: .slice a5 a6 a7 :: .bool a8 :: .bool a9 :: iv b1 :: b2.on (iv b3 :: .slice b4 b5 b6 :: .bool b7 :: .bool b8 :: iv b9 :: c1.on (iv c2 :: .slice c3 c4 c5 :: .bool c6 :: .bool c7 :: iv c8 :: c9.on (iv d1 :: .slice d2 d3 d4 :: .bool d5 :: .bool d6 :: iv d7 :: d8.on [iv d9,.slice e1 e2 e3,.bool e4,.bool e5,.int .u64 e6,iv e7,.int .u64 e8])))))))) i λ i=>∃ j,i.drew.cell? (qd a 0)=some (.pointer j)/\∃ k,i.drew.cell? (qd a 0)=some (.pointer k)/\an k λ k=>∃ l,i.drew.cell? (Addr.add k 9)=some (.pointer l)/\CC 33 #[.pointer l] i.drew λ i k=>∃ l,i=.returned (.pointer l)/\k.cell? (qd a 0)=some (.pointer j)/\an j λ i=>aP k (Addr.add i 9) (.pointer l) λ i=>∃ j,i.cell? (qd a 0)=some (.pointer j)/\∃ k,i.cell? (qd b 0)=some (iv k)/\CC 34 #[.pointer j,iv k] i λ i j=>∃ k:Value,i=.returned k/\∃ i,j.cell? (qd a 0)=some (.pointer i)/\∃ l m n,∃ o:I6,∃ p q,af j (qd b 0) 0 (iv l :: iv m :: iv n :: o.on [.string p,.int .u64 q])/\cU prog k #[.pointer i,.agg (iv l :: iv m :: iv n :: o.on [.string p,.int .u64 q]:List Value).toArray] j λ i j=>∃ k,i=.returned (iv k)/\aP j (qd c 0) (iv k) λ i=>∃ j,i.cell? (qd c 0)=some (iv j)/\cond (j !=0) (∃ j,i.cell? (qd c 0)=some (iv j)/\aP i (qd c 0) (iv j) λ j=>Fg prog 32 #[qp c,qp h,qp a] j λ j=>∃ k,j.cell? (qd c 0)=some (iv k)/\K (iv k) j) (∃ j k l,∃ m:I6,∃ n o,af i (qd b 0) 0 (iv j :: iv k :: iv l :: m.on [.string n,.int .u64 o])/\CC 35 #[.agg (iv j :: iv k :: iv l :: m.on [.string n,.int .u64 o]:List Value).toArray] i λ i j=>∃ k l,i=.returned (.tuple #[.string k,iv l])/\∃ i,j.cell? (qd a 0)=some (.pointer i)/\an i λ m=>∃ n,j.cell? (Addr.add m 99)=some (iv n)/\an i λ i=>aP j (Addr.add i 99) (iv (IntKind.i64.wrap (n+1))) λ i=>∃ j,i.drew.cell? (qd a 0)=some (.pointer j)/\∃ m,i.drew.cell? (qd a 0)=some (.pointer m)/\an m λ m=>∃ n,i.drew.cell? (Addr.add m 100)=some (.int .u64 n)/\CC 36 #[.int .u64 n,.string k] i.drew λ i k=>∃ m,i=.returned (.int .u64 m)/\k.cell? (qd a 0)=some (.pointer j)/\an j λ i=>aP k (Addr.add i 100) (.int .u64 m) λ i=>aP i (qd c 0) (iv l) λ i=>Fg prog 32 #[qp c,qp h,qp a] i λ h=>∃ i,h.cell? (qd c 0)=some (iv i)/\K (iv i) h)))/\∃ c,f.drew.cell? (qd b 0)=some (iv c)/\CC 31 #[iv c] f.drew λ c f=>∃ h,c=.returned (.bool h)/\cond h (∃ c,f.cell? (qd a 0)=some (.pointer c)/\∃ h,f.cell? (qd b 1)=some (iv h)/\an c λ c=>0<=h/\h<8/\∃ i,f.cell? (Addr.add (Addr.add (Addr.add c 10) ((h).toNat*11)) 10)=some (.bool i)/\g i f) (g false f)))/\∃ c,e.drew.cell? (qd b 0)=some (iv c)/\CC 31 #[iv c] e.drew λ c e=>∃ f,c=.returned (.bool f)/\cond f (∃ c,e.cell? (qd b 1)=some (iv c)/\∃ b,e.cell? (qd a 0)=some (.pointer b)/\an b λ a=>∃ b f g,e.cell? (Addr.add (Addr.add a 5) 1)=some (.slice b f g)/\d (decide (c>=(f:Int))) e) (d false e)))))
theorem pF{b1 n1 n2 n3 u1 s1 n4 w K}(h:jZ b1 n1 n2 n3 u1 s1 n4 w K):CP 9 #[.pointer (some ⟨b1,0,none⟩),.agg (iv n1 :: iv n2 :: iv n3 :: u1.on [.string s1,.int .u64 n4]:List Value).toArray] w K:=ah (aA [(975,[(32,.s .bool)]),(3903,[(47,.s .bool)])]) func9 (by kernel_rfl) (by kernel_rfl) h
def j3(a:Nat)(w:World)(K:KP):=∃ b,w.cell? (qd a 4)=some (iv b)/\K (iv b) w
theorem pH{b1 w K}(h:j3 b1 w K):CP 11 #[.pointer (some ⟨b1,0,none⟩)] w K:=ah (aA []) func11 (by kernel_rfl) (by kernel_rfl) h
def j0(a:Nat)(w:World)(K:KP):=∃ b,w.cell? (qd a 9)=some (.pointer b)/\CC 33 #[.pointer b] w λ a b=>∃ c,a=.returned (.pointer c)/\K (.pointer c) b
theorem pG{b1 w K}(h:j0 b1 w K):CP 10 #[.pointer (some ⟨b1,0,none⟩)] w K:=ah (aA []) func10 (by kernel_rfl) (by kernel_rfl) h
def pL(a b:Int)(w:World)(K:KP):=cond (a==1) (K (.bool (b==0)) w) (∃ c:Bool->qW,(∀ d e,c e d->∀ f:qv,cond e (K (.bool (b==1)) d) (∃ e:Bool->qW,(∀ f g,e g f->∀ h:qv,cond g (K (.bool (b==2)) f) (cond (a==7) (cond (decide (b>=1)) (K (.bool (decide (b<=3))) f) (K (.bool false) f)) (cond (a==8) (cond (b==1) (K (.bool true) f) (K (.bool (b==2)) f)) (K (.bool (b==3)) f))))/\cond (a==5) (e (a==5) d) (cond (a==6) (e (a==6) d) (e (a==9) d))))/\cond (a==2) (c (a==2) w) (cond (a==3) (c (a==3) w) (c (a==4) w)))
theorem uc{n1 n2 w K}(h:pL n1 n2 w K):CP 30 #[iv n1,iv n2] w K:=ah (aA [(107,[(10,.s .bool)]),(431,[(16,.s .bool)])]) func30 (by kernel_rfl) (by kernel_rfl) h
def wj(a:Int)(w:World)(K:KP):=cond (a==2) (K (.bool true) w) (cond (a==5) (K (.bool true) w) (cond (a==6) (K (.bool true) w) (K (.bool (a==7)) w)))
theorem zN{n1 w K}(h:wj n1 w K):CP 31 #[iv n1] w K:=ah (aA []) func31 (by kernel_rfl) (by kernel_rfl) h
def ij(a b c:Nat)(w:World)(R:qW):Prop:=∃ d,w.cell? (qd a 0)=some (iv d)/\cond (d !=0) (∃ a,w.cell? (qd c 0)=some (.pointer a)/\∃ c d e f g h i j k l m n o p q r s t u,∃ v:I6,∃ x y z A B C D,∃ E:I6,∃ F G H I J L M,∃ N:I6,∃ O P Q S T U V,∃ W:I6,∃ X Y Z a1 a2 a3 a4,∃ a5:I6,∃ a6 a7 a8 a9 b1 b2 b3,∃ b4:I6,∃ b5 b6 b7 b8 b9 c1 c2,∃ c3:I6,∃ c4 c5 c6 c7 c8 c9 d1,∃ d2:I6,∃ d3 d4 d5 d6 d7 d8 d9 e1 e2,af w (qd b 0) 0 (iv c :: iv d :: iv e :: iv f :: iv g :: .slice h i j :: .slice k l m :: .slice n o p :: .slice q r s :: .pointer t :: iv u :: v.on (iv x :: .slice y z A :: .bool B :: .bool C :: iv D :: E.on (iv F :: .slice G H I :: .bool J :: .bool L :: iv M :: N.on (iv O :: .slice P Q S :: .bool T :: .bool U :: iv V :: W.on (iv X :: .slice Y Z a1 :: .bool a2 :: .bool a3 :: iv a4 :: a5.on (iv a6 :: .slice a7 a8 a9 :: .bool b1 :: .bool b2 :: iv b3 :: b4.on (iv b5 :: .slice b6 b7 b8 :: .bool b9 :: .bool c1 :: iv c2 :: c3.on (iv c4 :: .slice c5 c6 c7 :: .bool c8 :: .bool c9 :: iv d1 :: d2.on [iv d3,.slice d4 d5 d6,.bool d7,.bool d8,.int .u64 d9,iv e1,.int .u64 e2]))))))))/\an a λ a=>aL a 0 (iv c :: iv d :: iv e :: iv f :: iv g :: .slice h i j :: .slice k l m :: .slice n o p :: .slice q r s :: .pointer t :: iv u :: v.on (iv x :: .slice y z A :: .bool B :: .bool C :: iv D :: E.on (iv F :: .slice G H I :: .bool J :: .bool L :: iv M :: N.on (iv O :: .slice P Q S :: .bool T :: .bool U :: iv V :: W.on (iv X :: .slice Y Z a1 :: .bool a2 :: .bool a3 :: iv a4 :: a5.on (iv a6 :: .slice a7 a8 a9 :: .bool b1 :: .bool b2 :: iv b3 :: b4.on (iv b5 :: .slice b6 b7 b8 :: .bool b9 :: .bool c1 :: iv c2 :: c3.on (iv c4 :: .slice c5 c6 c7 :: .bool c8 :: .bool c9 :: iv d1 :: d2.on [iv d3,.slice d4 d5 d6,.bool d7,.bool d8,.int .u64 d9,iv e1,.int .u64 e2])))))))) w λ a=>([]:Df)=[]/\R a) (([]:Df)=[]/\R w)
theorem mM{b1 b2 b3:Nat}{w:World}{R:World->Prop}(h:ij b1 b2 b3 w R):Fg prog 32 #[.pointer (some ⟨b1,0,none⟩),.pointer (some ⟨b2,0,none⟩),.pointer (some ⟨b3,0,none⟩)] w R:=NG (aA []) func32 (by kernel_rfl) (by kernel_rfl) (args:=[.pointer (some ⟨b1,0,none⟩),.pointer (some ⟨b2,0,none⟩),.pointer (some ⟨b3,0,none⟩)]) (by kernel_rfl) h
def ji(a:Nat)(b:Int)(w:World)(K:KP):=cond (b==1) (K (.func (.func 69) #[] #[]) w) (cond (b==2) (K (.func (.func 70) #[] #[]) w) (∃ a:Bool->qW,(∀ c d,a d c->∀ e:qv,cond d (K (.func (.func 71) #[] #[]) c) (cond (b==5) (K (.func (.func 72) #[] #[]) c) (cond (b==6) (K (.func (.func 73) #[] #[]) c) (cond (b==7) (K (.func (.func 74) #[] #[]) c) (cond (b==8) (K (.func (.func 75) #[] #[]) c) (K (.func (.func 76) #[] #[]) c))))))/\cond (b==3) (a (b==3) w) (a (b==4) w)))
theorem nW{b1 n1 w K}(h:ji b1 n1 w K):CP 34 #[.pointer (some ⟨b1,0,none⟩),iv n1] w K:=ah (aA [(431,[(10,.s .bool)])]) func34 (by kernel_rfl) (by kernel_rfl) h
def lJ(a:Nat)(b c d:Int)(e:I6)(f:ByteArray)(g:Int)(w:World)(K:KP):=aq w (.cells (iv b :: iv c :: iv d :: e.on [.string f,.int .u64 g]:List Value).toArray 47) λ b c=>∃ d e f g,af c (qd a 0) 0 [iv d,iv e,iv f,iv g]/\CC 57 #[.agg #[iv d,iv e,iv f,iv g]] c λ c d=>∃ e,c=.returned (iv e)/\cond (e !=0) (K (iv e) d) (∃ c,d.cell? (qd b 9)=some (.string c)/\CC 109 #[.string c] d λ b c=>∃ d e f g h i j k l m n o p q,b=.returned (.tuple #[.agg #[.slice d e f,.slice g h i,.slice j k l,.slice m n o],iv p,iv q])/\aq c (.cells #[qn,qn,qn,qn] 27) λ b c=>aL (qd b 0) 0 [.slice d e f,.slice g h i,.slice j k l,.slice m n o] c λ c=>cond (q !=0) (K (iv q) c) (∃ d e f g h i j k l m n o,af c.drew (qd b 0) 0 [.slice d e f,.slice g h i,.slice j k l,.slice m n o]/\∃ p q r s,af c.drew (qd a 0) 0 [iv p,iv q,iv r,iv s]/\CC 27 #[.agg #[.slice d e f,.slice g h i,.slice j k l,.slice m n o],.agg #[iv p,iv q,iv r,iv s]] c.drew λ c d=>∃ e f,c=.returned (.tuple #[.pointer e,iv f])/\cond (f !=0) (K (iv f) d) (∃ c f g h i j k l m n o p,af d (qd b 0) 0 [.slice c f g,.slice h i j,.slice k l m,.slice n o p]/\aL (qd a 5) 0 [.slice c f g,.slice h i j,.slice k l m,.slice n o p] d λ b=>aP b (qd a 9) (.pointer e) λ b=>aP b (qd a 4) (iv 1) λ a=>K qz a)))
theorem qG{b1 n1 n2 n3 u1 s1 n4 w K}(h:lJ b1 n1 n2 n3 u1 s1 n4 w K):CP 69 #[.pointer (some ⟨b1,0,none⟩),.agg (iv n1 :: iv n2 :: iv n3 :: u1.on [.string s1,.int .u64 n4]:List Value).toArray] w K:=ah (aA []) func69 (by kernel_rfl) (by kernel_rfl) h
def jh(a:Nat)(b c d:Int)(e:I6)(f:ByteArray)(g:Int)(w:World)(K:KP):=aq w (.cells (iv b :: iv c :: iv d :: e.on [.string f,.int .u64 g]:List Value).toArray 47) λ b c=>∃ d,c.drew.cell? (qd a 9)=some (.pointer d)/\∃ a,c.drew.cell? (qd b 1)=some (iv a)/\∃ e:I6,af c.drew (qd b 3) 0 e.vs/\CC 61 #[.pointer d,iv a,.agg e.vs.toArray] c.drew λ a b=>∃ c,a=.returned (iv c)/\K (iv c) b
theorem nU{b1 n1 n2 n3 u1 s1 n4 w K}(h:jh b1 n1 n2 n3 u1 s1 n4 w K):CP 70 #[.pointer (some ⟨b1,0,none⟩),.agg (iv n1 :: iv n2 :: iv n3 :: u1.on [.string s1,.int .u64 n4]:List Value).toArray] w K:=ah (aA []) func70 (by kernel_rfl) (by kernel_rfl) h
def j6(a:Nat)(b c d:Int)(e:I6)(f:ByteArray)(g:Int)(w:World)(K:KP):=aq w (.cells (iv b :: iv c :: iv d :: e.on [.string f,.int .u64 g]:List Value).toArray 47) λ b c=>∃ d:Bool->Int->qW,(∀ e f g,d f g e->∀ h:qv,∃ h:qW,(∀ i,h i->∀ j:qv,K (iv g) i)/\cond f (aP e (qd a 4) (iv 2) λ f=>h f) (h e))/\∃ e,c.cell? (qd b 0)=some (iv e)/\cond (e==3) (∃ b,c.cell? (qd a 9)=some (.pointer b)/\CC 62 #[.pointer b] c λ b e=>∃ f g,b=.returned (.tuple #[.bool f,iv g])/\d f g e) (∃ b,c.cell? (qd a 9)=some (.pointer b)/\CC 110 #[.pointer b] c λ a b=>∃ c,a=.returned (iv c)/\d true c b)
theorem pK{b1 n1 n2 n3 u1 s1 n4 w K}(h:j6 b1 n1 n2 n3 u1 s1 n4 w K):CP 71 #[.pointer (some ⟨b1,0,none⟩),.agg (iv n1 :: iv n2 :: iv n3 :: u1.on [.string s1,.int .u64 n4]:List Value).toArray] w K:=ah (aA [(7,[(5,.s .bool),(6,.s (.int .i64))]),(15,[])]) func71 (by kernel_rfl) (by kernel_rfl) h
def nt(a:Nat)(b c d:Int)(e:I6)(f:ByteArray)(g:Int)(w:World)(K:KP):=aq w (.cells (iv b :: iv c :: iv d :: e.on [.string f,.int .u64 g]:List Value).toArray 47) λ b c=>∃ d,c.cell? (qd b 1)=some (iv d)/\∃ e,c.cell? (qd b 9)=some (.string e)/\CC 111 #[qp a,iv d,.string e] c λ c d=>∃ e,∃ f:I6,∃ g h i j k,c=.returned (.tuple #[.agg (iv e :: f.on [iv g,.slice h i j]:List Value).toArray,iv k])/\aq d (.cells #[qz,qz,qz,qz,qz,qz,qz,qz,qn] 81) λ c d=>aL (qd c 0) 0 (iv e :: f.on [iv g,.slice h i j]) d λ d=>∃ e:qW,(∀ f,e f->∀ g:qv,K (iv k) f)/\cond (k==0) (∃ f,d.drew.cell? (qd b 1)=some (iv f)/\∃ g,d.drew.cell? (qd b 1)=some (iv g)/\∃ h,∃ i:I6,∃ j k l m,af d.drew (qd c 0) 0 (iv h :: i.on [iv j,.slice k l m])/\0<=f/\f<8/\aL (Addr.add (qd a 10) ((f).toNat*11)) 0 (iv h :: i.on [iv j,.slice k l m]) d.drew λ c=>c.cell? (qd b 1)=some (iv g)/\0<=g/\g<8/\aP c (Addr.add (Addr.add (qd a 10) ((g).toNat*11)) 9) (.bool true) λ a=>e a) (e d)
theorem rT{b1 n1 n2 n3 u1 s1 n4 w K}(h:nt b1 n1 n2 n3 u1 s1 n4 w K):CP 72 #[.pointer (some ⟨b1,0,none⟩),.agg (iv n1 :: iv n2 :: iv n3 :: u1.on [.string s1,.int .u64 n4]:List Value).toArray] w K:=ah (aA [(7,[])]) func72 (by kernel_rfl) (by kernel_rfl) h
def gN(a:Nat)(b c d:Int)(e:I6)(f:ByteArray)(g:Int)(w:World)(K:KP):=aq w (.cells (iv b :: iv c :: iv d :: e.on [.string f,.int .u64 g]:List Value).toArray 47) λ b c=>∃ d,c.drew.cell? (qd b 1)=some (iv d)/\0<=d/\d<8/\∃ e,c.drew.cell? (Addr.add (Addr.add (qd a 10) ((d).toNat*11)) 9)=some (.bool e)/\cond (!e) (K (iv 6) c.drew) (∃ d,c.drew.cell? (qd b 1)=some (iv d)/\CC 112 #[qp a,iv d] c.drew λ a b=>a=.returned (.tuple #[])/\K qz b)
theorem lK{b1 n1 n2 n3 u1 s1 n4 w K}(h:gN b1 n1 n2 n3 u1 s1 n4 w K):CP 73 #[.pointer (some ⟨b1,0,none⟩),.agg (iv n1 :: iv n2 :: iv n3 :: u1.on [.string s1,.int .u64 n4]:List Value).toArray] w K:=ah (aA []) func73 (by kernel_rfl) (by kernel_rfl) h
def fc(a:Nat)(b c d:Int)(e:I6)(f:ByteArray)(g:Int)(w:World)(K:KP):=aq w (.cells (iv b :: iv c :: iv d :: e.on [.string f,.int .u64 g]:List Value).toArray 47) λ b c=>∃ d,c.drew.cell? (qd b 1)=some (iv d)/\0<=d/\d<8/\aP c.drew (Addr.add (Addr.add (qd a 10) ((d).toNat*11)) 10) (.bool true) λ c=>∃ d,c.cell? (qd b 1)=some (iv d)/\CC 112 #[qp a,iv d] c λ c d=>c=.returned (.tuple #[])/\∃ c,d.drew.cell? (qd a 9)=some (.pointer c)/\∃ a,d.drew.cell? (qd b 1)=some (iv a)/\CC 113 #[.pointer c,iv a] d.drew λ a b=>∃ c,a=.returned (iv c)/\K (iv c) b
theorem jt{b1 n1 n2 n3 u1 s1 n4 w K}(h:fc b1 n1 n2 n3 u1 s1 n4 w K):CP 74 #[.pointer (some ⟨b1,0,none⟩),.agg (iv n1 :: iv n2 :: iv n3 :: u1.on [.string s1,.int .u64 n4]:List Value).toArray] w K:=ah (aA []) func74 (by kernel_rfl) (by kernel_rfl) h
def j5(a:Nat)(b c d:Int)(e:I6)(f:ByteArray)(g:Int)(w:World)(K:KP):=aq w (.cells (iv b :: iv c :: iv d :: e.on [.string f,.int .u64 g]:List Value).toArray 47) λ b c=>∃ d,c.drew.cell? (qd a 9)=some (.pointer d)/\∃ e,c.drew.cell? (qd b 2)=some (iv e)/\CC 114 #[.pointer d,iv e] c.drew λ b c=>∃ d,b=.returned (iv d)/\cond (d !=0) (K (iv d) c) (∃ b:Int->qN,(∃ d,b 0 c d)/\∀ c d e,b e c d->∀ f:qv,cond (decide (e<8)) (CC 112 #[qp a,iv e] c λ f g=>f=.returned (.tuple #[])/\∃ f,f<d/\b (IntKind.i64.wrap (e+1)) g f) (aP c (qd a 4) (iv 1) λ a=>K qz a))
theorem pJ{b1 n1 n2 n3 u1 s1 n4 w K}(h:j5 b1 n1 n2 n3 u1 s1 n4 w K):CP 75 #[.pointer (some ⟨b1,0,none⟩),.agg (iv n1 :: iv n2 :: iv n3 :: u1.on [.string s1,.int .u64 n4]:List Value).toArray] w K:=ah (aA [(58,[(17,.s (.int .i64))])]) func75 (by kernel_rfl) (by kernel_rfl) h
def jj(a:Nat)(b c d:Int)(e:I6)(f:ByteArray)(g:Int)(w:World)(K:KP):=aq w (.cells (iv b :: iv c :: iv d :: e.on [.string f,.int .u64 g]:List Value).toArray 47) λ b c=>aP c (qd a 4) (iv 3) λ c=>∃ d:qW,(∀ e,d e->∀ f:qv,K qz e)/\∃ e,c.cell? (qd b 0)=some (iv e)/\cond (e==10) (∃ e,c.drew.cell? (qd b 10)=some (.int .u64 e)/\aP c.drew (qd a 4) (iv 4) λ f=>f.cell? (qd b 10)=some (.int .u64 e)/\aP f (qd a 98) (.int .u64 e) λ a=>d a) (d c)
theorem nX{b1 n1 n2 n3 u1 s1 n4 w K}(h:jj b1 n1 n2 n3 u1 s1 n4 w K):CP 76 #[.pointer (some ⟨b1,0,none⟩),.agg (iv n1 :: iv n2 :: iv n3 :: u1.on [.string s1,.int .u64 n4]:List Value).toArray] w K:=ah (aA [(7,[])]) func76 (by kernel_rfl) (by kernel_rfl) h
def jk(a:Nat)(b:Int)(c:ByteArray)(w:World)(K:KP):=aq w (.cells #[qz,qz,qz,qz,qz,qz,qz,qz,qn] 81) λ d e=>∃ f g h,e.cell? (qd a 5)=some (.slice f g h)/\CC 153 #[.slice f g h,.string c] e λ c e=>∃ f,∃ g:I6,∃ h i j k l,c=.returned (.tuple #[.agg (iv f :: g.on [iv h,.slice i j k]:List Value).toArray,iv l])/\aq e (.cells #[qz,qz,qz,qz,qz,qz,qz,qz,qn] 81) λ c e=>aL (qd c 0) 0 (iv f :: g.on [iv h,.slice i j k]) e λ e=>cond (l !=0) (aL (qd d 0) 0 [qz,qz,qz,qz,qz,qz,qz,qz,qn] e λ f=>∃ g,∃ h:I6,∃ i j k m,af f (qd d 0) 0 (iv g :: h.on [iv i,.slice j k m])/\K (.tuple #[.agg (iv g :: h.on [iv i,.slice j k m]:List Value).toArray,iv l]) f) (∃ f,∃ g:I6,∃ h i j k,af e.drew (qd c 0) 0 (iv f :: g.on [iv h,.slice i j k])/\∃ l m n,e.drew.cell? (qd a 5)=some (.slice l m n)/\CC 49 #[.slice l m n] e.drew λ e l=>∃ m:I6,e=.returned (.agg m.vs.toArray)/\af l (qd c 0) 0 (iv f :: g.on [iv h,.slice i j k])/\CC 154 #[.agg (iv f :: g.on [iv h,.slice i j k]:List Value).toArray,.agg m.vs.toArray] l λ e f=>∃ g h i j,e=.returned (.tuple #[.slice g h i,iv j])/\cond (j !=0) (aL (qd d 0) 0 [qz,qz,qz,qz,qz,qz,qz,qz,qn] f λ e=>∃ k,∃ l:I6,∃ m n o p,af e (qd d 0) 0 (iv k :: l.on [iv m,.slice n o p])/\K (.tuple #[.agg (iv k :: l.on [iv m,.slice n o p]:List Value).toArray,iv j]) e) (∃ e j k,f.cell? (qd a 6)=some (.slice e j k)/\an e λ e=>0<=b/\b<(j:Int)/\∃ j,f.cell? (Addr.add (Addr.add e ((b).toNat*4)) 2)=some (iv j)/\∃ e:Int->qN,(∃ k,e 0 f k)/\∀ f k l,e l f k->∀ m:qv,cond (decide (l<(h:Int))) (an g λ m=>0<=l/\l<(h:Int)/\∃ n,∃ o:I6,∃ p,af f (Addr.add m ((l).toNat*8)) 0 (iv n :: o.on [iv p])/\aq f (.cells #[qz,qz,qz,qz,qz,qz,qz,qz] 68) λ m q=>aL (qd m 0) 0 (iv n :: o.on [iv p]) q λ n=>∃ o p q r s t u v x y z A,af n.drew (qd a 5) 0 [.slice o p q,.slice r s t,.slice u v x,.slice y z A]/\∃ B:I6,af n.drew (qd m 1) 0 B.vs/\CC 45 #[.agg #[.slice o p q,.slice r s t,.slice u v x,.slice y z A],iv b,.agg B.vs.toArray] n.drew λ n o=>∃ p,n=.returned (iv p)/\cond (p !=0) (aL (qd d 0) 0 [qz,qz,qz,qz,qz,qz,qz,qz,qn] o λ n=>∃ q,∃ r:I6,∃ s t u v,af n (qd d 0) 0 (iv q :: r.on [iv s,.slice t u v])/\K (.tuple #[.agg (iv q :: r.on [iv s,.slice t u v]:List Value).toArray,iv p]) n) (∃ n:Bool->qW,(∀ p q,n q p->∀ r:qv,cond q (aL (qd d 0) 0 [qz,qz,qz,qz,qz,qz,qz,qz,qn] p λ q=>∃ r,∃ s:I6,∃ t u v x,af q (qd d 0) 0 (iv r :: s.on [iv t,.slice u v x])/\K (.tuple #[.agg (iv r :: s.on [iv t,.slice u v x]:List Value).toArray,iv 17]) q) (∃ q,q<k/\e (IntKind.i64.wrap (l+1)) p q))/\cond (j !=0) (∃ e,o.cell? (qd m 7)=some (iv e)/\n (decide (j<e)) o) (n false o))) (∃ e,f.cell? (qd a 9)=some (.pointer e)/\CC 51 #[.pointer e,iv b] f λ a b=>∃ e f j,a=.returned (.slice e f j)/\CC 95 #[.slice e f j,.slice g h i] b λ a b=>∃ e f,a=.returned (.tuple #[iv e,iv f])/\∃ a,∃ e:I6,∃ g h i j,af b (qd c 0) 0 (iv a :: e.on [iv g,.slice h i j])/\aL (qd d 0) 0 (iv a :: e.on [iv g,.slice h i j]) b λ a=>∃ b,∃ c:I6,∃ e g h i,af a (qd d 0) 0 (iv b :: c.on [iv e,.slice g h i])/\K (.tuple #[.agg (iv b :: c.on [iv e,.slice g h i]:List Value).toArray,iv f]) a)))
theorem nY{b1 n1 s1 w K}(h:jk b1 n1 s1 w K):CP 111 #[.pointer (some ⟨b1,0,none⟩),iv n1,.string s1] w K:=ah (aA [(1018,[(55,.s (.int .i64))]),(130355,[(78,.s .bool)])]) func111 (by kernel_rfl) (by kernel_rfl) h
def lI(a:Nat)(b:Int)(w:World)(K:KP):=0<=b/\b<8/\aL (Addr.add (qd a 10) ((b).toNat*11)) 0 [qz,qz,qz,qz,qz,qz,qz,qz,qn] w.drew λ c=>0<=b/\b<8/\aP c (Addr.add (Addr.add (qd a 10) ((b).toNat*11)) 9) (.bool false) λ a=>K (.tuple #[]) a
theorem qF{b1 n1 w K}(h:lI b1 n1 w K):CP 112 #[.pointer (some ⟨b1,0,none⟩),iv n1] w K:=ah (aA []) func112 (by kernel_rfl) (by kernel_rfl) h
def cW(k p:Int):Bool :=
 if k=1 then p==0 else if k=2\/k=3\/k=4 then p==1 else if k=5\/k=6\/k=9 then p==2
 else if k=7 then decide (1<=p)&&decide (p<=3) else if k=8 then p==1||p==2 else p==3
def bh(k:Int):Bool:=decide (k=2\/k=5\/k=6\/k=7)
theorem F8(w:World)(k p:Int):CP 30 #[iv k,iv p] w (λ r w'=>r=.bool (cW k p)/\w' = w):=by
 refine uc ?_;unfold pL
 by_cases h1:k=1
 ·exact cT (by simpa using h1) ⟨by rw[cW,if_pos h1],rfl⟩
 refine cF (by simpa using h1) ⟨λ b w1=>b=decide (k=2\/k=3\/k=4)/\w1=w,?_,?_⟩
 ·rintro w1 _ ⟨rfl,rfl⟩ -
  by_cases h2:k=2\/k=3\/k=4
  ·exact cT (dT h2) ⟨by rw[cW,if_neg h1,if_pos h2],rfl⟩
  refine cF (dF h2) ⟨λ b w2=>b=decide (k=5\/k=6\/k=9)/\w2=w1,?_,?_⟩
  ·rintro w2 _ ⟨rfl,rfl⟩ -
   by_cases h3:k=5\/k=6\/k=9
   ·exact cT (dT h3) ⟨by rw[cW,if_neg h1,if_neg h2,if_pos h3],rfl⟩
   refine cF (dF h3) ?_
   by_cases h7:k=7
   ·have e:cW k p=(decide (1<=p)&&decide (p<=3)):=by rw[cW,if_neg h1,if_neg h2,if_neg h3,if_pos h7]
    refine cT (by simpa using h7) ?_
    by_cases g:1<=p
    ·exact cT (dT g) ⟨by rw[e,dT g,Bool.true_and],rfl⟩
    ·exact cF (dF g) ⟨by rw[e,dF g,Bool.false_and],rfl⟩
   refine cF (by simpa using h7) ?_
   by_cases h8:k=8
   ·have e:cW k p=(p==1||p==2):=by rw[cW,if_neg h1,if_neg h2,if_neg h3,if_neg h7,if_pos h8]
    refine cT (by simpa using h8) ?_
    by_cases g:p=1
    ·exact cT (by simpa using g) ⟨by rw[e,g]; rfl,rfl⟩
    ·exact cF (by simpa using g) ⟨by rw[e,beq_eq_false_iff_ne.2 g,Bool.false_or],rfl⟩
   ·exact cF (by simpa using h8) ⟨by rw[cW,if_neg h1,if_neg h2,if_neg h3,if_neg h7,if_neg h8],rfl⟩
  ·by_cases g5:k=5
   ·exact cT (by simpa using g5) ⟨by rw[dT (Or.inl g5)]; simpa using g5,rfl⟩
   refine cF (by simpa using g5) ?_
   by_cases g6:k=6
   ·exact cT (by simpa using g6) ⟨by rw[dT (Or.inr (Or.inl g6))]; simpa using g6,rfl⟩
   refine cF (by simpa using g6) ⟨?_,rfl⟩
   by_cases g9:k=9
   ·rw[dT (Or.inr (Or.inr g9))]; simpa using g9
   ·rw[dF (by omega)]; simpa using g9
 ·by_cases g2:k=2
  ·exact cT (by simpa using g2) ⟨by rw[dT (Or.inl g2)]; simpa using g2,rfl⟩
  refine cF (by simpa using g2) ?_
  by_cases g3:k=3
  ·exact cT (by simpa using g3) ⟨by rw[dT (Or.inr (Or.inl g3))]; simpa using g3,rfl⟩
  refine cF (by simpa using g3) ⟨?_,rfl⟩
  by_cases g4:k=4
  ·rw[dT (Or.inr (Or.inr g4))]; simpa using g4
  ·rw[dF (by omega)]; simpa using g4
theorem HC(w:World)(k:Int):CP 31 #[iv k] w (λ r w'=>r=.bool (bh k)/\w' = w):=by
 refine zN ?_;unfold wj
 by_cases g2:k=2
 ·exact cT (by simpa using g2) ⟨by rw[bh,dT (Or.inl g2)],rfl⟩
 refine cF (by simpa using g2) ?_
 by_cases g5:k=5
 ·exact cT (by simpa using g5) ⟨by rw[bh,dT (Or.inr (Or.inl g5))],rfl⟩
 refine cF (by simpa using g5) ?_
 by_cases g6:k=6
 ·exact cT (by simpa using g6) ⟨by rw[bh,dT (Or.inr (Or.inr (Or.inl g6)))],rfl⟩
 refine cF (by simpa using g6) ⟨?_,rfl⟩
 by_cases g7:k=7
 ·rw[bh,dT (Or.inr (Or.inr (Or.inr g7)))]; simpa using g7
 ·rw[bh,dF (by omega)]; simpa using g7
structure Bd where
 x:Xv
 has:Bool
 out:Bool
def Bd.cells(b:Bd):List Value:=b.x.cells++[.bool b.has,.bool b.out]
theorem Bd.len(b:Bd):b.cells.length=11:=rfl
def cO:Bd:=⟨dK,false,false⟩
structure Sx where
 o:Po
 ph:Int
 s:Se
 k:Option Addr
 bd:List Bd
 dec:Int
 cnt:Int
 dig:Int
def Sx.cells(S:Sx):List Value:=S.o.cells++(iv S.ph :: (S.s.arr.toList++(.pointer S.k :: (S.bd.flatMap Bd.cells++[.int .u64 S.dec,iv S.cnt,.int .u64 S.dig]))))
theorem Sx.len{S:Sx}(h:S.bd.length=8):S.cells.length=101:=by
 unfold Sx.cells;simp only[List.length_append,List.length_cons,List.length_nil,ct Bd.len,h];rfl
theorem bH{l:List Bd}(h:l.length=8):∃ a b c d e f g i,l=[a,b,c,d,e,f,g,i]:=by
 match l,h with
 | [a,b,c,d,e,f,g,i],_=>exact⟨a,b,c,d,e,f,g,i,rfl⟩
theorem Ib{S:Sx}(h:S.bd.length=8){i:Nat}(hi:i<8){y:Bd}(hy:S.bd[i]?=some y)(x:Xv) :
  S.cells.take (10+i*11)++x.cells++S.cells.drop (10+i*11+9)=({ S with bd:=S.bd.set i { y with x:=x } }:Sx).cells:=by
 obtain⟨o,ph,s,k,bd,dec,cnt,dig⟩:=S;obtain⟨b0,b1,b2,b3,b4,b5,b6,b7,rfl⟩:=bH h
 match i,hi with
 | 0,_|1,_|2,_|3,_|4,_|5,_|6,_|7,_=>cases hy; rfl
theorem Ia{S:Sx}(h:S.bd.length=8){i:Nat}(hi:i<8){y:Bd}(hy:S.bd[i]?=some y)(v:Bool) :
  S.cells.toArray.setIfInBounds (10+i*11+9) (.bool v)=({ S with bd:=S.bd.set i { y with has:=v } }:Sx).cells.toArray:=by
 obtain⟨o,ph,s,k,bd,dec,cnt,dig⟩:=S;obtain⟨b0,b1,b2,b3,b4,b5,b6,b7,rfl⟩:=bH h
 match i,hi with
 | 0,_|1,_|2,_|3,_|4,_|5,_|6,_|7,_=>cases hy; rfl
theorem Pv{S:Sx}(h:S.bd.length=8){i:Nat}(hi:i<8){y:Bd}(hy:S.bd[i]?=some y)(v:Bool) :
  S.cells.toArray.setIfInBounds (10+i*11+10) (.bool v)=({ S with bd:=S.bd.set i { y with out:=v } }:Sx).cells.toArray:=by
 obtain⟨o,ph,s,k,bd,dec,cnt,dig⟩:=S;obtain⟨b0,b1,b2,b3,b4,b5,b6,b7,rfl⟩:=bH h
 match i,hi with
 | 0,_|1,_|2,_|3,_|4,_|5,_|6,_|7,_=>cases hy; rfl
theorem TS(b i:Nat):Addr.add ⟨b,10,none⟩ (((i:Nat):Int).toNat*11)=⟨b,10+i*11,none⟩:=by rw[bq,Int.toNat_natCast]
def G7(y:Bd):Bd:={ y with x:=dK,has:=false }
def bn(S:Sx)(i:Nat):Sx:={ S with bd:=S.bd.set i (G7 (S.bd.getD i cO)) }
theorem CW{w0 w:World}{b:Nat}{S:Sx}{m:List aC}(s:St w0 w (Sep (ai b S.cells.toArray 86 :: m)))(h:S.bd.length=8){i:Nat}(hi:i<8) :
  CP 112 #[.pointer (some ⟨b,0,none⟩),iv i] w (λ r w'=>r=.tuple #[]/\St w0 w' (Sep (ai b (bn S i).cells.toArray 86 :: m))):=by
 refine qF ?_;unfold lI;have hy:S.bd[i]?=some (S.bd[i]'(by omega)):=gE (by omega);have hd:S.bd.getD i cO=S.bd[i]'(by omega):=by rw[List.getD_eq_getElem?_getD,hy]; rfl
 generalize S.bd[i]'(by omega)=y at hy hd;have s1:=s.quiet (ay.drew w []);have hsz:S.cells.toArray.size=101:=by simpa using Sx.len h
 refine⟨by omega,by omega,?_⟩;rw[TS];refine s1.pE 0 (10+i*11) rfl (vs:=dK.cells) ({ S with bd:=S.bd.set i { y with x:=dK } }:Sx).cells.toArray (by rw[hsz,Xv.len]; omega) (Xv.one _) (by rw[Xv.len]; exact congrArg List.toArray (Ib h hi hy dK)) λ w1 s2=>⟨by omega,by omega,?_⟩;rw[bq];let S1:Sx:={ S with bd:=S.bd.set i { y with x:=dK } };have h1:S1.bd.length=8:=by simpa[S1] using h
 have hy1:S1.bd[i]?=some { y with x:=dK }:=by
  show(S.bd.set i _)[i]?=_;rw[List.getElem?_set_self (by omega)]
 have hsz1:S1.cells.toArray.size=101:=by simpa using Sx.len h1
 refine s2.aK 0 rfl (j:=10+i*11+9) (by show _<S1.cells.toArray.size; rw[hsz1]; omega) rfl λ w2 s3=>⟨rfl,?_⟩;have e:=Ia h1 hi hy1 false;have e2:({ S1 with bd:=S1.bd.set i { ({ y with x:=dK }:Bd) with has:=false } }:Sx)=bn S i:=by
  unfold bn;rw[hd];show({ S with bd:=(S.bd.set i _).set i _ }:Sx)=_;rw[List.set_set]; rfl
 rw[e2] at e;rw[<- e];exact s3
def vK(a b c:Int)(d:I6)(e:ByteArray)(f:Int)(w:World)(K:KP):=aq w (.cells (iv a :: iv b :: iv c :: d.on [.string e,.int .u64 f]:List Value).toArray 47) λ a b=>∃ c:Bool->qW,(∀ d e,c e d->∀ f:qv,cond e (K (iv 2) d) (∃ e:Bool->qW,(∀ f g,e g f->∀ h:qv,cond g (K (iv 4) f) (∃ g:Bool->qW,(∀ h i,g i h->∀ j:qv,cond i (K (iv 3) h) (K qz h))/\∃ h,f.cell? (qd a 9)=some (.string h)/\cond (decide (((h.size:Nat):Int)>(4000:Int))) (g true f) (∃ h i j,∃ k:I6,∃ l m,af f (qd a 0) 0 (iv h :: iv i :: iv j :: k.on [.string l,.int .u64 m])/\CC 66 #[.agg (iv h :: iv i :: iv j :: k.on [.string l,.int .u64 m]:List Value).toArray] f λ f h=>∃ i,f=.returned (.string i)/\g (decide (((i.size:Nat):Int)>(4000:Int))) h)))/\∃ f,d.cell? (qd a 1)=some (iv f)/\cond (decide (f<0)) (e true d) (∃ f,d.cell? (qd a 1)=some (iv f)/\cond (decide (f>=8)) (e true d) (∃ f,d.cell? (qd a 2)=some (iv f)/\cond (decide (f<0)) (e true d) (∃ f,d.cell? (qd a 2)=some (iv f)/\cond (decide (f>=30)) (e true d) (∃ f:I6,af d (qd a 3) 0 f.vs/\CC 65 #[.agg f.vs.toArray] d λ d f=>∃ g,d=.returned (iv g)/\e (g !=0) f))))))/\∃ d,b.drew.cell? (qd a 0)=some (iv d)/\CC 63 #[iv d] b.drew λ b d=>∃ e,b=.returned (.string e)/\cond (e.toList==(bs []).toList) (c true d) (∃ b e f,∃ g:I6,∃ h i,af d (qd a 0) 0 (iv b :: iv e :: iv f :: g.on [.string h,.int .u64 i])/\∃ j k l,∃ m:I6,∃ n o,af d (qd a 0) 0 (iv j :: iv k :: iv l :: m.on [.string n,.int .u64 o])/\CC 64 #[.agg (iv j :: iv k :: iv l :: m.on [.string n,.int .u64 o]:List Value).toArray] d λ d j=>∃ k l m,∃ n:I6,∃ o p,d=.returned (.agg (iv k :: iv l :: iv m :: n.on [.string o,.int .u64 p]:List Value).toArray)/\af j (qd a 0) 0 (iv b :: iv e :: iv f :: g.on [.string h,.int .u64 i])/\c (!((b==k)&&((e==l)&&((f==m)&&((I6.beq g n)&&((h==o)&&((i==p)&&true))))))) j)
theorem yD{n1 n2 n3 u1 s1 n4 w K}(h:vK n1 n2 n3 u1 s1 n4 w K):CP 29 #[.agg (iv n1 :: iv n2 :: iv n3 :: u1.on [.string s1,.int .u64 n4]:List Value).toArray] w K:=ah (aA [(12,[(3,.s .bool)]),(51,[(14,.s .bool)]),(207,[(39,.s .bool)])]) func29 (by kernel_rfl) (by kernel_rfl) h
def sW(a b c:Int)(d:I6)(e:ByteArray)(f:Int)(w:World)(K:KP):=aq w (.cells (iv a :: iv b :: iv c :: d.on [.string e,.int .u64 f]:List Value).toArray 47) λ a b=>∃ c d e,∃ f:I6,∃ g h,af b (qd a 0) 0 (iv c :: iv d :: iv e :: f.on [.string g,.int .u64 h])/\CC 29 #[.agg (iv c :: iv d :: iv e :: f.on [.string g,.int .u64 h]:List Value).toArray] b λ b c=>∃ d,b=.returned (iv d)/\cond (d !=0) (K (.tuple #[.string (bs []),iv d]) c) (∃ b d e,∃ f:I6,∃ g h,af c (qd a 0) 0 (iv b :: iv d :: iv e :: f.on [.string g,.int .u64 h])/\CC 66 #[.agg (iv b :: iv d :: iv e :: f.on [.string g,.int .u64 h]:List Value).toArray] c λ a b=>∃ c,a=.returned (.string c)/\K (.tuple #[.string c,qz]) b)
theorem wH{n1 n2 n3 u1 s1 n4 w K}(h:sW n1 n2 n3 u1 s1 n4 w K):CP 35 #[.agg (iv n1 :: iv n2 :: iv n3 :: u1.on [.string s1,.int .u64 n4]:List Value).toArray] w K:=ah (aA []) func35 (by kernel_rfl) (by kernel_rfl) h
def oh(a:Int)(b:ByteArray)(w:World)(K:KP):=CC 78 #[.int .u64 a,iv 8] w λ a c=>∃ d,a=.returned (.string d)/\CC 78 #[.int .u64 (IntKind.u64.wrap ((b.size:Nat):Int)),iv 8] c λ a c=>∃ e,a=.returned (.string e)/\((d.size+e.size:Nat):Int)<=IntKind.i64.max/\(((d++e).size+b.size:Nat):Int)<=IntKind.i64.max/\CC 77 #[.string ((d++e)++b)] c λ a b=>∃ c,a=.returned (.int .u64 c)/\K (.int .u64 c) b
theorem sN{n1 s1 w K}(h:oh n1 s1 w K):CP 36 #[.int .u64 n1,.string s1] w K:=ah (aA []) func36 (by kernel_rfl) (by kernel_rfl) h
def yE(a:Int)(w:World)(K:KP):=aq w (.cells #[.string (bs []),.string (bs []),.string (bs []),.string (bs []),.string (bs []),.string (bs []),.string (bs []),.string (bs []),.string (bs []),.string (bs []),.string (bs [])] 164) λ b c=>aL (qd b 0) 0 [.string (bs []),.string (bs [115,97,108,101]),.string (bs [100,101,109,97,110,100]),.string (bs [114,111,117,110,100]),.string (bs [115,116,111,112]),.string (bs [98,105,100]),.string (bs [119,105,116,104,100,114,97,119]),.string (bs [100,105,115,113,117,97,108,105,102,121]),.string (bs [114,101,114,117,110]),.string (bs [99,108,111,115,101]),.string (bs [100,101,99,105,100,101])] c λ c=>∃ d:Bool->qW,(∀ e f,d f e->∀ g:qv,cond f (K (.string (bs [])) e) (0<=a/\a<11/\∃ f,e.cell? (Addr.add (qd b 0) ((a).toNat*1))=some (.string f)/\K (.string f) e))/\cond (decide (a<1)) (d true c) (d (decide (a>10)) c)
theorem Ap{n1 w K}(h:yE n1 w K):CP 63 #[iv n1] w K:=ah (aA [(14,[(10,.s .bool)])]) func63 (by kernel_rfl) (by kernel_rfl) h
def yF(a b c:Int)(d:I6)(e:ByteArray)(f:Int)(w:World)(K:KP):=aq w (.cells (iv a :: iv b :: iv c :: d.on [.string e,.int .u64 f]:List Value).toArray 47) λ a b=>aq b (.cells #[qz,qz,qz,qz,qz,qz,qz,qz,qz,.string (bs []),.int .u64 0] 47) λ b c=>∃ d,c.cell? (qd a 0)=some (iv d)/\CC 106 #[iv d] c λ c d=>∃ e,c=.returned (iv e)/\∃ c,d.cell? (qd a 0)=some (iv c)/\aq d (.cells #[qz,qz,qz,qz,qz,qz,qz,qz,qz,.string (bs []),.int .u64 0] 47) λ d f=>aL (qd d 0) 0 [iv c,qz,qz,qz,qz,qz,qz,qz,qz,.string (bs []),.int .u64 0] f λ c=>∃ f:qW,(∀ g,f g->∀ h:qv,∃ h:qW,(∀ i,h i->∀ j:qv,∃ j:qW,(∀ k,j k->∀ l:qv,∃ l:qW,(∀ m,l m->∀ n:qv,∃ n:qW,(∀ o,n o->∀ p:qv,∃ p q r,∃ s:I6,∃ t u,af o (qd d 0) 0 (iv p :: iv q :: iv r :: s.on [.string t,.int .u64 u])/\aL (qd b 0) 0 (iv p :: iv q :: iv r :: s.on [.string t,.int .u64 u]) o λ o=>∃ p q r,∃ s:I6,∃ t u,af o (qd b 0) 0 (iv p :: iv q :: iv r :: s.on [.string t,.int .u64 u])/\K (.agg (iv p :: iv q :: iv r :: s.on [.string t,.int .u64 u]:List Value).toArray) o)/\cond ((rj .i64 e 16) !=(0:Int)) (∃ b,m.cell? (qd a 10)=some (.int .u64 b)/\aP m (qd d 10) (.int .u64 b) λ b=>n b) (n m))/\cond ((rj .i64 e 8) !=(0:Int)) (∃ b,k.cell? (qd a 2)=some (iv b)/\aP k (qd d 2) (iv b) λ b=>l b) (l k))/\cond ((rj .i64 e 4) !=(0:Int)) (∃ b,i.cell? (qd a 9)=some (.string b)/\aP i (qd d 9) (.string b) λ b=>j b) (j i))/\cond ((rj .i64 e 2) !=(0:Int)) (∃ b:I6,af g (qd a 3) 0 b.vs/\aL (qd d 3) 0 b.vs g λ b=>h b) (h g))/\cond ((rj .i64 e 1) !=(0:Int)) (∃ b,c.cell? (qd a 1)=some (iv b)/\aP c (qd d 1) (iv b) λ a=>f a) (f c)
theorem Aq{n1 n2 n3 u1 s1 n4 w K}(h:yF n1 n2 n3 u1 s1 n4 w K):CP 64 #[.agg (iv n1 :: iv n2 :: iv n3 :: u1.on [.string s1,.int .u64 n4]:List Value).toArray] w K:=ah (aA [(15,[]),(31,[]),(63,[]),(127,[]),(255,[])]) func64 (by kernel_rfl) (by kernel_rfl) h
def vL(a b c:Int)(d:I6)(e:ByteArray)(f:Int)(w:World)(K:KP):=aq w (.cells (iv a :: iv b :: iv c :: d.on [.string e,.int .u64 f]:List Value).toArray 47) λ a b=>∃ c,b.cell? (qd a 0)=some (iv c)/\CC 106 #[iv c] b λ b c=>∃ d,b=.returned (iv d)/\∃ b,c.cell? (qd a 0)=some (iv b)/\CC 107 #[.int .u64 (IntKind.u64.wrap b)] c λ b c=>∃ e,b=.returned (.string e)/\∃ b:ByteArray->qW,(∀ f g,b g f->∀ h:qv,∃ h:ByteArray->qW,(∀ i j,h j i->∀ k:qv,∃ k:ByteArray->qW,(∀ l m,k m l->∀ n:qv,∃ n:ByteArray->qW,(∀ o p,n p o->∀ q:qv,∃ q:ByteArray->qW,(∀ r s,q s r->∀ t:qv,K (.string s) r)/\cond ((rj .i64 d 16) !=(0:Int)) (∃ r,o.cell? (qd a 10)=some (.int .u64 r)/\CC 107 #[.int .u64 r] o λ r s=>∃ t,r=.returned (.string t)/\((p.size+t.size:Nat):Int)<=IntKind.i64.max/\q (p++t) s) (q p o))/\cond ((rj .i64 d 4) !=(0:Int)) (∃ o,l.cell? (qd a 9)=some (.string o)/\CC 108 #[.string o] l λ o p=>∃ q,o=.returned (.string q)/\((m.size+q.size:Nat):Int)<=IntKind.i64.max/\n (m++q) p) (n m l))/\cond ((rj .i64 d 2) !=(0:Int)) (∃ l:I6,af i (qd a 3) 0 l.vs/\∃ m:ByteArray->Int->qN,(∃ n,m j 0 i n)/\∀ o n p q,m p q o n->∀ r:qv,cond (decide (q<6)) (0<=q/\q<6/\∃ r,(l.vs.toArray:Array Value)[(q).toNat*1]?=some (iv r)/\CC 107 #[.int .u64 (IntKind.u64.wrap r)] o λ l r=>∃ s,l=.returned (.string s)/\((p.size+s.size:Nat):Int)<=IntKind.i64.max/\∃ l,l<n/\m (p++s) (IntKind.i64.wrap (q+1)) r l) (k p o)) (k j i))/\cond ((rj .i64 d 8) !=(0:Int)) (∃ i,f.cell? (qd a 2)=some (iv i)/\CC 107 #[.int .u64 (IntKind.u64.wrap i)] f λ i j=>∃ k,i=.returned (.string k)/\((g.size+k.size:Nat):Int)<=IntKind.i64.max/\h (g++k) j) (h g f))/\cond ((rj .i64 d 1) !=(0:Int)) (∃ d,c.cell? (qd a 1)=some (iv d)/\CC 107 #[.int .u64 (IntKind.u64.wrap d)] c λ a d=>∃ f,a=.returned (.string f)/\((e.size+f.size:Nat):Int)<=IntKind.i64.max/\b (e++f) d) (b e c)
theorem yG{n1 n2 n3 u1 s1 n4 w K}(h:vL n1 n2 n3 u1 s1 n4 w K):CP 66 #[.agg (iv n1 :: iv n2 :: iv n3 :: u1.on [.string s1,.int .u64 n4]:List Value).toArray] w K:=ah (aA [(15,[(4,.s .str)]),(31,[(4,.s .str)]),(63,[(4,.s .str)]),(127,[(4,.s .str)]),(255,[(4,.s .str)]),(2026,[(4,.s .str),(37,.s (.int .i64))])]) func66 (by kernel_rfl) (by kernel_rfl) h
def qL(a:ByteArray)(w:World)(K:KP):=∃ b:Int->Int->qN,(∃ c,b 14695981039346656037 (0:Int) w c)/\∀ d c e f,b e f d c->∀ g:qv,cond (decide (f<((a.size:Nat):Int))) (0<=f/\an a[(f).toNat]? λ a=>∃ g,g<c/\b (IntKind.u64.wrap ((Sm .u64 e (IntKind.u64.wrap (a.toNat:Int)))*(1099511628211:Int))) (IntKind.i64.wrap (f+1)) d g) (K (.int .u64 e) d)
theorem uF{s1 w K}(h:qL s1 w K):CP 77 #[.string s1] w K:=ah (aA [(58,[(3,.s (.int .u64)),(4,.s (.int .i64))])]) func77 (by kernel_rfl) (by kernel_rfl) h
def sO(a b:Int)(w:World)(K:KP):=aV prog (Instr.makeSlice 175 (iv b) (iv b)) w λ b c=>∃ d e f,b=(.slice d e f)/\∃ b:Int->qN,(∃ g,b 0 c g)/\∀ c g h,b h c g->∀ i:qv,cond (decide (h<(e:Int))) (0<=(IntKind.i64.wrap ((8:Int)*h))/\an d λ i=>0<=h/\h<(e:Int)/\aP c (Addr.add i ((h).toNat*1)) (.int .u8 (IntKind.u8.wrap (Int.fdiv a (2 ^ (min ((IntKind.i64.wrap ((8:Int)*h))).toNat IntKind.u64.bits))))) λ a=>∃ i,i<g/\b (IntKind.i64.wrap (h+1)) a i) (aV prog (convert 175 9 (.slice d e f)) c λ a b=>∃ c,a=(.string c)/\K (.string c) b)
theorem wG{n1 n2 w K}(h:sO n1 n2 w K):CP 78 #[.int .u64 n1,iv n2] w K:=ah (aA [(58,[(11,.s (.int .i64))])]) func78 (by kernel_rfl) (by kernel_rfl) h
def sX(a:Int)(w:World)(K:KP):=cond (a==1) (K (iv 4) w) (cond (a==2) (K (iv 3) w) (cond (a==5) (K (iv 5) w) (∃ b:Bool->qW,(∀ c d,b d c->∀ e:qv,cond d (K (iv 1) c) (cond (a==8) (K (iv 8) c) (cond (a==10) (K (iv 16) c) (K qz c))))/\cond (a==6) (b (a==6) w) (b (a==7) w))))
theorem wI{n1 w K}(h:sX n1 w K):CP 106 #[iv n1] w K:=ah (aA [(1727,[(10,.s .bool)])]) func106 (by kernel_rfl) (by kernel_rfl) h
def BL(a:Int)(w:World)(K:KP):=∃ b:Int->OA->Nat->Nat->qN,(∃ c,b a none 0 0 w c)/\∀ a c d e f g,b d e f g a c->∀ h:qv,cond (decide (d>=128)) (aq a (.cells #[.int .u8 (Um .u8 (IntKind.u8.wrap d) (128:Int))] 5) λ h i=>aV prog (Builtin.append_ #[175,175] 175 #[.slice e f g,.slice (some (qd h 0)) 1 1]) i λ h i=>∃ j k l,h=(.slice j k l)/\0<=(7:Int)/\∃ h,h<c/\b (Int.fdiv d (2 ^ (min ((7:Int)).toNat IntKind.u64.bits))) j k l i h) (aq a (.cells #[.int .u8 (IntKind.u8.wrap d)] 5) λ a b=>aV prog (Builtin.append_ #[175,175] 175 #[.slice e f g,.slice (some (qd a 0)) 1 1]) b λ a b=>∃ c d e,a=(.slice c d e)/\aV prog (convert 175 9 (.slice c d e)) b λ a b=>∃ c,a=(.string c)/\K (.string c) b)
theorem De{n1 w K}(h:BL n1 w K):CP 107 #[.int .u64 n1] w K:=ah (aA [(28,[(0,.s (.int .u64)),(3,.s .slice)])]) func107 (by kernel_rfl) (by kernel_rfl) h
def BK(a:ByteArray)(w:World)(K:KP):=CC 107 #[.int .u64 (IntKind.u64.wrap ((a.size:Nat):Int))] w λ b c=>∃ d,b=.returned (.string d)/\((d.size+a.size:Nat):Int)<=IntKind.i64.max/\K (.string (d++a)) c
theorem Dd{s1 w K}(h:BK s1 w K):CP 108 #[.string s1] w K:=ah (aA []) func108 (by kernel_rfl) (by kernel_rfl) h
theorem Uq:gV prog 175 5 (.int .u8 0) 1 1:=gV.mk' underlying175 (by kernel_rfl) rfl (by decide)
theorem Si(n:Nat):IntKind.u8.wrap (n:Int)=((UInt8.ofNat (n%256)).toNat:Int):=by
 rw[IntKind.wrap_u8,ofNat_toNat]; omega
def ki(prev:Nat)(l:List UInt8):Nat:=Hr (FJ 8 prev++FJ 8 l.length++l)
theorem K3(l:List UInt8):Hr l<18446744073709551616:=by
 unfold Hr;have h:∀ (l:List UInt8) (h:Nat),h<18446744073709551616->l.foldl iT h<18446744073709551616:=by
  intro l
  induction l with
  | nil=>exact λ h hh=>hh
  | cons b l ih=>exact λ h _=>ih _ (vP h b)
 exact h l _ (by decide)
theorem Sh{n:Nat}(hs:n<=9223372036854775807):IntKind.u64.wrap (n:Int)=(n:Int):=IntWalk.u64_in _ (by omega)
theorem P7(w:World)(x k:Nat)(hk:k<=8):CP 78 #[.int .u64 (x:Int),iv k] w (λ r w'=>r=sv (FJ k x)/\ay w w' []):=by
 refine wG ?_;unfold sO;refine Ln Uq rfl x k hk (A:=λ a1 l1 c1 w2=>aV prog (convert 175 9 (.slice a1 l1 c1)) w2 λ e2 w4=>∃ (s1:ByteArray),e2=(.string s1)/\_) ?_;intro w2 g hc hg _;have own:=Jj hg (by rw[aU]; omega);rw[aU] at own;exact Ig (l:=FJ k x) underlying175 underlying5 underlying9 (by rw[aU]; exact own) ⟨_,rfl,rfl,hc⟩
theorem Ra(w:World)(l:List UInt8)(hs:l.length<=9223372036854775807):CP 77 #[sv l] w (λ r w'=>r=.int .u64 (Hr l:Nat)/\w' = w):=by
 refine uF ?_;unfold qL;refine⟨λ n1 n2 w1 m=>∃ i:Nat,n2=(i:Int)/\i<=l.length/\m=l.length-i/\w1=w/\n1=(((l.take i).foldl iT 14695981039346656037:Nat):Int)/\(l.take i).foldl iT 14695981039346656037<18446744073709551616,⟨l.length,0,rfl,by omega,by omega,rfl,by rw[List.take_zero,List.foldl_nil]; rfl,by rw[List.take_zero,List.foldl_nil]; omega⟩,?_⟩
 rintro w1 m n1 n2 ⟨i,rfl,hi,rfl,rfl,rfl,hlt'⟩ -;rw[eH]
 by_cases hlt:i<l.length
 ·refine cT (dT (by omega)) ⟨by omega,?_⟩;rw[Int.toNat_natCast,lZ,gE hlt];refine⟨l.length-(i+1),by omega,i+1,inc hs hlt,by omega,rfl,rfl,?_,?_⟩
  ·rw[DZ _ hlt',List.take_succ_eq_append_getElem (by omega),List.foldl_append,List.foldl_cons,List.foldl_nil]
  ·rw[List.take_succ_eq_append_getElem (by omega),List.foldl_append,List.foldl_cons,List.foldl_nil]; exact vP _ _
 ·refine cF (dF (by omega)) ⟨?_,rfl⟩;rw[List.take_of_length_le (by omega)]; rfl
theorem Nz(w:World)(x:Nat)(l:List UInt8)(hs:l.length<=4611686018427387904):CP 36 #[.int .u64 (x:Int),sv l] w (λ r w'=>r=.int .u64 (ki x l:Nat)/\ay w w' []):=by
 refine sN ?_;unfold oh;have hm:IntKind.i64.max=9223372036854775807:=rfl;refine ak (P7 w x 8 (by decide)) ?_;rintro v w1 ⟨rfl,c1⟩;refine⟨_,rfl,?_⟩;rw[eH,Sh (by omega)];refine ak (P7 w1 _ 8 (by decide)) ?_;rintro v w2 ⟨rfl,c2⟩;refine⟨_,rfl,by rw[eH,eH,aU,aU,hm]; omega,?_⟩;rw[gT,gT,eH,List.length_append,aU,aU];refine⟨by rw[hm]; omega,ak (Ra w2 _ (by simp only[List.length_append,aU]; omega)) ?_⟩;rintro v w3 ⟨rfl,rfl⟩;exact⟨_,rfl,rfl,c1.trans c2 (by simp)⟩
def wo:Nat->Nat->List UInt8
 | 0,x=>[UInt8.ofNat (x%256)]
 | k+1,x=>if x<128 then [UInt8.ofNat (x%256)] else UInt8.ofNat (x%128+128) :: wo k (x / 128)
def wq(x:Nat):List UInt8:=wo 9 x
theorem BG:∀ (k x:Nat),(wo k x).length<=k+1
 | 0,_=>Nat.le_refl _
 | k+1,x=>by
  have:=BG k (x / 128);unfold wo
  split<;>simp<;>omega
theorem fF(x:Nat):(wq x).length<=10:=BG 9 x
def wm(l:List UInt8):List UInt8:=wq l.length++l
theorem Tg:∀ a:Fin 256,Um .u8 ((a.val:Nat):Int) 128=((UInt8.ofNat (a.val%128+128)).toNat:Int):=by decide +kernel
theorem OQ(x:Nat):Um .u8 (IntKind.u8.wrap (x:Int)) 128=((UInt8.ofNat (x%128+128)).toNat:Int):=by
 have h:=Tg ⟨x%256,Nat.mod_lt _ (by decide)⟩;simp only at h;rw[IntKind.wrap_u8,show(x:Int)%256=((x%256:Nat):Int) by omega,h,Nat.mod_mod_of_dvd _ (by decide)]
theorem DC{n:Int}{b:UInt8}(h:n=(b.toNat:Int)):(Value.int .u8 n)=gi b:=by rw[h]; rfl
theorem MK(w:World)(x:Nat)(hx:x<18446744073709551616):CP 107 #[.int .u64 (x:Int)] w (λ r w'=>r=sv (wq x)/\ay w w' []):=by
 refine De ?_;unfold BL;refine⟨λ n a l c w1 m=>∃ (y:Nat) (xs:List UInt8),n=(y:Int)/\y<128 ^ (m+1)/\m<=9/\xs.length+m=9/\l=xs.length/\xs++wo m y=wq x/\St w w1 (star (lE 5 1 (.slice a l c) xs.length (xs.map gi)) emp),⟨9,x,[],rfl,by omega,by omega,rfl,rfl,rfl,(((St.start w).Lw 5 1).swap)⟩,?_⟩
 rintro w1 m n a l c ⟨y,xs,rfl,hy,hm,hlen,rfl,he,hst⟩ -
 by_cases h128:128<=y
 ·refine cT (dT (by omega)) ?_;obtain⟨m',rfl⟩:∃ m',m=m' + 1:=by
   cases m with
   | zero=>simp at hy; omega
   | succ m'=>exact⟨m',rfl⟩
  refine BS Uq hst (news:=[gi (UInt8.ofNat (y%128+128))]) rfl (by simp[gi,Value.oneCell']) (by omega) (by omega) (λ a2 c2 w3 h3=>?_) (by rw[DC (OQ y)]);refine⟨by decide,m',by omega,y / 128,xs++[UInt8.ofNat (y%128+128)],?_,?_,by omega,by simp; omega,by simp,?_,by simpa using h3⟩
  ·rw[show(2:Int) ^ (min (7:Int).toNat IntKind.u64.bits)=128 from rfl,Int.fdiv_eq_ediv_of_nonneg _ (by omega)]; omega
  ·rw[Nat.pow_succ] at hy; omega
  ·rw[<- he]
   conv=>rhs; unfold wo
   rw[if_neg (by omega)]
   simp
 ·refine cF (dF (by omega)) ?_;have hu:wo m y=[UInt8.ofNat (y%256)]:=by
   cases m with
   | zero=>rfl
   | succ m'=>unfold wo; rw[if_pos (by omega)]
  refine BS Uq hst (news:=[gi (UInt8.ofNat (y%256))]) rfl (by simp[gi,Value.oneCell']) (by omega) (by omega) (λ a2 c2 w3 h3=>?_) (by rw[DC (Si y)]);have h4:St w w3 (star (lE 5 1 (.slice a2 (xs.length+1) c2) (wq x).length ((wq x).map gi)) emp):=by
   rw[<- he,hu]; simpa using h3
  exact MF underlying175 underlying5 underlying9 h4 ⟨_,rfl,rfl,h4.au⟩
theorem uh(w:World)(n:Int)(h:0<=n/\n<=9223372036854775807):CP 107 #[.int .u64 (IntKind.u64.wrap n)] w (λ r w'=>r=sv (wq n.toNat)/\ay w w' []):=by
 have e:IntKind.u64.wrap n=((n.toNat:Nat):Int):=by rw[IntWalk.u64_in _ (by omega)]; omega
 rw[e];exact MK w _ (by omega)
theorem Sg(w:World)(l:List UInt8)(hs:l.length<=4611686018427387904):CP 108 #[sv l] w (λ r w'=>r=sv (wm l)/\ay w w' []):=by
 refine Dd ?_;unfold BK;have hm:IntKind.i64.max=9223372036854775807:=rfl;rw[eH];refine ak (uh w _ (by omega)) ?_;rintro v w1 ⟨rfl,c1⟩;have:=fF l.length;refine⟨_,rfl,?_,?_,c1⟩
 ·rw[eH,hm,Int.toNat_natCast]; omega
 ·rw[gT]; rfl
structure Ev where
 kind:Int
 bidder:Int
 round:Int
 want:I6
 text:List UInt8
 digest:Int
def Ev.cells(e:Ev):List Value:=iv e.kind :: (iv e.bidder :: (iv e.round :: (e.want.on [sv e.text,.int .u64 e.digest])))
def Ev.v(e:Ev):Value:=.agg e.cells.toArray
structure Ev.In (e:Ev):Prop where
 d:0<=e.digest/\e.digest<18446744073709551616
theorem Ev.one(e:Ev):∀ v∈e.cells,v.oneCell' = true:=by
 intro v hv;simp only[Ev.cells,I6.on,List.mem_cons,List.mem_nil_iff,or_false] at hv;rcases hv with rfl|rfl|rfl|rfl|rfl|rfl|rfl|rfl|rfl|rfl|rfl<;>rfl
def rK(k:Int):Int:=if k=1 then 4 else if k=2 then 3 else if k=5 then 5 else if k=6\/k=7 then 1 else if k=8 then 8 else if k=10 then 16 else 0
theorem DT(w:World)(n:Int):CP 106 #[iv n] w (λ r w'=>r=iv (rK n)/\w' = w):=by
 refine wI ?_;unfold sX
 by_cases h1:n=1
 ·exact cT (by simpa using h1) ⟨by simp[rK,h1],rfl⟩
 refine cF (by simpa using h1) ?_
 by_cases h2:n=2
 ·exact cT (by simpa using h2) ⟨by simp[rK,h2],rfl⟩
 refine cF (by simpa using h2) ?_
 by_cases h5:n=5
 ·exact cT (by simpa using h5) ⟨by simp[rK,h5],rfl⟩
 refine cF (by simpa using h5) ⟨λ b w1=>w1=w/\b=decide (n=6\/n=7),?_,?_⟩
 ·rintro w1 b ⟨rfl,rfl⟩ -
  by_cases h67:n=6\/n=7
  ·exact cT (by simpa using h67) ⟨by simp[rK,h1,h2,h5,h67],rfl⟩
  refine cF (dF h67) ?_
  by_cases h8:n=8
  ·exact cT (by simpa using h8) ⟨by simp[rK,h8],rfl⟩
  refine cF (by simpa using h8) ?_
  by_cases h10:n=10
  ·exact cT (by simpa using h10) ⟨by simp[rK,h10],rfl⟩
  ·exact cF (by simpa using h10) ⟨by simp[rK,h1,h2,h5,h67,h8,h10],rfl⟩
 ·by_cases h6:n=6
  ·exact cT (by simpa using h6) ⟨rfl,by simp[h6]⟩
  ·refine cF (by simpa using h6) ⟨rfl,?_⟩
   by_cases h7:n=7
   ·simp[h7]
   ·simp[h6,h7]
def fB(k:Int):Bool:=decide (k=2\/k=5\/k=6\/k=7)
def fW(k:Int):Bool:=decide (k=2)
def fT(k:Int):Bool:=decide (k=1\/k=5)
def fR(k:Int):Bool:=decide (k=8)
def fD(k:Int):Bool:=decide (k=10)
theorem DX(k:Int):(rj .i64 (rK k) 1 !=0)=fB k/\(rj .i64 (rK k) 2 !=0)=fW k/\(rj .i64 (rK k) 4 !=0)=fT k/\(rj .i64 (rK k) 8 !=0)=fR k/\(rj .i64 (rK k) 16 !=0)=fD k:=by
 by_cases h1:k=1
 ·subst h1; decide +kernel
 by_cases h2:k=2
 ·subst h2; decide +kernel
 by_cases h5:k=5
 ·subst h5; decide +kernel
 by_cases h6:k=6
 ·subst h6; decide +kernel
 by_cases h7:k=7
 ·subst h7; decide +kernel
 by_cases h8:k=8
 ·subst h8; decide +kernel
 by_cases h10:k=10
 ·subst h10; decide +kernel
 have e:rK k=0:=by simp[rK,h1,h2,h5,h6,h7,h8,h10]
 rw[e];simp only[fB,fW,fT,fR,fD,h1,h2,h5,h6,h7,h8,h10,or_self,decide_false]
 decide +kernel
def dB(e:Ev):Ev:=⟨e.kind,if fB e.kind then e.bidder else 0,if fR e.kind then e.round else 0,if fW e.kind then e.want else z6,if fT e.kind then e.text else [],if fD e.kind then e.digest else 0⟩
theorem Qx(w:World)(e:Ev):CP 64 #[e.v] w (λ r w'=>r=(dB e).v/\ay w w' []):=by
 refine Aq ?_;unfold yF;let z:Ev:=⟨0,0,0,z6,[],0⟩;refine(St.start w).one.ax e.cells.toArray λ r1 w1 s1=>s1.ax z.cells.toArray λ r2 w2 s2=>?_;refine⟨_,s2.ag 1 rfl 0,ak (DT w2 e.kind) ?_⟩;rintro v w3 ⟨rfl,rfl⟩;refine⟨_,rfl,_,s2.ag 1 rfl 0,s2.ax z.cells.toArray λ r3 w4 s3=>?_⟩;refine s3.az 0 rfl ({ z with kind:=e.kind }:Ev).cells rfl (Ev.one _) λ w5 s5=>?_;obtain⟨g1,g2,g3,g4,g5⟩:=DX e.kind;rw[g1,g2,g3,g4,g5];let P:Ev->World->Prop:=λ x w'=>St w w' (Sep [ai r3 x.cells.toArray 47,ai r2 z.cells.toArray 47,ai r1 e.cells.toArray 47,emp]);let b1:Ev:={ z with kind:=e.kind,bidder:=if fB e.kind then e.bidder else 0 };let b2:Ev:={ b1 with want:=if fW e.kind then e.want else z6 };let b3:Ev:={ b2 with text:=if fT e.kind then e.text else [] };let b4:Ev:={ b3 with round:=if fR e.kind then e.round else 0 };refine⟨P b1,?_,?_⟩
 rotate_left
 ·cases h:fB e.kind with
  | true =>
   refine cT rfl ⟨_,s5.ag 2 rfl 1,s5.aK 0 rfl (by show 1<11; decide) rfl λ w6 s6=>?_⟩;show P b1 w6;have:b1={ z with kind:=e.kind,bidder:=e.bidder }:=by simp[b1,h]
   rw[this]; exact s6
  | false =>
   refine cF rfl ?_;have:b1={ z with kind:=e.kind }:=by simp[b1,h,z]
   show P b1 w5;rw[this]; exact s5
 rintro w6 s6 -;refine⟨P b2,?_,?_⟩
 rotate_left
 ·cases h:fW e.kind with
  | true =>
   refine cT rfl ⟨e.want,?_,?_⟩
   ·exact br _ 0 λ j v hj=>by
     have hj6:=(List.getElem?_eq_some_iff.1 hj).1;have h6:j<6:=hj6;rw[bq,Nat.zero_add,s6.ag 2 rfl]
     match j,h6,hj with
     | 0,_,hj|1,_,hj|2,_,hj|3,_,hj|4,_,hj|5,_,hj=>simpa[Ev.cells,I6.on,I6.vs] using hj
   ·have a3:∀ {w' : World} {R:World->Prop} {x:Ev},P x w'->(∀ w'',P { x with want:=e.want } w''->R w'')->aL ⟨r3,3,none⟩ 0 e.want.vs w' R:=λ {w' R x} hp k=>by
     refine St.aK hp 0 rfl (by show 3<11; decide) rfl λ w1 t1=>t1.aK 0 rfl (by show 4<11; decide) rfl λ w2 t2=>t2.aK 0 rfl (by show 5<11; decide) rfl λ w3 t3=>t3.aK 0 rfl (by show 6<11; decide) rfl λ w4 t4=>t4.aK 0 rfl (by show 7<11; decide) rfl λ w5 t5=>t5.aK 0 rfl (by show 8<11; decide) rfl λ w6 t6=>k w6 t6
    refine a3 s6 λ w7 s7=>?_;have:b2={ b1 with want:=e.want }:=by simp[b2,h]
    show P b2 w7;rw[this]; exact s7
  | false =>
   refine cF rfl ?_;have:b2=b1:=by simp[b2,h,b1,z]
   show P b2 w6;rw[this]; exact s6
 rintro w7 s7 -;refine⟨P b3,?_,?_⟩
 rotate_left
 ·cases h:fT e.kind with
  | true =>
   refine cT rfl ⟨_,St.ag s7 2 rfl 9,St.aK s7 0 rfl (by show 9<11; decide) rfl λ w6 s6=>?_⟩;have:b3={ b2 with text:=e.text }:=by simp[b3,h]
   show P b3 w6;rw[this]; exact s6
  | false =>
   refine cF rfl ?_;have:b3=b2:=by simp[b3,h,b2,b1,z]
   show P b3 w7;rw[this]; exact s7
 rintro w8 s8 -;refine⟨P b4,?_,?_⟩
 rotate_left
 ·cases h:fR e.kind with
  | true =>
   refine cT rfl ⟨_,St.ag s8 2 rfl 2,St.aK s8 0 rfl (by show 2<11; decide) rfl λ w6 s6=>?_⟩;have:b4={ b3 with round:=e.round }:=by simp[b4,h]
   show P b4 w6;rw[this]; exact s6
  | false =>
   refine cF rfl ?_;have:b4=b3:=by simp[b4,h,b3,b2,b1,z]
   show P b4 w8;rw[this]; exact s8
 rintro w9 s9 -;refine⟨P (dB e),?_,?_⟩
 rotate_left
 ·cases h:fD e.kind with
  | true =>
   refine cT rfl ⟨_,St.ag s9 2 rfl 10,St.aK s9 0 rfl (by show 10<11; decide) rfl λ w6 s6=>?_⟩;have:dB e={ b4 with digest:=e.digest }:=by simp[dB,h,b4,b3,b2,b1]
   show P (dB e) w6;rw[this]; exact s6
  | false =>
   refine cF rfl ?_;have:dB e=b4:=by simp[dB,h,b4,b3,b2,b1,z]
   show P (dB e) w9;rw[this]; exact s9
 rintro w10 s10 -;refine⟨_,_,_,(dB e).want,_,_,St.cellsIn s10 0 rfl,St.az s10 1 rfl (dB e).cells rfl (Ev.one _) λ w11 s11=>?_⟩;exact⟨_,_,_,(dB e).want,_,_,s11.cellsIn 1 rfl,rfl,s11.au⟩
def names:List (List UInt8):=[[],[115,97,108,101],[100,101,109,97,110,100],[114,111,117,110,100],[115,116,111,112],[98,105,100],[119,105,116,104,100,114,97,119],[100,105,115,113,117,97,108,105,102,121],[114,101,114,117,110],[99,108,111,115,101],[100,101,99,105,100,101]]
def vU(k:Int):List UInt8:=if 1<=k/\k<=10 then names.getD k.toNat [] else []
theorem uV(k:Int):vU k=[]<->¬ (1<=k/\k<=10):=by
 unfold vU
 by_cases h:1<=k/\k<=10
 ·rw[if_pos h];refine⟨λ e=>?_,λ e=>absurd h e⟩;obtain⟨j,rfl⟩:∃ j:Nat,k=j:=⟨k.toNat,by omega⟩;rw[Int.toNat_natCast] at e;have:1<=j/\j<=10:=by omega
  match j,this with
  | 1,_|2,_|3,_|4,_|5,_|6,_|7,_|8,_|9,_|10,_=>simp[names] at e
 ·rw[if_neg h]; simp[h]
theorem Rp(w:World)(k:Int):CP 63 #[iv k] w (λ r w'=>r=sv (vU k)/\ay w w' []):=by
 refine Ap ?_;unfold yE;refine(St.start w).one.ax (List.replicate 11 (sv [])).toArray λ r1 w1 s1=>?_;refine s1.az 0 rfl (names.map sv) rfl (by intro v hv; obtain⟨x,_,rfl⟩:=List.mem_map.1 hv; rfl) λ w2 s2=>?_;refine⟨λ b w3=>w3=w2/\b=decide (¬ (1<=k/\k<=10)),?_,?_⟩
 ·rintro w3 b ⟨rfl,rfl⟩ -
  by_cases h:1<=k/\k<=10
  ·have hj:k.toNat<11:=by omega
   have e:vU k=names.getD k.toNat []:=by simp[vU,h]
   refine cF (by simp; omega) ⟨by omega,by omega,bs (vU k),?_,rfl,s2.au⟩;rw[bq,Nat.zero_add,Nat.mul_one,s2.ag 0 rfl,e];generalize k.toNat=j at hj
   match j,hj with
   | 0,_|1,_|2,_|3,_|4,_|5,_|6,_|7,_|8,_|9,_|10,_=>rfl
  ·exact cT (dT h) ⟨by rw[(uV k).2 h],s2.au⟩
 ·by_cases h:k<1
  ·exact cT (dT h) ⟨rfl,by simp; omega⟩
  ·exact cF (dF h) ⟨rfl,decide_eq_decide.2 (by omega)⟩
def nB(n:Int):List UInt8:=wq n.toNat
def cK(e:Ev):List UInt8 :=
 nB e.kind++(if fB e.kind then nB e.bidder else [])++(if fR e.kind then nB e.round else [])++(if fW e.kind then e.want.l.flatMap nB else [])++(if fT e.kind then wm e.text else [])++(if fD e.kind then nB e.digest else [])
structure Ev.Sp (e:Ev):Prop where
 k:0<=e.kind/\e.kind<=10
 b:0<=e.bidder/\e.bidder<8
 r:0<=e.round/\e.round<30
 w:I6.Le e.want 4
 t:e.text.length<=4000
 d:0<=e.digest/\e.digest<18446744073709551616
theorem Cy(n:Int):(nB n).length<=10:=fF _
theorem Hl(l:List Int):(l.flatMap nB).length<=10*l.length:=by
 induction l with
 | nil=>simp
 | cons x l ih=>have:=Cy x; simp only[List.flatMap_cons,List.length_append,List.length_cons]; omega
theorem GW(w:World){e:Ev}(h:e.Sp):CP 66 #[e.v] w (λ r w'=>r=sv (cK e)/\ay w w' []):=by
 refine yG ?_;unfold vL;have hk:=h.k; have hb:=h.b; have hr:=h.r; have ht:=h.t; have hd:=h.d;have hm:IntKind.i64.max=9223372036854775807:=rfl;refine(St.start w).one.ax e.cells.toArray λ r1 w1 s1=>?_;refine⟨_,s1.ag 0 rfl 0,ak (DT w1 e.kind) ?_⟩;rintro v w2 ⟨rfl,rfl⟩;refine⟨_,rfl,_,s1.ag 0 rfl 0,ak (uh w2 e.kind (by omega)) ?_⟩;rintro v w3 ⟨rfl,c3⟩;obtain⟨g1,g2,g3,g4,g5⟩:=DX e.kind;rw[g1,g2,g3,g4,g5];have s3:=s1.quiet c3;have l0:=Cy e.kind;let J:Nat->List UInt8->ByteArray->World->Prop:=λ n l s w'=>s=bs l/\l.length<=n/\St w w' (Sep [ai r1 e.cells.toArray 47,emp]);refine⟨_,rfl,J 20 (nB e.kind++(if fB e.kind then nB e.bidder else [])),?_,?_⟩
 rotate_left
 ·cases hf:fB e.kind with
  | true =>
   refine cT rfl ⟨_,s3.ag 0 rfl 1,ak (uh w3 e.bidder (by omega)) ?_⟩;rintro v w4 ⟨rfl,c4⟩;have:=Cy e.bidder;exact⟨_,rfl,by rw[eH,eH,hm]; unfold nB at *; omega,gT _ _,by simp only[List.length_append,if_true]; omega,s3.quiet c4⟩
  | false=>exact cF rfl ⟨by simp; rfl,by simp; omega,s3⟩
 rintro w4 s ⟨rfl,l1,s4⟩ -;refine⟨J 30 (nB e.kind++(if fB e.kind then nB e.bidder else [])++(if fR e.kind then nB e.round else [])),?_,?_⟩
 rotate_left
 ·generalize nB e.kind++(if fB e.kind then nB e.bidder else [])=l at *
  cases hf:fR e.kind with
  | true =>
   refine cT rfl ⟨_,s4.ag 0 rfl 2,ak (uh w4 e.round (by omega)) ?_⟩;rintro v w5 ⟨rfl,c5⟩;have:=Cy e.round;exact⟨_,rfl,by rw[eH,eH,hm]; unfold nB at *; omega,gT _ _,by simp only[List.length_append,if_true]; omega,s4.quiet c5⟩
  | false=>exact cF rfl ⟨by simp,by simp; omega,s4⟩
 clear l1 s4 l0 s3;rintro w5 s ⟨rfl,l1,s5⟩ -;refine⟨J 90 (nB e.kind++(if fB e.kind then nB e.bidder else [])++(if fR e.kind then nB e.round else [])++(if fW e.kind then e.want.l.flatMap nB else [])),?_,?_⟩
 rotate_left
 ·generalize nB e.kind++(if fB e.kind then nB e.bidder else [])++(if fR e.kind then nB e.round else [])=l at *
  cases hf:fW e.kind with
  | true =>
   refine cT rfl ⟨e.want,?_,λ s n w6 m=>∃ k:Nat,n=k/\k<=6/\m=6-k/\s=bs (l++(e.want.l.take k).flatMap nB)/\St w w6 (Sep [ai r1 e.cells.toArray 47,emp]),⟨6,0,rfl,by omega,by omega,by simp,s5⟩,?_⟩
   ·exact br _ 0 λ j v hj=>by
     have h6:j<6:=(List.getElem?_eq_some_iff.1 hj).1;rw[bq,Nat.zero_add,s5.ag 0 rfl]
     match j,h6,hj with
     | 0,_,hj|1,_,hj|2,_,hj|3,_,hj|4,_,hj|5,_,hj=>simpa[Ev.cells,I6.on,I6.vs] using hj
   rintro w6 m s n ⟨k,rfl,hk6,hm6,rfl,s6⟩ -
   by_cases hlt:(k:Int)<6
   ·have hk' : k<6:=by omega
    have hw:=h.w k hk';refine cT (dT hlt) ⟨by omega,by omega,_,e.want.get k hk',ak (uh w6 _ (by omega)) ?_⟩;rintro v w7 ⟨rfl,c7⟩;have q1:=Hl (e.want.l.take k);have q2:(e.want.l.take k).length<=6:=by simp[I6.len]; omega
    have q3:=fF (e.want.at' k).toNat;refine⟨_,rfl,by rw[eH,eH,List.length_append,hm]; omega,6-(k+1),by omega,k+1,inc (by decide) hk',by omega,rfl,?_,s6.quiet c7⟩;rw[gT,aG (e.want.oP k hk'),List.flatMap_append,<- List.append_assoc]; simp[nB]
   ·obtain rfl:k=6:=by omega
    have q1:=Hl e.want.l;have q2:e.want.l.length=6:=rfl;refine cF (by simp) ⟨rfl,?_,s6⟩;simp only[List.length_append,if_true]; omega
  | false=>exact cF rfl ⟨by simp,by simp; omega,s5⟩
 clear l1 s5;rintro w6 s ⟨rfl,l1,s6⟩ -;refine⟨J 4100 (nB e.kind++(if fB e.kind then nB e.bidder else [])++(if fR e.kind then nB e.round else [])++(if fW e.kind then e.want.l.flatMap nB else [])++(if fT e.kind then wm e.text else [])),?_,?_⟩
 rotate_left
 ·generalize nB e.kind++(if fB e.kind then nB e.bidder else [])++(if fR e.kind then nB e.round else [])++(if fW e.kind then e.want.l.flatMap nB else [])=l at *
  cases hf:fT e.kind with
  | true =>
   refine cT rfl ⟨_,s6.ag 0 rfl 9,ak (Sg w6 e.text (by omega)) ?_⟩;rintro v w7 ⟨rfl,c7⟩;have q:=fF e.text.length;have q2:(wm e.text).length<=4010:=by unfold wm; rw[List.length_append]; omega
   exact⟨_,rfl,by rw[eH,eH,hm]; omega,gT _ _,by simp only[List.length_append,if_true]; omega,s6.quiet c7⟩
  | false=>exact cF rfl ⟨by simp,by simp; omega,s6⟩
 clear l1 s6;rintro w7 s ⟨rfl,l1,s7⟩ -;refine⟨λ s w'=>s=bs (cK e)/\ay w w' [],?_,?_⟩
 ·rintro w8 s ⟨rfl,c8⟩ -;exact⟨rfl,c8⟩
 ·unfold cK;generalize nB e.kind++(if fB e.kind then nB e.bidder else [])++(if fR e.kind then nB e.round else [])++(if fW e.kind then e.want.l.flatMap nB else [])++(if fT e.kind then wm e.text else [])=l at *
  cases hf:fD e.kind with
  | true =>
   have e1:e.digest=((e.digest.toNat:Nat):Int):=by omega
   refine cT rfl ⟨_,s7.ag 0 rfl 10,?_⟩;rw[e1];refine ak (MK w7 e.digest.toNat (by omega)) ?_;rintro v w8 ⟨rfl,c8⟩;have:=fF e.digest.toNat;exact⟨_,rfl,by rw[eH,eH,hm]; omega,gT _ _,(s7.quiet c8).au⟩
  | false=>exact cF rfl ⟨by simp,s7.au⟩
theorem Ev.ext'{a b:Ev}(h1:a.kind=b.kind)(h2:a.bidder=b.bidder)(h3:a.round=b.round)(h4:a.want=b.want)(h5:a.text=b.text)(h6:a.digest=b.digest):a=b:=by
 cases a; cases b; simp_all
instance:DecidableEq Ev:=λ a b =>
 if h:a.kind=b.kind/\a.bidder=b.bidder/\a.round=b.round/\a.want=b.want/\a.text=b.text/\a.digest=b.digest then .isTrue (Ev.ext' h.1 h.2.1 h.2.2.1 h.2.2.2.1 h.2.2.2.2.1 h.2.2.2.2.2)
 else .isFalse λ e=>h (by subst e; exact⟨rfl,rfl,rfl,rfl,rfl,rfl⟩)
def cI(e:Ev):Int :=
 if ¬ (1<=e.kind/\e.kind<=10)\/e≠dB e then 2
 else if e.bidder<0\/8<=e.bidder\/e.round<0\/30<=e.round\/e.want.l.all eY=false then 4
 else if 4000<e.text.length\/4000<(cK e).length then 3 else 0
theorem uK{e:Ev}(h:cI e=0)(hd:0<=e.digest/\e.digest<18446744073709551616):e.Sp:=by
 unfold cI at h
 split at h
 ·cases h
 ·rename_i h1
  split at h
  ·cases h
  ·rename_i h2
   split at h
   ·cases h
   ·rename_i h3;have hw:e.want.l.all eY=true:=by
     cases hq:e.want.l.all eY with
     | true=>rfl
     | false=>exact absurd (.inr (.inr (.inr (.inr hq)))) h2
    exact⟨by omega,by omega,by omega,JT hw,by omega,hd⟩
theorem QE(a b:List UInt8):(bs a==bs b)=(a==b):=by
 show((bs a).data==(bs b).data)=_;simp[bs]
theorem AY(w:World){e:Ev}(hi:e.In):CP 29 #[e.v] w (λ r w'=>r=iv (cI e)/\ay w w' []):=by
 refine yD ?_;unfold vK;refine(St.start w).one.ax e.cells.toArray λ r1 w1 s1=>?_;let Q1:Prop:=¬ (1<=e.kind/\e.kind<=10)\/e≠dB e;let Q2:Prop:=e.bidder<0\/8<=e.bidder\/e.round<0\/30<=e.round\/e.want.l.all eY=false;let Q3:Prop:=4000<e.text.length\/4000<(cK e).length;refine⟨λ b w2=>(b=true<->Q1)/\ay w1 w2 [],?_,?_⟩
 ·rintro w2 b ⟨hb,c2⟩ -;have s2:=s1.quiet c2
  cases b with
  | true=>exact cT rfl ⟨by unfold cI; rw[if_pos (hb.1 rfl)],s2.au⟩
  | false =>
   have n1 : ¬ Q1:=λ h=>by have:=hb.2 h; cases this
   refine cF rfl ⟨λ b w3=>(b=true<->Q2)/\ay w1 w3 [],?_,?_⟩
   ·rintro w3 b ⟨hb,c3⟩ -;have s3:=s1.quiet c3
    cases b with
    | true=>exact cT rfl ⟨by unfold cI; rw[if_neg n1,if_pos (hb.1 rfl)],s3.au⟩
    | false =>
     have n2 : ¬ Q2:=λ h=>by have:=hb.2 h; cases this
     refine cF rfl ⟨λ b w4=>(b=true<->Q3)/\ay w1 w4 [],?_,_,s3.ag 0 rfl 9,?_⟩
     ·rintro w4 b ⟨hb,c4⟩ -;have s4:=s1.quiet c4
      cases b with
      | true=>exact cT rfl ⟨by unfold cI; rw[if_neg n1,if_neg n2,if_pos (hb.1 rfl)],s4.au⟩
      | false =>
       have n3 : ¬ Q3:=λ h=>by have:=hb.2 h; cases this
       exact cF rfl ⟨by unfold cI; rw[if_neg n1,if_neg n2,if_neg n3],s4.au⟩
     ·rw[eH]
      by_cases ht:4000<e.text.length
      ·exact cT (dT (by omega)) ⟨⟨λ _=>.inl ht,λ _=>rfl⟩,c3⟩
      ·have hw:e.want.l.all eY=true:=by
        cases hq:e.want.l.all eY with
        | true=>rfl
        | false=>exact absurd (.inr (.inr (.inr (.inr hq)))) n2
       have hr:e.Sp:=⟨by omega,by omega,by omega,JT hw,by omega,hi.d⟩;refine cF (dF (by omega)) ⟨_,_,_,e.want,_,_,s3.cellsIn 0 rfl,ak (GW w3 hr) ?_⟩;rintro v w5 ⟨rfl,c5⟩;refine⟨_,rfl,?_,c3.trans c5 (by simp)⟩;rw[eH,decide_eq_true_eq];exact⟨λ h=>.inr (by omega),λ h=>by rcases h with h|h<;>omega⟩
   ·refine⟨_,s2.ag 0 rfl 1,?_⟩
    by_cases g1:e.bidder<0
    ·exact cT (dT g1) ⟨⟨λ _=>.inl g1,λ _=>rfl⟩,c2⟩
    refine cF (dF g1) ⟨_,s2.ag 0 rfl 1,?_⟩
    by_cases g2:e.bidder>=8
    ·exact cT (dT g2) ⟨⟨λ _=>.inr (.inl g2),λ _=>rfl⟩,c2⟩
    refine cF (dF g2) ⟨_,s2.ag 0 rfl 2,?_⟩
    by_cases g3:e.round<0
    ·exact cT (dT g3) ⟨⟨λ _=>.inr (.inr (.inl g3)),λ _=>rfl⟩,c2⟩
    refine cF (dF g3) ⟨_,s2.ag 0 rfl 2,?_⟩
    by_cases g4:e.round>=30
    ·exact cT (dT g4) ⟨⟨λ _=>.inr (.inr (.inr (.inl g4))),λ _=>rfl⟩,c2⟩
    refine cF (dF g4) ⟨e.want,?_,ak (bN w2 e.want) ?_⟩
    ·exact br _ 0 λ j v hj=>by
      have h6:j<6:=(List.getElem?_eq_some_iff.1 hj).1;rw[bq,Nat.zero_add,s2.ag 0 rfl]
      match j,h6,hj with
      | 0,_,hj|1,_,hj|2,_,hj|3,_,hj|4,_,hj|5,_,hj=>simpa[Ev.cells,I6.on,I6.vs] using hj
    ·rintro v w6 ⟨rfl,c6⟩;refine⟨_,rfl,?_,c2.trans c6 (by simp)⟩
     cases hq:e.want.l.all eY with
     | true=>exact⟨λ h=>by simp at h,λ h=>by rcases h with h|h|h|h|h<;>first|omega|(rw[hq] at h; cases h)⟩
     | false=>exact⟨λ _=>.inr (.inr (.inr (.inr hq))),λ _=>by simp⟩
 ·have s1':=s1.quiet (ay.drew w1 []);refine⟨_,s1'.ag 0 rfl 0,ak (Rp _ e.kind) ?_⟩;rintro v w7 ⟨rfl,c7⟩;have s7:=s1'.quiet c7;have c17:ay w1 w7 []:=(ay.drew w1 []).trans c7 (by simp);refine⟨_,rfl,?_⟩
  by_cases hk:1<=e.kind/\e.kind<=10
  ·have hne:vU e.kind≠[]:=λ h=>(uV _).1 h hk;refine cF (by rw[iI,iI]; simpa using hne) ⟨_,_,_,e.want,_,_,s7.cellsIn 0 rfl,_,_,_,e.want,_,_,s7.cellsIn 0 rfl,ak (Qx w7 e) ?_⟩;rintro v w8 ⟨rfl,c8⟩;refine⟨_,_,_,(dB e).want,_,_,rfl,(s7.quiet c8).cellsIn 0 rfl,?_,c17.trans c8 (by simp)⟩;simp only[I6.beq_eq,QE,Bool.and_true,Bool.not_eq_true',Bool.and_eq_false_iff,beq_eq_false_iff_ne,ne_eq,decide_eq_false_iff_not];constructor
   ·intro h;refine .inr λ he=>?_;rcases h with h|h|h|h|h|h<;>apply h<;>rw[<- he]
   ·intro h;rcases h with h|h
    ·exact absurd hk h
    ·by_cases q1:e.kind=(dB e).kind
     ·by_cases q2:e.bidder=(dB e).bidder
      ·by_cases q3:e.round=(dB e).round
       ·by_cases q4:e.want=(dB e).want
        ·by_cases q5:e.text=(dB e).text
         ·by_cases q6:e.digest=(dB e).digest
          ·exact absurd (Ev.ext' q1 q2 q3 q4 q5 q6) h
          ·exact .inr (.inr (.inr (.inr (.inr q6))))
         ·exact .inr (.inr (.inr (.inr (.inl q5))))
        ·exact .inr (.inr (.inr (.inl q4)))
       ·exact .inr (.inr (.inl q3))
      ·exact .inr (.inl q2)
     ·exact .inl q1
  ·have hne:vU e.kind=[]:=(uV _).2 hk;exact cT (by rw[iI,iI,hne]; rfl) ⟨⟨λ _=>.inl hk,λ _=>rfl⟩,c17⟩
theorem Kz(w:World){e:Ev}(hi:e.In):CP 35 #[e.v] w (λ r w'=>r=.tuple #[sv (if cI e=0 then cK e else []),iv (cI e)]/\ay w w' []):=by
 refine wH ?_;unfold sW;refine(St.start w).one.ax e.cells.toArray λ r1 w1 s1=>?_;refine⟨_,_,_,e.want,_,_,s1.cellsIn 0 rfl,ak (AY w1 hi) ?_⟩;rintro v w2 ⟨rfl,c2⟩;refine⟨_,rfl,?_⟩;have s2:=s1.quiet c2
 by_cases h0:cI e=0
 ·refine cF (by simpa using h0) ⟨_,_,_,e.want,_,_,s2.cellsIn 0 rfl,ak (GW w2 (uK h0 hi.d)) ?_⟩;rintro v w3 ⟨rfl,c3⟩;exact⟨_,rfl,by rw[if_pos h0,h0],(s2.quiet c3).au⟩
 ·exact cT (by simpa using h0) ⟨by rw[if_neg h0],s2.au⟩
theorem EX{S:Sx}(h:S.bd.length=8)(x:Int):S.cells.toArray.setIfInBounds 4 (iv x)=({ S with ph:=x }:Sx).cells.toArray:=by
 obtain⟨o,ph,s,k,bd,dec,cnt,dig⟩:=S;obtain⟨b0,b1,b2,b3,b4,b5,b6,b7,rfl⟩:=bH h;rfl
theorem R8{S:Sx}(h:S.bd.length=8)(x:Int):S.cells.toArray.setIfInBounds 98 (.int .u64 x)=({ S with dec:=x }:Sx).cells.toArray:=by
 obtain⟨o,ph,s,k,bd,dec,cnt,dig⟩:=S;obtain⟨b0,b1,b2,b3,b4,b5,b6,b7,rfl⟩:=bH h;rfl
theorem R9{S:Sx}(h:S.bd.length=8){i:Nat}(hi:i<8){y:Bd}(hy:S.bd[i]?=some y):S.cells.toArray[10+i*11+9]?=some (.bool y.has):=by
 obtain⟨o,ph,s,k,bd,dec,cnt,dig⟩:=S;obtain⟨b0,b1,b2,b3,b4,b5,b6,b7,rfl⟩:=bH h
 match i,hi with
 | 0,_|1,_|2,_|3,_|4,_|5,_|6,_|7,_=>cases hy; rfl
theorem dA{S:Sx}(h:S.bd.length=8):S.cells.toArray.size=101:=by simpa using Sx.len h
section
variable {w0 w:World} {b:Nat} {S:Sx} {m:List aC}
def oH(S:Sx)(e:Ev):Sx:=if e.kind=10 then { S with ph:=4,dec:=e.digest } else { S with ph:=3 }
theorem KO(s:St w0 w (Sep (ai b S.cells.toArray 86 :: m)))(h:S.bd.length=8)(e:Ev) :
  CP 76 #[.pointer (some ⟨b,0,none⟩),e.v] w (λ r w'=>r=iv 0/\St w0 w' (Sep (ai b (oH S e).cells.toArray 86 :: m))):=by
 refine nX (u1:=e.want) ?_;unfold jj;refine s.ax e.cells.toArray λ r1 w1 s1=>s1.aK 1 rfl (j:=4) (by rw[dA h]; omega) rfl λ w2 s2=>?_;rw[EX h] at s2;have s2:St w0 w2 (Sep (ai r1 e.cells.toArray 47 :: ai b ({ S with ph:=3 }:Sx).cells.toArray 86 :: m)):=s2;refine⟨λ w3=>St w0 w3 (Sep (ai r1 e.cells.toArray 47 :: ai b (oH S e).cells.toArray 86 :: m)),λ w3 s3 _=>⟨rfl,s3.second⟩,_,s2.ag 0 rfl 0,?_⟩
 by_cases h10:e.kind=10
 ·have h3:({ S with ph:=3 }:Sx).bd.length=8:=h;have h4:({ S with ph:=4 }:Sx).bd.length=8:=h;have s3:=s2.quiet (ay.drew w2 []);refine cT (by simpa using h10) ⟨_,s3.ag 0 rfl 10,s3.aK 1 rfl (j:=4) (by rw[dA h3]; omega) rfl λ w4 s4=>?_⟩;rw[EX h3] at s4;have s4:St w0 w4 (Sep (ai r1 e.cells.toArray 47 :: ai b ({ S with ph:=4 }:Sx).cells.toArray 86 :: m)):=s4;refine⟨s4.ag 0 rfl 10,s4.aK 1 rfl (j:=98) (by rw[dA h4]; omega) rfl λ w5 s5=>?_⟩;rw[R8 h4] at s5;rw[oH,if_pos h10];exact s5
 ·exact cF (by simpa using h10) (by rw[oH,if_neg h10]; exact s2)
theorem GG(s:St w0 w (Sep (ai b S.cells.toArray 86 :: m)))(h:S.bd.length=8){e:Ev}{i:Nat}(hi:i<8)(he:e.bidder=i) :
  CP 73 #[.pointer (some ⟨b,0,none⟩),e.v] w (λ r w'=>((S.bd.getD i cO).has=false/\r=iv 6/\St w0 w' (Sep (ai b S.cells.toArray 86 :: m)))\/((S.bd.getD i cO).has=true/\r=iv 0/\St w0 w' (Sep (ai b (bn S i).cells.toArray 86 :: m)))):=by
 refine lK (u1:=e.want) ?_;unfold gN;have hy:S.bd[i]?=some (S.bd.getD i cO):=by rw[List.getD_eq_getElem?_getD,gE (by omega)]; rfl
 generalize S.bd.getD i cO=y at hy;refine s.ax e.cells.toArray λ r1 w1 s1=>?_;have s2:=s1.quiet (ay.drew w1 []);have c1:w1.drew.cell? ⟨r1,1,none⟩=some (iv i):=by rw[<- he]; exact s2.ag 0 rfl 1
 have c2:w1.drew.cell? (Addr.add (Addr.add ⟨b,10,none⟩ (((i:Nat):Int).toNat*11)) 9)=some (.bool y.has):=by
  rw[TS,bq,s2.ag 1 rfl]; exact R9 h hi hy
 refine⟨_,c1,by omega,by omega,_,c2,?_⟩
 cases hh:y.has with
 | false=>exact cT rfl (.inl ⟨rfl,rfl,s2.second⟩)
 | true =>
  refine cF rfl ⟨_,c1,ak (CW (s2.second) h hi) ?_⟩;rintro v w2 ⟨rfl,s3⟩;exact⟨rfl,.inr ⟨rfl,rfl,s3⟩⟩
end
def zY:List UInt8:=[112,114,111,100,117,99,116]
def zX:List UInt8:=[98,105,100,100,101,114]
def xT:List UInt8:=[99,97,112]
def xS:List UInt8:=[97,115,105,100,101]
def jy(s:List UInt8):Int:=if s=zY then 6 else if s=zX then 5 else if s=xT\/s=xS then 4 else 0
theorem PF(w:World)(s:List UInt8):CP 180 #[sv s] w (λ r w'=>r=iv (jy s)/\w' = w):=by
 refine zK ?_;unfold wg;rw[iI,iI,iI,iI,iI]
 by_cases h1:s=zY
 ·exact cT (beq_iff_eq.2 h1) ⟨by rw[jy,if_pos h1],rfl⟩
 refine cF (beq_eq_false_iff_ne.2 h1) ?_
 by_cases h2:s=zX
 ·exact cT (beq_iff_eq.2 h2) ⟨by rw[jy,if_neg h1,if_pos h2],rfl⟩
 refine cF (beq_eq_false_iff_ne.2 h2) ⟨λ b w1=>b=decide (s=xT\/s=xS)/\w1=w,?_,?_⟩
 ·rintro w1 _ ⟨rfl,rfl⟩ -
  by_cases h3:s=xT\/s=xS
  ·exact cT (dT h3) ⟨by rw[jy,if_neg h1,if_neg h2,if_pos h3],rfl⟩
  ·exact cF (dF h3) ⟨by rw[jy,if_neg h1,if_neg h2,if_neg h3],rfl⟩
 ·by_cases h3:s=xT
  ·exact cT (beq_iff_eq.2 h3) ⟨by rw[dT (Or.inl h3)]; exact beq_iff_eq.2 h3,rfl⟩
  ·refine cF (beq_eq_false_iff_ne.2 h3) ⟨?_,rfl⟩
   by_cases h4:s=xS
   ·rw[dT (Or.inr h4)]; exact beq_iff_eq.2 h4
   ·rw[dF (by rintro(h|h); exact h3 h; exact h4 h)]; exact beq_eq_false_iff_ne.2 h4
def strings_Split(a b:ByteArray)(w:World)(K:KP):=CC 179 #[.string a,.string b,qz,iv (-1)] w λ a b=>∃ c d e,a=.returned (.slice c d e)/\K (.slice c d e) b
theorem vz{s1 s2 w K}(h:strings_Split s1 s2 w K):CP 151 #[.string s1,.string s2] w K:=ah (aA []) func151 (by kernel_rfl) (by kernel_rfl) h
abbrev sF (x:List UInt8):List Value:=[sv x]
theorem Gs(x:List UInt8):(sF x).length=1:=rfl
theorem Gt{w:World}{a:OA}{l:List (List UInt8)}(h:cG 1 sF w a l){i:Nat}{x:List UInt8}(hi:l[i]?=some x):∃ q,a=some q/\w.cell? (Addr.add q (i*1))=some (sv x):=by
 obtain⟨q,hq,hc⟩:=h.at hi;have:=aS hc 0 _ rfl;rw[Nat.zero_add,Addr.add_add,Nat.add_zero] at this;exact⟨q,hq,this⟩
def aR(c:UInt8)(s:List UInt8):List (List UInt8):=(Lib.splitB (bs [c]) 0 (Lib.countB (bs s) (bs [c])) (bs s)).map λ b=>b.data.toList
theorem mL(c:UInt8)(s:List UInt8):(aR c s).length=Lib.countB (bs s) (bs [c])+1:=by
 rw[aR,List.length_map,Lib.splitB_all (bs [c]) (by rw[eH]; exact Nat.le_refl 1) 0 _ _ rfl]
theorem BA(c:UInt8)(s:List UInt8):(aR c s).length<=s.length+1:=by
 rw[mL];have:=Lib.countB_le (bs [c]) (by rw[eH]; exact Nat.le_refl 1) (bs s).size (bs s) (Nat.le_refl _);rw[eH] at this;omega
theorem H8(w:World)(c:UInt8)(s:List UInt8)(hs:s.length<=1000000):CP 151 #[sv s,sv [c]] w (λ r w'=>∃ g,r=.slice (some ⟨g,0,none⟩) (aR c s).length (aR c s).length/\St w w' (Sep [bR 9 1 sF (some ⟨g,0,none⟩) (aR c s).length (aR c s)])):=by
 refine vz ?_;unfold strings_Split;have h1:1<=(bs [c]).size:=by rw[eH]; exact Nat.le_refl 1
 have hle:=Lib.countB_le (bs [c]) h1 (bs s).size (bs s) (Nat.le_refl _);have hlen:=Lib.splitB_all (bs [c]) h1 0 _ (bs s) rfl;have hz:(bs s).size=s.length:=eH s;have hC:=Tryz.strings_Count_one (bs s) c w;have k:=Any.strings_genSplit_core Tryz.Oi (by kernel_rfl) (bs s) (bs [c]) 0 (-1) (Lib.countB (bs s) (bs [c])+1) w (by omega) h1 (Nat.zero_le _)
  (λ x cs _=>(Tryz.strings_Index_one x c _).mono λ e w' ⟨he,hw⟩=>⟨by rw[he]; show _=Ending.returned (Value.int .i64 (Lib.index x.data.toList [c])); rw[Lib.index_one],hw⟩) ?_ (by decide) (by decide) (by rw[if_pos (by decide)]; omega)
 ·rw[Nat.add_sub_cancel,hlen] at k;have e2:Lib.cellsOf (Lib.splitB (bs [c]) 0 (Lib.countB (bs s) (bs [c])) (bs s)) (Lib.countB (bs s) (bs [c])+1)=((Lib.splitB (bs [c]) 0 (Lib.countB (bs s) (bs [c])) (bs s)).map Value.string).toArray:=by rw[<- hlen]; exact Lib.cellsOf_full _
  rw[e2] at k;refine Calls.mono k ?_;rintro e w' ⟨rfl,rfl⟩;refine⟨_,_,_,rfl,w.heap.size,by rw[mL],?_⟩;have s1:=(St.start w).one.bW ((Lib.splitB (bs [c]) 0 (Lib.countB (bs s) (bs [c])) (bs s)).map Value.string).toArray 9;have e3:(((Lib.splitB (bs [c]) 0 (Lib.countB (bs s) (bs [c])) (bs s)).map Value.string).toArray:Array Value).toList=(aR c s).flatMap sF:=by
   rw[aR,List.flatMap_map]
   induction Lib.splitB (bs [c]) 0 (Lib.countB (bs s) (bs [c])) (bs s) with
   | nil=>rfl
   | cons b l ih=>simp only[List.map_cons,List.flatMap_cons] at ih ⊢; rw[<- ih,sF,sv,<- SL]; rfl
  refine(s1.av [0]).weak (bC.left ?_);rintro w' F ⟨h,hF⟩;have hm:(aR c s).length<=maxLen:=by rw[mL]; unfold maxLen; omega
  exact⟨F,⟨ze Gs h e3 hm,by rw[hF]; simp[Value.ownBlock]⟩,λ _ h=>h⟩
 ·refine Calls.mono hC ?_;rintro e w' ⟨rfl,hw⟩;refine⟨?_,hw⟩;show _=Ending.returned (Value.int .i64 ((Lib.count (bs s).data.toList [c]:Nat):Int));rw[Lib.count_one]; rfl
theorem ay.N1(w:World)(b o n:Nat):ay w (w.freeze ⟨b,o,none⟩ n) [b]:=by
 unfold World.freeze
 split
 ·exact ay.refl _ _
 ·refine⟨by simp,λ i _ hi=>?_,⟨rfl,rfl,rfl⟩⟩;simp only[List.mem_singleton] at hi;rw[Array.getElem?_modify,if_neg (λ h=>hi h.symm)]
theorem Iy(w:World)(e:TypeId)(t:ByteArray):ay w (Lib.bytesWorld w e t) []:=by
 unfold Lib.bytesWorld;have c1:ay w w.drew []:=ay.drew w [];refine(c1.trans (ay.new _ _ []) (by simp)).trans (ay.N1 _ _ _ _) ?_;intro i hi;simp at hi; subst hi;exact .inr (Nat.le_refl _)
def Ak(l:List UInt8):Bool:=l.all λ c=>vJ (un c)
def Jz(l:List UInt8):Int:=(Lib.atoi l).getD 0
def bV(l:List UInt8):Int×Int:=if Ak l=false\/l=[]\/(l.head? = some 48/\1<l.length) then (0,2) else if 9<l.length then (0,4) else (Jz l,0)
theorem vI:∀ (l:List UInt8) (acc:Nat),Ak l=true->∃ n,Lib.decFrom acc l=some n
 | [],acc,_=>⟨acc,rfl⟩
 | b :: l,acc,h=>by
  unfold Ak at h;rw[List.all_cons,Bool.and_eq_true] at h;have h1:48<=b.toNat/\b.toNat<=57:=by
   have h2:48<=un b/\un b<=57:=by simpa[vJ] using h.1
   unfold un at h2;omega
  rw[Lib.decFrom,Lib.digitVal,if_pos h1];exact vI l _ h.2
theorem Dy{l:List UInt8}(h:Ak l=true)(h0:l≠[]):∃ n,Lib.atoi l=some n:=by
 cases l with
 | nil=>exact absurd rfl h0
 | cons b l =>
  obtain⟨n,hn⟩:=vI (b :: l) 0 h;unfold Ak at h;rw[List.all_cons,Bool.and_eq_true] at h;have h1:48<=un b/\un b<=57:=by simpa[vJ] using h.1
  have hb:(b==45)=false:=by rw[beq_eq_false_iff_ne]; rintro rfl; revert h1; decide
  have hb2:(b==43)=false:=by rw[beq_eq_false_iff_ne]; rintro rfl; revert h1; decide
  have hd:Lib.decNat (b :: l)=some n:=by rw[Lib.decNat]; exact hn
  rw[Lib.atoi,hb,hb2,hd];exact⟨_,rfl⟩
theorem O9{l:List UInt8}(hl:l.length<=18):In (Jz l):=by
 unfold Jz
 cases h:Lib.atoi l with
 | none=>exact⟨by decide,by decide⟩
 | some n =>
  have:=Lib.atoi_bound h hl;show In n;exact⟨by omega,by omega⟩
theorem JD(w:World){l:List UInt8}(hl:l.length<=1000000):CP 202 #[sv l] w (λ r w'=>r=.tuple #[iv (bV l).1,iv (bV l).2]/\ay w w' []):=by
 refine xg ?_;unfold tY;refine⟨λ i w1 m=>∃ k:Nat,i=k/\k<=l.length/\m=l.length-k/\Ak (l.take k)=true/\ay w w1 [],⟨l.length,0,rfl,by omega,by omega,rfl,ay.refl _ _⟩,?_⟩;rintro w1 m i ⟨k,rfl,hk,hm,ha,hc⟩ -
 by_cases hlt:k<l.length
 ·have hx:l[k]?=some (l[k]'hlt):=gE hlt;generalize l[k]'hlt=c at hx;refine cT (by rw[eH]; exact dT (by omega)) ⟨λ b w2=>b = !vJ (un c)/\ay w w2 [],?_,by omega,?_⟩
  ·rintro w2 b ⟨rfl,c2⟩ -
   cases hd:vJ (un c) with
   | false =>
    have:Ak l=false:=List.all_eq_false.2 ⟨c,List.mem_of_getElem? hx,by simp[hd]⟩;exact cT rfl ⟨by rw[bV,if_pos (.inl this)],c2⟩
   | true =>
    refine cF rfl ⟨l.length-(k+1),by omega,k+1,aB ⟨by omega,by omega⟩,by omega,rfl,?_,c2⟩;unfold Ak at ha ⊢;rw[aG hx,List.all_append,ha]; simp[hd]
  ·rw[Int.toNat_natCast,lZ,hx];have hlt8:=c.toNat_lt
   by_cases h1:(c.toNat:Int)<48
   ·exact cT (dT h1) ⟨by rw[vJ,un,dF (by omega)]; rfl,hc⟩
   ·refine cF (dF h1) ⟨by omega,?_⟩;refine⟨?_,hc⟩
    by_cases h2:(c.toNat:Int)>57
    ·rw[dT h2,vJ,un,dT (show(48:Int)<=(c.toNat:Int) by omega),dF (show ¬ (c.toNat:Int)<=57 by omega)]; rfl
    ·rw[dF h2,vJ,un,dT (show(48:Int)<=(c.toNat:Int) by omega),dT (show(c.toNat:Int)<=57 by omega)]; rfl
 ·obtain rfl:k=l.length:=by omega
  rw[List.take_length] at ha;refine cF (by rw[eH]; exact dF (by omega)) ⟨λ b w2=>b=decide (l=[]\/(l.head? = some 48/\1<l.length))/\ay w w2 [],?_,?_⟩
  ·rintro w2 b ⟨rfl,c2⟩ -
   by_cases hb:l=[]\/(l.head? = some 48/\1<l.length)
   ·exact cT (dT hb) ⟨by rw[bV,if_pos (.inr hb)],c2⟩
   ·refine cF (dF hb) ?_;have e1:bV l=if 9<l.length then (0,4) else (Jz l,0):=by
     rw[bV,if_neg];rintro(h|h)
     ·rw[ha] at h; cases h
     ·exact hb h
    by_cases h9:9<l.length
    ·exact cT (by rw[eH]; exact dT (by omega)) ⟨by rw[e1,if_pos h9],c2⟩
    ·rw[if_neg h9] at e1;obtain⟨n,hn⟩:=Dy ha (λ h=>hb (.inl h));refine cF (by rw[eH]; exact dF (by omega)) ((Tryz.strconv_Atoi (bs l) n (by rw[eH]; omega) hn w2).mono ?_);rintro e w3 ⟨rfl,t,rfl⟩;refine⟨_,_,rfl,?_,c2.trans (Iy _ _ _) (by simp)⟩;rw[e1,Jz,hn]; rfl
  ·cases l with
   | nil=>exact cT (by rw[iI]; rfl) ⟨by decide,hc⟩
   | cons c l =>
    refine cF (by rw[iI,iI]; rfl) ⟨by decide,?_⟩;show cond ((c.toNat:Int)==48) _ _
    by_cases h48:c=48
    ·subst h48;refine cT rfl ⟨?_,hc⟩;rw[eH]
     by_cases h1:1<(48 :: l:List UInt8).length
     ·rw[dT (show(((48 :: l:List UInt8).length:Nat):Int)>1 by omega),dT (Or.inr ⟨rfl,h1⟩)]
     ·rw[dF (show ¬ (((48 :: l:List UInt8).length:Nat):Int)>1 by omega),dF (by rintro(h|h); cases h; exact h1 h.2)]
    ·refine cF (beq_eq_false_iff_ne.2 λ h=>h48 (UInt8.toNat_inj.1 (by show c.toNat=48; omega))) ⟨?_,hc⟩;rw[dF];rintro(h|h)
     ·cases h
     ·exact h48 (by simpa using h.1)
def gD:List (List UInt8)->Int
 | []=>0
 | x :: l=>if (bV x).2≠0 then (bV x).2 else gD l
theorem En:∀ {l:List (List UInt8)} {k:Nat} {x:List UInt8},(∀ y∈l.take k,(bV y).2=0)->l[k]?=some x->gD l=if (bV x).2≠0 then (bV x).2 else gD (l.drop (k+1))
 | y :: l,0,x,_,hx=>by cases hx; rfl
 | y :: l,k+1,x,h,hx=>by
  rw[gD,if_neg (by simpa using h y (by simp))];exact En (λ z hz=>h z (by simp[hz])) (by simpa using hx)
theorem Bi:∀ {l:List (List UInt8)},(∀ y∈l,(bV y).2=0)->gD l=0
 | [],_=>rfl
 | y :: l,h=>by rw[gD,if_neg (by simpa using h y (by simp))]; exact Bi λ z hz=>h z (by simp[hz])
theorem Gy{w:World}{a:OA}{c:Nat}{l:List (List UInt8)}(hr:cG 1 sF w a l)(hl:l.length<=100000)(hx:∀ x∈l,x.length<=1000000) :
  CP 182 #[.slice a l.length c] w (λ r w'=>(gD l≠0/\r=.tuple #[.slice none 0 0,iv (gD l)]/\ay w w' [])\/(gD l=0/\∃ a' c',r=.tuple #[.slice a' l.length c',iv 0]/\St w w' (Sep [bR 3 1 i1 a' c' (l.map λ x=>(bV x).1)]))):=by
 refine vt ?_;unfold qZ;refine⟨λ a2 n2 c2 i w1 m=>∃ k:Nat,i=k/\k<=l.length/\m=l.length-k/\n2=k/\(∀ y∈l.take k,(bV y).2=0)/\St w w1 (Sep [bR 3 1 i1 a2 c2 ((l.take k).map λ x=>(bV x).1)]),⟨l.length,0,rfl,by omega,by omega,rfl,by simp,(St.start w).dP⟩,?_⟩;rintro w1 m a2 n2 c2 i ⟨k,rfl,hk,hm,hn2,ha,s1⟩ -;have hn3:=hn2.symm;subst hn3
 by_cases hlt:(k:Int)<(l.length:Int)
 ·have hxk:l[k]?=some (l[k]'(by omega)):=gE (by omega);generalize l[k]'(by omega)=x at hxk;obtain⟨q,hq,hc⟩:=Gt (hr.au s1.au) hxk;have e1:=En ha hxk;refine cT (dT hlt) (aj hq ⟨by omega,by omega,_,hc,ak (JD w1 (hx x (List.mem_of_getElem? hxk))) ?_⟩);rintro v w2 ⟨rfl,c3⟩;have s2:=s1.quiet c3;refine⟨_,_,rfl,?_⟩
  by_cases h0:(bV x).2=0
  ·refine cF (by simpa using h0) ?_;have e2:(l.take (k+1)).map (λ x=>(bV x).1)=(l.take k).map (λ x=>(bV x).1)++[(bV x).1]:=by rw[aG hxk,List.map_append]; rfl
   have hl2:((l.take k).map λ x=>(bV x).1).length=k:=by rw[List.length_map,List.length_take]; omega
   have:=ob (ty:=189) (x:=(bV x).1) (l:=(l.take k).map λ x=>(bV x).1) Ty cR (FF _) s2 (by rw[hl2]; omega) (by rw[hl2]; omega) (R:=λ a3 l3 c3 w4=>∃ m2,m2<l.length-k/\∃ k' : Nat,IntKind.i64.wrap ((k:Int)+1)=(k' : Int)/\k'<=l.length/\m2=l.length-k'/\l3=k'/\(∀ y∈l.take k',(bV y).2=0)/\St w w4 (Sep [bR 3 1 i1 a3 c3 ((l.take k').map λ x=>(bV x).1)])) (λ a' c' w' s'=>⟨l.length-(k+1),by omega,k+1,aB ⟨by omega,by omega⟩,by omega,rfl,by rw[List.length_append,hl2]; rfl,λ y hy=>?_,by rw[e2]; exact s'⟩) rfl
   ·rw[hl2] at this;rw[hm];exact this
   ·rw[aG hxk] at hy;rcases List.mem_append.1 hy with h|h
    ·exact ha y h
    ·rw[List.mem_singleton.1 h]; exact h0
  ·rw[if_pos h0] at e1;exact cT (by simpa using h0) (.inl ⟨by rw[e1]; exact h0,by rw[e1],s2.au⟩)
 ·obtain rfl:k=l.length:=by omega
  rw[List.take_length] at ha s1;exact cF (dF hlt) (.inr ⟨Bi ha,a2,c2,rfl,s1⟩)
def kQ(l:List Br)(nm:List UInt8):Int×Bool:=(((l.findIdx? λ p=>p.nm==nm).map λ k=>(k:Int)).getD 0,l.any λ p=>p.nm==nm)
theorem L1{w:World}{a:OA}{c:Nat}{l:List Br}(h:ku w a l)(hl:l.length<=100000)(nm:List UInt8) :
  CP 118 #[.slice a l.length c,sv nm] w (λ r w'=>r=.tuple #[iv (kQ l nm).1,.bool (kQ l nm).2]/\ay w w' []):=by
 refine Bm ?_;unfold F6;refine⟨λ n w1 m=>∃ k:Nat,n=k/\k<=l.length/\m=l.length-k/\(l.take k).any (λ p=>p.nm==nm)=false/\ay w w1 [],⟨l.length,0,rfl,by omega,by omega,rfl,ay.refl _ _⟩,?_⟩;rintro w1 m n ⟨k,rfl,hk,hm,ha,hc⟩ -
 by_cases hlt:(k:Int)<(l.length:Int)
 ·have hx:l[k]?=some (l[k]'(by omega)):=gE (by omega);generalize l[k]'(by omega)=x at hx;obtain⟨_,q,rfl,hcl⟩:=(h.au hc) k x hx;refine cT (by simpa using hlt) ⟨by omega,by omega,_,_,_,_,hcl,(St.start' hc).one.ax _ λ r1 w2 s2=>s2.az 0 rfl x.cells rfl x.one λ w3 s3=>?_⟩;refine⟨_,by rw[s3.ag 0 rfl]; rfl,?_⟩
  by_cases hn:x.nm=nm
  ·refine cT (by rw[hn]; simp) ⟨?_,s3.au⟩;have hp:(λ p:Br=>p.nm==nm) x=true:=by simpa using hn
   rw[kQ,gy hx hp ha,iq hx hp]; rfl
  ·exact cF (by rw[iI,iI]; simpa using hn) ⟨l.length-(k+1),by omega,k+1,by rw[aB ⟨by omega,by omega⟩]; rfl,by omega,rfl,fS ha hx (by simpa using hn),s3.au⟩
 ·refine cF (by simpa using hlt) ⟨?_,hc⟩;rw[List.take_of_length_le (by omega)] at ha;rw[kQ,mz ha,ha]; rfl
def cE(S:Se)(h nm:List UInt8):Int×Int :=
 if h=zY\/h=zX then (0,if cw nm then 0 else 5)
 else if h=xT then (if nm=[42] then (-1,0) else if (kQ S.bd nm).2 then ((kQ S.bd nm).1,0) else (0,6))
 else if h=xS then (if (cr S.ps nm).2 then ((cr S.ps nm).1,0) else (0,6))
 else (-1,0)
theorem Mk{w:World}{S:Se}(hS:S.In w)(h1:S.ps.length<=100000)(h2:S.bd.length<=100000)(h nm:List UInt8) :
  CP 181 #[.agg S.arr,sv h,sv nm] w (λ r w'=>r=.tuple #[iv (cE S h nm).1,iv (cE S h nm).2]/\ay w w' []):=by
 refine zI ?_;unfold we;refine(St.start w).one.ax S.arr λ r1 w1 s1=>?_;refine⟨λ n b w2=>((b=false/\cE S h nm=(0,6))\/(b=true/\cE S h nm=(n,0)))/\ay w w2 [],?_,?_⟩
 ·rintro w2 n b ⟨(⟨rfl,e⟩|⟨rfl,e⟩),c2⟩ -
  ·exact cT rfl ⟨by rw[e],c2⟩
  ·exact cF rfl ⟨by rw[e],c2⟩
 refine⟨λ b w3=>b=decide (h=zY\/h=zX)/\w3=w1,?_,?_⟩
 ·rintro w3 b ⟨rfl,rfl⟩ -
  by_cases g1:h=zY\/h=zX
  ·have e1:cE S h nm=(0,if cw nm then 0 else 5):=by rw[cE,if_pos g1]
   refine cT (dT g1) (ak (yN w3 nm) ?_);rintro v w4 ⟨rfl,rfl⟩;refine⟨_,rfl,?_⟩
   cases hn:cw nm with
   | true=>exact cF rfl ⟨by rw[e1,hn]; rfl,s1.au⟩
   | false=>exact cT rfl ⟨by rw[e1,hn]; rfl,s1.au⟩
  ·refine cF (dF g1) ?_;rw[iI,iI,iI,iI,iI]
   by_cases g2:h=xT
   ·have e2:cE S h nm=if nm=[42] then (-1,0) else if (kQ S.bd nm).2 then ((kQ S.bd nm).1,0) else (0,6):=by rw[cE,if_neg g1,if_pos g2]
    refine cT (beq_iff_eq.2 g2) ?_
    by_cases g3:nm=[42]
    ·exact cF (by rw[g3]; rfl) ⟨.inr ⟨rfl,by rw[e2,if_pos g3]⟩,s1.au⟩
    ·rw[if_neg g3] at e2;refine cT (by rw[beq_eq_false_iff_ne.2 g3]; rfl) ⟨_,_,_,s1.ag 0 rfl 1,ak (L1 (hS.au s1.au).bd h2 nm) ?_⟩;rintro v w5 ⟨rfl,c5⟩;refine⟨_,_,rfl,?_,(s1.quiet c5).au⟩
     cases hf:(kQ S.bd nm).2 with
     | true=>exact .inr ⟨rfl,by rw[e2,hf]; rfl⟩
     | false=>exact .inl ⟨rfl,by rw[e2,hf]; rfl⟩
   ·refine cF (beq_eq_false_iff_ne.2 g2) ?_
    by_cases g4:h=xS
    ·have e2:cE S h nm=if (cr S.ps nm).2 then (((cr S.ps nm).1:Int),0) else (0,6):=by rw[cE,if_neg g1,if_neg g2,if_pos g4]
     refine cT (beq_iff_eq.2 g4) ⟨_,_,_,s1.ag 0 rfl 0,ak (Hj (hS.au s1.au).ps h1 nm) ?_⟩;rintro v w5 ⟨rfl,c5⟩;refine⟨_,_,rfl,?_,(s1.quiet c5).au⟩
     cases hf:(cr S.ps nm).2 with
     | true=>exact .inr ⟨rfl,by rw[e2,hf]; rfl⟩
     | false=>exact .inl ⟨rfl,by rw[e2,hf]; rfl⟩
    ·exact cF (beq_eq_false_iff_ne.2 g4) ⟨.inr ⟨rfl,by rw[cE,if_neg g1,if_neg g2,if_neg g4]⟩,s1.au⟩
 ·rw[iI,iI,iI]
  by_cases g1:h=zY
  ·exact cT (beq_iff_eq.2 g1) ⟨by rw[dT (Or.inl g1)]; exact beq_iff_eq.2 g1,rfl⟩
  ·refine cF (beq_eq_false_iff_ne.2 g1) ⟨?_,rfl⟩
   by_cases g2:h=zX
   ·rw[dT (Or.inr g2)]; exact beq_iff_eq.2 g2
   ·rw[dF (by rintro(h|h); exact g1 h; exact g2 h)]; exact beq_eq_false_iff_ne.2 g2

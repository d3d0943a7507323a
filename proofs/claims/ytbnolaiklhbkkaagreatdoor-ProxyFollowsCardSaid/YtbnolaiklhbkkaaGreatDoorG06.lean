import Derived.Test.YtbnolaiklhbkkaaGreatDoorG05
set_option linter.unusedVariables false
set_option maxRecDepth 100000
namespace Go.Proofs.YtbnolaiklhbkkaaGreatDoor
open Go Go.Vc _root_.Go.Proofs.Tryz
def oF(a:OA)(b c:Nat)(d:ByteArray)(w:World)(K:KP):=aq w (.cells #[qz,qz,qz,qz,qz,qz,qz,qz,qn] 81) λ e f=>CC 80 #[.slice a b c] f λ f g=>∃ h,f=.returned (iv h)/\cond (h !=0) (aL (qd e 0) 0 [qz,qz,qz,qz,qz,qz,qz,qz,qn] g λ f=>∃ i,∃ j:I6,∃ k l m n,af f (qd e 0) 0 (iv i :: j.on [iv k,.slice l m n])/\K (.tuple #[.agg (iv i :: j.on [iv k,.slice l m n]:List Value).toArray,iv h]) f) (CC 183 #[.string d] g λ d f=>∃ g h i j,d=.returned (.tuple #[.slice g h i,iv j])/\cond (j !=0) (aL (qd e 0) 0 [qz,qz,qz,qz,qz,qz,qz,qz,qn] f λ d=>∃ k,∃ l:I6,∃ m n o p,af d (qd e 0) 0 (iv k :: l.on [iv m,.slice n o p])/\K (.tuple #[.agg (iv k :: l.on [iv m,.slice n o p]:List Value).toArray,iv j]) d) (CC 184 #[.slice g h i] f λ d f=>∃ g,d=.returned (.pointer g)/\aq f (.cells #[qn,.pointer none] 262) λ d f=>aL (qd d 0) 0 [.slice a b c,.pointer g] f λ a=>∃ b c f g,af a (qd d 0) 0 [.slice b c f,.pointer g]/\CC 185 #[.agg #[.slice b c f,.pointer g]] a λ a b=>∃ c,∃ f:I6,∃ g h i j,a=.returned (.agg (iv c :: f.on [iv g,.slice h i j]:List Value).toArray)/\aq b (.cells #[qz,qz,qz,qz,qz,qz,qz,qz,qn] 81) λ a b=>aL (qd a 0) 0 (iv c :: f.on [iv g,.slice h i j]) b λ b=>∃ c,b.cell? (qd d 1)=some (.pointer c)/\CC 186 #[.pointer c] b λ b c=>∃ d,b=.returned (iv d)/\cond (d !=0) (aL (qd e 0) 0 [qz,qz,qz,qz,qz,qz,qz,qz,qn] c λ b=>∃ f,∃ g:I6,∃ h i j k,af b (qd e 0) 0 (iv f :: g.on [iv h,.slice i j k])/\K (.tuple #[.agg (iv f :: g.on [iv h,.slice i j k]:List Value).toArray,iv d]) b) (∃ b,∃ d:I6,∃ f g h i,af c (qd a 0) 0 (iv b :: d.on [iv f,.slice g h i])/\CC 187 #[.agg (iv b :: d.on [iv f,.slice g h i]:List Value).toArray] c λ b c=>∃ d,b=.returned (iv d)/\cond (d !=0) (aL (qd e 0) 0 [qz,qz,qz,qz,qz,qz,qz,qz,qn] c λ b=>∃ f,∃ g:I6,∃ h i j k,af b (qd e 0) 0 (iv f :: g.on [iv h,.slice i j k])/\K (.tuple #[.agg (iv f :: g.on [iv h,.slice i j k]:List Value).toArray,iv d]) b) (∃ b,∃ d:I6,∃ f g h i,af c (qd a 0) 0 (iv b :: d.on [iv f,.slice g h i])/\aL (qd e 0) 0 (iv b :: d.on [iv f,.slice g h i]) c λ a=>∃ b,∃ c:I6,∃ d f g h,af a (qd e 0) 0 (iv b :: c.on [iv d,.slice f g h])/\K (.tuple #[.agg (iv b :: c.on [iv d,.slice f g h]:List Value).toArray,qz]) a))))
theorem td{a1 l1 c1 s1 w K}(h:oF a1 l1 c1 s1 w K):CP 153 #[.slice a1 l1 c1,.string s1] w K:=ah (aA []) func153 (by kernel_rfl) (by kernel_rfl) h
def oJ(a:Int)(b:I6)(c:Int)(d:OA)(e f:Nat)(g:I6)(w:World)(K:KP):=aq w (.cells (iv a :: b.on [iv c,.slice d e f]:List Value).toArray 81) λ a b=>aq b (.cells g.vs.toArray 44) λ b c=>∃ d,∃ e:I6,∃ f g h i,af c (qd a 0) 0 (iv d :: e.on [iv f,.slice g h i])/\∃ a:I6,af c (qd b 0) 0 a.vs/\CC 188 #[.agg (iv d :: e.on [iv f,.slice g h i]:List Value).toArray,.agg a.vs.toArray] c λ a c=>∃ d e f g,a=.returned (.tuple #[.slice d e f,iv g])/\cond (g !=0) (K (.tuple #[qn,iv g]) c) (∃ a:I6,af c (qd b 0) 0 a.vs/\CC 189 #[.slice d e f,.agg a.vs.toArray] c λ a b=>∃ c d e f,a=.returned (.tuple #[.slice c d e,iv f])/\K (.tuple #[.slice c d e,iv f]) b)
theorem tg{n1 u1 n2 a1 l1 c1 u2 w K}(h:oJ n1 u1 n2 a1 l1 c1 u2 w K):CP 154 #[.agg (iv n1 :: u1.on [iv n2,.slice a1 l1 c1]:List Value).toArray,.agg u2.vs.toArray] w K:=ah (aA []) func154 (by kernel_rfl) (by kernel_rfl) h
def tN(a:OA)(b c:Nat)(d:OA)(e f:Nat)(w:World)(K:KP):=CC 93 #[.slice a b c] w λ g h=>∃ i,g=.returned (.bool i)/\cond (!i) (K (.tuple #[qz,iv 4]) h) (∃ g:Int->qN,(∃ i,g 0 h i)/\∀ h i j,g j h i->∀ k:qv,cond (decide (j<(e:Int))) (an d λ k=>0<=j/\j<(e:Int)/\∃ l,∃ m:I6,∃ n,af h (Addr.add k ((j).toNat*8)) 0 (iv l :: m.on [iv n])/\aq h (.cells #[qz,qz,qz,qz,qz,qz,qz,qz] 68) λ k o=>aL (qd k 0) 0 (iv l :: m.on [iv n]) o λ l=>∃ m,∃ n:I6,∃ o,af l (qd k 0) 0 (iv m :: n.on [iv o])/\CC 127 #[.agg (iv m :: n.on [iv o]:List Value).toArray] l λ k l=>∃ m,k=.returned (.bool m)/\cond (!m) (K (.tuple #[iv j,iv 4]) l) (∃ k,k<i/\g (IntKind.i64.wrap (j+1)) l k)) (CC 128 #[.slice a b c,.slice d e f] h λ f g=>∃ h:Value,f=.returned h/\∃ f:Int->qN,(∃ i,f 0 g i)/\∀ g i j,f j g i->∀ k:qv,cond (decide (j<(e:Int))) (an d λ d=>0<=j/\j<(e:Int)/\∃ e,∃ k:I6,∃ l,af g (Addr.add d ((j).toNat*8)) 0 (iv e :: k.on [iv l])/\aq g (.cells #[qz,qz,qz,qz,qz,qz,qz,qz] 68) λ d m=>aL (qd d 0) 0 (iv e :: k.on [iv l]) m λ e=>∃ k,e.drew.cell? (qd d 7)=some (iv k)/\∃ l:I6,af e.drew (qd d 1) 0 l.vs/\CC 129 #[.slice a b c,h,.agg l.vs.toArray] e.drew λ a b=>∃ c,a=.returned (iv c)/\b.cell? (qd d 7)=some (iv k)/\cond (decide (k>c)) (K (.tuple #[iv j,iv 16]) b) (∃ a,a<i/\f (IntKind.i64.wrap (j+1)) b a)) (K (.tuple #[qz,qz]) g)))
theorem wX{a1 l1 c1 a2 l2 c2 w K}(h:tN a1 l1 c1 a2 l2 c2 w K):CP 95 #[.slice a1 l1 c1,.slice a2 l2 c2] w K:=ah (aA [(58,[(16,.s (.int .i64))]),(250,[(31,.s (.int .i64))])]) func95 (by kernel_rfl) (by kernel_rfl) h
def cZ(a:OA)(b c:Nat)(d:OA)(w:World)(K:KP):=aq w (.cells #[.slice a b c,.pointer d] 262) λ a b=>aq b (.cells #[qz,qz,qz,qz,qz,qz,qz,qz,qn] 81) λ b c=>∃ d,c.cell? (qd a 1)=some (.pointer d)/\CC 204 #[.pointer d] c λ c d=>∃ e f g h,c=.returned (.agg #[iv e,.string f,iv g,iv h])/\aq d (.cells #[qz,.string (bs []),qz,qz] 280) λ c d=>aL (qd c 0) 0 [iv e,.string f,iv g,iv h] d λ d=>∃ e:Int->qW,(∀ f g,e g f->∀ h:qv,∃ h:qW,(∀ i,h i->∀ j:qv,aq i (.cells #[qz,qz,qz,qz,qz,qz,qz,qz,qn] 81) λ i j=>aL (qd i 0) 0 [iv g,qz,qz,qz,qz,qz,qz,qz,qn] j λ j=>cond (g==1) (∃ k l m n,af j (qd a 0) 0 [.slice k l m,.pointer n]/\CC 207 #[.agg #[.slice k l m,.pointer n]] j λ k l=>∃ m:I6,∃ n,k=.returned (.tuple #[.agg m.vs.toArray,iv n])/\aL (qd i 1) 0 m.vs l λ k=>aP k (qd i 7) (iv n) λ k=>∃ l,∃ m:I6,∃ n o p q,af k (qd i 0) 0 (iv l :: m.on [iv n,.slice o p q])/\aL (qd b 0) 0 (iv l :: m.on [iv n,.slice o p q]) k λ k=>∃ l,∃ m:I6,∃ n o p q,af k (qd b 0) 0 (iv l :: m.on [iv n,.slice o p q])/\K (.agg (iv l :: m.on [iv n,.slice o p q]:List Value).toArray) k) (∃ k,j.cell? (qd a 1)=some (.pointer k)/\CC 208 #[.pointer k] j λ j k=>∃ l m n o,j=.returned (.agg #[iv l,.string m,iv n,iv o])/\∃ j,k.cell? (qd a 1)=some (.pointer j)/\CC 209 #[.pointer j,.string (bs [40])] k λ j k=>j=.returned (.tuple #[])/\∃ j l m,k.drew.cell? (qd i 8)=some (.slice j l m)/\∃ n o p q,af k.drew (qd a 0) 0 [.slice n o p,.pointer q]/\CC 210 #[.agg #[.slice n o p,.pointer q]] k.drew λ k n=>∃ o,∃ p:I6,∃ q r s t,k=.returned (.agg (iv o :: p.on [iv q,.slice r s t]:List Value).toArray)/\n.cell? (qd i 8)=some (.slice j l m)/\aq n (.cells (iv o :: p.on [iv q,.slice r s t]:List Value).toArray 81) λ k n=>n.cell? (qd i 8)=some (.slice j l m)/\aV prog (Builtin.append_ #[79,79] 79 #[.slice j l m,.slice (some (qd k 0)) 1 1]) n λ j k=>∃ l m n,j=(.slice l m n)/\aP k (qd i 8) (.slice l m n) λ j=>∃ k:qW,(∀ l,k l->∀ m:qv,∃ m,l.cell? (qd a 1)=some (.pointer m)/\CC 209 #[.pointer m,.string (bs [41])] l λ l m=>l=.returned (.tuple #[])/\∃ l,∃ n:I6,∃ o p q r,af m (qd i 0) 0 (iv l :: n.on [iv o,.slice p q r])/\aL (qd b 0) 0 (iv l :: n.on [iv o,.slice p q r]) m λ l=>∃ m,∃ n:I6,∃ o p q r,af l (qd b 0) 0 (iv m :: n.on [iv o,.slice p q r])/\K (.agg (iv m :: n.on [iv o,.slice p q r]:List Value).toArray) l)/\∃ b:Bool->qW,(∀ l m,b m l->∀ n:qv,cond m (∃ m:qN,(∃ n,m l n)/\∀ o n,m o n->∀ p:qv,∃ p,o.cell? (qd a 1)=some (.pointer p)/\CC 211 #[.pointer p,.string (bs [44])] o λ o p=>∃ q,o=.returned (.bool q)/\cond q (∃ o q r,p.drew.cell? (qd i 8)=some (.slice o q r)/\∃ s t u v,af p.drew (qd a 0) 0 [.slice s t u,.pointer v]/\CC 210 #[.agg #[.slice s t u,.pointer v]] p.drew λ s t=>∃ u,∃ v:I6,∃ x y z A,s=.returned (.agg (iv u :: v.on [iv x,.slice y z A]:List Value).toArray)/\t.cell? (qd i 8)=some (.slice o q r)/\aq t (.cells (iv u :: v.on [iv x,.slice y z A]:List Value).toArray 81) λ s t=>t.cell? (qd i 8)=some (.slice o q r)/\aV prog (Builtin.append_ #[79,79] 79 #[.slice o q r,.slice (some (qd s 0)) 1 1]) t λ o q=>∃ r s t,o=(.slice r s t)/\aP q (qd i 8) (.slice r s t) λ o=>∃ q,q<n/\m o q) (k p)) (cond (g==4) (∃ m,l.cell? (qd a 1)=some (.pointer m)/\CC 209 #[.pointer m,.string (bs [44])] l λ m n=>m=.returned (.tuple #[])/\∃ m o p q,af n (qd a 0) 0 [.slice m o p,.pointer q]/\CC 207 #[.agg #[.slice m o p,.pointer q]] n λ m n=>∃ o:I6,∃ p,m=.returned (.tuple #[.agg o.vs.toArray,iv p])/\aL (qd i 1) 0 o.vs n λ m=>aP m (qd i 7) (iv p) λ m=>k m) (cond (g==5) (∃ m,l.cell? (qd a 1)=some (.pointer m)/\CC 209 #[.pointer m,.string (bs [44])] l λ m n=>m=.returned (.tuple #[])/\∃ m,n.cell? (qd a 1)=some (.pointer m)/\CC 212 #[.pointer m,iv 1000000] n λ m n=>∃ o,m=.returned (iv o)/\aP n (qd i 7) (iv o) λ i=>k i) (k l))))/\cond (g==2) (b (g==2) j) (b (g==3) j)))/\cond (g==0) (∃ b,f.cell? (qd a 1)=some (.pointer b)/\CC 206 #[.pointer b,iv 2] f λ a b=>a=.returned (.tuple #[])/\h b) (h f))/\∃ a,d.cell? (qd c 0)=some (iv a)/\cond (a==1) (∃ a,d.cell? (qd c 1)=some (.string a)/\CC 205 #[.string a] d λ a b=>∃ c,a=.returned (iv c)/\e c b) (e 1 d)
theorem gx{a1 l1 c1 p1 w K}(h:cZ a1 l1 c1 p1 w K):CP 185 #[.agg #[.slice a1 l1 c1,.pointer p1]] w K:=ah (aA [(15,[(4,.s (.int .i64))]),(31,[]),(2047,[]),(16378,[(46,.s .bool)]),(131028,[])]) func185 (by kernel_rfl) (by kernel_rfl) h
def yI(a:Int)(b:I6)(c:Int)(d:OA)(e f:Nat)(w:World)(K:KP):=aq w (.cells (iv a :: b.on [iv c,.slice d e f]:List Value).toArray 81) λ a b=>∃ c,∃ d:I6,∃ e f g h,af b (qd a 0) 0 (iv c :: d.on [iv e,.slice f g h])/\CC 214 #[.agg (iv c :: d.on [iv e,.slice f g h]:List Value).toArray] b λ b c=>∃ d,b=.returned (iv d)/\cond (decide (d>6)) (K (iv 9) c) (aq c (.cells #[.nilFunc] 293) λ b c=>aP c (qd b 0) (.func (.func 215) #[] #[]) λ c=>∃ d:Bool->qW,(∀ e f,d f e->∀ g:qv,cond f (K (iv 3) e) (aq e (.cells #[qz] 34) λ e f=>aP f (qd e 0) qz λ f=>aq f (.cells #[.nilFunc] 293) λ f g=>aP g (qd f 0) (.func (.func 218) #[] #[qp e]) λ g=>∃ h:Value,af g (qd f 0) 0 [h]/\∃ f,∃ i:I6,∃ j k l m,af g (qd a 0) 0 (iv f :: i.on [iv j,.slice k l m])/\CC 216 #[.agg #[h],.agg (iv f :: i.on [iv j,.slice k l m]:List Value).toArray] g λ f g=>∃ h,f=.returned (.bool h)/\∃ f,g.cell? (qd e 0)=some (iv f)/\K (iv f) g))/\∃ e:Value,af c (qd b 0) 0 [e]/\∃ b,∃ f:I6,∃ g h i j,af c (qd a 0) 0 (iv b :: f.on [iv g,.slice h i j])/\CC 216 #[.agg #[e],.agg (iv b :: f.on [iv g,.slice h i j]:List Value).toArray] c λ b c=>∃ e,b=.returned (.bool e)/\cond (!e) (d true c) (∃ b,∃ e:I6,∃ f g h i,af c (qd a 0) 0 (iv b :: e.on [iv f,.slice g h i])/\CC 217 #[.agg (iv b :: e.on [iv f,.slice g h i]:List Value).toArray] c λ a b=>∃ c,a=.returned (iv c)/\d (decide (c>40)) b))
theorem Ar{n1 u1 n2 a1 l1 c1 w K}(h:yI n1 u1 n2 a1 l1 c1 w K):CP 187 #[.agg (iv n1 :: u1.on [iv n2,.slice a1 l1 c1]:List Value).toArray] w K:=ah (aA [(30,[(18,.s .bool)])]) func187 (by kernel_rfl) (by kernel_rfl) h
noncomputable def dG(n1:Int)(u1:I6)(n2:Int)(a1:OA)(l1:Nat)(c1:Nat)(u2:I6)(r1:Nat)(r2:Nat)(n3:Int)(u3:I6)(n4:Int)(a2:OA)(l2:Nat)(c2:Nat)(n5:Int)(u4:I6)(n6:Int)(u5:I6)(n7:Int)(r3:Nat)(r4:Nat)(x1:Nat->Value)(r5:Nat)(u6:I6)(v1:Value):Tm:=[.agg (iv n1 :: u1.on [iv n2,.slice a1 l1 c1]:List Value).toArray,.agg u2.vs.toArray,qp r1,qp r2,qn,qz,iv n5,iv n6,iv n7,qp r3,qp r4,qp r5,undef,.agg (iv n3 :: u3.on [iv n4,.slice a2 l2 c2]:List Value).toArray,iv n5,iv n5,.bool (n5 !=0),undef,.agg u4.vs.toArray,iv n6,iv n6,.bool (n6 !=0),undef,.agg u5.vs.toArray,iv n7,iv n7,.bool (n7==0),x1 27,x1 28,x1 29,x1 30,x1 31,.agg u6.vs.toArray,v1,undef,undef,undef,undef,undef,undef,undef,undef,undef,undef,undef,undef,undef,undef,undef]
noncomputable def dx(n1:Int)(u1:I6)(n2:Int)(a1:OA)(l1:Nat)(c1:Nat)(u2:I6)(r1:Nat)(r2:Nat)(n3:Int)(u3:I6)(n4:Int)(a2:OA)(l2:Nat)(c2:Nat)(n5:Int)(u4:I6)(n6:Int)(u5:I6)(n7:Int)(r3:Nat)(r4:Nat)(x1:Nat->Value)(r5:Nat)(u6:I6)(v1:Value)(fn:FuncId)(D:Nat):Loop:={ state:=.ready,pending:=none,fn:=fn,tmps:=(dG n1 u1 n2 a1 l1 c1 u2 r1 r2 n3 u3 n4 a2 l2 c2 n5 u4 n6 u5 n7 r3 r4 x1 r5 u6 v1).toArray,params:=Gp (bD Tryz.f188) 2042,assign:=Gm (bD Tryz.f188) 2042,body:=Gn (bD Tryz.f188) 2042,defers:=D }
def fe(a:Int)(b:I6)(c:Int)(d:OA)(e:Nat)(f:Nat)(g:I6)(h:Nat)(i:Nat)(j:Int)(k:I6)(l:Int)(m:OA)(n:Nat)(o:Nat)(p:Int)(q:I6)(r:Int)(s:I6)(t:Int)(u:Nat)(v:Nat)(x:Nat->Value)(y:Nat)(z:I6)(A:Value)(B:Nat)(C:I6)(w:World)(K:Bool->qW):Prop:=aq w (.cells z6.vs.toArray 44) λ a b=>aL (qd a 0) 0 C.vs b λ b=>∃ c,b.heap[B]?=some (.loop c)/\c.state=.ready/\∃ d e f,(World.putObj b B (.loop { c with state:=.busy })).drew.cell? (qd u 0)=some (.slice d e f)/\∃ g,(World.putObj b B (.loop { c with state:=.busy })).drew.cell? (qd y 0)=some (iv g)/\∃ h:Option Nat,(World.putObj b B (.loop { c with state:=.busy })).drew.cell? (qd v 0)=some (.map h)/\∃ j:I6,af (World.putObj b B (.loop { c with state:=.busy })).drew (qd a 0) 0 j.vs/\aV prog (Instr.lookup 295 (.map h) (.agg j.vs.toArray) false) (World.putObj b B (.loop { c with state:=.busy })).drew λ b c=>∃ h,b=(iv h)/\c.cell? (qd y 0)=some (iv g)/\c.cell? (qd u 0)=some (.slice d e f)/\an d λ b=>0<=g/\g<(e:Int)/\aP c (Addr.add b ((g).toNat*1)) (iv h) λ b=>∃ c:I6,af b (qd i 0) 0 c.vs/\∃ d:I6,af b (qd a 0) 0 d.vs/\∃ a,b.cell? (qd y 0)=some (iv a)/\CC 222 #[.agg c.vs.toArray,.agg d.vs.toArray,iv a,.func (.func 223) #[] #[qp u,qp y]] b λ a b=>a=.returned (.tuple #[])/\∃ a,b.cell? (qd y 0)=some (iv a)/\aP b (qd y 0) (iv (IntKind.i64.wrap (a+1))) λ a=>∃ b,a.heap[B]?=some (.loop b)/\K true (World.putObj a B (.loop { b with state:=.ready,pending:=none }))
theorem jv{n1:Int}{u1:I6}{n2:Int}{a1:OA}{l1:Nat}{c1:Nat}{u2:I6}{r1:Nat}{r2:Nat}{n3:Int}{u3:I6}{n4:Int}{a2:OA}{l2:Nat}{c2:Nat}{n5:Int}{u4:I6}{n6:Int}{u5:I6}{n7:Int}{r3:Nat}{r4:Nat}{x1:Nat->Value}{r5:Nat}{u6:I6}{v1:Value}{l21:Nat}{u9:I6}{w:World}{K:Bool->World->Prop}{r:Loop}(hl:w.heap[l21]?=some (.loop r))(ht:r.tmps=(dG n1 u1 n2 a1 l1 c1 u2 r1 r2 n3 u3 n4 a2 l2 c2 n5 u4 n6 u5 n7 r3 r4 x1 r5 u6 v1).toArray)(hp:r.params=Gp (bD Tryz.f188) 2042)(ha:r.assign=Gm (bD Tryz.f188) 2042)(hb:r.body=Gn (bD Tryz.f188) 2042)(h:fe n1 u1 n2 a1 l1 c1 u2 r1 r2 n3 u3 n4 a2 l2 c2 n5 u4 n6 u5 n7 r3 r4 x1 r5 u6 v1 l21 u9 w K):iC prog l21 #[.agg u9.vs.toArray] w K:=Ac (aA []) (args:=[.agg u9.vs.toArray]) hl ht hp ha hb (by kernel_rfl) (by kernel_rfl) (by kernel_rfl) h
def nA(a:Int)(b:I6)(c:Int)(d:OA)(e f:Nat)(g:I6)(w:World)(K:KP):=aq w (.cells (iv a :: b.on [iv c,.slice d e f]:List Value).toArray 81) λ h i=>aq i (.cells g.vs.toArray 44) λ i j=>∃ k,∃ l:I6,∃ m n o p,af j (qd h 0) 0 (iv k :: l.on [iv m,.slice n o p])/\CC 187 #[.agg (iv k :: l.on [iv m,.slice n o p]:List Value).toArray] j λ j q=>∃ r,j=.returned (iv r)/\cond (r !=0) (K (.tuple #[qn,iv r]) q) (∃ j:I6,af q (qd i 0) 0 j.vs/\CC 65 #[.agg j.vs.toArray] q λ q s=>∃ t,q=.returned (iv t)/\cond (t !=0) (K (.tuple #[qn,iv t]) s) (∃ q:I6,af s (qd i 0) 0 q.vs/\CC 90 #[.agg q.vs.toArray] s λ s u=>∃ v,s=.returned (iv v)/\cond (v==0) (K (.tuple #[qn,iv 3]) u) (∃ s:Nat->Nat->qW,(∀ x y z,s y z x->∀ A:qv,aq x (.cells #[qz] 3) λ x B=>aP B (qd x 0) qz λ B=>∃ C:I6,af B (qd i 0) 0 C.vs/\CC 48 #[.agg C.vs.toArray] B λ B D=>∃ E:Value,B=.returned E/\vf prog E λ B F=>zn prog B F (dx a b c d e f g h i k l m n o p r j t q v y z A x C E) D (λ a=>∃ b c d,a.cell? (qd y 0)=some (.slice b c d)/\a.heap[D.heap.size]?=some (.deferred (some []))/\K (.tuple #[.slice b c d,qz]) (World.putObj a D.heap.size (.deferred none))) (λ _=>False) [])/\∃ a,∃ b:I6,∃ c d e f,af u.drew (qd h 0) 0 (iv a :: b.on [iv c,.slice d e f])/\∃ g:I6,af u.drew (qd i 0) 0 g.vs/\(aV prog (Instr.makeSlice 190 (iv v) (iv v)) u.drew λ j k=>∃ l m n,j=(.slice l m n)/\af k (qd i 0) 0 g.vs/\af k (qd h 0) 0 (iv a :: b.on [iv c,.slice d e f])/\(CC 221 #[.agg (iv a :: b.on [iv c,.slice d e f]:List Value).toArray,.agg g.vs.toArray] k λ j o=>∃ p:Option Nat,j=.returned (.map p)/\(aq o (.cells #[qn] 190) λ j q=>aq q (.cells #[.map none] 295) λ q r=>aP r (qd j 0) (.slice l m n) λ r=>aP r (qd q 0) (.map p) λ r=>s j q r)/\aq o (.cells #[.map none] 295) λ j o=>aq o (.cells #[qn] 190) λ o q=>aP q (qd o 0) (.slice l m n) λ q=>aP q (qd j 0) (.map p) λ p=>s o j p)/\(aq k (.cells #[qn] 190) λ j o=>af o (qd i 0) 0 g.vs/\af o (qd h 0) 0 (iv a :: b.on [iv c,.slice d e f])/\(CC 221 #[.agg (iv a :: b.on [iv c,.slice d e f]:List Value).toArray,.agg g.vs.toArray] o λ p q=>∃ r:Option Nat,p=.returned (.map r)/\aq q (.cells #[.map none] 295) λ p q=>aP q (qd j 0) (.slice l m n) λ q=>aP q (qd p 0) (.map r) λ q=>s j p q)/\aq o (.cells #[.map none] 295) λ o p=>af p (qd i 0) 0 g.vs/\af p (qd h 0) 0 (iv a :: b.on [iv c,.slice d e f])/\CC 221 #[.agg (iv a :: b.on [iv c,.slice d e f]:List Value).toArray,.agg g.vs.toArray] p λ p q=>∃ r:Option Nat,p=.returned (.map r)/\aP q (qd j 0) (.slice l m n) λ p=>aP p (qd o 0) (.map r) λ p=>s j o p)/\aq k (.cells #[.map none] 295) λ j k=>af k (qd i 0) 0 g.vs/\af k (qd h 0) 0 (iv a :: b.on [iv c,.slice d e f])/\(CC 221 #[.agg (iv a :: b.on [iv c,.slice d e f]:List Value).toArray,.agg g.vs.toArray] k λ o p=>∃ q:Option Nat,o=.returned (.map q)/\aq p (.cells #[qn] 190) λ o p=>aP p (qd o 0) (.slice l m n) λ p=>aP p (qd j 0) (.map q) λ p=>s o j p)/\aq k (.cells #[qn] 190) λ k o=>af o (qd i 0) 0 g.vs/\af o (qd h 0) 0 (iv a :: b.on [iv c,.slice d e f])/\CC 221 #[.agg (iv a :: b.on [iv c,.slice d e f]:List Value).toArray,.agg g.vs.toArray] o λ o p=>∃ q:Option Nat,o=.returned (.map q)/\aP p (qd k 0) (.slice l m n) λ l=>aP l (qd j 0) (.map q) λ l=>s k j l)/\(CC 221 #[.agg (iv a :: b.on [iv c,.slice d e f]:List Value).toArray,.agg g.vs.toArray] u.drew λ j k=>∃ l:Option Nat,j=.returned (.map l)/\(aV prog (Instr.makeSlice 190 (iv v) (iv v)) k λ j m=>∃ n o p,j=(.slice n o p)/\(aq m (.cells #[qn] 190) λ j q=>aq q (.cells #[.map none] 295) λ q r=>aP r (qd j 0) (.slice n o p) λ r=>aP r (qd q 0) (.map l) λ r=>s j q r)/\aq m (.cells #[.map none] 295) λ j m=>aq m (.cells #[qn] 190) λ m q=>aP q (qd m 0) (.slice n o p) λ n=>aP n (qd j 0) (.map l) λ n=>s m j n)/\(aq k (.cells #[qn] 190) λ j m=>(aV prog (Instr.makeSlice 190 (iv v) (iv v)) m λ n o=>∃ p q r,n=(.slice p q r)/\aq o (.cells #[.map none] 295) λ n o=>aP o (qd j 0) (.slice p q r) λ o=>aP o (qd n 0) (.map l) λ o=>s j n o)/\aq m (.cells #[.map none] 295) λ m n=>aV prog (Instr.makeSlice 190 (iv v) (iv v)) n λ n o=>∃ p q r,n=(.slice p q r)/\aP o (qd j 0) (.slice p q r) λ n=>aP n (qd m 0) (.map l) λ n=>s j m n)/\aq k (.cells #[.map none] 295) λ j k=>(aV prog (Instr.makeSlice 190 (iv v) (iv v)) k λ m n=>∃ o p q,m=(.slice o p q)/\aq n (.cells #[qn] 190) λ m n=>aP n (qd m 0) (.slice o p q) λ n=>aP n (qd j 0) (.map l) λ n=>s m j n)/\aq k (.cells #[qn] 190) λ k m=>aV prog (Instr.makeSlice 190 (iv v) (iv v)) m λ m n=>∃ o p q,m=(.slice o p q)/\aP n (qd k 0) (.slice o p q) λ m=>aP m (qd j 0) (.map l) λ l=>s k j l)/\(aq u.drew (.cells #[qn] 190) λ j k=>af k (qd i 0) 0 g.vs/\af k (qd h 0) 0 (iv a :: b.on [iv c,.slice d e f])/\(aV prog (Instr.makeSlice 190 (iv v) (iv v)) k λ l m=>∃ n o p,l=(.slice n o p)/\af m (qd i 0) 0 g.vs/\af m (qd h 0) 0 (iv a :: b.on [iv c,.slice d e f])/\(CC 221 #[.agg (iv a :: b.on [iv c,.slice d e f]:List Value).toArray,.agg g.vs.toArray] m λ l q=>∃ r:Option Nat,l=.returned (.map r)/\aq q (.cells #[.map none] 295) λ l q=>aP q (qd j 0) (.slice n o p) λ q=>aP q (qd l 0) (.map r) λ q=>s j l q)/\aq m (.cells #[.map none] 295) λ l m=>af m (qd i 0) 0 g.vs/\af m (qd h 0) 0 (iv a :: b.on [iv c,.slice d e f])/\CC 221 #[.agg (iv a :: b.on [iv c,.slice d e f]:List Value).toArray,.agg g.vs.toArray] m λ m q=>∃ r:Option Nat,m=.returned (.map r)/\aP q (qd j 0) (.slice n o p) λ m=>aP m (qd l 0) (.map r) λ m=>s j l m)/\(CC 221 #[.agg (iv a :: b.on [iv c,.slice d e f]:List Value).toArray,.agg g.vs.toArray] k λ l m=>∃ n:Option Nat,l=.returned (.map n)/\(aV prog (Instr.makeSlice 190 (iv v) (iv v)) m λ l o=>∃ p q r,l=(.slice p q r)/\aq o (.cells #[.map none] 295) λ l o=>aP o (qd j 0) (.slice p q r) λ o=>aP o (qd l 0) (.map n) λ o=>s j l o)/\aq m (.cells #[.map none] 295) λ l m=>aV prog (Instr.makeSlice 190 (iv v) (iv v)) m λ m o=>∃ p q r,m=(.slice p q r)/\aP o (qd j 0) (.slice p q r) λ m=>aP m (qd l 0) (.map n) λ m=>s j l m)/\aq k (.cells #[.map none] 295) λ k l=>af l (qd i 0) 0 g.vs/\af l (qd h 0) 0 (iv a :: b.on [iv c,.slice d e f])/\(aV prog (Instr.makeSlice 190 (iv v) (iv v)) l λ m n=>∃ o p q,m=(.slice o p q)/\af n (qd i 0) 0 g.vs/\af n (qd h 0) 0 (iv a :: b.on [iv c,.slice d e f])/\CC 221 #[.agg (iv a :: b.on [iv c,.slice d e f]:List Value).toArray,.agg g.vs.toArray] n λ m n=>∃ r:Option Nat,m=.returned (.map r)/\aP n (qd j 0) (.slice o p q) λ m=>aP m (qd k 0) (.map r) λ m=>s j k m)/\CC 221 #[.agg (iv a :: b.on [iv c,.slice d e f]:List Value).toArray,.agg g.vs.toArray] l λ l m=>∃ n:Option Nat,l=.returned (.map n)/\aV prog (Instr.makeSlice 190 (iv v) (iv v)) m λ l m=>∃ o p q,l=(.slice o p q)/\aP m (qd j 0) (.slice o p q) λ l=>aP l (qd k 0) (.map n) λ l=>s j k l)/\aq u.drew (.cells #[.map none] 295) λ j k=>af k (qd i 0) 0 g.vs/\af k (qd h 0) 0 (iv a :: b.on [iv c,.slice d e f])/\(aV prog (Instr.makeSlice 190 (iv v) (iv v)) k λ l m=>∃ n o p,l=(.slice n o p)/\af m (qd i 0) 0 g.vs/\af m (qd h 0) 0 (iv a :: b.on [iv c,.slice d e f])/\(CC 221 #[.agg (iv a :: b.on [iv c,.slice d e f]:List Value).toArray,.agg g.vs.toArray] m λ l q=>∃ r:Option Nat,l=.returned (.map r)/\aq q (.cells #[qn] 190) λ l q=>aP q (qd l 0) (.slice n o p) λ q=>aP q (qd j 0) (.map r) λ q=>s l j q)/\aq m (.cells #[qn] 190) λ l m=>af m (qd i 0) 0 g.vs/\af m (qd h 0) 0 (iv a :: b.on [iv c,.slice d e f])/\CC 221 #[.agg (iv a :: b.on [iv c,.slice d e f]:List Value).toArray,.agg g.vs.toArray] m λ m q=>∃ r:Option Nat,m=.returned (.map r)/\aP q (qd l 0) (.slice n o p) λ m=>aP m (qd j 0) (.map r) λ m=>s l j m)/\(CC 221 #[.agg (iv a :: b.on [iv c,.slice d e f]:List Value).toArray,.agg g.vs.toArray] k λ l m=>∃ n:Option Nat,l=.returned (.map n)/\(aV prog (Instr.makeSlice 190 (iv v) (iv v)) m λ l o=>∃ p q r,l=(.slice p q r)/\aq o (.cells #[qn] 190) λ l o=>aP o (qd l 0) (.slice p q r) λ o=>aP o (qd j 0) (.map n) λ o=>s l j o)/\aq m (.cells #[qn] 190) λ l m=>aV prog (Instr.makeSlice 190 (iv v) (iv v)) m λ m o=>∃ p q r,m=(.slice p q r)/\aP o (qd l 0) (.slice p q r) λ m=>aP m (qd j 0) (.map n) λ m=>s l j m)/\aq k (.cells #[qn] 190) λ k l=>af l (qd i 0) 0 g.vs/\af l (qd h 0) 0 (iv a :: b.on [iv c,.slice d e f])/\(aV prog (Instr.makeSlice 190 (iv v) (iv v)) l λ m n=>∃ o p q,m=(.slice o p q)/\af n (qd i 0) 0 g.vs/\af n (qd h 0) 0 (iv a :: b.on [iv c,.slice d e f])/\CC 221 #[.agg (iv a :: b.on [iv c,.slice d e f]:List Value).toArray,.agg g.vs.toArray] n λ h i=>∃ m:Option Nat,h=.returned (.map m)/\aP i (qd k 0) (.slice o p q) λ h=>aP h (qd j 0) (.map m) λ h=>s k j h)/\CC 221 #[.agg (iv a :: b.on [iv c,.slice d e f]:List Value).toArray,.agg g.vs.toArray] l λ a b=>∃ c:Option Nat,a=.returned (.map c)/\aV prog (Instr.makeSlice 190 (iv v) (iv v)) b λ a b=>∃ d e f,a=(.slice d e f)/\aP b (qd k 0) (.slice d e f) λ a=>aP a (qd j 0) (.map c) λ a=>s k j a)))
theorem rX{n1 u1 n2 a1 l1 c1 u2 w K}(h:nA n1 u1 n2 a1 l1 c1 u2 w K):CP 188 #[.agg (iv n1 :: u1.on [iv n2,.slice a1 l1 c1]:List Value).toArray,.agg u2.vs.toArray] w K:=ah (aA [(63,[(9,.s (.blk)),(10,.s (.blk))])]) func188 (by kernel_rfl) (by kernel_rfl) h
noncomputable def dO(a1:OA)(l1:Nat)(c1:Nat)(u1:I6)(r1:Nat)(r2:Nat)(a2:OA)(l2:Nat)(c2:Nat)(a3:OA)(l3:Nat)(c3:Nat)(r3:Nat)(a4:OA)(l4:Nat)(c4:Nat)(a5:OA)(l5:Nat)(c5:Nat)(_e1:Value)(r4:Nat)(r5:Nat)(u2:I6)(v1:Value):Tm:=[.slice a1 l1 c1,.agg u1.vs.toArray,qp r1,qp r2,qn,qz,qp r3,qp r4,qp r5,undef,undef,.slice a2 l2 c2,iv (l2:Int),.slice a3 l3 c3,.slice a4 l4 c4,.slice a5 l5 c5,_e1,.agg u2.vs.toArray,v1,undef,undef,undef,undef,undef,undef,undef,undef,undef,undef,undef,undef,undef,undef,undef,undef,undef,undef,undef,undef,undef,undef,undef,undef,undef,undef,undef,undef,undef,undef,undef,undef,undef,undef,undef,undef,undef,undef,undef]
noncomputable def dD(a1:OA)(l1:Nat)(c1:Nat)(u1:I6)(r1:Nat)(r2:Nat)(a2:OA)(l2:Nat)(c2:Nat)(a3:OA)(l3:Nat)(c3:Nat)(r3:Nat)(a4:OA)(l4:Nat)(c4:Nat)(a5:OA)(l5:Nat)(c5:Nat)(_e1:Value)(r4:Nat)(r5:Nat)(u2:I6)(v1:Value)(fn:FuncId)(D:Nat):Loop:={ state:=.ready,pending:=none,fn:=fn,tmps:=(dO a1 l1 c1 u1 r1 r2 a2 l2 c2 a3 l3 c3 r3 a4 l4 c4 a5 l5 c5 _e1 r4 r5 u2 v1).toArray,params:=Gp (bD Tryz.f189) 506,assign:=Gm (bD Tryz.f189) 506,body:=Gn (bD Tryz.f189) 506,defers:=D }
def fz(a:OA)(b:Nat)(c:Nat)(d:I6)(e:Nat)(f:Nat)(g:OA)(h:Nat)(i:Nat)(j:OA)(k:Nat)(l:Nat)(m:Nat)(n:OA)(o:Nat)(p:Nat)(q:OA)(r:Nat)(s:Nat)(_e1:Value)(t:Nat)(u:Nat)(v:I6)(x:Value)(y:Nat)(z:I6)(w:World)(K:Bool->qW):Prop:=aq w (.cells z6.vs.toArray 44) λ a b=>aL (qd a 0) 0 z.vs b λ b=>∃ c,b.heap[y]?=some (.loop c)/\c.state=.ready/\∃ d:I6,af (World.putObj b y (.loop { c with state:=.busy })) (qd f 0) 0 d.vs/\∃ f:I6,af (World.putObj b y (.loop { c with state:=.busy })) (qd a 0) 0 f.vs/\∃ g h i,(World.putObj b y (.loop { c with state:=.busy })).cell? (qd m 0)=some (.slice g h i)/\CC 224 #[.agg d.vs.toArray,.agg f.vs.toArray,.slice g h i] (World.putObj b y (.loop { c with state:=.busy })) λ b c=>∃ d,b=.returned (iv d)/\∃ b:qW,(∀ f,b f->∀ g:qv,∃ g h i,f.drew.cell? (qd m 0)=some (.slice g h i)/\∃ i,f.drew.cell? (qd u 0)=some (iv i)/\∃ j k l,f.drew.cell? (qd m 0)=some (.slice j k l)/\∃ l,f.drew.cell? (qd u 0)=some (iv l)/\an j λ j=>0<=l/\l<(k:Int)/\∃ k,f.drew.cell? (Addr.add j ((l).toNat*1))=some (iv k)/\an g λ g=>0<=i/\i<(h:Int)/\aP f.drew (Addr.add g ((i).toNat*1)) (iv (if d>k then d else k)) λ f=>∃ g,f.cell? (qd u 0)=some (iv g)/\aP f (qd u 0) (iv (IntKind.i64.wrap (g+1))) λ f=>∃ g,f.heap[y]?=some (.loop g)/\K true (World.putObj f y (.loop { g with state:=.ready,pending:=none })))/\∃ f:Bool->qW,(∀ g h,f h g->∀ i:qv,cond h (∃ h i j,g.drew.cell? (qd t 0)=some (.slice h i j)/\∃ k:I6,af g.drew (qd a 0) 0 k.vs/\∃ a l m,g.drew.cell? (qd e 0)=some (.slice a l m)/\∃ m,g.drew.cell? (qd u 0)=some (iv m)/\an a λ a=>0<=m/\m<(l:Int)/\∃ l,g.drew.cell? (Addr.add a ((m).toNat*1))=some (iv l)/\aq g.drew (.cells (qz :: k.on [iv l]:List Value).toArray 68) λ a k=>k.cell? (qd t 0)=some (.slice h i j)/\aV prog (Builtin.append_ #[62,62] 62 #[.slice h i j,.slice (some (qd a 0)) 1 1]) k λ a h=>∃ i j k,a=(.slice i j k)/\aP h (qd t 0) (.slice i j k) λ a=>b a) (b g))/\∃ a,c.cell? (qd u 0)=some (iv a)/\cond (decide (a>0)) (∃ a b g,c.cell? (qd e 0)=some (.slice a b g)/\∃ e,c.cell? (qd u 0)=some (iv e)/\an a λ a=>0<=e/\e<(b:Int)/\∃ b,c.cell? (Addr.add a ((e).toNat*1))=some (iv b)/\f (decide (b>d)) c) (f false c)
theorem kn{a1:OA}{l1:Nat}{c1:Nat}{u1:I6}{r1:Nat}{r2:Nat}{a2:OA}{l2:Nat}{c2:Nat}{a3:OA}{l3:Nat}{c3:Nat}{r3:Nat}{a4:OA}{l4:Nat}{c4:Nat}{a5:OA}{l5:Nat}{c5:Nat}{_e1:Value}{r4:Nat}{r5:Nat}{u2:I6}{v1:Value}{l8:Nat}{u3:I6}{w:World}{K:Bool->World->Prop}{r:Loop}(hl:w.heap[l8]?=some (.loop r))(ht:r.tmps=(dO a1 l1 c1 u1 r1 r2 a2 l2 c2 a3 l3 c3 r3 a4 l4 c4 a5 l5 c5 _e1 r4 r5 u2 v1).toArray)(hp:r.params=Gp (bD Tryz.f189) 506)(ha:r.assign=Gm (bD Tryz.f189) 506)(hb:r.body=Gn (bD Tryz.f189) 506)(h:fz a1 l1 c1 u1 r1 r2 a2 l2 c2 a3 l3 c3 r3 a4 l4 c4 a5 l5 c5 _e1 r4 r5 u2 v1 l8 u3 w K):iC prog l8 #[.agg u3.vs.toArray] w K:=Ac (aA [(13,[]),(26,[(33,.s .bool)])]) (args:=[.agg u3.vs.toArray]) hl ht hp ha hb (by kernel_rfl) (by kernel_rfl) (by kernel_rfl) h
def nh(a:OA)(b c:Nat)(d:I6)(w:World)(K:KP):=aq w (.cells #[.slice a b c] 190) λ e f=>aq f (.cells d.vs.toArray 44) λ f g=>∃ h i j,g.cell? (qd e 0)=some (.slice h i j)/\aV prog (Instr.makeSlice 190 (iv (i:Int)) (iv (i:Int))) g λ g k=>∃ l m n,g=(.slice l m n)/\aq k (.cells #[qn] 190) λ g k=>aP k (qd g 0) (.slice l m n) λ k=>∃ o p q,k.cell? (qd g 0)=some (.slice o p q)/\∃ r s t,k.cell? (qd e 0)=some (.slice r s t)/\aV prog (Builtin.copy_ #[190,190] 3 #[.slice o p q,.slice r s t]) k λ _e1 k=>aq k (.cells #[qn] 62) λ k u=>aq u (.cells #[qz] 3) λ u v=>aP v (qd u 0) qz λ v=>∃ x:I6,af v (qd f 0) 0 x.vs/\CC 48 #[.agg x.vs.toArray] v λ v y=>∃ z:Value,v=.returned z/\vf prog z λ v A=>zn prog v A (dD a b c d e f h i j l m n g o p q r s t _e1 k u x z) y (λ a=>∃ b c d,a.cell? (qd k 0)=some (.slice b c d)/\cond (decide ((c:Int)>(40:Int))) (a.heap[y.heap.size]?=some (.deferred (some []))/\K (.tuple #[qn,iv 3]) (World.putObj a y.heap.size (.deferred none))) (∃ b c d,a.cell? (qd k 0)=some (.slice b c d)/\a.heap[y.heap.size]?=some (.deferred (some []))/\K (.tuple #[.slice b c d,qz]) (World.putObj a y.heap.size (.deferred none)))) (λ _=>False) []
theorem rJ{a1 l1 c1 u1 w K}(h:nh a1 l1 c1 u1 w K):CP 189 #[.slice a1 l1 c1,.agg u1.vs.toArray] w K:=ah (aA []) func189 (by kernel_rfl) (by kernel_rfl) h
def tO(a:OA)(b c:Nat)(w:World)(K:KP):=∃ c:Int->qN,(∃ d,c 0 w d)/\∀ e d f,c f e d->∀ g:qv,cond (decide (f<(b:Int))) (an a λ a=>0<=f/\f<(b:Int)/\∃ b g:I6,af e (Addr.add a ((f).toNat*12)) 0 (b.on (g.vs))/\aq e (.cells #[qz,qz,qz,qz,qz,qz,qz,qz,qz,qz,qz,qz] 114) λ a h=>aL (qd a 0) 0 (b.on (g.vs)) h λ b=>∃ g h:I6,af b (qd a 0) 0 (g.on (h.vs))/\aq b (.cells (g.on (h.vs):List Value).toArray 114) λ a b=>CC 126 #[.slice (some (qd a 0)) 1 1,.agg #[qn,qn]] b λ a b=>∃ g,a=.returned (iv g)/\cond (g==4) (K (.bool false) b) (∃ a,a<d/\c (IntKind.i64.wrap (f+1)) b a)) (K (.bool true) e)
theorem wY{a1 l1 c1 w K}(h:tO a1 l1 c1 w K):CP 93 #[.slice a1 l1 c1] w K:=ah (aA [(26,[(7,.s (.int .i64))])]) func93 (by kernel_rfl) (by kernel_rfl) h
def tP(a:Int)(b:I6)(c:Int)(w:World)(K:KP):=aq w (.cells (iv a :: b.on [iv c]:List Value).toArray 68) λ a b=>∃ c:I6,af b (qd a 1) 0 c.vs/\CC 65 #[.agg c.vs.toArray] b λ b c=>∃ d,b=.returned (iv d)/\cond (d==0) (∃ b:I6,af c (qd a 1) 0 b.vs/\cond (!(I6.beq b z6)) (∃ b,c.cell? (qd a 7)=some (iv b)/\cond (decide (b>=1)) (∃ b,c.cell? (qd a 7)=some (iv b)/\K (.bool (decide (b<=1000000))) c) (K (.bool false) c)) (K (.bool false) c)) (K (.bool false) c)
theorem wZ{n1 u1 n2 w K}(h:tP n1 u1 n2 w K):CP 127 #[.agg (iv n1 :: u1.on [iv n2]:List Value).toArray] w K:=ah (aA []) func127 (by kernel_rfl) (by kernel_rfl) h
def qU(a:OA)(b c:Nat)(d:OA)(e f:Nat)(w:World)(K:KP):=aq w (.cells #[.slice a b c] 121) λ a b=>aq b (.cells #[.slice d e f] 62) λ b c=>K (.func (.func 166) #[] #[qp a,qp b]) c
theorem vh{a1 l1 c1 a2 l2 c2 w K}(h:qU a1 l1 c1 a2 l2 c2 w K):CP 128 #[.slice a1 l1 c1,.slice a2 l2 c2] w K:=ah (aA []) func128 (by kernel_rfl) (by kernel_rfl) h
def vZ(a:OA)(b c:Nat)(d:Value)(e:I6)(w:World)(K:KP):=aq w (.cells e.vs.toArray 44) λ c e=>∃ f:Int->Int->qN,(∃ g,f 1000000 (0:Int) e g)/\∀ e g h i,f h i e g->∀ j:qv,cond (decide (i<(b:Int))) (∃ j:Int->qW,(∀ k l,j l k->∀ m:qv,∃ m,m<g/\f l (IntKind.i64.wrap (i+1)) k m)/\an a λ a=>0<=i/\i<(b:Int)/\∃ b f:I6,af e (Addr.add a ((i).toNat*12)) 0 (b.on (f.vs))/\aq e (.cells #[qz,qz,qz,qz,qz,qz,qz,qz,qz,qz,qz,qz] 114) λ a g=>aL (qd a 0) 0 (b.on (f.vs)) g λ b=>∃ f:I6,af b (qd a 6) 0 f.vs/\∃ g:I6,af b (qd c 0) 0 g.vs/\cond (!(I6.beq f g)) (∃ f:I6,af b.drew (qd a 6) 0 f.vs/\∃ g:I6,af b.drew (qd a 0) 0 g.vs/\∃ i:I6,af b.drew (qd c 0) 0 i.vs/\∃ k:I6,af b.drew (qd a 0) 0 k.vs/\∃ l:I6,af b.drew (qd a 6) 0 l.vs/\cU prog d #[.agg f.vs.toArray] b.drew λ d f=>∃ m,d=.returned (iv m)/\af f (qd a 6) 0 l.vs/\af f (qd a 0) 0 k.vs/\af f (qd c 0) 0 i.vs/\af f (qd a 0) 0 g.vs/\CC 86 #[.agg g.vs.toArray,.agg i.vs.toArray] f λ c d=>∃ f,c=.returned (iv f)/\af d (qd a 6) 0 l.vs/\af d (qd a 0) 0 k.vs/\CC 86 #[.agg k.vs.toArray,.agg l.vs.toArray] d λ a c=>∃ d,a=.returned (iv d)/\j (if (IntKind.i64.wrap ((IntKind.i64.wrap (m+f))-d))<h then (IntKind.i64.wrap ((IntKind.i64.wrap (m+f))-d)) else h) c) (j h b)) (K (iv h) e)
theorem zq{a1 l1 c1 v1 u1 w K}(h:vZ a1 l1 c1 v1 u1 w K):CP 129 #[.slice a1 l1 c1,v1,.agg u1.vs.toArray] w K:=ah (aA [(58,[(7,.s (.int .i64)),(12,.s (.int .i64))]),(467,[(7,.s (.int .i64))])]) func129 (by kernel_rfl) (by kernel_rfl) h
def iQ(a:ByteArray)(w:World)(K:KP):=aV prog (Instr.range 9 (.string (bs [120,111,114,32,111,114,32,98,111,110,117,115,32,108,105,109,105,116,32]))) w λ b c=>∃ d,b=(qp d)/\∃ b:Int->Int->qN,(∃ e,b 2 (0:Int) c e)/\∀ c e f g,b f g c e->∀ h:qv,aV prog (Instr.next (qp d) true 0) c λ c d=>(c=(.tuple #[.bool false])/\K qz d)\/∃ h i,c=(.tuple #[.bool true,iv h,.int .i32 i])/\cond (i !=32) (∃ c,c<e/\b f g d c) (0<=h/\h<=(((bs [120,111,114,32,111,114,32,98,111,110,117,115,32,108,105,109,105,116,32]).size:Nat):Int)/\0<=g/\g<=(((h).toNat:Nat):Int)/\cond (((bs [120,111,114,32,111,114,32,98,111,110,117,115,32,108,105,109,105,116,32]).extract ((g).toNat) ((h).toNat)).toList==a.toList) (K (iv f) d) (∃ c,c<e/\b (IntKind.i64.wrap (f+1)) (IntKind.i64.wrap (h+1)) d c))
theorem nK{s1 w K}(h:iQ s1 w K):CP 205 #[.string s1] w K:=ah (aA [(58,[(3,.s (.int .i64)),(4,.s (.int .i64))])]) func205 (by kernel_rfl) (by kernel_rfl) h
def eP(a:OA)(b c:Nat)(d:OA)(w:World)(K:KP):=aq w (.cells #[.slice a b c,.pointer d] 262) λ a b=>aq b (.cells z6.vs.toArray 44) λ b c=>∃ d:qW,(∀ e,d e->∀ f:qv,∃ f g h,e.cell? (qd a 0)=some (.slice f g h)/\∃ i,e.cell? (qd a 1)=some (.pointer i)/\CC 234 #[.slice f g h,.pointer i] e λ e f=>∃ g:I6,e=.returned (.agg g.vs.toArray)/\aq f (.cells z6.vs.toArray 44) λ e f=>aL (qd e 0) 0 g.vs f λ f=>∃ g,f.cell? (qd a 1)=some (.pointer g)/\CC 209 #[.pointer g,.string (bs [64])] f λ f g=>f=.returned (.tuple #[])/\∃ f:I6,af g.drew (qd e 0) 0 f.vs/\∃ h,g.drew.cell? (qd a 1)=some (.pointer h)/\CC 212 #[.pointer h,iv 1000000] g.drew λ g h=>∃ i,g=.returned (iv i)/\af h (qd e 0) 0 f.vs/\aL (qd b 0) 0 f.vs h λ e=>∃ f:I6,af e (qd b 0) 0 f.vs/\K (.tuple #[.agg f.vs.toArray,iv i]) e)/\∃ b,c.cell? (qd a 1)=some (.pointer b)/\CC 204 #[.pointer b] c λ b c=>∃ e f g h,b=.returned (.agg #[iv e,.string f,iv g,iv h])/\aq c (.cells #[qz,.string (bs []),qz,qz] 280) λ b c=>aL (qd b 0) 0 [iv e,.string f,iv g,iv h] c λ c=>∃ e,c.cell? (qd b 0)=some (iv e)/\cond (e==0) (∃ e,c.cell? (qd a 1)=some (.pointer e)/\CC 206 #[.pointer e,iv 1] c λ e f=>e=.returned (.tuple #[])/\d f) (∃ e:Bool->qW,(∀ f g,e g f->∀ h:qv,cond g (∃ g,f.cell? (qd a 1)=some (.pointer g)/\CC 206 #[.pointer g,iv 2] f λ a g=>a=.returned (.tuple #[])/\d g) (d f))/\∃ a,c.cell? (qd b 0)=some (iv a)/\cond (a !=3) (e true c) (∃ a,c.cell? (qd b 1)=some (.string a)/\e (!(a.toList==(bs [123]).toList)) c))
theorem jr{a1 l1 c1 p1 w K}(h:eP a1 l1 c1 p1 w K):CP 207 #[.agg #[.slice a1 l1 c1,.pointer p1]] w K:=ah (aA [(3,[]),(107,[(16,.s .bool)])]) func207 (by kernel_rfl) (by kernel_rfl) h
def dM(a:OA)(b c:Nat)(d:OA)(w:World)(K:KP):=aq w (.cells #[.slice a b c,.pointer d] 262) λ a b=>aq b (.cells #[qz,qz,qz,qz,qz,qz,qz,qz,qn] 81) λ b c=>∃ d,c.cell? (qd a 1)=some (.pointer d)/\CC 213 #[.pointer d] c λ c d=>∃ e,c=.returned (iv e)/\cond (e !=0) (aL (qd b 0) 0 [qz,qz,qz,qz,qz,qz,qz,qz,qn] d λ c=>∃ e,∃ f:I6,∃ g h i j,af c (qd b 0) 0 (iv e :: f.on [iv g,.slice h i j])/\K (.agg (iv e :: f.on [iv g,.slice h i j]:List Value).toArray) c) (∃ c e f g,af d (qd a 0) 0 [.slice c e f,.pointer g]/\CC 185 #[.agg #[.slice c e f,.pointer g]] d λ a c=>∃ d,∃ e:I6,∃ f g h i,a=.returned (.agg (iv d :: e.on [iv f,.slice g h i]:List Value).toArray)/\aL (qd b 0) 0 (iv d :: e.on [iv f,.slice g h i]) c λ a=>∃ c,∃ d:I6,∃ e f g h,af a (qd b 0) 0 (iv c :: d.on [iv e,.slice f g h])/\K (.agg (iv c :: d.on [iv e,.slice f g h]:List Value).toArray) a)
theorem iy{a1 l1 c1 p1 w K}(h:dM a1 l1 c1 p1 w K):CP 210 #[.agg #[.slice a1 l1 c1,.pointer p1]] w K:=ah (aA []) func210 (by kernel_rfl) (by kernel_rfl) h
def yJ(a:Int)(b:I6)(c:Int)(d:OA)(e f:Nat)(w:World)(K:KP):=aq w (.cells (iv a :: b.on [iv c,.slice d e f]:List Value).toArray 81) λ a b=>∃ c d e,b.cell? (qd a 8)=some (.slice c d e)/\∃ a:Int->Int->qN,(∃ e,a 0 (0:Int) b e)/\∀ b e f g,a f g b e->∀ h:qv,cond (decide (g<(d:Int))) (an c λ c=>0<=g/\g<(d:Int)/\∃ d,∃ h:I6,∃ i j k l,af b (Addr.add c ((g).toNat*9)) 0 (iv d :: h.on [iv i,.slice j k l])/\aq b (.cells #[qz,qz,qz,qz,qz,qz,qz,qz,qn] 81) λ c m=>aL (qd c 0) 0 (iv d :: h.on [iv i,.slice j k l]) m λ d=>∃ h,∃ i:I6,∃ j k l m,af d (qd c 0) 0 (iv h :: i.on [iv j,.slice k l m])/\CC 214 #[.agg (iv h :: i.on [iv j,.slice k l m]:List Value).toArray] d λ c d=>∃ h,c=.returned (iv h)/\∃ c,c<e/\a (if h>f then h else f) (IntKind.i64.wrap (g+1)) d c) (K (iv (IntKind.i64.wrap (f+1))) b)
theorem As{n1 u1 n2 a1 l1 c1 w K}(h:yJ n1 u1 n2 a1 l1 c1 w K):CP 214 #[.agg (iv n1 :: u1.on [iv n2,.slice a1 l1 c1]:List Value).toArray] w K:=ah (aA [(58,[(3,.s (.int .i64)),(9,.s (.int .i64))])]) func214 (by kernel_rfl) (by kernel_rfl) h
def sY(a:Int)(b:I6)(c:Int)(d:OA)(e f:Nat)(w:World)(K:KP):=aq w (.cells (iv a :: b.on [iv c,.slice d e f]:List Value).toArray 81) λ a b=>∃ c d e,b.cell? (qd a 8)=some (.slice c d e)/\K (.bool (decide ((d:Int)<=(8:Int)))) b
theorem wL{n1 u1 n2 a1 l1 c1 w K}(h:sY n1 u1 n2 a1 l1 c1 w K):CP 215 #[.agg (iv n1 :: u1.on [iv n2,.slice a1 l1 c1]:List Value).toArray] w K:=ah (aA []) func215 (by kernel_rfl) (by kernel_rfl) h
def kP(a:Value)(b:Int)(c:I6)(d:Int)(e:OA)(f g:Nat)(w:World)(K:KP):=aq w (.cells #[a] 293) λ a h=>aq h (.cells (iv b :: c.on [iv d,.slice e f g]:List Value).toArray 81) λ b c=>∃ d:Value,c.cell? (qd a 0)=some d/\∃ e,∃ f:I6,∃ g h i j,af c (qd b 0) 0 (iv e :: f.on [iv g,.slice h i j])/\cU prog d #[.agg (iv e :: f.on [iv g,.slice h i j]:List Value).toArray] c λ c d=>∃ e,c=.returned (.bool e)/\cond (!e) (K (.bool false) d) (∃ c e f,d.cell? (qd b 8)=some (.slice c e f)/\∃ b:Int->qN,(∃ f,b 0 d f)/\∀ d f g,b g d f->∀ h:qv,cond (decide (g<(e:Int))) (an c λ c=>0<=g/\g<(e:Int)/\∃ e,∃ h:I6,∃ i j k l,af d (Addr.add c ((g).toNat*9)) 0 (iv e :: h.on [iv i,.slice j k l])/\aq d (.cells #[qz,qz,qz,qz,qz,qz,qz,qz,qn] 81) λ c m=>aL (qd c 0) 0 (iv e :: h.on [iv i,.slice j k l]) m λ e=>∃ h:Value,af e (qd a 0) 0 [h]/\∃ a,∃ i:I6,∃ j k l m,af e (qd c 0) 0 (iv a :: i.on [iv j,.slice k l m])/\CC 216 #[.agg #[h],.agg (iv a :: i.on [iv j,.slice k l m]:List Value).toArray] e λ a c=>∃ e,a=.returned (.bool e)/\cond (!e) (K (.bool false) c) (∃ a,a<f/\b (IntKind.i64.wrap (g+1)) c a)) (K (.bool true) d))
theorem qA{v1 n1 u1 n2 a1 l1 c1 w K}(h:kP v1 n1 u1 n2 a1 l1 c1 w K):CP 216 #[.agg #[v1],.agg (iv n1 :: u1.on [iv n2,.slice a1 l1 c1]:List Value).toArray] w K:=ah (aA [(58,[(15,.s (.int .i64))])]) func216 (by kernel_rfl) (by kernel_rfl) h
def AZ(a:Int)(b:I6)(c:Int)(d:OA)(e f:Nat)(w:World)(K:KP):=aq w (.cells (iv a :: b.on [iv c,.slice d e f]:List Value).toArray 81) λ a b=>aq b (.cells #[qz] 3) λ b c=>aP c (qd b 0) qz λ c=>aq c (.cells #[.nilFunc] 293) λ c d=>aP d (qd c 0) (.func (.func 236) #[] #[qp b]) λ d=>∃ e:Value,af d (qd c 0) 0 [e]/\∃ c,∃ f:I6,∃ g h i j,af d (qd a 0) 0 (iv c :: f.on [iv g,.slice h i j])/\CC 216 #[.agg #[e],.agg (iv c :: f.on [iv g,.slice h i j]:List Value).toArray] d λ a c=>∃ d,a=.returned (.bool d)/\∃ a,c.cell? (qd b 0)=some (iv a)/\K (iv a) c
theorem Cf{n1 u1 n2 a1 l1 c1 w K}(h:AZ n1 u1 n2 a1 l1 c1 w K):CP 217 #[.agg (iv n1 :: u1.on [iv n2,.slice a1 l1 c1]:List Value).toArray] w K:=ah (aA []) func217 (by kernel_rfl) (by kernel_rfl) h
def sZ(a:Int)(b:I6)(c:Int)(d:OA)(e f g:Nat)(w:World)(K:KP):=aq w (.cells (iv a :: b.on [iv c,.slice d e f]:List Value).toArray 81) λ a b=>∃ c:qW,(∀ d,c d->∀ e:qv,∃ e,d.cell? (qd g 0)=some (iv e)/\K (.bool (e==0)) d)/\∃ d,∃ e:I6,∃ f h i j,af b (qd a 0) 0 (iv d :: e.on [iv f,.slice h i j])/\CC 219 #[.agg (iv d :: e.on [iv f,.slice h i j]:List Value).toArray] b λ b d=>∃ e,b=.returned (.bool e)/\cond (!e) (aP d (qd g 0) (iv 2) λ b=>c b) (∃ b,∃ e:I6,∃ f h i j,af d (qd a 0) 0 (iv b :: e.on [iv f,.slice h i j])/\CC 220 #[.agg (iv b :: e.on [iv f,.slice h i j]:List Value).toArray] d λ a b=>∃ d,a=.returned (.bool d)/\cond (!d) (aP b (qd g 0) (iv 4) λ a=>c a) (c b))
theorem wM{n1 u1 n2 a1 l1 c1 b1 w K}(h:sZ n1 u1 n2 a1 l1 c1 b1 w K):CP 218 #[.agg (iv n1 :: u1.on [iv n2,.slice a1 l1 c1]:List Value).toArray,.pointer (some ⟨b1,0,none⟩)] w K:=ah (aA [(3,[])]) func218 (by kernel_rfl) (by kernel_rfl) h
def A2(a:Int)(b:I6)(c:Int)(d:OA)(e f:Nat)(w:World)(K:KP):=aq w (.cells (iv a :: b.on [iv c,.slice d e f]:List Value).toArray 81) λ a b=>∃ c d e,b.cell? (qd a 8)=some (.slice c d e)/\∃ c,b.cell? (qd a 0)=some (iv c)/\cond (c==1) (K (.bool ((d:Int)==(0:Int))) b) (∃ e:Bool->qW,(∀ f g,e g f->∀ h:qv,cond g (cond (decide ((d:Int)>=(1:Int))) (cond (decide ((d:Int)<=(8:Int))) (∃ g:I6,af f (qd a 1) 0 g.vs/\cond (I6.beq g z6) (∃ g,f.cell? (qd a 7)=some (iv g)/\K (.bool (g==0)) f) (K (.bool false) f)) (K (.bool false) f)) (K (.bool false) f)) (cond (c==4) (K (.bool ((d:Int)==(1:Int))) f) (cond (c==5) (cond ((d:Int)==(1:Int)) (∃ d:I6,af f (qd a 1) 0 d.vs/\K (.bool (I6.beq d z6)) f) (K (.bool false) f)) (K (.bool false) f))))/\cond (c==2) (e (c==2) b) (e (c==3) b))
theorem Cg{n1 u1 n2 a1 l1 c1 w K}(h:A2 n1 u1 n2 a1 l1 c1 w K):CP 219 #[.agg (iv n1 :: u1.on [iv n2,.slice a1 l1 c1]:List Value).toArray] w K:=ah (aA [(235,[(13,.s .bool)])]) func219 (by kernel_rfl) (by kernel_rfl) h
def vN(a:Int)(b:I6)(c:Int)(d:OA)(e f:Nat)(w:World)(K:KP):=aq w (.cells (iv a :: b.on [iv c,.slice d e f]:List Value).toArray 81) λ a b=>∃ c,b.cell? (qd a 0)=some (iv c)/\∃ d:Bool->qW,(∀ e f,d f e->∀ g:qv,cond f (K (.bool true) e) (∃ f:Bool->qW,(∀ g h,f h g->∀ i:qv,cond h (K (.bool false) g) (∃ h,g.cell? (qd a 0)=some (iv h)/\cond (h==5) (K (.bool true) g) (∃ h:I6,af g (qd a 1) 0 h.vs/\CC 65 #[.agg h.vs.toArray] g λ g h=>∃ i,g=.returned (iv i)/\cond (i==0) (∃ g:I6,af h (qd a 1) 0 g.vs/\CC 237 #[.agg g.vs.toArray] h λ g i=>∃ j,g=.returned (iv j)/\K (.bool (decide (j>0))) i) (K (.bool false) h))))/\∃ g,e.cell? (qd a 7)=some (iv g)/\cond (decide (g<1)) (f true e) (∃ g,e.cell? (qd a 7)=some (iv g)/\f (decide (g>1000000)) e)))/\cond (c==2) (d (c==2) b) (d (c==3) b)
theorem yL{n1 u1 n2 a1 l1 c1 w K}(h:vN n1 u1 n2 a1 l1 c1 w K):CP 220 #[.agg (iv n1 :: u1.on [iv n2,.slice a1 l1 c1]:List Value).toArray] w K:=ah (aA [(26,[(5,.s .bool)]),(14,[(15,.s .bool)])]) func220 (by kernel_rfl) (by kernel_rfl) h
def uj(a:Int)(b:I6)(c:Int)(d:OA)(e f:Nat)(g:I6)(w:World)(K:KP):=aq w (.cells (iv a :: b.on [iv c,.slice d e f]:List Value).toArray 81) λ a b=>aq b (.cells g.vs.toArray 44) λ b c=>aV prog (Instr.makeMap 295 none) c λ c d=>∃ e:Option Nat,c=(.map e)/\∃ c:Option Nat->qW,(∀ f,∀ g:Option Nat,c g f->∀ h:qv,K (.map g) f)/\∃ f,d.cell? (qd a 0)=some (iv f)/\cond (f==1) (∃ g:I6,af d (qd b 0) 0 g.vs/\∃ h:I6,af d (qd a 1) 0 h.vs/\∃ i,d.cell? (qd a 7)=some (iv i)/\CC 239 #[.map e,.agg g.vs.toArray,.agg h.vs.toArray,iv i] d λ g h=>g=.returned (.tuple #[])/\c e h) (cond (f==2) (∃ g h i,d.cell? (qd a 8)=some (.slice g h i)/\∃ g:Int->qN,(∃ i,g 0 d i)/\∀ j i k,g k j i->∀ l:qv,cond (decide (k<(h:Int))) (∃ h:I6,af j.drew (qd b 0) 0 h.vs/\CC 238 #[iv k,qp a,qp b] j.drew λ l m=>∃ n:Option Nat,l=.returned (.map n)/\af m (qd b 0) 0 h.vs/\CC 240 #[.map e,.agg h.vs.toArray,.map n] m λ h l=>h=.returned (.tuple #[])/\∃ h,h<i/\g (IntKind.i64.wrap (k+1)) l h) (c e j)) (cond (f==3) (∃ g h i,d.cell? (qd a 8)=some (.slice g h i)/\∃ g:Option Nat->Int->qN,(∃ i,g e 0 d i)/\∀ j i,∀ k:Option Nat,∀ l,g k l j i->∀ m:qv,cond (decide (l<(h:Int))) (∃ h:I6,af j.drew (qd b 0) 0 h.vs/\CC 238 #[iv l,qp a,qp b] j.drew λ m n=>∃ o:Option Nat,m=.returned (.map o)/\af n (qd b 0) 0 h.vs/\CC 241 #[.agg h.vs.toArray,.map k,.map o] n λ h m=>∃ n:Option Nat,h=.returned (.map n)/\∃ h,h<i/\g n (IntKind.i64.wrap (l+1)) m h) (c k j)) (cond (f==4) (CC 238 #[qz,qp a,qp b] d λ g h=>∃ i:Option Nat,g=.returned (.map i)/\∃ g:I6,af h (qd b 0) 0 g.vs/\CC 240 #[.map e,.agg g.vs.toArray,.map i] h λ g h=>g=.returned (.tuple #[])/\∃ g:I6,af h (qd b 0) 0 g.vs/\∃ j:I6,af h (qd a 1) 0 j.vs/\∃ k,h.cell? (qd a 7)=some (iv k)/\CC 239 #[.map e,.agg g.vs.toArray,.agg j.vs.toArray,iv k] h λ g h=>g=.returned (.tuple #[])/\aV prog (Instr.range 295 (.map i)) h λ g h=>∃ i,g=(qp i)/\∃ g:qN,(∃ j,g h j)/\∀ h j,g h j->∀ k:qv,aV prog (Instr.next (qp i) false 0) h λ h k=>(h=(.tuple #[.bool false])/\c e k)\/∃ l:Value,∃ m:Value,h=(.tuple #[.bool true,l,m])/\aV prog (Instr.entry (qp i)) k λ h i=>∃ k:I6,∃ l,h=(.tuple #[.agg k.vs.toArray,iv l])/\aq i (.cells z6.vs.toArray 44) λ h i=>aL (qd h 0) 0 k.vs i λ i=>∃ k:I6,af i.drew (qd b 0) 0 k.vs/\∃ m:I6,af i.drew (qd h 0) 0 m.vs/\∃ h:I6,af i.drew (qd a 1) 0 h.vs/\∃ n,i.drew.cell? (qd a 7)=some (iv n)/\CC 242 #[.agg m.vs.toArray,.agg h.vs.toArray] i.drew λ h i=>∃ m:I6,h=.returned (.agg m.vs.toArray)/\i.cell? (qd a 7)=some (iv n)/\af i (qd b 0) 0 k.vs/\CC 239 #[.map e,.agg k.vs.toArray,.agg m.vs.toArray,iv (IntKind.i64.wrap (l+n))] i λ h i=>h=.returned (.tuple #[])/\∃ h,h<j/\g i h) (cond (f==5) (CC 238 #[qz,qp a,qp b] d λ f g=>∃ h:Option Nat,f=.returned (.map h)/\aV prog (Instr.range 295 (.map h)) g λ f g=>∃ h,f=(qp h)/\∃ f:qN,(∃ i,f g i)/\∀ g i,f g i->∀ j:qv,aV prog (Instr.next (qp h) false 0) g λ g j=>(g=(.tuple #[.bool false])/\c e j)\/∃ k:Value,∃ l:Value,g=(.tuple #[.bool true,k,l])/\aV prog (Instr.entry (qp h)) j λ g h=>∃ j:I6,∃ k,g=(.tuple #[.agg j.vs.toArray,iv k])/\aq h (.cells z6.vs.toArray 44) λ g h=>aL (qd g 0) 0 j.vs h λ h=>∃ j:I6,af h (qd b 0) 0 j.vs/\∃ b:I6,af h (qd g 0) 0 b.vs/\∃ g,h.cell? (qd a 7)=some (iv g)/\CC 239 #[.map e,.agg j.vs.toArray,.agg b.vs.toArray,iv (if g<k then g else k)] h λ a b=>a=.returned (.tuple #[])/\∃ a,a<i/\f b a) (c e d)))))
theorem xw{n1 u1 n2 a1 l1 c1 u2 w K}(h:uj n1 u1 n2 a1 l1 c1 u2 w K):CP 221 #[.agg (iv n1 :: u1.on [iv n2,.slice a1 l1 c1]:List Value).toArray,.agg u2.vs.toArray] w K:=ah (aA [(15,[(5,.s (.map))]),(7866,[(32,.s (.int .i64))]),(31482,[(5,.s (.map)),(47,.s (.int .i64))]),(1007582,[]),(503802,[])]) func221 (by kernel_rfl) (by kernel_rfl) h
def nC(a b:I6)(c:Int)(d:Value)(w:World)(K:KP):=aq w (.cells a.vs.toArray 44) λ a e=>aq e (.cells b.vs.toArray 44) λ b e=>∃ f:Int->Int->qN,(∃ g,f 1 (5:Int) e g)/\∀ e g h i,f h i e g->∀ j:qv,cond (decide (i>=0)) (∃ j:qW,(∀ k,j k->∀ l:qv,0<=i/\i<6/\∃ l,k.cell? (Addr.add (qd a 0) ((i).toNat*1))=some (iv l)/\∃ a,a<g/\f (IntKind.i64.wrap (h*(IntKind.i64.wrap (l+1)))) (IntKind.i64.wrap (i-1)) k a)/\0<=i/\i<6/\∃ a,e.cell? (Addr.add (qd b 0) ((i).toNat*1))=some (iv a)/\cond (decide (a>0)) (cU prog d #[iv (IntKind.i64.wrap (c-h))] e λ a b=>a=.returned (.tuple #[])/\j b) (j e)) (K (.tuple #[]) e)
theorem rY{u1 u2 n1 v1 w K}(h:nC u1 u2 n1 v1 w K):CP 222 #[.agg u1.vs.toArray,.agg u2.vs.toArray,iv n1,v1] w K:=ah (aA [(30,[(8,.s (.int .i64)),(9,.s (.int .i64))]),(484,[])]) func222 (by kernel_rfl) (by kernel_rfl) h
def j9(a:Int)(b c:Nat)(w:World)(K:KP):=∃ d e f,w.drew.cell? (qd b 0)=some (.slice d e f)/\∃ f,w.drew.cell? (qd c 0)=some (iv f)/\∃ g h i,w.drew.cell? (qd b 0)=some (.slice g h i)/\∃ i,w.drew.cell? (qd c 0)=some (iv i)/\an g λ c=>0<=i/\i<(h:Int)/\∃ g,w.drew.cell? (Addr.add c ((i).toNat*1))=some (iv g)/\∃ c h i,w.drew.cell? (qd b 0)=some (.slice c h i)/\an c λ b=>0<=a/\a<(h:Int)/\∃ c,w.drew.cell? (Addr.add b ((a).toNat*1))=some (iv c)/\an d λ a=>0<=f/\f<(e:Int)/\aP w.drew (Addr.add a ((f).toNat*1)) (iv (if c>g then c else g)) λ a=>K (.tuple #[]) a
theorem pP{n1 b1 b2 w K}(h:j9 n1 b1 b2 w K):CP 223 #[iv n1,.pointer (some ⟨b1,0,none⟩),.pointer (some ⟨b2,0,none⟩)] w K:=ah (aA []) func223 (by kernel_rfl) (by kernel_rfl) h
def qP(a b:I6)(c:OA)(d e:Nat)(w:World)(K:KP):=aq w (.cells a.vs.toArray 44) λ a e=>aq e (.cells b.vs.toArray 44) λ b e=>∃ f:I6,af e (qd b 0) 0 f.vs/\∃ g:Int->Int->qN,(∃ h,g (-1:Int) (0:Int) e h)/\∀ e h i j,g i j e h->∀ k:qv,cond (decide (j<6)) (∃ k:Int->qW,(∀ l m,k m l->∀ n:qv,∃ n,n<h/\g m (IntKind.i64.wrap (j+1)) l n)/\0<=j/\j<6/\∃ g,(f.vs.toArray:Array Value)[(j).toNat*1]?=some (iv g)/\cond (g==0) (k i e) (∃ f:I6,af e (qd b 0) 0 f.vs/\aq e (.cells z6.vs.toArray 44) λ b h=>aL (qd b 0) 0 f.vs h λ f=>0<=j/\j<6/\aP f (Addr.add (qd b 0) ((j).toNat*1)) (iv (IntKind.i64.wrap (g-1))) λ f=>∃ g:I6,af f (qd a 0) 0 g.vs/\∃ a:I6,af f (qd b 0) 0 a.vs/\CC 243 #[.agg g.vs.toArray,.agg a.vs.toArray] f λ a b=>∃ f g,a=.returned (.tuple #[iv f,iv g])/\cond (g==0) (an c λ a=>0<=f/\f<(d:Int)/\∃ c,b.cell? (Addr.add a ((f).toNat*1))=some (iv c)/\k (if c>i then c else i) b) (k i b))) (K (iv i) e)
theorem uP{u1 u2 a1 l1 c1 w K}(h:qP u1 u2 a1 l1 c1 w K):CP 224 #[.agg u1.vs.toArray,.agg u2.vs.toArray,.slice a1 l1 c1] w K:=ah (aA [(58,[(7,.s (.int .i64)),(14,.s (.int .i64))]),(467,[(7,.s (.int .i64))])]) func224 (by kernel_rfl) (by kernel_rfl) h
def nk(a:I6)(b c:Nat)(w:World)(K:KP):=aq w (.cells a.vs.toArray 44) λ a d=>∃ e f g,d.cell? (qd b 0)=some (.slice e f g)/\∃ b:Int->Int->qN,(∃ g,b 0 (0:Int) d g)/\∀ d g h i,b h i d g->∀ j:qv,cond (decide (i<(f:Int))) (∃ j:Int->qW,(∀ k l,j l k->∀ m:qv,∃ m,m<g/\b l (IntKind.i64.wrap (i+1)) k m)/\an e λ b=>0<=i/\i<(f:Int)/\∃ e f:I6,af d (Addr.add b ((i).toNat*12)) 0 (e.on (f.vs))/\aq d (.cells #[qz,qz,qz,qz,qz,qz,qz,qz,qz,qz,qz,qz] 114) λ b g=>aL (qd b 0) 0 (e.on (f.vs)) g λ e=>∃ f:I6,af e (qd b 6) 0 f.vs/\∃ g:I6,af e (qd a 0) 0 g.vs/\cond (I6.beq f g) (∃ f:I6,af e (qd b 0) 0 f.vs/\∃ b:I6,af e (qd a 0) 0 b.vs/\CC 86 #[.agg f.vs.toArray,.agg b.vs.toArray] e λ b f=>∃ g,b=.returned (iv g)/\j (if g>h then g else h) f) (j h e)) (∃ b e f,d.cell? (qd c 0)=some (.slice b e f)/\∃ c:Int->Int->qN,(∃ f,c h 0 d f)/\∀ d f g h,c g h d f->∀ i:qv,cond (decide (h<(e:Int))) (∃ i:Int->qW,(∀ j k,i k j->∀ l:qv,∃ l,l<f/\c k (IntKind.i64.wrap (h+1)) j l)/\an b λ b=>0<=h/\h<(e:Int)/\∃ c,∃ e:I6,∃ f,af d (Addr.add b ((h).toNat*8)) 0 (iv c :: e.on [iv f])/\aq d (.cells #[qz,qz,qz,qz,qz,qz,qz,qz] 68) λ b h=>aL (qd b 0) 0 (iv c :: e.on [iv f]) h λ c=>∃ e:I6,af c (qd b 1) 0 e.vs/\∃ f:I6,af c (qd a 0) 0 f.vs/\cond (I6.beq e f) (∃ a,c.cell? (qd b 7)=some (iv a)/\i (if a>g then a else g) c) (i g c)) (K (iv g) d))
theorem rQ{u1 b1 b2 w K}(h:nk u1 b1 b2 w K):CP 166 #[.agg u1.vs.toArray,.pointer (some ⟨b1,0,none⟩),.pointer (some ⟨b2,0,none⟩)] w K:=ah (aA [(58,[(5,.s (.int .i64)),(12,.s (.int .i64))]),(467,[(5,.s (.int .i64))]),(122,[(5,.s (.int .i64)),(29,.s (.int .i64))]),(979,[(5,.s (.int .i64))])]) func166 (by kernel_rfl) (by kernel_rfl) h
def vM(a:Int)(b:I6)(c:Int)(d:OA)(e f g:Nat)(w:World)(K:KP):=aq w (.cells (iv a :: b.on [iv c,.slice d e f]:List Value).toArray 81) λ a a=>∃ b,a.cell? (qd g 0)=some (iv b)/\aP a (qd g 0) (iv (IntKind.i64.wrap (b+1))) λ a=>K (.bool true) a
theorem yK{n1 u1 n2 a1 l1 c1 b1 w K}(h:vM n1 u1 n2 a1 l1 c1 b1 w K):CP 236 #[.agg (iv n1 :: u1.on [iv n2,.slice a1 l1 c1]:List Value).toArray,.pointer (some ⟨b1,0,none⟩)] w K:=ah (aA []) func236 (by kernel_rfl) (by kernel_rfl) h
def pQ(a:Int)(b c:Nat)(w:World)(K:KP):=∃ d e f,w.drew.cell? (qd b 8)=some (.slice d e f)/\an d λ b=>0<=a/\a<(e:Int)/\∃ d,∃ e:I6,∃ f g h i,af w.drew (Addr.add b ((a).toNat*9)) 0 (iv d :: e.on [iv f,.slice g h i])/\∃ a:I6,af w.drew (qd c 0) 0 a.vs/\CC 221 #[.agg (iv d :: e.on [iv f,.slice g h i]:List Value).toArray,.agg a.vs.toArray] w.drew λ a b=>∃ c:Option Nat,a=.returned (.map c)/\K (.map c) b
theorem uk{n1 b1 b2 w K}(h:pQ n1 b1 b2 w K):CP 238 #[iv n1,.pointer (some ⟨b1,0,none⟩),.pointer (some ⟨b2,0,none⟩)] w K:=ah (aA []) func238 (by kernel_rfl) (by kernel_rfl) h
def fh(a:Option Nat)(b c:I6)(d:Int)(w:World)(K:KP):=aq w (.cells b.vs.toArray 44) λ b e=>aq e (.cells c.vs.toArray 44) λ c e=>∃ f:Bool->qW,(∀ g h,f h g->∀ i:qv,cond h (∃ h:I6,af g (qd c 0) 0 h.vs/\aV prog (Instr.mapUpdate 295 (.map a) (.agg h.vs.toArray) (iv (if (1000000:Int)<d then (1000000:Int) else d))) g λ _e1 h=>K (.tuple #[]) h) (K (.tuple #[]) g))/\∃ g:I6,af e (qd c 0) 0 g.vs/\aV prog (Instr.lookup 295 (.map a) (.agg g.vs.toArray) false) e λ a e=>∃ g,a=(iv g)/\cond (decide ((if (1000000:Int)<d then (1000000:Int) else d)>g)) (∃ a:I6,af e (qd c 0) 0 a.vs/\∃ c:I6,af e (qd b 0) 0 c.vs/\CC 120 #[.agg a.vs.toArray,.agg c.vs.toArray] e λ a b=>∃ c,a=.returned (.bool c)/\f c b) (f false e)
theorem jx{m1 u1 u2 n1 w K}(h:fh m1 u1 u2 n1 w K):CP 239 #[.map m1,.agg u1.vs.toArray,.agg u2.vs.toArray,iv n1] w K:=ah (aA [(7,[(19,.s .bool)])]) func239 (by kernel_rfl) (by kernel_rfl) h
def ff(a:Option Nat)(b:I6)(c:Option Nat)(w:World)(K:KP):=aq w (.cells b.vs.toArray 44) λ b d=>aV prog (Instr.range 295 (.map c)) d λ c d=>∃ e,c=(qp e)/\∃ c:qN,(∃ f,c d f)/\∀ d f,c d f->∀ g:qv,aV prog (Instr.next (qp e) false 0) d λ d g=>(d=(.tuple #[.bool false])/\K (.tuple #[]) g)\/∃ h:Value,∃ i:Value,d=(.tuple #[.bool true,h,i])/\aV prog (Instr.entry (qp e)) g λ d e=>∃ g:I6,∃ h,d=(.tuple #[.agg g.vs.toArray,iv h])/\aq e (.cells z6.vs.toArray 44) λ d e=>aL (qd d 0) 0 g.vs e λ e=>∃ g:I6,af e (qd b 0) 0 g.vs/\∃ b:I6,af e (qd d 0) 0 b.vs/\CC 239 #[.map a,.agg g.vs.toArray,.agg b.vs.toArray,iv h] e λ a b=>a=.returned (.tuple #[])/\∃ a,a<f/\c b a
theorem jw{m1 u1 m2 w K}(h:ff m1 u1 m2 w K):CP 240 #[.map m1,.agg u1.vs.toArray,.map m2] w K:=ah (aA [(14,[])]) func240 (by kernel_rfl) (by kernel_rfl) h
def q8(a:I6)(b c:Option Nat)(w:World)(K:KP):=aq w (.cells a.vs.toArray 44) λ a d=>aV prog (Instr.makeMap 295 none) d λ d e=>∃ f:Option Nat,d=(.map f)/\∃ d:I6,af e (qd a 0) 0 d.vs/\CC 240 #[.map f,.agg d.vs.toArray,.map b] e λ d e=>d=.returned (.tuple #[])/\∃ d:I6,af e (qd a 0) 0 d.vs/\CC 240 #[.map f,.agg d.vs.toArray,.map c] e λ d e=>d=.returned (.tuple #[])/\aV prog (Instr.range 295 (.map b)) e λ b d=>∃ e,b=(qp e)/\∃ b:qN,(∃ g,b d g)/\∀ d g,b d g->∀ h:qv,aV prog (Instr.next (qp e) false 0) d λ d h=>(d=(.tuple #[.bool false])/\K (.map f) h)\/∃ i:Value,∃ j:Value,d=(.tuple #[.bool true,i,j])/\aV prog (Instr.entry (qp e)) h λ d e=>∃ h:I6,∃ i,d=(.tuple #[.agg h.vs.toArray,iv i])/\aq e (.cells z6.vs.toArray 44) λ d e=>aL (qd d 0) 0 h.vs e λ e=>aV prog (Instr.range 295 (.map c)) e λ c e=>∃ h,c=(qp h)/\∃ c:qN,(∃ j,c e j)/\∀ e j,c e j->∀ k:qv,aV prog (Instr.next (qp h) false 0) e λ e k=>(e=(.tuple #[.bool false])/\∃ l,l<g/\b k l)\/∃ b:Value,∃ g:Value,e=(.tuple #[.bool true,b,g])/\aV prog (Instr.entry (qp h)) k λ b e=>∃ g:I6,∃ h,b=(.tuple #[.agg g.vs.toArray,iv h])/\aq e (.cells z6.vs.toArray 44) λ b e=>aL (qd b 0) 0 g.vs e λ e=>∃ g:I6,af e.drew (qd a 0) 0 g.vs/\∃ k:I6,af e.drew (qd d 0) 0 k.vs/\∃ d:I6,af e.drew (qd b 0) 0 d.vs/\CC 253 #[.agg k.vs.toArray,.agg d.vs.toArray] e.drew λ b d=>∃ e:I6,b=.returned (.agg e.vs.toArray)/\af d (qd a 0) 0 g.vs/\CC 239 #[.map f,.agg g.vs.toArray,.agg e.vs.toArray,iv (IntKind.i64.wrap (i+h))] d λ a b=>a=.returned (.tuple #[])/\∃ a,a<j/\c b a
theorem vA{u1 m1 m2 w K}(h:q8 u1 m1 m2 w K):CP 241 #[.agg u1.vs.toArray,.map m1,.map m2] w K:=ah (aA [(250,[]),(32054,[])]) func241 (by kernel_rfl) (by kernel_rfl) h
def Jg:List UInt8:=[120,111,114,32,111,114,32,98,111,110,117,115,32,108,105,109,105,116,32]
def MY:List (List UInt8×Int):=[([120,111,114],2),([111,114],3),([98,111,110,117,115],4),([108,105,109,105,116],5)]
def Qd:List (List UInt8×Int)->List UInt8->Int
 | [],_=>0
 | x :: l,nm=>if x.1=nm then x.2 else Qd l nm
def LH(nm:List UInt8):Int:=Qd MY nm
def Er(k:Nat):Nat:=(Jg.take k).count 32
def Ep(g:Nat):Nat:=[0,4,7,13,19].getD g 0
theorem Rw:∀ k,k<19->Utf8.decode (bs Jg) k=((Jg.getD k 0).toNat,1):=by decide
theorem OI:∀ k,k<19->(Jg.getD k 0).toNat≠32->Er (k+1)=Er k:=by decide
theorem OJ:∀ k,k<19->(Jg.getD k 0).toNat=32->Er (k+1)=Er k+1/\Er k<4/\MY[Er k]?=some ((Jg.drop (Ep (Er k))).take (k-Ep (Er k)),2+(Er k:Int))/\Ep (Er k+1)=k+1/\Ep (Er k)<=k:=by decide
theorem LC{g:Nat}{nm:List UInt8}{x:List UInt8×Int}(hx:MY[g]?=some x)(hn:x.1≠nm):Qd (MY.drop (g+1)) nm=Qd (MY.drop g) nm:=by
 have hg:=(List.getElem?_eq_some_iff.1 hx).1;rw[List.drop_eq_getElem_cons hg,Qd];have:MY[g]=x:=Option.some.inj ((gE hg).symm.trans hx);rw[this,if_neg hn]
theorem OH{g:Nat}{nm:List UInt8}{x:List UInt8×Int}(hx:MY[g]?=some x)(hn:x.1=nm):Qd (MY.drop g) nm=x.2:=by
 have hg:=(List.getElem?_eq_some_iff.1 hx).1;rw[List.drop_eq_getElem_cons hg,Qd];have:MY[g]=x:=Option.some.inj ((gE hg).symm.trans hx);rw[this,if_pos hn]
theorem Rx(w:World)(nm:List UInt8):CP 205 #[sv nm] w (λ r w'=>r=iv (LH nm)/\ay w w' []):=by
 refine nK ?_;unfold iQ;refine EL underlying9 (St.start w).one (bs Jg) λ r1 w1 s1=>?_;refine⟨λ n1 n2 w2 m=>∃ k:Nat,k<=19/\m=19-k/\n1=2+(Er k:Int)/\n2=Ep (Er k)/\Qd (MY.drop (Er k)) nm=LH nm/\St w w2 (Sep [aY r1 (.stringIter (bs Jg) k),emp]),⟨19,0,by omega,by omega,rfl,rfl,rfl,s1⟩,?_⟩;rintro w2 m n1 n2 ⟨k,hk,hm,rfl,rfl,ho,s2⟩ -;have hsz:(bs Jg).size=19:=rfl;refine FP s2 0 rfl (λ hp=>?_) (λ hp w3 s3=>?_)
 ·obtain rfl:k=19:=by omega
  exact⟨by rw[<- ho]; rfl,s2.au⟩
 ·rw[hsz] at hp;rw[Rw k hp] at s3 ⊢;show cond (((Jg.getD k 0).toNat:Int) !=32) _ _
  by_cases h32:(Jg.getD k 0).toNat=32
  ·obtain⟨e1,e2,e3,e4,e5⟩:=OJ k hp h32;refine cF (by rw[h32]; rfl) ⟨by omega,by show(k:Int)<=19; omega,by omega,by omega,?_⟩;show cond ((((bs Jg).extract ((Ep (Er k):Int)).toNat ((k:Int)).toNat)).toList==(bs nm).toList) _ _;rw[Int.toNat_natCast,Int.toNat_natCast,BX,iI,iI]
   by_cases hn:(Jg.drop (Ep (Er k))).take (k-Ep (Er k))=nm
   ·exact cT (by rw[hn]; simp) ⟨by rw[<- ho,OH e3 hn],s3.au⟩
   ·refine cF (by simpa using hn) ⟨19-(k+1),by omega,k+1,by omega,rfl,?_,?_,?_,s3⟩
    ·rw[aB ⟨by omega,by omega⟩,e1]; omega
    ·rw[aB ⟨by omega,by omega⟩,e1,e4]; omega
    ·rw[e1,LC e3 hn,ho]
  ·have e1:=OI k hp h32;refine cT (bne_iff_ne.2 (by omega)) ⟨19-(k+1),by omega,k+1,by omega,rfl,by rw[e1],by rw[e1],by rw[e1]; exact ho,s3⟩
def OT(σ:Sc):Sc:=if (aN σ.1 σ.2).k=0 then σ.fail 1 else if (aN σ.1 σ.2).k≠3\/(aN σ.1 σ.2).t≠[123] then σ.fail 2 else σ
def Tj(ps:List Pr)(σ:Sc):Sc:=(jY ps (OT σ)).2.exp [64]
def aT(ps:List Pr)(σ:Sc):(I6×Int)×Sc:=(((jY ps (OT σ)).1,uw 1000000 (Tj ps σ).1 (Tj ps σ).2),(Tj ps σ).jq 1000000)
theorem EF{w0 w:World}{p:Nat}{σ:Sc}{B:aC}{a:OA}{c:Nat}{l:List Pr}(h:fH w0 w p σ B)(hr:∀ {w'},ay w0 w' []->dH w' a l)(hc:l.length<=c)(ho:bZ l) :
  CP 207 #[.agg #[.slice a l.length c,pt p]] w (λ r w'=>r=.tuple #[.agg (aT l σ).1.1.vs.toArray,iv (aT l σ).1.2]/\fH w0 w' p (aT l σ).2 B):=by
 refine jr ?_;unfold eP;refine(St.start w).one.ax #[.slice a l.length c,pt p] λ r1 w1 s1=>s1.ax z6.vs.toArray λ r2 w2 s2=>?_;let Fr:I6->aC:=λ b=>star (Sep [ai r2 b.vs.toArray 44,ai r1 #[.slice a l.length c,pt p] 262,emp]) B;have h2:fH w0 w2 p σ (Fr z6):=h.add s2;have fr:∀ {w' : World} {σ' : Sc} {b:I6},fH w0 w' p σ' (Fr b)->St w0 w' (Sep [ai r2 b.vs.toArray 44,ai r1 #[.slice a l.length c,pt p] 262,emp]):=λ h=>h.frame.first;refine⟨λ w3=>fH w0 w3 p (OT σ) (Fr z6),?_,?_⟩
 ·rintro w3 h3 -;have s3:=fr h3;refine⟨_,_,_,s3.ag 1 rfl 0,_,s3.ag 1 rfl 1,ak (RQ h3 hr hc ho) ?_⟩;rintro v w4 ⟨rfl,h4⟩;refine⟨_,rfl,(St.start w4).one.ax z6.vs.toArray λ r3 w5 s5=>s5.az 0 rfl (jY l (OT σ)).1.vs rfl (I6.one _) λ w6 s6=>?_⟩;have h6:=h4.add s6;have fr2:∀ {w' : World} {σ' : Sc} {m:List aC},fH w0 w' p σ' (star (Sep m) (Fr z6))->St w0 w' (Sep [ai r2 z6.vs.toArray 44,ai r1 #[.slice a l.length c,pt p] 262,emp]):=λ h=>fr h.drop;refine⟨_,(fr2 h6).ag 1 rfl 1,ak (eG h6 [64]) ?_⟩;rintro v w7 ⟨rfl,h7⟩;have h7:fH w0 w7 p (Tj l σ) _:=h7;have h8:=h7.quiet (ay.drew w7 []);have s8:St w0 w7.drew (Sep [_,_]):=h8.frame.first;refine⟨rfl,_,s8.cellsIn 0 rfl,_,(fr2 h8).ag 1 rfl 1,ak (vn h8 1000000) ?_⟩;rintro v w9 ⟨rfl,h9⟩;have h9:fH w0 w9 p ((Tj l σ).jq 1000000) _:=h9;have s9:St w0 w9 (Sep [_,_]):=h9.frame.first;obtain⟨B',s10,back⟩:=h9.drop.out;exact⟨_,rfl,s9.cellsIn 0 rfl,s10.az 0 rfl _ rfl (I6.one _) λ w11 s11=>⟨_,s11.cellsIn 0 rfl,rfl,(back (m':=[_,_,_]) s11).drop⟩⟩
 ·have s3:=fr h2;refine⟨_,s3.ag 1 rfl 1,ak (qf h2) ?_⟩;rintro v w10 ⟨rfl,c10⟩;refine⟨_,_,_,_,rfl,(St.start w10).one.ax ur.cells.toArray λ r4 w11 s11=>s11.az 0 rfl (aN σ.1 σ.2).cells rfl (Tk.one _) λ w12 s12=>⟨_,s12.ag 0 rfl 0,?_⟩⟩;have h12:=(h2.quiet c10).quiet s12.au
  by_cases hk:(aN σ.1 σ.2).k=0
  ·refine cT (by simpa using hk) ⟨_,(fr h12).ag 1 rfl 1,ak (iA h12 1) ?_⟩;rintro v w13 ⟨rfl,h13⟩;exact⟨rfl,by rw[OT,if_pos hk]; exact h13⟩
  ·refine cF (by simpa using hk) ⟨λ x w14=>x=decide ((aN σ.1 σ.2).k≠3\/(aN σ.1 σ.2).t≠[123])/\w14=w12,?_,_,s12.ag 0 rfl 0,?_⟩
   ·rintro w14 x ⟨rfl,rfl⟩ -
    by_cases g:(aN σ.1 σ.2).k≠3\/(aN σ.1 σ.2).t≠[123]
    ·refine cT (dT g) ⟨_,(fr h12).ag 1 rfl 1,ak (iA h12 2) ?_⟩;rintro v w15 ⟨rfl,h15⟩;exact⟨rfl,by rw[OT,if_neg hk,if_pos g]; exact h15⟩
    ·exact cF (dF g) (by rw[OT,if_neg hk,if_neg g]; exact h12)
   ·by_cases h3:(aN σ.1 σ.2).k=3
    ·refine cF (by simpa using h3) ⟨_,s12.ag 0 rfl 1,?_,rfl⟩;rw[iI,iI]
     by_cases ht:(aN σ.1 σ.2).t=[123]
     ·rw[dF (by rintro(h|h); exact h h3; exact h ht),ht]; rfl
     ·rw[dT (Or.inr ht)]; simpa using ht
    ·exact cT (by simpa using h3) ⟨by rw[dT (Or.inl h3)],rfl⟩
inductive Xv where
 | mk (op:Int) (u:I6) (v:Int) (a:OA) (c:Nat) (args:List Xv)
def Xv.op:Xv->Int|.mk op _ _ _ _ _=>op
def Xv.u:Xv->I6|.mk _ u _ _ _ _=>u
def Xv.v:Xv->Int|.mk _ _ v _ _ _=>v
def Xv.a:Xv->Option Addr|.mk _ _ _ a _ _=>a
def Xv.c:Xv->Nat|.mk _ _ _ _ c _=>c
def Xv.args:Xv->List Xv|.mk _ _ _ _ _ l=>l
def Xv.cells(x:Xv):List Value:=iv x.op :: x.u.on [iv x.v,.slice x.a x.args.length x.c]
theorem Xv.len(x:Xv):x.cells.length=9:=rfl
theorem Xv.one(x:Xv):∀ v∈x.cells,v.oneCell' = true:=by
 intro v hv; simp[Xv.cells,I6.on] at hv; rcases hv with rfl|rfl|rfl|rfl|rfl|rfl|rfl|rfl|rfl<;>rfl
mutual
def Xv.er:Xv->Xv
 | .mk op u v _ _ args=>.mk op u v none 0 (Xv.TU args)
def Xv.TU:List Xv->List Xv
 | []=>[]
 | x :: l=>Xv.er x :: Xv.TU l
end
theorem Xv.Fv:∀ l:List Xv,Xv.TU l=l.map Xv.er
 | []=>rfl
 | x :: l=>by rw[Xv.TU,Xv.Fv l]; rfl
theorem Xv.oC(x:Xv):x.er=.mk x.op x.u x.v none 0 (x.args.map Xv.er):=by cases x; rw[Xv.er,Xv.Fv]; rfl
inductive Xv.In (w:World):Xv->Prop where
 | mk {x:Xv} (h:cG 9 Xv.cells w x.a x.args) (k:∀ y∈x.args,Xv.In w y):Xv.In w x
theorem Xv.In.fl{w:World}{x:Xv}(h:x.In w):cG 9 Xv.cells w x.a x.args:=by cases h; assumption
theorem Xv.In.sub{w:World}{x:Xv}(h:x.In w):∀ y∈x.args,y.In w:=by cases h; assumption
theorem Xv.In.au{w w' : World}{x:Xv}(h:x.In w)(hc:ay w w' []):x.In w':=by
 induction h with
 | mk h k ih=>exact .mk (h.au hc) ih
def dK:Xv:=.mk 0 z6 0 none 0 []
theorem GJ:dK.er=dK:=by rw[Xv.oC]; rfl
theorem Ut:gV prog 79 81 (.agg dK.cells.toArray) 9 88:=gV.mk' underlying79 (by kernel_rfl) rfl (by decide)
abbrev UR (a:OA) (c:Nat) (l:List Xv):aC:=bR 81 9 Xv.cells a c l
abbrev M9 (l:List Xv) (w:World):Prop:=∀ x∈l,x.In w
def fU(g:Sc->Xv×Sc)(σ:Sc):Xv×Sc:=if σ.2≠0 then (dK,σ) else g σ
def fV(g:Sc->Xv×Sc):Nat->List Xv->Sc->List Xv×Sc
 | 0,acc,σ=>(acc,σ)
 | n+1,acc,σ=>if nE [44] σ.1 σ.2 then fV g n (acc++[(fU g (σ.acc [44])).1]) (fU g (σ.acc [44])).2 else (acc,σ)
def bL(t:Tk):Int:=if t.k=1 then LH t.t else 1
def wJ(σ:Sc):Sc:=if bL (aN σ.1 σ.2)=0 then σ.fail 2 else σ
def KE(ps:List Pr)(g:Sc->Xv×Sc)(op:Int)(a1:Xv)(σ:Sc):Xv×Sc :=
 if op=2\/op=3 then (.mk op z6 0 none 0 (fV g σ.1.length [a1] σ).1,(fV g σ.1.length [a1] σ).2.exp [41])
 else if op=4 then (.mk op (aT ps (σ.exp [44])).1.1 (aT ps (σ.exp [44])).1.2 none 0 [a1],(aT ps (σ.exp [44])).2.exp [41])
 else if op=5 then (.mk op z6 (uw 1000000 (σ.exp [44]).1 (σ.exp [44]).2) none 0 [a1],((σ.exp [44]).jq 1000000).exp [41])
 else (.mk op z6 0 none 0 [a1],σ.exp [41])
def Ag(σ:Sc):Sc:=(wJ σ).next.exp [40]
def fJ(ps:List Pr):Nat->Sc->Xv×Sc
 | 0,σ=>(dK,σ)
 | f+1,σ =>
  if bL (aN σ.1 σ.2)=1 then (.mk 1 (aT ps (wJ σ)).1.1 (aT ps (wJ σ)).1.2 none 0 [],(aT ps (wJ σ)).2)
  else KE ps (fJ ps f) (bL (aN σ.1 σ.2)) (fU (fJ ps f) (Ag σ)).1 (fU (fJ ps f) (Ag σ)).2
theorem uN(m:List UInt8)(σ:Sc):(σ.exp m).1.length<=σ.1.length:=cQ _ _ _
theorem EP(ps:List Pr):∀ (f:Nat) (b:I6) (σ:Sc),(tW ps f b σ).2.1.length<=σ.1.length
 | 0,_,_=>Nat.le_refl _
 | f+1,b,σ=>by
  rw[tW]
  split
  ·exact Nat.le_trans (EP ps f _ _) (Nat.le_trans (B8 _ _ _) (cQ _ _ _))
  ·exact Nat.le_refl _
theorem Pb(ps:List Pr)(σ:Sc):(jY ps σ).2.1.length<=σ.1.length:=by
 unfold jY
 split
 ·exact Nat.le_refl _
 ·split
  ·exact Nat.le_trans (cQ _ _ _) (cQ _ _ _)
  ·have h1:(EN ps (σ.exp [123])).2.1.length<=(tW ps (fu ps z6 (σ.exp [123])).2.1.length (fu ps z6 (σ.exp [123])).1 (fu ps z6 (σ.exp [123])).2).2.1.length:=by
    unfold EN EO
    split
    ·exact cQ _ _ _
    ·exact cQ _ _ _
   exact Nat.le_trans h1 (Nat.le_trans (EP ps _ _ _) (Nat.le_trans (B8 _ _ _) (cQ _ _ _)))
theorem RD(σ:Sc):(OT σ).1.length<=σ.1.length:=by unfold OT; split; exact Nat.le_refl _; split; exact Nat.le_refl _; exact Nat.le_refl _
theorem qc(ps:List Pr)(σ:Sc):(aT ps σ).2.1.length<=σ.1.length :=
 Nat.le_trans (yd _ _ _) (Nat.le_trans (cQ _ _ _) (Nat.le_trans (Pb _ _) (RD _)))
theorem Fw(σ:Sc):(wJ σ).1.length<=σ.1.length:=by unfold wJ; split; exact Nat.le_refl _; exact Nat.le_refl _
theorem Fx(σ:Sc):(Ag σ).1.length<=σ.1.length:=Nat.le_trans (cQ _ _ _) (Nat.le_trans (xK _ _) (Fw σ))
section
variable {g:Sc->Xv×Sc} (hg:∀ σ,(g σ).2.1.length<=σ.1.length)
include hg
theorem xy(σ:Sc):(fU g σ).2.1.length<=σ.1.length:=by unfold fU; split; exact Nat.le_refl _; exact hg _
theorem Du:∀ (n:Nat) (acc:List Xv) (σ:Sc),(fV g n acc σ).2.1.length<=σ.1.length
 | 0,_,_=>Nat.le_refl _
 | n+1,acc,σ=>by
  rw[fV]
  split
  ·exact Nat.le_trans (Du n _ _) (Nat.le_trans (xy hg _) (cQ _ _ _))
  ·exact Nat.le_refl _
theorem Q0(ps:List Pr)(op:Int)(a1:Xv)(σ:Sc):(KE ps g op a1 σ).2.1.length<=σ.1.length:=by
 unfold KE
 split
 ·exact Nat.le_trans (cQ _ _ _) (Du hg _ _ _)
 ·split
  ·exact Nat.le_trans (cQ _ _ _) (Nat.le_trans (qc _ _) (cQ _ _ _))
  ·split
   ·exact Nat.le_trans (cQ _ _ _) (Nat.le_trans (yd _ _ _) (cQ _ _ _))
   ·exact cQ _ _ _
end
theorem Cb(ps:List Pr):∀ (f:Nat) (σ:Sc),(fJ ps f σ).2.1.length<=σ.1.length
 | 0,_=>Nat.le_refl _
 | f+1,σ=>by
  rw[fJ]
  split
  ·exact Nat.le_trans (qc _ _) (Fw σ)
  ·exact Nat.le_trans (Q0 (Cb ps f) _ _ _ _) (Nat.le_trans (xy (Cb ps f) _) (Fx σ))
theorem Q5{m:List UInt8}{σ:Sc}(h:(σ.exp m).2=0):σ.2=0:=by
 unfold Sc.exp KI at h;simp only at h
 split at h
 ·exact h
 ·unfold sg ng at h
  split at h
  ·assumption
  ·exact h
theorem KB{σ:Sc}(h1:bL (aN σ.1 σ.2)≠1)(h:(Ag σ).2=0):(Ag σ).1.length<σ.1.length:=by
 have h2:(wJ σ).2=0:=Q5 (σ:=(wJ σ).next) h;have h3:bL (aN σ.1 σ.2)≠0:=λ h0=>by
  unfold wJ at h2;rw[if_pos h0] at h2;unfold Sc.fail ng at h2;simp only at h2
  split at h2
  ·cases h2
  ·rename_i hn; exact hn h2
 have e1:wJ σ=σ:=by rw[wJ,if_neg h3]
 have hk:(aN σ.1 σ.2).k=1:=by
  unfold bL at h1
  split at h1
  ·assumption
  ·exact absurd rfl h1
 rw[e1] at h2;have hlt:(fC σ.1 σ.2).length<σ.1.length:=by
  rw[fC,if_pos h2];rw[aN,if_pos h2] at hk
  cases hl:σ.1 with
  | nil=>rw[hl] at hk; cases hk
  | cons x l=>simp
 rw[Ag,e1];exact Nat.lt_of_le_of_lt (cQ _ _ _) hlt
theorem Xv.ind{P:Xv->Prop}(h:∀ x,(∀ y∈x.args,P y)->P x):∀ x,P x
 | .mk op u v a c args=>h _ λ y _hy=>Xv.ind h y
 termination_by x=>SizeOf.sizeOf x
 decreasing_by
  have:y∈args:=_hy;have:=List.sizeOf_lt_of_mem this
  simp_wf; omega
mutual
def aO:Xv->Nat
 | .mk _ _ _ _ _ args=>1+(H6 args).sum
def H6:List Xv->List Nat
 | []=>[]
 | x :: l=>aO x :: H6 l
end
mutual
def mu:Xv->Nat
 | .mk _ _ _ _ _ args=>(NH args).foldl Nat.max 0+1
def NH:List Xv->List Nat
 | []=>[]
 | x :: l=>mu x :: NH l
end
theorem ET:∀ l:List Xv,H6 l=l.map aO
 | []=>rfl
 | x :: l=>by rw[H6,ET l]; rfl
theorem G4:∀ l:List Xv,NH l=l.map mu
 | []=>rfl
 | x :: l=>by rw[NH,G4 l]; rfl
theorem e9(x:Xv):aO x=1+(x.args.map aO).sum:=by cases x; rw[aO,ET]; rfl
theorem sU(x:Xv):mu x=(x.args.map mu).foldl Nat.max 0+1:=by cases x; rw[mu,G4]; rfl
theorem C6:∀ {l:List Nat} {x:Nat},x∈l->x<=l.sum
 | y :: l,x,h=>by
  rw[List.sum_cons];rcases List.mem_cons.1 h with rfl|h
  ·omega
  ·have:=C6 h; omega
theorem zL{x y:Xv}(h:y∈x.args):aO y<aO x:=by
 have:=C6 (List.mem_map_of_mem (f:=aO) h);rw[e9 x]; omega
theorem size_pos(x:Xv):1<=aO x:=by rw[e9]; omega
theorem ye(x:Xv):x.args.length<aO x:=by
 rw[e9];have:∀ l:List Xv,l.length<=(l.map aO).sum:=λ l=>by
  induction l with
  | nil=>simp
  | cons y l ih=>have:=size_pos y; simp only[List.length_cons,List.map_cons,List.sum_cons]; omega
 have:=this x.args; omega
theorem tj{n:Nat}:∀ {l:List Nat} {a:Nat},a<=n->(∀ x∈l,x<=n)->l.foldl Nat.max a<=n
 | [],_,h,_=>h
 | x :: l,a,h,k=>by
  rw[List.foldl_cons];exact tj (Nat.max_le.2 ⟨h,k x (by simp)⟩) λ y hy=>k y (by simp[hy])
theorem Kp:∀ x,mu x<=aO x:=Xv.ind λ x ih=>by
 rw[sU,e9];have:(x.args.map mu).foldl Nat.max 0<=(x.args.map aO).sum:=tj (Nat.zero_le _) λ d hd=>by
  obtain⟨y,hy,rfl⟩:=List.mem_map.1 hd;exact Nat.le_trans (ih y hy) (C6 (List.mem_map_of_mem hy))
 omega
theorem pX(x:Xv):x.er.args=x.args.map Xv.er:=by rw[Xv.oC]; rfl
theorem H7:∀ x,aO x.er=aO x:=Xv.ind λ x ih=>by
 rw[e9,e9 x,pX,List.map_map]
 congr 2
 exact List.map_congr_left λ y hy=>ih y hy
theorem QM:∀ x,mu x.er=mu x:=Xv.ind λ x ih=>by
 rw[sU,sU x,pX,List.map_map]
 congr 2
 exact List.map_congr_left λ y hy=>ih y hy
mutual
def bt{S:Type}(step:S->Xv->S×Bool):Xv->S->S×Bool
 | .mk op u v a c args,s=>if (step s (.mk op u v a c args)).2 then E4 step args ((step s (.mk op u v a c args)).1,true) else ((step s (.mk op u v a c args)).1,false)
def E4{S:Type}(step:S->Xv->S×Bool):List Xv->S×Bool->S×Bool
 | [],r=>r
 | x :: l,r=>E4 step l (if r.2 then bt step x r.1 else r)
end
def fk{S:Type}(step:S->Xv->S×Bool)(l:List Xv)(r:S×Bool):S×Bool:=l.foldl (λ r y=>if r.2 then bt step y r.1 else r) r
theorem E5{S:Type}(step:S->Xv->S×Bool):∀ (l:List Xv) (r:S×Bool),E4 step l r=fk step l r
 | [],r=>by rw[E4]; rfl
 | x :: l,r=>by rw[E4,E5 step l]; rfl
theorem lS{S:Type}(step:S->Xv->S×Bool)(x:Xv)(s:S):bt step x s=if (step s x).2 then fk step x.args ((step s x).1,true) else ((step s x).1,false):=by
 cases x
 rw[bt,E5]; rfl
theorem Ik{S:Type}{step:S->Xv->S×Bool}(hs:∀ s x,step s x.er=step s x):∀ (x:Xv) (s:S),bt step x.er s=bt step x s:=Xv.ind λ x ih s=>by
 rw[lS,lS step x,hs,pX]
 congr 1
 have:∀ (l:List Xv) (r:S×Bool),(∀ y∈l,∀ s,bt step y.er s=bt step y s)->fk step (l.map Xv.er) r=fk step l r:=λ l=>by
  induction l with
  | nil=>intro r _; rfl
  | cons y l ih2 =>
   intro r hl;unfold fk at ih2 ⊢;rw[List.map_cons,List.foldl_cons,List.foldl_cons,hl y (by simp)];exact ih2 _ λ z hz=>hl z (by simp[hz])
 exact this _ _ ih
section
variable {w0:World}
theorem NI:∀ (x:Xv),aO x<=100000->∀ w,x.In w->CP 214 #[.agg x.cells.toArray] w (λ r w'=>r=iv (mu x)/\ay w w' []):=Xv.ind λ x ih hz w hx=>by
 refine As (u1:=x.u) ?_;unfold yJ;have hl:=ye x;refine(St.start w).one.ax x.cells.toArray λ r1 w1 s1=>⟨_,_,_,s1.ag 0 rfl 8,?_⟩;refine⟨λ n i w2 m=>∃ k:Nat,i=k/\k<=x.args.length/\m=x.args.length-k/\n=(((x.args.take k).map mu).foldl Nat.max 0:Nat)/\ay w w2 [],⟨x.args.length,0,rfl,by omega,by omega,rfl,s1.au⟩,?_⟩;rintro w2 m n i ⟨k,rfl,hk,hm,rfl,c2⟩ -
 by_cases hlt:(k:Int)<(x.args.length:Int)
 ·have hy:x.args[k]?=some (x.args[k]'(by omega)):=gE (by omega);generalize x.args[k]'(by omega)=y at hy;have hm:=List.mem_of_getElem? hy;obtain⟨q,hq,hcl⟩:=(hx.au c2).fl.at hy;refine cT (dT hlt) (aj hq ⟨by omega,by omega,_,y.u,_,_,_,_,hcl,(St.start' c2).one.ax dK.cells.toArray λ r2 w3 s3=>s3.az 0 rfl y.cells rfl y.one λ w4 s4=>⟨_,y.u,_,_,_,_,s4.cellsIn 0 rfl,?_⟩⟩);have hsz:=zL hm;refine ak (ih y hm (by omega) w4 ((hx.au s4.au).sub y hm)) ?_;rintro v w5 ⟨rfl,c5⟩;refine⟨_,rfl,x.args.length-(k+1),by omega,k+1,aB ⟨by omega,by omega⟩,by omega,rfl,?_,(s4.quiet c5).au⟩;rw[aG hy,List.map_append,List.foldl_append];show _=((Nat.max _ (mu y):Nat):Int);generalize((x.args.take k).map mu).foldl Nat.max 0=d;have:Nat.max d (mu y)=if mu y>d then mu y else d:=by
   show max _ _=_;rw[Nat.max_def]
   split<;>split<;>omega
  rw[this]
  split<;>split<;>omega
 ·obtain rfl:k=x.args.length:=by omega
  have hd:=Kp x;rw[sU] at hd;rw[List.take_length];refine cF (dF hlt) ⟨?_,c2⟩;rw[sU];generalize(x.args.map mu).foldl Nat.max 0=d at hd ⊢;rw[aB ⟨by omega,by omega⟩,Int.natCast_add]; rfl
variable {S:Type} {step:S->Xv->S×Bool} {A:S->aC} {v:Value}
theorem GF(hv:∀ (w:World) (B:aC) (s:S) (y:Xv) (R:Ending->World->Prop),St w0 w (star (A s) B)->y.In w->aO y<=100000->(∀ w',St w0 w' (star (A (step s y).1) B)->R (.returned (.bool (step s y).2)) w')->cU prog v #[.agg y.cells.toArray] w R) :
  ∀ (x:Xv),aO x<=100000->(∀ {w'},ay w0 w' []->x.In w')->∀ (w:World) (B:aC) (s:S),St w0 w (star (A s) B) ->
  CP 216 #[.agg #[v],.agg x.cells.toArray] w (λ r w'=>r=.bool (bt step x s).2/\St w0 w' (star (A (bt step x s).1) B)):=Xv.ind λ x ih hz hx w B s h=>by
 refine qA (u1:=x.u) ?_;unfold kP;have hl:=ye x;refine(h.vW).ax #[v] λ r1 w1 s1=>s1.ax x.cells.toArray λ r2 w2 s2=>?_;let M:S->List aC:=λ s=>[A s,ai r2 x.cells.toArray 81,ai r1 #[v] 293,B];have s3:St w0 w2 (Sep (M s)):=s2.av [2,0,1,3];have opn:∀ {w' : World} {s:S},St w0 w' (Sep (M s))->St w0 w' (star (A s) B):=λ h=>(h.av [0,3]).pair;refine⟨_,s2.ag 1 rfl 0,_,x.u,_,_,_,_,s2.cellsIn 0 rfl,hv w2 _ s x _ s3 (hx s3.au) hz λ w3 s4=>⟨_,rfl,?_⟩⟩;have s4:St w0 w3 (Sep (M (step s x).1)):=s4;have ew:=lS step x s
 cases hb:(step s x).2 with
 | false =>
  rw[if_neg (by rw[hb]; decide)] at ew;exact cT rfl ⟨by rw[ew],by rw[ew]; exact opn s4⟩
 | true =>
  rw[if_pos hb] at ew;refine cF rfl ⟨_,_,_,s4.ag 1 rfl 8,?_⟩;refine⟨λ i w4 m=>∃ (k:Nat) (s' : S),i=k/\k<=x.args.length/\m=x.args.length-k/\fk step (x.args.drop k) (s',true)=bt step x s/\St w0 w4 (Sep (M s')),⟨x.args.length,0,_,rfl,by omega,by omega,ew.symm,s4⟩,?_⟩;rintro w4 m i ⟨k,s',rfl,hk,hm,hw,s5⟩ -
  by_cases hlt:(k:Int)<(x.args.length:Int)
  ·have hk' : k<x.args.length:=by omega
   have hy:x.args[k]?=some (x.args[k]'hk'):=gE hk';rw[List.drop_eq_getElem_cons hk'] at hw;generalize x.args[k]'hk' = y at hy hw;have hm:=List.mem_of_getElem? hy;obtain⟨q,hq,hcl⟩:=(hx s5.au).fl.at hy;refine cT (dT hlt) (aj hq ⟨by omega,by omega,_,y.u,_,_,_,_,hcl,s5.ax dK.cells.toArray λ r3 w5 s6=>s6.az 0 rfl y.cells rfl y.one λ w6 s7=>⟨_,s7.cellsIn 3 rfl,_,y.u,_,_,_,_,s7.cellsIn 0 rfl,?_⟩⟩);have s8:St w0 w6 (Sep (M s')):=s7.av [1,2,3,4];refine ak (ih y hm (by have:=zL hm; omega) (λ hc=>(hx hc).sub y hm) w6 _ s' s8) ?_;rintro r w7 ⟨rfl,s9⟩;have s9:St w0 w7 (Sep (M (bt step y s').1)):=s9;refine⟨_,rfl,?_⟩;rw[fk,List.foldl_cons,if_pos rfl] at hw
   cases hr:(bt step y s').2 with
   | true =>
    have e2:bt step y s' = ((bt step y s').1,true):=by rw[<- hr]
    rw[e2] at hw;exact cF rfl ⟨x.args.length-(k+1),by omega,k+1,_,aB ⟨by omega,by omega⟩,by omega,rfl,hw,s9⟩
   | false =>
    have e2:bt step y s' = ((bt step y s').1,false):=by rw[<- hr]
    have e3:∀ (l:List Xv) (r:S×Bool),r.2=false->l.foldl (λ r y=>if r.2 then bt step y r.1 else r) r=r:=λ l=>by
     induction l with
     | nil=>intro r _; rfl
     | cons z l ih=>intro r hr; rw[List.foldl_cons,if_neg (by rw[hr]; decide),ih r hr]
    rw[e3 _ _ hr] at hw;exact cT rfl ⟨by rw[<- hw,hr],by rw[<- hw]; exact opn s9⟩
  ·obtain rfl:k=x.args.length:=by omega
   rw[List.drop_length] at hw;exact cF (dF hlt) ⟨by rw[<- hw]; rfl,by rw[<- hw]; exact opn s5⟩
end
section
variable {w0:World} {p:Nat} {B:aC}
theorem kf.E6{w:World}{l:List Tk}{e:Int}{B' : aC}(h:kf w0 w p l e B)(k:bC B B'):kf w0 w p l e B':=by
 obtain⟨a,c,h1,h2,s⟩:=h;exact⟨a,c,h1,h2,s.weak (bC.right (bC.right (bC.left k)))⟩
theorem kf.push{w:World}{l:List Tk}{e:Int}{A:aC}{m:List aC}(h:kf w0 w p l e (star A (star (Sep m) B))):kf w0 w p l e (star (Sep (A :: m)) B):=h.E6 bf.assoc'.weak
abbrev Ss (a:OA) (c:Nat) (l:List Pr) (p:Nat):Array Value:=#[.slice a l.length c,pt p]
def PJ(w0:World)(p:Nat)(a:OA)(c:Nat)(l:List Pr)(f:Nat):Prop :=
 ∀ (B:aC) (σ:Sc) (w:World),σ.1.length<f->fH w0 w p σ B ->
  CP 185 #[.agg (Ss a c l p)] w (λ r w'=>∃ x:Xv,x.er=(fJ l f σ).1/\r=.agg x.cells.toArray/\fH w0 w' p (fJ l f σ).2 (star (held x.In) B))
variable {a:OA} {c:Nat} {l:List Pr}
theorem PM{f:Nat}(H:PJ w0 p a c l f){σ:Sc}{w:World}(h:fH w0 w p σ B)(hl:σ.2=0->σ.1.length<f) :
  CP 210 #[.agg (Ss a c l p)] w (λ r w'=>∃ x:Xv,x.er=(fU (fJ l f) σ).1/\r=.agg x.cells.toArray/\fH w0 w' p (fU (fJ l f) σ).2 (star (held x.In) B)):=by
 refine iy ?_;unfold dM;refine(St.start w).one.ax (Ss a c l p) λ r1 w1 s1=>s1.ax dK.cells.toArray λ r2 w2 s2=>?_;have h2:=h.add s2;refine⟨_,s2.ag 1 rfl 1,ak (zD h2) ?_⟩;rintro v w2 ⟨rfl,rfl⟩;refine⟨_,rfl,?_⟩
 by_cases he:σ.2=0
 ·have e1:fU (fJ l f) σ=fJ l f σ:=by rw[fU,if_neg (by simpa using he)]
  rw[e1];refine cF (by simpa using he) ⟨_,_,_,_,s2.cellsIn 1 rfl,ak (H _ σ w2 (hl he) h2) ?_⟩;rintro v w5 ⟨x,ex,rfl,h5⟩;obtain⟨B',s5,back⟩:=h5.push.out;exact⟨_,x.u,_,_,_,_,rfl,s5.az 1 rfl x.cells rfl (Xv.one _) λ w6 s6=>⟨_,x.u,_,_,_,_,s6.cellsIn 1 rfl,x,ex,rfl,(back (m':=[held x.In,_,_,_]) s6).E6 (bf.assoc.weak.trans (bC.right ((bC.left (bC.none _)).trans (bf.swap.trans (bf.unit' B)).weak)))⟩⟩
 ·have e1:fU (fJ l f) σ=(dK,σ):=by rw[fU,if_pos he]
  rw[e1];obtain⟨B',s5,back⟩:=h2.out;refine cT (by simpa using he) (s5.az 0 rfl dK.cells rfl (Xv.one _) λ w6 s6=>⟨_,z6,_,_,_,_,s6.cellsIn 0 rfl,dK,GJ,rfl,?_⟩);have s7:=s6.vQ (Q:=dK.In) λ w=>.mk (λ i y hy=>by simp[dK,Xv.args] at hy) (λ y hy=>by simp[dK,Xv.args] at hy);exact(back (m':=[held dK.In,_,_,_]) s7).E6 (bf.assoc.weak.trans (bC.right ((bC.left (bC.none _)).trans (bf.swap.trans (bf.unit' B)).weak)))
end
section
variable {w0:World} {p:Nat} {B:aC} {a:OA} {c:Nat} {l:List Pr}
theorem PT{A C:aC}{m:List aC}:bC (star (Sep (A :: m)) C) (star A C):=bf.assoc.weak.trans (bC.right ((bC.left (bC.none _)).trans (bf.swap.trans (bf.unit' C)).weak))
def QZ(x:Xv)(tk:Tk)(r1 r2 r3 r4:Nat)(a:OA)(c:Nat)(l:List Pr)(p:Nat):List aC :=
 [ai r4 x.cells.toArray 81,UR x.a x.c x.args,held (M9 x.args),ai r3 tk.cells.toArray 280,ai r2 dK.cells.toArray 81,ai r1 (Ss a c l p) 262,emp]
theorem KJ(hr:∀ {w'},ay w0 w' []->dH w' a l)(hc:l.length<=c)(ho:bZ l):∀ f,PJ w0 p a c l f
 | 0=>λ _ _ _ h _=>absurd h (Nat.not_lt_zero _)
 | f+1=>λ B σ w hlen h=>by
  have H:=KJ hr hc ho f;refine gx ?_;unfold cZ;refine(St.start w).one.ax (Ss a c l p) λ r1 w1 s1=>s1.ax dK.cells.toArray λ r2 w2 s2=>⟨_,s2.ag 1 rfl 1,?_⟩;have h2:=h.add s2;refine ak (qf h2) ?_;rintro v w3 ⟨rfl,c3⟩;have s3:=s2.quiet c3;generalize htk:aN σ.1 σ.2=tk at *;refine⟨_,_,_,_,rfl,s3.ax ur.cells.toArray λ r3 w4 s4=>s4.az 0 rfl tk.cells rfl (Tk.one _) λ w5 s5=>?_⟩;let m0:List aC:=[ai r3 tk.cells.toArray 280,ai r2 dK.cells.toArray 81,ai r1 (Ss a c l p) 262,emp];have h5:fH w0 w5 p σ (star (Sep m0) B):=h.add s5;have fr:∀ {w' : World} {σ' : Sc} {m:List aC},fH w0 w' p σ' (star (Sep m) B)->St w0 w' (Sep m):=λ h=>h.frame.first;refine⟨λ n w6=>n=bL tk/\fH w0 w6 p σ (star (Sep m0) B),?_,?_⟩
  ·rintro w6 _ ⟨rfl,h6⟩ -;refine⟨λ w7=>fH w0 w7 p (wJ σ) (star (Sep m0) B),?_,?_⟩
   ·rintro w7 h7 -;obtain⟨B',t7,back⟩:=h7.out;refine t7.ax dK.cells.toArray λ r4 w8 s8=>s8.az 0 rfl (Xv.mk (bL tk) z6 0 none 0 []).cells rfl (Xv.one _) λ w9 s9=>?_;have s9:St w0 w9 (Sep (ai r4 (Xv.mk (bL tk) z6 0 none 0 []).cells.toArray 81 :: (m0++[B']))):=s9
    by_cases h1:bL tk=1
    ·
     have eF:fJ l (f+1) σ=(.mk 1 (aT l (wJ σ)).1.1 (aT l (wJ σ)).1.2 none 0 [],(aT l (wJ σ)).2):=by rw[fJ,htk,if_pos h1]
     have h9:fH w0 w9 p (wJ σ) (star (Sep (ai r4 (Xv.mk (bL tk) z6 0 none 0 []).cells.toArray 81 :: m0)) B):=back (m':=ai r4 (Xv.mk (bL tk) z6 0 none 0 []).cells.toArray 81 :: m0) s9;refine cT (by simpa using h1) ⟨_,_,_,_,s9.cellsIn 3 rfl,ak (EF h9 hr hc ho) ?_⟩;rintro v w10 ⟨rfl,h10⟩;obtain⟨B2,s10,back2⟩:=h10.out;let x:Xv:=.mk (bL tk) (aT l (wJ σ)).1.1 (aT l (wJ σ)).1.2 none 0 [];refine⟨_,_,rfl,s10.pE 0 1 rfl (Xv.mk (bL tk) (aT l (wJ σ)).1.1 0 none 0 []).cells.toArray (show 7<=9 by decide) (I6.one _) rfl λ w11 s11=>s11.aK 0 rfl (j:=7) (show 7<9 by decide) rfl λ w12 s12=>?_⟩;refine⟨_,x.u,_,_,_,_,s12.cellsIn 0 rfl,s12.az 2 rfl x.cells rfl (Xv.one _) λ w13 s13=>⟨_,x.u,_,_,_,_,s13.cellsIn 2 rfl,x,?_,rfl,?_⟩⟩
     ·rw[eF,Xv.oC];show Xv.mk (bL tk) _ _ none 0 []=Xv.mk 1 _ _ none 0 [];rw[h1]; rfl
     ·rw[eF];have s14:=s13.vQ (Q:=x.In) λ w=>.mk (λ i y hy=>by simp[x,Xv.args] at hy) (λ y hy=>by simp[x,Xv.args] at hy);exact(back2 (m':=[held x.In,_,_,_,_,_]) s14).E6 PT
    ·
     have eF:fJ l (f+1) σ=KE l (fJ l f) (bL tk) (fU (fJ l f) (Ag σ)).1 (fU (fJ l f) (Ag σ)).2:=by rw[fJ,htk,if_neg h1]
     have h1' : bL (aN σ.1 σ.2)≠1:=by rw[htk]; exact h1
     let x0:Xv:=.mk (bL tk) z6 0 none 0 [];have t9:St w0 w9 (Sep (QZ x0 tk r1 r2 r3 r4 a c l p++[B'])):=(St.vQ (l:=[_,_,_,_,_,_,_]) (s9.dP (e:=81) (sz:=9) (f:=Xv.cells)) (Q:=M9 []) (λ w=>by simp[M9])).av [2,1,0,3,4,5,6,7];let F:Xv->aC:=λ x=>star (Sep (QZ x tk r1 r2 r3 r4 a c l p)) B;have h9:fH w0 w9 p (wJ σ) (F x0):=back (m':=QZ x0 tk r1 r2 r3 r4 a c l p) t9;have frF:∀ {w' : World} {σ' : Sc} {x:Xv},fH w0 w' p σ' (F x)->St w0 w' (Sep (QZ x tk r1 r2 r3 r4 a c l p)):=λ h=>h.frame.first;have app:∀ {w' : World} {σ' : Sc} {x y:Xv} {R:World->Prop},x.args.length<=5000->fH w0 w' p σ' (star (held y.In) (F x)) ->
       (∀ a8 c8 w19,fH w0 w19 p σ' (F (.mk x.op x.u x.v a8 c8 (x.args++[y])))->R w19) ->
       w'.cell? ⟨r4,8,none⟩=some (.slice x.a x.args.length x.c)/\aq w' (.cells (iv y.op :: (y.u.on [iv y.v,.slice y.a y.args.length y.c]):List Value).toArray 81) λ r5 w17=>w17.cell? ⟨r4,8,none⟩=some (.slice x.a x.args.length x.c) /\
        aV prog (Builtin.append_ #[79,79] 79 #[.slice x.a x.args.length x.c,.slice (some ⟨r5,0,none⟩) 1 1]) w17 λ e6 w18=>∃ (a8:OA) (l8 c8:Nat),e6=.slice a8 l8 c8/\aP w18 ⟨r4,8,none⟩ (.slice a8 l8 c8) R:=by
      intro w' σ' x y R hxl hA k;obtain⟨B2,t,bk⟩:=hA.push.out;refine⟨t.ag 1 rfl 8,t.ax y.cells.toArray λ r5 w17 t17=>⟨t17.ag 2 rfl 8,?_⟩⟩;have hy1:cG 9 Xv.cells w17 (some ⟨r5,0,none⟩) [y]:=λ i z hz=>by
       obtain⟨rfl,rfl⟩:i=0/\z=y:=by
        cases i with
        | zero=>simp at hz; exact⟨rfl,hz.symm⟩
        | succ i=>simp at hz
       exact⟨_,_,rfl,by rw[Nat.zero_mul,sy]; exact t17.cellsIn 0 rfl,rfl,rfl⟩
      refine cS Ut Xv.len Xv.one (t17.out 3 rfl) (a2:=some ⟨r5,0,none⟩) (c2:=1) (l2:=[y]) hy1 (by simp; omega) (by simp; omega) λ a8 c8 w18 t18=>?_;have t19:=t18.back (show 3<10 by decide);refine t19.aK 2 rfl (j:=8) (show 8<9 by decide) rfl λ w19 t20=>k a8 c8 w19 ?_;have t21:=(t20.av [1,4,2,3,5,6,7,8,9]).qQ (aZ _) (aZ _) λ w h1 h2=>(show M9 (x.args++[y]) w from λ z hz=>(List.mem_append.1 hz).elim (h2 z) λ e=>by rw[List.mem_singleton.1 e]; exact h1);exact bk (m':=QZ (.mk x.op x.u x.v a8 c8 (x.args++[y])) tk r1 r2 r3 r4 a c l p) (t21.av [1,2,0,3,4,5,6,7])
     refine cF (by simpa using h1) ⟨_,(frF h9).ag 5 rfl 1,ak (xP h9) ?_⟩;rintro v w14 ⟨rfl,h14⟩;have h14:fH w0 w14 p (wJ σ).next (F x0):=h14;refine⟨_,_,_,_,rfl,_,(frF h14).ag 5 rfl 1,ak (eG h14 [40]) ?_⟩;rintro v w15 ⟨rfl,h15⟩;have h15:fH w0 w15.drew p (Ag σ) (F x0):=h15.quiet (ay.drew w15 []);have h4000:(Ag σ).1.length<=4000:=by obtain⟨_,_,_,h2,_⟩:=h15; exact h2
     refine⟨rfl,_,_,_,(frF h15).ag 0 rfl 8,_,_,_,_,(frF h15).cellsIn 5 rfl,ak (PM H h15 λ he=>by have:=KB h1' he; omega) ?_⟩;rintro v w16 ⟨y,ey,rfl,h16⟩;have l3:(fU (fJ l f) (Ag σ)).2.1.length<=(Ag σ).1.length:=xy (Cb l f) _;generalize fU (fJ l f) (Ag σ)=A1 at eF ey h16 l3;refine⟨_,y.u,_,_,_,_,rfl,app (x:=x0) (by show 0<=5000; omega) h16 λ a8 c8 w19 h19=>?_⟩;have h19:fH w0 w19 p A1.2 (F (.mk (bL tk) z6 0 a8 c8 [y])):=h19;refine⟨λ w20=>∃ (x:Xv) (τ:Sc),x.er=(fJ l (f+1) σ).1/\τ.exp [41]=(fJ l (f+1) σ).2/\fH w0 w20 p τ (F x),?_,?_⟩
     ·rintro w20 ⟨x,τ,ex,et,h20⟩ -;refine⟨_,(frF h20).ag 5 rfl 1,ak (eG h20 [41]) ?_⟩;rintro v w21 ⟨rfl,h21⟩;have h21:fH w0 w21 p (τ.exp [41]) (F x):=h21;rw[et] at h21;obtain⟨B2,t,bk⟩:=h21.out;refine⟨rfl,_,x.u,_,_,_,_,t.cellsIn 0 rfl,t.az 4 rfl x.cells rfl (Xv.one _) λ w22 t22=>⟨_,x.u,_,_,_,_,t22.cellsIn 4 rfl,x,ex,rfl,?_⟩⟩;have t23:=(t22.av [1,2,0,3,4,5,6,7]).qQ (bB Xv.len) (aZ _) λ w h1 h2=>(Xv.In.mk h1 h2:x.In w);exact(bk (m':=[held x.In,_,_,_,_,_]) t23).E6 PT
     refine⟨λ b w23=>b=decide (bL tk=2\/bL tk=3)/\fH w0 w23 p A1.2 (F (.mk (bL tk) z6 0 a8 c8 [y])),?_,?_⟩
     ·rintro w23 _ ⟨rfl,h23⟩ -
      by_cases g23:bL tk=2\/bL tk=3
      ·have eR:fJ l (f+1) σ=(.mk (bL tk) z6 0 none 0 (fV (fJ l f) A1.2.1.length [A1.1] A1.2).1,(fV (fJ l f) A1.2.1.length [A1.1] A1.2).2.exp [41]):=by rw[eF,KE,if_pos g23]
       refine cT (dT g23) ⟨λ w24 m=>∃ (n:Nat) (acc:List Xv) (a' : OA) (c' : Nat) (σ' : Sc),m=σ'.1.length/\σ'.1.length<=n/\acc.length+σ'.1.length<=4001/\σ'.1.length<=(Ag σ).1.length/\fV (fJ l f) n (acc.map Xv.er) σ' = fV (fJ l f) A1.2.1.length [A1.1] A1.2/\fH w0 w24 p σ' (F (.mk (bL tk) z6 0 a' c' acc)),⟨_,A1.2.1.length,[y],a8,c8,A1.2,rfl,Nat.le_refl _,by simp; omega,l3,by rw[List.map_singleton,ey],h23⟩,?_⟩;rintro w24 m ⟨n,acc,a',c',σ',rfl,hn,hac,hl',he,h24⟩ -;refine⟨_,(frF h24).ag 5 rfl 1,ak (qe h24 [44]) ?_⟩;rintro v w25 ⟨rfl,h25⟩;have h25:fH w0 w25 p (σ'.acc [44]) (F (.mk (bL tk) z6 0 a' c' acc)):=h25;refine⟨_,rfl,?_⟩
       cases hb:nE [44] σ'.1 σ'.2 with
       | true =>
        have hlen':=BP hb;obtain⟨n,rfl⟩:∃ k,n=k+1:=⟨n-1,by omega⟩;rw[fV,if_pos hb] at he;have h26:=h25.quiet (ay.drew w25 []);have PU:=Fx σ;refine cT rfl ⟨_,_,_,(frF h26).ag 0 rfl 8,_,_,_,_,(frF h26).cellsIn 5 rfl,ak (PM H h26 λ _=>by omega) ?_⟩;rintro v w26 ⟨z,ez,rfl,h27⟩;have l4:(fU (fJ l f) (σ'.acc [44])).2.1.length<=(σ'.acc [44]).1.length:=xy (Cb l f) _;refine⟨_,z.u,_,_,_,_,rfl,app (x:=.mk (bL tk) z6 0 a' c' acc) (by show acc.length<=5000; omega) h27 λ a9 c9 w29 h29=>⟨_,?_,n,acc++[z],a9,c9,_,rfl,?_,?_,?_,?_,h29⟩⟩
        ·omega
        ·omega
        ·rw[List.length_append,List.length_singleton]; omega
        ·omega
        ·rw[List.map_append,List.map_singleton,ez]; exact he
       | false =>
        have ea:=Fh hb;rw[ea] at h25;have ef:fV (fJ l f) n (acc.map Xv.er) σ' = (acc.map Xv.er,σ'):=by
         cases n with
         | zero=>rfl
         | succ n=>rw[fV,if_neg (by rw[hb]; decide)]
        rw[ef] at he;refine cF rfl ⟨_,σ',?_,?_,h25⟩
        ·rw[eR,<- he,Xv.oC]; rfl
        ·rw[eR,<- he]
      ·refine cF (dF g23) ?_
       by_cases g4:bL tk=4
       ·have eR:fJ l (f+1) σ=(.mk (bL tk) (aT l (A1.2.exp [44])).1.1 (aT l (A1.2.exp [44])).1.2 none 0 [A1.1],(aT l (A1.2.exp [44])).2.exp [41]):=by rw[eF,KE,if_neg g23,if_pos g4]
        refine cT (by simpa using g4) ⟨_,(frF h23).ag 5 rfl 1,ak (eG h23 [44]) ?_⟩;rintro v w30 ⟨rfl,h30⟩;have h30:fH w0 w30 p (A1.2.exp [44]) (F (.mk (bL tk) z6 0 a8 c8 [y])):=h30;refine⟨rfl,_,_,_,_,(frF h30).cellsIn 5 rfl,ak (EF h30 hr hc ho) ?_⟩;rintro v w31 ⟨rfl,h31⟩;obtain⟨B2,t,bk⟩:=h31.out;refine⟨_,_,rfl,t.pE 0 1 rfl (Xv.mk (bL tk) (aT l (A1.2.exp [44])).1.1 0 a8 c8 [y]).cells.toArray (show 7<=9 by decide) (I6.one _) rfl λ w32 t32=>t32.aK 0 rfl (j:=7) (show 7<9 by decide) rfl λ w33 t33=>⟨.mk (bL tk) (aT l (A1.2.exp [44])).1.1 (aT l (A1.2.exp [44])).1.2 a8 c8 [y],(aT l (A1.2.exp [44])).2,?_,by rw[eR],bk (m':=QZ (.mk (bL tk) (aT l (A1.2.exp [44])).1.1 (aT l (A1.2.exp [44])).1.2 a8 c8 [y]) tk r1 r2 r3 r4 a c l p) t33⟩⟩;rw[eR,Xv.oC,<- ey]; rfl
       ·refine cF (by simpa using g4) ?_
        by_cases g5:bL tk=5
        ·have eR:fJ l (f+1) σ=(.mk (bL tk) z6 (uw 1000000 (A1.2.exp [44]).1 (A1.2.exp [44]).2) none 0 [A1.1],((A1.2.exp [44]).jq 1000000).exp [41]):=by rw[eF,KE,if_neg g23,if_neg g4,if_pos g5]
         refine cT (by simpa using g5) ⟨_,(frF h23).ag 5 rfl 1,ak (eG h23 [44]) ?_⟩;rintro v w34 ⟨rfl,h34⟩;have h34:fH w0 w34 p (A1.2.exp [44]) (F (.mk (bL tk) z6 0 a8 c8 [y])):=h34;refine⟨rfl,_,(frF h34).ag 5 rfl 1,ak (vn h34 1000000) ?_⟩;rintro v w35 ⟨rfl,h35⟩;obtain⟨B2,t,bk⟩:=h35.out;refine⟨_,rfl,t.aK 0 rfl (j:=7) (show 7<9 by decide) rfl λ w36 t36=>⟨.mk (bL tk) z6 (uw 1000000 (A1.2.exp [44]).1 (A1.2.exp [44]).2) a8 c8 [y],(A1.2.exp [44]).jq 1000000,?_,by rw[eR],bk (m':=QZ (.mk (bL tk) z6 (uw 1000000 (A1.2.exp [44]).1 (A1.2.exp [44]).2) a8 c8 [y]) tk r1 r2 r3 r4 a c l p) t36⟩⟩;rw[eR,Xv.oC,<- ey]; rfl
        ·have eR:fJ l (f+1) σ=(.mk (bL tk) z6 0 none 0 [A1.1],A1.2.exp [41]):=by rw[eF,KE,if_neg g23,if_neg g4,if_neg g5]
         refine cF (by simpa using g5) ⟨_,A1.2,?_,by rw[eR],h23⟩;rw[eR,Xv.oC,<- ey]; rfl
     ·by_cases g2:bL tk=2
      ·exact cT (by simpa using g2) ⟨by rw[dT (Or.inl g2)]; simpa using g2,h19⟩
      ·refine cF (by simpa using g2) ⟨?_,h19⟩
       by_cases g3:bL tk=3
       ·rw[dT (Or.inr g3)]; simpa using g3
       ·rw[dF (by rintro(h|h); exact g2 h; exact g3 h)]; simpa using g3
   ·by_cases h0:bL tk=0
    ·refine cT (by simpa using h0) ⟨_,(fr h6).ag 2 rfl 1,ak (iA h6 2) ?_⟩;rintro v w37 ⟨rfl,h37⟩;exact⟨rfl,by rw[wJ,htk,if_pos h0]; exact h37⟩
    ·exact cF (by simpa using h0) (by rw[wJ,htk,if_neg h0]; exact h6)
  ·refine⟨_,s5.ag 0 rfl 0,?_⟩
   by_cases hk:tk.k=1
   ·refine cT (by simpa using hk) ⟨_,s5.ag 0 rfl 1,ak (Rx w5 tk.t) ?_⟩;rintro v w38 ⟨rfl,c38⟩;exact⟨_,rfl,by rw[bL,if_pos hk],h5.quiet c38⟩
   ·exact cF (by simpa using hk) ⟨by rw[bL,if_neg hk],h5⟩
end
structure JQ (w:World) (s:Se):Prop where
 i:s.In w
 o:s.Ok
theorem JQ.au{w w' : World}{s:Se}(h:JQ w s)(hc:ay w w' []):JQ w' s:=⟨h.i.au hc,h.o⟩
theorem Dp{w:World}{s:Se}(h:JQ w s){n:Nat}{b:Br}(hb:s.bd[n]?=some b){c:Ch}(hc:c.Ok) :
  CP 46 #[.agg s.arr,iv n,c.v] w (λ r w'=>r=iv (xY b c)/\ay w w' []):=by
 refine lX ?_;unfold gW;have hn:=(List.getElem?_eq_some_iff.1 hb).1;refine(St.start w).one.ax s.arr λ r1 w1 s1=>s1.ax c.cells.toArray λ r2 w2 s2=>⟨_,_,_,_,_,_,_,_,_,_,_,_,s2.cellsIn 1 rfl,ak (K2 (s:=s) n) ?_⟩;rintro v w3 ⟨rfl,c3⟩;have s3:=s2.quiet c3;obtain⟨q,hq,hcl⟩:=GU ((h.au s3.au).i.bd) hb 2 _ rfl;refine⟨_,rfl,cF (by simp; omega) ⟨_,_,_,s3.ag 1 rfl 1,?_⟩⟩;rw[hq];refine⟨by omega,by omega,_,hcl,λ g w4=>g=decide (b.bud≠0/\b.bud<cost c.p c.want)/\ay w w4 [],?_,?_⟩
 ·rintro w4 g ⟨rfl,c4⟩ -
  by_cases hg:b.bud≠0/\b.bud<cost c.p c.want
  ·exact cT (dT hg) ⟨by rw[xY,if_pos hg],c4⟩
  ·exact cF (dF hg) ⟨by rw[xY,if_neg hg],c4⟩
 ·by_cases h0:b.bud=0
  ·exact cF (by simp[h0]) ⟨by simp[h0],s3.au⟩
  ·refine cT (by simpa using h0) ⟨_,wF s3 0 rfl,_,bY s3 0 rfl,ak (gr w3 hc.p hc.w) ?_⟩;rintro v w5 ⟨rfl,c5⟩;exact⟨_,rfl,by simp[h0],(s3.quiet c5).au⟩
def oE(l:List Ch):Bool:=(l.getLast?.map λ c=>decide (c.want=z6)).getD false
theorem KH{w:World}{a:OA}{c:Nat}{l:List Ch}(h:Dm w a l)(hl:l.length<=1000):CP 140 #[.slice a l.length c] w (λ r w'=>r=.bool (oE l)/\w' = w):=by
 refine ri ?_;unfold mS
 by_cases h0:l.length=0
 ·have:l=[]:=List.eq_nil_of_length_eq_zero h0;subst this;exact cF rfl ⟨rfl,rfl⟩
 ·have hx:l[l.length-1]?=some (l[l.length-1]'(by omega)):=gE (by omega);have hlast:l.getLast? = some (l[l.length-1]'(by omega)):=by rw[List.getLast?_eq_getElem?,hx]
  generalize l[l.length-1]'(by omega)=x at hx hlast;obtain⟨q,hq,hcl⟩:=h.at hx;rw[hq];have e:IntKind.i64.wrap ((l.length:Int)-1)=((l.length-1:Nat):Int):=by rw[aB ⟨by omega,by omega⟩]; omega
  rw[e];refine cT (dT (by omega)) ⟨by omega,by omega,x.want,?_,?_,rfl⟩
  ·refine br _ 0 λ j v hj=>?_;have h6:j<6:=(List.getElem?_eq_some_iff.1 hj).1;have:=aS hcl (6+j) v (by
    match j,h6,hj with
    | 0,_,hj|1,_,hj|2,_,hj|3,_,hj|4,_,hj|5,_,hj=>simpa[Ch.cells,I6.on,I6.vs] using hj)
   rw[Nat.zero_add] at this;rw[Addr.add_add,Nat.zero_add,Int.toNat_natCast];exact this
  ·rw[oE,hlast]; simp[I6.beq_eq]
def JR(s:Se)(n:Int)(a:OA)(c:Nat)(l:List Ch):List Value:=[.slice s.a1 s.ps.length s.c1,.slice s.a2 s.bd.length s.c2,.slice s.a3 s.cp.length s.c3,.slice s.a4 s.sa.length s.c4,iv n,.slice a l.length c]
theorem K5{w0 w:World}{s:Se}{n:Int}{a:OA}{c:Nat}{l:List Ch}{ls:List aC}{r:Nat}{T:TypeId}(h:St w0 w (Sep ls))(i:Nat)(e:ls[i]?=some (ai r (JR s n a c l).toArray T)):af w ⟨r,0,none⟩ 0 s.arr.toList :=
 br _ 0 λ j v hj=>by
  have h6:j<4:=(List.getElem?_eq_some_iff.1 hj).1;rw[bq,Nat.zero_add,Nat.zero_add,h.ag i e]
  match j,h6,hj with
  | 0,_,hj|1,_,hj|2,_,hj|3,_,hj=>simpa[JR,Se.arr] using hj
theorem A5{w:World}{s:Se}(h:JQ w s){n:Int}{a:OA}{k:Nat}{l:List Ch}{c:Ch}(hc:c.Ok) :
  CP 174 #[.agg (JR s n a k l).toArray,c.v] w (λ r w'=>r=iv (zm s.ps c.want)/\ay w w' []):=by
 refine iF ?_;unfold dZ;refine(St.start w).one.ax (JR s n a k l).toArray λ r1 w1 s1=>s1.ax c.cells.toArray λ r2 w2 s2=>⟨_,_,_,s2.ag 1 rfl 0,_,bY s2 0 rfl,ak (LQ ((h.au s2.au).i.ps) h.i.h1 h.o.ps hc.w) ?_⟩;rintro v w3 ⟨rfl,c3⟩;exact⟨_,rfl,rfl,(s2.quiet c3).au⟩
def G8(s:Se)(b:Br)(l:List Ch):Int:=l.foldl (λ m c=>if zm s.ps c.want<m then zm s.ps c.want else m) b.pts
theorem QW{w:World}{s:Se}(h:JQ w s){n:Nat}{b:Br}(hb:s.bd[n]?=some b){a:OA}{k:Nat}{l:List Ch}(hr:Dm w a l)(hl:l.length<=1000)(ho:∀ c∈l,c.Ok) :
  CP 175 #[.agg s.arr,iv n,.slice a l.length k] w (λ r w'=>r=iv (G8 s b l)/\ay w w' []):=by
 refine kz ?_;unfold fP;have hn:=(List.getElem?_eq_some_iff.1 hb).1;refine(St.start w).one.ax s.arr λ r1 w1 s1=>⟨_,_,_,_,_,_,_,_,_,_,_,_,s1.cellsIn 0 rfl,ak (K2 (s:=s) n) ?_⟩;rintro v w2 ⟨rfl,c2⟩;have s2:=(s1.quiet c2).quiet (ay.drew w2 []);obtain⟨q,hq,hcl⟩:=GU ((h.au s2.au).i.bd) hb 3 _ rfl;refine⟨_,rfl,cF (by simp; omega) ⟨_,_,_,_,_,_,_,_,_,_,_,_,s2.cellsIn 0 rfl,_,_,_,s2.ag 0 rfl 1,?_⟩⟩;refine aj hq ⟨by omega,by omega,_,hcl,λ m n4 w3 x=>∃ j:Nat,n4=j/\j<=l.length/\x=l.length-j/\m=G8 s b (l.take j)/\St w w3 (Sep [ai r1 s.arr 27,emp]),⟨l.length,0,rfl,by omega,by omega,rfl,s2⟩,?_⟩;rintro w3 x m n4 ⟨j,rfl,hj,hx',rfl,s3⟩ -
 by_cases hlt:(j:Int)<(l.length:Int)
 ·have hx:l[j]?=some (l[j]'(by omega)):=gE (by omega);generalize l[j]'(by omega)=y at hx;obtain⟨q2,rfl,hcl2⟩:=(hr.au s3.au).at hx;refine cT (by simpa using hlt) ⟨by omega,by omega,y.p,y.want,hcl2,s3.ax nD.cells.toArray λ r2 w4 s4=>s4.az 0 rfl y.cells rfl y.one λ w5 s5=>⟨y.p,y.want,s5.cellsIn 0 rfl,?_⟩⟩;have hp:=A5 (n:=(n:Int)) (a:=some q2) (k:=k) (l:=l) (h.au s5.au) (ho y (List.mem_of_getElem? hx));refine ak hp ?_;rintro v w6 ⟨rfl,c6⟩;refine⟨_,rfl,l.length-(j+1),by omega,j+1,aB ⟨by omega,by omega⟩,by omega,rfl,?_,(s5.quiet c6).av [1,2]⟩;rw[aG hx]; unfold G8; rw[List.foldl_append,List.foldl_cons,List.foldl_nil]
 ·obtain rfl:j=l.length:=by omega
  exact cF (by simp) ⟨by rw[List.take_length],s3.au⟩
def yM(s:Se)(b:Br)(l:List Ch)(c:Ch):Bool:=decide (zm s.ps c.want<=G8 s b l)
theorem Hs{w:World}{s:Se}(h:JQ w s){n:Nat}{b:Br}(hb:s.bd[n]?=some b){a:OA}{k:Nat}{l:List Ch}(hr:Dm w a l)(hl:l.length<=1000)(ho:∀ c∈l,c.Ok){c:Ch}(hc:c.Ok) :
  CP 137 #[.agg (JR s n a k l).toArray,c.v] w (λ r w'=>r=.bool (yM s b l c)/\ay w w' []):=by
 refine kg ?_;unfold fq;refine(St.start w).one.ax (JR s n a k l).toArray λ r1 w1 s1=>s1.ax c.cells.toArray λ r2 w2 s2=>?_;have s3:=s2.quiet (ay.drew w2 []);refine⟨_,_,_,_,_,_,_,_,_,_,_,_,_,_,_,_,s3.cellsIn 1 rfl,c.p,c.want,s3.cellsIn 0 rfl,_,_,_,_,_,_,_,_,_,_,_,_,K5 s3 1 rfl,_,s3.ag 1 rfl 4,_,_,_,s3.ag 1 rfl 5,ak (A5 (n:=n) (a:=a) (k:=k) (l:=l) (h.au s3.au) hc) ?_⟩;rintro v w3 ⟨rfl,c3⟩;have s4:=s3.quiet c3;refine⟨_,rfl,s4.ag 1 rfl 5,s4.ag 1 rfl 4,K5 s4 1 rfl,ak (QW (h.au s4.au) hb (hr.au s4.au) hl ho) ?_⟩;rintro v w5 ⟨rfl,c5⟩;exact⟨_,rfl,rfl,(s4.quiet c5).au⟩
def uE(c:Ch):Bool:=c.p.l.all jq&&c.want.l.all eY
theorem DG{c:Ch}:uE c=true<->c.Ok:=by
 unfold uE;rw[Bool.and_eq_true];exact⟨λ h=>⟨lu.1 h.1,JT h.2⟩,λ h=>⟨lu.2 h.p,leq h.w⟩⟩
theorem L9(w:World)(c:Ch):CP 191 #[c.v] w (λ r w'=>r=.bool (uE c)/\ay w w' []):=by
 refine tS ?_;unfold pn;refine(St.start w).one.ax c.cells.toArray λ r1 w1 s1=>⟨c.p,wF s1 0 rfl,λ n w2 m=>∃ k:Nat,n=k/\k<=6/\m=6-k/\(c.p.l.take k).all jq=true/\w2=w1,⟨6,0,rfl,by omega,by omega,rfl,rfl⟩,?_⟩;rintro w2 m n ⟨k,rfl,hk,hm,ha,rfl⟩ -
 by_cases hlt:(k:Int)<6
 ·have hk' : k<6:=by omega
  refine cT (dT hlt) ⟨by omega,by omega,_,c.p.get k hk',λ b w3=>b=(!jq (c.p.at' k))/\w3=w2,?_,?_⟩
  ·rintro w3 b ⟨rfl,rfl⟩ -
   cases hx:jq (c.p.at' k) with
   | true=>exact cF rfl ⟨6-(k+1),by omega,k+1,inc (by decide) hk',by omega,rfl,iB ha (c.p.oP k hk') hx,rfl⟩
   | false=>exact cT rfl ⟨by rw[uE,kA (c.p.oP k hk') hx]; rfl,s1.au⟩
  ·by_cases h0:c.p.at' k<0
   ·exact cT (dT h0) ⟨by simp[jq]; omega,rfl⟩
   ·refine cF (dF h0) ⟨?_,rfl⟩;rw[jq,dT (show 0<=c.p.at' k by omega),Bool.true_and]
    by_cases h1:c.p.at' k<=1000000
    ·rw[dT h1,dF (by omega)]; rfl
    ·rw[dF h1,dT (by omega)]; rfl
 ·obtain rfl:k=6:=by omega
  refine cF (by simp) ⟨_,bY s1 0 rfl,ak (bN w2 c.want) ?_⟩;rintro v w4 ⟨rfl,c4⟩;refine⟨_,rfl,?_,(s1.quiet c4).au⟩;rw[uE,show c.p.l.all jq=true from ha]
  cases c.want.l.all eY<;>rfl
theorem yb{w:World}{a:OA}{k:Nat}{l:List Ch}(hr:Dm w a l)(hl:l.length<=1000) :
  CP 162 #[.slice a l.length k] w (λ r w'=>r=.bool (l.all uE)/\ay w w' []):=by
 refine o9 ?_;unfold jV;refine⟨λ n w1 m=>∃ j:Nat,n=j/\j<=l.length/\m=l.length-j/\(l.take j).all uE=true/\ay w w1 [],⟨l.length,0,rfl,by omega,by omega,rfl,ay.refl _ _⟩,?_⟩;rintro w1 m n ⟨j,rfl,hj,hm,ha,hc⟩ -
 by_cases hlt:(j:Int)<(l.length:Int)
 ·have hx:l[j]?=some (l[j]'(by omega)):=gE (by omega);generalize l[j]'(by omega)=y at hx;obtain⟨q2,rfl,hcl2⟩:=(hr.au hc).at hx;refine cT (by simpa using hlt) ⟨by omega,by omega,y.p,y.want,hcl2,(St.start' hc).one.ax nD.cells.toArray λ r2 w4 s4=>s4.az 0 rfl y.cells rfl y.one λ w5 s5=>⟨y.p,y.want,s5.cellsIn 0 rfl,ak (L9 w5 y) ?_⟩⟩;rintro v w6 ⟨rfl,c6⟩;refine⟨_,rfl,?_⟩
  cases hy:uE y with
  | true =>
   refine cF rfl ⟨l.length-(j+1),by omega,j+1,aB ⟨by omega,by omega⟩,by omega,rfl,?_,(s5.quiet c6).au⟩;rw[aG hx,List.all_append,ha]; simp[hy]
  | false =>
   refine cT rfl ⟨?_,(s5.quiet c6).au⟩;rw[List.all_eq_false.2 ⟨y,List.mem_of_getElem? hx,by simp[hy]⟩]
 ·obtain rfl:j=l.length:=by omega
  rw[List.take_length] at ha;exact cF (by simp) ⟨by rw[ha],hc⟩
def vO(a b:Ch):Int:=cost a.p b.want-cost a.p a.want
theorem N2{a b:Ch}(ha:a.Ok)(hb:b.Ok) : -24000000<=vO a b/\vO a b<=24000000:=by
 have h1:=mq ha.p hb.w;have h2:=mq ha.p ha.w;unfold vO; omega
theorem Q9(w:World){a b:Ch}(ha:a.Ok)(hb:b.Ok):CP 165 #[a.v,b.v] w (λ r w'=>r=iv (vO a b)/\ay w w' []):=by
 refine vi ?_;unfold qV;have h1:=mq ha.p hb.w;have h2:=mq ha.p ha.w;refine(St.start w).one.ax a.cells.toArray λ r1 w1 s1=>s1.ax b.cells.toArray λ r2 w2 s2=>?_;have s3:=s2.quiet (ay.drew w2 []);refine⟨_,wF s3 1 rfl,_,bY s3 0 rfl,_,wF s3 1 rfl,_,bY s3 1 rfl,ak (gr _ ha.p hb.w) ?_⟩;rintro v w3 ⟨rfl,c3⟩;have s4:=s3.quiet c3;refine⟨_,rfl,bY s4 1 rfl,wF s4 1 rfl,ak (gr _ ha.p ha.w) ?_⟩;rintro v w5 ⟨rfl,c5⟩;refine⟨_,rfl,?_,(s4.quiet c5).au⟩;rw[aB ⟨by omega,by omega⟩]; rfl

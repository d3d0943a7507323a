import Derived.Test.YtmhhlijfepaphaaGreatDoorH06
set_option linter.all false
set_option maxRecDepth 100000
set_option maxHeartbeats 4000000
namespace Go.Proofs.YtmhhlijfepaphaaGreatDoor
open Go Go.Vc Go.Vt _root_.Go.Proofs.Tryz
def pP:=zl (And.intro (many xP [en func189 [] [],en func51 [] [],en func190 [] [(58,[(16,.s (.int .i64))]),(250,[(31,.s (.int .i64))])],en func276 [] [(15,[(4,.s (.int .i64))]),(31,[]),(2047,[]),(16378,[(46,.s .bool)]),(131028,[])],en func167 [] [(30,[(18,.s .bool)])],en func102 [] [(26,[(7,.s (.int .i64))])],en func278 [] [],en func279 [] [],en func280 [] [(58,[(7,.s (.int .i64)),(12,.s (.int .i64))]),(467,[(7,.s (.int .i64))])],en func331 [] [(58,[(3,.s (.int .i64)),(4,.s (.int .i64))])],en func333 [] [(3,[]),(107,[(16,.s .bool)])],en func336 [] [],en func237 [] [(58,[(3,.s (.int .i64)),(9,.s (.int .i64))])],en func238 [] [],en func239 [] [(58,[(15,.s (.int .i64))])],en func240 [] [],en func241 [(1,.k (.s .blk))] [(3,[])]] (by conv=>lhs;reduce) (by kernel_rfl) id) (many xP [en func242 [] [(235,[(13,.s .bool)])],en func243 [] [(26,[(5,.s .bool)]),(14,[(15,.s .bool)])],en func169 [] [(15,[(5,.s .map)]),(7866,[(32,.s (.int .i64))]),(31482,[(5,.s .map),(47,.s (.int .i64))]),(1007582,[]),(503802,[])],en func171 [] [(30,[(8,.s (.int .i64)),(9,.s (.int .i64))]),(484,[])],en func172 [(1,.k (.s .blk)),(2,.k (.s .blk))] [],en func173 [] [(58,[(7,.s (.int .i64)),(14,.s (.int .i64))]),(467,[(7,.s (.int .i64))])],en func340 [(1,.k (.s .blk)),(2,.k (.s .blk))] [(58,[(5,.s (.int .i64)),(12,.s (.int .i64))]),(467,[(5,.s (.int .i64))]),(122,[(5,.s (.int .i64)),(29,.s (.int .i64))]),(979,[(5,.s (.int .i64))])],en func313 [(1,.k (.s .blk))] [],en func244 [(1,.k (.s .blk)),(2,.k (.s .blk))] [],en func245 [] [(7,[(19,.s .bool)])],en func246 [] [(14,[])],en func247 [] [(250,[]),(32054,[])]] (by conv=>lhs;reduce) (by kernel_rfl) id)) λx=>by
 dsimp only[qq,qm,qk,qj,qy,qA,qB,GH,uv,en,FG,wrap,dc,dn,DH,gU,ID,U.I,U.B,U.S,U.N,U.A,U.O,U.W,U.V,U.L,U.U6,U.C,U.M,U.F,U.E,HV,HA,GM,zS,jU,gJ,vZ,vI,TJ,Nat.reduceSub,Nat.reduceAdd,Int.reduceOfNat,Int.reduceNeg,UInt8.reduceOfNat] at x
 exact x
def Af:=pP.1.2.1
def Fj:=pP.1.2.2.2.2.1
def CF:=(p6 pP.1).1
def Fk:=(p6 (p6 pP.1)).1
def Cs:=(p6 (p6 pP.1)).2.1
def yF:=(p6 (p6 pP.1)).2.2.1
def Hv:=(p6 (p6 pP.1)).2.2.2.1
def Ct:=(p6 (p6 pP.1)).2.2.2.2.1
def Hw:=pP.2.1
def DO:=pP.2.2.1
def CK:=pP.2.2.2.1
def DN:=(p6 pP.2).2.1
noncomputable def oh(n1:Int)(u1:I6)(n2:Int)(a1:OA)(l1:Nat)(c1:Nat)(u2:I6)(r1:Nat)(r2:Nat)(n3:Int)(u3:I6)(n4:Int)(a2:OA)(l2:Nat)(c2:Nat)(n5:Int)(u4:I6)(n6:Int)(u5:I6)(n7:Int)(r3:Nat)(r4:Nat)(x1:Nat->Value)(r5:Nat)(u6:I6)(v1:Value):Tm:=[.agg (iv n1::u1.on [iv n2,.slice a1 l1 c1]:List Value).toArray,.agg u2.vs.toArray,qp r1,qp r2,qn,qz,iv n5,iv n6,iv n7,qp r3,qp r4,qp r5,undef,.agg (iv n3::u3.on [iv n4,.slice a2 l2 c2]:List Value).toArray,iv n5,iv n5,.bool (n5 !=0),undef,.agg u4.vs.toArray,iv n6,iv n6,.bool (n6 !=0),undef,.agg u5.vs.toArray,iv n7,iv n7,.bool (n7==0),x1 27,x1 28,x1 29,x1 30,x1 31,.agg u6.vs.toArray,v1,undef,undef,undef,undef,undef,undef,undef,undef,undef,undef,undef,undef,undef,undef,undef]
noncomputable def nN(n1:Int)(u1:I6)(n2:Int)(a1:OA)(l1:Nat)(c1:Nat)(u2:I6)(r1:Nat)(r2:Nat)(n3:Int)(u3:I6)(n4:Int)(a2:OA)(l2:Nat)(c2:Nat)(n5:Int)(u4:I6)(n6:Int)(u5:I6)(n7:Int)(r3:Nat)(r4:Nat)(x1:Nat->Value)(r5:Nat)(u6:I6)(v1:Value)(fn:FuncId)(D:Nat):Loop:={state:=.ready,pending:=none,fn:=fn,tmps:=(oh n1 u1 n2 a1 l1 c1 u2 r1 r2 n3 u3 n4 a2 l2 c2 n5 u4 n6 u5 n7 r3 r4 x1 r5 u6 v1).toArray,params:=Xd (kK Tryz.f110) 2042,assign:=Xb (kK Tryz.f110) 2042,body:=Xc (kK Tryz.f110) 2042,defers:=D}
def p8(a:Int)(b:I6)(c:Int)(d:OA)(e:Nat)(f:Nat)(g:I6)(h:Nat)(i:Nat)(j:Int)(k:I6)(l:Int)(m:OA)(n:Nat)(o:Nat)(p:Int)(q:I6)(r:Int)(s:I6)(t:Int)(u:Nat)(v:Nat)(x:Nat->Value)(y:Nat)(z:I6)(A:Value)(B:Nat)(C:I6)(w:ah)(K:Bool->qW):Prop:=gK w (.cells z6.vs.toArray 50) λa b=>yY (qd a 0) 0 C.vs b λb=>∃c,b.heap[B]?=some (.loop c)/\c.state=.ready/\∃d e f,(World.putObj b B (.loop {c with state:=.busy})).drew.cell? (qd u 0)=some (.slice d e f)/\∃g,(World.putObj b B (.loop {c with state:=.busy})).drew.cell? (qd y 0)=some (iv g)/\∃h:Option Nat,(World.putObj b B (.loop {c with state:=.busy})).drew.cell? (qd v 0)=some (.map h)/\∃j:I6,aU (World.putObj b B (.loop {c with state:=.busy})).drew (qd a 0) 0 j.vs/\kg prog (Instr.lookup 227 (.map h) (.agg j.vs.toArray) false) (World.putObj b B (.loop {c with state:=.busy})).drew λb c=>∃h,b=(iv h)/\c.cell? (qd y 0)=some (iv g)/\c.cell? (qd u 0)=some (.slice d e f)/\fN d λb=>0<=g/\g<(e:Int)/\kB c (Addr.add b ((g).toNat*1)) (iv h) λb=>∃c:I6,aU b (qd i 0) 0 c.vs/\∃d:I6,aU b (qd a 0) 0 d.vs/\∃a,b.cell? (qd y 0)=some (iv a)/\CC 171 #[.agg c.vs.toArray,.agg d.vs.toArray,iv a,.func (.func 172) #[] #[qp u,qp y]] b λa b=>a=.returned (.tuple #[])/\∃a,b.cell? (qd y 0)=some (iv a)/\kB b (qd y 0) (iv (IntKind.i64.wrap (a+1))) λa=>∃b,a.heap[B]?=some (.loop b)/\K true (World.putObj a B (.loop {b with state:=.ready,pending:=none}))
def tV{n1:Int}{u1:I6}{n2:Int}{a1:OA}{l1:Nat}{c1:Nat}{u2:I6}{r1:Nat}{r2:Nat}{n3:Int}{u3:I6}{n4:Int}{a2:OA}{l2:Nat}{c2:Nat}{n5:Int}{u4:I6}{n6:Int}{u5:I6}{n7:Int}{r3:Nat}{r4:Nat}{x1:Nat->Value}{r5:Nat}{u6:I6}{v1:Value}{a:Nat}{b:I6}{w:ah}{K:Bool->ah->Prop}{r:Loop}(d:w.heap[a]?=some (.loop r))(f:r.tmps=(oh n1 u1 n2 a1 l1 c1 u2 r1 r2 n3 u3 n4 a2 l2 c2 n5 u4 n6 u5 n7 r3 r4 x1 r5 u6 v1).toArray)(e:r.params=Xd (kK Tryz.f110) 2042)(ha:r.assign=Xb (kK Tryz.f110) 2042)(c:r.body=Xc (kK Tryz.f110) 2042)(h:p8 n1 u1 n2 a1 l1 c1 u2 r1 r2 n3 u3 n4 a2 l2 c2 n5 u4 n6 u5 n7 r3 r4 x1 r5 u6 v1 a b w K):vu prog a #[.agg b.vs.toArray] w K:=Lc (Dt []) (args:=[.agg b.vs.toArray]) d f e ha c (by kernel_rfl) (by kernel_rfl) (by kernel_rfl) h
def wj(a:Int)(b:I6)(c:Int)(d:OA)(e f:Nat)(g:I6)(w:ah)(K:KP):=gK w (.cells (iv a::b.on [iv c,.slice d e f]:List Value).toArray 73) λh i=>gK i (.cells g.vs.toArray 50) λi j=>∃k,∃l:I6,∃m n o p,aU j (qd h 0) 0 (iv k::l.on [iv m,.slice n o p])/\CC 167 #[.agg (iv k::l.on [iv m,.slice n o p]:List Value).toArray] j λj q=>∃r,j=.returned (iv r)/\cond (r !=0) (K (.tuple #[qn,iv r]) q) (∃j:I6,aU q (qd i 0) 0 j.vs/\CC 57 #[.agg j.vs.toArray] q λq s=>∃t,q=.returned (iv t)/\cond (t !=0) (K (.tuple #[qn,iv t]) s) (∃q:I6,aU s (qd i 0) 0 q.vs/\CC 168 #[.agg q.vs.toArray] s λs u=>∃v,s=.returned (iv v)/\cond (v==0) (K (.tuple #[qn,iv 3]) u) (∃s:Nat->Nat->qW,(∀x y z,s y z x->∀A:qv,gK x (.cells #[qz] 3) λx B=>kB B (qd x 0) qz λB=>∃C:I6,aU B (qd i 0) 0 C.vs/\CC 170 #[.agg C.vs.toArray] B λB D=>∃E:Value,B=.returned E/\EH prog E λB F=>Ik prog B F (nN a b c d e f g h i k l m n o p r j t q v y z A x C E) D (λa=>∃b c d,a.cell? (qd y 0)=some (.slice b c d)/\a.heap[D.heap.size]?=some (.deferred (some []))/\K (.tuple #[.slice b c d,qz]) (World.putObj a D.heap.size (.deferred none))) (λ_=>False) [])/\∃a,∃b:I6,∃c d e f,aU u.drew (qd h 0) 0 (iv a::b.on [iv c,.slice d e f])/\∃g:I6,aU u.drew (qd i 0) 0 g.vs/\(kg prog (Instr.makeSlice 165 (iv v) (iv v)) u.drew λj k=>∃l m n,j=(.slice l m n)/\aU k (qd i 0) 0 g.vs/\aU k (qd h 0) 0 (iv a::b.on [iv c,.slice d e f])/\(CC 169 #[.agg (iv a::b.on [iv c,.slice d e f]:List Value).toArray,.agg g.vs.toArray] k λj o=>∃p:Option Nat,j=.returned (.map p)/\(gK o (.cells #[qn] 165) λj q=>gK q (.cells #[.map none] 227) λq r=>kB r (qd j 0) (.slice l m n) λr=>kB r (qd q 0) (.map p) λr=>s j q r)/\gK o (.cells #[.map none] 227) λj o=>gK o (.cells #[qn] 165) λo q=>kB q (qd o 0) (.slice l m n) λq=>kB q (qd j 0) (.map p) λp=>s o j p)/\(gK k (.cells #[qn] 165) λj o=>aU o (qd i 0) 0 g.vs/\aU o (qd h 0) 0 (iv a::b.on [iv c,.slice d e f])/\(CC 169 #[.agg (iv a::b.on [iv c,.slice d e f]:List Value).toArray,.agg g.vs.toArray] o λp q=>∃r:Option Nat,p=.returned (.map r)/\gK q (.cells #[.map none] 227) λp q=>kB q (qd j 0) (.slice l m n) λq=>kB q (qd p 0) (.map r) λq=>s j p q)/\gK o (.cells #[.map none] 227) λo p=>aU p (qd i 0) 0 g.vs/\aU p (qd h 0) 0 (iv a::b.on [iv c,.slice d e f])/\CC 169 #[.agg (iv a::b.on [iv c,.slice d e f]:List Value).toArray,.agg g.vs.toArray] p λp q=>∃r:Option Nat,p=.returned (.map r)/\kB q (qd j 0) (.slice l m n) λp=>kB p (qd o 0) (.map r) λp=>s j o p)/\gK k (.cells #[.map none] 227) λj k=>aU k (qd i 0) 0 g.vs/\aU k (qd h 0) 0 (iv a::b.on [iv c,.slice d e f])/\(CC 169 #[.agg (iv a::b.on [iv c,.slice d e f]:List Value).toArray,.agg g.vs.toArray] k λo p=>∃q:Option Nat,o=.returned (.map q)/\gK p (.cells #[qn] 165) λo p=>kB p (qd o 0) (.slice l m n) λp=>kB p (qd j 0) (.map q) λp=>s o j p)/\gK k (.cells #[qn] 165) λk o=>aU o (qd i 0) 0 g.vs/\aU o (qd h 0) 0 (iv a::b.on [iv c,.slice d e f])/\CC 169 #[.agg (iv a::b.on [iv c,.slice d e f]:List Value).toArray,.agg g.vs.toArray] o λo p=>∃q:Option Nat,o=.returned (.map q)/\kB p (qd k 0) (.slice l m n) λl=>kB l (qd j 0) (.map q) λl=>s k j l)/\(CC 169 #[.agg (iv a::b.on [iv c,.slice d e f]:List Value).toArray,.agg g.vs.toArray] u.drew λj k=>∃l:Option Nat,j=.returned (.map l)/\(kg prog (Instr.makeSlice 165 (iv v) (iv v)) k λj m=>∃n o p,j=(.slice n o p)/\(gK m (.cells #[qn] 165) λj q=>gK q (.cells #[.map none] 227) λq r=>kB r (qd j 0) (.slice n o p) λr=>kB r (qd q 0) (.map l) λr=>s j q r)/\gK m (.cells #[.map none] 227) λj m=>gK m (.cells #[qn] 165) λm q=>kB q (qd m 0) (.slice n o p) λn=>kB n (qd j 0) (.map l) λn=>s m j n)/\(gK k (.cells #[qn] 165) λj m=>(kg prog (Instr.makeSlice 165 (iv v) (iv v)) m λn o=>∃p q r,n=(.slice p q r)/\gK o (.cells #[.map none] 227) λn o=>kB o (qd j 0) (.slice p q r) λo=>kB o (qd n 0) (.map l) λo=>s j n o)/\gK m (.cells #[.map none] 227) λm n=>kg prog (Instr.makeSlice 165 (iv v) (iv v)) n λn o=>∃p q r,n=(.slice p q r)/\kB o (qd j 0) (.slice p q r) λn=>kB n (qd m 0) (.map l) λn=>s j m n)/\gK k (.cells #[.map none] 227) λj k=>(kg prog (Instr.makeSlice 165 (iv v) (iv v)) k λm n=>∃o p q,m=(.slice o p q)/\gK n (.cells #[qn] 165) λm n=>kB n (qd m 0) (.slice o p q) λn=>kB n (qd j 0) (.map l) λn=>s m j n)/\gK k (.cells #[qn] 165) λk m=>kg prog (Instr.makeSlice 165 (iv v) (iv v)) m λm n=>∃o p q,m=(.slice o p q)/\kB n (qd k 0) (.slice o p q) λm=>kB m (qd j 0) (.map l) λl=>s k j l)/\(gK u.drew (.cells #[qn] 165) λj k=>aU k (qd i 0) 0 g.vs/\aU k (qd h 0) 0 (iv a::b.on [iv c,.slice d e f])/\(kg prog (Instr.makeSlice 165 (iv v) (iv v)) k λl m=>∃n o p,l=(.slice n o p)/\aU m (qd i 0) 0 g.vs/\aU m (qd h 0) 0 (iv a::b.on [iv c,.slice d e f])/\(CC 169 #[.agg (iv a::b.on [iv c,.slice d e f]:List Value).toArray,.agg g.vs.toArray] m λl q=>∃r:Option Nat,l=.returned (.map r)/\gK q (.cells #[.map none] 227) λl q=>kB q (qd j 0) (.slice n o p) λq=>kB q (qd l 0) (.map r) λq=>s j l q)/\gK m (.cells #[.map none] 227) λl m=>aU m (qd i 0) 0 g.vs/\aU m (qd h 0) 0 (iv a::b.on [iv c,.slice d e f])/\CC 169 #[.agg (iv a::b.on [iv c,.slice d e f]:List Value).toArray,.agg g.vs.toArray] m λm q=>∃r:Option Nat,m=.returned (.map r)/\kB q (qd j 0) (.slice n o p) λm=>kB m (qd l 0) (.map r) λm=>s j l m)/\(CC 169 #[.agg (iv a::b.on [iv c,.slice d e f]:List Value).toArray,.agg g.vs.toArray] k λl m=>∃n:Option Nat,l=.returned (.map n)/\(kg prog (Instr.makeSlice 165 (iv v) (iv v)) m λl o=>∃p q r,l=(.slice p q r)/\gK o (.cells #[.map none] 227) λl o=>kB o (qd j 0) (.slice p q r) λo=>kB o (qd l 0) (.map n) λo=>s j l o)/\gK m (.cells #[.map none] 227) λl m=>kg prog (Instr.makeSlice 165 (iv v) (iv v)) m λm o=>∃p q r,m=(.slice p q r)/\kB o (qd j 0) (.slice p q r) λm=>kB m (qd l 0) (.map n) λm=>s j l m)/\gK k (.cells #[.map none] 227) λk l=>aU l (qd i 0) 0 g.vs/\aU l (qd h 0) 0 (iv a::b.on [iv c,.slice d e f])/\(kg prog (Instr.makeSlice 165 (iv v) (iv v)) l λm n=>∃o p q,m=(.slice o p q)/\aU n (qd i 0) 0 g.vs/\aU n (qd h 0) 0 (iv a::b.on [iv c,.slice d e f])/\CC 169 #[.agg (iv a::b.on [iv c,.slice d e f]:List Value).toArray,.agg g.vs.toArray] n λm n=>∃r:Option Nat,m=.returned (.map r)/\kB n (qd j 0) (.slice o p q) λm=>kB m (qd k 0) (.map r) λm=>s j k m)/\CC 169 #[.agg (iv a::b.on [iv c,.slice d e f]:List Value).toArray,.agg g.vs.toArray] l λl m=>∃n:Option Nat,l=.returned (.map n)/\kg prog (Instr.makeSlice 165 (iv v) (iv v)) m λl m=>∃o p q,l=(.slice o p q)/\kB m (qd j 0) (.slice o p q) λl=>kB l (qd k 0) (.map n) λl=>s j k l)/\gK u.drew (.cells #[.map none] 227) λj k=>aU k (qd i 0) 0 g.vs/\aU k (qd h 0) 0 (iv a::b.on [iv c,.slice d e f])/\(kg prog (Instr.makeSlice 165 (iv v) (iv v)) k λl m=>∃n o p,l=(.slice n o p)/\aU m (qd i 0) 0 g.vs/\aU m (qd h 0) 0 (iv a::b.on [iv c,.slice d e f])/\(CC 169 #[.agg (iv a::b.on [iv c,.slice d e f]:List Value).toArray,.agg g.vs.toArray] m λl q=>∃r:Option Nat,l=.returned (.map r)/\gK q (.cells #[qn] 165) λl q=>kB q (qd l 0) (.slice n o p) λq=>kB q (qd j 0) (.map r) λq=>s l j q)/\gK m (.cells #[qn] 165) λl m=>aU m (qd i 0) 0 g.vs/\aU m (qd h 0) 0 (iv a::b.on [iv c,.slice d e f])/\CC 169 #[.agg (iv a::b.on [iv c,.slice d e f]:List Value).toArray,.agg g.vs.toArray] m λm q=>∃r:Option Nat,m=.returned (.map r)/\kB q (qd l 0) (.slice n o p) λm=>kB m (qd j 0) (.map r) λm=>s l j m)/\(CC 169 #[.agg (iv a::b.on [iv c,.slice d e f]:List Value).toArray,.agg g.vs.toArray] k λl m=>∃n:Option Nat,l=.returned (.map n)/\(kg prog (Instr.makeSlice 165 (iv v) (iv v)) m λl o=>∃p q r,l=(.slice p q r)/\gK o (.cells #[qn] 165) λl o=>kB o (qd l 0) (.slice p q r) λo=>kB o (qd j 0) (.map n) λo=>s l j o)/\gK m (.cells #[qn] 165) λl m=>kg prog (Instr.makeSlice 165 (iv v) (iv v)) m λm o=>∃p q r,m=(.slice p q r)/\kB o (qd l 0) (.slice p q r) λm=>kB m (qd j 0) (.map n) λm=>s l j m)/\gK k (.cells #[qn] 165) λk l=>aU l (qd i 0) 0 g.vs/\aU l (qd h 0) 0 (iv a::b.on [iv c,.slice d e f])/\(kg prog (Instr.makeSlice 165 (iv v) (iv v)) l λm n=>∃o p q,m=(.slice o p q)/\aU n (qd i 0) 0 g.vs/\aU n (qd h 0) 0 (iv a::b.on [iv c,.slice d e f])/\CC 169 #[.agg (iv a::b.on [iv c,.slice d e f]:List Value).toArray,.agg g.vs.toArray] n λh i=>∃m:Option Nat,h=.returned (.map m)/\kB i (qd k 0) (.slice o p q) λh=>kB h (qd j 0) (.map m) λh=>s k j h)/\CC 169 #[.agg (iv a::b.on [iv c,.slice d e f]:List Value).toArray,.agg g.vs.toArray] l λa b=>∃c:Option Nat,a=.returned (.map c)/\kg prog (Instr.makeSlice 165 (iv v) (iv v)) b λa b=>∃d e f,a=(.slice d e f)/\kB b (qd k 0) (.slice d e f) λa=>kB a (qd j 0) (.map c) λa=>s k j a)))
def zG{n1 u1 n2 a1 l1 c1 u2 w K}(h:wj n1 u1 n2 a1 l1 c1 u2 w K):CP 110 #[.agg (iv n1::u1.on [iv n2,.slice a1 l1 c1]:List Value).toArray,.agg u2.vs.toArray] w K:=uK (Dt [(63,[(9,.s (.blk)),(10,.s (.blk))])]) func110 (by kernel_rfl) (by kernel_rfl) h
noncomputable def oL(a1:OA)(l1:Nat)(c1:Nat)(u1:I6)(r1:Nat)(r2:Nat)(a2:OA)(l2:Nat)(c2:Nat)(a3:OA)(l3:Nat)(c3:Nat)(r3:Nat)(a4:OA)(l4:Nat)(c4:Nat)(a5:OA)(l5:Nat)(c5:Nat)(_e1:Value)(r4:Nat)(r5:Nat)(u2:I6)(v1:Value):Tm:=[.slice a1 l1 c1,.agg u1.vs.toArray,qp r1,qp r2,qn,qz,qp r3,qp r4,qp r5,undef,undef,.slice a2 l2 c2,iv (l2:Int),.slice a3 l3 c3,.slice a4 l4 c4,.slice a5 l5 c5,_e1,.agg u2.vs.toArray,v1,undef,undef,undef,undef,undef,undef,undef,undef,undef,undef,undef,undef,undef,undef,undef,undef,undef,undef,undef,undef,undef,undef,undef,undef,undef,undef,undef,undef,undef,undef,undef,undef,undef,undef,undef,undef,undef,undef,undef]
noncomputable def og(a1:OA)(l1:Nat)(c1:Nat)(u1:I6)(r1:Nat)(r2:Nat)(a2:OA)(l2:Nat)(c2:Nat)(a3:OA)(l3:Nat)(c3:Nat)(r3:Nat)(a4:OA)(l4:Nat)(c4:Nat)(a5:OA)(l5:Nat)(c5:Nat)(_e1:Value)(r4:Nat)(r5:Nat)(u2:I6)(v1:Value)(fn:FuncId)(D:Nat):Loop:={state:=.ready,pending:=none,fn:=fn,tmps:=(oL a1 l1 c1 u1 r1 r2 a2 l2 c2 a3 l3 c3 r3 a4 l4 c4 a5 l5 c5 _e1 r4 r5 u2 v1).toArray,params:=Xd (kK Tryz.f111) 506,assign:=Xb (kK Tryz.f111) 506,body:=Xc (kK Tryz.f111) 506,defers:=D}
def qi(a:OA)(b:Nat)(c:Nat)(d:I6)(e:Nat)(f:Nat)(g:OA)(h:Nat)(i:Nat)(j:OA)(k:Nat)(l:Nat)(m:Nat)(n:OA)(o:Nat)(p:Nat)(q:OA)(r:Nat)(s:Nat)(_e1:Value)(t:Nat)(u:Nat)(v:I6)(x:Value)(y:Nat)(z:I6)(w:ah)(K:Bool->qW):Prop:=gK w (.cells z6.vs.toArray 50) λa b=>yY (qd a 0) 0 z.vs b λb=>∃c,b.heap[y]?=some (.loop c)/\c.state=.ready/\∃d:I6,aU (World.putObj b y (.loop {c with state:=.busy})) (qd f 0) 0 d.vs/\∃f:I6,aU (World.putObj b y (.loop {c with state:=.busy})) (qd a 0) 0 f.vs/\∃g h i,(World.putObj b y (.loop {c with state:=.busy})).cell? (qd m 0)=some (.slice g h i)/\CC 173 #[.agg d.vs.toArray,.agg f.vs.toArray,.slice g h i] (World.putObj b y (.loop {c with state:=.busy})) λb c=>∃d,b=.returned (iv d)/\∃b:qW,(∀f,b f->∀g:qv,∃g h i,f.drew.cell? (qd m 0)=some (.slice g h i)/\∃i,f.drew.cell? (qd u 0)=some (iv i)/\∃j k l,f.drew.cell? (qd m 0)=some (.slice j k l)/\∃l,f.drew.cell? (qd u 0)=some (iv l)/\fN j λj=>0<=l/\l<(k:Int)/\∃k,f.drew.cell? (Addr.add j ((l).toNat*1))=some (iv k)/\fN g λg=>0<=i/\i<(h:Int)/\kB f.drew (Addr.add g ((i).toNat*1)) (iv (if d>k then d else k)) λf=>∃g,f.cell? (qd u 0)=some (iv g)/\kB f (qd u 0) (iv (IntKind.i64.wrap (g+1))) λf=>∃g,f.heap[y]?=some (.loop g)/\K true (World.putObj f y (.loop {g with state:=.ready,pending:=none})))/\∃f:Bool->qW,(∀g h,f h g->∀i:qv,cond h (∃h i j,g.drew.cell? (qd t 0)=some (.slice h i j)/\∃k:I6,aU g.drew (qd a 0) 0 k.vs/\∃a l m,g.drew.cell? (qd e 0)=some (.slice a l m)/\∃m,g.drew.cell? (qd u 0)=some (iv m)/\fN a λa=>0<=m/\m<(l:Int)/\∃l,g.drew.cell? (Addr.add a ((m).toNat*1))=some (iv l)/\gK g.drew (.cells (qz::k.on [iv l]:List Value).toArray 70) λa k=>k.cell? (qd t 0)=some (.slice h i j)/\kg prog (Builtin.append_ #[62,62] 62 #[.slice h i j,.slice (some (qd a 0)) 1 1]) k λa h=>∃i j k,a=(.slice i j k)/\kB h (qd t 0) (.slice i j k) λa=>b a) (b g))/\∃a,c.cell? (qd u 0)=some (iv a)/\cond (decide (a>0)) (∃a b g,c.cell? (qd e 0)=some (.slice a b g)/\∃e,c.cell? (qd u 0)=some (iv e)/\fN a λa=>0<=e/\e<(b:Int)/\∃b,c.cell? (Addr.add a ((e).toNat*1))=some (iv b)/\f (decide (b>d)) c) (f false c)
def ux{a1:OA}{l1:Nat}{c1:Nat}{u1:I6}{r1:Nat}{r2:Nat}{a2:OA}{l2:Nat}{c2:Nat}{a3:OA}{l3:Nat}{c3:Nat}{r3:Nat}{a4:OA}{l4:Nat}{c4:Nat}{a5:OA}{l5:Nat}{c5:Nat}{_e1:Value}{r4:Nat}{r5:Nat}{u2:I6}{v1:Value}{a:Nat}{u3:I6}{w:ah}{K:Bool->ah->Prop}{r:Loop}(c:w.heap[a]?=some (.loop r))(e:r.tmps=(oL a1 l1 c1 u1 r1 r2 a2 l2 c2 a3 l3 c3 r3 a4 l4 c4 a5 l5 c5 _e1 r4 r5 u2 v1).toArray)(d:r.params=Xd (kK Tryz.f111) 506)(ha:r.assign=Xb (kK Tryz.f111) 506)(b:r.body=Xc (kK Tryz.f111) 506)(h:qi a1 l1 c1 u1 r1 r2 a2 l2 c2 a3 l3 c3 r3 a4 l4 c4 a5 l5 c5 _e1 r4 r5 u2 v1 a u3 w K):vu prog a #[.agg u3.vs.toArray] w K:=Lc (Dt [(13,[]),(26,[(33,.s .bool)])]) (args:=[.agg u3.vs.toArray]) c e d ha b (by kernel_rfl) (by kernel_rfl) (by kernel_rfl) h
def v7(a:OA)(b c:Nat)(d:I6)(w:ah)(K:KP):=gK w (.cells #[.slice a b c] 165) λe f=>gK f (.cells d.vs.toArray 50) λf g=>∃h i j,g.cell? (qd e 0)=some (.slice h i j)/\kg prog (Instr.makeSlice 165 (iv (i:Int)) (iv (i:Int))) g λg k=>∃l m n,g=(.slice l m n)/\gK k (.cells #[qn] 165) λg k=>kB k (qd g 0) (.slice l m n) λk=>∃o p q,k.cell? (qd g 0)=some (.slice o p q)/\∃r s t,k.cell? (qd e 0)=some (.slice r s t)/\kg prog (Builtin.copy_ #[165,165] 3 #[.slice o p q,.slice r s t]) k λB k=>gK k (.cells #[qn] 62) λk u=>gK u (.cells #[qz] 3) λu v=>kB v (qd u 0) qz λv=>∃x:I6,aU v (qd f 0) 0 x.vs/\CC 170 #[.agg x.vs.toArray] v λv y=>∃z:Value,v=.returned z/\EH prog z λv A=>Ik prog v A (og a b c d e f h i j l m n g o p q r s t B k u x z) y (λa=>∃b c d,a.cell? (qd k 0)=some (.slice b c d)/\cond (decide ((c:Int)>(40:Int))) (a.heap[y.heap.size]?=some (.deferred (some []))/\K (.tuple #[qn,iv 3]) (World.putObj a y.heap.size (.deferred none))) (∃b c d,a.cell? (qd k 0)=some (.slice b c d)/\a.heap[y.heap.size]?=some (.deferred (some []))/\K (.tuple #[.slice b c d,qz]) (World.putObj a y.heap.size (.deferred none)))) (λ_=>False) []
def zi{a1 l1 c1 u1 w K}(h:v7 a1 l1 c1 u1 w K):CP 111 #[.slice a1 l1 c1,.agg u1.vs.toArray] w K:=uK (Dt []) func111 (by kernel_rfl) (by kernel_rfl) h
end Go.Proofs.YtmhhlijfepaphaaGreatDoor
namespace Go.Proofs.YtmhhlijfepaphaaGreatDoor
open Go Go.Vc _root_.Go.Proofs.Tryz
def Rb:List UInt8:=[120,111,114,32,111,114,32,98,111,110,117,115,32,108,105,109,105,116,32]
def Tx:List (List UInt8×Int):=[([120,111,114],2),([111,114],3),([98,111,110,117,115],4),([108,105,109,105,116],5)]
def PU:List (List UInt8×Int)->List UInt8->Int
 |[],_=>0
 |x::l,a=>if x.1=a then x.2 else PU l a
def BZ(nm:List UInt8):Int:=PU Tx nm
def Kj(k:Nat):Nat:=(Rb.take k).count 32
def Ki(g:Nat):Nat:=[0,4,7,13,19].getD g 0
def ZE:∀k,k<19->Utf8.decode (bs Rb) k=((Rb.getD k 0).toNat,1):=by decide
def WM:∀k,k<19->(Rb.getD k 0).toNat≠32->Kj (k+1)=Kj k:=by decide
def WN:∀k,k<19->(Rb.getD k 0).toNat=32->Kj (k+1)=Kj k+1/\Kj k<4/\Tx[Kj k]?=some ((Rb.drop (Ki (Kj k))).take (k-Ki (Kj k)),2+(Kj k:Int))/\Ki (Kj k+1)=k+1/\Ki (Kj k)<=k:=by decide
def Tw{g:Nat}{nm:List UInt8}{x:List UInt8×Int}(b:Tx[g]?=some x)(c:x.1≠nm):PU (Tx.drop (g+1)) nm=PU (Tx.drop g) nm:=by
 have a:=(ai.1 b).1;rw[bO a,PU];have:Tx[g]=x:=dP ((gE a).symm.trans b);rw[this,af c]
def WL{g:Nat}{nm:List UInt8}{x:List UInt8×Int}(b:Tx[g]?=some x)(c:x.1=nm):PU (Tx.drop g) nm=x.2:=by
 have a:=(ai.1 b).1;rw[bO a,PU];have:Tx[g]=x:=dP ((gE a).symm.trans b);rw[this,ag c]
def ZG(w:ah)(nm:List UInt8):CP 331 #[sv nm] w (λr s=>r=iv (BZ nm)/\aZ w s []):=by
 refine(p6 pP.1).2.2.2.1 (KO underlying9 (St.start w).one (bs Rb) λp y q=>⟨λi j n m=>∃k:Nat,k<=19/\m=19-k/\i=2+(Kj k:Int)/\j=Ki (Kj k)/\PU (Tx.drop (Kj k)) nm=BZ nm/\St w n (Sep [iZ p (.stringIter (bs Rb) k),emp]),⟨19,0,by omega,by omega,rfl,rfl,rfl,q⟩,?_⟩);rintro n m i j ⟨k,v,x,rfl,rfl,e,l⟩-;have g:(bs Rb).size=19:=rfl;refine Ma l 0 rfl (λc=>?_) (λc z f=>?_)
 .obtain rfl:k=19:=by omega
  exact⟨by rw[<-e];rfl,l.aK⟩
 rw[g] at c;rw[ZE k c] at f⊢
 by_cases b:(Rb.getD k 0).toNat=32
 .obtain⟨a,t,h,o,u⟩:=WN k c b;refine cF (by rw[b];rfl) ⟨by omega,by show(k:Int)<=19;omega,by omega,by omega,?_⟩;show cond ((((bs Rb).extract ((Ki (Kj k):Int)).toNat ((k:Int)).toNat)).toList==(bs nm).toList) _ _;rw[aq,aq,DA,j9,j9]
  by_cases d:(Rb.drop (Ki (Kj k))).take (k-Ki (Kj k))=nm
  .exact cT (by rw[d];simp) ⟨by rw[<-e,WL h d],f.aK⟩
  refine iI d ⟨19-(k+1),by omega,k+1,by omega,rfl,?_,?_,?_,f⟩
  .rw[gC (by omega),a];omega
  .rw[gC (by omega),a,o];omega
  rw[a,Tw h d,e]
 have a:=WM k c b;refine cT (pK.2 (by omega)) ⟨19-(k+1),by omega,k+1,by omega,rfl,by rw[a],by rw[a],by rw[a];exact e,f⟩
def zo(σ:Sc):Sc:=if (dr σ.1 σ.2).k=0 then σ.fail 1 else if (dr σ.1 σ.2).k≠3\/(dr σ.1 σ.2).t≠[123] then σ.fail 2 else σ
def Re(ps:List Pr)(σ:Sc):Sc:=(j5 ps (zo σ)).2.exp [64]
def dI(ps:List Pr)(σ:Sc):(I6×Int)×Sc:=(((j5 ps (zo σ)).1,nP 1000000 (Re ps σ).1 (Re ps σ).2),(Re ps σ).rz 1000000)
def Kn{w0 w:ah}{p:Nat}{σ:Sc}{B:bP}{a:OA}{c:Nat}{l:List Pr}(h:sY w0 w p σ B)(G:∀{e},aZ w0 e []->kf e a l)(hc:l.length<=c)(F:iu l):
  CP 333 #[.agg #[.slice a l.length c,pt p]] w (λr e=>r=.tuple #[.agg (dI l σ).1.1.vs.toArray,iv (dI l σ).1.2]/\sY w0 e p (dI l σ).2 B):=by
 refine(p6 pP.1).2.2.2.2.1 (bE #[.slice a l.length c,pt p] λy P H=>H.aY z6.vs.toArray λz Q I=>?_);let Fr:I6->bP:=λb=>star (Sep [ay z b.vs.toArray 50,ay y #[.slice a l.length c,pt p] 315,emp]) B;have v:=h.add I;have o:∀{e:ah} {j:Sc} {b:I6},sY w0 e p j (Fr b)->St w0 e (Sep [ay z b.vs.toArray 50,ay y #[.slice a l.length c,pt p] 315,emp]):=λh=>h.frame.first;refine⟨λD=>sY w0 D p (zo σ) (Fr z6),?_,?_⟩
 .rintro D n -;have r:=o n;refine⟨_,_,_,r.aj 1 rfl 0,_,r.aj 1 rfl 1,bF (aae n G hc F) λR E=>⟨_,rfl,bE z6.vs.toArray λO S J=>J.aR 0 rfl (j5 l (zo σ)).1.vs rfl (I6.one _) λT K=>?_⟩⟩;have x:=E.add K;have g:∀{e:ah} {j:Sc} {m:List bP},sY w0 e p j (star (Sep m) (Fr z6))->St w0 e (Sep [ay z z6.vs.toArray 50,ay y #[.slice a l.length c,pt p] 315,emp]):=λh=>o h.drop;refine⟨_,(g x).aj 1 rfl 1,bF (pg x [64]) λu i=>?_⟩;have i:sY w0 u p (Re l σ) _:=i;have q:=i.quiet (aZ.drew u []);have L:St w0 u.drew (Sep [_,_]):=q.frame.first;refine⟨rfl,_,L.cellsIn 0 rfl,_,(g q).aj 1 rfl 1,bF (BL q 1000000) λU C=>?_⟩;have M:=C.frame.first;obtain⟨N,s,d⟩:=C.drop.out;exact⟨_,rfl,M.cellsIn 0 rfl,s.aR 0 rfl _ rfl (I6.one _) λA f=>⟨_,f.cellsIn 0 rfl,rfl,(d (m':=[_,_,_]) f).drop⟩⟩
 have r:=o v;refine⟨_,r.aj 1 rfl 1,bF (yp v) λE s=>⟨_,_,_,_,rfl,bE qC.cells.toArray λK A f=>f.aR 0 rfl (dr σ.1 σ.2).cells rfl (Tk.one _) λC i=>⟨_,i.aj 0 rfl 0,?_⟩⟩⟩;have d:=(v.quiet s).quiet i.aK
 by_cases m:(dr σ.1 σ.2).k=0
 .exact gM m ⟨_,(o d).aj 1 rfl 1,bF (sR d 1) λq g=>⟨rfl,by rw[zo,ag m];exact g⟩⟩
 refine iI m ⟨λx q=>x=decide ((dr σ.1 σ.2).k≠3\/(dr σ.1 σ.2).t≠[123])/\q=C,?_,_,i.aj 0 rfl 0,?_⟩
 .rintro q x ⟨rfl,rfl⟩-;exact cBq (λg=>⟨_,(o d).aj 1 rfl 1,bF (sR d 2) λJ u=>⟨rfl,by rw[zo,af m,ag g];exact u⟩⟩) λg=>by rw[zo,af m,af g];exact d
 refine cBq (λn=>⟨by rw[dT (Or.inl n)],rfl⟩) λn=>⟨_,i.aj 0 rfl 1,?_,rfl⟩;rw[j9,j9]
 by_cases g:(dr σ.1 σ.2).t=[123]
 .rw[dF (by rintro(h|h);exact h n;exact h g),g];rfl
 rw[dT (Or.inr g)];simpa using g
inductive Xv where
 |mk (op:Int) (u:I6) (v:Int) (a:OA) (c:Nat) (args:List Xv)
def Xv.op:Xv->Int|.mk op _ _ _ _ _=>op
def Xv.u:Xv->I6|.mk _ u _ _ _ _=>u
def Xv.v:Xv->Int|.mk _ _ v _ _ _=>v
def Xv.a:Xv->Option Addr|.mk _ _ _ a _ _=>a
def Xv.c:Xv->Nat|.mk _ _ _ _ c _=>c
def Xv.args:Xv->List Xv|.mk _ _ _ _ _ l=>l
def Xv.cells(x:Xv):List Value:=iv x.op::x.u.on [iv x.v,.slice x.a x.args.length x.c]
theorem Xv.len(x:Xv):x.cells.length=9:=rfl
theorem Xv.one(x:Xv):∀v∈x.cells,v.oneCell'=true:=by
 intro v a;simp[Xv.cells,I6.on] at a;rcases a with rfl|rfl|rfl|rfl|rfl|rfl|rfl|rfl|rfl<;>rfl
mutual
def Xv.er:Xv->Xv
 |.mk op u v _ _ args=>.mk op u v none 0 (Xv.erL args)
def Xv.erL:List Xv->List Xv
 |[]=>[]
 |x::l=>Xv.er x::Xv.erL l
end
theorem Xv.LN:∀l:List Xv,Xv.erL l=l.map Xv.er
 |[]=>rfl
 |x::l=>by rw[Xv.erL,Xv.LN l];rfl
theorem Xv.pN(x:Xv):x.er=.mk x.op x.u x.v none 0 (x.args.map Xv.er):=by cases x;rw[Xv.er,Xv.LN];rfl
inductive Xv.In (w:ah):Xv->Prop where
 |mk {x:Xv} (h:iA 9 Xv.cells w x.a x.args) (k:∀y∈x.args,Xv.In w y):Xv.In w x
theorem Xv.In.fl{w:ah}{x:Xv}(h:x.In w):iA 9 Xv.cells w x.a x.args:=by cases h;assumption
theorem Xv.In.sub{w:ah}{x:Xv}(h:x.In w):∀y∈x.args,y.In w:=by cases h;assumption
theorem Xv.In.aK{w a:ah}{x:Xv}(h:x.In w)(hc:aZ w a []):x.In a:=by
 induction h with
 |mk h k b=>exact .mk (h.aK hc) b
def gj:Xv:=.mk 0 z6 0 none 0 []
theorem E9:gj.er=gj:=by rw[Xv.pN];rfl
theorem QB:ru prog 42 73 (.agg gj.cells.toArray) 9 88:=ru.mk' underlying42 (by kernel_rfl) rfl (by decide)
abbrev Cd (a:OA) (c:Nat) (l:List Xv):bP:=iQ 73 9 Xv.cells a c l
abbrev y9 (l:List Xv) (w:ah):Prop:=∀x∈l,x.In w
def j3(g:Sc->Xv×Sc)(σ:Sc):Xv×Sc:=if σ.2≠0 then (gj,σ) else g σ
def ng(g:Sc->Xv×Sc):Nat->List Xv->Sc->List Xv×Sc
 |0,a,σ=>(a,σ)
 |n+1,a,σ=>if kA [44] σ.1 σ.2 then ng g n (a++[(j3 g (σ.acc [44])).1]) (j3 g (σ.acc [44])).2 else (a,σ)
def jS(t:Tk):Int:=if t.k=1 then BZ t.t else 1
def zg(σ:Sc):Sc:=if jS (dr σ.1 σ.2)=0 then σ.fail 2 else σ
def Jx(ps:List Pr)(g:Sc->Xv×Sc)(op:Int)(a1:Xv)(σ:Sc):Xv×Sc:=
 if op=2\/op=3 then (.mk op z6 0 none 0 (ng g σ.1.length [a1] σ).1,(ng g σ.1.length [a1] σ).2.exp [41])
 else if op=4 then (.mk op (dI ps (σ.exp [44])).1.1 (dI ps (σ.exp [44])).1.2 none 0 [a1],(dI ps (σ.exp [44])).2.exp [41])
 else if op=5 then (.mk op z6 (nP 1000000 (σ.exp [44]).1 (σ.exp [44]).2) none 0 [a1],((σ.exp [44]).rz 1000000).exp [41])
 else (.mk op z6 0 none 0 [a1],σ.exp [41])
def wC(σ:Sc):Sc:=(zg σ).next.exp [40]
def kE(ps:List Pr):Nat->Sc->Xv×Sc
 |0,σ=>(gj,σ)
 |f+1,σ=>
  if jS (dr σ.1 σ.2)=1 then (.mk 1 (dI ps (zg σ)).1.1 (dI ps (zg σ)).1.2 none 0 [],(dI ps (zg σ)).2)
  else Jx ps (kE ps f) (jS (dr σ.1 σ.2)) (j3 (kE ps f) (wC σ)).1 (j3 (kE ps f) (wC σ)).2
theorem wS(m:List UInt8)(σ:Sc):(σ.exp m).1.length<=σ.1.length:=mQ _ _ _
theorem KS(ps:List Pr):∀(f:Nat) (b:I6) (σ:Sc),(sw ps f b σ).2.1.length<=σ.1.length
 |0,_,_=>aD _
 |f+1,b,σ=>by
  rw[sw]
  split
  .exact bp (KS ps f _ _) (bp (CS _ _ _) (mQ _ _ _))
  exact aD _
theorem Xm(ps:List Pr)(σ:Sc):(j5 ps σ).2.1.length<=σ.1.length:=by
 unfold j5
 split
 .exact aD _
 split
 .exact bp (mQ _ _ _) (mQ _ _ _)
 have a:(Ce ps (σ.exp [123])).2.1.length<=(sw ps (jA ps z6 (σ.exp [123])).2.1.length (jA ps z6 (σ.exp [123])).1 (jA ps z6 (σ.exp [123])).2).2.1.length:=by
  unfold Ce uk
  split
  .exact mQ _ _ _
  exact mQ _ _ _
 exact bp a (bp (KS ps _ _ _) (bp (CS _ _ _) (mQ _ _ _)))
theorem ZR(σ:Sc):(zo σ).1.length<=σ.1.length:=by unfold zo;split;exact aD _;split;exact aD _;exact aD _
theorem vg(ps:List Pr)(σ:Sc):(dI ps σ).2.1.length<=σ.1.length:=
 bp (A5 _ _ _) (bp (mQ _ _ _) (bp (Xm _ _) (ZR _)))
theorem LO(σ:Sc):(zg σ).1.length<=σ.1.length:=by unfold zg;split;exact aD _;exact aD _
theorem Hl(σ:Sc):(wC σ).1.length<=σ.1.length:=bp (mQ _ _ _) (bp (CY _ _) (LO σ))
section
variable {g:Sc->Xv×Sc} (hg:∀σ,(g σ).2.1.length<=σ.1.length)
include hg
theorem CN(σ:Sc):(j3 g σ).2.1.length<=σ.1.length:=by unfold j3;split;exact aD _;exact hg _
theorem I2:∀(n:Nat) (a:List Xv) (σ:Sc),(ng g n a σ).2.1.length<=σ.1.length
 |0,_,_=>aD _
 |n+1,a,σ=>by
  rw[ng]
  split
  .exact bp (I2 n _ _) (bp (CN hg _) (mQ _ _ _))
  exact aD _
theorem Y4(ps:List Pr)(op:Int)(a1:Xv)(σ:Sc):(Jx ps g op a1 σ).2.1.length<=σ.1.length:=by
 unfold Jx
 split
 .exact bp (mQ _ _ _) (I2 hg _ _ _)
 split
 .exact bp (mQ _ _ _) (bp (vg _ _) (mQ _ _ _))
 split
 .exact bp (mQ _ _ _) (bp (A5 _ _ _) (mQ _ _ _))
 exact mQ _ _ _
end
theorem Ho(ps:List Pr):∀(f:Nat) (σ:Sc),(kE ps f σ).2.1.length<=σ.1.length
 |0,_=>aD _
 |f+1,σ=>by
  rw[kE]
  split
  .exact bp (vg _ _) (LO σ)
  exact bp (Y4 (Ho ps f) _ _ _ _) (bp (CN (Ho ps f) _) (Hl σ))
theorem Y7{m:List UInt8}{σ:Sc}(h:(σ.exp m).2=0):σ.2=0:=by
 unfold Sc.exp Ac at h;simp only at h
 split at h
 .exact h
 unfold mB iG at h
 split at h
 .assumption
 exact h
theorem LP{σ:Sc}(b:jS (dr σ.1 σ.2)≠1)(h:(wC σ).2=0):(wC σ).1.length<σ.1.length:=by
 have a:(zg σ).2=0:=Y7 (σ:=(zg σ).next) h;have g:jS (dr σ.1 σ.2)≠0:=λf=>by
  unfold zg at a;rw[ag f] at a;unfold Sc.fail iG at a;simp only at a
  split at a
  .cases a
  rename_i c;exact c a
 have e:zg σ=σ:=by rw[zg,af g]
 have c:(dr σ.1 σ.2).k=1:=by
  unfold jS at b
  split at b
  .assumption
  exact absurd rfl b
 rw[e] at a;have d:(jH σ.1 σ.2).length<σ.1.length:=by
  rw[jH,ag a];rw[dr,ag a] at c
  cases hl:σ.1 with
  |nil=>rw[hl] at c;cases c
  |cons x l=>simp
 rw[wC,e];exact oe (mQ _ _ _) d
end Go.Proofs.YtmhhlijfepaphaaGreatDoor
namespace Go.Vc
open Go
def Oy(a:Array MapEntry)(ks:List Int):Prop:=a.toList.map (·.key)=ks.map iv/\∀e∈a.toList,e.val=.bool true
def Fu(r:Nat)(ks:List Int):bP:=V4 λ(x:{p:Array MapEntry×Nat // Oy p.1 ks})=>iZ r (.map x.1.1 x.1.2)
theorem wU(k:Int):∀(b:List MapEntry) (ks:List Int) (i:Nat),b.map (·.key)=ks.map iv->(∀e∈b,e.val=.bool true) ->
  (k∈ks/\∃j,Instr.findNow (.int .i64) (iv k) b i=some (some (j,.bool true)))\/(k∉ks/\Instr.findNow (.int .i64) (iv k) b i=some none)
 |[],[],_,_,_=>.inr ⟨by simp,rfl⟩
 |e::b,x::ks,i,h,l=>by
  simp only[cD,jc] at h;have f:Instr.sameNow (.int .i64) (iv k) e.key=some (k==x):=by rw[h.1];simp[Instr.sameNow]
  by_cases a:k=x
  .subst a;refine .inl ⟨by simp,i,?_⟩;have:=l e (by simp);simp[Instr.findNow,f,this]
  have g:(k==x)=false:=by simpa using a
  rcases wU k b ks (i+1) h.2 (λe m=>l e (by simp[m])) with⟨c,j,d⟩|⟨c,d⟩
  .exact .inl ⟨by simp[c],j,by simp[Instr.findNow,f,g,d]⟩
  exact .inr ⟨by simp[c,a],by simp[Instr.findNow,f,g,d]⟩
 |[],_::_,_,h,_=>by simp at h
 |_::_,[],_,h,_=>by simp at h
structure MpT (P:Program) (t k e:TypeId) (z:Value):Prop where
 u:P.underlying t=some (.map k e)
 z:(P.info? e).bind (·.zero)=some z
section
variable {P:Program} {t kt et:TypeId} {w0 w:World} {B:bP} {r:Nat} {ks:List Int}
def pX(a:P.underlying kt=some (.int .i64))(b:Bool)(n:Nat)(k:Int)(w:World):(Instr.checkKey b (n+1) kt (iv k)).run P w=.ok () w:=by
 simp[Instr.checkKey,cW a]
def D5(c:MpT P t kt et (.bool false))(d:P.underlying kt=some (.int .i64))(s:St w0 w (star (Fu r ks) B))(k:Int){R:Bool->World->Prop}(h:R (decide (k∈ks)) w):
  kg P (Instr.lookup t (.map (some r)) (iv k) false) w λe a=>∃b:Bool,e=.bool b/\R b a:=by
 obtain⟨⟨⟨a,cl⟩,l,m⟩,o⟩:=s.ex;have g:w.heap[r]?=some (.map a cl):=o.obj;have n:(zeroValue et).run P w=.ok (.bool false) w:=by
  have:=c.z
  cases hi:P.info? et with
  |none=>simp[hi] at this
  |some i=>simp[hi] at this;simp[zeroValue,typeInfo,hi,this]
 have f:=pX (P:=P) d a.isEmpty 9999 k w;rcases wU k a.toList ks 0 l m with⟨e,j,b⟩|⟨e,b⟩
 .refine⟨.bool true,w,?_,true,rfl,by rwa [o5 e] at h⟩;simp[Instr.lookup,cW c.u,Instr.findKey,cW d,b,g,f,getObj,Sem.run]
 refine⟨.bool false,w,?_,false,rfl,by rwa [ow e] at h⟩;simp[Instr.lookup,cW c.u,Instr.findKey,cW d,b,g,f,n,getObj,Sem.run]
def Gm(n:MpT P t kt et (.bool false))(j:P.underlying kt=some (.int .i64))(s:St w0 w (star (Fu r ks) B))(k:Int)(v:k∉ks){R:World->Prop}(h:∀c,aZ w c [r]->St w0 c (star (Fu r (ks++[k])) B)->R c):kg P (Instr.mapUpdate t (.map (some r)) (iv k) (.bool true)) w λ_ c=>R c:=by
 obtain⟨⟨⟨a,cl⟩,g,i⟩,m⟩:=s.ex;have y:w.heap[r]?=some (.map a cl):=m.obj;have o:=pX (P:=P) j false 9999 k w;rcases wU k a.toList ks 0 g i with⟨l,_⟩|⟨l,q⟩
 .exact absurd l v
 have A:=m.put (.map (a.push {key:=iv k,val:=.bool true,born:=cl}) (cl+1));have z:(Instr.mapUpdate t (.map (some r)) (iv k) (.bool true)).run P w=.ok () {w with heap:=w.heap.setIfInBounds r (.map (a.push {key:=iv k,val:=.bool true,born:=cl}) (cl+1))}:=by
  simp[Instr.mapUpdate,cW n.u,Instr.findKey,cW j,q,y,o,setObj,getObj,Sem.run]
 refine⟨_,_,z,h _ (aZ.put w r _ (by simp)) (St.xe (f:=λ(x:{p:Array MapEntry×Nat // Oy p.1 (ks++[k])})=>iZ r (.map x.1.1 x.1.2)) ⟨(_,_),?_,?_⟩ A)⟩
 .simp[g]
 intro e b;have d:e∈a.toList++[{key:=iv k,val:=.bool true,born:=cl}]:=by simpa using b
 rcases aB.1 d with b|b
 .exact i e b
 rw[aI.1 b]
def Jm{ty:TypeId}(d:MpT P t kt et (.bool false))(s:St w0 w (star (Fu r ks) B)){R:World->Prop}(h:∀a,aZ w a [r]->St w0 a (star (Fu r []) B)->R a):
  kg P (Builtin.clear_ #[t] ty #[.map (some r)]) w λ_ a=>R a:=by
 obtain⟨⟨⟨c,cl⟩,j,k⟩,b⟩:=s.ex;have e:w.heap[r]?=some (.map c cl):=b.obj;have i:=b.put (.map #[] cl);have g:(Builtin.clear_ #[t] ty #[.map (some r)]).run P w=.ok (.tuple #[]) {w with heap:=w.heap.setIfInBounds r (.map #[] cl)}:=by
  simp[Builtin.clear_,cW d.u,e,setObj,getObj,Sem.run]
 exact⟨_,_,g,h _ (aZ.put w r _ (by simp)) (St.xe (f:=λ(x:{p:Array MapEntry×Nat // Oy p.1 []})=>iZ r (.map x.1.1 x.1.2)) ⟨(_,_),by simp,by simp⟩ i)⟩
def uY{b:TypeId}(s:St w0 w B){R:Option Nat->World->Prop}(h:∀r a,aZ w a []->St w0 a (star (iZ r (.map #[] 0)) B)->R (some r) a):kg P (Instr.makeMap b none) w λe a=>∃m:Option Nat,e=.map m/\R m a:=by
 refine⟨_,_,?_,_,rfl,h _ _ (aZ.new w (.map #[] 0) []) (s.newObj (.map #[] 0)).swap⟩;simp[Instr.makeMap,newObj,Sem.run]
def St.acs(s:St w0 w (star (iZ r (.map #[] 0)) B)):St w0 w (star (Fu r []) B):=
 St.xe (f:=λ(x:{p:Array MapEntry×Nat // Oy p.1 []})=>iZ r (.map x.1.1 x.1.2)) ⟨(#[],0),by simp,by simp⟩ s
end
end Go.Vc
namespace Go.Vc
structure Lo where
 v:Nat->Int
 f:Nat->Int
 lr:Nat->Nat
 ch:Int
def vT{a:Type}(f:Nat->a)(i:Nat)(x:a):Nat->a:=λj=>if j=i then x else f j
theorem jO{a:Type}(f:Nat->a)(i:Nat)(x:a):vT f i x i=x:=ag rfl
theorem oE{a:Type}(f:Nat->a){i j:Nat}(x:a)(h:j≠i):vT f i x j=f j:=af h
def CX{b:Type}(f:Nat->b)(n i:Nat)(x:b):((List.range n).map f).set i x=(List.range n).map (vT f i x):=by
 refine aX λj=>?_;rw[bW,bu,oG,aL,aL]
 by_cases h:i=j
 .subst h;rw[ag rfl]
  by_cases a:i<n
  .rw[ag a,jx a,cU,jO]
  grind
 rw[af h]
 cases hj:(List.range n)[j]? with
 |none=>rfl
 |some k=>
  simp_all[ai,oE,Ne.symm]
def lo0:Lo:=⟨λ_=>0,λ_=>-1,λ_=>0,-1⟩
def Ft(g:Nat->Nat->Int)(r a b:Nat)(t:Lo):Lo:=if t.v a+g a b<t.v b then {v:=vT t.v b (t.v a+g a b),f:=vT t.f b a,lr:=vT t.lr b r,ch:=b} else t
def HF(g:Nat->Nat->Int)(r a:Nat):Nat->Lo->Lo
 |0,t=>t
 |b+1,t=>Ft g r a b (HF g r a b t)
def JV(g:Nat->Nat->Int)(n r:Nat):Nat->Lo->Lo
 |0,t=>t
 |a+1,t=>HF g r a n (JV g n r a t)
def Ra(g:Nat->Nat->Int)(n r:Nat)(s:Lo):Lo:=JV g n r n {s with ch:=-1}
def SZ(g:Nat->Nat->Int)(n:Nat):Nat->Nat->Lo->Lo
 |0,_,s=>s
 |k+1,r,s=>if (Ra g n (r+1) s).ch<0 then Ra g n (r+1) s else SZ g n k (r+1) (Ra g n (r+1) s)
def ua(g:Nat->Nat->Int)(n:Nat):Lo:=SZ g n n 0 lo0
structure M8 (g:Nat->Nat->Int) (n:Nat) (G T:Int) (r a b:Nat) (s:Lo):Prop where
 lo:∀x,x<n->-(G*(T+1))<=s.v x/\s.v x<=0
 la:a<n->-(G*T)<=s.v a
 lr:∀x,x<n->s.lr x<=r
 f:∀y,y<n->(s.f y=-1/\s.lr y=0)\/∃p,p<n/\s.f y=(p:Int)/\1<=s.lr y/\s.lr y<=s.lr p+1
 ch:s.ch<0\/∃c,c<n/\s.ch=(c:Int)/\s.lr c=r
 dn:∀x,x<n->x<a->s.lr x<r->∀y,y<n->s.v y<=s.v x+g x y
 nx:∀x,x<n->a<=x->s.lr x+1<r->∀y,y<n->s.v y<=s.v x+g x y
 cu:a<n->∀y,y<b->s.v y<=s.v a+g a y
structure OX (g:Nat->Nat->Int) (n:Nat) (G T:Int) (r a:Nat) (s:Lo):Prop where
 i:M8 g n G T r a 0 s
 b:∀x,x<n->-(G*T)<=s.v x
section
variable {g:Nat->Nat->Int} {n:Nat} {G T:Int} {r a b:Nat} {s:Lo}
def M8.Ya(h:M8 g n G T r n 0 s)(c:∀x,x<n->-(G*T)<=s.v x):M8 g n G T (r+1) 0 0 {s with ch:=-1}:=
 ⟨h.lo,λe=>c 0 e,λx a=>de (h.lr x a),h.f,(by grind),λx _ a=>absurd a (gT x),λx a _ d y b=>h.dn x a a (Nat.lt_of_succ_lt_succ d) y b,λ_ y b=>(by omega)⟩
def M8.Ft(h:M8 g n G T r a b s)(C:∀a,g a a=0)(D:∀a b,a<n->b<n->-G<=g a b/\g a b<=G)(F:1<=r)(ha:a<n)(t:b<n):M8 g n G T r a (b+1) (Ft g r a b s):=by
 unfold Vc.Ft
 split
 .rename_i q;have o:a≠b:=λe=>by grind
  have A:r<=s.lr a+1:=by
   rcases aQ (s.lr a+1) r with m|m
   .have:=h.nx a ha (aD a) m b t;omega
   omega
  have B:∀x,vT s.v b (s.v a+g a b) x<=s.v x:=λx=>by
   by_cases e:x=b
   .grind[jO]
   simp_all[oE]
  have w:vT s.v b (s.v a+g a b) a=s.v a:=oE _ _ o;refine⟨λx d=>?_,λ_=>?_,λx d=>?_,λy l=>?_,.inr ⟨b,t,rfl,jO _ _ _⟩,λx d k c y l=>?_,λx d k c y l=>?_,λ_ y l=>?_⟩
  .show -(G*(T+1))<=vT s.v b _ x/\vT s.v b _ x<=0;have p:=h.lo x d;have m:=B x;refine⟨?_,by omega⟩
   by_cases e:x=b
   .subst e;rw[jO];have z:=h.la ha;grind
   grind[oE]
  .show -(G*T)<=vT s.v b _ a;rw[w];exact h.la ha
  .show vT s.lr b r x<=r
   by_cases e:x=b
   .simp_all[jO]
   rw[oE _ _ e];exact h.lr x d
  .show(vT s.f b (a:Int) y=-1/\vT s.lr b r y=0)\/∃p,p<n/\vT s.f b (a:Int) y=(p:Int)/\1<=vT s.lr b r y/\vT s.lr b r y<=vT s.lr b r p+1;have up:∀p,p<n->s.lr p<=vT s.lr b r p:=λp u=>by
    by_cases e:p=b
    .subst e;rw[jO];exact h.lr p u
    simp_all[oE]
   by_cases e:y=b
   .subst e;rw[jO,jO];grind
   rw[oE _ _ e,oE _ _ e];rcases h.f y l with m|⟨p,u,m,z,E⟩
   .omega
   grind
  .show vT s.v b _ y<=vT s.v b _ x+g x y;have c:vT s.lr b r x<r:=c;have e:x≠b:=λe=>by grind[jO]
   rw[oE _ _ e] at c;rw[oE (i:=b) (j:=x) _ _ e];have:=h.dn x d k c y l;grind
  .show vT s.v b _ y<=vT s.v b _ x+g x y;have c:vT s.lr b r x+1<r:=c;have e:x≠b:=λe=>by grind[jO]
   rw[oE _ _ e] at c;rw[oE (i:=b) (j:=x) _ _ e];have:=h.nx x d k c y l;grind
  show vT s.v b _ y<=vT s.v b _ a+g a y;rw[w]
  by_cases e:y=b
  .simp_all[jO]
  have:=h.cu ha y (by omega);grind
 rename_i q;exact⟨h.lo,h.la,h.lr,h.f,h.ch,h.dn,h.nx,λ_ y l=>by
  by_cases e:y=b
  .grind
  exact h.cu ha y (by omega)⟩
theorem M8.HF(h:M8 g n G T r a 0 s)(c:∀a,g a a=0)(d:∀a b,a<n->b<n->-G<=g a b/\g a b<=G)(f:1<=r)(ha:a<n):∀b,b<=n->M8 g n G T r a b (HF g r a b s)
 |0,_=>h
 |b+1,e=>(M8.HF h c d f ha b (oH e)).Ft c d f ha e
def M8.abR(h:M8 g n G T r a n s)(j:0<=G)(ha:a<n):OX g n G (T+1) r (a+1) s:=by
 have e:G*(T+1+1)=G*(T+1)+G:=by grind
 refine⟨⟨λx b=>?_,λb=>(h.lo (a+1) b).1,h.lr,h.f,h.ch,λx b i d y c=>?_,λx b i d y c=>h.nx x b (by omega) d y c,λ_ y c=>(by omega)⟩,λx b=>(h.lo x b).1⟩
 .have:=h.lo x b;omega
 by_cases e:x=a
 .subst e;exact h.cu b y c
 exact h.dn x b (by omega) d y c
theorem OX.JV(h:OX g n G T r 0 s)(f:0<=G)(d:∀a,g a a=0)(e:∀a b,a<n->b<n->-G<=g a b/\g a b<=G)(j:1<=r):∀a,a<=n->OX g n G (T+(a:Int)) r a (JV g n r a s)
 |0,_=>by rw[show T+((0:Nat):Int)=T by omega];exact h
 |a+1,c=>by
  have k:=OX.JV h f d e j a (oH c);have:=(k.i.HF d e j c n (aD n)).abR f c;rw[show T+((a+1:Nat):Int)=T+(a:Int)+1 by omega];exact this
def X7(a:0<=G):OX g n G 0 0 n lo0:=by
 refine⟨⟨λx _=>?_,λh=>(by omega),λ_ _=>aD 0,λ_ _=>.inl ⟨rfl,rfl⟩,.inl (show(-1:Int)<0 by decide),λ_ _ _ h=>absurd h (Nat.lt_irrefl 0),λ_ _ _ h=>absurd h (gT _),λh=>absurd h (Nat.lt_irrefl n)⟩,λx _=>?_⟩
 .show -(G*(0+1))<=0/\(0:Int)<=0;omega
 show -(G*0)<=0;omega
theorem X8(e:0<=G)(c:∀a,g a a=0)(d:∀a b,a<n->b<n->-G<=g a b/\g a b<=G):∀(k r:Nat) (T:Int) (s:Lo),r+k=n->OX g n G T r n s->∃j l,OX g n G l j n (SZ g n k r s)/\(0<=(SZ g n k r s).ch->j=n)
 |0,r,T,s,f,h=>⟨r,T,h,λ_=>f⟩
 |k+1,r,T,s,f,h=>by
  have m:OX g n G T (r+1) 0 {s with ch:=-1}:=⟨h.i.Ya h.b,h.b⟩;have o:OX g n G (T+(n:Int)) (r+1) n (Ra g n (r+1) s):=m.JV e c d (by omega) n (aD n);unfold SZ
  split
  .grind
  exact X8 e c d k (r+1) _ _ (by omega) o
def PE(c:0<=G)(d:∀a,g a a=0)(e:∀a b,a<n->b<n->-G<=g a b/\g a b<=G):∃r T,OX g n G T r n (ua g n)/\(0<=(ua g n).ch->r=n):=
 X8 c d e n 0 0 lo0 (by omega) (X7 c)
end
end Go.Vc
namespace Go.Proofs.YtmhhlijfepaphaaGreatDoor
open Go Go.Vc _root_.Go.Proofs.Tryz
structure Ll (w:ah) (s:Se):Prop where
 i:s.In w
 o:s.Ok
def Ll.aK{w a:ah}{s:Se}(h:Ll w s)(hc:aZ w a []):Ll a s:=⟨h.i.aK hc,h.o⟩
def Ro{w:ah}{s:Se}(h:Ll w s){n:Nat}{b:Br}(j:s.bd[n]?=some b){c:Ch}(hc:c.Ok):
  CP 183 #[.agg s.arr,iv n,c.v] w (λr a=>r=iv (yB b c)/\aZ w a []):=by
 refine nK.1.2.2.2.2.2.1 ?_;have t:=(ai.1 j).1;refine bE s.arr λu y o=>o.aY c.cells.toArray λx z k=>(Ex8<|Ex4<|⟨k.cellsIn 1 rfl,k.qu (SI (s:=s) n) λr a=>?_⟩);obtain⟨q,m,e⟩:=FL ((h.aK a.aK).i.bd) j 2 _ rfl;refine⟨_,rfl,cF (by simp;omega) ⟨_,_,_,a.aj 1 rfl 1,?_⟩⟩;rw[m];refine⟨by omega,by omega,_,e,λg l=>g=decide (b.bud≠0/\b.bud<cost c.p c.want)/\aZ w l [],?_,?_⟩
 .rintro l g ⟨rfl,f⟩-;exact cBq (λd=>⟨by rw[yB,ag d],f⟩) λd=>⟨by rw[yB,af d],f⟩
 by_cases d:b.bud=0
 .exact cF (by simp[d]) ⟨by simp[d],a.aK⟩
 exact gM d ⟨_,yE a 0 rfl,_,iL a 0 rfl,bF (rB r hc.p hc.w) λA f=>⟨_,rfl,by simp[d],(a.quiet f).aK⟩⟩
def yQ(l:List Ch):Bool:=(l.getLast?.map λc=>decide (c.want=z6)).getD false
def Sr{w:ah}{a:OA}{c:Nat}{l:List Ch}(h:zO w a l)(o:l.length<=1000):CP 263 #[.slice a l.length c] w (λr n=>r=.bool (yQ l)/\n=w):=by
 refine(p6 (p6 nK.1)).2.1 ?_
 by_cases i:l.length=0
 .have:l=[]:=fh i;subst this;exact cF rfl ⟨rfl,rfl⟩
 have g:l[l.length-1]?=some (l[l.length-1]'(by omega)):=gE (by omega);have b:l.getLast? = some (l[l.length-1]'(by omega)):=by rw[eH,g]
 generalize l[l.length-1]'(by omega)=x at g b;obtain⟨q,m,f⟩:=h.at g;rw[m];have e:IntKind.i64.wrap ((l.length:Int)-1)=((l.length-1:Nat):Int):=by rw[gC (by omega)];omega
 rw[e];refine di (by omega) ⟨by omega,by omega,x.want,?_,?_,rfl⟩
 .refine fm _ 0 λj v d=>?_;have k:=(ai.1 d).1;have:=bX f (6+j) v (by
   match j,k,d with
   |0,_,d|1,_,d|2,_,d|3,_,d|4,_,d|5,_,d=>simpa[Ch.cells,I6.on,I6.vs] using d)
  rw[az] at this;rw[Addr.add_add,az,aq];exact this
 rw[yQ,b];simp[I6.beq_eq]
def Q7(s:Se)(n:Int)(a:OA)(c:Nat)(l:List Ch):List Value:=[.slice s.a1 s.ps.length s.c1,.slice s.a2 s.bd.length s.c2,.slice s.a3 s.cp.length s.c3,.slice s.a4 s.sa.length s.c4,iv n,.slice a l.length c]
def SM{w0 w:ah}{s:Se}{n:Int}{a:OA}{c:Nat}{l:List Ch}{ls:List bP}{r:Nat}{T:TypeId}(h:St w0 w (Sep ls))(i:Nat)(e:ls[i]?=some (ay r (Q7 s n a c l).toArray T)):aU w ⟨r,0,none⟩ 0 s.arr.toList:=
 fm _ 0 λj v b=>by
  have d:=(ai.1 b).1;rw[gW,az,az,h.aj i e]
  match j,d,b with
  |0,_,b|1,_,b|2,_,b|3,_,b=>simpa[Q7,Se.arr] using b
def FY{w:ah}{s:Se}(h:Ll w s){n:Int}{a:OA}{k:Nat}{l:List Ch}{c:Ch}(hc:c.Ok):
  CP 324 #[.agg (Q7 s n a k l).toArray,c.v] w (λr b=>r=iv (H6 s.ps c.want)/\aZ w b []):=by
 exact nK.2.1.2.2.2.2.1 (bE (Q7 s n a k l).toArray λf j e=>e.aY c.cells.toArray λg m b=>⟨_,_,_,b.aj 1 rfl 0,_,iL b 0 rfl,bF (TI ((h.aK b.aK).i.ps) h.i.h1 h.o.ps hc.w) λp d=>⟨_,rfl,rfl,(b.quiet d).aK⟩⟩)
def Jv(s:Se)(b:Br)(l:List Ch):Int:=l.foldl (λm c=>if H6 s.ps c.want<m then H6 s.ps c.want else m) b.pts
def Y1{w:ah}{s:Se}(h:Ll w s){n:Nat}{b:Br}(u:s.bd[n]?=some b){a:OA}{k:Nat}{l:List Ch}(G:zO w a l)(N:l.length<=1000)(D:∀c∈l,c.Ok):
  CP 325 #[.agg s.arr,iv n,.slice a l.length k] w (λr d=>r=iv (Jv s b l)/\aZ w d []):=by
 refine nK.2.1.2.2.2.2.2.1 ?_;have O:=(ai.1 u).1;refine bE s.arr λJ Q z=>(Ex8<|Ex4<|⟨z.cellsIn 0 rfl,bF (SI (s:=s) n) λL B=>?_⟩);have e:=(z.quiet B).quiet (aZ.drew L []);obtain⟨q,F,f⟩:=FL ((h.aK e.aK).i.bd) u 3 _ rfl;refine⟨_,rfl,cF (by simp;omega) (Ex8<|Ex4<|⟨e.cellsIn 0 rfl,_,_,_,e.aj 0 rfl 1,av F ⟨by omega,by omega,_,f,λm v A x=>∃j:Nat,v=j/\j<=l.length/\x=l.length-j/\m=Jv s b (l.take j)/\St w A (Sep [ay J s.arr 34,emp]),⟨l.length,0,rfl,by omega,by omega,rfl,e⟩,?_⟩⟩)⟩;rintro A x m v ⟨j,rfl,M,H,rfl,r⟩-
 by_cases g:(j:Int)<(l.length:Int)
 .obtain⟨y,o⟩:=dX l j (by omega);obtain⟨I,rfl,d⟩:=(G.aK r.aK).at o;refine gM g ⟨by omega,by omega,y.p,y.want,d,r.aY tI.cells.toArray λP R K=>K.aR 0 rfl y.cells rfl y.one λS t=>⟨y.p,y.want,t.cellsIn 0 rfl,?_⟩⟩;have E:=FY (n:=(n:Int)) (a:=some I) (k:=k) (l:=l) (h.aK t.aK) (D y (ak o));refine bF E λT C=>⟨_,rfl,l.length-(j+1),by omega,j+1,gC (by omega),by omega,rfl,?_,(t.quiet C).aM [1,2]⟩;rw[bJ o];unfold Jv;rw[cG,bD,fK]
 obtain rfl:j=l.length:=by omega
 exact cF (by simp) ⟨by rw[aH],r.aK⟩
def BX(s:Se)(b:Br)(l:List Ch)(c:Ch):Bool:=decide (H6 s.ps c.want<=Jv s b l)
def NI{w:ah}{s:Se}(h:Ll w s){n:Nat}{b:Br}(g:s.bd[n]?=some b){a:OA}{k:Nat}{l:List Ch}(m:zO w a l)(i:l.length<=1000)(j:∀c∈l,c.Ok){c:Ch}(hc:c.Ok):
  CP 260 #[.agg (Q7 s n a k l).toArray,c.v] w (λr d=>r=.bool (BX s b l c)/\aZ w d []):=by
 refine(p6 nK.1).2.2.2.2.1 (bE (Q7 s n a k l).toArray λt x o=>o.aY c.cells.toArray λu r q=>?_);have d:=q.quiet (aZ.drew r []);exact Ex8<|Ex8<|⟨d.cellsIn 1 rfl,c.p,c.want,d.cellsIn 0 rfl,Ex8<|Ex4<|⟨SM d 1 rfl,_,d.aj 1 rfl 4,_,_,_,d.aj 1 rfl 5,d.qu (FY (n:=n) (a:=a) (k:=k) (l:=l) (h.aK d.aK) hc) λy e=>⟨_,rfl,e.aj 1 rfl 5,e.aj 1 rfl 4,SM e 1 rfl,bF (Y1 (h.aK e.aK) g (m.aK e.aK) i j) λz f=>⟨_,rfl,rfl,(e.quiet f).aK⟩⟩⟩⟩
def Cr(c:Ch):Bool:=c.p.l.all rz&&c.want.l.all lX
def Jj{c:Ch}:Cr c=true<->c.Ok:=by
 unfold Cr;rw[aF];exact⟨λh=>⟨vh.1 h.1,C9 h.2⟩,λh=>⟨vh.2 h.p,leq h.w⟩⟩
def Uk(w:ah)(c:Ch):CP 307 #[c.v] w (λr o=>r=.bool (Cr c)/\aZ w o []):=by
 refine nK.2.2.2.2.1 (bE c.cells.toArray λu q d=>⟨c.p,yE d 0 rfl,λn e m=>∃k:Nat,n=k/\k<=6/\m=6-k/\(c.p.l.take k).all rz=true/\e=q,⟨6,0,rfl,by omega,by omega,rfl,rfl⟩,?_⟩);rintro e m n ⟨k,rfl,s,t,h,rfl⟩-
 by_cases f:(k:Int)<6
 .have a:k<6:=by omega
  refine di f ⟨by omega,by omega,_,c.p.get k a,λb i=>b=(!rz (c.p.at' k))/\i=e,?_,?_⟩
  .rintro i b ⟨rfl,rfl⟩-
   cases hx:rz (c.p.at' k) with
   |true=>exact cF rfl ⟨6-(k+1),by omega,k+1,inc (by decide) a,by omega,rfl,qD h (c.p.vG k a) hx,rfl⟩
   |false=>exact cT rfl ⟨by rw[Cr,td (c.p.vG k a) hx];rfl,d.aK⟩
  refine cBq (λj=>⟨by simp[rz];omega,rfl⟩) λj=>⟨?_,rfl⟩;rw[rz,dT (show 0<=c.p.at' k by omega),aO]
  by_cases g:c.p.at' k<=1000000
  .rw[dT g,dF (by omega)];rfl
  rw[dF g,dT (by omega)];rfl
 obtain rfl:k=6:=by omega
 refine cF (by simp) ⟨_,iL d 0 rfl,bF (lI e c.want) λb a=>⟨_,rfl,?_,(d.quiet a).aK⟩⟩;rw[Cr,show c.p.l.all rz=true from h]
 cases c.want.l.all lX<;>rfl
def Ds{w:ah}{a:OA}{k:Nat}{l:List Ch}(o:zO w a l)(t:l.length<=1000):
  CP 223 #[.slice a l.length k] w (λr b=>r=.bool (l.all Cr)/\aZ w b []):=by
 refine(p6 nK.2.1).2.2.2.2.1 ⟨λn i m=>∃j:Nat,n=j/\j<=l.length/\m=l.length-j/\(l.take j).all Cr=true/\aZ w i [],⟨l.length,0,rfl,by omega,by omega,rfl,aZ.refl _ _⟩,?_⟩;rintro i m n ⟨j,rfl,s,u,c,d⟩-
 by_cases e:(j:Int)<(l.length:Int)
 .obtain⟨y,f⟩:=dX l j (by omega);obtain⟨v,rfl,b⟩:=(o.aK d).at f;refine gM e ⟨by omega,by omega,y.p,y.want,b,(St.start' d).one.aY tI.cells.toArray λx z q=>q.aR 0 rfl y.cells rfl y.one λr g=>⟨y.p,y.want,g.cellsIn 0 rfl,bF (Uk r y) λA h=>⟨_,rfl,?_⟩⟩⟩
  cases hy:Cr y with
  |true=>
   refine cF rfl (mS (by omega) ⟨?_,(g.quiet h).aK⟩);rw[bJ f,fq,c];simp[hy]
  |false=>
   refine cT rfl ⟨?_,(g.quiet h).aK⟩;rw[fA.2 ⟨y,ak f,by simp[hy]⟩]
 obtain rfl:j=l.length:=by omega
 rw[aH] at c;exact cF (by simp) ⟨by rw[c],d⟩
def wV(a b:Ch):Int:=cost a.p b.want-cost a.p a.want
def Wj{a b:Ch}(ha:a.Ok)(c:b.Ok):-24000000<=wV a b/\wV a b<=24000000:=by
 have d:=nh ha.p c.w;have e:=nh ha.p ha.w;unfold wV;omega
def Zb(w:ah){a b:Ch}(ha:a.Ok)(e:b.Ok):CP 226 #[a.v,b.v] w (λr i=>r=iv (wV a b)/\aZ w i []):=by
 refine nK.2.2.2.1 ?_;have k:=nh ha.p e.w;have l:=nh ha.p ha.w;refine bE a.cells.toArray λm o g=>g.aY b.cells.toArray λn j h=>?_;have c:=h.quiet (aZ.drew j []);refine⟨_,yE c 1 rfl,_,iL c 0 rfl,_,yE c 1 rfl,_,iL c 1 rfl,c.qu (rB _ ha.p e.w) λq d=>⟨_,rfl,iL d 1 rfl,yE d 1 rfl,bF (rB _ ha.p ha.w) λs f=>⟨_,rfl,?_,(d.quiet f).aK⟩⟩⟩;rw[gC (by omega)];rfl
abbrev i1 (x:Int):List Value:=[iv x]
def gm(x:Int):(i1 x).length=1:=rfl
def wX(x:Int):∀v∈i1 x,v.oneCell'=true:=by intro v a;simp at a;subst a;rfl
def KZ:ru prog 165 2 (iv 0) 1 8:=ru.mk' underlying165 (by kernel_rfl) rfl (by decide)
def U9:ru prog 64 3 (iv 0) 1 8:=ru.mk' underlying64 (by kernel_rfl) rfl (by decide)
def mpB:MpT prog 394 3 4 (.bool false):=⟨underlying394,by kernel_rfl⟩
def iW{w:ah}{a:OA}{l:List Int}(h:iA 1 i1 w a l){i:Nat}{x:Int}(hi:l[i]?=some x):∃q,a=some q/\w.cell? (Addr.add q (i*1))=some (iv x):=by
 obtain⟨q,c,b⟩:=h.at hi;have:=bX b 0 _ rfl;rw[az,Addr.add_add,gX] at this;exact⟨q,c,this⟩
def nq(f:Nat->Int)(n:Nat):List Int:=(List.range n).map f
def mJ(f:Nat->Int)(n:Nat):(nq f n).length=n:=by simp[nq]
def Ad(f:Nat->Int){n i:Nat}(h:i<n):(nq f n)[i]?=some (f i):=by simp[nq,h]
theorem Bx:∀(n:Nat) (l:List Nat),l.Nodup->(∀x∈l,x<n)->l.length<=n
 |0,[],_,_=>aD _
 |0,x::_,_,h=>absurd (h x (by simp)) (by omega)
 |n+1,l,hd,h=>by
  by_cases c:n∈l
  .have b:=Bx n (l.erase n) (hd.erase n) λx a=>by
    have d:=(hd.mem_erase_iff).1 a;have:=h x d.2;omega
   rw[ja c] at b;omega
  have b:=Bx n l hd λx a=>by
   have:=h x a;have:x≠n:=λe=>c (e▸a);omega
  omega
def Aq{l:List Int}{n:Nat}(hd:l.Nodup)(h:∀x∈l,0<=x/\x<n):l.length<=n:=by
 have d:(l.map Int.toNat).Nodup:=by
  rw[List.nodup_iff_pairwise_ne] at *;rw[iw];exact hd.imp_of_mem λ{a b} f g c e=>c (by have:=h a f;have:=h b g;omega)
 have a:∀x∈l.map Int.toNat,x<n:=λx b=>by
  obtain⟨y,c,rfl⟩:=aN.1 b;have:=h y c;omega
 have:=Bx n _ d a;simpa using this
def VO{w:ah}{n:Nat}(hn:n<=1000){a:OA}{c:Nat}{st:Lo}(hr:iA 1 i1 w a (nq st.f n)){G T:Int}{g:Nat->Nat->Int}(hs:M8 g n G T n n 0 st){ch:Nat}(hc:ch<n)(hl:st.lr ch=n):
  CP 373 #[.slice a n c,iv ch] w (λr K=>(∃q l c,r=.slice (some q) l c)/\aZ w K []):=by
 refine nK.2.2.2.2.2.1 ?_;have link:∀{K:ah} {x:Nat},aZ w K []->x<n->∃q,a=some q/\K.cell? (Addr.add q (x*1))=some (iv (st.f x)):=λhc O=>iW (hr.aK hc) (Ad _ O);refine uY (St.start w) λm w1 c1 P=>?_;have P:=St.acs P;refine⟨λx W k=>∃(d:List Int) (y:Nat),x=y/\y<n/\d.Nodup/\(∀z∈d,0<=z/\z<n)/\k+d.length=n+1/\n<=st.lr y+d.length/\(∀z:Nat,(z:Int)∈d->st.f z=y\/st.f z∈d)/\St w W (star (Fu m d) emp),⟨n+1,[],ch,rfl,hc,List.nodup_nil,by simp,by simp,by rw[hl];simp,by simp,P⟩,?_⟩
 rintro W k x ⟨d,y,rfl,U,hd,o,hk,hlr,B,Q⟩-;refine D5 mpB underlying3 Q (y:Int) ?_
 by_cases A:(y:Int)∈d
 .refine cF (by rw[dT A];rfl) (Jm mpB Q λw5 c5 s5=>?_);have L:∀z:Nat,(z:Int)∈d->st.f z∈d:=λz t=>(B z t).elim (λe=>by rw[e];exact A) id;refine⟨λx I V J X k=>∃(ms:List Int) (y:Nat),x=y/\(y:Int)∈d/\ms.Nodup/\(∀z∈ms,z∈d)/\k+ms.length=n+1/\V=ms.length/\St w X (Sep [Fu m ms,iQ 3 1 i1 I J ms,emp]),⟨n+1,[],y,rfl,A,List.nodup_nil,by simp,by simp,rfl,(s5.gB (e:=3) (sz:=1) (f:=i1)).sP.sU⟩,?_⟩
  rintro X k2 x I V J ⟨ms,z,rfl,t,C,u,Z,rfl,R⟩-;refine D5 mpB underlying3 R (z:Int) ?_;have hms:=Aq C λv F=>o v (u v F)
  by_cases p:(z:Int)∈ms
  .refine cF (by rw[dT p];rfl) (iD U9 gm (x:=0) rfl R (n:=ms.length) (by omega) (by omega) λN w11 S D=>?_);refine⟨λx h k=>∃(j:Nat) (out:List Int),x=j/\j<=ms.length/\k=ms.length-j/\out.length=ms.length/\St w h (star (iQ 3 1 i1 (qs N) ms.length out) (Sep [Fu m ms,iQ 3 1 i1 I J ms,emp])),⟨ms.length,0,_,rfl,by omega,by omega,by simp,D⟩,?_⟩
   rintro h k3 x ⟨j,out,rfl,hj,hk3,ho,b⟩-
   by_cases s:(j:Int)<(ms.length:Int)
   .obtain⟨v,O⟩:=dX ms j (by omega);have H:St w h (Sep [iQ 3 1 i1 (qs N) ms.length out,Fu m ms,iQ 3 1 i1 I J ms,emp]):=b;obtain⟨q,E,r⟩:=iW (St.rd gm (H.out 2 rfl)) O;have Y:IntKind.i64.wrap ((IntKind.i64.wrap ((ms.length:Int)-1))-(j:Int))=((ms.length-1-j:Nat):Int):=by
     rw[fQ (n:=(ms.length:Int)-1) ⟨by omega,by omega⟩,gC (by omega)];omega
    rw[Y];refine di s (av E ⟨by omega,by omega,v,r,by omega,by omega,?_⟩);rw[aq];exact St.kP (v:=iv) rfl b (i:=ms.length-1-j) (by omega) λw13 M=>⟨ms.length-(j+1),by omega,j+1,_,gC (by omega),by omega,rfl,by simpa using ho,M⟩
   exact dz s ⟨⟨_,_,_,rfl⟩,b.aK⟩
  have Y:=Aq hd o;have j:(ms++[(z:Int)]).Nodup:=dL.2 ⟨C,by simp,λa M b o e=>by simp at o;subst o;subst e;exact p M⟩;have s:=Aq j λv F=>by
   rcases aB.1 F with h|h
   .exact o v (u v h)
   simp at h;subst h;exact o _ t
  simp only[aA,aG] at s;refine cT (by rw[dF p];rfl) (Gm mpB underlying3 R (z:Int) p λw8 c8 s8=>?_);have S:=s8.sP;refine iT (x:=(z:Int)) U9 gm (wX _) S (by omega) (by omega) (λa' c' w10 H=>?_) rfl;have zr:=o _ t;obtain⟨q,E,r⟩:=link H.aK (show z<n by omega);have D:=L z t;have N:=o _ D;refine av E ⟨by omega,by omega,_,r,k2-1,?_,ms++[(z:Int)],(st.f z).toNat,by omega,by rw[gN N.1];exact D,j,?_,?_,rfl,H.sP⟩
  .omega
  .intro v F;rcases aB.1 F with h|h
   .exact u v h
   simp at h;subst h;exact t
  simp only[aA,aG];omega
 have j:(d++[(y:Int)]).Nodup:=dL.2 ⟨hd,by simp,λa M b o e=>by simp at o;subst o;subst e;exact A M⟩;have u:∀z∈d++[(y:Int)],0<=z/\z<n:=λz t=>by
  rcases aB.1 t with h|h
  .exact o z h
  simp at h;subst h;omega
 have s:=Aq j u;simp only[aA,aG] at s;refine cT (by rw[dF A];rfl) (Gm mpB underlying3 Q (y:Int) A λL F C=>?_);obtain⟨q,E,r⟩:=link C.aK U;rcases hs.f y U with⟨_,H⟩|⟨p,D,v,I,J⟩
 .omega
 refine av E ⟨by omega,by omega,_,r,k-1,by omega,d++[(y:Int)],p,v,D,j,u,?_,?_,?_,C⟩
 .simp only[aA,aG];omega
 .simp only[aA,aG];omega
 intro z t;rcases aB.1 t with h|h
 .rcases B z h with e|e
  .exact .inr (by rw[e];simp)
  exact .inr (cr _ e)
 simp at h;have h:z=y:=by omega
 subst h;exact .inl v
def gF(l:List Ch)(a b:Nat):Int:=wV (l.getD a tI) (l.getD b tI)
def Wi(l:List Ch)(a:Nat):gF l a a=0:=by unfold gF wV;omega
def abF{l:List Ch}(h:∀c∈l,c.Ok)(a b:Nat)(ha:a<l.length)(f:b<l.length):-24000000<=gF l a b/\gF l a b<=24000000:=by
 have e:∀i,i<l.length->(l.getD i tI).Ok:=λi d=>by
  rw[au,gE d];exact h _ (jD d)
 exact Wj (e a ha) (e b f)
def yH(l:List Ch):Lo:=ua (gF l) l.length
def PF{w:ah}{a:OA}{c:Nat}{l:List Ch}(hr:zO w a l)(hl:l.length<=100)(ho:∀c∈l,c.Ok):
  CP 357 #[.slice a l.length c] w (λr N=>
   ((yH l).ch<0/\(∃g c,r=.tuple #[.slice (qs g) l.length c,.slice none 0 0]/\St w N (star (iQ 2 1 i1 (qs g) c (nq (yH l).v l.length)) emp)))\/(0<=(yH l).ch/\(∃q m c,r=.tuple #[.slice none 0 0,.slice (some q) m c])/\aZ w N [])):=by
 refine(p6 nK.2.1).2.2.2.2.2.1 ?_;generalize hn:l.length=n at *;have U:(0:Int)<=24000000:=by omega
 have S:=Wi l;have P:∀a b,a<n->b<n->-24000000<=gF l a b/\gF l a b<=24000000:=λa b ha hb=>abF ho a b (by omega) (by omega);refine iD KZ gm (x:=0) rfl (St.start w) (n:=n) (by omega) (by omega) λJ w1 c1 s1=>iD U9 gm (x:=0) rfl s1 (n:=n) (by omega) (by omega) λI w2 c2 s2=>?_;let L:Nat->(Nat->Int)->(Nat->Int)->List bP:=λ_ v f=>[iQ 3 1 i1 (qs I) n (nq f n),iQ 2 1 i1 (qs J) n (nq v n)];have z1:List.replicate n (0:Int)=nq (λ_=>0) n:=by unfold nq;rw[List.map_const'];simp
 have z2:nq (λi=>if i<0 then (-1:Int) else 0) n=nq (λ_=>0) n:=by simp
 rw[z1] at s1 s2;refine⟨λx Q k=>∃(j:Nat),x=j/\j<=n/\k=n-j/\St w Q (Sep (L 0 (λ_=>0) λi=>if i<j then -1 else 0)),⟨n,0,rfl,by omega,by omega,by
  show St w w2 (Sep [iQ 3 1 i1 (qs I) n (nq (λi=>if i<0 then (-1:Int) else 0) n),_]);rw[z2];exact s2⟩,?_⟩
 rintro Q k x ⟨j,rfl,hj,hk,s3⟩-
 by_cases o:(j:Int)<((nq (λ_=>(0:Int)) n).length:Int)
 .have s:j<n:=by rw[mJ] at o;omega
  refine di (by rw[mJ] at o;exact o) (av rfl ⟨by omega,by omega,?_⟩);rw[aq];refine St.kP (v:=iv) (x:=-1) rfl (s3.out 0 rfl) (i:=j) (by rw[mJ];exact s) λu t=>(mS (by omega) ?_);have e:(nq (λi=>if i<j then (-1:Int) else 0) n).set j (-1)=nq (λi=>if i<j+1 then -1 else 0) n:=by
   unfold nq;rw[CX]
   congr 1
   funext i
   by_cases h:i=j
   .subst h;simp[jO]
   rw[oE _ _ h]
   by_cases d:i<j
   .rw[ag d,ag (by omega)]
   rw[af d,af (by omega)]
  rw[e] at t;exact t.back (l:=L 0 (λ_=>0) λi=>if i<j then -1 else 0) (i:=0) (by simp[L])
 rw[mJ] at o;obtain rfl:n=j:=by omega
 have e1:nq (λi=>if i<n then (-1:Int) else 0) n=nq (λ_=>-1) n:=by
  unfold nq;refine bq λi hi=>?_;rw[ag (eV.1 hi)]
 have s3':St w Q (Sep (L 0 lo0.v lo0.f)):=by
  show St w Q (Sep [iQ 3 1 i1 (qs I) n (nq (λ_=>-1) n),_]);rw[<-e1];exact s3
 refine dz o ⟨λx w5=>x=(yH l).ch/\St w w5 (Sep (L 0 (yH l).v (yH l).f)),?_,?_⟩
 .rintro w5 x ⟨rfl,h⟩-;refine cBq (λz=>.inl ⟨z,J,n,rfl,?_⟩) λz=>?_
  .have:=(h.aM [1]).yW;exact((h.aM [1,2]).pair)
  obtain⟨F,C,E,G⟩:=PE (g:=gF l) (n:=n) U S P;have u:0<=(yH l).ch:=by omega
  have y:ua (gF l) n=yH l:=by unfold yH;rw[hn]
  rw[y] at E G;have e:=G u;subst e;rcases E.i.ch with t|⟨D,s,t,d⟩
  .omega
  rw[t];have A:=St.rd gm (h.out 0 rfl);refine bg (VO (by omega) A E.i s d) ?_;rintro v H ⟨⟨q,m,cap,rfl⟩,B⟩;exact⟨_,_,_,rfl,.inr ⟨by omega,⟨q,m,cap,rfl⟩,h.aK.trans B (by simp)⟩⟩
 refine⟨λch x w7 k=>∃(r:Nat) (T:Int) (s:Lo),x=r/\r<=n/\k=n-r/\ch=s.ch/\T=(r:Int)*n/\SZ (gF l) n (n-r) r s=yH l/\OX (gF l) n 24000000 T r n s/\St w w7 (Sep (L 0 s.v s.f)),⟨n,0,0,lo0,rfl,by omega,by omega,rfl,by simp,by unfold yH ua;rw[hn];rfl,X7 U,s3'⟩,?_⟩
 rintro w7 k7 ch x ⟨r,T,s,rfl,hr7,hk7,rfl,hT,u,E,s7⟩-
 by_cases o:(r:Int)<(n:Int)
 .have G:r<n:=by omega
  have hnr:n-r=(n-(r+1))+1:=by omega
  have hT2:T<=10000/\0<=T:=by
   have t:(r:Int)*n<=100*n:=bt (by omega) (by omega);have d:(0:Int)<=(r:Int)*n:=dh (by omega) (by omega);omega
  have V:OX (gF l) n 24000000 T (r+1) 0 {s with ch:=-1}:=⟨E.i.Ya E.b,E.b⟩;refine di o ⟨λch x w8 k=>∃(a:Nat) (t:Lo),x=a/\a<=n/\k=n-a/\ch=t.ch/\t=JV (gF l) n (r+1) a {s with ch:=-1}/\St w w8 (Sep (L 0 t.v t.f)),⟨n,0,_,rfl,by omega,by omega,rfl,rfl,s7⟩,?_⟩;rintro w8 k8 ch x ⟨d,t,rfl,W,hk8,rfl,ht,s8⟩-;have F:=V.JV U S P (by omega) d W;rw[<-ht] at F
  by_cases B:(d:Int)<(n:Int)
  .have h:d<n:=by omega
   refine di B ⟨λch x R k=>∃(b:Nat) (e:Lo),x=b/\b<=n/\k=n-b/\ch=e.ch/\e=HF (gF l) (r+1) d b t/\St w R (Sep (L 0 e.v e.f)),⟨n,0,t,rfl,by omega,by omega,rfl,rfl,s8⟩,?_⟩;rintro R k9 ch x ⟨g,e,rfl,X,hk9,rfl,H,s9⟩-;have D:=F.i.HF S P (by omega) h g X;rw[<-H] at D
   by_cases C:(g:Int)<(n:Int)
   .have y:g<n:=by omega
    have xa:l[d]?=some (l.getD d tI):=by rw[au,gE (by omega)];rfl
    have xb:l[g]?=some (l.getD g tI):=by rw[au,gE (by omega)];rfl
    have A:St w R.drew (Sep (L 0 e.v e.f)):=s9.quiet (aZ.drew R []);obtain⟨qa,hqa,Y⟩:=(hr.aK A.aK).at xa;obtain⟨qb,hqb,Z⟩:=(hr.aK A.aK).at xb;have val:∀{N:ah} {i:Nat},i<n->St w N (Sep (L 0 e.v e.f))->N.cell? (Addr.add ⟨J,0,none⟩ (((i:Nat):Int).toNat*1))=some (iv (e.v i)):=λhi s=>by
     obtain⟨q,m,z⟩:=iW (St.rd gm (s.out 1 rfl)) (Ad e.v hi)
     cases m;exact z
    refine di C ⟨λch O=>ch=(Ft (gF l) (r+1) d g e).ch/\St w O (Sep (L 0 (Ft (gF l) (r+1) d g e).v (Ft (gF l) (r+1) d g e).f)),?_,?_⟩
    .rintro O ch ⟨rfl,m⟩-;refine⟨n-(g+1),by omega,g+1,_,gC (by omega),by omega,rfl,rfl,?_,m⟩;rw[H];rfl
    refine av rfl ⟨by omega,by omega,_,val h A,av hqa ⟨by omega,by omega,(l.getD d tI).p,(l.getD d tI).want,Y,av hqb ⟨by omega,by omega,(l.getD g tI).p,(l.getD g tI).want,Z,A.qu (Zb _ (ho _ (ak xa)) (ho _ (ak xb))) λw11 m=>?_⟩⟩⟩;have ba:=D.lo d h;have hla:=D.la h;have hg1:=P d g h y;have hTa:(d:Int)<=100:=by omega
    have ew:IntKind.i64.wrap (e.v d+wV (l.getD d tI) (l.getD g tI))=e.v d+gF l d g:=fQ ⟨by show _<=e.v d+gF l d g;omega,by show e.v d+gF l d g<=_;omega⟩;refine⟨_,rfl,val h m,av rfl ⟨by omega,by omega,_,val y m,?_⟩⟩;rw[ew]
    by_cases q:e.v d+gF l d g<e.v g
    .have er:Ft (gF l) (r+1) d g e={v:=vT e.v g (e.v d+gF l d g),f:=vT e.f g d,lr:=vT e.lr g (r+1),ch:=g}:=by unfold Ft;rw[ag q]
     rw[er];refine di q (av rfl ⟨by omega,by omega,?_⟩);rw[aq];refine St.kP (v:=iv) (x:=e.v d+gF l d g) rfl (m.out 1 rfl) (i:=g) (by rw[mJ];exact y) λw12 K=>?_;have e2:(nq e.v n).set g (e.v d+gF l d g)=nq (vT e.v g (e.v d+gF l d g)) n:=CX _ _ _ _;rw[e2] at K;have s13:St w w12 (Sep [iQ 3 1 i1 (qs I) n (nq e.f n),iQ 2 1 i1 (qs J) n (nq (vT e.v g (e.v d+gF l d g)) n)]):=K.back (l:=L 0 e.v e.f) (i:=1) (by simp[L]);refine av rfl ⟨by omega,by omega,St.kP (v:=iv) (x:=(d:Int)) rfl (s13.out 0 rfl) (i:=g) (by rw[mJ];exact y) λw14 M=>⟨rfl,?_⟩⟩;have e3:(nq e.f n).set g (d:Int)=nq (vT e.f g d) n:=CX _ _ _ _;rw[e3] at M;exact M.back (l:=[iQ 3 1 i1 (qs I) n (nq e.f n),iQ 2 1 i1 (qs J) n (nq (vT e.v g (e.v d+gF l d g)) n)]) (i:=0) (by simp)
    have er:Ft (gF l) (r+1) d g e=e:=by unfold Ft;rw[af q]
    rw[er];exact dz q ⟨rfl,m⟩
   obtain rfl:n=g:=by omega
   refine dz C ⟨n-(d+1),by omega,d+1,_,gC (by omega),by omega,rfl,rfl,?_,s9⟩;rw[H,ht];rfl
  obtain rfl:n=d:=by omega
  have g:t=Ra (gF l) n (r+1) s:=ht;have e:(if (Ra (gF l) n (r+1) s).ch<0 then Ra (gF l) n (r+1) s else SZ (gF l) n (n-(r+1)) (r+1) (Ra (gF l) n (r+1) s))=yH l:=by
   rw[<-u,hnr];rfl
  rw[<-g] at e;refine dz B ?_
  by_cases z:t.ch<0
  .rw[ag z] at e;refine di z ?_;rw[<-e];exact⟨rfl,s8⟩
  rw[af z] at e;refine dz z ⟨n-(r+1),by omega,r+1,T+n,t,gC (by omega),by omega,rfl,rfl,?_,e,F,s8⟩;rw[hT,iR,eY];omega
 obtain rfl:n=r:=by omega
 rw[ot] at u;subst u;exact dz o ⟨rfl,s7⟩
def oK(l:List Ch):Bool:=l.all Cr&&decide ((yH l).ch<0)
def Dr{l:List Ch}:l.all Cr=true<->∀c∈l,c.Ok:=by simp[bw,Jj]
def Qv{w:ah}{a:OA}{c:Nat}{l:List Ch}(F:zO w a l)(T:l.length<=100):
  CP 326 #[.slice a l.length c] w (λr B=>(∃b g e d h f,r=.tuple #[.agg #[.slice b g e,.slice d h f],.bool (oK l)])/\aZ w B []):=by
 refine(p6 nK.2.1).1 (bE _ λV w1 P=>P.qu (Ds (F.aK P.aK) (by omega)) λw2 H=>⟨_,rfl,?_⟩)
 cases ha:l.all Cr with
 |false=>
  exact cT rfl (H.aR 0 rfl [.slice none 0 0,.slice none 0 0] rfl (by simp[Value.oneCell']) λQ o=>(Ex4 ⟨_,_,o.cellsIn 0 rfl,⟨(Ex4 ⟨_,_,by rw[oK,ha];rfl⟩),o.aK⟩⟩))
 |true=>
  have J:=Dr.1 ha;refine cF rfl (bg (PF (F.aK H.aK) T J) ?_);rintro v w4 (⟨C,g,z,rfl,K⟩|⟨C,⟨q,m,z,rfl⟩,S⟩)
  .have r:oK l=true:=by rw[oK,ha,dT C];rfl
   let L:List Int->List bP:=λout=>[iQ 2 1 i1 (qs g) z out,ay V #[.slice none 0 0,.slice none 0 0] 220,emp];have X:=(H.and K.first);have val:∀{B:ah} {out:List Int} {i:Nat},out.length=l.length->i<l.length->St w B (Sep (L out))->B.cell? (Addr.add ⟨g,0,none⟩ (((i:Nat):Int).toNat*1))=some (iv (out.getD i 0)):=λ{B out i} J Z s=>by
    obtain⟨q,A,C⟩:=iW (St.rd gm s) (i:=i) (x:=out.getD i 0) (by rw[au,gE (by omega)];rfl)
    cases A;exact C
   refine Ex4 ⟨_,_,rfl,cF rfl ⟨λ_ n u m=>∃j:Nat,n=j/\j<=l.length/\m=l.length-j/\St w u (Sep (L (nq (yH l).v l.length))),⟨l.length,0,rfl,by omega,by omega,X⟩,?_⟩⟩;rintro u m n n2 ⟨j,rfl,D,E,f⟩-
   by_cases b:(j:Int)<(l.length:Int)
   .obtain⟨y,G⟩:=dX l j (by omega);obtain⟨U,A,h⟩:=(F.aK f.aK).at G;refine di b (av A ⟨by omega,by omega,y.p,y.want,h,f.aY tI.cells.toArray λW Y M=>M.aR 0 rfl y.cells rfl y.one λR I=>?_⟩);have N:=I.quiet (aZ.drew R []);have O:=J _ (ak G);have e:=N.aM [1,2,3];have d:j<l.length:=by omega
    exact⟨_,yE N 0 rfl,_,iL N 0 rfl,av rfl ⟨by omega,by omega,_,val (mJ _ _) d e,e.qu (rB _ O.p O.w) λt k=>⟨_,rfl,val (mJ _ _) d k,l.length-(j+1),by omega,j+1,gC (by omega),by omega,rfl,k⟩⟩⟩
   refine dz b ⟨λ_ n u m=>∃j:Nat,n=j/\j<=l.length/\m=l.length-j/\St w u (Sep (L (nq (yH l).v l.length))),⟨l.length,0,rfl,by omega,by omega,f⟩,?_⟩;clear f b D E;rintro N O n5 n6 ⟨j,rfl,D,E,f⟩-
   by_cases b:(j:Int)<(l.length:Int)
   .obtain⟨y,G⟩:=dX l j (by omega);have d:j<l.length:=by omega
    obtain⟨U,A,h⟩:=(F.aK f.aK).at G;refine di b ⟨λ_ t=>St w t (Sep (L (nq (yH l).v l.length))),λt n7 k _=>(mS (by omega) k),av A ⟨by omega,by omega,y.p,y.want,h,f.aY tI.cells.toArray λW Y M=>M.aR 0 rfl y.cells rfl y.one λR I=>⟨_,iL I 0 rfl,?_⟩⟩⟩;have e:=I.aM [1,2,3];exact cB (av rfl ⟨by omega,by omega,_,val (mJ _ _) d e,e⟩) e
   refine dz b ⟨λn u m=>∃(j:Nat) (out:List Int),n=j/\j<=l.length/\m=l.length-j/\out.length=l.length/\St w u (Sep (L out)),⟨l.length,0,_,rfl,by omega,by omega,mJ _ _,f⟩,?_⟩;clear f b D E;rintro k y A ⟨j,out,rfl,D,E,e,f⟩-
   by_cases b:(j:Int)<(l.length:Int)
   .have d:j<l.length:=by omega
    refine di b (av rfl ⟨by omega,by omega,_,val e d f,av rfl ⟨by omega,by omega,?_⟩⟩);rw[aq];exact St.kP (v:=iv) rfl f (i:=j) (by omega) λt h=>⟨l.length-(j+1),by omega,j+1,_,gC (by omega),by omega,rfl,by simpa using e,h⟩
   refine dz b ((f.aM [1,2]).aR 0 rfl [.slice none 0 0,.slice (qs g) l.length z] rfl (by simp[Value.oneCell']) λQ o=>(Ex4 ⟨_,_,o.cellsIn 0 rfl,⟨none,0,0,_,_,_,by rw[r]⟩,o.aK⟩))
  have K:=H.quiet S;refine Ex4 ⟨_,_,rfl,cT rfl (K.aR 0 rfl [.slice (some q) m z,.slice none 0 0] rfl (by simp[Value.oneCell']) λQ o=>(Ex4 ⟨_,_,o.cellsIn 0 rfl,⟨some q,m,z,none,0,0,by rw[oK,ha,dF (by omega)];rfl⟩,o.aK⟩))⟩
def Xt:ru prog 104 158 tI.v 12 96:=ru.mk' underlying104 (by kernel_rfl) rfl (by decide)
def FX{w:ah}{s:Se}{n:Int}{a:OA}{k:Nat}{l:List Ch}(J:zO w a l)(O:l.length<=k)(I:l.length+1<=100)(c:Ch):
  CP 261 #[.agg (Q7 s n a k l).toArray,c.v] w (λr q=>r=.bool (oK (l++[c]))/\aZ w q []):=by
 refine(p6 nK.1).2.2.2.2.2.1 (bE (Q7 s n a k l).toArray λP U K=>K.aY c.cells.toArray λQ z L=>⟨λb H=>b=oK (l++[c])/\aZ w H [],?_,?_⟩)
 .rintro H b ⟨rfl,d⟩;exact λ_=>⟨rfl,d⟩
 have A:=L.quiet (aZ.drew z []);have app:∀{q:ah} {r:Nat} {B:List bP} {R:Option Addr->Nat->Nat->ah->Prop},St w q (Sep (ay r c.cells.toArray 158::B))->(∀t y z,St w z (star (iQ 158 12 Ch.cells t y (l++[c])) (Sep (ay r c.cells.toArray 158::B)))->R t (l++[c]).length y z) ->
   kg prog (Builtin.append_ #[104,104] 104 #[.slice (if (((l.length:Nat):Int)).toNat=0 then a else Option.map (λx=>Addr.add x (0*12)) a) ((((l.length:Nat):Int)).toNat-0) ((((l.length:Nat):Int)).toNat-0),.slice (qs r) 1 1]) q λe z=>∃a l c,e=.slice a l c/\R a l c z:=by
  intro q r B R d e;rw[aq,YM,fk];refine O5 Xt Ch.len c.one d (J.aK d.aK) (λj u f=>?_) (by omega) (by omega) e;rw[d.aj 0 rfl];simpa using f
 have i:∀{q:ah} {B:List bP} {t:OA} {y:Nat},St w q (star (iQ 158 12 Ch.cells t y (l++[c])) (Sep B)) ->
   CC 326 #[.slice t (l++[c]).length y] q (wo λr z=>(∃e j g f m h,r=.tuple #[.agg #[.slice e j g,.slice f m h],.bool (oK (l++[c]))])/\aZ q z []):=λs=>Qv (St.rd Ch.len s) (by simpa using I)
 let D:Array Value:=#[.slice none 0 0,.slice none 0 0];refine⟨_,_,_,A.aj 1 rfl 5,_,_,_,A.aj 1 rfl 5,_,_,_,A.aj 1 rfl 5,by omega,by omega,by omega,by omega,c.p,c.want,A.cellsIn 0 rfl,?_,?_⟩
 .refine A.aY c.cells.toArray λS V C=>⟨C.aj 2 rfl 5,C.aj 2 rfl 5,C.aj 2 rfl 5,app C λt y W E=>⟨bg (i E) ?_,?_⟩,?_⟩
  .rintro v F ⟨⟨e,j,g,f,m,h,rfl⟩,u⟩;exact Ex4 ⟨_,_,_,rfl,(St.start' (E.aK.trans u (by simp))).one.aY D λo M d=>d.aR 0 rfl [.slice e j g,.slice f m h] rfl (by simp[Value.oneCell']) λG x=>⟨rfl,x.aK⟩⟩
  .refine E.first.one.aY D λr5 o d=>bg (i (d.aM [1,0])) ?_;rintro v F ⟨⟨e,j,g,f,m,h,rfl⟩,u⟩;exact Ex4 ⟨_,_,_,rfl,(d.quiet u).aR 0 rfl [.slice e j g,.slice f m h] rfl (by simp[Value.oneCell']) λG x=>⟨rfl,x.aK⟩⟩
  refine C.aY D λT M d=>⟨d.aj 3 rfl 5,d.aj 3 rfl 5,d.aj 3 rfl 5,app (d.aM [1,0]) λt y N o=>bg (i o) ?_⟩;rintro v F ⟨⟨e,j,g,f,m,h,rfl⟩,u⟩;exact Ex4 ⟨_,_,_,rfl,(o.quiet u).second.aR 1 rfl [.slice e j g,.slice f m h] rfl (by simp[Value.oneCell']) λG x=>⟨rfl,x.aK⟩⟩
 refine A.aY D λS E d=>⟨d.cellsIn 1 rfl,d.aj 2 rfl 5,d.aj 2 rfl 5,d.aj 2 rfl 5,d.aY c.cells.toArray λT M o=>⟨o.aj 3 rfl 5,o.aj 3 rfl 5,o.aj 3 rfl 5,app o λt y N C=>bg (i C) ?_⟩⟩;rintro v F ⟨⟨e,j,g,f,m,h,rfl⟩,u⟩;exact Ex4 ⟨_,_,_,rfl,(C.quiet u).second.aR 1 rfl [.slice e j g,.slice f m h] rfl (by simp[Value.oneCell']) λG x=>⟨rfl,x.aK⟩⟩
def Pu{w:ah}{s:Se}(h:Ll w s){n:Nat}{b:Br}(i:s.bd[n]?=some b){a:OA}{k:Nat}{l:List Ch}(f:zO w a l)(j:l.length<=k)(m:l.length+1<=100)(o:∀c∈l,c.Ok){c:Ch}(hc:c.Ok):
  CP 262 #[.agg (Q7 s n a k l).toArray,c.v] w (λr d=>r=.bool (BX s b l c||oK (l++[c]))/\aZ w d []):=by
 refine(p6 (p6 nK.1)).1 (bE (Q7 s n a k l).toArray λr u q=>q.aY c.cells.toArray λt x d=>(Ex8<|Ex8<|⟨d.cellsIn 1 rfl,c.p,c.want,d.cellsIn 0 rfl,d.qu (NI (h.aK d.aK) i (f.aK d.aK) (by omega) o hc) λy e=>⟨_,rfl,?_⟩⟩))
 cases hf:BX s b l c with
 |true=>exact cT rfl ⟨rfl,e.aK⟩
 |false=>
  exact cF rfl (Ex8<|Ex8<|⟨e.cellsIn 1 rfl,c.p,c.want,e.cellsIn 0 rfl,bF (FX (f.aK e.aK) j m c) λz g=>⟨_,rfl,rfl,(e.quiet g).aK⟩⟩)
def EL(a:Int)(s:Se)(b:Br)(l:List Ch)(c:Ch):Bool:=if a=1 then BX s b l c else if a=2 then oK (l++[c]) else BX s b l c||oK (l++[c])
def Cm(a:Int)(s:Se)(b:Br)(l:List Ch)(c:Ch):Int:=
 if 1<=a/\a<=3 then (if (if yQ l then decide (c.want=z6) else EL a s b l c) then 0 else 15) else 4
def Rk{w:ah}{s:Se}(h:Ll w s){n:Nat}{b:Br}(q:s.bd[n]?=some b){a:OA}{k:Nat}{l:List Ch}(m:zO w a l)(B:l.length<=k)(C:l.length+1<=100)(D:∀c∈l,c.Ok){c:Ch}(hc:c.Ok)(d:Int):
  CP 184 #[.agg s.arr,iv d,iv n,.slice a l.length k,c.v] w (λr g=>r=iv (Cm d s b l c)/\aZ w g []):=by
 refine(p6 nK.1).1 (bE s.arr λE S J=>J.aY c.cells.toArray λu M j=>(Ex8<|Ex4<|⟨j.cellsIn 1 rfl,j.aY #[.slice none 0 0,.slice none 0 0,.slice none 0 0,.slice none 0 0,iv 0,.slice none 0 0] λP T L=>L.aR 0 rfl (Q7 s n a k l) rfl (by simp[Q7,Value.oneCell']) λU o=>?_⟩));have O:=(ai.1 q).1;let Acc (x:Bool) (v:Value):Prop:=∀(g:ah) (R:Ending->ah->Prop),aZ w g []->(∀e,aZ g e []->R (.returned (.bool x)) e)->rZ prog v #[c.v] g R;refine Ex8<|Ex8<|⟨o.cellsIn 0 rfl,λv G=>(1<=d/\d<=3)/\Acc (EL d s b l c) v/\St w G (Sep [ay u c.cells.toArray 158,ay E s.arr 34,emp]),?_,?_⟩
 .rintro G v ⟨f,I,i⟩-;refine Ex8<|Ex4<|⟨i.cellsIn 1 rfl,i.qu (SI (n:Int)) λN F=>⟨_,rfl,cF (by simp;omega) ⟨_,iL F 0 rfl,F.qu (lI N c.want) λV y=>?_⟩⟩⟩;have H:c.want.l.all lX=true:=by
   have:=Jj.2 hc;rw[Cr,aF] at this;exact this.2
  rw[H];refine⟨_,rfl,cF rfl ⟨λv z=>Acc (if yQ l then decide (c.want=z6) else EL d s b l c) v/\St w z (Sep [ay u c.cells.toArray 158,ay E s.arr 34,emp]),?_,bg (Sr (m.aK y.aK) (by omega)) ?_⟩⟩
  .rintro z Q ⟨t,p⟩-;refine⟨_,_,p.cellsIn 0 rfl,t _ _ p.aK λW A=>⟨_,rfl,?_⟩⟩
   cases hx:(if yQ l then decide (c.want=z6) else EL d s b l c) with
   |false=>exact cT rfl ⟨by rw[Cm,ag f,hx];rfl,(p.quiet A).aK⟩
   |true=>exact cF rfl ⟨by rw[Cm,ag f,hx];rfl,(p.quiet A).aK⟩
  rintro r z ⟨rfl,rfl⟩;refine⟨_,rfl,?_⟩
  cases he:yQ l with
  |false=>exact cF rfl ⟨I,y⟩
  |true=>
   refine cT rfl ⟨?_,y⟩;intro g R _ k;refine iJ (by kernel_rfl) (bg (K:=λr e=>r=.bool (decide (c.want=z6))/\aZ g e []) ((p6 (p6 nK.1)).2.2.1 ?_) ?_)
   .skip
    exact bE c.cells.toArray λu M j=>⟨_,iL j 0 rfl,by rw[I6.beq_eq],j.aK⟩
   rintro r e ⟨rfl,hc⟩;exact k e hc
 have i:=o.aM [1,2,3]
 by_cases p:d=1
 .subst p;refine cT rfl ⟨⟨by omega,by omega⟩,?_,i⟩;intro g R f k;refine iJ (by kernel_rfl) (bg (NI (h.aK f) q (m.aK f) (by omega) D hc) ?_);rintro r e ⟨rfl,hc⟩;exact k e hc
 refine iI p ?_
 by_cases t:d=2
 .subst t;refine cT rfl (Ex8<|Ex8<|⟨o.cellsIn 0 rfl,⟨by omega,by omega⟩,?_,i⟩);intro g R f k;refine iJ (by kernel_rfl) (bg (FX (m.aK f) B C c) ?_);rintro r e ⟨rfl,hc⟩;exact k e hc
 refine iI t ?_
 by_cases y:d=3
 .subst y;refine cT rfl (Ex8<|Ex8<|⟨o.cellsIn 0 rfl,⟨by omega,by omega⟩,?_,i⟩);intro g R f k;refine iJ (by kernel_rfl) (bg (Pu (h.aK f) q (m.aK f) B C D hc) ?_);rintro r e ⟨rfl,hc⟩;exact k e hc
 exact iI y ⟨by rw[Cm,af (by omega)],i.aK⟩

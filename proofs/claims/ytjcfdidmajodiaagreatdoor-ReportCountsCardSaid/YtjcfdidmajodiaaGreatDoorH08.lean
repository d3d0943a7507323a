import Derived.Test.YtjcfdidmajodiaaGreatDoorH07
set_option linter.unusedVariables false
set_option linter.defProp false
set_option maxRecDepth 100000
set_option maxHeartbeats 4000000
namespace Go.Proofs.YtjcfdidmajodiaaGreatDoor
open Go Go.Vc Go.Vt _root_.Go.Proofs.Tryz
def ld:=many uj [en func169 [] [],en func170 [] [],en func171 [] [(58,[(16,.s (.int .i64))]),(250,[(31,.s (.int .i64))])],en func228 [] [(15,[(4,.s (.int .i64))]),(31,[]),(2047,[]),(16378,[(46,.s .bool)]),(131028,[])],en func230 [] [(30,[(18,.s .bool)])],en func233 [] [(26,[(7,.s (.int .i64))])],en func234 [] [],en func235 [] [],en func236 [] [(58,[(7,.s (.int .i64)),(12,.s (.int .i64))]),(467,[(7,.s (.int .i64))])],en func277 [] [(58,[(3,.s (.int .i64)),(4,.s (.int .i64))])],en func279 [] [(3,[]),(107,[(16,.s .bool)])],en func282 [] [],en func286 [] [(58,[(3,.s (.int .i64)),(9,.s (.int .i64))])],en func287 [] [],en func288 [] [(58,[(15,.s (.int .i64))])],en func289 [] [],en func290 [(1,.k (.s .blk))] [(3,[])]] (by conv=>lhs;reduce) (by kernel_rfl) λ x=>by
 dsimp only[fj,fh,ff,fe,fk,fm,fq,tF,iP,en,sV,wrap,dc,dn,qA,gU,tW,U.I,U.B,U.S,U.N,U.A,U.O,U.W,U.V,U.L,U.U6,U.C,U.M,U.F,U.E,tP,tN,tI,oo,jU,gJ,kr,jq,TJ,Nat.reduceSub,Nat.reduceAdd,Int.reduceOfNat,Int.reduceNeg,UInt8.reduceOfNat] at x
 exact x
def vE:=ld.2.1
def By:=ld.2.2.2.2.1
def yz:=(p6 ld).1
def Bz:=(p6 (p6 ld)).1
def yj:=(p6 (p6 ld)).2.1
def tL:=(p6 (p6 ld)).2.2.1
def DW:=(p6 (p6 ld)).2.2.2.1
def yl:=(p6 (p6 ld)).2.2.2.2.1
def qi:=many uj [en func291 [] [(235,[(13,.s .bool)])],en func292 [] [(26,[(5,.s .bool)]),(14,[(15,.s .bool)])],en func293 [] [(15,[(5,.s .map)]),(7866,[(32,.s (.int .i64))]),(31482,[(5,.s .map),(47,.s (.int .i64))]),(1007582,[]),(503802,[])],en func295 [] [(30,[(8,.s (.int .i64)),(9,.s (.int .i64))]),(484,[])],en func296 [(1,.k (.s .blk)),(2,.k (.s .blk))] [],en func297 [] [(58,[(7,.s (.int .i64)),(14,.s (.int .i64))]),(467,[(7,.s (.int .i64))])],en func299 [(1,.k (.s .blk)),(2,.k (.s .blk))] [(58,[(5,.s (.int .i64)),(12,.s (.int .i64))]),(467,[(5,.s (.int .i64))]),(122,[(5,.s (.int .i64)),(29,.s (.int .i64))]),(979,[(5,.s (.int .i64))])],en func328 [(1,.k (.s .blk))] [],en func330 [(1,.k (.s .blk)),(2,.k (.s .blk))] [],en func331 [] [(7,[(19,.s .bool)])],en func332 [] [(14,[])],en func333 [] [(250,[]),(32054,[])]] (by conv=>lhs;reduce) (by kernel_rfl) λ x=>by
 dsimp only[fj,fh,ff,fe,fk,fm,fq,tF,iP,en,sV,wrap,dc,dn,qA,gU,tW,U.I,U.B,U.S,U.N,U.A,U.O,U.W,U.V,U.L,U.U6,U.C,U.M,U.F,U.E,tP,tN,tI,oo,jU,gJ,kr,jq,TJ,Nat.reduceSub,Nat.reduceAdd,Int.reduceOfNat,Int.reduceNeg,UInt8.reduceOfNat] at x
 exact x
def DX:=qi.1
def Ab:=qi.2.1
def yE:=qi.2.2.1
def Aa:=(p6 qi).2.1
noncomputable def jk(n1:Int)(u1:I6)(n2:Int)(a1:OA)(l1:Nat)(c1:Nat)(u2:I6)(r1:Nat)(r2:Nat)(n3:Int)(u3:I6)(n4:Int)(a2:OA)(l2:Nat)(c2:Nat)(n5:Int)(u4:I6)(n6:Int)(u5:I6)(n7:Int)(r3:Nat)(r4:Nat)(x1:Nat->Value)(r5:Nat)(u6:I6)(v1:Value):Tm:=[.agg (iv n1 :: u1.on [iv n2,.slice a1 l1 c1]:List Value).toArray,.agg u2.vs.toArray,qp r1,qp r2,qn,qz,iv n5,iv n6,iv n7,qp r3,qp r4,qp r5,undef,.agg (iv n3 :: u3.on [iv n4,.slice a2 l2 c2]:List Value).toArray,iv n5,iv n5,.bool (n5 !=0),undef,.agg u4.vs.toArray,iv n6,iv n6,.bool (n6 !=0),undef,.agg u5.vs.toArray,iv n7,iv n7,.bool (n7==0),x1 27,x1 28,x1 29,x1 30,x1 31,.agg u6.vs.toArray,v1,undef,undef,undef,undef,undef,undef,undef,undef,undef,undef,undef,undef,undef,undef,undef]
noncomputable def iV(n1:Int)(u1:I6)(n2:Int)(a1:OA)(l1:Nat)(c1:Nat)(u2:I6)(r1:Nat)(r2:Nat)(n3:Int)(u3:I6)(n4:Int)(a2:OA)(l2:Nat)(c2:Nat)(n5:Int)(u4:I6)(n6:Int)(u5:I6)(n7:Int)(r3:Nat)(r4:Nat)(x1:Nat->Value)(r5:Nat)(u6:I6)(v1:Value)(fn:FuncId)(D:Nat):Loop:={ state:=.ready,pending:=none,fn:=fn,tmps:=(jk n1 u1 n2 a1 l1 c1 u2 r1 r2 n3 u3 n4 a2 l2 c2 n5 u4 n6 u5 n7 r3 r4 x1 r5 u6 v1).toArray,params:=Td (gq Tryz.f231) 2042,assign:=Tb (gq Tryz.f231) 2042,body:=Tc (gq Tryz.f231) 2042,defers:=D }
def kq(a:Int)(b:I6)(c:Int)(d:OA)(e:Nat)(f:Nat)(g:I6)(h:Nat)(i:Nat)(j:Int)(k:I6)(l:Int)(m:OA)(n:Nat)(o:Nat)(p:Int)(q:I6)(r:Int)(s:I6)(t:Int)(u:Nat)(v:Nat)(x:Nat->Value)(y:Nat)(z:I6)(A:Value)(B:Nat)(C:I6)(w:af)(K:Bool->qW):Prop:=cR w (.cells z6.vs.toArray 42) λ a b=>uP (qd a 0) 0 C.vs b λ b=>∃ c,b.heap[B]?=some (.loop c)/\c.state=.ready/\∃ d e f,(World.putObj b B (.loop { c with state:=.busy })).drew.cell? (qd u 0)=some (.slice d e f)/\∃ g,(World.putObj b B (.loop { c with state:=.busy })).drew.cell? (qd y 0)=some (iv g)/\∃ h:Option Nat,(World.putObj b B (.loop { c with state:=.busy })).drew.cell? (qd v 0)=some (.map h)/\∃ j:I6,aA (World.putObj b B (.loop { c with state:=.busy })).drew (qd a 0) 0 j.vs/\gi prog (Instr.lookup 348 (.map h) (.agg j.vs.toArray) false) (World.putObj b B (.loop { c with state:=.busy })).drew λ b c=>∃ h,b=(iv h)/\c.cell? (qd y 0)=some (iv g)/\c.cell? (qd u 0)=some (.slice d e f)/\bO d λ b=>0<=g/\g<(e:Int)/\fL c (Addr.add b ((g).toNat*1)) (iv h) λ b=>∃ c:I6,aA b (qd i 0) 0 c.vs/\∃ d:I6,aA b (qd a 0) 0 d.vs/\∃ a,b.cell? (qd y 0)=some (iv a)/\CC 295 #[.agg c.vs.toArray,.agg d.vs.toArray,iv a,.func (.func 296) #[] #[qp u,qp y]] b λ a b=>a=.returned (.tuple #[])/\∃ a,b.cell? (qd y 0)=some (iv a)/\fL b (qd y 0) (iv (IntKind.i64.wrap (a+1))) λ a=>∃ b,a.heap[B]?=some (.loop b)/\K true (World.putObj a B (.loop { b with state:=.ready,pending:=none }))
def nF{n1:Int}{u1:I6}{n2:Int}{a1:OA}{l1:Nat}{c1:Nat}{u2:I6}{r1:Nat}{r2:Nat}{n3:Int}{u3:I6}{n4:Int}{a2:OA}{l2:Nat}{c2:Nat}{n5:Int}{u4:I6}{n6:Int}{u5:I6}{n7:Int}{r3:Nat}{r4:Nat}{x1:Nat->Value}{r5:Nat}{u6:I6}{v1:Value}{a:Nat}{b:I6}{w:af}{K:Bool->af->Prop}{r:Loop}(d:w.heap[a]?=some (.loop r))(e:r.tmps=(jk n1 u1 n2 a1 l1 c1 u2 r1 r2 n3 u3 n4 a2 l2 c2 n5 u4 n6 u5 n7 r3 r4 x1 r5 u6 v1).toArray)(hp:r.params=Td (gq Tryz.f231) 2042)(ha:r.assign=Tb (gq Tryz.f231) 2042)(c:r.body=Tc (gq Tryz.f231) 2042)(h:kq n1 u1 n2 a1 l1 c1 u2 r1 r2 n3 u3 n4 a2 l2 c2 n5 u4 n6 u5 n7 r3 r4 x1 r5 u6 v1 a b w K):pK prog a #[.agg b.vs.toArray] w K:=Hp (Bq []) (args:=[.agg b.vs.toArray]) d e hp ha c (by kernel_rfl) (by kernel_rfl) (by kernel_rfl) h
def qq(a:Int)(b:I6)(c:Int)(d:OA)(e f:Nat)(g:I6)(w:af)(K:KP):=cR w (.cells (iv a :: b.on [iv c,.slice d e f]:List Value).toArray 120) λ h i=>cR i (.cells g.vs.toArray 42) λ i j=>∃ k,∃ l:I6,∃ m n o p,aA j (qd h 0) 0 (iv k :: l.on [iv m,.slice n o p])/\CC 230 #[.agg (iv k :: l.on [iv m,.slice n o p]:List Value).toArray] j λ j q=>∃ r,j=.returned (iv r)/\cond (r !=0) (K (.tuple #[qn,iv r]) q) (∃ j:I6,aA q (qd i 0) 0 j.vs/\CC 73 #[.agg j.vs.toArray] q λ q s=>∃ t,q=.returned (iv t)/\cond (t !=0) (K (.tuple #[qn,iv t]) s) (∃ q:I6,aA s (qd i 0) 0 q.vs/\CC 128 #[.agg q.vs.toArray] s λ s u=>∃ v,s=.returned (iv v)/\cond (v==0) (K (.tuple #[qn,iv 3]) u) (∃ s:Nat->Nat->qW,(∀ x y z,s y z x->∀ A:qv,cR x (.cells #[qz] 3) λ x B=>fL B (qd x 0) qz λ B=>∃ C:I6,aA B (qd i 0) 0 C.vs/\CC 294 #[.agg C.vs.toArray] B λ B D=>∃ E:Value,B=.returned E/\AM prog E λ B F=>Ew prog B F (iV a b c d e f g h i k l m n o p r j t q v y z A x C E) D (λ a=>∃ b c d,a.cell? (qd y 0)=some (.slice b c d)/\a.heap[D.heap.size]?=some (.deferred (some []))/\K (.tuple #[.slice b c d,qz]) (World.putObj a D.heap.size (.deferred none))) (λ _=>False) [])/\∃ a,∃ b:I6,∃ c d e f,aA u.drew (qd h 0) 0 (iv a :: b.on [iv c,.slice d e f])/\∃ g:I6,aA u.drew (qd i 0) 0 g.vs/\(gi prog (Instr.makeSlice 249 (iv v) (iv v)) u.drew λ j k=>∃ l m n,j=(.slice l m n)/\aA k (qd i 0) 0 g.vs/\aA k (qd h 0) 0 (iv a :: b.on [iv c,.slice d e f])/\(CC 293 #[.agg (iv a :: b.on [iv c,.slice d e f]:List Value).toArray,.agg g.vs.toArray] k λ j o=>∃ p:Option Nat,j=.returned (.map p)/\(cR o (.cells #[qn] 249) λ j q=>cR q (.cells #[.map none] 348) λ q r=>fL r (qd j 0) (.slice l m n) λ r=>fL r (qd q 0) (.map p) λ r=>s j q r)/\cR o (.cells #[.map none] 348) λ j o=>cR o (.cells #[qn] 249) λ o q=>fL q (qd o 0) (.slice l m n) λ q=>fL q (qd j 0) (.map p) λ p=>s o j p)/\(cR k (.cells #[qn] 249) λ j o=>aA o (qd i 0) 0 g.vs/\aA o (qd h 0) 0 (iv a :: b.on [iv c,.slice d e f])/\(CC 293 #[.agg (iv a :: b.on [iv c,.slice d e f]:List Value).toArray,.agg g.vs.toArray] o λ p q=>∃ r:Option Nat,p=.returned (.map r)/\cR q (.cells #[.map none] 348) λ p q=>fL q (qd j 0) (.slice l m n) λ q=>fL q (qd p 0) (.map r) λ q=>s j p q)/\cR o (.cells #[.map none] 348) λ o p=>aA p (qd i 0) 0 g.vs/\aA p (qd h 0) 0 (iv a :: b.on [iv c,.slice d e f])/\CC 293 #[.agg (iv a :: b.on [iv c,.slice d e f]:List Value).toArray,.agg g.vs.toArray] p λ p q=>∃ r:Option Nat,p=.returned (.map r)/\fL q (qd j 0) (.slice l m n) λ p=>fL p (qd o 0) (.map r) λ p=>s j o p)/\cR k (.cells #[.map none] 348) λ j k=>aA k (qd i 0) 0 g.vs/\aA k (qd h 0) 0 (iv a :: b.on [iv c,.slice d e f])/\(CC 293 #[.agg (iv a :: b.on [iv c,.slice d e f]:List Value).toArray,.agg g.vs.toArray] k λ o p=>∃ q:Option Nat,o=.returned (.map q)/\cR p (.cells #[qn] 249) λ o p=>fL p (qd o 0) (.slice l m n) λ p=>fL p (qd j 0) (.map q) λ p=>s o j p)/\cR k (.cells #[qn] 249) λ k o=>aA o (qd i 0) 0 g.vs/\aA o (qd h 0) 0 (iv a :: b.on [iv c,.slice d e f])/\CC 293 #[.agg (iv a :: b.on [iv c,.slice d e f]:List Value).toArray,.agg g.vs.toArray] o λ o p=>∃ q:Option Nat,o=.returned (.map q)/\fL p (qd k 0) (.slice l m n) λ l=>fL l (qd j 0) (.map q) λ l=>s k j l)/\(CC 293 #[.agg (iv a :: b.on [iv c,.slice d e f]:List Value).toArray,.agg g.vs.toArray] u.drew λ j k=>∃ l:Option Nat,j=.returned (.map l)/\(gi prog (Instr.makeSlice 249 (iv v) (iv v)) k λ j m=>∃ n o p,j=(.slice n o p)/\(cR m (.cells #[qn] 249) λ j q=>cR q (.cells #[.map none] 348) λ q r=>fL r (qd j 0) (.slice n o p) λ r=>fL r (qd q 0) (.map l) λ r=>s j q r)/\cR m (.cells #[.map none] 348) λ j m=>cR m (.cells #[qn] 249) λ m q=>fL q (qd m 0) (.slice n o p) λ n=>fL n (qd j 0) (.map l) λ n=>s m j n)/\(cR k (.cells #[qn] 249) λ j m=>(gi prog (Instr.makeSlice 249 (iv v) (iv v)) m λ n o=>∃ p q r,n=(.slice p q r)/\cR o (.cells #[.map none] 348) λ n o=>fL o (qd j 0) (.slice p q r) λ o=>fL o (qd n 0) (.map l) λ o=>s j n o)/\cR m (.cells #[.map none] 348) λ m n=>gi prog (Instr.makeSlice 249 (iv v) (iv v)) n λ n o=>∃ p q r,n=(.slice p q r)/\fL o (qd j 0) (.slice p q r) λ n=>fL n (qd m 0) (.map l) λ n=>s j m n)/\cR k (.cells #[.map none] 348) λ j k=>(gi prog (Instr.makeSlice 249 (iv v) (iv v)) k λ m n=>∃ o p q,m=(.slice o p q)/\cR n (.cells #[qn] 249) λ m n=>fL n (qd m 0) (.slice o p q) λ n=>fL n (qd j 0) (.map l) λ n=>s m j n)/\cR k (.cells #[qn] 249) λ k m=>gi prog (Instr.makeSlice 249 (iv v) (iv v)) m λ m n=>∃ o p q,m=(.slice o p q)/\fL n (qd k 0) (.slice o p q) λ m=>fL m (qd j 0) (.map l) λ l=>s k j l)/\(cR u.drew (.cells #[qn] 249) λ j k=>aA k (qd i 0) 0 g.vs/\aA k (qd h 0) 0 (iv a :: b.on [iv c,.slice d e f])/\(gi prog (Instr.makeSlice 249 (iv v) (iv v)) k λ l m=>∃ n o p,l=(.slice n o p)/\aA m (qd i 0) 0 g.vs/\aA m (qd h 0) 0 (iv a :: b.on [iv c,.slice d e f])/\(CC 293 #[.agg (iv a :: b.on [iv c,.slice d e f]:List Value).toArray,.agg g.vs.toArray] m λ l q=>∃ r:Option Nat,l=.returned (.map r)/\cR q (.cells #[.map none] 348) λ l q=>fL q (qd j 0) (.slice n o p) λ q=>fL q (qd l 0) (.map r) λ q=>s j l q)/\cR m (.cells #[.map none] 348) λ l m=>aA m (qd i 0) 0 g.vs/\aA m (qd h 0) 0 (iv a :: b.on [iv c,.slice d e f])/\CC 293 #[.agg (iv a :: b.on [iv c,.slice d e f]:List Value).toArray,.agg g.vs.toArray] m λ m q=>∃ r:Option Nat,m=.returned (.map r)/\fL q (qd j 0) (.slice n o p) λ m=>fL m (qd l 0) (.map r) λ m=>s j l m)/\(CC 293 #[.agg (iv a :: b.on [iv c,.slice d e f]:List Value).toArray,.agg g.vs.toArray] k λ l m=>∃ n:Option Nat,l=.returned (.map n)/\(gi prog (Instr.makeSlice 249 (iv v) (iv v)) m λ l o=>∃ p q r,l=(.slice p q r)/\cR o (.cells #[.map none] 348) λ l o=>fL o (qd j 0) (.slice p q r) λ o=>fL o (qd l 0) (.map n) λ o=>s j l o)/\cR m (.cells #[.map none] 348) λ l m=>gi prog (Instr.makeSlice 249 (iv v) (iv v)) m λ m o=>∃ p q r,m=(.slice p q r)/\fL o (qd j 0) (.slice p q r) λ m=>fL m (qd l 0) (.map n) λ m=>s j l m)/\cR k (.cells #[.map none] 348) λ k l=>aA l (qd i 0) 0 g.vs/\aA l (qd h 0) 0 (iv a :: b.on [iv c,.slice d e f])/\(gi prog (Instr.makeSlice 249 (iv v) (iv v)) l λ m n=>∃ o p q,m=(.slice o p q)/\aA n (qd i 0) 0 g.vs/\aA n (qd h 0) 0 (iv a :: b.on [iv c,.slice d e f])/\CC 293 #[.agg (iv a :: b.on [iv c,.slice d e f]:List Value).toArray,.agg g.vs.toArray] n λ m n=>∃ r:Option Nat,m=.returned (.map r)/\fL n (qd j 0) (.slice o p q) λ m=>fL m (qd k 0) (.map r) λ m=>s j k m)/\CC 293 #[.agg (iv a :: b.on [iv c,.slice d e f]:List Value).toArray,.agg g.vs.toArray] l λ l m=>∃ n:Option Nat,l=.returned (.map n)/\gi prog (Instr.makeSlice 249 (iv v) (iv v)) m λ l m=>∃ o p q,l=(.slice o p q)/\fL m (qd j 0) (.slice o p q) λ l=>fL l (qd k 0) (.map n) λ l=>s j k l)/\cR u.drew (.cells #[.map none] 348) λ j k=>aA k (qd i 0) 0 g.vs/\aA k (qd h 0) 0 (iv a :: b.on [iv c,.slice d e f])/\(gi prog (Instr.makeSlice 249 (iv v) (iv v)) k λ l m=>∃ n o p,l=(.slice n o p)/\aA m (qd i 0) 0 g.vs/\aA m (qd h 0) 0 (iv a :: b.on [iv c,.slice d e f])/\(CC 293 #[.agg (iv a :: b.on [iv c,.slice d e f]:List Value).toArray,.agg g.vs.toArray] m λ l q=>∃ r:Option Nat,l=.returned (.map r)/\cR q (.cells #[qn] 249) λ l q=>fL q (qd l 0) (.slice n o p) λ q=>fL q (qd j 0) (.map r) λ q=>s l j q)/\cR m (.cells #[qn] 249) λ l m=>aA m (qd i 0) 0 g.vs/\aA m (qd h 0) 0 (iv a :: b.on [iv c,.slice d e f])/\CC 293 #[.agg (iv a :: b.on [iv c,.slice d e f]:List Value).toArray,.agg g.vs.toArray] m λ m q=>∃ r:Option Nat,m=.returned (.map r)/\fL q (qd l 0) (.slice n o p) λ m=>fL m (qd j 0) (.map r) λ m=>s l j m)/\(CC 293 #[.agg (iv a :: b.on [iv c,.slice d e f]:List Value).toArray,.agg g.vs.toArray] k λ l m=>∃ n:Option Nat,l=.returned (.map n)/\(gi prog (Instr.makeSlice 249 (iv v) (iv v)) m λ l o=>∃ p q r,l=(.slice p q r)/\cR o (.cells #[qn] 249) λ l o=>fL o (qd l 0) (.slice p q r) λ o=>fL o (qd j 0) (.map n) λ o=>s l j o)/\cR m (.cells #[qn] 249) λ l m=>gi prog (Instr.makeSlice 249 (iv v) (iv v)) m λ m o=>∃ p q r,m=(.slice p q r)/\fL o (qd l 0) (.slice p q r) λ m=>fL m (qd j 0) (.map n) λ m=>s l j m)/\cR k (.cells #[qn] 249) λ k l=>aA l (qd i 0) 0 g.vs/\aA l (qd h 0) 0 (iv a :: b.on [iv c,.slice d e f])/\(gi prog (Instr.makeSlice 249 (iv v) (iv v)) l λ m n=>∃ o p q,m=(.slice o p q)/\aA n (qd i 0) 0 g.vs/\aA n (qd h 0) 0 (iv a :: b.on [iv c,.slice d e f])/\CC 293 #[.agg (iv a :: b.on [iv c,.slice d e f]:List Value).toArray,.agg g.vs.toArray] n λ h i=>∃ m:Option Nat,h=.returned (.map m)/\fL i (qd k 0) (.slice o p q) λ h=>fL h (qd j 0) (.map m) λ h=>s k j h)/\CC 293 #[.agg (iv a :: b.on [iv c,.slice d e f]:List Value).toArray,.agg g.vs.toArray] l λ a b=>∃ c:Option Nat,a=.returned (.map c)/\gi prog (Instr.makeSlice 249 (iv v) (iv v)) b λ a b=>∃ d e f,a=(.slice d e f)/\fL b (qd k 0) (.slice d e f) λ a=>fL a (qd j 0) (.map c) λ a=>s k j a)))
def uS{n1 u1 n2 a1 l1 c1 u2 w K}(h:qq n1 u1 n2 a1 l1 c1 u2 w K):CP 231 #[.agg (iv n1 :: u1.on [iv n2,.slice a1 l1 c1]:List Value).toArray,.agg u2.vs.toArray] w K:=qZ (Bq [(63,[(9,.s (.blk)),(10,.s (.blk))])]) func231 (by kernel_rfl) (by kernel_rfl) h
noncomputable def jw(a1:OA)(l1:Nat)(c1:Nat)(u1:I6)(r1:Nat)(r2:Nat)(a2:OA)(l2:Nat)(c2:Nat)(a3:OA)(l3:Nat)(c3:Nat)(r3:Nat)(a4:OA)(l4:Nat)(c4:Nat)(a5:OA)(l5:Nat)(c5:Nat)(_e1:Value)(r4:Nat)(r5:Nat)(u2:I6)(v1:Value):Tm:=[.slice a1 l1 c1,.agg u1.vs.toArray,qp r1,qp r2,qn,qz,qp r3,qp r4,qp r5,undef,undef,.slice a2 l2 c2,iv (l2:Int),.slice a3 l3 c3,.slice a4 l4 c4,.slice a5 l5 c5,_e1,.agg u2.vs.toArray,v1,undef,undef,undef,undef,undef,undef,undef,undef,undef,undef,undef,undef,undef,undef,undef,undef,undef,undef,undef,undef,undef,undef,undef,undef,undef,undef,undef,undef,undef,undef,undef,undef,undef,undef,undef,undef,undef,undef,undef]
noncomputable def jh(a1:OA)(l1:Nat)(c1:Nat)(u1:I6)(r1:Nat)(r2:Nat)(a2:OA)(l2:Nat)(c2:Nat)(a3:OA)(l3:Nat)(c3:Nat)(r3:Nat)(a4:OA)(l4:Nat)(c4:Nat)(a5:OA)(l5:Nat)(c5:Nat)(_e1:Value)(r4:Nat)(r5:Nat)(u2:I6)(v1:Value)(fn:FuncId)(D:Nat):Loop:={ state:=.ready,pending:=none,fn:=fn,tmps:=(jw a1 l1 c1 u1 r1 r2 a2 l2 c2 a3 l3 c3 r3 a4 l4 c4 a5 l5 c5 _e1 r4 r5 u2 v1).toArray,params:=Td (gq Tryz.f232) 506,assign:=Tb (gq Tryz.f232) 506,body:=Tc (gq Tryz.f232) 506,defers:=D }
def kD(a:OA)(b:Nat)(c:Nat)(d:I6)(e:Nat)(f:Nat)(g:OA)(h:Nat)(i:Nat)(j:OA)(k:Nat)(l:Nat)(m:Nat)(n:OA)(o:Nat)(p:Nat)(q:OA)(r:Nat)(s:Nat)(_e1:Value)(t:Nat)(u:Nat)(v:I6)(x:Value)(y:Nat)(z:I6)(w:af)(K:Bool->qW):Prop:=cR w (.cells z6.vs.toArray 42) λ a b=>uP (qd a 0) 0 z.vs b λ b=>∃ c,b.heap[y]?=some (.loop c)/\c.state=.ready/\∃ d:I6,aA (World.putObj b y (.loop { c with state:=.busy })) (qd f 0) 0 d.vs/\∃ f:I6,aA (World.putObj b y (.loop { c with state:=.busy })) (qd a 0) 0 f.vs/\∃ g h i,(World.putObj b y (.loop { c with state:=.busy })).cell? (qd m 0)=some (.slice g h i)/\CC 297 #[.agg d.vs.toArray,.agg f.vs.toArray,.slice g h i] (World.putObj b y (.loop { c with state:=.busy })) λ b c=>∃ d,b=.returned (iv d)/\∃ b:qW,(∀ f,b f->∀ g:qv,∃ g h i,f.drew.cell? (qd m 0)=some (.slice g h i)/\∃ i,f.drew.cell? (qd u 0)=some (iv i)/\∃ j k l,f.drew.cell? (qd m 0)=some (.slice j k l)/\∃ l,f.drew.cell? (qd u 0)=some (iv l)/\bO j λ j=>0<=l/\l<(k:Int)/\∃ k,f.drew.cell? (Addr.add j ((l).toNat*1))=some (iv k)/\bO g λ g=>0<=i/\i<(h:Int)/\fL f.drew (Addr.add g ((i).toNat*1)) (iv (if d>k then d else k)) λ f=>∃ g,f.cell? (qd u 0)=some (iv g)/\fL f (qd u 0) (iv (IntKind.i64.wrap (g+1))) λ f=>∃ g,f.heap[y]?=some (.loop g)/\K true (World.putObj f y (.loop { g with state:=.ready,pending:=none })))/\∃ f:Bool->qW,(∀ g h,f h g->∀ i:qv,cond h (∃ h i j,g.drew.cell? (qd t 0)=some (.slice h i j)/\∃ k:I6,aA g.drew (qd a 0) 0 k.vs/\∃ a l m,g.drew.cell? (qd e 0)=some (.slice a l m)/\∃ m,g.drew.cell? (qd u 0)=some (iv m)/\bO a λ a=>0<=m/\m<(l:Int)/\∃ l,g.drew.cell? (Addr.add a ((m).toNat*1))=some (iv l)/\cR g.drew (.cells (qz :: k.on [iv l]:List Value).toArray 233) λ a k=>k.cell? (qd t 0)=some (.slice h i j)/\gi prog (Builtin.append_ #[229,229] 229 #[.slice h i j,.slice (some (qd a 0)) 1 1]) k λ a h=>∃ i j k,a=(.slice i j k)/\fL h (qd t 0) (.slice i j k) λ a=>b a) (b g))/\∃ a,c.cell? (qd u 0)=some (iv a)/\cond (decide (a>0)) (∃ a b g,c.cell? (qd e 0)=some (.slice a b g)/\∃ e,c.cell? (qd u 0)=some (iv e)/\bO a λ a=>0<=e/\e<(b:Int)/\∃ b,c.cell? (Addr.add a ((e).toNat*1))=some (iv b)/\f (decide (b>d)) c) (f false c)
def oq{a1:OA}{l1:Nat}{c1:Nat}{u1:I6}{r1:Nat}{r2:Nat}{a2:OA}{l2:Nat}{c2:Nat}{a3:OA}{l3:Nat}{c3:Nat}{r3:Nat}{a4:OA}{l4:Nat}{c4:Nat}{a5:OA}{l5:Nat}{c5:Nat}{_e1:Value}{r4:Nat}{r5:Nat}{u2:I6}{v1:Value}{a:Nat}{u3:I6}{w:af}{K:Bool->af->Prop}{r:Loop}(c:w.heap[a]?=some (.loop r))(d:r.tmps=(jw a1 l1 c1 u1 r1 r2 a2 l2 c2 a3 l3 c3 r3 a4 l4 c4 a5 l5 c5 _e1 r4 r5 u2 v1).toArray)(hp:r.params=Td (gq Tryz.f232) 506)(ha:r.assign=Tb (gq Tryz.f232) 506)(b:r.body=Tc (gq Tryz.f232) 506)(h:kD a1 l1 c1 u1 r1 r2 a2 l2 c2 a3 l3 c3 r3 a4 l4 c4 a5 l5 c5 _e1 r4 r5 u2 v1 a u3 w K):pK prog a #[.agg u3.vs.toArray] w K:=Hp (Bq [(13,[]),(26,[(33,.s .bool)])]) (args:=[.agg u3.vs.toArray]) c d hp ha b (by kernel_rfl) (by kernel_rfl) (by kernel_rfl) h
def qh(a:OA)(b c:Nat)(d:I6)(w:af)(K:KP):=cR w (.cells #[.slice a b c] 249) λ e f=>cR f (.cells d.vs.toArray 42) λ f g=>∃ h i j,g.cell? (qd e 0)=some (.slice h i j)/\gi prog (Instr.makeSlice 249 (iv (i:Int)) (iv (i:Int))) g λ g k=>∃ l m n,g=(.slice l m n)/\cR k (.cells #[qn] 249) λ g k=>fL k (qd g 0) (.slice l m n) λ k=>∃ o p q,k.cell? (qd g 0)=some (.slice o p q)/\∃ r s t,k.cell? (qd e 0)=some (.slice r s t)/\gi prog (Builtin.copy_ #[249,249] 3 #[.slice o p q,.slice r s t]) k λ _e1 k=>cR k (.cells #[qn] 229) λ k u=>cR u (.cells #[qz] 3) λ u v=>fL v (qd u 0) qz λ v=>∃ x:I6,aA v (qd f 0) 0 x.vs/\CC 294 #[.agg x.vs.toArray] v λ v y=>∃ z:Value,v=.returned z/\AM prog z λ v A=>Ew prog v A (jh a b c d e f h i j l m n g o p q r s t _e1 k u x z) y (λ a=>∃ b c d,a.cell? (qd k 0)=some (.slice b c d)/\cond (decide ((c:Int)>(40:Int))) (a.heap[y.heap.size]?=some (.deferred (some []))/\K (.tuple #[qn,iv 3]) (World.putObj a y.heap.size (.deferred none))) (∃ b c d,a.cell? (qd k 0)=some (.slice b c d)/\a.heap[y.heap.size]?=some (.deferred (some []))/\K (.tuple #[.slice b c d,qz]) (World.putObj a y.heap.size (.deferred none)))) (λ _=>False) []
def uz{a1 l1 c1 u1 w K}(h:qh a1 l1 c1 u1 w K):CP 232 #[.slice a1 l1 c1,.agg u1.vs.toArray] w K:=qZ (Bq []) func232 (by kernel_rfl) (by kernel_rfl) h
end Go.Proofs.YtjcfdidmajodiaaGreatDoor
namespace Go.Proofs.YtjcfdidmajodiaaGreatDoor
open Go Go.Vc _root_.Go.Proofs.Tryz
def Ma:List UInt8:=[120,111,114,32,111,114,32,98,111,110,117,115,32,108,105,109,105,116,32]
def Pb:List (List UInt8×Int):=[([120,111,114],2),([111,114],3),([98,111,110,117,115],4),([108,105,109,105,116],5)]
def L9:List (List UInt8×Int)->List UInt8->Int
 | [],_=>0
 | x :: l,nm=>if x.1=nm then x.2 else L9 l nm
def xQ(nm:List UInt8):Int:=L9 Pb nm
def Gj(k:Nat):Nat:=(Ma.take k).count 32
def Gi(g:Nat):Nat:=[0,4,7,13,19].getD g 0
def VT:∀ k,k<19->Utf8.decode (bs Ma) k=((Ma.getD k 0).toNat,1):=by decide
def SF:∀ k,k<19->(Ma.getD k 0).toNat≠32->Gj (k+1)=Gj k:=by decide
def SG:∀ k,k<19->(Ma.getD k 0).toNat=32->Gj (k+1)=Gj k+1/\Gj k<4/\Pb[Gj k]?=some ((Ma.drop (Gi (Gj k))).take (k-Gi (Gj k)),2+(Gj k:Int))/\Gi (Gj k+1)=k+1/\Gi (Gj k)<=k:=by decide
def O9{g:Nat}{nm:List UInt8}{x:List UInt8×Int}(b:Pb[g]?=some x)(c:x.1≠nm):L9 (Pb.drop (g+1)) nm=L9 (Pb.drop g) nm:=by
 have a:=(aR.1 b).1;rw[jC a,L9];have:Pb[g]=x:=qP ((gE a).symm.trans b);rw[this,ah c]
def SE{g:Nat}{nm:List UInt8}{x:List UInt8×Int}(b:Pb[g]?=some x)(c:x.1=nm):L9 (Pb.drop g) nm=x.2:=by
 have a:=(aR.1 b).1;rw[jC a,L9];have:Pb[g]=x:=qP ((gE a).symm.trans b);rw[this,ak c]
def VU(w:af)(nm:List UInt8):CP 277 #[sv nm] w (λ r w'=>r=iv (xQ nm)/\aC w w' []):=by
 refine(p6 ld).2.2.2.1 ?_;refine GW underlying9 (St.start w).one (bs Ma) λ r1 o s1=>?_;refine⟨λ n1 n2 h m=>∃ k:Nat,k<=19/\m=19-k/\n1=2+(Gj k:Int)/\n2=Gi (Gj k)/\L9 (Pb.drop (Gj k)) nm=xQ nm/\St w h (Sep [dQ r1 (.stringIter (bs Ma) k),emp]),⟨19,0,by omega,by omega,rfl,rfl,rfl,s1⟩,?_⟩;rintro h m n1 n2 ⟨k,n,hm,rfl,rfl,d,s2⟩ -;have f:(bs Ma).size=19:=rfl;refine Ix s2 0 rfl (λ hp=>?_) (λ hp p e=>?_)
 ·obtain rfl:k=19:=by omega
  exact⟨by rw[<- d]; rfl,s2.av⟩
 ·rw[f] at hp;rw[VT k hp] at e ⊢;show cond (((Ma.getD k 0).toNat:Int) !=32) _ _
  by_cases b:(Ma.getD k 0).toNat=32
  ·obtain⟨a,j,g,i,l⟩:=SG k hp b;refine cF (by rw[b]; rfl) ⟨by omega,by show(k:Int)<=19; omega,by omega,by omega,?_⟩;show cond ((((bs Ma).extract ((Gi (Gj k):Int)).toNat ((k:Int)).toNat)).toList==(bs nm).toList) _ _;rw[aD,aD,zS,fG,fG]
   by_cases c:(Ma.drop (Gi (Gj k))).take (k-Gi (Gj k))=nm
   ·exact cT (by rw[c]; simp) ⟨by rw[<- d,SE g c],e.av⟩
   ·refine cF (by simpa using c) ⟨19-(k+1),by omega,k+1,by omega,rfl,?_,?_,?_,e⟩
    ·rw[cA (by omega),a]; omega
    ·rw[cA (by omega),a,i]; omega
    ·rw[a,O9 g c,d]
  ·have a:=SF k hp b;refine cT (yL.2 (by omega)) ⟨19-(k+1),by omega,k+1,by omega,rfl,by rw[a],by rw[a],by rw[a]; exact d,e⟩
def uG(σ:Sc):Sc:=if (aT σ.1 σ.2).k=0 then σ.fail 1 else if (aT σ.1 σ.2).k≠3\/(aT σ.1 σ.2).t≠[123] then σ.fail 2 else σ
def KD(ps:List Pr)(σ:Sc):Sc:=(fF ps (uG σ)).2.exp [64]
def aZ(ps:List Pr)(σ:Sc):(I6×Int)×Sc:=(((fF ps (uG σ)).1,gW 1000000 (KD ps σ).1 (KD ps σ).2),(KD ps σ).kJ 1000000)
def Gq{w0 w:af}{p:Nat}{σ:Sc}{B:aI}{a:OA}{c:Nat}{l:List Pr}(h:kR w0 w p σ B)(M:∀ {w'},aC w0 w' []->fS w' a l)(hc:l.length<=c)(L:dH l) :
  CP 279 #[.agg #[.slice a l.length c,pt p]] w (λ r w'=>r=.tuple #[.agg (aZ l σ).1.1.vs.toArray,iv (aZ l σ).1.2]/\kR w0 w' p (aZ l σ).2 B):=by
 refine(p6 ld).2.2.2.2.1 ?_;refine aG #[.slice a l.length c,pt p] λ r1 W s1=>s1.aB z6.vs.toArray λ r2 U s2=>?_;let Fr:I6->aI:=λ b=>star (Sep [aj r2 b.vs.toArray 42,aj r1 #[.slice a l.length c,pt p] 301,emp]) B;have h2:kR w0 U p σ (Fr z6):=h.add s2;have i:∀ {w':af} {σ':Sc} {b:I6},kR w0 w' p σ' (Fr b)->St w0 w' (Sep [aj r2 b.vs.toArray 42,aj r1 #[.slice a l.length c,pt p] 301,emp]):=λ h=>h.frame.first;refine⟨λ J=>kR w0 J p (uG σ) (Fr z6),?_,?_⟩
 ·rintro J h3 -;have u:=i h3;refine⟨_,_,_,u.ag 1 rfl 0,_,u.ag 1 rfl 1,au (Wp h3 M hc L) ?_⟩;rintro v X ⟨rfl,h4⟩;refine⟨_,rfl,aG z6.vs.toArray λ r3 Y N=>N.az 0 rfl (fF l (uG σ)).1.vs rfl (I6.one _) λ Z O=>?_⟩;have I:=h4.add O;have j:∀ {w':af} {σ':Sc} {m:List aI},kR w0 w' p σ' (star (Sep m) (Fr z6))->St w0 w' (Sep [aj r2 z6.vs.toArray 42,aj r1 #[.slice a l.length c,pt p] 301,emp]):=λ h=>i h.drop;refine⟨_,(j I).ag 1 rfl 1,au (jT I [64]) ?_⟩;rintro v H ⟨rfl,C⟩;have C:kR w0 H p (KD l σ) _:=C;have D:=C.quiet (aC.drew H []);have P:St w0 H.drew (Sep [_,_]):=D.frame.first;refine⟨rfl,_,P.cellsIn 0 rfl,_,(j D).ag 1 rfl 1,au (xC D 1000000) ?_⟩;rintro v K ⟨rfl,q⟩;have q:kR w0 K p ((KD l σ).kJ 1000000) _:=q;have Q:St w0 K (Sep [_,_]):=q.frame.first;obtain⟨V,E,back⟩:=q.drop.out;exact⟨_,rfl,Q.cellsIn 0 rfl,E.az 0 rfl _ rfl (I6.one _) λ F e=>⟨_,e.cellsIn 0 rfl,rfl,(back (m':=[_,_,_]) e).drop⟩⟩
 ·have u:=i h2;refine⟨_,u.ag 1 rfl 1,au (tA h2) ?_⟩;rintro v R ⟨rfl,y⟩;refine⟨_,_,_,_,rfl,aG kF.cells.toArray λ r4 F e=>e.az 0 rfl (aT σ.1 σ.2).cells rfl (Tk.one _) λ G f=>⟨_,f.ag 0 rfl 0,?_⟩⟩;have d:=(h2.quiet y).quiet f.av
  by_cases n:(aT σ.1 σ.2).k=0
  ·refine cT (by simpa using n) ⟨_,(i d).ag 1 rfl 1,au (mH d 1) ?_⟩;rintro v S ⟨rfl,z⟩;exact⟨rfl,by rw[uG,ak n]; exact z⟩
  ·refine cF (by simpa using n) ⟨λ x o=>x=decide ((aT σ.1 σ.2).k≠3\/(aT σ.1 σ.2).t≠[123])/\o=G,?_,_,f.ag 0 rfl 0,?_⟩
   ·rintro o x ⟨rfl,rfl⟩ -
    by_cases g:(aT σ.1 σ.2).k≠3\/(aT σ.1 σ.2).t≠[123]
    ·refine aP g ⟨_,(i d).ag 1 rfl 1,au (mH d 2) ?_⟩;rintro v T ⟨rfl,A⟩;exact⟨rfl,by rw[uG,ah n,ak g]; exact A⟩
    ·exact aU g (by rw[uG,ah n,ah g]; exact d)
   ·by_cases h3:(aT σ.1 σ.2).k=3
    ·refine cF (by simpa using h3) ⟨_,f.ag 0 rfl 1,?_,rfl⟩;rw[fG,fG]
     by_cases s:(aT σ.1 σ.2).t=[123]
     ·rw[dF (by rintro(h|h); exact h h3; exact h s),s]; rfl
     ·rw[dT (Or.inr s)]; simpa using s
    ·exact cT (by simpa using h3) ⟨by rw[dT (Or.inl h3)],rfl⟩
inductive Xv where
 | mk (op:Int) (u:I6) (v:Int) (a:OA) (c:Nat) (args:List Xv)
def Xv.op:Xv->Int|.mk op _ _ _ _ _=>op
def Xv.u:Xv->I6|.mk _ u _ _ _ _=>u
def Xv.v:Xv->Int|.mk _ _ v _ _ _=>v
def Xv.a:Xv->Option Addr|.mk _ _ _ a _ _=>a
def Xv.c:Xv->Nat|.mk _ _ _ _ c _=>c
def Xv.args:Xv->List Xv|.mk _ _ _ _ _ l=>l
def Xv.cells(x:Xv):List Value:=iv x.op :: x.u.on [iv x.v,.slice x.a x.args.length x.c]
theorem Xv.len(x:Xv):x.cells.length=9:=rfl
theorem Xv.one(x:Xv):∀ v∈x.cells,v.oneCell'=true:=by
 intro v a; simp[Xv.cells,I6.on] at a; rcases a with rfl|rfl|rfl|rfl|rfl|rfl|rfl|rfl|rfl<;>rfl
mutual
def Xv.er:Xv->Xv
 | .mk op u v _ _ args=>.mk op u v none 0 (Xv.YR args)
def Xv.YR:List Xv->List Xv
 | []=>[]
 | x :: l=>Xv.er x :: Xv.YR l
end
theorem Xv.H7:∀ l:List Xv,Xv.YR l=l.map Xv.er
 | []=>rfl
 | x :: l=>by rw[Xv.YR,Xv.H7 l]; rfl
theorem Xv.mQ(x:Xv):x.er=.mk x.op x.u x.v none 0 (x.args.map Xv.er):=by cases x; rw[Xv.er,Xv.H7]; rfl
inductive Xv.In (w:af):Xv->Prop where
 | mk {x:Xv} (h:cP 9 Xv.cells w x.a x.args) (k:∀ y∈x.args,Xv.In w y):Xv.In w x
theorem Xv.In.fl{w:af}{x:Xv}(h:x.In w):cP 9 Xv.cells w x.a x.args:=by cases h; assumption
theorem Xv.In.sub{w:af}{x:Xv}(h:x.In w):∀ y∈x.args,y.In w:=by cases h; assumption
theorem Xv.In.av{w w':af}{x:Xv}(h:x.In w)(hc:aC w w' []):x.In w':=by
 induction h with
 | mk h k a=>exact .mk (h.av hc) a
def cI:Xv:=.mk 0 z6 0 none 0 []
theorem Be:cI.er=cI:=by rw[Xv.mQ]; rfl
theorem P8:j7 prog 88 120 (.agg cI.cells.toArray) 9 88:=j7.mk' underlying88 (by kernel_rfl) rfl (by decide)
abbrev uX (a:OA) (c:Nat) (l:List Xv):aI:=dK 120 9 Xv.cells a c l
abbrev yh (l:List Xv) (w:af):Prop:=∀ x∈l,x.In w
def fz(g:Sc->Xv×Sc)(σ:Sc):Xv×Sc:=if σ.2≠0 then (cI,σ) else g σ
def iL(g:Sc->Xv×Sc):Nat->List Xv->Sc->List Xv×Sc
 | 0,acc,σ=>(acc,σ)
 | n+1,acc,σ=>if fO [44] σ.1 σ.2 then iL g n (acc++[(fz g (σ.acc [44])).1]) (fz g (σ.acc [44])).2 else (acc,σ)
def dW(t:Tk):Int:=if t.k=1 then xQ t.t else 1
def tg(σ:Sc):Sc:=if dW (aT σ.1 σ.2)=0 then σ.fail 2 else σ
def FB(ps:List Pr)(g:Sc->Xv×Sc)(op:Int)(a1:Xv)(σ:Sc):Xv×Sc :=
 if op=2\/op=3 then (.mk op z6 0 none 0 (iL g σ.1.length [a1] σ).1,(iL g σ.1.length [a1] σ).2.exp [41])
 else if op=4 then (.mk op (aZ ps (σ.exp [44])).1.1 (aZ ps (σ.exp [44])).1.2 none 0 [a1],(aZ ps (σ.exp [44])).2.exp [41])
 else if op=5 then (.mk op z6 (gW 1000000 (σ.exp [44]).1 (σ.exp [44]).2) none 0 [a1],((σ.exp [44]).kJ 1000000).exp [41])
 else (.mk op z6 0 none 0 [a1],σ.exp [41])
def qG(σ:Sc):Sc:=(tg σ).next.exp [40]
def fU(ps:List Pr):Nat->Sc->Xv×Sc
 | 0,σ=>(cI,σ)
 | f+1,σ =>
  if dW (aT σ.1 σ.2)=1 then (.mk 1 (aZ ps (tg σ)).1.1 (aZ ps (tg σ)).1.2 none 0 [],(aZ ps (tg σ)).2)
  else FB ps (fU ps f) (dW (aT σ.1 σ.2)) (fz (fU ps f) (qG σ)).1 (fz (fU ps f) (qG σ)).2
theorem rz(m:List UInt8)(σ:Sc):(σ.exp m).1.length<=σ.1.length:=iD _ _ _
theorem GZ(ps:List Pr):∀ (f:Nat) (b:I6) (σ:Sc),(lR ps f b σ).2.1.length<=σ.1.length
 | 0,_,_=>aO _
 | f+1,b,σ=>by
  rw[lR]
  split
  ·exact cC (GZ ps f _ _) (cC (y7 _ _ _) (iD _ _ _))
  ·exact aO _
theorem Ts(ps:List Pr)(σ:Sc):(fF ps σ).2.1.length<=σ.1.length:=by
 unfold fF
 split
 ·exact aO _
 ·split
  ·exact cC (iD _ _ _) (iD _ _ _)
  ·have h1:(xY ps (σ.exp [123])).2.1.length<=(lR ps (eu ps z6 (σ.exp [123])).2.1.length (eu ps z6 (σ.exp [123])).1 (eu ps z6 (σ.exp [123])).2).2.1.length:=by
    unfold xY ob
    split
    ·exact iD _ _ _
    ·exact iD _ _ _
   exact cC h1 (cC (GZ ps _ _ _) (cC (y7 _ _ _) (iD _ _ _)))
theorem V0(σ:Sc):(uG σ).1.length<=σ.1.length:=by unfold uG; split; exact aO _; split; exact aO _; exact aO _
theorem oZ(ps:List Pr)(σ:Sc):(aZ ps σ).2.1.length<=σ.1.length :=
 cC (wN _ _ _) (cC (iD _ _ _) (cC (Ts _ _) (V0 _)))
theorem H9(σ:Sc):(tg σ).1.length<=σ.1.length:=by unfold tg; split; exact aO _; exact aO _
theorem DP(σ:Sc):(qG σ).1.length<=σ.1.length:=cC (iD _ _ _) (cC (zi _ _) (H9 σ))
section
variable {g:Sc->Xv×Sc} (hg:∀ σ,(g σ).2.1.length<=σ.1.length)
include hg
theorem yY(σ:Sc):(fz g σ).2.1.length<=σ.1.length:=by unfold fz; split; exact aO _; exact hg _
theorem E8:∀ (n:Nat) (acc:List Xv) (σ:Sc),(iL g n acc σ).2.1.length<=σ.1.length
 | 0,_,_=>aO _
 | n+1,acc,σ=>by
  rw[iL]
  split
  ·exact cC (E8 n _ _) (cC (yY hg _) (iD _ _ _))
  ·exact aO _
theorem Vi(ps:List Pr)(op:Int)(a1:Xv)(σ:Sc):(FB ps g op a1 σ).2.1.length<=σ.1.length:=by
 unfold FB
 split
 ·exact cC (iD _ _ _) (E8 hg _ _ _)
 ·split
  ·exact cC (iD _ _ _) (cC (oZ _ _) (iD _ _ _))
  ·split
   ·exact cC (iD _ _ _) (cC (wN _ _ _) (iD _ _ _))
   ·exact iD _ _ _
end
theorem DQ(ps:List Pr):∀ (f:Nat) (σ:Sc),(fU ps f σ).2.1.length<=σ.1.length
 | 0,_=>aO _
 | f+1,σ=>by
  rw[fU]
  split
  ·exact cC (oZ _ _) (H9 σ)
  ·exact cC (Vi (DQ ps f) _ _ _ _) (cC (yY (DQ ps f) _) (DP σ))
theorem Vl{m:List UInt8}{σ:Sc}(h:(σ.exp m).2=0):σ.2=0:=by
 unfold Sc.exp vB at h;simp only at h
 split at h
 ·exact h
 ·unfold gx cK at h
  split at h
  ·assumption
  ·exact h
theorem Ia{σ:Sc}(h1:dW (aT σ.1 σ.2)≠1)(h:(qG σ).2=0):(qG σ).1.length<σ.1.length:=by
 have h2:(tg σ).2=0:=Vl (σ:=(tg σ).next) h;have h3:dW (aT σ.1 σ.2)≠0:=λ d=>by
  unfold tg at h2;rw[ak d] at h2;unfold Sc.fail cK at h2;simp only at h2
  split at h2
  ·cases h2
  ·rename_i e; exact e h2
 have c:tg σ=σ:=by rw[tg,ah h3]
 have a:(aT σ.1 σ.2).k=1:=by
  unfold dW at h1
  split at h1
  ·assumption
  ·exact absurd rfl h1
 rw[c] at h2;have b:(eL σ.1 σ.2).length<σ.1.length:=by
  rw[eL,ak h2];rw[aT,ak h2] at a
  cases hl:σ.1 with
  | nil=>rw[hl] at a; cases a
  | cons x l=>simp
 rw[qG,c];exact JD (iD _ _ _) b
theorem Xv.ind{P:Xv->Prop}(h:∀ x,(∀ y∈x.args,P y)->P x):∀ x,P x
 | .mk op u v a c args=>h _ λ y b=>Xv.ind h y
 termination_by x=>SizeOf.sizeOf x
 decreasing_by
  have:y∈args:=b;have:=List.sizeOf_lt_of_mem this
  simp_wf; omega
mutual
def bJ:Xv->Nat
 | .mk _ _ _ _ _ args=>1+(K2 args).sum
def K2:List Xv->List Nat
 | []=>[]
 | x :: l=>bJ x :: K2 l
end
mutual
def ku:Xv->Nat
 | .mk _ _ _ _ _ args=>(RC args).foldl Nat.max 0+1
def RC:List Xv->List Nat
 | []=>[]
 | x :: l=>ku x :: RC l
end
theorem G4:∀ l:List Xv,K2 l=l.map bJ
 | []=>rfl
 | x :: l=>by rw[K2,G4 l]; rfl
theorem J4:∀ l:List Xv,RC l=l.map ku
 | []=>rfl
 | x :: l=>by rw[RC,J4 l]; rfl
def jz(x:Xv):bJ x=1+(x.args.map bJ).sum:=by cases x; rw[bJ,G4]; rfl
def pM(x:Xv):ku x=(x.args.map ku).foldl Nat.max 0+1:=by cases x; rw[ku,J4]; rfl
theorem EP:∀ {l:List Nat} {x:Nat},x∈l->x<=l.sum
 | y :: l,x,h=>by
  rw[yQ];rcases cJ.1 h with rfl|h
  ·omega
  ·have:=EP h; omega
def sj{x y:Xv}(h:y∈x.args):bJ y<bJ x:=by
 have:=EP (gP (f:=bJ) h);rw[jz x]; omega
def size_pos(x:Xv):1<=bJ x:=by rw[jz]; omega
def qY(x:Xv):x.args.length<bJ x:=by
 rw[jz];have:∀ l:List Xv,l.length<=(l.map bJ).sum:=λ l=>by
  induction l with
  | nil=>simp
  | cons y l a=>have:=size_pos y; simp only[gm,jm,yQ]; omega
 have:=this x.args; omega
theorem vG{n:Nat}:∀ {l:List Nat} {a:Nat},a<=n->(∀ x∈l,x<=n)->l.foldl Nat.max a<=n
 | [],_,h,_=>h
 | x :: l,a,h,k=>by
  rw[fM];exact vG (Nat.max_le.2 ⟨h,k x (by simp)⟩) λ y b=>k y (by simp[b])
def HW:∀ x,ku x<=bJ x:=Xv.ind λ x b=>by
 rw[pM,jz];have:(x.args.map ku).foldl Nat.max 0<=(x.args.map bJ).sum:=vG (jJ _) λ d hd=>by
  obtain⟨y,a,rfl⟩:=bL.1 hd;exact cC (b y a) (EP (gP a))
 omega
def td(x:Xv):x.er.args=x.args.map Xv.er:=by rw[Xv.mQ]; rfl
def EJ:∀ x,bJ x.er=bJ x:=Xv.ind λ x b=>by
 rw[jz,jz x,td,eG]
 congr 2
 exact dz λ y a=>b y a
def U4:∀ x,ku x.er=ku x:=Xv.ind λ x b=>by
 rw[pM,pM x,td,eG]
 congr 2
 exact dz λ y a=>b y a
mutual
def dh{S:Type}(step:S->Xv->S×Bool):Xv->S->S×Bool
 | .mk op u v a c args,s=>if (step s (.mk op u v a c args)).2 then Hj step args ((step s (.mk op u v a c args)).1,true) else ((step s (.mk op u v a c args)).1,false)
def Hj{S:Type}(step:S->Xv->S×Bool):List Xv->S×Bool->S×Bool
 | [],r=>r
 | x :: l,r=>Hj step l (if r.2 then dh step x r.1 else r)
end
def jA{S:Type}(step:S->Xv->S×Bool)(l:List Xv)(r:S×Bool):S×Bool:=l.foldl (λ r y=>if r.2 then dh step y r.1 else r) r
theorem Hl{S:Type}(step:S->Xv->S×Bool):∀ (l:List Xv) (r:S×Bool),Hj step l r=jA step l r
 | [],r=>by rw[Hj]; rfl
 | x :: l,r=>by rw[Hj,Hl step l]; rfl
def nq{S:Type}(step:S->Xv->S×Bool)(x:Xv)(s:S):dh step x s=if (step s x).2 then jA step x.args ((step s x).1,true) else ((step s x).1,false):=by
 cases x
 rw[dh,Hl]; rfl
def Ll{S:Type}{step:S->Xv->S×Bool}(c:∀ s x,step s x.er=step s x):∀ (x:Xv) (s:S),dh step x.er s=dh step x s:=Xv.ind λ x e s=>by
 rw[nq,nq step x,c,td]
 congr 1
 have:∀ (l:List Xv) (r:S×Bool),(∀ y∈l,∀ s,dh step y.er s=dh step y s)->jA step (l.map Xv.er) r=jA step l r:=λ l=>by
  induction l with
  | nil=>intro r _; rfl
  | cons y l a =>
   intro r b;unfold jA at a ⊢;rw[jm,fM,fM,b y (by simp)];exact a _ λ z d=>b z (by simp[d])
 exact this _ _ e
section
variable {w0:af}
def RD:∀ (x:Xv),bJ x<=100000->∀ w,x.In w->CP 286 #[.agg x.cells.toArray] w (λ r w'=>r=iv (ku x)/\aC w w' []):=Xv.ind λ x l z w f=>by
 refine @Bz _ x.u _ _ _ _ _ _ ?_;have t:=qY x;refine aG x.cells.toArray λ r1 A s1=>⟨_,_,_,s1.ag 0 rfl 8,?_⟩;refine⟨λ n i g m=>∃ k:Nat,i=k/\k<=x.args.length/\m=x.args.length-k/\n=(((x.args.take k).map ku).foldl Nat.max 0:Nat)/\aC w g [],⟨x.args.length,0,rfl,by omega,by omega,rfl,s1.av⟩,?_⟩;rintro g m n i ⟨k,rfl,s,hm,rfl,c2⟩ -
 by_cases a:(k:Int)<(x.args.length:Int)
 ·obtain⟨y,c⟩:=bx x.args k (by omega);have hm:=bf c;obtain⟨q,h,b⟩:=(f.av c2).fl.at c;refine aP a (aq h ⟨by omega,by omega,_,y.u,_,_,_,_,b,(St.start' c2).one.aB cI.cells.toArray λ r2 B o=>o.az 0 rfl y.cells rfl y.one λ p e=>⟨_,y.u,_,_,_,_,e.cellsIn 0 rfl,?_⟩⟩);have j:=sj hm;refine au (l y hm (by omega) p ((f.av e.av).sub y hm)) ?_;rintro v C ⟨rfl,c5⟩;refine⟨_,rfl,x.args.length-(k+1),by omega,k+1,cA (by omega),by omega,rfl,?_,(e.quiet c5).av⟩;rw[aH c,bP,iJ];show _=((Nat.max _ (ku y):Nat):Int);generalize((x.args.take k).map ku).foldl Nat.max 0=d;have:Nat.max d (ku y)=if ku y>d then ku y else d:=by
   show max _ _=_;rw[Nat.max_def]
   split<;>split<;>omega
  rw[this]
  split<;>split<;>omega
 ·obtain rfl:k=x.args.length:=by omega
  have hd:=HW x;rw[pM] at hd;rw[br];refine aU a ⟨?_,c2⟩;rw[pM];generalize(x.args.map ku).foldl Nat.max 0=d at hd ⊢;rw[cA (by omega),vi]; rfl
variable {S:Type} {step:S->Xv->S×Bool} {A:S->aI} {v:Value}
def Ji(L:∀ (w:af) (B:aI) (s:S) (y:Xv) (R:Ending->af->Prop),St w0 w (star (A s) B)->y.In w->bJ y<=100000->(∀ w',St w0 w' (star (A (step s y).1) B)->R (.returned (.bool (step s y).2)) w')->lK prog v #[.agg y.cells.toArray] w R) :
  ∀ (x:Xv),bJ x<=100000->(∀ {w'},aC w0 w' []->x.In w')->∀ (w:af) (B:aI) (s:S),St w0 w (star (A s) B) ->
  CP 288 #[.agg #[v],.agg x.cells.toArray] w (λ r w'=>r=.bool (dh step x s).2/\St w0 w' (star (A (dh step x s).1) B)):=Xv.ind λ x t N o w B s h=>by
 refine @tL _ _ x.u _ _ _ _ _ _ ?_;have V:=qY x;refine(h.Cz).aB #[v] λ r1 W s1=>s1.aB x.cells.toArray λ r2 G s2=>?_;let M:S->List aI:=λ s=>[A s,aj r2 x.cells.toArray 120,aj r1 #[v] 346,B];have F:St w0 G (Sep (M s)):=s2.ay [2,0,1,3];have d:∀ {w':af} {s:S},St w0 w' (Sep (M s))->St w0 w' (star (A s) B):=λ h=>(h.ay [0,3]).pair;refine⟨_,s2.ag 1 rfl 0,_,x.u,_,_,_,_,s2.cellsIn 0 rfl,L G _ s x _ F (o F.av) N λ Q g=>⟨_,rfl,?_⟩⟩;have g:St w0 Q (Sep (M (step s x).1)):=g;have e:=nq step x s
 cases hb:(step s x).2 with
 | false =>
  rw[ah (by rw[hb]; decide)] at e;exact cT rfl ⟨by rw[e],by rw[e]; exact d g⟩
 | true =>
  rw[ak hb] at e;refine cF rfl ⟨_,_,_,g.ag 1 rfl 8,?_⟩;refine⟨λ i H m=>∃ (k:Nat) (a:S),i=k/\k<=x.args.length/\m=x.args.length-k/\jA step (x.args.drop k) (a,true)=dh step x s/\St w0 H (Sep (M a)),⟨x.args.length,0,_,rfl,by omega,by omega,e.symm,g⟩,?_⟩;rintro H m i ⟨k,a,rfl,U,hm,hw,C⟩ -
  by_cases f:(k:Int)<(x.args.length:Int)
  ·have b:k<x.args.length:=by omega
   have p:x.args[k]?=some (x.args[k]'b):=gE b;rw[jC b] at hw;generalize x.args[k]'b=y at p hw;have hm:=bf p;obtain⟨q,K,n⟩:=(o C.av).fl.at p;refine aP f (aq K ⟨by omega,by omega,_,y.u,_,_,_,_,n,C.aB cI.cells.toArray λ r3 X O=>O.az 0 rfl y.cells rfl y.one λ I D=>⟨_,D.cellsIn 3 rfl,_,y.u,_,_,_,_,D.cellsIn 0 rfl,?_⟩⟩);have P:St w0 I (Sep (M a)):=D.ay [1,2,3,4];refine au (t y hm (by have:=sj hm; omega) (λ hc=>(o hc).sub y hm) I _ a P) ?_;rintro r T ⟨rfl,j⟩;have j:St w0 T (Sep (M (dh step y a).1)):=j;refine⟨_,rfl,?_⟩;rw[jA,fM,ak rfl] at hw
   cases c:(dh step y a).2 with
   | true =>
    have E:dh step y a=((dh step y a).1,true):=by rw[<- c]
    rw[E] at hw;exact cF rfl ⟨x.args.length-(k+1),by omega,k+1,_,cA (by omega),by omega,rfl,hw,j⟩
   | false =>
    have E:dh step y a=((dh step y a).1,false):=by rw[<- c]
    have J:∀ (l:List Xv) (r:S×Bool),r.2=false->l.foldl (λ r y=>if r.2 then dh step y r.1 else r) r=r:=λ l=>by
     induction l with
     | nil=>intro r _; rfl
     | cons z l t=>intro r c; rw[fM,ah (by rw[c]; decide),t r c]
    rw[J _ _ c] at hw;exact cT rfl ⟨by rw[<- hw,c],by rw[<- hw]; exact d j⟩
  ·obtain rfl:k=x.args.length:=by omega
   rw[pE] at hw;exact aU f ⟨by rw[<- hw]; rfl,by rw[<- hw]; exact d C⟩
end
section
variable {w0:af} {p:Nat} {B:aI}
def oh.uk{w:af}{l:List Tk}{e:Int}{b:aI}(h:oh w0 w p l e B)(k:bz B b):oh w0 w p l e b:=by
 obtain⟨a,c,h1,h2,s⟩:=h;exact⟨a,c,h1,h2,s.weak (bz.right (bz.right (bz.left k)))⟩
def oh.push{w:af}{l:List Tk}{e:Int}{A:aI}{m:List aI}(h:oh w0 w p l e (star A (star (Sep m) B))):oh w0 w p l e (star (Sep (A :: m)) B):=h.uk bX.assoc'.weak
abbrev Xd (a:OA) (c:Nat) (l:List Pr) (p:Nat):Array Value:=#[.slice a l.length c,pt p]
def TX(w0:af)(p:Nat)(a:OA)(c:Nat)(l:List Pr)(f:Nat):Prop :=
 ∀ (B:aI) (σ:Sc) (w:af),σ.1.length<f->kR w0 w p σ B ->
  CP 228 #[.agg (Xd a c l p)] w (λ r w'=>∃ x:Xv,x.er=(fU l f σ).1/\r=.agg x.cells.toArray/\kR w0 w' p (fU l f σ).2 (star (held x.In) B))
variable {a:OA} {c:Nat} {l:List Pr}
def T6{f:Nat}(H:TX w0 p a c l f){σ:Sc}{w:af}(h:kR w0 w p σ B)(n:σ.2=0->σ.1.length<f) :
  CP 282 #[.agg (Xd a c l p)] w (λ r w'=>∃ x:Xv,x.er=(fz (fU l f) σ).1/\r=.agg x.cells.toArray/\kR w0 w' p (fz (fU l f) σ).2 (star (held x.In) B)):=by
 refine(p6 ld).2.2.2.2.2.1 ?_;refine aG (Xd a c l p) λ r1 s s1=>s1.aB cI.cells.toArray λ r2 j s2=>?_;have h2:=h.add s2;refine⟨_,s2.ag 1 rfl 1,au (AW h2) ?_⟩;rintro v j ⟨rfl,rfl⟩;refine⟨_,rfl,?_⟩
 by_cases he:σ.2=0
 ·have d:fz (fU l f) σ=fU l f σ:=by rw[fz,ah (by simpa using he)]
  rw[d];refine cF (by simpa using he) ⟨_,_,_,_,s2.cellsIn 1 rfl,au (H _ σ j (n he) h2) ?_⟩;rintro v t ⟨x,ex,rfl,m⟩;obtain⟨k,g,back⟩:=m.push.out;exact⟨_,x.u,_,_,_,_,rfl,g.az 1 rfl x.cells rfl (Xv.one _) λ q b=>⟨_,x.u,_,_,_,_,b.cellsIn 1 rfl,x,ex,rfl,(back (m':=[held x.In,_,_,_]) b).uk (bX.assoc.weak.trans (bz.right ((bz.left (bz.none _)).trans (bX.swap.trans (bX.unit' B)).weak)))⟩⟩
 ·have d:fz (fU l f) σ=(cI,σ):=by rw[fz,ak he]
  rw[d];obtain⟨k,g,back⟩:=h2.out;refine cT (by simpa using he) (g.az 0 rfl cI.cells rfl (Xv.one _) λ q b=>⟨_,z6,_,_,_,_,b.cellsIn 0 rfl,cI,Be,rfl,?_⟩);have o:=b.jx (Q:=cI.In) λ w=>.mk (λ i y e=>by simp[cI,Xv.args] at e) (λ y e=>by simp[cI,Xv.args] at e);exact(back (m':=[held cI.In,_,_,_]) o).uk (bX.assoc.weak.trans (bz.right ((bz.left (bz.none _)).trans (bX.swap.trans (bX.unit' B)).weak)))
end
section
variable {w0:af} {p:Nat} {B:aI} {a:OA} {c:Nat} {l:List Pr}
def Fw{A C:aI}{m:List aI}:bz (star (Sep (A :: m)) C) (star A C):=bX.assoc.weak.trans (bz.right ((bz.left (bz.none _)).trans (bX.swap.trans (bX.unit' C)).weak))
def Vh(x:Xv)(b:Tk)(r1 r2 r3 r4:Nat)(a:OA)(c:Nat)(l:List Pr)(p:Nat):List aI :=
 [aj r4 x.cells.toArray 120,uX x.a x.c x.args,held (yh x.args),aj r3 b.cells.toArray 338,aj r2 cI.cells.toArray 120,aj r1 (Xd a c l p) 301,emp]
theorem Ob(hr:∀ {w'},aC w0 w' []->fS w' a l)(hc:l.length<=c)(ho:dH l):∀ f,TX w0 p a c l f
 | 0=>λ _ _ _ h _=>absurd h (sQ _)
 | f+1=>λ B σ w hlen h=>by
  have H:=Ob hr hc ho f;refine ld.2.2.2.1 ?_;refine aG (Xd a c l p) λ r1 w1 s1=>s1.aB cI.cells.toArray λ r2 w2 s2=>⟨_,s2.ag 1 rfl 1,?_⟩;have h2:=h.add s2;refine au (tA h2) ?_;rintro v w3 ⟨rfl,c3⟩;have s3:=s2.quiet c3;generalize E:aT σ.1 σ.2=d at *;refine⟨_,_,_,_,rfl,s3.aB kF.cells.toArray λ r3 w4 s4=>s4.az 0 rfl d.cells rfl (Tk.one _) λ w5 s5=>?_⟩;let m0:List aI:=[aj r3 d.cells.toArray 338,aj r2 cI.cells.toArray 120,aj r1 (Xd a c l p) 301,emp];have h5:kR w0 w5 p σ (star (Sep m0) B):=h.add s5;have fr:∀ {w':af} {σ':Sc} {m:List aI},kR w0 w' p σ' (star (Sep m) B)->St w0 w' (Sep m):=λ h=>h.frame.first;refine⟨λ n w6=>n=dW d/\kR w0 w6 p σ (star (Sep m0) B),?_,?_⟩
  ·rintro w6 _ ⟨rfl,h6⟩ -;refine⟨λ w7=>kR w0 w7 p (tg σ) (star (Sep m0) B),?_,?_⟩
   ·rintro w7 h7 -;obtain⟨B',t7,back⟩:=h7.out;refine t7.aB cI.cells.toArray λ r4 w8 s8=>s8.az 0 rfl (Xv.mk (dW d) z6 0 none 0 []).cells rfl (Xv.one _) λ w9 s9=>?_;have s9:St w0 w9 (Sep (aj r4 (Xv.mk (dW d) z6 0 none 0 []).cells.toArray 120 :: (m0++[B']))):=s9
    by_cases h1:dW d=1
    ·
     have N:fU l (f+1) σ=(.mk 1 (aZ l (tg σ)).1.1 (aZ l (tg σ)).1.2 none 0 [],(aZ l (tg σ)).2):=by rw[fU,E,ak h1]
     have h9:kR w0 w9 p (tg σ) (star (Sep (aj r4 (Xv.mk (dW d) z6 0 none 0 []).cells.toArray 120 :: m0)) B):=back (m':=aj r4 (Xv.mk (dW d) z6 0 none 0 []).cells.toArray 120 :: m0) s9;refine cT (by simpa using h1) ⟨_,_,_,_,s9.cellsIn 3 rfl,au (Gq h9 hr hc ho) ?_⟩;rintro v w10 ⟨rfl,h10⟩;obtain⟨B2,s10,O⟩:=h10.out;let x:Xv:=.mk (dW d) (aZ l (tg σ)).1.1 (aZ l (tg σ)).1.2 none 0 [];refine⟨_,_,rfl,s10.jO 0 1 rfl (Xv.mk (dW d) (aZ l (tg σ)).1.1 0 none 0 []).cells.toArray (show 7<=9 by decide) (I6.one _) rfl λ w11 s11=>s11.aN 0 rfl (j:=7) (show 7<9 by decide) rfl λ w12 Y=>?_⟩;refine⟨_,x.u,_,_,_,_,Y.cellsIn 0 rfl,Y.az 2 rfl x.cells rfl (Xv.one _) λ w13 Z=>⟨_,x.u,_,_,_,_,Z.cellsIn 2 rfl,x,?_,rfl,?_⟩⟩
     ·rw[N,Xv.mQ];show Xv.mk (dW d) _ _ none 0 []=Xv.mk 1 _ _ none 0 [];rw[h1]; rfl
     ·rw[N];have s14:=Z.jx (Q:=x.In) λ w=>.mk (λ i y hy=>by simp[x,Xv.args] at hy) (λ y hy=>by simp[x,Xv.args] at hy);exact(O (m':=[held x.In,_,_,_,_,_]) s14).uk Fw
    ·
     have N:fU l (f+1) σ=FB l (fU l f) (dW d) (fz (fU l f) (qG σ)).1 (fz (fU l f) (qG σ)).2:=by rw[fU,E,ah h1]
     have h1':dW (aT σ.1 σ.2)≠1:=by rw[E]; exact h1
     let x0:Xv:=.mk (dW d) z6 0 none 0 [];have t9:St w0 w9 (Sep (Vh x0 d r1 r2 r3 r4 a c l p++[B'])):=(St.jx (l:=[_,_,_,_,_,_,_]) (s9.dy (e:=120) (sz:=9) (f:=Xv.cells)) (Q:=yh []) (λ w=>by simp[yh])).ay [2,1,0,3,4,5,6,7];let F:Xv->aI:=λ x=>star (Sep (Vh x d r1 r2 r3 r4 a c l p)) B;have h9:kR w0 w9 p (tg σ) (F x0):=back (m':=Vh x0 d r1 r2 r3 r4 a c l p) t9;have o:∀ {w':af} {σ':Sc} {x:Xv},kR w0 w' p σ' (F x)->St w0 w' (Sep (Vh x d r1 r2 r3 r4 a c l p)):=λ h=>h.frame.first;have app:∀ {w':af} {σ':Sc} {x y:Xv} {R:af->Prop},x.args.length<=5000->kR w0 w' p σ' (star (held y.In) (F x)) ->
       (∀ q c8 A,kR w0 A p σ' (F (.mk x.op x.u x.v q c8 (x.args++[y])))->R A) ->
       w'.cell? ⟨r4,8,none⟩=some (.slice x.a x.args.length x.c)/\cR w' (.cells (iv y.op :: (y.u.on [iv y.v,.slice y.a y.args.length y.c]):List Value).toArray 120) λ r5 M=>M.cell? ⟨r4,8,none⟩=some (.slice x.a x.args.length x.c) /\
        gi prog (Builtin.append_ #[88,88] 88 #[.slice x.a x.args.length x.c,.slice (qs r5) 1 1]) M λ e6 w18=>∃ (q:OA) (l8 c8:Nat),e6=.slice q l8 c8/\fL w18 ⟨r4,8,none⟩ (.slice q l8 c8) R:=by
      intro w' σ' x y R hxl hA k;obtain⟨B2,t,P⟩:=hA.push.out;refine⟨t.ag 1 rfl 8,t.aB y.cells.toArray λ r5 M t17=>⟨t17.ag 2 rfl 8,?_⟩⟩;have hy1:cP 9 Xv.cells M (qs r5) [y]:=λ i z X=>by
       obtain⟨rfl,rfl⟩:i=0/\z=y:=by
        cases i with
        | zero=>simp at X; exact⟨rfl,X.symm⟩
        | succ i=>simp at X
       exact⟨_,_,rfl,by rw[wK,om]; exact t17.cellsIn 0 rfl,rfl,rfl⟩
      refine bQ P8 Xv.len Xv.one (t17.out 3 rfl) (a2:=qs r5) (c2:=1) (l2:=[y]) hy1 (by simp; omega) (by simp; omega) λ q c8 w18 t18=>?_;have t19:=t18.back (show 3<10 by decide);refine t19.aN 2 rfl (j:=8) (show 8<9 by decide) rfl λ A t20=>k q c8 A ?_;have t21:=(t20.ay [1,4,2,3,5,6,7,8,9]).fX (aW _) (aW _) λ w h1 h2=>(show yh (x.args++[y]) w from λ z X=>(aV.1 X).elim (h2 z) λ e=>by rw[bp.1 e]; exact h1);exact P (m':=Vh (.mk x.op x.u x.v q c8 (x.args++[y])) d r1 r2 r3 r4 a c l p) (t21.ay [1,2,0,3,4,5,6,7])
     refine cF (by simpa using h1) ⟨_,(o h9).ag 5 rfl 1,au (zo h9) ?_⟩;rintro v w14 ⟨rfl,G⟩;have G:kR w0 w14 p (tg σ).next (F x0):=G;refine⟨_,_,_,_,rfl,_,(o G).ag 5 rfl 1,au (jT G [40]) ?_⟩;rintro v w15 ⟨rfl,r⟩;have r:kR w0 w15.drew p (qG σ) (F x0):=r.quiet (aC.drew w15 []);have h4000:(qG σ).1.length<=4000:=by obtain⟨_,_,_,h2,_⟩:=r; exact h2
     refine⟨rfl,_,_,_,(o r).ag 0 rfl 8,_,_,_,_,(o r).cellsIn 5 rfl,au (T6 H r λ he=>by have:=Ia h1' he; omega) ?_⟩;rintro v w16 ⟨y,T,rfl,U⟩;have l3:(fz (fU l f) (qG σ)).2.1.length<=(qG σ).1.length:=yY (DQ l f) _;generalize fz (fU l f) (qG σ)=g at N T U l3;refine⟨_,y.u,_,_,_,_,rfl,app (x:=x0) (by show 0<=5000; omega) U λ q c8 A I=>?_⟩;have I:kR w0 A p g.2 (F (.mk (dW d) z6 0 q c8 [y])):=I;refine⟨λ w20=>∃ (x:Xv) (τ:Sc),x.er=(fU l (f+1) σ).1/\τ.exp [41]=(fU l (f+1) σ).2/\kR w0 w20 p τ (F x),?_,?_⟩
     ·rintro w20 ⟨x,τ,ex,et,V⟩ -;refine⟨_,(o V).ag 5 rfl 1,au (jT V [41]) ?_⟩;rintro v w21 ⟨rfl,J⟩;have J:kR w0 w21 p (τ.exp [41]) (F x):=J;rw[et] at J;obtain⟨B2,t,P⟩:=J.out;refine⟨rfl,_,x.u,_,_,_,_,t.cellsIn 0 rfl,t.az 4 rfl x.cells rfl (Xv.one _) λ w22 t22=>⟨_,x.u,_,_,_,_,t22.cellsIn 4 rfl,x,ex,rfl,?_⟩⟩;have t23:=(t22.ay [1,2,0,3,4,5,6,7]).fX (bn Xv.len) (aW _) λ w h1 h2=>(Xv.In.mk h1 h2:x.In w);exact(P (m':=[held x.In,_,_,_,_,_]) t23).uk Fw
     refine⟨λ b w23=>b=decide (dW d=2\/dW d=3)/\kR w0 w23 p g.2 (F (.mk (dW d) z6 0 q c8 [y])),?_,?_⟩
     ·rintro w23 _ ⟨rfl,s⟩ -
      by_cases g23:dW d=2\/dW d=3
      ·have C:fU l (f+1) σ=(.mk (dW d) z6 0 none 0 (iL (fU l f) g.2.1.length [g.1] g.2).1,(iL (fU l f) g.2.1.length [g.1] g.2).2.exp [41]):=by rw[N,FB,ak g23]
       refine aP g23 ⟨λ w24 m=>∃ (n:Nat) (acc:List Xv) (a':OA) (c':Nat) (σ':Sc),m=σ'.1.length/\σ'.1.length<=n/\acc.length+σ'.1.length<=4001/\σ'.1.length<=(qG σ).1.length/\iL (fU l f) n (acc.map Xv.er) σ'=iL (fU l f) g.2.1.length [g.1] g.2/\kR w0 w24 p σ' (F (.mk (dW d) z6 0 a' c' acc)),⟨_,g.2.1.length,[y],q,c8,g.2,rfl,aO _,by simp; omega,l3,by rw[cV,T],s⟩,?_⟩;rintro w24 m ⟨n,acc,a',c',σ',rfl,hn,hac,hl',he,W⟩ -;refine⟨_,(o W).ag 5 rfl 1,au (tr W [44]) ?_⟩;rintro v w25 ⟨rfl,D⟩;have D:kR w0 w25 p (σ'.acc [44]) (F (.mk (dW d) z6 0 a' c' acc)):=D;refine⟨_,rfl,?_⟩
       cases hb:fO [44] σ'.1 σ'.2 with
       | true =>
        have hlen':=yX hb;obtain⟨n,rfl⟩:∃ k,n=k+1:=⟨n-1,by omega⟩;rw[iL,ak hb] at he;have S:=D.quiet (aC.drew w25 []);have HZ:=DP σ;refine cT rfl ⟨_,_,_,(o S).ag 0 rfl 8,_,_,_,_,(o S).cellsIn 5 rfl,au (T6 H S λ _=>by omega) ?_⟩;rintro v w26 ⟨z,ez,rfl,h27⟩;have l4:(fz (fU l f) (σ'.acc [44])).2.1.length<=(σ'.acc [44]).1.length:=yY (DQ l f) _;refine⟨_,z.u,_,_,_,_,rfl,app (x:=.mk (dW d) z6 0 a' c' acc) (by show acc.length<=5000; omega) h27 λ a9 c9 w29 h29=>⟨_,?_,n,acc++[z],a9,c9,_,rfl,?_,?_,?_,?_,h29⟩⟩
        ·omega
        ·omega
        ·rw[aY,bS]; omega
        ·omega
        ·rw[bP,cV,ez]; exact he
       | false =>
        have ea:=zM hb;rw[ea] at D;have ef:iL (fU l f) n (acc.map Xv.er) σ'=(acc.map Xv.er,σ'):=by
         cases n with
         | zero=>rfl
         | succ n=>rw[iL,ah (by rw[hb]; decide)]
        rw[ef] at he;refine cF rfl ⟨_,σ',?_,?_,D⟩
        ·rw[C,<- he,Xv.mQ]; rfl
        ·rw[C,<- he]
      ·refine aU g23 ?_
       by_cases g4:dW d=4
       ·have C:fU l (f+1) σ=(.mk (dW d) (aZ l (g.2.exp [44])).1.1 (aZ l (g.2.exp [44])).1.2 none 0 [g.1],(aZ l (g.2.exp [44])).2.exp [41]):=by rw[N,FB,ah g23,ak g4]
        refine cT (by simpa using g4) ⟨_,(o s).ag 5 rfl 1,au (jT s [44]) ?_⟩;rintro v w30 ⟨rfl,K⟩;have K:kR w0 w30 p (g.2.exp [44]) (F (.mk (dW d) z6 0 q c8 [y])):=K;refine⟨rfl,_,_,_,_,(o K).cellsIn 5 rfl,au (Gq K hr hc ho) ?_⟩;rintro v w31 ⟨rfl,h31⟩;obtain⟨B2,t,P⟩:=h31.out;refine⟨_,_,rfl,t.jO 0 1 rfl (Xv.mk (dW d) (aZ l (g.2.exp [44])).1.1 0 q c8 [y]).cells.toArray (show 7<=9 by decide) (I6.one _) rfl λ w32 t32=>t32.aN 0 rfl (j:=7) (show 7<9 by decide) rfl λ w33 t33=>⟨.mk (dW d) (aZ l (g.2.exp [44])).1.1 (aZ l (g.2.exp [44])).1.2 q c8 [y],(aZ l (g.2.exp [44])).2,?_,by rw[C],P (m':=Vh (.mk (dW d) (aZ l (g.2.exp [44])).1.1 (aZ l (g.2.exp [44])).1.2 q c8 [y]) d r1 r2 r3 r4 a c l p) t33⟩⟩;rw[C,Xv.mQ,<- T]; rfl
       ·refine cF (by simpa using g4) ?_
        by_cases g5:dW d=5
        ·have C:fU l (f+1) σ=(.mk (dW d) z6 (gW 1000000 (g.2.exp [44]).1 (g.2.exp [44]).2) none 0 [g.1],((g.2.exp [44]).kJ 1000000).exp [41]):=by rw[N,FB,ah g23,ah g4,ak g5]
         refine cT (by simpa using g5) ⟨_,(o s).ag 5 rfl 1,au (jT s [44]) ?_⟩;rintro v w34 ⟨rfl,L⟩;have L:kR w0 w34 p (g.2.exp [44]) (F (.mk (dW d) z6 0 q c8 [y])):=L;refine⟨rfl,_,(o L).ag 5 rfl 1,au (xC L 1000000) ?_⟩;rintro v w35 ⟨rfl,h35⟩;obtain⟨B2,t,P⟩:=h35.out;refine⟨_,rfl,t.aN 0 rfl (j:=7) (show 7<9 by decide) rfl λ w36 t36=>⟨.mk (dW d) z6 (gW 1000000 (g.2.exp [44]).1 (g.2.exp [44]).2) q c8 [y],(g.2.exp [44]).kJ 1000000,?_,by rw[C],P (m':=Vh (.mk (dW d) z6 (gW 1000000 (g.2.exp [44]).1 (g.2.exp [44]).2) q c8 [y]) d r1 r2 r3 r4 a c l p) t36⟩⟩;rw[C,Xv.mQ,<- T]; rfl
        ·have C:fU l (f+1) σ=(.mk (dW d) z6 0 none 0 [g.1],g.2.exp [41]):=by rw[N,FB,ah g23,ah g4,ah g5]
         refine cF (by simpa using g5) ⟨_,g.2,?_,by rw[C],s⟩;rw[C,Xv.mQ,<- T]; rfl
     ·by_cases g2:dW d=2
      ·exact cT (by simpa using g2) ⟨by rw[dT (Or.inl g2)]; simpa using g2,I⟩
      ·refine cF (by simpa using g2) ⟨?_,I⟩
       by_cases g3:dW d=3
       ·rw[dT (Or.inr g3)]; simpa using g3
       ·rw[dF (by rintro(h|h); exact g2 h; exact g3 h)]; simpa using g3
   ·by_cases h0:dW d=0
    ·refine cT (by simpa using h0) ⟨_,(fr h6).ag 2 rfl 1,au (mH h6 2) ?_⟩;rintro v w37 ⟨rfl,h37⟩;exact⟨rfl,by rw[tg,E,ak h0]; exact h37⟩
    ·exact cF (by simpa using h0) (by rw[tg,E,ah h0]; exact h6)
  ·refine⟨_,s5.ag 0 rfl 0,?_⟩
   by_cases hk:d.k=1
   ·refine cT (by simpa using hk) ⟨_,s5.ag 0 rfl 1,au (VU w5 d.t) ?_⟩;rintro v w38 ⟨rfl,c38⟩;exact⟨_,rfl,by rw[dW,ak hk],h5.quiet c38⟩
   ·exact cF (by simpa using hk) ⟨by rw[dW,ah hk],h5⟩
end
structure HI (w:af) (s:Se):Prop where
 i:s.In w
 o:s.Ok
def HI.av{w w':af}{s:Se}(h:HI w s)(hc:aC w w' []):HI w' s:=⟨h.i.av hc,h.o⟩
def Nt{w:af}{s:Se}(h:HI w s){n:Nat}{b:Br}(j:s.bd[n]?=some b){c:Ch}(hc:c.Ok) :
  CP 162 #[.agg s.arr,iv n,c.v] w (λ r w'=>r=iv (tJ b c)/\aC w w' []):=by
 refine rE.2.2.2.2.2.1 ?_;have o:=(aR.1 j).1;refine aG s.arr λ r1 t s1=>s1.aB c.cells.toArray λ r2 u s2=>(Ex8<|Ex4<|⟨s2.cellsIn 1 rfl,au (Oo (s:=s) n) ?_⟩);rintro v m ⟨rfl,c3⟩;have a:=s2.quiet c3;obtain⟨q,l,f⟩:=BR ((h.av a.av).i.bd) j 2 _ rfl;refine⟨_,rfl,cF (by simp; omega) ⟨_,_,_,a.ag 1 rfl 1,?_⟩⟩;rw[l];refine⟨by omega,by omega,_,f,λ g k=>g=decide (b.bud≠0/\b.bud<cost c.p c.want)/\aC w k [],?_,?_⟩
 ·rintro k g ⟨rfl,c4⟩ -
  by_cases e:b.bud≠0/\b.bud<cost c.p c.want
  ·exact aP e ⟨by rw[tJ,ak e],c4⟩
  ·exact aU e ⟨by rw[tJ,ah e],c4⟩
 ·by_cases d:b.bud=0
  ·exact cF (by simp[d]) ⟨by simp[d],a.av⟩
  ·refine cT (by simpa using d) ⟨_,uu a 0 rfl,_,dV a 0 rfl,au (mP m hc.p hc.w) ?_⟩;rintro v x ⟨rfl,c5⟩;exact⟨_,rfl,by simp[d],(a.quiet c5).av⟩
def uc(l:List Ch):Bool:=(l.getLast?.map λ c=>decide (c.want=z6)).getD false
def N9{w:af}{a:OA}{c:Nat}{l:List Ch}(h:xH w a l)(n:l.length<=1000):CP 215 #[.slice a l.length c] w (λ r w'=>r=.bool (uc l)/\w'=w):=by
 refine(p6 (p6 rE)).2.1 ?_
 by_cases i:l.length=0
 ·have:l=[]:=zH i;subst this;exact cF rfl ⟨rfl,rfl⟩
 ·have g:l[l.length-1]?=some (l[l.length-1]'(by omega)):=gE (by omega);have b:l.getLast? = some (l[l.length-1]'(by omega)):=by rw[vj,g]
  generalize l[l.length-1]'(by omega)=x at g b;obtain⟨q,m,f⟩:=h.at g;rw[m];have e:IntKind.i64.wrap ((l.length:Int)-1)=((l.length-1:Nat):Int):=by rw[cA (by omega)]; omega
  rw[e];refine aP (by omega) ⟨by omega,by omega,x.want,?_,?_,rfl⟩
  ·refine bM _ 0 λ j v d=>?_;have k:j<6:=(aR.1 d).1;have:=aM f (6+j) v (by
    match j,k,d with
    | 0,_,d|1,_,d|2,_,d|3,_,d|4,_,d|5,_,d=>simpa[Ch.cells,I6.on,I6.vs] using d)
   rw[aL] at this;rw[Addr.add_add,aL,aD];exact this
  ·rw[uc,b]; simp[I6.beq_eq]
def M7(s:Se)(n:Int)(a:OA)(c:Nat)(l:List Ch):List Value:=[.slice s.a1 s.ps.length s.c1,.slice s.a2 s.bd.length s.c2,.slice s.a3 s.cp.length s.c3,.slice s.a4 s.sa.length s.c4,iv n,.slice a l.length c]
def Ou{w0 w:af}{s:Se}{n:Int}{a:OA}{c:Nat}{l:List Ch}{ls:List aI}{r:Nat}{T:TypeId}(h:St w0 w (Sep ls))(i:Nat)(e:ls[i]?=some (aj r (M7 s n a c l).toArray T)):aA w ⟨r,0,none⟩ 0 s.arr.toList :=
 bM _ 0 λ j v b=>by
  have d:j<4:=(aR.1 b).1;rw[bY,aL,aL,h.ag i e]
  match j,d,b with
  | 0,_,b|1,_,b|2,_,b|3,_,b=>simpa[M7,Se.arr] using b
def Cg{w:af}{s:Se}(h:HI w s){n:Int}{a:OA}{k:Nat}{l:List Ch}{c:Ch}(hc:c.Ok) :
  CP 270 #[.agg (M7 s n a k l).toArray,c.v] w (λ r w'=>r=iv (yw s.ps c.want)/\aC w w' []):=by
 refine vL.2.2.2.2.1 ?_;refine aG (M7 s n a k l).toArray λ r1 b s1=>s1.aB c.cells.toArray λ r2 d s2=>⟨_,_,_,s2.ag 1 rfl 0,_,dV s2 0 rfl,au (Gl ((h.av s2.av).i.ps) h.i.h1 h.o.ps hc.w) ?_⟩;rintro v e ⟨rfl,c3⟩;exact⟨_,rfl,rfl,(s2.quiet c3).av⟩
def FA(s:Se)(b:Br)(l:List Ch):Int:=l.foldl (λ m c=>if yw s.ps c.want<m then yw s.ps c.want else m) b.pts
def Ve{w:af}{s:Se}(h:HI w s){n:Nat}{b:Br}(u:s.bd[n]?=some b){a:OA}{k:Nat}{l:List Ch}(D:xH w a l)(J:l.length<=1000)(B:∀ c∈l,c.Ok) :
  CP 271 #[.agg s.arr,iv n,.slice a l.length k] w (λ r w'=>r=iv (FA s b l)/\aC w w' []):=by
 refine vL.2.2.2.2.2.1 ?_;have K:=(aR.1 u).1;refine aG s.arr λ r1 L s1=>(Ex8<|Ex4<|⟨s1.cellsIn 0 rfl,au (Oo (s:=s) n) ?_⟩);rintro v H ⟨rfl,c2⟩;have s2:=(s1.quiet c2).quiet (aC.drew H []);obtain⟨q,C,e⟩:=BR ((h.av s2.av).i.bd) u 3 _ rfl;refine⟨_,rfl,cF (by simp; omega) (Ex8<|Ex4<|⟨s2.cellsIn 0 rfl,_,_,_,s2.ag 0 rfl 1,?_⟩)⟩;refine aq C ⟨by omega,by omega,_,e,λ m n4 z x=>∃ j:Nat,n4=j/\j<=l.length/\x=l.length-j/\m=FA s b (l.take j)/\St w z (Sep [aj r1 s.arr 73,emp]),⟨l.length,0,rfl,by omega,by omega,rfl,s2⟩,?_⟩;rintro z x m n4 ⟨j,rfl,I,E,rfl,o⟩ -
 by_cases f:(j:Int)<(l.length:Int)
 ·obtain⟨y,g⟩:=bx l j (by omega);obtain⟨F,rfl,d⟩:=(D.av o.av).at g;refine cT (by simpa using f) ⟨by omega,by omega,y.p,y.want,d,o.aB nt.cells.toArray λ r2 M G=>G.az 0 rfl y.cells rfl y.one λ N t=>⟨y.p,y.want,t.cellsIn 0 rfl,?_⟩⟩;have hp:=Cg (n:=(n:Int)) (a:=some F) (k:=k) (l:=l) (h.av t.av) (B y (bf g));refine au hp ?_;rintro v O ⟨rfl,A⟩;refine⟨_,rfl,l.length-(j+1),by omega,j+1,cA (by omega),by omega,rfl,?_,(t.quiet A).ay [1,2]⟩;rw[aH g]; unfold FA; rw[iJ,fM,mh]
 ·obtain rfl:j=l.length:=by omega
  exact cF (by simp) ⟨by rw[br],o.av⟩
def xL(s:Se)(b:Br)(l:List Ch)(c:Ch):Bool:=decide (yw s.ps c.want<=FA s b l)
def Kc{w:af}{s:Se}(h:HI w s){n:Nat}{b:Br}(f:s.bd[n]?=some b){a:OA}{k:Nat}{l:List Ch}(j:xH w a l)(g:l.length<=1000)(i:∀ c∈l,c.Ok){c:Ch}(hc:c.Ok) :
  CP 212 #[.agg (M7 s n a k l).toArray,c.v] w (λ r w'=>r=.bool (xL s b l c)/\aC w w' []):=by
 refine(p6 rE).2.2.2.2.1 ?_;refine aG (M7 s n a k l).toArray λ r1 o s1=>s1.aB c.cells.toArray λ r2 m s2=>?_;have d:=s2.quiet (aC.drew m []);refine Ex8<|Ex8<|⟨d.cellsIn 1 rfl,c.p,c.want,d.cellsIn 0 rfl,Ex8<|Ex4<|⟨Ou d 1 rfl,_,d.ag 1 rfl 4,_,_,_,d.ag 1 rfl 5,au (Cg (n:=n) (a:=a) (k:=k) (l:=l) (h.av d.av) hc) ?_⟩⟩;rintro v q ⟨rfl,c3⟩;have e:=d.quiet c3;refine⟨_,rfl,e.ag 1 rfl 5,e.ag 1 rfl 4,Ou e 1 rfl,au (Ve (h.av e.av) f (j.av e.av) g i) ?_⟩;rintro v t ⟨rfl,c5⟩;exact⟨_,rfl,rfl,(e.quiet c5).av⟩
def wT(c:Ch):Bool:=c.p.l.all kJ&&c.want.l.all iy
def Fl{c:Ch}:wT c=true<->c.Ok:=by
 unfold wT;rw[aX];exact⟨λ h=>⟨o4.1 h.1,Bl h.2⟩,λ h=>⟨o4.2 h.p,leq h.w⟩⟩
def PX(w:af)(c:Ch):CP 351 #[c.v] w (λ r w'=>r=.bool (wT c)/\aC w w' []):=by
 refine R6.2.2.1 ?_;refine aG c.cells.toArray λ r1 h s1=>⟨c.p,uu s1 0 rfl,λ n d m=>∃ k:Nat,n=k/\k<=6/\m=6-k/\(c.p.l.take k).all kJ=true/\d=h,⟨6,0,rfl,by omega,by omega,rfl,rfl⟩,?_⟩;rintro d m n ⟨k,rfl,i,hm,ha,rfl⟩ -
 by_cases e:(k:Int)<6
 ·have a:k<6:=by omega
  refine aP e ⟨by omega,by omega,_,c.p.get k a,λ b g=>b=(!kJ (c.p.at' k))/\g=d,?_,?_⟩
  ·rintro g b ⟨rfl,rfl⟩ -
   cases hx:kJ (c.p.at' k) with
   | true=>exact cF rfl ⟨6-(k+1),by omega,k+1,inc (by decide) a,by omega,rfl,kI ha (c.p.pT k a) hx,rfl⟩
   | false=>exact cT rfl ⟨by rw[wT,mM (c.p.pT k a) hx]; rfl,s1.av⟩
  ·by_cases f:c.p.at' k<0
   ·exact aP f ⟨by simp[kJ]; omega,rfl⟩
   ·refine aU f ⟨?_,rfl⟩;rw[kJ,dT (show 0<=c.p.at' k by omega),bt]
    by_cases h1:c.p.at' k<=1000000
    ·rw[dT h1,dF (by omega)]; rfl
    ·rw[dF h1,dT (by omega)]; rfl
 ·obtain rfl:k=6:=by omega
  refine cF (by simp) ⟨_,dV s1 0 rfl,au (iq d c.want) ?_⟩;rintro v j ⟨rfl,c4⟩;refine⟨_,rfl,?_,(s1.quiet c4).av⟩;rw[wT,show c.p.l.all kJ=true from ha]
  cases c.want.l.all iy<;>rfl
def zP{w:af}{a:OA}{k:Nat}{l:List Ch}(h:xH w a l)(s:l.length<=1000) :
  CP 321 #[.slice a l.length k] w (λ r w'=>r=.bool (l.all wT)/\aC w w' []):=by
 refine(p6 vL).2.2.2.2.1 ?_;refine⟨λ n g m=>∃ j:Nat,n=j/\j<=l.length/\m=l.length-j/\(l.take j).all wT=true/\aC w g [],⟨l.length,0,rfl,by omega,by omega,rfl,aC.refl _ _⟩,?_⟩;rintro g m n ⟨j,rfl,q,hm,ha,hc⟩ -
 by_cases c:(j:Int)<(l.length:Int)
 ·obtain⟨y,d⟩:=bx l j (by omega);obtain⟨t,rfl,b⟩:=(h.av hc).at d;refine cT (by simpa using c) ⟨by omega,by omega,y.p,y.want,b,(St.start' hc).one.aB nt.cells.toArray λ r2 u i=>i.az 0 rfl y.cells rfl y.one λ o e=>⟨y.p,y.want,e.cellsIn 0 rfl,au (PX o y) ?_⟩⟩;rintro v x ⟨rfl,f⟩;refine⟨_,rfl,?_⟩
  cases hy:wT y with
  | true =>
   refine cF rfl (jZ (by omega) ⟨?_,(e.quiet f).av⟩);rw[aH d,lZ,ha]; simp[hy]
  | false =>
   refine cT rfl ⟨?_,(e.quiet f).av⟩;rw[nG.2 ⟨y,bf d,by simp[hy]⟩]
 ·obtain rfl:j=l.length:=by omega
  rw[br] at ha;exact cF (by simp) ⟨by rw[ha],hc⟩
def rF(a b:Ch):Int:=cost a.p b.want-cost a.p a.want
def R7{a b:Ch}(ha:a.Ok)(c:b.Ok) : -24000000<=rF a b/\rF a b<=24000000:=by
 have h1:=ja ha.p c.w;have h2:=ja ha.p ha.w;unfold rF; omega
def Vs(w:af){a b:Ch}(ha:a.Ok)(e:b.Ok):CP 340 #[a.v,b.v] w (λ r w'=>r=iv (rF a b)/\aC w w' []):=by
 refine R6.2.1 ?_;have h1:=ja ha.p e.w;have h2:=ja ha.p ha.w;refine aG a.cells.toArray λ r1 g s1=>s1.aB b.cells.toArray λ r2 f s2=>?_;have c:=s2.quiet (aC.drew f []);refine⟨_,uu c 1 rfl,_,dV c 0 rfl,_,uu c 1 rfl,_,dV c 1 rfl,au (mP _ ha.p e.w) ?_⟩;rintro v h ⟨rfl,c3⟩;have d:=c.quiet c3;refine⟨_,rfl,dV d 1 rfl,uu d 1 rfl,au (mP _ ha.p ha.w) ?_⟩;rintro v i ⟨rfl,c5⟩;refine⟨_,rfl,?_,(d.quiet c5).av⟩;rw[cA (by omega)]; rfl
abbrev i1 (x:Int):List Value:=[iv x]
def bV(x:Int):(i1 x).length=1:=rfl
def pQ(x:Int):∀ v∈i1 x,v.oneCell'=true:=by intro v a; simp at a; subst a; rfl
def G5:j7 prog 249 2 (iv 0) 1 8:=j7.mk' underlying249 (by kernel_rfl) rfl (by decide)
def QV:j7 prog 31 3 (iv 0) 1 8:=j7.mk' underlying31 (by kernel_rfl) rfl (by decide)
def XV:YN prog 397 3 4 (.bool false):=⟨underlying397,by kernel_rfl⟩
def dA{w:af}{a:OA}{l:List Int}(h:cP 1 i1 w a l){i:Nat}{x:Int}(hi:l[i]?=some x):∃ q,a=some q/\w.cell? (Addr.add q (i*1))=some (iv x):=by
 obtain⟨q,b,hc⟩:=h.at hi;have:=aM hc 0 _ rfl;rw[aL,Addr.add_add,wL] at this;exact⟨q,b,this⟩
def hO(f:Nat->Int)(n:Nat):List Int:=(List.range n).map f
def iu(f:Nat->Int)(n:Nat):(hO f n).length=n:=by simp[hO]
def vC(f:Nat->Int){n i:Nat}(h:i<n):(hO f n)[i]?=some (f i):=by simp[hO,h]
theorem xj:∀ (n:Nat) (l:List Nat),l.Nodup->(∀ x∈l,x<n)->l.length<=n
 | 0,[],_,_=>aO _
 | 0,x :: _,_,h=>absurd (h x (by simp)) (by omega)
 | n+1,l,hd,h=>by
  by_cases hm:n∈l
  ·have h1:=xj n (l.erase n) (hd.erase n) λ x a=>by
    have h2:=(hd.mem_erase_iff).1 a;have:=h x h2.2;omega
   rw[Jx hm] at h1;omega
  ·have h1:=xj n l hd λ x a=>by
    have:=h x a;have:x≠n:=λ e=>hm (e▸a);omega
   omega
def vS{l:List Int}{n:Nat}(hd:l.Nodup)(h:∀ x∈l,0<=x/\x<n):l.length<=n:=by
 have h2:(l.map Int.toNat).Nodup:=by
  rw[List.nodup_iff_pairwise_ne] at *;rw[List.pairwise_map];exact hd.imp_of_mem λ {a b} ha d c e=>c (by have:=h a ha; have:=h b d; omega)
 have h3:∀ x∈l.map Int.toNat,x<n:=λ x f=>by
  obtain⟨y,g,rfl⟩:=bL.1 f;have:=h y g;omega
 have:=xj n _ h2 h3;simpa using this
def RA{w:af}{n:Nat}(hn:n<=1000){a:OA}{c:Nat}{st:Lo}(hr:cP 1 i1 w a (hO st.f n)){G T:Int}{g:Nat->Nat->Int}(hs:Jt g n G T n n 0 st){ch:Nat}(hc:ch<n)(hl:st.lr ch=n) :
  CP 352 #[.slice a n c,iv ch] w (λ r w'=>(∃ q l c,r=.slice (some q) l c)/\aC w w' []):=by
 refine R6.2.2.2.1 ?_;have link:∀ {w':af} {x:Nat},aC w w' []->x<n->∃ q,a=some q/\w'.cell? (Addr.add q (x*1))=some (iv (st.f x)):=λ hc Q=>dA (hr.av hc) (vC _ Q);refine xh (St.start w) λ m w1 c1 s1=>?_;have s1:=St.YI s1;refine⟨λ x w2 k=>∃ (ks:List Int) (y:Nat),x=y/\y<n/\ks.Nodup/\(∀ z∈ks,0<=z/\z<n)/\k+ks.length=n+1/\n<=st.lr y+ks.length/\(∀ z:Nat,(z:Int)∈ks->st.f z=y\/st.f z∈ks)/\St w w2 (star (AX m ks) emp),⟨n+1,[],ch,rfl,hc,List.nodup_nil,by simp,by simp,by rw[hl]; simp,by simp,s1⟩,?_⟩
 rintro w2 k x ⟨ks,y,rfl,Y,hd,d,hk,hlr,F,s2⟩ -;refine Aj XV underlying3 s2 (y:Int) ?_
 by_cases hm:(y:Int)∈ks
 ·refine cF (by rw[dT hm]; rfl) (Fs XV s2 λ w5 c5 s5=>?_);have O:∀ z:Nat,(z:Int)∈ks->st.f z∈ks:=λ z u=>(F z u).elim (λ e=>by rw[e]; exact hm) id;refine⟨λ x a2 l2 c2 w6 k=>∃ (ms:List Int) (y:Nat),x=y/\(y:Int)∈ks/\ms.Nodup/\(∀ z∈ms,z∈ks)/\k+ms.length=n+1/\l2=ms.length/\St w w6 (Sep [AX m ms,dK 3 1 i1 a2 c2 ms,emp]),⟨n+1,[],y,rfl,hm,List.nodup_nil,by simp,by simp,rfl,(s5.dy (e:=3) (sz:=1) (f:=i1)).pY.zy⟩,?_⟩
  rintro w6 k2 x a2 l2 c2 ⟨ms,z,rfl,u,H,B,hk2,rfl,V⟩ -;refine Aj XV underlying3 V (z:Int) ?_;have hms:ms.length<=n:=vS H λ v M=>d v (B v M)
  by_cases A:(z:Int)∈ms
  ·refine cF (by rw[dT A]; rfl) ?_;refine cZ QV bV (x:=0) rfl V (n:=ms.length) (by omega) (by omega) λ X w11 c11 R=>?_;refine⟨λ x D k=>∃ (j:Nat) (out:List Int),x=j/\j<=ms.length/\k=ms.length-j/\out.length=ms.length/\St w D (star (dK 3 1 i1 (qs X) ms.length out) (Sep [AX m ms,dK 3 1 i1 a2 c2 ms,emp])),⟨ms.length,0,_,rfl,by omega,by omega,by simp,R⟩,?_⟩
   rintro D k3 x ⟨j,out,rfl,hj,hk3,ho,C⟩ -
   by_cases K:(j:Int)<(ms.length:Int)
   ·obtain⟨v,Q⟩:=bx ms j (by omega);have S:St w D (Sep [dK 3 1 i1 (qs X) ms.length out,AX m ms,dK 3 1 i1 a2 c2 ms,emp]):=C;obtain⟨q,L,o⟩:=dA (St.rd bV (S.out 2 rfl)) Q;have e1:IntKind.i64.wrap ((IntKind.i64.wrap ((ms.length:Int)-1))-(j:Int))=((ms.length-1-j:Nat):Int):=by
     rw[cW (n:=(ms.length:Int)-1) ⟨by omega,by omega⟩,cA (by omega)]; omega
    rw[e1];refine aP K (aq L ⟨by omega,by omega,v,o,by omega,by omega,?_⟩);rw[aD];exact St.gu (v:=iv) rfl C (i:=ms.length-1-j) (by omega) λ w13 U=>⟨ms.length-(j+1),by omega,j+1,_,cA (by omega),by omega,rfl,by simpa using ho,U⟩
   ·exact aU K ⟨⟨_,_,_,rfl⟩,C.av⟩
  ·have hks:ks.length<=n:=vS hd d;have s:(ms++[(z:Int)]).Nodup:=ve.2 ⟨H,by simp,λ a ha b d e=>by simp at d; subst d; subst e; exact A ha⟩;have t:(ms++[(z:Int)]).length<=n:=vS s λ v M=>by
    rcases aV.1 M with h|h
    ·exact d v (B v h)
    ·simp at h; subst h; exact d _ u
   simp only[aY,bS] at t;refine cT (by rw[dF A]; rfl) (CD XV underlying3 V (z:Int) A λ w8 c8 s8=>?_);have W:St w w8 (star (dK 3 1 i1 a2 c2 ms) (star (AX m (ms++[(z:Int)])) (Sep [emp]))):=s8.pY;refine dw (x:=(z:Int)) QV bV (pQ _) W (by omega) (by omega) (λ a' c' w10 N=>?_) rfl;have zr:=d _ u;obtain⟨q,L,o⟩:=link N.av (show z<n by omega);have J:=O z u;have P:=d _ J;refine aq L ⟨by omega,by omega,_,o,k2-1,?_,ms++[(z:Int)],(st.f z).toNat,by omega,by rw[j4 P.1]; exact J,s,?_,?_,rfl,N.pY⟩
   ·omega
   ·intro v M;rcases aV.1 M with h|h
    ·exact B v h
    ·simp at h; subst h; exact u
   ·simp only[aY,bS]; omega
 ·have s:(ks++[(y:Int)]).Nodup:=ve.2 ⟨hd,by simp,λ a ha b d e=>by simp at d; subst d; subst e; exact hm ha⟩;have E:∀ z∈ks++[(y:Int)],0<=z/\z<n:=λ z u=>by
   rcases aV.1 u with h|h
   ·exact d z h
   ·simp at h; subst h; omega
  have t:=vS s E;simp only[aY,bS] at t;refine cT (by rw[dF hm]; rfl) (CD XV underlying3 s2 (y:Int) hm λ w4 c4 Z=>?_);obtain⟨q,L,o⟩:=link Z.av Y;rcases hs.f y Y with⟨_,h0⟩|⟨p,hp,I,h1,h2⟩
  ·omega
  ·refine aq L ⟨by omega,by omega,_,o,k-1,by omega,ks++[(y:Int)],p,I,hp,s,E,?_,?_,?_,Z⟩
   ·simp only[aY,bS]; omega
   ·simp only[aY,bS]; omega
   ·intro z u;rcases aV.1 u with h|h
    ·rcases F z h with e|e
     ·exact .inr (by rw[e]; simp)
     ·exact .inr (iN _ e)
    ·simp at h;have h:z=y:=by omega
     subst h; exact .inl I
def gF(l:List Ch)(a b:Nat):Int:=rF (l.getD a nt) (l.getD b nt)
def RZ(l:List Ch)(a:Nat):gF l a a=0:=by unfold gF rF; omega
def XI{l:List Ch}(h:∀ c∈l,c.Ok)(a b:Nat)(ha:a<l.length)(d:b<l.length) : -24000000<=gF l a b/\gF l a b<=24000000:=by
 have e:∀ i,i<l.length->(l.getD i nt).Ok:=λ i hi=>by
  rw[aJ,gE hi];exact h _ (zJ hi)
 exact R7 (e a ha) (e b d)
def ot(l:List Ch):Lo:=nQ (gF l) l.length
def LX{w:af}{a:OA}{c:Nat}{l:List Ch}(hr:xH w a l)(hl:l.length<=100)(ho:∀ c∈l,c.Ok) :
  CP 322 #[.slice a l.length c] w (λ r w' =>
   ((ot l).ch<0/\(∃ g c,r=.tuple #[.slice (qs g) l.length c,.slice none 0 0]/\St w w' (star (dK 2 1 i1 (qs g) c (hO (ot l).v l.length)) emp)))\/(0<=(ot l).ch/\(∃ q m c,r=.tuple #[.slice none 0 0,.slice (some q) m c])/\aC w w' [])):=by
 refine(p6 vL).2.2.2.2.2.1 ?_;generalize hn:l.length=n at *;have hG:(0:Int)<=24000000:=by omega
 have g0:=RZ l;have V:∀ a b,a<n->b<n->-24000000<=gF l a b/\gF l a b<=24000000:=λ a b ha hb=>XI ho a b (by omega) (by omega);refine cZ G5 bV (x:=0) rfl (St.start w) (n:=n) (by omega) (by omega) λ P w1 c1 s1=>?_;refine cZ QV bV (x:=0) rfl s1 (n:=n) (by omega) (by omega) λ O w2 c2 s2=>?_;let L:Nat->(Nat->Int)->(Nat->Int)->List aI:=λ _ v f=>[dK 3 1 i1 (qs O) n (hO f n),dK 2 1 i1 (qs P) n (hO v n)];have z1:List.replicate n (0:Int)=hO (λ _=>0) n:=by unfold hO; rw[List.map_const']; simp
 have z2:hO (λ i=>if i<0 then (-1:Int) else 0) n=hO (λ _=>0) n:=by simp
 rw[z1] at s1 s2;refine⟨λ x X k=>∃ (j:Nat),x=j/\j<=n/\k=n-j/\St w X (Sep (L 0 (λ _=>0) λ i=>if i<j then -1 else 0)),⟨n,0,rfl,by omega,by omega,by
  show St w w2 (Sep [dK 3 1 i1 (qs O) n (hO (λ i=>if i<0 then (-1:Int) else 0) n),_]);rw[z2]; exact s2⟩,?_⟩
 rintro X k x ⟨j,rfl,hj,hk,s3⟩ -
 by_cases A:(j:Int)<((hO (λ _=>(0:Int)) n).length:Int)
 ·have hjn:j<n:=by rw[iu] at A; omega
  refine aP (by rw[iu] at A; exact A) (aq rfl ⟨by omega,by omega,?_⟩);rw[aD];refine St.gu (v:=iv) (x:=-1) rfl (s3.out 0 rfl) (i:=j) (by rw[iu]; exact hjn) λ w4 s4=>(jZ (by omega) ?_);have e:(hO (λ i=>if i<j then (-1:Int) else 0) n).set j (-1)=hO (λ i=>if i<j+1 then -1 else 0) n:=by
   unfold hO;rw[zh]
   congr 1
   funext i
   by_cases h:i=j
   ·subst h; simp[eB]
   ·rw[iF _ _ h]
    by_cases h2:i<j
    ·rw[ak h2,ak (by omega)]
    ·rw[ah h2,ah (by omega)]
  rw[e] at s4;exact s4.back (l:=L 0 (λ _=>0) λ i=>if i<j then -1 else 0) (i:=0) (by simp[L])
 rw[iu] at A;obtain rfl:n=j:=by omega
 have e1:hO (λ i=>if i<n then (-1:Int) else 0) n=hO (λ _=>-1) n:=by
  unfold hO;refine dz λ i hi=>?_;rw[ak (iH.1 hi)]
 have s3':St w X (Sep (L 0 Xa.v Xa.f)):=by
  show St w X (Sep [dK 3 1 i1 (qs O) n (hO (λ _=>-1) n),_]);rw[<- e1]; exact s3
 refine aU A ⟨λ x w5=>x=(ot l).ch/\St w w5 (Sep (L 0 (ot l).v (ot l).f)),?_,?_⟩
 ·rintro w5 x ⟨rfl,W⟩ -
  by_cases hc:(ot l).ch<0
  ·refine aP hc (.inl ⟨hc,P,n,rfl,?_⟩);have:=(W.ay [1]).Cz;exact((W.ay [1,2]).pair)
  ·refine aU hc ?_;obtain⟨r',T',J,M⟩:=LW (g:=gF l) (n:=n) hG g0 V;have hch:0<=(ot l).ch:=by omega
   have hst:nQ (gF l) n=ot l:=by unfold ot; rw[hn]
   rw[hst] at J M;have Q:=M hch;subst Q;rcases J.i.ch with h1|⟨cc,hcc,h1,h2⟩
   ·omega
   ·rw[h1];have rd5:=St.rd bV (W.out 0 rfl);refine au (RA (by omega) rd5 J.i hcc h2) ?_;rintro v w6 ⟨⟨q,m,cap,rfl⟩,c6⟩;exact⟨_,_,_,rfl,.inr ⟨by omega,⟨q,m,cap,rfl⟩,W.av.trans c6 (by simp)⟩⟩
 refine⟨λ ch x w7 k=>∃ (r:Nat) (T:Int) (s:Lo),x=r/\r<=n/\k=n-r/\ch=s.ch/\T=(r:Int)*n/\OH (gF l) n (n-r) r s=ot l/\Lq (gF l) n 24000000 T r n s/\St w w7 (Sep (L 0 s.v s.f)),⟨n,0,0,Xa,rfl,by omega,by omega,rfl,by simp,by unfold ot nQ; rw[hn]; rfl,Um hG,s3'⟩,?_⟩
 rintro w7 k7 ch x ⟨r,T,s,rfl,hr7,hk7,rfl,hT,z,J,s7⟩ -
 by_cases A:(r:Int)<(n:Int)
 ·have M:r<n:=by omega
  have hnr:n-r=(n-(r+1))+1:=by omega
  have hT2:T<=10000/\0<=T:=by
   have h1:(r:Int)*n<=100*n:=gR (by omega) (by omega);have h2:(0:Int)<=(r:Int)*n:=gS (by omega) (by omega);omega
  have hS1:Lq (gF l) n 24000000 T (r+1) 0 { s with ch:=-1 }:=⟨J.i.Up J.b,J.b⟩;refine aP A ⟨λ ch x w8 k=>∃ (a:Nat) (t:Lo),x=a/\a<=n/\k=n-a/\ch=t.ch/\t=EZ (gF l) n (r+1) a { s with ch:=-1 }/\St w w8 (Sep (L 0 t.v t.f)),⟨n,0,_,rfl,by omega,by omega,rfl,rfl,s7⟩,?_⟩;rintro w8 k8 ch x ⟨d,t,rfl,ha8,hk8,rfl,ht,s8⟩ -;have K:=hS1.EZ hG g0 V (by omega) d ha8;rw[<- ht] at K
  by_cases G:(d:Int)<(n:Int)
  ·have B:d<n:=by omega
   refine aP G ⟨λ ch x Y k=>∃ (b:Nat) (o:Lo),x=b/\b<=n/\k=n-b/\ch=o.ch/\o=BD (gF l) (r+1) d b t/\St w Y (Sep (L 0 o.v o.f)),⟨n,0,t,rfl,by omega,by omega,rfl,rfl,s8⟩,?_⟩;rintro Y k9 ch x ⟨u,o,rfl,hb9,hk9,rfl,N,s9⟩ -;have I:=K.i.BD g0 V (by omega) B u hb9;rw[<- N] at I
   by_cases H:(u:Int)<(n:Int)
   ·have D:u<n:=by omega
    have xa:l[d]?=some (l.getD d nt):=by rw[aJ,gE (by omega)]; rfl
    have xb:l[u]?=some (l.getD u nt):=by rw[aJ,gE (by omega)]; rfl
    have F:St w Y.drew (Sep (L 0 o.v o.f)):=s9.quiet (aC.drew Y []);obtain⟨qa,hqa,hca⟩:=(hr.av F.av).at xa;obtain⟨qb,hqb,hcb⟩:=(hr.av F.av).at xb;have val:∀ {w':af} {i:Nat},i<n->St w w' (Sep (L 0 o.v o.f))->w'.cell? (Addr.add ⟨P,0,none⟩ (((i:Nat):Int).toNat*1))=some (iv (o.v i)):=λ hi s=>by
     obtain⟨q,hq,hc⟩:=dA (St.rd bV (s.out 1 rfl)) (vC o.v hi)
     cases hq; exact hc
    refine aP H ⟨λ ch U=>ch=(Bm (gF l) (r+1) d u o).ch/\St w U (Sep (L 0 (Bm (gF l) (r+1) d u o).v (Bm (gF l) (r+1) d u o).f)),?_,?_⟩
    ·rintro U ch ⟨rfl,C⟩ -;refine⟨n-(u+1),by omega,u+1,_,cA (by omega),by omega,rfl,rfl,?_,C⟩;rw[N]; rfl
    ·refine aq rfl ⟨by omega,by omega,_,val B F,aq hqa ⟨by omega,by omega,(l.getD d nt).p,(l.getD d nt).want,hca,aq hqb ⟨by omega,by omega,(l.getD u nt).p,(l.getD u nt).want,hcb,au (Vs _ (ho _ (bf xa)) (ho _ (bf xb))) ?_⟩⟩⟩;rintro v w11 ⟨rfl,Z⟩;have C:=F.quiet Z;have ba:=I.lo d B;have hla:=I.la B;have hg1:=V d u B D;have hTa:(d:Int)<=100:=by omega
     have ew:IntKind.i64.wrap (o.v d+rF (l.getD d nt) (l.getD u nt))=o.v d+gF l d u:=cW ⟨by show _<=o.v d+gF l d u; omega,by show o.v d+gF l d u<=_; omega⟩;refine⟨_,rfl,val B C,aq rfl ⟨by omega,by omega,_,val D C,?_⟩⟩;rw[ew]
     by_cases E:o.v d+gF l d u<o.v u
     ·have er:Bm (gF l) (r+1) d u o={ v:=oC o.v u (o.v d+gF l d u),f:=oC o.f u d,lr:=oC o.lr u (r+1),ch:=u }:=by unfold Bm; rw[ak E]
      rw[er];refine aP E (aq rfl ⟨by omega,by omega,?_⟩);rw[aD];refine St.gu (v:=iv) (x:=o.v d+gF l d u) rfl (C.out 1 rfl) (i:=u) (by rw[iu]; exact D) λ w12 R=>?_;have e2:(hO o.v n).set u (o.v d+gF l d u)=hO (oC o.v u (o.v d+gF l d u)) n:=zh _ _ _ _;rw[e2] at R;have s13:St w w12 (Sep [dK 3 1 i1 (qs O) n (hO o.f n),dK 2 1 i1 (qs P) n (hO (oC o.v u (o.v d+gF l d u)) n)]):=R.back (l:=L 0 o.v o.f) (i:=1) (by simp[L]);refine aq rfl ⟨by omega,by omega,?_⟩;refine St.gu (v:=iv) (x:=(d:Int)) rfl (s13.out 0 rfl) (i:=u) (by rw[iu]; exact D) λ w14 S=>⟨rfl,?_⟩;have e3:(hO o.f n).set u (d:Int)=hO (oC o.f u d) n:=zh _ _ _ _;rw[e3] at S;exact S.back (l:=[dK 3 1 i1 (qs O) n (hO o.f n),dK 2 1 i1 (qs P) n (hO (oC o.v u (o.v d+gF l d u)) n)]) (i:=0) (by simp)
     ·have er:Bm (gF l) (r+1) d u o=o:=by unfold Bm; rw[ah E]
      rw[er];exact aU E ⟨rfl,C⟩
   ·obtain rfl:n=u:=by omega
    refine aU H ⟨n-(d+1),by omega,d+1,_,cA (by omega),by omega,rfl,rfl,?_,s9⟩;rw[N,ht]; rfl
  ·obtain rfl:n=d:=by omega
   have eR:t=LU (gF l) n (r+1) s:=ht;have y:(if (LU (gF l) n (r+1) s).ch<0 then LU (gF l) n (r+1) s else OH (gF l) n (n-(r+1)) (r+1) (LU (gF l) n (r+1) s))=ot l:=by
    rw[<- z,hnr]; rfl
   rw[<- eR] at y;refine aU G ?_
   by_cases hc:t.ch<0
   ·rw[ak hc] at y;refine aP hc ?_;rw[<- y];exact⟨rfl,s8⟩
   ·rw[ah hc] at y;refine aU hc ⟨n-(r+1),by omega,r+1,T+n,t,cA (by omega),by omega,rfl,rfl,?_,y,K,s8⟩;rw[hT,vi,jD]; omega
 ·obtain rfl:n=r:=by omega
  rw[yR] at z;have z:s=ot l:=z;subst z;exact aU A ⟨rfl,s7⟩
def jv(l:List Ch):Bool:=l.all wT&&decide ((ot l).ch<0)
def zO{l:List Ch}:l.all wT=true<->∀ c∈l,c.Ok:=by simp[dS,Fl]
def MF{w:af}{a:OA}{c:Nat}{l:List Ch}(E:xH w a l)(R:l.length<=100) :
  CP 272 #[.slice a l.length c] w (λ r w'=>(∃ a1 l1 c1 a2 l2 c2,r=.tuple #[.agg #[.slice a1 l1 c1,.slice a2 l2 c2],.bool (jv l)])/\aC w w' []):=by
 refine(p6 vL).1 ?_;refine aG _ λ r1 w1 s1=>au (zP (E.av s1.av) (by omega)) ?_;rintro v w2 ⟨rfl,c2⟩;have s2:=s1.quiet c2;refine⟨_,rfl,?_⟩
 cases ha:l.all wT with
 | false =>
  refine cT rfl (s2.az 0 rfl [.slice none 0 0,.slice none 0 0] rfl (by simp[Value.oneCell']) λ Q o=>(Ex4 ⟨_,_,o.cellsIn 0 rfl,?_⟩));exact⟨(Ex4 ⟨_,_,by rw[jv,ha]; rfl⟩),o.av⟩
 | true =>
  have J:=zO.1 ha;refine cF rfl (au (LX (E.av s2.av) R J) ?_);rintro v X (⟨hc,g,A,rfl,M⟩|⟨hc,⟨q,m,A,rfl⟩,c4⟩)
  ·have t:jv l=true:=by rw[jv,ha,dT hc]; rfl
   let L:List Int->List aI:=λ out=>[dK 2 1 i1 (qs g) A out,aj r1 #[.slice none 0 0,.slice none 0 0] 333,emp];have T:St w X (Sep (L (hO (ot l).v l.length))):=(s2.and M.first);have val:∀ {w':af} {out:List Int} {i:Nat},out.length=l.length->i<l.length->St w w' (Sep (L out))->w'.cell? (Addr.add ⟨g,0,none⟩ (((i:Nat):Int).toNat*1))=some (iv (out.getD i 0)):=λ {w' out i} J hi s=>by
    obtain⟨q,C,hc⟩:=dA (St.rd bV s) (i:=i) (x:=out.getD i 0) (by rw[aJ,gE (by omega)]; rfl)
    cases C; exact hc
   refine Ex4 ⟨_,_,rfl,cF rfl ⟨λ _ n z m=>∃ j:Nat,n=j/\j<=l.length/\m=l.length-j/\St w z (Sep (L (hO (ot l).v l.length))),⟨l.length,0,rfl,by omega,by omega,T⟩,?_⟩⟩;rintro z m n n2 ⟨j,rfl,D,hm,f⟩ -
   by_cases b:(j:Int)<(l.length:Int)
   ·obtain⟨y,F⟩:=bx l j (by omega);obtain⟨S,C,h⟩:=(E.av f.av).at F;refine aP b (aq C ⟨by omega,by omega,y.p,y.want,h,f.aB nt.cells.toArray λ r2 Y N=>N.az 0 rfl y.cells rfl y.one λ H G=>?_⟩);have O:=G.quiet (aC.drew H []);have P:=J _ (bf F);have e:St w H.drew (Sep (L (hO (ot l).v l.length))):=O.ay [1,2,3];have d:j<l.length:=by omega
    refine⟨_,uu O 0 rfl,_,dV O 0 rfl,aq rfl ⟨by omega,by omega,_,val (iu _ _) d e,au (mP _ P.p P.w) ?_⟩⟩;rintro v u ⟨rfl,I⟩;have k:=e.quiet I;exact⟨_,rfl,val (iu _ _) d k,l.length-(j+1),by omega,j+1,cA (by omega),by omega,rfl,k⟩
   ·refine aU b ⟨λ _ n z m=>∃ j:Nat,n=j/\j<=l.length/\m=l.length-j/\St w z (Sep (L (hO (ot l).v l.length))),⟨l.length,0,rfl,by omega,by omega,f⟩,?_⟩;clear f b D hm;rintro U m3 n5 n6 ⟨j,rfl,D,hm,f⟩ -
    by_cases b:(j:Int)<(l.length:Int)
    ·obtain⟨y,F⟩:=bx l j (by omega);have d:j<l.length:=by omega
     obtain⟨S,C,h⟩:=(E.av f.av).at F;refine aP b ⟨λ _ u=>St w u (Sep (L (hO (ot l).v l.length))),λ u n7 k _=>(jZ (by omega) k),?_⟩;refine aq C ⟨by omega,by omega,y.p,y.want,h,f.aB nt.cells.toArray λ r2 Y N=>N.az 0 rfl y.cells rfl y.one λ H G=>⟨_,dV G 0 rfl,?_⟩⟩;have e:St w H (Sep (L (hO (ot l).v l.length))):=G.ay [1,2,3];exact cB (aq rfl ⟨by omega,by omega,_,val (iu _ _) d e,e⟩) e
    ·refine aU b ⟨λ n z m=>∃ (j:Nat) (out:List Int),n=j/\j<=l.length/\m=l.length-j/\out.length=l.length/\St w z (Sep (L out)),⟨l.length,0,_,rfl,by omega,by omega,iu _ _,f⟩,?_⟩;clear f b D hm;rintro V m5 Z ⟨j,out,rfl,D,hm,B,f⟩ -
     by_cases b:(j:Int)<(l.length:Int)
     ·have d:j<l.length:=by omega
      refine aP b (aq rfl ⟨by omega,by omega,_,val B d f,aq rfl ⟨by omega,by omega,?_⟩⟩);rw[aD];exact St.gu (v:=iv) rfl f (i:=j) (by omega) λ W K=>⟨l.length-(j+1),by omega,j+1,_,cA (by omega),by omega,rfl,by simpa using B,K⟩
     ·refine aU b ((f.ay [1,2]).az 0 rfl [.slice none 0 0,.slice (qs g) l.length A] rfl (by simp[Value.oneCell']) λ Q o=>(Ex4 ⟨_,_,o.cellsIn 0 rfl,⟨none,0,0,_,_,_,by rw[t]⟩,o.av⟩))
  ·have M:=s2.quiet c4;refine Ex4 ⟨_,_,rfl,cT rfl (M.az 0 rfl [.slice (some q) m A,.slice none 0 0] rfl (by simp[Value.oneCell']) λ Q o=>(Ex4 ⟨_,_,o.cellsIn 0 rfl,⟨some q,m,A,none,0,0,by rw[jv,ha,dF (by omega)]; rfl⟩,o.av⟩))⟩
def Tw:j7 prog 221 218 nt.v 12 96:=j7.mk' underlying221 (by kernel_rfl) rfl (by decide)
def Ce{w:af}{s:Se}{n:Int}{a:OA}{k:Nat}{l:List Ch}(K:xH w a l)(S:l.length<=k)(J:l.length+1<=100)(c:Ch) :
  CP 213 #[.agg (M7 s n a k l).toArray,c.v] w (λ r w'=>r=.bool (jv (l++[c]))/\aC w w' []):=by
 refine(p6 rE).2.2.2.2.2.1 ?_;refine aG (M7 s n a k l).toArray λ r1 W s1=>s1.aB c.cells.toArray λ r2 h s2=>⟨λ b G=>b=jv (l++[c])/\aC w G [],?_,?_⟩
 ·rintro G b ⟨rfl,hc⟩;exact λ _=>⟨rfl,hc⟩
 have o:=s2.quiet (aC.drew h []);have app:∀ {w':af} {r:Nat} {B:List aI} {R:Option Addr->Nat->Nat->af->Prop},St w w' (Sep (aj r c.cells.toArray 218 :: B))->(∀ a' c' h,St w h (star (dK 218 12 Ch.cells a' c' (l++[c])) (Sep (aj r c.cells.toArray 218 :: B)))->R a' (l++[c]).length c' h) ->
   gi prog (Builtin.append_ #[221,221] 221 #[.slice (if (((l.length:Nat):Int)).toNat=0 then a else Option.map (λ x=>Addr.add x (0*12)) a) ((((l.length:Nat):Int)).toNat-0) ((((l.length:Nat):Int)).toNat-0),.slice (qs r) 1 1]) w' λ e h=>∃ a l c,e=.slice a l c/\R a l c h:=by
  intro w' r B R C H;rw[aD,UZ,pI];refine Ly Tw Ch.len c.one C (K.av C.av) (λ j u I=>?_) (by omega) (by omega) H;rw[C.ag 0 rfl]; simpa using I
 have fin:∀ {w':af} {B:List aI} {a':OA} {c':Nat},St w w' (star (dK 218 12 Ch.cells a' c' (l++[c])) (Sep B)) ->
   CC 272 #[.slice a' (l++[c]).length c'] w' (yd λ r h=>(∃ a1 l1 c1 a2 l2 c2,r=.tuple #[.agg #[.slice a1 l1 c1,.slice a2 l2 c2],.bool (jv (l++[c]))])/\aC w' h []):=λ s=>MF (St.rd Ch.len s) (by simpa using J)
 let z:Array Value:=#[.slice none 0 0,.slice none 0 0];refine⟨_,_,_,o.ag 1 rfl 5,_,_,_,o.ag 1 rfl 5,_,_,_,o.ag 1 rfl 5,by omega,by omega,by omega,by omega,c.p,c.want,o.cellsIn 0 rfl,?_,?_⟩
 ·refine o.aB c.cells.toArray λ r3 X y=>⟨y.ag 2 rfl 5,y.ag 2 rfl 5,y.ag 2 rfl 5,app y λ a' c' Y A=>⟨au (fin A) ?_,?_⟩,?_⟩
  ·rintro v D ⟨⟨a1,l1,c1,a2,l2,c2,rfl⟩,i⟩;exact Ex4 ⟨_,_,_,rfl,(St.start' (A.av.trans i (by simp))).one.aB z λ r4 Z L=>L.az 0 rfl [.slice a1 l1 c1,.slice a2 l2 c2] rfl (by simp[Value.oneCell']) λ E m=>⟨rfl,m.av⟩⟩
  ·refine A.first.one.aB z λ r5 w9 F=>au (fin (F.ay [1,0])) ?_;rintro v D ⟨⟨a1,l1,c1,a2,l2,c2,rfl⟩,i⟩;exact Ex4 ⟨_,_,_,rfl,(F.quiet i).az 0 rfl [.slice a1 l1 c1,.slice a2 l2 c2] rfl (by simp[Value.oneCell']) λ E m=>⟨rfl,m.av⟩⟩
  ·refine y.aB z λ T M f=>⟨f.ag 3 rfl 5,f.ag 3 rfl 5,f.ag 3 rfl 5,app (f.ay [1,0]) λ a' c' N q=>au (fin q) ?_⟩;rintro v D ⟨⟨a1,l1,c1,a2,l2,c2,rfl⟩,i⟩;exact Ex4 ⟨_,_,_,rfl,(q.quiet i).second.az 1 rfl [.slice a1 l1 c1,.slice a2 l2 c2] rfl (by simp[Value.oneCell']) λ E m=>⟨rfl,m.av⟩⟩
 ·refine o.aB z λ U O d=>⟨d.cellsIn 1 rfl,d.ag 2 rfl 5,d.ag 2 rfl 5,d.ag 2 rfl 5,d.aB c.cells.toArray λ V P g=>⟨g.ag 3 rfl 5,g.ag 3 rfl 5,g.ag 3 rfl 5,app g λ a' c' Q t=>au (fin t) ?_⟩⟩;rintro v D ⟨⟨a1,l1,c1,a2,l2,c2,rfl⟩,i⟩;exact Ex4 ⟨_,_,_,rfl,(t.quiet i).second.az 1 rfl [.slice a1 l1 c1,.slice a2 l2 c2] rfl (by simp[Value.oneCell']) λ E m=>⟨rfl,m.av⟩⟩
def LP{w:af}{s:Se}(h:HI w s){n:Nat}{b:Br}(f:s.bd[n]?=some b){a:OA}{k:Nat}{l:List Ch}(e:xH w a l)(g:l.length<=k)(i:l.length+1<=100)(j:∀ c∈l,c.Ok){c:Ch}(hc:c.Ok) :
  CP 214 #[.agg (M7 s n a k l).toArray,c.v] w (λ r w'=>r=.bool (xL s b l c||jv (l++[c]))/\aC w w' []):=by
 refine(p6 (p6 rE)).1 ?_;refine aG (M7 s n a k l).toArray λ r1 m s1=>s1.aB c.cells.toArray λ r2 o s2=>?_;refine Ex8<|Ex8<|⟨s2.cellsIn 1 rfl,c.p,c.want,s2.cellsIn 0 rfl,au (Kc (h.av s2.av) f (e.av s2.av) (by omega) j hc) ?_⟩;rintro v q ⟨rfl,c3⟩;have d:=s2.quiet c3;refine⟨_,rfl,?_⟩
 cases hf:xL s b l c with
 | true=>exact cT rfl ⟨rfl,d.av⟩
 | false =>
  refine cF rfl (Ex8<|Ex8<|⟨d.cellsIn 1 rfl,c.p,c.want,d.cellsIn 0 rfl,au (Ce (e.av d.av) g i c) ?_⟩);rintro v t ⟨rfl,c4⟩;exact⟨_,rfl,rfl,(d.quiet c4).av⟩
def AP(rule:Int)(s:Se)(b:Br)(l:List Ch)(c:Ch):Bool:=if rule=1 then xL s b l c else if rule=2 then jv (l++[c]) else xL s b l c||jv (l++[c])
def yf(rule:Int)(s:Se)(b:Br)(l:List Ch)(c:Ch):Int :=
 if 1<=rule/\rule<=3 then (if (if uc l then decide (c.want=z6) else AP rule s b l c) then 0 else 15) else 4
def Nr{w:af}{s:Se}(h:HI w s){n:Nat}{b:Br}(o:s.bd[n]?=some b){a:OA}{k:Nat}{l:List Ch}(i:xH w a l)(y:l.length<=k)(z:l.length+1<=100)(A:∀ c∈l,c.Ok){c:Ch}(hc:c.Ok)(rule:Int) :
  CP 163 #[.agg s.arr,iv rule,iv n,.slice a l.length k,c.v] w (λ r w'=>r=iv (yf rule s b l c)/\aC w w' []):=by
 refine(p6 rE).1 ?_;refine aG s.arr λ r1 N s1=>s1.aB c.cells.toArray λ r2 I s2=>(Ex8<|Ex4<|⟨s2.cellsIn 1 rfl,s2.aB #[.slice none 0 0,.slice none 0 0,.slice none 0 0,.slice none 0 0,iv 0,.slice none 0 0] λ r3 O H=>H.az 0 rfl (M7 s n a k l) rfl (by simp[M7,Value.oneCell']) λ J j=>?_⟩);have M:n<s.bd.length:=(aR.1 o).1;let Acc (x:Bool) (v:Value):Prop:=∀ (w':af) (R:Ending->af->Prop),aC w w' []->(∀ d,aC w' d []->R (.returned (.bool x)) d)->lK prog v #[c.v] w' R;refine Ex8<|Ex8<|⟨j.cellsIn 0 rfl,λ v C=>(1<=rule/\rule<=3)/\Acc (AP rule s b l c) v/\St w C (Sep [aj r2 c.cells.toArray 218,aj r1 s.arr 73,emp]),?_,?_⟩
 ·rintro C v ⟨g,G,f⟩ -;refine Ex8<|Ex4<|⟨f.cellsIn 1 rfl,au (Oo (n:Int)) ?_⟩;rintro r L ⟨rfl,D⟩;have B:=f.quiet D;refine⟨_,rfl,cF (by simp; omega) ⟨_,dV B 0 rfl,au (iq L c.want) ?_⟩⟩;rintro r P ⟨rfl,E⟩;have q:=B.quiet E;have F:c.want.l.all iy=true:=by
   have:=Fl.2 hc;rw[wT,aX] at this; exact this.2
  rw[F];refine⟨_,rfl,cF rfl ⟨λ v t=>Acc (if uc l then decide (c.want=z6) else AP rule s b l c) v/\St w t (Sep [aj r2 c.cells.toArray 218,aj r1 s.arr 73,emp]),?_,au (N9 (i.av q.av) (by omega)) ?_⟩⟩
  ·rintro t v2 ⟨p,m⟩ -;refine⟨_,_,m.cellsIn 0 rfl,p _ _ m.av λ Q u=>⟨_,rfl,?_⟩⟩
   cases hx:(if uc l then decide (c.want=z6) else AP rule s b l c) with
   | false=>exact cT rfl ⟨by rw[yf,ak g,hx]; rfl,(m.quiet u).av⟩
   | true=>exact cF rfl ⟨by rw[yf,ak g,hx]; rfl,(m.quiet u).av⟩
  ·rintro r t ⟨rfl,rfl⟩;refine⟨_,rfl,?_⟩
   cases he:uc l with
   | false=>exact cF rfl ⟨G,q⟩
   | true =>
    refine cT rfl ⟨?_,q⟩;intro w' R _ k;refine dZ (by kernel_rfl) (au (K:=λ r d=>r=.bool (decide (c.want=z6))/\aC w' d []) ((p6 (p6 rE)).2.2.1 ?_) ?_)
    ·skip
     exact aG c.cells.toArray λ r2 I s2=>⟨_,dV s2 0 rfl,by rw[I6.beq_eq],s2.av⟩
    ·rintro r d ⟨rfl,hc⟩; exact k d hc
 ·have f:St w J (Sep [aj r2 c.cells.toArray 218,aj r1 s.arr 73,emp]):=j.ay [1,2,3]
  by_cases h1:rule=1
  ·subst h1;refine cT rfl ⟨⟨by omega,by omega⟩,?_,f⟩;intro w' R e k;refine dZ (by kernel_rfl) (au (Kc (h.av e) o (i.av e) (by omega) A hc) ?_);rintro r d ⟨rfl,hc⟩; exact k d hc
  refine cF (by simpa using h1) ?_
  by_cases h2:rule=2
  ·subst h2;refine cT rfl (Ex8<|Ex8<|⟨j.cellsIn 0 rfl,⟨by omega,by omega⟩,?_,f⟩);intro w' R e k;refine dZ (by kernel_rfl) (au (Ce (i.av e) y z c) ?_);rintro r d ⟨rfl,hc⟩; exact k d hc
  refine cF (by simpa using h2) ?_
  by_cases h3:rule=3
  ·subst h3;refine cT rfl (Ex8<|Ex8<|⟨j.cellsIn 0 rfl,⟨by omega,by omega⟩,?_,f⟩);intro w' R e k;refine dZ (by kernel_rfl) (au (LP (h.av e) o (i.av e) y z A hc) ?_);rintro r d ⟨rfl,hc⟩; exact k d hc
  exact cF (by simpa using h3) ⟨by rw[yf,ah (by omega)],f.av⟩

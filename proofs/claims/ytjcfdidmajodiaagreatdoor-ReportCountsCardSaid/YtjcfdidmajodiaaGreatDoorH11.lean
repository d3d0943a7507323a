import Derived.Lib.AtoiBound
import Derived.Test.YtjcfdidmajodiaaGreatDoorH10
set_option linter.unusedVariables false
set_option linter.defProp false
set_option maxRecDepth 100000
set_option maxHeartbeats 4000000
namespace Go.Proofs.YtjcfdidmajodiaaGreatDoor
open Go Go.Vc Go.Vt _root_.Go.Proofs.Tryz
def lM:=many uj [en func16 [] [],en func20 [(0,.k (.s .blk))] [],en func19 [(0,.k (.s .blk))] [],en func39 [] [(107,[(10,.s .bool)]),(431,[(16,.s .bool)])],en func40 [] [],en func43 [(0,.k (.s .blk))] [(431,[(10,.s .bool)])],en func78 [(0,.k (.s .blk))] [],en func79 [(0,.k (.s .blk))] [],en func80 [(0,.k (.s .blk))] [(7,[(5,.s .bool),(6,.s (.int .i64))]),(15,[])],en func81 [(0,.k (.s .blk))] [(7,[])],en func82 [(0,.k (.s .blk))] [],en func83 [(0,.k (.s .blk))] [],en func84 [(0,.k (.s .blk))] [(58,[(17,.s (.int .i64))])],en func85 [(0,.k (.s .blk))] [(7,[])],en func121 [(0,.k (.s .blk))] [(1018,[(55,.s (.int .i64))]),(130355,[(78,.s .bool)])],en func122 [(0,.k (.s .blk))] []] (by conv=>lhs;reduce) (by kernel_rfl) λ x=>by
 dsimp only[fj,fh,ff,fe,fk,fm,fq,tF,iP,en,sV,wrap,dc,dn,qA,gU,tW,U.I,U.B,U.S,U.N,U.A,U.O,U.W,U.V,U.L,U.U6,U.C,U.M,U.F,U.E,tP,tN,tI,oo,jU,gJ,kr,jq,TJ,Nat.reduceSub,Nat.reduceAdd,Int.reduceOfNat,Int.reduceNeg,UInt8.reduceOfNat] at x
 exact x
def tT:=(p6 lM).1
def qC:=(p6 lM).2.1
def sy:=(p6 lM).2.2.1
def uQ:=(p6 lM).2.2.2.1
def pe:=(p6 lM).2.2.2.2.1
def nC:=(p6 lM).2.2.2.2.2.1
def sx:=(p6 (p6 lM)).1
def qD:=(p6 (p6 lM)).2.1
def kE:=many uj [en func38 [] [(12,[(3,.s .bool)]),(51,[(14,.s .bool)]),(207,[(39,.s .bool)])],en func44 [] [],en func45 [] [],en func29 [] [(14,[(10,.s .bool)])],en func72 [] [(15,[]),(31,[]),(63,[]),(127,[]),(255,[])],en func74 [] [(15,[(4,.s .str)]),(31,[(4,.s .str)]),(63,[(4,.s .str)]),(127,[(4,.s .str)]),(255,[(4,.s .str)]),(2026,[(4,.s .str),(37,.s (.int .i64))])],en func86 [] [(58,[(3,.s (.int .u64)),(4,.s (.int .i64))])],en func87 [] [(58,[(11,.s (.int .i64))])],en func69 [] [(1727,[(10,.s .bool)])],en func113 [] [(28,[(0,.s (.int .u64)),(3,.s .slice)])],en func114 [] [],en func155 [] [],en func258 [] [],en func196 [] [(26,[(3,.s (.int .i64))])],en func260 [] [],en func197 [] [],en func259 [] [(58,[(7,.s (.int .i64)),(8,.s (.int .i64))]),(233,[(7,.s (.int .i64))]),(122,[(7,.s (.int .i64)),(9,.s (.int .i64))]),(489,[(7,.s (.int .i64))]),(1956,[(50,.s .bool)])],en func198 [] [(6,[(16,.s .bool)]),(122,[(7,.s (.int .i64)),(8,.s (.int .i64))]),(489,[(7,.s (.int .i64))])]] (by conv=>lhs;reduce) (by kernel_rfl) λ x=>by
 dsimp only[fj,fh,ff,fe,fk,fm,fq,tF,iP,en,sV,wrap,dc,dn,qA,gU,tW,U.I,U.B,U.S,U.N,U.A,U.O,U.W,U.V,U.L,U.U6,U.C,U.M,U.F,U.E,tP,tN,tI,oo,jU,gJ,kr,jq,TJ,Nat.reduceSub,Nat.reduceAdd,Int.reduceOfNat,Int.reduceNeg,UInt8.reduceOfNat] at x
 exact x
def Gy:=(p6 (p6 kE)).2.2.2.1
def XK:=many uj [en func148 [] [(58,[(6,.s (.int .i64))]),(122,[(7,.s (.int .i64))])]] (by conv=>lhs;reduce) (by kernel_rfl) λ x=>by
 dsimp only[fj,fh,ff,fe,fk,fm,fq,tF,iP,en,sV,wrap,dc,dn,qA,gU,tW,U.I,U.B,U.S,U.N,U.A,U.O,U.W,U.V,U.L,U.U6,U.C,U.M,U.F,U.E,tP,tN,tI,oo,jU,gJ,kr,jq,TJ,Nat.reduceSub,Nat.reduceAdd,Int.reduceOfNat,Int.reduceNeg,UInt8.reduceOfNat] at x
 exact x
def od(a:Nat)(b c d:Int)(e:I6)(f:ByteArray)(g:Int)(w:af)(K:KP):=cR w (.cells #[qp a] 62) λ a h=>cR h (.cells (iv b :: iv c :: iv d :: e.on [.string f,.int .u64 g]:List Value).toArray 45) λ b c=>cR c (.cells #[qz] 49) λ c d=>∃ e,d.cell? (qd a 0)=some (.pointer e)/\cond (e).isNone (fL d (qd c 0) (iv 6) λ e=>∃ f,e.cell? (qd c 0)=some (iv f)/\K (iv f) e) (∃ e f g,∃ h:I6,∃ i j,aA d (qd b 0) 0 (iv e :: iv f :: iv g :: h.on [.string i,.int .u64 j])/\CC 38 #[.agg (iv e :: iv f :: iv g :: h.on [.string i,.int .u64 j]:List Value).toArray] d λ d e=>∃ f,d=.returned (iv f)/\cond (f !=0) (fL e (qd c 0) (iv f) λ d=>∃ f,d.cell? (qd c 0)=some (iv f)/\K (iv f) d) (∃ d,e.cell? (qd a 0)=some (.pointer d)/\bO d λ d=>∃ f,e.cell? (Addr.add d 99)=some (iv f)/\cond (decide (f>=600)) (fL e (qd c 0) (iv 18) λ d=>∃ f,d.cell? (qd c 0)=some (iv f)/\K (iv f) d) (∃ d,e.drew.cell? (qd b 0)=some (iv d)/\∃ f,e.drew.cell? (qd a 0)=some (.pointer f)/\bO f λ f=>∃ g,e.drew.cell? (Addr.add f 4)=some (iv g)/\CC 39 #[iv d,iv g] e.drew λ d e=>∃ f,d=.returned (.bool f)/\cond (!f) (fL e (qd c 0) (iv 10) λ d=>∃ f,d.cell? (qd c 0)=some (iv f)/\K (iv f) d) (∃ d:Bool->qW,(∀ f g,d g f->∀ h:qv,cond g (fL f (qd c 0) (iv 6) λ g=>∃ h,g.cell? (qd c 0)=some (iv h)/\K (iv h) g) (∃ g:Bool->qW,(∀ h i,g i h->∀ j:qv,cond i (fL h (qd c 0) (iv 10) λ i=>∃ j,i.cell? (qd c 0)=some (iv j)/\K (iv j) i) (∃ i,h.cell? (qd a 0)=some (.pointer i)/\bO i λ i=>∃ j k l m n o p q r s t u v x y z A B C,∃ D:I6,∃ E F G H I J L,∃ M:I6,∃ N O P Q R S T,∃ U:I6,∃ V W X Y Z a1 a2,∃ a3:I6,∃ a4 a5 a6 a7 a8 a9 b1,∃ b2:I6,∃ b3 b4 b5 b6 b7 b8 b9,∃ c1:I6,∃ c2 c3 c4 c5 c6 c7 c8,∃ c9:I6,∃ d1 d2 d3 d4 d5 d6 d7,∃ d8:I6,∃ d9 e1 e2 e3 e4 e5 e6 e7 e8,aA h i 0 (iv j :: iv k :: iv l :: iv m :: iv n :: .slice o p q :: .slice r s t :: .slice u v x :: .slice y z A :: .pointer B :: iv C :: D.on (iv E :: .slice F G H :: .bool I :: .bool J :: iv L :: M.on (iv N :: .slice O P Q :: .bool R :: .bool S :: iv T :: U.on (iv V :: .slice W X Y :: .bool Z :: .bool a1 :: iv a2 :: a3.on (iv a4 :: .slice a5 a6 a7 :: .bool a8 :: .bool a9 :: iv b1 :: b2.on (iv b3 :: .slice b4 b5 b6 :: .bool b7 :: .bool b8 :: iv b9 :: c1.on (iv c2 :: .slice c3 c4 c5 :: .bool c6 :: .bool c7 :: iv c8 :: c9.on (iv d1 :: .slice d2 d3 d4 :: .bool d5 :: .bool d6 :: iv d7 :: d8.on [iv d9,.slice e1 e2 e3,.bool e4,.bool e5,.int .u64 e6,iv e7,.int .u64 e8]))))))))/\cR h (.cells #[qz,qz,qz,qz,qz,qn,qn,qn,qn,.pointer none,qz,qz,qz,qz,qz,qz,qz,qz,qn,.bool false,.bool false,qz,qz,qz,qz,qz,qz,qz,qz,qn,.bool false,.bool false,qz,qz,qz,qz,qz,qz,qz,qz,qn,.bool false,.bool false,qz,qz,qz,qz,qz,qz,qz,qz,qn,.bool false,.bool false,qz,qz,qz,qz,qz,qz,qz,qz,qn,.bool false,.bool false,qz,qz,qz,qz,qz,qz,qz,qz,qn,.bool false,.bool false,qz,qz,qz,qz,qz,qz,qz,qz,qn,.bool false,.bool false,qz,qz,qz,qz,qz,qz,qz,qz,qn,.bool false,.bool false,.int .u64 0,qz,.int .u64 0] 125) λ h i=>uP (qd h 0) 0 (iv j :: iv k :: iv l :: iv m :: iv n :: .slice o p q :: .slice r s t :: .slice u v x :: .slice y z A :: .pointer B :: iv C :: D.on (iv E :: .slice F G H :: .bool I :: .bool J :: iv L :: M.on (iv N :: .slice O P Q :: .bool R :: .bool S :: iv T :: U.on (iv V :: .slice W X Y :: .bool Z :: .bool a1 :: iv a2 :: a3.on (iv a4 :: .slice a5 a6 a7 :: .bool a8 :: .bool a9 :: iv b1 :: b2.on (iv b3 :: .slice b4 b5 b6 :: .bool b7 :: .bool b8 :: iv b9 :: c1.on (iv c2 :: .slice c3 c4 c5 :: .bool c6 :: .bool c7 :: iv c8 :: c9.on (iv d1 :: .slice d2 d3 d4 :: .bool d5 :: .bool d6 :: iv d7 :: d8.on [iv d9,.slice e1 e2 e3,.bool e4,.bool e5,.int .u64 e6,iv e7,.int .u64 e8])))))))) i λ i=>∃ j,i.drew.cell? (qd a 0)=some (.pointer j)/\∃ k,i.drew.cell? (qd a 0)=some (.pointer k)/\bO k λ k=>∃ l,i.drew.cell? (Addr.add k 9)=some (.pointer l)/\CC 42 #[.pointer l] i.drew λ i k=>∃ l,i=.returned (.pointer l)/\k.cell? (qd a 0)=some (.pointer j)/\bO j λ i=>fL k (Addr.add i 9) (.pointer l) λ i=>∃ j,i.cell? (qd a 0)=some (.pointer j)/\∃ k,i.cell? (qd b 0)=some (iv k)/\CC 43 #[.pointer j,iv k] i λ i j=>∃ k:Value,i=.returned k/\∃ i,j.cell? (qd a 0)=some (.pointer i)/\∃ l m n,∃ o:I6,∃ p q,aA j (qd b 0) 0 (iv l :: iv m :: iv n :: o.on [.string p,.int .u64 q])/\lK prog k #[.pointer i,.agg (iv l :: iv m :: iv n :: o.on [.string p,.int .u64 q]:List Value).toArray] j λ i j=>∃ k,i=.returned (iv k)/\fL j (qd c 0) (iv k) λ i=>∃ j,i.cell? (qd c 0)=some (iv j)/\cond (j !=0) (∃ j,i.cell? (qd c 0)=some (iv j)/\fL i (qd c 0) (iv j) λ j=>Hx prog 41 #[qp c,qp h,qp a] j λ j=>∃ k,j.cell? (qd c 0)=some (iv k)/\K (iv k) j) (∃ j k l,∃ m:I6,∃ n o,aA i (qd b 0) 0 (iv j :: iv k :: iv l :: m.on [.string n,.int .u64 o])/\CC 44 #[.agg (iv j :: iv k :: iv l :: m.on [.string n,.int .u64 o]:List Value).toArray] i λ i j=>∃ k l,i=.returned (.tuple #[.string k,iv l])/\∃ i,j.cell? (qd a 0)=some (.pointer i)/\bO i λ m=>∃ n,j.cell? (Addr.add m 99)=some (iv n)/\bO i λ i=>fL j (Addr.add i 99) (iv (IntKind.i64.wrap (n+1))) λ i=>∃ j,i.drew.cell? (qd a 0)=some (.pointer j)/\∃ m,i.drew.cell? (qd a 0)=some (.pointer m)/\bO m λ m=>∃ n,i.drew.cell? (Addr.add m 100)=some (.int .u64 n)/\CC 45 #[.int .u64 n,.string k] i.drew λ i k=>∃ m,i=.returned (.int .u64 m)/\k.cell? (qd a 0)=some (.pointer j)/\bO j λ i=>fL k (Addr.add i 100) (.int .u64 m) λ i=>fL i (qd c 0) (iv l) λ i=>Hx prog 41 #[qp c,qp h,qp a] i λ h=>∃ i,h.cell? (qd c 0)=some (iv i)/\K (iv i) h)))/\∃ c,f.drew.cell? (qd b 0)=some (iv c)/\CC 40 #[iv c] f.drew λ c f=>∃ h,c=.returned (.bool h)/\cond h (∃ c,f.cell? (qd a 0)=some (.pointer c)/\∃ h,f.cell? (qd b 1)=some (iv h)/\bO c λ c=>0<=h/\h<8/\∃ i,f.cell? (Addr.add (Addr.add (Addr.add c 10) ((h).toNat*11)) 10)=some (.bool i)/\g i f) (g false f)))/\∃ c,e.drew.cell? (qd b 0)=some (iv c)/\CC 40 #[iv c] e.drew λ c e=>∃ f,c=.returned (.bool f)/\cond f (∃ c,e.cell? (qd b 1)=some (iv c)/\∃ b,e.cell? (qd a 0)=some (.pointer b)/\bO b λ a=>∃ b f g,e.cell? (Addr.add (Addr.add a 5) 1)=some (.slice b f g)/\d (decide (c>=(f:Int))) e) (d false e)))))
def sw{a n1 n2 n3 u1 s1 n4 w K}(h:od a n1 n2 n3 u1 s1 n4 w K):CP 17 #[.pointer (some ⟨a,0,none⟩),.agg (iv n1 :: iv n2 :: iv n3 :: u1.on [.string s1,.int .u64 n4]:List Value).toArray] w K:=qZ (Bq [(975,[(32,.s .bool)]),(3903,[(47,.s .bool)])]) func17 (by kernel_rfl) (by kernel_rfl) h
def lS(a b c:Nat)(w:af)(R:qW):Prop:=∃ d,w.cell? (qd a 0)=some (iv d)/\cond (d !=0) (∃ a,w.cell? (qd c 0)=some (.pointer a)/\∃ c d e f g h i j k l m n o p q r s t u,∃ v:I6,∃ x y z A B C D,∃ E:I6,∃ F G H I J L M,∃ N:I6,∃ O P Q S T U V,∃ W:I6,∃ X Y Z a1 a2 a3 a4,∃ a5:I6,∃ K a7 a8 a9 b1 b2 b3,∃ b4:I6,∃ b5 b6 b7 b8 b9 c1 c2,∃ c3:I6,∃ c4 c5 c6 c7 c8 c9 d1,∃ d2:I6,∃ d3 d4 d5 d6 d7 d8 d9 e1 e2,aA w (qd b 0) 0 (iv c :: iv d :: iv e :: iv f :: iv g :: .slice h i j :: .slice k l m :: .slice n o p :: .slice q r s :: .pointer t :: iv u :: v.on (iv x :: .slice y z A :: .bool B :: .bool C :: iv D :: E.on (iv F :: .slice G H I :: .bool J :: .bool L :: iv M :: N.on (iv O :: .slice P Q S :: .bool T :: .bool U :: iv V :: W.on (iv X :: .slice Y Z a1 :: .bool a2 :: .bool a3 :: iv a4 :: a5.on (iv K :: .slice a7 a8 a9 :: .bool b1 :: .bool b2 :: iv b3 :: b4.on (iv b5 :: .slice b6 b7 b8 :: .bool b9 :: .bool c1 :: iv c2 :: c3.on (iv c4 :: .slice c5 c6 c7 :: .bool c8 :: .bool c9 :: iv d1 :: d2.on [iv d3,.slice d4 d5 d6,.bool d7,.bool d8,.int .u64 d9,iv e1,.int .u64 e2]))))))))/\bO a λ a=>uP a 0 (iv c :: iv d :: iv e :: iv f :: iv g :: .slice h i j :: .slice k l m :: .slice n o p :: .slice q r s :: .pointer t :: iv u :: v.on (iv x :: .slice y z A :: .bool B :: .bool C :: iv D :: E.on (iv F :: .slice G H I :: .bool J :: .bool L :: iv M :: N.on (iv O :: .slice P Q S :: .bool T :: .bool U :: iv V :: W.on (iv X :: .slice Y Z a1 :: .bool a2 :: .bool a3 :: iv a4 :: a5.on (iv K :: .slice a7 a8 a9 :: .bool b1 :: .bool b2 :: iv b3 :: b4.on (iv b5 :: .slice b6 b7 b8 :: .bool b9 :: .bool c1 :: iv c2 :: c3.on (iv c4 :: .slice c5 c6 c7 :: .bool c8 :: .bool c9 :: iv d1 :: d2.on [iv d3,.slice d4 d5 d6,.bool d7,.bool d8,.int .u64 d9,iv e1,.int .u64 e2])))))))) w λ a=>([]:Df)=[]/\R a) (([]:Df)=[]/\R w)
def p8{a b c:Nat}{w:af}{R:af->Prop}(h:lS a b c w R):Hx prog 41 #[.pointer (some ⟨a,0,none⟩),.pointer (some ⟨b,0,none⟩),.pointer (some ⟨c,0,none⟩)] w R:=RB (Bq []) func41 (by kernel_rfl) (by kernel_rfl) (args:=[.pointer (some ⟨a,0,none⟩),.pointer (some ⟨b,0,none⟩),.pointer (some ⟨c,0,none⟩)]) (by kernel_rfl) h
end Go.Proofs.YtjcfdidmajodiaaGreatDoor
namespace Go.Proofs.YtjcfdidmajodiaaGreatDoor
open Go Go.Vc _root_.Go.Proofs.Tryz
def dx(k p:Int):Bool :=
 if k=1 then p==0 else if k=2\/k=3\/k=4 then p==1 else if k=5\/k=6\/k=9 then p==2
 else if k=7 then decide (1<=p)&&decide (p<=3) else if k=8 then p==1||p==2 else p==3
def cE(k:Int):Bool:=decide (k=2\/k=5\/k=6\/k=7)
def IA(w:af)(k p:Int):CP 39 #[iv k,iv p] w (λ r w'=>r=.bool (dx k p)/\w'=w):=by
 refine lM.2.2.2.1 ?_
 by_cases h1:k=1
 ·exact cT (by simpa using h1) ⟨by rw[dx,ak h1],rfl⟩
 refine cF (by simpa using h1) ⟨λ b d=>b=decide (k=2\/k=3\/k=4)/\d=w,?_,?_⟩
 ·rintro d _ ⟨rfl,rfl⟩ -
  by_cases h2:k=2\/k=3\/k=4
  ·exact aP h2 ⟨by rw[dx,ah h1,ak h2],rfl⟩
  refine aU h2 ⟨λ b f=>b=decide (k=5\/k=6\/k=9)/\f=d,?_,?_⟩
  ·rintro f _ ⟨rfl,rfl⟩ -
   by_cases h3:k=5\/k=6\/k=9
   ·exact aP h3 ⟨by rw[dx,ah h1,ah h2,ak h3],rfl⟩
   refine aU h3 ?_
   by_cases a:k=7
   ·have e:dx k p=(decide (1<=p)&&decide (p<=3)):=by rw[dx,ah h1,ah h2,ah h3,ak a]
    refine cT (by simpa using a) ?_
    by_cases g:1<=p
    ·exact aP g ⟨by rw[e,dT g,bt],rfl⟩
    ·exact aU g ⟨by rw[e,dF g,Dg],rfl⟩
   refine cF (by simpa using a) ?_
   by_cases c:k=8
   ·have e:dx k p=(p==1||p==2):=by rw[dx,ah h1,ah h2,ah h3,ah a,ak c]
    refine cT (by simpa using c) ?_
    by_cases g:p=1
    ·exact cT (by simpa using g) ⟨by rw[e,g]; rfl,rfl⟩
    ·exact cF (by simpa using g) ⟨by rw[e,aS.2 g,nJ],rfl⟩
   ·exact cF (by simpa using c) ⟨by rw[dx,ah h1,ah h2,ah h3,ah a,ah c],rfl⟩
  ·by_cases g5:k=5
   ·exact cT (by simpa using g5) ⟨by rw[dT (Or.inl g5)]; simpa using g5,rfl⟩
   refine cF (by simpa using g5) ?_
   by_cases g6:k=6
   ·exact cT (by simpa using g6) ⟨by rw[dT (Or.inr (Or.inl g6))]; simpa using g6,rfl⟩
   refine cF (by simpa using g6) ⟨?_,rfl⟩
   by_cases g9:k=9
   ·rw[dT (Or.inr (Or.inr g9))]; simpa using g9
   ·rw[dF (by omega)]; simpa using g9
 ·by_cases g2:k=2
  ·exact cT (by simpa using g2) ⟨by rw[dT (Or.inl g2)]; simpa using g2,rfl⟩
  refine cF (by simpa using g2) ?_
  by_cases g3:k=3
  ·exact cT (by simpa using g3) ⟨by rw[dT (Or.inr (Or.inl g3))]; simpa using g3,rfl⟩
  refine cF (by simpa using g3) ⟨?_,rfl⟩
  by_cases g4:k=4
  ·rw[dT (Or.inr (Or.inr g4))]; simpa using g4
  ·rw[dF (by omega)]; simpa using g4
def Kq(w:af)(k:Int):CP 40 #[iv k] w (λ r w'=>r=.bool (cE k)/\w'=w):=by
 refine lM.2.2.2.2.1 ?_
 by_cases g2:k=2
 ·exact cT (by simpa using g2) ⟨by rw[cE,dT (Or.inl g2)],rfl⟩
 refine cF (by simpa using g2) ?_
 by_cases g5:k=5
 ·exact cT (by simpa using g5) ⟨by rw[cE,dT (Or.inr (Or.inl g5))],rfl⟩
 refine cF (by simpa using g5) ?_
 by_cases g6:k=6
 ·exact cT (by simpa using g6) ⟨by rw[cE,dT (Or.inr (Or.inr (Or.inl g6)))],rfl⟩
 refine cF (by simpa using g6) ⟨?_,rfl⟩
 by_cases g7:k=7
 ·rw[cE,dT (Or.inr (Or.inr (Or.inr g7)))]; simpa using g7
 ·rw[cE,dF (by omega)]; simpa using g7
structure Bd where
 x:Xv
 has:Bool
 out:Bool
def Bd.cells(b:Bd):List Value:=b.x.cells++[.bool b.has,.bool b.out]
def Bd.len(b:Bd):b.cells.length=11:=rfl
def dG:Bd:=⟨cI,false,false⟩
structure Sx where
 o:Po
 ph:Int
 s:Se
 k:Option Addr
 bd:List Bd
 dec:Int
 cnt:Int
 dig:Int
def Sx.cells(S:Sx):List Value:=S.o.cells++(iv S.ph :: (S.s.arr.toList++(.pointer S.k :: (S.bd.flatMap Bd.cells++[.int .u64 S.dec,iv S.cnt,.int .u64 S.dig]))))
def Sx.len{S:Sx}(h:S.bd.length=8):S.cells.length=101:=by
 unfold Sx.cells;simp only[aY,gm,eY,gL Bd.len,h];rfl
def fA{l:List Bd}(h:l.length=8):∃ a b c d e f g i,l=[a,b,c,d,e,f,g,i]:=by
 match l,h with
 | [a,b,c,d,e,f,g,i],_=>exact⟨a,b,c,d,e,f,g,i,rfl⟩
def K7{S:Sx}(h:S.bd.length=8){i:Nat}(hi:i<8){y:Bd}(a:S.bd[i]?=some y)(x:Xv) :
  S.cells.take (10+i*11)++x.cells++S.cells.drop (10+i*11+9)=({ S with bd:=S.bd.set i { y with x:=x } }:Sx).cells:=by
 obtain⟨o,ph,s,k,bd,dec,cnt,dig⟩:=S;obtain⟨b,c,d,e,f,g,j,l,rfl⟩:=fA h
 match i,hi with
 | 0,_|1,_|2,_|3,_|4,_|5,_|6,_|7,_=>cases a; rfl
def K6{S:Sx}(h:S.bd.length=8){i:Nat}(hi:i<8){y:Bd}(a:S.bd[i]?=some y)(v:Bool) :
  S.cells.toArray.setIfInBounds (10+i*11+9) (.bool v)=({ S with bd:=S.bd.set i { y with has:=v } }:Sx).cells.toArray:=by
 obtain⟨o,ph,s,k,bd,dec,cnt,dig⟩:=S;obtain⟨b,c,d,e,f,g,j,l,rfl⟩:=fA h
 match i,hi with
 | 0,_|1,_|2,_|3,_|4,_|5,_|6,_|7,_=>cases a; rfl
def TI{S:Sx}(h:S.bd.length=8){i:Nat}(hi:i<8){y:Bd}(a:S.bd[i]?=some y)(v:Bool) :
  S.cells.toArray.setIfInBounds (10+i*11+10) (.bool v)=({ S with bd:=S.bd.set i { y with out:=v } }:Sx).cells.toArray:=by
 obtain⟨o,ph,s,k,bd,dec,cnt,dig⟩:=S;obtain⟨b,c,d,e,f,g,j,l,rfl⟩:=fA h
 match i,hi with
 | 0,_|1,_|2,_|3,_|4,_|5,_|6,_|7,_=>cases a; rfl
def Xi(b i:Nat):Addr.add ⟨b,10,none⟩ (((i:Nat):Int).toNat*11)=⟨b,10+i*11,none⟩:=by rw[bY,aD]
def B8(y:Bd):Bd:={ y with x:=cI,has:=false }
def cG(S:Sx)(i:Nat):Sx:={ S with bd:=S.bd.set i (B8 (S.bd.getD i dG)) }
def EG{w0 w:af}{b:Nat}{S:Sx}{m:List aI}(s:St w0 w (Sep (aj b S.cells.toArray 125 :: m)))(h:S.bd.length=8){i:Nat}(hi:i<8) :
  CP 122 #[.pointer (qs b),iv i] w (λ r w'=>r=.tuple #[]/\St w0 w' (Sep (aj b (cG S i).cells.toArray 125 :: m))):=by
 refine(p6 (p6 lM)).2.2.2.1 ?_;have f:S.bd[i]?=some (S.bd[i]'(by omega)):=gE (by omega);have hd:S.bd.getD i dG=S.bd[i]'(by omega):=by rw[aJ,f]; rfl
 generalize S.bd[i]'(by omega)=y at f hd;have s1:=s.quiet (aC.drew w []);have d:S.cells.toArray.size=101:=by simpa using Sx.len h
 refine⟨by omega,by omega,?_⟩;rw[Xi];refine s1.jO 0 (10+i*11) rfl (vs:=cI.cells) ({ S with bd:=S.bd.set i { y with x:=cI } }:Sx).cells.toArray (by rw[d,Xv.len]; omega) (Xv.one _) (by rw[Xv.len]; exact congrArg List.toArray (K7 h hi f cI)) λ n s2=>⟨by omega,by omega,?_⟩;rw[bY];let a:Sx:={ S with bd:=S.bd.set i { y with x:=cI } };have h1:a.bd.length=8:=by simpa[a] using h
 have g:a.bd[i]?=some { y with x:=cI }:=by
  show(S.bd.set i _)[i]?=_;rw[nK (by omega)]
 have c:a.cells.toArray.size=101:=by simpa using Sx.len h1
 refine s2.aN 0 rfl (j:=10+i*11+9) (by show _<a.cells.toArray.size; rw[c]; omega) rfl λ o l=>⟨rfl,?_⟩;have e:=K6 h1 hi g false;have k:({ a with bd:=a.bd.set i { ({ y with x:=cI }:Bd) with has:=false } }:Sx)=cG S i:=by
  unfold cG;rw[hd];show({ S with bd:=(S.bd.set i _).set i _ }:Sx)=_;rw[Dj]; rfl
 rw[k] at e;rw[<- e];exact l
def ZP:j7 prog 99 5 (.int .u8 0) 1 1:=j7.mk' underlying99 (by kernel_rfl) rfl (by decide)
def ET(n:Nat):IntKind.u8.wrap (n:Int)=((UInt8.ofNat (n%256)).toNat:Int):=by
 rw[IntKind.wrap_u8,ofNat_toNat]; omega
def jo(prev:Nat)(l:List UInt8):Nat:=FL (Cj 8 prev++Cj 8 l.length++l)
def Oq(l:List UInt8):FL l<18446744073709551616:=by
 unfold FL;have h:∀ (l:List UInt8) (h:Nat),h<18446744073709551616->l.foldl kf h<18446744073709551616:=by
  intro l
  induction l with
  | nil=>exact λ h a=>a
  | cons b l c=>exact λ h _=>c _ (rG h b)
 exact h l _ (by decide)
def Qy{n:Nat}(a:n<=9223372036854775807):IntKind.u64.wrap (n:Int)=(n:Int):=IntWalk.u64_in _ (by omega)
def Uo(w:af)(x k:Nat)(d:k<=8):CP 87 #[.int .u64 (x:Int),iv k] w (λ r w'=>r=sv (Cj k x)/\aC w w' []):=by
 refine(p6 kE).2.1 ?_;refine OJ ZP rfl x k d (A:=λ a1 l1 c1 a=>gi prog (convert 99 9 (.slice a1 l1 c1)) a λ b e=>∃ (s1:ByteArray),b=(.string s1)/\_) ?_;intro a g hc c _;have own:=xp c (by rw[bG]; omega);rw[bG] at own;exact zw (l:=Cj k x) underlying99 underlying5 underlying9 (by rw[bG]; exact own) ⟨_,rfl,rfl,hc⟩
def Vv(w:af)(l:List UInt8)(d:l.length<=9223372036854775807):CP 86 #[sv l] w (λ r w'=>r=.int .u64 (FL l:Nat)/\w'=w):=by
 refine(p6 kE).1 ?_;refine⟨λ n1 n2 c m=>∃ i:Nat,n2=(i:Int)/\i<=l.length/\m=l.length-i/\c=w/\n1=(((l.take i).foldl kf 14695981039346656037:Nat):Int)/\(l.take i).foldl kf 14695981039346656037<18446744073709551616,⟨l.length,0,rfl,by omega,by omega,rfl,by rw[zL,mh]; rfl,by rw[zL,mh]; omega⟩,?_⟩
 rintro c m n1 n2 ⟨i,rfl,hi,rfl,rfl,rfl,b⟩ -;rw[dX]
 by_cases a:i<l.length
 ·refine aP (by omega) ⟨by omega,?_⟩;rw[aD,gK,gE a];refine⟨l.length-(i+1),by omega,i+1,inc d a,by omega,rfl,rfl,?_,?_⟩
  ·rw[xO _ b,zF (by omega),iJ,fM,mh]
  ·rw[zF (by omega),iJ,fM,mh]; exact rG _ _
 ·refine aU (by omega) ⟨?_,rfl⟩;rw[fN (by omega)]; rfl
def Rw(w:af)(x:Nat)(l:List UInt8)(c:l.length<=4611686018427387904):CP 45 #[.int .u64 (x:Int),sv l] w (λ r w'=>r=.int .u64 (jo x l:Nat)/\aC w w' []):=by
 refine kE.2.2.1 ?_;have hm:IntKind.i64.max=9223372036854775807:=rfl;refine au (Uo w x 8 (by decide)) ?_;rintro v a ⟨rfl,c1⟩;refine⟨_,rfl,?_⟩;rw[dX,Qy (by omega)];refine au (Uo a _ 8 (by decide)) ?_;rintro v b ⟨rfl,c2⟩;refine⟨_,rfl,by rw[dX,dX,bG,bG,hm]; omega,?_⟩;rw[gY,gY,dX,aY,bG,bG];refine⟨by rw[hm]; omega,au (Vv b _ (by simp only[aY,bG]; omega)) ?_⟩;rintro v d ⟨rfl,rfl⟩;exact⟨_,rfl,rfl,c1.trans c2 (by simp)⟩
def lV:Nat->Nat->List UInt8
 | 0,x=>[UInt8.ofNat (x%256)]
 | k+1,x=>if x<128 then [UInt8.ofNat (x%256)] else UInt8.ofNat (x%128+128) :: lV k (x / 128)
def sJ(x:Nat):List UInt8:=lV 9 x
theorem xF:∀ (k x:Nat),(lV k x).length<=k+1
 | 0,_=>aO _
 | k+1,x=>by
  have:=xF k (x / 128);unfold lV
  split<;>simp<;>omega
def kO(x:Nat):(sJ x).length<=10:=xF 9 x
def sH(l:List UInt8):List UInt8:=sJ l.length++l
def X2:∀ a:Fin 256,ZG .u8 ((a.val:Nat):Int) 128=((UInt8.ofNat (a.val%128+128)).toNat:Int):=by decide +kernel
def SN(x:Nat):ZG .u8 (IntKind.u8.wrap (x:Int)) 128=((UInt8.ofNat (x%128+128)).toNat:Int):=by
 have h:=X2 ⟨x%256,Dt _ (by decide)⟩;simp only at h;rw[IntKind.wrap_u8,show(x:Int)%256=((x%256:Nat):Int) by omega,h,Nat.mod_mod_of_dvd _ (by decide)]
def Fj{n:Int}{b:UInt8}(h:n=(b.toNat:Int)):(Value.int .u8 n)=kC b:=by rw[h]; rfl
def QB(w:af)(x:Nat)(h:x<18446744073709551616):CP 113 #[.int .u64 (x:Int)] w (λ r w'=>r=sv (sJ x)/\aC w w' []):=by
 refine(p6 kE).2.2.2.1 ?_;refine⟨λ n a l c f m=>∃ (y:Nat) (xs:List UInt8),n=(y:Int)/\y<128 ^ (m+1)/\m<=9/\xs.length+m=9/\l=xs.length/\xs++lV m y=sJ x/\St w f (star (o7 5 1 (.slice a l c) xs.length (xs.map kC)) emp),⟨9,x,[],rfl,by omega,by omega,rfl,rfl,rfl,(((St.start w).O0 5 1).swap)⟩,?_⟩
 rintro f m n a l c ⟨y,xs,rfl,e,hm,hlen,rfl,he,b⟩ -
 by_cases d:128<=y
 ·refine aP (by omega) ?_;obtain⟨m',rfl⟩:∃ m',m=m'+1:=by
   cases m with
   | zero=>simp at e; omega
   | succ m'=>exact⟨m',rfl⟩
  refine DA ZP b (news:=[kC (UInt8.ofNat (y%128+128))]) rfl (by simp[kC,Value.oneCell']) (by omega) (by omega) (λ a2 c2 g h3=>?_) (by rw[Fj (SN y)]);refine⟨by decide,m',by omega,y / 128,xs++[UInt8.ofNat (y%128+128)],?_,?_,by omega,by simp; omega,by simp,?_,by simpa using h3⟩
  ·rw[show(2:Int) ^ (min (7:Int).toNat IntKind.u64.bits)=128 from rfl,Ng _ (by omega)]; omega
  ·rw[zI] at e; omega
  ·rw[<- he]
   conv=>rhs; unfold lV
   rw[ah (by omega)]
   simp
 ·refine aU (by omega) ?_;have hu:lV m y=[UInt8.ofNat (y%256)]:=by
   cases m with
   | zero=>rfl
   | succ m'=>unfold lV; rw[ak (by omega)]
  refine DA ZP b (news:=[kC (UInt8.ofNat (y%256))]) rfl (by simp[kC,Value.oneCell']) (by omega) (by omega) (λ a2 c2 g h3=>?_) (by rw[Fj (ET y)]);have h4:St w g (star (o7 5 1 (.slice a2 (xs.length+1) c2) (sJ x).length ((sJ x).map kC)) emp):=by
   rw[<- he,hu]; simpa using h3
  exact Qv underlying99 underlying5 underlying9 h4 ⟨_,rfl,rfl,h4.av⟩
def wB(w:af)(n:Int)(h:0<=n/\n<=9223372036854775807):CP 113 #[.int .u64 (IntKind.u64.wrap n)] w (λ r w'=>r=sv (sJ n.toNat)/\aC w w' []):=by
 have e:IntKind.u64.wrap n=((n.toNat:Nat):Int):=by rw[IntWalk.u64_in _ (by omega)]; omega
 rw[e];exact QB w _ (by omega)
def WS(w:af)(l:List UInt8)(a:l.length<=4611686018427387904):CP 114 #[sv l] w (λ r w'=>r=sv (sH l)/\aC w w' []):=by
 refine(p6 kE).2.2.2.2.1 ?_;have hm:IntKind.i64.max=9223372036854775807:=rfl;rw[dX];refine au (wB w _ (by omega)) ?_;rintro v b ⟨rfl,c1⟩;have:=kO l.length;refine⟨_,rfl,?_,?_,c1⟩
 ·rw[dX,hm,aD]; omega
 ·rw[gY]; rfl
structure Ev where
 kind:Int
 bidder:Int
 round:Int
 want:I6
 text:List UInt8
 digest:Int
def Ev.cells(e:Ev):List Value:=iv e.kind :: (iv e.bidder :: (iv e.round :: (e.want.on [sv e.text,.int .u64 e.digest])))
def Ev.v(e:Ev):Value:=.agg e.cells.toArray
structure Ev.In (e:Ev):Prop where
 d:0<=e.digest/\e.digest<18446744073709551616
def Ev.one(e:Ev):∀ v∈e.cells,v.oneCell'=true:=by
 intro v a;simp only[Ev.cells,I6.on,cJ,mb,mc] at a;rcases a with rfl|rfl|rfl|rfl|rfl|rfl|rfl|rfl|rfl|rfl|rfl<;>rfl
def uA(k:Int):Int:=if k=1 then 4 else if k=2 then 3 else if k=5 then 5 else if k=6\/k=7 then 1 else if k=8 then 8 else if k=10 then 16 else 0
def FC(w:af)(n:Int):CP 69 #[iv n] w (λ r w'=>r=iv (uA n)/\w'=w):=by
 refine(p6 kE).2.2.1 ?_
 by_cases h1:n=1
 ·exact cT (by simpa using h1) ⟨by simp[uA,h1],rfl⟩
 refine cF (by simpa using h1) ?_
 by_cases h2:n=2
 ·exact cT (by simpa using h2) ⟨by simp[uA,h2],rfl⟩
 refine cF (by simpa using h2) ?_
 by_cases d:n=5
 ·exact cT (by simpa using d) ⟨by simp[uA,d],rfl⟩
 refine cF (by simpa using d) ⟨λ b h=>h=w/\b=decide (n=6\/n=7),?_,?_⟩
 ·rintro h b ⟨rfl,rfl⟩ -
  by_cases c:n=6\/n=7
  ·exact cT (by simpa using c) ⟨by simp[uA,h1,h2,d,c],rfl⟩
  refine aU c ?_
  by_cases f:n=8
  ·exact cT (by simpa using f) ⟨by simp[uA,f],rfl⟩
  refine cF (by simpa using f) ?_
  by_cases a:n=10
  ·exact cT (by simpa using a) ⟨by simp[uA,a],rfl⟩
  ·exact cF (by simpa using a) ⟨by simp[uA,h1,h2,d,c,f,a],rfl⟩
 ·by_cases e:n=6
  ·exact cT (by simpa using e) ⟨rfl,by simp[e]⟩
  ·refine cF (by simpa using e) ⟨rfl,?_⟩
   by_cases g:n=7
   ·simp[g]
   ·simp[e,g]
def fB(k:Int):Bool:=decide (k=2\/k=5\/k=6\/k=7)
def fW(k:Int):Bool:=decide (k=2)
def fT(k:Int):Bool:=decide (k=1\/k=5)
def fR(k:Int):Bool:=decide (k=8)
def fD(k:Int):Bool:=decide (k=10)
def FH(k:Int):(Lu .i64 (uA k) 1 !=0)=fB k/\(Lu .i64 (uA k) 2 !=0)=fW k/\(Lu .i64 (uA k) 4 !=0)=fT k/\(Lu .i64 (uA k) 8 !=0)=fR k/\(Lu .i64 (uA k) 16 !=0)=fD k:=by
 by_cases h1:k=1
 ·subst h1; decide +kernel
 by_cases h2:k=2
 ·subst h2; decide +kernel
 by_cases b:k=5
 ·subst b; decide +kernel
 by_cases c:k=6
 ·subst c; decide +kernel
 by_cases d:k=7
 ·subst d; decide +kernel
 by_cases f:k=8
 ·subst f; decide +kernel
 by_cases a:k=10
 ·subst a; decide +kernel
 have e:uA k=0:=by simp[uA,h1,h2,b,c,d,f,a]
 rw[e];simp only[fB,fW,fT,fR,fD,h1,h2,b,c,d,f,a,or_self,decide_false]
 decide +kernel
def cD(e:Ev):Ev:=⟨e.kind,if fB e.kind then e.bidder else 0,if fR e.kind then e.round else 0,if fW e.kind then e.want else z6,if fT e.kind then e.text else [],if fD e.kind then e.digest else 0⟩
def UQ(w:af)(e:Ev):CP 72 #[e.v] w (λ r w'=>r=(cD e).v/\aC w w' []):=by
 refine kE.2.2.2.2.1 ?_;let z:Ev:=⟨0,0,0,z6,[],0⟩;refine aG e.cells.toArray λ r1 D s1=>s1.aB z.cells.toArray λ r2 y s2=>?_;refine⟨_,s2.ag 1 rfl 0,au (FC y e.kind) ?_⟩;rintro v G ⟨rfl,rfl⟩;refine⟨_,rfl,_,s2.ag 1 rfl 0,s2.aB z.cells.toArray λ r3 H C=>?_⟩;refine C.az 0 rfl ({ z with kind:=e.kind }:Ev).cells rfl (Ev.one _) λ A q=>?_;obtain⟨g1,g2,g3,g4,g5⟩:=FH e.kind;rw[g1,g2,g3,g4,g5];let P:Ev->af->Prop:=λ x w'=>St w w' (Sep [aj r3 x.cells.toArray 45,aj r2 z.cells.toArray 45,aj r1 e.cells.toArray 45,emp]);let a:Ev:={ z with kind:=e.kind,bidder:=if fB e.kind then e.bidder else 0 };let b:Ev:={ a with want:=if fW e.kind then e.want else z6 };let c:Ev:={ b with text:=if fT e.kind then e.text else [] };let d:Ev:={ c with round:=if fR e.kind then e.round else 0 };refine⟨P a,?_,?_⟩
 rotate_left
 ·cases h:fB e.kind with
  | true =>
   refine cT rfl ⟨_,q.ag 2 rfl 1,q.aN 0 rfl (by show 1<11; decide) rfl λ g f=>?_⟩;show P a g;have:a={ z with kind:=e.kind,bidder:=e.bidder }:=by simp[a,h]
   rw[this]; exact f
  | false =>
   refine cF rfl ?_;have:a={ z with kind:=e.kind }:=by simp[a,h,z]
   show P a A;rw[this]; exact q
 rintro g f -;refine⟨P b,?_,?_⟩
 rotate_left
 ·cases h:fW e.kind with
  | true =>
   refine cT rfl ⟨e.want,?_,?_⟩
   ·exact bM _ 0 λ j v i=>by
     have p:=(aR.1 i).1;have B:j<6:=p;rw[bY,aL,f.ag 2 rfl]
     match j,B,i with
     | 0,_,i|1,_,i|2,_,i|3,_,i|4,_,i|5,_,i=>simpa[Ev.cells,I6.on,I6.vs] using i
   ·have a3:∀ {w':af} {R:af->Prop} {x:Ev},P x w'->(∀ o,P { x with want:=e.want } o->R o)->uP ⟨r3,3,none⟩ 0 e.want.vs w' R:=λ {w' R x} hp k=>by
     refine St.aN hp 0 rfl (by show 3<11; decide) rfl λ D t1=>t1.aN 0 rfl (by show 4<11; decide) rfl λ y t2=>t2.aN 0 rfl (by show 5<11; decide) rfl λ G t3=>t3.aN 0 rfl (by show 6<11; decide) rfl λ H t4=>t4.aN 0 rfl (by show 7<11; decide) rfl λ A t5=>t5.aN 0 rfl (by show 8<11; decide) rfl λ g t6=>k g t6
    refine a3 f λ u n=>?_;have:b={ a with want:=e.want }:=by simp[b,h]
    show P b u;rw[this]; exact n
  | false =>
   refine cF rfl ?_;have:b=a:=by simp[b,h,a,z]
   show P b g;rw[this]; exact f
 rintro u n -;refine⟨P c,?_,?_⟩
 rotate_left
 ·cases h:fT e.kind with
  | true =>
   refine cT rfl ⟨_,St.ag n 2 rfl 9,St.aN n 0 rfl (by show 9<11; decide) rfl λ g f=>?_⟩;have:c={ b with text:=e.text }:=by simp[c,h]
   show P c g;rw[this]; exact f
  | false =>
   refine cF rfl ?_;have:c=b:=by simp[c,h,b,a,z]
   show P c u;rw[this]; exact n
 rintro I s -;refine⟨P d,?_,?_⟩
 rotate_left
 ·cases h:fR e.kind with
  | true =>
   refine cT rfl ⟨_,St.ag s 2 rfl 2,St.aN s 0 rfl (by show 2<11; decide) rfl λ g f=>?_⟩;have:d={ c with round:=e.round }:=by simp[d,h]
   show P d g;rw[this]; exact f
  | false =>
   refine cF rfl ?_;have:d=c:=by simp[d,h,c,b,a,z]
   show P d I;rw[this]; exact s
 rintro J t -;refine⟨P (cD e),?_,?_⟩
 rotate_left
 ·cases h:fD e.kind with
  | true =>
   refine cT rfl ⟨_,St.ag t 2 rfl 10,St.aN t 0 rfl (by show 10<11; decide) rfl λ g f=>?_⟩;have:cD e={ d with digest:=e.digest }:=by simp[cD,h,d,c,b,a]
   show P (cD e) g;rw[this]; exact f
  | false =>
   refine cF rfl ?_;have:cD e=d:=by simp[cD,h,d,c,b,a,z]
   show P (cD e) J;rw[this]; exact t
 rintro E l -;refine⟨_,_,_,(cD e).want,_,_,St.cellsIn l 0 rfl,St.az l 1 rfl (cD e).cells rfl (Ev.one _) λ F m=>?_⟩;exact⟨_,_,_,(cD e).want,_,_,m.cellsIn 1 rfl,rfl,m.av⟩
def names:List (List UInt8):=[[],[115,97,108,101],[100,101,109,97,110,100],[114,111,117,110,100],[115,116,111,112],[98,105,100],[119,105,116,104,100,114,97,119],[100,105,115,113,117,97,108,105,102,121],[114,101,114,117,110],[99,108,111,115,101],[100,101,99,105,100,101]]
def rK(k:Int):List UInt8:=if 1<=k/\k<=10 then names.getD k.toNat [] else []
def xg(k:Int):rK k=[]<->¬ (1<=k/\k<=10):=by
 unfold rK
 by_cases h:1<=k/\k<=10
 ·rw[ak h];refine⟨λ e=>?_,λ e=>absurd h e⟩;obtain⟨j,rfl⟩:∃ j:Nat,k=j:=⟨k.toNat,by omega⟩;rw[aD] at e;have:1<=j/\j<=10:=by omega
  match j,this with
  | 1,_|2,_|3,_|4,_|5,_|6,_|7,_|8,_|9,_|10,_=>simp[names] at e
 ·rw[ah h]; simp[h]
def OT(w:af)(k:Int):CP 29 #[iv k] w (λ r w'=>r=sv (rK k)/\aC w w' []):=by
 refine kE.2.2.2.1 ?_;refine aG (List.replicate 11 (sv [])).toArray λ r1 g s1=>?_;refine s1.az 0 rfl (names.map sv) rfl (by intro v d; obtain⟨x,_,rfl⟩:=bL.1 d; rfl) λ f s2=>?_;refine⟨λ b c=>c=f/\b=decide (¬ (1<=k/\k<=10)),?_,?_⟩
 ·rintro c b ⟨rfl,rfl⟩ -
  by_cases h:1<=k/\k<=10
  ·have a:k.toNat<11:=by omega
   have e:rK k=names.getD k.toNat []:=by simp[rK,h]
   refine cF (by simp; omega) ⟨by omega,by omega,bs (rK k),?_,rfl,s2.av⟩;rw[bY,aL,gG,s2.ag 0 rfl,e];generalize k.toNat=j at a
   match j,a with
   | 0,_|1,_|2,_|3,_|4,_|5,_|6,_|7,_|8,_|9,_|10,_=>rfl
  ·exact aP h ⟨by rw[(xg k).2 h],s2.av⟩
 ·by_cases h:k<1
  ·exact aP h ⟨rfl,by simp; omega⟩
  ·exact aU h ⟨rfl,Dk.2 (by omega)⟩
def nB(n:Int):List UInt8:=sJ n.toNat
def bZ(e:Ev):List UInt8 :=
 nB e.kind++(if fB e.kind then nB e.bidder else [])++(if fR e.kind then nB e.round else [])++(if fW e.kind then e.want.l.flatMap nB else [])++(if fT e.kind then sH e.text else [])++(if fD e.kind then nB e.digest else [])
structure Ev.W7 (e:Ev):Prop where
 k:0<=e.kind/\e.kind<=10
 b:0<=e.bidder/\e.bidder<8
 r:0<=e.round/\e.round<30
 w:I6.Le e.want 4
 t:e.text.length<=4000
 d:0<=e.digest/\e.digest<18446744073709551616
def pU(n:Int):(nB n).length<=10:=kO _
def DY(l:List Int):(l.flatMap nB).length<=10*l.length:=by
 induction l with
 | nil=>simp
 | cons x l a=>have:=pU x; simp only[j5,aY,gm]; omega
def JV(w:af){e:Ev}(h:e.W7):CP 74 #[e.v] w (λ r w'=>r=sv (bZ e)/\aC w w' []):=by
 refine kE.2.2.2.2.2.1 ?_;have P:=h.k; have O:=h.b; have Q:=h.r; have R:=h.t; have hd:=h.d;have hm:IntKind.i64.max=9223372036854775807:=rfl;refine aG e.cells.toArray λ r1 I s1=>?_;refine⟨_,s1.ag 0 rfl 0,au (FC I e.kind) ?_⟩;rintro v K ⟨rfl,rfl⟩;refine⟨_,rfl,_,s1.ag 0 rfl 0,au (wB K e.kind (by omega)) ?_⟩;rintro v L ⟨rfl,c3⟩;obtain⟨g1,g2,g3,g4,g5⟩:=FH e.kind;rw[g1,g2,g3,g4,g5];have i:=s1.quiet c3;have G:=pU e.kind;let J:Nat->List UInt8->ByteArray->af->Prop:=λ n l s w'=>s=bs l/\l.length<=n/\St w w' (Sep [aj r1 e.cells.toArray 45,emp]);refine⟨_,rfl,J 20 (nB e.kind++(if fB e.kind then nB e.bidder else [])),?_,?_⟩
 rotate_left
 ·cases hf:fB e.kind with
  | true =>
   refine cT rfl ⟨_,i.ag 0 rfl 1,au (wB L e.bidder (by omega)) ?_⟩;rintro v B ⟨rfl,c4⟩;have:=pU e.bidder;exact⟨_,rfl,by rw[dX,dX,hm]; unfold nB at *; omega,gY _ _,by simp only[aY,pG]; omega,i.quiet c4⟩
  | false=>exact cF rfl ⟨by simp; rfl,by simp; omega,i⟩
 rintro B s ⟨rfl,l1,o⟩ -;refine⟨J 30 (nB e.kind++(if fB e.kind then nB e.bidder else [])++(if fR e.kind then nB e.round else [])),?_,?_⟩
 rotate_left
 ·generalize nB e.kind++(if fB e.kind then nB e.bidder else [])=l at *
  cases hf:fR e.kind with
  | true =>
   refine cT rfl ⟨_,o.ag 0 rfl 2,au (wB B e.round (by omega)) ?_⟩;rintro v M ⟨rfl,c5⟩;have:=pU e.round;exact⟨_,rfl,by rw[dX,dX,hm]; unfold nB at *; omega,gY _ _,by simp only[aY,pG]; omega,o.quiet c5⟩
  | false=>exact cF rfl ⟨by simp,by simp; omega,o⟩
 clear l1 o G i;rintro M s ⟨rfl,l1,p⟩ -;refine⟨J 90 (nB e.kind++(if fB e.kind then nB e.bidder else [])++(if fR e.kind then nB e.round else [])++(if fW e.kind then e.want.l.flatMap nB else [])),?_,?_⟩
 rotate_left
 ·generalize nB e.kind++(if fB e.kind then nB e.bidder else [])++(if fR e.kind then nB e.round else [])=l at *
  cases hf:fW e.kind with
  | true =>
   refine cT rfl ⟨e.want,?_,λ s n g m=>∃ k:Nat,n=k/\k<=6/\m=6-k/\s=bs (l++(e.want.l.take k).flatMap nB)/\St w g (Sep [aj r1 e.cells.toArray 45,emp]),⟨6,0,rfl,by omega,by omega,by simp,p⟩,?_⟩
   ·exact bM _ 0 λ j v a=>by
     have D:j<6:=(aR.1 a).1;rw[bY,aL,p.ag 0 rfl]
     match j,D,a with
     | 0,_,a|1,_,a|2,_,a|3,_,a|4,_,a|5,_,a=>simpa[Ev.cells,I6.on,I6.vs] using a
   rintro g m s n ⟨k,rfl,E,F,rfl,f⟩ -
   by_cases x:(k:Int)<6
   ·have c:k<6:=by omega
    have hw:=h.w k c;refine aP x ⟨by omega,by omega,_,e.want.get k c,au (wB g _ (by omega)) ?_⟩;rintro v z ⟨rfl,u⟩;have H:=DY (e.want.l.take k);have A:(e.want.l.take k).length<=6:=by simp[I6.len]; omega
    have S:=kO (e.want.at' k).toNat;refine⟨_,rfl,by rw[dX,dX,aY,hm]; omega,6-(k+1),by omega,k+1,inc (by decide) c,by omega,rfl,?_,f.quiet u⟩;rw[gY,aH (e.want.pT k c),uo,<- mJ]; simp[nB]
   ·obtain rfl:k=6:=by omega
    have H:=DY e.want.l;have A:e.want.l.length=6:=rfl;refine cF (by simp) ⟨rfl,?_,f⟩;simp only[aY,pG]; omega
  | false=>exact cF rfl ⟨by simp,by simp; omega,p⟩
 clear l1 p;rintro g s ⟨rfl,l1,f⟩ -;refine⟨J 4100 (nB e.kind++(if fB e.kind then nB e.bidder else [])++(if fR e.kind then nB e.round else [])++(if fW e.kind then e.want.l.flatMap nB else [])++(if fT e.kind then sH e.text else [])),?_,?_⟩
 rotate_left
 ·generalize nB e.kind++(if fB e.kind then nB e.bidder else [])++(if fR e.kind then nB e.round else [])++(if fW e.kind then e.want.l.flatMap nB else [])=l at *
  cases hf:fT e.kind with
  | true =>
   refine cT rfl ⟨_,f.ag 0 rfl 9,au (WS g e.text (by omega)) ?_⟩;rintro v z ⟨rfl,u⟩;have q:=kO e.text.length;have A:(sH e.text).length<=4010:=by unfold sH; rw[aY]; omega
   exact⟨_,rfl,by rw[dX,dX,hm]; omega,gY _ _,by simp only[aY,pG]; omega,f.quiet u⟩
  | false=>exact cF rfl ⟨by simp,by simp; omega,f⟩
 clear l1 f;rintro z s ⟨rfl,l1,y⟩ -;refine⟨λ s w'=>s=bs (bZ e)/\aC w w' [],?_,?_⟩
 ·rintro N s ⟨rfl,c8⟩ -;exact⟨rfl,c8⟩
 ·unfold bZ;generalize nB e.kind++(if fB e.kind then nB e.bidder else [])++(if fR e.kind then nB e.round else [])++(if fW e.kind then e.want.l.flatMap nB else [])++(if fT e.kind then sH e.text else [])=l at *
  cases hf:fD e.kind with
  | true =>
   have C:e.digest=((e.digest.toNat:Nat):Int):=by omega
   refine cT rfl ⟨_,y.ag 0 rfl 10,?_⟩;rw[C];refine au (QB z e.digest.toNat (by omega)) ?_;rintro v N ⟨rfl,c8⟩;have:=kO e.digest.toNat;exact⟨_,rfl,by rw[dX,dX,hm]; omega,gY _ _,(y.quiet c8).av⟩
  | false=>exact cF rfl ⟨by simp,y.av⟩
def Ev.ext'{a b:Ev}(h1:a.kind=b.kind)(h2:a.bidder=b.bidder)(h3:a.round=b.round)(h4:a.want=b.want)(c:a.text=b.text)(d:a.digest=b.digest):a=b:=by
 cases a; cases b; simp_all
instance:DecidableEq Ev:=λ a b =>
 if h:a.kind=b.kind/\a.bidder=b.bidder/\a.round=b.round/\a.want=b.want/\a.text=b.text/\a.digest=b.digest then .isTrue (Ev.ext' h.1 h.2.1 h.2.2.1 h.2.2.2.1 h.2.2.2.2.1 h.2.2.2.2.2)
 else .isFalse λ e=>h (by subst e; exact⟨rfl,rfl,rfl,rfl,rfl,rfl⟩)
def fE(e:Ev):Int :=
 if ¬ (1<=e.kind/\e.kind<=10)\/e≠cD e then 2
 else if e.bidder<0\/8<=e.bidder\/e.round<0\/30<=e.round\/e.want.l.all iy=false then 4
 else if 4000<e.text.length\/4000<(bZ e).length then 3 else 0
def eH{e:Ev}(h:fE e=0)(hd:0<=e.digest/\e.digest<18446744073709551616):e.W7:=by
 unfold fE at h
 split at h
 ·cases h
 ·rename_i h1
  split at h
  ·cases h
  ·rename_i h2
   split at h
   ·cases h
   ·rename_i h3;have hw:e.want.l.all iy=true:=by
     cases hq:e.want.l.all iy with
     | true=>rfl
     | false=>exact absurd (.inr (.inr (.inr (.inr hq)))) h2
    exact⟨by omega,by omega,by omega,Bl hw,by omega,hd⟩
def NH(a b:List UInt8):(bs a==bs b)=(a==b):=by
 show((bs a).data==(bs b).data)=_;simp[bs]
def Cb(w:af){e:Ev}(hi:e.In):CP 38 #[e.v] w (λ r w'=>r=iv (fE e)/\aC w w' []):=by
 refine kE.1 ?_;refine aG e.cells.toArray λ r1 g s1=>?_;let s:Prop:=¬ (1<=e.kind/\e.kind<=10)\/e≠cD e;let t:Prop:=e.bidder<0\/8<=e.bidder\/e.round<0\/30<=e.round\/e.want.l.all iy=false;let u:Prop:=4000<e.text.length\/4000<(bZ e).length;refine⟨λ b p=>(b=true<->s)/\aC g p [],?_,?_⟩
 ·rintro p b ⟨c,c2⟩ -;have s2:=s1.quiet c2
  cases b with
  | true=>exact cT rfl ⟨by unfold fE; rw[ak (c.1 rfl)],s2.av⟩
  | false =>
   have n1 : ¬ s:=λ h=>by have:=c.2 h; cases this
   refine cF rfl ⟨λ b q=>(b=true<->t)/\aC g q [],?_,?_⟩
   ·rintro q b ⟨c,c3⟩ -;have n:=s1.quiet c3
    cases b with
    | true=>exact cT rfl ⟨by unfold fE; rw[ah n1,ak (c.1 rfl)],n.av⟩
    | false =>
     have n2 : ¬ t:=λ h=>by have:=c.2 h; cases this
     refine cF rfl ⟨λ b F=>(b=true<->u)/\aC g F [],?_,_,n.ag 0 rfl 9,?_⟩
     ·rintro F b ⟨c,c4⟩ -;have E:=s1.quiet c4
      cases b with
      | true=>exact cT rfl ⟨by unfold fE; rw[ah n1,ah n2,ak (c.1 rfl)],E.av⟩
      | false =>
       have n3 : ¬ u:=λ h=>by have:=c.2 h; cases this
       exact cF rfl ⟨by unfold fE; rw[ah n1,ah n2,ah n3],E.av⟩
     ·rw[dX]
      by_cases K:4000<e.text.length
      ·exact aP (by omega) ⟨⟨λ _=>.inl K,λ _=>rfl⟩,c3⟩
      ·have hw:e.want.l.all iy=true:=by
        cases hq:e.want.l.all iy with
        | true=>rfl
        | false=>exact absurd (.inr (.inr (.inr (.inr hq)))) n2
       have J:e.W7:=⟨by omega,by omega,by omega,Bl hw,by omega,hi.d⟩;refine aU (by omega) ⟨_,_,_,e.want,_,_,n.cellsIn 0 rfl,au (JV q J) ?_⟩;rintro v L ⟨rfl,c5⟩;refine⟨_,rfl,?_,c3.trans c5 (by simp)⟩;rw[dX,bN];exact⟨λ h=>.inr (by omega),λ h=>by rcases h with h|h<;>omega⟩
   ·refine⟨_,s2.ag 0 rfl 1,?_⟩
    by_cases g1:e.bidder<0
    ·exact aP g1 ⟨⟨λ _=>.inl g1,λ _=>rfl⟩,c2⟩
    refine aU g1 ⟨_,s2.ag 0 rfl 1,?_⟩
    by_cases g2:e.bidder>=8
    ·exact aP g2 ⟨⟨λ _=>.inr (.inl g2),λ _=>rfl⟩,c2⟩
    refine aU g2 ⟨_,s2.ag 0 rfl 2,?_⟩
    by_cases g3:e.round<0
    ·exact aP g3 ⟨⟨λ _=>.inr (.inr (.inl g3)),λ _=>rfl⟩,c2⟩
    refine aU g3 ⟨_,s2.ag 0 rfl 2,?_⟩
    by_cases g4:e.round>=30
    ·exact aP g4 ⟨⟨λ _=>.inr (.inr (.inr (.inl g4))),λ _=>rfl⟩,c2⟩
    refine aU g4 ⟨e.want,?_,au (iq p e.want) ?_⟩
    ·exact bM _ 0 λ j v a=>by
      have I:j<6:=(aR.1 a).1;rw[bY,aL,s2.ag 0 rfl]
      match j,I,a with
      | 0,_,a|1,_,a|2,_,a|3,_,a|4,_,a|5,_,a=>simpa[Ev.cells,I6.on,I6.vs] using a
    ·rintro v M ⟨rfl,H⟩;refine⟨_,rfl,?_,c2.trans H (by simp)⟩
     cases hq:e.want.l.all iy with
     | true=>exact⟨λ h=>by simp at h,λ h=>by rcases h with h|h|h|h|h<;>first|omega|(rw[hq] at h; cases h)⟩
     | false=>exact⟨λ _=>.inr (.inr (.inr (.inr hq))),λ _=>by simp⟩
 ·have k:=s1.quiet (aC.drew g []);refine⟨_,k.ag 0 rfl 0,au (OT _ e.kind) ?_⟩;rintro v G ⟨rfl,x⟩;have o:=k.quiet x;have i:aC g G []:=(aC.drew g []).trans x (by simp);refine⟨_,rfl,?_⟩
  by_cases m:1<=e.kind/\e.kind<=10
  ·have f:rK e.kind≠[]:=λ h=>(xg _).1 h m;refine cF (by rw[fG,fG]; simpa using f) ⟨_,_,_,e.want,_,_,o.cellsIn 0 rfl,_,_,_,e.want,_,_,o.cellsIn 0 rfl,au (UQ G e) ?_⟩;rintro v N ⟨rfl,c8⟩;refine⟨_,_,_,(cD e).want,_,_,rfl,(o.quiet c8).cellsIn 0 rfl,?_,i.trans c8 (by simp)⟩;simp only[I6.beq_eq,NH,yM,Dl,pH,aS,ne_eq,iY];constructor
   ·intro h;refine .inr λ he=>?_;rcases h with h|h|h|h|h|h<;>apply h<;>rw[<- he]
   ·intro h;rcases h with h|h
    ·exact absurd m h
    ·by_cases y:e.kind=(cD e).kind
     ·by_cases z:e.bidder=(cD e).bidder
      ·by_cases A:e.round=(cD e).round
       ·by_cases B:e.want=(cD e).want
        ·by_cases C:e.text=(cD e).text
         ·by_cases D:e.digest=(cD e).digest
          ·exact absurd (Ev.ext' y z A B C D) h
          ·exact .inr (.inr (.inr (.inr (.inr D))))
         ·exact .inr (.inr (.inr (.inr (.inl C))))
        ·exact .inr (.inr (.inr (.inl B)))
       ·exact .inr (.inr (.inl A))
      ·exact .inr (.inl z)
     ·exact .inl y
  ·have f:rK e.kind=[]:=(xg _).2 m;exact cT (by rw[fG,fG,f]; rfl) ⟨⟨λ _=>.inl m,λ _=>rfl⟩,i⟩
def N4(w:af){e:Ev}(hi:e.In):CP 44 #[e.v] w (λ r w'=>r=.tuple #[sv (if fE e=0 then bZ e else []),iv (fE e)]/\aC w w' []):=by
 refine kE.2.1 ?_;refine aG e.cells.toArray λ r1 b s1=>?_;refine⟨_,_,_,e.want,_,_,s1.cellsIn 0 rfl,au (Cb b hi) ?_⟩;rintro v c ⟨rfl,c2⟩;refine⟨_,rfl,?_⟩;have s2:=s1.quiet c2
 by_cases a:fE e=0
 ·refine cF (by simpa using a) ⟨_,_,_,e.want,_,_,s2.cellsIn 0 rfl,au (JV c (eH a hi.d)) ?_⟩;rintro v f ⟨rfl,c3⟩;exact⟨_,rfl,by rw[ak a,a],(s2.quiet c3).av⟩
 ·exact cT (by simpa using a) ⟨by rw[ah a],s2.av⟩
def He{S:Sx}(h:S.bd.length=8)(x:Int):S.cells.toArray.setIfInBounds 4 (iv x)=({ S with ph:=x }:Sx).cells.toArray:=by
 obtain⟨o,ph,s,k,bd,dec,cnt,dig⟩:=S;obtain⟨a,b,c,d,e,f,g,i,rfl⟩:=fA h;rfl
def WJ{S:Sx}(h:S.bd.length=8)(x:Int):S.cells.toArray.setIfInBounds 98 (.int .u64 x)=({ S with dec:=x }:Sx).cells.toArray:=by
 obtain⟨o,ph,s,k,bd,dec,cnt,dig⟩:=S;obtain⟨a,b,c,d,e,f,g,i,rfl⟩:=fA h;rfl
def WK{S:Sx}(h:S.bd.length=8){i:Nat}(hi:i<8){y:Bd}(a:S.bd[i]?=some y):S.cells.toArray[10+i*11+9]?=some (.bool y.has):=by
 obtain⟨o,ph,s,k,bd,dec,cnt,dig⟩:=S;obtain⟨b,c,d,e,f,g,j,l,rfl⟩:=fA h
 match i,hi with
 | 0,_|1,_|2,_|3,_|4,_|5,_|6,_|7,_=>cases a; rfl
def jg{S:Sx}(h:S.bd.length=8):S.cells.toArray.size=101:=by simpa using Sx.len h
section
variable {w0 w:af} {b:Nat} {S:Sx} {m:List aI}
def mA(S:Sx)(e:Ev):Sx:=if e.kind=10 then { S with ph:=4,dec:=e.digest } else { S with ph:=3 }
def Oh(s:St w0 w (Sep (aj b S.cells.toArray 125 :: m)))(h:S.bd.length=8)(e:Ev) :
  CP 85 #[.pointer (qs b),e.v] w (λ r w'=>r=iv 0/\St w0 w' (Sep (aj b (mA S e).cells.toArray 125 :: m))):=by
 refine @qD _ _ _ _ e.want _ _ _ _ ?_;refine s.aB e.cells.toArray λ r1 l s1=>s1.aN 1 rfl (j:=4) (by rw[jg h]; omega) rfl λ g s2=>?_;rw[He h] at s2;have s2:St w0 g (Sep (aj r1 e.cells.toArray 45 :: aj b ({ S with ph:=3 }:Sx).cells.toArray 125 :: m)):=s2;refine⟨λ i=>St w0 i (Sep (aj r1 e.cells.toArray 45 :: aj b (mA S e).cells.toArray 125 :: m)),λ i d _=>⟨rfl,d.second⟩,_,s2.ag 0 rfl 0,?_⟩
 by_cases a:e.kind=10
 ·have h3:({ S with ph:=3 }:Sx).bd.length=8:=h;have h4:({ S with ph:=4 }:Sx).bd.length=8:=h;have d:=s2.quiet (aC.drew g []);refine cT (by simpa using a) ⟨_,d.ag 0 rfl 10,d.aN 1 rfl (j:=4) (by rw[jg h3]; omega) rfl λ k c=>?_⟩;rw[He h3] at c;have c:St w0 k (Sep (aj r1 e.cells.toArray 45 :: aj b ({ S with ph:=4 }:Sx).cells.toArray 125 :: m)):=c;refine⟨c.ag 0 rfl 10,c.aN 1 rfl (j:=98) (by rw[jg h4]; omega) rfl λ n f=>?_⟩;rw[WJ h4] at f;rw[mA,ak a];exact f
 ·exact cF (by simpa using a) (by rw[mA,ah a]; exact s2)
def Jm(s:St w0 w (Sep (aj b S.cells.toArray 125 :: m)))(h:S.bd.length=8){e:Ev}{i:Nat}(hi:i<8)(he:e.bidder=i) :
  CP 82 #[.pointer (qs b),e.v] w (λ r w'=>((S.bd.getD i dG).has=false/\r=iv 6/\St w0 w' (Sep (aj b S.cells.toArray 125 :: m)))\/((S.bd.getD i dG).has=true/\r=iv 0/\St w0 w' (Sep (aj b (cG S i).cells.toArray 125 :: m)))):=by
 refine @pe _ _ _ _ e.want _ _ _ _ ?_;have c:S.bd[i]?=some (S.bd.getD i dG):=by rw[aJ,gE (by omega)]; rfl
 generalize S.bd.getD i dG=y at c;refine s.aB e.cells.toArray λ r1 a s1=>?_;have s2:=s1.quiet (aC.drew a []);have c1:a.drew.cell? ⟨r1,1,none⟩=some (iv i):=by rw[<- he]; exact s2.ag 0 rfl 1
 have c2:a.drew.cell? (Addr.add (Addr.add ⟨b,10,none⟩ (((i:Nat):Int).toNat*11)) 9)=some (.bool y.has):=by
  rw[Xi,bY,s2.ag 1 rfl]; exact WK h hi c
 refine⟨_,c1,by omega,by omega,_,c2,?_⟩
 cases hh:y.has with
 | false=>exact cT rfl (.inl ⟨rfl,rfl,s2.second⟩)
 | true =>
  refine cF rfl ⟨_,c1,au (EG (s2.second) h hi) ?_⟩;rintro v f ⟨rfl,d⟩;exact⟨rfl,.inr ⟨rfl,rfl,d⟩⟩
end
def Li:List UInt8:=[112,114,111,100,117,99,116]
def Jg:List UInt8:=[98,105,100,100,101,114]
def Jh:List UInt8:=[99,97,112]
def Jf:List UInt8:=[97,115,105,100,101]
def kP(s:List UInt8):Int:=if s=Li then 6 else if s=Jg then 5 else if s=Jh\/s=Jf then 4 else 0
def TV(w:af)(s:List UInt8):CP 203 #[sv s] w (λ r w'=>r=iv (kP s)/\w'=w):=by
 refine vI.2.2.2.1 ?_;rw[fG,fG,fG,fG,fG]
 by_cases h1:s=Li
 ·exact cT (bH.2 h1) ⟨by rw[kP,ak h1],rfl⟩
 refine cF (aS.2 h1) ?_
 by_cases h2:s=Jg
 ·exact cT (bH.2 h2) ⟨by rw[kP,ah h1,ak h2],rfl⟩
 refine cF (aS.2 h2) ⟨λ b a=>b=decide (s=Jh\/s=Jf)/\a=w,?_,?_⟩
 ·rintro a _ ⟨rfl,rfl⟩ -
  by_cases h3:s=Jh\/s=Jf
  ·exact aP h3 ⟨by rw[kP,ah h1,ah h2,ak h3],rfl⟩
  ·exact aU h3 ⟨by rw[kP,ah h1,ah h2,ah h3],rfl⟩
 ·by_cases h3:s=Jh
  ·exact cT (bH.2 h3) ⟨by rw[dT (Or.inl h3)]; exact bH.2 h3,rfl⟩
  ·refine cF (aS.2 h3) ⟨?_,rfl⟩
   by_cases h4:s=Jf
   ·rw[dT (Or.inr h4)]; exact bH.2 h4
   ·rw[dF (by rintro(h|h); exact h3 h; exact h4 h)]; exact aS.2 h4
abbrev sF (x:List UInt8):List Value:=[sv x]
def sg(x:List UInt8):(sF x).length=1:=rfl
def Wj(x:List UInt8):∀ v∈sF x,v.oneCell'=true:=by intro v a; simp at a; subst a; rfl
def slS:j7 prog 108 9 (.string (bs [])) 1 16:=j7.mk' underlying108 (by kernel_rfl) rfl (by decide)
def uM{w:af}{a:OA}{l:List (List UInt8)}(h:cP 1 sF w a l){i:Nat}{x:List UInt8}(hi:l[i]?=some x):∃ q,a=some q/\w.cell? (Addr.add q (i*1))=some (sv x):=by
 obtain⟨q,b,hc⟩:=h.at hi;have:=aM hc 0 _ rfl;rw[aL,Addr.add_add,wL] at this;exact⟨q,b,this⟩
def bD(c:UInt8)(s:List UInt8):List (List UInt8):=(Lib.splitB (bs [c]) 0 (Lib.countB (bs s) (bs [c])) (bs s)).map λ b=>b.data.toList
def p7(c:UInt8)(s:List UInt8):(bD c s).length=Lib.countB (bs s) (bs [c])+1:=by
 rw[bD,dU,Lib.splitB_all (bs [c]) (by rw[dX]; exact aO 1) 0 _ _ rfl]
def tB(c:UInt8)(s:List UInt8):(bD c s).length<=s.length+1:=by
 rw[p7];have:=Lib.countB_le (bs [c]) (by rw[dX]; exact aO 1) (bs s).size (bs s) (aO _);rw[dX] at this;omega
def K3(w:af)(c:UInt8)(s:List UInt8)(j:s.length<=1000000):CP 155 #[sv s,sv [c]] w (λ r w'=>∃ g,r=.slice (qs g) (bD c s).length (bD c s).length/\St w w' (Sep [dK 9 1 sF (qs g) (bD c s).length (bD c s)])):=by
 refine(p6 kE).2.2.2.2.2.1 ?_;have h1:1<=(bs [c]).size:=by rw[dX]; exact aO 1
 have hle:=Lib.countB_le (bs [c]) h1 (bs s).size (bs s) (aO _);have hlen:=Lib.splitB_all (bs [c]) h1 0 _ (bs s) rfl;have m:(bs s).size=s.length:=dX s;have hC:=Tryz.strings_Count_one (bs s) c w;have k:=Any.strings_genSplit_core Tryz.Sq (by kernel_rfl) (bs s) (bs [c]) 0 (-1) (Lib.countB (bs s) (bs [c])+1) w (by omega) h1 (jJ _)
  (λ x cs _=>(Tryz.strings_Index_one x c _).mono λ e w' ⟨he,hw⟩=>⟨by rw[he]; show _=Ending.returned (Value.int .i64 (Lib.index x.data.toList [c])); rw[Lib.index_one],hw⟩) ?_ (by decide) (by decide) (by rw[ak (by decide)]; omega)
 ·rw[Nat.add_sub_cancel,hlen] at k;have d:Lib.cellsOf (Lib.splitB (bs [c]) 0 (Lib.countB (bs s) (bs [c])) (bs s)) (Lib.countB (bs s) (bs [c])+1)=((Lib.splitB (bs [c]) 0 (Lib.countB (bs s) (bs [c])) (bs s)).map Value.string).toArray:=by rw[<- hlen]; exact Lib.cellsOf_full _
  rw[d] at k;refine Calls.mono k ?_;rintro e w' ⟨rfl,rfl⟩;refine⟨_,_,_,rfl,w.heap.size,by rw[p7],?_⟩;have s1:=(St.start w).one.fu ((Lib.splitB (bs [c]) 0 (Lib.countB (bs s) (bs [c])) (bs s)).map Value.string).toArray 9;have f:(((Lib.splitB (bs [c]) 0 (Lib.countB (bs s) (bs [c])) (bs s)).map Value.string).toArray:Array Value).toList=(bD c s).flatMap sF:=by
   rw[bD,List.flatMap_map]
   induction Lib.splitB (bs [c]) 0 (Lib.countB (bs s) (bs [c])) (bs s) with
   | nil=>rfl
   | cons b l a=>simp only[jm,j5] at a ⊢; rw[<- a,sF,sv,<- Xu]; rfl
  refine(s1.ay [0]).weak (bz.left ?_);rintro w' F ⟨h,i⟩;have hm:(bD c s).length<=maxLen:=by rw[p7]; unfold maxLen; omega
  exact⟨F,⟨vX sg h f hm,by rw[i]; simp[Value.ownBlock]⟩,λ _ h=>h⟩
 ·refine Calls.mono hC ?_;rintro e w' ⟨rfl,hw⟩;refine⟨?_,hw⟩;show _=Ending.returned (Value.int .i64 ((Lib.count (bs s).data.toList [c]:Nat):Int));rw[Lib.count_one]; rfl
def aC.RY(w:af)(b o n:Nat):aC w (w.freeze ⟨b,o,none⟩ n) [b]:=by
 unfold World.freeze
 split
 ·exact aC.refl _ _
 ·refine⟨by simp,λ i _ hi=>?_,⟨rfl,rfl,rfl⟩⟩;simp only[bp] at hi;rw[Nd,ah (λ h=>hi h.symm)]
def LB(w:af)(e:TypeId)(t:ByteArray):aC w (Lib.bytesWorld w e t) []:=by
 unfold Lib.bytesWorld;have c1:aC w w.drew []:=aC.drew w [];refine(c1.trans (aC.new _ _ []) (by simp)).trans (aC.RY _ _ _ _) ?_;intro i hi;simp at hi; subst hi;exact .inr (aO _)
def ur(l:List UInt8):Bool:=l.all λ c=>lz (un c)
def GY(l:List UInt8):Int:=(Lib.atoi l).getD 0
def fc(l:List UInt8):Int×Int:=if ur l=false\/l=[]\/(l.head? = some 48/\1<l.length) then (0,2) else if 9<l.length then (0,4) else (GY l,0)
theorem xK:∀ (l:List UInt8) (acc:Nat),ur l=true->∃ n,Lib.decFrom acc l=some n
 | [],acc,_=>⟨acc,rfl⟩
 | b :: l,acc,h=>by
  unfold ur at h;rw[og,aX] at h;have h1:48<=b.toNat/\b.toNat<=57:=by
   have h2:48<=un b/\un b<=57:=by simpa[lz] using h.1
   unfold un at h2;omega
  rw[Lib.decFrom,Lib.digitVal,ak h1];exact xK l _ h.2
def Fb{l:List UInt8}(h:ur l=true)(c:l≠[]):∃ n,Lib.atoi l=some n:=by
 cases l with
 | nil=>exact absurd rfl c
 | cons b l =>
  obtain⟨n,e⟩:=xK (b :: l) 0 h;unfold ur at h;rw[og,aX] at h;have h1:48<=un b/\un b<=57:=by simpa[lz] using h.1
  have d:(b==45)=false:=by rw[aS]; rintro rfl; revert h1; decide
  have a:(b==43)=false:=by rw[aS]; rintro rfl; revert h1; decide
  have hd:Lib.decNat (b :: l)=some n:=by rw[Lib.decNat]; exact e
  rw[Lib.atoi,d,a,hd];exact⟨_,rfl⟩
def Tl{l:List UInt8}(a:l.length<=18):In (GY l):=by
 unfold GY
 cases h:Lib.atoi l with
 | none=>exact⟨by decide,by decide⟩
 | some n =>
  have:=Lib.atoi_bound h a;show In n;exact⟨by omega,by omega⟩
def MM(w:af){l:List UInt8}(x:l.length<=1000000):CP 265 #[sv l] w (λ r w'=>r=.tuple #[iv (fc l).1,iv (fc l).2]/\aC w w' []):=by
 refine(p6 vI).2.1 ?_;refine⟨λ i u m=>∃ k:Nat,i=k/\k<=l.length/\m=l.length-k/\ur (l.take k)=true/\aC w u [],⟨l.length,0,rfl,by omega,by omega,rfl,aC.refl _ _⟩,?_⟩;rintro u m i ⟨k,rfl,v,hm,ha,hc⟩ -
 by_cases d:k<l.length
 ·have j:l[k]?=some (l[k]'d):=gE d;generalize l[k]'d=c at j;refine cT (by rw[dX]; exact dT (by omega)) ⟨λ b f=>b = !lz (un c)/\aC w f [],?_,by omega,?_⟩
  ·rintro f b ⟨rfl,c2⟩ -
   cases hd:lz (un c) with
   | false =>
    have:ur l=false:=nG.2 ⟨c,bf j,by simp[hd]⟩;exact cT rfl ⟨by rw[fc,ak (.inl this)],c2⟩
   | true =>
    refine cF rfl (jZ (by omega) ⟨?_,c2⟩);unfold ur at ha ⊢;rw[aH j,lZ,ha]; simp[hd]
  ·rw[aD,gK,j];have q:=c.toNat_lt
   by_cases h1:(c.toNat:Int)<48
   ·exact aP h1 ⟨by rw[lz,un,dF (by omega)]; rfl,hc⟩
   ·refine aU h1 ⟨by omega,?_⟩;refine⟨?_,hc⟩
    by_cases h2:(c.toNat:Int)>57
    ·rw[dT h2,lz,un,dT (show(48:Int)<=(c.toNat:Int) by omega),dF (show ¬ (c.toNat:Int)<=57 by omega)]; rfl
    ·rw[dF h2,lz,un,dT (show(48:Int)<=(c.toNat:Int) by omega),dT (show(c.toNat:Int)<=57 by omega)]; rfl
 ·obtain rfl:k=l.length:=by omega
  rw[br] at ha;refine cF (by rw[dX]; exact dF (by omega)) ⟨λ b f=>b=decide (l=[]\/(l.head? = some 48/\1<l.length))/\aC w f [],?_,?_⟩
  ·rintro f b ⟨rfl,c2⟩ -
   by_cases g:l=[]\/(l.head? = some 48/\1<l.length)
   ·exact aP g ⟨by rw[fc,ak (.inr g)],c2⟩
   ·refine aU g ?_;have o:fc l=if 9<l.length then (0,4) else (GY l,0):=by
     rw[fc,ah];rintro(h|h)
     ·rw[ha] at h; cases h
     ·exact g h
    by_cases p:9<l.length
    ·exact cT (by rw[dX]; exact dT (by omega)) ⟨by rw[o,ak p],c2⟩
    ·rw[ah p] at o;obtain⟨n,s⟩:=Fb ha (λ h=>g (.inl h));refine cF (by rw[dX]; exact dF (by omega)) ((Tryz.strconv_Atoi (bs l) n (by rw[dX]; omega) s f).mono ?_);rintro e y ⟨rfl,t,rfl⟩;refine⟨_,_,rfl,?_,c2.trans (LB _ _ _) (by simp)⟩;rw[o,GY,s]; rfl
  ·cases l with
   | nil=>exact cT (by rw[fG]; rfl) ⟨by decide,hc⟩
   | cons c l =>
    refine cF (by rw[fG,fG]; rfl) ⟨by decide,?_⟩;show cond ((c.toNat:Int)==48) _ _
    by_cases a:c=48
    ·subst a;refine cT rfl ⟨?_,hc⟩;rw[dX]
     by_cases h1:1<(48 :: l:List UInt8).length
     ·rw[dT (show(((48 :: l:List UInt8).length:Nat):Int)>1 by omega),dT (Or.inr ⟨rfl,h1⟩)]
     ·rw[dF (show ¬ (((48 :: l:List UInt8).length:Nat):Int)>1 by omega),dF (by rintro(h|h); cases h; exact h1 h.2)]
    ·refine cF (aS.2 λ h=>a (nI.1 (by show c.toNat=48; omega))) ⟨?_,hc⟩;rw[dF];rintro(h|h)
     ·cases h
     ·exact a (by simpa using h.1)
def mW:List (List UInt8)->Int
 | []=>0
 | x :: l=>if (fc x).2≠0 then (fc x).2 else mW l
theorem Ar:∀ {l:List (List UInt8)} {k:Nat} {x:List UInt8},(∀ y∈l.take k,(fc y).2=0)->l[k]?=some x->mW l=if (fc x).2≠0 then (fc x).2 else mW (l.drop (k+1))
 | y :: l,0,x,_,a=>by cases a; rfl
 | y :: l,k+1,x,h,a=>by
  rw[mW,ah (by simpa using h y (by simp))];exact Ar (λ z b=>h z (by simp[b])) (by simpa using a)
theorem xo:∀ {l:List (List UInt8)},(∀ y∈l,(fc y).2=0)->mW l=0
 | [],_=>rfl
 | y :: l,h=>by rw[mW,ah (by simpa using h y (by simp))]; exact xo λ z a=>h z (by simp[a])
def Jb{w:af}{a:OA}{c:Nat}{l:List (List UInt8)}(z:cP 1 sF w a l)(E:l.length<=100000)(A:∀ x∈l,x.length<=1000000) :
  CP 205 #[.slice a l.length c] w (λ r w'=>(mW l≠0/\r=.tuple #[.slice none 0 0,iv (mW l)]/\aC w w' [])\/(mW l=0/\∃ a' c',r=.tuple #[.slice a' l.length c',iv 0]/\St w w' (Sep [dK 3 1 i1 a' c' (l.map λ x=>(fc x).1)]))):=by
 refine vI.2.2.2.2.2.1 ?_;refine⟨λ a2 n2 c2 i p m=>∃ k:Nat,i=k/\k<=l.length/\m=l.length-k/\n2=k/\(∀ y∈l.take k,(fc y).2=0)/\St w p (Sep [dK 3 1 i1 a2 c2 ((l.take k).map λ x=>(fc x).1)]),⟨l.length,0,rfl,by omega,by omega,rfl,by simp,(St.start w).dy⟩,?_⟩;rintro p m a2 n2 c2 i ⟨k,rfl,D,hm,n,ha,s1⟩ -;have o:=n.symm;subst o
 by_cases g:(k:Int)<(l.length:Int)
 ·obtain⟨x,b⟩:=bx l k (by omega);obtain⟨q,u,hc⟩:=uM (z.av s1.av) b;have j:=Ar ha b;refine aP g (aq u ⟨by omega,by omega,_,hc,au (MM p (A x (bf b))) ?_⟩);rintro v F ⟨rfl,c3⟩;have s2:=s1.quiet c3;refine⟨_,_,rfl,?_⟩
  by_cases f:(fc x).2=0
  ·refine cF (by simpa using f) ?_;have t:(l.take (k+1)).map (λ x=>(fc x).1)=(l.take k).map (λ x=>(fc x).1)++[(fc x).1]:=by rw[aH b,bP]; rfl
   have d:((l.take k).map λ x=>(fc x).1).length=k:=by rw[dU,di]; omega
   have:=dw (ty:=31) (x:=(fc x).1) (l:=(l.take k).map λ x=>(fc x).1) QV bV (pQ _) s2 (by rw[d]; omega) (by rw[d]; omega) (R:=λ a3 l3 c3 C=>∃ m2,m2<l.length-k/\∃ e:Nat,IntKind.i64.wrap ((k:Int)+1)=(e:Int)/\e<=l.length/\m2=l.length-e/\l3=e/\(∀ y∈l.take e,(fc y).2=0)/\St w C (Sep [dK 3 1 i1 a3 c3 ((l.take e).map λ x=>(fc x).1)])) (λ a' c' w' B=>(jZ (by omega) ⟨by rw[aY,d]; rfl,λ y s=>?_,by rw[t]; exact B⟩)) rfl
   ·rw[d] at this;rw[hm];exact this
   ·rw[aH b] at s;rcases aV.1 s with h|h
    ·exact ha y h
    ·rw[bp.1 h]; exact f
  ·rw[ak f] at j;exact cT (by simpa using f) (.inl ⟨by rw[j]; exact f,by rw[j],s2.av⟩)
 ·obtain rfl:k=l.length:=by omega
  rw[br] at ha s1;exact aU g (.inr ⟨xo ha,a2,c2,rfl,s1⟩)
def nN(l:List Br)(nm:List UInt8):Int×Bool:=(((l.findIdx? λ p=>p.nm==nm).map λ k=>(k:Int)).getD 0,l.any λ p=>p.nm==nm)
def PO{w:af}{a:OA}{c:Nat}{l:List Br}(h:mj w a l)(o:l.length<=100000)(nm:List UInt8) :
  CP 264 #[.slice a l.length c,sv nm] w (λ r w'=>r=.tuple #[iv (nN l nm).1,.bool (nN l nm).2]/\aC w w' []):=by
 refine Cy ?_;refine⟨λ n i m=>∃ k:Nat,n=k/\k<=l.length/\m=l.length-k/\(l.take k).any (λ p=>p.nm==nm)=false/\aC w i [],⟨l.length,0,rfl,by omega,by omega,rfl,aC.refl _ _⟩,?_⟩;rintro i m n ⟨k,rfl,j,hm,ha,hc⟩ -
 by_cases b:(k:Int)<(l.length:Int)
 ·obtain⟨x,e⟩:=bx l k (by omega);obtain⟨_,q,rfl,f⟩:=(h.av hc) k x e;refine cT (by simpa using b) ⟨by omega,by omega,_,_,_,_,f,(St.start' hc).one.aB _ λ r1 s s2=>s2.az 0 rfl x.cells rfl x.one λ t g=>?_⟩;refine⟨_,by rw[g.ag 0 rfl]; rfl,?_⟩
  by_cases d:x.nm=nm
  ·refine cT (by rw[d]; simp) ⟨?_,g.av⟩;have hp:(λ p:Br=>p.nm==nm) x=true:=by simpa using d
   rw[nN,kY e hp ha,eZ e hp]; rfl
  ·exact cF (by rw[fG,fG]; simpa using d) ⟨l.length-(k+1),by omega,k+1,by rw[cA (by omega)]; rfl,by omega,rfl,dY ha e (by simpa using d),g.av⟩
 ·refine cF (by simpa using b) ⟨?_,hc⟩;rw[fN (by omega)] at ha;rw[nN,mB ha,ha]; rfl
def ic(S:Se)(h nm:List UInt8):Int×Int :=
 if h=Li\/h=Jg then (0,if cY nm then 0 else 5)
 else if h=Jh then (if nm=[42] then (-1,0) else if (nN S.bd nm).2 then ((nN S.bd nm).1,0) else (0,6))
 else if h=Jf then (if (cO S.ps nm).2 then ((cO S.ps nm).1,0) else (0,6))
 else (-1,0)
def Qb{w:af}{S:Se}(f:S.In w)(h1:S.ps.length<=100000)(h2:S.bd.length<=100000)(h nm:List UInt8) :
  CP 204 #[.agg S.arr,sv h,sv nm] w (λ r w'=>r=.tuple #[iv (ic S h nm).1,iv (ic S h nm).2]/\aC w w' []):=by
 refine vI.2.2.2.2.1 ?_;refine aG S.arr λ r1 i s1=>?_;refine⟨λ n b g=>((b=false/\ic S h nm=(0,6))\/(b=true/\ic S h nm=(n,0)))/\aC w g [],?_,?_⟩
 ·rintro g n b ⟨(⟨rfl,e⟩|⟨rfl,e⟩),c2⟩ -
  ·exact cT rfl ⟨by rw[e],c2⟩
  ·exact cF rfl ⟨by rw[e],c2⟩
 refine⟨λ b c=>b=decide (h=Li\/h=Jg)/\c=i,?_,?_⟩
 ·rintro c b ⟨rfl,rfl⟩ -
  by_cases g1:h=Li\/h=Jg
  ·have d:ic S h nm=(0,if cY nm then 0 else 5):=by rw[ic,ak g1]
   refine aP g1 (au (Af c nm) ?_);rintro v k ⟨rfl,rfl⟩;refine⟨_,rfl,?_⟩
   cases hn:cY nm with
   | true=>exact cF rfl ⟨by rw[d,hn]; rfl,s1.av⟩
   | false=>exact cT rfl ⟨by rw[d,hn]; rfl,s1.av⟩
  ·refine aU g1 ?_;rw[fG,fG,fG,fG,fG]
   by_cases g2:h=Jh
   ·have a:ic S h nm=if nm=[42] then (-1,0) else if (nN S.bd nm).2 then ((nN S.bd nm).1,0) else (0,6):=by rw[ic,ah g1,ak g2]
    refine cT (bH.2 g2) ?_
    by_cases g3:nm=[42]
    ·exact cF (by rw[g3]; rfl) ⟨.inr ⟨rfl,by rw[a,ak g3]⟩,s1.av⟩
    ·rw[ah g3] at a;refine cT (by rw[aS.2 g3]; rfl) ⟨_,_,_,s1.ag 0 rfl 1,au (PO (f.av s1.av).bd h2 nm) ?_⟩;rintro v j ⟨rfl,c5⟩;refine⟨_,_,rfl,?_,(s1.quiet c5).av⟩
     cases hf:(nN S.bd nm).2 with
     | true=>exact .inr ⟨rfl,by rw[a,hf]; rfl⟩
     | false=>exact .inl ⟨rfl,by rw[a,hf]; rfl⟩
   ·refine cF (aS.2 g2) ?_
    by_cases g4:h=Jf
    ·have a:ic S h nm=if (cO S.ps nm).2 then (((cO S.ps nm).1:Int),0) else (0,6):=by rw[ic,ah g1,ah g2,ak g4]
     refine cT (bH.2 g4) ⟨_,_,_,s1.ag 0 rfl 0,au (J8 (f.av s1.av).ps h1 nm) ?_⟩;rintro v j ⟨rfl,c5⟩;refine⟨_,_,rfl,?_,(s1.quiet c5).av⟩
     cases hf:(cO S.ps nm).2 with
     | true=>exact .inr ⟨rfl,by rw[a,hf]; rfl⟩
     | false=>exact .inl ⟨rfl,by rw[a,hf]; rfl⟩
    ·exact cF (aS.2 g4) ⟨.inr ⟨rfl,by rw[ic,ah g1,ah g2,ah g4]⟩,s1.av⟩
 ·rw[fG,fG,fG]
  by_cases g1:h=Li
  ·exact cT (bH.2 g1) ⟨by rw[dT (Or.inl g1)]; exact bH.2 g1,rfl⟩
  ·refine cF (aS.2 g1) ⟨?_,rfl⟩
   by_cases g2:h=Jg
   ·rw[dT (Or.inr g2)]; exact bH.2 g2
   ·rw[dF (by rintro(h|h); exact g1 h; exact g2 h)]; exact aS.2 g2
def EH(r:Nat)(S:Se):List aI:=[aj r S.arr 73,dK 134 5 Pr.cells S.a1 S.c1 S.ps,dK 82 4 Br.cells S.a2 S.c2 S.bd,dK 138 3 T3.cells S.a3 S.c3 S.cp,dK 141 3 T3.cells S.a4 S.c4 S.sa]
structure qS (S:Se) (n:Nat):Prop where
 ps:∀ p∈S.ps,p.In
 bd:∀ p∈S.bd,p.In
 l1:S.ps.length<=n
 l2:S.bd.length<=n
 l3:S.cp.length<=n
 l4:S.sa.length<=n
def rZ{α:Type}{e:TypeId}{sz:Nat}{f:α->List Value}{a:OA}{c:Nat}{l:List α}:js (dK e sz f a c l) λ _=>l.length<=c:=λ _ _ h=>(o8 h.1).1
def js.and{A:aI}{Q R:af->Prop}(h:js A Q)(k:js A R):js A λ w=>Q w/\R w:=λ w F a=>⟨h w F a,k w F a⟩
def P3{r n:Nat}{S:Se}(h:qS S n):js (Sep (EH r S)) S.In :=
 js.mono (js.cons (Q:=λ _=>True) (λ _ _ _=>trivial) (js.cons (js.and (bn Pr.len) rZ) (js.cons (js.and (bn Br.len) rZ) (js.cons (js.and (bn T3.len) rZ) (js.cons (js.and (bn T3.len) rZ) js.nil)))))
  λ _ ⟨_,h1,h2,h3,h4,_⟩=>⟨fS.of h1.1 h.ps,mj.of h2.1 h.bd,Bp.of h3.1,Bp.of h4.1,h1.2,h2.2,h3.2,h4.2⟩
def nV(ws:List (List UInt8))(i:Nat):Int:=(fc (ws.getD (i+2) [])).1
def Ea{ws:List (List UInt8)}{i:Nat}(h:i+2<ws.length):((ws.drop 2).map λ x=>(fc x).1)[i]?=some (nV ws i):=by
 rw[dD,lW,show 2+i=i+2 by omega,nV,aJ,gE h]; rfl
def Ti(x:List UInt8):In (fc x).1:=by
 unfold fc
 split
 ·exact⟨by decide,by decide⟩
 ·split
  ·exact⟨by decide,by decide⟩
  ·exact Tl (by omega)
def qH(S:Se)(ws:List (List UInt8)):Int :=
 if kP (ws.getD 0 [])=0 then 22 else if kP (ws.getD 0 [])≠(ws.length:Int) then 2
 else if (ic S (ws.getD 0 []) (ws.getD 1 [])).2≠0 then (ic S (ws.getD 0 []) (ws.getD 1 [])).2 else mW (ws.drop 2)
def qL(S:Se)(ws:List (List UInt8)):Se :=
 if ws.getD 0 []=Li then { S with ps:=S.ps++[⟨ws.getD 1 [],nV ws 0,nV ws 1,nV ws 2,nV ws 3⟩] }
 else if ws.getD 0 []=Jg then { S with bd:=S.bd++[⟨ws.getD 1 [],nV ws 0,nV ws 1,nV ws 2⟩] }
 else if ws.getD 0 []=Jh then { S with cp:=S.cp++[⟨(ic S (ws.getD 0 []) (ws.getD 1 [])).1,nV ws 0,nV ws 1⟩] }
 else if ws.getD 0 []=Jf then { S with sa:=S.sa++[⟨(ic S (ws.getD 0 []) (ws.getD 1 [])).1,nV ws 0,nV ws 1⟩] }
 else S
def PI{S:Se}{n:Nat}(h:qS S n)(ws:List (List UInt8)):qS (qL S ws) (n+1):=by
 obtain⟨h1,h2,l1,l2,l3,l4⟩:=h;unfold qL;have ni:=λ i=>Ti (ws.getD (i+2) [])
 split
 ·refine⟨λ p hp=>?_,h2,by simp; omega,(iX l2),(iX l3),(iX l4)⟩;rcases aV.1 hp with hp|hp
  ·exact h1 p hp
  ·rw[bp.1 hp]; exact⟨ni 0,ni 1,ni 2,ni 3⟩
 ·split
  ·refine⟨h1,λ p hp=>?_,(iX l1),by simp; omega,(iX l3),(iX l4)⟩;rcases aV.1 hp with hp|hp
   ·exact h2 p hp
   ·rw[bp.1 hp]; exact⟨ni 0,ni 1,ni 2⟩
  ·split
   ·exact⟨h1,h2,(iX l1),(iX l2),by simp; omega,(iX l4)⟩
   ·split
    ·exact⟨h1,h2,(iX l1),(iX l2),(iX l3),by simp; omega⟩
    ·exact⟨h1,h2,by omega,by omega,by omega,by omega⟩
def qS.up{S:Se}{n m:Nat}(h:qS S n)(a:n<=m):qS S m:=⟨h.ps,h.bd,by have:=h.l1; omega,by have:=h.l2; omega,by have:=h.l3; omega,by have:=h.l4; omega⟩
def qS.er{S a:Se}{n:Nat}(h:qS S n)(e:a.er=S.er):qS a n:=by
 have b:a.ps=S.ps:=show a.er.ps=S.er.ps from congrArg Se.ps e;have c:a.bd=S.bd:=show a.er.bd=S.er.bd from congrArg Se.bd e;have d:a.cp=S.cp:=show a.er.cp=S.er.cp from congrArg Se.cp e;have f:a.sa=S.sa:=show a.er.sa=S.er.sa from congrArg Se.sa e;exact⟨by rw[b]; exact h.ps,by rw[c]; exact h.bd,by rw[b]; exact h.l1,by rw[c]; exact h.l2,by rw[d]; exact h.l3,by rw[f]; exact h.l4⟩
def Wa{w0 w:af}{r n c:Nat}{S:Se}{B:aI}{a:OA}{ws:List (List UInt8)}(s:St w0 w (Sep (EH r S++[B])))(U:js B λ w=>cP 1 sF w a ws)(hc:ws.length<=c)(h1:1<=ws.length)(hl:ws.length<=100000)(hx:∀ x∈ws,x.length<=1000000)(z:qS S n)(hn:n<=90000) :
  CP 156 #[.pointer (qs r),.slice a ws.length c] w (λ v w'=>v=iv (qH S ws)/\(qH S ws≠0->St w0 w' (Sep (EH r S++[B])))/\(qH S ws=0->∃ o:Se,o.er=(qL S ws).er/\St w0 w' (Sep (EH r o++[B])))):=by
 refine vI.2.1 ?_;have Y:∀ {w':af} {l:List aI} {i:Nat},St w0 w' (Sep l)->l[i]?=some B->∀ (j:Nat),j<ws.length->∃ q,a=some q/\w'.cell? (Addr.add q (j*1))=some (sv (ws.getD j [])):=λ s e j L =>
  uM ((s.out _ e).first.imp U) (by rw[aJ,gE L]; rfl)
 obtain⟨q,F,c0⟩:=Y s (i:=5) rfl 0 (by omega);have m:∀ {w':af} {l:List aI} {i:Nat},St w0 w' (Sep l)->l[i]?=some B->∀ (j:Nat),j<ws.length->w'.cell? (Addr.add q (j*1))=some (sv (ws.getD j [])):=λ s e j L=>by
  obtain⟨V,f,h⟩:=Y s e j L;rw[F] at f; cases f; exact h
 have bad:∀ {k:Int} {w':af},k≠0->qH S ws=k->St w0 w' (Sep (EH r S++[B]))->iv k=iv (qH S ws)/\(qH S ws≠0->St w0 w' (Sep (EH r S++[B])))/\(qH S ws=0->∃ o:Se,o.er=(qL S ws).er/\St w0 w' (Sep (EH r o++[B]))):=λ hk e hc =>
  ⟨by rw[e],λ _=>hc,λ h=>absurd (e.symm.trans h) hk⟩
 refine aq F ⟨by omega,by omega,_,c0,au (TV w _) ?_⟩;rintro v O ⟨rfl,rfl⟩;refine⟨_,rfl,?_⟩
 by_cases p:kP (ws.getD 0 [])=0
 ·exact cT (by simpa using p) (bad (by decide) (by rw[qH,ak p]) s)
 refine cF (by simpa using p) ?_
 by_cases h2:kP (ws.getD 0 [])=(ws.length:Int)
 ·have hw4:4<=ws.length:=by
   unfold kP at p h2
   split at h2
   ·omega
   ·rename_i g1
    split at h2
    ·omega
    ·rename_i g2
     split at h2
     ·omega
     ·rename_i g3; rw[ah g1,ah g2,ah g3] at p; exact absurd rfl p
  have s2:=s.quiet (aC.drew O []);have sI:S.In O.drew:=by
   have:=s2.ay [0,1,2,3,4];exact(this:St w0 O.drew (Sep (EH r S))).imp (P3 z)
  refine cT (by simpa using h2) (Ex8<|Ex4<|⟨s2.cellsIn 0 rfl,aq F ⟨by omega,by omega,_,m s2 (i:=5) rfl 0 (by omega),aq F ⟨by omega,by omega,_,m s2 (i:=5) rfl 1 (by omega),au (Qb sI (by have:=z.l1; omega) (by have:=z.l2; omega) _ _) ?_⟩⟩⟩);rintro v W ⟨rfl,c2⟩;have I:=s2.quiet c2;have u:qH S ws=if (ic S (ws.getD 0 []) (ws.getD 1 [])).2≠0 then (ic S (ws.getD 0 []) (ws.getD 1 [])).2 else mW (ws.drop 2):=by rw[qH,ah p,ah (λ h=>h h2)]
  refine⟨_,_,rfl,?_⟩
  by_cases h3:(ic S (ws.getD 0 []) (ws.getD 1 [])).2=0
  ·rw[ah (λ h=>h h3)] at u;refine cF (by simpa using h3) ⟨by decide,by omega,?_⟩;have K:cP 1 sF W a ws:=(I.out 5 rfl).first.imp U;have ht:cP 1 sF W (some (q.add (((2:Int)).toNat*1))) (ws.drop 2):=λ i x hi=>by
    rw[lW] at hi;obtain⟨V,cs,e,h1,h2,h3⟩:=K (2+i) x hi;rw[F] at e; cases e;refine⟨_,cs,rfl,?_,h2,h3⟩;rw[Addr.add_add];have:((2:Int)).toNat*1+i*1=(2+i)*1:=by show 2*1+i*1=(2+i)*1; omega
    rw[this]; exact h1
   have M:ws.length-((2:Int)).toNat=(ws.drop 2).length:=by rw[gH]; rfl
   rw[ah (show ¬ c=((2:Int)).toNat by show ¬ c=2; omega),F,nL,M];refine au (Jb ht (by rw[gH]; omega) λ x h=>hx x (JE h)) ?_;rintro v P (⟨G,rfl,c4⟩|⟨he,Z,c6,rfl,k4⟩)
   ·exact⟨_,_,_,_,rfl,cT (by simpa using G) (bad G u (I.quiet c4))⟩
   ·have N:St w0 P (Sep (dK 3 1 i1 Z c6 ((ws.drop 2).map λ x=>(fc x).1) :: (EH r S++[B]))):=I.and k4.single;rw[he] at u;refine⟨_,_,_,_,rfl,cF rfl ⟨λ X=>∃ o:Se,o.er=(qL S ws).er/\St w0 X (Sep (EH r o++[B])),λ X h _=>⟨by rw[u],λ hh=>absurd u hh,λ _=>h⟩,aq rfl ⟨by omega,by omega,_,m N (i:=6) rfl 0 (by omega),?_⟩⟩⟩;have g:=N.quiet (aC.drew P []);obtain⟨q6,b,_⟩:=dA (St.rd bV g) (Ea (ws:=ws) (i:=0) (by omega));have nc:∀ i,i+2<ws.length->P.drew.cell? (Addr.add q6 (i*1))=some (iv (nV ws i)):=λ i hi=>by
     obtain⟨V,f,J⟩:=dA (St.rd bV g) (Ea (ws:=ws) hi);rw[b] at f; cases f; exact J
    have H:=m g (i:=6) rfl 1 (by omega);have z1:=z.l1; have z2:=z.l2; have z3:=z.l3; have z4:=z.l4;rw[fG,fG,fG,fG,fG]
    by_cases g1:ws.getD 0 []=Li
    ·have A:ws.length=6:=by unfold kP at h2; rw[ak g1] at h2; omega
     have y:qL S ws={ S with ps:=S.ps++[⟨ws.getD 1 [],nV ws 0,nV ws 1,nV ws 2,nV ws 3⟩] }:=by rw[qL,ak g1]
     refine cT (bH.2 g1) ⟨_,_,_,g.ag 1 rfl 0,aq rfl ⟨by omega,by omega,_,H,aq b ⟨by omega,by omega,_,nc 0 (by omega),aq b ⟨by omega,by omega,_,nc 1 (by omega),aq b ⟨by omega,by omega,_,nc 2 (by omega),aq b ⟨by omega,by omega,_,nc 3 (by omega),?_⟩⟩⟩⟩⟩⟩;refine g.aB (⟨ws.getD 1 [],nV ws 0,nV ws 1,nV ws 2,nV ws 3⟩:Pr).cells.toArray λ r1 Q d=>⟨d.ag 2 rfl 0,?_⟩;refine bQ (l2:=[(⟨ws.getD 1 [],nV ws 0,nV ws 1,nV ws 2,nV ws 3⟩:Pr)]) Wz Pr.len Pr.one (d.out 3 rfl) (jK (d.cellsIn 0 rfl) rfl) (by simp; omega) (by simp; omega) λ t c8 R C=>?_;have D:=C.back (i:=3) (by show 3<8; decide);refine D.aN 2 rfl (j:=0) (by show 0<4; decide) rfl λ T E=>⟨{ S with ps:=S.ps++[⟨ws.getD 1 [],nV ws 0,nV ws 1,nV ws 2,nV ws 3⟩],a1:=t,c1:=c8 },by rw[y]; rfl,E.ay [2,3,4,5,6,7]⟩
    refine cF (aS.2 g1) ?_
    by_cases g2:ws.getD 0 []=Jg
    ·have A:ws.length=5:=by unfold kP at h2; rw[ah g1,ak g2] at h2; omega
     have y:qL S ws={ S with bd:=S.bd++[⟨ws.getD 1 [],nV ws 0,nV ws 1,nV ws 2⟩] }:=by rw[qL,ah g1,ak g2]
     refine cT (bH.2 g2) ⟨_,_,_,g.ag 1 rfl 1,aq rfl ⟨by omega,by omega,_,H,aq b ⟨by omega,by omega,_,nc 0 (by omega),aq b ⟨by omega,by omega,_,nc 1 (by omega),aq b ⟨by omega,by omega,_,nc 2 (by omega),?_⟩⟩⟩⟩⟩;refine g.aB (⟨ws.getD 1 [],nV ws 0,nV ws 1,nV ws 2⟩:Br).cells.toArray λ r1 Q d=>⟨d.ag 2 rfl 1,?_⟩;refine bQ (l2:=[(⟨ws.getD 1 [],nV ws 0,nV ws 1,nV ws 2⟩:Br)]) Wx Br.len Br.one (d.out 4 rfl) (jK (d.cellsIn 0 rfl) rfl) (by simp; omega) (by simp; omega) λ t c8 R C=>?_;have D:=C.back (i:=4) (by show 4<8; decide);refine D.aN 2 rfl (j:=1) (by show 1<4; decide) rfl λ T E=>⟨{ S with bd:=S.bd++[⟨ws.getD 1 [],nV ws 0,nV ws 1,nV ws 2⟩],a2:=t,c2:=c8 },by rw[y]; rfl,E.ay [2,3,4,5,6,7]⟩
    refine cF (aS.2 g2) ?_
    by_cases g3:ws.getD 0 []=Jh
    ·have A:ws.length=4:=by unfold kP at h2; rw[ah g1,ah g2,ak (.inl g3)] at h2; omega
     have y:qL S ws={ S with cp:=S.cp++[⟨(ic S (ws.getD 0 []) (ws.getD 1 [])).1,nV ws 0,nV ws 1⟩] }:=by rw[qL,ah g1,ah g2,ak g3]
     refine cT (bH.2 g3) ⟨_,_,_,g.ag 1 rfl 2,aq b ⟨by omega,by omega,_,nc 0 (by omega),aq b ⟨by omega,by omega,_,nc 1 (by omega),?_⟩⟩⟩;refine g.aB (⟨(ic S (ws.getD 0 []) (ws.getD 1 [])).1,nV ws 0,nV ws 1⟩:T3).cells.toArray λ r1 Q d=>⟨d.ag 2 rfl 2,?_⟩;refine bQ (l2:=[(⟨(ic S (ws.getD 0 []) (ws.getD 1 [])).1,nV ws 0,nV ws 1⟩:T3)]) Wy T3.len T3.one (d.out 5 rfl) (jK (d.cellsIn 0 rfl) rfl) (by simp; omega) (by simp; omega) λ t c8 R C=>?_;have D:=C.back (i:=5) (by show 5<8; decide);refine D.aN 2 rfl (j:=2) (by show 2<4; decide) rfl λ T E=>⟨{ S with cp:=S.cp++[⟨(ic S (ws.getD 0 []) (ws.getD 1 [])).1,nV ws 0,nV ws 1⟩],a3:=t,c3:=c8 },by rw[y]; rfl,E.ay [2,3,4,5,6,7]⟩
    refine cF (aS.2 g3) ?_
    by_cases g4:ws.getD 0 []=Jf
    ·have A:ws.length=4:=by unfold kP at h2; rw[ah g1,ah g2,ak (.inr g4)] at h2; omega
     have y:qL S ws={ S with sa:=S.sa++[⟨(ic S (ws.getD 0 []) (ws.getD 1 [])).1,nV ws 0,nV ws 1⟩] }:=by rw[qL,ah g1,ah g2,ah g3,ak g4]
     refine cT (bH.2 g4) ⟨_,_,_,g.ag 1 rfl 3,aq b ⟨by omega,by omega,_,nc 0 (by omega),aq b ⟨by omega,by omega,_,nc 1 (by omega),?_⟩⟩⟩;refine g.aB (⟨(ic S (ws.getD 0 []) (ws.getD 1 [])).1,nV ws 0,nV ws 1⟩:T3).cells.toArray λ r1 Q d=>⟨d.ag 2 rfl 3,?_⟩;refine bQ (l2:=[(⟨(ic S (ws.getD 0 []) (ws.getD 1 [])).1,nV ws 0,nV ws 1⟩:T3)]) Ww T3.len T3.one (d.out 6 rfl) (jK (d.cellsIn 0 rfl) rfl) (by simp; omega) (by simp; omega) λ t c8 R C=>?_;have D:=C.back (i:=6) (by show 6<8; decide);refine D.aN 2 rfl (j:=3) (by show 3<4; decide) rfl λ T E=>⟨{ S with sa:=S.sa++[⟨(ic S (ws.getD 0 []) (ws.getD 1 [])).1,nV ws 0,nV ws 1⟩],a4:=t,c4:=c8 },by rw[y]; rfl,E.ay [2,3,4,5,6,7]⟩
    ·exact cF (aS.2 g4) ⟨S,by rw[qL,ah g1,ah g2,ah g3,ah g4],N.second⟩
  ·rw[ak h3] at u;exact cT (by simpa using h3) (bad h3 u I)
 ·exact cF (by simpa using h2) (bad (by decide) (by rw[qH,ah p,ak h2]) s)
theorem CT(sep:ByteArray):∀ (k:Nat) (s:ByteArray),∀ x∈Lib.splitB sep 0 k s,x.size<=s.size
 | 0,s,x,a=>by rw[Lib.splitB_zero,bp] at a; rw[a]; exact aO _
 | k+1,s,x,a=>by
  rw[Lib.splitB] at a
  split at a
  ·rw[bp] at a; rw[a]; exact aO _
  ·rcases cJ.1 a with rfl|a
   ·rw[JF]; omega
   ·have:=CT sep k _ x a;rw[JF] at this;omega
def tC{c:UInt8}{s x:List UInt8}(d:x∈bD c s):x.length<=s.length:=by
 obtain⟨b,a,rfl⟩:=bL.1 d;have:=CT _ _ _ b a;rw[dX] at this;exact this
def A4(c:UInt8)(s:List UInt8):1<=(bD c s).length:=by rw[p7]; omega
def dL:Se:=⟨[],[],[],[],none,0,none,0,none,0,none,0⟩
def fQ:Se->List (List UInt8)->Se×Int
 | S,[]=>(S,0)
 | S,l :: ls=>if l=[] then fQ S ls else if qH S (bD 32 l)≠0 then (dL,qH S (bD 32 l)) else fQ (qL S (bD 32 l)) ls
def lI(t:List UInt8):Int:=if 4000<t.length then 3 else if (fQ dL (bD 10 t)).2≠0 then (fQ dL (bD 10 t)).2 else tv (fQ dL (bD 10 t)).1
def pX(t:List UInt8):Se:=(fQ dL (bD 10 t)).1
def V7{S a:Se}(e:a.er=S.er)(ws:List (List UInt8)):qH a ws=qH S ws:=by
 have:∀ S:Se,qH S ws=qH S.er ws:=λ _=>rfl;rw[this a,e,<- this]
def V8{S a:Se}(e:a.er=S.er)(ws:List (List UInt8)):(qL a ws).er=(qL S ws).er:=by
 have:∀ S:Se,(qL S ws).er=(qL S.er ws).er:=λ S=>by
  unfold qL
  split
  ·rfl
  ·split
   ·rfl
   ·split
    ·rfl
    ·split<;>rfl
 rw[this a,e,<- this]
def I7{S a:Se}(e:a.er=S.er):tv a=tv S:=by
 have:∀ S:Se,tv S=tv S.er:=λ _=>rfl;rw[this a,e,<- this]
theorem zm:∀ {l:List (List UInt8)} {S a:Se},a.er=S.er->(fQ a l).1.er=(fQ S l).1.er/\(fQ a l).2=(fQ S l).2
 | [],_,_,e=>⟨e,rfl⟩
 | x :: l,S,a,e=>by
  rw[fQ,fQ,V7 e]
  split
  ·exact zm e
  ·split
   ·exact⟨rfl,rfl⟩
   ·exact zm (V8 e _)
def Jr(w:af):dL.In w:=⟨λ i p h=>by simp[dL] at h,λ i p h=>by simp[dL] at h,λ i p h=>by simp[dL] at h,λ i p h=>by simp[dL] at h,aO _,aO _,aO _,aO _⟩
def Qc(w:af)(t:List UInt8)(ht:t.length<=80000):CP 116 #[sv t] w (λ r w'=>∃ (a:Se) (i:Int),r=.tuple #[.agg a.arr,iv i,iv (lI t)]/\St w w' (held a.In)/\(lI t=0->a.er=(pX t).er/\a.Ok)):=by
 refine vI.1 ?_;refine aG dL.arr λ r1 w1 s1=>?_;have bad:∀ {k i:Int} {w':af} {m:List aI} {j:Nat},St w w' (Sep m)->m[j]?=some (aj r1 dL.arr 73)->k≠0->lI t=k ->
   uP ⟨r1,0,none⟩ 0 dL.arr.toList w' λ D=>∃ (a1:OA) (l1 c1:Nat) (a2:OA) (l2 c2:Nat) (a3:OA) (l3 c3:Nat) (a4:OA) (l4 c4:Nat),aA D ⟨r1,0,none⟩ 0 [.slice a1 l1 c1,.slice a2 l2 c2,.slice a3 l3 c3,.slice a4 l4 c4] /\
    ∃ (a:Se) (i':Int),Value.tuple #[.agg #[.slice a1 l1 c1,.slice a2 l2 c2,.slice a3 l3 c3,.slice a4 l4 c4],iv i,iv k]=.tuple #[.agg a.arr,iv i',iv (lI t)]/\St w D (held a.In)/\(lI t=0->a.er=(pX t).er/\a.Ok):=λ {k i w' m j} s e U hp =>
  s.az j e dL.arr.toList rfl (by simp[dL,Se.arr,Value.oneCell']) λ D H=>(Ex8<|Ex4<|⟨H.cellsIn (cs:=dL.arr) (T:=73) j (nK (gr e)),dL,i,by rw[hp]; rfl,((St.start' H.av).one.jx Jr).first,λ h=>absurd (hp.symm.trans h) U⟩)
 by_cases h4:4000<t.length
 ·exact cT (by rw[dX]; exact dT (by omega)) (bad s1 (j:=0) rfl (by decide) (by rw[lI,ak h4]))
 refine cF (by rw[dX]; exact dF (by omega)) (s1.aB dL.arr λ r2 D H=>au (K3 D 10 t (by omega)) ?_);rintro v Q ⟨g,rfl,k4⟩;have G:lI t=if (fQ dL (bD 10 t)).2≠0 then (fQ dL (bD 10 t)).2 else tv (fQ dL (bD 10 t)).1:=by rw[lI,ah h4]
 have Z:=tB 10 t;have M:∀ x∈bD 10 t,x.length<=4000:=λ x z=>by have:=tC z; omega
 generalize Y:bD 10 t=L at *;have s4:St w Q (Sep [dK 9 1 sF (qs g) L.length L,aj r2 dL.arr 73,aj r1 dL.arr 73,emp]):=H.and k4.single;have s5:St w Q (Sep (EH r2 dL++[Sep [dK 9 1 sF (qs g) L.length L,aj r1 dL.arr 73]])):=by
  have h1:St w Q (Sep (dK 141 3 T3.cells none 0 [] :: dK 138 3 T3.cells none 0 [] :: dK 82 4 Br.cells none 0 [] :: dK 134 5 Pr.cells none 0 [] :: [dK 9 1 sF (qs g) L.length L,aj r2 dL.arr 73,aj r1 dL.arr 73,emp])):=(((s4.dy).dy).dy).dy;have h2:=(h1.ay [5,3,2,1,0,4,6]).split [_,_,_,_,_];exact St.cat (h2.eqv (bX.right (bX.unit _)))
 let B:aI:=Sep [dK 9 1 sF (qs g) L.length L,aj r1 dL.arr 73];have X9:js B λ w=>cP 1 sF w (qs g) L:=λ w F ⟨J,X,_,h1,_,_⟩=>bn sg w J h1;have C:∀ {w':af} {S:Se},St w w' (Sep (EH r2 S++[B]))->St w w' (Sep (EH r2 S++[dK 9 1 sF (qs g) L.length L,aj r1 dL.arr 73])):=λ s=>s.iE [_,_,_,_,_];refine⟨_,_,_,rfl,λ i E m=>∃ (k:Nat) (S:Se),i=k/\k<=L.length/\m=L.length-k/\qS S k/\(fQ S (L.drop k)).1.er=(fQ dL L).1.er/\(fQ S (L.drop k)).2=(fQ dL L).2/\St w E (Sep (EH r2 S++[B])),⟨L.length,0,dL,rfl,by omega,by omega,⟨by simp[dL],by simp[dL],by simp[dL],by simp[dL],by simp[dL],by simp[dL]⟩,rfl,rfl,s5⟩,?_⟩;rintro E m i ⟨k,S,rfl,U,hm,p,p1,p2,I⟩ -
 by_cases u:(k:Int)<(L.length:Int)
 ·have z:L[k]?=some (L[k]'(by omega)):=gE (by omega);have b:L.drop k=L[k]'(by omega) :: L.drop (k+1):=jC (by omega);generalize L[k]'(by omega)=x at z b;rw[b,fQ] at p1 p2;obtain⟨q,hq,hc⟩:=uM ((I.out 5 rfl).first.imp X9) z
  cases hq
  refine aP u ⟨λ V=>∃ a:Se,qS a (k+1)/\(fQ a (L.drop (k+1))).1.er=(fQ dL L).1.er/\(fQ a (L.drop (k+1))).2=(fQ dL L).2/\St w V (Sep (EH r2 a++[B])),?_,aq rfl ⟨by omega,by omega,_,hc,?_⟩⟩
  ·rintro V ⟨a,h1,h2,h3,f⟩ -;exact⟨L.length-(k+1),by omega,k+1,a,cA (by omega),by omega,rfl,h1,h2,h3,f⟩
  ·by_cases c:x=[]
   ·rw[ak c] at p1 p2;exact cT (by rw[c,fG]; rfl) ⟨S,p.up (by omega),p1,p2,I⟩
   ·rw[ah c] at p1 p2;have hxl:=M x (bf z);refine cF (by rw[fG,fG]; exact aS.2 c) (au (K3 E 32 x (by omega)) ?_);rintro v W ⟨g2,rfl,k7⟩;have f:St w W (Sep (dK 9 1 sF (qs g2) (bD 32 x).length (bD 32 x) :: (EH r2 S++[B]))):=I.and k7.single;have hwl:=tB 32 x;have A:St w W (Sep (EH r2 S++[Sep [dK 9 1 sF (qs g2) (bD 32 x).length (bD 32 x),B]])) :=
     St.cat (((f.ay [1,2,3,4,5,0,6]).split [_,_,_,_,_]).eqv (bX.right (bX.unit _)))
    refine⟨_,_,_,rfl,au (Wa A (λ w F ⟨J,X,_,h1,_,_⟩=>bn sg w J h1) (aO _) (A4 32 x) (by omega) (λ y hy=>by have:=tC hy; omega) p (by omega)) ?_⟩;rintro v w8 ⟨rfl,ko,ok⟩;refine⟨_,rfl,?_⟩
    by_cases d:qH S (bD 32 x)=0
    ·rw[ah (λ h=>h d)] at p1 p2;obtain⟨a,R,n⟩:=ok d;have h1:=zm (l:=L.drop (k+1)) R;refine cF (by simpa using d) ⟨a,(PI p _).er R,h1.1.trans p1,h1.2.trans p2,?_⟩;have O:=n.iE [_,_,_,_,_];exact O.ay [0,1,2,3,4,6]
    ·rw[ak d] at p1 p2;have p2:qH S (bD 32 x)=(fQ dL L).2:=p2;have n:=C (((ko d).iE [_,_,_,_,_]).ay [0,1,2,3,4,6]);exact cT (by simpa using d) (bad n (j:=6) rfl d (by rw[G,ak (by rw[<- p2]; exact d),<- p2]))
 ·obtain rfl:k=L.length:=by omega
  rw[pE,fQ] at p1 p2;have p1:S.er=(fQ dL L).1.er:=p1;have p2:(0:Int)=(fQ dL L).2:=p2;rw[ah (λ h=>h p2.symm),<- I7 p1] at G;have f:=C I;have sI:S.In E:=(show St w E (Sep (EH r2 S)) from f.ay [0,1,2,3,4]).imp (P3 p);refine aU u (Ex8<|Ex4<|⟨f.cellsIn 0 rfl,au (CR sI) ?_⟩);rintro v w10 ⟨⟨rfl,N⟩,K⟩;have A:=f.quiet K;refine⟨_,rfl,?_⟩
  by_cases o:tv S=0
  ·refine cF (by simpa using o) (Ex8<|Ex4<|⟨A.cellsIn 0 rfl,A.az 6 rfl S.arr.toList rfl (by simp[Se.arr,Value.oneCell']) λ P n=>(Ex8<|Ex4<|⟨n.cellsIn (cs:=S.arr) 6 rfl,S,0,by rw[G,o]; rfl,?_,λ _=>⟨by rw[pX,Y]; exact p1,N.1 o⟩⟩)⟩);exact((show St w P (Sep (EH r2 S)) from n.ay [0,1,2,3,4]).held (P3 p))
  ·exact cT (by simpa using o) (bad A (j:=6) rfl o G)
def rL(o:Po):Sx:={ o:=o,ph:=0,s:=dL,k:=none,bd:=[dG,dG,dG,dG,dG,dG,dG,dG],dec:=0,cnt:=0,dig:=0 }
def WD(w:af)(o:Po):CP 16 #[o.v] w (λ r w'=>∃ b,r=.pointer (qs b)/\St w w' (Sep [aj b (rL o).cells.toArray 125])):=by
 refine lM.1 ?_;exact aG o.cells.toArray λ r1 a s1=>⟨_,_,_,_,s1.cellsIn 0 rfl,s1.aB (rL o).cells.toArray λ r2 c s2=>⟨r2,rfl,s2.ay [0]⟩⟩
def pg{S:Sx}(h:S.bd.length=8):S.cells.toArray[9]?=some (.pointer S.k):=by
 obtain⟨o,ph,s,k,bd,dec,cnt,dig⟩:=S;obtain⟨a,b,c,d,e,f,g,i,rfl⟩:=fA h;rfl
section
variable {w0 w:af} {b g:Nat} {S:Sx} {C:Ck} {B:aI}
def iT(b:Nat)(S:Sx)(g:Nat)(C:Ck):List aI:=aj b S.cells.toArray 125 :: jR g C
def St.pP{m:List aI}(s:St w0 w (Sep (jR g C++m))):St w0 w (Sep (jR g C++[Sep m])):=St.cat ((s.split (jR g C)).eqv (bX.right (bX.unit _)))
def Qe(s:St w0 w (Sep (iT b S g C++[B])))(h:S.bd.length=8)(F:S.k=qs g)(hC:C.Ok)(e:Ev) :
  CP 80 #[.pointer (qs b),e.v] w (λ r w'=>∃ (x:Int) (d:Sx) (a:Ck),r=iv x/\d.bd.length=8/\d.k=S.k/\x=(if C.ov then 10 else 0)/\(C.ov=false->a.er=(if e.kind=3 then gZ C else sC C).er/\d=if (if e.kind=3 then eJ C else true) then { S with ph:=2 } else S)/\St w0 w' (Sep (iT b d g a++[B]))):=by
 refine @sy _ _ _ _ e.want _ _ _ _ ?_;refine s.aB e.cells.toArray λ r1 y s1=>?_;let q:aI:=Sep [aj r1 e.cells.toArray 45,aj b S.cells.toArray 125,B];have s2:St w0 y (Sep (jR g C++[q])):=St.pP (m:=[_,_,_]) (s1.ay [2,3,4,5,6,7,0,1,8]);have cl:y.cell? ⟨b,9,none⟩=some (.pointer (qs g)):=by rw[s1.ag 1 rfl,pg h,F]
 have f:∀ {w':af} {a:Ck},St w0 w' (Sep (jR g a++[q]))->St w0 w' (Sep (iT b S g a++[B])):=λ s=>(s.iE [_,_,_,_,_,_]).ay [7,0,1,2,3,4,5,8];refine⟨λ o x z=>∃ a:Ck,x=(if C.ov then 10 else 0)/\(C.ov=false->a.er=(if e.kind=3 then gZ C else sC C).er/\o=if e.kind=3 then eJ C else true)/\St w0 z (Sep (iT b S g a++[B])),?_,_,s1.ag 0 rfl 0,?_⟩
 ·rintro z o x ⟨a,G,t,u⟩ -;refine⟨λ A=>∃ d:Sx,d.bd.length=8/\d.k=S.k/\d=(if o then { S with ph:=2 } else S)/\St w0 A (Sep (iT b d g a++[B])),?_,?_⟩
  ·rintro A ⟨d,D,p,E,l⟩ -;exact⟨x,d,a,rfl,D,p,G,λ c=>⟨(t c).1,by rw[E,(t c).2]⟩,l⟩
  ·cases o with
   | true =>
    refine cT rfl (u.aN 0 rfl (j:=4) (by rw[jg h]; omega) rfl λ I l=>⟨{ S with ph:=2 },h,rfl,rfl,?_⟩);rw[He h] at l;exact l
   | false=>exact cF rfl ⟨S,h,rfl,rfl,u⟩
 ·by_cases h3:e.kind=3
  ·refine cT (by simpa using h3) ⟨_,cl,au (Ry s2 hC) ?_⟩;rintro v H (⟨c,rfl,i⟩|⟨c,rfl,a,n,i⟩)
   ·exact⟨_,_,rfl,C,by rw[c]; rfl,λ h=>(by rw[c] at h; cases h),f i⟩
   ·exact⟨_,_,rfl,a,by rw[c]; rfl,λ _=>⟨by rw[ak h3]; exact n,by rw[ak h3]⟩,f i⟩
  ·refine cF (by simpa using h3) ⟨_,cl,au (WH s2 hC) ?_⟩;rintro v H (⟨c,rfl,i⟩|⟨c,rfl,a,n,i⟩)
   ·exact⟨_,rfl,C,by rw[c]; rfl,λ h=>(by rw[c] at h; cases h),f i⟩
   ·exact⟨_,rfl,a,by rw[c]; rfl,λ _=>⟨by rw[ah h3]; exact n,by rw[ah h3]⟩,f i⟩
end
section
variable {w0 w:af} {b g:Nat} {S:Sx} {C:Ck} {B:aI}
def MK(s:St w0 w (Sep (iT b S g C++[B])))(h:S.bd.length=8)(p:S.k=qs g)(hC:C.Ok){e:Ev}{n:Nat}{y:Br}(q:e.bidder=n)(t:C.s.bd[n]?=some y) :
  CP 79 #[.pointer (qs b),e.v] w (λ r w'=>r=iv (gX C n y e.want)/\St w0 w' (Sep (iT b S g (if gX C n y e.want=0 then oK C n e.want else C)++[B]))):=by
 refine @qC _ _ _ _ e.want _ _ _ _ ?_;refine s.aB e.cells.toArray λ r1 c s1=>?_;have a:=s1.quiet (aC.drew c []);let j:aI:=Sep [aj r1 e.cells.toArray 45,aj b S.cells.toArray 125,B];have s2:St w0 c.drew (Sep (jR g C++[j])):=St.pP (m:=[_,_,_]) (a.ay [2,3,4,5,6,7,0,1,8]);have cl:c.drew.cell? ⟨b,9,none⟩=some (.pointer (qs g)):=by rw[a.ag 1 rfl,pg h,p]
 have i:∀ {w':af} {l:Ck},St w0 w' (Sep (jR g l++[j]))->St w0 w' (Sep (iT b S g l++[B])):=λ s=>(s.iE [_,_,_,_,_,_]).ay [7,0,1,2,3,4,5,8];have o:c.drew.cell? ⟨r1,1,none⟩=some (iv n):=by rw[<- q]; exact a.ag 0 rfl 1
 refine⟨_,cl,_,o,e.want,a.aQ 0 3 rfl rfl,au (VB s2 hC t e.want) ?_⟩;rintro v u ⟨rfl,f⟩;refine⟨_,rfl,rfl,i ?_⟩
 split at f
 ·rename_i d; rw[ak d]; exact f
 ·rename_i d; rw[ah d]; exact f
end
section
variable {w0 w:af} {b g:Nat} {S:Sx} {C:Ck} {B:aI}
def jj(S:Sx)(i:Nat):Sx:={ S with bd:=S.bd.set i { S.bd.getD i dG with out:=true } }
def Tt(s:St w0 w (Sep (iT b S g C++[B])))(h:S.bd.length=8)(x:S.k=qs g)(hC:C.Ok){e:Ev}{i:Nat}(he:e.bidder=i)(hi:i<C.s.bd.length) :
  CP 83 #[.pointer (qs b),e.v] w (λ r w'=>(C.dp[i]?=some true/\r=iv 10/\St w0 w' (Sep (iT b (cG (jj S i) i) g C++[B])))\/(C.dp[i]?=some false/\r=iv 0/\St w0 w' (Sep (iT b (cG (jj S i) i) g (jS C i)++[B])))):=by
 refine @nC _ _ _ _ e.want _ _ _ _ ?_;have a:i<8:=by have:=hC.s.bd.l2; omega
 have y:S.bd[i]?=some (S.bd.getD i dG):=by rw[aJ,gE (by omega)]; rfl
 refine s.aB e.cells.toArray λ r1 t s1=>?_;have s2:=s1.quiet (aC.drew t []);have c1:t.drew.cell? ⟨r1,1,none⟩=some (iv i):=by rw[<- he]; exact s2.ag 0 rfl 1
 refine⟨_,c1,by omega,by omega,?_⟩;rw[Xi,bY];refine s2.aN 1 rfl (j:=10+i*11+10) (by rw[jg h]; omega) rfl λ u c=>?_;rw[TI h a y] at c;have h2:(jj S i).bd.length=8:=by simpa[jj] using h
 have h3:(cG (jj S i) i).bd.length=8:=by simpa[cG] using h2
 have c:St w0 u (Sep (aj r1 e.cells.toArray 45 :: aj b (jj S i).cells.toArray 125 :: (jR g C++[B]))):=c;have c2:u.cell? ⟨r1,1,none⟩=some (iv i):=by rw[<- he]; exact c.ag 0 rfl 1
 refine⟨_,c2,au (EG (m:=aj r1 e.cells.toArray 45 :: (jR g C++[B])) (c.ay [1,0,2,3,4,5,6,7,8]) h2 a) ?_⟩;rintro v f ⟨rfl,z⟩;have l:=z.quiet (aC.drew f []);let q:Sx:=cG (jj S i) i;let o:aI:=Sep [aj r1 e.cells.toArray 45,aj b q.cells.toArray 125,B];have A:St w0 f.drew (Sep (jR g C++[o])):=St.pP (m:=[_,_,_]) (l.ay [2,3,4,5,6,7,1,0,8]);have cl:f.drew.cell? ⟨b,9,none⟩=some (.pointer (qs g)):=by
  rw[l.ag 0 rfl,pg h3];show some (Value.pointer S.k)=_;rw[x]
 have d:∀ {w':af} {p:Ck},St w0 w' (Sep (jR g p++[o]))->St w0 w' (Sep (iT b q g p++[B])):=λ s=>(s.iE [_,_,_,_,_,_]).ay [7,0,1,2,3,4,5,8];have c3:f.drew.cell? ⟨r1,1,none⟩=some (iv i):=by rw[<- he]; exact l.ag 1 rfl 1
 refine⟨rfl,_,cl,_,c3,au (U5 A hC hi) ?_⟩;rintro v D (⟨hd,rfl,n⟩|⟨hd,rfl,n⟩)
 ·exact⟨_,rfl,.inl ⟨hd,rfl,d n⟩⟩
 ·exact⟨_,rfl,.inr ⟨hd,rfl,d n⟩⟩
end
section
variable {w0 w:af} {b g:Nat} {S:Sx} {C:Ck} {B:aI}
def dr(S:Sx):Nat->Sx
 | 0=>S
 | k+1=>cG (dr S k) k
theorem AU(h:S.bd.length=8):∀ k,(dr S k).bd.length=8
 | 0=>h
 | k+1=>by have:=AU h k; simpa[dr,cG] using this
def Qd(s:St w0 w (Sep (iT b S g C++[B])))(h:S.bd.length=8)(y:S.k=qs g)(hC:C.Ok)(e:Ev) :
  CP 84 #[.pointer (qs b),e.v] w (λ r w'=>(cU C e.round=true/\r=iv 4/\St w0 w' (Sep (iT b S g C++[B])))\/(cU C e.round=false/\r=iv 0/\∃ a,a.er=(e9 C e.round.toNat).er/\St w0 w' (Sep (iT b { dr S 8 with ph:=1 } g a++[B])))):=by
 refine @sx _ _ _ _ e.want _ _ _ _ ?_;refine s.aB e.cells.toArray λ r1 p s1=>?_;have s2:=s1.quiet (aC.drew p []);let q:aI:=Sep [aj r1 e.cells.toArray 45,aj b S.cells.toArray 125,B];have A:St w0 p.drew (Sep (jR g C++[q])):=St.pP (m:=[_,_,_]) (s2.ay [2,3,4,5,6,7,0,1,8]);have cl:p.drew.cell? ⟨b,9,none⟩=some (.pointer (qs g)):=by rw[s2.ag 1 rfl,pg h,y]
 have d:∀ {w':af} {a:Ck},St w0 w' (Sep (jR g a++[q]))->St w0 w' (Sep (iT b S g a++[B])):=λ s=>(s.iE [_,_,_,_,_,_]).ay [7,0,1,2,3,4,5,8];refine⟨_,cl,_,s2.ag 0 rfl 2,au (Ta A hC e.round) ?_⟩;rintro v E (⟨n,rfl,o⟩|⟨n,rfl,a,x,o⟩)
 ·exact⟨_,rfl,cT rfl (.inl ⟨n,rfl,d o⟩)⟩
 ·refine⟨_,rfl,cF rfl ⟨λ i u m=>∃ k:Nat,i=k/\k<=8/\m=8-k/\St w0 u (Sep (iT b (dr S k) g a++[B])),⟨8,0,rfl,by omega,by omega,d o⟩,?_⟩⟩;rintro u m i ⟨k,rfl,z,hm,t⟩ -;have l:=AU h k
  by_cases c:(k:Int)<8
  ·refine aP c (au (EG (m:=jR g a++[B]) t l (i:=k) (by omega)) ?_);rintro v D ⟨rfl,f⟩;exact⟨rfl,8-(k+1),by omega,k+1,cA (by omega),by omega,rfl,f⟩
  ·obtain rfl:k=8:=by omega
   refine aU c (t.aN 0 rfl (j:=4) (by rw[jg l]; omega) rfl λ D f=>.inr ⟨n,rfl,a,x,?_⟩);rw[He l] at f;exact f
end
def rJ(F:I6->Int)(b:I6)(v:Int)(c:Ch):Int:=if c.want=b then v else if F c.want+cost c.p b-cost c.p c.want<v then F c.want+cost c.p b-cost c.p c.want else v
def OR(F:I6->Int)(l:List Ch)(b:I6):Int:=l.foldl (rJ F b) 1000000
def RU{l:List Ch}(h:∀ c∈l,c.Ok){q:I6}(b:I6.Le q 4):∀ {v:Int},0<=v/\v<=24000000->0<=l.foldl (oN q) v/\l.foldl (oN q) v<=24000000:=by
 induction l with
 | nil=>intro v a; exact a
 | cons c l d =>
  intro v a;rw[fM];refine d (λ c hc=>h c (by simp[hc])) ?_;have:=ja (h c (by simp)).p b;unfold oN
  split
  ·split<;>omega
  ·exact a
def RT{l:List Of}(h:∀ x∈l,x.v<=1000000){q:I6}:∀ {v:Int},0<=v/\v<=24000000->0<=l.foldl (vD q) v/\l.foldl (vD q) v<=24000000:=by
 induction l with
 | nil=>intro v a; exact a
 | cons c l b =>
  intro v a;rw[fM];refine b (λ c hc=>h c (by simp[hc])) ?_;have:=h c (by simp);unfold vD
  split
  ·split<;>omega
  ·exact a
def J7{l:List Ch}{a:List Of}(h:∀ c∈l,c.Ok)(b:∀ x∈a,x.v<=1000000){q:I6}(d:I6.Le q 4):0<=wW l a q/\wW l a q<=24000000:=RT b (RU h d (by decide))
def VM{w:af}{a:OA}{c:Nat}{l:List Ch}(I:xH w a l)(S:l.length<=1000)(H:∀ c∈l,c.Ok){F:I6->Int}(G:∀ q,I6.Le q 4->0<=F q/\F q<=24000000){v:Value}(J:∀ (w':af) (q:I6) (R:Ending->af->Prop),aC w w' []->I6.Le q 4->(∀ j,aC w' j []->R (.returned (iv (F q))) j)->lK prog v #[.agg q.vs.toArray] w' R){b:I6}(A:I6.Le b 4) :
  CP 236 #[.slice a l.length c,v,.agg b.vs.toArray] w (λ r w'=>r=iv (OR F l b)/\aC w w' []):=by
 refine(p6 ld).2.2.1 ?_;refine aG b.vs.toArray λ r1 T s1=>?_;let M:List aI:=[aj r1 b.vs.toArray 42,emp];refine⟨λ n i B m=>∃ k:Nat,i=k/\k<=l.length/\m=l.length-k/\n=(l.take k).foldl (rJ F b) 1000000/\St w B (Sep M),⟨l.length,0,rfl,by omega,by omega,rfl,s1⟩,?_⟩;rintro B m n i ⟨k,rfl,Q,hm,rfl,s2⟩ -
 by_cases g:(k:Int)<(l.length:Int)
 ·obtain⟨y,t⟩:=bx l k (by omega);obtain⟨p,hp,s⟩:=(I.av s2.av).at t;have d:=H y (bf t);have z:=kL (f:=rJ F b) (a:=1000000) t;refine aP g ⟨λ n C=>n=(l.take (k+1)).foldl (rJ F b) 1000000/\St w C (Sep M),?_,aq hp ⟨by omega,by omega,y.p,y.want,s,s2.aB nt.cells.toArray λ r2 U L=>L.az 0 rfl y.cells rfl y.one λ N o=>⟨y.want,dV o 0 rfl,b,o.cellsIn 1 rfl,?_⟩⟩⟩
  ·rintro C n ⟨rfl,K⟩ -;exact jZ (by omega) ⟨rfl,K⟩
  rw[I6.beq_eq]
  by_cases hw:y.want=b
  ·exact cF (by rw[dT hw]; rfl) ⟨by rw[z,rJ,ak hw],o.ay [1,2]⟩
  ·have e:=o.quiet (aC.drew N []);refine cT (by rw[dF hw]; rfl) ⟨y.want,dV e 0 rfl,y.p,uu e 0 rfl,b,e.cellsIn 1 rfl,y.p,uu e 0 rfl,y.want,dV e 0 rfl,J _ y.want _ e.av d.w λ O D=>?_⟩;have h:=e.quiet D;refine⟨_,rfl,dV h 0 rfl,uu h 0 rfl,h.cellsIn 1 rfl,uu h 0 rfl,au (mP O d.p A) ?_⟩;rintro x P ⟨rfl,c8⟩;have u:=h.quiet c8;refine⟨_,rfl,dV u 0 rfl,uu u 0 rfl,au (mP P d.p d.w) ?_⟩;rintro x V ⟨rfl,E⟩;have h1:=G y.want d.w;have h2:=ja d.p A;have h3:=ja d.p d.w;refine⟨_,rfl,?_,(u.quiet E).ay [1,2]⟩;rw[z,rJ,ah hw,cW (n:=F y.want+cost y.p b) ⟨by omega,by omega⟩,cA (by omega)]
 ·obtain rfl:l.length=k:=by omega
  rw[br];exact aU g ⟨rfl,s2.av⟩
def LN(w:af)(a:OA)(n c:Nat):CP 338 #[.slice a n c,.agg #[.slice none 0 0,.slice none 0 0]] w (λ r w'=>r=.bool true/\aC w w' []):=by
 refine(p6 (p6 vL)).2.1 ?_;refine aG #[.slice none 0 0,.slice none 0 0] λ r1 g s1=>⟨λ b d=>b=false/\d=g,?_,_,_,_,s1.ag 0 rfl 0,cF rfl ⟨_,_,_,s1.ag 0 rfl 0,rfl,rfl⟩⟩;rintro d _ ⟨rfl,rfl⟩ -;refine cF rfl ⟨_,_,_,s1.ag 0 rfl 0,λ i e m=>i=0/\e=d,⟨0,rfl,rfl⟩,?_⟩;rintro e m i ⟨rfl,rfl⟩ -;refine cF rfl ⟨_,_,_,s1.ag 0 rfl 1,λ i f m=>i=0/\f=e,⟨0,rfl,rfl⟩,?_⟩;rintro f m i ⟨rfl,rfl⟩ -;exact cF rfl ⟨rfl,s1.av⟩
def M0{w:af}{a:OA}{c:Nat}{x:Ch}(e:xH w a [x])(d:x.Ok):CP 298 #[.slice a 1 c,.agg #[.slice none 0 0,.slice none 0 0]] w (λ r w'=>r=iv 13/\aC w w' []):=by
 refine(p6 vL).2.2.2.1 ?_;refine aG #[.slice none 0 0,.slice none 0 0] λ r1 i s1=>au (zP (l:=[x]) (k:=c) (e.av s1.av) (by simp)) ?_;rintro v g ⟨rfl,c2⟩;have s2:=s1.quiet c2;have f:[x].all wT=true:=zO.2 λ c hc=>by rw[bp.1 hc]; exact d
 refine⟨_,rfl,cF (by rw[f]; rfl) (Ex4 ⟨_,_,s2.cellsIn 0 rfl,au (LN g a 1 c) ?_⟩)⟩;rintro v h ⟨rfl,c3⟩;have b:=s2.quiet c3;refine⟨_,rfl,cF rfl ⟨_,_,_,b.ag 0 rfl 0,cT rfl ⟨_,_,_,b.ag 0 rfl 1,au (K:=λ r w'=>r=.bool false/\w'=h) (R6.1 ?_) ?_⟩⟩⟩
 ·skip
  exact cT rfl ⟨rfl,rfl⟩
 ·rintro v j ⟨rfl,rfl⟩;exact⟨_,rfl,cT rfl ⟨rfl,b.av⟩⟩
def TA{w:af}{a:OA}{c:Nat}{l:List Ch}(q:xH w a l)(x:l.length<=1000)(o:∀ c∈l,c.Ok):CP 233 #[.slice a l.length c] w (λ r w'=>r=.bool true/\aC w w' []):=by
 refine ld.2.2.2.2.2.1 ?_;refine⟨λ i j m=>∃ k:Nat,i=k/\k<=l.length/\m=l.length-k/\aC w j [],⟨l.length,0,rfl,by omega,by omega,aC.refl _ _⟩,?_⟩;rintro j m i ⟨k,rfl,u,hm,c2⟩ -
 by_cases b:(k:Int)<(l.length:Int)
 ·obtain⟨y,f⟩:=bx l k (by omega);obtain⟨p,hp,d⟩:=(q.av c2).at f;refine aP b (aq hp ⟨by omega,by omega,y.p,y.want,d,(St.start' c2).one.aB nt.cells.toArray λ r1 A s=>s.az 0 rfl y.cells rfl y.one λ B g=>⟨y.p,y.want,g.cellsIn 0 rfl,g.aB y.cells.toArray λ r2 t h=>?_⟩⟩);have h1:xH t (qs r2) [y]:=λ i z e=>by
   obtain⟨rfl,rfl⟩:i=0/\z=y:=by
    cases i with
    | zero=>simp at e; exact⟨rfl,e.symm⟩
    | succ i=>simp at e
   exact⟨_,_,rfl,by rw[wK,om]; exact h.cellsIn 0 rfl,rfl,rfl⟩
  refine au (M0 (c:=1) h1 (o y (bf f))) ?_;rintro v C ⟨rfl,n⟩;exact⟨_,rfl,cF rfl (jZ (by omega) ((h.quiet n).av))⟩
 ·exact aU b ⟨rfl,c2⟩
def vW(l:List Ch)(a:List Of)(x:Of):Bool:=decide (x.v>OR (wW l a) l x.want)
def yy(l:List Ch)(a:List Of):Int:=if a.all nA then (if a.any (vW l a) then 16 else 0) else 4
def LO{α:Type}(p:α->Bool):List α->Nat
 | []=>0
 | x :: l=>if p x=true then 0 else LO p l+1
theorem vH{α:Type}{p:α->Bool}:∀ {l:List α} {k:Nat} {x:α},(l.take k).any p=false->l[k]?=some x->p x=true->LO p l=k
 | y :: l,0,x,_,a,h=>by cases a; rw[LO,ak h]
 | y :: l,k+1,x,ha,a,h=>by
  rw[pF,Dh,oF] at ha;rw[LO,ah (by rw[ha.1]; decide),vH ha.2 (by simpa using a) h]
def wk(l:List Ch)(a:List Of):Nat:=if a.all nA then (if a.any (vW l a) then LO (vW l a) a else 0) else LO (λ x=>!nA x) a
def GX{w:af}{a1 a2:OA}{c1 c2:Nat}{l:List Ch}{a:List Of}(D:xH w a1 l)(C:l.length<=1000)(g:∀ c∈l,c.Ok)(A:W6 w a2 a)(B:a.length<=100000) :
  CP 171 #[.slice a1 l.length c1,.slice a2 a.length c2] w (λ r w'=>r=.tuple #[iv (wk l a),iv (yy l a)]/\aC w w' []):=by
 refine ld.2.2.1 ?_;refine au (TA D C g) ?_;rintro v X ⟨rfl,d1⟩;refine⟨_,rfl,cF rfl ⟨λ i L m=>∃ k:Nat,i=k/\k<=a.length/\m=a.length-k/\(a.take k).all nA=true/\aC w L [],⟨a.length,0,rfl,by omega,by omega,rfl,d1⟩,?_⟩⟩;rintro L m i ⟨k,rfl,J,hm,ha,d2⟩ -
 by_cases f:(k:Int)<(a.length:Int)
 ·obtain⟨y,e⟩:=bx a k (by omega);obtain⟨p,hp,j⟩:=(A.av d2).at e;refine aP f (aq hp ⟨by omega,by omega,_,y.want,_,j,(St.start' d2).one.aB YL.cells.toArray λ r1 V E=>E.az 0 rfl y.cells rfl y.one λ M t=>⟨_,y.want,_,t.cellsIn 0 rfl,au (L8 M y) ?_⟩⟩);rintro v Y ⟨rfl,c5⟩;refine⟨_,rfl,?_⟩
  cases hy:nA y with
  | false =>
   have:a.all nA=false:=nG.2 ⟨y,bf e,by simp[hy]⟩;have o:wk l a=k:=by
    rw[wk,this,ah (by decide)];refine vH ?_ e (by rw[hy]; rfl);rw[tY];intro z P;rw[dS.1 ha z P]; decide
   exact cT rfl ⟨by rw[o,yy,this]; rfl,(t.quiet c5).av⟩
  | true =>
   refine cF rfl (jZ (by omega) ⟨?_,(t.quiet c5).av⟩);rw[aH e,lZ,ha]; simp[hy]
 ·obtain rfl:a.length=k:=by omega
  rw[br] at ha;have I:yy l a=if a.any (vW l a) then 16 else 0:=by rw[yy,ak ha]
  have s:∀ x∈a,I6.Le x.want 4/\x.v<=1000000:=λ x e=>by
   have:=dS.1 ha x e;unfold nA at this;simp only[aX,bN] at this;exact⟨Bl this.1,this.2.2.2⟩
  refine aU f (au (K:=λ r w'=>∃ r1 r2,r=.func (.func 299) #[] #[pt r1,pt r2]/\St w w' (Sep [aj r2 #[.slice a2 a.length c2] 229,aj r1 #[.slice a1 l.length c1] 221,emp])) ((p6 ld).2.1 ?_) ?_)
  ·skip
   exact(St.start' d2).one.aB _ λ r1 V E=>E.aB _ λ r2 M t=>⟨r1,r2,rfl,t⟩
  rintro v Z ⟨r1,r2,rfl,Q⟩;refine⟨_,rfl,λ i N m=>∃ k:Nat,i=k/\k<=a.length/\m=a.length-k/\(a.take k).any (vW l a)=false/\St w N (Sep [aj r2 #[.slice a2 a.length c2] 229,aj r1 #[.slice a1 l.length c1] 221,emp]),⟨a.length,0,rfl,by omega,by omega,rfl,Q⟩,?_⟩;clear f hm J d2;rintro N m i ⟨k,rfl,J,hm,b,G⟩ -
  by_cases f:(k:Int)<(a.length:Int)
  ·obtain⟨y,e⟩:=bx a k (by omega);obtain⟨p,hp,j⟩:=(A.av G.av).at e;refine aP f (aq hp ⟨by omega,by omega,_,y.want,_,j,G.aB YL.cells.toArray λ r3 w8 S=>S.az 0 rfl y.cells rfl y.one λ W T=>?_⟩);have d:=T.quiet (aC.drew W []);refine⟨_,d.ag 0 rfl 7,y.want,d.aQ 0 1 rfl rfl,au (VM (F:=wW l a) (D.av d.av) C g (λ q O=>J7 g (λ x e=>(s x e).2) O) ?_ (s y (bf e)).1) ?_⟩
   ·intro w' q R hc _ kk;refine dZ (by kernel_rfl) (au (RW (D.av (d.quiet hc).av) C g (A.av (d.quiet hc).av) B ((d.quiet hc).ag 2 rfl 0) ((d.quiet hc).ag 1 rfl 0) q) ?_);rintro r H ⟨rfl,h⟩; exact kk H h
   ·rintro v U ⟨rfl,u⟩;have n:=d.quiet u;refine⟨_,rfl,n.ag 0 rfl 7,?_⟩
    cases g:vW l a y with
    | true =>
     have o:wk l a=k:=by rw[wk,ak ha,eZ e g,ak rfl]; exact vH b e g
     exact cT g ⟨by rw[o,I,eZ e g]; rfl,n.av⟩
    | false=>exact cF g (jZ (by omega) ⟨dY b e g,n.ay [1,2,3]⟩)
  ·obtain rfl:a.length=k:=by omega
   rw[br] at b;have o:wk l a=0:=by rw[wk,ak ha,b]; rfl
   exact aU f ⟨by rw[o,I,b]; rfl,G.av⟩
def IX{w:af}{a1 a2:OA}{c1 c2:Nat}{l:List Ch}{a:List Of}(g:xH w a1 l)(e:l.length<=1000)(f:∀ c∈l,c.Ok)(d:W6 w a2 a)(b:a.length<=100000) :
  CP 171 #[.slice a1 l.length c1,.slice a2 a.length c2] w (λ r w'=>(∃ i:Int,r=.tuple #[iv i,iv (yy l a)])/\aC w w' []) :=
 au (GX g e f d b) λ _ _ h=>⟨_,rfl,⟨_,h.1⟩,h.2⟩

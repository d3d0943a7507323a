import Derived.LaidEql
import Derived.Test.YtpihmghnbplohaaGreatDoorQ12
set_option linter.unusedVariables false
set_option maxRecDepth 100000
noncomputable section
namespace Go.Proofs.YtpihmghnbplohaaGreatDoor
open Go Go.Vc Tryz
def xA(a:Nat)(b c d e:Int)(w:World)(K:KP):=au w (.cells #[iv b,iv c,iv d,iv e] 23) λ b c=>au c (.cells #[qz,qz,qz,qz,qz,qz,qz,qz,qz,qz,qz,qz,qn,qn,qn] 67) λ c d=>CC 29 #[qp a] d λ d e=>∃ f,d=.returned (iv f)/\∃ d:OA->Nat->Nat->Int->qN,(∃ g,d none 0 0 0 e g)/\∀ e g h i j k,d h i j k e g->∀ l:qv,cond (decide (k<f)) (CC 70 #[qp a,iv k] e λ a f=>∃ l m,a=.returned (.tuple #[.string l,iv m])/\cond (m !=0) (aU (qd c 0) 0 [qz,qz,qz,qz,qz,qz,qz,qz,qz,qz,qz,qz,qn,qn,qn] f λ a=>∃ n o p q r s t u v x y z A B C D E F G H I,af a (qd c 0) 0 [iv n,iv o,iv p,iv q,iv r,iv s,iv t,iv u,iv v,iv x,iv y,iv z,.slice A B C,.slice D E F,.slice G H I]/\K (.tuple #[.agg #[iv n,iv o,iv p,iv q,iv r,iv s,iv t,iv u,iv v,iv x,iv y,iv z,.slice A B C,.slice D E F,.slice G H I],iv m]) a) (CC 14 #[.string l] f λ a f=>∃ l m n,∃ o:I6,∃ p q r,a=.returned (.tuple #[.agg (iv l :: iv m :: iv n :: o.on [.string p,.int .u64 q]:List Value).toArray,iv r])/\au f (.cells #[qz,qz,qz,qz,qz,qz,qz,qz,qz,.string (bs []),.int .u64 0] 43) λ a f=>aU (qd a 0) 0 (iv l :: iv m :: iv n :: o.on [.string p,.int .u64 q]) f λ f=>cond (r !=0) (aU (qd c 0) 0 [qz,qz,qz,qz,qz,qz,qz,qz,qz,qz,qz,qz,qn,qn,qn] f λ l=>∃ m n o p q s t u v x y z A B C D E F G H I,af l (qd c 0) 0 [iv m,iv n,iv o,iv p,iv q,iv s,iv t,iv u,iv v,iv x,iv y,iv z,.slice A B C,.slice D E F,.slice G H I]/\K (.tuple #[.agg #[iv m,iv n,iv o,iv p,iv q,iv s,iv t,iv u,iv v,iv x,iv y,iv z,.slice A B C,.slice D E F,.slice G H I],iv r]) l) (∃ l m n,∃ o:I6,∃ p q,af f (qd a 0) 0 (iv l :: iv m :: iv n :: o.on [.string p,.int .u64 q])/\au f (.cells (iv l :: iv m :: iv n :: o.on [.string p,.int .u64 q]:List Value).toArray 43) λ a f=>bn prog (Builtin.append_ #[24,24] 24 #[.slice h i j,.slice (some (qd a 0)) 1 1]) f λ a f=>∃ l m n,a=(.slice l m n)/\∃ a,a<g/\d l m n (IntKind.i64.wrap (k+1)) f a))) (∃ a d f g,af e (qd b 0) 0 [iv a,iv d,iv f,iv g]/\CC 27 #[.slice h i j,.agg #[iv a,iv d,iv f,iv g]] e λ a b=>∃ d e f g h i j k l m n o p q r s t u v x y,a=.returned (.agg #[iv d,iv e,iv f,iv g,iv h,iv i,iv j,iv k,iv l,iv m,iv n,iv o,.slice p q r,.slice s t u,.slice v x y])/\aU (qd c 0) 0 [iv d,iv e,iv f,iv g,iv h,iv i,iv j,iv k,iv l,iv m,iv n,iv o,.slice p q r,.slice s t u,.slice v x y] b λ a=>∃ b d e f g h i j k l m n o p q r s t u v x,af a (qd c 0) 0 [iv b,iv d,iv e,iv f,iv g,iv h,iv i,iv j,iv k,iv l,iv m,iv n,.slice o p q,.slice r s t,.slice u v x]/\K (.tuple #[.agg #[iv b,iv d,iv e,iv f,iv g,iv h,iv i,iv j,iv k,iv l,iv m,iv n,.slice o p q,.slice r s t,.slice u v x],qz]) a)
theorem Ay{b1 n1 n2 n3 n4 w K}(h:xA b1 n1 n2 n3 n4 w K):CP 24 #[.pointer (some ⟨b1,0,none⟩),.agg #[iv n1,iv n2,iv n3,iv n4]] w K:=an (aF [(122,[(6,.s .slice),(16,.s (.int .i64))])]) func24 (by kernel_rfl) (by kernel_rfl) h
def kE(a:OA)(b c:Nat)(d e f g:Int)(h:ByteArray)(i:Bool)(w:World)(K:KP):=au w (.cells #[iv d,iv e,iv f,iv g] 23) λ d e=>∃ f:Bool->qW,(∀ g j,f j g->∀ k:qv,cond j (CC 19 #[] g λ j k=>∃ l,j=.returned (.bool l)/\K (.bool l) k) (CC 20 #[iv 262144] g λ g j=>∃ k l,g=.returned (.tuple #[.pointer k,iv l])/\∃ g:Bool->qW,(∀ m n,g n m->∀ o:qv,cond n (K (.bool false) m) (CC 21 #[.pointer k] m λ m n=>∃ o p,m=.returned (.tuple #[.pointer o,iv p])/\∃ m:Bool->qW,(∀ q r,m r q->∀ s:qv,cond r (K (.bool false) q) (∃ r:OA->Nat->Nat->Int->qN,(∃ s,r none 0 0 0 q s)/\∀ q s t u v x,r t u v x q s->∀ y:qv,cond (decide (x<(b:Int))) (∃ y:OA->Nat->Nat->qW,(∀ z A B C,y A B C z->∀ D:qv,∃ D,D<s/\r A B C (IntKind.i64.wrap (x+1)) z D)/\av a λ r=>0<=x/\x<(b:Int)/\∃ s z A,∃ B:I6,∃ C D,af q (Addr.add r ((x).toNat*11)) 0 (iv s :: iv z :: iv A :: B.on [.string C,.int .u64 D])/\CC 22 #[.agg (iv s :: iv z :: iv A :: B.on [.string C,.int .u64 D]:List Value).toArray] q λ r s=>∃ z A,r=.returned (.tuple #[.string z,iv A])/\cond (A !=0) (y t u v s) (CC 23 #[.pointer o,.string z] s λ r s=>∃ z A,r=.returned (.tuple #[.int .u64 z,iv A])/\cond (A !=0) (CC 19 #[] s λ r z=>∃ A,r=.returned (.bool A)/\K (.bool A) z) (av a λ r=>0<=x/\x<(b:Int)/\∃ z A B,∃ C:I6,∃ D E,af s (Addr.add r ((x).toNat*11)) 0 (iv z :: iv A :: iv B :: C.on [.string D,.int .u64 E])/\au s (.cells (iv z :: iv A :: iv B :: C.on [.string D,.int .u64 E]:List Value).toArray 43) λ r s=>bn prog (Builtin.append_ #[24,24] 24 #[.slice t u v,.slice (some (qd r 0)) 1 1]) s λ r s=>∃ x z A,r=(.slice x z A)/\y x z A s))) (∃ r:OA->Nat->Nat->Int->qW,(∀ s x y z A,r x y z A s->∀ B:qv,∃ B C D E,af s (qd d 0) 0 [iv B,iv C,iv D,iv E]/\CC 24 #[.pointer o,.agg #[iv B,iv C,iv D,iv E]] s λ s B=>∃ C D E F G H I J L M N O P Q R S T U V W X Y,s=.returned (.tuple #[.agg #[iv C,iv D,iv E,iv F,iv G,iv H,iv I,iv J,iv L,iv M,iv N,iv O,.slice P Q R,.slice S T U,.slice V W X],iv Y])/\au B (.cells #[qz,qz,qz,qz,qz,qz,qz,qz,qz,qz,qz,qz,qn,qn,qn] 67) λ s B=>aU (qd s 0) 0 [iv C,iv D,iv E,iv F,iv G,iv H,iv I,iv J,iv L,iv M,iv N,iv O,.slice P Q R,.slice S T U,.slice V W X] B λ B=>cond (A !=0) (cond (Y==A) (∃ A C D E F G H I J L M N O P Q R S T U V W,af B (qd s 0) 0 [iv A,iv C,iv D,iv E,iv F,iv G,iv H,iv I,iv J,iv L,iv M,iv N,.slice O P Q,.slice R S T,.slice U V W]/\CC 26 #[.agg #[iv A,iv C,iv D,iv E,iv F,iv G,iv H,iv I,iv J,iv L,iv M,iv N,.slice O P Q,.slice R S T,.slice U V W]] B λ A C=>∃ D E F G H I J L M N O P Q R S T U V W X Z,A=.returned (.agg #[iv D,iv E,iv F,iv G,iv H,iv I,iv J,iv L,iv M,iv N,iv O,iv P,.slice Q R S,.slice T U V,.slice W X Z])/\CC 25 #[.agg #[iv D,iv E,iv F,iv G,iv H,iv I,iv J,iv L,iv M,iv N,iv O,iv P,.slice Q R S,.slice T U V,.slice W X Z],.agg #[qz,qz,qz,qz,qz,qz,qz,qz,qz,qz,qz,qz,qn,qn,qn]] C λ A C=>∃ D,A=.returned (.bool D)/\cond D (CC 19 #[] C λ A D=>∃ E,A=.returned (.bool E)/\K (.bool E) D) (K (.bool false) C)) (K (.bool false) B)) (cond (Y==0) (∃ A C D E F G H I J L M N O P Q R S T U V W,af B.drew (qd s 0) 0 [iv A,iv C,iv D,iv E,iv F,iv G,iv H,iv I,iv J,iv L,iv M,iv N,.slice O P Q,.slice R S T,.slice U V W]/\∃ s X Y Z,af B.drew (qd d 0) 0 [iv s,iv X,iv Y,iv Z]/\CC 26 #[.agg #[iv A,iv C,iv D,iv E,iv F,iv G,iv H,iv I,iv J,iv L,iv M,iv N,.slice O P Q,.slice R S T,.slice U V W]] B.drew λ A C=>∃ D E F G H I J L M N O P Q R S T U V W a1 a2,A=.returned (.agg #[iv D,iv E,iv F,iv G,iv H,iv I,iv J,iv L,iv M,iv N,iv O,iv P,.slice Q R S,.slice T U V,.slice W a1 a2])/\af C (qd d 0) 0 [iv s,iv X,iv Y,iv Z]/\CC 27 #[.slice x y z,.agg #[iv s,iv X,iv Y,iv Z]] C λ d s=>∃ x y z A C X Y Z a3 a4 a5 a6 a7 a8 a9 b1 b2 b3 b4 b5 b6,d=.returned (.agg #[iv x,iv y,iv z,iv A,iv C,iv X,iv Y,iv Z,iv a3,iv a4,iv a5,iv a6,.slice a7 a8 a9,.slice b1 b2 b3,.slice b4 b5 b6])/\CC 26 #[.agg #[iv x,iv y,iv z,iv A,iv C,iv X,iv Y,iv Z,iv a3,iv a4,iv a5,iv a6,.slice a7 a8 a9,.slice b1 b2 b3,.slice b4 b5 b6]] s λ d s=>∃ x y z A C X Y Z a3 a4 a5 a6 a7 a8 a9 b1 b2 b3 b4 b5 b6,d=.returned (.agg #[iv x,iv y,iv z,iv A,iv C,iv X,iv Y,iv Z,iv a3,iv a4,iv a5,iv a6,.slice a7 a8 a9,.slice b1 b2 b3,.slice b4 b5 b6])/\CC 25 #[.agg #[iv D,iv E,iv F,iv G,iv H,iv I,iv J,iv L,iv M,iv N,iv O,iv P,.slice Q R S,.slice T U V,.slice W a1 a2],.agg #[iv x,iv y,iv z,iv A,iv C,iv X,iv Y,iv Z,iv a3,iv a4,iv a5,iv a6,.slice a7 a8 a9,.slice b1 b2 b3,.slice b4 b5 b6]] s λ d s=>∃ x,d=.returned (.bool x)/\cond x (CC 19 #[] s λ d x=>∃ y,d=.returned (.bool y)/\K (.bool y) x) (K (.bool false) s)) (K (.bool false) B.drew)))/\cond i (CC 14 #[.string h] q λ d i=>∃ s x y,∃ z:I6,∃ A B C,d=.returned (.tuple #[.agg (iv s :: iv x :: iv y :: z.on [.string A,.int .u64 B]:List Value).toArray,iv C])/\au i (.cells #[qz,qz,qz,qz,qz,qz,qz,qz,qz,.string (bs []),.int .u64 0] 43) λ d i=>aU (qd d 0) 0 (iv s :: iv x :: iv y :: z.on [.string A,.int .u64 B]) i λ i=>CC 23 #[.pointer o,.string h] i λ i s=>∃ x y,i=.returned (.tuple #[.int .u64 x,iv y])/\cond (y !=0) (CC 19 #[] s λ i x=>∃ y,i=.returned (.bool y)/\K (.bool y) x) (∃ i x y,∃ z:I6,∃ A B,af s (qd d 0) 0 (iv i :: iv x :: iv y :: z.on [.string A,.int .u64 B])/\au s (.cells (iv i :: iv x :: iv y :: z.on [.string A,.int .u64 B]:List Value).toArray 43) λ d i=>bn prog (Builtin.append_ #[24,24] 24 #[.slice t u v,.slice (some (qd d 0)) 1 1]) i λ d i=>∃ s x y,d=(.slice s x y)/\r s x y C i)) (r t u v 0 q))))/\cond (p !=0) (m true n) (m (o).isNone n)))/\cond (l !=0) (g true j) (g (k).isNone j)))/\CC 18 #[.slice a b c] e λ a b=>∃ c,a=.returned (.bool c)/\cond (!c) (f true b) (f (decide (((h.size:Nat):Int)>(200:Int))) b)
theorem pL{a1 l1 c1 n1 n2 n3 n4 s1 b1 w K}(h:kE a1 l1 c1 n1 n2 n3 n4 s1 b1 w K):CP 7 #[.slice a1 l1 c1,.agg #[iv n1,iv n2,iv n3,iv n4],.string s1,.bool b1] w K:=an (aF [(6,[(33,.s .bool)]),(30,[(44,.s .bool)]),(126,[(55,.s .bool)]),(2042,[(13,.s .slice),(14,.s (.int .i64))]),(8169,[(13,.s .slice)]),(1023,[(13,.s .slice),(19,.s (.int .i64))])]) func7 (by kernel_rfl) (by kernel_rfl) h
def yw:List (List UInt8)->Int
 | []=>0
 | r :: l=>if (bX r).2=0 then yw l else (bX r).2
def tK(l:List (List UInt8)):List Ev:=l.map λ r=>(bX r).1
theorem yS:∀ (l m:List (List UInt8)),yw l=0->yw (l++m)=yw m
 | [],_,_=>rfl
 | r :: l,m,h=>by
  have h' : (if (bX r).2=0 then yw l else (bX r).2)=0:=h;show(if (bX r).2=0 then yw (l++m) else (bX r).2)=_
  split at h'
  ·rename_i g; rw[if_pos g]; exact yS l m h'
  ·rename_i g; exact absurd h' g
theorem VT{l:List (List UInt8)}{i:Nat}{r:List UInt8}(h:l[i]?=some r)(h0:yw (l.take i)=0)(hr:(bX r).2≠0):yw l=(bX r).2:=by
 have e:l=l.take i++(r :: l.drop (i+1)):=by
  obtain⟨hi,rfl⟩:=List.getElem?_eq_some_iff.1 h;rw[<- List.drop_eq_getElem_cons hi,List.take_append_drop]
 rw[e,yS _ _ h0];show(if (bX r).2=0 then _ else (bX r).2)=_;rw[if_neg hr]
theorem OH{l:List (List UInt8)}{r:List UInt8}(h0:yw l=0)(hr:(bX r).2=0):yw (l++[r])=0:=by
 rw[yS _ _ h0];show(if (bX r).2=0 then yw [] else (bX r).2)=0;rw[if_pos hr]; rfl
theorem Sl{w0 w:World}{x m dur:Nat}{es:List lB}{bL:Bool}{B:List aJ}(hl:es.length<=61)(o:Po)(s:St w0 w (Sep (dz x m es dur bL :: B))) :
  CP 24 #[pt x,o.v] w (λ r w'=>∃ M:Sm,r=.tuple #[.agg M.cells.toArray,iv (yw (es.map lB.s))]/\M.er=(if yw (es.map lB.s)=0 then XU (Er o (tK (es.map lB.s))) else fX) /\
   St w0 w' (Sep (held M.In :: dz x m es dur bL :: B))):=by
 refine Ay ?_;unfold xA;refine s.aB o.cells.toArray λ r1 w1 s1=>s1.aB fX.cells.toArray λ r2 w2 s2=>?_;have s2:St w0 w2 (Sep (ah r2 fX.cells.toArray 67 :: ah r1 o.cells.toArray 23 :: dz x m es dur bL :: B)):=s2;refine aq (Qq (s2.out 2 rfl)) ?_;rintro _ w3 ⟨rfl,rfl⟩;let rs:=es.map lB.s;have hrl:rs.length=es.length:=List.length_map _;refine⟨_,rfl,λ a l c n w' k=>∃ i:Nat,n=i/\i<=es.length/\k=es.length-i/\l=(tK (rs.take i)).length/\yw (rs.take i)=0/\St w0 w' (Sep (GA a c (tK (rs.take i)) :: ah r2 fX.cells.toArray 67 :: ah r1 o.cells.toArray 23 :: dz x m es dur bL :: B)),⟨es.length,0,rfl,by omega,rfl,rfl,rfl,s2.dW⟩,?_⟩;rintro w4 k a l c n ⟨i,rfl,hi,rfl,rfl,h0,s4⟩ -;have hlen:(tK (rs.take i)).length=i:=by unfold tK; rw[List.length_map,List.length_take]; omega
 have zin:∀ w,fX.In w:=λ w=>⟨λ i p h=>by simp[fX] at h,λ i p h=>by simp[fX] at h,λ x hx=>by simp[fX] at hx,λ i p h=>by simp[fX] at h⟩
 by_cases hlt:i<es.length
 ·have hr:es[i]?=some (es[i]'hlt):=gE hlt;generalize es[i]'hlt=r at hr;have hr' : rs[i]?=some r.s:=by show(es.map lB.s)[i]?=_; rw[List.getElem?_map,hr]; rfl
  refine cT (dT (by omega)) (aq (OJ (s4.out 3 rfl) hr) ?_);rintro _ w5 ⟨rfl,rfl⟩;refine⟨_,_,rfl,cF rfl (aq (Fg w5 r.s) ?_)⟩;rintro _ w6 ⟨rfl,c6⟩;have s6:=s4.quiet c6;refine⟨_,_,_,(bX r.s).1.want,_,_,_,rfl,s6.aB Yq λ r3 w7 s7=>s7.aE 0 rfl (bX r.s).1.cells rfl (Ev.one _) λ w8 s8=>?_⟩;have s8:St w0 w8 (Sep (ah r3 (bX r.s).1.cells.toArray 43 :: GA a c (tK (rs.take i)) :: ah r2 fX.cells.toArray 67 :: ah r1 o.cells.toArray 23 :: dz x m es dur bL :: B)):=s8
  by_cases hd:(bX r.s).2=0
  ·refine cF (by simpa using hd) ⟨_,_,_,(bX r.s).1.want,_,_,s8.cellsIn 0 rfl,cW (l:=tK (rs.take i)) Wa Ev.len (Ev.one _) (x:=(bX r.s).1) (s8.out 1 rfl) (by omega) (by omega) (λ a' c' w' s9=>?_) rfl⟩;have s9:St w0 w' (Sep (ah r3 (bX r.s).1.cells.toArray 43 :: GA a' c' (tK (rs.take i)++[(bX r.s).1]) :: ah r2 fX.cells.toArray 67 :: ah r1 o.cells.toArray 23 :: dz x m es dur bL :: B)):=s9.back (i:=1) (by simp);have et:tK (rs.take (i+1))=tK (rs.take i)++[(bX r.s).1]:=by rw[aO hr']; unfold tK; rw[List.map_append]; rfl
   refine⟨es.length-(i+1),by omega,i+1,aH ⟨by omega,by omega⟩,by omega,rfl,by rw[et],?_,?_⟩
   ·rw[aO hr']; exact OH h0 hd
   ·rw[et]; exact s9.second
  ·have he:yw rs=(bX r.s).2:=VT hr' h0 hd;refine cT (by simpa using hd) (s8.aE 2 rfl fX.cells rfl (Sm.one _) λ w9 s9=>⟨_,_,_,_,_,_,_,_,_,_,_,_,_,_,_,_,_,_,_,_,_,s9.cellsIn 2 rfl,fX,?_,?_,?_⟩)
   ·show _=Value.tuple #[_,iv (yw rs)]; rw[he]; rfl
   ·show _=if yw rs=0 then _ else _
    rw[if_neg (by rw[he]; exact hd)]; rfl
   ·have s10:St w0 w9 (Sep (_ :: _ :: _ :: _ :: dz x m es dur bL :: B)):=s9;exact St.sg s10.second.second.second.second zin
 ·obtain rfl:i=es.length:=by omega
  have et:rs.take es.length=rs:=by rw[<- hrl,List.take_length]
  rw[et] at h0 s4 hlen;refine cF (dF (by omega)) ⟨_,_,_,_,s4.cellsIn 2 rfl,?_⟩;rw[et];refine aq (BS o ((s4.out 0 rfl).rd Ev.len) (λ e he=>?_) (by omega)) ?_
  ·obtain⟨r,_,rfl⟩:=List.mem_map.1 he;exact Ji r
  rintro v w5 ⟨M,rfl,hM,k5⟩;have s5:St w0 w5 (Sep (held M.In :: GA a c (tK rs) :: ah r2 fX.cells.toArray 67 :: ah r1 o.cells.toArray 23 :: dz x m es dur bL :: B)):=s4.and k5;refine⟨_,_,_,_,_,_,_,_,_,_,_,_,_,_,_,_,_,_,_,_,_,rfl,s5.aE 2 rfl M.cells rfl (Sm.one _) λ w6 s6=>⟨_,_,_,_,_,_,_,_,_,_,_,_,_,_,_,_,_,_,_,_,_,s6.cellsIn 2 rfl,M,?_,?_,?_⟩⟩
  ·show _=Value.tuple #[_,iv (yw rs)]; rw[h0]; rfl
  ·show _=if yw rs=0 then _ else _
   rw[if_pos h0]; exact hM
  ·have s7:St w0 w6 (Sep (held M.In :: _ :: _ :: _ :: dz x m es dur bL :: B)):=s6;exact s7.CD.second.CD.second.CD.second
def oT(l:List Ev):List Ev:=l.filter λ e=>decide (cQ e=0)
theorem NP(l:List Ev)(e:Ev):oT (l++[e])=if cQ e=0 then oT l++[e] else oT l:=by
 unfold oT;rw[List.filter_append]
 by_cases h:cQ e=0
 ·rw[if_pos h]; simp[h]
 ·rw[if_neg h]; simp[h]
theorem Rx(l:List Ev):(oT l).length<=l.length:=List.length_filter_le _ _
theorem Vp{l:List Ev}(hi:∀ e∈l,e.In):yw ((oT l).map aW)=0/\tK ((oT l).map aW)=oT l:=by
 have h:∀ e∈oT l,bX (aW e)=(e,0):=λ e he=>by
  obtain⟨h1,h2⟩:=List.mem_filter.1 he;exact Qu (of_decide_eq_true h2) (hi e h1)
 generalize oT l=k at h
 induction k with
 | nil=>exact⟨rfl,rfl⟩
 | cons e k ih =>
  obtain⟨h1,h2⟩:=ih λ e' he'=>h e' (by simp[he']);have h3:=h e (by simp);refine⟨?_,?_⟩
  ·show(if (bX (aW e)).2=0 then yw (k.map aW) else _)=0;rw[h3,if_pos rfl]; exact h1
  ·show(bX (aW e)).1 :: tK (k.map aW)=_;rw[h3,h2]
theorem JI{l:List Ev}:∀ r∈(oT l).map aW,r.length<=4000:=λ r hr=>by
 obtain⟨e,he,rfl⟩:=List.mem_map.1 hr;have h:=of_decide_eq_true (List.mem_filter.1 he).2;unfold cQ at h
 split at h
 ·cases h
 ·split at h
  ·cases h
  ·split at h
   ·cases h
   ·rename_i g; omega
theorem YX{rs:List (List UInt8)}(h4:∀ x∈rs,x.length<=4000)(hn:rs.length<=61):((bh 0 rs).length:Int)<=262144:=by
 have h1:=B4 rs 0 4000 h4;have h2:(4000+18)*rs.length<=(4000+18)*61:=Nat.mul_le_mul_left _ hn;omega
set_option maxHeartbeats 4000000 in
theorem Si(aw:MB){w:World}{a:OA}{c:Nat}{l:List Ev}(o:Po)(odd:List UInt8)(add:Bool)(h:dx 11 Ev.cells w a l)(hi:∀ e∈l,e.In) :
  CP 7 #[.slice a l.length c,o.v,sv odd,.bool add] w (λ r w'=>r=.bool true/\aD w w' []):=by
 refine pL ?_;unfold kE;refine(St.start w).one.aB o.cells.toArray λ r1 w1 s1=>?_;have fin:∀ {w2:World},aD w w2 []->CC 19 #[] w2 (λ e w'=>∃ b,e=.returned (.bool b)/\(Value.bool b=.bool true/\aD w w' [])):=λ hc=>aq (aw _) λ v w' ⟨h1,h2⟩=>by subst h1; exact⟨true,rfl,rfl,hc.trans h2 (by simp)⟩
 refine⟨λ b w'=>(b=false->l.length<=60/\odd.length<=200)/\w' = w1,?_,aq (W5 (h.aC s1.aC)) ?_⟩
 rotate_left
 ·rintro v w2 ⟨b,rfl,rfl,hf⟩;refine⟨b,rfl,?_⟩
  cases b with
  | false=>exact cT rfl ⟨λ h=>(by cases h),rfl⟩
  | true =>
   refine cF rfl ⟨λ hb=>⟨hf rfl,?_⟩,rfl⟩;have:=of_decide_eq_false hb;rw[gZ] at this; omega
 rintro w2 b ⟨hb,rfl⟩ -
 cases b with
 | true=>exact cT rfl (fin s1.aC)
 | false =>
 obtain⟨hl,ho⟩:=hb rfl;refine cF rfl (aq (VD s1 (n:=262144) (by omega)) ?_);rintro _ w3 ⟨m,rfl,s3⟩;refine⟨_,_,rfl,λ b w'=>b=false/\w' = w3,?_,cF rfl ⟨rfl,rfl⟩⟩;rintro w4 b ⟨rfl,rfl⟩ -;refine cF rfl (aq (Rw (s:=ms0 262144) s3.swap (TT (by omega)) rfl rfl) ?_);rintro _ w5 ⟨x,rfl,s5⟩;have e0:dU (ms0 262144).b=[]:=by rfl
 have e1:VI (ms0 262144)=ms0 262144:=by rfl
 rw[e0,e1] at s5;refine⟨_,_,rfl,λ b w'=>b=false/\w' = w5,?_,cF rfl ⟨rfl,rfl⟩⟩;rintro w6 b ⟨rfl,rfl⟩ -;have s6:St w w6 (Sep [dz x m [] 0 false,dA m (ms0 262144),ah r1 o.cells.toArray 23,emp]):=s5;refine cF rfl ⟨λ a2 l2 c2 n w' k=>∃ (i:Nat) (es:List lB) (t:MS),n=i/\i<=l.length/\k=l.length-i/\l2=(oT (l.take i)).length/\Good es ((oT (l.take i)).map aW) t 262144 /\
  St w w' (Sep [GA a2 c2 (oT (l.take i)),dz x m es 0 false,dA m t,ah r1 o.cells.toArray 23,emp]),⟨l.length,0,[],ms0 262144,rfl,by omega,rfl,rfl,Good.init _ (by omega),s6.dW⟩,?_⟩
 rintro w7 k a2 l2 c2 n ⟨i,es,t,rfl,hi2,rfl,rfl,hg,s7⟩ -;have hkl:(oT (l.take i)).length<=i:=Nat.le_trans (Rx _) (by rw[List.length_take]; omega);have hes:es.length=(oT (l.take i)).length:=by rw[hg.has.len,List.length_map]
 have app:∀ {r:List UInt8} {w' : World} {A:aJ},r.length<=4000->St w w' (Sep [A,dz x m es 0 false,dA m t,ah r1 o.cells.toArray 23,emp]) ->
   CC 23 #[pt x,sv r] w' (xK λ v w''=>(∃ hd:Int,v=.tuple #[.int .u64 hd,iv 0])/\∃ es' t',Good es' ((oT (l.take i)).map aW++[r]) t' 262144 /\
    St w w'' (Sep [A,dz x m es' 0 false,dA m t',ah r1 o.cells.toArray 23,emp])):=λ {r w' A} h4 s=>by
  have hfl:((bh 0 ((oT (l.take i)).map aW++[r])).length:Int)<=262144:=YX (λ y hy=>(List.mem_append.1 hy).elim (JI y) λ e=>by rw[List.mem_singleton.1 e]; exact h4) (by simp; omega);obtain⟨g1,g2,g3⟩:=hg.snoc h4 hfl;refine aq (My (s.aA [1,2,0,3,4]) hg.ok (by omega) r (by omega) (.inl g3)) ?_;rw[g1];rintro _ w'' ⟨rfl,s'⟩;have s' : St w w'' (Sep [dz x m _ 0 false,dA m _,A,ah r1 o.cells.toArray 23,emp]):=s';exact⟨_,rfl,⟨_,rfl⟩,_,_,g2,s'.aA [2,0,1,3,4]⟩
 by_cases hlt:i<l.length
 ·have he:l[i]?=some (l[i]'hlt):=gE hlt;generalize l[i]'hlt=e at he;have hem:=List.mem_of_getElem? he;have et:oT (l.take (i+1))=if cQ e=0 then oT (l.take i)++[e] else oT (l.take i):=by rw[aO he,NP]
  obtain⟨q,rfl,hc⟩:=(h.aC s7.aC).at he;refine cT (dT (by omega)) ⟨λ a3 l3 c3 w'=>l3=(oT (l.take (i+1))).length/\∃ es' t',Good es' ((oT (l.take (i+1))).map aW) t' 262144/\St w w' (Sep [GA a3 c3 (oT (l.take (i+1))),dz x m es' 0 false,dA m t',ah r1 o.cells.toArray 23,emp]),?_,?_⟩
  ·rintro w8 a3 l3 c3 ⟨rfl,es',t',g8,s8⟩ -;exact⟨l.length-(i+1),by omega,i+1,es',t',aH ⟨by omega,by omega⟩,by omega,rfl,rfl,g8,s8⟩
  ·refine⟨by omega,by omega,_,_,_,e.want,_,_,hc,aq (Fj w7 (hi e hem)) ?_⟩;rintro v w8 ⟨rfl,c8⟩;have s8:=s7.quiet c8;refine⟨_,_,rfl,?_⟩
   by_cases g:cQ e=0
   ·rw[if_pos g] at et ⊢;rw[et];refine cF (by simpa using g) (aq (app (by
     have:=JI (l:=[e]) (aW e) (by simp[oT,g]);exact this) s8) ?_)
    rintro _ w9 ⟨⟨hd,rfl⟩,es',t',g9,s9⟩;have hc9:af w9 (Addr.add q (i*11)) 0 e.cells:=by
     obtain⟨q',hq',hc'⟩:=(h.aC s9.aC).at he
     cases hq'; exact hc'
    refine⟨_,_,rfl,cF rfl ⟨by omega,by omega,_,_,_,e.want,_,_,hc9,cW Wa Ev.len e.one (x:=e) (s9.out 0 rfl) (by omega) (by omega) (λ a' c' w' s10=>?_) rfl⟩⟩;refine⟨rfl,es',t',by rw[List.map_append]; exact g9,?_⟩;exact s10
   ·rw[if_neg g] at et ⊢;rw[et];exact cT (by simpa using g) ⟨rfl,es,t,hg,s8⟩
 ·obtain rfl:i=l.length:=by omega
  rw[List.take_length] at hg s7 hkl hes app ⊢;refine cF (dF (by omega)) ?_;obtain⟨d1,d2⟩:=Vp hi;have hk61:∀ r:List UInt8,((oT l).map aW++[r]).length<=61:=λ r=>by simp; omega
  refine⟨λ a5 l5 c5 n w'=>∃ (rs:List (List UInt8)) (es' : List lB) (t' : MS),l5=(tK rs).length/\n=yw rs/\rs.length<=61/\Good es' rs t' 262144/\St w w' (Sep [GA a5 c5 (tK rs),dz x m es' 0 false,dA m t',ah r1 o.cells.toArray 23,emp]),?_,?_⟩
  ·rintro w8 a5 l5 c5 n ⟨rs,es',t',rfl,rfl,hrl,g8,s8⟩ -;have s8' : St w w8 (Sep [dz x m es' 0 false,GA a5 c5 (tK rs),ah r1 o.cells.toArray 23,emp]):=s8.aA [1,0,3,4];have hes' : es'.length=rs.length:=g8.has.len;refine⟨_,_,_,_,s8.cellsIn 3 rfl,aq (Sl (by omega) o s8') ?_⟩;rw[g8.has.s];rintro _ w9 ⟨M,rfl,hM,s9⟩;refine⟨_,_,_,_,_,_,_,_,_,_,_,_,_,_,_,_,_,_,_,_,_,_,rfl,s9.aB fX.cells.toArray λ r3 w10 s10=>s10.aE 0 rfl M.cells rfl (Sm.one _) λ w11 s11=>?_⟩;have s11:St w w11 (Sep [ah r3 M.cells.toArray 67,held M.In,dz x m es' 0 false,GA a5 c5 (tK rs),ah r1 o.cells.toArray 23,emp]):=s11;have hin:∀ e∈tK rs,e.In:=λ e he=>by
    obtain⟨r,_,rfl⟩:=List.mem_map.1 he;exact Ji r
   by_cases hE:yw rs=0
   ·rw[if_pos hE] at hM;have IV:=OS o (tK rs) hin;have hll:(tK rs).length<=61:=by unfold tK; rw[List.length_map]; exact hrl
    obtain⟨q1,q2,q3,q4⟩:=AW IV hll hM;have s12:=s11.quiet (aD.drew w11 []);refine cF (by simpa using hE) (cT (by simpa using hE) ⟨_,_,_,_,_,_,_,_,_,_,_,_,_,_,_,_,_,_,_,_,_,s12.cellsIn 0 rfl,_,_,_,_,s12.cellsIn 4 rfl,aq (Eb (s12.bB 1 rfl) q2) ?_⟩);rintro _ w12 ⟨ba,bc,rfl,k12⟩;have s13:St w w12 (Sep [held λ w''=>dx 6 Bs.cells w'' ba M.bs,ah r3 M.cells.toArray 67,held M.In,dz x m es' 0 false,GA a5 c5 (tK rs),ah r1 o.cells.toArray 23,emp]):=s12.and k12;refine⟨_,_,_,_,_,_,_,_,_,_,_,_,_,_,_,_,_,_,_,_,_,rfl,s13.cellsIn 5 rfl,aq (BS o ((s13.out 4 rfl).rd Ev.len) hin hll) ?_⟩;rintro _ w13 ⟨M2,rfl,hM2,k13⟩;have s14:St w w13 (Sep [held M2.In,held λ w''=>dx 6 Bs.cells w'' ba M.bs,ah r3 M.cells.toArray 67,held M.In,dz x m es' 0 false,GA a5 c5 (tK rs),ah r1 o.cells.toArray 23,emp]):=s13.and k13;refine⟨_,_,_,_,_,_,_,_,_,_,_,_,_,_,_,_,_,_,_,_,_,rfl,aq (Eb (s14.bB 0 rfl) (AW IV hll hM2).2.1) ?_⟩;rintro _ w14 ⟨ba2,bc2,rfl,k14⟩;have s15:St w w14 (Sep [held λ w''=>dx 6 Bs.cells w'' ba2 M2.bs,held M2.In,held λ w''=>dx 6 Bs.cells w'' ba M.bs,ah r3 M.cells.toArray 67,held M.In,dz x m es' 0 false,GA a5 c5 (tK rs),ah r1 o.cells.toArray 23,emp]):=s14.and k14;have i2:({ M2 with ba:=ba2,bc:=bc2 }:Sm).In w14:=⟨(s15.bB 1 rfl).ps,s15.bB 0 rfl,(s15.bB 1 rfl).bi,(s15.bB 1 rfl).rr⟩;have i1:({ M with ba:=ba,bc:=bc }:Sm).In w14:=⟨(s15.bB 4 rfl).ps,s15.bB 2 rfl,(s15.bB 4 rfl).bi,(s15.bB 4 rfl).rr⟩;refine⟨_,_,_,_,_,_,_,_,_,_,_,_,_,_,_,_,_,_,_,_,_,rfl,aq (OV i1 i2 (by show M.er=M2.er; rw[hM,hM2]) q1 q2 q3 q4) ?_⟩;rintro _ w15 ⟨rfl,c15⟩;exact⟨_,rfl,cT rfl (fin (s15.quiet c15).aC)⟩
   ·rw[if_neg hE] at hM;refine cT (by simpa using hE) (cT (by simp) ⟨_,_,_,_,_,_,_,_,_,_,_,_,_,_,_,_,_,_,_,_,_,s11.cellsIn 0 rfl,?_⟩);have hM0:M.bs=[]:=by
     have h1:M.er.bs=fX.bs:=by rw[hM]
     have h2:M.bs.map Bs.er=[]:=h1;simpa using h2
    refine aq (Eb (s11.bB 1 rfl) (by rw[hM0]; decide)) ?_;rintro _ w12 ⟨ba,bc,rfl,k12⟩;have s13:St w w12 (Sep [held λ w''=>dx 6 Bs.cells w'' ba M.bs,ah r3 M.cells.toArray 67,held M.In,dz x m es' 0 false,GA a5 c5 (tK rs),ah r1 o.cells.toArray 23,emp]):=s11.and k12;have i1:({ M with ba:=ba,bc:=bc }:Sm).In w12:=⟨(s13.bB 2 rfl).ps,s13.bB 0 rfl,(s13.bB 2 rfl).bi,(s13.bB 2 rfl).rr⟩;have iz:fX.In w12:=⟨λ i p h=>by simp[fX] at h,λ i p h=>by simp[fX] at h,λ x hx=>by simp[fX] at hx,λ i p h=>by simp[fX] at h⟩;have p0:M.ps=[]:=show M.er.ps=[] by rw[hM]; rfl
    have p1:M.rr=[]:=show M.er.rr=[] by rw[hM]; rfl
    have key:=OV i1 iz (by show M.er=fX.er; rw[hM]; rfl) (by show M.ps.length<=_; rw[p0]; decide) (by show M.bs.length<=_; rw[hM0]; decide) (by show M.rr.length<=_; rw[p1]; decide) (by show ∀ x∈M.bs,_; rw[hM0]; intro x hx; cases hx);have hz:fX.cells.toArray = #[iv 0,iv 0,iv 0,iv 0,iv 0,iv 0,iv 0,iv 0,iv 0,iv 0,iv 0,iv 0,.slice none 0 0,.slice none 0 0,.slice none 0 0]:=rfl;rw[hz] at key;refine⟨_,_,_,_,_,_,_,_,_,_,_,_,_,_,_,_,_,_,_,_,_,rfl,aq key ?_⟩;rintro _ w15 ⟨rfl,c15⟩;exact⟨_,rfl,cT rfl (fin (s13.quiet c15).aC)⟩
  ·cases add with
   | false=>exact cF rfl ⟨(oT l).map aW,es,t,by rw[d2],d1.symm,by simp; omega,hg,by rw[d2]; exact s7⟩
   | true =>
    refine cT rfl (aq (Fg w7 odd) ?_);rintro _ w8 ⟨rfl,c8⟩;have s8:=s7.quiet c8;refine⟨_,_,_,(bX odd).1.want,_,_,_,rfl,s8.aB Yq λ r4 w9 s9=>s9.aE 0 rfl (bX odd).1.cells rfl (Ev.one _) λ w10 s10=>?_⟩;have s10:St w w10 (Sep [ah r4 (bX odd).1.cells.toArray 43,GA a2 c2 (oT l),dz x m es 0 false,dA m t,ah r1 o.cells.toArray 23,emp]):=s10;have s11:St w w10 (Sep [Sep [ah r4 (bX odd).1.cells.toArray 43,GA a2 c2 (oT l)],dz x m es 0 false,dA m t,ah r1 o.cells.toArray 23,emp]):=s10.split [_,_];refine aq (app (by omega) s11) ?_;rintro _ w11 ⟨⟨hd,rfl⟩,es',t',g11,s12⟩;have s12:St w w11 (Sep [ah r4 (bX odd).1.cells.toArray 43,GA a2 c2 (oT l),dz x m es' 0 false,dA m t',ah r1 o.cells.toArray 23,emp]):=St.cat s12;refine⟨_,_,rfl,cF rfl ⟨_,_,_,(bX odd).1.want,_,_,s12.cellsIn 0 rfl,cW Wa Ev.len (Ev.one _) (x:=(bX odd).1) (s12.out 1 rfl) (by omega) (by omega) (λ a' c' w' s13=>?_) rfl⟩⟩;have s13:St w w' (Sep (ah r4 (bX odd).1.cells.toArray 43 :: GA a' c' (oT l++[(bX odd).1]) :: [dz x m es' 0 false,dA m t',ah r1 o.cells.toArray 23,emp])):=s13.back (i:=1) (by show 1<6; decide);have eL:tK ((oT l).map aW++[odd])=oT l++[(bX odd).1]:=by
     have:tK ((oT l).map aW++[odd])=tK ((oT l).map aW)++[(bX odd).1]:=by unfold tK; rw[List.map_append]; rfl
     rw[this,d2]
    have eE:yw ((oT l).map aW++[odd])=(bX odd).2:=by
     rw[yS _ _ d1];show(if (bX odd).2=0 then yw [] else (bX odd).2)=_
     split
     ·rename_i g; rw[g]; rfl
     ·rfl
    exact⟨_,es',t',by rw[eL],eE.symm,hk61 odd,g11,by rw[eL]; exact s13.second⟩
end Go.Proofs.YtpihmghnbplohaaGreatDoor
namespace Go.Gx
open Go Go.Vc
inductive Tr (α:Type) where
 | leaf (l:List (Nat×α))
 | node (a b:Tr α)
def look{α:Type}(l:List (Nat×α)):Nat->Option α :=
 List.rec (motive:=λ _=>Nat->Option α) (λ _=>none) (λ p _ ih i=>Bool.rec (motive:=λ _=>Option α) (ih i) (some p.2) (Nat.beq p.1 i)) l
def Lf{α:Type}(l:List (Nat×α)):Nat->α->List (Nat×α) :=
 List.rec (motive:=λ _=>Nat->α->List (Nat×α)) (λ i v=>[(i,v)]) (λ p l ih i v=>Bool.rec (motive:=λ _=>List (Nat×α)) (Bool.rec (motive:=λ _=>List (Nat×α)) (p :: ih i v) ((i,v) :: p :: l) (Nat.ble i p.1)) ((i,v) :: l) (Nat.beq p.1 i)) l
def Tr.get{α:Type}(t:Tr α):Nat->Option α :=
 Tr.rec (motive:=λ _=>Nat->Option α) (λ l=>look l) (λ _ _ iha ihb i=>Bool.rec (motive:=λ _=>Option α) (ihb (Nat.div i 2)) (iha (Nat.div i 2)) (Nat.beq (Nat.mod i 2) 0)) t
def Tr.put{α:Type}(t:Tr α):Nat->α->Tr α :=
 Tr.rec (motive:=λ _=>Nat->α->Tr α) (λ l i v=>.leaf (Lf l i v)) (λ a b iha ihb i v=>Bool.rec (motive:=λ _=>Tr α) (.node a (ihb (Nat.div i 2) v)) (.node (iha (Nat.div i 2) v) b) (Nat.beq (Nat.mod i 2) 0)) t
theorem look_nil{α:Type}(i:Nat):look ([]:List (Nat×α)) i=none:=rfl
theorem jw{α:Type}(p:Nat×α)(l:List (Nat×α))(i:Nat):look (p :: l) i=cond (Nat.beq p.1 i) (some p.2) (look l i):=by
 show Bool.rec (motive:=λ _=>Option α) (look l i) (some p.2) (Nat.beq p.1 i)=_
 cases Nat.beq p.1 i<;>rfl
theorem NV{α:Type}(i:Nat)(v:α):Lf [] i v=[(i,v)]:=rfl
theorem Lg{α:Type}(p:Nat×α)(l:List (Nat×α))(i:Nat)(v:α):Lf (p :: l) i v=cond (Nat.beq p.1 i) ((i,v) :: l) (cond (Nat.ble i p.1) ((i,v) :: p :: l) (p :: Lf l i v)):=by
 show Bool.rec (motive:=λ _=>List (Nat×α)) (Bool.rec (motive:=λ _=>List (Nat×α)) (p :: Lf l i v) ((i,v) :: p :: l) (Nat.ble i p.1)) ((i,v) :: l) (Nat.beq p.1 i)=_
 cases Nat.beq p.1 i<;>cases Nat.ble i p.1<;>rfl
theorem Tr.pI{α:Type}(a b:Tr α)(i:Nat):(Tr.node a b).get i=cond (Nat.beq (Nat.mod i 2) 0) (a.get (Nat.div i 2)) (b.get (Nat.div i 2)):=by
 show Bool.rec (motive:=λ _=>Option α) (b.get (Nat.div i 2)) (a.get (Nat.div i 2)) (Nat.beq (Nat.mod i 2) 0)=_
 cases Nat.beq (Nat.mod i 2) 0<;>rfl
theorem Tr.OE{α:Type}(a b:Tr α)(i:Nat)(v:α):(Tr.node a b).put i v=cond (Nat.beq (Nat.mod i 2) 0) (.node (a.put (Nat.div i 2) v) b) (.node a (b.put (Nat.div i 2) v)):=by
 show Bool.rec (motive:=λ _=>Tr α) (.node a (b.put (Nat.div i 2) v)) (.node (a.put (Nat.div i 2) v) b) (Nat.beq (Nat.mod i 2) 0)=_
 cases Nat.beq (Nat.mod i 2) 0<;>rfl
def Tr.full{α:Type}:Nat->Tr α
 | 0=>.leaf []
 | n+1=>.node (Tr.full n) (Tr.full n)
theorem beq_iff{a b:Nat}:Nat.beq a b=true<->a=b:=⟨Nat.eq_of_beq_eq_true,λ h=>h▸Nat.beq_refl a⟩
theorem Di{a b:Nat}(h:a≠b):Nat.beq a b=false:=by
 cases hb:Nat.beq a b with
 | false=>rfl
 | true=>exact absurd (beq_iff.1 hb) h
theorem Ce{α:Type}:∀ (l:List (Nat×α)) (i:Nat) (v:α) (j:Nat),look (Lf l i v) j=if j=i then some v else look l j
 | [],i,v,j=>by
  rw[NV,jw]
  by_cases h:j=i
  ·subst h; simp[Nat.beq_refl]
  ·simp[look_nil,h,Di (Ne.symm h)]
 | p :: l,i,v,j=>by
  rw[Lg]
  cases hb:Nat.beq p.1 i with
  | true =>
   have:=beq_iff.1 hb
   by_cases h:j=i
   ·subst h; simp[jw,Nat.beq_refl]
   ·simp[jw,h,Di (Ne.symm h),this]
  | false =>
   simp only[cond_false]
   cases Nat.ble i p.1 with
   | true =>
    by_cases h:j=i
    ·subst h; simp[jw,Nat.beq_refl]
    ·simp[jw,h,Di (Ne.symm h)]
   | false =>
    simp only[cond_false,jw];rw[Ce l i v j]
    by_cases h:j=i
    ·subst h; simp[hb]
    ·simp[h]
theorem Jz{i j:Nat}(hm:Nat.mod j 2=Nat.mod i 2):Nat.div j 2=Nat.div i 2<->j=i:=by
 refine⟨λ h=>?_,λ h=>by rw[h]⟩;have h1:j%2=i%2:=hm;have h2:j / 2=i / 2:=h;omega
theorem TN(i:Nat):Nat.mod i 2=0\/Nat.mod i 2=1:=by
 have:i%2=0\/i%2=1:=by omega
 exact this
theorem bY{α:Type}:∀ (t:Tr α) (i:Nat) (v:α) (j:Nat),(t.put i v).get j=if j=i then some v else t.get j
 | .leaf l,i,v,j=>Ce l i v j
 | .node a b,i,v,j=>by
  rw[Tr.OE];rcases TN i with hi|hi<;>rcases TN j with hj|hj
  ·have e:Nat.beq (Nat.mod i 2) 0=true:=beq_iff.2 hi;have e' : Nat.beq (Nat.mod j 2) 0=true:=beq_iff.2 hj;rw[e];simp only[cond_true,Tr.pI,e',bY a]
   by_cases h:j=i
   ·simp[h]
   ·have:=(not_congr (Jz (hj.trans hi.symm))).2 h;simp[h,this]
  ·have e:Nat.beq (Nat.mod i 2) 0=true:=beq_iff.2 hi;have e' : Nat.beq (Nat.mod j 2) 0=false:=by rw[hj]; rfl
   rw[e];have h:j≠i:=λ h=>by rw[h,hi] at hj; cases hj
   simp[Tr.pI,e',h]
  ·have e:Nat.beq (Nat.mod i 2) 0=false:=by rw[hi]; rfl
   have e' : Nat.beq (Nat.mod j 2) 0=true:=beq_iff.2 hj;rw[e];have h:j≠i:=λ h=>by rw[h,hi] at hj; cases hj
   simp[Tr.pI,e',h]
  ·have e:Nat.beq (Nat.mod i 2) 0=false:=by rw[hi]; rfl
   have e' : Nat.beq (Nat.mod j 2) 0=false:=by rw[hj]; rfl
   rw[e];simp only[cond_false,Tr.pI,e',bY b]
   by_cases h:j=i
   ·simp[h]
   ·have:=(not_congr (Jz (hj.trans hi.symm))).2 h;simp[h,this]
theorem uz{α:Type}:∀ (n i:Nat),(Tr.full n:Tr α).get i=none
 | 0,_=>rfl
 | n+1,i=>by
  unfold Tr.full;rw[Tr.pI,uz n]
  cases Nat.beq (Nat.mod i 2) 0<;>rfl
inductive AV where
 | int (k:IntKind) (n:Int)
 | bool (b:Bool)
 | str (l:List UInt8)
 | nilp
 | ptr (i o:Nat)
 | nils
 | sli (i o l z:Nat)
 | nili
 | iface (T:TypeId) (v:AV)
 | nilf
 | fn (f:FuncId) (x y:List AV)
 | yld (i:Nat)
 | agg (cs:List AV)
 | tup (vs:List AV)
structure Loc where
 b:Nat
 esz:Nat
 tot:Nat
abbrev Names:=Nat->Option Loc
mutual
def rv(ρ:Names):AV->Option Value
 | .int k n=>some (.int k n)
 | .bool b=>some (.bool b)
 | .str l=>some (.string ⟨l.toArray⟩)
 | .nilp=>some (.pointer none)
 | .ptr i o=>(ρ i).map λ L=>.pointer (some ⟨L.b,o,none⟩)
 | .nils=>some (.slice none 0 0)
 | .sli i o l z=>(ρ i).bind λ L=>if o+l<=L.tot/\L.esz=z then some (.slice (some ⟨L.b,o*z,none⟩) l (L.tot-o)) else none
 | .nili=>some .nilIface
 | .iface T v=>(rv ρ v).map (.iface T)
 | .nilf=>some .nilFunc
 | .fn f x y=>match eN ρ x,eN ρ y with
  | some xs,some ys=>some (.func (.func f) xs.toArray ys.toArray)
  | _,_=>none
 | .yld i=>(ρ i).map λ L=>.func (.yield L.b) #[] #[]
 | .agg cs=>(eN ρ cs).map λ l=>.agg l.toArray
 | .tup vs=>(eN ρ vs).map λ l=>.tuple l.toArray
def eN(ρ:Names):List AV->Option (List Value)
 | []=>some []
 | a :: l=>match rv ρ a,eN ρ l with
  | some v,some vs=>some (v :: vs)
  | _,_=>none
end
def Ext(ρ σ:Names):Prop:=∀ i L,ρ i=some L->σ i=some L
theorem Ext.refl(ρ:Names):Ext ρ ρ:=λ _ _ h=>h
theorem Ext.trans{ρ σ τ:Names}(h:Ext ρ σ)(k:Ext σ τ):Ext ρ τ:=λ i L hi=>k i L (h i L hi)
mutual
theorem Es{ρ σ:Names}(hx:Ext ρ σ):∀ {a:AV} {v:Value},rv ρ a=some v->rv σ a=some v
 | .int _ _,_,h=>h
 | .bool _,_,h=>h
 | .str _,_,h=>h
 | .nilp,_,h=>h
 | .nils,_,h=>h
 | .nili,_,h=>h
 | .nilf,_,h=>h
 | .ptr i o,v,h=>by
  simp only[rv,Option.map_eq_some_iff] at h ⊢;obtain⟨L,hL,rfl⟩:=h;exact⟨L,hx _ _ hL,rfl⟩
 | .yld i,v,h=>by
  simp only[rv,Option.map_eq_some_iff] at h ⊢;obtain⟨L,hL,rfl⟩:=h;exact⟨L,hx _ _ hL,rfl⟩
 | .sli i o l z,v,h=>by
  simp only[rv,Option.bind_eq_some_iff] at h ⊢;obtain⟨L,hL,h⟩:=h;exact⟨L,hx _ _ hL,h⟩
 | .iface T a,v,h=>by
  simp only[rv,Option.map_eq_some_iff] at h ⊢;obtain⟨u,hu,rfl⟩:=h;exact⟨u,Es hx hu,rfl⟩
 | .fn f x y,v,h=>by
  simp only[rv] at h ⊢
  cases hx' : eN ρ x with
  | none=>rw[hx'] at h; cases h
  | some xs =>
   cases hy:eN ρ y with
   | none=>rw[hx',hy] at h; cases h
   | some ys =>
    rw[hx',hy] at h;rw[cN hx hx',cN hx hy];exact h
 | .agg cs,v,h=>by
  simp only[rv,Option.map_eq_some_iff] at h ⊢;obtain⟨l,hl,rfl⟩:=h;exact⟨l,cN hx hl,rfl⟩
 | .tup cs,v,h=>by
  simp only[rv,Option.map_eq_some_iff] at h ⊢;obtain⟨l,hl,rfl⟩:=h;exact⟨l,cN hx hl,rfl⟩
theorem cN{ρ σ:Names}(hx:Ext ρ σ):∀ {l:List AV} {vs:List Value},eN ρ l=some vs->eN σ l=some vs
 | [],_,h=>h
 | a :: l,vs,h=>by
  simp only[eN] at h ⊢
  cases ha:rv ρ a with
  | none=>rw[ha] at h; cases h
  | some v =>
   cases hl:eN ρ l with
   | none=>rw[ha,hl] at h; cases h
   | some us =>
    rw[ha,hl] at h;rw[Es hx ha,cN hx hl];exact h
end
theorem aP{ρ:Names}{a:AV}{l:List AV}{vs:List Value}(h:eN ρ (a :: l)=some vs):∃ v us,vs=v :: us/\rv ρ a=some v/\eN ρ l=some us:=by
 simp only[eN] at h
 cases ha:rv ρ a with
 | none=>rw[ha] at h; cases h
 | some v =>
  cases hl:eN ρ l with
  | none=>rw[ha,hl] at h; cases h
  | some us=>rw[ha,hl] at h; cases h; exact⟨v,us,rfl,rfl,rfl⟩
theorem fH{ρ:Names}{a:AV}{l:List AV}{v:Value}{us:List Value}(h1:rv ρ a=some v)(h2:eN ρ l=some us):eN ρ (a :: l)=some (v :: us):=by
 simp only[eN,h1,h2]
theorem bC{ρ:Names}:∀ {l:List AV} {vs:List Value},eN ρ l=some vs->vs.length=l.length
 | [],_,h=>by cases h; rfl
 | a :: l,vs,h=>by
  obtain⟨v,us,rfl,_,h2⟩:=aP h;simp[bC h2]
theorem uW{ρ:Names}:∀ {l:List AV} {vs:List Value} {i:Nat} {a:AV},eN ρ l=some vs->l[i]?=some a->∃ v,vs[i]?=some v/\rv ρ a=some v
 | [],_,_,_,_,h=>by simp at h
 | b :: l,vs,i,a,h,hi=>by
  obtain⟨v,us,rfl,h1,h2⟩:=aP h
  cases i with
  | zero=>simp at hi; subst hi; exact⟨v,rfl,h1⟩
  | succ i =>
   have hi' : l[i]?=some a:=by simpa using hi
   obtain⟨x,hx,hr⟩:=uW h2 hi';exact⟨x,by simpa using hx,hr⟩
theorem kL{ρ:Names}:∀ {l m:List AV} {vs us:List Value},eN ρ l=some vs->eN ρ m=some us->eN ρ (l++m)=some (vs++us)
 | [],_,_,_,h,k=>by cases h; exact k
 | a :: l,m,vs,us,h,k=>by
  obtain⟨v,ws,rfl,h1,h2⟩:=aP h;exact fH h1 (kL h2 k)
theorem qf{ρ:Names}:∀ {l:List AV} {vs:List Value} (n:Nat),eN ρ l=some vs->eN ρ (l.take n)=some (vs.take n)
 | [],_,_,h=>by cases h; simp[eN]
 | a :: l,vs,0,h=>rfl
 | a :: l,vs,n+1,h=>by
  obtain⟨v,ws,rfl,h1,h2⟩:=aP h;exact fH h1 (qf n h2)
theorem AF{ρ:Names}:∀ {l:List AV} {vs:List Value} (n:Nat),eN ρ l=some vs->eN ρ (l.drop n)=some (vs.drop n)
 | [],_,_,h=>by cases h; simp[eN]
 | a :: l,vs,0,h=>h
 | a :: l,vs,n+1,h=>by
  obtain⟨v,ws,rfl,_,h2⟩:=aP h;exact AF n h2
structure AO where
 T:TypeId
 cells:List AV
 ro:Bool
abbrev AH:=Tr (Option AO)
def eU(ρ:Names)(i:Nat)(L:Loc):Names:=λ j=>if j=i then some L else ρ j
structure Live (ρ:Names) (w0 w:World) (i:Nat) (ao:AO) (L:Loc) (cur:Array Value) (vs:List Value):Prop where
 at_:ρ i=some L
 new:w0.heap.size<=L.b
 blk:∃ fz,w.heap[L.b]?=some (.cells cur ao.T fz)/\(ao.ro=false->fz=(0,0))
 val:eN ρ ao.cells=some vs
 here:cur.toList.take vs.length=vs
 room:L.tot*L.esz=cur.size
 most:L.tot<=maxLen
structure fY (w0 w:World) (ρ:Names) (h:AH):Prop where
 aC:aD w0 w []
 dom:∀ (i:Nat) (L:Loc),ρ i=some L->∃ x,h.get i=some x
 live:∀ (i:Nat) (ao:AO),h.get i=some (some ao)->∃ L cur vs,Live ρ w0 w i ao L cur vs
 inj:∀ (i j:Nat) (ao ao' : AO) (L L' : Loc),i≠j->h.get i=some (some ao)->h.get j=some (some ao')->ρ i=some L->ρ j=some L'->L.b≠L'.b
theorem Live.cell{ρ:Names}{w0 w:World}{i:Nat}{ao:AO}{L:Loc}{cur:Array Value}{vs:List Value}(h:Live ρ w0 w i ao L cur vs){o:Nat}{a:AV}(ho:ao.cells[o]?=some a) :
  ∃ v,rv ρ a=some v/\w.cell? ⟨L.b,o,none⟩=some v:=by
 obtain⟨v,hv,ha⟩:=uW h.val ho;refine⟨v,ha,?_⟩;obtain⟨fz,hblk,_⟩:=h.blk;rw[cK,hblk,cv,<- Array.getElem?_toList];have h1:(cur.toList.take vs.length)[o]?=some v:=by rw[h.here]; exact hv
 rw[List.getElem?_take] at h1
 split at h1
 ·exact h1
 ·cases h1
theorem fY.rewrite{w0 w w' : World}{ρ:Names}{h:AH}(hr:fY w0 w ρ h){i:Nat}{ao:AO}(hi:h.get i=some (some ao)){L:Loc}(hL:ρ i=some L){cells:List AV}{cur' : Array Value}{vs' : List Value}(hc:aD w w' [L.b])(hb:w'.heap[L.b]?=some (.cells cur' ao.T (0,0)))(hv:eN ρ cells=some vs')(hh:cur'.toList.take vs'.length=vs')(hs:L.tot*L.esz=cur'.size) :
  fY w0 w' ρ (h.put i (some { ao with cells:=cells })):=by
 obtain⟨L1,cur,vs,hl⟩:=hr.live i ao hi;obtain rfl:L=L1:=Option.some.inj (hL.symm.trans hl.at_);have get:∀ {x:Nat} {ax:AO},(h.put i (some { ao with cells:=cells })).get x=some (some ax)->∃ ax',h.get x=some (some ax'):=λ {x ax} hx=>by
  rw[bY] at hx
  split at hx
  ·rename_i e; subst e; exact⟨ao,hi⟩
  ·exact⟨ax,hx⟩
 refine⟨hr.aC.trans hc (λ x hx=>.inr (by simp at hx; subst hx; exact hl.new)),λ j Lj hj=>?_,λ j aj hj=>?_,λ j k aj ak Lj Lk hjk hj hk hLj hLk=>?_⟩
 ·rw[bY]
  split
  ·exact⟨_,rfl⟩
  ·exact hr.dom j Lj hj
 ·by_cases hji:j=i
  ·subst hji;rw[bY,if_pos rfl] at hj
   cases hj
   exact⟨L,cur',vs',hl.at_,hl.new,⟨_,hb,λ _=>rfl⟩,hv,hh,hs,hl.most⟩
  ·rw[bY,if_neg hji] at hj;obtain⟨L2,cur2,vs2,hl2⟩:=hr.live j aj hj;refine⟨L2,cur2,vs2,hl2.at_,hl2.new,?_,hl2.val,hl2.here,hl2.room,hl2.most⟩;have:=hr.inj j i aj ao L2 L hji hj hi hl2.at_ hL;obtain⟨fz,hblk,hfz⟩:=hl2.blk;exact⟨fz,hc.keep hblk (by simpa using this),hfz⟩
 ·obtain⟨aj',hj'⟩:=get hj;obtain⟨ak',hk'⟩:=get hk;exact hr.inj j k aj' ak' Lj Lk hjk hj' hk' hLj hLk
theorem ct{w0 w:World}{ρ:Names}{h:AH}(hr:fY w0 w ρ h){i:Nat}(hi:h.get i=none):ρ i=none:=by
 cases hρ:ρ i with
 | none=>rfl
 | some L=>obtain⟨x,hx⟩:=hr.dom i L hρ; rw[hi] at hx; cases hx
theorem Ext.eU{ρ:Names}{i:Nat}{L:Loc}(h:ρ i=none):Ext ρ (eU ρ i L):=λ j L' hj=>by
 unfold Gx.eU;rw[if_neg (λ e=>by rw[e,h] at hj; cases hj)];exact hj
theorem fY.below{w0 w:World}{ρ:Names}{h:AH}(hr:fY w0 w ρ h){j:Nat}{ao:AO}{L:Loc}(hj:h.get j=some (some ao))(hL:ρ j=some L):L.b<w.heap.size:=by
 obtain⟨L1,cur,vs,hl⟩:=hr.live j ao hj;obtain rfl:L=L1:=Option.some.inj (hL.symm.trans hl.at_);obtain⟨fz,hblk,_⟩:=hl.blk;exact eJ hblk
theorem fY.Ei{w0 w w' : World}{ρ:Names}{h:AH}(hr:fY w0 w ρ h){F:List Nat}(hc:aD w w' F)(hF:∀ f∈F,w0.heap.size<=f/\∀ (j:Nat) (ao:AO) (L:Loc),h.get j=some (some ao)->ρ j=some L->L.b≠f):fY w0 w' ρ h :=
 ⟨hr.aC.trans hc (λ f hf=>.inr (hF f hf).1),hr.dom,λ i ao hi=>by
  obtain⟨L,cur,vs,hl⟩:=hr.live i ao hi;obtain⟨fz,hblk,hfz⟩:=hl.blk;exact⟨L,cur,vs,hl.at_,hl.new,⟨fz,hc.keep hblk (λ hf=>(hF _ hf).2 i ao L hi hl.at_ rfl),hfz⟩,hl.val,hl.here,hl.room,hl.most⟩,hr.inj⟩
theorem fY.name{w0 w:World}{ρ:Names}{h:AH}(hr:fY w0 w ρ h){i:Nat}(hi:h.get i=none){L:Loc}{T:TypeId}{cells:List AV}{cur:Array Value}{vs:List Value}{ro:Bool}{fz:Nat×Nat}(hnew:w0.heap.size<=L.b)(hb:w.heap[L.b]?=some (.cells cur T fz))(hfz:ro=false->fz=(0,0))(hno:∀ (j:Nat) (ao:AO) (L' : Loc),h.get j=some (some ao)->ρ j=some L'->L'.b≠L.b)(hv:eN (eU ρ i L) cells=some vs)(hh:cur.toList.take vs.length=vs)(hs:L.tot*L.esz=cur.size)(hm:L.tot<=maxLen) :
  fY w0 w (eU ρ i L) (h.put i (some ⟨T,cells,ro⟩)):=by
 have hρ:=ct hr hi;have hx:Ext ρ (eU ρ i L):=Ext.eU hρ;refine⟨hr.aC,λ j Lj hj=>?_,λ j aj hj=>?_,λ j k aj ak Lj Lk hjk hj hk hLj hLk=>?_⟩
 ·rw[bY]
  split
  ·exact⟨_,rfl⟩
  ·rename_i e;unfold Gx.eU at hj;rw[if_neg e] at hj;exact hr.dom j Lj hj
 ·by_cases hji:j=i
  ·subst hji;rw[bY,if_pos rfl] at hj
   cases hj
   exact⟨L,cur,vs,by simp[Gx.eU],hnew,⟨fz,hb,hfz⟩,hv,hh,hs,hm⟩
  ·rw[bY,if_neg hji] at hj;obtain⟨L2,cur2,vs2,hl2⟩:=hr.live j aj hj;exact⟨L2,cur2,vs2,hx _ _ hl2.at_,hl2.new,hl2.blk,cN hx hl2.val,hl2.here,hl2.room,hl2.most⟩
 ·have side:∀ {k:Nat} {ak:AO} {Lk:Loc},(h.put i (some ⟨T,cells,ro⟩)).get k=some (some ak)->eU ρ i L k=some Lk->(k≠i/\h.get k=some (some ak)/\ρ k=some Lk)\/(k=i/\Lk=L):=λ {k ak Lk} hk hLk=>by
   by_cases hki:k=i
   ·subst hki;simp[Gx.eU] at hLk;exact .inr ⟨rfl,hLk.symm⟩
   ·rw[bY,if_neg hki] at hk;simp[Gx.eU,hki] at hLk;exact .inl ⟨hki,hk,hLk⟩
  rcases side hj hLj with⟨h1,h2,h3⟩|⟨h1,h2⟩<;>rcases side hk hLk with⟨k1,k2,k3⟩|⟨k1,k2⟩
  ·exact hr.inj j k aj ak Lj Lk hjk h2 k2 h3 k3
  ·subst k2; exact hno j aj Lj h2 h3
  ·subst h2; exact(hno k ak Lk k2 k3).symm
  ·exact absurd (h1.trans k1.symm) hjk
theorem fY.new{w0 w w' : World}{ρ:Names}{h:AH}(hr:fY w0 w ρ h){i:Nat}(hi:h.get i=none){L:Loc}{T:TypeId}{cells:List AV}{cur:Array Value}{vs:List Value}{ro:Bool}{fz:Nat×Nat}(hc:aD w w' [])(hb:w'.heap[L.b]?=some (.cells cur T fz))(hfz:ro=false->fz=(0,0))(hn:w.heap.size<=L.b)(hv:eN (eU ρ i L) cells=some vs)(hh:cur.toList.take vs.length=vs)(hs:L.tot*L.esz=cur.size)(hm:L.tot<=maxLen) :
  fY w0 w' (eU ρ i L) (h.put i (some ⟨T,cells,ro⟩)) :=
 (hr.Ei hc (by simp)).name hi (Nat.le_trans hr.aC.size hn) hb hfz (λ j ao L' hj hL=>by have:=hr.below hj hL; omega) hv hh hs hm
theorem fY.alloc{w0 w:World}{ρ:Names}{h:AH}(hr:fY w0 w ρ h){i:Nat}(hi:h.get i=none){T:TypeId}{cells:List AV}{vs:List Value}(hv:eN ρ cells=some vs){esz tot:Nat}(hs:tot*esz=vs.length)(hm:tot<=maxLen) :
  fY w0 (w.alloc (.cells vs.toArray T)) (eU ρ i ⟨w.heap.size,esz,tot⟩) (h.put i (some ⟨T,cells,false⟩)) :=
 hr.new hi (aD.new w _ []) (by rw[cw,if_pos rfl]) (λ _=>rfl) (Nat.le_refl _) (cN (Ext.eU (ct hr hi)) hv) (by simp) (by simpa using hs) hm
theorem fY.Pc{w0 w:World}{ρ:Names}{h:AH}(hr:fY w0 w ρ h)(i:Nat):fY w0 w ρ (h.put i none):=by
 have get:∀ {x:Nat} {ax:AO},(h.put i none).get x=some (some ax)->h.get x=some (some ax):=λ {x ax} hx=>by
  rw[bY] at hx
  split at hx
  ·cases hx
  ·exact hx
 exact⟨hr.aC,λ j Lj hj=>by
  rw[bY]
  split
  ·exact⟨_,rfl⟩
  ·exact hr.dom j Lj hj,λ j aj hj=>hr.live j aj (get hj),λ j k aj ak Lj Lk hjk hj hk hLj hLk=>hr.inj j k aj ak Lj Lk hjk (get hj) (get hk) hLj hLk⟩
theorem fY.quiet{w0 w w' : World}{ρ:Names}{h:AH}(hr:fY w0 w ρ h)(hc:aD w w' []):fY w0 w' ρ h :=
 ⟨hr.aC.trans hc (by simp),hr.dom,λ i ao hi=>by
  obtain⟨L,cur,vs,hl⟩:=hr.live i ao hi;obtain⟨fz,hblk,hfz⟩:=hl.blk;exact⟨L,cur,vs,hl.at_,hl.new,⟨fz,hc.keep hblk (by simp),hfz⟩,hl.val,hl.here,hl.room,hl.most⟩,hr.inj⟩
def JQ(P:Program)(K:Value->List Deferred->World->Prop):Next->World->Prop
 | .value v,w=>K v [] w
 | .skip,w=>K undef [] w
 | .defer d,w=>K undef [d] w
 | .enter f args,w=>Calls P f args w λ e w'=>∃ v,e=.returned v/\K v [] w'
 | .round l f tmps assign body,w=>RoundIn Fence.wide 0 P l f tmps assign body w λ e w'=>∃ v,e=.returned v/\K v [] w'
 | _,_=>False
def PT(P:Program)(o:Oper)(t:Tm)(w:World)(K:Value->List Deferred->World->Prop):Prop:=∃ n w',(execOp (ev t) o).run P w=.ok n w'/\JQ P K n w'
def ZO(P:Program)(o:Oper)(t:Tm)(w:World)(K:Value->List (World->Prop)->Prop):Prop:=∃ v T,K v T/\holds T w/\∀ w',holds T w'->(execOp (ev t) o).run P w' = .ok (.value v) w'
theorem LW{ro:Option Nat}{o:Oper}(hd:ro=none\/dB o.op=true)(r:Operand->Value):o.semAt (FW ro).round r=execOp r o:=by
 rcases hd with rfl|hd
 ·rfl
 ·exact Oper.semAt_eq _ _ _ (ic hd)
theorem Om{P:Program}{ro:Option Nat}{o:Oper}{t:Tm}{d:List Deferred}{w:World}{K:Value->List Deferred->World->Prop}{N:Act->World->Prop}{Q:Exit->Act->World->Prop}(hd:ro=none\/dB o.op=true)(hN:∀ v nd w',K v nd w'->N (gh (pt t o.dst v) (nd++d)) w')(h:PT P o t w K):o.wpIn (FW ro) 0 P (gh t d) w N Q:=by
 obtain⟨n,w',hr,hk⟩:=h;refine⟨λ _ _=>trivial,?_⟩;rw[LW hd,gw,hr]
 cases n<;>simp only[JQ] at hk<;>simp only[Oper.uponIn]
 ·rw[cM]; exact hN _ _ _ hk
 ·rw[cM]; exact hN _ _ _ hk
 ·rename_i f args;refine⟨λ h=>(by cases h),?_⟩;have h1:CallsIn Fence.wide 0 P _ _ w' _:=callsIn_wide.2 hk;refine CallsIn.mono (show CallsIn (FW ro) 0 P _ _ w' _ from h1) λ e w'' he=>?_;obtain⟨v,rfl,hv⟩:=he;show N ((gh t d).put o.dst v) w'';rw[cM];exact hN _ _ _ hv
 ·refine⟨λ h=>(by cases h),RoundIn.mono (show RoundIn (FW ro) 0 P _ _ _ _ _ w' _ from hk) λ e w'' he=>?_⟩;obtain⟨v,rfl,hv⟩:=he;show N ((gh t d).put o.dst v) w'';rw[cM];exact hN _ _ _ hv
 ·rename_i dd;have:({ (gh t d) with defers:=dd :: (gh t d).defers }:Act)=gh t (dd :: d):=rfl;rw[this,cM];exact hN _ _ _ hk
def D7(P:Program)(ops:Array Oper):List Oper->Tm->List Deferred->World->(Tm->List Deferred->World->Prop)->Prop
 | [],t,d,w,K=>K t d w
 | o :: rest,t,d,w,K=>gd ops t o (λ t=>PT P o t w λ v nd w'=>D7 P ops rest (pt t o.dst v) (nd++d) w' K) (λ t=>D7 P ops rest (pt t o.dst undef) d w K)
theorem D8{P:Program}{ro:Option Nat}{ops:Array Oper}{Q:Exit->Act->World->Prop}:∀ (l:List Oper) (t:Tm) (d:List Deferred) (w:World) (K:Tm->List Deferred->World->Prop),(ro=none\/dc l=true)->(∀ t d w,K t d w->Q .normal (gh t d) w)->D7 P ops l t d w K->wpListIn (FW ro) 0 P ops Q l (gh t d) w
 | [],t,d,w,K,_,hK,h=>hK _ _ _ h
 | o :: rest,t,d,w,K,hn,hK,h=>by
  have hn1:ro=none\/dB o.op=true:=hn.imp id λ h=>by simp only[dc,List.all_cons,Bool.and_eq_true] at h; exact h.1
  have hn2:ro=none\/dc rest=true:=hn.imp id λ h=>by simp only[dc,List.all_cons,Bool.and_eq_true] at h; exact h.2
  unfold wpListIn;rcases ng (dd:=d) h with⟨hw,h⟩|⟨hw,h⟩
  ·rw[if_pos hw];exact Om hn1 (λ v nd w' h'=>D8 rest _ _ _ K hn2 hK h') h
  ·rw[if_neg (by simpa using hw),cM];exact⟨λ _ _=>trivial,D8 rest _ _ _ K hn2 hK h⟩
def gm(P:Program)(ops:Array Oper):Nat->Array Bool->kX->Tm->World->(Tm->World->Prop)->Prop
 | 0,listed,_,t,w,K=>cond (Region.ready .any ops listed).isEmpty (K t w) False
 | n+1,listed,pend,t,w,K =>
  match pick ops (Region.ready .any ops listed) with
  | some i=>match ops[i]? with
   | none=>False
   | some o=>cond (Region.free .any ops listed i) (gd ops t o (λ t=>ZO P o t w λ v T=>gm P ops n (listed.setIfInBounds i true) ((i,T) :: pend) (pt t o.dst v) w K)
     (λ t=>gm P ops n (listed.setIfInBounds i true) pend (pt t o.dst undef) w K)) False
  | none=>match Region.ready .any ops listed with
   | []=>K t w
   | i :: is=>Mt ((i :: is).map λ i=>match ops[i]? with
    | none=>False
    | some o=>gd ops t o
     (λ t=>PT P o t w λ v nd w'=>nd=[]/\Bj (drop ops i pend) w' (gm P ops n (listed.setIfInBounds i true) (drop ops i pend) (pt t o.dst v) w' K))
     (λ t=>gm P ops n (listed.setIfInBounds i true) (drop ops i pend) (pt t o.dst undef) w K))
theorem ug{ro:Option Nat}{P:Program}{ops:Array Oper}{dd:List Deferred}{Q:Exit->Act->World->Prop}(hnd:∀ (j:Nat) (o:Oper),ops[j]?=some o->dB o.op=true)(hs:Region.noSelect ops=true)(hQ:∀ c a w,¬ Q (.panic c) a w){K:Tm->World->Prop}(hK:∀ t w,K t w->Q .normal (gh t dd) w) :
  ∀ (n:Nat) (listed:Array Bool) (pend:kX) (t:Tm) (w:World),closed ops listed->(∀ p∈pend,holds p.2 w) ->
  gm P ops n listed pend t w K->lu ro P ops Q n listed pend (gh t dd) w
 | 0,listed,pend,t,w,_,_,h=>by
  obtain⟨h1,h2⟩:=gR h;exact⟨List.isEmpty_iff.1 h1,hK _ _ h2⟩
 | n+1,listed,pend,t,w,hc,hp,h=>by
  unfold gm at h
  split at h
  ·rename_i i hi;have hir:=uM hi
   split at h
   ·exact h.elim
   ·rename_i o ho;obtain⟨hf,h⟩:=gR h;rcases ng h with⟨hw,h⟩|⟨hw,h⟩
    ·obtain⟨v,T,hk,hT,hr⟩:=h;refine js hnd ho (Region.noSelect_spec hs) hQ n listed pend (gh t dd) w hc (Region.free_spec ho hf) hir (.inl ⟨hw,λ w' hw'=>by rw[gw]; exact hr w' hw'⟩) hT hp ?_;rw[cM];refine ug hnd hs hQ hK n _ _ _ _ (hU hc hir) ?_ hk;intro p hp';rcases List.mem_cons.1 hp' with rfl|hp'
     ·exact hT
     ·exact hp p hp'
    ·refine js (T:=[]) hnd ho (Region.noSelect_spec hs) hQ n listed pend (gh t dd) w hc (Region.free_spec ho hf) hir (.inr ⟨hw,rfl⟩) (λ f hf=>by cases hf) hp ?_;rw[cM];refine nL n _ pend _ _ _ (λ p hp'=>?_) (ug hnd hs hQ hK n _ _ _ _ (hU hc hir) hp h);rcases List.mem_cons.1 hp' with rfl|hp'
     ·exact .inr rfl
     ·exact .inl hp'
  ·split at h
   ·rename_i hr;exact⟨λ _=>hK _ _ h,λ i hi=>by rw[hr] at hi; cases hi⟩
   ·rename_i i0 is hr;refine⟨λ h0=>(by rw[h0] at hr; cases hr),λ i hi=>?_⟩;have hm:(match ops[i]? with
     | none=>False
     | some o=>gd ops t o
      (λ t=>PT P o t w λ v nd w'=>nd=[]/\Bj (drop ops i pend) w' (gm P ops n (listed.setIfInBounds i true) (drop ops i pend) (pt t o.dst v) w' K)) (λ t=>gm P ops n (listed.setIfInBounds i true) (drop ops i pend) (pt t o.dst undef) w K)):=by
     refine qI h _ (List.mem_map.2 ⟨i,by rw[<- hr]; exact hi,rfl⟩)
    have hcs:=hU hc hi;unfold wpOpIn
    cases ho:ops[i]? with
    | none=>rw[ho] at hm; exact hm.elim
    | some o =>
     simp only[ho] at hm ⊢;rcases ng hm with⟨hw,hm⟩|⟨hw,hm⟩
     ·rw[if_pos hw];refine(Om (.inr (hnd _ _ ho)) (λ v nd w' hv=>?_) hm);obtain⟨rfl,hv⟩:=hv;obtain⟨h1,h2⟩:=qJ hv;exact⟨h1,ug hnd hs hQ hK n _ _ _ _ hcs h1 h2⟩
     ·rw[if_neg (by simp[hw]),cM];have h1:∀ p∈drop ops i pend,holds p.2 w:=λ p hp'=>hp p ((List.mem_filter.1 hp').1);exact⟨λ _ _=>trivial,h1,ug hnd hs hQ hK n _ _ _ _ hcs h1 hm⟩
def Xt:Value->Option AV
 | .int k n=>some (.int k n)
 | .bool b=>some (.bool b)
 | .string s=>some (.str s.data.toList)
 | .pointer none=>some .nilp
 | .slice none 0 0=>some .nils
 | .nilIface=>some .nili
 | .nilFunc=>some .nilf
 | .func (.func f) ⟨[]⟩ ⟨[]⟩=>some (.fn f [] [])
 | .tuple ⟨[]⟩=>some (.tup [])
 | _=>none
def RU:List Value->Option (List AV)
 | []=>some []
 | v :: l=>match Xt v,RU l with
  | some a,some az=>some (a :: az)
  | _,_=>none
def Xu:Value->Option AV
 | .agg ⟨cs⟩=>(RU cs).map .agg
 | v=>Xt v
theorem Oi{ρ:Names}{v:Value}{a:AV}(h:Xt v=some a):rv ρ a=some v:=by
 unfold Xt at h
 split at h<;>first|(cases h; done)|(cases h; rfl)
theorem Oh{ρ:Names}:∀ {l:List Value} {az:List AV},RU l=some az->eN ρ az=some l
 | [],_,h=>by cases h; rfl
 | v :: l,az,h=>by
  simp only[RU] at h
  cases ha:Xt v with
  | none=>rw[ha] at h; cases h
  | some a =>
   cases hl:RU l with
   | none=>rw[ha,hl] at h; cases h
   | some bs =>
    rw[ha,hl] at h
    cases h
    exact fH (Oi ha) (Oh hl)
theorem Oj{ρ:Names}{v:Value}{a:AV}(h:Xu v=some a):rv ρ a=some v:=by
 unfold Xu at h
 split at h
 ·rename_i cs
  cases hl:RU cs with
  | none=>rw[hl] at h; cases h
  | some az =>
   rw[hl] at h
   cases h
   simp only[rv,Oh hl,Option.map_some]
 ·exact Oi h
def eZ(ρ:Names)(e:Tr AV)(t:Tm):Prop:=∀ i a,e.get i=some a->rv ρ a=some (gt t i)
theorem eZ.mono{ρ σ:Names}{e:Tr AV}{t:Tm}(h:eZ ρ e t)(hx:Ext ρ σ):eZ σ e t:=λ i a hi=>Es hx (h i a hi)
def fN(e:Tr AV):Operand->Option AV
 | .tmp i=>e.get i
 | .const v=>Xu v
 | .func f=>some (.fn f [] [])
 | .global _=>none
theorem bp{ρ:Names}{e:Tr AV}{t:Tm}{x:Operand}{a:AV}(he:eZ ρ e t)(h:fN e x=some a):rv ρ a=some (ev t x):=by
 cases x with
 | tmp i=>exact he i a h
 | const v=>exact Oj h
 | func f=>cases h; rfl
 | global g=>cases h
def lF(e:Tr AV):List Operand->Option (List AV)
 | []=>some []
 | x :: l=>match fN e x,lF e l with
  | some a,some az=>some (a :: az)
  | _,_=>none
theorem gj{ρ:Names}{e:Tr AV}{t:Tm}(he:eZ ρ e t):∀ {l:List Operand} {az:List AV},lF e l=some az->eN ρ az=some (l.map (ev t))
 | [],_,h=>by cases h; rfl
 | x :: l,az,h=>by
  simp only[lF] at h
  cases ha:fN e x with
  | none=>rw[ha] at h; cases h
  | some a =>
   cases hl:lF e l with
   | none=>rw[ha,hl] at h; cases h
   | some bs =>
    rw[ha,hl] at h
    cases h
    exact fH (bp he ha) (gj he hl)
theorem FB:∀ (t:Tm) (i:Nat) (v:Value),i<t.length->gt (st t i v) i=v
 | [],i,_,h=>by simp at h
 | x :: t,0,v,_=>rfl
 | x :: t,i+1,v,h=>FB t i v (by simpa using h)
def xQ(N:Nat)(e:Tr AV)(d:Option Nat)(v:AV):Option (Tr AV):=match d with
 | none=>some e
 | some d=>cond (Nat.ble (Nat.succ d) N) (some (e.put d v)) none
theorem qK{ρ:Names}{N:Nat}{e e' : Tr AV}{d:Option Nat}{a:AV}{v:Value}{t:Tm}(h:xQ N e d a=some e')(hN:t.length=N)(he:eZ ρ e t)(hv:rv ρ a=some v) :
  eZ ρ e' (pt t d v)/\(pt t d v).length=N:=by
 cases d with
 | none=>cases h; exact⟨he,hN⟩
 | some d =>
  unfold xQ at h
  cases hb:Nat.ble (Nat.succ d) N with
  | false=>simp only[hb,cond_false] at h; cases h
  | true =>
   simp only[hb,cond_true,Option.some.injEq] at h;have hd:d<t.length:=by rw[hN]; exact Nat.le_of_ble_eq_true hb
   subst h;refine⟨λ i b hi=>?_,by rw[show pt t (some d) v=st t d v from rfl,Cb]; exact hN⟩;show rv ρ b=some (gt (st t d v) i);rw[bY] at hi
   split at hi
   ·rename_i e1;subst e1
    cases hi
    rw[FB t i v hd]; exact hv
   ·rename_i e1;rw[FC t d i v (Ne.symm e1)];exact he i b hi
def W6(n:Nat)(f:Nat->AV):AV:=match n with
 | 0=>f 0
 | m+1=>f (Nat.succ m)
def DQ(k:IntKind):Int->AV
 | .ofNat n=>W6 n λ n=>.int k (.ofNat n)
 | .negSucc n=>W6 n λ n=>.int k (.negSucc n)
theorem fC(k:IntKind)(n:Int):DQ k n=.int k n:=by
 cases n with
 | ofNat n=>cases n<;>rfl
 | negSucc n=>cases n<;>rfl
def uw(M:Nat):Int->Int
 | .ofNat a=>.ofNat (Nat.mod a M)
 | .negSucc a=>.ofNat (Nat.sub (Nat.sub M 1) (Nat.mod a M))
def sw(H M:Nat):Int->Int
 | .ofNat a=>cond (Nat.ble (Nat.succ (Nat.mod a M)) H) (.ofNat (Nat.mod a M)) (.negSucc (Nat.sub (Nat.sub M 1) (Nat.mod a M)))
 | .negSucc a=>cond (Nat.ble (Nat.succ (Nat.mod a M)) H) (.negSucc (Nat.mod a M)) (.ofNat (Nat.sub (Nat.sub M 1) (Nat.mod a M)))
def ja:IntKind->Int->Int
 | .u64,n=>uw 18446744073709551616 n
 | .i64,n=>sw 9223372036854775808 18446744073709551616 n
 | .u8,n=>uw 256 n
 | .i8,n=>sw 128 256 n
 | .u16,n=>uw 65536 n
 | .i16,n=>sw 32768 65536 n
 | .u32,n=>uw 4294967296 n
 | .i32,n=>sw 2147483648 4294967296 n
theorem GV(M:Nat)(hM:0<M)(n:Int):uw M n=n%(M:Int):=by
 cases n with
 | ofNat a=>rfl
 | negSucc a =>
  show((M-1-a%M:Nat):Int)=_;have h1:=Nat.mod_lt a hM;have h2:Int.negSucc a=-((a:Int)+1):=Int.negSucc_eq a;rw[h2];have h3:=Nat.div_add_mod a M;have h4 : -((a:Int)+1)=((M-1-a%M:Nat):Int)+(M:Int)*(-((a / M:Nat):Int)-1):=by
   have:((M-1-a%M:Nat):Int)=(M:Int)-1-((a%M:Nat):Int):=by omega
   rw[this];have h5:(a:Int)=(M:Int)*((a / M:Nat):Int)+((a%M:Nat):Int):=by
    rw[<- Int.natCast_mul,<- Int.natCast_add,h3]
   rw[Int.mul_sub,Int.mul_neg];omega
  rw[h4,Int.add_mul_emod_self_left,Int.emod_eq_of_lt (by omega) (by omega)]
theorem Ki(H M:Nat)(hM:M=2*H)(hH:0<H)(n:Int):sw H M n=if n%(M:Int)>=(H:Int) then n%(M:Int)-(M:Int) else n%(M:Int):=by
 have hMp:0<M:=by omega
 rw[<- GV M hMp]
 cases n with
 | ofNat a =>
  have h1:=Nat.mod_lt a hMp;show cond (Nat.ble (Nat.succ (a%M)) H) (Int.ofNat (a%M)) (Int.negSucc (M-1-a%M))=if (Int.ofNat (a%M))>=(H:Int) then Int.ofNat (a%M)-(M:Int) else Int.ofNat (a%M)
  cases hb:Nat.ble (Nat.succ (a%M)) H with
  | true =>
   have:=Nat.le_of_ble_eq_true hb;rw[if_neg (by simp only[Int.ofNat_eq_natCast]; omega)]; rfl
  | false =>
   have : ¬ (a%M+1<=H):=λ h=>by rw[Nat.ble_eq_true_of_le h] at hb; cases hb
   rw[if_pos (by simp only[Int.ofNat_eq_natCast]; omega)];simp only[cond_false,Int.negSucc_eq,Int.ofNat_eq_natCast];omega
 | negSucc a =>
  have h1:=Nat.mod_lt a hMp;show cond (Nat.ble (Nat.succ (a%M)) H) (Int.negSucc (a%M)) (Int.ofNat (M-1-a%M))=if (Int.ofNat (M-1-a%M))>=(H:Int) then Int.ofNat (M-1-a%M)-(M:Int) else Int.ofNat (M-1-a%M)
  cases hb:Nat.ble (Nat.succ (a%M)) H with
  | true =>
   have:=Nat.le_of_ble_eq_true hb;rw[if_pos (by simp only[Int.ofNat_eq_natCast]; omega)];simp only[cond_true,Int.negSucc_eq,Int.ofNat_eq_natCast];omega
  | false =>
   have : ¬ (a%M+1<=H):=λ h=>by rw[Nat.ble_eq_true_of_le h] at hb; cases hb
   rw[if_neg (by simp only[Int.ofNat_eq_natCast]; omega)]; rfl
theorem eH(k:IntKind)(n:Int):ja k n=k.wrap n:=by
 cases k<;>simp only[ja,IntKind.wrap,IntKind.signed,IntKind.bits,Bool.true_and,Bool.false_and,Bool.false_eq_true,if_false]
 ·rw[Ki _ _ rfl (by decide)]; simp
 ·rw[Ki _ _ rfl (by decide)]; simp
 ·rw[Ki _ _ rfl (by decide)]; simp
 ·rw[Ki _ _ rfl (by decide)]; simp
 ·rw[GV _ (by decide)]; rfl
 ·rw[GV _ (by decide)]; rfl
 ·rw[GV _ (by decide)]; rfl
 ·rw[GV _ (by decide)]; rfl
def Mh:Int->Int->Bool
 | .ofNat a,.ofNat b=>Nat.beq a b
 | .negSucc a,.negSucc b=>Nat.beq a b
 | _,_=>false
def FG:Int->Int->Bool
 | .ofNat a,.ofNat b=>Nat.ble a b
 | .negSucc a,.negSucc b=>Nat.ble b a
 | .negSucc _,.ofNat _=>true
 | .ofNat _,.negSucc _=>false
theorem N8(a b:Nat):Nat.beq a b=decide (a=b):=by
 by_cases h:a=b
 ·subst h; simp[Nat.beq_refl]
 ·simp[h,Di h]
theorem VB(a b:Nat):Nat.ble a b=decide (a<=b):=by
 cases hb:Nat.ble a b with
 | true=>simp[Nat.le_of_ble_eq_true hb]
 | false =>
  have : ¬ a<=b:=λ h=>by rw[Nat.ble_eq_true_of_le h] at hb; cases hb
  simp[this]
theorem vX(a b:Int):Mh a b=(a==b):=by
 cases a<;>cases b<;>simp only[Mh,N8]<;>rw[Bool.eq_iff_iff]<;>simp<;>omega
theorem vY(a b:Int):FG a b=decide (a<=b):=by
 cases a<;>cases b<;>simp only[FG,VB]<;>rw[Bool.eq_iff_iff]<;>simp[Int.negSucc_eq]<;>omega
def DS(op:BinOp)(k:IntKind)(a b:Int):Option AV:=match op with
 | .add=>some (DQ k (ja k (Int.add a b)))
 | .sub=>some (DQ k (ja k (Int.sub a b)))
 | .mul=>some (DQ k (ja k (Int.mul a b)))
 | .quo=>cond (Mh b 0) none (some (DQ k (ja k (Int.tdiv a b))))
 | .rem=>cond (Mh b 0) none (some (DQ k (Int.tmod a b)))
 | .and=>some (DQ k (ja k ((BitVec.ofInt k.bits a &&& BitVec.ofInt k.bits b).toNat:Int)))
 | .or=>some (DQ k (ja k ((BitVec.ofInt k.bits a ||| BitVec.ofInt k.bits b).toNat:Int)))
 | .xor=>some (DQ k (ja k ((BitVec.ofInt k.bits a ^^^ BitVec.ofInt k.bits b).toNat:Int)))
 | .andNot=>some (DQ k (ja k ((BitVec.ofInt k.bits a &&& ~~~BitVec.ofInt k.bits b).toNat:Int)))
 | .eql=>some (.bool (Mh a b))
 | .neq=>some (.bool (not (Mh a b)))
 | .leq=>some (.bool (FG a b))
 | .geq=>some (.bool (FG b a))
 | .lss=>some (.bool (not (FG b a)))
 | .gtr=>some (.bool (not (FG a b)))
 | _=>none
def K2(op:BinOp)(k:IntKind)(a b:Int):Option AV:=cond (FG 0 b) (match op with
 | .shl=>some (DQ k (ja k (a*2 ^ (min b.toNat k.bits))))
 | .shr=>some (DQ k (a.fdiv (2 ^ (min b.toNat k.bits))))
 | _=>none) none
def DY:List UInt8->List UInt8->Bool
 | [],[]=>true
 | a :: l,b :: m=>cond (Nat.beq a.toNat b.toNat) (DY l m) false
 | _,_=>false
theorem nr:∀ (l m:List UInt8),DY l m=(l==m)
 | [],[]=>rfl
 | [],_ :: _=>rfl
 | _ :: _,[]=>rfl
 | a :: l,b :: m=>by
  unfold DY;rw[N8,nr l m]
  by_cases h:a=b
  ·subst h; simp
  ·have : ¬ a.toNat=b.toNat:=λ e=>h (UInt8.toNat.inj e);simp[this,h]
def U9(op:BinOp)(a b:List UInt8):Option AV:=match op with
 | .add=>cond (Nat.ble (a.length+b.length) 9223372036854775807) (some (.str (a++b))) none
 | .eql=>some (.bool (DY a b))
 | .neq=>some (.bool (not (DY a b)))
 | .lss=>some (.bool (Op.bytesLess a b))
 | .leq=>some (.bool (or (Op.bytesLess a b) (DY a b)))
 | .gtr=>some (.bool (not (or (Op.bytesLess a b) (DY a b))))
 | .geq=>some (.bool (not (Op.bytesLess a b)))
 | _=>none
def xy(P:Program)(e:TypeId)(cs:List AV)(off:Nat):Option AV :=
 match P.underlying e,dQ P e with
 | some d,some sz=>cond (vZ d) (some (.agg ((cs.drop off).take sz))) cs[off]?
 | _,_=>none
def geq(P:Program):Nat->TypeId->AV->AV->Option Bool
 | 0,_,_,_=>none
 | d+1,t,x,y =>
  match P.underlying t with
  | some .bool=>match x,y with
   | .bool a,.bool b=>some (a==b)
   | _,_=>none
  | some (.int _)=>match x,y with
   | .int k a,.int k' b=>cond (Fm k k') (some (Mh a b)) none
   | _,_=>none
  | some .string=>match x,y with
   | .str a,.str b=>some (DY a b)
   | _,_=>none
  | some (.struct fs)=>match x,y with
   | .agg xs,.agg ys=>cond (P.stoodInHeld t||fs.toList.any λ f=>f.name== "_") none
     (sL (fs.toList.map λ f=>match xy P f.type xs f.offset,xy P f.type ys f.offset with
      | some a,some b=>geq P d f.type a b
      | _,_=>none))
   | _,_=>none
  | some (.array n e)=>match x,y with
   | .agg xs,.agg ys=>match dQ P e with
    | none=>none
    | some sz=>sL ((List.range n).map λ i=>match xy P e xs (i*sz),xy P e ys (i*sz) with
      | some a,some b=>geq P d e a b
      | _,_=>none)
   | _,_=>none
  | _=>none
theorem mh{P:Program}{ρ:Names}{e:TypeId}{cs:List AV}{vs:List Value}{off:Nat}{a:AV}(h:xy P e cs off=some a)(hv:eN ρ cs=some vs) :
  ∃ v,pV P e vs.toArray off=some v/\rv ρ a=some v:=by
 unfold xy at h;unfold pV
 split at h
 ·rename_i d sz hu hs;simp only[hu,hs]
  cases hd:vZ d with
  | true =>
   rw[hd] at h
   cases h
   refine⟨_,rfl,?_⟩;simp only[rv,qf sz (AF off hv),Option.map_some]
   congr 2
   simp
  | false =>
   rw[hd] at h;obtain⟨v,h1,h2⟩:=uW hv h;exact⟨v,by simpa using h1,h2⟩
 ·cases h
theorem ze{α:Type}{f g:α->Option Bool}(hfg:∀ a b,f a=some b->g a=some b):∀ (l:List α) (b:Bool),sL (l.map f)=some b->sL (l.map g)=some b
 | [],_,h=>h
 | a :: l,b,h=>by
  simp only[List.map_cons] at h ⊢
  cases hf:f a with
  | none=>rw[hf] at h; simp[sL] at h
  | some c =>
   rw[hf] at h;rw[hfg a c hf];simp only[sL] at h ⊢
   cases hr:sL (l.map f) with
   | none=>rw[hr] at h; cases h
   | some r=>rw[hr] at h; rw[ze hfg l r hr]; exact h
theorem cI{ρ:Names}{k:IntKind}{n:Int}{v:Value}(h:rv ρ (.int k n)=some v):v=.int k n:=(Option.some.inj h).symm
theorem gA{ρ:Names}{b:Bool}{v:Value}(h:rv ρ (.bool b)=some v):v=.bool b:=(Option.some.inj h).symm
theorem gC{ρ:Names}{l:List UInt8}{v:Value}(h:rv ρ (.str l)=some v):v=.string ⟨l.toArray⟩:=(Option.some.inj h).symm
theorem nA{ρ:Names}{cs:List AV}{v:Value}(h:rv ρ (.agg cs)=some v):∃ vs,eN ρ cs=some vs/\v=.agg vs.toArray:=by
 simp only[rv,Option.map_eq_some_iff] at h;obtain⟨l,hl,rfl⟩:=h;exact⟨l,hl,rfl⟩
theorem Iz{ρ:Names}{cs:List AV}{v:Value}(h:rv ρ (.tup cs)=some v):∃ vs,eN ρ cs=some vs/\v=.tuple vs.toArray:=by
 simp only[rv,Option.map_eq_some_iff] at h;obtain⟨l,hl,rfl⟩:=h;exact⟨l,hl,rfl⟩
theorem gB{ρ:Names}{i o:Nat}{v:Value}(h:rv ρ (.ptr i o)=some v):∃ L,ρ i=some L/\v=.pointer (some ⟨L.b,o,none⟩):=by
 simp only[rv,Option.map_eq_some_iff] at h;obtain⟨l,hl,rfl⟩:=h;exact⟨l,hl,rfl⟩
theorem dP{ρ:Names}{i o l z:Nat}{v:Value}(h:rv ρ (.sli i o l z)=some v):∃ L,ρ i=some L/\o+l<=L.tot/\L.esz=z/\v=.slice (some ⟨L.b,o*z,none⟩) l (L.tot-o):=by
 simp only[rv,Option.bind_eq_some_iff] at h;obtain⟨L,hL,h⟩:=h
 split at h
 ·rename_i hc;exact⟨L,hL,hc.1,hc.2,(Option.some.inj h).symm⟩
 ·cases h
theorem DR{P:Program}{ρ:Names}:∀ (d:Nat) (t:TypeId) (x y:AV) (vx vy:Value) (b:Bool),geq P d t x y=some b->rv ρ x=some vx->rv ρ y=some vy->PV P d t vx vy=some b
 | 0,_,_,_,_,_,_,h,_,_=>by cases h
 | d+1,t,x,y,vx,vy,b,h,hx,hy=>by
  unfold geq at h;unfold PV
  split at h
  ·rename_i hu;simp only[hu]
   split at h
   ·cases gA hx; cases gA hy; exact h
   ·cases h
  ·rename_i k hu;simp only[hu]
   split at h
   ·cases cI hx; cases cI hy
    rw[vX] at h; exact h
   ·cases h
  ·rename_i hu;simp only[hu]
   split at h
   ·rename_i a b'
    cases gC hx; cases gC hy
    rw[nr] at h;simp only[Option.some.injEq] at h ⊢;rw[<- h];rw[Bool.eq_iff_iff];show(a.toArray==b'.toArray)=true<->(a==b')=true
    simp
   ·cases h
  ·rename_i fs hu;simp only[hu]
   split at h
   ·rename_i xs ys;obtain⟨vxs,hxs,rfl⟩:=nA hx;obtain⟨vys,hys,rfl⟩:=nA hy
    cases hs:(P.stoodInHeld t||fs.toList.any λ f=>f.name== "_") with
    | true=>rw[hs] at h; cases h
    | false =>
     rw[hs] at h;simp only[cond_false] at h ⊢;refine ze (λ f c hf=>?_) _ _ h
     split at hf
     ·rename_i a b' ha hb;obtain⟨va,h1,h2⟩:=mh ha hxs;obtain⟨vb,h3,h4⟩:=mh hb hys;simp only[h1,h3];exact DR d f.type a b' va vb c hf h2 h4
     ·cases hf
   ·cases h
  ·rename_i n e hu;simp only[hu]
   split at h
   ·rename_i xs ys;obtain⟨vxs,hxs,rfl⟩:=nA hx;obtain⟨vys,hys,rfl⟩:=nA hy
    split at h
    ·cases h
    ·rename_i sz hsz;simp only[hsz];refine ze (λ f c hf=>?_) _ _ h
     split at hf
     ·rename_i a b' ha hb;obtain⟨va,h1,h2⟩:=mh ha hxs;obtain⟨vb,h3,h4⟩:=mh hb hys;simp only[h1,h3];exact DR d e a b' va vb c hf h2 h4
     ·cases hf
   ·cases h
  ·cases h
def jz(P:Program)(ρ:Names)(s:Sem Value)(a:AV):Prop:=∃ v,rv ρ a=some v/\∀ w,s.run P w=.ok v w
def Tw:Operand->Bool
 | .const _=>true
 | _=>false
def Re(P:Program)(ty:TypeId)(cn:Bool)(a b:AV):Option Bool:=match P.underlying ty with
 | some (.pointer e)=>match a,b with
  | .nilp,.nilp=>some true
  | .nilp,.ptr _ _=>some false
  | .ptr _ _,.nilp=>some false
  | .ptr i o,.ptr j p=>cond (Nat.beq i j&&Nat.beq o p&&(P.info? e).isSome) (some true) none
  | _,_=>none
 | some (.slice _)=>match a,b with
  | .nils,.nils=>some true
  | .nils,.sli _ _ _ _=>some false
  | .sli _ _ _ _,.nils=>some false
  | _,_=>none
 | some (.interface _)=>match a,b with
  | .nili,.nili=>cond cn (some true) none
  | .nili,.iface _ _=>some false
  | .iface _ _,.nili=>some false
  | _,_=>none
 | some .bool=>match a,b with
  | .bool x,.bool y=>some (x==y)
  | _,_=>none
 | _=>match a,b with
  | .agg xs,.agg ys=>cond (P.eqGuardType P.depth ty) none (geq P 12 ty (.agg xs) (.agg ys))
  | _,_=>none
theorem bQ{P:Program}{ty:TypeId}{x y:Operand}{vx vy:Value}{b neg:Bool}{w:World}(h:(Op.equal ty vx vy).run P w=.ok b w)(hb:(binOp (cond neg .neq .eql) ty vx vy)=(do let r <- Op.equal ty vx vy; pure (.bool (cond neg (!r) r))))(hg:(eqGuard (cond neg .neq .eql) ty x y vx vy).run P w=.ok () w):(do eqGuard (cond neg .neq .eql) ty x y vx vy; binOp (cond neg .neq .eql) ty vx vy:Sem Value).run P w=.ok (.bool (cond neg (!b) b)) w:=by
 have h3:=jn (neg:=neg) h hb;simp only[Sem.run_bind,hg,Result.andThen_ok,h3]
theorem Jw{P:Program}{ρ:Names}{ty:TypeId}{x y:Operand}{a b:AV}{vx vy:Value}{r:Bool}(h:Re P ty (Tw x||Tw y) a b=some r)(ha:rv ρ a=some vx)(hb:rv ρ b=some vy)(neg:Bool)(w:World):(do eqGuard (cond neg .neq .eql) ty x y vx vy; binOp (cond neg .neq .eql) ty vx vy:Sem Value).run P w=.ok (.bool (cond neg (!r) r)) w:=by
 unfold Re at h
 split at h
 ·rename_i e hu
  split at h
  ·cases h; cases ha; cases hb
   exact bQ (cC λ d=>by simp[Op.equalIn,aG hu]) (by cases neg<;>rfl) (by cases neg<;>simp[eqGuard])
  ·cases h; cases ha
   obtain⟨L,_,rfl⟩:=gB hb;exact bQ (cC λ d=>by simp[Op.equalIn,aG hu]) (by cases neg<;>rfl) (by cases neg<;>simp[eqGuard])
  ·cases h; cases hb
   obtain⟨L,_,rfl⟩:=gB ha;exact bQ (cC λ d=>by simp[Op.equalIn,aG hu]) (by cases neg<;>rfl) (by cases neg<;>simp[eqGuard])
  ·rename_i i o j p
   cases hc:(Nat.beq i j&&Nat.beq o p&&(P.info? e).isSome) with
   | false=>rw[hc] at h; cases h
   | true =>
    rw[hc] at h
    cases h
    simp only[Bool.and_eq_true] at hc;obtain⟨⟨q1,q2⟩,q3⟩:=hc;obtain rfl:=beq_iff.1 q1;obtain rfl:=beq_iff.1 q2;obtain⟨inf,hte⟩:=Option.isSome_iff_exists.1 q3;obtain⟨L,hL,rfl⟩:=gB ha;obtain⟨L',hL',rfl⟩:=gB hb;obtain rfl:L=L':=Option.some.inj (hL.symm.trans hL');exact bQ (cC λ d=>by simp[Op.equalIn,aG hu,sizeOf,typeInfo,hte,run_sameAddr_same]) (by cases neg<;>rfl) (by cases neg<;>simp[eqGuard])
  ·cases h
 ·rename_i e hu
  split at h
  ·cases h; cases ha; cases hb
   exact bQ (cC λ d=>by simp[Op.equalIn,aG hu]) (by cases neg<;>rfl) (by cases neg<;>simp[eqGuard])
  ·cases h; cases ha
   obtain⟨L,_,_,_,rfl⟩:=dP hb;exact bQ (cC λ d=>by simp[Op.equalIn,aG hu]) (by cases neg<;>rfl) (by cases neg<;>simp[eqGuard])
  ·cases h; cases hb
   obtain⟨L,_,_,_,rfl⟩:=dP ha;exact bQ (cC λ d=>by simp[Op.equalIn,aG hu]) (by cases neg<;>rfl) (by cases neg<;>simp[eqGuard])
  ·cases h
 ·rename_i ms hu
  split at h
  ·cases ha; cases hb
   cases hc:(Tw x||Tw y) with
   | false=>rw[hc] at h; cases h
   | true =>
    rw[hc] at h
    cases h
    refine bQ (cC λ d=>by simp[Op.equalIn,aG hu]) (by cases neg<;>rfl) ?_
    cases x<;>cases y<;>first|(cases hc; done)|(cases neg<;>simp[eqGuard])
  ·cases h; cases ha
   simp only[rv,Option.map_eq_some_iff] at hb;obtain⟨u,_,rfl⟩:=hb;exact bQ (cC λ d=>by simp[Op.equalIn,aG hu]) (by cases neg<;>rfl) (by cases neg<;>simp[eqGuard])
  ·cases h; cases hb
   simp only[rv,Option.map_eq_some_iff] at ha;obtain⟨u,_,rfl⟩:=ha;exact bQ (cC λ d=>by simp[Op.equalIn,aG hu]) (by cases neg<;>rfl) (by cases neg<;>simp[eqGuard])
  ·cases h
 ·rename_i hu
  split at h
  ·cases h
   cases gA ha; cases gA hb
   exact bQ (cC λ d=>by simp[Op.equalIn,aG hu]) (by cases neg<;>rfl) (by cases neg<;>simp[eqGuard])
  ·cases h
 ·split at h
  ·rename_i xs ys
   cases hg:P.eqGuardType P.depth ty with
   | true=>rw[hg] at h; cases h
   | false =>
    rw[hg] at h;simp only[cond_false] at h;obtain⟨vxs,hxs,rfl⟩:=nA ha;obtain⟨vys,hys,rfl⟩:=nA hb;have he:=DR 12 ty _ _ _ _ r h ha hb;have hF:Kz P ty neg (.agg vxs.toArray) (.agg vys.toArray)=some λ K=>K (.bool (cond neg (!r) r)):=by
     unfold Kz;simp only[hg,cond_false,he]
    obtain⟨v,hr,rfl⟩:=sK (x:=x) (y:=y) hF (K:=λ v=>v=.bool (cond neg (!r) r)) rfl;exact hr w
  ·cases h
def KZ(P:Program)(op:BinOp)(ty:TypeId)(x y:Operand)(a b:AV):Option AV:=match a with
 | .int k n=>match b with
  | .int k' m=>match op with
   | .shl=>K2 .shl k n m
   | .shr=>K2 .shr k n m
   | op=>cond (Fm k k') (DS op k n m) none
  | _=>none
 | .str l=>match b with
  | .str m=>U9 op l m
  | _=>none
 | a=>match op with
  | .eql=>(Re P ty (Tw x||Tw y) a b).map .bool
  | .neq=>(Re P ty (Tw x||Tw y) a b).map λ b=>.bool (not b)
  | _=>none
theorem Jx{op:BinOp}{k k' : IntKind}{n m:Int}{r:AV}(h:K2 op k n m=some r)(P:Program)(ρ:Names):∃ v,rv ρ r=some v/\∀ w,(Op.shift op k n k' m).run P w=.ok v w:=by
 unfold K2 at h
 cases hm:FG 0 m with
 | false=>rw[hm] at h; cases h
 | true =>
  rw[hm] at h;have hm' : (0:Int)<=m:=by rw[vY] at hm; simpa using hm
  simp only[cond_true] at h
  split at h
  ·cases h
   exact⟨_,by rw[fC]; rfl,λ w=>by simp[Op.shift,Int.not_lt.2 hm',eH]⟩
  ·cases h
   exact⟨_,by rw[fC]; rfl,λ w=>by simp[Op.shift,Int.not_lt.2 hm']⟩
  ·cases h
theorem Q9{op:BinOp}{k:IntKind}{n m:Int}{r:AV}(h:DS op k n m=some r)(P:Program)(ρ:Names)(ty:TypeId):∃ v,rv ρ r=some v/\∀ w,(binOp op ty (.int k n) (.int k m)).run P w=.ok v w:=by
 have hlt:∀ a b:Int,(!FG b a)=decide (a<b):=λ a b=>by rw[vY,Bool.eq_iff_iff]; simp
 cases op<;>simp only[DS] at h
 case add=>cases h; refine⟨_,by rw[fC]; rfl,λ w=>?_⟩; simp[binOp,Op.intArith,eH]
 case sub=>cases h; refine⟨_,by rw[fC]; rfl,λ w=>?_⟩; simp[binOp,Op.intArith,eH]; rfl
 case mul=>cases h; refine⟨_,by rw[fC]; rfl,λ w=>?_⟩; simp[binOp,Op.intArith,eH]
 case quo =>
  cases hb:Mh m 0 with
  | true=>rw[hb] at h; cases h
  | false =>
   rw[hb] at h
   cases h
   have hz:m≠0:=by rw[vX] at hb; simpa using hb
   refine⟨_,by rw[fC]; rfl,λ w=>?_⟩;simp[binOp,Op.intDiv,hz,eH]
 case rem =>
  cases hb:Mh m 0 with
  | true=>rw[hb] at h; cases h
  | false =>
   rw[hb] at h
   cases h
   have hz:m≠0:=by rw[vX] at hb; simpa using hb
   refine⟨_,by rw[fC]; rfl,λ w=>?_⟩;simp[binOp,Op.intDiv,hz]
 case and=>cases h; refine⟨_,by rw[fC]; rfl,λ w=>?_⟩; simp only[binOp,eH]; simp[Op.intBits]
 case or=>cases h; refine⟨_,by rw[fC]; rfl,λ w=>?_⟩; simp only[binOp,eH]; simp[Op.intBits]
 case xor=>cases h; refine⟨_,by rw[fC]; rfl,λ w=>?_⟩; simp only[binOp,eH]; simp[Op.intBits]
 case andNot=>cases h; refine⟨_,by rw[fC]; rfl,λ w=>?_⟩; simp only[binOp,eH]; simp[Op.intBits]
 case shl=>cases h
 case shr=>cases h
 case eql=>cases h; refine⟨_,rfl,λ w=>?_⟩; simp[binOp,Op.intCmp,vX]
 case neq=>cases h; refine⟨_,rfl,λ w=>?_⟩; simp[binOp,Op.intCmp,vX,bne]
 case lss=>cases h; refine⟨_,rfl,λ w=>?_⟩; rw[hlt]; simp[binOp,Op.intCmp]
 case leq=>cases h; refine⟨_,rfl,λ w=>?_⟩; rw[vY]; simp[binOp,Op.intCmp]
 case gtr=>cases h; refine⟨_,rfl,λ w=>?_⟩; rw[hlt]; simp[binOp,Op.intCmp]
 case geq=>cases h; refine⟨_,rfl,λ w=>?_⟩; rw[vY]; simp[binOp,Op.intCmp]
theorem Rl{op:BinOp}{a b:List UInt8}{r:AV}(h:U9 op a b=some r)(P:Program)(ρ:Names)(ty:TypeId):∃ v,rv ρ r=some v/\∀ w,(binOp op ty (.string ⟨a.toArray⟩) (.string ⟨b.toArray⟩)).run P w=.ok v w:=by
 have e1:(⟨a.toArray⟩:ByteArray).size=a.length:=by simp[ByteArray.size]
 have e2:(⟨b.toArray⟩:ByteArray).size=b.length:=by simp[ByteArray.size]
 cases op<;>simp only[U9] at h
 case add =>
  cases hb:Nat.ble (a.length+b.length) 9223372036854775807 with
  | false=>rw[hb] at h; cases h
  | true =>
   rw[hb] at h
   cases h
   have hl:=Nat.le_of_ble_eq_true hb;refine⟨.string (⟨a.toArray⟩++⟨b.toArray⟩),?_,λ w=>?_⟩
   ·simp only[rv]
    congr 2
   ·have hm:IntKind.i64.max=9223372036854775807:=rfl;have hs : ¬ ((((⟨a.toArray⟩:ByteArray).size+(⟨b.toArray⟩:ByteArray).size:Nat):Int)>IntKind.i64.max):=by
     rw[hm,e1,e2];omega
    simp only[binOp,Op.stringOp,if_neg hs,Sem.run_pure]
 case eql=>cases h; exact⟨_,rfl,λ w=>by simp[binOp,Op.stringOp,nr,ByteArray.toList_mk]⟩
 case neq=>cases h; exact⟨_,rfl,λ w=>by simp[binOp,Op.stringOp,nr,ByteArray.toList_mk]⟩
 case lss=>cases h; exact⟨_,rfl,λ w=>by simp[binOp,Op.stringOp,ByteArray.toList_mk]⟩
 case leq=>cases h; exact⟨_,rfl,λ w=>by simp[binOp,Op.stringOp,nr,ByteArray.toList_mk]⟩
 case gtr=>cases h; exact⟨_,rfl,λ w=>by simp[binOp,Op.stringOp,nr,ByteArray.toList_mk]⟩
 case geq=>cases h; exact⟨_,rfl,λ w=>by simp[binOp,Op.stringOp,ByteArray.toList_mk]⟩
 all_goals cases h
theorem HP{P:Program}{op:BinOp}{ty:TypeId}{x y:Operand}{k k' : IntKind}{n m:Int}{w:World}:(eqGuard op ty x y (.int k n) (.int k' m)).run P w=.ok () w:=by
 cases op<;>simp[eqGuard]
theorem FD{P:Program}{op:BinOp}{ty:TypeId}{x y:Operand}{a b:ByteArray}{w:World}:(eqGuard op ty x y (.string a) (.string b)).run P w=.ok () w:=by
 cases op<;>simp[eqGuard]
theorem QW{P:Program}{ρ:Names}{op:BinOp}{ty:TypeId}{x y:Operand}{a b r:AV}{vx vy:Value}(h:KZ P op ty x y a b=some r)(ha:rv ρ a=some vx)(hb:rv ρ b=some vy) :
  jz P ρ (do eqGuard op ty x y vx vy; binOp op ty vx vy) r:=by
 unfold KZ at h
 split at h
 ·rename_i k n
  cases cI ha
  split at h
  ·rename_i k' m
   cases cI hb
   have key:∀ {s:Sem Value},binOp op ty (.int k n) (.int k' m)=s->(∃ v,rv ρ r=some v/\∀ w,s.run P w=.ok v w)->jz P ρ (do eqGuard op ty x y (.int k n) (.int k' m); binOp op ty (.int k n) (.int k' m)) r:=λ {s} he hs=>by
    obtain⟨v,h1,h2⟩:=hs;exact⟨v,h1,λ w=>by simp only[Sem.run_bind,HP,Result.andThen_ok,he,h2]⟩
   split at h
   ·exact key rfl (Jx (k':=k') h P ρ)
   ·exact key rfl (Jx (k':=k') h P ρ)
   ·cases he:Fm k k' with
    | false=>rw[he] at h; cases h
    | true =>
     have:=jM he;subst this;rw[he] at h;exact key rfl (Q9 h P ρ ty)
  ·cases h
 ·rename_i l
  cases gC ha
  split at h
  ·rename_i m
   cases gC hb
   obtain⟨v,h1,h2⟩:=Rl h P ρ ty;exact⟨v,h1,λ w=>by simp only[Sem.run_bind,FD,Result.andThen_ok,h2]⟩
  ·cases h
 ·split at h
  ·simp only[Option.map_eq_some_iff] at h;obtain⟨c,hc,rfl⟩:=h;exact⟨_,rfl,λ w=>Jw hc ha hb false w⟩
  ·simp only[Option.map_eq_some_iff] at h;obtain⟨c,hc,rfl⟩:=h;exact⟨_,rfl,λ w=>Jw hc ha hb true w⟩
  ·cases h
def K1(P:Program)(ty:TypeId)(f:Nat):Option Nat:=match P.underlying ty with
 | some (.struct fs)=>match fs[f]? with
  | some fd=>match dQ P fd.type with
   | some (_+1)=>some fd.offset
   | _=>none
  | none=>none
 | _=>none
theorem Rg{P:Program}{ty:TypeId}{f off b o:Nat}(h:K1 P ty f=some off)(w:World):(Instr.fieldAt ty (.pointer (some ⟨b,o,none⟩)) f).run P w=.ok (.pointer (some ⟨b,o+off,none⟩)) w:=by
 unfold K1 at h
 split at h
 ·rename_i fs hu
  split at h
  ·rename_i fd hf
   split at h
   ·rename_i k hs
    cases h
    simp[Instr.fieldAt,aG hu,hf,Instr.sureAddr,fieldPlace,bZ hs,aZ]
   ·cases h
  ·cases h
 ·cases h
def Nq(P:Program)(ty:TypeId)(a:AV)(f:Nat):Option AV:=match P.underlying ty,a with
 | some (.struct fs),.agg cs=>match fs[f]? with
  | some fd=>xy P fd.type cs fd.offset
  | none=>none
 | _,_=>none
theorem Q7{P:Program}{ρ:Names}{ty:TypeId}{a r:AV}{f:Nat}{v:Value}(h:Nq P ty a f=some r)(ha:rv ρ a=some v):jz P ρ (Instr.field ty v f) r:=by
 unfold Nq at h
 split at h
 ·rename_i fs cs hu
  split at h
  ·rename_i fd hf;obtain⟨vs,hvs,rfl⟩:=nA ha;obtain⟨u,h1,h2⟩:=mh h hvs;exact⟨u,h2,λ w=>by simp[Instr.field,aG hu,hf,asAgg,mj h1]⟩
  ·cases h
 ·cases h
def nu{α:Type}:List α->Nat->Option α
 | [],_=>none
 | a :: _,0=>some a
 | _ :: l,n+1=>nu l n
theorem yK{α:Type}:∀ (l:List α) (i:Nat),nu l i=l[i]?
 | [],_=>rfl
 | _ :: _,0=>rfl
 | _ :: l,i+1=>by rw[List.getElem?_cons_succ]; exact yK l i
def Nr(P:Program)(ty:TypeId)(a i:AV):Option AV:=match i with
 | .int _ (.ofNat n)=>match P.underlying ty,a with
  | some .string,.str l=>match nu l n with
   | some b=>some (.int .u8 (.ofNat b.toNat))
   | none=>none
  | some (.array len e),.agg cs=>match dQ P e with
   | some sz=>cond (Nat.ble (Nat.succ n) len) (xy P e cs (Nat.mul n sz)) none
   | none=>none
  | _,_=>none
 | _=>none
theorem Q8{P:Program}{ρ:Names}{ty:TypeId}{a i r:AV}{v vi:Value}(h:Nr P ty a i=some r)(ha:rv ρ a=some v)(hi:rv ρ i=some vi):jz P ρ (Instr.index ty v vi) r:=by
 unfold Nr at h
 split at h
 ·rename_i k n
  cases cI hi
  split at h
  ·rename_i l hu
   cases gC ha
   split at h
   ·rename_i b hb
    cases h
    refine⟨_,rfl,λ w=>?_⟩;have hb' : (⟨l.toArray⟩:ByteArray)[n]?=some b:=by
     rw[yK] at hb;obtain⟨h1,h2⟩:=List.getElem?_eq_some_iff.1 hb;have:n<(⟨l.toArray⟩:ByteArray).size:=by simpa[ByteArray.size] using h1
     rw[getElem?_pos (⟨l.toArray⟩:ByteArray) n this,<- h2];rfl
    simp[Instr.index,asIntOf,aG hu,hb']
   ·cases h
  ·rename_i len e cs hu
   split at h
   ·rename_i sz hsz
    cases hb:Nat.ble (Nat.succ n) len with
    | false=>rw[hb] at h; cases h
    | true =>
     rw[hb] at h;have hlt:n<len:=Nat.le_of_ble_eq_true hb;obtain⟨vs,hvs,rfl⟩:=nA ha;obtain⟨u,h1,h2⟩:=mh h hvs;have h1:pV P e vs.toArray (n*sz)=some u:=h1;exact⟨u,h2,λ w=>by simp[Instr.index,asIntOf,aG hu,hlt,bZ hsz,mj h1]⟩
   ·cases h
  ·cases h
 ·cases h
def Nt(P:Program)(ty:TypeId)(a i:AV):Option AV:=match i with
 | .int _ (.ofNat n)=>match P.underlying ty,a with
  | some (.slice e),.sli j o l z=>match dQ P e with
   | some sz=>cond (Nat.ble (Nat.succ n) l&&Nat.beq sz z) (some (.ptr j (Nat.mul (Nat.add o n) z))) none
   | none=>none
  | some (.array len e),.ptr j o=>match dQ P e with
   | some sz=>cond (Nat.ble (Nat.succ n) len) (some (.ptr j (Nat.add o (Nat.mul n sz)))) none
   | none=>none
  | _,_=>none
 | _=>none
theorem Ra{P:Program}{ρ:Names}{ty:TypeId}{a i r:AV}{v vi:Value}(h:Nt P ty a i=some r)(ha:rv ρ a=some v)(hi:rv ρ i=some vi):jz P ρ (Instr.indexAt ty v vi) r:=by
 unfold Nt at h
 split at h
 ·rename_i k n
  cases cI hi
  split at h
  ·rename_i e j o l z hu
   split at h
   ·rename_i sz hsz
    cases hb:(Nat.ble (Nat.succ n) l&&Nat.beq sz z) with
    | false=>rw[hb] at h; cases h
    | true =>
     rw[hb] at h
     cases h
     simp only[Bool.and_eq_true] at hb;have hlt:n<l:=Nat.le_of_ble_eq_true hb.1;obtain rfl:=beq_iff.1 hb.2;obtain⟨L,hL,_,_,rfl⟩:=dP ha;refine⟨.pointer (some ⟨L.b,(o+n)*sz,none⟩),?_,λ w=>?_⟩
     ·simp only[rv,hL,Option.map_some]; rfl
     ·have hadd:(⟨L.b,o*sz,none⟩:Addr).add (n*sz)=⟨L.b,(o+n)*sz,none⟩:=by rw[aZ,Nat.add_mul]
      simp[Instr.indexAt,asIntOf,aG hu,hlt,bZ hsz,hadd]
   ·cases h
  ·rename_i len e j o hu
   split at h
   ·rename_i sz hsz
    cases hb:Nat.ble (Nat.succ n) len with
    | false=>rw[hb] at h; cases h
    | true =>
     rw[hb] at h
     cases h
     have hlt:n<len:=Nat.le_of_ble_eq_true hb;obtain⟨L,hL,rfl⟩:=gB ha;refine⟨.pointer (some ⟨L.b,o+n*sz,none⟩),?_,λ w=>?_⟩
     ·simp only[rv,hL,Option.map_some]; rfl
     ·simp[Instr.indexAt,Instr.sureAddr,asIntOf,aG hu,hlt,bZ hsz,aZ]
   ·cases h
  ·cases h
 ·cases h
def Bu(x:Option AV)(d top:Nat):Option Nat:=match x with
 | none=>some d
 | some (.int _ (.ofNat n))=>cond (Nat.ble n top) (some n) none
 | some _=>none
theorem qT{ρ:Names}{x:Option AV}{vx:Option Value}{d top n:Nat}{F:Nat->Prop}(h:Bu x d top=some n)(hx:∀ a,x=some a->∃ v,vx=some v/\rv ρ a=some v)(hn:x=none->vx=none)(k:F n){top' : Nat}(ht:top<=top') :
  oA vx d top' F:=by
 unfold Bu at h
 split at h
 ·cases h
  rw[hn rfl];exact k
 ·rename_i kk m
  cases hb:Nat.ble m top with
  | false=>rw[hb] at h; cases h
  | true =>
   rw[hb] at h
   cases h
   obtain⟨v,rfl,hv⟩:=hx _ rfl
   cases cI hv
   refine⟨by simp,?_,by simpa using k⟩;have:=Nat.le_of_ble_eq_true hb;simp only[Int.ofNat_eq_natCast];omega
 ·cases h
theorem uy{x:Option AV}{d top n:Nat}(h:Bu x d top=some n)(hd:d<=top):n<=top:=by
 unfold Bu at h
 split at h
 ·cases h; exact hd
 ·rename_i kk m
  cases hb:Nat.ble m top with
  | false=>rw[hb] at h; cases h
  | true=>rw[hb] at h; cases h; exact Nat.le_of_ble_eq_true hb
 ·cases h
def U8(P:Program)(ty:TypeId)(a:AV)(lo hi:Option AV):Option AV:=match P.underlying ty,a with
 | some .string,.str s=>match Bu hi s.length s.length with
  | some h=>match Bu lo 0 h with
   | some l=>some (.str ((s.drop l).take (Nat.sub h l)))
   | none=>none
  | none=>none
 | some (.slice e),.sli i o len z=>match dQ P e,Bu hi len len with
  | some sz,some h=>match Bu lo 0 h with
   | some l=>cond (Nat.beq sz z&&(Nat.beq l 0||Nat.ble (Nat.succ l) len)) (some (.sli i (Nat.add o l) (Nat.sub h l) z)) none
   | none=>none
  | _,_=>none
 | some (.slice e),.nils=>match dQ P e,Bu hi 0 0 with
  | some _,some h=>match Bu lo 0 h with
   | some _=>some .nils
   | none=>none
  | _,_=>none
 | _,_=>none
theorem Rj{P:Program}{ρ:Names}{ty:TypeId}{a r:AV}{lo hi:Option AV}{v:Value}{vlo vhi:Option Value}(h:U8 P ty a lo hi=some r)(ha:rv ρ a=some v)(hlo:∀ a,lo=some a->∃ v,vlo=some v/\rv ρ a=some v)(hlo0:lo=none->vlo=none)(hhi:∀ a,hi=some a->∃ v,vhi=some v/\rv ρ a=some v)(hhi0:hi=none->vhi=none):jz P ρ (Instr.sliceAt ty v vlo vhi none) r:=by
 have key:∀ u,rv ρ r=some u->Wc P ty v vlo vhi none (λ x=>x=u)->jz P ρ (Instr.sliceAt ty v vlo vhi none) r:=λ u hu hs=>by
  obtain⟨x,hr,rfl⟩:=Ke hs;exact⟨x,hu,hr⟩
 unfold U8 at h
 split at h
 ·rename_i s hu
  cases gC ha
  split at h
  ·rename_i hh hhe
   split at h
   ·rename_i l hle
    cases h
    refine key _ rfl ?_;unfold Wc;simp only[hu];have hs:(⟨s.toArray⟩:ByteArray).size=s.length:=by simp[ByteArray.size]
    rw[hs];refine qT hhe hhi hhi0 (qT hle hlo hlo0 ?_ (Nat.le_refl _)) (Nat.le_refl _)
    congr 1
    apply ByteArray.ext;have h1:=uy hhe (Nat.le_refl _);simp only[ByteArray.data_extract];simp[List.extract_eq_take_drop]
    try rfl
   ·cases h
  ·cases h
 ·rename_i e i o len z hu
  split at h
  ·rename_i sz hh hsz hhe
   split at h
   ·rename_i l hle
    cases hb:(Nat.beq sz z&&(Nat.beq l 0||Nat.ble (Nat.succ l) len)) with
    | false=>rw[hb] at h; cases h
    | true =>
     rw[hb] at h
     cases h
     simp only[Bool.and_eq_true,Bool.or_eq_true] at hb;obtain rfl:=beq_iff.1 hb.1;obtain⟨L,hL,hle1,hesz,rfl⟩:=dP ha;have h1:=uy hhe (Nat.le_refl _);have h2:=uy hle (Nat.zero_le _);refine key (.slice (some ⟨L.b,(o+l)*sz,none⟩) (hh-l) (L.tot-(o+l))) ?_ ?_
     ·have e1:Nat.add o l=o+l:=rfl;have e2:Nat.sub hh l=hh-l:=rfl;simp only[rv,hL,Option.bind_some,e1,e2];rw[if_pos ⟨by omega,hesz⟩]
     ·unfold Wc;simp only[hu,Option.isSome_none,Bool.false_and,cond_false,hsz,av];show oA vhi len (L.tot-o) (λ h=>oA vlo 0 h λ l_1=>Value.slice (if (L.tot-o)=l_1 then some (⟨L.b,o*sz,none⟩:Addr) else Option.map (λ x:Addr=>x.add (l_1*sz)) (some (⟨L.b,o*sz,none⟩:Addr))) (h-l_1) (L.tot-o-l_1)=Value.slice (some (⟨L.b,(o+l)*sz,none⟩:Addr)) (hh-l) (L.tot-(o+l)));refine qT hhe hhi hhi0 (qT hle hlo hlo0 ?_ (Nat.le_refl _)) (by omega);have hc:(L.tot-o-l)=L.tot-(o+l):=by omega
      rw[hc]
      congr 1
      rcases hb.2 with h0|h0
      ·have:=beq_iff.1 h0;subst this
       split
       ·simp
       ·simp[aZ]
      ·have:=Nat.le_of_ble_eq_true h0;rw[if_neg (by omega)];simp[aZ,Nat.add_mul]
   ·cases h
  ·cases h
 ·rename_i e hu
  cases ha
  split at h
  ·rename_i sz hh hsz hhe
   split at h
   ·rename_i l hle
    cases h
    have h1:=uy hhe (Nat.le_refl _);have h2:=uy hle (Nat.zero_le _);have e1:hh=0:=by omega
    have e2:l=0:=by omega
    subst e1 e2;refine key (.slice none 0 0) rfl ?_;unfold Wc;simp only[hu,Option.isSome_none,Bool.false_and,cond_false,hsz,av];show oA vhi 0 0 (λ h=>oA vlo 0 h λ l=>Value.slice (if 0=l then none else Option.map (λ x:Addr=>x.add (l*sz)) none) (h-l) (0-l)=Value.slice none 0 0);exact qT hhe hhi hhi0 (qT hle hlo hlo0 (by simp) (Nat.le_refl _)) (Nat.le_refl _)
   ·cases h
  ·cases h
 ·cases h
def setAt{α:Type}:List α->Nat->List α->List α
 | [],_,_=>[]
 | x :: l,0,[]=>x :: l
 | _ :: l,0,c :: cs=>c :: setAt l 0 cs
 | x :: l,n+1,cs=>x :: setAt l n cs
theorem mz{α:Type}:∀ (l:List α) (n:Nat),setAt l n []=l
 | [],_=>rfl
 | _ :: _,0=>rfl
 | _ :: l,n+1=>by simp[setAt,mz l n]
theorem AN{α:Type}:∀ (l:List α) (n:Nat) (c:α) (cs:List α),setAt l n (c :: cs)=setAt (l.set n c) (n+1) cs
 | [],_,_,_=>rfl
 | _ :: _,0,_,_=>rfl
 | x :: l,n+1,c,cs=>by simp[setAt,AN l n c cs]
theorem dG{α:Type}:∀ (l:List α) (n:Nat) (cs:List α),(setAt l n cs).length=l.length
 | [],_,_=>rfl
 | _ :: _,0,[]=>rfl
 | _ :: l,0,_ :: cs=>by simp[setAt,dG l 0 cs]
 | _ :: l,n+1,cs=>by simp[setAt,dG l n cs]
theorem u7{α:Type}:∀ (l:List α) (n:Nat) (cs:List α),n+cs.length<=l.length->setAt l n cs=l.take n++cs++l.drop (n+cs.length)
 | [],n,cs,h=>by
  have h:n+cs.length<=0:=h;obtain⟨rfl,h2⟩:n=0/\cs.length=0:=by omega
  have:cs=[]:=List.eq_nil_of_length_eq_zero h2;subst this;rfl
 | _ :: _,0,[],_=>by simp[setAt]
 | _ :: l,0,_ :: cs,h=>by
  simp at h;simp[setAt,u7 l 0 cs (by simpa using h)]
 | _ :: l,n+1,cs,h=>by
  simp at h;rw[setAt,u7 l n cs (by omega),show n+1+cs.length=(n+cs.length)+1 by omega]
  simp
theorem nC{α:Type}:∀ (l:List α) (n:Nat) (cs:List α) (m:Nat),n+cs.length<=m->(setAt l n cs).take m=setAt (l.take m) n cs
 | [],_,_,_,_=>by simp[setAt]
 | _ :: _,0,[],m,_=>by simp[mz]
 | _ :: l,0,_ :: cs,m,h=>by
  simp at h;obtain⟨m',rfl⟩:∃ m',m=m' + 1:=⟨m-1,by omega⟩;simp[setAt,nC l 0 cs m' (by omega)]
 | _ :: l,n+1,cs,m,h=>by
  obtain⟨m',rfl⟩:∃ m',m=m' + 1:=⟨m-1,by omega⟩;simp[setAt,nC l n cs m' (by omega)]
theorem mA{ρ:Names}:∀ {l:List AV} {vs:List Value} (n:Nat) {cs:List AV} {us:List Value},eN ρ l=some vs->eN ρ cs=some us->eN ρ (setAt l n cs)=some (setAt vs n us)
 | [],_,_,_,_,h,_=>by cases h; rfl
 | x :: l,vs,0,[],us,h,k=>by
  cases k
  rw[mz,mz]; exact h
 | x :: l,vs,0,c :: cs,us,h,k=>by
  obtain⟨v,vs',rfl,h1,h2⟩:=aP h;obtain⟨u,us',rfl,k1,k2⟩:=aP k;exact fH k1 (mA 0 h2 k2)
 | x :: l,vs,n+1,cs,us,h,k=>by
  obtain⟨v,vs',rfl,h1,h2⟩:=aP h;exact fH h1 (mA n h2 k)
def cG:AV->List AV
 | .agg cs=>cs
 | v=>[v]
theorem jt{ρ:Names}{a:AV}{v:Value}(h:rv ρ a=some v):eN ρ (cG a)=some v.cells.toList:=by
 cases a with
 | agg cs =>
  obtain⟨vs,hvs,rfl⟩:=nA h;simpa[cG,Value.cells] using hvs
 | int k n=>cases cI h; rfl
 | bool b=>cases gA h; rfl
 | str l=>cases gC h; rfl
 | nilp=>cases h; rfl
 | nils=>cases h; rfl
 | nili=>cases h; rfl
 | nilf=>cases h; rfl
 | ptr i o=>obtain⟨L,hL,rfl⟩:=gB h; exact fH h rfl
 | sli i o l z=>obtain⟨L,hL,_,_,rfl⟩:=dP h; exact fH h rfl
 | iface T x =>
  have h':=h;simp only[rv,Option.map_eq_some_iff] at h';obtain⟨u,_,rfl⟩:=h';exact fH h rfl
 | fn f x y =>
  have h':=h;simp only[rv] at h'
  split at h'
  ·cases h'; exact fH h rfl
  ·cases h'
 | yld i =>
  have h':=h;simp only[rv,Option.map_eq_some_iff] at h';obtain⟨u,_,rfl⟩:=h';exact fH h rfl
 | tup vs=>obtain⟨us,_,rfl⟩:=Iz h; exact fH h rfl
def wP(place:Nat->Option (Nat×Nat))(cells:List AV):List (Nat×AV)->Option (List AV)
 | []=>some cells
 | (i,v) :: rest=>match place i with
  | none=>none
  | some (off,size)=>cond (Nat.beq (cG v).length size&&Nat.ble (Nat.add off (cG v).length) cells.length) (wP place (setAt cells off (cG v)) rest) none
theorem Kv(l:List Value):∀ (cs:List Value) (off j:Nat) ,((cs.zipIdx j).foldl (λ (a:Array Value) (x:Value×Nat)=>a.setIfInBounds (off+x.2) x.1) l.toArray)=(setAt l (off+j) cs).toArray
 | [],off,j=>by simp[mz]
 | c :: cs,off,j=>by
  simp only[List.zipIdx_cons,List.foldl_cons,AN];have:l.toArray.setIfInBounds (off+j) c=(l.set (off+j) c).toArray:=by simp
  rw[this,Kv (l.set (off+j) c) cs off (j+1)];rfl
def As(ρ:Names):List (Nat×AV)->List (Nat×Value)->Prop
 | [],[]=>True
 | p :: ps,q :: qs=>p.1=q.1/\rv ρ p.2=some q.2/\As ρ ps qs
 | _,_=>False
theorem tP{ρ:Names}{place:Nat->Option (Nat×Nat)}:∀ {ps:List (Nat×AV)} {qs:List (Nat×Value)} {cells res:List AV} {vs:List Value},wP place cells ps=some res->eN ρ cells=some vs->As ρ ps qs ->
  ∃ us,eN ρ res=some us/\Instr.fill place vs.toArray qs=some us.toArray
 | [],[],cells,res,vs,h,hv,_=>by cases h; exact⟨vs,hv,rfl⟩
 | [],_ :: _,_,_,_,_,_,hp=>hp.elim
 | _ :: _,[],_,_,_,_,_,hp=>hp.elim
 | (i,a) :: ps,(j,v) :: qs,cells,res,vs,h,hv,hp=>by
  obtain⟨rfl,ha,hp⟩:=hp;simp only[wP] at h;unfold Instr.fill
  split at h
  ·cases h
  ·rename_i off size hpl;simp only at hpl ha;simp only[hpl]
   cases hb:(Nat.beq (cG a).length size&&Nat.ble (Nat.add off (cG a).length) cells.length) with
   | false=>rw[hb] at h; cases h
   | true =>
    rw[hb] at h;simp only[Bool.and_eq_true] at hb;have h1:=beq_iff.1 hb.1;have h2:off+(cG a).length<=cells.length:=Nat.le_of_ble_eq_true hb.2;have hc:=jt ha;have hcl:=bC hc;have hvl:=bC hv;have hcl' : v.cells.size=size:=by rw[<- h1,<- hcl]; simp
    have hno : ¬ (v.cells.size≠size||decide (off+v.cells.size>vs.toArray.size))=true:=by
     simp[hcl'];rw[<- h1,hvl]; omega
    rw[if_neg hno];have hz:(v.cells.zipIdx.foldl (λ (cs:Array Value) (x:Value×Nat)=>cs.setIfInBounds (off+x.2) x.1) vs.toArray)=(setAt vs off v.cells.toList).toArray:=by
     have:=Kv vs v.cells.toList off 0;rw[Nat.add_zero] at this;rw[<- this,<- Array.foldl_toList]
     congr 1
     simp
    obtain⟨us,h3,h4⟩:=tP (ps:=ps) (qs:=qs) h (mA off hv hc) hp;exact⟨us,h3,by rw[<- h4,<- hz]⟩
def xJ(P:Program)(t:TypeId):Option AV:=match P.info? t with
 | some i=>match i.zero with
  | some v=>Xu v
  | none=>none
 | none=>none
theorem vB{P:Program}{t:TypeId}{a:AV}(h:xJ P t=some a)(ρ:Names):∃ v,rv ρ a=some v/\(∃ i,P.info? t=some i/\i.zero=some v)/\∀ w,(zeroValue t).run P w=.ok v w:=by
 unfold xJ at h
 split at h
 ·rename_i i hi
  split at h
  ·rename_i v hz;exact⟨v,Oj h,⟨i,hi,hz⟩,λ w=>by simp[zeroValue,typeInfo,hi,hz]⟩
  ·cases h
 ·cases h
def OB(P:Program):List Field->Option (List (Nat×Nat))
 | []=>some []
 | f :: fs=>match dQ P f.type,OB P fs with
  | some s,some l=>some ((f.offset,s) :: l)
  | _,_=>none
theorem J1{P:Program}{w:World}:∀ {fs:List Field} {l:List (Nat×Nat)},OB P fs=some l->(fs.mapM λ f=>(do pure (f.offset,<- sizeOf f.type):Sem (Nat×Nat))).run P w=.ok l w
 | [],l,h=>by cases h; simp
 | f :: fs,l,h=>by
  simp only[OB] at h
  cases hs:dQ P f.type with
  | none=>rw[hs] at h; cases h
  | some s =>
   cases hl:OB P fs with
   | none=>rw[hs,hl] at h; cases h
   | some l' =>
    rw[hs,hl] at h
    cases h
    have ih:=J1 (w:=w) hl;simp only[List.mapM_cons,Sem.run_bind,bZ hs,Sem.run_pure,Result.andThen_ok,ih]
def Nn(P:Program)(ty:TypeId)(ps:List (Nat×AV)):Option AV:=match xJ P ty with
 | some z=>match P.underlying ty with
  | some (.struct fs)=>match OB P fs.toList with
   | some pl=>(wP (λ i=>nu pl i) (cG z) ps).map .agg
   | none=>none
  | some (.array _ e)=>match dQ P e with
   | some sz=>(wP (λ i=>some (Nat.mul i sz,sz)) (cG z) ps).map .agg
   | none=>none
  | _=>none
 | none=>none
theorem QX{P:Program}{ρ:Names}{ty:TypeId}{ps:List (Nat×AV)}{qs:Array (Nat×Value)}{r:AV}(h:Nn P ty ps=some r)(hp:As ρ ps qs.toList):jz P ρ (Instr.build ty qs) r:=by
 unfold Nn at h
 split at h
 ·rename_i z hz;obtain⟨v,hv,_,hzr⟩:=vB hz ρ;have hvc:=jt hv
  split at h
  ·rename_i fs hu
   split at h
   ·rename_i pl hpl;simp only[Option.map_eq_some_iff] at h;obtain⟨res,hres,rfl⟩:=h;obtain⟨us,h1,h2⟩:=tP hres hvc hp;refine⟨.agg us.toArray,by simp only[rv,h1,Option.map_some],λ w=>?_⟩;have hm:(fs.mapM λ f=>(do pure (f.offset,<- sizeOf f.type):Sem (Nat×Nat))).run P w=.ok pl.toArray w:=by
     rw[Array.mapM_eq_mapM_toList];simp only[Sem.run_map,J1 hpl,Result.andThen_ok]
    have h2' : Instr.fill (λ x=>pl.toArray[x]?) v.cells qs.toList=some us.toArray:=by
     rw[<- h2]
     congr 1
     ·funext x; rw[yK]; simp
    simp only[Instr.build,Sem.run_bind,hzr,aG hu,Result.andThen_ok,hm,h2']
    simp
   ·cases h
  ·rename_i n e hu
   split at h
   ·rename_i sz hsz;simp only[Option.map_eq_some_iff] at h;obtain⟨res,hres,rfl⟩:=h;obtain⟨us,h1,h2⟩:=tP hres hvc hp;refine⟨.agg us.toArray,by simp only[rv,h1,Option.map_some],λ w=>?_⟩;have h2' : Instr.fill (λ i=>some (i*sz,sz)) v.cells qs.toList=some us.toArray:=by
     rw[<- h2]; rfl
    simp only[Instr.build,Sem.run_bind,hzr,aG hu,bZ hsz,Result.andThen_ok,h2']
    simp
   ·cases h
  ·cases h
 ·cases h
def xO(e:Tr AV):List (Nat×Operand)->Option (List (Nat×AV))
 | []=>some []
 | (i,x) :: l=>match fN e x,xO e l with
  | some a,some az=>some ((i,a) :: az)
  | _,_=>none
theorem C5{ρ:Names}{e:Tr AV}{t:Tm}(he:eZ ρ e t):∀ {l:List (Nat×Operand)} {az:List (Nat×AV)},xO e l=some az->As ρ az (l.map λ x=>(x.1,ev t x.2))
 | [],_,h=>by cases h; trivial
 | (i,x) :: l,az,h=>by
  simp only[xO] at h
  cases ha:fN e x with
  | none=>rw[ha] at h; cases h
  | some a =>
   cases hl:xO e l with
   | none=>rw[ha,hl] at h; cases h
   | some bs =>
    rw[ha,hl] at h
    cases h
    exact⟨rfl,bp he ha,C5 he hl⟩
def K0(P:Program)(ty:TypeId)(a:AV):Option AV:=match P.underlying ty,a with
 | some .string,.str s=>some (.int .i64 (.ofNat s.length))
 | some (.slice _),.sli _ _ l _=>some (.int .i64 (.ofNat l))
 | some (.slice _),.nils=>some (.int .i64 (.ofNat 0))
 | some (.array n _),_=>some (.int .i64 (.ofNat n))
 | some (.pointer b),_=>match P.underlying b with
  | some (.array n _)=>some (.int .i64 (.ofNat n))
  | _=>none
 | _,_=>none
theorem Rb{P:Program}{ρ:Names}{ty dst:TypeId}{a r:AV}{v:Value}{tys:Array TypeId}(h:K0 P ty a=some r)(ha:rv ρ a=some v)(ht:tys[0]?=some ty):jz P ρ (Builtin.len_ tys dst #[v]) r:=by
 unfold K0 at h
 split at h
 ·rename_i s hu
  cases gC ha; cases h
  refine⟨_,rfl,λ w=>?_⟩;have hs:(⟨s.toArray⟩:ByteArray).size=s.length:=by simp[ByteArray.size]
  simp[Builtin.len_,ht,aG hu,hs,goInt]
 ·rename_i e i o l z hu;obtain⟨L,_,_,_,rfl⟩:=dP ha
  cases h
  exact⟨_,rfl,λ w=>by simp[Builtin.len_,ht,aG hu,goInt]⟩
 ·rename_i e hu
  cases ha; cases h
  exact⟨_,rfl,λ w=>by simp[Builtin.len_,ht,aG hu,goInt]⟩
 ·rename_i n e hu
  cases h
  exact⟨_,rfl,λ w=>by simp[Builtin.len_,ht,aG hu,goInt]⟩
 ·rename_i b hu
  split at h
  ·rename_i n e hb
   cases h
   exact⟨_,rfl,λ w=>by simp[Builtin.len_,ht,aG hu,aG hb,goInt]⟩
  ·cases h
 ·cases h
def W9(mx:Bool):AV->List AV->Option AV
 | a,[]=>some a
 | a,b :: l=>match a,b with
  | .int k x,.int _ y=>W9 mx (.int k (cond mx (cond (FG y x) x y) (cond (FG x y) x y))) l
  | _,_=>none
theorem HO{P:Program}{ρ:Names}{mx:Bool}:∀ {l:List AV} {a r:AV} {vs:List Value} {v:Value},W9 mx a l=some r->rv ρ a=some v->eN ρ l=some vs ->
  ∃ u,rv ρ r=some u/\∀ w,(vs.foldlM (cond mx Builtin.max2 Builtin.min2) v).run P w=.ok u w
 | [],a,r,vs,v,h,ha,hl=>by
  cases h; cases hl
  exact⟨v,ha,λ w=>by simp⟩
 | b :: l,a,r,vs,v,h,ha,hl=>by
  obtain⟨vb,vs',rfl,hb,hl'⟩:=aP hl;unfold W9 at h
  split at h
  ·rename_i k x k' y
   cases cI ha; cases cI hb
   obtain⟨u,h1,h2⟩:=HO (P:=P) h rfl hl';refine⟨u,h1,λ w=>?_⟩;rw[List.foldlM_cons,Sem.run_bind];have h3:((cond mx Builtin.max2 Builtin.min2) (.int k x) (.int k' y)).run P w=.ok (.int k (cond mx (cond (FG y x) x y) (cond (FG x y) x y))) w:=by
    cases mx with
    | true =>
     simp only[cond_true,Builtin.max2,Sem.run_pure,vY]
     by_cases hc:y<=x
     ·simp[hc,Int.not_lt.2 hc]
     ·simp[hc,Int.not_le.1 hc]
    | false =>
     simp only[cond_false,Builtin.min2,Sem.run_pure,vY]
     by_cases hc:x<=y
     ·simp[hc,Int.not_lt.2 hc]
     ·simp[hc,Int.not_le.1 hc]
   rw[h3];exact h2 w
  ·cases h

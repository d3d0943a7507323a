import Derived.Test.YtbnolaiklhbkkaaGreatDoorTie
import Derived.Test.YtbnolaiklhbkkaaGreatDoorCards
import Derived.DataReads
import Derived.ProofKit
import Derived.ChangeOld
import Derived.ChangeSlices
import Derived.Below
import Derived.Lay
import Derived.Lib.SmallJoins
import Derived.Lib.LaidTab
import Derived.ChangeSame
import Derived.ChangeVars
import Derived.JoinedOf
import Derived.LaidLaws
import Derived.LaidHandle
import Derived.Stop.Joined
import Derived.Stop.LaidErr
import Derived.SevenTiedAt
import Derived.Test.YtbnolaiklhbkkaaGreatDoorG13
set_option linter.unusedVariables false
set_option maxRecDepth 100000
namespace Go.Proofs.YtbnolaiklhbkkaaGreatDoor
open Go Go.Vc _root_.Go.Proofs.Tryz
def HS(a:OA)(b c:Nat)(d:OA)(e f:Nat)(g:OA)(h i:Nat)(j:OA)(k l:Nat)(m:OA)(n o:Nat)(p:OA)(q r:Nat)(s:OA)(t u:Nat)(v:OA)(x y:Nat)(w:World)(K:KP):=aq w (.cells #[.slice a b c,.slice d e f,.slice g h i,.slice j k l] 27) λ a b=>aq b (.cells #[.slice m n o,.slice p q r,.slice s t u,.slice v x y] 27) λ b c=>∃ d:Bool->qW,(∀ e f,d f e->∀ g:qv,cond f (K (.bool false) e) (∃ f:Int->qN,(∃ g,f 0 e g)/\∀ e g h,f h e g->∀ i:qv,∃ i j k,e.cell? (qd a 0)=some (.slice i j k)/\cond (decide (h<(j:Int))) (∃ i j k,e.drew.cell? (qd a 0)=some (.slice i j k)/\an i λ i=>0<=h/\h<(j:Int)/\∃ j k l m n,af e.drew (Addr.add i ((h).toNat*5)) 0 [.string j,iv k,iv l,iv m,iv n]/\∃ i o p,e.drew.cell? (qd b 0)=some (.slice i o p)/\an i λ i=>0<=h/\h<(o:Int)/\∃ o p q r s,af e.drew (Addr.add i ((h).toNat*5)) 0 [.string o,iv p,iv q,iv r,iv s]/\cond (!((j==o)&&((k==p)&&((l==q)&&((m==r)&&((n==s)&&true)))))) (K (.bool false) e.drew) (∃ i,i<g/\f (IntKind.i64.wrap (h+1)) e.drew i)) (∃ f:Int->qN,(∃ g,f 0 e g)/\∀ e g h,f h e g->∀ i:qv,∃ i j k,e.cell? (qd a 1)=some (.slice i j k)/\cond (decide (h<(j:Int))) (∃ i j k,e.drew.cell? (qd a 1)=some (.slice i j k)/\an i λ i=>0<=h/\h<(j:Int)/\∃ j k l m,af e.drew (Addr.add i ((h).toNat*4)) 0 [.string j,iv k,iv l,iv m]/\∃ i n o,e.drew.cell? (qd b 1)=some (.slice i n o)/\an i λ i=>0<=h/\h<(n:Int)/\∃ n o p q,af e.drew (Addr.add i ((h).toNat*4)) 0 [.string n,iv o,iv p,iv q]/\cond (!((j==n)&&((k==o)&&((l==p)&&((m==q)&&true))))) (K (.bool false) e.drew) (∃ i,i<g/\f (IntKind.i64.wrap (h+1)) e.drew i)) (∃ f:Int->qN,(∃ g,f 0 e g)/\∀ e g h,f h e g->∀ i:qv,∃ i j k,e.cell? (qd a 2)=some (.slice i j k)/\cond (decide (h<(j:Int))) (∃ i j k,e.drew.cell? (qd a 2)=some (.slice i j k)/\an i λ i=>0<=h/\h<(j:Int)/\∃ j k l,af e.drew (Addr.add i ((h).toNat*3)) 0 [iv j,iv k,iv l]/\∃ i m n,e.drew.cell? (qd b 2)=some (.slice i m n)/\an i λ i=>0<=h/\h<(m:Int)/\∃ m n o,af e.drew (Addr.add i ((h).toNat*3)) 0 [iv m,iv n,iv o]/\cond (!((j==m)&&((k==n)&&((l==o)&&true)))) (K (.bool false) e.drew) (∃ i,i<g/\f (IntKind.i64.wrap (h+1)) e.drew i)) (∃ f:Int->qN,(∃ g,f 0 e g)/\∀ e g h,f h e g->∀ i:qv,∃ i j k,e.cell? (qd a 3)=some (.slice i j k)/\cond (decide (h<(j:Int))) (∃ i j k,e.drew.cell? (qd a 3)=some (.slice i j k)/\an i λ i=>0<=h/\h<(j:Int)/\∃ j k l,af e.drew (Addr.add i ((h).toNat*3)) 0 [iv j,iv k,iv l]/\∃ i m n,e.drew.cell? (qd b 3)=some (.slice i m n)/\an i λ i=>0<=h/\h<(m:Int)/\∃ m n o,af e.drew (Addr.add i ((h).toNat*3)) 0 [iv m,iv n,iv o]/\cond (!((j==m)&&((k==n)&&((l==o)&&true)))) (K (.bool false) e.drew) (∃ i,i<g/\f (IntKind.i64.wrap (h+1)) e.drew i)) (K (.bool true) e))))))/\∃ e f g,c.cell? (qd a 0)=some (.slice e f g)/\∃ e g h,c.cell? (qd b 0)=some (.slice e g h)/\cond ((f:Int) !=(g:Int)) (d true c) (∃ e f g,c.cell? (qd a 1)=some (.slice e f g)/\∃ e g h,c.cell? (qd b 1)=some (.slice e g h)/\cond ((f:Int) !=(g:Int)) (d true c) (∃ e f g,c.cell? (qd a 2)=some (.slice e f g)/\∃ e g h,c.cell? (qd b 2)=some (.slice e g h)/\cond ((f:Int) !=(g:Int)) (d true c) (∃ e f g,c.cell? (qd a 3)=some (.slice e f g)/\∃ a e g,c.cell? (qd b 3)=some (.slice a e g)/\d ((f:Int) !=(e:Int)) c)))
theorem Gd{a1 l1 c1 a2 l2 c2 a3 l3 c3 a4 l4 c4 a5 l5 c5 a6 l6 c6 a7 l7 c7 a8 l8 c8 w K}(h:HS a1 l1 c1 a2 l2 c2 a3 l3 c3 a4 l4 c4 a5 l5 c5 a6 l6 c6 a7 l7 c7 a8 l8 c8 w K):CP 12 #[.agg #[.slice a1 l1 c1,.slice a2 l2 c2,.slice a3 l3 c3,.slice a4 l4 c4],.agg #[.slice a5 l5 c5,.slice a6 l6 c6,.slice a7 l7 c7,.slice a8 l8 c8]] w K:=ah (aA [(6,[(42,.s .bool)]),(58,[(5,.s (.int .i64))]),(122,[(6,.s (.int .i64))]),(250,[(7,.s (.int .i64))]),(506,[(8,.s (.int .i64))])]) func12 (by kernel_rfl) (by kernel_rfl) h
def iV(a:OA)(b c:Nat)(d:OA)(e f:Nat)(g:OA)(h i:Nat)(j:OA)(k l:Nat)(m n o p:Int)(q:OA)(r s:Nat)(w:World)(K:KP):=aq w (.cells #[.slice a b c,.slice d e f,.slice g h i,.slice j k l] 27) λ a b=>aq b (.cells #[iv m,iv n,iv o,iv p] 29) λ b c=>∃ d e f g h i j k l m n o,af c (qd a 0) 0 [.slice d e f,.slice g h i,.slice j k l,.slice m n o]/\CC 4 #[.agg #[.slice d e f,.slice g h i,.slice j k l,.slice m n o],.slice q r s] c λ c d=>∃ e,c=.returned (.bool e)/\cond (!e) (CC 5 #[] d λ c e=>∃ f,c=.returned (.bool f)/\K (.bool f) e) (∃ c e f g h i j k l m n o,af d (qd a 0) 0 [.slice c e f,.slice g h i,.slice j k l,.slice m n o]/\∃ p t u v,af d (qd b 0) 0 [iv p,iv t,iv u,iv v]/\CC 6 #[.agg #[.slice c e f,.slice g h i,.slice j k l,.slice m n o],.agg #[iv p,iv t,iv u,iv v],.slice q r s] d λ c d=>∃ e f g h,c=.returned (.tuple #[.slice e f g,iv h])/\∃ c g i j k l m n o p t u,af d (qd a 0) 0 [.slice c g i,.slice j k l,.slice m n o,.slice p t u]/\∃ v x y z,af d (qd b 0) 0 [iv v,iv x,iv y,iv z]/\CC 7 #[.agg #[.slice c g i,.slice j k l,.slice m n o,.slice p t u],.agg #[iv v,iv x,iv y,iv z],.slice q r s] d λ c d=>∃ g i,c=.returned (.tuple #[.pointer g,iv i])/\∃ c:Bool->qW,(∀ j k,c k j->∀ l:qv,cond k (cond (h==i) (cond ((f:Int)==(0:Int)) (CC 5 #[] j λ k l=>∃ m,k=.returned (.bool m)/\K (.bool m) l) (K (.bool false) j)) (K (.bool false) j)) (∃ k l m n,af j (qd b 0) 0 [iv k,iv l,iv m,iv n]/\CC 8 #[.agg #[iv k,iv l,iv m,iv n]] j λ b j=>∃ k,b=.returned (.pointer k)/\∃ b:Bool->qW,(∀ l m,b m l->∀ n:qv,cond m (K (.bool false) l) (∃ m:Int->qN,(∃ n,m 0 l n)/\∀ l n o,m o l n->∀ p:qv,cond (decide (o<(f:Int))) (an e λ e=>0<=o/\o<(f:Int)/\∃ f p q,∃ r:I6,∃ s t,af l (Addr.add e ((o).toNat*11)) 0 (iv f :: iv p :: iv q :: r.on [.string s,.int .u64 t])/\CC 9 #[.pointer k,.agg (iv f :: iv p :: iv q :: r.on [.string s,.int .u64 t]:List Value).toArray] l λ e f=>∃ p,e=.returned (iv p)/\cond (p !=0) (K (.bool false) f) (∃ e,e<n/\m (IntKind.i64.wrap (o+1)) f e)) (CC 10 #[.pointer k] l λ e f=>∃ l,e=.returned (.pointer l)/\cond (!(l).isNone) (CC 11 #[.pointer k] f.drew λ e m=>∃ n,e=.returned (iv n)/\cond (n==2) (∃ e n o p q r s t u v x y,af m (qd a 0) 0 [.slice e n o,.slice p q r,.slice s t u,.slice v x y]/\CC 13 #[.pointer k] m λ z A=>∃ B C D E F G H I J L M N,z=.returned (.agg #[.slice B C D,.slice E F G,.slice H I J,.slice L M N])/\af A (qd a 0) 0 [.slice e n o,.slice p q r,.slice s t u,.slice v x y]/\CC 12 #[.agg #[.slice B C D,.slice E F G,.slice H I J,.slice L M N],.agg #[.slice e n o,.slice p q r,.slice s t u,.slice v x y]] A λ a e=>∃ n,a=.returned (.bool n)/\cond n (CC 14 #[.pointer l] e λ a n=>∃ o:I6,a=.returned (.agg o.vs.toArray)/\CC 14 #[.pointer g] n λ a n=>∃ p:I6,a=.returned (.agg p.vs.toArray)/\cond (I6.beq o p) (CC 16 #[.pointer l] n λ a l=>∃ o p q,a=.returned (.slice o p q)/\CC 16 #[.pointer g] l λ a l=>∃ r s t,a=.returned (.slice r s t)/\CC 15 #[.slice o p q,.slice r s t] l λ a l=>∃ o,a=.returned (.bool o)/\cond o (CC 5 #[] l λ a o=>∃ p,a=.returned (.bool p)/\K (.bool p) o) (K (.bool false) l)) (K (.bool false) n)) (K (.bool false) e)) (K (.bool false) m)) (K (.bool false) f.drew))))/\cond (k).isNone (b true j) (b (g).isNone j)))/\cond (h !=i) (c true d) (c (h !=0) d))
theorem nL{a1 l1 c1 a2 l2 c2 a3 l3 c3 a4 l4 c4 n1 n2 n3 n4 a5 l5 c5 w K}(h:iV a1 l1 c1 a2 l2 c2 a3 l3 c3 a4 l4 c4 n1 n2 n3 n4 a5 l5 c5 w K):CP 3 #[.agg #[.slice a1 l1 c1,.slice a2 l2 c2,.slice a3 l3 c3,.slice a4 l4 c4],.agg #[iv n1,iv n2,iv n3,iv n4],.slice a5 l5 c5] w K:=ah (aA [(62,[(39,.s .bool)]),(254,[(58,.s .bool)]),(2042,[(12,.s (.int .i64))])]) func3 (by kernel_rfl) (by kernel_rfl) h
set_option maxHeartbeats 2000000 in
theorem Jm{w:World}{S' S:Se}(h' : S'.In w)(h:S.In w)(e:S'.er=S.er)(hz:S.Sz):CP 12 #[.agg S'.arr,.agg S.arr] w (λ r w'=>r=.bool true/\ay w w' []):=by
 refine Gd ?_;unfold HS;obtain⟨z1,z2,z3,z4⟩:=hz;have e1:S'.ps=S.ps:=(congrArg Se.ps e:S'.er.ps=S.er.ps);have e2:S'.bd=S.bd:=(congrArg Se.bd e:S'.er.bd=S.er.bd);have e3:S'.cp=S.cp:=(congrArg Se.cp e:S'.er.cp=S.er.cp);have e4:S'.sa=S.sa:=(congrArg Se.sa e:S'.er.sa=S.er.sa);refine(St.start w).one.ax S'.arr λ r1 w1 s1=>s1.ax S.arr λ r2 w2 s2=>?_;have s2:St w w2 (Sep [ai r2 S.arr 27,ai r1 S'.arr 27,emp]):=s2;refine⟨λ b w3=>b=false/\St w w3 (Sep [ai r2 S.arr 27,ai r1 S'.arr 27,emp]),?_,_,_,_,s2.ag 1 rfl 0,_,_,_,s2.ag 0 rfl 0,cF (by rw[e1]; simp) ⟨_,_,_,s2.ag 1 rfl 1,_,_,_,s2.ag 0 rfl 1,cF (by rw[e2]; simp) ⟨_,_,_,s2.ag 1 rfl 2,_,_,_,s2.ag 0 rfl 2,cF (by rw[e3]; simp) ⟨_,_,_,s2.ag 1 rfl 3,_,_,_,s2.ag 0 rfl 3,by rw[e4]; simp,s2⟩⟩⟩⟩;rintro w3 b ⟨rfl,s3⟩ -;refine cF rfl ⟨λ i w4 m=>∃ k:Nat,i=k/\k<=S.ps.length/\m=S.ps.length-k/\St w w4 (Sep [ai r2 S.arr 27,ai r1 S'.arr 27,emp]),⟨S.ps.length,0,rfl,by omega,by omega,s3⟩,?_⟩;rintro w4 m i ⟨k,rfl,hk,hm,s4⟩ -;refine⟨_,_,_,s4.ag 1 rfl 0,?_⟩;have s5:=s4.quiet (ay.drew w4 [])
 by_cases hlt:k<S.ps.length
 ·have hx:S.ps[k]?=some (S.ps[k]'hlt):=gE hlt;generalize S.ps[k]'hlt=x at hx;obtain⟨_,q1,hq1,c1⟩:=(h'.au s5.au).ps k x (by rw[e1]; exact hx);obtain⟨_,q2,hq2,c2⟩:=(h.au s5.au).ps k x hx;have hb:(bs x.nm==bs x.nm)=true:=by first|exact beq_self_eq_true _|(show((bs x.nm).data==(bs x.nm).data)=true; simp)|exact dT rfl
  exact cT (by rw[e1]; exact dT (by omega)) ⟨_,_,_,s5.ag 1 rfl 0,aj hq1 ⟨by omega,by rw[e1]; omega,bs x.nm,_,_,_,_,c1,_,_,_,s5.ag 0 rfl 0,aj hq2 ⟨by omega,by omega,bs x.nm,_,_,_,_,c2,cF (by rw[hb]; simp) ⟨S.ps.length-(k+1),by omega,k+1,aB ⟨by omega,by omega⟩,by omega,rfl,s5⟩⟩⟩⟩
 obtain rfl:k=S.ps.length:=by omega
 refine cF (by rw[e1]; simp) ⟨λ i w5 m=>∃ k:Nat,i=k/\k<=S.bd.length/\m=S.bd.length-k/\St w w5 (Sep [ai r2 S.arr 27,ai r1 S'.arr 27,emp]),⟨S.bd.length,0,rfl,by omega,by omega,s4⟩,?_⟩;clear s5 s4 s3 hk hm hlt;rintro w4 m i ⟨k,rfl,hk,hm,s4⟩ -;refine⟨_,_,_,s4.ag 1 rfl 1,?_⟩;have s5:=s4.quiet (ay.drew w4 [])
 by_cases hlt:k<S.bd.length
 ·have hx:S.bd[k]?=some (S.bd[k]'hlt):=gE hlt;generalize S.bd[k]'hlt=x at hx;obtain⟨_,q1,hq1,c1⟩:=(h'.au s5.au).bd k x (by rw[e2]; exact hx);obtain⟨_,q2,hq2,c2⟩:=(h.au s5.au).bd k x hx;have hb:(bs x.nm==bs x.nm)=true:=by first|exact beq_self_eq_true _|(show((bs x.nm).data==(bs x.nm).data)=true; simp)|exact dT rfl
  exact cT (by rw[e2]; exact dT (by omega)) ⟨_,_,_,s5.ag 1 rfl 1,aj hq1 ⟨by omega,by rw[e2]; omega,bs x.nm,_,_,_,c1,_,_,_,s5.ag 0 rfl 1,aj hq2 ⟨by omega,by omega,bs x.nm,_,_,_,c2,cF (by rw[hb]; simp) ⟨S.bd.length-(k+1),by omega,k+1,aB ⟨by omega,by omega⟩,by omega,rfl,s5⟩⟩⟩⟩
 obtain rfl:k=S.bd.length:=by omega
 refine cF (by rw[e2]; simp) ⟨λ i w5 m=>∃ k:Nat,i=k/\k<=S.cp.length/\m=S.cp.length-k/\St w w5 (Sep [ai r2 S.arr 27,ai r1 S'.arr 27,emp]),⟨S.cp.length,0,rfl,by omega,by omega,s4⟩,?_⟩;clear s5 s4 hk hm hlt;rintro w4 m i ⟨k,rfl,hk,hm,s4⟩ -;refine⟨_,_,_,s4.ag 1 rfl 2,?_⟩;have s5:=s4.quiet (ay.drew w4 [])
 by_cases hlt:k<S.cp.length
 ·have hx:S.cp[k]?=some (S.cp[k]'hlt):=gE hlt;generalize S.cp[k]'hlt=x at hx;obtain⟨q1,hq1,c1⟩:=(h'.au s5.au).cp k x (by rw[e3]; exact hx);obtain⟨q2,hq2,c2⟩:=(h.au s5.au).cp k x hx;exact cT (by rw[e3]; exact dT (by omega)) ⟨_,_,_,s5.ag 1 rfl 2,aj hq1 ⟨by omega,by rw[e3]; omega,_,_,_,c1,_,_,_,s5.ag 0 rfl 2,aj hq2 ⟨by omega,by omega,_,_,_,c2,cF (by simp) ⟨S.cp.length-(k+1),by omega,k+1,aB ⟨by omega,by omega⟩,by omega,rfl,s5⟩⟩⟩⟩
 obtain rfl:k=S.cp.length:=by omega
 refine cF (by rw[e3]; simp) ⟨λ i w5 m=>∃ k:Nat,i=k/\k<=S.sa.length/\m=S.sa.length-k/\St w w5 (Sep [ai r2 S.arr 27,ai r1 S'.arr 27,emp]),⟨S.sa.length,0,rfl,by omega,by omega,s4⟩,?_⟩;clear s5 s4 hk hm hlt;rintro w4 m i ⟨k,rfl,hk,hm,s4⟩ -;refine⟨_,_,_,s4.ag 1 rfl 3,?_⟩;have s5:=s4.quiet (ay.drew w4 [])
 by_cases hlt:k<S.sa.length
 ·have hx:S.sa[k]?=some (S.sa[k]'hlt):=gE hlt;generalize S.sa[k]'hlt=x at hx;obtain⟨q1,hq1,c1⟩:=(h'.au s5.au).sa k x (by rw[e4]; exact hx);obtain⟨q2,hq2,c2⟩:=(h.au s5.au).sa k x hx;exact cT (by rw[e4]; exact dT (by omega)) ⟨_,_,_,s5.ag 1 rfl 3,aj hq1 ⟨by omega,by rw[e4]; omega,_,_,_,c1,_,_,_,s5.ag 0 rfl 3,aj hq2 ⟨by omega,by omega,_,_,_,c2,cF (by simp) ⟨S.sa.length-(k+1),by omega,k+1,aB ⟨by omega,by omega⟩,by omega,rfl,s5⟩⟩⟩⟩
 obtain rfl:k=S.sa.length:=by omega
 exact cF (by rw[e4]; simp) ⟨rfl,s4.au⟩
set_option maxHeartbeats 4000000 in
theorem EE{w:World}(ht:JY w){S:Se}(h:S.In w)(o:Po){al:OA}{cl:Nat}{L:List Lx}(hF:cG 1 Lx.cells w al L)(hI:∀ x∈L,Fa w x.a x.l) :
  CP 3 #[.agg S.arr,o.v,.slice al L.length cl] w (λ r w'=>r=.bool true/\ay w w' []):=by
 refine nL ?_;unfold iV;refine(St.start w).one.ax S.arr λ r1 w1 s1=>s1.ax o.cells.toArray λ r2 w2 s2=>?_;have s2:St w w2 (Sep [ai r2 o.cells.toArray 29,ai r1 S.arr 27,emp]):=s2;have aw:∀ {w'},ay w w' []->CC 5 #[] w' λ e2 w5=>∃ b2,e2=.returned (.bool b2)/\(.bool b2:Value)=.bool true/\ay w w5 []:=λ hc=>ak (Iw (ht.au hc)) λ v w5 hv=>⟨true,by rw[hv.1],rfl,hc.trans hv.2 (by simp)⟩;refine⟨_,_,_,_,_,_,_,_,_,_,_,_,s2.cellsIn 1 rfl,ak (LU (h.au s2.au) (hF.au s2.au)) ?_⟩;rintro v w3 ⟨⟨b,rfl,hb⟩,c3⟩;have s3:=s2.quiet c3;refine⟨_,rfl,?_⟩
 cases b with
 | false=>exact cT rfl (aw s3.au)
 | true =>
 have hf:=hb rfl;have hL:∀ {w'},ay w w' []->MW w' al L:=λ hc=>MW.au ⟨hF,λ x hx=>⟨hI x hx,by have:=hf.l x hx; omega⟩⟩ hc;refine cF rfl ⟨_,_,_,_,_,_,_,_,_,_,_,_,s3.cellsIn 1 rfl,_,_,_,_,s3.cellsIn 0 rfl,ak (DQ (h.au s3.au) (ht.au s3.au) o (hL s3.au)) ?_⟩;rintro v w5 (⟨h0,rfl,c5⟩|⟨h0,hs,ho,hl,ae,ce,rfl,k5⟩)
 ·have s5:=s3.quiet c5;refine⟨_,_,_,_,rfl,_,_,_,_,_,_,_,_,_,_,_,_,s5.cellsIn 1 rfl,_,_,_,_,s5.cellsIn 0 rfl,ak (zl (h.au s5.au) o (hL s5.au)) ?_⟩;rintro v w6 (⟨_,rfl,c6⟩|⟨h1,_⟩)
  ·refine⟨_,_,rfl,λ b w7=>b=true/\St w w7 (Sep [ai r2 o.cells.toArray 29,ai r1 S.arr 27,emp]),?_,cF (by simp) ⟨by simpa using h0,s5.quiet c6⟩⟩;rintro w7 b ⟨rfl,s7⟩ -;exact cT rfl (cT (by simp) (cT rfl (aw s7.au)))
  ·exact absurd h1 h0
 have k5':=k5.weak (gQ.weak (bB Hg));generalize hev:DR S (runM S o L)=l at k5';have s5:St w w5 (Sep [held (λ w=>cG 11 Ev.cells w ae l),ai r2 o.cells.toArray 29,ai r1 S.arr 27,emp]):=s3.and k5';refine⟨_,_,_,_,rfl,_,_,_,_,_,_,_,_,_,_,_,_,s5.cellsIn 2 rfl,_,_,_,_,s5.cellsIn 1 rfl,ak (zl (h.au s5.au) o (hL s5.au)) ?_⟩;rintro v w6 (⟨h1,_⟩|⟨_,_,_,_,g,C,eC,hi,hov,rfl,k6⟩)
 ·exact absurd h0 h1
 have AF:=follows hs ho hl (NZ hs hf.ps hf.bd hf.cp hf.sa);rw[hev] at AF;have hrov:(runM S o L).ov=true:=by
  have:=congrArg Ck.ov eC;exact this.symm.trans hov
 have s6:St w w6 (Sep [held (C.Rd g),held (λ w=>cG 11 Ev.cells w ae l),ai r2 o.cells.toArray 29,ai r1 S.arr 27,emp]):=s5.and (k6.weak (gQ.weak mV));refine⟨_,_,rfl,λ b w7=>b=false/\St w w7 (Sep [held (C.Rd g),held (λ w=>cG 11 Ev.cells w ae l),ai r2 o.cells.toArray 29,ai r1 S.arr 27,emp]),?_,cF rfl ⟨rfl,s6⟩⟩;rintro w7 b ⟨rfl,s7⟩ -;refine cF rfl ⟨_,_,_,_,s7.cellsIn 2 rfl,ak (Rq s7 o) ?_⟩;rintro v w9 ⟨b,rfl,s9⟩;refine⟨_,rfl,λ x w10=>x=false/\St w w10 (Sep [Mr b (nR o) Sw,held (C.Rd g),held (λ w=>cG 11 Ev.cells w ae l),ai r2 o.cells.toArray 29,ai r1 S.arr 27,emp]),?_,cF rfl ⟨rfl,s9⟩⟩;rintro w10 x ⟨rfl,s10⟩ -;refine cF rfl ⟨λ i w11 m=>∃ k:Nat,i=k/\k<=l.length/\m=l.length-k/\St w w11 (Sep [Mr b (made o (l.take k)).1 (made o (l.take k)).2,held (C.Rd g),held (λ w=>cG 11 Ev.cells w ae l),ai r2 o.cells.toArray 29,ai r1 S.arr 27,emp]),⟨l.length,0,rfl,by omega,by omega,s10⟩,?_⟩;rintro w11 m i ⟨k,rfl,hk,hm,s11⟩ -;have hlen:l.length<=600:=by
  have:=(Hz o l AF.ein).cnt;rw[AF.cnt] at this; omega
 have hok:=Hz o (l.take k) λ e he=>AF.ein e (List.mem_of_mem_take he)
 by_cases hlt:(k:Int)<(l.length:Int)
 ·have hx:l[k]?=some (l[k]'(by omega)):=gE (by omega);generalize l[k]'(by omega)=e at hx;have he:=AF.ein e (List.mem_of_getElem? hx);have hr:cG 11 Ev.cells w11 ae l:=s11.cv 2 rfl;obtain⟨q,hq,hcl⟩:=hr.at hx;refine cT (dT hlt) (aj hq ⟨by omega,by omega,e.kind,e.bidder,e.round,e.want,bs e.text,e.digest,hcl,ak (Ka s11 hok he) ?_⟩);rintro _ w12 ⟨rfl,s12⟩;refine⟨_,rfl,cF (by rw[AF.good k e hx]; rfl) ⟨l.length-(k+1),by omega,k+1,aB ⟨by omega,by omega⟩,by omega,rfl,?_⟩⟩;rw[aG hx,Ba]; exact s12
 obtain rfl:k=l.length:=by omega
 rw[List.take_length] at s11 hok;refine cF (dF hlt) (ak (Kj s11 hok) ?_);have hph:(made o l).1.ph=2:=by rw[AF.ph,hrov]; rfl
 rintro _ w13 (⟨z0,_⟩|⟨z0,g2,C2,rfl,eC2,k13⟩)
 ·rw[hph] at z0; cases z0
 have s13:St w w13 (Sep [held (C2.Rd g2),Mr b (made o l).1 (made o l).2,held (C.Rd g),held (λ w=>cG 11 Ev.cells w ae l),ai r2 o.cells.toArray 29,ai r1 S.arr 27,emp]):=s11.and k13;have s13:St w w13 (Sep [Mr b (made o l).1 (made o l).2,held (C2.Rd g2),held (C.Rd g),ai r1 S.arr 27,emp]):=s13.av [1,0,2,5,6];have s14:=s13.quiet (ay.drew w13 []);have eCC:C2.er=C.er:=eC2.trans (AF.c.trans eC.symm);have hi2:C2.Inv:=hi.er eCC;refine⟨_,rfl,cT rfl (ak (Ti s14) ?_)⟩;rintro _ w14 ⟨rfl,rfl⟩;refine⟨_,rfl,cT (by rw[hph]; rfl) ⟨_,_,_,_,_,_,_,_,_,_,_,_,s14.cellsIn 3 rfl,?_⟩⟩;obtain⟨S1,C1,x1,x2,x3,s15⟩:=xQ s14;have s15:St w w13.drew (Sep [ai b S1.cells.toArray 86,held (vB S1 C1),held (C2.Rd g2),held (C.Rd g),ai r1 S.arr 27,emp]):=s15.dw [_,_];have eS1:S1.s.er=S.er:=by
  have:=congrArg Sx.s x1;exact(show S1.s.er=(made o l).1.s from this).trans AF.s
 have z1:S1.s.Sz:=by
  have p1:S1.s.ps=S.ps:=(congrArg Se.ps eS1:S1.s.er.ps=S.er.ps);have p2:S1.s.bd=S.bd:=(congrArg Se.bd eS1:S1.s.er.bd=S.er.bd);have p3:S1.s.cp=S.cp:=(congrArg Se.cp eS1:S1.s.er.cp=S.er.cp);have p4:S1.s.sa=S.sa:=(congrArg Se.sa eS1:S1.s.er.sa=S.er.sa);obtain⟨y1,y2,y3,y4⟩:=hs.sz;exact⟨by rw[p1]; exact y1,by rw[p2]; exact y2,by rw[p3]; exact y3,by rw[p4]; exact y4⟩
 have hin:vB S1 C1 w13.drew:=s15.cv 1 rfl;refine ak (Mq (s15.cellsIn 0 rfl) hin.h.1 z1) ?_;rintro _ w15 ⟨S2,eS2,rfl,k15⟩;have s16:St w w15 (Sep [held S2.In,ai b S1.cells.toArray 86,held (vB S1 C1),held (C2.Rd g2),held (C.Rd g),ai r1 S.arr 27,emp]):=s15.and k15;refine⟨_,_,_,_,_,_,_,_,_,_,_,_,rfl,s16.cellsIn 5 rfl,ak (Jm (s16.cv 0 rfl) (h.au s16.au) (eS2.trans eS1) hs.sz) ?_⟩;rintro _ w16 ⟨rfl,c16⟩;have s17:=s16.quiet c16;refine⟨_,rfl,cT rfl (ak (kS (s17.cv 3 rfl)) ?_)⟩;rintro _ w17 ⟨rfl,c17⟩;have s18:=s17.quiet c17;refine⟨C2.p,rfl,ak (kS (s18.cv 4 rfl)) ?_⟩;rintro _ w18 ⟨rfl,c18⟩;have s19:=s18.quiet c18;have ep:C2.p=C.p:=by
  have h3:=congrArg Ck.p eCC;exact h3
 refine⟨C.p,rfl,cT (by rw[ep]; simp[I6.beq]) (ak (zw (s19.cv 3 rfl) hi2.ok) ?_)⟩;rintro _ w19 ⟨l1,a1,c1,el1,rfl,k19⟩;have s20:St w w19 (Sep (Sep [T4 a1 c1 l1,held (cH l1),emp] :: [held S2.In,ai b S1.cells.toArray 86,held (vB S1 C1),held (C2.Rd g2),held (C.Rd g),ai r1 S.arr 27,emp])):=s19.and k19;refine⟨_,_,_,rfl,ak (zw (s20.cv 5 rfl) hi.ok) ?_⟩;rintro _ w20 ⟨l2,a2,c2,PU,rfl,k20⟩;have s21:=s20.quiet k20.au;have t1:St w w20 (Sep [T4 a1 c1 l1,held (cH l1),emp]):=s21.first;have ecl:C2.cl.map Rn.er=C.cl.map Rn.er:=congrArg Ck.cl eCC;have h30:=hi2.ok.cl;have h8:=hi2.ok.s.bd.l2;have hl1:l1.length=C2.cl.length:=by have:=congrArg List.length el1; simpa using this
 refine⟨_,_,_,rfl,ak (Jn (St.rd Rn.len (t1.out 0 rfl)) (t1.cv 1 rfl) (St.rd Rn.len (k20.out 0 rfl)) (k20.cv 1 rfl) (el1.trans (ecl.trans PU.symm)) (by omega) λ x hx=>?_) ?_⟩
 ·have hm:x.er∈C2.cl.map Rn.er:=by rw[<- el1]; exact List.mem_map_of_mem hx
  obtain⟨y,hy,e⟩:=List.mem_map.1 hm;have e2:y.ask=x.ask:=(congrArg Rn.ask e:y.er.ask=x.er.ask);have h2:=(hi2.ok.cz y hy).ask;rw[<- e2]; omega
 ·rintro _ w21 ⟨rfl,c21⟩;exact⟨_,rfl,cT rfl (aw (s21.quiet c21).au)⟩
end Go.Proofs.YtbnolaiklhbkkaaGreatDoor
namespace Go.Proofs.YtbnolaiklhbkkaaGreatDoor
open Go Go.Vc Go.RowKit Go.Deep _root_.Go.Proofs.Tryz
theorem aM{P:Program}{w:World}{d:Nat}{t:TypeId}{cs:List Value}{fs:Array Field}(h:fO P w (d+1) t cs)(hu:P.underlying t=some (.struct fs))(i:Nat)(f:Field)(hf:fs[i]?=some f) :
  fO P w d f.type ((cs.drop f.offset).take (P.cellsOf f.type)):=by
 unfold fO at h;simp only[hu] at h;exact h.2 f (by simpa using Array.mem_of_getElem? hf)
theorem Hx{α:Type}{Q:Nat->α->Prop}:∀ {l:Nat},(∀ i,i<l->∃ a,Q i a)->∃ L:List α,L.length=l/\∀ i a,L[i]?=some a->Q i a
 | 0,_=>⟨[],rfl,λ i a h=>by simp at h⟩
 | l+1,h=>by
  obtain⟨L,h1,h2⟩:=Hx (l:=l) λ i hi=>h i (by omega);obtain⟨a,ha⟩:=h l (by omega);refine⟨L++[a],by simp[h1],λ i b hb=>?_⟩;rcases Nat.lt_or_ge i L.length with hi|hi
  ·rw[List.getElem?_append_left hi] at hb; exact h2 i b hb
  ·rw[List.getElem?_append_right hi] at hb;have h0:i-L.length=0:=by
    have:=(List.getElem?_eq_some_iff.1 hb).1;simp at this; omega
   rw[h0] at hb;simp at hb;subst hb;rw[show i=l by omega]; exact ha
theorem Hu:∀ {cs:List Value},(∀ v∈cs,∃ n,v=iv n/\In n)->∃ ns:List Int,cs=ns.map iv/\∀ n∈ns,In n
 | [],_=>⟨[],rfl,by simp⟩
 | v :: cs,h=>by
  obtain⟨n,rfl,hn⟩:=h v (List.mem_cons_self ..);obtain⟨ns,rfl,hs⟩:=Hu (cs:=cs) λ u hu=>h u (List.mem_cons_of_mem _ hu);refine⟨n :: ns,rfl,λ x hx=>?_⟩;rcases List.mem_cons.1 hx with rfl|hx
  ·exact hn
  ·exact hs x hx
theorem bQ{w:World}{d t:Nat}{cs:List Value}(h:fO prog w (d+1) t cs)(hu:prog.underlying t=some (.int .i64)):∃ n,cs=[iv n]/\In n:=by
 unfold fO at h;simp only[hu] at h;obtain⟨n,rfl,hw⟩:=h;refine⟨n,rfl,?_⟩;simp[Lit.wf,IntKind.min,IntKind.max,IntKind.signed,IntKind.bits] at hw;exact⟨by omega,by omega⟩
theorem ON{w:World}{d t k e:Nat}{cs:List Value}(h:fO prog w (d+2) t cs)(hu:prog.underlying t=some (.array k e))(he:prog.underlying e=some (.int .i64))(hc:prog.cellsOf t=k)(h1:prog.cellsOf e=1) :
  ∃ ns:List Int,cs=ns.map iv/\ns.length=k/\∀ n∈ns,In n:=by
 unfold fO at h;simp only[hu] at h;obtain⟨hl,hi⟩:=h;rw[hc] at hl;obtain⟨ns,rfl,hs⟩:=Hu (cs:=cs) λ v hv=>by
  obtain⟨i,hlt,rfl⟩:=List.mem_iff_getElem.1 hv;obtain⟨n,hn,hI⟩:=bQ (hi i (by omega)) he;rw[h1,Nat.mul_one] at hn;have e1:(cs.drop i).take 1=[cs[i]]:=by
   rw[List.drop_eq_getElem_cons hlt]; rfl
  rw[e1] at hn;exact⟨n,by simpa using hn,hI⟩
 exact⟨ns,rfl,by simpa using hl,hs⟩
theorem Jh{w:World}{d t e:Nat}{cs:List Value}(h:fO prog w (d+1) t cs)(hu:prog.underlying t=some (.slice e)) :
  ∃ (a:OA) (l c:Nat),cs=[.slice a l c]/\l<=c/\l<=9223372036854775807/\l*prog.bytesOf e<=140737488351232 /\
   ∀ i,i<l->∃ q cs',a=some q/\cs'.length=prog.cellsOf e/\af w (q.add (i*prog.cellsOf e)) 0 cs'/\fO prog w d e cs':=by
 unfold fO at h;simp only[hu] at h;obtain⟨a,l,c,rfl,hlc,hcm,_,hb,hi⟩:=h;refine⟨a,l,c,rfl,hlc,by unfold maxLen at hcm; omega,hb,λ i hl=>?_⟩;obtain⟨q,cs',ha,hcs,ho⟩:=hi i hl;obtain⟨_,hlen,hg⟩:=World.cells?_some hcs;exact⟨q,cs',ha,hlen,br _ 0 λ j v hj=>by
  rw[Nat.zero_add,hg j (by have:=(List.getElem?_eq_some_iff.1 hj).1; omega)]; exact hj,ho⟩
theorem uD:prog.cellsOf 3=1:=by kernel_rfl
theorem sM:prog.cellsOf 2=1:=by kernel_rfl
theorem GX:prog.cellsOf 44=6:=by kernel_rfl
theorem GY:prog.cellsOf 9=1:=by kernel_rfl
theorem Nx:prog.cellsOf 29=4:=by kernel_rfl
theorem OL{w:World}{cs:List Value}(h:fO prog w 6 29 cs):∃ o:Po,cs=o.cells:=by
 have hlen:cs.length=4:=by
  have h':=h;unfold fO at h';simp only[underlying29] at h';rw[<- Nx]; exact h'.1
 match cs,hlen with
 | [x0,x1,x2,x3],_ =>
  have q0:fO prog w 5 2 (([x0,x1,x2,x3].drop 0).take (prog.cellsOf 2)):=aM h underlying29 0 _ rfl;have q1:fO prog w 5 3 (([x0,x1,x2,x3].drop 1).take (prog.cellsOf 3)):=aM h underlying29 1 _ rfl;have q2:fO prog w 5 3 (([x0,x1,x2,x3].drop 2).take (prog.cellsOf 3)):=aM h underlying29 2 _ rfl;have q3:fO prog w 5 3 (([x0,x1,x2,x3].drop 3).take (prog.cellsOf 3)):=aM h underlying29 3 _ rfl;rw[sM] at q0; rw[uD] at q1 q2 q3;obtain⟨n0,e0,_⟩:=bQ q0 underlying2;obtain⟨n1,e1,_⟩:=bQ q1 underlying3;obtain⟨n2,e2,_⟩:=bQ q2 underlying3;obtain⟨n3,e3,_⟩:=bQ q3 underlying3;simp at e0 e1 e2 e3;subst e0 e1 e2 e3;exact⟨⟨n0,n1,n2,n3⟩,rfl⟩
theorem Nw:prog.cellsOf 94=5:=by kernel_rfl
theorem Np:prog.cellsOf 96=4:=by kernel_rfl
theorem Nq:prog.cellsOf 98=3:=by kernel_rfl
theorem No:prog.cellsOf 100=3:=by kernel_rfl
theorem Ny:prog.cellsOf 27=4:=by kernel_rfl
theorem Nv:prog.cellsOf 22=1:=by kernel_rfl
theorem Ns:prog.cellsOf 23=1:=by kernel_rfl
theorem Nt:prog.cellsOf 24=1:=by kernel_rfl
theorem Nr:prog.cellsOf 25=1:=by kernel_rfl
theorem HG{w:World}{d:Nat}{cs:List Value}(h:fO prog w (d+1) 9 cs):∃ s:List UInt8,cs=[sv s]:=by
 unfold fO at h;simp only[underlying9] at h;obtain⟨s,rfl,_⟩:=h;exact⟨s.data.toList,rfl⟩
theorem RA{w:World}{cs:List Value}(h:fO prog w 4 94 cs)(hl:cs.length=5):∃ p:Pr,cs=p.cells/\p.In:=by
 match cs,hl with
 | [x0,x1,x2,x3,x4],_ =>
  have q0:fO prog w 3 9 (([x0,x1,x2,x3,x4].drop 0).take (prog.cellsOf 9)):=aM h underlying94 0 _ rfl;have q1:fO prog w 3 3 (([x0,x1,x2,x3,x4].drop 1).take (prog.cellsOf 3)):=aM h underlying94 1 _ rfl;have q2:fO prog w 3 2 (([x0,x1,x2,x3,x4].drop 2).take (prog.cellsOf 2)):=aM h underlying94 2 _ rfl;have q3:fO prog w 3 3 (([x0,x1,x2,x3,x4].drop 3).take (prog.cellsOf 3)):=aM h underlying94 3 _ rfl;have q4:fO prog w 3 3 (([x0,x1,x2,x3,x4].drop 4).take (prog.cellsOf 3)):=aM h underlying94 4 _ rfl;rw[GY] at q0; rw[uD] at q1 q3 q4; rw[sM] at q2;obtain⟨s,e0⟩:=HG q0;obtain⟨n1,e1,i1⟩:=bQ q1 underlying3;obtain⟨n2,e2,i2⟩:=bQ q2 underlying2;obtain⟨n3,e3,i3⟩:=bQ q3 underlying3;obtain⟨n4,e4,i4⟩:=bQ q4 underlying3;simp at e0 e1 e2 e3 e4;subst e0 e1 e2 e3 e4;exact⟨⟨s,n1,n2,n3,n4⟩,rfl,i1,i2,i3,i4⟩
theorem Ry{w:World}{cs:List Value}(h:fO prog w 4 96 cs)(hl:cs.length=4):∃ p:Br,cs=p.cells/\p.In:=by
 match cs,hl with
 | [x0,x1,x2,x3],_ =>
  have q0:fO prog w 3 9 (([x0,x1,x2,x3].drop 0).take (prog.cellsOf 9)):=aM h underlying96 0 _ rfl;have q1:fO prog w 3 3 (([x0,x1,x2,x3].drop 1).take (prog.cellsOf 3)):=aM h underlying96 1 _ rfl;have q2:fO prog w 3 2 (([x0,x1,x2,x3].drop 2).take (prog.cellsOf 2)):=aM h underlying96 2 _ rfl;have q3:fO prog w 3 3 (([x0,x1,x2,x3].drop 3).take (prog.cellsOf 3)):=aM h underlying96 3 _ rfl;rw[GY] at q0; rw[uD] at q1 q3; rw[sM] at q2;obtain⟨s,e0⟩:=HG q0;obtain⟨n1,e1,i1⟩:=bQ q1 underlying3;obtain⟨n2,e2,i2⟩:=bQ q2 underlying2;obtain⟨n3,e3,i3⟩:=bQ q3 underlying3;simp at e0 e1 e2 e3;subst e0 e1 e2 e3;exact⟨⟨s,n1,n2,n3⟩,rfl,i1,i2,i3⟩
theorem LI{w:World}{t:Nat}{cs:List Value}{fs:Array Field}(h:fO prog w 4 t cs)(hu:prog.underlying t=some (.struct fs)){g0 g1 g2:Field}(f0:fs[0]?=some g0)(f1:fs[1]?=some g1)(f2:fs[2]?=some g2)(z:g0.offset=0/\g0.type=3/\g1.offset=1/\g1.type=3/\g2.offset=2/\g2.type=3)(hl:cs.length=3):∃ p:T3,cs=p.cells:=by
 match cs,hl with
 | [x0,x1,x2],_ =>
  obtain⟨z0,y0,z1,y1,z2,y2⟩:=z;have q0:=aM h hu 0 _ f0;have q1:=aM h hu 1 _ f1;have q2:=aM h hu 2 _ f2;rw[z0,y0] at q0; rw[z1,y1] at q1; rw[z2,y2] at q2;rw[uD] at q0 q1 q2;obtain⟨n0,e0,_⟩:=bQ q0 underlying3;obtain⟨n1,e1,_⟩:=bQ q1 underlying3;obtain⟨n2,e2,_⟩:=bQ q2 underlying3;simp at e0 e1 e2;subst e0 e1 e2;exact⟨⟨n0,n1,n2⟩,rfl⟩
theorem p7{w:World}{d t e sz:Nat}{α:Type}{f:α->List Value}{I:α->Prop}{cs:List Value}(h:fO prog w (d+1) t cs)(hu:prog.underlying t=some (.slice e))(hs:prog.cellsOf e=sz)(k:∀ cs',fO prog w d e cs'->cs'.length=sz->∃ x,cs' = f x/\I x):∃ (a:OA) (c:Nat) (l:List α),cs=[.slice a l.length c]/\l.length<=c/\∀ i x,l[i]?=some x->I x/\∃ q,a=some q/\af w (q.add (i*sz)) 0 (f x):=by
 obtain⟨a,n,c,rfl,hc,_,_,hi⟩:=Jh h hu;obtain⟨L,h1,h2⟩:=Hx (Q:=λ i (x:α)=>I x/\∃ q,a=some q/\af w (q.add (i*sz)) 0 (f x)) (l:=n) λ i hl=>by
  obtain⟨q,cs',ha,hlen,hcl,ho⟩:=hi i hl;rw[hs] at hlen hcl;obtain⟨x,rfl,hx⟩:=k cs' ho hlen;exact⟨x,hx,q,ha,hcl⟩
 exact⟨a,c,L,by rw[h1],by omega,h2⟩
theorem OM{w:World}{cs:List Value}(h:fO prog w 6 27 cs):∃ s:Se,cs=s.arr.toList/\s.In w:=by
 have hlen:cs.length=4:=by
  have h':=h;unfold fO at h';simp only[underlying27] at h';rw[<- Ny]; exact h'.1
 match cs,hlen with
 | [x0,x1,x2,x3],_ =>
  have q0:fO prog w 5 22 (([x0,x1,x2,x3].drop 0).take (prog.cellsOf 22)):=aM h underlying27 0 _ rfl;have q1:fO prog w 5 23 (([x0,x1,x2,x3].drop 1).take (prog.cellsOf 23)):=aM h underlying27 1 _ rfl;have q2:fO prog w 5 24 (([x0,x1,x2,x3].drop 2).take (prog.cellsOf 24)):=aM h underlying27 2 _ rfl;have q3:fO prog w 5 25 (([x0,x1,x2,x3].drop 3).take (prog.cellsOf 25)):=aM h underlying27 3 _ rfl;rw[Nv] at q0; rw[Ns] at q1; rw[Nt] at q2; rw[Nr] at q3;obtain⟨a1,c1,l1,e1,h1,r1⟩:=p7 (f:=Pr.cells) (I:=Pr.In) q0 underlying22 Nw λ cs' ho hl=>RA ho hl;obtain⟨a2,c2,l2,e2,h2,r2⟩:=p7 (f:=Br.cells) (I:=Br.In) q1 underlying23 Np λ cs' ho hl=>Ry ho hl;obtain⟨a3,c3,l3,e3,h3,r3⟩:=p7 (f:=T3.cells) (I:=λ _=>True) q2 underlying24 Nq λ cs' ho hl=>let ⟨p,hp⟩:=LI ho underlying98 rfl rfl rfl ⟨rfl,rfl,rfl,rfl,rfl,rfl⟩ hl; ⟨p,hp,trivial⟩;obtain⟨a4,c4,l4,e4,h4,r4⟩:=p7 (f:=T3.cells) (I:=λ _=>True) q3 underlying25 No λ cs' ho hl=>let ⟨p,hp⟩:=LI ho underlying100 rfl rfl rfl ⟨rfl,rfl,rfl,rfl,rfl,rfl⟩ hl; ⟨p,hp,trivial⟩;simp at e1 e2 e3 e4;subst e1 e2 e3 e4;exact⟨⟨l1,l2,l3,l4,a1,c1,a2,c2,a3,c3,a4,c4⟩,rfl,r1,r2,λ i p hp=>(r3 i p hp).2,λ i p hp=>(r4 i p hp).2,h1,h2,h3,h4⟩
theorem RV{ns:List Int}(hl:ns.length=6)(hI:∀ n∈ns,In n):∃ u:I6,ns.map iv=u.vs/\∀ k,k<6->In (u.at' k):=by
 match ns,hl with
 | [n0,n1,n2,n3,n4,n5],_ =>
  refine⟨⟨n0,n1,n2,n3,n4,n5⟩,rfl,λ k hk=>?_⟩
  match k,hk with
  | 0,_=>exact hI n0 (by simp)
  | 1,_=>exact hI n1 (by simp)
  | 2,_=>exact hI n2 (by simp)
  | 3,_=>exact hI n3 (by simp)
  | 4,_=>exact hI n4 (by simp)
  | 5,_=>exact hI n5 (by simp)
theorem OO{w:World}{d t e:Nat}{cs:List Value}(h:fO prog w (d+2) t cs)(hu:prog.underlying t=some (.array 6 e))(he:prog.underlying e=some (.int .i64))(hc:prog.cellsOf t=6)(h1:prog.cellsOf e=1):∃ u:I6,cs=u.vs/\∀ k,k<6->In (u.at' k):=by
 obtain⟨ns,rfl,hl,hI⟩:=ON h hu he hc h1;exact RV hl hI
theorem Kh : prog.cellsOf 68=8:=by kernel_rfl
theorem Nu:prog.cellsOf 62=1:=by kernel_rfl
theorem Rz{w:World}{d:Nat}{cs:List Value}(h:fO prog w (d+3) 68 cs)(hl:cs.length=8):∃ o:Of,cs=o.cells/\True:=by
 have q0:fO prog w (d+2) 3 ((cs.drop 0).take (prog.cellsOf 3)):=aM h underlying68 0 _ rfl;have q1:fO prog w (d+2) 44 ((cs.drop 1).take (prog.cellsOf 44)):=aM h underlying68 1 _ rfl;have q2:fO prog w (d+2) 2 ((cs.drop 7).take (prog.cellsOf 2)):=aM h underlying68 2 _ rfl;rw[uD] at q0; rw[GX] at q1; rw[sM] at q2;obtain⟨n0,e0,_⟩:=bQ q0 underlying3;obtain⟨u,e1,_⟩:=OO q1 underlying44 underlying3 GX uD;obtain⟨n2,e2,_⟩:=bQ q2 underlying2;refine⟨⟨n0,u,n2⟩,?_,trivial⟩;have e7:cs=(cs.drop 0).take 1++((cs.drop 1).take 6++(cs.drop 7).take 1):=by
  match cs,hl with
  | [x0,x1,x2,x3,x4,x5,x6,x7],_=>rfl
 rw[e7,e0,e1,e2]; rfl
theorem LG{w:World}{d:Nat}{cs:List Value}(h:fO prog w (d+4) 62 cs):∃ (a:OA) (c:Nat) (l:List Of),cs=[.slice a l.length c]/\Fa w a l:=by
 obtain⟨a,c,l,e,_,r⟩:=p7 (f:=Of.cells) (I:=λ _=>True) h underlying62 Kh λ cs' ho hl=>Rz ho hl;exact⟨a,c,l,e,λ i x hx=>let ⟨_,q,hq,hc⟩:=r i x hx; ⟨q,_,hq,hc,rfl,rfl⟩⟩
theorem LF{w:World}{cs:List Value}(h:fO prog w 6 30 cs):∃ (a:OA) (c:Nat) (L:List Lx),cs=[.slice a L.length c]/\cG 1 Lx.cells w a L/\∀ x∈L,Fa w x.a x.l:=by
 obtain⟨a,c,L,e,_,r⟩:=p7 (f:=Lx.cells) (I:=λ x=>Fa w x.a x.l) h underlying30 Nu λ cs' ho hl=>let ⟨a,c,l,e,r⟩:=LG (d:=1) ho; ⟨⟨a,c,l⟩,e,r⟩;exact⟨a,c,L,e,λ i x hx=>let ⟨_,q,hq,hc⟩:=r i x hx; ⟨q,_,hq,hc,rfl,rfl⟩,λ x hx=>by
  obtain⟨i,hi⟩:=List.getElem?_of_mem hx;exact(r i x hi).1⟩
open Go.ChangeShapes Go.WideShapes Go.ChangeAt
theorem own:ownKnob prog.godebug=none:=by kernel_rfl
theorem laidOut:laidOutB prog=true:=by kernel_rfl
theorem UN:mapsRowed prog=true:=by kernel_rfl
theorem UO:(prog.stops==[])=true:=by kernel_rfl
theorem UP:(prog.stopKnobs==[])=true:=by kernel_rfl
theorem Un:prog.stopsHeard=true:=by kernel_rfl
theorem Uo:prog.mayEnter=true:=by kernel_rfl
theorem UQ:true=Tryz.pinned.checked.prog.looks []:=by kernel_rfl
theorem Kf{w w' : World}(h:ay w w' []):Below w.heap.size w w':=⟨h.env.os,h.env.tape,h.env.out,h.size,λ k hk=>h.same k hk (by simp)⟩
theorem Eh(P:Program)(laid:List (String×DataW Unit))(w:World)(h:(laid.all λ x=>x.2.handleName?.isNone)=true):laidMetH P laid w=laidMet P laid w:=by
 have e:(laid.filter λ x=>x.2.handleName?.isSome)=[]:=by
  rw[List.filter_eq_nil_iff];intro x hx hs;have:=List.all_eq_true.1 h x hx;rw[Option.isNone_iff_eq_none] at this;rw[this] at hs
  cases hs
 unfold laidMetH;rw[e]
def qM:List (String×DataW Unit):=Rows.proxyFollowsRow.laid.filter λ x=>x.2.handleName?.isNone
noncomputable def kT(os:Os):World:=(World.holding prog os ⟨#[],#[],[]⟩).layVars prog qM
theorem Co(os:Os):(kT os).os=os:=(World.layVars_os _ _ _).trans rfl
theorem IV(os:Os)(args:Array Value):laidMet prog qM ((kT os).forCall (λ _ _=>0) ⟨#[],args,[]⟩).memory:=by
 have e1:(qM.filter λ x=>(qM.map (·.1)).contains x.1)=qM:=List.filter_eq_self.2 λ x hx=>List.contains_iff_mem.2 (List.mem_map.2 ⟨x,hx,rfl⟩);have e2:(qM.filter λ x=>!(qM.map (·.1)).contains x.1)=[]:=List.filter_eq_nil_iff.2 λ x hx=>by rw[List.contains_iff_mem.2 (List.mem_map.2 ⟨x,hx,rfl⟩)]; simp
 have h:laidMet prog qM (kT os):=laidMet_layVars (w0:=World.holding prog os ⟨#[],#[],[]⟩) (qM.map (·.1)) [] (by rw[e1]; rfl) (by rw[e1]; kernel_rfl) (by rw[e1]; kernel_rfl) (by rw[e2]; exact LaidIn.none);exact h.of_heap (by simp[World.memory,World.forCall,Input.heap])
theorem yZ:(Rows.proxyFollowsRow.laid.all λ x=>x.2.handleName?.isNone)=true:=by kernel_rfl
theorem Au(os:Os)(args:Array Value):laidMetH prog Rows.proxyFollowsRow.laid ((kT os).forCall (λ _ _=>0) ⟨#[],args,[]⟩).memory:=by
 rw[Eh _ _ _ yZ];have e:qM=Rows.proxyFollowsRow.laid:=List.filter_eq_self.2 (List.all_eq_true.1 yZ);rw[<- e]; exact IV os args
theorem Sf{W:World}(h:laidMetH prog Rows.proxyFollowsRow.laid W):JY W:=by
 rw[Eh _ _ _ yZ] at h;have h2:laidMet prog (("internal/strconv.uint64pow10",Lib.tabData .u64 Lib.pow10Tab) :: Rows.proxyFollowsRow.laid.drop 3) W:=by
  have:=h.tail.tail;exact this
 exact Lib.tabIs_of_head (g:=0) (by kernel_rfl) (by kernel_rfl) (t:=241) (e:=45) (n:=20) (by kernel_rfl) (by kernel_rfl) (by kernel_rfl) (by kernel_rfl) h2

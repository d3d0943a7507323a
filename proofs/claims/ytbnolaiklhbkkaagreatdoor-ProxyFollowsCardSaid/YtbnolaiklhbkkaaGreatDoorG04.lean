import Derived.Test.YtbnolaiklhbkkaaGreatDoorG03
set_option linter.unusedVariables false
set_option maxRecDepth 100000
namespace Go.Proofs.YtbnolaiklhbkkaaGreatDoor
open Go Go.Vc _root_.Go.Proofs.Tryz
def eZ(m u:I6):Nat->Int
 | 0=>0
 | k+1=>eZ m u k*(m.at' k+1)+u.at' k
def Ah(m:I6):Nat->Int
 | 0=>1
 | k+1=>Ah m k*(m.at' k+1)
abbrev rk (m u:I6):Int:=eZ m u 6
theorem LR(m:I6):∀ k,k<=6->pr (m.l.take k)=Ah m k
 | 0,_=>rfl
 | k+1,h=>by rw[aG (m.oP k (by omega)),CG,LR m k (by omega)]; rfl
theorem rO(m:I6):pr m.l=Ah m 6:=LR m 6 (by omega)
structure AI (m u:I6):Prop where
 mm:I6.Le m 4
 u:∀ k,k<6->0<=u.at' k/\u.at' k<=m.at' k
theorem AI.le{m u:I6}(h:AI m u):I6.Le u 4:=λ k hk=>by have:=h.mm k hk; have:=h.u k hk; omega
theorem pq{m u:I6}(h:AI m u):∀ k,k<=6->0<=eZ m u k/\eZ m u k+1<=Ah m k/\Ah m k<=5 ^ k
 | 0,_=>⟨by simp[eZ],by simp[eZ,Ah],by simp[Ah]⟩
 | k+1,hk=>by
  obtain⟨h1,h2,h3⟩:=pq h k (by omega);have hm:=h.mm k (by omega);have hu:=h.u k (by omega);simp only[eZ,Ah];refine⟨?_,?_,?_⟩
  ·have:=Int.mul_nonneg h1 (show(0:Int)<=m.at' k+1 by omega); omega
  ·have h4:(eZ m u k+1)*(m.at' k+1)<=Ah m k*(m.at' k+1):=Int.mul_le_mul_of_nonneg_right h2 (by omega);rw[Int.add_mul] at h4; omega
  ·have h4:Ah m k*(m.at' k+1)<=5 ^ k*(m.at' k+1):=Int.mul_le_mul_of_nonneg_right h3 (by omega);have h5:(5:Int) ^ k*(m.at' k+1)<=5 ^ k*5:=Int.mul_le_mul_of_nonneg_left (by omega) (Int.pow_nonneg (by omega));rw[Int.pow_succ]; omega
theorem RF(w:World)(m u:I6):CP 243 #[.agg m.vs.toArray,.agg u.vs.toArray] w (λ r w'=>(∃ n e:Int,r=.tuple #[iv n,iv e]/\(e=0<->(pr m.l<=1024/\AI m u))/\(e=0->n=rk m u))/\ay w w' []):=by
 refine yq ?_;unfold vF;refine aJ (aJ ?_);have s2:=((St.start w).one.bW m.vs.toArray 44).bW u.vs.toArray 44;generalize hw2:World.alloc _ _=w2 at s2 ⊢;generalize hr1:w.heap.size=r1 at s2 ⊢;generalize hr2:(w.alloc _).heap.size=r2 at s2 ⊢;refine⟨λ b w3=>ay w2 w3 []/\(b=false<->(pr m.l<=1024/\AI m u)),?_,_,s2.cellsIn 1 rfl,ak (xC w2 m) ?_⟩
 ·rintro w3 b ⟨hc,hb⟩ -
  cases b with
  | true=>exact cT rfl ⟨⟨0,4,rfl,⟨λ h=>(by cases h),λ h=>(by cases hb.2 h)⟩,λ h=>(by cases h)⟩,(s2.quiet hc).au⟩
  | false =>
   obtain⟨hp,hin⟩:=hb.1 rfl;have s3:=s2.quiet hc;refine cF rfl ⟨m,s3.cellsIn 1 rfl,λ p n w4 x=>∃ k:Nat,n=k/\k<=6/\x=6-k/\p=eZ m u k/\w4=w3,⟨6,0,rfl,by omega,by omega,rfl,rfl⟩,?_⟩;rintro w4 x p n ⟨k,rfl,hk,hx,rfl,rfl⟩ -
   by_cases hlt:(k:Int)<6
   ·have hk' : k<6:=by omega
    have b0:=pq hin k hk;have b1:=pq hin (k+1) hk';have hm:=hin.mm k hk';have hu:=hin.u k hk';have h5:(5:Int) ^ (k+1)<=15625:=by
     match k,hk' with
     | 0,_|1,_|2,_|3,_|4,_|5,_=>decide
    refine cT (dT hlt) ⟨by omega,by omega,m.at' k,m.get k hk',by omega,by omega,u.at' k,by rw[fm,aI s3 0 rfl hk'],6-(k+1),by omega,k+1,inc (by decide) hk',by omega,rfl,?_,rfl⟩;have e:eZ m u (k+1)=eZ m u k*(m.at' k+1)+u.at' k:=rfl;have h6:0<=eZ m u k*(m.at' k+1):=Int.mul_nonneg b0.1 (by omega);rw[aB (n:=m.at' k+1) ⟨by omega,by omega⟩,aB (n:=eZ m u k*(m.at' k+1)) ⟨by omega,by omega⟩,aB ⟨by omega,by omega⟩,e]
   ·obtain rfl:k=6:=by omega
    exact cF (by simp) ⟨⟨_,0,rfl,⟨λ _=>⟨hp,hin⟩,λ _=>rfl⟩,λ _=>rfl⟩,s3.au⟩
 ·rintro v w5 ⟨rfl,c5⟩;refine⟨_,rfl,?_⟩
  by_cases g1:m.l.all eY=true/\pr m.l<=1024
  ·rw[if_pos g1];have hp1:=(oV g1.1).1;refine cF (by simp; omega) ⟨_,(s2.quiet c5).cellsIn 0 rfl,ak (bN w5 u) ?_⟩;rintro v w6 ⟨rfl,c6⟩;refine⟨_,rfl,?_⟩;have c56:=c5.trans c6 (by simp)
   by_cases g2:u.l.all eY=true
   ·rw[if_pos g2];have s6:=s2.quiet c56;refine cF rfl ⟨_,s6.cellsIn 0 rfl,_,s6.cellsIn 1 rfl,ak (pS w6 u m) ?_⟩;rintro v w7 ⟨rfl,c7⟩;refine⟨_,rfl,c56.trans c7 (by simp),?_⟩;have hq:=JT g2
    cases g3:within u m with
    | true=>exact⟨λ _=>⟨g1.2,JT g1.1,λ k hk=>⟨(hq k hk).1,within_iff.1 g3 k hk⟩⟩,λ _=>rfl⟩
    | false=>exact⟨λ h=>(by cases h),λ h=>(by rw[within_iff.2 λ k hk=>(h.2.u k hk).2] at g3; cases g3)⟩
   ·rw[if_neg g2];exact cT rfl ⟨c56,λ h=>(by cases h),λ h=>absurd (leq h.2.le) g2⟩
  ·rw[if_neg g1];exact cT rfl ⟨c5,λ h=>(by cases h),λ h=>absurd ⟨leq h.2.mm,h.1⟩ g1⟩
def nj(u m:I6):Nat->I6
 | 0=>z6
 | k+1=>if u.at' k<m.at' k then (I6.mix (k+1) u z6).put k (u.at' k+1) else nj u m k
abbrev jQ (u m:I6):I6:=nj u m 6
theorem lT(k:Nat):z6.at' k=0:=by
 match k with
 | 0|1|2|3|4|5=>rfl
 | n+6=>rfl
theorem DY(w:World){u m:I6}(h:AI m u):CP 125 #[.agg u.vs.toArray,.agg m.vs.toArray] w (λ r w'=>r=.agg (jQ u m).vs.toArray/\ay w w' []):=by
 refine qj ?_;unfold kC;refine aJ (aJ (aJ ?_));have s3:=(((St.start w).one.bW u.vs.toArray 44).bW m.vs.toArray 44).bW z6.vs.toArray 44;generalize hw3:World.alloc _ _=w3 at s3 ⊢;generalize hr1:w.heap.size=r1 at s3 ⊢;generalize hr2:(w.alloc _).heap.size=r2 at s3 ⊢;generalize hr3:((w.alloc _).alloc _).heap.size=r3 at s3 ⊢;refine⟨λ n w4 x=>∃ k:Nat,n=(k:Int)-1/\k<=6/\x=k/\jQ u m=nj u m k/\St w w4 (Sep [ai r3 z6.vs.toArray 44,ai r2 m.vs.toArray 44,ai r1 (I6.mix k u z6).vs.toArray 44,emp]),⟨6,6,rfl,by omega,rfl,rfl,s3⟩,?_⟩;rintro w4 x n ⟨k,rfl,hk,hx,hn,s4⟩ -
 by_cases hlt:(0:Int)<=(k:Int)-1
 ·obtain⟨j,rfl⟩:∃ j,k=j+1:=⟨k-1,by omega⟩;have hj:j<6:=by omega
  rw[show((j+1:Nat):Int)-1=(j:Int) by omega] at *;have s5:=s4.quiet (ay.drew _ _);have hu:=h.u j hj;have hm:=h.mm j hj;have cu:w4.drew.cell? (Addr.add ⟨r1,0,none⟩ ((j:Int).toNat*1))=some (iv (u.at' j)):=by
   rw[fm,aI s5 2 rfl hj,I6.bT _ _ _ _ hj,if_pos (by omega)]
  refine cT (dT (show(j:Int)>=0 by omega)) ⟨by omega,by omega,u.at' j,cu,by omega,by omega,m.at' j,by rw[fm,aI s5 1 rfl hj],?_⟩
  by_cases g:u.at' j<m.at' j
  ·refine cT (dT g) ⟨by omega,by omega,u.at' j,cu,by omega,by omega,?_⟩;rw[fm,aB ⟨by omega,by omega⟩];refine s5.aK 2 rfl hj rfl λ w6 s6=>?_;rw[I6.mG _ _ _ hj] at s6;have e:jQ u m=(I6.mix (j+1) u z6).put j (u.at' j+1):=by rw[hn]; unfold nj; rw[if_pos g]
   rw[<- e] at s6;exact⟨_,s6.cellsIn 2 rfl,s6.az 0 rfl (jQ u m).vs rfl (I6.one _) λ w8 s8=>⟨_,s8.cellsIn 0 rfl,rfl,s8.au⟩⟩
  ·refine cF (dF g) ⟨by omega,by omega,?_⟩;rw[fm];refine s5.aK 2 rfl hj rfl λ w6 s6=>⟨j,by omega,j,aB ⟨by omega,by omega⟩,by omega,rfl,?_,?_⟩
   ·rw[hn]; conv=>lhs; unfold nj
    rw[if_neg g]
   ·have e:(I6.mix (j+1) u z6).put j 0=I6.mix j u z6:=by
     refine I6.ext' λ i hi=>?_;rw[I6.rP _ _ _ _ hj hi,I6.bT _ _ _ _ hi,I6.bT _ _ _ _ hi,lT]
     by_cases h1:i=j
     ·rw[if_pos h1,if_neg (by omega)]
     ·rw[if_neg h1]
      by_cases h2:i<j
      ·rw[if_pos (by omega),if_pos h2]
      ·rw[if_neg (by omega),if_neg h2]
    rw[I6.mG _ _ _ hj,e] at s6;exact s6
 ·obtain rfl:k=0:=by omega
  have e:jQ u m=z6:=hn;refine cF (dF hlt) ⟨_,s4.cellsIn 2 rfl,?_⟩;rw[I6.Ls] at *;exact s4.az 0 rfl z6.vs rfl (I6.one _) λ w8 s8=>⟨_,s8.cellsIn 0 rfl,by rw[e],s8.au⟩
theorem L3(m:I6):∀ k,eZ m z6 k=0
 | 0=>rfl
 | k+1=>by simp[eZ,L3 m k,lT]
theorem HD{u m:I6}(h:AI m u):AI m (jQ u m):=by
 suffices H:∀ k,k<=6->∀ j,j<6->0<=(nj u m k).at' j/\(nj u m k).at' j<=m.at' j from⟨h.mm,H 6 (by omega)⟩
 intro k
 induction k with
 | zero=>intro _ j hj; have:=h.mm j hj; simp only[nj,lT]; omega
 | succ k ih =>
  intro hk j hj;unfold nj;have hu:=h.u j hj
  split
  ·rename_i g;rw[I6.rP _ _ _ _ (by omega) hj]
   split
   ·rename_i e; subst e; have:=h.u j hj; omega
   ·rw[I6.bT _ _ _ _ hj,lT]
    split<;>omega
  ·exact ih (by omega) j hj
theorem Cz{u m:I6}(h:AI m u):(jQ u m=z6/\∀ k,k<6->u.at' k=m.at' k)\/(rk m (jQ u m)=rk m u+1):=by
 suffices H:∀ k,k<=6->(∀ j,k<=j->j<6->u.at' j=m.at' j)->(nj u m k=z6/\∀ j,j<6->u.at' j=m.at' j)\/(rk m (nj u m k)=rk m u+1) from H 6 (by omega) λ j h1 h2=>by omega
 intro k
 induction k with
 | zero=>exact λ _ ha=>.inl ⟨rfl,λ j hj=>ha j (by omega) hj⟩
 | succ k ih =>
  intro hk ha;unfold nj
  by_cases g:u.at' k<m.at' k
  ·rw[if_pos g];refine .inr ?_;have at1:∀ j,j<6->((I6.mix (k+1) u z6).put k (u.at' k+1)).at' j=if j=k then u.at' k+1 else if j<k then u.at' j else 0:=λ j hj=>by
    rw[I6.rP _ _ _ _ (by omega) hj]
    split
    ·rfl
    ·rw[I6.bT _ _ _ _ hj,lT]
     by_cases h2:j<k
     ·rw[if_pos (by omega),if_pos h2]
     ·rw[if_neg (by omega),if_neg h2]
   have low:∀ i,i<=k->eZ m ((I6.mix (k+1) u z6).put k (u.at' k+1)) i=eZ m u i:=by
    intro i
    induction i with
    | zero=>intro _; rfl
    | succ i ih2 =>
     intro hi;simp only[eZ];rw[ih2 (by omega),at1 i (by omega),if_neg (by omega),if_pos (by omega)]
   have high:∀ d,k+1+d<=6->eZ m ((I6.mix (k+1) u z6).put k (u.at' k+1)) (k+1+d)=eZ m u (k+1+d)+1:=by
    intro d
    induction d with
    | zero =>
     intro _;show eZ m _ (k+1)=eZ m u (k+1)+1;simp only[eZ];rw[low k (by omega),at1 k (by omega),if_pos rfl];omega
    | succ d ih2 =>
     intro hd;show eZ m _ (k+1+d+1)=eZ m u (k+1+d+1)+1;simp only[eZ];rw[ih2 (by omega),at1 _ (by omega),if_neg (by omega),if_neg (by omega),ha (k+1+d) (by omega) (by omega),Int.add_mul];omega
   have:=high (6-(k+1)) (by omega);rw[show k+1+(6-(k+1))=6 by omega] at this;exact this
  ·rw[if_neg g];refine ih (by omega) λ j h1 h2=>?_;rcases Nat.lt_or_ge k j with h3|h3
   ·exact ha j (by omega) h2
   ·obtain rfl:j=k:=by omega
    have:=h.u j h2;omega
def bI(m:I6):Nat->I6
 | 0=>z6
 | i+1=>jQ (bI m i) m
def aQ(m:I6):Nat:=(pr m.l).toNat
theorem CF(m:I6)(h:I6.Le m 4):∀ k,k<=6->eZ m m k+1=Ah m k
 | 0,_=>rfl
 | k+1,hk=>by
  simp only[eZ,Ah];rw[<- CF m h k (by omega),Int.add_mul];omega
theorem Il{m:I6}(h:I6.Le m 4):AI m z6:=⟨h,λ k hk=>by have:=h k hk; rw[lT]; omega⟩
theorem fI{m:I6}(h:I6.Le m 4):∀ i,AI m (bI m i)
 | 0=>Il h
 | i+1=>HD (fI h i)
theorem jH{m:I6}(h:I6.Le m 4):0<aQ m/\(aQ m:Int)=pr m.l/\aQ m<=15625:=by
 have h1:=oV (leq h);have h2:m.l.length=6:=rfl;rw[h2] at h1;have h3:(5:Int) ^ 6=15625:=by decide
 unfold aQ;omega
theorem xB{m:I6}(h:I6.Le m 4):∀ i,i<aQ m->rk m (bI m i)=i
 | 0,_=>L3 m 6
 | i+1,hi=>by
  have h1:=xB h i (by omega);rcases Cz (fI h i) with⟨_,h2⟩|h2
  ·exfalso
   have h3:bI m i=m:=I6.ext' h2;rw[h3] at h1;have h4:=CF m h 6 (by omega);have h5:=(jH h).2.1;rw[rO] at h5;have h6:eZ m m 6=(i:Int):=h1;omega
  ·show rk m (jQ (bI m i) m)=_;rw[h2,h1]; omega
theorem DB{m:I6}(h:I6.Le m 4){i:Nat}(hi:i<aQ m):jQ (bI m i) m=z6<->i+1=aQ m:=by
 have h1:=xB h i hi;have h5:=(jH h).2.1;have h4:=CF m h 6 (by omega);rw[rO] at h5;constructor
 ·intro e;rcases Cz (fI h i) with⟨_,h2⟩|h2
  ·have h3:bI m i=m:=I6.ext' h2;rw[h3] at h1;have h6:eZ m m 6=(i:Int):=h1;omega
  ·rw[e] at h2;have h6:eZ m z6 6=rk m (bI m i)+1:=h2;rw[L3,h1] at h6;omega
 ·intro e;rcases Cz (fI h i) with⟨h2,_⟩|h2
  ·exact h2
  ·exfalso
   have h7:=pq (HD (fI h i)) 6 (by omega);have h6:eZ m (jQ (bI m i) m) 6=rk m (bI m i)+1:=h2;rw[h1] at h6;omega
theorem B4{w0 w:World}{b l:Nat}{m:I6}(hm:I6.Le m 4){R:Nat->aC}{B:aC}(hY:∀ (i:Nat) (w1:World) (Fr:aC),i<aQ m->St w0 w1 (star (R i) Fr)->iC prog l #[.agg (bI m i).vs.toArray] w1 λ g w2=>g=true/\St w0 w2 (star (R (i+1)) Fr))(h:St w0 w (star (R 0) (star (ai b m.vs.toArray 44) B))) :
  CP 124 #[.func (.yield l) #[] #[],.pointer (some ⟨b,0,none⟩)] w (λ r w'=>r=.tuple #[]/\St w0 w' (star (R (aQ m)) (star (ai b m.vs.toArray 44) B))):=by
 refine uB ?_;unfold qJ;refine aJ ?_;obtain⟨hc0,_,_⟩:=jH hm;have s1:St w0 (w.alloc (.cells z6.vs.toArray 44)) (Sep [ai w.heap.size z6.vs.toArray 44,R 0,ai b m.vs.toArray 44,B]):=h.qh.bW _ _;generalize World.alloc _ _=w1 at s1 ⊢;generalize w.heap.size=r1 at s1 ⊢;refine s1.az 0 rfl z6.vs rfl (I6.one _) λ w2 s2=>?_;refine⟨λ w3 x=>∃ i,i<aQ m/\x=aQ m-i/\St w0 w3 (Sep [ai r1 (bI m i).vs.toArray 44,R i,ai b m.vs.toArray 44,B]),⟨aQ m,0,hc0,by omega,s2⟩,?_⟩;rintro w3 x ⟨i,hi,rfl,s3⟩ -;refine⟨_,s3.cellsIn 0 rfl,?_⟩;have s3' : St w0 w3 (star (R i) (Sep [ai r1 (bI m i).vs.toArray 44,ai b m.vs.toArray 44,B])):=s3.out 1 rfl;have hy:=hY i w3 _ hi s3';obtain⟨fn,tmps,asg,bdy,hrun,hR⟩:=hy;refine⟨fn,tmps,asg,bdy,hrun,hR.mono λ e w4 ⟨g,he,hg,s4⟩=>⟨g,he,g,rfl,?_⟩⟩;subst hg;have s5:St w0 w4 (Sep [R (i+1),ai r1 (bI m i).vs.toArray 44,ai b m.vs.toArray 44,B]):=s4;refine cT rfl ⟨_,s5.cellsIn 1 rfl,_,s5.cellsIn 2 rfl,ak (DY w4 (fI hm i)) ?_⟩;rintro v w5 ⟨rfl,c5⟩;refine⟨_,rfl,(s5.quiet c5).az 1 rfl _ rfl (I6.one _) λ w6 s6=>⟨_,s6.cellsIn 1 rfl,?_⟩⟩;have s6' : St w0 w6 (Sep [R (i+1),ai r1 (jQ (bI m i) m).vs.toArray 44,ai b m.vs.toArray 44,B]):=s6
 by_cases hz:jQ (bI m i) m=z6
 ·have e:=(DB hm hi).1 hz;rw[<- e];exact cT (by rw[hz]; rfl) ⟨rfl,(s6'.av [0,2,3]).triple⟩
 ·refine cF (by rw[I6.beq_eq]; exact dF hz) ⟨aQ m-(i+1),by omega,i+1,?_,rfl,s6'.av [1,0,2,3]⟩;have:i+1≠aQ m:=λ e=>hz ((DB hm hi).2 e);omega
theorem J4{w0 w:World}{A:aC}(s:St w0 w A)(m:I6)(hm:I6.Le m 4)(hp:pr m.l<=1024):CP 48 #[.agg m.vs.toArray] w (λ r w'=>∃ b,r=.func (.func 124) #[] #[.pointer (some ⟨b,0,none⟩)]/\St w0 w' (star (ai b m.vs.toArray 44) A)):=by
 refine Ao ?_;unfold yl;refine aJ ?_;have s1:=s.one.bW m.vs.toArray 44;generalize World.alloc _ _=w1 at s1 ⊢;generalize w.heap.size=r1 at s1 ⊢;refine⟨_,s1.cellsIn 0 rfl,ak (xC w1 m) ?_⟩;rintro v w2 ⟨rfl,c2⟩;refine⟨_,rfl,?_⟩;have h1:=(oV (leq hm)).1;rw[if_pos ⟨leq hm,hp⟩];have s2:=s1.quiet c2;refine cF (by simp; omega) ⟨_,s2.cellsIn 0 rfl,?_⟩;refine ak (K:=λ r w'=>∃ b,r=.func (.func 124) #[] #[.pointer (some ⟨b,0,none⟩)]/\St w0 w' (star (ai b m.vs.toArray 44) A)) (yu ?_) ?_
 ·unfold vG;exact aJ ⟨_,rfl,((s2.av [1]).bW m.vs.toArray 44).pair⟩
 ·exact λ v w' h=>⟨v,rfl,h⟩
def uf(a:I6)(b:OA)(c d:Nat)(w:World)(K:KP):=aq w (.cells a.vs.toArray 44) λ a e=>aq e (.cells z6.vs.toArray 44) λ e f=>∃ g:I6,af f.drew (qd a 0) 0 g.vs/\CC 148 #[.slice b c d] f.drew λ b c=>∃ d:I6,b=.returned (.agg d.vs.toArray)/\af c (qd a 0) 0 g.vs/\CC 147 #[.agg d.vs.toArray,.agg g.vs.toArray] c λ a b=>∃ c:I6,a=.returned (.agg c.vs.toArray)/\aL (qd e 0) 0 c.vs b λ a=>∃ b:I6,af a (qd e 0) 0 b.vs/\K (.agg b.vs.toArray) a
theorem xq{u1 a1 l1 c1 w K}(h:uf u1 a1 l1 c1 w K):CP 104 #[.agg u1.vs.toArray,.slice a1 l1 c1] w K:=ah (aA []) func104 (by kernel_rfl) (by kernel_rfl) h
def zR(a b:I6)(w:World)(K:KP):=aq w (.cells a.vs.toArray 218) λ a c=>aq c (.cells b.vs.toArray 218) λ b c=>aq c (.cells z6.vs.toArray 44) λ c d=>aq d (.cells z6.vs.toArray 44) λ d e=>∃ f:Int->qN,(∃ g,f 0 e g)/\∀ e g h,f h e g->∀ i:qv,cond (decide (h<6)) (∃ i:qW,(∀ j,i j->∀ k:qv,∃ k,k<g/\f (IntKind.i64.wrap (h+1)) j k)/\0<=h/\h<6/\∃ f,e.drew.cell? (Addr.add (qd a 0) ((h).toNat*1))=some (iv f)/\0<=h/\h<6/\∃ g,e.drew.cell? (Addr.add (qd b 0) ((h).toNat*1))=some (iv g)/\cond (decide (f>g)) (0<=h/\h<6/\∃ f,e.drew.drew.cell? (Addr.add (qd a 0) ((h).toNat*1))=some (iv f)/\0<=h/\h<6/\∃ a,e.drew.drew.cell? (Addr.add (qd b 0) ((h).toNat*1))=some (iv a)/\0<=h/\h<6/\aP e.drew.drew (Addr.add (qd d 0) ((h).toNat*1)) (iv (IntKind.i64.wrap (f-a))) λ a=>i a) (i e.drew)) (∃ a:I6,af e (qd d 0) 0 a.vs/\aL (qd c 0) 0 a.vs e λ a=>∃ b:I6,af a (qd c 0) 0 b.vs/\K (.agg b.vs.toArray) a)
theorem AD{u1 u2 w K}(h:zR u1 u2 w K):CP 147 #[.agg u1.vs.toArray,.agg u2.vs.toArray] w K:=ah (aA [(58,[(7,.s (.int .i64))]),(467,[])]) func147 (by kernel_rfl) (by kernel_rfl) h
def wk(a:OA)(b c:Nat)(w:World)(K:KP):=aq w (.cells z6.vs.toArray 218) λ c d=>aq d (.cells z6.vs.toArray 218) λ d e=>∃ f:Int->qN,(∃ g,f 0 e g)/\∀ e g h,f h e g->∀ i:qv,cond (decide (h<(b:Int))) (an a λ a=>0<=h/\h<(b:Int)/\∃ b:I6,af e (Addr.add a ((h).toNat*6)) 0 b.vs/\aq e (.cells z6.vs.toArray 44) λ a i=>aL (qd a 0) 0 b.vs i λ b=>∃ i:Int->qN,(∃ j,i 0 b j)/\∀ b j k,i k b j->∀ l:qv,cond (decide (k<6)) (0<=k/\k<6/\∃ l,b.drew.cell? (Addr.add (qd d 0) ((k).toNat*1))=some (iv l)/\0<=k/\k<6/\∃ m,b.drew.cell? (Addr.add (qd a 0) ((k).toNat*1))=some (iv m)/\0<=k/\k<6/\aP b.drew (Addr.add (qd d 0) ((k).toNat*1)) (iv (IntKind.i64.wrap (l+m))) λ a=>∃ l,l<j/\i (IntKind.i64.wrap (k+1)) a l) (∃ a,a<g/\f (IntKind.i64.wrap (h+1)) b a)) (∃ a:I6,af e (qd d 0) 0 a.vs/\aL (qd c 0) 0 a.vs e λ a=>∃ b:I6,af a (qd c 0) 0 b.vs/\K (.agg b.vs.toArray) a)
theorem zS{a1 l1 c1 w K}(h:wk a1 l1 c1 w K):CP 148 #[.slice a1 l1 c1] w K:=ah (aA [(58,[(9,.s (.int .i64))]),(14950,[(13,.s (.int .i64))])]) func148 (by kernel_rfl) (by kernel_rfl) h
def kL(a b c d:Int)(w:World)(K:KP):=aq w (.cells #[iv a,iv b,iv c,iv d] 29) λ a b=>∃ c:Bool->qW,(∀ d e,c e d->∀ f:qv,cond e (K (iv 4) d) (K qz d))/\∃ d,b.cell? (qd a 0)=some (iv d)/\cond (decide (d<1)) (c true b) (∃ d,b.cell? (qd a 0)=some (iv d)/\cond (decide (d>1000000)) (c true b) (∃ d,b.cell? (qd a 1)=some (iv d)/\cond (decide (d<0)) (c true b) (∃ d,b.cell? (qd a 1)=some (iv d)/\cond (decide (d>100)) (c true b) (∃ d,b.cell? (qd a 2)=some (iv d)/\cond (decide (d<1)) (c true b) (∃ d,b.cell? (qd a 2)=some (iv d)/\cond (decide (d>3)) (c true b) (∃ d,b.cell? (qd a 3)=some (iv d)/\cond (decide (d<1)) (c true b) (∃ d,b.cell? (qd a 3)=some (iv d)/\c (decide (d>3)) b)))))))
theorem qu{n1 n2 n3 n4 w K}(h:kL n1 n2 n3 n4 w K):CP 57 #[.agg #[iv n1,iv n2,iv n3,iv n4]] w K:=ah (aA [(6,[(40,.s .bool)])]) func57 (by kernel_rfl) (by kernel_rfl) h
def kM(a:OA)(b c:Nat)(w:World)(K:KP):=aq w (.cells z6.vs.toArray 53) λ d e=>aq e (.cells z6.vs.toArray 53) λ e f=>0<=(if (6:Int)<(b:Int) then (6:Int) else (b:Int))/\(if (6:Int)<(b:Int) then (6:Int) else (b:Int))<=(c:Int)/\∃ g:Int->qN,(∃ h,g 0 f h)/\∀ f h i,g i f h->∀ j:qv,cond (decide (i<(((((if (6:Int)<(b:Int) then (6:Int) else (b:Int))).toNat-0):Nat):Int))) (an (if c=0 then a else Option.map (λ x=>Addr.add x (0*5)) a) λ a=>0<=i/\i<(((((if (6:Int)<(b:Int) then (6:Int) else (b:Int))).toNat-0):Nat):Int)/\∃ b c j k l,af f (Addr.add a ((i).toNat*5)) 0 [.string b,iv c,iv j,iv k,iv l]/\aq f (.cells #[.string (bs []),qz,qz,qz,qz] 94) λ a m=>aL (qd a 0) 0 [.string b,iv c,iv j,iv k,iv l] m λ b=>∃ c,b.cell? (qd a 2)=some (iv c)/\0<=i/\i<6/\aP b (Addr.add (qd e 0) ((i).toNat*1)) (iv c) λ a=>∃ b,b<h/\g (IntKind.i64.wrap (i+1)) a b) (∃ a:I6,af f (qd e 0) 0 a.vs/\aL (qd d 0) 0 a.vs f λ a=>∃ b:I6,af a (qd d 0) 0 b.vs/\K (.agg b.vs.toArray) a)
theorem qw{a1 l1 c1 w K}(h:kM a1 l1 c1 w K):CP 59 #[.slice a1 l1 c1] w K:=ah (aA [(58,[(12,.s (.int .i64))])]) func59 (by kernel_rfl) (by kernel_rfl) h
def gW(a:OA)(b c:Nat)(d:OA)(e f:Nat)(g:OA)(h i:Nat)(j:OA)(k l:Nat)(m:Int)(n o:I6)(w:World)(K:KP):=aq w (.cells #[.slice a b c,.slice d e f,.slice g h i,.slice j k l] 27) λ a b=>aq b (.cells (n.on (o.vs):List Value).toArray 114) λ b c=>∃ d e f g h i j k l n o p,af c (qd a 0) 0 [.slice d e f,.slice g h i,.slice j k l,.slice n o p]/\CC 85 #[.agg #[.slice d e f,.slice g h i,.slice j k l,.slice n o p],iv m] c λ c d=>∃ e,c=.returned (.bool e)/\cond (!e) (K (iv 6) d) (∃ c e f,d.cell? (qd a 1)=some (.slice c e f)/\an c λ a=>0<=m/\m<(e:Int)/\∃ c,d.cell? (Addr.add (Addr.add a ((m).toNat*4)) 2)=some (iv c)/\∃ a:Bool->qW,(∀ e f,a f e->∀ g:qv,cond f (K (iv 17) e) (K qz e))/\cond (c !=0) (∃ e:I6,af d (qd b 0) 0 e.vs/\∃ f:I6,af d (qd b 6) 0 f.vs/\CC 86 #[.agg e.vs.toArray,.agg f.vs.toArray] d λ b e=>∃ f,b=.returned (iv f)/\a (decide (c<f)) e) (a false d))
theorem lX{a1 l1 c1 a2 l2 c2 a3 l3 c3 a4 l4 c4 n1 u1 u2 w K}(h:gW a1 l1 c1 a2 l2 c2 a3 l3 c3 a4 l4 c4 n1 u1 u2 w K):CP 46 #[.agg #[.slice a1 l1 c1,.slice a2 l2 c2,.slice a3 l3 c3,.slice a4 l4 c4],iv n1,.agg (u1.on (u2.vs):List Value).toArray] w K:=ah (aA [(29,[(28,.s .bool)])]) func46 (by kernel_rfl) (by kernel_rfl) h
def mR(a:OA)(b c:Nat)(d:OA)(e f:Nat)(g:OA)(h i:Nat)(j:OA)(k l:Nat)(m n:Int)(o:OA)(p q:Nat)(r s:I6)(w:World)(K:KP):=aq w (.cells #[.slice a b c,.slice d e f,.slice g h i,.slice j k l] 27) λ a b=>aq b (.cells (r.on (s.vs):List Value).toArray 114) λ b c=>∃ d e f g h i j k l r s t,af c (qd a 0) 0 [.slice d e f,.slice g h i,.slice j k l,.slice r s t]/\aq c (.cells #[qn,qn,qn,qn,qz,qn] 211) λ c u=>aL (qd c 0) 0 [.slice d e f,.slice g h i,.slice j k l,.slice r s t,iv n,.slice o p q] u λ d=>∃ e f g h i j k l r s t u v x y z,af d (qd c 0) 0 [.slice e f g,.slice h i j,.slice k l r,.slice s t u,iv v,.slice x y z]/\∃ A:KP,(∀ B,∀ C:Value,A C B->∀ D:qv,∃ D E F G H I J L M N O P,af B (qd a 0) 0 [.slice D E F,.slice G H I,.slice J L M,.slice N O P]/\CC 85 #[.agg #[.slice D E F,.slice G H I,.slice J L M,.slice N O P],iv n] B λ a n=>∃ B,a=.returned (.bool B)/\cond (!B) (K (iv 6) n) (∃ a:I6,af n (qd b 6) 0 a.vs/\CC 65 #[.agg a.vs.toArray] n λ a n=>∃ B,a=.returned (iv B)/\cond (B !=0) (K (iv B) n) (∃ a:KP,(∀ B,∀ D:Value,a D B->∀ E:qv,∃ E F:I6,af B (qd b 0) 0 (E.on (F.vs))/\cU prog D #[.agg (E.on (F.vs):List Value).toArray] B λ b B=>∃ D,b=.returned (.bool D)/\cond (!D) (K (iv 15) B) (K qz B))/\CC 140 #[.slice o p q] n λ b n=>∃ o,b=.returned (.bool o)/\cond o (a (.func (.func 141) #[] #[]) n) (a C n))))/\cond (m==1) (A (.func (.func 137) #[.agg #[.slice e f g,.slice h i j,.slice k l r,.slice s t u,iv v,.slice x y z]] #[]) d) (cond (m==2) (∃ a b e f g h i j k l n o p q r s,af d (qd c 0) 0 [.slice a b e,.slice f g h,.slice i j k,.slice l n o,iv p,.slice q r s]/\A (.func (.func 138) #[.agg #[.slice a b e,.slice f g h,.slice i j k,.slice l n o,iv p,.slice q r s]] #[]) d) (cond (m==3) (∃ a b e f g h i j k l m n o p q r,af d (qd c 0) 0 [.slice a b e,.slice f g h,.slice i j k,.slice l m n,iv o,.slice p q r]/\A (.func (.func 139) #[.agg #[.slice a b e,.slice f g h,.slice i j k,.slice l m n,iv o,.slice p q r]] #[]) d) (K (iv 4) d)))
theorem q9{a1 l1 c1 a2 l2 c2 a3 l3 c3 a4 l4 c4 n1 n2 a5 l5 c5 u1 u2 w K}(h:mR a1 l1 c1 a2 l2 c2 a3 l3 c3 a4 l4 c4 n1 n2 a5 l5 c5 u1 u2 w K):CP 101 #[.agg #[.slice a1 l1 c1,.slice a2 l2 c2,.slice a3 l3 c3,.slice a4 l4 c4],iv n1,iv n2,.slice a5 l5 c5,.agg (u1.on (u2.vs):List Value).toArray] w K:=ah (aA [(15,[(12,.s (.raw))]),(127,[(12,.s (.raw))])]) func101 (by kernel_rfl) (by kernel_rfl) h
def nv(a:Int)(b:I6)(c:OA)(d e:Nat)(f:OA)(g h:Nat)(w:World)(K:KP):=aq w (.cells b.vs.toArray 44) λ b i=>∃ j:I6,af i (qd b 0) 0 j.vs/\CC 142 #[iv a,.agg j.vs.toArray,.slice c d e,.slice f g h] i λ h i=>∃ j,h=.returned (iv j)/\cond (j !=0) (K (.tuple #[qn,iv j]) i) (CC 143 #[.slice c d e] i λ c d=>∃ e h i,c=.returned (.slice e h i)/\∃ c:Int->qN,(∃ j,c 0 d j)/\∀ d j k,c k d j->∀ l:qv,cond (decide (k<(g:Int))) (∃ l:qW,(∀ m,l m->∀ n:qv,∃ n,n<j/\c (IntKind.i64.wrap (k+1)) m n)/\an f λ c=>0<=k/\k<(g:Int)/\∃ f:I6,af d (Addr.add c ((k).toNat*6)) 0 f.vs/\aq d (.cells z6.vs.toArray 44) λ c g=>aL (qd c 0) 0 f.vs g λ f=>CC 144 #[.slice e h i] f λ f g=>∃ j:I6,f=.returned (.agg j.vs.toArray)/\aq g (.cells z6.vs.toArray 44) λ f g=>aL (qd f 0) 0 j.vs g λ g=>∃ j:qW,(∀ m,j m->∀ n:qv,∃ n:I6,af m (qd c 0) 0 n.vs/\an e λ o=>0<=k/\k<(h:Int)/\aL (Addr.add o ((k).toNat*6)) 0 n.vs m λ m=>l m)/\cond (a==2) (∃ m:I6,af g.drew (qd b 0) 0 m.vs/\∃ n:I6,af g.drew (qd f 0) 0 n.vs/\an e λ o=>0<=k/\k<(h:Int)/\∃ p:I6,af g.drew (Addr.add o ((k).toNat*6)) 0 p.vs/\∃ o:I6,af g.drew (qd c 0) 0 o.vs/\CC 145 #[.agg m.vs.toArray,.agg n.vs.toArray,.agg p.vs.toArray,.agg o.vs.toArray] g.drew λ m n=>∃ o,m=.returned (.bool o)/\cond o (l n) (j n)) (cond (a==3) (∃ a:I6,af g.drew (qd b 0) 0 a.vs/\∃ b:I6,af g.drew (qd f 0) 0 b.vs/\an e λ f=>0<=k/\k<(h:Int)/\∃ l:I6,af g.drew (Addr.add f ((k).toNat*6)) 0 l.vs/\∃ f:I6,af g.drew (qd c 0) 0 f.vs/\CC 146 #[.agg a.vs.toArray,.agg b.vs.toArray,.agg l.vs.toArray,.agg f.vs.toArray] g.drew λ a b=>∃ f:I6,a=.returned (.agg f.vs.toArray)/\aL (qd c 0) 0 f.vs b λ a=>j a) (j g))) (K (.tuple #[.slice e h i,qz]) d))
theorem rU{n1 u1 a1 l1 c1 a2 l2 c2 w K}(h:nv n1 u1 a1 l1 c1 a2 l2 c2 w K):CP 102 #[iv n1,.agg u1.vs.toArray,.slice a1 l1 c1,.slice a2 l2 c2] w K:=ah (aA [(122,[(27,.s (.int .i64))]),(979,[]),(15667,[])]) func102 (by kernel_rfl) (by kernel_rfl) h
def mY(a b c d:Int)(e f:I6)(w:World)(K:KP):=aq w (.cells #[iv a,iv b,iv c,iv d] 29) λ a b=>aq b (.cells e.vs.toArray 53) λ b c=>aq c (.cells f.vs.toArray 44) λ c d=>aq d (.cells z6.vs.toArray 53) λ d e=>∃ f g h i,af e (qd a 0) 0 [iv f,iv g,iv h,iv i]/\CC 57 #[.agg #[iv f,iv g,iv h,iv i]] e λ e f=>∃ g,e=.returned (iv g)/\cond (g !=0) (aL (qd d 0) 0 z6.vs f λ e=>∃ h:I6,af e (qd d 0) 0 h.vs/\K (.tuple #[.agg h.vs.toArray,iv g]) e) (∃ e:Value->Nat->qW,(∀ g,∀ h:Value,∀ i,e h i g->∀ j:qv,∃ j:I6,af g (qd c 0) 0 j.vs/\∃ c:Int->qN,(∃ k,c 0 g k)/\∀ g k l,c l g k->∀ m:qv,cond (decide (l<6)) (∃ m:qW,(∀ n,m n->∀ o:qv,∃ o,o<k/\c (IntKind.i64.wrap (l+1)) n o)/\0<=l/\l<6/\∃ c,(j.vs.toArray:Array Value)[(l).toNat*1]?=some (iv c)/\∃ j:Bool->qW,(∀ k n,j n k->∀ o:qv,cond n (0<=l/\l<6/\∃ n,k.cell? (Addr.add (qd b 0) ((l).toNat*1))=some (iv n)/\cU prog h #[iv n] k λ h n=>∃ o,h=.returned (iv o)/\0<=l/\l<6/\aP n (Addr.add (qd i 0) ((l).toNat*1)) (iv o) λ h=>m h) (m k))/\cond (decide (c>0)) (∃ c:I6,af g (qd b 0) 0 c.vs/\CC 150 #[.agg c.vs.toArray] g λ c h=>∃ k,c=.returned (.bool k)/\j k h) (j false g)) (∃ c:Bool->qW,(∀ h j,c j h->∀ k:qv,cond j (aL (qd d 0) 0 z6.vs h λ j=>∃ k:I6,af j (qd d 0) 0 k.vs/\K (.tuple #[.agg k.vs.toArray,iv 4]) j) (∃ j:I6,af h (qd i 0) 0 j.vs/\aL (qd d 0) 0 j.vs h λ h=>∃ j:I6,af h (qd d 0) 0 j.vs/\K (.tuple #[.agg j.vs.toArray,qz]) h))/\∃ d:I6,af g (qd b 0) 0 d.vs/\CC 150 #[.agg d.vs.toArray] g λ d g=>∃ h,d=.returned (.bool h)/\cond (!h) (c true g) (∃ d:I6,af g (qd i 0) 0 d.vs/\∃ h:I6,af g (qd b 0) 0 h.vs/\cond (!(I6.beq d h)) (∃ d:I6,af g (qd i 0) 0 d.vs/\CC 150 #[.agg d.vs.toArray] g λ d h=>∃ i,d=.returned (.bool i)/\c (!i) h) (c false g))))/\∃ c d g h,af f.drew (qd a 0) 0 [iv c,iv d,iv g,iv h]/\∃ i:I6,af f.drew (qd b 0) 0 i.vs/\(CC 149 #[.agg #[iv c,iv d,iv g,iv h]] f.drew λ j k=>∃ l:Value,j=.returned l/\af k (qd b 0) 0 i.vs/\aq k (.cells z6.vs.toArray 53) λ j k=>af k (qd b 0) 0 i.vs/\aL (qd j 0) 0 i.vs k λ k=>e l j k)/\aq f.drew (.cells z6.vs.toArray 53) λ f j=>af j (qd b 0) 0 i.vs/\af j (qd a 0) 0 [iv c,iv d,iv g,iv h]/\CC 149 #[.agg #[iv c,iv d,iv g,iv h]] j λ a c=>∃ d:Value,a=.returned d/\af c (qd b 0) 0 i.vs/\aL (qd f 0) 0 i.vs c λ a=>e d f a)
theorem rD{n1 n2 n3 n4 u1 u2 w K}(h:mY n1 n2 n3 n4 u1 u2 w K):CP 105 #[.agg #[iv n1,iv n2,iv n3,iv n4],.agg u1.vs.toArray,.agg u2.vs.toArray] w K:=ah (aA [(7,[(9,.s (.raw)),(10,.s (.blk))]),(122,[(23,.s (.int .i64))]),(979,[]),(7833,[(32,.s .bool)]),(62,[(53,.s .bool)])]) func105 (by kernel_rfl) (by kernel_rfl) h
def sx(a:OA)(b c:Nat)(d:OA)(e f:Nat)(g:OA)(h i:Nat)(j:OA)(k l:Nat)(m:Int)(w:World)(K:KP):=aq w (.cells #[.slice a b c,.slice d e f,.slice g h i,.slice j k l] 27) λ a b=>cond (decide (m>=0)) (∃ c d e,b.cell? (qd a 1)=some (.slice c d e)/\K (.bool (decide (m<(d:Int)))) b) (K (.bool false) b)
theorem wB{a1 l1 c1 a2 l2 c2 a3 l3 c3 a4 l4 c4 n1 w K}(h:sx a1 l1 c1 a2 l2 c2 a3 l3 c3 a4 l4 c4 n1 w K):CP 85 #[.agg #[.slice a1 l1 c1,.slice a2 l2 c2,.slice a3 l3 c3,.slice a4 l4 c4],iv n1] w K:=ah (aA []) func85 (by kernel_rfl) (by kernel_rfl) h
def fq(a:OA)(b c:Nat)(d:OA)(e f:Nat)(g:OA)(h i:Nat)(j:OA)(k l:Nat)(m:Int)(n:OA)(o p:Nat)(q r:I6)(w:World)(K:KP):=aq w (.cells #[.slice a b c,.slice d e f,.slice g h i,.slice j k l,iv m,.slice n o p] 211) λ a b=>aq b (.cells (q.on (r.vs):List Value).toArray 114) λ b c=>∃ d e f g h i j k l m n o p q r s,af c.drew (qd a 0) 0 [.slice d e f,.slice g h i,.slice j k l,.slice m n o,iv p,.slice q r s]/\∃ t u:I6,af c.drew (qd b 0) 0 (t.on (u.vs))/\∃ b v x y z A B C D E F G,af c.drew (qd a 0) 0 [.slice b v x,.slice y z A,.slice B C D,.slice E F G]/\∃ H,c.drew.cell? (qd a 4)=some (iv H)/\∃ I J L,c.drew.cell? (qd a 5)=some (.slice I J L)/\CC 174 #[.agg #[.slice d e f,.slice g h i,.slice j k l,.slice m n o,iv p,.slice q r s],.agg (t.on (u.vs):List Value).toArray] c.drew λ c d=>∃ e,c=.returned (iv e)/\d.cell? (qd a 5)=some (.slice I J L)/\d.cell? (qd a 4)=some (iv H)/\af d (qd a 0) 0 [.slice b v x,.slice y z A,.slice B C D,.slice E F G]/\CC 175 #[.agg #[.slice b v x,.slice y z A,.slice B C D,.slice E F G],iv H,.slice I J L] d λ a b=>∃ c,a=.returned (iv c)/\K (.bool (decide (e<=c))) b
theorem kg{a1 l1 c1 a2 l2 c2 a3 l3 c3 a4 l4 c4 n1 a5 l5 c5 u1 u2 w K}(h:fq a1 l1 c1 a2 l2 c2 a3 l3 c3 a4 l4 c4 n1 a5 l5 c5 u1 u2 w K):CP 137 #[.agg #[.slice a1 l1 c1,.slice a2 l2 c2,.slice a3 l3 c3,.slice a4 l4 c4,iv n1,.slice a5 l5 c5],.agg (u1.on (u2.vs):List Value).toArray] w K:=ah (aA []) func137 (by kernel_rfl) (by kernel_rfl) h
def dX(a:OA)(b c:Nat)(d:OA)(e f:Nat)(g:OA)(h i:Nat)(j:OA)(k l:Nat)(m:Int)(n:OA)(o p:Nat)(q r:I6)(w:World)(K:KP):=aq w (.cells #[.slice a b c,.slice d e f,.slice g h i,.slice j k l,iv m,.slice n o p] 211) λ a b=>aq b (.cells (q.on (r.vs):List Value).toArray 114) λ b c=>∃ d:Bool->qW,(∀ e f,d f e->∀ g:qv,K (.bool f) e)/\∃ e f g,c.drew.cell? (qd a 5)=some (.slice e f g)/\∃ h i j,c.drew.cell? (qd a 5)=some (.slice h i j)/\∃ k l m,c.drew.cell? (qd a 5)=some (.slice k l m)/\0<=(l:Int)/\(l:Int)<=(g:Int)/\0<=(i:Int)/\(i:Int)<=((((l:Int)).toNat:Nat):Int)/\∃ n o:I6,af c.drew (qd b 0) 0 (n.on (o.vs))/\(aq c.drew (.cells (n.on (o.vs):List Value).toArray 114) λ p q=>q.cell? (qd a 5)=some (.slice k l m)/\q.cell? (qd a 5)=some (.slice h i j)/\q.cell? (qd a 5)=some (.slice e f g)/\(aV prog (Builtin.append_ #[121,121] 121 #[.slice (if ((l:Int)).toNat=0 then e else Option.map (λ x=>Addr.add x (0*12)) e) (((i:Int)).toNat-0) (((l:Int)).toNat-0),.slice (some (qd p 0)) 1 1]) q λ r s=>∃ t u v,r=(.slice t u v)/\(CC 176 #[.slice t u v] s λ r y=>∃ z A B C D E F,r=.returned (.tuple #[.agg #[.slice z A B,.slice C D E],.bool F])/\aq y (.cells #[qn,qn] 192) λ r y=>aL (qd r 0) 0 [.slice z A B,.slice C D E] y λ r=>d F r)/\aq s (.cells #[qn,qn] 192) λ r s=>CC 176 #[.slice t u v] s λ s t=>∃ u v y z A B C,s=.returned (.tuple #[.agg #[.slice u v y,.slice z A B],.bool C])/\aL (qd r 0) 0 [.slice u v y,.slice z A B] t λ r=>d C r)/\aq q (.cells #[qn,qn] 192) λ q r=>r.cell? (qd a 5)=some (.slice k l m)/\r.cell? (qd a 5)=some (.slice h i j)/\r.cell? (qd a 5)=some (.slice e f g)/\aV prog (Builtin.append_ #[121,121] 121 #[.slice (if ((l:Int)).toNat=0 then e else Option.map (λ x=>Addr.add x (0*12)) e) (((i:Int)).toNat-0) (((l:Int)).toNat-0),.slice (some (qd p 0)) 1 1]) r λ p r=>∃ s t u,p=(.slice s t u)/\CC 176 #[.slice s t u] r λ p r=>∃ s t u v y z A,p=.returned (.tuple #[.agg #[.slice s t u,.slice v y z],.bool A])/\aL (qd q 0) 0 [.slice s t u,.slice v y z] r λ p=>d A p)/\aq c.drew (.cells #[qn,qn] 192) λ c p=>af p (qd b 0) 0 (n.on (o.vs))/\p.cell? (qd a 5)=some (.slice k l m)/\p.cell? (qd a 5)=some (.slice h i j)/\p.cell? (qd a 5)=some (.slice e f g)/\aq p (.cells (n.on (o.vs):List Value).toArray 114) λ b n=>n.cell? (qd a 5)=some (.slice k l m)/\n.cell? (qd a 5)=some (.slice h i j)/\n.cell? (qd a 5)=some (.slice e f g)/\aV prog (Builtin.append_ #[121,121] 121 #[.slice (if ((l:Int)).toNat=0 then e else Option.map (λ x=>Addr.add x (0*12)) e) (((i:Int)).toNat-0) (((l:Int)).toNat-0),.slice (some (qd b 0)) 1 1]) n λ a b=>∃ e f g,a=(.slice e f g)/\CC 176 #[.slice e f g] b λ a b=>∃ e f g h i j k,a=.returned (.tuple #[.agg #[.slice e f g,.slice h i j],.bool k])/\aL (qd c 0) 0 [.slice e f g,.slice h i j] b λ a=>d k a
theorem iD{a1 l1 c1 a2 l2 c2 a3 l3 c3 a4 l4 c4 n1 a5 l5 c5 u1 u2 w K}(h:dX a1 l1 c1 a2 l2 c2 a3 l3 c3 a4 l4 c4 n1 a5 l5 c5 u1 u2 w K):CP 138 #[.agg #[.slice a1 l1 c1,.slice a2 l2 c2,.slice a3 l3 c3,.slice a4 l4 c4,iv n1,.slice a5 l5 c5],.agg (u1.on (u2.vs):List Value).toArray] w K:=ah (aA [(3,[(6,.s .bool)])]) func138 (by kernel_rfl) (by kernel_rfl) h
def dY(a:OA)(b c:Nat)(d:OA)(e f:Nat)(g:OA)(h i:Nat)(j:OA)(k l:Nat)(m:Int)(n:OA)(o p:Nat)(q r:I6)(w:World)(K:KP):=aq w (.cells #[.slice a b c,.slice d e f,.slice g h i,.slice j k l,iv m,.slice n o p] 211) λ a b=>aq b (.cells (q.on (r.vs):List Value).toArray 114) λ b c=>∃ d e f g h i j k l m n o p q r s,af c (qd a 0) 0 [.slice d e f,.slice g h i,.slice j k l,.slice m n o,iv p,.slice q r s]/\∃ t u:I6,af c (qd b 0) 0 (t.on (u.vs))/\CC 137 #[.agg #[.slice d e f,.slice g h i,.slice j k l,.slice m n o,iv p,.slice q r s],.agg (t.on (u.vs):List Value).toArray] c λ c d=>∃ e,c=.returned (.bool e)/\cond e (K (.bool true) d) (∃ c e f g h i j k l m n o p q r s,af d (qd a 0) 0 [.slice c e f,.slice g h i,.slice j k l,.slice m n o,iv p,.slice q r s]/\∃ a t:I6,af d (qd b 0) 0 (a.on (t.vs))/\CC 138 #[.agg #[.slice c e f,.slice g h i,.slice j k l,.slice m n o,iv p,.slice q r s],.agg (a.on (t.vs):List Value).toArray] d λ a b=>∃ c,a=.returned (.bool c)/\K (.bool c) b)
theorem iE{a1 l1 c1 a2 l2 c2 a3 l3 c3 a4 l4 c4 n1 a5 l5 c5 u1 u2 w K}(h:dY a1 l1 c1 a2 l2 c2 a3 l3 c3 a4 l4 c4 n1 a5 l5 c5 u1 u2 w K):CP 139 #[.agg #[.slice a1 l1 c1,.slice a2 l2 c2,.slice a3 l3 c3,.slice a4 l4 c4,iv n1,.slice a5 l5 c5],.agg (u1.on (u2.vs):List Value).toArray] w K:=ah (aA []) func139 (by kernel_rfl) (by kernel_rfl) h
def mS(a:OA)(b c:Nat)(w:World)(K:KP):=cond (decide ((b:Int)>(0:Int))) (an a λ a=>0<=(IntKind.i64.wrap ((b:Int)-(1:Int)))/\(IntKind.i64.wrap ((b:Int)-(1:Int)))<(b:Int)/\∃ c:I6,af w (Addr.add (Addr.add a (((IntKind.i64.wrap ((b:Int)-(1:Int)))).toNat*12)) 6) 0 c.vs/\K (.bool (I6.beq c z6)) w) (K (.bool false) w)
theorem ri{a1 l1 c1 w K}(h:mS a1 l1 c1 w K):CP 140 #[.slice a1 l1 c1] w K:=ah (aA []) func140 (by kernel_rfl) (by kernel_rfl) h
def jA(a b:I6)(w:World)(K:KP):=aq w (.cells (a.on (b.vs):List Value).toArray 114) λ a b=>∃ c:I6,af b (qd a 6) 0 c.vs/\K (.bool (I6.beq c z6)) b
theorem nZ{u1 u2 w K}(h:jA u1 u2 w K):CP 141 #[.agg (u1.on (u2.vs):List Value).toArray] w K:=ah (aA []) func141 (by kernel_rfl) (by kernel_rfl) h
def nw(a:Int)(b:I6)(c:OA)(d e:Nat)(f:OA)(g h:Nat)(w:World)(K:KP):=aq w (.cells b.vs.toArray 44) λ b i=>∃ j:Bool->qW,(∀ k l,j l k->∀ m:qv,cond l (K (iv 4) k) (∃ l:Bool->qW,(∀ m n,l n m->∀ o:qv,cond n (K (iv 3) m) (∃ n:I6,af m (qd b 0) 0 n.vs/\CC 65 #[.agg n.vs.toArray] m λ b m=>∃ n,b=.returned (iv n)/\cond (n !=0) (K (iv 4) m) (∃ b:Int->qN,(∃ n,b 0 m n)/\∀ m n o,b o m n->∀ p:qv,cond (decide (o<2)) (0<=o/\o<2/\∃ p q r,(#[.slice c d e,.slice f g h]:Array Value)[(o).toNat*1]?=some (.slice p q r)/\∃ c:Int->qN,(∃ e,c 0 m e)/\∀ f e h,c h f e->∀ r:qv,cond (decide (h<(q:Int))) (an p λ p=>0<=h/\h<(q:Int)/\∃ q:I6,af f (Addr.add p ((h).toNat*6)) 0 q.vs/\aq f (.cells z6.vs.toArray 44) λ p r=>aL (qd p 0) 0 q.vs r λ q=>∃ r:I6,af q (qd p 0) 0 r.vs/\CC 65 #[.agg r.vs.toArray] q λ p q=>∃ r,p=.returned (iv r)/\cond (r !=0) (K (iv 4) q) (∃ p,p<e/\c (IntKind.i64.wrap (h+1)) q p)) (∃ c,c<n/\b (IntKind.i64.wrap (o+1)) f c)) (K qz m))))/\cond ((d:Int) !=(g:Int)) (l true k) (l (decide ((d:Int)>(8:Int))) k)))/\cond (decide (a<1)) (j true i) (j (decide (a>3)) i)
theorem rV{n1 u1 a1 l1 c1 a2 l2 c2 w K}(h:nw n1 u1 a1 l1 c1 a2 l2 c2 w K):CP 142 #[iv n1,.agg u1.vs.toArray,.slice a1 l1 c1,.slice a2 l2 c2] w K:=ah (aA [(12,[(13,.s .bool)]),(51,[(20,.s .bool)]),(58,[(38,.s (.int .i64))]),(14950,[(43,.s (.int .i64))])]) func142 (by kernel_rfl) (by kernel_rfl) h
def BE(a:OA)(b c:Nat)(w:World)(K:KP):=aq w (.cells z6.vs.toArray 44) λ d e=>CC 148 #[.slice a b c] e λ a b=>∃ c:I6,a=.returned (.agg c.vs.toArray)/\aL (qd d 0) 0 c.vs b λ a=>∃ b:I6,af a (qd d 0) 0 b.vs/\K (.agg b.vs.toArray) a
theorem C9{a1 l1 c1 w K}(h:BE a1 l1 c1 w K):CP 144 #[.slice a1 l1 c1] w K:=ah (aA []) func144 (by kernel_rfl) (by kernel_rfl) h
def j7(a b c d:I6)(w:World)(K:KP):=aq w (.cells a.vs.toArray 44) λ a e=>aq e (.cells b.vs.toArray 44) λ b e=>aq e (.cells c.vs.toArray 44) λ c e=>aq e (.cells d.vs.toArray 44) λ d e=>∃ f:Int->qN,(∃ g,f 0 e g)/\∀ e g h,f h e g->∀ i:qv,cond (decide (h<6)) (∃ i:Bool->qW,(∀ j k,i k j->∀ l:qv,cond k (K (.bool true) j) (∃ k,k<g/\f (IntKind.i64.wrap (h+1)) j k))/\0<=h/\h<6/\∃ f,e.drew.cell? (Addr.add (qd d 0) ((h).toNat*1))=some (iv f)/\0<=h/\h<6/\∃ g,e.drew.cell? (Addr.add (qd c 0) ((h).toNat*1))=some (iv g)/\cond (decide (f<g)) (0<=h/\h<6/\∃ f,e.drew.cell? (Addr.add (qd b 0) ((h).toNat*1))=some (iv f)/\0<=h/\h<6/\∃ b,e.drew.cell? (Addr.add (qd c 0) ((h).toNat*1))=some (iv b)/\0<=h/\h<6/\∃ c,e.drew.cell? (Addr.add (qd d 0) ((h).toNat*1))=some (iv c)/\0<=h/\h<6/\∃ d,e.drew.cell? (Addr.add (qd a 0) ((h).toNat*1))=some (iv d)/\i (decide ((IntKind.i64.wrap ((IntKind.i64.wrap (f-b))+c))<d)) e.drew) (i false e.drew)) (K (.bool false) e)
theorem pN{u1 u2 u3 u4 w K}(h:j7 u1 u2 u3 u4 w K):CP 145 #[.agg u1.vs.toArray,.agg u2.vs.toArray,.agg u3.vs.toArray,.agg u4.vs.toArray] w K:=ah (aA [(26,[(10,.s (.int .i64))]),(1689,[(36,.s .bool)])]) func145 (by kernel_rfl) (by kernel_rfl) h
def lQ(a b c d:I6)(w:World)(K:KP):=aq w (.cells a.vs.toArray 44) λ a e=>aq e (.cells b.vs.toArray 44) λ b e=>aq e (.cells c.vs.toArray 44) λ c e=>aq e (.cells d.vs.toArray 44) λ d e=>aq e (.cells z6.vs.toArray 44) λ e f=>∃ g:Int->qN,(∃ h,g 0 f h)/\∀ f h i,g i f h->∀ j:qv,cond (decide (i<6)) (∃ j:qW,(∀ k,j k->∀ l:qv,∃ l,l<h/\g (IntKind.i64.wrap (i+1)) k l)/\0<=i/\i<6/\∃ g,f.drew.cell? (Addr.add (qd d 0) ((i).toNat*1))=some (iv g)/\0<=i/\i<6/\∃ h,f.drew.cell? (Addr.add (qd c 0) ((i).toNat*1))=some (iv h)/\cond (decide (g<h)) (0<=i/\i<6/\∃ g,f.drew.drew.cell? (Addr.add (qd c 0) ((i).toNat*1))=some (iv g)/\0<=i/\i<6/\∃ h,f.drew.drew.cell? (Addr.add (qd c 0) ((i).toNat*1))=some (iv h)/\0<=i/\i<6/\∃ c,f.drew.drew.cell? (Addr.add (qd d 0) ((i).toNat*1))=some (iv c)/\0<=i/\i<6/\∃ k,f.drew.drew.cell? (Addr.add (qd b 0) ((i).toNat*1))=some (iv k)/\0<=i/\i<6/\∃ b,f.drew.drew.cell? (Addr.add (qd a 0) ((i).toNat*1))=some (iv b)/\0<=i/\i<6/\aP f.drew.drew (Addr.add (qd d 0) ((i).toNat*1)) (iv (IntKind.i64.wrap (g-(if (if (0:Int)>(IntKind.i64.wrap (k-b)) then (0:Int) else (IntKind.i64.wrap (k-b)))<(IntKind.i64.wrap (h-c)) then (if (0:Int)>(IntKind.i64.wrap (k-b)) then (0:Int) else (IntKind.i64.wrap (k-b))) else (IntKind.i64.wrap (h-c)))))) λ a=>j a) (j f.drew)) (∃ a:I6,af f (qd d 0) 0 a.vs/\aL (qd e 0) 0 a.vs f λ a=>∃ b:I6,af a (qd e 0) 0 b.vs/\K (.agg b.vs.toArray) a)
theorem qH{u1 u2 u3 u4 w K}(h:lQ u1 u2 u3 u4 w K):CP 146 #[.agg u1.vs.toArray,.agg u2.vs.toArray,.agg u3.vs.toArray,.agg u4.vs.toArray] w K:=ah (aA [(26,[(10,.s (.int .i64))]),(211,[])]) func146 (by kernel_rfl) (by kernel_rfl) h
def sR(a b c d:Int)(w:World)(K:KP):=aq w (.cells #[iv a,iv b,iv c,iv d] 29) λ a b=>K (.func (.func 177) #[] #[qp a]) b
theorem gq{n1 n2 n3 n4 w K}(h:sR n1 n2 n3 n4 w K):CP 149 #[.agg #[iv n1,iv n2,iv n3,iv n4]] w K:=ah (aA []) func149 (by kernel_rfl) (by kernel_rfl) h
def kN(a:I6)(w:World)(K:KP):=aq w (.cells a.vs.toArray 53) λ a b=>∃ c:I6,af b (qd a 0) 0 c.vs/\∃ a:Int->qN,(∃ d,a 0 b d)/\∀ b d e,a e b d->∀ f:qv,cond (decide (e<6)) (0<=e/\e<6/\∃ f,(c.vs.toArray:Array Value)[(e).toNat*1]?=some (iv f)/\CC 178 #[iv f] b λ c f=>∃ g,c=.returned (iv g)/\cond (g !=0) (K (.bool false) f) (∃ c,c<d/\a (IntKind.i64.wrap (e+1)) f c)) (K (.bool true) b)
theorem qy{u1 w K}(h:kN u1 w K):CP 150 #[.agg u1.vs.toArray] w K:=ah (aA [(26,[(6,.s (.int .i64))])]) func150 (by kernel_rfl) (by kernel_rfl) h
def dZ(a:OA)(b c:Nat)(d:OA)(e f:Nat)(g:OA)(h i:Nat)(j:OA)(k l:Nat)(m:Int)(n:OA)(o p:Nat)(q r:I6)(w:World)(K:KP):=aq w (.cells #[.slice a b c,.slice d e f,.slice g h i,.slice j k l,iv m,.slice n o p] 211) λ a b=>aq b (.cells (q.on (r.vs):List Value).toArray 114) λ b c=>∃ d e f,c.cell? (qd a 0)=some (.slice d e f)/\∃ a:I6,af c (qd b 6) 0 a.vs/\CC 196 #[.slice d e f,.agg a.vs.toArray] c λ a b=>∃ c,a=.returned (iv c)/\K (iv c) b
theorem iF{a1 l1 c1 a2 l2 c2 a3 l3 c3 a4 l4 c4 n1 a5 l5 c5 u1 u2 w K}(h:dZ a1 l1 c1 a2 l2 c2 a3 l3 c3 a4 l4 c4 n1 a5 l5 c5 u1 u2 w K):CP 174 #[.agg #[.slice a1 l1 c1,.slice a2 l2 c2,.slice a3 l3 c3,.slice a4 l4 c4,iv n1,.slice a5 l5 c5],.agg (u1.on (u2.vs):List Value).toArray] w K:=ah (aA []) func174 (by kernel_rfl) (by kernel_rfl) h
def fP(a:OA)(b c:Nat)(d:OA)(e f:Nat)(g:OA)(h i:Nat)(j:OA)(k l:Nat)(m:Int)(n:OA)(o p:Nat)(w:World)(K:KP):=aq w (.cells #[.slice a b c,.slice d e f,.slice g h i,.slice j k l] 27) λ a b=>∃ c d e f g h i j k l q r,af b (qd a 0) 0 [.slice c d e,.slice f g h,.slice i j k,.slice l q r]/\CC 85 #[.agg #[.slice c d e,.slice f g h,.slice i j k,.slice l q r],iv m] b λ b c=>∃ d,b=.returned (.bool d)/\cond (!d) (K qz c) (∃ b d e f g h i j k l q r,af c.drew (qd a 0) 0 [.slice b d e,.slice f g h,.slice i j k,.slice l q r]/\∃ s t u,c.drew.cell? (qd a 1)=some (.slice s t u)/\an s λ a=>0<=m/\m<(t:Int)/\∃ s,c.drew.cell? (Addr.add (Addr.add a ((m).toNat*4)) 3)=some (iv s)/\∃ a:Int->Int->qN,(∃ t,a s 0 c.drew t)/\∀ c t s u,a s u c t->∀ v:qv,cond (decide (u<(o:Int))) (an n λ v=>0<=u/\u<(o:Int)/\∃ x y:I6,af c (Addr.add v ((u).toNat*12)) 0 (x.on (y.vs))/\aq c (.cells #[qz,qz,qz,qz,qz,qz,qz,qz,qz,qz,qz,qz] 114) λ v z=>aL (qd v 0) 0 (x.on (y.vs)) z λ x=>∃ y z:I6,af x (qd v 0) 0 (y.on (z.vs))/\CC 174 #[.agg #[.slice b d e,.slice f g h,.slice i j k,.slice l q r,iv m,.slice n o p],.agg (y.on (z.vs):List Value).toArray] x λ b d=>∃ e,b=.returned (iv e)/\∃ b,b<t/\a (if e<s then e else s) (IntKind.i64.wrap (u+1)) d b) (K (iv s) c))
theorem kz{a1 l1 c1 a2 l2 c2 a3 l3 c3 a4 l4 c4 n1 a5 l5 c5 w K}(h:fP a1 l1 c1 a2 l2 c2 a3 l3 c3 a4 l4 c4 n1 a5 l5 c5 w K):CP 175 #[.agg #[.slice a1 l1 c1,.slice a2 l2 c2,.slice a3 l3 c3,.slice a4 l4 c4],iv n1,.slice a5 l5 c5] w K:=ah (aA [(122,[(8,.s (.int .i64)),(28,.s (.int .i64))])]) func175 (by kernel_rfl) (by kernel_rfl) h
def o8(a:OA)(b c:Nat)(w:World)(K:KP):=aq w (.cells #[qn,qn] 192) λ d e=>CC 162 #[.slice a b c] e λ e f=>∃ g,e=.returned (.bool g)/\cond (!g) (aL (qd d 0) 0 [qn,qn] f λ e=>∃ g h i j k l,af e (qd d 0) 0 [.slice g h i,.slice j k l]/\K (.tuple #[.agg #[.slice g h i,.slice j k l],.bool false]) e) (CC 197 #[.slice a b c] f λ c e=>∃ f g h i j k,c=.returned (.tuple #[.slice f g h,.slice i j k])/\cond (!(i).isNone) (aL (qd d 0) 0 [.slice i j k,qn] e λ c=>∃ i j k l m n,af c (qd d 0) 0 [.slice i j k,.slice l m n]/\K (.tuple #[.agg #[.slice i j k,.slice l m n],.bool false]) c) (∃ c:Int->Int->qN,(∃ i,c 0 (0:Int) e i)/\∀ e i j k,c j k e i->∀ l:qv,cond (decide (k<(b:Int))) (an a λ l=>0<=k/\k<(b:Int)/\∃ m n:I6,af e (Addr.add l ((k).toNat*12)) 0 (m.on (n.vs))/\aq e (.cells #[qz,qz,qz,qz,qz,qz,qz,qz,qz,qz,qz,qz] 114) λ l o=>aL (qd l 0) 0 (m.on (n.vs)) o λ m=>∃ n:I6,af m.drew (qd l 0) 0 n.vs/\∃ o:I6,af m.drew (qd l 6) 0 o.vs/\an f λ l=>0<=k/\k<(g:Int)/\∃ p,m.drew.cell? (Addr.add l ((k).toNat*1))=some (iv p)/\CC 86 #[.agg n.vs.toArray,.agg o.vs.toArray] m.drew λ m n=>∃ o,m=.returned (iv o)/\n.cell? (Addr.add l ((k).toNat*1))=some (iv p)/\∃ l,l<i/\c (if (IntKind.i64.wrap (o-p))>j then (IntKind.i64.wrap (o-p)) else j) (IntKind.i64.wrap (k+1)) n l) (∃ c:Int->Int->qN,(∃ i,c j 0 e i)/\∀ e i j k,c j k e i->∀ l:qv,cond (decide (k<(b:Int))) (∃ l:Int->qW,(∀ m n,l n m->∀ o:qv,∃ o,o<i/\c n (IntKind.i64.wrap (k+1)) m o)/\an a λ a=>0<=k/\k<(b:Int)/\∃ b c:I6,af e (Addr.add a ((k).toNat*12)) 0 (b.on (c.vs))/\aq e (.cells #[qz,qz,qz,qz,qz,qz,qz,qz,qz,qz,qz,qz] 114) λ a i=>aL (qd a 0) 0 (b.on (c.vs)) i λ b=>∃ c:I6,af b (qd a 6) 0 c.vs/\cond (I6.beq c z6) (an f λ a=>0<=k/\k<(g:Int)/\∃ c,b.cell? (Addr.add a ((k).toNat*1))=some (iv c)/\l (IntKind.i64.wrap (0-c)) b) (l j b)) (∃ a:Int->qN,(∃ b,a 0 e b)/\∀ c b e,a e c b->∀ i:qv,cond (decide (e<(g:Int))) (an f λ i=>0<=e/\e<(g:Int)/\∃ k,c.cell? (Addr.add i ((e).toNat*1))=some (iv k)/\an f λ i=>0<=e/\e<(g:Int)/\aP c (Addr.add i ((e).toNat*1)) (iv (IntKind.i64.wrap (k+j))) λ i=>∃ j,j<b/\a (IntKind.i64.wrap (e+1)) i j) (aL (qd d 0) 0 [qn,.slice f g h] c λ a=>∃ b c e f g h,af a (qd d 0) 0 [.slice b c e,.slice f g h]/\K (.tuple #[.agg #[.slice b c e,.slice f g h],.bool true]) a)))))
theorem tQ{a1 l1 c1 w K}(h:o8 a1 l1 c1 w K):CP 176 #[.slice a1 l1 c1] w K:=ah (aA [(506,[(6,.s (.int .i64)),(27,.s (.int .i64))]),(1018,[(6,.s (.int .i64)),(47,.s (.int .i64))]),(8147,[(6,.s (.int .i64))]),(2042,[(64,.s (.int .i64))])]) func176 (by kernel_rfl) (by kernel_rfl) h
def qx(a:Int)(b:Nat)(w:World)(K:KP):=∃ c,w.cell? (qd b 0)=some (iv c)/\∃ d,w.cell? (qd b 1)=some (iv d)/\(100:Int)≠0/\K (iv (IntKind.i64.wrap ((IntKind.i64.wrap (a+c))+(IntKind.i64.wrap (Int.tdiv (IntKind.i64.wrap ((IntKind.i64.wrap (a*d))+(99:Int))) (100:Int)))))) w
theorem mj{n1 b1 w K}(h:qx n1 b1 w K):CP 177 #[iv n1,.pointer (some ⟨b1,0,none⟩)] w K:=ah (aA []) func177 (by kernel_rfl) (by kernel_rfl) h
def sA(a:Int)(w:World)(K:KP):=CC 198 #[iv a] w λ a b=>∃ c,a=.returned (.bool c)/\cond (!c) (K (iv 4) b) (K qz b)
theorem wC{n1 w K}(h:sA n1 w K):CP 178 #[iv n1] w K:=ah (aA []) func178 (by kernel_rfl) (by kernel_rfl) h
def nq(a:OA)(b c:Nat)(d:OA)(e f:Nat)(g:OA)(h i:Nat)(w:World)(K:KP):=aq w (.cells #[.slice d e f,.slice g h i] 192) λ d e=>CC 162 #[.slice a b c] e λ e f=>∃ g,e=.returned (.bool g)/\cond (!g) (K (iv 4) f) (∃ e g h i j k,af f (qd d 0) 0 [.slice e g h,.slice i j k]/\CC 163 #[.slice a b c,.agg #[.slice e g h,.slice i j k]] f λ e f=>∃ g,e=.returned (.bool g)/\cond (!g) (K (iv 2) f) (∃ e g h,f.cell? (qd d 0)=some (.slice e g h)/\cond ((g:Int)==(0:Int)) (∃ e g h,f.cell? (qd d 1)=some (.slice e g h)/\CC 164 #[.slice a b c,.slice e g h] f λ c e=>∃ g,c=.returned (.bool g)/\cond (!g) (K (iv 13) e) (K qz e)) (∃ c e g,f.cell? (qd d 0)=some (.slice c e g)/\∃ g:Int->Int->qN,(∃ h,g 0 (0:Int) f h)/\∀ f h i j,g i j f h->∀ k:qv,cond (decide (j<(e:Int))) (an c λ c=>0<=j/\j<(e:Int)/\∃ e,f.cell? (Addr.add c ((j).toNat*1))=some (iv e)/\an a λ c=>0<=e/\e<(b:Int)/\∃ k l:I6,af f.drew (Addr.add c ((e).toNat*12)) 0 (k.on (l.vs))/\∃ c e m,f.drew.cell? (qd d 0)=some (.slice c e m)/\∃ m n o,f.drew.cell? (qd d 0)=some (.slice m n o)/\(n:Int)≠0/\an c λ c=>0<=(Int.tmod (IntKind.i64.wrap (j+1)) (n:Int))/\(Int.tmod (IntKind.i64.wrap (j+1)) (n:Int))<(e:Int)/\∃ d,f.drew.cell? (Addr.add c (((Int.tmod (IntKind.i64.wrap (j+1)) (n:Int))).toNat*1))=some (iv d)/\an a λ a=>0<=d/\d<(b:Int)/\∃ b c:I6,af f.drew (Addr.add a ((d).toNat*12)) 0 (b.on (c.vs))/\CC 165 #[.agg (k.on (l.vs):List Value).toArray,.agg (b.on (c.vs):List Value).toArray] f.drew λ a b=>∃ c,a=.returned (iv c)/\∃ a,a<h/\g (IntKind.i64.wrap (i+c)) (IntKind.i64.wrap (j+1)) b a) (cond (decide (i>=0)) (K (iv 13) f) (K qz f)))))
theorem rR{a1 l1 c1 a2 l2 c2 a3 l3 c3 w K}(h:nq a1 l1 c1 a2 l2 c2 a3 l3 c3 w K):CP 126 #[.slice a1 l1 c1,.agg #[.slice a2 l2 c2,.slice a3 l3 c3]] w K:=ah (aA [(506,[(5,.s (.int .i64)),(27,.s (.int .i64))])]) func126 (by kernel_rfl) (by kernel_rfl) h
def jV(a:OA)(b c:Nat)(w:World)(K:KP):=∃ c:Int->qN,(∃ d,c 0 w d)/\∀ e d f,c f e d->∀ g:qv,cond (decide (f<(b:Int))) (an a λ a=>0<=f/\f<(b:Int)/\∃ b g:I6,af e (Addr.add a ((f).toNat*12)) 0 (b.on (g.vs))/\aq e (.cells #[qz,qz,qz,qz,qz,qz,qz,qz,qz,qz,qz,qz] 114) λ a h=>aL (qd a 0) 0 (b.on (g.vs)) h λ b=>∃ g h:I6,af b (qd a 0) 0 (g.on (h.vs))/\CC 191 #[.agg (g.on (h.vs):List Value).toArray] b λ a b=>∃ g,a=.returned (.bool g)/\cond (!g) (K (.bool false) b) (∃ a,a<d/\c (IntKind.i64.wrap (f+1)) b a)) (K (.bool true) e)
theorem o9{a1 l1 c1 w K}(h:jV a1 l1 c1 w K):CP 162 #[.slice a1 l1 c1] w K:=ah (aA [(26,[(7,.s (.int .i64))])]) func162 (by kernel_rfl) (by kernel_rfl) h
def lC(a:OA)(b c:Nat)(w:World)(K:KP):=aV prog (Instr.makeSlice 190 (iv (b:Int)) (iv (b:Int))) w λ c d=>∃ e f g,c=(.slice e f g)/\aV prog (Instr.makeSlice 189 (iv (b:Int)) (iv (b:Int))) d λ c d=>∃ h i j,c=(.slice h i j)/\∃ c:Int->qN,(∃ k,c 0 d k)/\∀ d k l,c l d k->∀ m:qv,cond (decide (l<(i:Int))) (an h λ m=>0<=l/\l<(i:Int)/\aP d (Addr.add m ((l).toNat*1)) (iv (-1)) λ m=>∃ n,n<k/\c (IntKind.i64.wrap (l+1)) m n) (∃ c:Int->qW,(∀ k l,c l k->∀ m:qv,cond (decide (l<0)) (K (.tuple #[.slice e f g,qn]) k) (CC 226 #[.slice h i j,iv l] k λ g j=>∃ k l m,g=.returned (.slice k l m)/\K (.tuple #[qn,.slice k l m]) j))/\∃ g:Int->Int->qN,(∃ j,g (-1:Int) (0:Int) d j)/\∀ d j k l,g k l d j->∀ m:qv,cond (decide (l<(b:Int))) (∃ m:Int->Int->qN,(∃ n,m (-1:Int) (0:Int) d n)/\∀ o n p q,m p q o n->∀ r:qv,cond (decide (q<(b:Int))) (∃ r:Int->Int->qN,(∃ s,r p 0 o s)/\∀ t s u v,r u v t s->∀ x:qv,cond (decide (v<(b:Int))) (∃ x:Int->qW,(∀ y z,x z y->∀ A:qv,∃ A,A<s/\r z (IntKind.i64.wrap (v+1)) y A)/\an e λ r=>0<=q/\q<(f:Int)/\∃ s,t.drew.cell? (Addr.add r ((q).toNat*1))=some (iv s)/\an a λ y=>0<=q/\q<(b:Int)/\∃ z A:I6,af t.drew (Addr.add y ((q).toNat*12)) 0 (z.on (A.vs))/\an a λ a=>0<=v/\v<(b:Int)/\∃ b y:I6,af t.drew (Addr.add a ((v).toNat*12)) 0 (b.on (y.vs))/\CC 165 #[.agg (z.on (A.vs):List Value).toArray,.agg (b.on (y.vs):List Value).toArray] t.drew λ a b=>∃ y,a=.returned (iv y)/\b.cell? (Addr.add r ((q).toNat*1))=some (iv s)/\an e λ a=>0<=v/\v<(f:Int)/\∃ r,b.cell? (Addr.add a ((v).toNat*1))=some (iv r)/\cond (decide ((IntKind.i64.wrap (s+y))<r)) (an e λ a=>0<=v/\v<(f:Int)/\aP b (Addr.add a ((v).toNat*1)) (iv (IntKind.i64.wrap (s+y))) λ a=>an h λ e=>0<=v/\v<(i:Int)/\aP a (Addr.add e ((v).toNat*1)) (iv q) λ a=>x v a) (x u b)) (∃ a,a<n/\m u (IntKind.i64.wrap (q+1)) t a)) (cond (decide (p<0)) (c p o) (∃ a,a<j/\g p (IntKind.i64.wrap (l+1)) o a))) (c k d))
theorem qD{a1 l1 c1 w K}(h:lC a1 l1 c1 w K):CP 197 #[.slice a1 l1 c1] w K:=ah (aA [(218,[(19,.s (.int .i64))]),(223,[(7,.s (.int .i64))]),(1786,[(7,.s (.int .i64)),(28,.s (.int .i64))]),(914634,[(7,.s (.int .i64)),(32,.s (.int .i64))]),(234146406,[(7,.s (.int .i64)),(37,.s (.int .i64))]),(1873171251,[(7,.s (.int .i64))])]) func197 (by kernel_rfl) (by kernel_rfl) h
def AJ(a:Int)(w:World)(K:KP):=cond (decide (a>=0)) (K (.bool (decide (a<=1000000))) w) (K (.bool false) w)
theorem BR{n1 w K}(h:AJ n1 w K):CP 198 #[iv n1] w K:=ah (aA []) func198 (by kernel_rfl) (by kernel_rfl) h
def nr(a:OA)(b c:Nat)(d:OA)(e f:Nat)(g:OA)(h i:Nat)(w:World)(K:KP):=aq w (.cells #[.slice d e f,.slice g h i] 192) λ a c=>∃ d:Bool->qW,(∀ e f,d f e->∀ g:qv,cond f (K (.bool false) e) (∃ f g h,e.cell? (qd a 0)=some (.slice f g h)/\∃ h:Int->qN,(∃ i,h 0 e i)/\∀ e i j,h j e i->∀ k:qv,cond (decide (j<(g:Int))) (an f λ f=>0<=j/\j<(g:Int)/\∃ g,e.cell? (Addr.add f ((j).toNat*1))=some (iv g)/\∃ f:Bool->qW,(∀ k l,f l k->∀ m:qv,cond l (K (.bool false) k) (∃ l,l<i/\h (IntKind.i64.wrap (j+1)) k l))/\cond (decide (g<0)) (f true e) (f (decide (g>=(b:Int))) e)) (∃ b f g,e.cell? (qd a 1)=some (.slice b f g)/\∃ g:Int->qN,(∃ h,g 0 e h)/\∀ e h i,g i e h->∀ j:qv,cond (decide (i<(f:Int))) (an b λ b=>0<=i/\i<(f:Int)/\∃ f,e.cell? (Addr.add b ((i).toNat*1))=some (iv f)/\∃ b:Bool->qW,(∀ j k,b k j->∀ l:qv,cond k (K (.bool false) j) (∃ k,k<h/\g (IntKind.i64.wrap (i+1)) j k))/\cond (decide (f<(-1099511627776:Int))) (b true e) (b (decide (f>1099511627776)) e)) (K (.bool true) e))))/\∃ b e f,c.cell? (qd a 0)=some (.slice b e f)/\cond (decide ((e:Int)>(0:Int))) (∃ b e f,c.cell? (qd a 1)=some (.slice b e f)/\cond (decide ((e:Int)>(0:Int))) (d true c) (∃ b e f,c.cell? (qd a 0)=some (.slice b e f)/\d (decide ((e:Int)>(1000:Int))) c)) (∃ b e f,c.cell? (qd a 0)=some (.slice b e f)/\d (decide ((e:Int)>(1000:Int))) c)
theorem rS{a1 l1 c1 a2 l2 c2 a3 l3 c3 w K}(h:nr a1 l1 c1 a2 l2 c2 a3 l3 c3 w K):CP 163 #[.slice a1 l1 c1,.agg #[.slice a2 l2 c2,.slice a3 l3 c3]] w K:=ah (aA [(6,[(24,.s .bool)]),(58,[(28,.s (.int .i64))]),(3737,[(39,.s .bool)]),(122,[(44,.s (.int .i64))]),(7833,[(53,.s .bool)])]) func163 (by kernel_rfl) (by kernel_rfl) h
def jW(a:OA)(b c:Nat)(d:OA)(e f:Nat)(w:World)(K:KP):=cond ((e:Int) !=(b:Int)) (K (.bool false) w) (∃ c:Int->qN,(∃ f,c 0 w f)/\∀ g f h,c h g f->∀ i:qv,cond (decide (h<(b:Int))) (an a λ i=>0<=h/\h<(b:Int)/\∃ j k:I6,af g (Addr.add i ((h).toNat*12)) 0 (j.on (k.vs))/\aq g (.cells #[qz,qz,qz,qz,qz,qz,qz,qz,qz,qz,qz,qz] 114) λ i l=>aL (qd i 0) 0 (j.on (k.vs)) l λ j=>∃ k:Bool->qW,(∀ l m,k m l->∀ n:qv,cond m (K (.bool false) l) (∃ m:Int->qN,(∃ n,m 0 l n)/\∀ l n o,m o l n->∀ p:qv,cond (decide (o<(b:Int))) (an a λ a=>0<=o/\o<(b:Int)/\∃ b p:I6,af l (Addr.add a ((o).toNat*12)) 0 (b.on (p.vs))/\aq l (.cells #[qz,qz,qz,qz,qz,qz,qz,qz,qz,qz,qz,qz] 114) λ a q=>aL (qd a 0) 0 (b.on (p.vs)) q λ b=>an d λ p=>0<=o/\o<(e:Int)/\∃ q,b.drew.cell? (Addr.add p ((o).toNat*1))=some (iv q)/\an d λ r=>0<=h/\h<(e:Int)/\∃ s,b.drew.cell? (Addr.add r ((h).toNat*1))=some (iv s)/\∃ t u:I6,af b.drew (qd i 0) 0 (t.on (u.vs))/\∃ v x:I6,af b.drew (qd a 0) 0 (v.on (x.vs))/\CC 165 #[.agg (t.on (u.vs):List Value).toArray,.agg (v.on (x.vs):List Value).toArray] b.drew λ a b=>∃ t,a=.returned (iv t)/\b.cell? (Addr.add r ((h).toNat*1))=some (iv s)/\b.cell? (Addr.add p ((o).toNat*1))=some (iv q)/\cond (decide ((IntKind.i64.wrap (q-s))>t)) (K (.bool false) b) (∃ a,a<n/\m (IntKind.i64.wrap (o+1)) b a)) (∃ a,a<f/\c (IntKind.i64.wrap (h+1)) l a)))/\an d λ a=>0<=h/\h<(e:Int)/\∃ b,j.drew.cell? (Addr.add a ((h).toNat*1))=some (iv b)/\∃ c:I6,af j.drew (qd i 0) 0 c.vs/\∃ f:I6,af j.drew (qd i 6) 0 f.vs/\CC 86 #[.agg c.vs.toArray,.agg f.vs.toArray] j.drew λ c f=>∃ j,c=.returned (iv j)/\f.cell? (Addr.add a ((h).toNat*1))=some (iv b)/\cond (decide (b<j)) (k true f) (∃ a:I6,af f (qd i 6) 0 a.vs/\cond (I6.beq a z6) (an d λ a=>0<=h/\h<(e:Int)/\∃ b,f.cell? (Addr.add a ((h).toNat*1))=some (iv b)/\k (b !=0) f) (k false f))) (K (.bool true) g))
theorem pg{a1 l1 c1 a2 l2 c2 w K}(h:jW a1 l1 c1 a2 l2 c2 w K):CP 164 #[.slice a1 l1 c1,.slice a2 l2 c2] w K:=ah (aA [(58,[(16,.s (.int .i64))]),(7474,[(43,.s .bool)]),(29902,[(46,.s (.int .i64))])]) func164 (by kernel_rfl) (by kernel_rfl) h
def qV(a b c d:I6)(w:World)(K:KP):=aq w (.cells (a.on (b.vs):List Value).toArray 114) λ a b=>aq b (.cells (c.on (d.vs):List Value).toArray 114) λ b c=>∃ d:I6,af c.drew (qd a 0) 0 d.vs/\∃ e:I6,af c.drew (qd b 6) 0 e.vs/\∃ b:I6,af c.drew (qd a 0) 0 b.vs/\∃ f:I6,af c.drew (qd a 6) 0 f.vs/\CC 86 #[.agg d.vs.toArray,.agg e.vs.toArray] c.drew λ c d=>∃ e,c=.returned (iv e)/\af d (qd a 6) 0 f.vs/\af d (qd a 0) 0 b.vs/\CC 86 #[.agg b.vs.toArray,.agg f.vs.toArray] d λ a b=>∃ c,a=.returned (iv c)/\K (iv (IntKind.i64.wrap (e-c))) b
theorem vi{u1 u2 u3 u4 w K}(h:qV u1 u2 u3 u4 w K):CP 165 #[.agg (u1.on (u2.vs):List Value).toArray,.agg (u3.on (u4.vs):List Value).toArray] w K:=ah (aA []) func165 (by kernel_rfl) (by kernel_rfl) h
def pn(a b:I6)(w:World)(K:KP):=aq w (.cells (a.on (b.vs):List Value).toArray 114) λ a b=>∃ c:I6,af b (qd a 0) 0 c.vs/\∃ d:Int->qN,(∃ e,d 0 b e)/\∀ b e f,d f b e->∀ g:qv,cond (decide (f<6)) (0<=f/\f<6/\∃ g,(c.vs.toArray:Array Value)[(f).toNat*1]?=some (iv g)/\∃ c:Bool->qW,(∀ h i,c i h->∀ j:qv,cond i (K (.bool false) h) (∃ i,i<e/\d (IntKind.i64.wrap (f+1)) h i))/\cond (decide (g<0)) (c true b) (c (decide (g>1000000)) b)) (∃ c:I6,af b (qd a 6) 0 c.vs/\CC 65 #[.agg c.vs.toArray] b λ a b=>∃ c,a=.returned (iv c)/\K (.bool (c==0)) b)
theorem tS{u1 u2 w K}(h:pn u1 u2 w K):CP 191 #[.agg (u1.on (u2.vs):List Value).toArray] w K:=ah (aA [(26,[(7,.s (.int .i64))]),(1689,[(15,.s .bool)])]) func191 (by kernel_rfl) (by kernel_rfl) h
def pe(a:OA)(b c:Nat)(d:Int)(w:World)(K:KP):=aV prog (Instr.makeMap 314 none) w λ c e=>∃ f:Option Nat,c=(.map f)/\∃ c:Int->qN,(∃ g,c d e g)/\∀ d g e,c e d g->∀ h:qv,aV prog (Instr.lookup 314 (.map f) (iv e) false) d λ d h=>∃ i,d=(.bool i)/\cond (!i) (aV prog (Instr.mapUpdate 314 (.map f) (iv e) (.bool true)) h λ _e1 d=>an a λ i=>0<=e/\e<(b:Int)/\∃ j,d.cell? (Addr.add i ((e).toNat*1))=some (iv j)/\∃ i,i<g/\c j d i) (aV prog (Builtin.clear_ #[314] 0 #[.map f]) h λ _e2 c=>∃ d:Int->OA->Nat->Nat->qN,(∃ g,d e none 0 0 c g)/\∀ c g e h i j,d e h i j c g->∀ k:qv,aV prog (Instr.lookup 314 (.map f) (iv e) false) c λ c k=>∃ l,c=(.bool l)/\cond (!l) (aV prog (Instr.mapUpdate 314 (.map f) (iv e) (.bool true)) k λ _e3 c=>aq c (.cells #[iv e] 3) λ c f=>aV prog (Builtin.append_ #[189,189] 189 #[.slice h i j,.slice (some (qd c 0)) 1 1]) f λ c f=>∃ j l m,c=(.slice j l m)/\an a λ a=>0<=e/\e<(b:Int)/\∃ b,f.cell? (Addr.add a ((e).toNat*1))=some (iv b)/\∃ a,a<g/\d b j l m f a) (aV prog (Instr.makeSlice 189 (iv (i:Int)) (iv (i:Int))) k λ a b=>∃ c d e,a=(.slice c d e)/\∃ a:Int->qN,(∃ f,a 0 b f)/\∀ b f g,a g b f->∀ j:qv,cond (decide (g<(i:Int))) (an h λ h=>0<=g/\g<(i:Int)/\∃ j,b.cell? (Addr.add h ((g).toNat*1))=some (iv j)/\an c λ h=>0<=(IntKind.i64.wrap ((IntKind.i64.wrap ((i:Int)-(1:Int)))-g))/\(IntKind.i64.wrap ((IntKind.i64.wrap ((i:Int)-(1:Int)))-g))<(d:Int)/\aP b (Addr.add h (((IntKind.i64.wrap ((IntKind.i64.wrap ((i:Int)-(1:Int)))-g))).toNat*1)) (iv j) λ h=>∃ i,i<f/\a (IntKind.i64.wrap (g+1)) h i) (K (.slice c d e) b)))
theorem tR{a1 l1 c1 n1 w K}(h:pe a1 l1 c1 n1 w K):CP 226 #[.slice a1 l1 c1,iv n1] w K:=ah (aA [(28,[(1,.s (.int .i64))]),(252,[(1,.s (.int .i64)),(6,.s .slice)]),(2042,[(41,.s (.int .i64))])]) func226 (by kernel_rfl) (by kernel_rfl) h
def I6.of(f:Nat->Int):I6:=⟨f 0,f 1,f 2,f 3,f 4,f 5⟩
theorem I6.zb(f:Nat->Int)(k:Nat)(hk:k<6):(I6.of f).at' k=f k:=by
 match k,hk with
 | 0,_|1,_|2,_|3,_|4,_|5,_=>rfl
def EW(l:List I6)(k:Nat):Int:=l.foldl (λ s u=>s+u.at' k) 0
def gP(l:List I6):I6:=I6.of (EW l)
theorem JH(l:List I6)(u:I6)(k:Nat):EW (l++[u]) k=EW l k+u.at' k:=by simp[EW]
theorem JG(l:List I6)(u:I6):gP (l++[u])=(gP l).zip (· + ·) u:=by
 refine I6.ext' λ k hk=>?_;rw[I6.fG _ _ _ _ hk,gP,I6.zb _ _ hk,gP,I6.zb _ _ hk,JH]
theorem C5{B:Int}{l:List I6}(h:∀ u∈l,I6.Le u B)(k:Nat)(hk:k<6):0<=EW l k/\EW l k<=B*l.length:=by
 suffices H:∀ (l:List I6) (s:Int),(∀ u∈l,I6.Le u B)->s<=l.foldl (λ s u=>s+u.at' k) s/\l.foldl (λ s u=>s+u.at' k) s<=s+B*l.length by
  have:=H l 0 h;unfold EW; omega
 intro l
 induction l with
 | nil=>intro s _; simp
 | cons u l ih =>
  intro s hl;have h1:=hl u (by simp) k hk;have h2:=ih (s+u.at' k) λ v hv=>hl v (by simp[hv]);simp only[List.foldl_cons,List.length_cons];rw[Int.natCast_add,Int.mul_add];omega
def tH(a b:I6):I6:=a.zip (λ x y=>if x>y then x-y else 0) b
abbrev JX (w:World) (a:OA) (l:List I6):Prop:=cG 6 I6.vs w a l
theorem BF{w:World}{a:OA}{c:Nat}{l:List I6}(h:JX w a l)(hb:∀ u∈l,I6.Le u 1000000)(hl:l.length<=1000) :
  CP 148 #[.slice a l.length c] w (λ r w'=>r=.agg (gP l).vs.toArray/\ay w w' []):=by
 refine zS ?_;unfold wk;refine(St.start w).one.ax z6.vs.toArray λ r1 w1 s1=>s1.ax z6.vs.toArray λ r2 w2 s2=>?_;refine⟨λ n w3 m=>∃ k:Nat,n=k/\k<=l.length/\m=l.length-k/\St w w3 (Sep [ai r2 (gP (l.take k)).vs.toArray 218,ai r1 z6.vs.toArray 218,emp]),⟨l.length,0,rfl,by omega,by omega,s2⟩,?_⟩;rintro w3 m n ⟨k,rfl,hk,hm,s3⟩ -
 by_cases hlt:(k:Int)<(l.length:Int)
 ·have hx:l[k]?=some (l[k]'(by omega)):=gE (by omega);generalize l[k]'(by omega)=x at hx;have hxm:=hb x (List.mem_of_getElem? hx);obtain⟨q,hq,hcl⟩:=(h.au s3.au).at hx;refine cT (by simpa using hlt) ?_;rw[hq];refine⟨by omega,by omega,x,hcl,s3.ax z6.vs.toArray λ r3 w4 s4=>s4.az 0 rfl x.vs rfl (I6.one _) λ w5 s5=>?_⟩;refine⟨λ n w6 m=>∃ j:Nat,n=j/\j<=6/\m=6-j/\St w w6 (Sep [ai r3 x.vs.toArray 44,ai r2 (I6.mix j ((gP (l.take k)).zip (· + ·) x) (gP (l.take k))).vs.toArray 218,ai r1 z6.vs.toArray 218,emp]),⟨6,0,rfl,by omega,by omega,s5⟩,?_⟩;rintro w6 m6 n6 ⟨j,rfl,hj,hm6,s6⟩ -
  by_cases hlt6:(j:Int)<6
  ·have hj' : j<6:=by omega
   have s7:=s6.quiet (ay.drew _ _);have hs:=C5 (l:=l.take k) (B:=1000000) (λ u hu=>hb u (List.mem_of_mem_take hu)) j hj';have hx6:=hxm j hj';have hlen:(l.take k).length<=1000:=by simp; omega
   have e1:(gP (l.take k)).at' j=EW (l.take k) j:=I6.zb _ _ hj';refine cT (dT hlt6) ⟨by omega,by omega,(gP (l.take k)).at' j,?_,by omega,by omega,x.at' j,?_,by omega,by omega,?_⟩
   ·rw[fm,aI s7 1 rfl hj',I6.bT _ _ _ _ hj',if_neg (by omega)]
   ·rw[fm,aI s7 0 rfl hj']
   ·rw[fm,aB ⟨by omega,by omega⟩];refine s7.aK 1 rfl hj' rfl λ w8 s8=>⟨6-(j+1),by omega,j+1,inc (by decide) hj',by omega,rfl,?_⟩;rw[show(gP (l.take k)).at' j+x.at' j=((gP (l.take k)).zip (· + ·) x).at' j by rw[I6.fG _ _ _ _ hj'],I6.eV _ _ _ hj'] at s8;exact s8
  ·obtain rfl:j=6:=by omega
   refine cF (by simp) ⟨l.length-(k+1),by omega,k+1,aB ⟨by omega,by omega⟩,by omega,rfl,?_⟩;rw[aG hx,JG];exact s6.av [1,2,3]
 ·obtain rfl:k=l.length:=by omega
  rw[List.take_length] at s3;exact cF (by simp) ⟨_,s3.cellsIn 0 rfl,s3.az 1 rfl (gP l).vs rfl (I6.one _) λ w8 s8=>⟨_,s8.cellsIn 1 rfl,rfl,s8.au⟩⟩
theorem TD{w:World}{a:OA}{c:Nat}{l:List I6}(h:JX w a l)(hb:∀ u∈l,I6.Le u 1000000)(hl:l.length<=1000) :
  CP 144 #[.slice a l.length c] w (λ r w'=>r=.agg (gP l).vs.toArray/\ay w w' []):=by
 refine C9 ?_;unfold BE;refine(St.start w).one.ax z6.vs.toArray λ r1 w1 s1=>ak (BF (h.au s1.au) hb hl) ?_;rintro v w2 ⟨rfl,c2⟩;exact⟨_,rfl,(s1.quiet c2).az 0 rfl (gP l).vs rfl (I6.one _) λ w8 s8=>⟨_,s8.cellsIn 0 rfl,rfl,s8.au⟩⟩
theorem RB(w:World)(u v:I6)(hu:I6.Le u 1000000000)(hv:I6.Le v 1000000000):CP 147 #[.agg u.vs.toArray,.agg v.vs.toArray] w (λ r w'=>r=.agg (tH u v).vs.toArray/\ay w w' []):=by
 refine AD ?_;unfold zR;refine(St.start w).one.ax u.vs.toArray λ r1 w1 s1=>s1.ax v.vs.toArray λ r2 w2 s2=>s2.ax z6.vs.toArray λ r3 w3 s3=>s3.ax z6.vs.toArray λ r4 w4 s4=>?_;let I:Nat->World->Prop:=λ k w'=>St w w' (Sep [ai r4 (I6.mix k (tH u v) z6).vs.toArray 44,ai r3 z6.vs.toArray 44,ai r2 v.vs.toArray 218,ai r1 u.vs.toArray 218,emp]);refine⟨λ n w5 m=>∃ k:Nat,n=k/\k<=6/\m=6-k/\I k w5,⟨6,0,rfl,by omega,by omega,s4⟩,?_⟩;rintro w5 m n ⟨k,rfl,hk,hm,s5⟩ -
 by_cases hlt:(k:Int)<6
 ·have hk' : k<6:=by omega
  have s6:=St.quiet s5 (ay.drew _ _);have s7:=s6.quiet (ay.drew _ _);have h1:=hu k hk';have h2:=hv k hk';have e:(tH u v).at' k=if u.at' k>v.at' k then u.at' k-v.at' k else 0:=I6.fG _ _ _ _ hk'
  refine cT (dT hlt) ⟨I (k+1),?_,by omega,by omega,u.at' k,by rw[fm,aI s6 3 rfl hk'],by omega,by omega,v.at' k,by rw[fm,aI s6 2 rfl hk'],?_⟩
  ·rintro w6 s6 -;exact⟨6-(k+1),by omega,k+1,inc (by decide) hk',by omega,rfl,s6⟩
  ·by_cases g:u.at' k>v.at' k
   ·refine cT (dT g) ⟨by omega,by omega,u.at' k,by rw[fm,aI s7 3 rfl hk'],by omega,by omega,v.at' k,by rw[fm,aI s7 2 rfl hk'],by omega,by omega,?_⟩;rw[fm,aB ⟨by omega,by omega⟩];refine s7.aK 0 rfl hk' rfl λ w8 s8=>?_;rw[if_pos g] at e;rw[<- e,I6.eV _ _ _ hk'] at s8;exact s8
   ·refine cF (dF g) ?_;rw[if_neg g] at e;have:I6.mix (k+1) (tH u v) z6=I6.mix k (tH u v) z6:=by
     refine I6.ext' λ j hj=>?_;rw[I6.bT _ _ _ _ hj,I6.bT _ _ _ _ hj,lT]
     by_cases h3:j<k
     ·rw[if_pos (by omega),if_pos h3]
     ·rw[if_neg h3]
      split
      ·obtain rfl:j=k:=by omega
       exact e
      ·rfl
    show I (k+1) _;simp only[I];rw[this]; exact s6
 ·obtain rfl:k=6:=by omega
  exact cF (by simp) ⟨_,St.cellsIn s5 0 rfl,St.az s5 1 rfl (tH u v).vs rfl (I6.one _) λ w8 s8=>⟨_,s8.cellsIn 1 rfl,rfl,s8.au⟩⟩
theorem Pq{l:List I6}(h:∀ u∈l,I6.Le u 1000000)(hl:l.length<=1000):I6.Le (gP l) 1000000000:=λ k hk=>by
 have:=C5 h k hk;rw[gP,I6.zb _ _ hk];omega
theorem KG{w:World}{a:OA}{c:Nat}{l:List I6}(u:I6)(hu:I6.Le u 1000000000)(h:JX w a l)(hb:∀ u∈l,I6.Le u 1000000)(hl:l.length<=1000) :
  CP 104 #[.agg u.vs.toArray,.slice a l.length c] w (λ r w'=>r=.agg (tH (gP l) u).vs.toArray/\ay w w' []):=by
 refine xq ?_;unfold uf;refine(St.start w).one.ax u.vs.toArray λ r1 w1 s1=>s1.ax z6.vs.toArray λ r2 w2 s2=>?_;have s3:=s2.quiet (ay.drew _ _);refine⟨_,s3.cellsIn 1 rfl,ak (BF (h.au s3.au) hb hl) ?_⟩;rintro v w3 ⟨rfl,c3⟩;have s4:=s3.quiet c3;refine⟨_,rfl,s4.cellsIn 1 rfl,ak (RB w3 _ _ (Pq hb hl) hu) ?_⟩;rintro v w4 ⟨rfl,c4⟩;exact⟨_,rfl,(s4.quiet c4).az 0 rfl (tH (gP l) u).vs rfl (I6.one _) λ w8 s8=>⟨_,s8.cellsIn 0 rfl,rfl,s8.au⟩⟩
def jq(n:Int):Bool:=decide (0<=n)&&decide (n<=1000000)
theorem Ug(w:World)(n:Int):CP 198 #[iv n] w (λ r w'=>r=.bool (jq n)/\w' = w):=by
 refine BR ?_;unfold AJ
 by_cases h:n>=0
 ·exact cT (dT h) ⟨by simp[jq,h],rfl⟩
 ·exact cF (dF h) ⟨by simp[jq]; omega,rfl⟩
theorem J1(w:World)(n:Int):CP 178 #[iv n] w (λ r w'=>r=iv (if jq n then 0 else 4)/\w' = w):=by
 refine wC ?_;unfold sA;refine ak (Ug w n) ?_;rintro v w1 ⟨rfl,rfl⟩;refine⟨_,rfl,?_⟩
 cases h:jq n with
 | true=>exact cF rfl ⟨rfl,rfl⟩
 | false=>exact cT rfl ⟨rfl,rfl⟩
def dJ(p:I6):Bool:=p.l.all jq
theorem Db(w:World)(p:I6):CP 150 #[.agg p.vs.toArray] w (λ r w'=>r=.bool (dJ p)/\ay w w' []):=by
 refine qy ?_;unfold kN;refine(St.start w).one.ax p.vs.toArray λ r1 w1 s1=>⟨p,s1.cellsIn 0 rfl,λ n w2 m=>∃ k:Nat,n=k/\k<=6/\m=6-k/\(p.l.take k).all jq=true/\w2=w1,⟨6,0,rfl,by omega,by omega,rfl,rfl⟩,?_⟩;rintro w2 m n ⟨k,rfl,hk,hm,ha,rfl⟩ -
 by_cases hlt:(k:Int)<6
 ·have hk' : k<6:=by omega
  refine cT (dT hlt) ⟨by omega,by omega,_,p.get k hk',ak (J1 w2 _) ?_⟩;rintro v w3 ⟨rfl,rfl⟩;refine⟨_,rfl,?_⟩
  cases hx:jq (p.at' k) with
  | true=>exact cF rfl ⟨6-(k+1),by omega,k+1,inc (by decide) hk',by omega,rfl,iB ha (p.oP k hk') hx,rfl⟩
  | false=>exact cT rfl ⟨by rw[dJ,kA (p.oP k hk') hx],s1.au⟩
 ·obtain rfl:k=6:=by omega
  refine cF (by simp) ⟨?_,s1.au⟩;rw[dJ,show p.l.all jq=true from ha]
theorem lu{p:I6}:dJ p=true<->I6.Le p 1000000:=by
 constructor
 ·intro h k hk;have:=List.all_eq_true.1 h _ (List.mem_of_getElem? (p.oP k hk));simpa[jq] using this
 ·intro h;have h0:=h 0 (by decide); have h1:=h 1 (by decide); have h2:=h 2 (by decide); have h3:=h 3 (by decide); have h4:=h 4 (by decide); have h5:=h 5 (by decide);simp only[I6.at'] at h0 h1 h2 h3 h4 h5;simp[dJ,I6.l,jq,h0,h1,h2,h3,h4,h5]
structure Po where
 step:Int
 pct:Int
 und:Int
 rule:Int
def Po.cells(o:Po):List Value:=[iv o.step,iv o.pct,iv o.und,iv o.rule]
def Po.v(o:Po):Value:=.agg o.cells.toArray
def Po.ok(o:Po):Prop:=1<=o.step/\o.step<=1000000/\0<=o.pct/\o.pct<=100/\1<=o.und/\o.und<=3/\1<=o.rule/\o.rule<=3
instance (o:Po):Decidable o.ok:=by unfold Po.ok; infer_instance
def gH(o:Po):Int:=if o.ok then 0 else 4
theorem p9(w:World)(o:Po):CP 57 #[o.v] w (λ r w'=>r=iv (gH o)/\ay w w' []):=by
 refine qu ?_;unfold kL;refine(St.start w).one.ax o.cells.toArray λ r1 w1 s1=>?_;refine⟨λ b w2=>w2=w1/\(b=true<->¬ o.ok),?_,?_⟩
 ·rintro w2 b ⟨rfl,hb⟩ -
  by_cases h:o.ok
  ·obtain rfl:b=false:=by
    cases b with
    | false=>rfl
    | true=>exact absurd h (hb.1 rfl)
   exact cF rfl ⟨by rw[gH,if_pos h],s1.au⟩
  ·obtain rfl:=hb.2 h;exact cT rfl ⟨by rw[gH,if_neg h],s1.au⟩
 have bad : ¬ o.ok->(true=true<->¬ o.ok):=λ h=>⟨λ _=>h,λ _=>rfl⟩;refine⟨_,s1.ag 0 rfl 0,?_⟩
 by_cases g1:o.step<1
 ·exact cT (dT g1) ⟨rfl,bad λ h=>by unfold Po.ok at h; omega⟩
 refine cF (dF g1) ⟨_,s1.ag 0 rfl 0,?_⟩
 by_cases g2:o.step>1000000
 ·exact cT (dT g2) ⟨rfl,bad λ h=>by unfold Po.ok at h; omega⟩
 refine cF (dF g2) ⟨_,s1.ag 0 rfl 1,?_⟩
 by_cases g3:o.pct<0
 ·exact cT (dT g3) ⟨rfl,bad λ h=>by unfold Po.ok at h; omega⟩
 refine cF (dF g3) ⟨_,s1.ag 0 rfl 1,?_⟩
 by_cases g4:o.pct>100
 ·exact cT (dT g4) ⟨rfl,bad λ h=>by unfold Po.ok at h; omega⟩
 refine cF (dF g4) ⟨_,s1.ag 0 rfl 2,?_⟩
 by_cases g5:o.und<1
 ·exact cT (dT g5) ⟨rfl,bad λ h=>by unfold Po.ok at h; omega⟩
 refine cF (dF g5) ⟨_,s1.ag 0 rfl 2,?_⟩
 by_cases g6:o.und>3
 ·exact cT (dT g6) ⟨rfl,bad λ h=>by unfold Po.ok at h; omega⟩
 refine cF (dF g6) ⟨_,s1.ag 0 rfl 3,?_⟩
 by_cases g7:o.rule<1
 ·exact cT (dT g7) ⟨rfl,bad λ h=>by unfold Po.ok at h; omega⟩
 refine cF (dF g7) ⟨_,s1.ag 0 rfl 3,rfl,?_⟩;rw[decide_eq_true_eq];unfold Po.ok;omega
def jg(l:List Pr):I6:=I6.UG (l.map Pr.res)
theorem vv(l:List Pr)(k:Nat)(hk:k<6):(jg l).at' k=(l.map Pr.res).getD k 0:=by
 match k,hk with
 | 0,_|1,_|2,_|3,_|4,_|5,_=>rfl
theorem C3{w:World}{a:OA}{c:Nat}{l:List Pr}(h:dH w a l)(hl:l.length<=6)(hc:l.length<=c) :
  CP 59 #[.slice a l.length c] w (λ r w'=>r=.agg (jg l).vs.toArray/\ay w w' []):=by
 refine qw ?_;unfold kM;have e:(if (6:Int)<((l.length:Nat):Int) then (6:Int) else ((l.length:Nat):Int))=(l.length:Int):=by rw[if_neg (by omega)]
 rw[e,Mj,Int.toNat_natCast,Nat.sub_zero];refine(St.start w).one.ax z6.vs.toArray λ r1 w1 s1=>s1.ax z6.vs.toArray λ r2 w2 s2=>⟨by omega,by omega,?_⟩;refine⟨λ n w3 m=>∃ k:Nat,n=k/\k<=l.length/\m=l.length-k/\St w w3 (Sep [ai r2 (I6.mix k (jg l) z6).vs.toArray 53,ai r1 z6.vs.toArray 53,emp]),⟨l.length,0,rfl,by omega,by omega,s2⟩,?_⟩;rintro w3 m n ⟨k,rfl,hk,hm,s3⟩ -
 by_cases hlt:(k:Int)<(l.length:Int)
 ·have hx:l[k]?=some (l[k]'(by omega)):=gE (by omega);generalize l[k]'(by omega)=x at hx;obtain⟨_,q,hq,hcl⟩:=(h.au s3.au) k x hx;have h6:k<6:=by omega
  refine cT (by simpa using hlt) ?_;rw[hq];refine⟨by omega,by omega,_,_,_,_,_,hcl,aJ ?_⟩;refine(s3.bW _ 94).az 0 rfl x.cells rfl x.one λ w6 s6=>⟨_,s6.ag 0 rfl 2,by omega,by omega,?_⟩;rw[fm];refine s6.aK 1 rfl h6 rfl λ w7 s7=>⟨l.length-(k+1),by omega,k+1,aB ⟨by omega,by omega⟩,by omega,rfl,?_⟩;have e1:x.res=(jg l).at' k:=by rw[vv l k h6]; simp[List.getElem?_map,hx]
  rw[e1,I6.eV _ _ _ h6] at s7;exact s7.av [1,2,3]
 ·obtain rfl:k=l.length:=by omega
  have hcn:I6.mix l.length (jg l) z6=jg l:=by
   refine I6.ext' λ j hj=>?_;rw[I6.bT _ _ _ _ hj,lT]
   split
   ·rfl
   ·rw[vv l j hj,List.getD_eq_getElem?_getD,List.getElem?_eq_none (by simp; omega)]; rfl
  rw[hcn] at s3;exact cF (by simp) ⟨_,s3.cellsIn 0 rfl,s3.az 1 rfl (jg l).vs rfl (I6.one _) λ w8 s8=>⟨_,s8.cellsIn 1 rfl,rfl,s8.au⟩⟩
def CM(o:Po)(p:Int):Int:=p+o.step+(p*o.pct+99) / 100
theorem OZ{w0 w:World}{l:List aC}{o:Po}(ho:o.ok){p:Int}(hp:0<=p/\p<=1000000){r:Nat}{T:TypeId}(s:St w0 w (Sep l))(i:Nat)(e:l[i]?=some (ai r o.cells.toArray T)) :
  CP 177 #[iv p,.pointer (some ⟨r,0,none⟩)] w (λ v w'=>v=iv (CM o p)/\w' = w):=by
 refine mj ⟨_,s.ag i e 0,_,s.ag i e 1,by decide,?_,rfl⟩;obtain⟨h1,h2,h3,h4,_⟩:=ho;have h5:0<=p*o.pct:=Int.mul_nonneg hp.1 h3;have h6:p*o.pct<=1000000*100:=Int.le_trans (Int.mul_le_mul_of_nonneg_left h4 hp.1) (Int.mul_le_mul_of_nonneg_right hp.2 (by omega));have h7:Int.tdiv (p*o.pct+99) 100=(p*o.pct+99) / 100:=Int.tdiv_eq_ediv_of_nonneg (by omega);rw[aB (n:=p+o.step) ⟨by omega,by omega⟩,aB (n:=p*o.pct) ⟨by omega,by omega⟩,aB (n:=p*o.pct+99) ⟨by omega,by omega⟩,h7,aB (n:=(p*o.pct+99) / 100) ⟨by omega,by omega⟩,aB ⟨by omega,by omega⟩];rfl
def bw(o:Po)(p ex:I6):I6:=p.zip (λ x n=>if n>0 then CM o x else x) ex
def tB(o:Po)(p ex:I6):I6×Int:=if bw o p ex≠p/\dJ (bw o p ex)=false then (z6,4) else (bw o p ex,0)
theorem Lv(w:World){o:Po}(ho:o.ok){p:I6}(hp:dJ p=true)(ex:I6):CP 105 #[o.v,.agg p.vs.toArray,.agg ex.vs.toArray] w (λ r w'=>r=.tuple #[.agg (tB o p ex).1.vs.toArray,iv (tB o p ex).2]/\ay w w' []):=by
 refine rD ?_;unfold mY;have hle:=lu.1 hp;refine(St.start w).one.ax o.cells.toArray λ r1 w1 s1=>s1.ax p.vs.toArray λ r2 w2 s2=>s2.ax ex.vs.toArray λ r3 w3 s3=>s3.ax z6.vs.toArray λ r4 w4 s4=>?_;refine⟨_,_,_,_,s4.cellsIn 3 rfl,ak (p9 w4 o) ?_⟩;rintro v w5 ⟨rfl,c5⟩;have s5:=s4.quiet c5;have s6:=s5.quiet (ay.drew _ _);let L:Nat->Nat->I6->List aC:=λ b r out=>[ai r out.vs.toArray 53,ai b o.cells.toArray 29,ai r4 z6.vs.toArray 53,ai r3 ex.vs.toArray 44,ai r2 p.vs.toArray 53,emp];refine⟨_,rfl,cF (by rw[gH,if_pos ho]; rfl) ⟨λ v r w'=>∃ b,v=.func (.func 177) #[] #[.pointer (some ⟨b,0,none⟩)]/\St w w' (Sep (L b r p)),?_,?_⟩⟩
 ·rintro w7 v r5 ⟨b,rfl,s7⟩ -;refine⟨ex,s7.cellsIn 3 rfl,λ n w8 m=>∃ k:Nat,n=k/\k<=6/\m=6-k/\St w w8 (Sep (L b r5 (I6.mix k (bw o p ex) p))),⟨6,0,rfl,by omega,by omega,s7⟩,?_⟩;rintro w8 m n ⟨k,rfl,hk,hm,s8⟩ -
  by_cases hlt:(k:Int)<6
  ·have hk' : k<6:=by omega
   have er:(bw o p ex).at' k=if ex.at' k>0 then CM o (p.at' k) else p.at' k:=I6.fG _ _ _ _ hk'
   refine cT (dT hlt) ⟨λ w9=>St w w9 (Sep (L b r5 (I6.mix (k+1) (bw o p ex) p))),?_,by omega,by omega,_,ex.get k hk',λ g w10=>g=decide (ex.at' k>0)/\St w w10 (Sep (L b r5 (I6.mix k (bw o p ex) p))),?_,?_⟩
   ·rintro w9 s9 -;exact⟨6-(k+1),by omega,k+1,inc (by decide) hk',by omega,rfl,s9⟩
   ·rintro w10 g ⟨rfl,s10⟩ -
    by_cases hg:ex.at' k>0
    ·refine cT (dT hg) ⟨by omega,by omega,p.at' k,by rw[fm,aI s10 4 rfl hk'],bx (by kernel_rfl) (ak (OZ ho (hle k hk') s10 1 rfl) ?_)⟩;rintro v w11 ⟨rfl,rfl⟩;refine⟨_,rfl,by omega,by omega,?_⟩;rw[fm];refine s10.aK 0 rfl hk' rfl λ w12 s12=>?_;rw[if_pos hg] at er;rw[<- er,I6.eV _ _ _ hk'] at s12;exact s12
    ·refine cF (dF hg) ?_;rw[if_neg hg] at er;have:I6.mix (k+1) (bw o p ex) p=I6.mix k (bw o p ex) p:=by
      refine I6.ext' λ j hj=>?_;rw[I6.bT _ _ _ _ hj,I6.bT _ _ _ _ hj]
      by_cases h3:j<k
      ·rw[if_pos (by omega),if_pos h3]
      ·rw[if_neg h3]
       split
       ·obtain rfl:j=k:=by omega
        exact er
       ·rfl
     rw[this]; exact s10
   ·by_cases hg:ex.at' k>0
    ·refine cT (dT hg) ⟨_,s8.cellsIn 4 rfl,ak (Db w8 p) ?_⟩;rintro v w13 ⟨rfl,c13⟩;exact⟨_,rfl,by rw[hp,dT hg],s8.quiet c13⟩
    ·exact cF (dF hg) ⟨by rw[dF hg],s8⟩
  ·obtain rfl:k=6:=by omega
   refine cF (by simp) ⟨λ g w14=>g=decide (bw o p ex≠p/\dJ (bw o p ex)=false)/\St w w14 (Sep (L b r5 (bw o p ex))),?_,p,s8.cellsIn 4 rfl,ak (Db w8 p) ?_⟩
   ·rintro w14 g ⟨rfl,s14⟩ -
    by_cases hg:bw o p ex≠p/\dJ (bw o p ex)=false
    ·refine cT (dT hg) (s14.az 2 rfl z6.vs rfl (I6.one _) λ w15 s15=>⟨_,s15.cellsIn 2 rfl,?_,s15.au⟩);rw[tB,if_pos hg]
    ·refine cF (dF hg) ⟨_,s14.cellsIn 0 rfl,s14.az 2 rfl (bw o p ex).vs rfl (I6.one _) λ w15 s15=>⟨_,s15.cellsIn 2 rfl,?_,s15.au⟩⟩;rw[tB,if_neg hg]
   ·rintro v w17 ⟨rfl,c17⟩;have s17:=s8.quiet c17;refine⟨_,rfl,cF (by rw[hp]; rfl) ⟨_,s17.cellsIn 0 rfl,_,s17.cellsIn 4 rfl,?_⟩⟩;rw[I6.xI,I6.beq_eq]
    by_cases hne:bw o p ex=p
    ·exact cF (by simp[hne]) ⟨by simp[hne],s17⟩
    ·refine cT (by simp[hne]) ⟨_,s17.cellsIn 0 rfl,ak (Db w17 _) ?_⟩;rintro v w18 ⟨rfl,c18⟩;refine⟨_,rfl,?_,s17.quiet c18⟩;rw[I6.xI]
     cases dJ (bw o p ex)<;>simp[hne]
 ·refine⟨_,_,_,_,s6.cellsIn 3 rfl,p,s6.cellsIn 2 rfl,?_,?_⟩
  ·refine ak (K:=λ v w'=>∃ b,v=.func (.func 177) #[] #[.pointer (some ⟨b,0,none⟩)]/\St w w' (Sep (ai b o.cells.toArray 29 :: [ai r4 z6.vs.toArray 53,ai r3 ex.vs.toArray 44,ai r2 p.vs.toArray 53,ai r1 o.cells.toArray 29,emp]))) (gq ?_) ?_
   ·exact s6.ax o.cells.toArray λ b w' s'=>⟨b,rfl,s'⟩
   ·rintro v w19 ⟨b,rfl,s19⟩;refine⟨_,rfl,s19.cellsIn 3 rfl,s19.ax z6.vs.toArray λ r6 w20 s20=>⟨s20.cellsIn 4 rfl,s20.az 0 rfl p.vs rfl (I6.one _) λ w21 s21=>⟨b,rfl,s21.av [0,1,2,3,4,6]⟩⟩⟩
  ·refine s6.ax z6.vs.toArray λ r7 w22 s22=>⟨s22.cellsIn 3 rfl,s22.cellsIn 4 rfl,?_⟩;refine ak (K:=λ v w'=>∃ b,v=.func (.func 177) #[] #[.pointer (some ⟨b,0,none⟩)]/\St w w' (Sep (ai b o.cells.toArray 29 :: [ai r7 z6.vs.toArray 53,ai r4 z6.vs.toArray 53,ai r3 ex.vs.toArray 44,ai r2 p.vs.toArray 53,ai r1 o.cells.toArray 29,emp]))) (gq ?_) ?_
   ·exact s22.ax o.cells.toArray λ b w' s'=>⟨b,rfl,s'⟩
   ·rintro v w23 ⟨b,rfl,s23⟩;exact⟨_,rfl,s23.cellsIn 4 rfl,s23.az 1 rfl p.vs rfl (I6.one _) λ w24 s24=>⟨b,rfl,s24.av [1,0,2,3,4,6]⟩⟩
def gL(a:OA)(b c:Nat)(w:World)(K:KP):=cond (a).isNone (K qn w) (aq w (.cells #[] 94) λ d e=>aV prog (Builtin.append_ #[22,22] 22 #[.slice (some (qd d 0)) 0 0,.slice a b c]) e λ a b=>∃ c d e,a=(.slice c d e)/\K (.slice c d e) b)
theorem lH{a1 l1 c1 w K}(h:gL a1 l1 c1 w K):CP 37 #[.slice a1 l1 c1] w K:=ah (aA []) func37 (by kernel_rfl) (by kernel_rfl) h
def ic(a:OA)(b c:Nat)(w:World)(K:KP):=cond (a).isNone (K qn w) (aq w (.cells #[] 96) λ d e=>aV prog (Builtin.append_ #[23,23] 23 #[.slice (some (qd d 0)) 0 0,.slice a b c]) e λ a b=>∃ c d e,a=(.slice c d e)/\K (.slice c d e) b)
theorem mJ{a1 l1 c1 w K}(h:ic a1 l1 c1 w K):CP 38 #[.slice a1 l1 c1] w K:=ah (aA []) func38 (by kernel_rfl) (by kernel_rfl) h
def lG(a:OA)(b c:Nat)(w:World)(K:KP):=cond (a).isNone (K qn w) (aq w (.cells #[] 98) λ d e=>aV prog (Builtin.append_ #[24,24] 24 #[.slice (some (qd d 0)) 0 0,.slice a b c]) e λ a b=>∃ c d e,a=(.slice c d e)/\K (.slice c d e) b)
theorem qE{a1 l1 c1 w K}(h:lG a1 l1 c1 w K):CP 39 #[.slice a1 l1 c1] w K:=ah (aA []) func39 (by kernel_rfl) (by kernel_rfl) h
def jd(a:OA)(b c:Nat)(w:World)(K:KP):=cond (a).isNone (K qn w) (aq w (.cells #[] 100) λ d e=>aV prog (Builtin.append_ #[25,25] 25 #[.slice (some (qd d 0)) 0 0,.slice a b c]) e λ a b=>∃ c d e,a=(.slice c d e)/\K (.slice c d e) b)
theorem nT{a1 l1 c1 w K}(h:jd a1 l1 c1 w K):CP 40 #[.slice a1 l1 c1] w K:=ah (aA []) func40 (by kernel_rfl) (by kernel_rfl) h
def ig(a:OA)(b c:Nat)(w:World)(K:KP):=cond (a).isNone (K qn w) (aq w (.cells #[] 44) λ d e=>aV prog (Builtin.append_ #[59,59] 59 #[.slice (some (qd d 0)) 0 0,.slice a b c]) e λ a b=>∃ c d e,a=(.slice c d e)/\K (.slice c d e) b)
theorem mK{a1 l1 c1 w K}(h:ig a1 l1 c1 w K):CP 143 #[.slice a1 l1 c1] w K:=ah (aA []) func143 (by kernel_rfl) (by kernel_rfl) h
theorem Mi:gV prog 59 44 (.agg z6.vs.toArray) 6 48:=gV.mk' underlying59 (by kernel_rfl) rfl (by decide)
theorem cC(u:I6):u.vs.length=6:=rfl
abbrev vl (a:OA) (c:Nat) (l:List I6):aC:=bR 44 6 I6.vs a c l
theorem Kk{w0 w:World}{B:aC}(s:St w0 w B){a:OA}{c:Nat}{l:List I6}(h:JX w a l)(hl:l.length<=1000) :
  CP 143 #[.slice a l.length c] w (λ r w'=>∃ a' c',r=.slice a' l.length c'/\St w0 w' (star (vl a' c' l) B)):=by
 refine mK ?_;unfold ig;exact ox (c:=c) (K:=λ r w'=>∃ a' c',r=.slice a' l.length c'/\St w0 w' (star (vl a' c' l) B)) Mi cC I6.one s h (by omega) (by omega) λ a' c' w' s'=>⟨a',c',rfl,s'⟩
def Jr(sup tot now ask:I6)(k:Nat):Bool:=decide (ask.at' k<now.at' k)&&decide (tot.at' k-now.at' k+ask.at' k<sup.at' k)
def jc(sup tot now ask:I6):Bool:=(List.range 6).any (Jr sup tot now ask)
theorem Js(w:World)(sup tot now ask:I6)(h1:I6.Le sup 1000000)(h2:I6.Le tot 1000000)(h3:I6.Le now 1000000)(h4:I6.Le ask 1000000) :
  CP 145 #[.agg sup.vs.toArray,.agg tot.vs.toArray,.agg now.vs.toArray,.agg ask.vs.toArray] w (λ r w'=>r=.bool (jc sup tot now ask)/\ay w w' []):=by
 refine pN ?_;unfold j7;refine(St.start w).one.ax sup.vs.toArray λ r1 w1 s1=>s1.ax tot.vs.toArray λ r2 w2 s2=>s2.ax now.vs.toArray λ r3 w3 s3=>s3.ax ask.vs.toArray λ r4 w4 s4=>?_;refine⟨λ n w5 m=>∃ k:Nat,n=k/\k<=6/\m=6-k/\(∀ j,j<k->Jr sup tot now ask j=false)/\ay w4 w5 [],⟨6,0,rfl,by omega,by omega,λ j hj=>by omega,ay.refl _ _⟩,?_⟩;rintro w5 m n ⟨k,rfl,hk,hm,ha,hc⟩ -
 by_cases hlt:(k:Int)<6
 ·have hk' : k<6:=by omega
  have c5:ay w4 w5.drew []:=hc.trans (ay.drew w5 []) (by simp);have s5:=s4.quiet c5;have q1:=h1 k hk'; have q2:=h2 k hk'; have q3:=h3 k hk'; have q4:=h4 k hk';have ge1:=aI s5 3 rfl hk'; have ge2:=aI s5 2 rfl hk'; have ge3:=aI s5 1 rfl hk'; have ge4:=aI s5 0 rfl hk';refine cT (dT hlt) ⟨λ b w6=>b=Jr sup tot now ask k/\ay w4 w6 [],?_,by omega,by omega,_,by rw[fm,ge4],by omega,by omega,_,by rw[fm,ge3],?_⟩
  ·rintro w6 b ⟨rfl,c6⟩ -
   cases hr:Jr sup tot now ask k with
   | true=>exact cT rfl ⟨by rw[jc,List.any_eq_true.2 ⟨k,List.mem_range.2 hk',hr⟩],(s4.quiet c6).au⟩
   | false =>
    refine cF rfl ⟨6-(k+1),by omega,k+1,inc (by decide) hk',by omega,rfl,λ j hj=>?_,c6⟩;rcases Nat.lt_or_ge j k with h' | h'
    ·exact ha j h'
    ·obtain rfl:j=k:=by omega
     exact hr
  ·by_cases g:ask.at' k<now.at' k
   ·refine cT (dT g) ⟨by omega,by omega,_,by rw[fm,ge2],by omega,by omega,_,by rw[fm,ge3],by omega,by omega,_,by rw[fm,ge4],by omega,by omega,_,by rw[fm,ge1],?_,c5⟩;rw[aB (n:=tot.at' k-now.at' k) ⟨by omega,by omega⟩,aB ⟨by omega,by omega⟩,Jr,dT g,Bool.true_and]
   ·exact cF (dF g) ⟨by rw[Jr,dF g,Bool.false_and],c5⟩
 ·obtain rfl:k=6:=by omega
  refine cF (by simp) ⟨?_,(s4.quiet hc).au⟩;have:jc sup tot now ask=false:=by
   rw[jc,List.any_eq_false];intro j hj;rw[ha j (List.mem_range.1 hj)]; simp
  rw[this]
def zg(sup tot now ask:Int):Int:=if ask<now then now-(if (if 0>tot-sup then 0 else tot-sup)<now-ask then (if 0>tot-sup then 0 else tot-sup) else now-ask) else ask
def oU(sup tot now ask:I6):I6:=I6.of λ k=>zg (sup.at' k) (tot.at' k) (now.at' k) (ask.at' k)
theorem EB{s t n a B:Int}(h3:0<=n/\n<=B)(h4:0<=a/\a<=B):0<=zg s t n a/\zg s t n a<=B:=by
 unfold zg
 split
 ·split<;>split<;>omega
 ·omega
theorem LN{s t n a:I6}{B:Int}(h3:I6.Le n B)(h4:I6.Le a B):I6.Le (oU s t n a) B:=λ k hk=>by
 rw[oU,I6.zb _ _ hk]; exact EB (h3 k hk) (h4 k hk)
theorem LO(w:World)(sup tot now ask:I6)(h1:I6.Le sup 1000000)(h2:I6.Le tot 1000000)(h3:I6.Le now 1000000)(h4:I6.Le ask 1000000) :
  CP 146 #[.agg sup.vs.toArray,.agg tot.vs.toArray,.agg now.vs.toArray,.agg ask.vs.toArray] w (λ r w'=>r=.agg (oU sup tot now ask).vs.toArray/\ay w w' []):=by
 refine qH ?_;unfold lQ;refine(St.start w).one.ax sup.vs.toArray λ r1 w1 s1=>s1.ax tot.vs.toArray λ r2 w2 s2=>s2.ax now.vs.toArray λ r3 w3 s3=>s3.ax ask.vs.toArray λ r4 w4 s4=>s4.ax z6.vs.toArray λ r5 w5 s5=>?_;let I:Nat->World->Prop:=λ k w'=>St w w' (Sep [ai r5 z6.vs.toArray 44,ai r4 (I6.mix k (oU sup tot now ask) ask).vs.toArray 44,ai r3 now.vs.toArray 44,ai r2 tot.vs.toArray 44,ai r1 sup.vs.toArray 44,emp]);refine⟨λ n w6 m=>∃ k:Nat,n=k/\k<=6/\m=6-k/\I k w6,⟨6,0,rfl,by omega,by omega,s5⟩,?_⟩;rintro w6 m n ⟨k,rfl,hk,hm,s6⟩ -
 by_cases hlt:(k:Int)<6
 ·have hk' : k<6:=by omega
  have s7:=St.quiet s6 (ay.drew _ _);have s8:=s7.quiet (ay.drew _ _);have q1:=h1 k hk'; have q2:=h2 k hk'; have q3:=h3 k hk'; have q4:=h4 k hk';have ea:(I6.mix k (oU sup tot now ask) ask).at' k=ask.at' k:=by rw[I6.bT _ _ _ _ hk',if_neg (by omega)]
  have ep:(oU sup tot now ask).at' k=zg (sup.at' k) (tot.at' k) (now.at' k) (ask.at' k):=I6.zb _ _ hk';refine cT (dT hlt) ⟨I (k+1),?_,by omega,by omega,ask.at' k,by rw[fm,aI s7 1 rfl hk',ea],by omega,by omega,now.at' k,by rw[fm,aI s7 2 rfl hk'],?_⟩
  ·rintro w9 s9 -;exact⟨6-(k+1),by omega,k+1,inc (by decide) hk',by omega,rfl,s9⟩
  ·by_cases g:ask.at' k<now.at' k
   ·refine cT (dT g) ⟨by omega,by omega,now.at' k,by rw[fm,aI s8 2 rfl hk'],by omega,by omega,now.at' k,by rw[fm,aI s8 2 rfl hk'],by omega,by omega,ask.at' k,by rw[fm,aI s8 1 rfl hk',ea],by omega,by omega,tot.at' k,by rw[fm,aI s8 3 rfl hk'],by omega,by omega,sup.at' k,by rw[fm,aI s8 4 rfl hk'],by omega,by omega,?_⟩
    have hp:=EB (s:=sup.at' k) (t:=tot.at' k) q3 q4;rw[zg,if_pos g] at ep hp;rw[fm,aB (n:=tot.at' k-sup.at' k) ⟨by omega,by omega⟩,aB (n:=now.at' k-ask.at' k) ⟨by omega,by omega⟩,aB ⟨by omega,by omega⟩,<- ep];refine s8.aK 1 rfl hk' rfl λ w9 s9=>?_;rw[I6.eV _ _ _ hk'] at s9;exact s9
   ·refine cF (dF g) ?_;rw[zg,if_neg g] at ep;have:I6.mix (k+1) (oU sup tot now ask) ask=I6.mix k (oU sup tot now ask) ask:=by
     refine I6.ext' λ j hj=>?_;rw[I6.bT _ _ _ _ hj,I6.bT _ _ _ _ hj]
     by_cases h3:j<k
     ·rw[if_pos (by omega),if_pos h3]
     ·rw[if_neg h3]
      split
      ·obtain rfl:j=k:=by omega
       exact ep
      ·rfl
    show I (k+1) _;simp only[I];rw[this]; exact s7
 ·obtain rfl:k=6:=by omega
  exact cF (by simp) ⟨_,St.cellsIn s6 1 rfl,St.az s6 0 rfl (oU sup tot now ask).vs rfl (I6.one _) λ w8 s8=>⟨_,s8.cellsIn 0 rfl,rfl,s8.au⟩⟩
theorem MJ{w:World}{p:Int}(hp:1<=p/\p<=3){sup:I6}(hs:I6.Le sup 4){a1 a2:OA}{c1 c2:Nat}{l1 l2:List I6}(h1:JX w a1 l1)(h2:JX w a2 l2)(hl:l2.length=l1.length)(h8:l1.length<=8)(b1:∀ u∈l1,I6.Le u 4)(b2:∀ u∈l2,I6.Le u 4) :
  CP 142 #[iv p,.agg sup.vs.toArray,.slice a1 l1.length c1,.slice a2 l2.length c2] w (λ r w'=>r=iv 0/\ay w w' []):=by
 refine rV ?_;unfold nw;refine(St.start w).one.ax sup.vs.toArray λ r1 w1 s1=>⟨λ b w2=>b=false/\w2=w1,?_,cF (dF (by omega)) ⟨dF (by omega),rfl⟩⟩;rintro w2 b ⟨rfl,rfl⟩ -;refine cF rfl ⟨λ b w3=>b=false/\w3=w2,?_,cF (by simp[hl]) ⟨dF (by omega),rfl⟩⟩;rintro w3 b ⟨rfl,rfl⟩ -;refine cF rfl ⟨_,s1.cellsIn 0 rfl,ak (bN w3 sup) ?_⟩;rintro v w4 ⟨rfl,c4⟩;have s4:=s1.quiet c4;refine⟨_,rfl,cF (by rw[leq hs]; rfl) ⟨λ n w5 m=>∃ k:Nat,n=k/\k<=2/\m=2-k/\ay w w5 [],⟨2,0,rfl,by omega,by omega,s4.au⟩,?_⟩⟩;rintro w5 m n ⟨k,rfl,hk,hm,c5⟩ -
 by_cases hlt:(k:Int)<2
 ·have hk' : k<2:=by omega
  obtain⟨a,c,l,e1,hr,hb,hl8⟩:∃ (a:OA) (c:Nat) (l:List I6),(#[.slice a1 l1.length c1,.slice a2 l2.length c2]:Array Value)[(k:Int).toNat*1]?=some (.slice a l.length c)/\JX w a l/\(∀ u∈l,I6.Le u 4)/\l.length<=8:=by
   match k,hk' with
   | 0,_=>exact⟨a1,c1,l1,rfl,h1,b1,h8⟩
   | 1,_=>exact⟨a2,c2,l2,rfl,h2,b2,by omega⟩
  refine cT (dT hlt) ⟨by omega,by omega,_,_,_,e1,λ n w6 m=>∃ j:Nat,n=j/\j<=l.length/\m=l.length-j/\ay w w6 [],⟨l.length,0,rfl,by omega,by omega,c5⟩,?_⟩;rintro w6 m6 n6 ⟨j,rfl,hj,hm6,c6⟩ -
  by_cases hlt6:(j:Int)<(l.length:Int)
  ·have hx:l[j]?=some (l[j]'(by omega)):=gE (by omega);generalize l[j]'(by omega)=x at hx;obtain⟨q,hq,hcl⟩:=(hr.au c6).at hx;refine cT (by simpa using hlt6) ?_;rw[hq];refine⟨by omega,by omega,x,hcl,(St.start' c6).one.ax z6.vs.toArray λ r2 w7 s7=>s7.az 0 rfl x.vs rfl (I6.one _) λ w8 s8=>⟨_,s8.cellsIn 0 rfl,ak (bN w8 x) ?_⟩⟩;rintro v w9 ⟨rfl,c9⟩;exact⟨_,rfl,cF (by rw[leq (hb x (List.mem_of_getElem? hx))]; rfl) ⟨l.length-(j+1),by omega,j+1,aB ⟨by omega,by omega⟩,by omega,rfl,(s8.quiet c9).au⟩⟩
  ·exact cF (by simpa using hlt6) ⟨2-(k+1),by omega,k+1,inc (by decide) hk',by omega,rfl,c6⟩
 ·exact cF (dF hlt) ⟨rfl,c5⟩
def mN(p:Int)(sup:I6)(out:List I6)(i:Nat)(ask:I6):List I6 :=
 if p=2 then (if jc sup (gP out) (out.getD i z6) ask then out else out.set i ask)
 else if p=3 then out.set i (oU sup (gP out) (out.getD i z6) ask) else out.set i ask
def wu(p:Int)(sup:I6)(bef asked:List I6):Nat->List I6
 | 0=>bef
 | k+1=>mN p sup (wu p sup bef asked k) k (asked.getD k z6)
def Uz(p:Int)(sup:I6)(bef asked:List I6):List I6:=wu p sup bef asked asked.length
theorem xE{l:List I6}{B:Int}(h:∀ u∈l,I6.Le u B)(hB:0<=B)(i:Nat):I6.Le (l.getD i z6) B:=by
 rw[List.getD_eq_getElem?_getD]
 cases hg:l[i]? with
 | none=>exact λ k _=>by rw[show(none:Option I6).getD z6=z6 from rfl,lT]; omega
 | some u=>exact h u (List.mem_of_getElem? hg)
theorem Gw{l:List I6}{B:Int}(h:∀ u∈l,I6.Le u B){x:I6}(hx:I6.Le x B)(i:Nat):∀ u∈l.set i x,I6.Le u B:=λ u hu=>by
 rcases List.mem_or_eq_of_mem_set hu with h' | rfl
 ·exact h u h'
 ·exact hx
theorem JJ{p:Int}{sup:I6}{out:List I6}{i:Nat}{ask:I6}{B:Int}(hB:0<=B)(h:∀ u∈out,I6.Le u B)(ha:I6.Le ask B):(mN p sup out i ask).length=out.length/\∀ u∈mN p sup out i ask,I6.Le u B:=by
 unfold mN
 split
 ·split
  ·exact⟨rfl,h⟩
  ·exact⟨by simp,Gw h ha i⟩
 ·split
  ·exact⟨by simp,Gw h (LN (xE h hB i) ha) i⟩
  ·exact⟨by simp,Gw h ha i⟩
theorem Da{p:Int}{sup:I6}{bef asked:List I6}{B:Int}(hB:0<=B)(h:∀ u∈bef,I6.Le u B)(ha:∀ u∈asked,I6.Le u B):∀ k,(wu p sup bef asked k).length=bef.length/\∀ u∈wu p sup bef asked k,I6.Le u B
 | 0=>⟨rfl,h⟩
 | k+1=>by
  obtain⟨h1,h2⟩:=Da (p:=p) (sup:=sup) hB h ha k;obtain⟨h3,h4⟩:=JJ (p:=p) (sup:=sup) (i:=k) hB h2 (xE ha hB k);exact⟨h3.trans h1,h4⟩
theorem MI{w0 w:World}{B:aC}(s:St w0 w B){p:Int}(hp:1<=p/\p<=3){sup:I6}(hs:I6.Le sup 4){a1 a2:OA}{c1 c2:Nat}{l1 l2:List I6}(h1:JX w a1 l1)(h2:JX w a2 l2)(hl:l2.length=l1.length)(h8:l1.length<=8)(b1:∀ u∈l1,I6.Le u 4)(b2:∀ u∈l2,I6.Le u 4) :
  CP 102 #[iv p,.agg sup.vs.toArray,.slice a1 l1.length c1,.slice a2 l2.length c2] w (λ r w'=>∃ a c,r=.tuple #[.slice a l1.length c,iv 0]/\St w0 w' (star (vl a c (Uz p sup l1 l2)) B)/\ay w w' []):=by
 refine rU ?_;unfold nv;refine(St.start w).one.ax sup.vs.toArray λ r1 w1 t1=>⟨_,t1.cellsIn 0 rfl,ak (MJ hp hs (h1.au t1.au) (h2.au t1.au) hl h8 b1 b2) ?_⟩;rintro v w2 ⟨rfl,c2⟩;have t2:=t1.quiet c2;refine⟨_,rfl,cF rfl (ak (Kk t2 (h1.au t2.au) (by omega)) ?_)⟩;rintro v w3 ⟨a,c,rfl,t3⟩;refine⟨_,_,_,rfl,?_⟩;have len:∀ k,(wu p sup l1 l2 k).length=l1.length:=λ k=>(Da (B:=4) (by omega) b1 b2 k).1;have le4:∀ k,∀ u∈wu p sup l1 l2 k,I6.Le u 4:=λ k=>(Da (B:=4) (by omega) b1 b2 k).2;have up:∀ {u:I6},I6.Le u 4->I6.Le u 1000000:=λ h k hk=>by have:=h k hk; omega
 have tsum:∀ k,I6.Le (gP (wu p sup l1 l2 k)) 1000000:=λ k j hj=>by
  have:=C5 (le4 k) j hj;rw[gP,I6.zb _ _ hj];have:=len k;omega
 let Q:Nat->aC:=λ k=>Sep [vl a c (wu p sup l1 l2 k),ai r1 sup.vs.toArray 44,emp];refine⟨λ n w4 m=>∃ k:Nat,n=k/\k<=l2.length/\m=l2.length-k/\St w w4 (Q k),⟨l2.length,0,rfl,by omega,by omega,t3⟩,?_⟩;rintro w4 m n ⟨k,rfl,hk,hm,t4⟩ -
 by_cases hlt:(k:Int)<(l2.length:Int)
 ·have hx:l2[k]?=some (l2[k]'(by omega)):=gE (by omega);generalize l2[k]'(by omega)=x at hx;have hxD:l2.getD k z6=x:=by rw[List.getD_eq_getElem?_getD,hx]; rfl
  have hx4:=b2 x (List.mem_of_getElem? hx);have hk1:k<l1.length:=by omega
  obtain⟨q,hq,hcl⟩:=(h2.au (St.au t4)).at hx;have hg:∃ g,a=some ⟨g,0,none⟩:=St.vj (l:=wu p sup l1 l2 k) (St.out t4 0 rfl) (by rw[len]; omega);obtain⟨g,rfl⟩:=hg;have hnow:(wu p sup l1 l2 k)[k]?=some ((wu p sup l1 l2 k).getD k z6):=by
   rw[List.getD_eq_getElem?_getD,gE (by rw[len]; exact hk1)]; rfl
  have hnow4:=xE (le4 k) (by omega) k;refine cT (by simpa using hlt) ⟨λ w5=>St w w5 (Q (k+1)),?_,?_⟩
  ·rintro w5 t5 -;exact⟨l2.length-(k+1),by omega,k+1,aB ⟨by omega,by omega⟩,by omega,rfl,t5⟩
  rw[hq];refine⟨by omega,by omega,x,hcl,St.ax t4 z6.vs.toArray λ r2 w6 t6=>t6.az 0 rfl x.vs rfl (I6.one _) λ w7 t7=>?_⟩;have rd7:JX w7 (some ⟨g,0,none⟩) (wu p sup l1 l2 k):=St.rd cC (t7.out 1 rfl);have hsum:=TD (c:=c) rd7 (λ u hu=>up (le4 k u hu)) (by rw[len]; omega);rw[len] at hsum;refine ak hsum ?_;rintro v w8 ⟨rfl,c8⟩;refine⟨_,rfl,(t7.quiet c8).ax z6.vs.toArray λ r3 w9 t9=>t9.az 0 rfl (gP (wu p sup l1 l2 k)).vs rfl (I6.one _) λ w10 t10=>?_⟩;generalize htot:gP (wu p sup l1 l2 k)=tot at t10;have ht6:I6.Le tot 1000000:=htot▸tsum k;let now:=(wu p sup l1 l2 k).getD k z6;have cN:∀ {w' : World} {l:List aC} {y:I6},St w w' (Sep (ai r3 tot.vs.toArray 44 :: ai r2 y.vs.toArray 44 :: vl (some ⟨g,0,none⟩) c (wu p sup l1 l2 k) :: l))->af w' (Addr.add ⟨g,0,none⟩ (((k:Nat):Int).toNat*6)) 0 now.vs:=λ t=>by
   obtain⟨q',hq',hc'⟩:=cG.at (St.rd cC (t.out 2 rfl)) hnow
   cases hq'; exact hc'
  have t10' : St w w10 (Sep [ai r3 tot.vs.toArray 44,ai r2 x.vs.toArray 44,vl (some ⟨g,0,none⟩) c (wu p sup l1 l2 k),ai r1 sup.vs.toArray 44,emp]):=t10;have t11:=t10'.quiet (ay.drew w10 []);refine⟨λ w'=>∃ y:I6,wu p sup l1 l2 (k+1)=(wu p sup l1 l2 k).set k y/\St w w' (Sep [ai r3 tot.vs.toArray 44,ai r2 y.vs.toArray 44,vl (some ⟨g,0,none⟩) c (wu p sup l1 l2 k),ai r1 sup.vs.toArray 44,emp]),?_,?_⟩
  ·rintro w11 ⟨y,ey,t⟩ -;refine⟨_,t.cellsIn 1 rfl,by omega,by omega,?_⟩;rw[Int.toNat_natCast];refine St.EV cC (I6.one y) (t.out 2 rfl) (i:=k) (by rw[len]; exact hk1) λ w12 t12=>?_;show St w w12 (Q (k+1));simp only[Q];rw[ey];exact(t12.back (l:=[ai r3 tot.vs.toArray 44,ai r2 y.vs.toArray 44,vl (some ⟨g,0,none⟩) c (wu p sup l1 l2 k),ai r1 sup.vs.toArray 44,emp]) (i:=2) (by simp)).av [2,3,4]
  ·have estep:wu p sup l1 l2 (k+1)=mN p sup (wu p sup l1 l2 k) k x:=by show mN _ _ _ _ (l2.getD k z6)=_; rw[hxD]
   by_cases p2:p=2
   ·refine cT (by simpa using p2) ⟨_,t11.cellsIn 3 rfl,_,t11.cellsIn 0 rfl,by omega,by omega,_,cN t11,_,t11.cellsIn 1 rfl,ak (Js _ sup tot now x (up hs) ht6 (up hnow4) (up hx4)) ?_⟩;rintro v w13 ⟨rfl,c13⟩;refine⟨_,rfl,?_⟩;have t13:=t11.quiet c13;have e2:wu p sup l1 l2 (k+1)=if jc sup tot now x then wu p sup l1 l2 k else (wu p sup l1 l2 k).set k x:=by
     rw[estep,mN,if_pos p2,htot]
    cases hr:jc sup tot now x with
    | true =>
     refine cT rfl ?_;rw[hr,if_pos rfl] at e2;show St w w13 (Q (k+1));simp only[Q];rw[e2];exact t13.av [2,3,4]
    | false =>
     rw[hr] at e2;exact cF rfl ⟨x,e2,t13⟩
   ·refine cF (by simpa using p2) ?_
    by_cases p3:p=3
    ·refine cT (by simpa using p3) ⟨_,t11.cellsIn 3 rfl,_,t11.cellsIn 0 rfl,by omega,by omega,_,cN t11,_,t11.cellsIn 1 rfl,ak (LO _ sup tot now x (up hs) ht6 (up hnow4) (up hx4)) ?_⟩;rintro v w14 ⟨rfl,c14⟩;refine⟨_,rfl,(t11.quiet c14).az 1 rfl (oU sup tot now x).vs rfl (I6.one _) λ w15 t15=>⟨_,?_,t15⟩⟩;rw[estep,mN,if_neg p2,if_pos p3,htot]
    ·refine cF (by simpa using p3) ⟨x,?_,t10'⟩;rw[estep,mN,if_neg p2,if_neg p3]
 ·obtain rfl:k=l2.length:=by omega
  refine cF (by simp) ⟨a,c,rfl,?_,St.au t4⟩;exact(s.after (St.av t4 [0]).single)
structure Br where
 nm:List UInt8
 cls:Int
 bud:Int
 pts:Int
def Br.cells(p:Br):List Value:=[sv p.nm,iv p.cls,iv p.bud,iv p.pts]
def Br.In(p:Br):Prop:=Go.Vc.In p.cls/\Go.Vc.In p.bud/\Go.Vc.In p.pts
def ku(w:World)(a:OA)(l:List Br):Prop:=∀ (i:Nat) (p:Br),l[i]?=some p->p.In/\∃ q,a=some q/\af w (q.add (i*4)) 0 p.cells
theorem ku.au{w w' : World}{a:OA}{l:List Br}(h:ku w a l)(hc:ay w w' []):ku w' a l:=λ i p hp =>
 let ⟨h1,q,hq,h2⟩:=h i p hp
 ⟨h1,q,hq,bu hc h2⟩
theorem ku.take{w:World}{a:OA}{l:List Br}(h:ku w a l)(n:Nat):ku w a (l.take n):=λ i p hp=>by
 rw[List.getElem?_take] at hp
 split at hp
 ·exact h i p hp
 ·cases hp
theorem Br.one(p:Br):∀ v∈p.cells,v.oneCell' = true:=by
 intro v hv; simp[Br.cells] at hv; rcases hv with rfl|rfl|rfl|rfl<;>rfl
theorem R1{a:OA}{c:Nat}:(if c=0 then a else Option.map (λ x=>Addr.add x (0*4)) a)=a:=by
 split
 ·rfl
 ·cases a<;>simp[Addr.add]
theorem O4{w:World}{a:OA}{c:Nat}{l:List Br}(h:ku w a l)(hl:l.length<=1000)(nm:List UInt8) :
  CP 118 #[.slice a l.length c,sv nm] w (λ r w'=>(∃ k:Int,r=.tuple #[iv k,.bool (l.any λ p=>p.nm==nm)])/\ay w w' []):=by
 refine Bm ?_;unfold F6;refine⟨λ n w1 m=>∃ k:Nat,n=k/\k<=l.length/\m=l.length-k/\(l.take k).any (λ p=>p.nm==nm)=false/\ay w w1 [],⟨l.length,0,rfl,by omega,by omega,rfl,ay.refl _ _⟩,?_⟩;rintro w1 m n ⟨k,rfl,hk,hm,ha,hc⟩ -
 by_cases hlt:(k:Int)<(l.length:Int)
 ·have hx:l[k]?=some (l[k]'(by omega)):=gE (by omega);generalize l[k]'(by omega)=x at hx;obtain⟨_,q,rfl,hcl⟩:=(h.au hc) k x hx;refine cT (by simpa using hlt) ⟨by omega,by omega,_,_,_,_,hcl,aJ ?_⟩;refine((St.start' hc).one.bW _ 96).az 0 rfl x.cells rfl x.one λ w3 s3=>?_;refine⟨_,by rw[s3.ag 0 rfl]; rfl,?_⟩
  by_cases hn:x.nm=nm
  ·exact cT (by rw[hn]; simp) ⟨⟨k,by rw[iq hx (by simpa using hn)]⟩,s3.au⟩
  ·exact cF (by rw[iI,iI]; simpa using hn) ⟨l.length-(k+1),by omega,k+1,by rw[aB ⟨by omega,by omega⟩]; rfl,by omega,rfl,fS ha hx (by simpa using hn),s3.au⟩
 ·refine cF (by simpa using hlt) ⟨⟨0,?_⟩,hc⟩;rw[List.take_of_length_le (by omega)] at ha;rw[ha]
def uz(x:Br):Bool:=(decide (0<=x.cls)&&decide (x.cls<=4))&&((decide (0<=x.bud)&&decide (x.bud<=1000000))&&(decide (0<=x.pts)&&decide (x.pts<=24000)))
def xx(l:List Br)(i:Nat)(p:Br):Prop:=(cw p.nm&&uz p)=true/\((l.take i).any λ q=>q.nm==p.nm)=false
structure GM (l:List Br):Prop where
 l1:1<=l.length
 l2:l.length<=8
 good:∀ i p,l[i]?=some p->xx l i p
theorem pV{x:Br}(hh : ¬ (0<=x.cls/\x.cls<=4/\0<=x.bud/\x.bud<=1000000/\0<=x.pts/\x.pts<=24000)):true = !uz x:=by
 cases hr:uz x with
 | false=>rfl
 | true =>
  exfalso; apply hh
  simp only[uz,Bool.and_eq_true,decide_eq_true_eq] at hr;omega
def Nk(l:List Br)(i:Nat)(p:Br):Int:=if cw p.nm=false then 5 else if ((l.take i).any λ q=>q.nm==p.nm) then 7 else if uz p=false then 4 else 0
theorem yh{l:List Br}{i:Nat}{p:Br}(h:xx l i p):Nk l i p=0:=by
 obtain⟨h1,h2⟩:=h;rw[Bool.and_eq_true] at h1;rw[Nk,h1.1,h2,h1.2]; rfl
def GV(l:List Br):Int:=if l.length=0 then 1 else if 8<l.length then 3 else eU (Nk l) 0 l
theorem Jp{w:World}{a:OA}{c:Nat}{l:List Br}(h:ku w a l)(hcap:l.length<=c) :
  CP 81 #[.slice a l.length c] w ((BN (GM l) (GV l) w)):=by
 refine FY ?_;unfold HJ
 by_cases h0:l.length=0
 ·exact cT (by rw[h0]; rfl) (aW (by decide) (λ hp=>by have:=hp.l1; omega) (ay.refl _ _) (by rw[GV,if_pos h0]))
 refine cF (by simpa using h0) ?_;rcases Nat.lt_or_ge 8 l.length with h6|h6
 ·exact cT (dT (by omega)) (aW (by decide) (λ hp=>by have:=hp.l2; omega) (ay.refl _ _) (by rw[GV,if_neg h0,if_pos h6]))
 refine cF (dF (by omega)) ⟨λ n w1 m=>∃ k:Nat,n=k/\k<=l.length/\m=l.length-k/\(∀ i p,i<k->l[i]?=some p->xx l i p)/\ay w w1 [],⟨l.length,0,rfl,by omega,by omega,λ i p hi=>by omega,ay.refl _ _⟩,?_⟩;rintro w1 m n ⟨k,rfl,hk,hm,ha,hc⟩ -
 by_cases hlt:(k:Int)<(l.length:Int)
 ·have hx:l[k]?=some (l[k]'(by omega)):=gE (by omega);generalize l[k]'(by omega)=x at hx;obtain⟨_,q,hq,hcl⟩:=(h.au hc) k x hx;have bad : ¬ xx l k x->¬ GM l:=λ hb hp=>hb (hp.good k x hx);have bk:∀ {e:Int},e≠0->Nk l k x=e->GV l=e:=λ he h=>by
   have:=kR (f:=Nk l) (n:=0) (λ i p hi hp=>by rw[Nat.zero_add]; exact yh (ha i p hi hp)) hx (by rw[Nat.zero_add,h]; exact he);rw[Nat.zero_add,h] at this;rw[GV,if_neg h0,if_neg (by omega),this]
  refine cT (by simpa using hlt) ?_;rw[hq];refine⟨by omega,by omega,_,_,_,_,hcl,aJ ?_⟩;refine((St.start' hc).one.bW _ 96).az 0 rfl x.cells rfl x.one λ w3 s3=>?_;generalize hr1:w1.heap.size=r1 at s3 ⊢;have cx:∀ {w' : World},ay w3 w' []->∀ (j:Nat) (v:Value),x.cells[j]?=some v->w'.cell? ⟨r1,j,none⟩=some v:=λ hc j v hv=>bO (by rw[s3.ag 0 rfl]; simpa using hv) hc;refine⟨_,cx (ay.refl _ _) 0 _ rfl,ak (yN w3 x.nm) ?_⟩;rintro v w4 ⟨rfl,rfl⟩;refine⟨_,rfl,?_⟩
  cases hn:cw x.nm with
  | false=>exact cT rfl (aW (by decide) (bad λ hg=>by have:=hg.1; simp[hn] at this) s3.au (bk (by decide) (by rw[Nk,hn]; rfl)))
  | true =>
   have d4:ay w4 w4.drew []:=ay.drew w4 [];refine cF rfl ⟨by omega,by omega,_,cx d4 0 _ rfl,?_⟩;rw[<- hq,R1];have hf:=O4 (c:=c-0) ((h.au (s3.au.trans d4 (by simp))).take k) (by rw[List.length_take]; omega) x.nm;rw[List.length_take,Nat.min_eq_left hk] at hf;refine ak hf ?_;rintro v w5 ⟨⟨kk,rfl⟩,c5⟩;have d5:ay w4 w5 []:=d4.trans c5 (by simp);refine⟨_,_,rfl,?_⟩
   cases hany:((l.take k).any λ p=>p.nm==x.nm) with
   | true=>exact cT rfl (aW (by decide) (bad λ hg=>by have:=hg.2; rw[hany] at this; cases this) (s3.au.trans d5 (by simp)) (bk (by decide) (by rw[Nk,hn,hany]; rfl)))
   | false =>
    refine cF rfl ⟨λ b w6=>w6=w5/\b = !uz x,?_,?_⟩
    ·rintro w6 b ⟨rfl,rfl⟩ -;have c7:=s3.au.trans d5 (by simp)
     cases hr:uz x with
     | false=>exact cT rfl (aW (by decide) (bad λ hg=>by have:=hg.1; simp[hr] at this) c7 (bk (by decide) (by rw[Nk,hn,hany,hr]; rfl)))
     | true =>
      refine cF rfl ⟨l.length-(k+1),by omega,k+1,by rw[aB ⟨by omega,by omega⟩]; rfl,by omega,rfl,λ i p hi hp=>?_,c7⟩;rcases Nat.lt_or_ge i k with h' | h'
      ·exact ha i p h' hp
      ·obtain rfl:i=k:=by omega
       rw[hx] at hp; cases hp;exact⟨by simp[hn,hr],hany⟩
    ·refine⟨_,cx d5 1 _ rfl,?_⟩
     by_cases g1:x.cls<0
     ·exact cT (dT g1) ⟨rfl,pV (by omega)⟩
     refine cF (dF g1) ⟨_,cx d5 1 _ rfl,?_⟩
     by_cases g2:x.cls>4
     ·exact cT (dT g2) ⟨rfl,pV (by omega)⟩
     refine cF (dF g2) ⟨_,cx d5 2 _ rfl,?_⟩
     by_cases g3:x.bud<0
     ·exact cT (dT g3) ⟨rfl,pV (by omega)⟩
     refine cF (dF g3) ⟨_,cx d5 2 _ rfl,?_⟩
     by_cases g4:x.bud>1000000
     ·exact cT (dT g4) ⟨rfl,pV (by omega)⟩
     refine cF (dF g4) ⟨_,cx d5 3 _ rfl,?_⟩
     by_cases g5:x.pts<0
     ·exact cT (dT g5) ⟨rfl,pV (by omega)⟩
     refine cF (dF g5) ⟨_,cx d5 3 _ rfl,rfl,?_⟩
     by_cases g6:x.pts>24000
     ·rw[dT g6]; exact pV (by omega)
     ·rw[dF g6];have:uz x=true:=by simp only[uz,Bool.and_eq_true,decide_eq_true_eq]; omega
      rw[this]; rfl
 ·obtain rfl:k=l.length:=by omega
  exact cF (by simp) (pW ⟨by omega,h6,λ i p hp=>ha i p (List.getElem?_eq_some_iff.1 hp).1 hp⟩ hc (by rw[GV,if_neg h0,if_neg (by omega),bP λ i p hp=>by rw[Nat.zero_add]; exact yh (ha i p (List.getElem?_eq_some_iff.1 hp).1 hp)]))

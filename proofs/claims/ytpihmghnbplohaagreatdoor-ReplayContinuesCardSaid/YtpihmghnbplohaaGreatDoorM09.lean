import Derived.Test.YtpihmghnbplohaaGreatDoorM08
set_option linter.unusedVariables false
set_option maxRecDepth 100000
namespace Go.Proofs.YtpihmghnbplohaaGreatDoor
open Go Go.Vc Tryz
theorem gM(r k:Nat):Addr.add ⟨r,0,none⟩ (((k:Nat):Int).toNat*1)=⟨r,k,none⟩:=by rw[bG]; simp
theorem aM{w0 w:World}{l:List aD}{r:Nat}{u:I6}{T:TypeId}(h:St w0 w (Sep l))(i:Nat)(e:l[i]? = some (ai r u.vs.toArray T)){k:Nat}(hk:k<6):w.cell? ⟨r,k,none⟩=some (iv (u.at' k)):=by
  rw[h.ag i e]; simpa using u.get k hk
def EW(p u:I6)(k:Nat):Int:=(List.range k).foldl (λ s j=>s+p.at' j*u.at' j) 0
theorem Ae(p u:I6)(k:Nat):EW p u (k+1)=EW p u k+p.at' k*u.at' k:=by simp[EW,List.range_succ]
def cost(p u:I6):Int:=p.a*u.a+p.b*u.b+p.c*u.c+p.d*u.d+p.e*u.e+p.f*u.f
theorem Gv(p u:I6):EW p u 6=cost p u:=by simp[EW,cost,List.range_succ,I6.at']
def tot(u:I6):Int:=u.a+u.b+u.c+u.d+u.e+u.f
def I6.Le(u:I6)(n:Int):Prop:=∀ k,k<6->0<=u.at' k/\u.at' k<=n
theorem Jl{u:I6}(h:u.l.all lR=true):I6.Le u 4:=λ k hk=>by
  have:=List.all_eq_true.1 h _ (List.mem_of_getElem? (u.vY k hk));simpa[lR] using this
theorem leq{u:I6}(h:I6.Le u 4):u.l.all lR=true:=by
  have h0:=h 0 (by decide); have h1:=h 1 (by decide); have h2:=h 2 (by decide); have h3:=h 3 (by decide); have h4:=h 4 (by decide); have h5:=h 5 (by decide);simp only[I6.at'] at h0 h1 h2 h3 h4 h5;simp[I6.l,lR,h0,h1,h2,h3,h4,h5]
theorem RH(w:World)(u v:I6)(hu:I6.Le u 1000000)(hv:I6.Le v 1000000):CP 298 #[.agg u.vs.toArray,.agg v.vs.toArray] w (λ r w'=>r=.agg (u.zip (· + ·) v).vs.toArray/\az w w' []):=by
  refine zv ?_;unfold xz;refine aG (aG (aG ?_));have s3:=(((St.start w).one.bI u.vs.toArray 41).bI v.vs.toArray 41).bI z6.vs.toArray 41;generalize hw3:World.alloc _ _=w3 at s3 ⊢;generalize hr1:w.heap.size=r1 at s3 ⊢;generalize hr2:(w.alloc _).heap.size=r2 at s3 ⊢;generalize hr3:((w.alloc _).alloc _).heap.size=r3 at s3 ⊢;refine⟨λ n w4 m=>∃ k:Nat,n=k/\k<=6/\m=6-k/\St w w4 (Sep [ai r3 z6.vs.toArray 41,ai r2 v.vs.toArray 41,ai r1 (I6.mix k (u.zip (· + ·) v) u).vs.toArray 41,emp]),⟨6,0,rfl,by omega,by omega,s3⟩,?_⟩;rintro w4 m n ⟨k,rfl,hk,hm,s4⟩ -
  by_cases hlt:(k:Int)<6
  · have hk' : k<6:=by omega
    have s5:=s4.quiet (az.drew _ _);have h1:=hu k hk';have h2:=hv k hk';refine cT (dT hlt) ⟨by omega,by omega,u.at' k,?_,by omega,by omega,v.at' k,?_,by omega,by omega,?_⟩
    · rw[gM,aM s5 2 rfl hk',I6.bS _ _ _ _ hk',if_neg (by omega)]
    · rw[gM,aM s5 1 rfl hk']
    · rw[gM,aC ⟨by omega,by omega⟩];refine s5.aH 2 rfl hk' rfl λ w6 s6=>⟨6-(k+1),by omega,k+1,inc (by decide) hk',by omega,rfl,?_⟩;rw[show u.at' k+v.at' k=(u.zip (· + ·) v).at' k by rw[I6.jh _ _ _ _ hk'],I6.fM _ _ _ hk'] at s6;exact s6
  · obtain rfl:k=6:=by omega
    refine cF (by simp) ⟨_,s4.cellsIn 2 rfl,?_⟩;exact s4.aA 0 rfl (u.zip (· + ·) v).vs rfl (I6.one _) λ w8 s8=>⟨_,s8.cellsIn 0 rfl,rfl,s8.av⟩
theorem Qo(w:World)(u v:I6):CP 280 #[.agg u.vs.toArray,.agg v.vs.toArray] w (λ r w'=>r=.agg (u.zip (λ x y=>if y>x then y else x) v).vs.toArray/\az w w' []):=by
  refine xC ?_;unfold uR;refine aG (aG (aG ?_));have s3:=(((St.start w).one.bI u.vs.toArray 41).bI v.vs.toArray 41).bI z6.vs.toArray 41;generalize hw3:World.alloc _ _=w3 at s3 ⊢;generalize hr1:w.heap.size=r1 at s3 ⊢;generalize hr2:(w.alloc _).heap.size=r2 at s3 ⊢;generalize hr3:((w.alloc _).alloc _).heap.size=r3 at s3 ⊢;refine⟨λ n w4 m=>∃ k:Nat,n=k/\k<=6/\m=6-k/\St w w4 (Sep [ai r3 z6.vs.toArray 41,ai r2 v.vs.toArray 41,ai r1 (I6.mix k (u.zip (λ x y=>if y>x then y else x) v) u).vs.toArray 41,emp]),⟨6,0,rfl,by omega,by omega,s3⟩,?_⟩;rintro w4 m n ⟨k,rfl,hk,hm,s4⟩ -
  by_cases hlt:(k:Int)<6
  · have hk' : k<6:=by omega
    have s5:=s4.quiet (az.drew _ _);refine cT (dT hlt) ⟨by omega,by omega,u.at' k,?_,by omega,by omega,v.at' k,?_,by omega,by omega,?_⟩
    · rw[gM,aM s5 2 rfl hk',I6.bS _ _ _ _ hk',if_neg (by omega)]
    · rw[gM,aM s5 1 rfl hk']
    · rw[gM];refine s5.aH 2 rfl hk' rfl λ w6 s6=>⟨6-(k+1),by omega,k+1,inc (by decide) hk',by omega,rfl,?_⟩;rw[show(if v.at' k>u.at' k then v.at' k else u.at' k)=(u.zip (λ x y=>if y>x then y else x) v).at' k by rw[I6.jh _ _ _ _ hk'],I6.fM _ _ _ hk'] at s6;exact s6
  · obtain rfl:k=6:=by omega
    refine cF (by simp) ⟨_,s4.cellsIn 2 rfl,?_⟩;exact s4.aA 0 rfl (u.zip (λ x y=>if y>x then y else x) v).vs rfl (I6.one _) λ w8 s8=>⟨_,s8.cellsIn 0 rfl,rfl,s8.av⟩
theorem Qv(w:World)(u v:I6):CP 265 #[.agg u.vs.toArray,.agg v.vs.toArray] w (λ r w'=>r=.agg (u.zip (λ x y=>if y<x then y else x) v).vs.toArray/\az w w' []):=by
  refine xD ?_;unfold uS;refine aG (aG (aG ?_));have s3:=(((St.start w).one.bI u.vs.toArray 41).bI v.vs.toArray 41).bI z6.vs.toArray 41;generalize hw3:World.alloc _ _=w3 at s3 ⊢;generalize hr1:w.heap.size=r1 at s3 ⊢;generalize hr2:(w.alloc _).heap.size=r2 at s3 ⊢;generalize hr3:((w.alloc _).alloc _).heap.size=r3 at s3 ⊢;refine⟨λ n w4 m=>∃ k:Nat,n=k/\k<=6/\m=6-k/\St w w4 (Sep [ai r3 z6.vs.toArray 41,ai r2 v.vs.toArray 41,ai r1 (I6.mix k (u.zip (λ x y=>if y<x then y else x) v) u).vs.toArray 41,emp]),⟨6,0,rfl,by omega,by omega,s3⟩,?_⟩;rintro w4 m n ⟨k,rfl,hk,hm,s4⟩ -
  by_cases hlt:(k:Int)<6
  · have hk' : k<6:=by omega
    have s5:=s4.quiet (az.drew _ _);refine cT (dT hlt) ⟨by omega,by omega,u.at' k,?_,by omega,by omega,v.at' k,?_,by omega,by omega,?_⟩
    · rw[gM,aM s5 2 rfl hk',I6.bS _ _ _ _ hk',if_neg (by omega)]
    · rw[gM,aM s5 1 rfl hk']
    · rw[gM];refine s5.aH 2 rfl hk' rfl λ w6 s6=>⟨6-(k+1),by omega,k+1,inc (by decide) hk',by omega,rfl,?_⟩;rw[show(if v.at' k<u.at' k then v.at' k else u.at' k)=(u.zip (λ x y=>if y<x then y else x) v).at' k by rw[I6.jh _ _ _ _ hk'],I6.fM _ _ _ hk'] at s6;exact s6
  · obtain rfl:k=6:=by omega
    refine cF (by simp) ⟨_,s4.cellsIn 2 rfl,?_⟩;exact s4.aA 0 rfl (u.zip (λ x y=>if y<x then y else x) v).vs rfl (I6.one _) λ w8 s8=>⟨_,s8.cellsIn 0 rfl,rfl,s8.av⟩
def within(u v:I6):Bool:=decide (u.a<=v.a)&&(decide (u.b<=v.b)&&(decide (u.c<=v.c)&&(decide (u.d<=v.d)&&(decide (u.e<=v.e)&&decide (u.f<=v.f)))))
theorem within_iff{u v:I6}:within u v=true<->∀ k,k<6->u.at' k<=v.at' k:=by
  simp only[within,Bool.and_eq_true,decide_eq_true_eq];constructor
  · rintro⟨h0,h1,h2,h3,h4,h5⟩ k hk
    match k,hk with
    | 0,_=>exact h0
    | 1,_=>exact h1
    | 2,_=>exact h2
    | 3,_=>exact h3
    | 4,_=>exact h4
    | 5,_=>exact h5
  · exact λ h=>⟨h 0 (by decide),h 1 (by decide),h 2 (by decide),h 3 (by decide),h 4 (by decide),h 5 (by decide)⟩
theorem tG(w:World)(u v:I6):CP 223 #[.agg u.vs.toArray,.agg v.vs.toArray] w (λ r w'=>r=.bool (within u v)/\az w w' []):=by
  refine tQ ?_;unfold qd;refine aG (aG ?_);have s2:=(((St.start w).one.bI u.vs.toArray 41).bI v.vs.toArray 41).quiet (az.drew _ _);refine⟨_,s2.cellsIn 1 rfl,_,s2.cellsIn 0 rfl,_,s2.cellsIn 1 rfl,aj (Qv _ u v) ?_⟩;rintro r w3 ⟨rfl,c3⟩;refine⟨_,rfl,br c3 (s2.cellsIn 1 rfl),?_,(s2.quiet c3).av⟩;have m:∀ x y:Int,((if y<x then y else x)==x)=decide (x<=y):=λ x y=>by
    by_cases h:y<x
    · rw[if_pos h,dF (by omega)]; simp; omega
    · rw[if_neg h,dT (by omega)]; simp
  simp only[I6.beq,I6.zip,within,m,Bool.and_true]
theorem Ot(w:World)(u:I6)(hu:I6.Le u 1000000):CP 275 #[.agg u.vs.toArray] w (λ r w'=>r=iv (tot u)/\az w w' []):=by
  refine vG ?_;unfold rF;refine aG ?_;have s1:=(St.start w).one.bI u.vs.toArray 41;generalize hw1:World.alloc _ _=w1 at s1 ⊢;generalize hr1:w.heap.size=r1 at s1 ⊢;let z1:I6:=⟨1,1,1,1,1,1⟩;have e1:∀ k,k<6->z1.at' k=1:=λ k hk=>by
    match k,hk with
    | 0,_ | 1,_ | 2,_ | 3,_ | 4,_ | 5,_=>rfl
  refine⟨u,s1.cellsIn 0 rfl,λ p n w3 m=>∃ k:Nat,n=k/\k<=6/\m=6-k/\p=EW z1 u k/\0<=p/\p<=(k:Int)*1000000/\w3=w1,⟨6,0,rfl,by omega,by omega,rfl,by simp,by simp,rfl⟩,?_⟩;rintro w3 m p n ⟨k,rfl,hk,hm,hp,h0,h1,rfl⟩ -
  by_cases hlt:(k:Int)<6
  · have hk' : k<6:=by omega
    have h2:=hu k hk';refine cT (dT hlt) ⟨by omega,by omega,u.at' k,u.get k hk',6-(k+1),by omega,k+1,inc (by decide) hk',by omega,rfl,?_,?_,?_,rfl⟩
    · rw[aC ⟨by omega,by omega⟩,Ae,e1 k hk',hp]; omega
    · rw[aC ⟨by omega,by omega⟩]; omega
    · rw[aC ⟨by omega,by omega⟩]; omega
  · obtain rfl:k=6:=by omega
    refine cF (by simp) ⟨?_,s1.av⟩;rw[hp,Gv]; simp[cost,tot,z1]
theorem PT(w:World)(p u:I6)(B:Int)(hB:B<=1000000000000)(hp:∀ k,k<6->-B<=p.at' k/\p.at' k<=B)(hu:I6.Le u 4):CP 180 #[.agg p.vs.toArray,.agg u.vs.toArray] w (λ r w'=>r=iv (cost p u)/\az w w' []):=by
  refine xB ?_;unfold uQ;refine aG (aG ?_);have s2:=((St.start w).one.bI p.vs.toArray 103).bI u.vs.toArray 41;generalize hw2:World.alloc _ _=w2 at s2 ⊢;generalize hr1:w.heap.size=r1 at s2 ⊢;generalize hr2:(w.alloc _).heap.size=r2 at s2 ⊢;have b1:∀ k,k<6->-(4*B)<=p.at' k*u.at' k/\p.at' k*u.at' k<=4*B:=λ k hk=>by
    have h1:=hp k hk;have h2:=hu k hk;have h3:0<=B:=by omega
    obtain⟨j,hj⟩:∃ j:Nat,u.at' k=(j:Int):=⟨(u.at' k).toNat,by omega⟩;rw[hj] at h2 ⊢;have h4:j<=4:=by omega
    match j,h4 with
    | 0,_ | 1,_ | 2,_ | 3,_ | 4,_=>omega
  refine⟨u,s2.cellsIn 0 rfl,λ s n w3 m=>∃ k:Nat,n=k/\k<=6/\m=6-k/\s=EW p u k/\-((k:Int)*(4*B))<=s/\s<=(k:Int)*(4*B)/\w3=w2,⟨6,0,rfl,by omega,by omega,rfl,by simp,by simp,rfl⟩,?_⟩;rintro w3 m s n ⟨k,rfl,hk,hm,hs,h0,h1,rfl⟩ -
  by_cases hlt:(k:Int)<6
  · have hk' : k<6:=by omega
    have h2:=b1 k hk';have h3:((k+1:Nat):Int)*(4*B)=(k:Int)*(4*B)+4*B:=by rw[Int.natCast_add,Int.add_mul]; omega
    have h4:(k:Int)*(4*B)<=5*(4*B)/\0<=(k:Int)*(4*B):=by
      have h0:0<=B:=by have:=hp k hk'; omega
      exact⟨Int.mul_le_mul_of_nonneg_right (by omega) (by omega),Int.mul_nonneg (by omega) (by omega)⟩
    refine cT (dT hlt) ⟨by omega,by omega,u.at' k,u.get k hk',by omega,by omega,p.at' k,?_,6-(k+1),by omega,k+1,inc (by decide) hk',by omega,rfl,?_,?_,?_,rfl⟩
    · rw[gM,aM s2 1 rfl hk']
    · rw[aC (n:=p.at' k*u.at' k) ⟨by omega,by omega⟩,aC ⟨by omega,by omega⟩,Ae,hs]
    · rw[aC (n:=p.at' k*u.at' k) ⟨by omega,by omega⟩,aC ⟨by omega,by omega⟩]; omega
    · rw[aC (n:=p.at' k*u.at' k) ⟨by omega,by omega⟩,aC ⟨by omega,by omega⟩]; omega
  · obtain rfl:k=6:=by omega
    refine cF (by simp) ⟨?_,s2.av⟩;rw[hs,Gv]
def gX(m u:I6):Nat->Int
  | 0=>0
  | k+1=>gX m u k*(m.at' k+1)+u.at' k
def Jk(m:I6):Nat->Int
  | 0=>1
  | k+1=>Jk m k*(m.at' k+1)
abbrev rk (m u:I6):Int:=gX m u 6
theorem La(m:I6):∀ k,k<=6->pr (m.l.take k)=Jk m k
  | 0,_=>rfl
  | k+1,h=>by rw[aL (m.vY k (by omega)),B7,La m k (by omega)]; rfl
theorem FA(m:I6):pr m.l=Jk m 6:=La m 6 (by omega)
structure ED (m u:I6):Prop where
  mm:I6.Le m 4
  u:∀ k,k<6->0<=u.at' k/\u.at' k<=m.at' k
theorem ED.le{m u:I6}(h:ED m u):I6.Le u 4:=λ k hk=>by have:=h.mm k hk; have:=h.u k hk; omega
theorem uB{m u:I6}(h:ED m u):∀ k,k<=6->0<=gX m u k/\gX m u k+1<=Jk m k/\Jk m k<=5 ^ k
  | 0,_=>⟨by simp[gX],by simp[gX,Jk],by simp[Jk]⟩
  | k+1,hk=>by
    obtain⟨h1,h2,h3⟩:=uB h k (by omega);have hm:=h.mm k (by omega);have hu:=h.u k (by omega);simp only[gX,Jk];refine⟨?_,?_,?_⟩
    · have:=Int.mul_nonneg h1 (show(0:Int)<=m.at' k+1 by omega); omega
    · have h4:(gX m u k+1)*(m.at' k+1)<=Jk m k*(m.at' k+1):=Int.mul_le_mul_of_nonneg_right h2 (by omega);rw[Int.add_mul] at h4; omega
    · have h4:Jk m k*(m.at' k+1)<=5 ^ k*(m.at' k+1):=Int.mul_le_mul_of_nonneg_right h3 (by omega);have h5:(5:Int) ^ k*(m.at' k+1)<=5 ^ k*5:=Int.mul_le_mul_of_nonneg_left (by omega) (Int.pow_nonneg (by omega));rw[Int.pow_succ]; omega
theorem QM(w:World)(m u:I6):CP 283 #[.agg m.vs.toArray,.agg u.vs.toArray] w (λ r w'=>(∃ n e:Int,r=.tuple #[iv n,iv e]/\(e=0<->(pr m.l<=1024/\ED m u))/\(e=0->n=rk m u))/\az w w' []):=by
  refine xE ?_;unfold uT;refine aG (aG ?_);have s2:=((St.start w).one.bI m.vs.toArray 41).bI u.vs.toArray 41;generalize hw2:World.alloc _ _=w2 at s2 ⊢;generalize hr1:w.heap.size=r1 at s2 ⊢;generalize hr2:(w.alloc _).heap.size=r2 at s2 ⊢;refine⟨λ b w3=>az w2 w3 []/\(b=false<->(pr m.l<=1024/\ED m u)),?_,_,s2.cellsIn 1 rfl,aj (wF w2 m) ?_⟩
  · rintro w3 b ⟨hc,hb⟩ -
    cases b with
    | true=>exact cT rfl ⟨⟨0,4,rfl,⟨λ h=>(by cases h),λ h=>(by cases hb.2 h)⟩,λ h=>(by cases h)⟩,(s2.quiet hc).av⟩
    | false =>
      obtain⟨hp,hin⟩:=hb.1 rfl;have s3:=s2.quiet hc;refine cF rfl ⟨m,s3.cellsIn 1 rfl,λ p n w4 x=>∃ k:Nat,n=k/\k<=6/\x=6-k/\p=gX m u k/\w4=w3,⟨6,0,rfl,by omega,by omega,rfl,rfl⟩,?_⟩;rintro w4 x p n ⟨k,rfl,hk,hx,rfl,rfl⟩ -
      by_cases hlt:(k:Int)<6
      · have hk' : k<6:=by omega
        have b0:=uB hin k hk;have b1:=uB hin (k+1) hk';have hm:=hin.mm k hk';have hu:=hin.u k hk';have h5:(5:Int) ^ (k+1)<=15625:=by
          match k,hk' with
          | 0,_ | 1,_ | 2,_ | 3,_ | 4,_ | 5,_=>decide
        refine cT (dT hlt) ⟨by omega,by omega,m.at' k,m.get k hk',by omega,by omega,u.at' k,by rw[gM,aM s3 0 rfl hk'],6-(k+1),by omega,k+1,inc (by decide) hk',by omega,rfl,?_,rfl⟩;have e:gX m u (k+1)=gX m u k*(m.at' k+1)+u.at' k:=rfl;have h6:0<=gX m u k*(m.at' k+1):=Int.mul_nonneg b0.1 (by omega);rw[aC (n:=m.at' k+1) ⟨by omega,by omega⟩,aC (n:=gX m u k*(m.at' k+1)) ⟨by omega,by omega⟩,aC ⟨by omega,by omega⟩,e]
      · obtain rfl:k=6:=by omega
        exact cF (by simp) ⟨⟨_,0,rfl,⟨λ _=>⟨hp,hin⟩,λ _=>rfl⟩,λ _=>rfl⟩,s3.av⟩
  · rintro v w5 ⟨rfl,c5⟩;refine⟨_,rfl,?_⟩
    by_cases g1:m.l.all lR=true/\pr m.l<=1024
    · rw[if_pos g1];have hp1:=(oq g1.1).1;refine cF (by simp; omega) ⟨_,(s2.quiet c5).cellsIn 0 rfl,aj (cJ w5 u) ?_⟩;rintro v w6 ⟨rfl,c6⟩;refine⟨_,rfl,?_⟩;have c56:=c5.trans c6 (by simp)
      by_cases g2:u.l.all lR=true
      · rw[if_pos g2];have s6:=s2.quiet c56;refine cF rfl ⟨_,s6.cellsIn 0 rfl,_,s6.cellsIn 1 rfl,aj (tG w6 u m) ?_⟩;rintro v w7 ⟨rfl,c7⟩;refine⟨_,rfl,c56.trans c7 (by simp),?_⟩;have hq:=Jl g2
        cases g3:within u m with
        | true=>exact⟨λ _=>⟨g1.2,Jl g1.1,λ k hk=>⟨(hq k hk).1,within_iff.1 g3 k hk⟩⟩,λ _=>rfl⟩
        | false=>exact⟨λ h=>(by cases h),λ h=>(by rw[within_iff.2 λ k hk=>(h.2.u k hk).2] at g3; cases g3)⟩
      · rw[if_neg g2];exact cT rfl ⟨c56,λ h=>(by cases h),λ h=>absurd (leq h.2.le) g2⟩
    · rw[if_neg g1];exact cT rfl ⟨c5,λ h=>(by cases h),λ h=>absurd ⟨leq h.2.mm,h.1⟩ g1⟩
def mE(u m:I6):Nat->I6
  | 0=>z6
  | k+1=>if u.at' k<m.at' k then (I6.mix (k+1) u z6).put k (u.at' k+1) else mE u m k
abbrev jH (u m:I6):I6:=mE u m 6
theorem tJ(k:Nat):z6.at' k=0:=by
  match k with
  | 0 | 1 | 2 | 3 | 4 | 5=>rfl
  | n+6=>rfl
theorem Dk(w:World){u m:I6}(h:ED m u):CP 300 #[.agg u.vs.toArray,.agg m.vs.toArray] w (λ r w'=>r=.agg (jH u m).vs.toArray/\az w w' []):=by
  refine pI ?_;unfold kf;refine aG (aG (aG ?_));have s3:=(((St.start w).one.bI u.vs.toArray 41).bI m.vs.toArray 41).bI z6.vs.toArray 41;generalize hw3:World.alloc _ _=w3 at s3 ⊢;generalize hr1:w.heap.size=r1 at s3 ⊢;generalize hr2:(w.alloc _).heap.size=r2 at s3 ⊢;generalize hr3:((w.alloc _).alloc _).heap.size=r3 at s3 ⊢;refine⟨λ n w4 x=>∃ k:Nat,n=(k:Int)-1/\k<=6/\x=k/\jH u m=mE u m k/\St w w4 (Sep [ai r3 z6.vs.toArray 41,ai r2 m.vs.toArray 41,ai r1 (I6.mix k u z6).vs.toArray 41,emp]),⟨6,6,rfl,by omega,rfl,rfl,s3⟩,?_⟩;rintro w4 x n ⟨k,rfl,hk,hx,hn,s4⟩ -
  by_cases hlt:(0:Int)<=(k:Int)-1
  · obtain⟨j,rfl⟩:∃ j,k=j+1:=⟨k-1,by omega⟩;have hj:j<6:=by omega
    rw[show((j+1:Nat):Int)-1=(j:Int) by omega] at *;have s5:=s4.quiet (az.drew _ _);have hu:=h.u j hj;have hm:=h.mm j hj;have cu:w4.drew.cell? (Addr.add ⟨r1,0,none⟩ ((j:Int).toNat*1))=some (iv (u.at' j)):=by
      rw[gM,aM s5 2 rfl hj,I6.bS _ _ _ _ hj,if_pos (by omega)]
    refine cT (dT (show(j:Int)>=0 by omega)) ⟨by omega,by omega,u.at' j,cu,by omega,by omega,m.at' j,by rw[gM,aM s5 1 rfl hj],?_⟩
    by_cases g:u.at' j<m.at' j
    · refine cT (dT g) ⟨by omega,by omega,u.at' j,cu,by omega,by omega,?_⟩;rw[gM,aC ⟨by omega,by omega⟩];refine s5.aH 2 rfl hj rfl λ w6 s6=>?_;rw[I6.pg _ _ _ hj] at s6;have e:jH u m=(I6.mix (j+1) u z6).put j (u.at' j+1):=by rw[hn]; unfold mE; rw[if_pos g]
      rw[<- e] at s6;exact⟨_,s6.cellsIn 2 rfl,s6.aA 0 rfl (jH u m).vs rfl (I6.one _) λ w8 s8=>⟨_,s8.cellsIn 0 rfl,rfl,s8.av⟩⟩
    · refine cF (dF g) ⟨by omega,by omega,?_⟩;rw[gM];refine s5.aH 2 rfl hj rfl λ w6 s6=>⟨j,by omega,j,aC ⟨by omega,by omega⟩,by omega,rfl,?_,?_⟩
      · rw[hn]; conv=>lhs; unfold mE
        rw[if_neg g]
      · have e:(I6.mix (j+1) u z6).put j 0=I6.mix j u z6:=by
          refine I6.ext' λ i hi=>?_;rw[I6.uw _ _ _ _ hj hi,I6.bS _ _ _ _ hi,I6.bS _ _ _ _ hi,tJ]
          by_cases h1:i=j
          · rw[if_pos h1,if_neg (by omega)]
          · rw[if_neg h1]
            by_cases h2:i<j
            · rw[if_pos (by omega),if_pos h2]
            · rw[if_neg (by omega),if_neg h2]
        rw[I6.pg _ _ _ hj,e] at s6;exact s6
  · obtain rfl:k=0:=by omega
    have e:jH u m=z6:=hn;refine cF (dF hlt) ⟨_,s4.cellsIn 2 rfl,?_⟩;rw[I6.KQ] at *;exact s4.aA 0 rfl z6.vs rfl (I6.one _) λ w8 s8=>⟨_,s8.cellsIn 0 rfl,by rw[e],s8.av⟩
theorem Ln(m:I6):∀ k,gX m z6 k=0
  | 0=>rfl
  | k+1=>by simp[gX,Ln m k,tJ]
theorem GX{u m:I6}(h:ED m u):ED m (jH u m):=by
  suffices H:∀ k,k<=6->∀ j,j<6->0<=(mE u m k).at' j/\(mE u m k).at' j<=m.at' j from⟨h.mm,H 6 (by omega)⟩
  intro k
  induction k with
  | zero=>intro _ j hj; have:=h.mm j hj; simp only[mE,tJ]; omega
  | succ k ih =>
    intro hk j hj;unfold mE;have hu:=h.u j hj
    split
    · rename_i g;rw[I6.uw _ _ _ _ (by omega) hj]
      split
      · rename_i e; subst e; have:=h.u j hj; omega
      · rw[I6.bS _ _ _ _ hj,tJ]
        split<;>omega
    · exact ih (by omega) j hj
theorem B1{u m:I6}(h:ED m u):(jH u m=z6/\∀ k,k<6->u.at' k=m.at' k)\/(rk m (jH u m)=rk m u+1):=by
  suffices H:∀ k,k<=6->(∀ j,k<=j->j<6->u.at' j=m.at' j)->(mE u m k=z6/\∀ j,j<6->u.at' j=m.at' j)\/(rk m (mE u m k)=rk m u+1) from H 6 (by omega) λ j h1 h2=>by omega
  intro k
  induction k with
  | zero=>exact λ _ ha=>.inl ⟨rfl,λ j hj=>ha j (by omega) hj⟩
  | succ k ih =>
    intro hk ha;unfold mE
    by_cases g:u.at' k<m.at' k
    · rw[if_pos g];refine .inr ?_;have at1:∀ j,j<6->((I6.mix (k+1) u z6).put k (u.at' k+1)).at' j=if j=k then u.at' k+1 else if j<k then u.at' j else 0:=λ j hj=>by
        rw[I6.uw _ _ _ _ (by omega) hj]
        split
        · rfl
        · rw[I6.bS _ _ _ _ hj,tJ]
          by_cases h2:j<k
          · rw[if_pos (by omega),if_pos h2]
          · rw[if_neg (by omega),if_neg h2]
      have low:∀ i,i<=k->gX m ((I6.mix (k+1) u z6).put k (u.at' k+1)) i=gX m u i:=by
        intro i
        induction i with
        | zero=>intro _; rfl
        | succ i ih2 =>
          intro hi;simp only[gX];rw[ih2 (by omega),at1 i (by omega),if_neg (by omega),if_pos (by omega)]
      have high:∀ d,k+1+d<=6->gX m ((I6.mix (k+1) u z6).put k (u.at' k+1)) (k+1+d)=gX m u (k+1+d)+1:=by
        intro d
        induction d with
        | zero =>
          intro _;show gX m _ (k+1)=gX m u (k+1)+1;simp only[gX];rw[low k (by omega),at1 k (by omega),if_pos rfl];omega
        | succ d ih2 =>
          intro hd;show gX m _ (k+1+d+1)=gX m u (k+1+d+1)+1;simp only[gX];rw[ih2 (by omega),at1 _ (by omega),if_neg (by omega),if_neg (by omega),ha (k+1+d) (by omega) (by omega),Int.add_mul];omega
      have:=high (6-(k+1)) (by omega);rw[show k+1+(6-(k+1))=6 by omega] at this;exact this
    · rw[if_neg g];refine ih (by omega) λ j h1 h2=>?_;rcases Nat.lt_or_ge k j with h3 | h3
      · exact ha j (by omega) h2
      · obtain rfl:j=k:=by omega
        have:=h.u j h2;omega
def cv(m:I6):Nat->I6
  | 0=>z6
  | i+1=>jH (cv m i) m
def aY(m:I6):Nat:=(pr m.l).toNat
theorem B6(m:I6)(h:I6.Le m 4):∀ k,k<=6->gX m m k+1=Jk m k
  | 0,_=>rfl
  | k+1,hk=>by
    simp only[gX,Jk];rw[<- B6 m h k (by omega),Int.add_mul];omega
theorem SH{m:I6}(h:I6.Le m 4):ED m z6:=⟨h,λ k hk=>by have:=h k hk; rw[tJ]; omega⟩
theorem js{m:I6}(h:I6.Le m 4):∀ i,ED m (cv m i)
  | 0=>SH h
  | i+1=>GX (js h i)
theorem lF{m:I6}(h:I6.Le m 4):0<aY m/\(aY m:Int)=pr m.l/\aY m<=15625:=by
  have h1:=oq (leq h);have h2:m.l.length=6:=rfl;rw[h2] at h1;have h3:(5:Int) ^ 6=15625:=by decide
  unfold aY;omega
theorem Bp{m:I6}(h:I6.Le m 4):∀ i,i<aY m->rk m (cv m i)=i
  | 0,_=>Ln m 6
  | i+1,hi=>by
    have h1:=Bp h i (by omega);rcases B1 (js h i) with⟨_,h2⟩ | h2
    · exfalso
      have h3:cv m i=m:=I6.ext' h2;rw[h3] at h1;have h4:=B6 m h 6 (by omega);have h5:=(lF h).2.1;rw[FA] at h5;have h6:gX m m 6=(i:Int):=h1;omega
    · show rk m (jH (cv m i) m)=_;rw[h2,h1]; omega
theorem CW{m:I6}(h:I6.Le m 4){i:Nat}(hi:i<aY m):jH (cv m i) m=z6<->i+1=aY m:=by
  have h1:=Bp h i hi;have h5:=(lF h).2.1;have h4:=B6 m h 6 (by omega);rw[FA] at h5;constructor
  · intro e;rcases B1 (js h i) with⟨_,h2⟩ | h2
    · have h3:cv m i=m:=I6.ext' h2;rw[h3] at h1;have h6:gX m m 6=(i:Int):=h1;omega
    · rw[e] at h2;have h6:gX m z6 6=rk m (cv m i)+1:=h2;rw[Ln,h1] at h6;omega
  · intro e;rcases B1 (js h i) with⟨h2,_⟩ | h2
    · exact h2
    · exfalso
      have h7:=uB (GX (js h i)) 6 (by omega);have h6:gX m (jH (cv m i) m) 6=rk m (cv m i)+1:=h2;rw[h1] at h6;omega
theorem Gx{w0 w:World}{b l:Nat}{m:I6}(hm:I6.Le m 4){R:Nat->aD}{B:aD}(hY:∀ (i:Nat) (w1:World) (Fr:aD),i<aY m->St w0 w1 (star (R i) Fr)->cq prog l #[.agg (cv m i).vs.toArray] w1 λ g w2=>g=true/\St w0 w2 (star (R (i+1)) Fr))(h:St w0 w (star (R 0) (star (ai b m.vs.toArray 41) B))) :
    CP 299 #[.func (.yield l) #[] #[],.pointer (some ⟨b,0,none⟩)] w (λ r w'=>r=.tuple #[]/\St w0 w' (star (R (aY m)) (star (ai b m.vs.toArray 41) B))):=by
  refine tR ?_;unfold qe;refine aG ?_;obtain⟨hc0,_,_⟩:=lF hm;have s1:St w0 (w.alloc (.cells z6.vs.toArray 41)) (Sep [ai w.heap.size z6.vs.toArray 41,R 0,ai b m.vs.toArray 41,B]):=h.pF.bI _ _;generalize World.alloc _ _=w1 at s1 ⊢;generalize w.heap.size=r1 at s1 ⊢;refine s1.aA 0 rfl z6.vs rfl (I6.one _) λ w2 s2=>?_;refine⟨λ w3 x=>∃ i,i<aY m/\x=aY m-i/\St w0 w3 (Sep [ai r1 (cv m i).vs.toArray 41,R i,ai b m.vs.toArray 41,B]),⟨aY m,0,hc0,by omega,s2⟩,?_⟩;rintro w3 x ⟨i,hi,rfl,s3⟩ -;refine⟨_,s3.cellsIn 0 rfl,?_⟩;have s3' : St w0 w3 (star (R i) (Sep [ai r1 (cv m i).vs.toArray 41,ai b m.vs.toArray 41,B])):=s3.out 1 rfl;have hy:=hY i w3 _ hi s3';obtain⟨fn,tmps,asg,bdy,hrun,hR⟩:=hy;refine⟨fn,tmps,asg,bdy,hrun,hR.mono λ e w4 ⟨g,he,hg,s4⟩=>⟨g,he,g,rfl,?_⟩⟩;subst hg;have s5:St w0 w4 (Sep [R (i+1),ai r1 (cv m i).vs.toArray 41,ai b m.vs.toArray 41,B]):=s4;refine cT rfl ⟨_,s5.cellsIn 1 rfl,_,s5.cellsIn 2 rfl,aj (Dk w4 (js hm i)) ?_⟩;rintro v w5 ⟨rfl,c5⟩;refine⟨_,rfl,(s5.quiet c5).aA 1 rfl _ rfl (I6.one _) λ w6 s6=>⟨_,s6.cellsIn 1 rfl,?_⟩⟩;have s6' : St w0 w6 (Sep [R (i+1),ai r1 (jH (cv m i) m).vs.toArray 41,ai b m.vs.toArray 41,B]):=s6
  by_cases hz:jH (cv m i) m=z6
  · have e:=(CW hm hi).1 hz;rw[<- e];exact cT (by rw[hz]; rfl) ⟨rfl,(s6'.aq [0,2,3]).triple⟩
  · refine cF (by rw[I6.beq_eq]; exact dF hz) ⟨aY m-(i+1),by omega,i+1,?_,rfl,s6'.aq [1,0,2,3]⟩;have:i+1≠aY m:=λ e=>hz ((CW hm hi).2 e);omega
theorem OE{w0 w:World}{A:aD}(s:St w0 w A)(m:I6)(hm:I6.Le m 4)(hp:pr m.l<=1024):CP 250 #[.agg m.vs.toArray] w (λ r w'=>∃ b,r=.func (.func 299) #[] #[.pointer (some ⟨b,0,none⟩)]/\St w0 w' (star (ai b m.vs.toArray 41) A)):=by
  refine zw ?_;unfold xA;refine aG ?_;have s1:=s.one.bI m.vs.toArray 41;generalize World.alloc _ _=w1 at s1 ⊢;generalize w.heap.size=r1 at s1 ⊢;refine⟨_,s1.cellsIn 0 rfl,aj (wF w1 m) ?_⟩;rintro v w2 ⟨rfl,c2⟩;refine⟨_,rfl,?_⟩;have h1:=(oq (leq hm)).1;rw[if_pos ⟨leq hm,hp⟩];have s2:=s1.quiet c2;refine cF (by simp; omega) ⟨_,s2.cellsIn 0 rfl,?_⟩;refine aj (K:=λ r w'=>∃ b,r=.func (.func 299) #[] #[.pointer (some ⟨b,0,none⟩)]/\St w0 w' (star (ai b m.vs.toArray 41) A)) (xF ?_) ?_
  · unfold uU;exact aG ⟨_,rfl,((s2.aq [1]).bI m.vs.toArray 41).pair⟩
  · exact λ v w' h=>⟨v,rfl,h⟩
end Go.Proofs.YtpihmghnbplohaaGreatDoor

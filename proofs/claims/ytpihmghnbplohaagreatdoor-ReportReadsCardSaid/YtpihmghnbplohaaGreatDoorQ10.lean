import Derived.Test.YtpihmghnbplohaaGreatDoorQ09
set_option linter.unusedVariables false
set_option maxRecDepth 100000
namespace Go.Proofs.YtpihmghnbplohaaGreatDoor
open Go Go.Vc Tryz
theorem KY(w:World)(a:OA)(n c:Nat):CP 284 #[.slice a n c,.agg #[.slice none 0 0,.slice none 0 0]] w (λ r w'=>r=.bool true/\aD w w' []):=by
 refine tr ?_;unfold og;refine(St.start w).one.aB #[.slice none 0 0,.slice none 0 0] λ r1 w1 s1=>⟨λ b w2=>b=false/\w2=w1,?_,_,_,_,s1.ag 0 rfl 0,cF rfl ⟨_,_,_,s1.ag 0 rfl 0,rfl,rfl⟩⟩;rintro w2 _ ⟨rfl,rfl⟩ -;refine cF rfl ⟨_,_,_,s1.ag 0 rfl 0,λ i w3 m=>i=0/\w3=w2,⟨0,rfl,rfl⟩,?_⟩;rintro w3 m i ⟨rfl,rfl⟩ -;refine cF rfl ⟨_,_,_,s1.ag 0 rfl 1,λ i w4 m=>i=0/\w4=w3,⟨0,rfl,rfl⟩,?_⟩;rintro w4 m i ⟨rfl,rfl⟩ -;exact cF rfl ⟨rfl,s1.aC⟩
theorem Mc{w:World}{a:OA}{c:Nat}{x:Ch}(hr:G7 w a [x])(ho:x.Ok):CP 254 #[.slice a 1 c,.agg #[.slice none 0 0,.slice none 0 0]] w (λ r w'=>r=iv 13/\aD w w' []):=by
 refine tq ?_;unfold oe;refine(St.start w).one.aB #[.slice none 0 0,.slice none 0 0] λ r1 w1 s1=>aq (y9 (l:=[x]) (k:=c) (hr.aC s1.aC) (by simp)) ?_;rintro v w2 ⟨rfl,c2⟩;have s2:=s1.quiet c2;have hv:[x].all vM=true:=EX.2 λ c hc=>by rw[List.mem_singleton.1 hc]; exact ho
 refine⟨_,rfl,cF (by rw[hv]; rfl) ⟨_,_,_,_,_,_,s2.cellsIn 0 rfl,aq (KY w2 a 1 c) ?_⟩⟩;rintro v w3 ⟨rfl,c3⟩;have s3:=s2.quiet c3;refine⟨_,rfl,cF rfl ⟨_,_,_,s3.ag 0 rfl 0,cT rfl ⟨_,_,_,s3.ag 0 rfl 1,aq (K:=λ r w'=>r=.bool false/\w' = w3) (qc ?_) ?_⟩⟩⟩
 ·unfold kK;exact cT rfl ⟨rfl,rfl⟩
 ·rintro v w4 ⟨rfl,rfl⟩;exact⟨_,rfl,cT rfl ⟨rfl,s3.aC⟩⟩
theorem SF{w:World}{a:OA}{c:Nat}{l:List Ch}(hr:G7 w a l)(hl:l.length<=1000)(ho:∀ c∈l,c.Ok):CP 202 #[.slice a l.length c] w (λ r w'=>r=.bool true/\aD w w' []):=by
 refine yq ?_;unfold uQ;refine⟨λ i w2 m=>∃ k:Nat,i=k/\k<=l.length/\m=l.length-k/\aD w w2 [],⟨l.length,0,rfl,by omega,by omega,aD.refl _ _⟩,?_⟩;rintro w2 m i ⟨k,rfl,hk,hm,c2⟩ -
 by_cases hlt:(k:Int)<(l.length:Int)
 ·have hx:l[k]?=some (l[k]'(by omega)):=gE (by omega);generalize l[k]'(by omega)=y at hx;obtain⟨p,hp,hcl⟩:=(hr.aC c2).at hx;refine cT (dT hlt) (ay hp ⟨by omega,by omega,y.p,y.want,hcl,(St.start' c2).one.aB CY.cells.toArray λ r1 w3 s3=>s3.aE 0 rfl y.cells rfl y.one λ w4 s4=>⟨y.p,y.want,s4.cellsIn 0 rfl,s4.aB y.cells.toArray λ r2 w5 s5=>?_⟩⟩);have h1:G7 w5 (some ⟨r2,0,none⟩) [y]:=λ i z hz=>by
   obtain⟨rfl,rfl⟩:i=0/\z=y:=by
    cases i with
    | zero=>simp at hz; exact⟨rfl,hz.symm⟩
    | succ i=>simp at hz
   exact⟨_,_,rfl,by rw[Nat.zero_mul,gY]; exact s5.cellsIn 0 rfl,rfl,rfl⟩
  refine aq (Mc (c:=1) h1 (ho y (List.mem_of_getElem? hx))) ?_;rintro v w6 ⟨rfl,c6⟩;exact⟨_,rfl,cF rfl ⟨l.length-(k+1),by omega,k+1,aH ⟨by omega,by omega⟩,by omega,rfl,(s5.quiet c6).aC⟩⟩
 ·exact cF (dF hlt) ⟨rfl,c2⟩
def JS(l:List Ch)(bids:List Of)(x:Of):Bool:=decide (x.v>TO (Nj l bids) l x.want)
def LK(l:List Ch)(bids:List Of):Int:=if bids.all D5 then (if bids.any (JS l bids) then 16 else 0) else 4
theorem Ix{w:World}{a1 a2:OA}{c1 c2:Nat}{l:List Ch}{bids:List Of}(hr:G7 w a1 l)(hl:l.length<=1000)(ho:∀ c∈l,c.Ok)(hb:ZH w a2 bids)(hbl:bids.length<=100000) :
  CP 155 #[.slice a1 l.length c1,.slice a2 bids.length c2] w (λ r w'=>(∃ i:Int,r=.tuple #[iv i,iv (LK l bids)])/\aD w w' []):=by
 refine yp ?_;unfold uP;refine aq (SF hr hl ho) ?_;rintro v w1 ⟨rfl,d1⟩;refine⟨_,rfl,cF rfl ⟨λ i w2 m=>∃ k:Nat,i=k/\k<=bids.length/\m=bids.length-k/\(bids.take k).all D5=true/\aD w w2 [],⟨bids.length,0,rfl,by omega,by omega,rfl,d1⟩,?_⟩⟩;rintro w2 m i ⟨k,rfl,hk,hm,ha,d2⟩ -
 by_cases hlt:(k:Int)<(bids.length:Int)
 ·have hx:bids[k]?=some (bids[k]'(by omega)):=gE (by omega);generalize bids[k]'(by omega)=y at hx;obtain⟨p,hp,hcl⟩:=(hb.aC d2).at hx;refine cT (dT hlt) (ay hp ⟨by omega,by omega,_,y.want,_,hcl,(St.start' d2).one.aB Yc.cells.toArray λ r1 w3 s3=>s3.aE 0 rfl y.cells rfl y.one λ w4 s4=>⟨_,y.want,_,s4.cellsIn 0 rfl,aq (Lv w4 y) ?_⟩⟩);rintro v w5 ⟨rfl,c5⟩;refine⟨_,rfl,?_⟩
  cases hy:D5 y with
  | false =>
   have:bids.all D5=false:=List.all_eq_false.2 ⟨y,List.mem_of_getElem? hx,by simp[hy]⟩;exact cT rfl ⟨⟨k,by rw[LK,this]; rfl⟩,(s4.quiet c5).aC⟩
  | true =>
   refine cF rfl ⟨bids.length-(k+1),by omega,k+1,aH ⟨by omega,by omega⟩,by omega,rfl,?_,(s4.quiet c5).aC⟩;rw[aO hx,List.all_append,ha]; simp[hy]
 ·obtain rfl:bids.length=k:=by omega
  rw[List.take_length] at ha;have e0:LK l bids=if bids.any (JS l bids) then 16 else 0:=by rw[LK,if_pos ha]
  have hok:∀ x∈bids,I6.Le x.want 4/\x.v<=1000000:=λ x hx=>by
   have:=List.all_eq_true.1 ha x hx;unfold D5 at this;simp only[Bool.and_eq_true,decide_eq_true_eq] at this;exact⟨Mk this.1,this.2.2.2⟩
  refine cF (dF hlt) (aq (K:=λ r w'=>∃ r1 r2,r=.func (.func 255) #[] #[pt r1,pt r2]/\St w w' (Sep [ah r2 #[.slice a2 bids.length c2] 249,ah r1 #[.slice a1 l.length c1] 239,emp])) (wA ?_) ?_)
  ·unfold su;exact(St.start' d2).one.aB _ λ r1 w3 s3=>s3.aB _ λ r2 w4 s4=>⟨r1,r2,rfl,s4⟩
  rintro v w6 ⟨r1,r2,rfl,s6⟩;refine⟨_,rfl,λ i w7 m=>∃ k:Nat,i=k/\k<=bids.length/\m=bids.length-k/\(bids.take k).any (JS l bids)=false/\St w w7 (Sep [ah r2 #[.slice a2 bids.length c2] 249,ah r1 #[.slice a1 l.length c1] 239,emp]),⟨bids.length,0,rfl,by omega,by omega,rfl,s6⟩,?_⟩;clear hlt hm hk d2;rintro w7 m i ⟨k,rfl,hk,hm,hany,s7⟩ -
  by_cases hlt:(k:Int)<(bids.length:Int)
  ·have hx:bids[k]?=some (bids[k]'(by omega)):=gE (by omega);generalize bids[k]'(by omega)=y at hx;obtain⟨p,hp,hcl⟩:=(hb.aC s7.aC).at hx;refine cT (dT hlt) (ay hp ⟨by omega,by omega,_,y.want,_,hcl,s7.aB Yc.cells.toArray λ r3 w8 s8=>s8.aE 0 rfl y.cells rfl y.one λ w9 s9=>?_⟩);have s10:=s9.quiet (aD.drew w9 []);refine⟨_,s10.ag 0 rfl 7,y.want,s10.aQ 0 1 rfl rfl,aq (Vx (F:=Nj l bids) (hr.aC s10.aC) hl ho (λ q hq=>QJ ho (λ x hx=>(hok x hx).2) hq) ?_ (hok y (List.mem_of_getElem? hx)).1) ?_⟩
   ·intro w' q R hc _ kk;refine bO (by kernel_rfl) (aq (QK (hr.aC (s10.quiet hc).aC) hl ho (hb.aC (s10.quiet hc).aC) hbl ((s10.quiet hc).ag 2 rfl 0) ((s10.quiet hc).ag 1 rfl 0) q) ?_);rintro r w'' ⟨rfl,h⟩; exact kk w'' h
   ·rintro v w10 ⟨rfl,c10⟩;have s11:=s10.quiet c10;refine⟨_,rfl,s11.ag 0 rfl 7,?_⟩
    cases ho:JS l bids y with
    | true=>exact cT ho ⟨⟨k,by rw[e0,kq hx ho]; rfl⟩,s11.aC⟩
    | false=>exact cF ho ⟨bids.length-(k+1),by omega,k+1,aH ⟨by omega,by omega⟩,by omega,rfl,iw hany hx ho,s11.aA [1,2,3]⟩
  ·obtain rfl:bids.length=k:=by omega
   rw[List.take_length] at hany;exact cF (dF hlt) ⟨⟨0,by rw[e0,hany]; rfl⟩,s7.aC⟩
theorem RV(x:Xv)(m:I6):uH x.er m=uH x m:=by unfold uH; rw[zA,TS]
theorem RW(x:Xv)(m:I6):uI x.er m=uI x m:=by unfold uI; rw[TS]
theorem Cr{l:List Pr}{t:List UInt8}(h:(bM l t).2=0):fA (bM l t).1=0:=by
 unfold bM at h ⊢
 split at h
 ·rename_i g; exact absurd h g
 ·rename_i g; rw[if_neg g]
  split at h
  ·rename_i g2; exact absurd h g2
  ·rename_i g2; rw[if_neg g2]
   split at h
   ·rename_i g3; exact absurd h g3
   ·rename_i g3; rw[if_neg g3]; simpa using g3
theorem ML{x:Xv}(h:fA x=0):aY x<=40:=by
 unfold fA at h
 split at h
 ·cases h
 ·split at h
  ·cases h
  ·rename_i g; omega
def Hg(S:Se)(n:Nat)(y:Br):List Of->Int
 | []=>0
 | o :: l=>if j8 S n y o.want≠0 then j8 S n y o.want else if y.bud≠0/\y.bud<o.v then 17 else Hg S n y l
theorem Ai{S:Se}{n:Nat}{y:Br}:∀ (l:List Of) (k:Nat),(∀ o∈l.take k,j8 S n y o.want=0/\¬ (y.bud≠0/\y.bud<o.v))->Hg S n y l=Hg S n y (l.drop k)
 | l,0,_=>rfl
 | [],k+1,_=>rfl
 | o :: l,k+1,h=>by
  obtain⟨h1,h2⟩:=h o (by simp);rw[Hg,if_neg (by simpa using h1),if_neg h2,Ai l k λ o ho=>h o (by simp[ho])]; rfl
theorem Vu{S:Se}{n:Nat}{y:Br}{l:List Of}{k:Nat}{o:Of}(h:∀ o∈l.take k,j8 S n y o.want=0/\¬ (y.bud≠0/\y.bud<o.v))(hx:l[k]?=some o) :
  Hg S n y l=if j8 S n y o.want≠0 then j8 S n y o.want else if y.bud≠0/\y.bud<o.v then 17 else Hg S n y (l.drop (k+1)):=by
 obtain⟨hl,rfl⟩:=List.getElem?_eq_some_iff.1 hx;rw[Ai l k h,List.drop_eq_getElem_cons hl,Hg]
def fP(S:Se)(C:Ck)(n:Nat)(y:Br)(t:List UInt8):Int :=
 if (bM S.ps t).2≠0 then (bM S.ps t).2 else if uH (bM S.ps t).1 (cR S.ps)≠0 then uH (bM S.ps t).1 (cR S.ps)
 else if Hg S n y (uI (bM S.ps t).1 (cR S.ps))≠0 then Hg S n y (uI (bM S.ps t).1 (cR S.ps)) else LK (Bg C n) (uI (bM S.ps t).1 (cR S.ps))
theorem Wo{l:List Pr}(h:dZ l):pr (cR l).l<=1024:=by
 rw[IK,EF h.l2]; exact h.lim
theorem LY{w:World}{b g n:Nat}{S:Sx}{C:Ck}{y:Br}(hb:af w ⟨b,0,none⟩ 0 S.cells)(hI:S.s.In w)(hk:S.k=some ⟨g,0,none⟩)(hK:C.Rd g w)(hC:C.Ok)(hs:S.s.Ok)(hn:n<C.s.bd.length)(hy:S.s.bd[n]?=some y)(t:List UInt8) :
  CP 126 #[.pointer (some ⟨b,0,none⟩),iv n,sv t] w (λ r w'=>∃ x:Xv,(fP S.s C n y t=0->x.er=(bM S.s.ps t).1)/\r=.tuple #[.agg x.cells.toArray,iv (fP S.s C n y t)]/\St w w' (held x.In)):=by
 refine oS ?_;unfold j5;have hn':=(List.getElem?_eq_some_iff.1 hy).1;have z2:=hs.bd.l2;have hm:=sup_le hs.ps;have hp:=Wo hs.ps;have cb:∀ {w'},aD w w' []->∀ (j:Nat) (v:Value),S.cells[j]?=some v->w'.cell? ⟨b,j,none⟩=some v:=λ hc j v hv=>by
  have:=bf (bP hc hb) j v hv
  rwa [Nat.zero_add,gY] at this
 refine(St.start w).one.aB fj.cells.toArray λ r1 w1 s1=>⟨_,_,_,cb s1.aC 5 _ rfl,aq (R6 (hI.aC s1.aC).ps hI.h1 hs.ps t) ?_⟩;rintro v w2 ⟨x,ex,rfl,k2⟩;have s2:St w w2 (Sep [held x.In,ah r1 fj.cells.toArray 109,emp]):=s1.and k2;refine⟨_,x.u,_,_,_,_,_,rfl,s2.aB fj.cells.toArray λ r2 w3 s3=>s3.aE 0 rfl x.cells rfl x.one λ w4 s4=>?_⟩;have s4:St w w4 (Sep [ah r2 x.cells.toArray 109,held x.In,ah r1 fj.cells.toArray 109,emp]):=s4;have bad:∀ {k:Int} {w' : World} {m:List aJ} {i:Nat},St w w' (Sep m)->m[i]?=some (ah r1 fj.cells.toArray 109)->k≠0->fP S.s C n y t=k ->
   aU ⟨r1,0,none⟩ 0 fj.cells w' λ w3=>∃ (n2:Int) (u1:I6) (n3:Int) (a2:OA) (l2 c2:Nat),af w3 ⟨r1,0,none⟩ 0 (iv n2 :: u1.on [iv n3,.slice a2 l2 c2]) /\
    ∃ x:Xv,(fP S.s C n y t=0->x.er=(bM S.s.ps t).1)/\Value.tuple #[.agg (iv n2 :: u1.on [iv n3,.slice a2 l2 c2]:List Value).toArray,iv k]=.tuple #[.agg x.cells.toArray,iv (fP S.s C n y t)]/\St w w3 (held x.In):=λ {k w' m i} s e hk0 hp =>
  s.aE i e fj.cells rfl (Xv.one _) λ w3 s3=>⟨_,z6,_,_,_,_,s3.cellsIn (cs:=fj.cells.toArray) (T:=109) i (List.getElem?_set_self (fE e)),fj,λ h=>absurd (hp.symm.trans h) hk0,by rw[hp]; rfl,((St.start' s3.aC).one.sg G5).first⟩
 by_cases h1:(bM S.s.ps t).2=0
 ·have hx0:fA x=0:=by rw[<- zA,ex]; exact Cr h1
  have hz:=ML hx0;have e1:fP S.s C n y t=if uH x (cR S.s.ps)≠0 then uH x (cR S.s.ps) else if Hg S.s n y (uI x (cR S.s.ps))≠0 then Hg S.s n y (uI x (cR S.s.ps)) else LK (Bg C n) (uI x (cR S.s.ps)):=by
   rw[fP,if_neg (by simpa using h1),<- ex,RV,RW]
  have s5:=s4.quiet (aD.drew w4 []);refine cF (by simpa using h1) ⟨_,x.u,_,_,_,_,s5.cellsIn 0 rfl,_,_,_,cb s5.aC 5 _ rfl,aq (qx (hI.aC s5.aC).ps (by have:=hs.ps.l2; omega)) ?_⟩;rintro v w6 ⟨rfl,c6⟩;have s6:=s5.quiet c6;refine⟨_,rfl,s6.cellsIn 0 rfl,aq (KX hm hp (by omega) (s6.bB 1 rfl)) ?_⟩;rintro v w7 (⟨ho,rfl,c7⟩|⟨ho,hlen,a,c,rfl,k7⟩)
  ·exact⟨_,_,_,_,rfl,cT (by simpa using ho) (bad (s6.quiet c7) (i:=2) rfl ho (by rw[e1,if_pos ho]))⟩
  rw[if_neg (by simpa using ho)] at e1;have s7:St w w7 (Sep [GB a c (uI x (cR S.s.ps)),ah r2 x.cells.toArray 109,held x.In,ah r1 fj.cells.toArray 109,emp]):=s6.and k7.single;generalize hl:uI x (cR S.s.ps)=l at *;obtain⟨_,q,hq,hcy⟩:=(hI.aC s7.aC).bd n y hy;have cbud:w7.cell? (Addr.add (Addr.add q (((n:Nat):Int).toNat*4)) 2)=some (iv y.bud):=by
   have:=bf hcy 2 _ rfl
   rwa [Nat.zero_add] at this
  refine⟨_,_,_,_,rfl,cF rfl ⟨_,_,_,cb s7.aC 6 _ rfl,ay hq ⟨by omega,by omega,_,cbud,?_⟩⟩⟩;refine⟨λ i w8 m=>∃ k:Nat,i=k/\k<=l.length/\m=l.length-k/\(∀ o∈l.take k,j8 S.s n y o.want=0/\¬ (y.bud≠0/\y.bud<o.v))/\St w w8 (Sep [GB a c l,ah r2 x.cells.toArray 109,held x.In,ah r1 fj.cells.toArray 109,emp]),⟨l.length,0,rfl,by omega,by omega,by simp,s7⟩,?_⟩;rintro w8 m i ⟨k,rfl,hk8,hm8,hall,s8⟩ -
  by_cases hlt:(k:Int)<(l.length:Int)
  ·have hxk:l[k]?=some (l[k]'(by omega)):=gE (by omega);generalize l[k]'(by omega)=o at hxk;obtain⟨q2,hq2,hc2⟩:=(St.rd Of.len s8).at hxk;have eo:=Vu hall hxk;refine cT (dT hlt) (ay hq2 ⟨by omega,by omega,_,o.want,_,hc2,s8.aB Yc.cells.toArray λ r3 w9 s9=>s9.aE 0 rfl o.cells rfl o.one λ w10 s10=>?_⟩);have s11:=s10.quiet (aD.drew w10 []);have hset:af w10.drew ⟨b,5,none⟩ 0 S.s.arr.toList:=bH _ 0 λ j v hj=>by
    rw[aZ,Nat.zero_add];refine cb s11.aC (5+j) v ?_;have hj4:j<4:=(List.getElem?_eq_some_iff.1 hj).1
    match j,hj4 with
    | 0,_|1,_|2,_|3,_=>exact hj
   refine⟨_,_,_,_,_,_,_,_,_,_,_,_,hset,o.want,s11.aQ 0 1 rfl rfl,aq (BD (hI.aC s11.aC) hs hy o.want) ?_⟩;rintro v w12 ⟨rfl,c12⟩;have s12:=s11.quiet c12;refine⟨_,rfl,?_⟩
   by_cases ha:j8 S.s n y o.want=0
   ·rw[if_neg (by simpa using ha)] at eo;refine cF (by simpa using ha) ⟨λ bb w13=>bb=decide (y.bud≠0/\y.bud<o.v)/\St w w13 (Sep [GB a c l,ah r2 x.cells.toArray 109,held x.In,ah r1 fj.cells.toArray 109,emp]),?_,?_⟩
    ·rintro w13 bb ⟨rfl,s13⟩ x2
     by_cases hbud:y.bud≠0/\y.bud<o.v
     ·rw[if_pos hbud] at eo;exact cT (dT hbud) (bad s13 (i:=3) rfl (by decide) (by rw[e1,eo]; rfl))
     ·refine cF (dF hbud) ⟨l.length-(k+1),by omega,k+1,aH ⟨by omega,by omega⟩,by omega,rfl,λ o' ho'=>?_,s13⟩;rw[aO hxk] at ho';rcases List.mem_append.1 ho' with h|h
      ·exact hall o' h
      ·rw[List.mem_singleton.1 h]; exact⟨ha,hbud⟩
    ·by_cases hb0:y.bud=0
     ·exact cF (by simpa using hb0) ⟨by rw[dF λ h=>h.1 hb0],s12.aA [1,2,3,4,5]⟩
     ·refine cT (by simpa using hb0) ⟨_,s12.ag 0 rfl 7,?_,s12.aA [1,2,3,4,5]⟩
      by_cases hv:y.bud<o.v
      ·rw[dT hv,dT ⟨hb0,hv⟩]
      ·rw[dF hv,dF λ h=>hv h.2]
   ·rw[if_pos ha] at eo;exact cT (by simpa using ha) (bad s12 (i:=4) rfl ha (by rw[e1,eo,if_pos ha]))
  ·obtain rfl:k=l.length:=by omega
   rw[List.take_length] at hall;have e0:Hg S.s n y l=0:=by rw[Ai l l.length (by rw[List.take_length]; exact hall),List.drop_length]; rfl
   rw[e0,if_neg (by decide)] at e1;refine cF (dF hlt) ⟨_,(cb s8.aC 9 _ rfl).trans (by rw[hk]),aq (BM (hK.aC s8.aC) hC hn) ?_⟩;rintro v w9 ⟨a4,c4,rfl,k9⟩;have rl:=(St.rd Of.len s8).aC k9.aC;have rch:G7 w9 a4 (Bg C n):=St.rd Ch.len k9.one;have s9:=s8.quiet k9.aC;refine⟨_,_,_,rfl,aq (Ix rch (by unfold Bg; rw[List.length_map]; have:=hC.cl; omega) (Tl hC) rl (by omega)) ?_⟩;rintro v w10 ⟨⟨i,rfl⟩,c10⟩;have s10:=s9.quiet c10;refine⟨_,_,rfl,_,x.u,_,_,_,_,s10.cellsIn 1 rfl,s10.aE 3 rfl x.cells rfl x.one λ w11 s11=>⟨_,x.u,_,_,_,_,s11.cellsIn 3 rfl,x,λ _=>ex,by rw[e1]; rfl,?_⟩⟩;exact(s11.aA [2]).single
 ·exact cT (by simpa using h1) (bad s4 (i:=2) rfl h1 (by rw[fP,if_pos h1]))
def rq(S:Sx)(n:Nat)(x:Xv):Sx:={ S with bd:=S.bd.set n { S.bd.getD n cP with x:=x,has:=true } }
section
variable {w0 w:World} {b g n:Nat} {S:Sx} {C:Ck} {B:aJ} {y:Br}
theorem Ql{k:List Nat}{l:List aJ}(s:St w0 w (Sep l))(e:aA k l=fO g C):C.Rd g w:=(by have:=s.aA k; rw[e] at this; exact this:St w0 w (Sep (fO g C))).imp zB
theorem V0{Q:World->Prop}(hQ:∀ w,Q w->S.s.In w)(s:St w0 w (Sep (eP b S g C++[held Q,B])))(h:S.bd.length=8)(hk:S.k=some ⟨g,0,none⟩)(hC:C.Ok)(hs:S.s.Ok){e:Ev}(he:e.bidder=n)(hn:n<C.s.bd.length)(hy:S.s.bd[n]?=some y) :
  CP 93 #[.pointer (some ⟨b,0,none⟩),e.v] w (λ r w'=>r=iv (fP S.s C n y e.text)/\(fP S.s C n y e.text≠0->St w0 w' (Sep (eP b S g C++[held Q,B])))/\(fP S.s C n y e.text=0->∃ x:Xv,x.er=(bM S.s.ps e.text).1/\St w0 w' (Sep (eP b (rq S n x) g C++[held Q,held x.In,B])))):=by
 refine tB (u1:=e.want) ?_;unfold om;have hn':=(List.getElem?_eq_some_iff.1 hy).1;have z2:=hs.bd.l2;have hn8:n<8:=by omega
 have hyb:S.bd[n]?=some (S.bd.getD n cP):=by rw[List.getD_eq_getElem?_getD,gE (by omega)]; rfl
 have hsz:S.cells.toArray.size=101:=by simpa using Sx.len h
 refine s.aB e.cells.toArray λ r1 w1 s1=>?_;have s1:St w0 w1 (Sep (ah r1 e.cells.toArray 43 :: ah b S.cells.toArray 114 :: (fO g C++[held Q,B]))):=s1;have c1:w1.cell? ⟨r1,1,none⟩=some (iv n):=by rw[<- he]; exact s1.ag 0 rfl 1
 have rdK:C.Rd g w1:=Ql (k:=[2,3,4,5,6,7]) s1 rfl;refine⟨_,c1,_,s1.ag 0 rfl 9,aq (LY (s1.cellsIn 1 rfl) (hQ _ (s1.bB 8 rfl)) hk rdK hC hs hn hy e.text) ?_⟩;rintro v w2 ⟨x,ex,rfl,k2⟩;have s2:St w0 w2 (Sep (held x.In :: ah r1 e.cells.toArray 43 :: ah b S.cells.toArray 114 :: (fO g C++[held Q,B]))):=s1.and k2;refine⟨_,x.u,_,_,_,_,_,rfl,s2.aB fj.cells.toArray λ r2 w3 s3=>s3.aE 0 rfl x.cells rfl x.one λ w4 s4=>?_⟩;have s4:St w0 w4 (Sep (ah r2 x.cells.toArray 109 :: held x.In :: ah r1 e.cells.toArray 43 :: ah b S.cells.toArray 114 :: (fO g C++[held Q,B]))):=s4
 by_cases h0:fP S.s C n y e.text=0
 ·refine⟨λ w5=>St w0 w5 (Sep (eP b (rq S n x) g C++[held Q,held x.In,B])),λ w5 s5 _=>⟨rfl,λ h=>absurd h0 h,λ _=>⟨x,ex h0,s5⟩⟩,?_⟩;have s5:=s4.quiet (aD.drew w4 []);have c5:w4.drew.cell? ⟨r1,1,none⟩=some (iv n):=by rw[<- he]; exact s5.ag 2 rfl 1
  refine cT (by simpa using h0) ⟨_,c5,_,c5,_,x.u,_,_,_,_,s5.cellsIn 0 rfl,by omega,by omega,?_⟩;rw[WL];let S1:Sx:={ S with bd:=S.bd.set n { S.bd.getD n cP with x:=x } };refine s5.qj 3 (10+n*11) rfl (vs:=x.cells) S1.cells.toArray (by rw[hsz,Xv.len]; omega) (Xv.one _) (by rw[Xv.len]; exact congrArg List.toArray (Kk h hn8 hyb x)) λ w6 s6=>?_;have h1:S1.bd.length=8:=by simpa[S1] using h
  have hy1:S1.bd[n]?=some { S.bd.getD n cP with x:=x }:=by
   show(S.bd.set n _)[n]?=_;rw[List.getElem?_set_self (by omega)]
  have hsz1:S1.cells.toArray.size=101:=by simpa using Sx.len h1
  have s6:St w0 w6 (Sep (ah r2 x.cells.toArray 109 :: held x.In :: ah r1 e.cells.toArray 43 :: ah b S1.cells.toArray 114 :: (fO g C++[held Q,B]))):=s6;have c6:w6.cell? ⟨r1,1,none⟩=some (iv n):=by rw[<- he]; exact s6.ag 2 rfl 1
  refine⟨c6,by omega,by omega,?_⟩;rw[aZ];refine s6.aM 3 rfl (j:=10+n*11+9) (by rw[hsz1]; omega) rfl λ w7 s7=>?_;have e1:=Kj h1 hn8 hy1 true;have e2:({ S1 with bd:=S1.bd.set n { ({ S.bd.getD n cP with x:=x }:Bd) with has:=true } }:Sx)=rq S n x:=by
   show({ S with bd:=(S.bd.set n _).set n _ }:Sx)=_;rw[List.set_set]; rfl
  rw[e2] at e1;rw[e1] at s7;exact s7.aA [3,4,5,6,7,8,9,10,1,11]
 ·refine⟨λ w5=>St w0 w5 (Sep (eP b S g C++[held Q,B])),λ w5 s5 _=>⟨rfl,λ _=>s5,λ h=>absurd h h0⟩,cF (by simpa using h0) (s4.aA [3,4,5,6,7,8,9,10,11])⟩
end
structure Ck.Inv (C:Ck):Prop where
 ok:C.Ok
 n30:C.ov=false->C.cl.length<30
section
variable {C C' : Ck}
theorem Rn.Sz.er{x:Rn}{n:Nat}:x.er.Sz n<->x.Sz n:=⟨λ h=>⟨h.ask,h.got,h.bd⟩,λ h=>⟨h.ask,h.got,h.bd⟩⟩
theorem Ck.Inv.ZA(h:C.Inv):C.er.Inv:=by
 obtain⟨⟨s,o,cl,cz,cp,ca,cg,p,ask,bd,dp,asked⟩,n30⟩:=h;have mm:∀ {x:Rn},x∈C.er.cl->∃ y∈C.cl,y.er=x:=λ hx=>List.mem_map.1 hx;have hl:C.er.cl.length=C.cl.length:=List.length_map _;refine⟨⟨⟨s.ps,s.bd,s.cp,s.sa⟩,o,by rw[hl]; exact cl,λ x hx=>?_,λ x hx=>?_,λ x hx=>?_,λ x hx=>?_,p,ask,bd,dp,asked⟩,λ h=>by rw[hl]; exact n30 h⟩
 ·obtain⟨y,hy,rfl⟩:=mm hx; exact Rn.Sz.er.2 (cz y hy)
 ·obtain⟨y,hy,rfl⟩:=mm hx; exact cp y hy
 ·obtain⟨y,hy,rfl⟩:=mm hx; exact ca y hy
 ·obtain⟨y,hy,rfl⟩:=mm hx; exact cg y hy
theorem Ck.Inv.Zm(h:C.er.Inv):C.Inv:=by
 obtain⟨⟨s,o,cl,cz,cp,ca,cg,p,ask,bd,dp,asked⟩,n30⟩:=h;have mm:∀ {x:Rn},x∈C.cl->x.er∈C.er.cl:=λ hx=>List.mem_map_of_mem hx;have hl:C.er.cl.length=C.cl.length:=List.length_map _;rw[hl] at cl n30;exact⟨⟨⟨s.ps,s.bd,s.cp,s.sa⟩,o,cl,λ x hx=>Rn.Sz.er.1 (cz _ (mm hx)),λ x hx=>cp x.er (mm hx),λ x hx=>ca x.er (mm hx),λ x hx=>cg x.er (mm hx),p,ask,bd,dp,asked⟩,n30⟩
theorem Ck.Inv.er(h:C.Inv)(e:C'.er=C.er):C'.Inv:=Ck.Inv.Zm (e▸h.ZA)
theorem Tj(C:Ck)(n:Nat):Bg C.er n=Bg C n:=by
 show(C.cl.map Rn.er).map _=_;rw[List.map_map]; rfl
theorem R8(C:Ck):jd C.er=jd C:=by
 show iM C.dp 0 (((C.cl.map Rn.er).getLast?.map Rn.got).getD [])=_;rw[List.getLast?_map,Option.map_map]; rfl
theorem HV(C:Ck):C.er.cl.length=C.cl.length:=List.length_map _
theorem Nx(C:Ck):pJ C.er=pJ C:=by
 unfold pJ;rw[HV,R8]; rfl
theorem Na(C:Ck):yb C.er=yb C:=by unfold yb; rw[Nx]; rfl
theorem Oe(C:Ck):oL C.er=oL C:=by unfold oL; rw[Na]; rfl
theorem JJ(C:Ck):fe C.er=fe C:=by unfold fe; rw[Na,Oe,HV]
theorem XD(C:Ck):(OP C.er).er=(OP C).er:=by
 show({ p:=_,ask:=_,got:=pJ C.er,bd:=_,xa:=_,xc:=_,ga:=_,gc:=_,ba:=_,bc:=_ }:Rn)=_;rw[Nx]; rfl
theorem Jo(C:Ck):C.er.er=C.er:=by
 show({ C.er with cl:=(C.cl.map Rn.er).map Rn.er }:Ck)=_;rw[List.map_map]; rfl
theorem MN(C:Ck):(gk C.er).er=(gk C).er:=by
 have e1:(gk C.er).cl.map Rn.er=(gk C).cl.map Rn.er:=by
  show((C.cl.map Rn.er)++[OP C.er]).map Rn.er=(C.cl++[OP C]).map Rn.er;rw[List.map_append,List.map_append,List.map_map,List.map_singleton,List.map_singleton,XD]; rfl
 show({ s:=_,o:=_,cl:=(gk C.er).cl.map Rn.er,p:=if fe C.er then C.p else (oL C.er).1,ask:=_,bd:=_,dp:=_,ov:=fe C.er,ka:=_,kc:=_,xa:=_,xc:=_,ya:=_,yc:=_,za:=_,zc:=_ }:Ck)=_;rw[e1,JJ,Oe]; rfl
theorem SL(C:Ck):(vj C.er).er=(vj C).er:=by
 show({ s:=_,o:=_,cl:=(C.cl.map Rn.er).map Rn.er,p:=_,ask:=_,bd:=_,dp:=_,ov:=_,ka:=_,kc:=_,xa:=_,xc:=_,ya:=_,yc:=_,za:=_,zc:=_ }:Ck)=_;rw[List.map_map]; rfl
theorem MV(C:Ck)(n:Nat):(kD C.er n).er=(kD C n).er:=by
 show({ s:=_,o:=_,cl:=(C.cl.map Rn.er).map Rn.er,p:=_,ask:=_,bd:=_,dp:=_,ov:=_,ka:=_,kc:=_,xa:=_,xc:=_,ya:=_,yc:=_,za:=_,zc:=_ }:Ck)=_;rw[List.map_map]; rfl
theorem Qb(C:Ck)(n:Nat)(u:I6):(sO C.er n u).er=(sO C n u).er:=by
 show({ s:=_,o:=_,cl:=(C.cl.map Rn.er).map Rn.er,p:=_,ask:=_,bd:=_,dp:=_,ov:=_,ka:=_,kc:=_,xa:=_,xc:=_,ya:=_,yc:=_,za:=_,zc:=_ }:Ck)=_;rw[List.map_map]; rfl
theorem LL(C:Ck)(r:Int):cO C.er r=cO C r:=by unfold cO; rw[HV]; rfl
theorem OM(C:Ck)(r:Nat):(fG C.er r).er=(fG C r).er:=by
 unfold fG;have e:C.er.cl[r]?=(C.cl[r]?).map Rn.er:=List.getElem?_map ..;rw[e]
 cases C.cl[r]? with
 | none =>
  show({ s:=_,o:=_,cl:=(C.cl.map Rn.er).map Rn.er,p:=_,ask:=_,bd:=_,dp:=_,ov:=_,ka:=_,kc:=_,xa:=_,xc:=_,ya:=_,yc:=_,za:=_,zc:=_ }:Ck)=_;rw[List.map_map]; rfl
 | some x =>
  show({ s:=_,o:=_,cl:=(((C.cl.map Rn.er).take r).map Rn.er),p:=_,ask:=_,bd:=_,dp:=_,ov:=_,ka:=_,kc:=_,xa:=_,xc:=_,ya:=_,yc:=_,za:=_,zc:=_ }:Ck)=_;rw[<- List.map_take,List.map_map]; rfl
theorem Qa(C:Ck)(n:Nat)(y:Br)(u:I6):lH C.er n y u=lH C n y u:=by
 unfold lH;rw[Tj]; rfl
theorem Ol(S:Se)(C:Ck)(n:Nat)(y:Br)(t:List UInt8):fP S.er C.er n y t=fP S C n y t:=by
 unfold fP;rw[Tj];have:∀ l:List Of,Hg S.er n y l=Hg S n y l:=λ l=>by
  induction l with
  | nil=>rfl
  | cons o l ih=>rw[Hg,Hg,ih]; rfl
 rw[this]; rfl
theorem Oa{S:Se}{o:Po}(hs:S.Ok)(ho:o.ok):(mc S o).Inv:=⟨RM hs ho,λ _=>by show([]:List Rn).length<30; decide⟩
theorem ME(h:C.Inv){n:Nat}{y:Br}{u:I6}(hb:lH C n y u=0):(sO C n u).Inv:=by
 have hu:I6.Le u 4:=by
  unfold lH at hb
  split at hb
  ·cases hb
  ·split at hb
   ·rename_i h1; exact absurd hb h1
   ·rename_i h1;have h2:j8 C.s n y u=0:=by simpa using h1
    unfold j8 at h2
    split at h2
    ·rename_i h3; exact Mk h3
    ·cases h2
 obtain⟨⟨s,o,cl,cz,cp,ca,cg,p,ask,bd,dp,asked⟩,n30⟩:=h;refine⟨⟨s,o,cl,cz,cp,ca,cg,p,by simpa[sO] using ask,by simpa[sO] using bd,dp,λ v hv=>?_⟩,n30⟩;rcases List.mem_or_eq_of_mem_set hv with hv|rfl
 ·exact asked v hv
 ·exact hu
theorem KT(h:C.Inv)(n:Nat):(kD C n).Inv:=by
 obtain⟨⟨s,o,cl,cz,cp,ca,cg,p,ask,bd,dp,asked⟩,n30⟩:=h;refine⟨⟨s,o,cl,cz,cp,ca,cg,p,by simpa[kD] using ask,by simpa[kD] using bd,by simpa[kD] using dp,λ v hv=>?_⟩,n30⟩;rcases List.mem_or_eq_of_mem_set hv with hv|rfl
 ·exact asked v hv
 ·exact PN (by omega)
theorem VZ{n:Nat}:∀ u∈List.replicate n z6,I6.Le u 4:=λ u hu=>by rw[List.eq_of_mem_replicate hu]; exact PN (by omega)
theorem Ds(h:C.Ok):(gO C).Ok:=by
 obtain⟨s,o,cl,cz,cp,ca,cg,p,ask,bd,dp,asked⟩:=h;exact⟨s,o,cl,cz,cp,ca,cg,p,by simpa[gO] using dp,by simpa[gO] using dp,dp,VZ⟩
theorem LZ(h:C.Inv):(vj C).Inv:=by
 obtain⟨s,o,cl,cz,cp,ca,cg,p,ask,bd,dp,asked⟩:=Ds h.ok;exact⟨⟨s,o,cl,cz,cp,ca,cg,p,ask,bd,dp,asked⟩,λ h=>by cases h⟩
theorem Iy(h:C.Inv){r:Int}(hr:cO C r=false):(fG C r.toNat).Inv:=by
 have hr' : 0<=r/\r<=C.cl.length/\(r=C.cl.length->C.ov=false):=by
  unfold cO at hr;simp only[Bool.or_eq_false_iff,decide_eq_false_iff_not,Bool.and_eq_false_iff,beq_eq_false_iff_ne] at hr;obtain⟨⟨h1,h2⟩,h3⟩:=hr;refine⟨by omega,by omega,λ e=>?_⟩;rcases h3 with h3|h3
  ·exact absurd e h3
  ·exact h3
 have k:=Ds h.ok;obtain⟨s,o,cl,cz,cp,ca,cg,p,ask,bd,dp,asked⟩:=k;have hl:=h.ok.cl;unfold fG
 cases hx:C.cl[r.toNat]? with
 | some x =>
  have hm:=List.mem_of_getElem? hx;have hlt:=(List.getElem?_eq_some_iff.1 hx).1;refine⟨⟨s,o,?_,λ y hy=>cz y (List.mem_of_mem_take hy),λ y hy=>cp y (List.mem_of_mem_take hy),λ y hy=>ca y (List.mem_of_mem_take hy),λ y hy=>cg y (List.mem_of_mem_take hy),cp x hm,ask,bd,dp,asked⟩,λ _=>?_⟩
  ·show(C.cl.take r.toNat).length<=30;rw[List.length_take]; omega
  ·show(C.cl.take r.toNat).length<30;rw[List.length_take]; omega
 | none =>
  have hge:C.cl.length<=r.toNat:=List.getElem?_eq_none_iff.1 hx;have e:r=C.cl.length:=by omega
  exact⟨⟨s,o,cl,cz,cp,ca,cg,p,ask,bd,dp,asked⟩,λ _=>h.n30 (hr'.2.2 e)⟩
theorem H7{o:Po}{p ex:I6}(hp:oM p=true)(h:(xu o p ex).2=0):oM (xu o p ex).1=true:=by
 unfold xu at h ⊢
 split
 ·rename_i g; rw[if_pos g] at h; cases h
 ·rename_i g;show oM (bV o p ex)=true
  by_cases e:bV o p ex=p
  ·rw[e]; exact hp
  ·cases hv:oM (bV o p ex) with
   | true=>rfl
   | false=>exact absurd ⟨e,hv⟩ g
theorem Hw(h:C.Inv)(hov:C.ov=false):(gk C).Inv:=by
 have h30:=h.n30 hov;have hg:=Ny h.ok;have hk:=h.ok;obtain⟨s,o,cl,cz,cp,ca,cg,p,ask,bd,dp,asked⟩:=Ds h.ok;have mm:∀ {Q:Rn->Prop},(∀ x∈C.cl,Q x)->Q (OP C)->∀ x∈(gk C).cl,Q x:=λ h1 h2 x hx=>by
  rcases List.mem_append.1 hx with hx|hx
  ·exact h1 x hx
  ·rw[List.mem_singleton.1 hx]; exact h2
 refine⟨⟨s,o,?_,mm cz ⟨hk.ask,hg.1,hk.bd⟩,mm cp hk.p,mm ca hk.asked,mm cg hg.2,?_,ask,bd,dp,asked⟩,λ hl=>?_⟩
 ·show(C.cl++[OP C]).length<=30;rw[List.length_append,List.length_singleton]; omega
 ·show oM (if fe C then C.p else (oL C).1)=true
  split
  ·exact hk.p
  ·rename_i hl;refine H7 hk.p ?_;have hl:fe C=false:=by simpa using hl
   unfold fe at hl;simp only[Bool.or_eq_false_iff] at hl;have h2:(oL C).2=0:=by simpa using hl.2.2
   exact h2
 ·have hl:fe C=false:=hl;unfold fe at hl;simp only[Bool.or_eq_false_iff,decide_eq_false_iff_not] at hl;show(C.cl++[OP C]).length<30;rw[List.length_append,List.length_singleton]; omega
end
theorem X0{S:Sx}(h:S.bd.length=8)(k:OA):S.cells.toArray.setIfInBounds 9 (.pointer k)=({ S with k:=k }:Sx).cells.toArray:=by
 obtain⟨o,ph,s,k0,bd,dec,cnt,dig⟩:=S;obtain⟨b0,b1,b2,b3,b4,b5,b6,b7,rfl⟩:=cq h;rfl
theorem Wr(S:Sx)(S' : Se):(S.cells.toArray.toList.take 5++S'.arr.toList++S.cells.toArray.toList.drop (5+S'.arr.toList.length)).toArray=({ S with s:=S' }:Sx).cells.toArray:=rfl
def oc(o:Po)(t:List UInt8):Int:=if pX o≠0 then pX o else wq t
section
variable {w0 w:World} {b:Nat} {S:Sx} {B:aJ}
theorem SE(s:St w0 w (Sep [ah b S.cells.toArray 114,B]))(h:S.bd.length=8){e:Ev}(ht:e.text.length<=80000) :
  CP 90 #[.pointer (some ⟨b,0,none⟩),e.v] w (λ r w'=>r=iv (oc S.o e.text)/\(oc S.o e.text≠0->St w0 w' (Sep [ah b S.cells.toArray 114,B]))/\(oc S.o e.text=0->∃ (S' : Se) (g:Nat) (C:Ck),S'.er=(wu e.text).er/\S'.Ok/\S.o.ok/\C.er=(mc S' S.o).er/\St w0 w' (Sep (eP b { S with ph:=1,s:=S',k:=some ⟨g,0,none⟩ } g C++[held S'.In,B])))):=by
 refine rO (u1:=e.want) ?_;unfold mE;refine s.aB e.cells.toArray λ r1 w1 s1=>?_;refine⟨_,_,_,_,s1.aQ (vs:=S.o.cells) 1 0 rfl rfl,aq (wm w1 S.o) ?_⟩;rintro v w2 ⟨rfl,c2⟩;have s2:=s1.quiet c2;refine⟨_,rfl,?_⟩
 by_cases h1:pX S.o=0
 ·have e1:oc S.o e.text=wq e.text:=by rw[oc,if_neg (λ h=>h h1)]
  refine cF (by simpa using h1) ⟨_,s2.ag 0 rfl 9,aq (O7 w2 e.text ht) ?_⟩;rintro v w3 ⟨S',i,rfl,k3,hok⟩;have s3:St w0 w3 (Sep [held S'.In,ah r1 e.cells.toArray 43,ah b S.cells.toArray 114,B]):=s2.and k3;refine⟨_,_,_,_,_,_,_,_,_,_,_,_,_,_,rfl,s3.aB gN.arr λ r2 w4 s4=>s4.aE 0 rfl S'.arr.toList rfl (by simp[Se.arr,Value.oneCell']) λ w5 s5=>?_⟩;have s5:St w0 w5 (Sep [ah r2 S'.arr 100,held S'.In,ah r1 e.cells.toArray 43,ah b S.cells.toArray 114,B]):=s5
  by_cases h2:wq e.text=0
  ·obtain⟨eS,hS⟩:=hok h2;have ho:S.o.ok:=by
    unfold pX at h1
    by_cases g:S.o.ok
    ·exact g
    ·rw[if_neg g] at h1; cases h1
   have s6:=s5.quiet (aD.drew w5 []);refine cF (by simpa using h2) ⟨_,_,_,_,_,_,_,_,_,_,_,_,s6.cellsIn (cs:=S'.arr) 0 rfl,_,_,_,_,s6.aQ (vs:=S.o.cells) 3 0 rfl rfl,aq (Xo (s6.bB 1 rfl) hS ho) ?_⟩;rintro v w7 ⟨g,C,eC,rfl,k7⟩;have s7:St w0 w7 (Sep (fO g C++[ah r2 S'.arr 100,held S'.In,ah r1 e.cells.toArray 43,ah b S.cells.toArray 114,B])):=St.cat (s6.and k7);refine⟨_,_,rfl,cF rfl ⟨_,_,_,_,_,_,_,_,_,_,_,_,s7.cellsIn (cs:=S'.arr) 6 rfl,?_⟩⟩;have hsz:S.cells.toArray.size=101:=eY h;refine s7.qj 9 5 rfl (vs:=S'.arr.toList) ({ S with s:=S' }:Sx).cells.toArray (by rw[hsz]; show 9<=101; decide) (by simp[Se.arr,Value.oneCell']) (Wr S S') λ w8 s8=>?_;have h1' : ({ S with s:=S' }:Sx).bd.length=8:=h;refine s8.aM 9 rfl (j:=9) (by show 9<({ S with s:=S' }:Sx).cells.toArray.size; rw[eY h1']; decide) rfl λ w9 s9=>?_;rw[X0 h1'] at s9;have h2' : ({ S with s:=S',k:=some ⟨g,0,none⟩ }:Sx).bd.length=8:=h;refine s9.aM 9 rfl (j:=4) (by show 4<({ S with s:=S',k:=some ⟨g,0,none⟩ }:Sx).cells.toArray.size; rw[eY h2']; decide) rfl λ w10 s10=>?_;rw[GP h2'] at s10;refine⟨by rw[e1,h2],λ h=>absurd (e1.trans h2) h,λ _=>⟨S',g,C,eS,hS,ho,eC,?_⟩⟩;exact s10.aA [9,0,1,2,3,4,5,7,10]
  ·exact cT (by simpa using h2) ⟨by rw[e1],λ _=>s5.aA [3,4],λ h=>absurd (e1.symm.trans h) h2⟩
 ·exact cT (by simpa using h1) ⟨by rw[oc,if_pos h1],λ _=>s2.second,λ h=>absurd h (by rw[oc,if_pos h1]; exact h1)⟩
end
def fV(k:Int):FuncId:=if k=1 then 90 else if k=2 then 91 else if k=3\/k=4 then 92 else if k=5 then 93
 else if k=6 then 94 else if k=7 then 95 else if k=8 then 96 else 97
theorem MW(w:World)(b:Nat)(k:Int):CP 53 #[.pointer (some ⟨b,0,none⟩),iv k] w (λ r w'=>r=.func (.func (fV k)) #[] #[]/\w' = w):=by
 refine oQ ?_;unfold j3
 by_cases h1:k=1
 ·exact cT (by simpa using h1) ⟨by rw[fV,if_pos h1],rfl⟩
 refine cF (by simpa using h1) ?_
 by_cases h2:k=2
 ·exact cT (by simpa using h2) ⟨by rw[fV,if_neg h1,if_pos h2],rfl⟩
 refine cF (by simpa using h2) ⟨λ b w1=>b=decide (k=3\/k=4)/\w1=w,?_,?_⟩
 ·rintro w1 _ ⟨rfl,rfl⟩ -
  by_cases h3:k=3\/k=4
  ·exact cT (dT h3) ⟨by rw[fV,if_neg h1,if_neg h2,if_pos h3],rfl⟩
  refine cF (dF h3) ?_
  by_cases h5:k=5
  ·exact cT (by simpa using h5) ⟨by rw[fV,if_neg h1,if_neg h2,if_neg h3,if_pos h5],rfl⟩
  refine cF (by simpa using h5) ?_
  by_cases h6:k=6
  ·exact cT (by simpa using h6) ⟨by rw[fV,if_neg h1,if_neg h2,if_neg h3,if_neg h5,if_pos h6],rfl⟩
  refine cF (by simpa using h6) ?_
  by_cases h7:k=7
  ·exact cT (by simpa using h7) ⟨by rw[fV,if_neg h1,if_neg h2,if_neg h3,if_neg h5,if_neg h6,if_pos h7],rfl⟩
  refine cF (by simpa using h7) ?_
  by_cases h8:k=8
  ·exact cT (by simpa using h8) ⟨by rw[fV,if_neg h1,if_neg h2,if_neg h3,if_neg h5,if_neg h6,if_neg h7,if_pos h8],rfl⟩
  ·exact cF (by simpa using h8) ⟨by rw[fV,if_neg h1,if_neg h2,if_neg h3,if_neg h5,if_neg h6,if_neg h7,if_neg h8],rfl⟩
 ·by_cases g3:k=3
  ·exact cT (by simpa using g3) ⟨by rw[dT (Or.inl g3)]; simpa using g3,rfl⟩
  ·refine cF (by simpa using g3) ⟨?_,rfl⟩
   by_cases g4:k=4
   ·rw[dT (Or.inr g4)]; simpa using g4
   ·rw[dF (by omega)]; simpa using g4
def PR:Br:=⟨[],0,0,0⟩
def dy(S:Sx)(C:Ck)(e:Ev):Int :=
 if e.kind=1 then oc S.o e.text
 else if e.kind=2 then lH C e.bidder.toNat (C.s.bd.getD e.bidder.toNat PR) e.want
 else if e.kind=3\/e.kind=4 then (if C.ov then 10 else 0)
 else if e.kind=5 then fP S.s C e.bidder.toNat (S.s.bd.getD e.bidder.toNat PR) e.text
 else if e.kind=6 then (if (S.bd.getD e.bidder.toNat cP).has then 0 else 6)
 else if e.kind=7 then (if C.dp.getD e.bidder.toNat false then 10 else 0)
 else if e.kind=8 then (if cO C e.round then 4 else 0) else 0
def bA(S:Sx)(C:Ck)(e:Ev):Sx :=
 if e.kind=1 then { S with ph:=1,s:=wu e.text }
 else if e.kind=2 then S
 else if e.kind=3 then (if fe C then { S with ph:=2 } else S)
 else if e.kind=4 then { S with ph:=2 }
 else if e.kind=5 then rq S e.bidder.toNat (bM S.s.ps e.text).1
 else if e.kind=6 then bx S e.bidder.toNat
 else if e.kind=7 then bx (fQ S e.bidder.toNat) e.bidder.toNat
 else if e.kind=8 then { bN S 8 with ph:=1 } else mW S e
def cY(S:Sx)(C:Ck)(e:Ev):Ck :=
 if e.kind=1 then mc (wu e.text) S.o
 else if e.kind=2 then sO C e.bidder.toNat e.want
 else if e.kind=3 then gk C
 else if e.kind=4 then vj C
 else if e.kind=7 then kD C e.bidder.toNat
 else if e.kind=8 then fG C e.round.toNat else C
theorem PM:∀ x:Xv,x.er.er=x.er:=Xv.ind λ x ih=>by
 rw[Xv.rY x,Xv.er]
 congr 1
 rw[List.map_map];exact List.map_congr_left λ y hy=>ih y hy
def Bd.er(y:Bd):Bd:={ y with x:=y.x.er }
def Sx.er(S:Sx):Sx:={ S with s:=S.s.er,k:=none,bd:=S.bd.map Bd.er }
theorem Dg(y:Bd):y.er.er=y.er:=by show({ y with x:=y.x.er.er }:Bd)=_; rw[PM]; rfl
theorem gI(S:Sx):S.er.er=S.er:=by
 show({ S.er with bd:=(S.bd.map Bd.er).map Bd.er }:Sx)=_;rw[List.map_map,show(Bd.er ∘ Bd.er)=Bd.er from funext Dg]; rfl
theorem PO:cP.er=cP:=by show({ cP with x:=fj.er }:Bd)=_; rw[IY]; rfl
theorem qL(S:Sx)(n:Nat):S.er.bd.getD n cP=(S.bd.getD n cP).er:=by
 show(S.bd.map Bd.er).getD n cP=_;rw[List.getD_eq_getElem?_getD,List.getD_eq_getElem?_getD,List.getElem?_map]
 cases S.bd[n]? with
 | none=>exact PO.symm
 | some y=>rfl
theorem sZ{l:List Bd}{n:Nat}{y y' : Bd}(h:y.er=y'.er):((l.map Bd.er).set n y).map Bd.er=(l.set n y').map Bd.er:=by
 rw[List.map_set,List.map_set,List.map_map,h,show(Bd.er ∘ Bd.er)=Bd.er from funext Dg]
theorem wF(S:Sx)(n:Nat):(bx S.er n).er=(bx S n).er:=by
 have:((S.bd.map Bd.er).set n (Jk (S.er.bd.getD n cP))).map Bd.er=(S.bd.set n (Jk (S.bd.getD n cP))).map Bd.er:=sZ (by rw[qL]; rfl);show({ S.er with bd:=((S.bd.map Bd.er).set n (Jk (S.er.bd.getD n cP))).map Bd.er }:Sx)=_;rw[this]; rfl
theorem Ov(S:Sx)(n:Nat):(fQ S.er n).er=(fQ S n).er:=by
 have:((S.bd.map Bd.er).set n { S.er.bd.getD n cP with out:=true }).map Bd.er=(S.bd.set n { S.bd.getD n cP with out:=true }).map Bd.er:=sZ (by rw[qL]; exact Dg { S.bd.getD n cP with out:=true });show({ S.er with bd:=((S.bd.map Bd.er).set n { S.er.bd.getD n cP with out:=true }).map Bd.er }:Sx)=_;rw[this]; rfl
theorem GI{S S' : Sx}(h:S'.er=S.er)(n:Nat):(bx S' n).er=(bx S n).er:=by rw[<- wF S',h,wF]
theorem CH{S S' : Sx}(h:S'.er=S.er):∀ k,(bN S' k).er=(bN S k).er
 | 0=>h
 | k+1=>GI (CH h k) k
theorem J0{S S' : Sx}(h:S'.er=S.er)(x:Int):({ S' with ph:=x }:Sx).er=({ S with ph:=x }:Sx).er:=by
 show({ S'.er with ph:=x }:Sx)={ S.er with ph:=x };rw[h]
theorem Qc(S:Sx)(n:Nat)(x:Xv):(rq S.er n x).er=(rq S n x).er:=by
 have:((S.bd.map Bd.er).set n { S.er.bd.getD n cP with x:=x,has:=true }).map Bd.er=(S.bd.set n { S.bd.getD n cP with x:=x,has:=true }).map Bd.er:=sZ (by rw[qL]; rfl);show({ S.er with bd:=((S.bd.map Bd.er).set n { S.er.bd.getD n cP with x:=x,has:=true }).map Bd.er }:Sx)=_;rw[this]; rfl
theorem Ut{S:Sx}{n:Nat}{x x' : Xv}(h:x.er=x'.er):(rq S n x).er=(rq S n x').er:=by
 have:(S.bd.set n { S.bd.getD n cP with x:=x,has:=true }).map Bd.er=(S.bd.set n { S.bd.getD n cP with x:=x',has:=true }).map Bd.er:=by
  rw[List.map_set,List.map_set]
  congr 1
  show({ S.bd.getD n cP with x:=x.er,has:=true }:Bd)={ S.bd.getD n cP with x:=x'.er,has:=true };rw[h]
 show({ S.er with bd:=(S.bd.set n { S.bd.getD n cP with x:=x,has:=true }).map Bd.er }:Sx)=_;rw[this]; rfl
theorem DB(S:Sx)(C:Ck)(e:Ev):dy S.er C.er e=dy S C e:=by
 have h1:(S.er.bd.getD e.bidder.toNat cP).has=(S.bd.getD e.bidder.toNat cP).has:=by rw[qL]; rfl
 unfold dy;rw[h1,Qa,LL];show(if _ then _ else if _ then _ else if _ then _ else if _ then fP S.s.er C.er _ _ _ else _)=_;rw[Ol]; rfl
theorem DC(S:Sx)(C:Ck)(e:Ev):(bA S.er C.er e).er=(bA S C e).er:=by
 unfold bA;rw[JJ]
 split
 ·show({ S.er.er with ph:=1,s:=(wu e.text).er }:Sx)={ S.er with ph:=1,s:=(wu e.text).er };rw[gI]
 ·split
  ·exact gI S
  ·split
   ·split
    ·exact J0 (gI S) 2
    ·exact gI S
   ·split
    ·exact J0 (gI S) 2
    ·split
     ·exact Qc S _ _
     ·split
      ·exact wF S _
      ·split
       ·exact GI (Ov S _) _
       ·split
        ·exact J0 (CH (gI S) 8) 1
        ·unfold mW
         split
         ·show({ S.er.er with ph:=4,dec:=e.digest }:Sx)={ S.er with ph:=4,dec:=e.digest };rw[gI]
         ·exact J0 (gI S) 3
theorem DA(S:Sx)(C:Ck)(e:Ev):(cY S.er C.er e).er=(cY S C e).er:=by
 unfold cY
 split
 ·rfl
 ·split
  ·exact Qb C _ _
  ·split
   ·exact MN C
   ·split
    ·exact SL C
    ·split
     ·exact MV C _
     ·split
      ·exact OM C _
      ·exact Jo C
def Kw(S:Sx)(w:World):Prop:=S.s.In w/\∀ y∈S.bd,y.x.In w
structure qG (S:Sx) (C:Ck) (w:World):Prop where
 h:Kw S w
 k:∀ q,S.k=some q->∃ g,q=⟨g,0,none⟩/\C.Rd g w
structure ET (S:Sx) (C:Ck):Prop where
 b8:S.bd.length=8
 ph:0<=S.ph/\S.ph<=4
 z:S.ph=0->S.s.er=gN
 c:S.ph≠0->C.Inv
 cs:S.ph≠0->C.s.er=S.s.er
 so:S.ph≠0->S.s.Ok
 cnt:0<=S.cnt/\S.cnt<=600
 dig:0<=S.dig/\S.dig<18446744073709551616
 x:∀ y∈S.bd,y.has=true->fA y.x=0
def PX(S:Sx):Prop:=(S.ph=0->S.k=none)/\(S.ph≠0->∃ g,S.k=some ⟨g,0,none⟩)
theorem tU{S S' : Se}(e:S'.er=S.er):S'.bd=S.bd:=show S'.er.bd=S.er.bd from congrArg Se.bd e
theorem Ka{S S' : Se}(e:S'.er=S.er)(h:S.Ok):S'.Ok:=by
 have h2:S.er.Ok:=⟨h.ps,h.bd,h.cp,h.sa⟩;rw[<- e] at h2;exact⟨h2.ps,h2.bd,h2.cp,h2.sa⟩
theorem getD_at{α:Type}{l:List α}{n:Nat}{d:α}(h:n<l.length):l[n]?=some (l.getD n d):=by rw[List.getD_eq_getElem?_getD,gE h]; rfl
theorem qU{S:Sx}{n:Nat}{y:Bd}(h:y∈(bx S n).bd):y∈S.bd\/(y.x=fj/\y.has=false):=by
 rcases List.mem_or_eq_of_mem_set h with h|rfl
 ·exact .inl h
 ·exact .inr ⟨rfl,rfl⟩
theorem td{S:Sx}{y:Bd}:∀ k,y∈(bN S k).bd->y∈S.bd\/(y.x=fj/\y.has=false)
 | 0,h=>.inl h
 | k+1,h=>(qU h).elim (td k) .inr
theorem JN{S:Sx}{n:Nat}{y:Bd}(h8:n<S.bd.length)(h:y∈(fQ S n).bd):∃ z∈S.bd,y.x=z.x/\y.has=z.has:=by
 rcases List.mem_or_eq_of_mem_set h with h|rfl
 ·exact⟨y,h,rfl,rfl⟩
 ·exact⟨S.bd.getD n cP,List.mem_of_getElem? (getD_at h8),rfl,rfl⟩
section
variable {w0 w:World} {b g:Nat} {S:Sx} {C:Ck} {B:aJ}
theorem iQ{Q:World->Prop}(s:St w0 w (Sep (eP b S g C++[held Q,B])))(hk:S.k=some ⟨g,0,none⟩)(hQ:∀ w,Q w->Kw S w):St w0 w (Sep [ah b S.cells.toArray 114,held (qG S C),B]):=by
 have s1:St w0 w (Sep (fO g C++[held Q,ah b S.cells.toArray 114,B])):=s.aA [1,2,3,4,5,6,7,0,8];have s2:St w0 w (Sep (Sep (fO g C) :: held Q :: [ah b S.cells.toArray 114,B])):=s1.split _;have s3:=s2.pK (S:=qG S C) zB (bu Q) (λ w h1 h2=>⟨hQ w h2,λ q hq=>by rw[hk] at hq; cases hq; exact⟨g,rfl,h1⟩⟩);exact s3.aA [1,0,2]
def Uf(w0:World)(b:Nat)(S:Sx)(C:Ck)(e:Ev)(Q:World->Prop)(B:aJ):KP:=λ r w'=>r=iv (dy S C e) /\
 (dy S C e≠0->∃ X:Sx,X.bd.length=8/\St w0 w' (Sep [ah b X.cells.toArray 114,held Q,B])) /\
 (dy S C e=0->∃ (S' : Sx) (C' : Ck),S'.er=(bA S C e).er/\C'.er=(cY S C e).er/\(∃ g,S'.k=some ⟨g,0,none⟩)/\St w0 w' (Sep [ah b S'.cells.toArray 114,held (qG S' C'),B]))
theorem UI{Q:World->Prop}(hQ:∀ w,Q w->Kw S w)(s:St w0 w (Sep [ah b S.cells.toArray 114,held Q,B]))(h8:S.bd.length=8){e:Ev}(he:e.WE)(h1:e.kind=1) :
  Calls prog (fV e.kind) #[pt b,e.v] w (xK (Uf w0 b S C e Q B)):=by
 have eF:fV e.kind=90:=by rw[fV,if_pos h1]
 have eE:dy S C e=oc S.o e.text:=by rw[dy,if_pos h1]
 rw[eF];have s1:St w0 w (Sep [ah b S.cells.toArray 114,Sep [held Q,B]]):=s.eqv (bg.right (bg.unit _));refine aq (SE s1 h8 (by have:=he.t; omega)) ?_;rintro v w1 ⟨rfl,k1,k2⟩;refine⟨_,rfl,by rw[eE],λ h=>⟨S,h8,?_⟩,λ h=>?_⟩
 ·have:=(k1 (by rw[<- eE]; exact h)).dR [_];exact this
 ·obtain⟨S',g,C',e1,hS,ho,e2,s2⟩:=k2 (by rw[<- eE]; exact h);let S2:Sx:={ S with ph:=1,s:=S',k:=some ⟨g,0,none⟩ };have s3:St w0 w1 (Sep (eP b S2 g C'++[held S'.In,held Q,B])):=s2.dR [_,_,_,_,_,_,_,_];have s4:=(s3.aA [7,8,0,1,2,3,4,5,6,9]).pK (S:=Kw S2) (bu _) (bu _) (λ w h1 h2=>⟨h1,(hQ w h2).2⟩);have s5:St w0 w1 (Sep (eP b S2 g C'++[held (Kw S2),B])):=s4.aA [1,2,3,4,5,6,7,0,8];refine⟨S2,C',?_,?_,⟨g,rfl⟩,iQ s5 rfl λ w h=>h⟩
  ·rw[bA,if_pos h1];show({ S.er with ph:=1,s:=S'.er }:Sx)={ S.er with ph:=1,s:=(wu e.text).er };rw[e1]
  ·rw[cY,if_pos h1,e2];have hb:=tU e1;show({ s:=S'.er,o:=S.o,cl:=[],p:=jZ S'.er.ps,ask:=List.replicate S'.bd.length z6,bd:=List.replicate S'.bd.length false,dp:=List.replicate S'.bd.length false,ov:=false,ka:=none,kc:=0,xa:=none,xc:=0,ya:=none,yc:=0,za:=none,zc:=0 }:Ck)=_;rw[hb,e1]; rfl
theorem UJ{Q:World->Prop}(hQ:∀ w,Q w->Kw S w)(s:St w0 w (Sep (eP b S g C++[held Q,B])))(hok:ET S C)(h0:S.ph≠0)(hk:S.k=some ⟨g,0,none⟩){e:Ev}(he:e.WE)(hp:ff e.kind S.ph=true)(hn:bF e.kind=true->e.bidder<S.s.bd.length) :
  Calls prog (fV e.kind) #[pt b,e.v] w (xK (Uf w0 b S C e Q B)):=by
 have h8:=hok.b8;have hC:=(hok.c h0).ok;have hS:=hok.so h0;have hcs:=tU (hok.cs h0);have hb8:=hS.bd.l2;have n1:e.kind≠1:=λ h=>by
  rw[h] at hp;have:ff 1 S.ph=(S.ph==0):=by rw[ff,if_pos rfl]
  rw[this] at hp; exact h0 (by simpa using hp)
 have mY:St w0 w (Sep (eP b S g C++[Sep [held Q,B]])):=St.cat ((s.split (eP b S g C)).eqv (bg.right (bg.unit _)));have unf:∀ {w' : World} {S' : Sx} {C' : Ck},St w0 w' (Sep (eP b S' g C'++[Sep [held Q,B]]))->St w0 w' (Sep (eP b S' g C'++[held Q,B])):=λ s=>s.dR [_,_,_,_,_,_,_];have boxed:∀ {w' : World} {S' : Sx} {C' : Ck},St w0 w' (Sep (eP b S' g C'++[held Q,B]))->St w0 w' (Sep [ah b S'.cells.toArray 114,held Q,B]):=λ s=>s.aA [0,7,8];have hb:0<=e.bidder:=he.b.1;have eb:e.bidder=(e.bidder.toNat:Int):=(Int.toNat_of_nonneg hb).symm
 by_cases h2:e.kind=2
 ·have hnb:=hn (by rw[bF,dT (Or.inl h2)]);have eF:fV e.kind=91:=by rw[fV,if_neg n1,if_pos h2]
  have eE:dy S C e=lH C e.bidder.toNat (C.s.bd.getD e.bidder.toNat PR) e.want:=by rw[dy,if_neg n1,if_pos h2]
  have eS:bA S C e=S:=by rw[bA,if_neg n1,if_pos h2]
  have eC:cY S C e=sO C e.bidder.toNat e.want:=by rw[cY,if_neg n1,if_pos h2]
  rw[eF];refine aq (LV mY h8 hk hC eb (getD_at (d:=PR) (by rw[hcs]; omega))) ?_;rintro v w1 ⟨rfl,s1⟩;refine⟨_,rfl,by rw[eE],λ h=>⟨S,h8,boxed (unf s1)⟩,λ h=>?_⟩;rw[eE] at h;rw[if_pos h] at s1;exact⟨S,sO C e.bidder.toNat e.want,by rw[eS],by rw[eC],⟨g,hk⟩,iQ (unf s1) hk hQ⟩
 by_cases h34:e.kind=3\/e.kind=4
 ·have eF:fV e.kind=92:=by rw[fV,if_neg n1,if_neg h2,if_pos h34]
  have eE:dy S C e=if C.ov then 10 else 0:=by rw[dy,if_neg n1,if_neg h2,if_pos h34]
  rw[eF];refine aq (O9 mY h8 hk hC e) ?_;rintro v w1 ⟨x,S',C',rfl,h8',hk',hx,hov,s1⟩;refine⟨_,rfl,by rw[eE,hx],λ h=>⟨S',h8',boxed (unf s1)⟩,λ h=>?_⟩;have ho:C.ov=false:=by
   cases hv:C.ov with
   | false=>rfl
   | true=>rw[eE,hv] at h; cases h
  obtain⟨c1,c2⟩:=hov ho;refine⟨S',C',?_,?_,⟨g,hk'.trans hk⟩,iQ (unf s1) (hk'.trans hk) λ w h=>?_⟩
  ·rw[bA,if_neg n1,if_neg h2,c2]
   by_cases h3:e.kind=3
   ·rw[if_pos h3,if_pos h3]
   ·rw[if_neg h3,if_neg h3,if_pos (h34.resolve_left h3)]; rfl
  ·rw[cY,if_neg n1,if_neg h2,c1]
   by_cases h3:e.kind=3
   ·rw[if_pos h3,if_pos h3]
   ·rw[if_neg h3,if_neg h3,if_pos (h34.resolve_left h3)]
  ·have:S'.s=S.s/\S'.bd=S.bd:=by
    rw[c2];constructor<;>(repeat' split)<;>rfl
   unfold Kw;rw[this.1,this.2]; exact hQ w h
 have n3:e.kind≠3:=λ h=>h34 (.inl h);have n4:e.kind≠4:=λ h=>h34 (.inr h)
 by_cases h5:e.kind=5
 ·have hnb:=hn (by rw[bF,dT (Or.inr (Or.inl h5))]);have eF:fV e.kind=93:=by rw[fV,if_neg n1,if_neg h2,if_neg h34,if_pos h5]
  have eE:dy S C e=fP S.s C e.bidder.toNat (S.s.bd.getD e.bidder.toNat PR) e.text:=by rw[dy,if_neg n1,if_neg h2,if_neg h34,if_pos h5]
  have eS:bA S C e=rq S e.bidder.toNat (bM S.s.ps e.text).1:=by rw[bA,if_neg n1,if_neg h2,if_neg n3,if_neg n4,if_pos h5]
  have eC:cY S C e=C:=by rw[cY,if_neg n1,if_neg h2,if_neg n3,if_neg n4,if_neg (by omega),if_neg (by omega)]
  rw[eF];refine aq (V0 (Q:=Q) (λ w h=>(hQ w h).1) s h8 hk hC hS eb (by rw[hcs]; omega) (getD_at (d:=PR) (by omega))) ?_;rintro v w1 ⟨rfl,k1,k2⟩;refine⟨_,rfl,by rw[eE],λ h=>⟨S,h8,boxed (k1 (by rw[<- eE]; exact h))⟩,λ h=>?_⟩;obtain⟨x,ex,s1⟩:=k2 (by rw[<- eE]; exact h);have s2:=(s1.aA [7,8,0,1,2,3,4,5,6,9]).pK (S:=Kw (rq S e.bidder.toNat x)) (bu _) (bu _) (λ w h1 h2=>⟨(hQ w h1).1,λ y hy=>by
   rcases List.mem_or_eq_of_mem_set hy with hy|rfl
   ·exact(hQ w h1).2 y hy
   ·exact h2⟩)
  have s3:St w0 w1 (Sep (eP b (rq S e.bidder.toNat x) g C++[held (Kw (rq S e.bidder.toNat x)),B])):=s2.aA [1,2,3,4,5,6,7,0,8];refine⟨rq S e.bidder.toNat x,C,by rw[eS]; exact Ut (by rw[<- ex,PM]),by rw[eC],⟨g,hk⟩,iQ s3 hk λ w h=>h⟩
 have dropQ:∀ {S' : Sx} {w:World},S'.s=S.s->(∀ y∈S'.bd,y∈S.bd\/(y.x=fj/\y.has=false))->Q w->Kw S' w:=λ e1 e2 h=>⟨by rw[e1]; exact(hQ _ h).1,λ y hy=>by
  rcases e2 y hy with h1|⟨h1,_⟩
  ·exact(hQ _ h).2 y h1
  ·rw[h1]; exact G5 _⟩
 have s' : St w0 w (Sep (ah b S.cells.toArray 114 :: (fO g C++[held Q,B]))):=s
 by_cases h6:e.kind=6
 ·have hnb:=hn (by rw[bF,dT (Or.inr (Or.inr (Or.inl h6)))]);have eF:fV e.kind=94:=by rw[fV,if_neg n1,if_neg h2,if_neg h34,if_neg h5,if_pos h6]
  have eE:dy S C e=if (S.bd.getD e.bidder.toNat cP).has then 0 else 6:=by rw[dy,if_neg n1,if_neg h2,if_neg h34,if_neg h5,if_pos h6]
  have eS:bA S C e=bx S e.bidder.toNat:=by rw[bA,if_neg n1,if_neg h2,if_neg n3,if_neg n4,if_neg h5,if_pos h6]
  have eC:cY S C e=C:=by rw[cY,if_neg n1,if_neg h2,if_neg n3,if_neg n4,if_neg (by omega),if_neg (by omega)]
  rw[eF];refine aq (IU s' h8 (by omega) eb) ?_;rintro v w1 (⟨hh,rfl,s1⟩|⟨hh,rfl,s1⟩)
  ·exact⟨_,rfl,by rw[eE,hh]; rfl,λ _=>⟨S,h8,boxed s1⟩,λ h=>by rw[eE,hh] at h; cases h⟩
  ·refine⟨_,rfl,by rw[eE,hh]; rfl,λ h=>absurd (by rw[eE,hh]; rfl) h,λ _=>⟨bx S e.bidder.toNat,C,by rw[eS],by rw[eC],⟨g,hk⟩,iQ (show St w0 w1 (Sep (eP b (bx S e.bidder.toNat) g C++[held Q,B])) from s1) hk λ w h=>dropQ rfl (λ y hy=>qU hy) h⟩⟩
 by_cases h7:e.kind=7
 ·have hnb:=hn (by rw[bF,dT (Or.inr (Or.inr (Or.inr h7)))]);have eF:fV e.kind=95:=by rw[fV,if_neg n1,if_neg h2,if_neg h34,if_neg h5,if_neg h6,if_pos h7]
  have eE:dy S C e=if C.dp.getD e.bidder.toNat false then 10 else 0:=by rw[dy,if_neg n1,if_neg h2,if_neg h34,if_neg h5,if_neg h6,if_pos h7]
  have eS:bA S C e=bx (fQ S e.bidder.toNat) e.bidder.toNat:=by rw[bA,if_neg n1,if_neg h2,if_neg n3,if_neg n4,if_neg h5,if_neg h6,if_pos h7]
  have eC:cY S C e=kD C e.bidder.toNat:=by rw[cY,if_neg n1,if_neg h2,if_neg n3,if_neg n4,if_pos h7]
  have hgd:∀ {v:Bool},C.dp[e.bidder.toNat]?=some v->C.dp.getD e.bidder.toNat false=v:=λ h=>by rw[List.getD_eq_getElem?_getD,h]; rfl
  rw[eF];refine aq (Sv mY h8 hk hC eb (by rw[hcs]; omega)) ?_;have hq:∀ w,Q w->Kw (bx (fQ S e.bidder.toNat) e.bidder.toNat) w:=λ w h=>⟨(hQ w h).1,λ y hy=>by
   rcases qU hy with h1|⟨h1,_⟩
   ·obtain⟨z,hz,e1,_⟩:=JN (by omega) h1;rw[e1]; exact(hQ w h).2 z hz
   ·rw[h1]; exact G5 _⟩
  rintro v w1 (⟨hd,rfl,s1⟩|⟨hd,rfl,s1⟩)
  ·exact⟨_,rfl,by rw[eE,hgd hd]; rfl,λ _=>⟨_,by simp[bx,fQ,h8],boxed (unf s1)⟩,λ h=>by rw[eE,hgd hd] at h; cases h⟩
  ·exact⟨_,rfl,by rw[eE,hgd hd]; rfl,λ h=>absurd (by rw[eE,hgd hd]; rfl) h,λ _=>⟨bx (fQ S e.bidder.toNat) e.bidder.toNat,_,by rw[eS],by rw[eC],⟨g,hk⟩,iQ (unf s1) hk hq⟩⟩
 by_cases h8' : e.kind=8
 ·have eF:fV e.kind=96:=by rw[fV,if_neg n1,if_neg h2,if_neg h34,if_neg h5,if_neg h6,if_neg h7,if_pos h8']
  have eE:dy S C e=if cO C e.round then 4 else 0:=by rw[dy,if_neg n1,if_neg h2,if_neg h34,if_neg h5,if_neg h6,if_neg h7,if_pos h8']
  have eS:bA S C e={ bN S 8 with ph:=1 }:=by rw[bA,if_neg n1,if_neg h2,if_neg n3,if_neg n4,if_neg h5,if_neg h6,if_neg h7,if_pos h8']
  have eC:cY S C e=fG C e.round.toNat:=by rw[cY,if_neg n1,if_neg h2,if_neg n3,if_neg n4,if_neg h7,if_pos h8']
  have hsk:∀ k,(bN S k).k=S.k/\(bN S k).s=S.s:=λ k=>by
   induction k with
   | zero=>exact⟨rfl,rfl⟩
   | succ k ih=>exact ih
  rw[eF];refine aq (O8 mY h8 hk hC e) ?_;rintro v w1 (⟨hd,rfl,s1⟩|⟨hd,rfl,C',eC',s1⟩)
  ·exact⟨_,rfl,by rw[eE,hd]; rfl,λ _=>⟨S,h8,boxed (unf s1)⟩,λ h=>by rw[eE,hd] at h; cases h⟩
  ·exact⟨_,rfl,by rw[eE,hd]; rfl,λ h=>absurd (by rw[eE,hd]; rfl) h,λ _=>⟨{ bN S 8 with ph:=1 },C',by rw[eS],by rw[eC,eC'],⟨g,(hsk 8).1.trans hk⟩,iQ (unf s1) ((hsk 8).1.trans hk) λ w h=>dropQ (hsk 8).2 (λ y hy=>td 8 hy) h⟩⟩
 ·have eF:fV e.kind=97:=by rw[fV,if_neg n1,if_neg h2,if_neg h34,if_neg h5,if_neg h6,if_neg h7,if_neg h8']
  have eE:dy S C e=0:=by rw[dy,if_neg n1,if_neg h2,if_neg h34,if_neg h5,if_neg h6,if_neg h7,if_neg h8']
  have eS:bA S C e=mW S e:=by rw[bA,if_neg n1,if_neg h2,if_neg n3,if_neg n4,if_neg h5,if_neg h6,if_neg h7,if_neg h8']
  have eC:cY S C e=C:=by rw[cY,if_neg n1,if_neg h2,if_neg n3,if_neg n4,if_neg h7,if_neg h8']
  have hf:(mW S e).k=S.k/\(mW S e).s=S.s/\(mW S e).bd=S.bd:=by unfold mW; split<;>exact⟨rfl,rfl,rfl⟩
  rw[eF];refine aq (Nl s' h8 e) ?_;rintro v w1 ⟨rfl,s1⟩;exact⟨_,rfl,by rw[eE],λ h=>absurd eE h,λ _=>⟨mW S e,C,by rw[eS],by rw[eC],⟨g,hf.1.trans hk⟩,iQ (show St w0 w1 (Sep (eP b (mW S e) g C++[held Q,B])) from s1) (hf.1.trans hk) λ w h=>dropQ hf.2.1 (λ y hy=>.inl (by rw[hf.2.2] at hy; exact hy)) h⟩⟩
def WC:Option Addr->Ck->aJ
 | none,_=>emp
 | some q,C=>Sep (fO q.block C)
theorem OC{k:Int}(h1:1<=k)(h:ff k 0=true):k=1:=by
 by_cases g:k=1
 ·exact g
 ·unfold ff at h;rw[if_neg g] at h
  repeat' split at h
  all_goals first|(revert h; decide)|cases h
theorem UK{Q:World->Prop}(hQ:∀ w,Q w->Kw S w)(s:St w0 w (Sep [ah b S.cells.toArray 114,WC S.k C,held Q,B]))(hok:ET S C)(hk:PX S){e:Ev}(he:e.WE)(h1:1<=e.kind)(hp:ff e.kind S.ph=true)(hn:bF e.kind=true->e.bidder<S.s.bd.length) :
  Calls prog (fV e.kind) #[pt b,e.v] w (xK (Uf w0 b S C e Q B)):=by
 by_cases h0:S.ph=0
 ·have e1:=hk.1 h0;rw[e1] at s;rw[h0] at hp;exact UI hQ (s.aA [0,2,3]) hok.b8 he (OC h1 hp)
 ·obtain⟨g,hg⟩:=hk.2 h0;rw[hg] at s;have s1:St w0 w (Sep (Sep (fO g C) :: [ah b S.cells.toArray 114,held Q,B])):=s.aA [1,0,2,3];have s2:St w0 w (Sep (fO g C++[ah b S.cells.toArray 114,held Q,B])):=St.cat s1;exact UJ hQ (s2.aA [6,0,1,2,3,4,5,7,8]) hok h0 hg he hp hn
theorem Jf(hS:qG S C w)(hok:ET S C)(hk:PX S):CP 52 #[.pointer S.k] w (λ r w'=>∃ (p:OA) (C' : Ck),r=.pointer p/\C'.er=C.er/\PX { S with k:=p }/\St w w' (WC p C')):=by
 by_cases h0:S.ph=0
 ·rw[hk.1 h0];refine aq (K:=λ r w'=>r=.pointer none/\w' = w) (o5 ⟨rfl,rfl⟩) ?_;rintro v w1 ⟨rfl,rfl⟩;exact⟨_,rfl,none,C,rfl,rfl,⟨λ _=>rfl,λ h=>absurd h0 h⟩,St.start w1⟩
 ·obtain⟨g,hg⟩:=hk.2 h0;obtain⟨g',e,hrd⟩:=hS.k _ hg
  cases e
  rw[hg];refine aq (Hy hrd (hok.c h0).ok) ?_;rintro v w1 ⟨g2,C',eC,rfl,k1⟩;exact⟨_,rfl,some ⟨g2,0,none⟩,C',rfl,eC,⟨λ h=>absurd h h0,λ _=>⟨g2,rfl⟩⟩,k1⟩
end
theorem Ph{S:Sx}{b0 b1 b2 b3 b4 b5 b6 b7:Bd}(h:S.bd=[b0,b1,b2,b3,b4,b5,b6,b7]):S.cells=(iv S.o.step :: (iv S.o.pct :: (iv S.o.und :: (iv S.o.rule :: (iv S.ph :: (.slice S.s.a1 S.s.ps.length S.s.c1 :: (.slice S.s.a2 S.s.bd.length S.s.c2 :: (.slice S.s.a3 S.s.cp.length S.s.c3 :: (.slice S.s.a4 S.s.sa.length S.s.c4 :: (.pointer S.k :: (iv b0.x.op :: (b0.x.u.on (iv b0.x.v :: (.slice b0.x.a b0.x.args.length b0.x.c :: (.bool b0.has :: (.bool b0.out :: (iv b1.x.op :: (b1.x.u.on (iv b1.x.v :: (.slice b1.x.a b1.x.args.length b1.x.c :: (.bool b1.has :: (.bool b1.out :: (iv b2.x.op :: (b2.x.u.on (iv b2.x.v :: (.slice b2.x.a b2.x.args.length b2.x.c :: (.bool b2.has :: (.bool b2.out :: (iv b3.x.op :: (b3.x.u.on (iv b3.x.v :: (.slice b3.x.a b3.x.args.length b3.x.c :: (.bool b3.has :: (.bool b3.out :: (iv b4.x.op :: (b4.x.u.on (iv b4.x.v :: (.slice b4.x.a b4.x.args.length b4.x.c :: (.bool b4.has :: (.bool b4.out :: (iv b5.x.op :: (b5.x.u.on (iv b5.x.v :: (.slice b5.x.a b5.x.args.length b5.x.c :: (.bool b5.has :: (.bool b5.out :: (iv b6.x.op :: (b6.x.u.on (iv b6.x.v :: (.slice b6.x.a b6.x.args.length b6.x.c :: (.bool b6.has :: (.bool b6.out :: (iv b7.x.op :: (b7.x.u.on (iv b7.x.v :: (.slice b7.x.a b7.x.args.length b7.x.c :: (.bool b7.has :: (.bool b7.out :: [.int .u64 S.dec,iv S.cnt,.int .u64 S.dig])))))))))))))))))))))))))))))))))))))))))))))))))))))))))):=by
 rw[Sx.cells,h]; rfl
theorem HE(k:Int):bU prog (fV k)=true:=by
 unfold fV
 repeat' split
 all_goals kernel_rfl
theorem DF{e:Ev}(h:cQ e=0):1<=e.kind:=by
 unfold cQ at h
 split at h
 ·cases h
 ·rename_i g
  by_cases h1:1<=e.kind
  ·exact h1
  ·exact absurd (Or.inl λ h=>h1 h.1) g
def mG(S:Sx)(e:Ev):Int :=
 if cQ e≠0 then cQ e else if 600<=S.cnt then 18 else if ff e.kind S.ph=false then 10
 else if bF e.kind=true/\(S.s.bd.length:Int)<=e.bidder then 6 else if bF e.kind=true/\(S.bd.getD e.bidder.toNat cP).out=true then 10 else 0
def Da(S:Sx)(C:Ck)(e:Ev):Int:=if mG S e≠0 then mG S e else dy S C e
def G9(S:Sx)(C:Ck)(e:Ev):Sx:={ bA S C e with cnt:=S.cnt+1,dig:=((aI S.dig.toNat (aW e):Nat):Int) }
abbrev WR (S:Sx) (C:Ck) (e:Ev):Ck:=cY S C e
theorem AI(S:Sx):∀ k,(bN S k).cnt=S.cnt/\(bN S k).dig=S.dig
 | 0=>⟨rfl,rfl⟩
 | k+1=>AI S k
theorem Fh(S:Sx)(C:Ck)(e:Ev):(bA S C e).cnt=S.cnt/\(bA S C e).dig=S.dig:=by
 unfold bA
 split
 ·exact⟨rfl,rfl⟩
 split
 ·exact⟨rfl,rfl⟩
 split
 ·split<;>exact⟨rfl,rfl⟩
 split
 ·exact⟨rfl,rfl⟩
 split
 ·exact⟨rfl,rfl⟩
 split
 ·exact⟨rfl,rfl⟩
 split
 ·exact⟨rfl,rfl⟩
 split
 ·have h:=AI S 8;generalize bN S 8=X at h;exact h
 ·unfold mW
  split<;>exact⟨rfl,rfl⟩
theorem qh{S:Sx}(h:S.bd.length=8):∀ k,(bN S k).bd.length=8
 | 0=>h
 | k+1=>by rw[bN,bx,List.length_set]; exact qh h k
theorem Fi{S:Sx}(h:S.bd.length=8)(C:Ck)(e:Ev):(bA S C e).bd.length=8:=by
 unfold bA
 split
 ·exact h
 split
 ·exact h
 split
 ·split<;>exact h
 split
 ·exact h
 split
 ·rw[rq,List.length_set]; exact h
 split
 ·rw[bx,List.length_set]; exact h
 split
 ·rw[bx,List.length_set,fQ,List.length_set]; exact h
 split
 ·exact qh h 8
 ·unfold mW
  split<;>exact h
theorem BV{e:Ev}(h:cQ e=0):(aW e).length<=4000:=by
 unfold cQ at h
 split at h
 ·cases h
 ·split at h
  ·cases h
  ·split at h
   ·cases h
   ·rename_i g; omega
theorem XY{S:Sx}(h:S.bd.length=8)(x:Int):S.cells.toArray.setIfInBounds 99 (iv x)=({ S with cnt:=x }:Sx).cells.toArray:=by
 obtain⟨o,ph,s,k,bd,dec,cnt,dig⟩:=S;obtain⟨b0,b1,b2,b3,b4,b5,b6,b7,rfl⟩:=cq h;rfl
theorem XZ{S:Sx}(h:S.bd.length=8)(x:Int):S.cells.toArray.setIfInBounds 100 (.int .u64 x)=({ S with dig:=x }:Sx).cells.toArray:=by
 obtain⟨o,ph,s,k,bd,dec,cnt,dig⟩:=S;obtain⟨b0,b1,b2,b3,b4,b5,b6,b7,rfl⟩:=cq h;rfl
theorem Pj{S:Sx}(h:S.bd.length=8):S.cells.toArray[99]?=some (iv S.cnt):=by
 obtain⟨o,ph,s,k,bd,dec,cnt,dig⟩:=S;obtain⟨b0,b1,b2,b3,b4,b5,b6,b7,rfl⟩:=cq h;rfl
theorem SN{S:Sx}(h:S.bd.length=8):S.cells.toArray[100]?=some (.int .u64 S.dig):=by
 obtain⟨o,ph,s,k,bd,dec,cnt,dig⟩:=S;obtain⟨b0,b1,b2,b3,b4,b5,b6,b7,rfl⟩:=cq h;rfl
theorem Pm{S:Sx}(h:S.bd.length=8){i:Nat}(hi:i<8){y:Bd}(hy:S.bd[i]?=some y):S.cells.toArray[10+i*11+10]?=some (.bool y.out):=by
 obtain⟨o,ph,s,k,bd,dec,cnt,dig⟩:=S;obtain⟨b0,b1,b2,b3,b4,b5,b6,b7,rfl⟩:=cq h
 match i,hi with
 | 0,_|1,_|2,_|3,_|4,_|5,_|6,_|7,_=>cases hy; rfl
theorem Pk(S:Sx):∀ v∈S.cells,v.oneCell' = true:=by
 intro v hv;simp only[Sx.cells,Po.cells,Se.arr,List.mem_append,List.mem_cons,List.mem_nil_iff,or_false,List.mem_flatMap,Bd.cells] at hv;rcases hv with(rfl|rfl|rfl|rfl)|rfl|(rfl|rfl|rfl|rfl)|rfl|(⟨y,_,h|rfl|rfl⟩)|rfl|rfl|rfl
 all_goals first|rfl|exact Xv.one _ _ h
section
variable {w0 w:World} {b:Nat} {S:Sx} {C:Ck} {B:aJ}
theorem CB{r1 r3 r4:Nat}{x:Int}{X:Sx}{L:List aJ}(s:St w0 w (Sep (ah r4 S.cells.toArray 114 :: ah r3 #[iv x] 30 :: ah r1 #[pt b] 33 :: ah b X.cells.toArray 114 :: L)))(h8:S.bd.length=8)(hX:X.bd.length=8){R:World->Prop}(k0:x=0->R w)(k1:x≠0->∀ w',St w0 w' (Sep (ah r4 S.cells.toArray 114 :: ah r3 #[iv x] 30 :: ah r1 #[pt b] 33 :: ah b S.cells.toArray 114 :: L))->R w') :
  Hi prog 51 #[pt r3,pt r4,pt r1] w R:=by
 obtain⟨b0,b1,b2,b3,b4,b5,b6,b7,hb⟩:=cq h8;refine nG ?_;unfold jh;refine⟨_,s.ag 1 rfl 0,?_⟩
 by_cases h0:x=0
 ·exact cF (by simpa using h0) ⟨rfl,k0 h0⟩
 ·have hcl:af w ⟨r4,0,none⟩ 0 S.cells:=s.cellsIn 0 rfl;have hlen:S.cells.length=101:=Sx.len h8;have hone:=Pk S;have e1:=Ph hb;rw[e1] at hcl hlen hone;refine cT (by simpa using h0) ⟨_,s.ag 2 rfl 0,_,_,_,_,_,_,_,_,_,_,_,_,_,_,_,_,_,_,_,b0.x.u,_,_,_,_,_,_,_,b1.x.u,_,_,_,_,_,_,_,b2.x.u,_,_,_,_,_,_,_,b3.x.u,_,_,_,_,_,_,_,b4.x.u,_,_,_,_,_,_,_,b5.x.u,_,_,_,_,_,_,_,b6.x.u,_,_,_,_,_,_,_,b7.x.u,_,_,_,_,_,_,_,_,_,hcl,ay rfl (s.aE 3 rfl _ ?_ hone λ w1 s1=>⟨rfl,k1 h0 w1 ?_⟩)⟩
  ·rw[hlen,eY hX]
  ·rw[<- e1] at s1; exact s1
def ZG(w0:World)(b:Nat)(S:Sx)(C:Ck)(e:Ev)(B:aJ):KP:=λ r w'=>r=iv (Da S C e) /\
 (Da S C e≠0->St w0 w' (Sep [ah b S.cells.toArray 114,held (qG S C),B])) /\
 (Da S C e=0->∃ (S' : Sx) (C' : Ck),S'.er=(G9 S C e).er/\C'.er=(WR S C e).er/\(∃ g,S'.k=some ⟨g,0,none⟩)/\St w0 w' (Sep [ah b S'.cells.toArray 114,held (qG S' C'),B]))
theorem P5(s:St w0 w (Sep [ah b S.cells.toArray 114,held (qG S C),B]))(hok:ET S C)(hk:PX S){e:Ev}(hi:e.In) :
  CP 17 #[pt b,e.v] w ((ZG w0 b S C e B)):=by
 have h8:=hok.b8;obtain⟨b0,b1,b2,b3,b4,b5,b6,b7,hb⟩:=cq h8;refine qk (u1:=e.want) ?_;unfold kO;refine s.aB #[pt b] λ r1 w1 s1=>s1.aB e.cells.toArray λ r2 w2 s2=>s2.aB #[iv 0] λ r3 w3 s3=>?_;let M:Int->List aJ:=λ x=>[ah r3 #[iv x] 30,ah r2 e.cells.toArray 43,ah r1 #[pt b] 33,ah b S.cells.toArray 114,held (qG S C),B];have s3:St w0 w3 (Sep (M 0)):=s3;have fin:∀ {x:Int} {w' : World},x≠0->mG S e=x->St w0 w' (Sep (M 0))->aS w' ⟨r3,0,none⟩ (iv x) λ w6=>∃ n:Int,w6.cell? ⟨r3,0,none⟩=some (iv n)/\ZG w0 b S C e B (iv n) w6:=λ {x w'} hx hs s =>
  s.aM 0 rfl (by show 0<1; decide) rfl λ w6 s6=>⟨_,s6.ag 0 rfl 0,by
   have:Da S C e=x:=by rw[Da,if_pos (by rw[hs]; exact hx),hs]
   exact⟨by rw[this],λ _=>s6.aA [3,4,5],λ h=>absurd (this.symm.trans h) hx⟩⟩
 refine⟨_,s3.ag 2 rfl 0,cF rfl ⟨_,_,_,e.want,_,_,s3.cellsIn 1 rfl,aq (BW w3 hi) ?_⟩⟩;rintro v w5 ⟨rfl,c5⟩;have s5:=s3.quiet c5;refine⟨_,rfl,?_⟩
 by_cases he : ¬ cQ e=0
 ·exact cT (by simpa using he) (fin he (by rw[mG,if_pos he]) s5)
 have he:cQ e=0:=by simpa using he
 have hR:=ju he hi.d;have hR1:1<=e.kind:=DF he;have e1:mG S e=if 600<=S.cnt then 18 else if ff e.kind S.ph=false then 10 else if bF e.kind=true/\(S.s.bd.length:Int)<=e.bidder then 6 else if bF e.kind=true/\(S.bd.getD e.bidder.toNat cP).out=true then 10 else 0:=by rw[mG,if_neg (λ h=>h he)]
 have c99:∀ {w' : World} {l:List aJ} {i:Nat},St w0 w' (Sep l)->l[i]?=some (ah b S.cells.toArray 114)->w'.cell? ⟨b,99,none⟩=some (iv S.cnt):=λ s e=>by rw[s.ag _ e]; exact Pj h8
 refine cF (by simpa using he) ⟨_,s5.ag 2 rfl 0,ay rfl ⟨_,c99 s5 (i:=3) rfl,?_⟩⟩
 by_cases h600:600<=S.cnt
 ·exact cT (dT h600) (fin (by decide) (by rw[e1,if_pos h600]) s5)
 rw[if_neg h600] at e1;have s6:=s5.quiet (aD.drew w5 []);refine cF (dF h600) ⟨_,s6.ag 1 rfl 0,_,s6.ag 2 rfl 0,ay rfl ⟨_,(s6.ag 3 rfl 4).trans rfl,aq (Io _ _ _) ?_⟩⟩;rintro v w8 ⟨rfl,rfl⟩;refine⟨_,rfl,?_⟩
 cases hp:ff e.kind S.ph with
 | false=>exact cT rfl (fin (by decide) (by rw[e1,if_pos hp]) s6)
 | true =>
 rw[if_neg (by rw[hp]; decide)] at e1;refine cF rfl ⟨λ bb w10=>bb=decide (bF e.kind=true/\(S.s.bd.length:Int)<=e.bidder)/\St w0 w10 (Sep (M 0)),?_,?_⟩
 rotate_left
 ·have s7:=s6.quiet (aD.drew w5.drew []);refine⟨_,s7.ag 1 rfl 0,aq (JP _ _) ?_⟩;rintro v w30 ⟨rfl,rfl⟩;refine⟨_,rfl,?_⟩
  cases hn:bF e.kind with
  | true =>
   refine cT rfl ⟨_,s7.ag 1 rfl 1,_,s7.ag 2 rfl 0,ay rfl ⟨_,_,_,(s7.ag 3 rfl 6).trans rfl,?_,s7⟩⟩
   by_cases hl:e.bidder>=(S.s.bd.length:Int)
   ·rw[dT hl,dT ⟨rfl,hl⟩]
   ·rw[dF hl,dF λ h=>hl h.2]
  | false=>exact cF rfl ⟨by rw[dF λ h=>by cases h.1],s7⟩
 rintro w10 bb ⟨rfl,s10⟩ x1
 by_cases hq:bF e.kind=true/\(S.s.bd.length:Int)<=e.bidder
 ·exact cT (dT hq) (fin (by decide) (by rw[e1,if_pos hq]) s10)
 rw[if_neg hq] at e1;have hnb:bF e.kind=true->e.bidder<S.s.bd.length:=λ h=>by
  rcases Int.lt_or_le e.bidder S.s.bd.length with h1|h1
  ·exact h1
  ·exact absurd ⟨h,h1⟩ hq
 refine cF (dF hq) ⟨λ bb w12=>bb=decide (bF e.kind=true/\(S.bd.getD e.bidder.toNat cP).out=true)/\St w0 w12 (Sep (M 0)),?_,?_⟩
 rotate_left
 ·have s11:=s10.quiet (aD.drew w10 []);refine⟨_,s11.ag 1 rfl 0,aq (JP _ _) ?_⟩;rintro v w29 ⟨rfl,rfl⟩;refine⟨_,rfl,?_⟩
  cases hn:bF e.kind with
  | true =>
   have hb8:0<=e.bidder/\e.bidder<8:=hR.b;have eb:e.bidder=(e.bidder.toNat:Int):=(Int.toNat_of_nonneg hb8.1).symm;have co:w10.drew.cell? (Addr.add (Addr.add (Addr.add ⟨b,0,none⟩ 10) ((e.bidder).toNat*11)) 10)=some (.bool (S.bd.getD e.bidder.toNat cP).out):=by
    rw[aZ,aZ,aZ,s11.ag 3 rfl];rw[show 0+10+e.bidder.toNat*11+10=10+e.bidder.toNat*11+10 by omega];exact Pm h8 (by omega) (getD_at (by omega))
   refine cT rfl ⟨_,s11.ag 2 rfl 0,_,s11.ag 1 rfl 1,ay rfl ⟨hb8.1,by omega,_,co,?_,s11⟩⟩
   cases ho:(S.bd.getD e.bidder.toNat cP).out with
   | true=>rw[dT ⟨rfl,rfl⟩]
   | false=>rw[dF λ h=>by cases h.2]
  | false=>exact cF rfl ⟨by rw[dF λ h=>by cases h.1],s11⟩
 rintro w12 bb ⟨rfl,s12⟩ x2
 by_cases ho:bF e.kind=true/\(S.bd.getD e.bidder.toNat cP).out=true
 ·exact cT (dT ho) (fin (by decide) (by rw[e1,if_pos ho]) s12)
 rw[if_neg ho] at e1;have eA:Da S C e=dy S C e:=by rw[Da,if_neg (λ h=>h e1)]
 have hcl:af w12 ⟨b,0,none⟩ 0 S.cells:=s12.cellsIn 3 rfl;have hlen:S.cells.length=101:=Sx.len h8;have hone:=Pk S;have eS:=Ph hb;rw[eS] at hcl hlen hone;refine cF (dF ho) ⟨_,s12.ag 2 rfl 0,ay rfl ⟨_,_,_,_,_,_,_,_,_,_,_,_,_,_,_,_,_,_,_,b0.x.u,_,_,_,_,_,_,_,b1.x.u,_,_,_,_,_,_,_,b2.x.u,_,_,_,_,_,_,_,b3.x.u,_,_,_,_,_,_,_,b4.x.u,_,_,_,_,_,_,_,b5.x.u,_,_,_,_,_,_,_,b6.x.u,_,_,_,_,_,_,_,b7.x.u,_,_,_,_,_,_,_,_,_,hcl,s12.aB (pQ ⟨0,0,0,0⟩).cells.toArray λ r4 w14 s14=>s14.aE 0 rfl _ (by rw[hlen]; rfl) hone λ w15 s15=>?_⟩⟩;rw[<- eS] at s15;have s16:=s15.quiet (aD.drew w15 []);have s16:St w0 w15.drew (Sep (ah r4 S.cells.toArray 114 :: M 0)):=s16;refine⟨_,s16.ag 3 rfl 0,_,s16.ag 3 rfl 0,ay rfl ⟨S.k,by rw[aZ,s16.ag 4 rfl]; exact mI h8,?_⟩⟩;refine aq (Jf (s16.bB 5 rfl) hok hk) ?_;rintro v w16 ⟨p,C1,rfl,eC1,hk1,k16⟩;let S1:Sx:={ S with k:=p };have e1S:S1.er=S.er:=rfl;have hok1:ET S1 C1:=⟨h8,hok.ph,hok.z,λ h=>(hok.c h).er eC1,λ h=>(show C1.er.s=C.er.s from congrArg Ck.s eC1).trans (hok.cs h),hok.so,hok.cnt,hok.dig,hok.x⟩;have s17:St w0 w16 (Sep (WC p C1 :: ah r4 S.cells.toArray 114 :: M 0)):=s16.and k16;refine⟨_,rfl,s17.ag 4 rfl 0,ay rfl ?_⟩;rw[aZ];refine s17.aM 5 rfl (j:=0+9) (by show 0+9<S.cells.toArray.size; rw[eY h8]; decide) rfl λ w17 s18=>?_;rw[show 0+9=9 from rfl,X0 h8] at s18;refine⟨_,s18.ag 4 rfl 0,_,s18.ag 3 rfl 0,aq (MW w17 b e.kind) ?_⟩;rintro v w18 ⟨rfl,rfl⟩;refine⟨_,rfl,_,s18.ag 4 rfl 0,_,_,_,e.want,_,_,s18.cellsIn 3 rfl,bO (HE e.kind) ?_⟩;have s19:St w0 w18 (Sep [ah b S1.cells.toArray 114,WC S1.k C1,held (qG S C),Sep [ah r4 S.cells.toArray 114,ah r3 #[iv 0] 30,ah r2 e.cells.toArray 43,ah r1 #[pt b] 33,B]]) :=
  St.cat (((s18.aA [5,0,6,1,2,3,4,7]).split [_,_,_]).eqv (bg.right (bg.unit _)))
 refine aq (UK (S:=S1) (λ w h=>(show Kw S1 w from h.h)) s19 hok1 hk1 hR hR1 hp hnb) ?_;rintro v w19 ⟨rfl,k1,k2⟩;have eE1:dy S1 C1 e=dy S C e:=by rw[<- DB S1 C1,eC1,e1S,DB]
 have eS1:(bA S1 C1 e).er=(bA S C e).er:=by rw[<- DC S1 C1,eC1,e1S,DC]
 have eC2:(cY S1 C1 e).er=(cY S C e).er:=by rw[<- DA S1 C1,eC1,e1S,DA]
 rw[eE1] at k1 k2 ⊢
 by_cases h0:dy S C e=0
 ·obtain⟨S',C',eS',eC',⟨g,hg⟩,s20⟩:=k2 h0;have s20:St w0 w19 (Sep ([ah b S'.cells.toArray 114,held (qG S' C')]++[ah r4 S.cells.toArray 114,ah r3 #[iv 0] 30,ah r2 e.cells.toArray 43,ah r1 #[pt b] 33,B])):=s20.dR [_,_];have eS3:=eS'.trans eS1;have h8' : S'.bd.length=8:=by
   have e1:S'.er.bd.length=(bA S C e).er.bd.length:=by rw[eS3]
   have e2:S'.er.bd.length=S'.bd.length:=List.length_map _;have e3:(bA S C e).er.bd.length=(bA S C e).bd.length:=List.length_map _;rw[<- e2,e1,e3]; exact Fi h8 C e
  have hcnt:S'.cnt=S.cnt:=(show S'.er.cnt=(bA S C e).er.cnt by rw[eS3]).trans (Fh S C e).1;have hdig:S'.dig=((S.dig.toNat:Nat):Int):=((show S'.er.dig=(bA S C e).er.dig by rw[eS3]).trans (Fh S C e).2).trans (Int.toNat_of_nonneg hok.dig.1).symm;have hc600:=hok.cnt;rw[h0];refine⟨_,rfl,s20.aM 3 rfl (by show 0<1; decide) rfl λ w20 s21=>⟨_,s21.ag 3 rfl 0,cF rfl ⟨_,_,_,e.want,_,_,s21.cellsIn 4 rfl,aq (Fj w20 hi) ?_⟩⟩⟩;rintro v w23 ⟨rfl,c23⟩;rw[if_pos he,he];have s22:=s21.quiet c23;have c99:w23.cell? ⟨b,0+99,none⟩=some (iv S'.cnt):=by rw[s22.ag 0 rfl]; exact Pj h8'
  refine⟨_,_,rfl,_,s22.ag 5 rfl 0,ay rfl ⟨_,by rw[aZ]; exact c99,ay rfl ?_⟩⟩;rw[aZ,aH (n:=S'.cnt+1) ⟨by omega,by omega⟩];refine s22.aM 0 rfl (j:=0+99) (by rw[eY h8']; decide) rfl λ w24 s23=>?_;rw[show 0+99=99 from rfl,XY h8'] at s23;have s24:=s23.quiet (aD.drew w24 []);have h83:({ S' with cnt:=S'.cnt+1 }:Sx).bd.length=8:=h8';have c100:w24.drew.cell? ⟨b,0+100,none⟩=some (.int .u64 ((S.dig.toNat:Nat):Int)):=by rw[s24.ag 0 rfl,<- hdig]; exact SN h83
  have hbl:=BV he;refine⟨_,s24.ag 5 rfl 0,_,s24.ag 5 rfl 0,ay rfl ⟨_,by rw[aZ]; exact c100,aq (Je _ S.dig.toNat (aW e) (by omega)) ?_⟩⟩;rintro v w25 ⟨rfl,c25⟩;have s25:=s24.quiet c25;refine⟨_,rfl,s25.ag 5 rfl 0,ay rfl ?_⟩;rw[aZ];refine s25.aM 0 rfl (j:=0+100) (by rw[eY h83]; decide) rfl λ w26 s26=>?_;rw[show 0+100=100 from rfl,XZ h83] at s26;refine s26.aM 3 rfl (by show 0<1; decide) rfl λ w27 s27=>?_;let S3:Sx:={ S' with cnt:=S'.cnt+1,dig:=((aI S.dig.toNat (aW e):Nat):Int) };have s28:St w0 w27 (Sep (held (qG S' C') :: [ah r4 S.cells.toArray 114,ah r3 #[iv 0] 30,ah r1 #[pt b] 33,ah b S3.cells.toArray 114,ah r2 e.cells.toArray 43,B])):=s27.aA [1,2,3,5,0,4,6];have s29:St w0 w27 (Sep (held (qG S3 C') :: [ah r4 S.cells.toArray 114,ah r3 #[iv 0] 30,ah r1 #[pt b] 33,ah b S3.cells.toArray 114,ah r2 e.cells.toArray 43,B])):=s28.weak (cj.left (lX λ w h=>⟨⟨h.h.1,h.h.2⟩,h.k⟩));have s30:St w0 w27 (Sep (ah r4 S.cells.toArray 114 :: ah r3 #[iv 0] 30 :: ah r1 #[pt b] 33 :: ah b S3.cells.toArray 114 :: [held (qG S3 C'),B])):=s29.aA [1,2,3,4,0,6];refine CB s30 h8 (show S3.bd.length=8 from h8') (λ _=>⟨_,s30.ag 1 rfl 0,by rw[eA,h0],λ h=>absurd (eA.trans h0) h,λ _=>⟨S3,C',?_,eC'.trans eC2,⟨g,hg⟩,s30.aA [3,4,5]⟩⟩) (λ h=>absurd rfl h);show({ S'.er with cnt:=S'.cnt+1,dig:=((aI S.dig.toNat (aW e):Nat):Int) }:Sx)={ (bA S C e).er with cnt:=S.cnt+1,dig:=((aI S.dig.toNat (aW e):Nat):Int) };rw[eS3,hcnt]
 ·obtain⟨X,hX,s20⟩:=k1 h0;have s20:St w0 w19 (Sep ([ah b X.cells.toArray 114,held (qG S C)]++[ah r4 S.cells.toArray 114,ah r3 #[iv 0] 30,ah r2 e.cells.toArray 43,ah r1 #[pt b] 33,B])):=s20.dR [_,_];refine⟨_,rfl,s20.aM 3 rfl (by show 0<1; decide) rfl λ w20 s21=>⟨_,s21.ag 3 rfl 0,cT (by simpa using h0) ⟨_,s21.ag 3 rfl 0,s21.aM 3 rfl (by show 0<1; decide) rfl λ w21 s22=>?_⟩⟩⟩;have s23:St w0 w21 (Sep (ah r4 S.cells.toArray 114 :: ah r3 #[iv (dy S C e)] 30 :: ah r1 #[pt b] 33 :: ah b X.cells.toArray 114 :: [held (qG S C),ah r2 e.cells.toArray 43,B])):=s22.aA [2,3,5,0,1,4,6];refine CB s23 h8 hX (λ h=>absurd h h0) λ _ w22 s24=>⟨_,s24.ag 1 rfl 0,by rw[eA],λ _=>s24.aA [3,4,6],λ h=>absurd (eA.symm.trans h) h0⟩
end
theorem iF{α:Type}{f:Nat->α->Int}:∀ {l:List α} {n:Nat},gr f n l=0->∀ i p,l[i]?=some p->f (n+i) p=0
 | [],_,_,i,p,hp=>by simp at hp
 | y :: l,n,h,i,p,hp=>by
  rw[gr] at h
  split at h
  ·rename_i g; exact absurd h g
  ·rename_i g
   cases i with
   | zero=>cases hp; rw[Nat.add_zero]; simpa using g
   | succ i=>have:=iF h i p (by simpa using hp); rwa [show n+(i+1)=n+1+i by omega]
theorem VO{l:List Pr}(h:LB l=0):dZ l:=by
 unfold LB at h
 by_cases h1:l.length=0
 ·rw[if_pos h1] at h; cases h
 rw[if_neg h1] at h
 by_cases h2:6<l.length
 ·rw[if_pos h2] at h; cases h
 rw[if_neg h2] at h
 by_cases h3:gr (Mi l) 0 l=0
 ·rw[if_neg (λ g=>g h3)] at h
  by_cases h4:pr (EE l)<=1024
  ·refine⟨by omega,by omega,λ i p hp=>?_,by rw[<- EF (by omega)]; exact h4⟩;have:=iF h3 i p hp;rw[Nat.zero_add] at this;unfold Mi at this
   split at this
   ·cases this
   split at this
   ·cases this
   split at this
   ·cases this
   rename_i g1 g2 g3;exact⟨by unfold Bw; simp at g1 g3; rw[g1,g3]; rfl,by simpa using g2⟩
  ·rw[if_neg h4] at h; cases h
 ·rw[if_pos h3] at h; exact absurd h h3
theorem Uw{l:List Br}(h:Me l=0):I2 l:=by
 unfold Me at h
 by_cases h1:l.length=0
 ·rw[if_pos h1] at h; cases h
 rw[if_neg h1] at h
 by_cases h2:8<l.length
 ·rw[if_pos h2] at h; cases h
 rw[if_neg h2] at h;refine⟨by omega,by omega,λ i p hp=>?_⟩;have:=iF h i p hp;rw[Nat.zero_add] at this;unfold Qf at this
 split at this
 ·cases this
 split at this
 ·cases this
 split at this
 ·cases this
 rename_i g1 g2 g3;exact⟨by simp at g1 g3; rw[g1,g3]; rfl,by simpa using g2⟩
theorem UD{n:Nat}{l:List T3}(h:MO n l=0):CZ n l:=by
 unfold MO at h
 by_cases h2:16<l.length
 ·rw[if_pos h2] at h; cases h
 rw[if_neg h2] at h;refine⟨by omega,λ i p hp=>?_⟩;have:=iF h i p hp;rw[Nat.zero_add] at this;unfold Qr at this
 split at this
 ·cases this
 split at this
 ·cases this
 split at this
 ·cases this
 rename_i g1 g2 g3;have g1:=Bool.not_eq_false _▸g1;have g2:=Bool.not_eq_false _▸g2;exact⟨by unfold BK; rw[g1,g2]; rfl,by simpa using g3⟩
theorem Wi{ps:List Pr}{l:List T3}(h:SH ps l=0):lA ps l:=by
 unfold SH at h
 by_cases h2:6<l.length
 ·rw[if_pos h2] at h; cases h
 rw[if_neg h2] at h;refine⟨by omega,λ i p hp=>?_⟩;have:=iF h i p hp;rw[Nat.zero_add] at this;unfold Ss at this
 split at this
 ·cases this
 split at this
 ·cases this
 split at this
 ·cases this
 rename_i g1 g2 g3;have g1:=Bool.not_eq_false _▸g1;have g2:=Bool.not_eq_false _▸g2;exact⟨by unfold Hs; rw[g1,g2]; rfl,by simpa using g3⟩
theorem V3{s:Se}(h:IC s=0):s.Ok:=by
 unfold IC at h
 by_cases h1:LB s.ps=0
 ·rw[if_neg (λ g=>g h1)] at h
  by_cases h2:Me s.bd=0
  ·rw[if_neg (λ g=>g h2)] at h
   by_cases h3:MO s.bd.length s.cp=0
   ·rw[if_neg (λ g=>g h3)] at h;exact⟨VO h1,Uw h2,UD h3,Wi h⟩
   ·rw[if_pos h3] at h; exact absurd h h3
  ·rw[if_pos h2] at h; exact absurd h h2
 ·rw[if_pos h1] at h; exact absurd h h1
theorem R9{t:List UInt8}(h:wq t=0):(wu t).Ok:=by
 unfold wq at h
 by_cases h1:4000<t.length
 ·rw[if_pos h1] at h; cases h
 rw[if_neg h1] at h
 by_cases h2:(gz gN (bD 10 t)).2=0
 ·rw[if_neg (λ g=>g h2)] at h; exact V3 h
 ·rw[if_pos h2] at h; exact absurd h h2
theorem Oq{o:Po}{t:List UInt8}(h:oc o t=0):o.ok/\(wu t).Ok:=by
 unfold oc at h
 by_cases h1:pX o=0
 ·rw[if_neg (λ g=>g h1)] at h;refine⟨?_,R9 h⟩;unfold pX at h1
  by_cases g:o.ok
  ·exact g
  ·rw[if_neg g] at h1; cases h1
 ·rw[if_pos h1] at h; exact absurd h h1
section
variable {S S' : Sx} {C C' : Ck} {e:Ev}
theorem ET.er(h:ET S C)(eS:S'.er=S.er)(eC:C'.er=C.er):ET S' C':=by
 have eb:S'.bd.map Bd.er=S.bd.map Bd.er:=show S'.er.bd=S.er.bd by rw[eS]
 have ep:S'.ph=S.ph:=show S'.er.ph=S.er.ph by rw[eS]
 have es:S'.s.er=S.s.er:=show S'.er.s=S.er.s by rw[eS]
 have ec:S'.cnt=S.cnt:=show S'.er.cnt=S.er.cnt by rw[eS]
 have ed:S'.dig=S.dig:=show S'.er.dig=S.er.dig by rw[eS]
 have ecs:C'.s.er=C.s.er:=show C'.er.s=C.er.s by rw[eC]
 have hl:S'.bd.length=S.bd.length:=by have:=congrArg List.length eb; simpa using this
 refine⟨by rw[hl]; exact h.b8,by rw[ep]; exact h.ph,λ h0=>by rw[es]; exact h.z (ep▸h0),λ h0=>(h.c (ep▸h0)).er eC,λ h0=>by rw[ecs,es]; exact h.cs (ep▸h0),λ h0=>Ka es (h.so (ep▸h0)),by rw[ec]; exact h.cnt,by rw[ed]; exact h.dig,λ y hy hh=>?_⟩;have:y.er∈S.bd.map Bd.er:=eb▸List.mem_map_of_mem hy;obtain⟨z,hz,ez⟩:=List.mem_map.1 this;have h1:z.x.er=y.x.er:=show z.er.x=y.er.x by rw[ez]
 have h2:z.has=y.has:=show z.er.has=y.er.has by rw[ez]
 rw[<- zA,<- h1,zA];exact h.x z hz (h2.trans hh)
theorem tC(h:mG S e=0):cQ e=0/\S.cnt<600/\ff e.kind S.ph=true/\(bF e.kind=true->e.bidder<S.s.bd.length)/\(bF e.kind=true->(S.bd.getD e.bidder.toNat cP).out=false):=by
 unfold mG at h
 by_cases h1:cQ e≠0
 ·rw[if_pos h1] at h; exact absurd h h1
 rw[if_neg h1] at h
 by_cases h2:600<=S.cnt
 ·rw[if_pos h2] at h; cases h
 rw[if_neg h2] at h
 by_cases h3:ff e.kind S.ph=false
 ·rw[if_pos h3] at h; cases h
 rw[if_neg h3] at h
 by_cases h4:bF e.kind=true/\(S.s.bd.length:Int)<=e.bidder
 ·rw[if_pos h4] at h; cases h
 rw[if_neg h4] at h
 by_cases h5:bF e.kind=true/\(S.bd.getD e.bidder.toNat cP).out=true
 ·rw[if_pos h5] at h; cases h
 refine⟨by simpa using h1,by omega,by simpa using h3,λ hn=>?_,λ hn=>?_⟩
 ·rcases Int.lt_or_le e.bidder S.s.bd.length with h6|h6
  ·exact h6
  ·exact absurd ⟨hn,h6⟩ h4
 ·cases ho:(S.bd.getD e.bidder.toNat cP).out with
  | false=>rfl
  | true=>exact absurd ⟨hn,ho⟩ h5
theorem zf(h:Da S C e=0):mG S e=0/\dy S C e=0:=by
 unfold Da at h
 by_cases h1:mG S e=0
 ·rw[if_neg (λ g=>g h1)] at h; exact⟨h1,h⟩
 ·rw[if_pos h1] at h; exact absurd h h1
theorem Tb(hok:ET S C)(h:Da S C e=0)(hi:e.In):ET (G9 S C e) (WR S C e)/\(G9 S C e).ph≠0:=by
 obtain⟨hs,hE⟩:=zf h;obtain⟨h1,h2,h3,h4,h5⟩:=tC hs;have hR:=ju h1 hi.d;have hk1:=DF h1;have hc:=hok.cnt;have hch:0<=((aI S.dig.toNat (aW e):Nat):Int)/\((aI S.dig.toNat (aW e):Nat):Int)<18446744073709551616:=⟨Int.natCast_nonneg _,by have:aI S.dig.toNat (aW e)<18446744073709551616:=ND _; omega⟩;have hlen:=Fi hok.b8 C e
 suffices H:(0<=(bA S C e).ph/\(bA S C e).ph<=4/\(bA S C e).ph≠0)/\(cY S C e).Inv/\(cY S C e).s.er=(bA S C e).s.er/\(bA S C e).s.Ok/\∀ y∈(bA S C e).bd,y.has=true->fA y.x=0 by
  obtain⟨⟨p1,p2,p3⟩,i1,i2,i3,i4⟩:=H;exact⟨⟨hlen,⟨p1,p2⟩,λ h=>absurd h p3,λ _=>i1,λ _=>i2,λ _=>i3,⟨by show 0<=S.cnt+1; omega,by show S.cnt+1<=600; omega⟩,hch,i4⟩,p3⟩
 by_cases k1:e.kind=1
 ·have eE:dy S C e=oc S.o e.text:=by rw[dy,if_pos k1]
  have eS:bA S C e={ S with ph:=1,s:=wu e.text }:=by rw[bA,if_pos k1]
  have eC:cY S C e=mc (wu e.text) S.o:=by rw[cY,if_pos k1]
  obtain⟨ho,hS⟩:=Oq (eE▸hE);rw[eS,eC];exact⟨⟨by show(0:Int)<=1; decide,by show(1:Int)<=4; decide,by show(1:Int)≠0; decide⟩,Oa hS ho,rfl,hS,hok.x⟩
 have n0:S.ph≠0:=λ h0=>k1 (OC hk1 (h0▸h3));have hC:=hok.c n0;have hcs:=hok.cs n0;have hS:=hok.so n0;have hph:=hok.ph
 by_cases k2:e.kind=2
 ·have eE:dy S C e=lH C e.bidder.toNat (C.s.bd.getD e.bidder.toNat PR) e.want:=by rw[dy,if_neg k1,if_pos k2]
  have eS:bA S C e=S:=by rw[bA,if_neg k1,if_pos k2]
  have eC:cY S C e=sO C e.bidder.toNat e.want:=by rw[cY,if_neg k1,if_pos k2]
  rw[eS,eC];exact⟨⟨hph.1,hph.2,n0⟩,ME hC (eE▸hE),hcs,hS,hok.x⟩
 by_cases k3:e.kind=3
 ·have eE:dy S C e=if C.ov then 10 else 0:=by rw[dy,if_neg k1,if_neg k2,if_pos (.inl k3)]
  have eS:bA S C e=(if fe C then { S with ph:=2 } else S):=by rw[bA,if_neg k1,if_neg k2,if_pos k3]
  have eC:cY S C e=gk C:=by rw[cY,if_neg k1,if_neg k2,if_pos k3]
  have ho:C.ov=false:=by
   cases hv:C.ov with
   | false=>rfl
   | true=>rw[eE,hv] at hE; cases hE
  rw[eS,eC];refine⟨?_,Hw hC ho,?_,?_,?_⟩
  ·split
   ·exact⟨by show(0:Int)<=2; decide,by show(2:Int)<=4; decide,by show(2:Int)≠0; decide⟩
   ·exact⟨hph.1,hph.2,n0⟩
  ·split<;>exact hcs
  ·split<;>exact hS
  ·split<;>exact hok.x
 by_cases k4:e.kind=4
 ·have eS:bA S C e={ S with ph:=2 }:=by rw[bA,if_neg k1,if_neg k2,if_neg k3,if_pos k4]
  have eC:cY S C e=vj C:=by rw[cY,if_neg k1,if_neg k2,if_neg k3,if_pos k4]
  rw[eS,eC];exact⟨⟨by show(0:Int)<=2; decide,by show(2:Int)<=4; decide,by show(2:Int)≠0; decide⟩,LZ hC,hcs,hS,hok.x⟩
 have k34 : ¬ (e.kind=3\/e.kind=4):=λ h=>h.elim k3 k4
 by_cases k5:e.kind=5
 ·have eE:dy S C e=fP S.s C e.bidder.toNat (S.s.bd.getD e.bidder.toNat PR) e.text:=by rw[dy,if_neg k1,if_neg k2,if_neg k34,if_pos k5]
  have eS:bA S C e=rq S e.bidder.toNat (bM S.s.ps e.text).1:=by rw[bA,if_neg k1,if_neg k2,if_neg k3,if_neg k4,if_pos k5]
  have eC:cY S C e=C:=by rw[cY,if_neg k1,if_neg k2,if_neg k3,if_neg k4,if_neg (by omega),if_neg (by omega)]
  rw[eE] at hE;have hp:(bM S.s.ps e.text).2=0:=by
   unfold fP at hE
   by_cases g:(bM S.s.ps e.text).2=0
   ·exact g
   ·rw[if_pos g] at hE; exact absurd hE g
  rw[eS,eC];refine⟨⟨hph.1,hph.2,n0⟩,hC,hcs,hS,λ y hy hh=>?_⟩;rcases List.mem_or_eq_of_mem_set hy with hy|rfl
  ·exact hok.x y hy hh
  ·exact Cr hp
 have hdr:∀ {X:Sx} {n:Nat},(∀ y∈X.bd,y.has=true->fA y.x=0)->∀ y∈(bx X n).bd,y.has=true->fA y.x=0:=λ h y hy hh=>by
  rcases qU hy with h1|⟨_,h2⟩
  ·exact h y h1 hh
  ·rw[h2] at hh; cases hh
 by_cases k6:e.kind=6
 ·have eS:bA S C e=bx S e.bidder.toNat:=by rw[bA,if_neg k1,if_neg k2,if_neg k3,if_neg k4,if_neg k5,if_pos k6]
  have eC:cY S C e=C:=by rw[cY,if_neg k1,if_neg k2,if_neg k3,if_neg k4,if_neg (by omega),if_neg (by omega)]
  rw[eS,eC];exact⟨⟨hph.1,hph.2,n0⟩,hC,hcs,hS,hdr hok.x⟩
 by_cases k7:e.kind=7
 ·have eS:bA S C e=bx (fQ S e.bidder.toNat) e.bidder.toNat:=by rw[bA,if_neg k1,if_neg k2,if_neg k3,if_neg k4,if_neg k5,if_neg k6,if_pos k7]
  have eC:cY S C e=kD C e.bidder.toNat:=by rw[cY,if_neg k1,if_neg k2,if_neg k3,if_neg k4,if_pos k7]
  have hb8:=hS.bd.l2;have hn:=h4 (by rw[bF,dT (Or.inr (Or.inr (Or.inr k7)))]);rw[eS,eC];refine⟨⟨hph.1,hph.2,n0⟩,KT hC _,hcs,hS,hdr λ y hy hh=>?_⟩;obtain⟨z,hz,e1,e2⟩:=JN (by have:=hok.b8; have:=hR.b; omega) hy;rw[e1]; exact hok.x z hz (e2▸hh)
 by_cases k8:e.kind=8
 ·have eE:dy S C e=if cO C e.round then 4 else 0:=by rw[dy,if_neg k1,if_neg k2,if_neg k34,if_neg k5,if_neg k6,if_neg k7,if_pos k8]
  have eS:bA S C e={ bN S 8 with ph:=1 }:=by rw[bA,if_neg k1,if_neg k2,if_neg k3,if_neg k4,if_neg k5,if_neg k6,if_neg k7,if_pos k8]
  have eC:cY S C e=fG C e.round.toNat:=by rw[cY,if_neg k1,if_neg k2,if_neg k3,if_neg k4,if_neg k7,if_pos k8]
  have hr:cO C e.round=false:=by
   cases hv:cO C e.round with
   | false=>rfl
   | true=>rw[eE,hv] at hE; cases hE
  have hsk:∀ k,(bN S k).s=S.s:=λ k=>by
   induction k with
   | zero=>rfl
   | succ k ih=>exact ih
  have h8:=hsk 8;have hm:∀ y∈(bN S 8).bd,y.has=true->fA y.x=0:=λ y hy hh=>by
   rcases td 8 hy with h1|⟨_,h2⟩
   ·exact hok.x y h1 hh
   ·rw[h2] at hh; cases hh
  have hrs:(fG C e.round.toNat).s=C.s:=by unfold fG; split<;>rfl
  rw[eS,eC];refine⟨⟨by show(0:Int)<=1; decide,by show(1:Int)<=4; decide,by show(1:Int)≠0; decide⟩,Iy hC hr,?_,?_,hm⟩
  ·rw[hrs,hcs]; show S.s.er=(bN S 8).s.er; rw[h8]
  ·show(bN S 8).s.Ok; rw[h8]; exact hS
 ·have eS:bA S C e=mW S e:=by rw[bA,if_neg k1,if_neg k2,if_neg k3,if_neg k4,if_neg k5,if_neg k6,if_neg k7,if_neg k8]
  have eC:cY S C e=C:=by rw[cY,if_neg k1,if_neg k2,if_neg k3,if_neg k4,if_neg k7,if_neg k8]
  rw[eS,eC];unfold mW
  split
  ·exact⟨⟨by show(0:Int)<=4; decide,by show(4:Int)<=4; decide,by show(4:Int)≠0; decide⟩,hC,hcs,hS,hok.x⟩
  ·exact⟨⟨by show(0:Int)<=3; decide,by show(3:Int)<=4; decide,by show(3:Int)≠0; decide⟩,hC,hcs,hS,hok.x⟩
end
def Yb:Ck:={ s:=gN,o:=⟨0,0,0,0⟩,cl:=[],p:=z6,ask:=[],bd:=[],dp:=[],ov:=false,ka:=none,kc:=0,xa:=none,xc:=0,ya:=none,yc:=0,za:=none,zc:=0 }
theorem VC(o:Po):ET (pQ o) Yb:=⟨rfl,⟨by show(0:Int)<=0; decide,by show(0:Int)<=4; decide⟩,λ _=>rfl,λ h=>absurd rfl h,λ h=>absurd rfl h,λ h=>absurd rfl h,⟨by show(0:Int)<=0; decide,by show(0:Int)<=600; decide⟩,⟨by show(0:Int)<=0; decide,by show(0:Int)<18446744073709551616; decide⟩,λ y hy hh=>by
 simp only[pQ,List.mem_cons,List.mem_nil_iff,or_false] at hy;rcases hy with rfl|rfl|rfl|rfl|rfl|rfl|rfl|rfl<;>cases hh⟩
theorem RN(o:Po):(pQ o).er=pQ o:=by
 show({ pQ o with bd:=[cP.er,cP.er,cP.er,cP.er,cP.er,cP.er,cP.er,cP.er] }:Sx)=_;rw[PO]; rfl
theorem RO(o:Po)(w:World):qG (pQ o) Yb w:=⟨⟨PS w,λ y hy=>by
 simp only[pQ,List.mem_cons,List.mem_nil_iff,or_false] at hy;rcases hy with rfl|rfl|rfl|rfl|rfl|rfl|rfl|rfl<;>exact G5 w⟩,λ q h=>by cases h⟩
theorem Pd(S:Sx)(e:Ev):mG S.er e=mG S e:=by
 have h:(S.er.bd.getD e.bidder.toNat cP).out=(S.bd.getD e.bidder.toNat cP).out:=by rw[qL]; rfl
 unfold mG;rw[h]; rfl
theorem Un(S:Sx)(C:Ck)(e:Ev):Da S.er C.er e=Da S C e:=by
 unfold Da;rw[Pd,DB]
theorem Uo(S:Sx)(C:Ck)(e:Ev):(G9 S.er C.er e).er=(G9 S C e).er:=by
 show({ (bA S.er C.er e).er with cnt:=S.cnt+1,dig:=((aI S.dig.toNat (aW e):Nat):Int) }:Sx)={ (bA S C e).er with cnt:=S.cnt+1,dig:=((aI S.dig.toNat (aW e):Nat):Int) };rw[DC]
structure Cs where
 S:Sx
 C:Ck
 cn:Nat->Int
 rf:Int
 dm:Nat->Int
 bi:Nat->Int
 wd:Nat->Int
 rr:List Int
def bT(f:Nat->Int)(i:Nat):Nat->Int:=eU f i (f i+1)
def kT(σ:Cs)(e:Ev):Cs :=
 if Da σ.S σ.C e≠0 then { σ with rf:=σ.rf+1 } else
  { S:=(G9 σ.S σ.C e).er,C:=(WR σ.S σ.C e).er,cn:=bT σ.cn e.kind.toNat,rf:=σ.rf,dm:=if e.kind=2 then bT σ.dm e.bidder.toNat else σ.dm,bi:=if e.kind=5 then bT σ.bi e.bidder.toNat else σ.bi,wd:=if e.kind=6 then bT σ.wd e.bidder.toNat else σ.wd,rr:=if e.kind=8 then σ.rr++[e.round] else σ.rr }
def ZF(o:Po):Cs:={ S:=pQ o,C:=Yb,cn:=λ _=>0,rf:=0,dm:=λ _=>0,bi:=λ _=>0,wd:=λ _=>0,rr:=[] }
def Er(o:Po)(l:List Ev):Cs:=l.foldl kT (ZF o)
theorem LP(o:Po)(l:List Ev)(e:Ev):Er o (l++[e])=kT (Er o l) e:=by unfold Er; rw[List.foldl_append]; rfl
def gP(f:Nat->Int):Nat->Int
 | 0=>0
 | n+1=>gP f n+f n
theorem Pg(f:Nat->Int)(i:Nat)(x:Int):∀ n,n<=i->gP (eU f i x) n=gP f n
 | 0,_=>rfl
 | n+1,h=>by rw[gP,gP,Pg f i x n (by omega),fI _ _ (by omega)]
theorem ri(f:Nat->Int)(i:Nat):∀ n,i<n->gP (bT f i) n=gP f n+1
 | 0,h=>by omega
 | n+1,h=>by
  unfold bT
  by_cases e:i=n
  ·subst e; rw[gP,gP,Pg f i _ i (Nat.le_refl _),de]; omega
  ·have:=ri f i n (by omega);unfold bT at this;rw[gP,gP,this,fI _ _ (Ne.symm e)]; omega
theorem GN{f:Nat->Int}:∀ n,(∀ i,i<n->f i=0)->gP f n=0
 | 0,_=>rfl
 | n+1,h=>by rw[gP,GN n λ i hi=>h i (by omega),h n (by omega)]; rfl
theorem EB{f g:Nat->Int}:∀ n,(∀ i,i<n->f i=g i)->gP f n=gP g n
 | 0,_=>rfl
 | n+1,h=>by rw[gP,gP,EB n λ i hi=>h i (by omega),h n (by omega)]
theorem eI(f:Nat->Int)(i j:Nat):bT f i j=if j=i then f i+1 else f j:=rfl
def uK(S:Sx)(i:Nat):Int:=if (S.bd.getD i cP).out then 1 else 0
theorem zU{l:List Bd}{n i:Nat}{y:Bd}(h:n<l.length):(l.set n y).getD i cP=if i=n then y else l.getD i cP:=by
 rw[List.getD_eq_getElem?_getD,List.getD_eq_getElem?_getD,List.getElem?_set]
 by_cases e:n=i
 ·subst e; rw[if_pos rfl,if_pos rfl,if_pos h]; rfl
 ·rw[if_neg e,if_neg (Ne.symm e)]
theorem tv{S:Sx}{n:Nat}(h:n<S.bd.length)(i:Nat):((bx S n).bd.getD i cP).out=(S.bd.getD i cP).out:=by
 unfold bx;show((S.bd.set n _).getD i cP).out=_;rw[zU h]
 split
 ·rename_i e; subst e; rfl
 ·rfl
theorem AK{S:Sx}(h:S.bd.length=8)(i:Nat):∀ k,k<=8->((bN S k).bd.getD i cP).out=(S.bd.getD i cP).out
 | 0,_=>rfl
 | k+1,hk=>by rw[bN,tv (by rw[qh h]; omega),AK h i k (by omega)]
theorem QB{S:Sx}{C:Ck}{e:Ev}(h8:S.bd.length=8)(hb:e.bidder.toNat<8)(i:Nat):((bA S C e).bd.getD i cP).out=if e.kind=7/\i=e.bidder.toNat then true else (S.bd.getD i cP).out:=by
 unfold bA
 by_cases k1:e.kind=1
 ·rw[if_pos k1,if_neg (by omega)]
 rw[if_neg k1]
 by_cases k2:e.kind=2
 ·rw[if_pos k2,if_neg (by omega)]
 rw[if_neg k2]
 by_cases k3:e.kind=3
 ·rw[if_pos k3,if_neg (show ¬ (e.kind=7/\i=e.bidder.toNat) from λ h=>by omega)]
  split<;>rfl
 rw[if_neg k3]
 by_cases k4:e.kind=4
 ·rw[if_pos k4,if_neg (by omega)]
 rw[if_neg k4]
 by_cases k5:e.kind=5
 ·rw[if_pos k5,if_neg (by omega)];unfold rq;show((S.bd.set _ _).getD i cP).out=_;rw[zU (by omega)]
  split
  ·rename_i e; subst e; rfl
  ·rfl
 rw[if_neg k5]
 by_cases k6:e.kind=6
 ·rw[if_pos k6,if_neg (by omega)];exact tv (by omega) i
 rw[if_neg k6]
 by_cases k7:e.kind=7
 ·have hl:(fQ S e.bidder.toNat).bd.length=8:=by rw[fQ,List.length_set]; exact h8
  rw[if_pos k7,tv (by omega)];unfold fQ;show((S.bd.set _ _).getD i cP).out=_;rw[zU (by omega)]
  by_cases ei:i=e.bidder.toNat
  ·rw[if_pos ei,if_pos ⟨k7,ei⟩]
  ·rw[if_neg ei,if_neg λ h=>ei h.2]
 rw[if_neg k7]
 by_cases k8:e.kind=8
 ·rw[if_pos k8,if_neg (by omega)];exact AK h8 i 8 (Nat.le_refl _)
 rw[if_neg k8,if_neg (by omega)];unfold mW
 split<;>rfl
theorem M0(S:Sx)(i:Nat):(S.er.bd.getD i cP).out=(S.bd.getD i cP).out:=by rw[qL]; rfl
theorem QA{S:Sx}{C:Ck}{e:Ev}(k1:e.kind≠1):(bA S C e).s.bd.length=S.s.bd.length:=by
 have hsk:∀ k,(bN S k).s=S.s:=λ k=>by
  induction k with
  | zero=>rfl
  | succ k ih=>exact ih
 unfold bA;rw[if_neg k1]
 split
 ·rfl
 split
 ·split<;>rfl
 split
 ·rfl
 split
 ·rfl
 split
 ·rfl
 split
 ·rfl
 split
 ·show(bN S 8).s.bd.length=_;rw[hsk 8]
 ·unfold mW
  split<;>rfl
structure Iv (σ:Cs) (k:Nat):Prop where
 ok:ET σ.S σ.C
 all:σ.rf+gP σ.cn 11=k
 c0:σ.cn 0=0
 c1:σ.cn 1=if σ.S.ph=0 then 0 else 1
 z:σ.S.ph=0->(∀ i,σ.cn i=0)/\∀ i,i<8->σ.dm i=0/\σ.bi i=0/\σ.wd i=0/\uK σ.S i=0
 dm:gP σ.dm 8=σ.cn 2
 bi:gP σ.bi 8=σ.cn 5
 wd:gP σ.wd 8=σ.cn 6
 ou:gP (uK σ.S) 8=σ.cn 7
 hi:∀ i,i<8->σ.S.s.bd.length<=i->σ.dm i=0/\σ.bi i=0/\σ.wd i=0/\uK σ.S i=0
 rr:(σ.rr.length:Int)=σ.cn 8
 bd:(∀ i,0<=σ.cn i/\σ.cn i<=k)/\0<=σ.rf/\σ.rf<=k/\∀ i,(0<=σ.dm i/\σ.dm i<=k)/\(0<=σ.bi i/\σ.bi i<=k)/\0<=σ.wd i/\σ.wd i<=k
theorem WA(o:Po):Iv (ZF o) 0:=by
 have ho:∀ i,uK (pQ o) i=0:=λ i=>by
  unfold uK
  match i with
  | 0|1|2|3|4|5|6|7=>rfl
  | n+8=>rfl
 exact⟨VC o,rfl,rfl,rfl,λ _=>⟨λ _=>rfl,λ i _=>⟨rfl,rfl,rfl,ho i⟩⟩,rfl,rfl,rfl,GN 8 λ i _=>ho i,λ i _ _=>⟨rfl,rfl,rfl,ho i⟩,rfl,⟨λ _=>⟨Int.le_refl _,Int.le_refl _⟩,Int.le_refl _,Int.le_refl _,λ _=>⟨⟨Int.le_refl _,Int.le_refl _⟩,⟨Int.le_refl _,Int.le_refl _⟩,Int.le_refl _,Int.le_refl _⟩⟩⟩
theorem SI{σ:Cs}{k:Nat}(h:Iv σ k){e:Ev}(hi:e.In):Iv (kT σ e) (k+1):=by
 obtain⟨ok,all,c0,c1,z,dm,bi,wd,ou,hiz,rr,⟨b1,b2,b3,b4⟩⟩:=h;unfold kT
 by_cases ha:Da σ.S σ.C e≠0
 ·rw[if_pos ha];exact⟨ok,by show σ.rf+1+gP σ.cn 11=((k+1:Nat):Int); omega,c0,c1,z,dm,bi,wd,ou,hiz,rr,⟨λ i=>by have:=b1 i; show 0<=σ.cn i/\σ.cn i<=((k+1:Nat):Int); omega,by show 0<=σ.rf+1; omega,by show σ.rf+1<=((k+1:Nat):Int); omega,λ i=>by have:=b4 i; show(0<=σ.dm i/\σ.dm i<=((k+1:Nat):Int))/\(0<=σ.bi i/\σ.bi i<=((k+1:Nat):Int))/\0<=σ.wd i/\σ.wd i<=((k+1:Nat):Int); omega⟩⟩
 rw[if_neg ha];have ha:Da σ.S σ.C e=0:=by simpa using ha
 obtain⟨hs,hE⟩:=zf ha;obtain⟨h1,h2,h3,h4,h5⟩:=tC hs;have hR:=ju h1 hi.d;have hk1:=DF h1;obtain⟨okN,phN⟩:=Tb ok ha hi;have h8:=ok.b8;obtain⟨kk,hkk⟩:∃ kk:Nat,e.kind=kk:=⟨e.kind.toNat,(Int.toNat_of_nonneg (by omega)).symm⟩;obtain⟨n,hn⟩:∃ n:Nat,e.bidder=n:=⟨e.bidder.toNat,(Int.toNat_of_nonneg hR.b.1).symm⟩;have e1:e.kind.toNat=kk:=by omega
 have e2:e.bidder.toNat=n:=by omega
 have hkr:1<=kk/\kk<=10:=by have:=hR.k; omega
 have hn8:n<8:=by have:=hR.b; omega
 have hout:∀ i,uK ((G9 σ.S σ.C e).er) i=if kk=7/\i=n then 1 else uK σ.S i:=λ i=>by
  unfold uK;rw[M0];show(if ((bA σ.S σ.C e).bd.getD i cP).out=true then (1:Int) else 0)=_;have q:=QB (S:=σ.S) (C:=σ.C) (e:=e) h8 (by omega) i
  by_cases g:kk=7/\i=n
  ·rw[q.trans (if_pos ⟨by omega,by omega⟩),if_pos g]; rfl
  ·rw[q.trans (if_neg λ h=>g ⟨by omega,by omega⟩),if_neg g]
 have hlen:kk≠1->((G9 σ.S σ.C e).er).s.bd.length=σ.S.s.bd.length:=λ h=>QA (by omega);have hph0:kk=1<->σ.S.ph=0:=by
  constructor
  ·intro h;rw[hkk,h] at h3;have:ff ((1:Nat):Int) σ.S.ph=(σ.S.ph==0):=by rw[ff,if_pos (by rfl)]
   rw[this] at h3; simpa using h3
  ·intro h;rw[h] at h3;have:=OC hk1 h3; omega
 have hnm:∀ j:Nat,(j=2\/j=5\/j=6\/j=7)->kk=j->(n:Int)<σ.S.s.bd.length/\(σ.S.bd.getD n cP).out=false:=λ j hj h=>by
  have hnd:bF e.kind=true:=by rw[bF]; exact dT (by omega)
  have q1:=h4 hnd;have q2:=h5 hnd;rw[e2] at q2;exact⟨by omega,q2⟩
 rw[e1,e2];have hb:∀ (f:Nat->Int) (i j:Nat),(0<=f j/\f j<=k)->(0<=f i/\f i<=k)->0<=bT f i j/\bT f i j<=((k+1:Nat):Int):=λ f i j h1 h2=>by
  rw[eI]
  split<;>omega
 have hb' : ∀ (p:Prop) [Decidable p] (f:Nat->Int) (j:Nat),(∀ i,0<=f i/\f i<=k)->0<=(if p then bT f n else f) j/\(if p then bT f n else f) j<=((k+1:Nat):Int):=λ p _ f j h=>by
  split
  ·exact hb f n j (h j) (h n)
  ·have:=h j; omega
 refine⟨okN.er (gI _) (Jo _),?_,?_,?_,λ h=>absurd h phN,?_,?_,?_,?_,λ i hi8 hl=>?_,?_,⟨λ i=>hb σ.cn kk i (b1 i) (b1 kk),b2,by show σ.rf<=((k+1:Nat):Int); omega,λ i=>⟨hb' _ σ.dm i λ i=>(b4 i).1,hb' _ σ.bi i λ i=>(b4 i).2.1,hb' _ σ.wd i λ i=>(b4 i).2.2⟩⟩⟩
 ·show σ.rf+gP (bT σ.cn kk) 11=_;rw[ri _ _ 11 (by omega)]; omega
 ·show bT σ.cn kk 0=0;rw[eI,if_neg (by omega)]; exact c0
 ·show bT σ.cn kk 1=if ((G9 σ.S σ.C e).er).ph=0 then 0 else 1
  rw[if_neg (show ¬ ((G9 σ.S σ.C e).er).ph=0 from phN),eI]
  by_cases g:1=kk
  ·rw[if_pos g,<- g,c1,if_pos (hph0.1 g.symm)]; rfl
  ·rw[if_neg g,c1,if_neg λ h=>g (hph0.2 h).symm]
 ·show gP (if e.kind=2 then bT σ.dm n else σ.dm) 8=bT σ.cn kk 2
  by_cases g:e.kind=2
  ·rw[if_pos g,ri _ _ 8 hn8,eI,if_pos (by omega),dm,show kk=2 by omega]
  ·rw[if_neg g,eI,if_neg (by omega),dm]
 ·show gP (if e.kind=5 then bT σ.bi n else σ.bi) 8=bT σ.cn kk 5
  by_cases g:e.kind=5
  ·rw[if_pos g,ri _ _ 8 hn8,eI,if_pos (by omega),bi,show kk=5 by omega]
  ·rw[if_neg g,eI,if_neg (by omega),bi]
 ·show gP (if e.kind=6 then bT σ.wd n else σ.wd) 8=bT σ.cn kk 6
  by_cases g:e.kind=6
  ·rw[if_pos g,ri _ _ 8 hn8,eI,if_pos (by omega),wd,show kk=6 by omega]
  ·rw[if_neg g,eI,if_neg (by omega),wd]
 ·show gP (uK ((G9 σ.S σ.C e).er)) 8=bT σ.cn kk 7
  by_cases g:kk=7
  ·have h0:uK σ.S n=0:=by unfold uK; rw[(hnm 7 (by omega) g).2]; rfl
   rw[EB 8 (g:=bT (uK σ.S) n) λ i _=>by
    rw[hout,eI]
    by_cases ei:i=n
    ·rw[if_pos ⟨g,ei⟩,if_pos ei,h0]; rfl
    ·rw[if_neg λ h=>ei h.2,if_neg ei]]
   rw[ri _ _ 8 hn8,ou,eI,if_pos g.symm,g]
  ·rw[EB 8 (g:=uK σ.S) λ i _=>by rw[hout,if_neg λ h=>g h.1],ou,eI,if_neg λ h=>g h.symm]
 ·show(if e.kind=2 then bT σ.dm n else σ.dm) i=0/\(if e.kind=5 then bT σ.bi n else σ.bi) i=0/\(if e.kind=6 then bT σ.wd n else σ.wd) i=0/\uK ((G9 σ.S σ.C e).er) i=0
  by_cases g:kk=1
  ·have:=(z (hph0.1 g)).2 i hi8;rw[if_neg (by omega),if_neg (by omega),if_neg (by omega),hout,if_neg (by omega)];exact this
  ·have hl' : σ.S.s.bd.length<=i:=by have:=hlen g; exact this▸hl
   obtain⟨q1,q2,q3,q4⟩:=hiz i hi8 hl';have ne:∀ j:Nat,(j=2\/j=5\/j=6\/j=7)->kk=j->i≠n:=λ j hj h=>by have:=(hnm j hj h).1; omega
   refine⟨?_,?_,?_,?_⟩
   ·split
    ·rw[eI,if_neg (ne 2 (by omega) (by omega))]; exact q1
    ·exact q1
   ·split
    ·rw[eI,if_neg (ne 5 (by omega) (by omega))]; exact q2
    ·exact q2
   ·split
    ·rw[eI,if_neg (ne 6 (by omega) (by omega))]; exact q3
    ·exact q3
   ·rw[hout]
    by_cases g7:kk=7
    ·rw[if_neg λ h=>ne 7 (by omega) g7 h.2]; exact q4
    ·rw[if_neg λ h=>g7 h.1]; exact q4
 ·show(((if e.kind=8 then σ.rr++[e.round] else σ.rr).length:Nat):Int)=bT σ.cn kk 8
  by_cases g:e.kind=8
  ·rw[if_pos g,eI,if_pos (by omega),List.length_append,List.length_singleton,show kk=8 by omega]; omega
  ·rw[if_neg g,eI,if_neg (by omega)]; exact rr
theorem OS(o:Po):∀ l:List Ev,(∀ e∈l,e.In)->Iv (Er o l) l.length:=λ l=>by
 suffices H:∀ (l:List Ev) (σ:Cs) (k:Nat),Iv σ k->(∀ e∈l,e.In)->Iv (l.foldl kT σ) (k+l.length) by
  intro hl;have:=H l (ZF o) 0 (WA o) hl
  rwa [Nat.zero_add] at this
 intro l
 induction l with
 | nil=>intro σ k h _; exact h
 | cons e l ih =>
  intro σ k h hl;have:=ih (kT σ e) (k+1) (SI h (hl e (by simp))) λ e he=>hl e (by simp[he]);rw[List.foldl_cons,List.length_cons,show k+(l.length+1)=k+1+l.length by omega];exact this
section
variable {w0 w:World} {b:Nat} {S:Sx} {C:Ck} {B:aJ}
theorem X1(hok:ET S C):S.s.Sz:=by
 by_cases h0:S.ph=0
 ·have e:=hok.z h0;have h1:S.s.ps=[]:=show S.s.er.ps=gN.ps by rw[e]
  have h2:S.s.bd=[]:=show S.s.er.bd=gN.bd by rw[e]
  have h3:S.s.cp=[]:=show S.s.er.cp=gN.cp by rw[e]
  have h4:S.s.sa=[]:=show S.s.er.sa=gN.sa by rw[e]
  exact⟨by rw[h1]; decide,by rw[h2]; decide,by rw[h3]; decide,by rw[h4]; decide⟩
 ·exact(hok.so h0).sz
theorem J7(hb:af w ⟨b,0,none⟩ 0 S.cells){w' : World}(hc:aD w w' [])(j:Nat){v:Value}(hv:S.cells[j]?=some v):w'.cell? ⟨b,j,none⟩=some v:=by
 have:=bf (bP hc hb) j v hv
 rwa [Nat.zero_add,gY] at this
theorem XH(hb:af w ⟨b,0,none⟩ 0 S.cells){w' : World}(hc:aD w w' []):af w' ⟨b,5,none⟩ 0 S.s.arr.toList:=bH _ 0 λ j v hj=>by
 rw[aZ,Nat.zero_add];refine J7 hb hc (5+j) ?_;have hj4:j<4:=(List.getElem?_eq_some_iff.1 hj).1
 match j,hj4 with
 | 0,_|1,_|2,_|3,_=>exact hj
theorem Pa(hb:af w ⟨b,0,none⟩ 0 S.cells)(h:S.s.In w)(hz:S.s.Sz) :
  CP 44 #[pt b] w (λ r w'=>∃ S' : Se,S'.er=S.s.er/\r=.agg S'.arr/\St w w' (held S'.In)):=by
 refine qm ?_;unfold kQ;obtain⟨z1,z2,z3,z4⟩:=hz;refine(St.start w).one.aB gN.arr λ r1 w1 s1=>⟨_,_,_,_,_,_,_,_,_,_,_,_,XH hb s1.aC,s1.aB gN.arr λ r2 w2 s2=>s2.aE 0 rfl S.s.arr.toList rfl (by simp[Se.arr,Value.oneCell']) λ w3 s3=>?_⟩;have s3:St w w3 (Sep [ah r2 S.s.arr 100,ah r1 gN.arr 100,emp]):=s3;have s3:=s3.quiet (aD.drew w3 []);refine⟨_,_,_,s3.ag 0 rfl 0,_,_,_,s3.ag 0 rfl 1,_,_,_,s3.ag 0 rfl 2,_,_,_,s3.ag 0 rfl 3,aq (BR (h.aC s3.aC).ps.fl (by omega)) ?_⟩;rintro v w4 ⟨a1,c1,rfl,k1⟩;have s4:St w w4 (Sep [_,_,_,_]):=s3.and k1;refine⟨_,_,_,rfl,s4.ag 1 rfl 3,s4.ag 1 rfl 2,s4.ag 1 rfl 1,aq (BP (h.aC s4.aC).bd.fl (by omega)) ?_⟩;rintro v w5 ⟨a2,c2,rfl,k2⟩;have s5:St w w5 (Sep [_,_,_,_,_]):=s4.and k2;refine⟨_,_,_,rfl,s5.ag 2 rfl 3,s5.ag 2 rfl 2,aq (BQ (h.aC s5.aC).cp.fl (by omega)) ?_⟩;rintro v w6 ⟨a3,c3,rfl,k3⟩;have s6:St w w6 (Sep [_,_,_,_,_,_]):=s5.and k3;refine⟨_,_,_,rfl,s6.ag 3 rfl 3,aq (BO (h.aC s6.aC).sa.fl (by omega)) ?_⟩;rintro v w7 ⟨a4,c4,rfl,k4⟩;have s7:St w w7 (Sep [_,_,_,_,_,_,_]):=s6.and k4;let S' : Se:={ S.s with a1:=a1,c1:=c1,a2:=a2,c2:=c2,a3:=a3,c3:=c3,a4:=a4,c4:=c4 };refine⟨_,_,_,rfl,s7.aE 5 rfl S'.arr.toList rfl (by simp[S',Se.arr,Value.oneCell']) λ w8 s8=>⟨_,_,_,_,_,_,_,_,_,_,_,_,s8.cellsIn (cs:=S'.arr) 5 rfl,S',rfl,rfl,?_⟩⟩;have q4:=St.qg (s8.out 0 rfl); have q3:=St.qg (s8.out 1 rfl); have q2:=St.qg (s8.out 2 rfl); have q1:=St.qg (s8.out 3 rfl);exact((s8.aA [0,1,2,3]).held ((bz T3.len).cons ((bz T3.len).cons ((bz Br.len).cons ((bz Pr.len).cons jk.nil))))).weak (lX λ w' ⟨i4,i3,i2,i1,_⟩=>⟨fy.of i1 h.ps.in,lD.of i2 h.bd.in,ES.of i3,ES.of i4,q1.1,q2.1,q3.1,q4.1⟩)
theorem OW(hb:af w ⟨b,0,none⟩ 0 S.cells)(h8:S.bd.length=8)(hS:qG S C w)(hok:ET S C)(hk:PX S) :
  CP 45 #[pt b] w (λ r w'=>∃ (p:OA) (C' : Ck),r=.pointer p/\C'.er=C.er/\PX { S with k:=p }/\St w w' (WC p C')):=by
 refine ql ?_;unfold kP;refine⟨_,J7 hb (aD.refl w []) 9 ?_,aq (Jf hS hok hk) ?_⟩
 ·have:=mI h8;simpa using this
 ·rintro v w1 ⟨p,C',rfl,h1,h2,h3⟩;exact⟨_,rfl,p,C',rfl,h1,h2,h3⟩
end

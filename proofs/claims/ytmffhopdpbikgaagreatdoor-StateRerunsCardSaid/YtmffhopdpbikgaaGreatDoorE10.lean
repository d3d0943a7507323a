import Derived.Test.YtmffhopdpbikgaaGreatDoorE09
set_option linter.unusedVariables false
set_option maxRecDepth 100000
namespace Go.Proofs.YtmffhopdpbikgaaGreatDoor
open Go Go.Vc _root_.Go.Proofs.Tryz
theorem HP(w:World)(a:OA)(n c:Nat):CP 134 #[.slice a n c,.agg #[.slice none 0 0,.slice none 0 0]] w (λ r w'=>r=.bool true/\aA w w' []):=by
 refine rW ?_;unfold mT;refine(St.start w).one.ax #[.slice none 0 0,.slice none 0 0] λ r1 w1 s1=>⟨λ b w2=>b=false/\w2=w1,?_,_,_,_,s1.ag 0 rfl 0,cF rfl ⟨_,_,_,s1.ag 0 rfl 0,rfl,rfl⟩⟩;rintro w2 _ ⟨rfl,rfl⟩ -;refine cF rfl ⟨_,_,_,s1.ag 0 rfl 0,λ i w3 m=>i=0/\w3=w2,⟨0,rfl,rfl⟩,?_⟩;rintro w3 m i ⟨rfl,rfl⟩ -;refine cF rfl ⟨_,_,_,s1.ag 0 rfl 1,λ i w4 m=>i=0/\w4=w3,⟨0,rfl,rfl⟩,?_⟩;rintro w4 m i ⟨rfl,rfl⟩ -;exact cF rfl ⟨rfl,s1.av⟩
theorem IW{w:World}{a:OA}{c:Nat}{x:Ch}(hr:CN w a [x])(ho:x.Ok):CP 100 #[.slice a 1 c,.agg #[.slice none 0 0,.slice none 0 0]] w (λ r w'=>r=iv 13/\aA w w' []):=by
 refine rV ?_;unfold mS;refine(St.start w).one.ax #[.slice none 0 0,.slice none 0 0] λ r1 w1 s1=>aj (xO (l:=[x]) (k:=c) (hr.av s1.av) (by simp)) ?_;rintro v w2 ⟨rfl,c2⟩;have s2:=s1.quiet c2;have hv:[x].all uF=true:=CU.2 λ c hc=>by rw[List.mem_singleton.1 hc]; exact ho
 refine⟨_,rfl,cF (by rw[hv]; rfl) ⟨_,_,_,_,_,_,s2.cellsIn 0 rfl,aj (HP w2 a 1 c) ?_⟩⟩;rintro v w3 ⟨rfl,c3⟩;have s3:=s2.quiet c3;refine⟨_,rfl,cF rfl ⟨_,_,_,s3.ag 0 rfl 0,cT rfl ⟨_,_,_,s3.ag 0 rfl 1,aj (K:=λ r w'=>r=.bool false/\w' = w3) (oV ?_) ?_⟩⟩⟩
 ·unfold jL;exact cT rfl ⟨rfl,rfl⟩
 ·rintro v w4 ⟨rfl,rfl⟩;exact⟨_,rfl,cT rfl ⟨rfl,s3.av⟩⟩
theorem Hp{w:World}{a:OA}{c:Nat}{l:List Ch}(hr:CN w a l)(hl:l.length<=1000)(ho:∀ c∈l,c.Ok):CP 64 #[.slice a l.length c] w (λ r w'=>r=.bool true/\aA w w' []):=by
 refine wZ ?_;unfold tJ;refine⟨λ i w2 m=>∃ k:Nat,i=k/\k<=l.length/\m=l.length-k/\aA w w2 [],⟨l.length,0,rfl,by omega,by omega,aA.refl _ _⟩,?_⟩;rintro w2 m i ⟨k,rfl,hk,hm,c2⟩ -
 by_cases hlt:(k:Int)<(l.length:Int)
 ·have hx:l[k]?=some (l[k]'(by omega)):=gE (by omega);generalize l[k]'(by omega)=y at hx;obtain⟨p,hp,hcl⟩:=(hr.av c2).at hx;refine cT (dT hlt) (ak hp ⟨by omega,by omega,y.p,y.want,hcl,(St.start' c2).one.ax Ai.cells.toArray λ r1 w3 s3=>s3.ay 0 rfl y.cells rfl y.one λ w4 s4=>⟨y.p,y.want,s4.cellsIn 0 rfl,s4.ax y.cells.toArray λ r2 w5 s5=>?_⟩⟩);have h1:CN w5 (some ⟨r2,0,none⟩) [y]:=λ i z hz=>by
   obtain⟨rfl,rfl⟩:i=0/\z=y:=by
    cases i with
    | zero=>simp at hz; exact⟨rfl,hz.symm⟩
    | succ i=>simp at hz
   exact⟨_,_,rfl,by rw[Nat.zero_mul,p8]; exact s5.cellsIn 0 rfl,rfl,rfl⟩
  refine aj (IW (c:=1) h1 (ho y (List.mem_of_getElem? hx))) ?_;rintro v w6 ⟨rfl,c6⟩;exact⟨_,rfl,cF rfl ⟨l.length-(k+1),by omega,k+1,aB ⟨by omega,by omega⟩,by omega,rfl,(s5.quiet c6).av⟩⟩
 ·exact cF (dF hlt) ⟨rfl,c2⟩
def GU(l:List Ch)(bids:List Of)(x:Of):Bool:=decide (x.v>Oo (JX l bids) l x.want)
def Iz(l:List Ch)(bids:List Of):Int:=if bids.all B9 then (if bids.any (GU l bids) then 16 else 0) else 4
theorem FE{w:World}{a1 a2:OA}{c1 c2:Nat}{l:List Ch}{bids:List Of}(hr:CN w a1 l)(hl:l.length<=1000)(ho:∀ c∈l,c.Ok)(hb:RO w a2 bids)(hbl:bids.length<=100000) :
  CP 127 #[.slice a1 l.length c1,.slice a2 bids.length c2] w (λ r w'=>(∃ i:Int,r=.tuple #[iv i,iv (Iz l bids)])/\aA w w' []):=by
 refine wY ?_;unfold tI;refine aj (Hp hr hl ho) ?_;rintro v w1 ⟨rfl,d1⟩;refine⟨_,rfl,cF rfl ⟨λ i w2 m=>∃ k:Nat,i=k/\k<=bids.length/\m=bids.length-k/\(bids.take k).all B9=true/\aA w w2 [],⟨bids.length,0,rfl,by omega,by omega,rfl,d1⟩,?_⟩⟩;rintro w2 m i ⟨k,rfl,hk,hm,ha,d2⟩ -
 by_cases hlt:(k:Int)<(bids.length:Int)
 ·have hx:bids[k]?=some (bids[k]'(by omega)):=gE (by omega);generalize bids[k]'(by omega)=y at hx;obtain⟨p,hp,hcl⟩:=(hb.av d2).at hx;refine cT (dT hlt) (ak hp ⟨by omega,by omega,_,y.want,_,hcl,(St.start' d2).one.ax sC.cells.toArray λ r1 w3 s3=>s3.ay 0 rfl y.cells rfl y.one λ w4 s4=>⟨_,y.want,_,s4.cellsIn 0 rfl,aj (Ik w4 y) ?_⟩⟩);rintro v w5 ⟨rfl,c5⟩;refine⟨_,rfl,?_⟩
  cases hy:B9 y with
  | false =>
   have:bids.all B9=false:=List.all_eq_false.2 ⟨y,List.mem_of_getElem? hx,by simp[hy]⟩;exact cT rfl ⟨⟨k,by rw[Iz,this]; rfl⟩,(s4.quiet c5).av⟩
  | true =>
   refine cF rfl ⟨bids.length-(k+1),by omega,k+1,aB ⟨by omega,by omega⟩,by omega,rfl,?_,(s4.quiet c5).av⟩;rw[aG hx,List.all_append,ha]; simp[hy]
 ·obtain rfl:bids.length=k:=by omega
  rw[List.take_length] at ha;have e0:Iz l bids=if bids.any (GU l bids) then 16 else 0:=by rw[Iz,if_pos ha]
  have hok:∀ x∈bids,I6.Le x.want 4/\x.v<=1000000:=λ x hx=>by
   have:=List.all_eq_true.1 ha x hx;unfold B9 at this;simp only[Bool.and_eq_true,decide_eq_true_eq] at this;exact⟨It this.1,this.2.2.2⟩
  refine cF (dF hlt) (aj (K:=λ r w'=>∃ r1 r2,r=.func (.func 227) #[] #[pt r1,pt r2]/\St w w' (Sep [ai r2 #[.slice a2 bids.length c2] 41,ai r1 #[.slice a1 l.length c1] 92,emp])) (vl ?_) ?_)
  ·unfold qV;exact(St.start' d2).one.ax _ λ r1 w3 s3=>s3.ax _ λ r2 w4 s4=>⟨r1,r2,rfl,s4⟩
  rintro v w6 ⟨r1,r2,rfl,s6⟩;refine⟨_,rfl,λ i w7 m=>∃ k:Nat,i=k/\k<=bids.length/\m=bids.length-k/\(bids.take k).any (GU l bids)=false/\St w w7 (Sep [ai r2 #[.slice a2 bids.length c2] 41,ai r1 #[.slice a1 l.length c1] 92,emp]),⟨bids.length,0,rfl,by omega,by omega,rfl,s6⟩,?_⟩;clear hlt hm hk d2;rintro w7 m i ⟨k,rfl,hk,hm,hany,s7⟩ -
  by_cases hlt:(k:Int)<(bids.length:Int)
  ·have hx:bids[k]?=some (bids[k]'(by omega)):=gE (by omega);generalize bids[k]'(by omega)=y at hx;obtain⟨p,hp,hcl⟩:=(hb.av s7.av).at hx;refine cT (dT hlt) (ak hp ⟨by omega,by omega,_,y.want,_,hcl,s7.ax sC.cells.toArray λ r3 w8 s8=>s8.ay 0 rfl y.cells rfl y.one λ w9 s9=>?_⟩);have s10:=s9.quiet (aA.drew w9 []);refine⟨_,s10.ag 0 rfl 7,y.want,s10.aF 0 1 rfl rfl,aj (PM (F:=JX l bids) (hr.av s10.av) hl ho (λ q hq=>Mw ho (λ x hx=>(hok x hx).2) hq) ?_ (hok y (List.mem_of_getElem? hx)).1) ?_⟩
   ·intro w' q R hc _ kk;refine bn (by kernel_rfl) (aj (Mx (hr.av (s10.quiet hc).av) hl ho (hb.av (s10.quiet hc).av) hbl ((s10.quiet hc).ag 2 rfl 0) ((s10.quiet hc).ag 1 rfl 0) q) ?_);rintro r w'' ⟨rfl,h⟩; exact kk w'' h
   ·rintro v w10 ⟨rfl,c10⟩;have s11:=s10.quiet c10;refine⟨_,rfl,s11.ag 0 rfl 7,?_⟩
    cases ho:GU l bids y with
    | true=>exact cT ho ⟨⟨k,by rw[e0,jq hx ho]; rfl⟩,s11.av⟩
    | false=>exact cF ho ⟨bids.length-(k+1),by omega,k+1,aB ⟨by omega,by omega⟩,by omega,rfl,fL hany hx ho,s11.au [1,2,3]⟩
  ·obtain rfl:bids.length=k:=by omega
   rw[List.take_length] at hany;exact cF (dF hlt) ⟨⟨0,by rw[e0,hany]; rfl⟩,s7.av⟩
theorem GQ(x:Xv)(m:I6):oM x.er m=oM x m:=by unfold oM; rw[yh,Ou]
theorem GR(x:Xv)(m:I6):oN x.er m=oN x m:=by unfold oN; rw[Ou]
theorem AZ{l:List Pr}{t:List UInt8}(h:(bz l t).2=0):dH (bz l t).1=0:=by
 unfold bz at h ⊢
 split at h
 ·rename_i g; exact absurd h g
 ·rename_i g; rw[if_neg g]
  split at h
  ·rename_i g2; exact absurd h g2
  ·rename_i g2; rw[if_neg g2]
   split at h
   ·rename_i g3; exact absurd h g3
   ·rename_i g3; rw[if_neg g3]; simpa using g3
theorem Dg{x:Xv}(h:dH x=0):aO x<=40:=by
 unfold dH at h
 split at h
 ·cases h
 ·split at h
  ·cases h
  ·rename_i g; omega
def EG(S:Se)(n:Nat)(y:Br):List Of->Int
 | []=>0
 | o :: l=>if cD S n y o.want≠0 then cD S n y o.want else if y.bud≠0/\y.bud<o.v then 17 else EG S n y l
theorem yV{S:Se}{n:Nat}{y:Br}:∀ (l:List Of) (k:Nat),(∀ o∈l.take k,cD S n y o.want=0/\¬ (y.bud≠0/\y.bud<o.v))->EG S n y l=EG S n y (l.drop k)
 | l,0,_=>rfl
 | [],k+1,_=>rfl
 | o :: l,k+1,h=>by
  obtain⟨h1,h2⟩:=h o (by simp);rw[EG,if_neg (by simpa using h1),if_neg h2,yV l k λ o ho=>h o (by simp[ho])]; rfl
theorem PI{S:Se}{n:Nat}{y:Br}{l:List Of}{k:Nat}{o:Of}(h:∀ o∈l.take k,cD S n y o.want=0/\¬ (y.bud≠0/\y.bud<o.v))(hx:l[k]?=some o) :
  EG S n y l=if cD S n y o.want≠0 then cD S n y o.want else if y.bud≠0/\y.bud<o.v then 17 else EG S n y (l.drop (k+1)):=by
 obtain⟨hl,rfl⟩:=List.getElem?_eq_some_iff.1 hx;rw[yV l k h,List.drop_eq_getElem_cons hl,EG]
def dQ(S:Se)(C:Ck)(n:Nat)(y:Br)(t:List UInt8):Int :=
 if (bz S.ps t).2≠0 then (bz S.ps t).2 else if oM (bz S.ps t).1 (aQ S.ps)≠0 then oM (bz S.ps t).1 (aQ S.ps)
 else if EG S n y (oN (bz S.ps t).1 (aQ S.ps))≠0 then EG S n y (oN (bz S.ps t).1 (aQ S.ps)) else Iz (qL C n) (oN (bz S.ps t).1 (aQ S.ps))
theorem Lp{l:List Pr}(h:bP l):pr (aQ l).l<=1024:=by
 rw[FU,CF h.l2]; exact h.lim
theorem IK{w:World}{b g n:Nat}{S:Sx}{C:Ck}{y:Br}(hb:af w ⟨b,0,none⟩ 0 S.cells)(hI:S.s.In w)(hk:S.k=some ⟨g,0,none⟩)(hK:C.Rd g w)(hC:C.Ok)(hs:S.s.Ok)(hn:n<C.s.bd.length)(hy:S.s.bd[n]?=some y)(t:List UInt8) :
  CP 92 #[.pointer (some ⟨b,0,none⟩),iv n,sv t] w (λ r w'=>∃ x:Xv,(dQ S.s C n y t=0->x.er=(bz S.s.ps t).1)/\r=.tuple #[.agg x.cells.toArray,iv (dQ S.s C n y t)]/\St w w' (held x.In)):=by
 refine nP ?_;unfold jc;have hn':=(List.getElem?_eq_some_iff.1 hy).1;have z2:=hs.bd.l2;have hm:=sup_le hs.ps;have hp:=Lp hs.ps;have cb:∀ {w'},aA w w' []->∀ (j:Nat) (v:Value),S.cells[j]?=some v->w'.cell? ⟨b,j,none⟩=some v:=λ hc j v hv=>by
  have:=aL (bC hc hb) j v hv
  rwa [Nat.zero_add,p8] at this
 refine(St.start w).one.ax cI.cells.toArray λ r1 w1 s1=>⟨_,_,_,cb s1.av 5 _ rfl,aj (M9 (hI.av s1.av).ps hI.h1 hs.ps t) ?_⟩;rintro v w2 ⟨x,ex,rfl,k2⟩;have s2:St w w2 (Sep [held x.In,ai r1 cI.cells.toArray 60,emp]):=s1.and k2;refine⟨_,x.u,_,_,_,_,_,rfl,s2.ax cI.cells.toArray λ r2 w3 s3=>s3.ay 0 rfl x.cells rfl x.one λ w4 s4=>?_⟩;have s4:St w w4 (Sep [ai r2 x.cells.toArray 60,held x.In,ai r1 cI.cells.toArray 60,emp]):=s4;have bad:∀ {k:Int} {w' : World} {m:List aD} {i:Nat},St w w' (Sep m)->m[i]?=some (ai r1 cI.cells.toArray 60)->k≠0->dQ S.s C n y t=k ->
   aK ⟨r1,0,none⟩ 0 cI.cells w' λ w3=>∃ (n2:Int) (u1:I6) (n3:Int) (a2:OA) (l2 c2:Nat),af w3 ⟨r1,0,none⟩ 0 (iv n2 :: u1.on [iv n3,.slice a2 l2 c2]) /\
    ∃ x:Xv,(dQ S.s C n y t=0->x.er=(bz S.s.ps t).1)/\Value.tuple #[.agg (iv n2 :: u1.on [iv n3,.slice a2 l2 c2]:List Value).toArray,iv k]=.tuple #[.agg x.cells.toArray,iv (dQ S.s C n y t)]/\St w w3 (held x.In):=λ {k w' m i} s e hk0 hp =>
  s.ay i e cI.cells rfl (Xv.one _) λ w3 s3=>⟨_,z6,_,_,_,_,s3.cellsIn (cs:=cI.cells.toArray) (T:=60) i (List.getElem?_set_self (dJ e)),cI,λ h=>absurd (hp.symm.trans h) hk0,by rw[hp]; rfl,((St.start' s3.av).one.vT EE).first⟩
 by_cases h1:(bz S.s.ps t).2=0
 ·have hx0:dH x=0:=by rw[<- yh,ex]; exact AZ h1
  have hz:=Dg hx0;have e1:dQ S.s C n y t=if oM x (aQ S.s.ps)≠0 then oM x (aQ S.s.ps) else if EG S.s n y (oN x (aQ S.s.ps))≠0 then EG S.s n y (oN x (aQ S.s.ps)) else Iz (qL C n) (oN x (aQ S.s.ps)):=by
   rw[dQ,if_neg (by simpa using h1),<- ex,GQ,GR]
  have s5:=s4.quiet (aA.drew w4 []);refine cF (by simpa using h1) ⟨_,x.u,_,_,_,_,s5.cellsIn 0 rfl,_,_,_,cb s5.av 5 _ rfl,aj (jd (hI.av s5.av).ps (by have:=hs.ps.l2; omega)) ?_⟩;rintro v w6 ⟨rfl,c6⟩;have s6:=s5.quiet c6;refine⟨_,rfl,s6.cellsIn 0 rfl,aj (AL hm hp (by omega) (s6.bK 1 rfl)) ?_⟩;rintro v w7 (⟨ho,rfl,c7⟩|⟨ho,hlen,a,c,rfl,k7⟩)
  ·exact⟨_,_,_,_,rfl,cT (by simpa using ho) (bad (s6.quiet c7) (i:=2) rfl ho (by rw[e1,if_pos ho]))⟩
  rw[if_neg (by simpa using ho)] at e1;have s7:St w w7 (Sep [bf a c (oN x (aQ S.s.ps)),ai r2 x.cells.toArray 60,held x.In,ai r1 cI.cells.toArray 60,emp]):=s6.and k7.single;generalize hl:oN x (aQ S.s.ps)=l at *;obtain⟨_,q,hq,hcy⟩:=(hI.av s7.av).bd n y hy;have cbud:w7.cell? (Addr.add (Addr.add q (((n:Nat):Int).toNat*4)) 2)=some (iv y.bud):=by
   have:=aL hcy 2 _ rfl
   rwa [Nat.zero_add] at this
  refine⟨_,_,_,_,rfl,cF rfl ⟨_,_,_,cb s7.av 6 _ rfl,ak hq ⟨by omega,by omega,_,cbud,?_⟩⟩⟩;refine⟨λ i w8 m=>∃ k:Nat,i=k/\k<=l.length/\m=l.length-k/\(∀ o∈l.take k,cD S.s n y o.want=0/\¬ (y.bud≠0/\y.bud<o.v))/\St w w8 (Sep [bf a c l,ai r2 x.cells.toArray 60,held x.In,ai r1 cI.cells.toArray 60,emp]),⟨l.length,0,rfl,by omega,by omega,by simp,s7⟩,?_⟩;rintro w8 m i ⟨k,rfl,hk8,hm8,hall,s8⟩ -
  by_cases hlt:(k:Int)<(l.length:Int)
  ·have hxk:l[k]?=some (l[k]'(by omega)):=gE (by omega);generalize l[k]'(by omega)=o at hxk;obtain⟨q2,hq2,hc2⟩:=(St.rd Of.len s8).at hxk;have eo:=PI hall hxk;refine cT (dT hlt) (ak hq2 ⟨by omega,by omega,_,o.want,_,hc2,s8.ax sC.cells.toArray λ r3 w9 s9=>s9.ay 0 rfl o.cells rfl o.one λ w10 s10=>?_⟩);have s11:=s10.quiet (aA.drew w10 []);have hset:af w10.drew ⟨b,5,none⟩ 0 S.s.arr.toList:=aY _ 0 λ j v hj=>by
    rw[bw,Nat.zero_add];refine cb s11.av (5+j) v ?_;have hj4:j<4:=(List.getElem?_eq_some_iff.1 hj).1
    match j,hj4 with
    | 0,_|1,_|2,_|3,_=>exact hj
   refine⟨_,_,_,_,_,_,_,_,_,_,_,_,hset,o.want,s11.aF 0 1 rfl rfl,aj (pK (hI.av s11.av) hs hy o.want) ?_⟩;rintro v w12 ⟨rfl,c12⟩;have s12:=s11.quiet c12;refine⟨_,rfl,?_⟩
   by_cases ha:cD S.s n y o.want=0
   ·rw[if_neg (by simpa using ha)] at eo;refine cF (by simpa using ha) ⟨λ bb w13=>bb=decide (y.bud≠0/\y.bud<o.v)/\St w w13 (Sep [bf a c l,ai r2 x.cells.toArray 60,held x.In,ai r1 cI.cells.toArray 60,emp]),?_,?_⟩
    ·rintro w13 bb ⟨rfl,s13⟩ x2
     by_cases hbud:y.bud≠0/\y.bud<o.v
     ·rw[if_pos hbud] at eo;exact cT (dT hbud) (bad s13 (i:=3) rfl (by decide) (by rw[e1,eo]; rfl))
     ·refine cF (dF hbud) ⟨l.length-(k+1),by omega,k+1,aB ⟨by omega,by omega⟩,by omega,rfl,λ o' ho'=>?_,s13⟩;rw[aG hxk] at ho';rcases List.mem_append.1 ho' with h|h
      ·exact hall o' h
      ·rw[List.mem_singleton.1 h]; exact⟨ha,hbud⟩
    ·by_cases hb0:y.bud=0
     ·exact cF (by simpa using hb0) ⟨by rw[dF λ h=>h.1 hb0],s12.au [1,2,3,4,5]⟩
     ·refine cT (by simpa using hb0) ⟨_,s12.ag 0 rfl 7,?_,s12.au [1,2,3,4,5]⟩
      by_cases hv:y.bud<o.v
      ·rw[dT hv,dT ⟨hb0,hv⟩]
      ·rw[dF hv,dF λ h=>hv h.2]
   ·rw[if_pos ha] at eo;exact cT (by simpa using ha) (bad s12 (i:=4) rfl ha (by rw[e1,eo,if_pos ha]))
  ·obtain rfl:k=l.length:=by omega
   rw[List.take_length] at hall;have e0:EG S.s n y l=0:=by rw[yV l l.length (by rw[List.take_length]; exact hall),List.drop_length]; rfl
   rw[e0,if_neg (by decide)] at e1;refine cF (dF hlt) ⟨_,(cb s8.av 9 _ rfl).trans (by rw[hk]),aj (uI (hK.av s8.av) hC hn) ?_⟩;rintro v w9 ⟨a4,c4,rfl,k9⟩;have rl:=(St.rd Of.len s8).av k9.av;have rch:CN w9 a4 (qL C n):=St.rd Ch.len k9.one;have s9:=s8.quiet k9.av;refine⟨_,_,_,rfl,aj (FE rch (by unfold qL; rw[List.length_map]; have:=hC.cl; omega) (Jy hC) rl (by omega)) ?_⟩;rintro v w10 ⟨⟨i,rfl⟩,c10⟩;have s10:=s9.quiet c10;refine⟨_,_,rfl,_,x.u,_,_,_,_,s10.cellsIn 1 rfl,s10.ay 3 rfl x.cells rfl x.one λ w11 s11=>⟨_,x.u,_,_,_,_,s11.cellsIn 3 rfl,x,λ _=>ex,by rw[e1]; rfl,?_⟩⟩;exact(s11.au [2]).single
 ·exact cT (by simpa using h1) (bad s4 (i:=2) rfl h1 (by rw[dQ,if_pos h1]))
def rB(S:Sx)(n:Nat)(x:Xv):Sx:={ S with bd:=S.bd.set n { S.bd.getD n bF with x:=x,has:=true } }
section
variable {w0 w:World} {b g n:Nat} {S:Sx} {C:Ck} {B:aD} {y:Br}
theorem Mf{k:List Nat}{l:List aD}(s:St w0 w (Sep l))(e:au k l=dI g C):C.Rd g w:=(by have:=s.au k; rw[e] at this; exact this:St w0 w (Sep (dI g C))).imp yj
theorem Qf{Q:World->Prop}(hQ:∀ w,Q w->S.s.In w)(s:St w0 w (Sep (cU b S g C++[held Q,B])))(h:S.bd.length=8)(hk:S.k=some ⟨g,0,none⟩)(hC:C.Ok)(hs:S.s.Ok){e:Ev}(he:e.bidder=n)(hn:n<C.s.bd.length)(hy:S.s.bd[n]?=some y) :
  CP 54 #[.pointer (some ⟨b,0,none⟩),e.v] w (λ r w'=>r=iv (dQ S.s C n y e.text)/\(dQ S.s C n y e.text≠0->St w0 w' (Sep (cU b S g C++[held Q,B])))/\(dQ S.s C n y e.text=0->∃ x:Xv,x.er=(bz S.s.ps e.text).1/\St w0 w' (Sep (cU b (rB S n x) g C++[held Q,held x.In,B])))):=by
 refine sg (u1:=e.want) ?_;unfold mW;have hn':=(List.getElem?_eq_some_iff.1 hy).1;have z2:=hs.bd.l2;have hn8:n<8:=by omega
 have hyb:S.bd[n]?=some (S.bd.getD n bF):=by rw[List.getD_eq_getElem?_getD,gE (by omega)]; rfl
 have hsz:S.cells.toArray.size=101:=by simpa using Sx.len h
 refine s.ax e.cells.toArray λ r1 w1 s1=>?_;have s1:St w0 w1 (Sep (ai r1 e.cells.toArray 36 :: ai b S.cells.toArray 80 :: (dI g C++[held Q,B]))):=s1;have c1:w1.cell? ⟨r1,1,none⟩=some (iv n):=by rw[<- he]; exact s1.ag 0 rfl 1
 have rdK:C.Rd g w1:=Mf (k:=[2,3,4,5,6,7]) s1 rfl;refine⟨_,c1,_,s1.ag 0 rfl 9,aj (IK (s1.cellsIn 1 rfl) (hQ _ (s1.bK 8 rfl)) hk rdK hC hs hn hy e.text) ?_⟩;rintro v w2 ⟨x,ex,rfl,k2⟩;have s2:St w0 w2 (Sep (held x.In :: ai r1 e.cells.toArray 36 :: ai b S.cells.toArray 80 :: (dI g C++[held Q,B]))):=s1.and k2;refine⟨_,x.u,_,_,_,_,_,rfl,s2.ax cI.cells.toArray λ r2 w3 s3=>s3.ay 0 rfl x.cells rfl x.one λ w4 s4=>?_⟩;have s4:St w0 w4 (Sep (ai r2 x.cells.toArray 60 :: held x.In :: ai r1 e.cells.toArray 36 :: ai b S.cells.toArray 80 :: (dI g C++[held Q,B]))):=s4
 by_cases h0:dQ S.s C n y e.text=0
 ·refine⟨λ w5=>St w0 w5 (Sep (cU b (rB S n x) g C++[held Q,held x.In,B])),λ w5 s5 _=>⟨rfl,λ h=>absurd h0 h,λ _=>⟨x,ex h0,s5⟩⟩,?_⟩;have s5:=s4.quiet (aA.drew w4 []);have c5:w4.drew.cell? ⟨r1,1,none⟩=some (iv n):=by rw[<- he]; exact s5.ag 2 rfl 1
  refine cT (by simpa using h0) ⟨_,c5,_,c5,_,x.u,_,_,_,_,s5.cellsIn 0 rfl,by omega,by omega,?_⟩;rw[N2];let S1:Sx:={ S with bd:=S.bd.set n { S.bd.getD n bF with x:=x } };refine s5.j7 3 (10+n*11) rfl (vs:=x.cells) S1.cells.toArray (by rw[hsz,Xv.len]; omega) (Xv.one _) (by rw[Xv.len]; exact congrArg List.toArray (Ht h hn8 hyb x)) λ w6 s6=>?_;have h1:S1.bd.length=8:=by simpa[S1] using h
  have hy1:S1.bd[n]?=some { S.bd.getD n bF with x:=x }:=by
   show(S.bd.set n _)[n]?=_;rw[List.getElem?_set_self (by omega)]
  have hsz1:S1.cells.toArray.size=101:=by simpa using Sx.len h1
  have s6:St w0 w6 (Sep (ai r2 x.cells.toArray 60 :: held x.In :: ai r1 e.cells.toArray 36 :: ai b S1.cells.toArray 80 :: (dI g C++[held Q,B]))):=s6;have c6:w6.cell? ⟨r1,1,none⟩=some (iv n):=by rw[<- he]; exact s6.ag 2 rfl 1
  refine⟨c6,by omega,by omega,?_⟩;rw[bw];refine s6.aJ 3 rfl (j:=10+n*11+9) (by rw[hsz1]; omega) rfl λ w7 s7=>?_;have e1:=Hs h1 hn8 hy1 true;have e2:({ S1 with bd:=S1.bd.set n { ({ S.bd.getD n bF with x:=x }:Bd) with has:=true } }:Sx)=rB S n x:=by
   show({ S with bd:=(S.bd.set n _).set n _ }:Sx)=_;rw[List.set_set]; rfl
  rw[e2] at e1;rw[e1] at s7;exact s7.au [3,4,5,6,7,8,9,10,1,11]
 ·refine⟨λ w5=>St w0 w5 (Sep (cU b S g C++[held Q,B])),λ w5 s5 _=>⟨rfl,λ _=>s5,λ h=>absurd h h0⟩,cF (by simpa using h0) (s4.au [3,4,5,6,7,8,9,10,11])⟩
end
structure Ck.Inv (C:Ck):Prop where
 ok:C.Ok
 n30:C.ov=false->C.cl.length<30
section
variable {C C' : Ck}
theorem Rn.Sz.er{x:Rn}{n:Nat}:x.er.Sz n<->x.Sz n:=⟨λ h=>⟨h.ask,h.got,h.bd⟩,λ h=>⟨h.ask,h.got,h.bd⟩⟩
theorem Ck.Inv.Sn(h:C.Inv):C.er.Inv:=by
 obtain⟨⟨s,o,cl,cz,cp,ca,cg,p,ask,bd,dp,asked⟩,n30⟩:=h;have mm:∀ {x:Rn},x∈C.er.cl->∃ y∈C.cl,y.er=x:=λ hx=>List.mem_map.1 hx;have hl:C.er.cl.length=C.cl.length:=List.length_map _;refine⟨⟨⟨s.ps,s.bd,s.cp,s.sa⟩,o,by rw[hl]; exact cl,λ x hx=>?_,λ x hx=>?_,λ x hx=>?_,λ x hx=>?_,p,ask,bd,dp,asked⟩,λ h=>by rw[hl]; exact n30 h⟩
 ·obtain⟨y,hy,rfl⟩:=mm hx; exact Rn.Sz.er.2 (cz y hy)
 ·obtain⟨y,hy,rfl⟩:=mm hx; exact cp y hy
 ·obtain⟨y,hy,rfl⟩:=mm hx; exact ca y hy
 ·obtain⟨y,hy,rfl⟩:=mm hx; exact cg y hy
theorem Ck.Inv.PS(h:C.er.Inv):C.Inv:=by
 obtain⟨⟨s,o,cl,cz,cp,ca,cg,p,ask,bd,dp,asked⟩,n30⟩:=h;have mm:∀ {x:Rn},x∈C.cl->x.er∈C.er.cl:=λ hx=>List.mem_map_of_mem hx;have hl:C.er.cl.length=C.cl.length:=List.length_map _;rw[hl] at cl n30;exact⟨⟨⟨s.ps,s.bd,s.cp,s.sa⟩,o,cl,λ x hx=>Rn.Sz.er.1 (cz _ (mm hx)),λ x hx=>cp x.er (mm hx),λ x hx=>ca x.er (mm hx),λ x hx=>cg x.er (mm hx),p,ask,bd,dp,asked⟩,n30⟩
theorem Ck.Inv.er(h:C.Inv)(e:C'.er=C.er):C'.Inv:=Ck.Inv.PS (e▸h.Sn)
theorem Jx(C:Ck)(n:Nat):qL C.er n=qL C n:=by
 show(C.cl.map Rn.er).map _=_;rw[List.map_map]; rfl
theorem Nb(C:Ck):gL C.er=gL C:=by
 show gq C.dp 0 (((C.cl.map Rn.er).getLast?.map Rn.got).getD [])=_;rw[List.getLast?_map,Option.map_map]; rfl
theorem Fe(C:Ck):C.er.cl.length=C.cl.length:=List.length_map _
theorem J2(C:Ck):oC C.er=oC C:=by
 unfold oC;rw[Fe,Nb]; rfl
theorem JR(C:Ck):wQ C.er=wQ C:=by unfold wQ; rw[J2]; rfl
theorem Ky(C:Ck):nE C.er=nE C:=by unfold nE; rw[JR]; rfl
theorem GH(C:Ck):di C.er=di C:=by unfold di; rw[JR,Ky,Fe]
theorem Rr(C:Ck):(KX C.er).er=(KX C).er:=by
 show({ p:=_,ask:=_,got:=oC C.er,bd:=_,xa:=_,xc:=_,ga:=_,gc:=_,ba:=_,bc:=_ }:Rn)=_;rw[J2]; rfl
theorem JL(C:Ck):C.er.er=C.er:=by
 show({ C.er with cl:=(C.cl.map Rn.er).map Rn.er }:Ck)=_;rw[List.map_map]; rfl
theorem JB(C:Ck):(dW C.er).er=(dW C).er:=by
 have e1:(dW C.er).cl.map Rn.er=(dW C).cl.map Rn.er:=by
  show((C.cl.map Rn.er)++[KX C.er]).map Rn.er=(C.cl++[KX C]).map Rn.er;rw[List.map_append,List.map_append,List.map_map,List.map_singleton,List.map_singleton,Rr]; rfl
 show({ s:=_,o:=_,cl:=(dW C.er).cl.map Rn.er,p:=if di C.er then C.p else (nE C.er).1,ask:=_,bd:=_,dp:=_,ov:=di C.er,ka:=_,kc:=_,xa:=_,xc:=_,ya:=_,yc:=_,za:=_,zc:=_ }:Ck)=_;rw[e1,GH,Ky]; rfl
theorem NK(C:Ck):(tX C.er).er=(tX C).er:=by
 show({ s:=_,o:=_,cl:=(C.cl.map Rn.er).map Rn.er,p:=_,ask:=_,bd:=_,dp:=_,ov:=_,ka:=_,kc:=_,xa:=_,xc:=_,ya:=_,yc:=_,za:=_,zc:=_ }:Ck)=_;rw[List.map_map]; rfl
theorem JH(C:Ck)(n:Nat):(jC C.er n).er=(jC C n).er:=by
 show({ s:=_,o:=_,cl:=(C.cl.map Rn.er).map Rn.er,p:=_,ask:=_,bd:=_,dp:=_,ov:=_,ka:=_,kc:=_,xa:=_,xc:=_,ya:=_,yc:=_,za:=_,zc:=_ }:Ck)=_;rw[List.map_map]; rfl
theorem L3(C:Ck)(n:Nat)(u:I6):(rA C.er n u).er=(rA C n u).er:=by
 show({ s:=_,o:=_,cl:=(C.cl.map Rn.er).map Rn.er,p:=_,ask:=_,bd:=_,dp:=_,ov:=_,ka:=_,kc:=_,xa:=_,xc:=_,ya:=_,yc:=_,za:=_,zc:=_ }:Ck)=_;rw[List.map_map]; rfl
theorem IB(C:Ck)(r:Int):bH C.er r=bH C r:=by unfold bH; rw[Fe]; rfl
theorem KS(C:Ck)(r:Nat):(bW C.er r).er=(bW C r).er:=by
 unfold bW;have e:C.er.cl[r]?=(C.cl[r]?).map Rn.er:=List.getElem?_map ..;rw[e]
 cases C.cl[r]? with
 | none =>
  show({ s:=_,o:=_,cl:=(C.cl.map Rn.er).map Rn.er,p:=_,ask:=_,bd:=_,dp:=_,ov:=_,ka:=_,kc:=_,xa:=_,xc:=_,ya:=_,yc:=_,za:=_,zc:=_ }:Ck)=_;rw[List.map_map]; rfl
 | some x =>
  show({ s:=_,o:=_,cl:=(((C.cl.map Rn.er).take r).map Rn.er),p:=_,ask:=_,bd:=_,dp:=_,ov:=_,ka:=_,kc:=_,xa:=_,xc:=_,ya:=_,yc:=_,za:=_,zc:=_ }:Ck)=_;rw[<- List.map_take,List.map_map]; rfl
theorem L0(C:Ck)(n:Nat)(y:Br)(u:I6):kj C.er n y u=kj C n y u:=by
 unfold kj;rw[Jx]; rfl
theorem Kz(S:Se)(C:Ck)(n:Nat)(y:Br)(t:List UInt8):dQ S.er C.er n y t=dQ S C n y t:=by
 unfold dQ;rw[Jx];have:∀ l:List Of,EG S.er n y l=EG S n y l:=λ l=>by
  induction l with
  | nil=>rfl
  | cons o l ih=>rw[EG,EG,ih]; rfl
 rw[this]; rfl
theorem Kt{S:Se}{o:Po}(hs:S.Ok)(ho:o.ok):(kT S o).Inv:=⟨MU hs ho,λ _=>by show([]:List Rn).length<30; decide⟩
theorem Jo(h:C.Inv){n:Nat}{y:Br}{u:I6}(hb:kj C n y u=0):(rA C n u).Inv:=by
 have hu:I6.Le u 4:=by
  unfold kj at hb
  split at hb
  ·cases hb
  ·split at hb
   ·rename_i h1; exact absurd hb h1
   ·rename_i h1;have h2:cD C.s n y u=0:=by simpa using h1
    unfold cD at h2
    split at h2
    ·rename_i h3; exact It h3
    ·cases h2
 obtain⟨⟨s,o,cl,cz,cp,ca,cg,p,ask,bd,dp,asked⟩,n30⟩:=h;refine⟨⟨s,o,cl,cz,cp,ca,cg,p,by simpa[rA] using ask,by simpa[rA] using bd,dp,λ v hv=>?_⟩,n30⟩;rcases List.mem_or_eq_of_mem_set hv with hv|rfl
 ·exact asked v hv
 ·exact hu
theorem HN(h:C.Inv)(n:Nat):(jC C n).Inv:=by
 obtain⟨⟨s,o,cl,cz,cp,ca,cg,p,ask,bd,dp,asked⟩,n30⟩:=h;refine⟨⟨s,o,cl,cz,cp,ca,cg,p,by simpa[jC] using ask,by simpa[jC] using bd,by simpa[jC] using dp,λ v hv=>?_⟩,n30⟩;rcases List.mem_or_eq_of_mem_set hv with hv|rfl
 ·exact asked v hv
 ·exact LK (by omega)
theorem Qb{n:Nat}:∀ u∈List.replicate n z6,I6.Le u 4:=λ u hu=>by rw[List.eq_of_mem_replicate hu]; exact LK (by omega)
theorem BL(h:C.Ok):(fc C).Ok:=by
 obtain⟨s,o,cl,cz,cp,ca,cg,p,ask,bd,dp,asked⟩:=h;exact⟨s,o,cl,cz,cp,ca,cg,p,by simpa[fc] using dp,by simpa[fc] using dp,dp,Qb⟩
theorem IM(h:C.Inv):(tX C).Inv:=by
 obtain⟨s,o,cl,cz,cp,ca,cg,p,ask,bd,dp,asked⟩:=BL h.ok;exact⟨⟨s,o,cl,cz,cp,ca,cg,p,ask,bd,dp,asked⟩,λ h=>by cases h⟩
theorem FG(h:C.Inv){r:Int}(hr:bH C r=false):(bW C r.toNat).Inv:=by
 have hr' : 0<=r/\r<=C.cl.length/\(r=C.cl.length->C.ov=false):=by
  unfold bH at hr;simp only[Bool.or_eq_false_iff,decide_eq_false_iff_not,Bool.and_eq_false_iff,beq_eq_false_iff_ne] at hr;obtain⟨⟨h1,h2⟩,h3⟩:=hr;refine⟨by omega,by omega,λ e=>?_⟩;rcases h3 with h3|h3
  ·exact absurd e h3
  ·exact h3
 have k:=BL h.ok;obtain⟨s,o,cl,cz,cp,ca,cg,p,ask,bd,dp,asked⟩:=k;have hl:=h.ok.cl;unfold bW
 cases hx:C.cl[r.toNat]? with
 | some x =>
  have hm:=List.mem_of_getElem? hx;have hlt:=(List.getElem?_eq_some_iff.1 hx).1;refine⟨⟨s,o,?_,λ y hy=>cz y (List.mem_of_mem_take hy),λ y hy=>cp y (List.mem_of_mem_take hy),λ y hy=>ca y (List.mem_of_mem_take hy),λ y hy=>cg y (List.mem_of_mem_take hy),cp x hm,ask,bd,dp,asked⟩,λ _=>?_⟩
  ·show(C.cl.take r.toNat).length<=30;rw[List.length_take]; omega
  ·show(C.cl.take r.toNat).length<30;rw[List.length_take]; omega
 | none =>
  have hge:C.cl.length<=r.toNat:=List.getElem?_eq_none_iff.1 hx;have e:r=C.cl.length:=by omega
  exact⟨⟨s,o,cl,cz,cp,ca,cg,p,ask,bd,dp,asked⟩,λ _=>h.n30 (hr'.2.2 e)⟩
theorem Fk{o:Po}{p ex:I6}(hp:nF p=true)(h:(vY o p ex).2=0):nF (vY o p ex).1=true:=by
 unfold vY at h ⊢
 split
 ·rename_i g; rw[if_pos g] at h; cases h
 ·rename_i g;show nF (bE o p ex)=true
  by_cases e:bE o p ex=p
  ·rw[e]; exact hp
  ·cases hv:nF (bE o p ex) with
   | true=>rfl
   | false=>exact absurd ⟨e,hv⟩ g
theorem EV(h:C.Inv)(hov:C.ov=false):(dW C).Inv:=by
 have h30:=h.n30 hov;have hg:=J3 h.ok;have hk:=h.ok;obtain⟨s,o,cl,cz,cp,ca,cg,p,ask,bd,dp,asked⟩:=BL h.ok;have mm:∀ {Q:Rn->Prop},(∀ x∈C.cl,Q x)->Q (KX C)->∀ x∈(dW C).cl,Q x:=λ h1 h2 x hx=>by
  rcases List.mem_append.1 hx with hx|hx
  ·exact h1 x hx
  ·rw[List.mem_singleton.1 hx]; exact h2
 refine⟨⟨s,o,?_,mm cz ⟨hk.ask,hg.1,hk.bd⟩,mm cp hk.p,mm ca hk.asked,mm cg hg.2,?_,ask,bd,dp,asked⟩,λ hl=>?_⟩
 ·show(C.cl++[KX C]).length<=30;rw[List.length_append,List.length_singleton]; omega
 ·show nF (if di C then C.p else (nE C).1)=true
  split
  ·exact hk.p
  ·rename_i hl;refine Fk hk.p ?_;have hl:di C=false:=by simpa using hl
   unfold di at hl;simp only[Bool.or_eq_false_iff] at hl;have h2:(nE C).2=0:=by simpa using hl.2.2
   exact h2
 ·have hl:di C=false:=hl;unfold di at hl;simp only[Bool.or_eq_false_iff,decide_eq_false_iff_not] at hl;show(C.cl++[KX C]).length<30;rw[List.length_append,List.length_singleton]; omega
end
theorem RH{S:Sx}(h:S.bd.length=8)(k:OA):S.cells.toArray.setIfInBounds 9 (.pointer k)=({ S with k:=k }:Sx).cells.toArray:=by
 obtain⟨o,ph,s,k0,bd,dec,cnt,dig⟩:=S;obtain⟨b0,b1,b2,b3,b4,b5,b6,b7,rfl⟩:=bB h;rfl
theorem Qv(S:Sx)(S' : Se):(S.cells.toArray.toList.take 5++S'.arr.toList++S.cells.toArray.toList.drop (5+S'.arr.toList.length)).toArray=({ S with s:=S' }:Sx).cells.toArray:=rfl
def mQ(o:Po)(t:List UInt8):Int:=if oP o≠0 then oP o else vh t
section
variable {w0 w:World} {b:Nat} {S:Sx} {B:aD}
theorem NF(s:St w0 w (Sep [ai b S.cells.toArray 80,B]))(h:S.bd.length=8){e:Ev}(ht:e.text.length<=80000) :
  CP 51 #[.pointer (some ⟨b,0,none⟩),e.v] w (λ r w'=>r=iv (mQ S.o e.text)/\(mQ S.o e.text≠0->St w0 w' (Sep [ai b S.cells.toArray 80,B]))/\(mQ S.o e.text=0->∃ (S' : Se) (g:Nat) (C:Ck),S'.er=(vi e.text).er/\S'.Ok/\S.o.ok/\C.er=(kT S' S.o).er/\St w0 w' (Sep (cU b { S with ph:=1,s:=S',k:=some ⟨g,0,none⟩ } g C++[held S'.In,B])))):=by
 refine qE (u1:=e.want) ?_;unfold lz;refine s.ax e.cells.toArray λ r1 w1 s1=>?_;refine⟨_,_,_,_,s1.aF (vs:=S.o.cells) 1 0 rfl rfl,aj (ve w1 S.o) ?_⟩;rintro v w2 ⟨rfl,c2⟩;have s2:=s1.quiet c2;refine⟨_,rfl,?_⟩
 by_cases h1:oP S.o=0
 ·have e1:mQ S.o e.text=vh e.text:=by rw[mQ,if_neg (λ h=>h h1)]
  refine cF (by simpa using h1) ⟨_,s2.ag 0 rfl 9,aj (Lg w2 e.text ht) ?_⟩;rintro v w3 ⟨S',i,rfl,k3,hok⟩;have s3:St w0 w3 (Sep [held S'.In,ai r1 e.cells.toArray 36,ai b S.cells.toArray 80,B]):=s2.and k3;refine⟨_,_,_,_,_,_,_,_,_,_,_,_,_,_,rfl,s3.ax hM.arr λ r2 w4 s4=>s4.ay 0 rfl S'.arr.toList rfl (by simp[Se.arr,Value.oneCell']) λ w5 s5=>?_⟩;have s5:St w0 w5 (Sep [ai r2 S'.arr 75,held S'.In,ai r1 e.cells.toArray 36,ai b S.cells.toArray 80,B]):=s5
  by_cases h2:vh e.text=0
  ·obtain⟨eS,hS⟩:=hok h2;have ho:S.o.ok:=by
    unfold oP at h1
    by_cases g:S.o.ok
    ·exact g
    ·rw[if_neg g] at h1; cases h1
   have s6:=s5.quiet (aA.drew w5 []);refine cF (by simpa using h2) ⟨_,_,_,_,_,_,_,_,_,_,_,_,s6.cellsIn (cs:=S'.arr) 0 rfl,_,_,_,_,s6.aF (vs:=S.o.cells) 3 0 rfl rfl,aj (Rl (s6.bK 1 rfl) hS ho) ?_⟩;rintro v w7 ⟨g,C,eC,rfl,k7⟩;have s7:St w0 w7 (Sep (dI g C++[ai r2 S'.arr 75,held S'.In,ai r1 e.cells.toArray 36,ai b S.cells.toArray 80,B])):=St.cat (s6.and k7);refine⟨_,_,rfl,cF rfl ⟨_,_,_,_,_,_,_,_,_,_,_,_,s7.cellsIn (cs:=S'.arr) 6 rfl,?_⟩⟩;have hsz:S.cells.toArray.size=101:=de h;refine s7.j7 9 5 rfl (vs:=S'.arr.toList) ({ S with s:=S' }:Sx).cells.toArray (by rw[hsz]; show 9<=101; decide) (by simp[Se.arr,Value.oneCell']) (Qv S S') λ w8 s8=>?_;have h1' : ({ S with s:=S' }:Sx).bd.length=8:=h;refine s8.aJ 9 rfl (j:=9) (by show 9<({ S with s:=S' }:Sx).cells.toArray.size; rw[de h1']; decide) rfl λ w9 s9=>?_;rw[RH h1'] at s9;have h2' : ({ S with s:=S',k:=some ⟨g,0,none⟩ }:Sx).bd.length=8:=h;refine s9.aJ 9 rfl (j:=4) (by show 4<({ S with s:=S',k:=some ⟨g,0,none⟩ }:Sx).cells.toArray.size; rw[de h2']; decide) rfl λ w10 s10=>?_;rw[Er h2'] at s10;refine⟨by rw[e1,h2],λ h=>absurd (e1.trans h2) h,λ _=>⟨S',g,C,eS,hS,ho,eC,?_⟩⟩;exact s10.au [9,0,1,2,3,4,5,7,10]
  ·exact cT (by simpa using h2) ⟨by rw[e1],λ _=>s5.au [3,4],λ h=>absurd (e1.symm.trans h) h2⟩
 ·exact cT (by simpa using h1) ⟨by rw[mQ,if_pos h1],λ _=>s2.second,λ h=>absurd h (by rw[mQ,if_pos h1]; exact h1)⟩
end
def dU(k:Int):FuncId:=if k=1 then 51 else if k=2 then 52 else if k=3\/k=4 then 53 else if k=5 then 54
 else if k=6 then 55 else if k=7 then 56 else if k=8 then 57 else 58
theorem JI(w:World)(b:Nat)(k:Int):CP 29 #[.pointer (some ⟨b,0,none⟩),iv k] w (λ r w'=>r=.func (.func (dU k)) #[] #[]/\w' = w):=by
 refine nN ?_;unfold ja
 by_cases h1:k=1
 ·exact cT (by simpa using h1) ⟨by rw[dU,if_pos h1],rfl⟩
 refine cF (by simpa using h1) ?_
 by_cases h2:k=2
 ·exact cT (by simpa using h2) ⟨by rw[dU,if_neg h1,if_pos h2],rfl⟩
 refine cF (by simpa using h2) ⟨λ b w1=>b=decide (k=3\/k=4)/\w1=w,?_,?_⟩
 ·rintro w1 _ ⟨rfl,rfl⟩ -
  by_cases h3:k=3\/k=4
  ·exact cT (dT h3) ⟨by rw[dU,if_neg h1,if_neg h2,if_pos h3],rfl⟩
  refine cF (dF h3) ?_
  by_cases h5:k=5
  ·exact cT (by simpa using h5) ⟨by rw[dU,if_neg h1,if_neg h2,if_neg h3,if_pos h5],rfl⟩
  refine cF (by simpa using h5) ?_
  by_cases h6:k=6
  ·exact cT (by simpa using h6) ⟨by rw[dU,if_neg h1,if_neg h2,if_neg h3,if_neg h5,if_pos h6],rfl⟩
  refine cF (by simpa using h6) ?_
  by_cases h7:k=7
  ·exact cT (by simpa using h7) ⟨by rw[dU,if_neg h1,if_neg h2,if_neg h3,if_neg h5,if_neg h6,if_pos h7],rfl⟩
  refine cF (by simpa using h7) ?_
  by_cases h8:k=8
  ·exact cT (by simpa using h8) ⟨by rw[dU,if_neg h1,if_neg h2,if_neg h3,if_neg h5,if_neg h6,if_neg h7,if_pos h8],rfl⟩
  ·exact cF (by simpa using h8) ⟨by rw[dU,if_neg h1,if_neg h2,if_neg h3,if_neg h5,if_neg h6,if_neg h7,if_neg h8],rfl⟩
 ·by_cases g3:k=3
  ·exact cT (by simpa using g3) ⟨by rw[dT (Or.inl g3)]; simpa using g3,rfl⟩
  ·refine cF (by simpa using g3) ⟨?_,rfl⟩
   by_cases g4:k=4
   ·rw[dT (Or.inr g4)]; simpa using g4
   ·rw[dF (by omega)]; simpa using g4
def zV:Br:=⟨[],0,0,0⟩
def bT(S:Sx)(C:Ck)(e:Ev):Int :=
 if e.kind=1 then mQ S.o e.text
 else if e.kind=2 then kj C e.bidder.toNat (C.s.bd.getD e.bidder.toNat zV) e.want
 else if e.kind=3\/e.kind=4 then (if C.ov then 10 else 0)
 else if e.kind=5 then dQ S.s C e.bidder.toNat (S.s.bd.getD e.bidder.toNat zV) e.text
 else if e.kind=6 then (if (S.bd.getD e.bidder.toNat bF).has then 0 else 6)
 else if e.kind=7 then (if C.dp.getD e.bidder.toNat false then 10 else 0)
 else if e.kind=8 then (if bH C e.round then 4 else 0) else 0
def bu(S:Sx)(C:Ck)(e:Ev):Sx :=
 if e.kind=1 then { S with ph:=1,s:=vi e.text }
 else if e.kind=2 then S
 else if e.kind=3 then (if di C then { S with ph:=2 } else S)
 else if e.kind=4 then { S with ph:=2 }
 else if e.kind=5 then rB S e.bidder.toNat (bz S.s.ps e.text).1
 else if e.kind=6 then aX S e.bidder.toNat
 else if e.kind=7 then aX (eD S e.bidder.toNat) e.bidder.toNat
 else if e.kind=8 then { bA S 8 with ph:=1 } else ox S e
def bS(S:Sx)(C:Ck)(e:Ev):Ck :=
 if e.kind=1 then kT (vi e.text) S.o
 else if e.kind=2 then rA C e.bidder.toNat e.want
 else if e.kind=3 then dW C
 else if e.kind=4 then tX C
 else if e.kind=7 then jC C e.bidder.toNat
 else if e.kind=8 then bW C e.round.toNat else C
theorem LI:∀ x:Xv,x.er.er=x.er:=Xv.ind λ x ih=>by
 rw[Xv.ot x,Xv.er,Xv.E1]
 congr 1
 rw[List.map_map];exact List.map_congr_left λ y hy=>ih y hy
def Bd.er(y:Bd):Bd:={ y with x:=y.x.er }
def Sx.er(S:Sx):Sx:={ S with s:=S.s.er,k:=none,bd:=S.bd.map Bd.er }
theorem Bz(y:Bd):y.er.er=y.er:=by show({ y with x:=y.x.er.er }:Bd)=_; rw[LI]; rfl
theorem fJ(S:Sx):S.er.er=S.er:=by
 show({ S.er with bd:=(S.bd.map Bd.er).map Bd.er }:Sx)=_;rw[List.map_map,show(Bd.er ∘ Bd.er)=Bd.er from funext Bz]; rfl
theorem LL:bF.er=bF:=by show({ bF with x:=cI.er }:Bd)=_; rw[F8]; rfl
theorem dV(S:Sx)(n:Nat):S.er.bd.getD n bF=(S.bd.getD n bF).er:=by
 show(S.bd.map Bd.er).getD n bF=_;rw[List.getD_eq_getElem?_getD,List.getD_eq_getElem?_getD,List.getElem?_map]
 cases S.bd[n]? with
 | none=>exact LL.symm
 | some y=>rfl
theorem rQ{l:List Bd}{n:Nat}{y y' : Bd}(h:y.er=y'.er):((l.map Bd.er).set n y).map Bd.er=(l.set n y').map Bd.er:=by
 rw[List.map_set,List.map_set,List.map_map,h,show(Bd.er ∘ Bd.er)=Bd.er from funext Bz]
theorem vp(S:Sx)(n:Nat):(aX S.er n).er=(aX S n).er:=by
 have:((S.bd.map Bd.er).set n (vN (S.er.bd.getD n bF))).map Bd.er=(S.bd.set n (vN (S.bd.getD n bF))).map Bd.er:=rQ (by rw[dV]; rfl);show({ S.er with bd:=((S.bd.map Bd.er).set n (vN (S.er.bd.getD n bF))).map Bd.er }:Sx)=_;rw[this]; rfl
theorem KD(S:Sx)(n:Nat):(eD S.er n).er=(eD S n).er:=by
 have:((S.bd.map Bd.er).set n { S.er.bd.getD n bF with out:=true }).map Bd.er=(S.bd.set n { S.bd.getD n bF with out:=true }).map Bd.er:=rQ (by rw[dV]; exact Bz { S.bd.getD n bF with out:=true });show({ S.er with bd:=((S.bd.map Bd.er).set n { S.er.bd.getD n bF with out:=true }).map Bd.er }:Sx)=_;rw[this]; rfl
theorem Ek{S S' : Sx}(h:S'.er=S.er)(n:Nat):(aX S' n).er=(aX S n).er:=by rw[<- vp S',h,vp]
theorem Bc{S S' : Sx}(h:S'.er=S.er):∀ k,(bA S' k).er=(bA S k).er
 | 0=>h
 | k+1=>Ek (Bc h k) k
theorem G4{S S' : Sx}(h:S'.er=S.er)(x:Int):({ S' with ph:=x }:Sx).er=({ S with ph:=x }:Sx).er:=by
 show({ S'.er with ph:=x }:Sx)={ S.er with ph:=x };rw[h]
theorem L4(S:Sx)(n:Nat)(x:Xv):(rB S.er n x).er=(rB S n x).er:=by
 have:((S.bd.map Bd.er).set n { S.er.bd.getD n bF with x:=x,has:=true }).map Bd.er=(S.bd.set n { S.bd.getD n bF with x:=x,has:=true }).map Bd.er:=rQ (by rw[dV]; rfl);show({ S.er with bd:=((S.bd.map Bd.er).set n { S.er.bd.getD n bF with x:=x,has:=true }).map Bd.er }:Sx)=_;rw[this]; rfl
theorem OX{S:Sx}{n:Nat}{x x' : Xv}(h:x.er=x'.er):(rB S n x).er=(rB S n x').er:=by
 have:(S.bd.set n { S.bd.getD n bF with x:=x,has:=true }).map Bd.er=(S.bd.set n { S.bd.getD n bF with x:=x',has:=true }).map Bd.er:=by
  rw[List.map_set,List.map_set]
  congr 1
  show({ S.bd.getD n bF with x:=x.er,has:=true }:Bd)={ S.bd.getD n bF with x:=x'.er,has:=true };rw[h]
 show({ S.er with bd:=(S.bd.set n { S.bd.getD n bF with x:=x,has:=true }).map Bd.er }:Sx)=_;rw[this]; rfl
theorem BO(S:Sx)(C:Ck)(e:Ev):bT S.er C.er e=bT S C e:=by
 have h1:(S.er.bd.getD e.bidder.toNat bF).has=(S.bd.getD e.bidder.toNat bF).has:=by rw[dV]; rfl
 unfold bT;rw[h1,L0,IB];show(if _ then _ else if _ then _ else if _ then _ else if _ then dQ S.s.er C.er _ _ _ else _)=_;rw[Kz]; rfl
theorem BP(S:Sx)(C:Ck)(e:Ev):(bu S.er C.er e).er=(bu S C e).er:=by
 unfold bu;rw[GH]
 split
 ·show({ S.er.er with ph:=1,s:=(vi e.text).er }:Sx)={ S.er with ph:=1,s:=(vi e.text).er };rw[fJ]
 ·split
  ·exact fJ S
  ·split
   ·split
    ·exact G4 (fJ S) 2
    ·exact fJ S
   ·split
    ·exact G4 (fJ S) 2
    ·split
     ·exact L4 S _ _
     ·split
      ·exact vp S _
      ·split
       ·exact Ek (KD S _) _
       ·split
        ·exact G4 (Bc (fJ S) 8) 1
        ·unfold ox
         split
         ·show({ S.er.er with ph:=4,dec:=e.digest }:Sx)={ S.er with ph:=4,dec:=e.digest };rw[fJ]
         ·exact G4 (fJ S) 3
theorem BN(S:Sx)(C:Ck)(e:Ev):(bS S.er C.er e).er=(bS S C e).er:=by
 unfold bS
 split
 ·rfl
 ·split
  ·exact L3 C _ _
  ·split
   ·exact JB C
   ·split
    ·exact NK C
    ·split
     ·exact JH C _
     ·split
      ·exact KS C _
      ·exact JL C
def HA(S:Sx)(w:World):Prop:=S.s.In w/\∀ y∈S.bd,y.x.In w
structure vD (S:Sx) (C:Ck) (w:World):Prop where
 h:HA S w
 k:∀ q,S.k=some q->∃ g,q=⟨g,0,none⟩/\C.Rd g w
structure p7 (S:Sx) (C:Ck):Prop where
 b8:S.bd.length=8
 ph:0<=S.ph/\S.ph<=4
 z:S.ph=0->S.s.er=hM
 c:S.ph≠0->C.Inv
 cs:S.ph≠0->C.s.er=S.s.er
 so:S.ph≠0->S.s.Ok
 cnt:0<=S.cnt/\S.cnt<=600
 dig:0<=S.dig/\S.dig<18446744073709551616
 x:∀ y∈S.bd,y.has=true->dH y.x=0
def I8(S:Sx):Prop:=(S.ph=0->S.k=none)/\(S.ph≠0->∃ g,S.k=some ⟨g,0,none⟩)
theorem xR{S S' : Se}(e:S'.er=S.er):S'.bd=S.bd:=show S'.er.bd=S.er.bd from congrArg Se.bd e
theorem Nw{S S' : Se}(e:S'.er=S.er)(h:S.Ok):S'.Ok:=by
 have h2:S.er.Ok:=⟨h.ps,h.bd,h.cp,h.sa⟩;rw[<- e] at h2;exact⟨h2.ps,h2.bd,h2.cp,h2.sa⟩
theorem getD_at{α:Type}{l:List α}{n:Nat}{d:α}(h:n<l.length):l[n]?=some (l.getD n d):=by rw[List.getD_eq_getElem?_getD,gE h]; rfl
theorem pU{S:Sx}{n:Nat}{y:Bd}(h:y∈(aX S n).bd):y∈S.bd\/(y.x=cI/\y.has=false):=by
 rcases List.mem_or_eq_of_mem_set h with h|rfl
 ·exact .inl h
 ·exact .inr ⟨rfl,rfl⟩
theorem rR{S:Sx}{y:Bd}:∀ k,y∈(bA S k).bd->y∈S.bd\/(y.x=cI/\y.has=false)
 | 0,h=>.inl h
 | k+1,h=>(pU h).elim (rR k) .inr
theorem GK{S:Sx}{n:Nat}{y:Bd}(h8:n<S.bd.length)(h:y∈(eD S n).bd):∃ z∈S.bd,y.x=z.x/\y.has=z.has:=by
 rcases List.mem_or_eq_of_mem_set h with h|rfl
 ·exact⟨y,h,rfl,rfl⟩
 ·exact⟨S.bd.getD n bF,List.mem_of_getElem? (getD_at h8),rfl,rfl⟩
section
variable {w0 w:World} {b g:Nat} {S:Sx} {C:Ck} {B:aD}
theorem gx{Q:World->Prop}(s:St w0 w (Sep (cU b S g C++[held Q,B])))(hk:S.k=some ⟨g,0,none⟩)(hQ:∀ w,Q w->HA S w):St w0 w (Sep [ai b S.cells.toArray 80,held (vD S C),B]):=by
 have s1:St w0 w (Sep (dI g C++[held Q,ai b S.cells.toArray 80,B])):=s.au [1,2,3,4,5,6,7,0,8];have s2:St w0 w (Sep (Sep (dI g C) :: held Q :: [ai b S.cells.toArray 80,B])):=s1.split _;have s3:=s2.qQ (S:=vD S C) yj (aZ Q) (λ w h1 h2=>⟨hQ w h2,λ q hq=>by rw[hk] at hq; cases hq; exact⟨g,rfl,h1⟩⟩);exact s3.au [1,0,2]
def OK(w0:World)(b:Nat)(S:Sx)(C:Ck)(e:Ev)(Q:World->Prop)(B:aD):KP:=λ r w'=>r=iv (bT S C e) /\
 (bT S C e≠0->∃ X:Sx,X.bd.length=8/\St w0 w' (Sep [ai b X.cells.toArray 80,held Q,B])) /\
 (bT S C e=0->∃ (S' : Sx) (C' : Ck),S'.er=(bu S C e).er/\C'.er=(bS S C e).er/\(∃ g,S'.k=some ⟨g,0,none⟩)/\St w0 w' (Sep [ai b S'.cells.toArray 80,held (vD S' C'),B]))
theorem Pd{Q:World->Prop}(hQ:∀ w,Q w->HA S w)(s:St w0 w (Sep [ai b S.cells.toArray 80,held Q,B]))(h8:S.bd.length=8){e:Ev}(he:e.QE)(h1:e.kind=1) :
  Calls prog (dU e.kind) #[pt b,e.v] w (ur (OK w0 b S C e Q B)):=by
 have eF:dU e.kind=51:=by rw[dU,if_pos h1]
 have eE:bT S C e=mQ S.o e.text:=by rw[bT,if_pos h1]
 rw[eF];have s1:St w0 w (Sep [ai b S.cells.toArray 80,Sep [held Q,B]]):=s.eqv (aT.right (aT.unit _));refine aj (NF s1 h8 (by have:=he.t; omega)) ?_;rintro v w1 ⟨rfl,k1,k2⟩;refine⟨_,rfl,by rw[eE],λ h=>⟨S,h8,?_⟩,λ h=>?_⟩
 ·have:=(k1 (by rw[<- eE]; exact h)).dw [_];exact this
 ·obtain⟨S',g,C',e1,hS,ho,e2,s2⟩:=k2 (by rw[<- eE]; exact h);let S2:Sx:={ S with ph:=1,s:=S',k:=some ⟨g,0,none⟩ };have s3:St w0 w1 (Sep (cU b S2 g C'++[held S'.In,held Q,B])):=s2.dw [_,_,_,_,_,_,_,_];have s4:=(s3.au [7,8,0,1,2,3,4,5,6,9]).qQ (S:=HA S2) (aZ _) (aZ _) (λ w h1 h2=>⟨h1,(hQ w h2).2⟩);have s5:St w0 w1 (Sep (cU b S2 g C'++[held (HA S2),B])):=s4.au [1,2,3,4,5,6,7,0,8];refine⟨S2,C',?_,?_,⟨g,rfl⟩,gx s5 rfl λ w h=>h⟩
  ·rw[bu,if_pos h1];show({ S.er with ph:=1,s:=S'.er }:Sx)={ S.er with ph:=1,s:=(vi e.text).er };rw[e1]
  ·rw[bS,if_pos h1,e2];have hb:=xR e1;show({ s:=S'.er,o:=S.o,cl:=[],p:=iW S'.er.ps,ask:=List.replicate S'.bd.length z6,bd:=List.replicate S'.bd.length false,dp:=List.replicate S'.bd.length false,ov:=false,ka:=none,kc:=0,xa:=none,xc:=0,ya:=none,yc:=0,za:=none,zc:=0 }:Ck)=_;rw[hb,e1]; rfl
theorem Pe{Q:World->Prop}(hQ:∀ w,Q w->HA S w)(s:St w0 w (Sep (cU b S g C++[held Q,B])))(hok:p7 S C)(h0:S.ph≠0)(hk:S.k=some ⟨g,0,none⟩){e:Ev}(he:e.QE)(hp:dB e.kind S.ph=true)(hn:br e.kind=true->e.bidder<S.s.bd.length) :
  Calls prog (dU e.kind) #[pt b,e.v] w (ur (OK w0 b S C e Q B)):=by
 have h8:=hok.b8;have hC:=(hok.c h0).ok;have hS:=hok.so h0;have hcs:=xR (hok.cs h0);have hb8:=hS.bd.l2;have n1:e.kind≠1:=λ h=>by
  rw[h] at hp;have:dB 1 S.ph=(S.ph==0):=by rw[dB,if_pos rfl]
  rw[this] at hp; exact h0 (by simpa using hp)
 have l7:St w0 w (Sep (cU b S g C++[Sep [held Q,B]])):=St.cat ((s.split (cU b S g C)).eqv (aT.right (aT.unit _)));have unf:∀ {w' : World} {S' : Sx} {C' : Ck},St w0 w' (Sep (cU b S' g C'++[Sep [held Q,B]]))->St w0 w' (Sep (cU b S' g C'++[held Q,B])):=λ s=>s.dw [_,_,_,_,_,_,_];have boxed:∀ {w' : World} {S' : Sx} {C' : Ck},St w0 w' (Sep (cU b S' g C'++[held Q,B]))->St w0 w' (Sep [ai b S'.cells.toArray 80,held Q,B]):=λ s=>s.au [0,7,8];have hb:0<=e.bidder:=he.b.1;have eb:e.bidder=(e.bidder.toNat:Int):=(Int.toNat_of_nonneg hb).symm
 by_cases h2:e.kind=2
 ·have hnb:=hn (by rw[br,dT (Or.inl h2)]);have eF:dU e.kind=52:=by rw[dU,if_neg n1,if_pos h2]
  have eE:bT S C e=kj C e.bidder.toNat (C.s.bd.getD e.bidder.toNat zV) e.want:=by rw[bT,if_neg n1,if_pos h2]
  have eS:bu S C e=S:=by rw[bu,if_neg n1,if_pos h2]
  have eC:bS S C e=rA C e.bidder.toNat e.want:=by rw[bS,if_neg n1,if_pos h2]
  rw[eF];refine aj (II l7 h8 hk hC eb (getD_at (d:=zV) (by rw[hcs]; omega))) ?_;rintro v w1 ⟨rfl,s1⟩;refine⟨_,rfl,by rw[eE],λ h=>⟨S,h8,boxed (unf s1)⟩,λ h=>?_⟩;rw[eE] at h;rw[if_pos h] at s1;exact⟨S,rA C e.bidder.toNat e.want,by rw[eS],by rw[eC],⟨g,hk⟩,gx (unf s1) hk hQ⟩
 by_cases h34:e.kind=3\/e.kind=4
 ·have eF:dU e.kind=53:=by rw[dU,if_neg n1,if_neg h2,if_pos h34]
  have eE:bT S C e=if C.ov then 10 else 0:=by rw[bT,if_neg n1,if_neg h2,if_pos h34]
  rw[eF];refine aj (Li l7 h8 hk hC e) ?_;rintro v w1 ⟨x,S',C',rfl,h8',hk',hx,hov,s1⟩;refine⟨_,rfl,by rw[eE,hx],λ h=>⟨S',h8',boxed (unf s1)⟩,λ h=>?_⟩;have ho:C.ov=false:=by
   cases hv:C.ov with
   | false=>rfl
   | true=>rw[eE,hv] at h; cases h
  obtain⟨c1,c2⟩:=hov ho;refine⟨S',C',?_,?_,⟨g,hk'.trans hk⟩,gx (unf s1) (hk'.trans hk) λ w h=>?_⟩
  ·rw[bu,if_neg n1,if_neg h2,c2]
   by_cases h3:e.kind=3
   ·rw[if_pos h3,if_pos h3]
   ·rw[if_neg h3,if_neg h3,if_pos (h34.resolve_left h3)]; rfl
  ·rw[bS,if_neg n1,if_neg h2,c1]
   by_cases h3:e.kind=3
   ·rw[if_pos h3,if_pos h3]
   ·rw[if_neg h3,if_neg h3,if_pos (h34.resolve_left h3)]
  ·have:S'.s=S.s/\S'.bd=S.bd:=by
    rw[c2];constructor<;>(repeat' split)<;>rfl
   unfold HA;rw[this.1,this.2]; exact hQ w h
 have n3:e.kind≠3:=λ h=>h34 (.inl h);have n4:e.kind≠4:=λ h=>h34 (.inr h)
 by_cases h5:e.kind=5
 ·have hnb:=hn (by rw[br,dT (Or.inr (Or.inl h5))]);have eF:dU e.kind=54:=by rw[dU,if_neg n1,if_neg h2,if_neg h34,if_pos h5]
  have eE:bT S C e=dQ S.s C e.bidder.toNat (S.s.bd.getD e.bidder.toNat zV) e.text:=by rw[bT,if_neg n1,if_neg h2,if_neg h34,if_pos h5]
  have eS:bu S C e=rB S e.bidder.toNat (bz S.s.ps e.text).1:=by rw[bu,if_neg n1,if_neg h2,if_neg n3,if_neg n4,if_pos h5]
  have eC:bS S C e=C:=by rw[bS,if_neg n1,if_neg h2,if_neg n3,if_neg n4,if_neg (by omega),if_neg (by omega)]
  rw[eF];refine aj (Qf (Q:=Q) (λ w h=>(hQ w h).1) s h8 hk hC hS eb (by rw[hcs]; omega) (getD_at (d:=zV) (by omega))) ?_;rintro v w1 ⟨rfl,k1,k2⟩;refine⟨_,rfl,by rw[eE],λ h=>⟨S,h8,boxed (k1 (by rw[<- eE]; exact h))⟩,λ h=>?_⟩;obtain⟨x,ex,s1⟩:=k2 (by rw[<- eE]; exact h);have s2:=(s1.au [7,8,0,1,2,3,4,5,6,9]).qQ (S:=HA (rB S e.bidder.toNat x)) (aZ _) (aZ _) (λ w h1 h2=>⟨(hQ w h1).1,λ y hy=>by
   rcases List.mem_or_eq_of_mem_set hy with hy|rfl
   ·exact(hQ w h1).2 y hy
   ·exact h2⟩)
  have s3:St w0 w1 (Sep (cU b (rB S e.bidder.toNat x) g C++[held (HA (rB S e.bidder.toNat x)),B])):=s2.au [1,2,3,4,5,6,7,0,8];refine⟨rB S e.bidder.toNat x,C,by rw[eS]; exact OX (by rw[<- ex,LI]),by rw[eC],⟨g,hk⟩,gx s3 hk λ w h=>h⟩
 have dropQ:∀ {S' : Sx} {w:World},S'.s=S.s->(∀ y∈S'.bd,y∈S.bd\/(y.x=cI/\y.has=false))->Q w->HA S' w:=λ e1 e2 h=>⟨by rw[e1]; exact(hQ _ h).1,λ y hy=>by
  rcases e2 y hy with h1|⟨h1,_⟩
  ·exact(hQ _ h).2 y h1
  ·rw[h1]; exact EE _⟩
 have s' : St w0 w (Sep (ai b S.cells.toArray 80 :: (dI g C++[held Q,B]))):=s
 by_cases h6:e.kind=6
 ·have hnb:=hn (by rw[br,dT (Or.inr (Or.inr (Or.inl h6)))]);have eF:dU e.kind=55:=by rw[dU,if_neg n1,if_neg h2,if_neg h34,if_neg h5,if_pos h6]
  have eE:bT S C e=if (S.bd.getD e.bidder.toNat bF).has then 0 else 6:=by rw[bT,if_neg n1,if_neg h2,if_neg h34,if_neg h5,if_pos h6]
  have eS:bu S C e=aX S e.bidder.toNat:=by rw[bu,if_neg n1,if_neg h2,if_neg n3,if_neg n4,if_neg h5,if_pos h6]
  have eC:bS S C e=C:=by rw[bS,if_neg n1,if_neg h2,if_neg n3,if_neg n4,if_neg (by omega),if_neg (by omega)]
  rw[eF];refine aj (F4 s' h8 (by omega) eb) ?_;rintro v w1 (⟨hh,rfl,s1⟩|⟨hh,rfl,s1⟩)
  ·exact⟨_,rfl,by rw[eE,hh]; rfl,λ _=>⟨S,h8,boxed s1⟩,λ h=>by rw[eE,hh] at h; cases h⟩
  ·refine⟨_,rfl,by rw[eE,hh]; rfl,λ h=>absurd (by rw[eE,hh]; rfl) h,λ _=>⟨aX S e.bidder.toNat,C,by rw[eS],by rw[eC],⟨g,hk⟩,gx (show St w0 w1 (Sep (cU b (aX S e.bidder.toNat) g C++[held Q,B])) from s1) hk λ w h=>dropQ rfl (λ y hy=>pU hy) h⟩⟩
 by_cases h7:e.kind=7
 ·have hnb:=hn (by rw[br,dT (Or.inr (Or.inr (Or.inr h7)))]);have eF:dU e.kind=56:=by rw[dU,if_neg n1,if_neg h2,if_neg h34,if_neg h5,if_neg h6,if_pos h7]
  have eE:bT S C e=if C.dp.getD e.bidder.toNat false then 10 else 0:=by rw[bT,if_neg n1,if_neg h2,if_neg h34,if_neg h5,if_neg h6,if_pos h7]
  have eS:bu S C e=aX (eD S e.bidder.toNat) e.bidder.toNat:=by rw[bu,if_neg n1,if_neg h2,if_neg n3,if_neg n4,if_neg h5,if_neg h6,if_pos h7]
  have eC:bS S C e=jC C e.bidder.toNat:=by rw[bS,if_neg n1,if_neg h2,if_neg n3,if_neg n4,if_pos h7]
  have hgd:∀ {v:Bool},C.dp[e.bidder.toNat]?=some v->C.dp.getD e.bidder.toNat false=v:=λ h=>by rw[List.getD_eq_getElem?_getD,h]; rfl
  rw[eF];refine aj (Nv l7 h8 hk hC eb (by rw[hcs]; omega)) ?_;have hq:∀ w,Q w->HA (aX (eD S e.bidder.toNat) e.bidder.toNat) w:=λ w h=>⟨(hQ w h).1,λ y hy=>by
   rcases pU hy with h1|⟨h1,_⟩
   ·obtain⟨z,hz,e1,_⟩:=GK (by omega) h1;rw[e1]; exact(hQ w h).2 z hz
   ·rw[h1]; exact EE _⟩
  rintro v w1 (⟨hd,rfl,s1⟩|⟨hd,rfl,s1⟩)
  ·exact⟨_,rfl,by rw[eE,hgd hd]; rfl,λ _=>⟨_,by simp[aX,eD,h8],boxed (unf s1)⟩,λ h=>by rw[eE,hgd hd] at h; cases h⟩
  ·exact⟨_,rfl,by rw[eE,hgd hd]; rfl,λ h=>absurd (by rw[eE,hgd hd]; rfl) h,λ _=>⟨aX (eD S e.bidder.toNat) e.bidder.toNat,_,by rw[eS],by rw[eC],⟨g,hk⟩,gx (unf s1) hk hq⟩⟩
 by_cases h8' : e.kind=8
 ·have eF:dU e.kind=57:=by rw[dU,if_neg n1,if_neg h2,if_neg h34,if_neg h5,if_neg h6,if_neg h7,if_pos h8']
  have eE:bT S C e=if bH C e.round then 4 else 0:=by rw[bT,if_neg n1,if_neg h2,if_neg h34,if_neg h5,if_neg h6,if_neg h7,if_pos h8']
  have eS:bu S C e={ bA S 8 with ph:=1 }:=by rw[bu,if_neg n1,if_neg h2,if_neg n3,if_neg n4,if_neg h5,if_neg h6,if_neg h7,if_pos h8']
  have eC:bS S C e=bW C e.round.toNat:=by rw[bS,if_neg n1,if_neg h2,if_neg n3,if_neg n4,if_neg h7,if_pos h8']
  have hsk:∀ k,(bA S k).k=S.k/\(bA S k).s=S.s:=λ k=>by
   induction k with
   | zero=>exact⟨rfl,rfl⟩
   | succ k ih=>exact ih
  rw[eF];refine aj (Lh l7 h8 hk hC e) ?_;rintro v w1 (⟨hd,rfl,s1⟩|⟨hd,rfl,C',eC',s1⟩)
  ·exact⟨_,rfl,by rw[eE,hd]; rfl,λ _=>⟨S,h8,boxed (unf s1)⟩,λ h=>by rw[eE,hd] at h; cases h⟩
  ·exact⟨_,rfl,by rw[eE,hd]; rfl,λ h=>absurd (by rw[eE,hd]; rfl) h,λ _=>⟨{ bA S 8 with ph:=1 },C',by rw[eS],by rw[eC,eC'],⟨g,(hsk 8).1.trans hk⟩,gx (unf s1) ((hsk 8).1.trans hk) λ w h=>dropQ (hsk 8).2 (λ y hy=>rR 8 hy) h⟩⟩
 ·have eF:dU e.kind=58:=by rw[dU,if_neg n1,if_neg h2,if_neg h34,if_neg h5,if_neg h6,if_neg h7,if_neg h8']
  have eE:bT S C e=0:=by rw[bT,if_neg n1,if_neg h2,if_neg h34,if_neg h5,if_neg h6,if_neg h7,if_neg h8']
  have eS:bu S C e=ox S e:=by rw[bu,if_neg n1,if_neg h2,if_neg n3,if_neg n4,if_neg h5,if_neg h6,if_neg h7,if_neg h8']
  have eC:bS S C e=C:=by rw[bS,if_neg n1,if_neg h2,if_neg n3,if_neg n4,if_neg h7,if_neg h8']
  have hf:(ox S e).k=S.k/\(ox S e).s=S.s/\(ox S e).bd=S.bd:=by unfold ox; split<;>exact⟨rfl,rfl,rfl⟩
  rw[eF];refine aj (JZ s' h8 e) ?_;rintro v w1 ⟨rfl,s1⟩;exact⟨_,rfl,by rw[eE],λ h=>absurd eE h,λ _=>⟨ox S e,C,by rw[eS],by rw[eC],⟨g,hf.1.trans hk⟩,gx (show St w0 w1 (Sep (cU b (ox S e) g C++[held Q,B])) from s1) (hf.1.trans hk) λ w h=>dropQ hf.2.1 (λ y hy=>.inl (by rw[hf.2.2] at hy; exact hy)) h⟩⟩
def QL:Option Addr->Ck->aD
 | none,_=>emp
 | some q,C=>Sep (dI q.block C)
theorem Ow{k:Int}(h1:1<=k)(h:dB k 0=true):k=1:=by
 by_cases g:k=1
 ·exact g
 ·unfold dB at h;rw[if_neg g] at h
  repeat' split at h
  all_goals first|(revert h; decide)|cases h
theorem Pf{Q:World->Prop}(hQ:∀ w,Q w->HA S w)(s:St w0 w (Sep [ai b S.cells.toArray 80,QL S.k C,held Q,B]))(hok:p7 S C)(hk:I8 S){e:Ev}(he:e.QE)(h1:1<=e.kind)(hp:dB e.kind S.ph=true)(hn:br e.kind=true->e.bidder<S.s.bd.length) :
  Calls prog (dU e.kind) #[pt b,e.v] w (ur (OK w0 b S C e Q B)):=by
 by_cases h0:S.ph=0
 ·have e1:=hk.1 h0;rw[e1] at s;rw[h0] at hp;exact Pd hQ (s.au [0,2,3]) hok.b8 he (Ow h1 hp)
 ·obtain⟨g,hg⟩:=hk.2 h0;rw[hg] at s;have s1:St w0 w (Sep (Sep (dI g C) :: [ai b S.cells.toArray 80,held Q,B])):=s.au [1,0,2,3];have s2:St w0 w (Sep (dI g C++[ai b S.cells.toArray 80,held Q,B])):=St.cat s1;exact Pe hQ (s2.au [6,0,1,2,3,4,5,7,8]) hok h0 hg he hp hn
theorem Gp(hS:vD S C w)(hok:p7 S C)(hk:I8 S):CP 28 #[.pointer S.k] w (λ r w'=>∃ (p:OA) (C' : Ck),r=.pointer p/\C'.er=C.er/\I8 { S with k:=p }/\St w w' (QL p C')):=by
 by_cases h0:S.ph=0
 ·rw[hk.1 h0];refine aj (K:=λ r w'=>r=.pointer none/\w' = w) (oc ⟨rfl,rfl⟩) ?_;rintro v w1 ⟨rfl,rfl⟩;exact⟨_,rfl,none,C,rfl,rfl,⟨λ _=>rfl,λ h=>absurd h0 h⟩,St.start w1⟩
 ·obtain⟨g,hg⟩:=hk.2 h0;obtain⟨g',e,hrd⟩:=hS.k _ hg
  cases e
  rw[hg];refine aj (JD hrd (hok.c h0).ok) ?_;rintro v w1 ⟨g2,C',eC,rfl,k1⟩;exact⟨_,rfl,some ⟨g2,0,none⟩,C',rfl,eC,⟨λ h=>absurd h h0,λ _=>⟨g2,rfl⟩⟩,k1⟩
end
theorem Lq{S:Sx}{b0 b1 b2 b3 b4 b5 b6 b7:Bd}(h:S.bd=[b0,b1,b2,b3,b4,b5,b6,b7]):S.cells=(iv S.o.step :: (iv S.o.pct :: (iv S.o.und :: (iv S.o.rule :: (iv S.ph :: (.slice S.s.a1 S.s.ps.length S.s.c1 :: (.slice S.s.a2 S.s.bd.length S.s.c2 :: (.slice S.s.a3 S.s.cp.length S.s.c3 :: (.slice S.s.a4 S.s.sa.length S.s.c4 :: (.pointer S.k :: (iv b0.x.op :: (b0.x.u.on (iv b0.x.v :: (.slice b0.x.a b0.x.args.length b0.x.c :: (.bool b0.has :: (.bool b0.out :: (iv b1.x.op :: (b1.x.u.on (iv b1.x.v :: (.slice b1.x.a b1.x.args.length b1.x.c :: (.bool b1.has :: (.bool b1.out :: (iv b2.x.op :: (b2.x.u.on (iv b2.x.v :: (.slice b2.x.a b2.x.args.length b2.x.c :: (.bool b2.has :: (.bool b2.out :: (iv b3.x.op :: (b3.x.u.on (iv b3.x.v :: (.slice b3.x.a b3.x.args.length b3.x.c :: (.bool b3.has :: (.bool b3.out :: (iv b4.x.op :: (b4.x.u.on (iv b4.x.v :: (.slice b4.x.a b4.x.args.length b4.x.c :: (.bool b4.has :: (.bool b4.out :: (iv b5.x.op :: (b5.x.u.on (iv b5.x.v :: (.slice b5.x.a b5.x.args.length b5.x.c :: (.bool b5.has :: (.bool b5.out :: (iv b6.x.op :: (b6.x.u.on (iv b6.x.v :: (.slice b6.x.a b6.x.args.length b6.x.c :: (.bool b6.has :: (.bool b6.out :: (iv b7.x.op :: (b7.x.u.on (iv b7.x.v :: (.slice b7.x.a b7.x.args.length b7.x.c :: (.bool b7.has :: (.bool b7.out :: [.int .u64 S.dec,iv S.cnt,.int .u64 S.dig])))))))))))))))))))))))))))))))))))))))))))))))))))))))))):=by
 rw[Sx.cells,h]; rfl
theorem E0(k:Int):dG prog (dU k)=true:=by
 unfold dU
 repeat' split
 all_goals kernel_rfl
theorem Gv{e:Ev}(h:bY e=0):1<=e.kind:=by
 unfold bY at h
 split at h
 ·cases h
 ·rename_i g
  by_cases h1:1<=e.kind
  ·exact h1
  ·exact absurd (Or.inl λ h=>h1 h.1) g
def gz(S:Sx)(e:Ev):Int :=
 if bY e≠0 then bY e else if 600<=S.cnt then 18 else if dB e.kind S.ph=false then 10
 else if br e.kind=true/\(S.s.bd.length:Int)<=e.bidder then 6 else if br e.kind=true/\(S.bd.getD e.bidder.toNat bF).out=true then 10 else 0
def lP(S:Sx)(C:Ck)(e:Ev):Int:=if gz S e≠0 then gz S e else bT S C e
def Gg(S:Sx)(C:Ck)(e:Ev):Sx:={ bu S C e with cnt:=S.cnt+1,dig:=((jY S.dig.toNat (cE e):Nat):Int) }
abbrev RY (S:Sx) (C:Ck) (e:Ev):Ck:=bS S C e
theorem zn(S:Sx):∀ k,(bA S k).cnt=S.cnt/\(bA S k).dig=S.dig
 | 0=>⟨rfl,rfl⟩
 | k+1=>zn S k
theorem Dq(S:Sx)(C:Ck)(e:Ev):(bu S C e).cnt=S.cnt/\(bu S C e).dig=S.dig:=by
 unfold bu
 split
 ·exact⟨rfl,rfl⟩
 split
 ·exact⟨rfl,rfl⟩
 split
 ·split<;>exact⟨rfl,rfl⟩
 split
 ·exact⟨rfl,rfl⟩
 split
 ·exact⟨rfl,rfl⟩
 split
 ·exact⟨rfl,rfl⟩
 split
 ·exact⟨rfl,rfl⟩
 split
 ·have h:=zn S 8;generalize bA S 8=X at h;exact h
 ·unfold ox
  split<;>exact⟨rfl,rfl⟩
theorem wj{S:Sx}(h:S.bd.length=8):∀ k,(bA S k).bd.length=8
 | 0=>h
 | k+1=>by rw[bA,aX,List.length_set]; exact wj h k
theorem Dr{S:Sx}(h:S.bd.length=8)(C:Ck)(e:Ev):(bu S C e).bd.length=8:=by
 unfold bu
 split
 ·exact h
 split
 ·exact h
 split
 ·split<;>exact h
 split
 ·exact h
 split
 ·rw[rB,List.length_set]; exact h
 split
 ·rw[aX,List.length_set]; exact h
 split
 ·rw[aX,List.length_set,eD,List.length_set]; exact h
 split
 ·exact wj h 8
 ·unfold ox
  split<;>exact h
theorem AF{e:Ev}(h:bY e=0):(cE e).length<=4000:=by
 unfold bY at h
 split at h
 ·cases h
 ·split at h
  ·cases h
  ·split at h
   ·cases h
   ·rename_i g; omega
theorem RF{S:Sx}(h:S.bd.length=8)(x:Int):S.cells.toArray.setIfInBounds 99 (iv x)=({ S with cnt:=x }:Sx).cells.toArray:=by
 obtain⟨o,ph,s,k,bd,dec,cnt,dig⟩:=S;obtain⟨b0,b1,b2,b3,b4,b5,b6,b7,rfl⟩:=bB h;rfl
theorem RG{S:Sx}(h:S.bd.length=8)(x:Int):S.cells.toArray.setIfInBounds 100 (.int .u64 x)=({ S with dig:=x }:Sx).cells.toArray:=by
 obtain⟨o,ph,s,k,bd,dec,cnt,dig⟩:=S;obtain⟨b0,b1,b2,b3,b4,b5,b6,b7,rfl⟩:=bB h;rfl
theorem Lr{S:Sx}(h:S.bd.length=8):S.cells.toArray[99]?=some (iv S.cnt):=by
 obtain⟨o,ph,s,k,bd,dec,cnt,dig⟩:=S;obtain⟨b0,b1,b2,b3,b4,b5,b6,b7,rfl⟩:=bB h;rfl
theorem NN{S:Sx}(h:S.bd.length=8):S.cells.toArray[100]?=some (.int .u64 S.dig):=by
 obtain⟨o,ph,s,k,bd,dec,cnt,dig⟩:=S;obtain⟨b0,b1,b2,b3,b4,b5,b6,b7,rfl⟩:=bB h;rfl
theorem FX{S:Sx}(h:S.bd.length=8){i:Nat}(hi:i<8){y:Bd}(hy:S.bd[i]?=some y):S.cells.toArray[10+i*11+10]?=some (.bool y.out):=by
 obtain⟨o,ph,s,k,bd,dec,cnt,dig⟩:=S;obtain⟨b0,b1,b2,b3,b4,b5,b6,b7,rfl⟩:=bB h
 match i,hi with
 | 0,_|1,_|2,_|3,_|4,_|5,_|6,_|7,_=>cases hy; rfl
theorem Ls(S:Sx):∀ v∈S.cells,v.oneCell' = true:=by
 intro v hv;simp only[Sx.cells,Po.cells,Se.arr,List.mem_append,List.mem_cons,List.mem_nil_iff,or_false,List.mem_flatMap,Bd.cells] at hv;rcases hv with(rfl|rfl|rfl|rfl)|rfl|(rfl|rfl|rfl|rfl)|rfl|(⟨y,_,h|rfl|rfl⟩)|rfl|rfl|rfl
 all_goals first|rfl|exact Xv.one _ _ h
section
variable {w0 w:World} {b:Nat} {S:Sx} {C:Ck} {B:aD}
theorem A8{r1 r3 r4:Nat}{x:Int}{X:Sx}{L:List aD}(s:St w0 w (Sep (ai r4 S.cells.toArray 80 :: ai r3 #[iv x] 31 :: ai r1 #[pt b] 27 :: ai b X.cells.toArray 80 :: L)))(h8:S.bd.length=8)(hX:X.bd.length=8){R:World->Prop}(k0:x=0->R w)(k1:x≠0->∀ w',St w0 w' (Sep (ai r4 S.cells.toArray 80 :: ai r3 #[iv x] 31 :: ai r1 #[pt b] 27 :: ai b S.cells.toArray 80 :: L))->R w') :
  EK prog 27 #[pt r3,pt r4,pt r1] w R:=by
 obtain⟨b0,b1,b2,b3,b4,b5,b6,b7,hb⟩:=bB h8;refine mw ?_;unfold gP;refine⟨_,s.ag 1 rfl 0,?_⟩
 by_cases h0:x=0
 ·exact cF (by simpa using h0) ⟨rfl,k0 h0⟩
 ·have hcl:af w ⟨r4,0,none⟩ 0 S.cells:=s.cellsIn 0 rfl;have hlen:S.cells.length=101:=Sx.len h8;have hone:=Ls S;have e1:=Lq hb;rw[e1] at hcl hlen hone;refine cT (by simpa using h0) ⟨_,s.ag 2 rfl 0,_,_,_,_,_,_,_,_,_,_,_,_,_,_,_,_,_,_,_,b0.x.u,_,_,_,_,_,_,_,b1.x.u,_,_,_,_,_,_,_,b2.x.u,_,_,_,_,_,_,_,b3.x.u,_,_,_,_,_,_,_,b4.x.u,_,_,_,_,_,_,_,b5.x.u,_,_,_,_,_,_,_,b6.x.u,_,_,_,_,_,_,_,b7.x.u,_,_,_,_,_,_,_,_,_,hcl,ak rfl (s.ay 3 rfl _ ?_ hone λ w1 s1=>⟨rfl,k1 h0 w1 ?_⟩)⟩
  ·rw[hlen,de hX]
  ·rw[<- e1] at s1; exact s1
def Sq(w0:World)(b:Nat)(S:Sx)(C:Ck)(e:Ev)(B:aD):KP:=λ r w'=>r=iv (lP S C e) /\
 (lP S C e≠0->St w0 w' (Sep [ai b S.cells.toArray 80,held (vD S C),B])) /\
 (lP S C e=0->∃ (S' : Sx) (C' : Ck),S'.er=(Gg S C e).er/\C'.er=(RY S C e).er/\(∃ g,S'.k=some ⟨g,0,none⟩)/\St w0 w' (Sep [ai b S'.cells.toArray 80,held (vD S' C'),B]))
theorem LY(s:St w0 w (Sep [ai b S.cells.toArray 80,held (vD S C),B]))(hok:p7 S C)(hk:I8 S){e:Ev}(hi:e.In) :
  CP 10 #[pt b,e.v] w ((Sq w0 b S C e B)):=by
 have h8:=hok.b8;obtain⟨b0,b1,b2,b3,b4,b5,b6,b7,hb⟩:=bB h8;refine o7 (u1:=e.want) ?_;unfold jO;refine s.ax #[pt b] λ r1 w1 s1=>s1.ax e.cells.toArray λ r2 w2 s2=>s2.ax #[iv 0] λ r3 w3 s3=>?_;let M:Int->List aD:=λ x=>[ai r3 #[iv x] 31,ai r2 e.cells.toArray 36,ai r1 #[pt b] 27,ai b S.cells.toArray 80,held (vD S C),B];have s3:St w0 w3 (Sep (M 0)):=s3;have fin:∀ {x:Int} {w' : World},x≠0->gz S e=x->St w0 w' (Sep (M 0))->aM w' ⟨r3,0,none⟩ (iv x) λ w6=>∃ n:Int,w6.cell? ⟨r3,0,none⟩=some (iv n)/\Sq w0 b S C e B (iv n) w6:=λ {x w'} hx hs s =>
  s.aJ 0 rfl (by show 0<1; decide) rfl λ w6 s6=>⟨_,s6.ag 0 rfl 0,by
   have:lP S C e=x:=by rw[lP,if_pos (by rw[hs]; exact hx),hs]
   exact⟨by rw[this],λ _=>s6.au [3,4,5],λ h=>absurd (this.symm.trans h) hx⟩⟩
 refine⟨_,s3.ag 2 rfl 0,cF rfl ⟨_,_,_,e.want,_,_,s3.cellsIn 1 rfl,aj (AG w3 hi) ?_⟩⟩;rintro v w5 ⟨rfl,c5⟩;have s5:=s3.quiet c5;refine⟨_,rfl,?_⟩
 by_cases he : ¬ bY e=0
 ·exact cT (by simpa using he) (fin he (by rw[gz,if_pos he]) s5)
 have he:bY e=0:=by simpa using he
 have hR:=uL he hi.d;have hR1:1<=e.kind:=Gv he;have e1:gz S e=if 600<=S.cnt then 18 else if dB e.kind S.ph=false then 10 else if br e.kind=true/\(S.s.bd.length:Int)<=e.bidder then 6 else if br e.kind=true/\(S.bd.getD e.bidder.toNat bF).out=true then 10 else 0:=by rw[gz,if_neg (λ h=>h he)]
 have c99:∀ {w' : World} {l:List aD} {i:Nat},St w0 w' (Sep l)->l[i]?=some (ai b S.cells.toArray 80)->w'.cell? ⟨b,99,none⟩=some (iv S.cnt):=λ s e=>by rw[s.ag _ e]; exact Lr h8
 refine cF (by simpa using he) ⟨_,s5.ag 2 rfl 0,ak rfl ⟨_,c99 s5 (i:=3) rfl,?_⟩⟩
 by_cases h600:600<=S.cnt
 ·exact cT (dT h600) (fin (by decide) (by rw[e1,if_pos h600]) s5)
 rw[if_neg h600] at e1;have s6:=s5.quiet (aA.drew w5 []);refine cF (dF h600) ⟨_,s6.ag 1 rfl 0,_,s6.ag 2 rfl 0,ak rfl ⟨_,(s6.ag 3 rfl 4).trans rfl,aj (Fz _ _ _) ?_⟩⟩;rintro v w8 ⟨rfl,rfl⟩;refine⟨_,rfl,?_⟩
 cases hp:dB e.kind S.ph with
 | false=>exact cT rfl (fin (by decide) (by rw[e1,if_pos hp]) s6)
 | true =>
 rw[if_neg (by rw[hp]; decide)] at e1;refine cF rfl ⟨λ bb w10=>bb=decide (br e.kind=true/\(S.s.bd.length:Int)<=e.bidder)/\St w0 w10 (Sep (M 0)),?_,?_⟩
 rotate_left
 ·have s7:=s6.quiet (aA.drew w5.drew []);refine⟨_,s7.ag 1 rfl 0,aj (GL _ _) ?_⟩;rintro v w30 ⟨rfl,rfl⟩;refine⟨_,rfl,?_⟩
  cases hn:br e.kind with
  | true =>
   refine cT rfl ⟨_,s7.ag 1 rfl 1,_,s7.ag 2 rfl 0,ak rfl ⟨_,_,_,(s7.ag 3 rfl 6).trans rfl,?_,s7⟩⟩
   by_cases hl:e.bidder>=(S.s.bd.length:Int)
   ·rw[dT hl,dT ⟨rfl,hl⟩]
   ·rw[dF hl,dF λ h=>hl h.2]
  | false=>exact cF rfl ⟨by rw[dF λ h=>by cases h.1],s7⟩
 rintro w10 bb ⟨rfl,s10⟩ x1
 by_cases hq:br e.kind=true/\(S.s.bd.length:Int)<=e.bidder
 ·exact cT (dT hq) (fin (by decide) (by rw[e1,if_pos hq]) s10)
 rw[if_neg hq] at e1;have hnb:br e.kind=true->e.bidder<S.s.bd.length:=λ h=>by
  rcases Int.lt_or_le e.bidder S.s.bd.length with h1|h1
  ·exact h1
  ·exact absurd ⟨h,h1⟩ hq
 refine cF (dF hq) ⟨λ bb w12=>bb=decide (br e.kind=true/\(S.bd.getD e.bidder.toNat bF).out=true)/\St w0 w12 (Sep (M 0)),?_,?_⟩
 rotate_left
 ·have s11:=s10.quiet (aA.drew w10 []);refine⟨_,s11.ag 1 rfl 0,aj (GL _ _) ?_⟩;rintro v w29 ⟨rfl,rfl⟩;refine⟨_,rfl,?_⟩
  cases hn:br e.kind with
  | true =>
   have hb8:0<=e.bidder/\e.bidder<8:=hR.b;have eb:e.bidder=(e.bidder.toNat:Int):=(Int.toNat_of_nonneg hb8.1).symm;have co:w10.drew.cell? (Addr.add (Addr.add (Addr.add ⟨b,0,none⟩ 10) ((e.bidder).toNat*11)) 10)=some (.bool (S.bd.getD e.bidder.toNat bF).out):=by
    rw[bw,bw,bw,s11.ag 3 rfl];rw[show 0+10+e.bidder.toNat*11+10=10+e.bidder.toNat*11+10 by omega];exact FX h8 (by omega) (getD_at (by omega))
   refine cT rfl ⟨_,s11.ag 2 rfl 0,_,s11.ag 1 rfl 1,ak rfl ⟨hb8.1,by omega,_,co,?_,s11⟩⟩
   cases ho:(S.bd.getD e.bidder.toNat bF).out with
   | true=>rw[dT ⟨rfl,rfl⟩]
   | false=>rw[dF λ h=>by cases h.2]
  | false=>exact cF rfl ⟨by rw[dF λ h=>by cases h.1],s11⟩
 rintro w12 bb ⟨rfl,s12⟩ x2
 by_cases ho:br e.kind=true/\(S.bd.getD e.bidder.toNat bF).out=true
 ·exact cT (dT ho) (fin (by decide) (by rw[e1,if_pos ho]) s12)
 rw[if_neg ho] at e1;have eA:lP S C e=bT S C e:=by rw[lP,if_neg (λ h=>h e1)]
 have hcl:af w12 ⟨b,0,none⟩ 0 S.cells:=s12.cellsIn 3 rfl;have hlen:S.cells.length=101:=Sx.len h8;have hone:=Ls S;have eS:=Lq hb;rw[eS] at hcl hlen hone;refine cF (dF ho) ⟨_,s12.ag 2 rfl 0,ak rfl ⟨_,_,_,_,_,_,_,_,_,_,_,_,_,_,_,_,_,_,_,b0.x.u,_,_,_,_,_,_,_,b1.x.u,_,_,_,_,_,_,_,b2.x.u,_,_,_,_,_,_,_,b3.x.u,_,_,_,_,_,_,_,b4.x.u,_,_,_,_,_,_,_,b5.x.u,_,_,_,_,_,_,_,b6.x.u,_,_,_,_,_,_,_,b7.x.u,_,_,_,_,_,_,_,_,_,hcl,s12.ax (gW ⟨0,0,0,0⟩).cells.toArray λ r4 w14 s14=>s14.ay 0 rfl _ (by rw[hlen]; rfl) hone λ w15 s15=>?_⟩⟩;rw[<- eS] at s15;have s16:=s15.quiet (aA.drew w15 []);have s16:St w0 w15.drew (Sep (ai r4 S.cells.toArray 80 :: M 0)):=s16;refine⟨_,s16.ag 3 rfl 0,_,s16.ag 3 rfl 0,ak rfl ⟨S.k,by rw[bw,s16.ag 4 rfl]; exact je h8,?_⟩⟩;refine aj (Gp (s16.bK 5 rfl) hok hk) ?_;rintro v w16 ⟨p,C1,rfl,eC1,hk1,k16⟩;let S1:Sx:={ S with k:=p };have e1S:S1.er=S.er:=rfl;have hok1:p7 S1 C1:=⟨h8,hok.ph,hok.z,λ h=>(hok.c h).er eC1,λ h=>(show C1.er.s=C.er.s from congrArg Ck.s eC1).trans (hok.cs h),hok.so,hok.cnt,hok.dig,hok.x⟩;have s17:St w0 w16 (Sep (QL p C1 :: ai r4 S.cells.toArray 80 :: M 0)):=s16.and k16;refine⟨_,rfl,s17.ag 4 rfl 0,ak rfl ?_⟩;rw[bw];refine s17.aJ 5 rfl (j:=0+9) (by show 0+9<S.cells.toArray.size; rw[de h8]; decide) rfl λ w17 s18=>?_;rw[show 0+9=9 from rfl,RH h8] at s18;refine⟨_,s18.ag 4 rfl 0,_,s18.ag 3 rfl 0,aj (JI w17 b e.kind) ?_⟩;rintro v w18 ⟨rfl,rfl⟩;refine⟨_,rfl,_,s18.ag 4 rfl 0,_,_,_,e.want,_,_,s18.cellsIn 3 rfl,bn (E0 e.kind) ?_⟩;have s19:St w0 w18 (Sep [ai b S1.cells.toArray 80,QL S1.k C1,held (vD S C),Sep [ai r4 S.cells.toArray 80,ai r3 #[iv 0] 31,ai r2 e.cells.toArray 36,ai r1 #[pt b] 27,B]]) :=
  St.cat (((s18.au [5,0,6,1,2,3,4,7]).split [_,_,_]).eqv (aT.right (aT.unit _)))
 refine aj (Pf (S:=S1) (λ w h=>(show HA S1 w from h.h)) s19 hok1 hk1 hR hR1 hp hnb) ?_;rintro v w19 ⟨rfl,k1,k2⟩;have eE1:bT S1 C1 e=bT S C e:=by rw[<- BO S1 C1,eC1,e1S,BO]
 have eS1:(bu S1 C1 e).er=(bu S C e).er:=by rw[<- BP S1 C1,eC1,e1S,BP]
 have eC2:(bS S1 C1 e).er=(bS S C e).er:=by rw[<- BN S1 C1,eC1,e1S,BN]
 rw[eE1] at k1 k2 ⊢
 by_cases h0:bT S C e=0
 ·obtain⟨S',C',eS',eC',⟨g,hg⟩,s20⟩:=k2 h0;have s20:St w0 w19 (Sep ([ai b S'.cells.toArray 80,held (vD S' C')]++[ai r4 S.cells.toArray 80,ai r3 #[iv 0] 31,ai r2 e.cells.toArray 36,ai r1 #[pt b] 27,B])):=s20.dw [_,_];have eS3:=eS'.trans eS1;have h8' : S'.bd.length=8:=by
   have e1:S'.er.bd.length=(bu S C e).er.bd.length:=by rw[eS3]
   have e2:S'.er.bd.length=S'.bd.length:=List.length_map _;have e3:(bu S C e).er.bd.length=(bu S C e).bd.length:=List.length_map _;rw[<- e2,e1,e3]; exact Dr h8 C e
  have hcnt:S'.cnt=S.cnt:=(show S'.er.cnt=(bu S C e).er.cnt by rw[eS3]).trans (Dq S C e).1;have hdig:S'.dig=((S.dig.toNat:Nat):Int):=((show S'.er.dig=(bu S C e).er.dig by rw[eS3]).trans (Dq S C e).2).trans (Int.toNat_of_nonneg hok.dig.1).symm;have hc600:=hok.cnt;rw[h0];refine⟨_,rfl,s20.aJ 3 rfl (by show 0<1; decide) rfl λ w20 s21=>⟨_,s21.ag 3 rfl 0,cF rfl ⟨_,_,_,e.want,_,_,s21.cellsIn 4 rfl,aj (Ds w20 hi) ?_⟩⟩⟩;rintro v w23 ⟨rfl,c23⟩;rw[if_pos he,he];have s22:=s21.quiet c23;have c99:w23.cell? ⟨b,0+99,none⟩=some (iv S'.cnt):=by rw[s22.ag 0 rfl]; exact Lr h8'
  refine⟨_,_,rfl,_,s22.ag 5 rfl 0,ak rfl ⟨_,by rw[bw]; exact c99,ak rfl ?_⟩⟩;rw[bw,aB (n:=S'.cnt+1) ⟨by omega,by omega⟩];refine s22.aJ 0 rfl (j:=0+99) (by rw[de h8']; decide) rfl λ w24 s23=>?_;rw[show 0+99=99 from rfl,RF h8'] at s23;have s24:=s23.quiet (aA.drew w24 []);have h83:({ S' with cnt:=S'.cnt+1 }:Sx).bd.length=8:=h8';have c100:w24.drew.cell? ⟨b,0+100,none⟩=some (.int .u64 ((S.dig.toNat:Nat):Int)):=by rw[s24.ag 0 rfl,<- hdig]; exact NN h83
  have hbl:=AF he;refine⟨_,s24.ag 5 rfl 0,_,s24.ag 5 rfl 0,ak rfl ⟨_,by rw[bw]; exact c100,aj (Gn _ S.dig.toNat (cE e) (by omega)) ?_⟩⟩;rintro v w25 ⟨rfl,c25⟩;have s25:=s24.quiet c25;refine⟨_,rfl,s25.ag 5 rfl 0,ak rfl ?_⟩;rw[bw];refine s25.aJ 0 rfl (j:=0+100) (by rw[de h83]; decide) rfl λ w26 s26=>?_;rw[show 0+100=100 from rfl,RG h83] at s26;refine s26.aJ 3 rfl (by show 0<1; decide) rfl λ w27 s27=>?_;let S3:Sx:={ S' with cnt:=S'.cnt+1,dig:=((jY S.dig.toNat (cE e):Nat):Int) };have s28:St w0 w27 (Sep (held (vD S' C') :: [ai r4 S.cells.toArray 80,ai r3 #[iv 0] 31,ai r1 #[pt b] 27,ai b S3.cells.toArray 80,ai r2 e.cells.toArray 36,B])):=s27.au [1,2,3,5,0,4,6];have s29:St w0 w27 (Sep (held (vD S3 C') :: [ai r4 S.cells.toArray 80,ai r3 #[iv 0] 31,ai r1 #[pt b] 27,ai b S3.cells.toArray 80,ai r2 e.cells.toArray 36,B])):=s28.weak (bG.left (pS λ w h=>⟨⟨h.h.1,h.h.2⟩,h.k⟩));have s30:St w0 w27 (Sep (ai r4 S.cells.toArray 80 :: ai r3 #[iv 0] 31 :: ai r1 #[pt b] 27 :: ai b S3.cells.toArray 80 :: [held (vD S3 C'),B])):=s29.au [1,2,3,4,0,6];refine A8 s30 h8 (show S3.bd.length=8 from h8') (λ _=>⟨_,s30.ag 1 rfl 0,by rw[eA,h0],λ h=>absurd (eA.trans h0) h,λ _=>⟨S3,C',?_,eC'.trans eC2,⟨g,hg⟩,s30.au [3,4,5]⟩⟩) (λ h=>absurd rfl h);show({ S'.er with cnt:=S'.cnt+1,dig:=((jY S.dig.toNat (cE e):Nat):Int) }:Sx)={ (bu S C e).er with cnt:=S.cnt+1,dig:=((jY S.dig.toNat (cE e):Nat):Int) };rw[eS3,hcnt]
 ·obtain⟨X,hX,s20⟩:=k1 h0;have s20:St w0 w19 (Sep ([ai b X.cells.toArray 80,held (vD S C)]++[ai r4 S.cells.toArray 80,ai r3 #[iv 0] 31,ai r2 e.cells.toArray 36,ai r1 #[pt b] 27,B])):=s20.dw [_,_];refine⟨_,rfl,s20.aJ 3 rfl (by show 0<1; decide) rfl λ w20 s21=>⟨_,s21.ag 3 rfl 0,cT (by simpa using h0) ⟨_,s21.ag 3 rfl 0,s21.aJ 3 rfl (by show 0<1; decide) rfl λ w21 s22=>?_⟩⟩⟩;have s23:St w0 w21 (Sep (ai r4 S.cells.toArray 80 :: ai r3 #[iv (bT S C e)] 31 :: ai r1 #[pt b] 27 :: ai b X.cells.toArray 80 :: [held (vD S C),ai r2 e.cells.toArray 36,B])):=s22.au [2,3,5,0,1,4,6];refine A8 s23 h8 hX (λ h=>absurd h h0) λ _ w22 s24=>⟨_,s24.ag 1 rfl 0,by rw[eA],λ _=>s24.au [3,4,6],λ h=>absurd (eA.symm.trans h) h0⟩
end
theorem fZ{α:Type}{f:Nat->α->Int}:∀ {l:List α} {n:Nat},dY f n l=0->∀ i p,l[i]?=some p->f (n+i) p=0
 | [],_,_,i,p,hp=>by simp at hp
 | y :: l,n,h,i,p,hp=>by
  rw[dY] at h
  split at h
  ·rename_i g; exact absurd h g
  ·rename_i g
   cases i with
   | zero=>cases hp; rw[Nat.add_zero]; simpa using g
   | succ i=>have:=fZ h i p (by simpa using hp); rwa [show n+(i+1)=n+1+i by omega]
theorem P4{l:List Pr}(h:Ir l=0):bP l:=by
 unfold Ir at h
 by_cases h1:l.length=0
 ·rw[if_pos h1] at h; cases h
 rw[if_neg h1] at h
 by_cases h2:6<l.length
 ·rw[if_pos h2] at h; cases h
 rw[if_neg h2] at h
 by_cases h3:dY (I4 l) 0 l=0
 ·rw[if_neg (λ g=>g h3)] at h
  by_cases h4:pr (CE l)<=1024
  ·refine⟨by omega,by omega,λ i p hp=>?_,by rw[<- CF (by omega)]; exact h4⟩;have:=fZ h3 i p hp;rw[Nat.zero_add] at this;unfold I4 at this
   split at this
   ·cases this
   split at this
   ·cases this
   split at this
   ·cases this
   rename_i g1 g2 g3;exact⟨by unfold ze; simp at g1 g3; rw[g1,g3]; rfl,by simpa using g2⟩
  ·rw[if_neg h4] at h; cases h
 ·rw[if_pos h3] at h; exact absurd h h3
theorem O4{l:List Br}(h:IZ l=0):Gb l:=by
 unfold IZ at h
 by_cases h1:l.length=0
 ·rw[if_pos h1] at h; cases h
 rw[if_neg h1] at h
 by_cases h2:8<l.length
 ·rw[if_pos h2] at h; cases h
 rw[if_neg h2] at h;refine⟨by omega,by omega,λ i p hp=>?_⟩;have:=fZ h i p hp;rw[Nat.zero_add] at this;unfold L7 at this
 split at this
 ·cases this
 split at this
 ·cases this
 split at this
 ·cases this
 rename_i g1 g2 g3;exact⟨by simp at g1 g3; rw[g1,g3]; rfl,by simpa using g2⟩
theorem O8{n:Nat}{l:List T3}(h:JE n l=0):Bq n l:=by
 unfold JE at h
 by_cases h2:16<l.length
 ·rw[if_pos h2] at h; cases h
 rw[if_neg h2] at h;refine⟨by omega,λ i p hp=>?_⟩;have:=fZ h i p hp;rw[Nat.zero_add] at this;unfold Mi at this
 split at this
 ·cases this
 split at this
 ·cases this
 split at this
 ·cases this
 rename_i g1 g2 g3;have g1:=Bool.not_eq_false _▸g1;have g2:=Bool.not_eq_false _▸g2;exact⟨by unfold Au; rw[g1,g2]; rfl,by simpa using g3⟩
theorem Qq{ps:List Pr}{l:List T3}(h:NI ps l=0):j9 ps l:=by
 unfold NI at h
 by_cases h2:6<l.length
 ·rw[if_pos h2] at h; cases h
 rw[if_neg h2] at h;refine⟨by omega,λ i p hp=>?_⟩;have:=fZ h i p hp;rw[Nat.zero_add] at this;unfold Ns at this
 split at this
 ·cases this
 split at this
 ·cases this
 split at this
 ·cases this
 rename_i g1 g2 g3;have g1:=Bool.not_eq_false _▸g1;have g2:=Bool.not_eq_false _▸g2;exact⟨by unfold ES; rw[g1,g2]; rfl,by simpa using g3⟩
theorem Qi{s:Se}(h:FL s=0):s.Ok:=by
 unfold FL at h
 by_cases h1:Ir s.ps=0
 ·rw[if_neg (λ g=>g h1)] at h
  by_cases h2:IZ s.bd=0
  ·rw[if_neg (λ g=>g h2)] at h
   by_cases h3:JE s.bd.length s.cp=0
   ·rw[if_neg (λ g=>g h3)] at h;exact⟨P4 h1,O4 h2,O8 h3,Qq h⟩
   ·rw[if_pos h3] at h; exact absurd h h3
  ·rw[if_pos h2] at h; exact absurd h h2
 ·rw[if_pos h1] at h; exact absurd h h1
theorem Nd{t:List UInt8}(h:vh t=0):(vi t).Ok:=by
 unfold vh at h
 by_cases h1:4000<t.length
 ·rw[if_pos h1] at h; cases h
 rw[if_neg h1] at h
 by_cases h2:(eG hM (bh 10 t)).2=0
 ·rw[if_neg (λ g=>g h2)] at h; exact Qi h
 ·rw[if_pos h2] at h; exact absurd h h2
theorem KB{o:Po}{t:List UInt8}(h:mQ o t=0):o.ok/\(vi t).Ok:=by
 unfold mQ at h
 by_cases h1:oP o=0
 ·rw[if_neg (λ g=>g h1)] at h;refine⟨?_,Nd h⟩;unfold oP at h1
  by_cases g:o.ok
  ·exact g
  ·rw[if_neg g] at h1; cases h1
 ·rw[if_pos h1] at h; exact absurd h h1
section
variable {S S' : Sx} {C C' : Ck} {e:Ev}
theorem p7.er(h:p7 S C)(eS:S'.er=S.er)(eC:C'.er=C.er):p7 S' C':=by
 have eb:S'.bd.map Bd.er=S.bd.map Bd.er:=show S'.er.bd=S.er.bd by rw[eS]
 have ep:S'.ph=S.ph:=show S'.er.ph=S.er.ph by rw[eS]
 have es:S'.s.er=S.s.er:=show S'.er.s=S.er.s by rw[eS]
 have ec:S'.cnt=S.cnt:=show S'.er.cnt=S.er.cnt by rw[eS]
 have ed:S'.dig=S.dig:=show S'.er.dig=S.er.dig by rw[eS]
 have ecs:C'.s.er=C.s.er:=show C'.er.s=C.er.s by rw[eC]
 have hl:S'.bd.length=S.bd.length:=by have:=congrArg List.length eb; simpa using this
 refine⟨by rw[hl]; exact h.b8,by rw[ep]; exact h.ph,λ h0=>by rw[es]; exact h.z (ep▸h0),λ h0=>(h.c (ep▸h0)).er eC,λ h0=>by rw[ecs,es]; exact h.cs (ep▸h0),λ h0=>Nw es (h.so (ep▸h0)),by rw[ec]; exact h.cnt,by rw[ed]; exact h.dig,λ y hy hh=>?_⟩;have:y.er∈S.bd.map Bd.er:=eb▸List.mem_map_of_mem hy;obtain⟨z,hz,ez⟩:=List.mem_map.1 this;have h1:z.x.er=y.x.er:=show z.er.x=y.er.x by rw[ez]
 have h2:z.has=y.has:=show z.er.has=y.er.has by rw[ez]
 rw[<- yh,<- h1,yh];exact h.x z hz (h2.trans hh)
theorem mA(h:gz S e=0):bY e=0/\S.cnt<600/\dB e.kind S.ph=true/\(br e.kind=true->e.bidder<S.s.bd.length)/\(br e.kind=true->(S.bd.getD e.bidder.toNat bF).out=false):=by
 unfold gz at h
 by_cases h1:bY e≠0
 ·rw[if_pos h1] at h; exact absurd h h1
 rw[if_neg h1] at h
 by_cases h2:600<=S.cnt
 ·rw[if_pos h2] at h; cases h
 rw[if_neg h2] at h
 by_cases h3:dB e.kind S.ph=false
 ·rw[if_pos h3] at h; cases h
 rw[if_neg h3] at h
 by_cases h4:br e.kind=true/\(S.s.bd.length:Int)<=e.bidder
 ·rw[if_pos h4] at h; cases h
 rw[if_neg h4] at h
 by_cases h5:br e.kind=true/\(S.bd.getD e.bidder.toNat bF).out=true
 ·rw[if_pos h5] at h; cases h
 refine⟨by simpa using h1,by omega,by simpa using h3,λ hn=>?_,λ hn=>?_⟩
 ·rcases Int.lt_or_le e.bidder S.s.bd.length with h6|h6
  ·exact h6
  ·exact absurd ⟨hn,h6⟩ h4
 ·cases ho:(S.bd.getD e.bidder.toNat bF).out with
  | false=>rfl
  | true=>exact absurd ⟨hn,ho⟩ h5
theorem sJ(h:lP S C e=0):gz S e=0/\bT S C e=0:=by
 unfold lP at h
 by_cases h1:gz S e=0
 ·rw[if_neg (λ g=>g h1)] at h; exact⟨h1,h⟩
 ·rw[if_pos h1] at h; exact absurd h h1
theorem N4(hok:p7 S C)(h:lP S C e=0)(hi:e.In):p7 (Gg S C e) (RY S C e)/\(Gg S C e).ph≠0:=by
 obtain⟨hs,hE⟩:=sJ h;obtain⟨h1,h2,h3,h4,h5⟩:=mA hs;have hR:=uL h1 hi.d;have hk1:=Gv h1;have hc:=hok.cnt;have hch:0<=((jY S.dig.toNat (cE e):Nat):Int)/\((jY S.dig.toNat (cE e):Nat):Int)<18446744073709551616:=⟨Int.natCast_nonneg _,by have:jY S.dig.toNat (cE e)<18446744073709551616:=J7 _; omega⟩;have hlen:=Dr hok.b8 C e
 suffices H:(0<=(bu S C e).ph/\(bu S C e).ph<=4/\(bu S C e).ph≠0)/\(bS S C e).Inv/\(bS S C e).s.er=(bu S C e).s.er/\(bu S C e).s.Ok/\∀ y∈(bu S C e).bd,y.has=true->dH y.x=0 by
  obtain⟨⟨p1,p2,p3⟩,i1,i2,i3,i4⟩:=H;exact⟨⟨hlen,⟨p1,p2⟩,λ h=>absurd h p3,λ _=>i1,λ _=>i2,λ _=>i3,⟨by show 0<=S.cnt+1; omega,by show S.cnt+1<=600; omega⟩,hch,i4⟩,p3⟩
 by_cases k1:e.kind=1
 ·have eE:bT S C e=mQ S.o e.text:=by rw[bT,if_pos k1]
  have eS:bu S C e={ S with ph:=1,s:=vi e.text }:=by rw[bu,if_pos k1]
  have eC:bS S C e=kT (vi e.text) S.o:=by rw[bS,if_pos k1]
  obtain⟨ho,hS⟩:=KB (eE▸hE);rw[eS,eC];exact⟨⟨by show(0:Int)<=1; decide,by show(1:Int)<=4; decide,by show(1:Int)≠0; decide⟩,Kt hS ho,rfl,hS,hok.x⟩
 have n0:S.ph≠0:=λ h0=>k1 (Ow hk1 (h0▸h3));have hC:=hok.c n0;have hcs:=hok.cs n0;have hS:=hok.so n0;have hph:=hok.ph
 by_cases k2:e.kind=2
 ·have eE:bT S C e=kj C e.bidder.toNat (C.s.bd.getD e.bidder.toNat zV) e.want:=by rw[bT,if_neg k1,if_pos k2]
  have eS:bu S C e=S:=by rw[bu,if_neg k1,if_pos k2]
  have eC:bS S C e=rA C e.bidder.toNat e.want:=by rw[bS,if_neg k1,if_pos k2]
  rw[eS,eC];exact⟨⟨hph.1,hph.2,n0⟩,Jo hC (eE▸hE),hcs,hS,hok.x⟩
 by_cases k3:e.kind=3
 ·have eE:bT S C e=if C.ov then 10 else 0:=by rw[bT,if_neg k1,if_neg k2,if_pos (.inl k3)]
  have eS:bu S C e=(if di C then { S with ph:=2 } else S):=by rw[bu,if_neg k1,if_neg k2,if_pos k3]
  have eC:bS S C e=dW C:=by rw[bS,if_neg k1,if_neg k2,if_pos k3]
  have ho:C.ov=false:=by
   cases hv:C.ov with
   | false=>rfl
   | true=>rw[eE,hv] at hE; cases hE
  rw[eS,eC];refine⟨?_,EV hC ho,?_,?_,?_⟩
  ·split
   ·exact⟨by show(0:Int)<=2; decide,by show(2:Int)<=4; decide,by show(2:Int)≠0; decide⟩
   ·exact⟨hph.1,hph.2,n0⟩
  ·split<;>exact hcs
  ·split<;>exact hS
  ·split<;>exact hok.x
 by_cases k4:e.kind=4
 ·have eS:bu S C e={ S with ph:=2 }:=by rw[bu,if_neg k1,if_neg k2,if_neg k3,if_pos k4]
  have eC:bS S C e=tX C:=by rw[bS,if_neg k1,if_neg k2,if_neg k3,if_pos k4]
  rw[eS,eC];exact⟨⟨by show(0:Int)<=2; decide,by show(2:Int)<=4; decide,by show(2:Int)≠0; decide⟩,IM hC,hcs,hS,hok.x⟩
 have k34 : ¬ (e.kind=3\/e.kind=4):=λ h=>h.elim k3 k4
 by_cases k5:e.kind=5
 ·have eE:bT S C e=dQ S.s C e.bidder.toNat (S.s.bd.getD e.bidder.toNat zV) e.text:=by rw[bT,if_neg k1,if_neg k2,if_neg k34,if_pos k5]
  have eS:bu S C e=rB S e.bidder.toNat (bz S.s.ps e.text).1:=by rw[bu,if_neg k1,if_neg k2,if_neg k3,if_neg k4,if_pos k5]
  have eC:bS S C e=C:=by rw[bS,if_neg k1,if_neg k2,if_neg k3,if_neg k4,if_neg (by omega),if_neg (by omega)]
  rw[eE] at hE;have hp:(bz S.s.ps e.text).2=0:=by
   unfold dQ at hE
   by_cases g:(bz S.s.ps e.text).2=0
   ·exact g
   ·rw[if_pos g] at hE; exact absurd hE g
  rw[eS,eC];refine⟨⟨hph.1,hph.2,n0⟩,hC,hcs,hS,λ y hy hh=>?_⟩;rcases List.mem_or_eq_of_mem_set hy with hy|rfl
  ·exact hok.x y hy hh
  ·exact AZ hp
 have hdr:∀ {X:Sx} {n:Nat},(∀ y∈X.bd,y.has=true->dH y.x=0)->∀ y∈(aX X n).bd,y.has=true->dH y.x=0:=λ h y hy hh=>by
  rcases pU hy with h1|⟨_,h2⟩
  ·exact h y h1 hh
  ·rw[h2] at hh; cases hh
 by_cases k6:e.kind=6
 ·have eS:bu S C e=aX S e.bidder.toNat:=by rw[bu,if_neg k1,if_neg k2,if_neg k3,if_neg k4,if_neg k5,if_pos k6]
  have eC:bS S C e=C:=by rw[bS,if_neg k1,if_neg k2,if_neg k3,if_neg k4,if_neg (by omega),if_neg (by omega)]
  rw[eS,eC];exact⟨⟨hph.1,hph.2,n0⟩,hC,hcs,hS,hdr hok.x⟩
 by_cases k7:e.kind=7
 ·have eS:bu S C e=aX (eD S e.bidder.toNat) e.bidder.toNat:=by rw[bu,if_neg k1,if_neg k2,if_neg k3,if_neg k4,if_neg k5,if_neg k6,if_pos k7]
  have eC:bS S C e=jC C e.bidder.toNat:=by rw[bS,if_neg k1,if_neg k2,if_neg k3,if_neg k4,if_pos k7]
  have hb8:=hS.bd.l2;have hn:=h4 (by rw[br,dT (Or.inr (Or.inr (Or.inr k7)))]);rw[eS,eC];refine⟨⟨hph.1,hph.2,n0⟩,HN hC _,hcs,hS,hdr λ y hy hh=>?_⟩;obtain⟨z,hz,e1,e2⟩:=GK (by have:=hok.b8; have:=hR.b; omega) hy;rw[e1]; exact hok.x z hz (e2▸hh)
 by_cases k8:e.kind=8
 ·have eE:bT S C e=if bH C e.round then 4 else 0:=by rw[bT,if_neg k1,if_neg k2,if_neg k34,if_neg k5,if_neg k6,if_neg k7,if_pos k8]
  have eS:bu S C e={ bA S 8 with ph:=1 }:=by rw[bu,if_neg k1,if_neg k2,if_neg k3,if_neg k4,if_neg k5,if_neg k6,if_neg k7,if_pos k8]
  have eC:bS S C e=bW C e.round.toNat:=by rw[bS,if_neg k1,if_neg k2,if_neg k3,if_neg k4,if_neg k7,if_pos k8]
  have hr:bH C e.round=false:=by
   cases hv:bH C e.round with
   | false=>rfl
   | true=>rw[eE,hv] at hE; cases hE
  have hsk:∀ k,(bA S k).s=S.s:=λ k=>by
   induction k with
   | zero=>rfl
   | succ k ih=>exact ih
  have h8:=hsk 8;have hm:∀ y∈(bA S 8).bd,y.has=true->dH y.x=0:=λ y hy hh=>by
   rcases rR 8 hy with h1|⟨_,h2⟩
   ·exact hok.x y h1 hh
   ·rw[h2] at hh; cases hh
  have hrs:(bW C e.round.toNat).s=C.s:=by unfold bW; split<;>rfl
  rw[eS,eC];refine⟨⟨by show(0:Int)<=1; decide,by show(1:Int)<=4; decide,by show(1:Int)≠0; decide⟩,FG hC hr,?_,?_,hm⟩
  ·rw[hrs,hcs]; show S.s.er=(bA S 8).s.er; rw[h8]
  ·show(bA S 8).s.Ok; rw[h8]; exact hS
 ·have eS:bu S C e=ox S e:=by rw[bu,if_neg k1,if_neg k2,if_neg k3,if_neg k4,if_neg k5,if_neg k6,if_neg k7,if_neg k8]
  have eC:bS S C e=C:=by rw[bS,if_neg k1,if_neg k2,if_neg k3,if_neg k4,if_neg k7,if_neg k8]
  rw[eS,eC];unfold ox
  split
  ·exact⟨⟨by show(0:Int)<=4; decide,by show(4:Int)<=4; decide,by show(4:Int)≠0; decide⟩,hC,hcs,hS,hok.x⟩
  ·exact⟨⟨by show(0:Int)<=3; decide,by show(3:Int)<=4; decide,by show(3:Int)≠0; decide⟩,hC,hcs,hS,hok.x⟩
end
def IY:Ck:={ s:=hM,o:=⟨0,0,0,0⟩,cl:=[],p:=z6,ask:=[],bd:=[],dp:=[],ov:=false,ka:=none,kc:=0,xa:=none,xc:=0,ya:=none,yc:=0,za:=none,zc:=0 }
theorem Fj(o:Po):p7 (gW o) IY:=⟨rfl,⟨by show(0:Int)<=0; decide,by show(0:Int)<=4; decide⟩,λ _=>rfl,λ h=>absurd rfl h,λ h=>absurd rfl h,λ h=>absurd rfl h,⟨by show(0:Int)<=0; decide,by show(0:Int)<=600; decide⟩,⟨by show(0:Int)<=0; decide,by show(0:Int)<18446744073709551616; decide⟩,λ y hy hh=>by
 simp only[gW,List.mem_cons,List.mem_nil_iff,or_false] at hy;rcases hy with rfl|rfl|rfl|rfl|rfl|rfl|rfl|rfl<;>cases hh⟩
theorem MV(o:Po):(gW o).er=gW o:=by
 show({ gW o with bd:=[bF.er,bF.er,bF.er,bF.er,bF.er,bF.er,bF.er,bF.er] }:Sx)=_;rw[LL]; rfl
theorem MW(o:Po)(w:World):vD (gW o) IY w:=⟨⟨LM w,λ y hy=>by
 simp only[gW,List.mem_cons,List.mem_nil_iff,or_false] at hy;rcases hy with rfl|rfl|rfl|rfl|rfl|rfl|rfl|rfl<;>exact EE w⟩,λ q h=>by cases h⟩
theorem Ll(S:Sx)(e:Ev):gz S.er e=gz S e:=by
 have h:(S.er.bd.getD e.bidder.toNat bF).out=(S.bd.getD e.bidder.toNat bF).out:=by rw[dV]; rfl
 unfold gz;rw[h]; rfl
theorem Jh(S:Sx)(C:Ck)(e:Ev):lP S.er C.er e=lP S C e:=by
 unfold lP;rw[Ll,BO]
theorem OS(S:Sx)(C:Ck)(e:Ev):(Gg S.er C.er e).er=(Gg S C e).er:=by
 show({ (bu S.er C.er e).er with cnt:=S.cnt+1,dig:=((jY S.dig.toNat (cE e):Nat):Int) }:Sx)={ (bu S C e).er with cnt:=S.cnt+1,dig:=((jY S.dig.toNat (cE e):Nat):Int) };rw[BP]
section
variable {w0 w:World} {b:Nat} {S:Sx} {C:Ck} {B:aD}
theorem xF(hb:af w ⟨b,0,none⟩ 0 S.cells){w' : World}(hc:aA w w' [])(j:Nat){v:Value}(hv:S.cells[j]?=some v):w'.cell? ⟨b,j,none⟩=some v:=by
 have:=aL (bC hc hb) j v hv
 rwa [Nat.zero_add,p8] at this
theorem K2(hb:af w ⟨b,0,none⟩ 0 S.cells){w' : World}(hc:aA w w' []):af w' ⟨b,5,none⟩ 0 S.s.arr.toList:=aY _ 0 λ j v hj=>by
 rw[bw,Nat.zero_add];refine xF hb hc (5+j) ?_;have hj4:j<4:=(List.getElem?_eq_some_iff.1 hj).1
 match j,hj4 with
 | 0,_|1,_|2,_|3,_=>exact hj
theorem K3(hb:af w ⟨b,0,none⟩ 0 S.cells)(h8:S.bd.length=8)(hS:vD S C w)(hok:p7 S C)(hk:I8 S) :
  CP 15 #[pt b] w (λ r w'=>∃ (p:OA) (C' : Ck),r=.pointer p/\C'.er=C.er/\I8 { S with k:=p }/\St w w' (QL p C')):=by
 refine o8 ?_;unfold jP;refine⟨_,xF hb (aA.refl w []) 9 ?_,aj (Gp hS hok hk) ?_⟩
 ·have:=je h8;simpa using this
 ·rintro v w1 ⟨p,C',rfl,h1,h2,h3⟩;exact⟨_,rfl,p,C',rfl,h1,h2,h3⟩
end
def o6(b:Nat)(S:Sx)(C:Ck):aD:=Oa λ p:{ p:Sx×Ck // p.1.er=S/\p.2.er=C/\I8 p.1 }=>star (ai b p.1.1.cells.toArray 80) (held (vD p.1.1 p.1.2))
section
variable {w0 w:World} {b:Nat} {S S' : Sx} {C C' : Ck} {B:aD}
theorem gY(s:St w0 w (star (o6 b S C) B)):∃ (S' : Sx) (C' : Ck),S'.er=S/\C'.er=C/\I8 S'/\St w0 w (Sep [ai b S'.cells.toArray 80,held (vD S' C'),B]):=by
 obtain⟨⟨⟨S',C'⟩,h1,h2,h3⟩,s1⟩:=s.ex;exact⟨S',C',h1,h2,h3,s1.assoc.p4⟩
theorem Cu(h1:S'.er=S)(h2:C'.er=C)(hk:I8 S')(s:St w0 w (Sep [ai b S'.cells.toArray 80,held (vD S' C'),B])):St w0 w (star (o6 b S C) B) :=
 St.qx (f:=λ p:{ p:Sx×Ck // p.1.er=S/\p.2.er=C/\I8 p.1 }=>star (ai b p.1.1.cells.toArray 80) (held (vD p.1.1 p.1.2))) ⟨(S',C'),h1,h2,hk⟩ (s.triple.eqv aT.assoc')
theorem rY(h:p7 S.er C.er):p7 S C:=h.er (fJ S).symm (JL C).symm
def pM(S:Sx)(C:Ck)(e:Ev):Sx×Ck:=if lP S C e=0 then ((Gg S C e).er,(RY S C e).er) else (S,C)
theorem Bx(hok:p7 S C){e:Ev}(hi:e.In):p7 (pM S C e).1 (pM S C e).2:=by
 unfold pM
 by_cases h:lP S C e=0
 ·rw[if_pos h]; exact(N4 hok h hi).1.er (fJ _) (JL _)
 ·rw[if_neg h]; exact hok
theorem cq(s:St w0 w (star (o6 b S C) B))(hok:p7 S C){e:Ev}(hi:e.In) :
  CP 10 #[pt b,e.v] w (λ r w'=>r=iv (lP S C e)/\St w0 w' (star (o6 b (pM S C e).1 (pM S C e).2) B)):=by
 obtain⟨S',C',rfl,rfl,hk,s1⟩:=gY s;have hok' : p7 S' C':=rY hok;refine aj (LY s1 hok' hk hi) ?_;rintro v w1 ⟨rfl,k1,k2⟩;refine⟨_,rfl,by rw[Jh],?_⟩;unfold pM;rw[Jh]
 by_cases h:lP S' C' e=0
 ·obtain⟨S2,C2,e1,e2,hg,s2⟩:=k2 h;have phN:=(N4 hok' h hi).2;have hph:S2.ph=(Gg S' C' e).ph:=show S2.er.ph=(Gg S' C' e).er.ph by rw[e1]
  rw[if_pos h];exact Cu (e1.trans (OS S' C' e).symm) (e2.trans (BN S' C' e).symm) ⟨λ x=>absurd (hph.symm.trans x) phN,λ _=>hg⟩ s2
 ·rw[if_neg h];exact Cu rfl rfl hk (k1 h)
end
def FH(l:List Ev)(X:Sx×Ck):Sx×Ck:=l.foldl (λ X e=>pM X.1 X.2 e) X
def made(o:Po)(l:List Ev):Sx×Ck:=FH l (gW o,IY)
theorem pT(o:Po)(l:List Ev)(e:Ev):made o (l++[e])=pM (made o l).1 (made o l).2 e:=by unfold made FH; rw[List.foldl_append]; rfl
theorem tv(o:Po)(l:List Ev)(h:∀ e∈l,e.In):p7 (made o l).1 (made o l).2:=by
 suffices H:∀ (l:List Ev) (X:Sx×Ck),(∀ e∈l,e.In)->p7 X.1 X.2->p7 (FH l X).1 (FH l X).2 from H l _ h (Fj o)
 intro l
 induction l with
 | nil=>exact λ _ _ h=>h
 | cons e l ih=>exact λ X h hX=>ih _ (λ x hx=>h x (List.mem_cons_of_mem _ hx)) (Bx hX (h e (List.mem_cons_self ..)))
def Nz(x y A:Int):Int:=if x<y then -1 else if x>y then 1 else A
theorem mh(x y A:Int):(x<y/\Nz x y A=-1)\/(x=y/\Nz x y A=A)\/(x>y/\Nz x y A=1):=by
 unfold Nz;rcases Int.lt_trichotomy x y with h|h|h
 ·exact .inl ⟨h,if_pos h⟩
 ·exact .inr (.inl ⟨h,by rw[if_neg (by omega),if_neg (by omega)]⟩)
 ·exact .inr (.inr ⟨h,by rw[if_neg (by omega),if_pos (by omega)]⟩)
def cM(u v:I6):Nat->Int
 | 0=>0
 | n+1=>Nz (u.at' (5-n)) (v.at' (5-n)) (cM u v n)
abbrev JC (u v:I6):Int:=cM u v 6
theorem EW(u v w:I6):∀ n,cM u v n<=0->cM v w n<=0->cM u w n<=0/\(cM u v n<0\/cM v w n<0->cM u w n<0)
 | 0,_,_=>⟨by simp[cM],λ h=>by simp[cM] at h⟩
 | n+1,h1,h2=>by
  have ih:=EW u v w n;simp only[cM] at h1 h2 ⊢;rcases mh (u.at' (5-n)) (v.at' (5-n)) (cM u v n) with⟨a1,e1⟩|⟨a1,e1⟩|⟨a1,e1⟩ <;>
  rcases mh (v.at' (5-n)) (w.at' (5-n)) (cM v w n) with⟨a2,e2⟩|⟨a2,e2⟩|⟨a2,e2⟩ <;>
  rcases mh (u.at' (5-n)) (w.at' (5-n)) (cM u w n) with⟨a3,e3⟩|⟨a3,e3⟩|⟨a3,e3⟩ <;>
  rw[e1] at h1<;>rw[e2] at h2<;>rw[e1,e2,e3] <;>
  first
   | (exfalso; omega)
   | exact⟨by omega,λ _=>by omega⟩
   | exact ih h1 h2
theorem pQ(u v:I6):∀ n,cM v u n=- cM u v n
 | 0=>rfl
 | n+1=>by
  have ih:=pQ u v n;simp only[cM];rcases mh (u.at' (5-n)) (v.at' (5-n)) (cM u v n) with⟨a1,e1⟩|⟨a1,e1⟩|⟨a1,e1⟩ <;>
  rcases mh (v.at' (5-n)) (u.at' (5-n)) (cM v u n) with⟨a2,e2⟩|⟨a2,e2⟩|⟨a2,e2⟩ <;>
  rw[e1,e2]<;>omega
def SC(u v:I6):Bool:=decide (JC u v<0)
theorem Mh{u v:I6}{n:Nat}(h:u.at' (5-n)=v.at' (5-n)):cM u v (n+1)=cM u v n:=by
 show Nz _ _ _=_;unfold Nz;rw[if_neg (by omega),if_neg (by omega)]
def kX(a:OA)(b c:Nat)(w:World)(K:KP):=CC 64 #[.slice a b c] w λ c d=>∃ e,c=.returned (.bool e)/\cond (!e) (K qn d) (∃ c:OA->Nat->Nat->Int->qN,(∃ e,c none 0 0 0 d e)/\∀ d e f g h i,c f g h i d e->∀ j:qv,cond (decide (i<(b:Int))) (∃ j:OA->Nat->Nat->qW,(∀ k l m n,j l m n k->∀ o:qv,∃ o,o<e/\c l m n (IntKind.i64.wrap (i+1)) k o)/\aq a λ a=>0<=i/\i<(b:Int)/\∃ b c:I6,af d (Addr.add a ((i).toNat*12)) 0 (b.on (c.vs))/\an d (.cells #[qz,qz,qz,qz,qz,qz,qz,qz,qz,qz,qz,qz] 123) λ a e=>aK (qd a 0) 0 (b.on (c.vs)) e λ b=>∃ c:I6,af b (qd a 0) 0 c.vs/\∃ e:I6,af b (qd a 6) 0 e.vs/\CC 65 #[.agg c.vs.toArray,.agg e.vs.toArray] b λ b c=>∃ e,b=.returned (iv e)/\∃ b:Int->qN,(∃ i,b 0 c i)/\∀ c i k,b k c i->∀ l:qv,cond (decide (k<(g:Int))) (aq f λ l=>0<=k/\k<(g:Int)/\∃ m:I6,af c.drew (Addr.add (Addr.add l ((k).toNat*8)) 1) 0 m.vs/\∃ l:I6,af c.drew (qd a 6) 0 l.vs/\cond (I6.beq m l) (aq f λ l=>0<=k/\k<(g:Int)/\∃ m,c.drew.cell? (Addr.add (Addr.add l ((k).toNat*8)) 7)=some (iv m)/\aq f λ l=>0<=k/\k<(g:Int)/\aM c.drew (Addr.add (Addr.add l ((k).toNat*8)) 7) (iv (if e>m then e else m)) λ l=>j f g h l) (∃ l,l<i/\b (IntKind.i64.wrap (k+1)) c.drew l)) (∃ b:I6,af c (qd a 6) 0 b.vs/\an c (.cells (qz :: b.on [iv e]:List Value).toArray 44) λ a b=>aP prog (Builtin.append_ #[41,41] 41 #[.slice f g h,.slice (some (qd a 0)) 1 1]) b λ a b=>∃ c e i,a=(.slice c e i)/\j c e i b)) (CC 66 #[.slice f g h,.func (.func 67) #[] #[]] d λ a b=>∃ c d e,a=.returned (.slice c d e)/\CC 68 #[.slice c d e,.func (.func 69) #[] #[]] b λ a b=>a=.returned (.tuple #[])/\K (.slice c d e) b))
theorem qy{a1 l1 c1 w K}(h:kX a1 l1 c1 w K):CP 35 #[.slice a1 l1 c1] w K:=ah (az [(442,[(3,.s .slice),(13,.s (.int .i64))]),(3539,[(3,.s .slice)]),(453018,[(24,.s (.int .i64))])]) func35 (by kernel_rfl) (by kernel_rfl) h
def iR(a:Int)(b:I6)(c:Int)(w:World)(K:KP):=an w (.cells (iv a :: b.on [iv c]:List Value).toArray 44) λ a b=>∃ c,b.cell? (qd a 7)=some (iv c)/\K (.bool (c==0)) b
theorem nG{n1 u1 n2 w K}(h:iR n1 u1 n2 w K):CP 67 #[.agg (iv n1 :: u1.on [iv n2]:List Value).toArray] w K:=ah (az []) func67 (by kernel_rfl) (by kernel_rfl) h
def iS(a:Int)(b:I6)(c d:Int)(e:I6)(f:Int)(w:World)(K:KP):=an w (.cells (iv a :: b.on [iv c]:List Value).toArray 44) λ a b=>an b (.cells (iv d :: e.on [iv f]:List Value).toArray 44) λ b c=>∃ d:I6,af c (qd a 1) 0 d.vs/\∃ a:I6,af c (qd b 1) 0 a.vs/\CC 70 #[.agg d.vs.toArray,.agg a.vs.toArray] c λ a b=>∃ c,a=.returned (iv c)/\K (iv c) b
theorem nH{n1 u1 n2 n3 u2 n4 w K}(h:iS n1 u1 n2 n3 u2 n4 w K):CP 69 #[.agg (iv n1 :: u1.on [iv n2]:List Value).toArray,.agg (iv n3 :: u2.on [iv n4]:List Value).toArray] w K:=ah (az []) func69 (by kernel_rfl) (by kernel_rfl) h
def dS(a:OA)(b c:Nat)(d:Value)(w:World)(K:KP):=CC 101 #[.slice a b c,d] w λ e f=>∃ g,e=.returned (iv g)/\cond (g==(-1:Int)) (K (.slice a b c) f) (∃ e:Int->Int->qN,(∃ h,e g (IntKind.i64.wrap (g+1)) f h)/\∀ f h g i,e g i f h->∀ j:qv,cond (decide (i<(b:Int))) (∃ j:Int->qW,(∀ k l,j l k->∀ m:qv,∃ m,m<h/\e l (IntKind.i64.wrap (i+1)) k m)/\aq a λ e=>0<=i/\i<(b:Int)/\∃ h,∃ k:I6,∃ l,af f (Addr.add e ((i).toNat*8)) 0 (iv h :: k.on [iv l])/\an f (.cells #[qz,qz,qz,qz,qz,qz,qz,qz] 44) λ e i=>aK (qd e 0) 0 (iv h :: k.on [iv l]) i λ h=>∃ i,∃ k:I6,∃ l,af h (qd e 0) 0 (iv i :: k.on [iv l])/\cr prog d #[.agg (iv i :: k.on [iv l]:List Value).toArray] h λ d h=>∃ i,d=.returned (.bool i)/\cond (!i) (∃ d,∃ i:I6,∃ k,af h (qd e 0) 0 (iv d :: i.on [iv k])/\aq a λ e=>0<=g/\g<(b:Int)/\aK (Addr.add e ((g).toNat*8)) 0 (iv d :: i.on [iv k]) h λ d=>j (IntKind.i64.wrap (g+1)) d) (j g h)) (0<=g/\g<=(b:Int)/\aP prog (Builtin.clear_ #[41] 0 #[.slice (if c=(g).toNat then a else Option.map (λ x=>Addr.add x ((g).toNat*8)) a) (b-(g).toNat) (c-(g).toNat)]) f λ _e1 b=>0<=g/\g<=(c:Int)/\K (.slice (if c=0 then a else Option.map (λ x=>Addr.add x (0*8)) a) ((g).toNat-0) (c-0)) b))
theorem iU{a1 l1 c1 v1 w K}(h:dS a1 l1 c1 v1 w K):CP 66 #[.slice a1 l1 c1,v1] w K:=ah (az [(122,[(5,.s (.int .i64)),(6,.s (.int .i64))]),(489,[(5,.s (.int .i64))])]) func66 (by kernel_rfl) (by kernel_rfl) h
def eP(a:OA)(b c:Nat)(d:Value)(w:World)(K:KP):=∃ c:Int->qN,(∃ e,c 0 w e)/\∀ f e g,c g f e->∀ h:qv,cond (decide (g<(b:Int))) (aq a λ a=>0<=g/\g<(b:Int)/\∃ b,∃ h:I6,∃ i,af f (Addr.add a ((g).toNat*8)) 0 (iv b :: h.on [iv i])/\cr prog d #[.agg (iv b :: h.on [iv i]:List Value).toArray] f λ a b=>∃ d,a=.returned (.bool d)/\cond d (K (iv g) b) (∃ a,a<e/\c (IntKind.i64.wrap (g+1)) b a)) (K (iv (-1)) f)
theorem ji{a1 l1 c1 v1 w K}(h:eP a1 l1 c1 v1 w K):CP 101 #[.slice a1 l1 c1,v1] w K:=ah (az [(26,[(8,.s (.int .i64))])]) func101 (by kernel_rfl) (by kernel_rfl) h

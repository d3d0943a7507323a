import Derived.Test.YtemiicbbbojdiaaGreatDoorTie
import Derived.Test.YtemiicbbbojdiaaGreatDoorCards
import Derived.DataReads
import Derived.ProofKit
import Derived.ChangeOld
import Derived.ChangeSlices
import Derived.Below
import Derived.Lay
import Derived.Lib.SmallJoins
import Derived.Lib.LaidTab
import Derived.ChangeSame
import Derived.ChangeVars
import Derived.JoinedOf
import Derived.LaidLaws
import Derived.LaidHandle
import Derived.Stop.Joined
import Derived.Stop.LaidErr
import Derived.SevenTiedAt
import Derived.Lib.ItoaLen
import Derived.Test.YtemiicbbbojdiaaGreatDoorD09
set_option linter.unusedVariables false
set_option maxRecDepth 100000
namespace Go.Proofs.YtemiicbbbojdiaaGreatDoor
open Go Go.Vc _root_.Go.Proofs.Tryz
theorem KH(w:World)(a:OA)(n c:Nat):CP 276 #[.slice a n c,.agg #[.slice none 0 0,.slice none 0 0]] w (λ r w'=>r=.bool true/\Chg w w' []):=by
 refine uc ?_;unfold oH;refine(St.start w).one.aB #[.slice none 0 0,.slice none 0 0] λ r1 w1 s1=>⟨λ b w2=>b=false/\w2=w1,?_,_,_,_,s1.ag 0 rfl 0,cF rfl ⟨_,_,_,s1.ag 0 rfl 0,rfl,rfl⟩⟩;rintro w2 _ ⟨rfl,rfl⟩ -;refine cF rfl ⟨_,_,_,s1.ag 0 rfl 0,λ i w3 m=>i=0/\w3=w2,⟨0,rfl,rfl⟩,?_⟩;rintro w3 m i ⟨rfl,rfl⟩ -;refine cF rfl ⟨_,_,_,s1.ag 0 rfl 1,λ i w4 m=>i=0/\w4=w3,⟨0,rfl,rfl⟩,?_⟩;rintro w4 m i ⟨rfl,rfl⟩ -;exact cF rfl ⟨rfl,s1.aA⟩
theorem LP{w:World}{a:OA}{c:Nat}{x:Ch}(hr:zw w a [x])(ho:x.Ok):CP 248 #[.slice a 1 c,.agg #[.slice none 0 0,.slice none 0 0]] w (λ r w'=>r=iv 13/\Chg w w' []):=by
 refine ua ?_;unfold oG;refine(St.start w).one.aB #[.slice none 0 0,.slice none 0 0] λ r1 w1 s1=>an (zZ (l:=[x]) (k:=c) (hr.aA s1.aA) (by simp)) ?_;rintro v w2 ⟨rfl,c2⟩;have s2:=s1.quiet c2;have hv:[x].all wJ=true:=E9.2 λ c hc=>by rw[List.mem_singleton.1 hc]; exact ho
 refine⟨_,rfl,cF (by rw[hv]; rfl) ⟨_,_,_,_,_,_,s2.cellsIn 0 rfl,an (KH w2 a 1 c) ?_⟩⟩;rintro v w3 ⟨rfl,c3⟩;have s3:=s2.quiet c3;refine⟨_,rfl,cF rfl ⟨_,_,_,s3.ag 0 rfl 0,cT rfl ⟨_,_,_,s3.ag 0 rfl 1,an (K:=λ r w'=>r=.bool false/\w' = w3) (qE ?_) ?_⟩⟩⟩
 ·unfold lq;exact cT rfl ⟨rfl,rfl⟩
 ·rintro v w4 ⟨rfl,rfl⟩;exact⟨_,rfl,cT rfl ⟨rfl,s3.aA⟩⟩
theorem RR{w:World}{a:OA}{c:Nat}{l:List Ch}(hr:zw w a l)(hl:l.length<=1000)(ho:∀ c∈l,c.Ok):CP 208 #[.slice a l.length c] w (λ r w'=>r=.bool true/\Chg w w' []):=by
 refine zh ?_;unfold vI;refine⟨λ i w2 m=>∃ k:Nat,i=k/\k<=l.length/\m=l.length-k/\Chg w w2 [],⟨l.length,0,rfl,by omega,by omega,Chg.refl _ _⟩,?_⟩;rintro w2 m i ⟨k,rfl,hk,hm,c2⟩ -
 by_cases hlt:(k:Int)<(l.length:Int)
 ·have hx:l[k]?=some (l[k]'(by omega)):=gE (by omega);generalize l[k]'(by omega)=y at hx;obtain⟨p,hp,hcl⟩:=(hr.aA c2).at hx;refine cT (dT hlt) (aq hp ⟨by omega,by omega,y.p,y.want,hcl,(St.start' c2).one.aB Dr.cells.toArray λ r1 w3 s3=>s3.aC 0 rfl y.cells rfl y.one λ w4 s4=>⟨y.p,y.want,s4.cellsIn 0 rfl,s4.aB y.cells.toArray λ r2 w5 s5=>?_⟩⟩);have h1:zw w5 (some ⟨r2,0,none⟩) [y]:=λ i z hz=>by
   obtain⟨rfl,rfl⟩:i=0/\z=y:=by
    cases i with
    | zero=>simp at hz; exact⟨rfl,hz.symm⟩
    | succ i=>simp at hz
   exact⟨_,_,rfl,by rw[Nat.zero_mul,tE]; exact s5.cellsIn 0 rfl,rfl,rfl⟩
  refine an (LP (c:=1) h1 (ho y (List.mem_of_getElem? hx))) ?_;rintro v w6 ⟨rfl,c6⟩;exact⟨_,rfl,cF rfl ⟨l.length-(k+1),by omega,k+1,aF ⟨by omega,by omega⟩,by omega,rfl,(s5.quiet c6).aA⟩⟩
 ·exact cF (dF hlt) ⟨rfl,c2⟩
def JJ(l:List Ch)(bids:List Of)(x:Of):Bool:=decide (x.v>SO (MM l bids) l x.want)
def Lu(l:List Ch)(bids:List Of):Int:=if bids.all Eh then (if bids.any (JJ l bids) then 16 else 0) else 4
theorem Is{w:World}{a1 a2:OA}{c1 c2:Nat}{l:List Ch}{bids:List Of}(hr:zw w a1 l)(hl:l.length<=1000)(ho:∀ c∈l,c.Ok)(hb:Yg w a2 bids)(hbl:bids.length<=100000) :
  CP 172 #[.slice a1 l.length c1,.slice a2 bids.length c2] w (λ r w'=>(∃ i:Int,r=.tuple #[iv i,iv (Lu l bids)])/\Chg w w' []):=by
 refine zg ?_;unfold vH;refine an (RR hr hl ho) ?_;rintro v w1 ⟨rfl,d1⟩;refine⟨_,rfl,cF rfl ⟨λ i w2 m=>∃ k:Nat,i=k/\k<=bids.length/\m=bids.length-k/\(bids.take k).all Eh=true/\Chg w w2 [],⟨bids.length,0,rfl,by omega,by omega,rfl,d1⟩,?_⟩⟩;rintro w2 m i ⟨k,rfl,hk,hm,ha,d2⟩ -
 by_cases hlt:(k:Int)<(bids.length:Int)
 ·have hx:bids[k]?=some (bids[k]'(by omega)):=gE (by omega);generalize bids[k]'(by omega)=y at hx;obtain⟨p,hp,hcl⟩:=(hb.aA d2).at hx;refine cT (dT hlt) (aq hp ⟨by omega,by omega,_,y.want,_,hcl,(St.start' d2).one.aB WT.cells.toArray λ r1 w3 s3=>s3.aC 0 rfl y.cells rfl y.one λ w4 s4=>⟨_,y.want,_,s4.cellsIn 0 rfl,an (Lf w4 y) ?_⟩⟩);rintro v w5 ⟨rfl,c5⟩;refine⟨_,rfl,?_⟩
  cases hy:Eh y with
  | false =>
   have:bids.all Eh=false:=List.all_eq_false.2 ⟨y,List.mem_of_getElem? hx,by simp[hy]⟩;exact cT rfl ⟨⟨k,by rw[Lu,this]; rfl⟩,(s4.quiet c5).aA⟩
  | true =>
   refine cF rfl ⟨bids.length-(k+1),by omega,k+1,aF ⟨by omega,by omega⟩,by omega,rfl,?_,(s4.quiet c5).aA⟩;rw[aH hx,List.all_append,ha]; simp[hy]
 ·obtain rfl:bids.length=k:=by omega
  rw[List.take_length] at ha;have e0:Lu l bids=if bids.any (JJ l bids) then 16 else 0:=by rw[Lu,if_pos ha]
  have hok:∀ x∈bids,I6.Le x.want 4/\x.v<=1000000:=λ x hx=>by
   have:=List.all_eq_true.1 ha x hx;unfold Eh at this;simp only[Bool.and_eq_true,decide_eq_true_eq] at this;exact⟨LZ this.1,this.2.2.2⟩
  refine cF (dF hlt) (an (K:=λ r w'=>∃ r1 r2,r=.func (.func 249) #[] #[pt r1,pt r2]/\St w w' (Sep [ai r2 #[.slice a2 bids.length c2] 229,ai r1 #[.slice a1 l.length c1] 40,emp])) (xy ?_) ?_)
  ·unfold tj;exact(St.start' d2).one.aB _ λ r1 w3 s3=>s3.aB _ λ r2 w4 s4=>⟨r1,r2,rfl,s4⟩
  rintro v w6 ⟨r1,r2,rfl,s6⟩;refine⟨_,rfl,λ i w7 m=>∃ k:Nat,i=k/\k<=bids.length/\m=bids.length-k/\(bids.take k).any (JJ l bids)=false/\St w w7 (Sep [ai r2 #[.slice a2 bids.length c2] 229,ai r1 #[.slice a1 l.length c1] 40,emp]),⟨bids.length,0,rfl,by omega,by omega,rfl,s6⟩,?_⟩;clear hlt hm hk d2;rintro w7 m i ⟨k,rfl,hk,hm,hany,s7⟩ -
  by_cases hlt:(k:Int)<(bids.length:Int)
  ·have hx:bids[k]?=some (bids[k]'(by omega)):=gE (by omega);generalize bids[k]'(by omega)=y at hx;obtain⟨p,hp,hcl⟩:=(hb.aA s7.aA).at hx;refine cT (dT hlt) (aq hp ⟨by omega,by omega,_,y.want,_,hcl,s7.aB WT.cells.toArray λ r3 w8 s8=>s8.aC 0 rfl y.cells rfl y.one λ w9 s9=>?_⟩);have s10:=s9.quiet (Chg.drew w9 []);refine⟨_,s10.ag 0 rfl 7,y.want,s10.aN 0 1 rfl rfl,an (UC (F:=MM l bids) (hr.aA s10.aA) hl ho (λ q hq=>PW ho (λ x hx=>(hok x hx).2) hq) ?_ (hok y (List.mem_of_getElem? hx)).1) ?_⟩
   ·intro w' q R hc _ kk;refine br (by kernel_rfl) (an (PX (hr.aA (s10.quiet hc).aA) hl ho (hb.aA (s10.quiet hc).aA) hbl ((s10.quiet hc).ag 2 rfl 0) ((s10.quiet hc).ag 1 rfl 0) q) ?_);rintro r w'' ⟨rfl,h⟩; exact kk w'' h
   ·rintro v w10 ⟨rfl,c10⟩;have s11:=s10.quiet c10;refine⟨_,rfl,s11.ag 0 rfl 7,?_⟩
    cases ho:JJ l bids y with
    | true=>exact cT ho ⟨⟨k,by rw[e0,kM hx ho]; rfl⟩,s11.aA⟩
    | false=>exact cF ho ⟨bids.length-(k+1),by omega,k+1,aF ⟨by omega,by omega⟩,by omega,rfl,iB hany hx ho,s11.ay [1,2,3]⟩
  ·obtain rfl:bids.length=k:=by omega
   rw[List.take_length] at hany;exact cF (dF hlt) ⟨⟨0,by rw[e0,hany]; rfl⟩,s7.aA⟩
theorem Q0(x:Xv)(m:I6):vu x.er m=vu x m:=by unfold vu; rw[An,SU]
theorem Q4(x:Xv)(m:I6):vz x.er m=vz x m:=by unfold vz; rw[SU]
theorem CV{l:List Pr}{t:List UInt8}(h:(bJ l t).2=0):fk (bJ l t).1=0:=by
 unfold bJ at h ⊢
 split at h
 ·rename_i g; exact absurd h g
 ·rename_i g; rw[if_neg g]
  split at h
  ·rename_i g2; exact absurd h g2
  ·rename_i g2; rw[if_neg g2]
   split at h
   ·rename_i g3; exact absurd h g3
   ·rename_i g3; rw[if_neg g3]; simpa using g3
theorem Mq{x:Xv}(h:fk x=0):aT x<=40:=by
 unfold fk at h
 split at h
 ·cases h
 ·split at h
  ·cases h
  ·rename_i g; omega
def Hj(S:Se)(n:Nat)(y:Br):List Of->Int
 | []=>0
 | o :: l=>if kC S n y o.want≠0 then kC S n y o.want else if y.bud≠0/\y.bud<o.v then 17 else Hj S n y l
theorem A4{S:Se}{n:Nat}{y:Br}:∀ (l:List Of) (k:Nat),(∀ o∈l.take k,kC S n y o.want=0/\¬ (y.bud≠0/\y.bud<o.v))->Hj S n y l=Hj S n y (l.drop k)
 | l,0,_=>rfl
 | [],k+1,_=>rfl
 | o :: l,k+1,h=>by
  obtain⟨h1,h2⟩:=h o (by simp);rw[Hj,if_neg (by simpa using h1),if_neg h2,A4 l k λ o ho=>h o (by simp[ho])]; rfl
theorem Uy{S:Se}{n:Nat}{y:Br}{l:List Of}{k:Nat}{o:Of}(h:∀ o∈l.take k,kC S n y o.want=0/\¬ (y.bud≠0/\y.bud<o.v))(hx:l[k]?=some o) :
  Hj S n y l=if kC S n y o.want≠0 then kC S n y o.want else if y.bud≠0/\y.bud<o.v then 17 else Hj S n y (l.drop (k+1)):=by
 obtain⟨hl,rfl⟩:=List.getElem?_eq_some_iff.1 hx;rw[A4 l k h,List.drop_eq_getElem_cons hl,Hj]
def fL(S:Se)(C:Ck)(n:Nat)(y:Br)(t:List UInt8):Int :=
 if (bJ S.ps t).2≠0 then (bJ S.ps t).2 else if vu (bJ S.ps t).1 (bK S.ps)≠0 then vu (bJ S.ps t).1 (bK S.ps)
 else if Hj S n y (vz (bJ S.ps t).1 (bK S.ps))≠0 then Hj S n y (vz (bJ S.ps t).1 (bK S.ps)) else Lu (wz C n) (vz (bJ S.ps t).1 (bK S.ps))
theorem Vj{l:List Pr}(h:dK l):pr (bK l).l<=1024:=by
 rw[IJ,EN h.l2]; exact h.lim
theorem LF{w:World}{b g n:Nat}{S:Sx}{C:Ck}{y:Br}(hb:af w ⟨b,0,none⟩ 0 S.cells)(hI:S.s.In w)(hk:S.k=some ⟨g,0,none⟩)(hK:C.Rd g w)(hC:C.Ok)(hs:S.s.Ok)(hn:n<C.s.bd.length)(hy:S.s.bd[n]?=some y)(t:List UInt8) :
  CP 140 #[.pointer (some ⟨b,0,none⟩),iv n,sv t] w (λ r w'=>∃ x:Xv,(fL S.s C n y t=0->x.er=(bJ S.s.ps t).1)/\r=.tuple #[.agg x.cells.toArray,iv (fL S.s C n y t)]/\St w w' (held x.In)):=by
 refine pq ?_;unfold kA;have hn':=(List.getElem?_eq_some_iff.1 hy).1;have z2:=hs.bd.l2;have hm:=sup_le hs.ps;have hp:=Vj hs.ps;have cb:∀ {w'},Chg w w' []->∀ (j:Nat) (v:Value),S.cells[j]?=some v->w'.cell? ⟨b,j,none⟩=some v:=λ hc j v hv=>by
  have:=aO (cA hc hb) j v hv
  rwa [Nat.zero_add,tE] at this
 refine(St.start w).one.aB eH.cells.toArray λ r1 w1 s1=>⟨_,_,_,cb s1.aA 5 _ rfl,an (Rc (hI.aA s1.aA).ps hI.h1 hs.ps t) ?_⟩;rintro v w2 ⟨x,ex,rfl,k2⟩;have s2:St w w2 (Sep [held x.In,ai r1 eH.cells.toArray 81,emp]):=s1.and k2;refine⟨_,x.u,_,_,_,_,_,rfl,s2.aB eH.cells.toArray λ r2 w3 s3=>s3.aC 0 rfl x.cells rfl x.one λ w4 s4=>?_⟩;have s4:St w w4 (Sep [ai r2 x.cells.toArray 81,held x.In,ai r1 eH.cells.toArray 81,emp]):=s4;have bad:∀ {k:Int} {w' : World} {m:List aG} {i:Nat},St w w' (Sep m)->m[i]?=some (ai r1 eH.cells.toArray 81)->k≠0->fL S.s C n y t=k ->
   aK ⟨r1,0,none⟩ 0 eH.cells w' λ w3=>∃ (n2:Int) (u1:I6) (n3:Int) (a2:OA) (l2 c2:Nat),af w3 ⟨r1,0,none⟩ 0 (iv n2 :: u1.on [iv n3,.slice a2 l2 c2]) /\
    ∃ x:Xv,(fL S.s C n y t=0->x.er=(bJ S.s.ps t).1)/\Value.tuple #[.agg (iv n2 :: u1.on [iv n3,.slice a2 l2 c2]:List Value).toArray,iv k]=.tuple #[.agg x.cells.toArray,iv (fL S.s C n y t)]/\St w w3 (held x.In):=λ {k w' m i} s e hk0 hp =>
  s.aC i e eH.cells rfl (Xv.one _) λ w3 s3=>⟨_,z6,_,_,_,_,s3.cellsIn (cs:=eH.cells.toArray) (T:=81) i (List.getElem?_set_self (fA e)),eH,λ h=>absurd (hp.symm.trans h) hk0,by rw[hp]; rfl,((St.start' s3.aA).one.qf He).first⟩
 by_cases h1:(bJ S.s.ps t).2=0
 ·have hx0:fk x=0:=by rw[<- An,ex]; exact CV h1
  have hz:=Mq hx0;have e1:fL S.s C n y t=if vu x (bK S.s.ps)≠0 then vu x (bK S.s.ps) else if Hj S.s n y (vz x (bK S.s.ps))≠0 then Hj S.s n y (vz x (bK S.s.ps)) else Lu (wz C n) (vz x (bK S.s.ps)):=by
   rw[fL,if_neg (by simpa using h1),<- ex,Q0,Q4]
  have s5:=s4.quiet (Chg.drew w4 []);refine cF (by simpa using h1) ⟨_,x.u,_,_,_,_,s5.cellsIn 0 rfl,_,_,_,cb s5.aA 5 _ rfl,an (mW (hI.aA s5.aA).ps (by have:=hs.ps.l2; omega)) ?_⟩;rintro v w6 ⟨rfl,c6⟩;have s6:=s5.quiet c6;refine⟨_,rfl,s6.cellsIn 0 rfl,an (KG hm hp (by omega) (s6.aP 1 rfl)) ?_⟩;rintro v w7 (⟨ho,rfl,c7⟩|⟨ho,hlen,a,c,rfl,k7⟩)
  ·exact⟨_,_,_,_,rfl,cT (by simpa using ho) (bad (s6.quiet c7) (i:=2) rfl ho (by rw[e1,if_pos ho]))⟩
  rw[if_neg (by simpa using ho)] at e1;have s7:St w w7 (Sep [GK a c (vz x (bK S.s.ps)),ai r2 x.cells.toArray 81,held x.In,ai r1 eH.cells.toArray 81,emp]):=s6.and k7.single;generalize hl:vz x (bK S.s.ps)=l at *;obtain⟨_,q,hq,hcy⟩:=(hI.aA s7.aA).bd n y hy;have cbud:w7.cell? (Addr.add (Addr.add q (((n:Nat):Int).toNat*4)) 2)=some (iv y.bud):=by
   have:=aO hcy 2 _ rfl
   rwa [Nat.zero_add] at this
  refine⟨_,_,_,_,rfl,cF rfl ⟨_,_,_,cb s7.aA 6 _ rfl,aq hq ⟨by omega,by omega,_,cbud,?_⟩⟩⟩;refine⟨λ i w8 m=>∃ k:Nat,i=k/\k<=l.length/\m=l.length-k/\(∀ o∈l.take k,kC S.s n y o.want=0/\¬ (y.bud≠0/\y.bud<o.v))/\St w w8 (Sep [GK a c l,ai r2 x.cells.toArray 81,held x.In,ai r1 eH.cells.toArray 81,emp]),⟨l.length,0,rfl,by omega,by omega,by simp,s7⟩,?_⟩;rintro w8 m i ⟨k,rfl,hk8,hm8,hall,s8⟩ -
  by_cases hlt:(k:Int)<(l.length:Int)
  ·have hxk:l[k]?=some (l[k]'(by omega)):=gE (by omega);generalize l[k]'(by omega)=o at hxk;obtain⟨q2,hq2,hc2⟩:=(St.rd Of.len s8).at hxk;have eo:=Uy hall hxk;refine cT (dT hlt) (aq hq2 ⟨by omega,by omega,_,o.want,_,hc2,s8.aB WT.cells.toArray λ r3 w9 s9=>s9.aC 0 rfl o.cells rfl o.one λ w10 s10=>?_⟩);have s11:=s10.quiet (Chg.drew w10 []);have hset:af w10.drew ⟨b,5,none⟩ 0 S.s.arr.toList:=bE _ 0 λ j v hj=>by
    rw[bq,Nat.zero_add];refine cb s11.aA (5+j) v ?_;have hj4:j<4:=(List.getElem?_eq_some_iff.1 hj).1
    match j,hj4 with
    | 0,_|1,_|2,_|3,_=>exact hj
   refine⟨_,_,_,_,_,_,_,_,_,_,_,_,hset,o.want,s11.aN 0 1 rfl rfl,an (Ci (hI.aA s11.aA) hs hy o.want) ?_⟩;rintro v w12 ⟨rfl,c12⟩;have s12:=s11.quiet c12;refine⟨_,rfl,?_⟩
   by_cases ha:kC S.s n y o.want=0
   ·rw[if_neg (by simpa using ha)] at eo;refine cF (by simpa using ha) ⟨λ bb w13=>bb=decide (y.bud≠0/\y.bud<o.v)/\St w w13 (Sep [GK a c l,ai r2 x.cells.toArray 81,held x.In,ai r1 eH.cells.toArray 81,emp]),?_,?_⟩
    ·rintro w13 bb ⟨rfl,s13⟩ x2
     by_cases hbud:y.bud≠0/\y.bud<o.v
     ·rw[if_pos hbud] at eo;exact cT (dT hbud) (bad s13 (i:=3) rfl (by decide) (by rw[e1,eo]; rfl))
     ·refine cF (dF hbud) ⟨l.length-(k+1),by omega,k+1,aF ⟨by omega,by omega⟩,by omega,rfl,λ o' ho'=>?_,s13⟩;rw[aH hxk] at ho';rcases List.mem_append.1 ho' with h|h
      ·exact hall o' h
      ·rw[List.mem_singleton.1 h]; exact⟨ha,hbud⟩
    ·by_cases hb0:y.bud=0
     ·exact cF (by simpa using hb0) ⟨by rw[dF λ h=>h.1 hb0],s12.ay [1,2,3,4,5]⟩
     ·refine cT (by simpa using hb0) ⟨_,s12.ag 0 rfl 7,?_,s12.ay [1,2,3,4,5]⟩
      by_cases hv:y.bud<o.v
      ·rw[dT hv,dT ⟨hb0,hv⟩]
      ·rw[dF hv,dF λ h=>hv h.2]
   ·rw[if_pos ha] at eo;exact cT (by simpa using ha) (bad s12 (i:=4) rfl ha (by rw[e1,eo,if_pos ha]))
  ·obtain rfl:k=l.length:=by omega
   rw[List.take_length] at hall;have e0:Hj S.s n y l=0:=by rw[A4 l l.length (by rw[List.take_length]; exact hall),List.drop_length]; rfl
   rw[e0,if_neg (by decide)] at e1;refine cF (dF hlt) ⟨_,(cb s8.aA 9 _ rfl).trans (by rw[hk]),an (wL (hK.aA s8.aA) hC hn) ?_⟩;rintro v w9 ⟨a4,c4,rfl,k9⟩;have rl:=(St.rd Of.len s8).aA k9.aA;have rch:zw w9 a4 (wz C n):=St.rd Ch.len k9.one;have s9:=s8.quiet k9.aA;refine⟨_,_,_,rfl,an (Is rch (by unfold wz; rw[List.length_map]; have:=hC.cl; omega) (Sm hC) rl (by omega)) ?_⟩;rintro v w10 ⟨⟨i,rfl⟩,c10⟩;have s10:=s9.quiet c10;refine⟨_,_,rfl,_,x.u,_,_,_,_,s10.cellsIn 1 rfl,s10.aC 3 rfl x.cells rfl x.one λ w11 s11=>⟨_,x.u,_,_,_,_,s11.cellsIn 3 rfl,x,λ _=>ex,by rw[e1]; rfl,?_⟩⟩;exact(s11.ay [2]).single
 ·exact cT (by simpa using h1) (bad s4 (i:=2) rfl h1 (by rw[fL,if_pos h1]))
def tI(S:Sx)(n:Nat)(x:Xv):Sx:={ S with bd:=S.bd.set n { S.bd.getD n dQ with x:=x,has:=true } }
section
variable {w0 w:World} {b g n:Nat} {S:Sx} {C:Ck} {B:aG} {y:Br}
theorem PD{k:List Nat}{l:List aG}(s:St w0 w (Sep l))(e:ay k l=dR g C):C.Rd g w:=(by have:=s.ay k; rw[e] at this; exact this:St w0 w (Sep (dR g C))).imp sV
theorem U1{Q:World->Prop}(hQ:∀ w,Q w->S.s.In w)(s:St w0 w (Sep (cU b S g C++[held Q,B])))(h:S.bd.length=8)(hk:S.k=some ⟨g,0,none⟩)(hC:C.Ok)(hs:S.s.Ok){e:Ev}(he:e.bidder=n)(hn:n<C.s.bd.length)(hy:S.s.bd[n]?=some y) :
  CP 98 #[.pointer (some ⟨b,0,none⟩),e.v] w (λ r w'=>r=iv (fL S.s C n y e.text)/\(fL S.s C n y e.text≠0->St w0 w' (Sep (cU b S g C++[held Q,B])))/\(fL S.s C n y e.text=0->∃ x:Xv,x.er=(bJ S.s.ps e.text).1/\St w0 w' (Sep (cU b (tI S n x) g C++[held Q,held x.In,B])))):=by
 refine ue (u1:=e.want) ?_;unfold oJ;have hn':=(List.getElem?_eq_some_iff.1 hy).1;have z2:=hs.bd.l2;have hn8:n<8:=by omega
 have hyb:S.bd[n]?=some (S.bd.getD n dQ):=by rw[List.getD_eq_getElem?_getD,gE (by omega)]; rfl
 have hsz:S.cells.toArray.size=101:=by simpa using Sx.len h
 refine s.aB e.cells.toArray λ r1 w1 s1=>?_;have s1:St w0 w1 (Sep (ai r1 e.cells.toArray 71 :: ai b S.cells.toArray 86 :: (dR g C++[held Q,B]))):=s1;have c1:w1.cell? ⟨r1,1,none⟩=some (iv n):=by rw[<- he]; exact s1.ag 0 rfl 1
 have rdK:C.Rd g w1:=PD (k:=[2,3,4,5,6,7]) s1 rfl;refine⟨_,c1,_,s1.ag 0 rfl 9,an (LF (s1.cellsIn 1 rfl) (hQ _ (s1.aP 8 rfl)) hk rdK hC hs hn hy e.text) ?_⟩;rintro v w2 ⟨x,ex,rfl,k2⟩;have s2:St w0 w2 (Sep (held x.In :: ai r1 e.cells.toArray 71 :: ai b S.cells.toArray 86 :: (dR g C++[held Q,B]))):=s1.and k2;refine⟨_,x.u,_,_,_,_,_,rfl,s2.aB eH.cells.toArray λ r2 w3 s3=>s3.aC 0 rfl x.cells rfl x.one λ w4 s4=>?_⟩;have s4:St w0 w4 (Sep (ai r2 x.cells.toArray 81 :: held x.In :: ai r1 e.cells.toArray 71 :: ai b S.cells.toArray 86 :: (dR g C++[held Q,B]))):=s4
 by_cases h0:fL S.s C n y e.text=0
 ·refine⟨λ w5=>St w0 w5 (Sep (cU b (tI S n x) g C++[held Q,held x.In,B])),λ w5 s5 _=>⟨rfl,λ h=>absurd h0 h,λ _=>⟨x,ex h0,s5⟩⟩,?_⟩;have s5:=s4.quiet (Chg.drew w4 []);have c5:w4.drew.cell? ⟨r1,1,none⟩=some (iv n):=by rw[<- he]; exact s5.ag 2 rfl 1
  refine cT (by simpa using h0) ⟨_,c5,_,c5,_,x.u,_,_,_,_,s5.cellsIn 0 rfl,by omega,by omega,?_⟩;rw[WV];let S1:Sx:={ S with bd:=S.bd.set n { S.bd.getD n dQ with x:=x } };refine s5.nX 3 (10+n*11) rfl (vs:=x.cells) S1.cells.toArray (by rw[hsz,Xv.len]; omega) (Xv.one _) (by rw[Xv.len]; exact congrArg List.toArray (Kg h hn8 hyb x)) λ w6 s6=>?_;have h1:S1.bd.length=8:=by simpa[S1] using h
  have hy1:S1.bd[n]?=some { S.bd.getD n dQ with x:=x }:=by
   show(S.bd.set n _)[n]?=_;rw[List.getElem?_set_self (by omega)]
  have hsz1:S1.cells.toArray.size=101:=by simpa using Sx.len h1
  have s6:St w0 w6 (Sep (ai r2 x.cells.toArray 81 :: held x.In :: ai r1 e.cells.toArray 71 :: ai b S1.cells.toArray 86 :: (dR g C++[held Q,B]))):=s6;have c6:w6.cell? ⟨r1,1,none⟩=some (iv n):=by rw[<- he]; exact s6.ag 2 rfl 1
  refine⟨c6,by omega,by omega,?_⟩;rw[bq];refine s6.aJ 3 rfl (j:=10+n*11+9) (by rw[hsz1]; omega) rfl λ w7 s7=>?_;have e1:=Kf h1 hn8 hy1 true;have e2:({ S1 with bd:=S1.bd.set n { ({ S.bd.getD n dQ with x:=x }:Bd) with has:=true } }:Sx)=tI S n x:=by
   show({ S with bd:=(S.bd.set n _).set n _ }:Sx)=_;rw[List.set_set]; rfl
  rw[e2] at e1;rw[e1] at s7;exact s7.ay [3,4,5,6,7,8,9,10,1,11]
 ·refine⟨λ w5=>St w0 w5 (Sep (cU b S g C++[held Q,B])),λ w5 s5 _=>⟨rfl,λ _=>s5,λ h=>absurd h h0⟩,cF (by simpa using h0) (s4.ay [3,4,5,6,7,8,9,10,11])⟩
end
structure Ck.Inv (C:Ck):Prop where
 ok:C.Ok
 n30:C.ov=false->C.cl.length<30
section
variable {C C' : Ck}
theorem Rn.Sz.er{x:Rn}{n:Nat}:x.er.Sz n<->x.Sz n:=⟨λ h=>⟨h.ask,h.got,h.bd⟩,λ h=>⟨h.ask,h.got,h.bd⟩⟩
theorem Ck.Inv.Yc(h:C.Inv):C.er.Inv:=by
 obtain⟨⟨s,o,cl,cz,cp,ca,cg,p,ask,bd,dp,asked⟩,n30⟩:=h;have mm:∀ {x:Rn},x∈C.er.cl->∃ y∈C.cl,y.er=x:=λ hx=>List.mem_map.1 hx;have hl:C.er.cl.length=C.cl.length:=List.length_map _;refine⟨⟨⟨s.ps,s.bd,s.cp,s.sa⟩,o,by rw[hl]; exact cl,λ x hx=>?_,λ x hx=>?_,λ x hx=>?_,λ x hx=>?_,p,ask,bd,dp,asked⟩,λ h=>by rw[hl]; exact n30 h⟩
 ·obtain⟨y,hy,rfl⟩:=mm hx; exact Rn.Sz.er.2 (cz y hy)
 ·obtain⟨y,hy,rfl⟩:=mm hx; exact cp y hy
 ·obtain⟨y,hy,rfl⟩:=mm hx; exact ca y hy
 ·obtain⟨y,hy,rfl⟩:=mm hx; exact cg y hy
theorem Ck.Inv.X4(h:C.er.Inv):C.Inv:=by
 obtain⟨⟨s,o,cl,cz,cp,ca,cg,p,ask,bd,dp,asked⟩,n30⟩:=h;have mm:∀ {x:Rn},x∈C.cl->x.er∈C.er.cl:=λ hx=>List.mem_map_of_mem hx;have hl:C.er.cl.length=C.cl.length:=List.length_map _;rw[hl] at cl n30;exact⟨⟨⟨s.ps,s.bd,s.cp,s.sa⟩,o,cl,λ x hx=>Rn.Sz.er.1 (cz _ (mm hx)),λ x hx=>cp x.er (mm hx),λ x hx=>ca x.er (mm hx),λ x hx=>cg x.er (mm hx),p,ask,bd,dp,asked⟩,n30⟩
theorem Ck.Inv.er(h:C.Inv)(e:C'.er=C.er):C'.Inv:=Ck.Inv.X4 (e▸h.Yc)
theorem Sl(C:Ck)(n:Nat):wz C.er n=wz C n:=by
 show(C.cl.map Rn.er).map _=_;rw[List.map_map]; rfl
theorem Ri(C:Ck):jt C.er=jt C:=by
 show iS C.dp 0 (((C.cl.map Rn.er).getLast?.map Rn.got).getD [])=_;rw[List.getLast?_map,Option.map_map]; rfl
theorem tT(C:Ck):C.er.cl.length=C.cl.length:=List.length_map _
theorem MZ(C:Ck):qe C.er=qe C:=by
 unfold qe;rw[tT,Ri]; rfl
theorem MF(C:Ck):yX C.er=yX C:=by unfold yX; rw[MZ]; rfl
theorem NF(C:Ck):o5 C.er=o5 C:=by unfold o5; rw[MF]; rfl
theorem JB(C:Ck):eu C.er=eu C:=by unfold eu; rw[MF,NF,tT]
theorem Wt(C:Ck):(N6 C.er).er=(N6 C).er:=by
 show({ p:=_,ask:=_,got:=qe C.er,bd:=_,xa:=_,xc:=_,ga:=_,gc:=_,ba:=_,bc:=_ }:Rn)=_;rw[MZ]; rfl
theorem FF(C:Ck):C.er.er=C.er:=by
 show({ C.er with cl:=(C.cl.map Rn.er).map Rn.er }:Ck)=_;rw[List.map_map]; rfl
theorem Mt(C:Ck):(fX C.er).er=(fX C).er:=by
 have e1:(fX C.er).cl.map Rn.er=(fX C).cl.map Rn.er:=by
  show((C.cl.map Rn.er)++[N6 C.er]).map Rn.er=(C.cl++[N6 C]).map Rn.er;rw[List.map_append,List.map_append,List.map_map,List.map_singleton,List.map_singleton,Wt]; rfl
 show({ s:=_,o:=_,cl:=(fX C.er).cl.map Rn.er,p:=if eu C.er then C.p else (o5 C.er).1,ask:=_,bd:=_,dp:=_,ov:=eu C.er,ka:=_,kc:=_,xa:=_,xc:=_,ya:=_,yc:=_,za:=_,zc:=_ }:Ck)=_;rw[e1,JB,NF]; rfl
theorem RU(C:Ck):(vZ C.er).er=(vZ C).er:=by
 show({ s:=_,o:=_,cl:=(C.cl.map Rn.er).map Rn.er,p:=_,ask:=_,bd:=_,dp:=_,ov:=_,ka:=_,kc:=_,xa:=_,xc:=_,ya:=_,yc:=_,za:=_,zc:=_ }:Ck)=_;rw[List.map_map]; rfl
theorem My(C:Ck)(n:Nat):(kV C.er n).er=(kV C n).er:=by
 show({ s:=_,o:=_,cl:=(C.cl.map Rn.er).map Rn.er,p:=_,ask:=_,bd:=_,dp:=_,ov:=_,ka:=_,kc:=_,xa:=_,xc:=_,ya:=_,yc:=_,za:=_,zc:=_ }:Ck)=_;rw[List.map_map]; rfl
theorem Pp(C:Ck)(n:Nat)(u:I6):(nt C.er n u).er=(nt C n u).er:=by
 show({ s:=_,o:=_,cl:=(C.cl.map Rn.er).map Rn.er,p:=_,ask:=_,bd:=_,dp:=_,ov:=_,ka:=_,kc:=_,xa:=_,xc:=_,ya:=_,yc:=_,za:=_,zc:=_ }:Ck)=_;rw[List.map_map]; rfl
theorem Lv(C:Ck)(r:Int):cK C.er r=cK C r:=by unfold cK; rw[tT]; rfl
theorem N3(C:Ck)(r:Nat):(fF C.er r).er=(fF C r).er:=by
 unfold fF;have e:C.er.cl[r]?=(C.cl[r]?).map Rn.er:=List.getElem?_map ..;rw[e]
 cases C.cl[r]? with
 | none =>
  show({ s:=_,o:=_,cl:=(C.cl.map Rn.er).map Rn.er,p:=_,ask:=_,bd:=_,dp:=_,ov:=_,ka:=_,kc:=_,xa:=_,xc:=_,ya:=_,yc:=_,za:=_,zc:=_ }:Ck)=_;rw[List.map_map]; rfl
 | some x =>
  show({ s:=_,o:=_,cl:=(((C.cl.map Rn.er).take r).map Rn.er),p:=_,ask:=_,bd:=_,dp:=_,ov:=_,ka:=_,kc:=_,xa:=_,xc:=_,ya:=_,yc:=_,za:=_,zc:=_ }:Ck)=_;rw[<- List.map_take,List.map_map]; rfl
theorem Pn(C:Ck)(n:Nat)(y:Br)(u:I6):kD C.er n y u=kD C n y u:=by
 unfold kD;rw[Sl]; rfl
theorem NJ(S:Se)(C:Ck)(n:Nat)(y:Br)(t:List UInt8):fL S.er C.er n y t=fL S C n y t:=by
 unfold fL;rw[Sl];have:∀ l:List Of,Hj S.er n y l=Hj S n y l:=λ l=>by
  induction l with
  | nil=>rfl
  | cons o l ih=>rw[Hj,Hj,ih]; rfl
 rw[this]; rfl
theorem Ny{S:Se}{o:Po}(hs:S.Ok)(ho:o.ok):(mH S o).Inv:=⟨QS hs ho,λ _=>by show([]:List Rn).length<30; decide⟩
theorem Mk(h:C.Inv){n:Nat}{y:Br}{u:I6}(hb:kD C n y u=0):(nt C n u).Inv:=by
 have hu:I6.Le u 4:=by
  unfold kD at hb
  split at hb
  ·cases hb
  ·split at hb
   ·rename_i h1; exact absurd hb h1
   ·rename_i h1;have h2:kC C.s n y u=0:=by simpa using h1
    unfold kC at h2
    split at h2
    ·rename_i h3; exact LZ h3
    ·cases h2
 obtain⟨⟨s,o,cl,cz,cp,ca,cg,p,ask,bd,dp,asked⟩,n30⟩:=h;refine⟨⟨s,o,cl,cz,cp,ca,cg,p,by simpa[nt] using ask,by simpa[nt] using bd,dp,λ v hv=>?_⟩,n30⟩;rcases List.mem_or_eq_of_mem_set hv with hv|rfl
 ·exact asked v hv
 ·exact hu
theorem KE(h:C.Inv)(n:Nat):(kV C n).Inv:=by
 obtain⟨⟨s,o,cl,cz,cp,ca,cg,p,ask,bd,dp,asked⟩,n30⟩:=h;refine⟨⟨s,o,cl,cz,cp,ca,cg,p,by simpa[kV] using ask,by simpa[kV] using bd,by simpa[kV] using dp,λ v hv=>?_⟩,n30⟩;rcases List.mem_or_eq_of_mem_set hv with hv|rfl
 ·exact asked v hv
 ·exact O1 (by omega)
theorem U0{n:Nat}:∀ u∈List.replicate n z6,I6.Le u 4:=λ u hu=>by rw[List.eq_of_mem_replicate hu]; exact O1 (by omega)
theorem DO(h:C.Ok):(gJ C).Ok:=by
 obtain⟨s,o,cl,cz,cp,ca,cg,p,ask,bd,dp,asked⟩:=h;exact⟨s,o,cl,cz,cp,ca,cg,p,by simpa[gJ] using dp,by simpa[gJ] using dp,dp,U0⟩
theorem LI(h:C.Inv):(vZ C).Inv:=by
 obtain⟨s,o,cl,cz,cp,ca,cg,p,ask,bd,dp,asked⟩:=DO h.ok;exact⟨⟨s,o,cl,cz,cp,ca,cg,p,ask,bd,dp,asked⟩,λ h=>by cases h⟩
theorem It(h:C.Inv){r:Int}(hr:cK C r=false):(fF C r.toNat).Inv:=by
 have hr' : 0<=r/\r<=C.cl.length/\(r=C.cl.length->C.ov=false):=by
  unfold cK at hr;simp only[Bool.or_eq_false_iff,decide_eq_false_iff_not,Bool.and_eq_false_iff,beq_eq_false_iff_ne] at hr;obtain⟨⟨h1,h2⟩,h3⟩:=hr;refine⟨by omega,by omega,λ e=>?_⟩;rcases h3 with h3|h3
  ·exact absurd e h3
  ·exact h3
 have k:=DO h.ok;obtain⟨s,o,cl,cz,cp,ca,cg,p,ask,bd,dp,asked⟩:=k;have hl:=h.ok.cl;unfold fF
 cases hx:C.cl[r.toNat]? with
 | some x =>
  have hm:=List.mem_of_getElem? hx;have hlt:=(List.getElem?_eq_some_iff.1 hx).1;refine⟨⟨s,o,?_,λ y hy=>cz y (List.mem_of_mem_take hy),λ y hy=>cp y (List.mem_of_mem_take hy),λ y hy=>ca y (List.mem_of_mem_take hy),λ y hy=>cg y (List.mem_of_mem_take hy),cp x hm,ask,bd,dp,asked⟩,λ _=>?_⟩
  ·show(C.cl.take r.toNat).length<=30;rw[List.length_take]; omega
  ·show(C.cl.take r.toNat).length<30;rw[List.length_take]; omega
 | none =>
  have hge:C.cl.length<=r.toNat:=List.getElem?_eq_none_iff.1 hx;have e:r=C.cl.length:=by omega
  exact⟨⟨s,o,cl,cz,cp,ca,cg,p,ask,bd,dp,asked⟩,λ _=>h.n30 (hr'.2.2 e)⟩
theorem HW{o:Po}{p ex:I6}(hp:o6 p=true)(h:(yg o p ex).2=0):o6 (yg o p ex).1=true:=by
 unfold yg at h ⊢
 split
 ·rename_i g; rw[if_pos g] at h; cases h
 ·rename_i g;show o6 (bP o p ex)=true
  by_cases e:bP o p ex=p
  ·rw[e]; exact hp
  ·cases hv:o6 (bP o p ex) with
   | true=>rfl
   | false=>exact absurd ⟨e,hv⟩ g
theorem Hy(h:C.Inv)(hov:C.ov=false):(fX C).Inv:=by
 have h30:=h.n30 hov;have hg:=M0 h.ok;have hk:=h.ok;obtain⟨s,o,cl,cz,cp,ca,cg,p,ask,bd,dp,asked⟩:=DO h.ok;have mm:∀ {Q:Rn->Prop},(∀ x∈C.cl,Q x)->Q (N6 C)->∀ x∈(fX C).cl,Q x:=λ h1 h2 x hx=>by
  rcases List.mem_append.1 hx with hx|hx
  ·exact h1 x hx
  ·rw[List.mem_singleton.1 hx]; exact h2
 refine⟨⟨s,o,?_,mm cz ⟨hk.ask,hg.1,hk.bd⟩,mm cp hk.p,mm ca hk.asked,mm cg hg.2,?_,ask,bd,dp,asked⟩,λ hl=>?_⟩
 ·show(C.cl++[N6 C]).length<=30;rw[List.length_append,List.length_singleton]; omega
 ·show o6 (if eu C then C.p else (o5 C).1)=true
  split
  ·exact hk.p
  ·rename_i hl;refine HW hk.p ?_;have hl:eu C=false:=by simpa using hl
   unfold eu at hl;simp only[Bool.or_eq_false_iff] at hl;have h2:(o5 C).2=0:=by simpa using hl.2.2
   exact h2
 ·have hl:eu C=false:=hl;unfold eu at hl;simp only[Bool.or_eq_false_iff,decide_eq_false_iff_not] at hl;show(C.cl++[N6 C]).length<30;rw[List.length_append,List.length_singleton]; omega
end
theorem RW{S:Sx}(h:S.bd.length=8)(k:OA):S.cells.toArray.setIfInBounds 9 (.pointer k)=({ S with k:=k }:Sx).cells.toArray:=by
 obtain⟨o,ph,s,k0,bd,dec,cnt,dig⟩:=S;obtain⟨b0,b1,b2,b3,b4,b5,b6,b7,rfl⟩:=bM h;rfl
theorem Vm(S:Sx)(S' : Se):(S.cells.toArray.toList.take 5++S'.arr.toList++S.cells.toArray.toList.drop (5+S'.arr.toList.length)).toArray=({ S with s:=S' }:Sx).cells.toArray:=rfl
def oE(o:Po)(t:List UInt8):Int:=if qx o≠0 then qx o else xu t
section
variable {w0 w:World} {b:Nat} {S:Sx} {B:aG}
theorem RP(s:St w0 w (Sep [ai b S.cells.toArray 86,B]))(h:S.bd.length=8){e:Ev}(ht:e.text.length<=80000) :
  CP 95 #[.pointer (some ⟨b,0,none⟩),e.v] w (λ r w'=>r=iv (oE S.o e.text)/\(oE S.o e.text≠0->St w0 w' (Sep [ai b S.cells.toArray 86,B]))/\(oE S.o e.text=0->∃ (S' : Se) (g:Nat) (C:Ck),S'.er=(xw e.text).er/\S'.Ok/\S.o.ok/\C.er=(mH S' S.o).er/\St w0 w' (Sep (cU b { S with ph:=1,s:=S',k:=some ⟨g,0,none⟩ } g C++[held S'.In,B])))):=by
 refine sM (u1:=e.want) ?_;unfold mT;refine s.aB e.cells.toArray λ r1 w1 s1=>?_;refine⟨_,_,_,_,s1.aN (vs:=S.o.cells) 1 0 rfl rfl,an (xo w1 S.o) ?_⟩;rintro v w2 ⟨rfl,c2⟩;have s2:=s1.quiet c2;refine⟨_,rfl,?_⟩
 by_cases h1:qx S.o=0
 ·have e1:oE S.o e.text=xu e.text:=by rw[oE,if_neg (λ h=>h h1)]
  refine cF (by simpa using h1) ⟨_,s2.ag 0 rfl 9,an (Ov w2 e.text ht) ?_⟩;rintro v w3 ⟨S',i,rfl,k3,hok⟩;have s3:St w0 w3 (Sep [held S'.In,ai r1 e.cells.toArray 71,ai b S.cells.toArray 86,B]):=s2.and k3;refine⟨_,_,_,_,_,_,_,_,_,_,_,_,_,_,rfl,s3.aB fP.arr λ r2 w4 s4=>s4.aC 0 rfl S'.arr.toList rfl (by simp[Se.arr,Value.oneCell']) λ w5 s5=>?_⟩;have s5:St w0 w5 (Sep [ai r2 S'.arr 34,held S'.In,ai r1 e.cells.toArray 71,ai b S.cells.toArray 86,B]):=s5
  by_cases h2:xu e.text=0
  ·obtain⟨eS,hS⟩:=hok h2;have ho:S.o.ok:=by
    unfold qx at h1
    by_cases g:S.o.ok
    ·exact g
    ·rw[if_neg g] at h1; cases h1
   have s6:=s5.quiet (Chg.drew w5 []);refine cF (by simpa using h2) ⟨_,_,_,_,_,_,_,_,_,_,_,_,s6.cellsIn (cs:=S'.arr) 0 rfl,_,_,_,_,s6.aN (vs:=S.o.cells) 3 0 rfl rfl,an (We (s6.aP 1 rfl) hS ho) ?_⟩;rintro v w7 ⟨g,C,eC,rfl,k7⟩;have s7:St w0 w7 (Sep (dR g C++[ai r2 S'.arr 34,held S'.In,ai r1 e.cells.toArray 71,ai b S.cells.toArray 86,B])):=St.cat (s6.and k7);refine⟨_,_,rfl,cF rfl ⟨_,_,_,_,_,_,_,_,_,_,_,_,s7.cellsIn (cs:=S'.arr) 6 rfl,?_⟩⟩;have hsz:S.cells.toArray.size=101:=cI h;refine s7.nX 9 5 rfl (vs:=S'.arr.toList) ({ S with s:=S' }:Sx).cells.toArray (by rw[hsz]; show 9<=101; decide) (by simp[Se.arr,Value.oneCell']) (Vm S S') λ w8 s8=>?_;have h1' : ({ S with s:=S' }:Sx).bd.length=8:=h;refine s8.aJ 9 rfl (j:=9) (by show 9<({ S with s:=S' }:Sx).cells.toArray.size; rw[cI h1']; decide) rfl λ w9 s9=>?_;rw[RW h1'] at s9;have h2' : ({ S with s:=S',k:=some ⟨g,0,none⟩ }:Sx).bd.length=8:=h;refine s9.aJ 9 rfl (j:=4) (by show 4<({ S with s:=S',k:=some ⟨g,0,none⟩ }:Sx).cells.toArray.size; rw[cI h2']; decide) rfl λ w10 s10=>?_;rw[GY h2'] at s10;refine⟨by rw[e1,h2],λ h=>absurd (e1.trans h2) h,λ _=>⟨S',g,C,eS,hS,ho,eC,?_⟩⟩;exact s10.ay [9,0,1,2,3,4,5,7,10]
  ·exact cT (by simpa using h2) ⟨by rw[e1],λ _=>s5.ay [3,4],λ h=>absurd (e1.symm.trans h) h2⟩
 ·exact cT (by simpa using h1) ⟨by rw[oE,if_pos h1],λ _=>s2.second,λ h=>absurd h (by rw[oE,if_pos h1]; exact h1)⟩
end
def eL(k:Int):FuncId:=if k=1 then 95 else if k=2 then 96 else if k=3\/k=4 then 97 else if k=5 then 98
 else if k=6 then 99 else if k=7 then 100 else if k=8 then 101 else 102
theorem FA(w:World)(b:Nat)(k:Int):CP 65 #[.pointer (some ⟨b,0,none⟩),iv k] w (λ r w'=>r=.func (.func (eL k)) #[] #[]/\w' = w):=by
 refine pg ?_;unfold ku
 by_cases h1:k=1
 ·exact cT (by simpa using h1) ⟨by rw[eL,if_pos h1],rfl⟩
 refine cF (by simpa using h1) ?_
 by_cases h2:k=2
 ·exact cT (by simpa using h2) ⟨by rw[eL,if_neg h1,if_pos h2],rfl⟩
 refine cF (by simpa using h2) ⟨λ b w1=>b=decide (k=3\/k=4)/\w1=w,?_,?_⟩
 ·rintro w1 _ ⟨rfl,rfl⟩ -
  by_cases h3:k=3\/k=4
  ·exact cT (dT h3) ⟨by rw[eL,if_neg h1,if_neg h2,if_pos h3],rfl⟩
  refine cF (dF h3) ?_
  by_cases h5:k=5
  ·exact cT (by simpa using h5) ⟨by rw[eL,if_neg h1,if_neg h2,if_neg h3,if_pos h5],rfl⟩
  refine cF (by simpa using h5) ?_
  by_cases h6:k=6
  ·exact cT (by simpa using h6) ⟨by rw[eL,if_neg h1,if_neg h2,if_neg h3,if_neg h5,if_pos h6],rfl⟩
  refine cF (by simpa using h6) ?_
  by_cases h7:k=7
  ·exact cT (by simpa using h7) ⟨by rw[eL,if_neg h1,if_neg h2,if_neg h3,if_neg h5,if_neg h6,if_pos h7],rfl⟩
  refine cF (by simpa using h7) ?_
  by_cases h8:k=8
  ·exact cT (by simpa using h8) ⟨by rw[eL,if_neg h1,if_neg h2,if_neg h3,if_neg h5,if_neg h6,if_neg h7,if_pos h8],rfl⟩
  ·exact cF (by simpa using h8) ⟨by rw[eL,if_neg h1,if_neg h2,if_neg h3,if_neg h5,if_neg h6,if_neg h7,if_neg h8],rfl⟩
 ·by_cases g3:k=3
  ·exact cT (by simpa using g3) ⟨by rw[dT (Or.inl g3)]; simpa using g3,rfl⟩
  ·refine cF (by simpa using g3) ⟨?_,rfl⟩
   by_cases g4:k=4
   ·rw[dT (Or.inr g4)]; simpa using g4
   ·rw[dF (by omega)]; simpa using g4
def L3:Br:=⟨[],0,0,0⟩
def bW(S:Sx)(C:Ck)(e:Ev):Int :=
 if e.kind=1 then oE S.o e.text
 else if e.kind=2 then kD C e.bidder.toNat (C.s.bd.getD e.bidder.toNat L3) e.want
 else if e.kind=3\/e.kind=4 then (if C.ov then 10 else 0)
 else if e.kind=5 then fL S.s C e.bidder.toNat (S.s.bd.getD e.bidder.toNat L3) e.text
 else if e.kind=6 then (if (S.bd.getD e.bidder.toNat dQ).has then 0 else 6)
 else if e.kind=7 then (if C.dp.getD e.bidder.toNat false then 10 else 0)
 else if e.kind=8 then (if cK C e.round then 4 else 0) else 0
def bu(S:Sx)(C:Ck)(e:Ev):Sx :=
 if e.kind=1 then { S with ph:=1,s:=xw e.text }
 else if e.kind=2 then S
 else if e.kind=3 then (if eu C then { S with ph:=2 } else S)
 else if e.kind=4 then { S with ph:=2 }
 else if e.kind=5 then tI S e.bidder.toNat (bJ S.s.ps e.text).1
 else if e.kind=6 then bB S e.bidder.toNat
 else if e.kind=7 then bB (iR S e.bidder.toNat) e.bidder.toNat
 else if e.kind=8 then { bZ S 8 with ph:=1 } else pZ S e
def bV(S:Sx)(C:Ck)(e:Ev):Ck :=
 if e.kind=1 then mH (xw e.text) S.o
 else if e.kind=2 then nt C e.bidder.toNat e.want
 else if e.kind=3 then fX C
 else if e.kind=4 then vZ C
 else if e.kind=7 then kV C e.bidder.toNat
 else if e.kind=8 then fF C e.round.toNat else C
theorem O0:∀ x:Xv,x.er.er=x.er:=Xv.ind λ x ih=>by
 rw[Xv.sY x,Xv.er]
 congr 1
 rw[List.map_map];exact List.map_congr_left λ y hy=>ih y hy
def Bd.er(y:Bd):Bd:={ y with x:=y.x.er }
def Sx.er(S:Sx):Sx:={ S with s:=S.s.er,k:=none,bd:=S.bd.map Bd.er }
theorem DB(y:Bd):y.er.er=y.er:=by show({ y with x:=y.x.er.er }:Bd)=_; rw[O0]; rfl
theorem gC(S:Sx):S.er.er=S.er:=by
 show({ S.er with bd:=(S.bd.map Bd.er).map Bd.er }:Sx)=_;rw[List.map_map,show(Bd.er ∘ Bd.er)=Bd.er from funext DB]; rfl
theorem O2:dQ.er=dQ:=by show({ dQ with x:=eH.er }:Bd)=_; rw[IU]; rfl
theorem uA(S:Sx)(n:Nat):S.er.bd.getD n dQ=(S.bd.getD n dQ).er:=by
 show(S.bd.map Bd.er).getD n dQ=_;rw[List.getD_eq_getElem?_getD,List.getD_eq_getElem?_getD,List.getElem?_map]
 cases S.bd[n]? with
 | none=>exact O2.symm
 | some y=>rfl
theorem tU{l:List Bd}{n:Nat}{y y' : Bd}(h:y.er=y'.er):((l.map Bd.er).set n y).map Bd.er=(l.set n y').map Bd.er:=by
 rw[List.map_set,List.map_set,List.map_map,h,show(Bd.er ∘ Bd.er)=Bd.er from funext DB]
theorem xC(S:Sx)(n:Nat):(bB S.er n).er=(bB S n).er:=by
 have:((S.bd.map Bd.er).set n (Jd (S.er.bd.getD n dQ))).map Bd.er=(S.bd.set n (Jd (S.bd.getD n dQ))).map Bd.er:=tU (by rw[uA]; rfl);show({ S.er with bd:=((S.bd.map Bd.er).set n (Jd (S.er.bd.getD n dQ))).map Bd.er }:Sx)=_;rw[this]; rfl
theorem NP(S:Sx)(n:Nat):(iR S.er n).er=(iR S n).er:=by
 have:((S.bd.map Bd.er).set n { S.er.bd.getD n dQ with out:=true }).map Bd.er=(S.bd.set n { S.bd.getD n dQ with out:=true }).map Bd.er:=tU (by rw[uA]; exact DB { S.bd.getD n dQ with out:=true });show({ S.er with bd:=((S.bd.map Bd.er).set n { S.er.bd.getD n dQ with out:=true }).map Bd.er }:Sx)=_;rw[this]; rfl
theorem GV{S S' : Sx}(h:S'.er=S.er)(n:Nat):(bB S' n).er=(bB S n).er:=by rw[<- xC S',h,xC]
theorem C9{S S' : Sx}(h:S'.er=S.er):∀ k,(bZ S' k).er=(bZ S k).er
 | 0=>h
 | k+1=>GV (C9 h k) k
theorem JR{S S' : Sx}(h:S'.er=S.er)(x:Int):({ S' with ph:=x }:Sx).er=({ S with ph:=x }:Sx).er:=by
 show({ S'.er with ph:=x }:Sx)={ S.er with ph:=x };rw[h]
theorem Pq(S:Sx)(n:Nat)(x:Xv):(tI S.er n x).er=(tI S n x).er:=by
 have:((S.bd.map Bd.er).set n { S.er.bd.getD n dQ with x:=x,has:=true }).map Bd.er=(S.bd.set n { S.bd.getD n dQ with x:=x,has:=true }).map Bd.er:=tU (by rw[uA]; rfl);show({ S.er with bd:=((S.bd.map Bd.er).set n { S.er.bd.getD n dQ with x:=x,has:=true }).map Bd.er }:Sx)=_;rw[this]; rfl
theorem Ty{S:Sx}{n:Nat}{x x' : Xv}(h:x.er=x'.er):(tI S n x).er=(tI S n x').er:=by
 have:(S.bd.set n { S.bd.getD n dQ with x:=x,has:=true }).map Bd.er=(S.bd.set n { S.bd.getD n dQ with x:=x',has:=true }).map Bd.er:=by
  rw[List.map_set,List.map_set]
  congr 1
  show({ S.bd.getD n dQ with x:=x.er,has:=true }:Bd)={ S.bd.getD n dQ with x:=x'.er,has:=true };rw[h]
 show({ S.er with bd:=(S.bd.set n { S.bd.getD n dQ with x:=x,has:=true }).map Bd.er }:Sx)=_;rw[this]; rfl
theorem uQ(S:Sx)(C:Ck)(e:Ev):bW S.er C.er e=bW S C e:=by
 have h1:(S.er.bd.getD e.bidder.toNat dQ).has=(S.bd.getD e.bidder.toNat dQ).has:=by rw[uA]; rfl
 unfold bW;rw[h1,Pn,Lv];show(if _ then _ else if _ then _ else if _ then _ else if _ then fL S.s.er C.er _ _ _ else _)=_;rw[NJ]; rfl
theorem uR(S:Sx)(C:Ck)(e:Ev):(bu S.er C.er e).er=(bu S C e).er:=by
 unfold bu;rw[JB]
 split
 ·show({ S.er.er with ph:=1,s:=(xw e.text).er }:Sx)={ S.er with ph:=1,s:=(xw e.text).er };rw[gC]
 ·split
  ·exact gC S
  ·split
   ·split
    ·exact JR (gC S) 2
    ·exact gC S
   ·split
    ·exact JR (gC S) 2
    ·split
     ·exact Pq S _ _
     ·split
      ·exact xC S _
      ·split
       ·exact GV (NP S _) _
       ·split
        ·exact JR (C9 (gC S) 8) 1
        ·unfold pZ
         split
         ·show({ S.er.er with ph:=4,dec:=e.digest }:Sx)={ S.er with ph:=4,dec:=e.digest };rw[gC]
         ·exact JR (gC S) 3
theorem uP(S:Sx)(C:Ck)(e:Ev):(bV S.er C.er e).er=(bV S C e).er:=by
 unfold bV
 split
 ·rfl
 ·split
  ·exact Pp C _ _
  ·split
   ·exact Mt C
   ·split
    ·exact RU C
    ·split
     ·exact My C _
     ·split
      ·exact N3 C _
      ·exact FF C
def IZ(S:Sx)(w:World):Prop:=S.s.In w/\∀ y∈S.bd,y.x.In w
structure rT (S:Sx) (C:Ck) (w:World):Prop where
 h:IZ S w
 k:∀ q,S.k=some q->∃ g,q=⟨g,0,none⟩/\C.Rd g w
structure lW (S:Sx) (C:Ck):Prop where
 b8:S.bd.length=8
 ph:0<=S.ph/\S.ph<=4
 z:S.ph=0->S.s.er=fP
 c:S.ph≠0->C.Inv
 cs:S.ph≠0->C.s.er=S.s.er
 so:S.ph≠0->S.s.Ok
 cnt:0<=S.cnt/\S.cnt<=600
 dig:0<=S.dig/\S.dig<18446744073709551616
 x:∀ y∈S.bd,y.has=true->fk y.x=0
def E3(S:Sx):Prop:=(S.ph=0->S.k=none)/\(S.ph≠0->∃ g,S.k=some ⟨g,0,none⟩)
theorem jQ{S S' : Se}(e:S'.er=S.er):S'.bd=S.bd:=show S'.er.bd=S.er.bd from congrArg Se.bd e
theorem RF{S S' : Se}(e:S'.er=S.er)(h:S.Ok):S'.Ok:=by
 have h2:S.er.Ok:=⟨h.ps,h.bd,h.cp,h.sa⟩;rw[<- e] at h2;exact⟨h2.ps,h2.bd,h2.cp,h2.sa⟩
theorem getD_at{α:Type}{l:List α}{n:Nat}{d:α}(h:n<l.length):l[n]?=some (l.getD n d):=by rw[List.getD_eq_getElem?_getD,gE h]; rfl
theorem rG{S:Sx}{n:Nat}{y:Bd}(h:y∈(bB S n).bd):y∈S.bd\/(y.x=eH/\y.has=false):=by
 rcases List.mem_or_eq_of_mem_set h with h|rfl
 ·exact .inl h
 ·exact .inr ⟨rfl,rfl⟩
theorem tV{S:Sx}{y:Bd}:∀ k,y∈(bZ S k).bd->y∈S.bd\/(y.x=eH/\y.has=false)
 | 0,h=>.inl h
 | k+1,h=>(rG h).elim (tV k) .inr
theorem JF{S:Sx}{n:Nat}{y:Bd}(h8:n<S.bd.length)(h:y∈(iR S n).bd):∃ z∈S.bd,y.x=z.x/\y.has=z.has:=by
 rcases List.mem_or_eq_of_mem_set h with h|rfl
 ·exact⟨y,h,rfl,rfl⟩
 ·exact⟨S.bd.getD n dQ,List.mem_of_getElem? (getD_at h8),rfl,rfl⟩
section
variable {w0 w:World} {b g:Nat} {S:Sx} {C:Ck} {B:aG}
theorem iW{Q:World->Prop}(s:St w0 w (Sep (cU b S g C++[held Q,B])))(hk:S.k=some ⟨g,0,none⟩)(hQ:∀ w,Q w->IZ S w):St w0 w (Sep [ai b S.cells.toArray 86,held (rT S C),B]):=by
 have s1:St w0 w (Sep (dR g C++[held Q,ai b S.cells.toArray 86,B])):=s.ay [1,2,3,4,5,6,7,0,8];have s2:St w0 w (Sep (Sep (dR g C) :: held Q :: [ai b S.cells.toArray 86,B])):=s1.split _;have s3:=s2.j4 (S:=rT S C) sV (aU Q) (λ w h1 h2=>⟨hQ w h2,λ q hq=>by rw[hk] at hq; cases hq; exact⟨g,rfl,h1⟩⟩);exact s3.ay [1,0,2]
def Th(w0:World)(b:Nat)(S:Sx)(C:Ck)(e:Ev)(Q:World->Prop)(B:aG):KP:=λ r w'=>r=iv (bW S C e) /\
 (bW S C e≠0->∃ X:Sx,X.bd.length=8/\St w0 w' (Sep [ai b X.cells.toArray 86,held Q,B])) /\
 (bW S C e=0->∃ (S' : Sx) (C' : Ck),S'.er=(bu S C e).er/\C'.er=(bV S C e).er/\(∃ g,S'.k=some ⟨g,0,none⟩)/\St w0 w' (Sep [ai b S'.cells.toArray 86,held (rT S' C'),B]))
theorem TQ{Q:World->Prop}(hQ:∀ w,Q w->IZ S w)(s:St w0 w (Sep [ai b S.cells.toArray 86,held Q,B]))(h8:S.bd.length=8){e:Ev}(he:e.Vx)(h1:e.kind=1) :
  Calls prog (eL e.kind) #[pt b,e.v] w (RetC (Th w0 b S C e Q B)):=by
 have eF:eL e.kind=95:=by rw[eL,if_pos h1]
 have eE:bW S C e=oE S.o e.text:=by rw[bW,if_pos h1]
 rw[eF];have s1:St w0 w (Sep [ai b S.cells.toArray 86,Sep [held Q,B]]):=s.eqv (bw.right (bw.unit _));refine an (RP s1 h8 (by have:=he.t; omega)) ?_;rintro v w1 ⟨rfl,k1,k2⟩;refine⟨_,rfl,by rw[eE],λ h=>⟨S,h8,?_⟩,λ h=>?_⟩
 ·have:=(k1 (by rw[<- eE]; exact h)).dG [_];exact this
 ·obtain⟨S',g,C',e1,hS,ho,e2,s2⟩:=k2 (by rw[<- eE]; exact h);let S2:Sx:={ S with ph:=1,s:=S',k:=some ⟨g,0,none⟩ };have s3:St w0 w1 (Sep (cU b S2 g C'++[held S'.In,held Q,B])):=s2.dG [_,_,_,_,_,_,_,_];have s4:=(s3.ay [7,8,0,1,2,3,4,5,6,9]).j4 (S:=IZ S2) (aU _) (aU _) (λ w h1 h2=>⟨h1,(hQ w h2).2⟩);have s5:St w0 w1 (Sep (cU b S2 g C'++[held (IZ S2),B])):=s4.ay [1,2,3,4,5,6,7,0,8];refine⟨S2,C',?_,?_,⟨g,rfl⟩,iW s5 rfl λ w h=>h⟩
  ·rw[bu,if_pos h1];show({ S.er with ph:=1,s:=S'.er }:Sx)={ S.er with ph:=1,s:=(xw e.text).er };rw[e1]
  ·rw[bV,if_pos h1,e2];have hb:=jQ e1;show({ s:=S'.er,o:=S.o,cl:=[],p:=kq S'.er.ps,ask:=List.replicate S'.bd.length z6,bd:=List.replicate S'.bd.length false,dp:=List.replicate S'.bd.length false,ov:=false,ka:=none,kc:=0,xa:=none,xc:=0,ya:=none,yc:=0,za:=none,zc:=0 }:Ck)=_;rw[hb,e1]; rfl
theorem TR{Q:World->Prop}(hQ:∀ w,Q w->IZ S w)(s:St w0 w (Sep (cU b S g C++[held Q,B])))(hok:lW S C)(h0:S.ph≠0)(hk:S.k=some ⟨g,0,none⟩){e:Ev}(he:e.Vx)(hp:eD e.kind S.ph=true)(hn:aX e.kind=true->e.bidder<S.s.bd.length) :
  Calls prog (eL e.kind) #[pt b,e.v] w (RetC (Th w0 b S C e Q B)):=by
 have h8:=hok.b8;have hC:=(hok.c h0).ok;have hS:=hok.so h0;have hcs:=jQ (hok.cs h0);have hb8:=hS.bd.l2;have n1:e.kind≠1:=λ h=>by
  rw[h] at hp;have:eD 1 S.ph=(S.ph==0):=by rw[eD,if_pos rfl]
  rw[this] at hp; exact h0 (by simpa using hp)
 have nE:St w0 w (Sep (cU b S g C++[Sep [held Q,B]])):=St.cat ((s.split (cU b S g C)).eqv (bw.right (bw.unit _)));have unf:∀ {w' : World} {S' : Sx} {C' : Ck},St w0 w' (Sep (cU b S' g C'++[Sep [held Q,B]]))->St w0 w' (Sep (cU b S' g C'++[held Q,B])):=λ s=>s.dG [_,_,_,_,_,_,_];have boxed:∀ {w' : World} {S' : Sx} {C' : Ck},St w0 w' (Sep (cU b S' g C'++[held Q,B]))->St w0 w' (Sep [ai b S'.cells.toArray 86,held Q,B]):=λ s=>s.ay [0,7,8];have hb:0<=e.bidder:=he.b.1;have eb:e.bidder=(e.bidder.toNat:Int):=(Int.toNat_of_nonneg hb).symm
 by_cases h2:e.kind=2
 ·have hnb:=hn (by rw[aX,dT (Or.inl h2)]);have eF:eL e.kind=96:=by rw[eL,if_neg n1,if_pos h2]
  have eE:bW S C e=kD C e.bidder.toNat (C.s.bd.getD e.bidder.toNat L3) e.want:=by rw[bW,if_neg n1,if_pos h2]
  have eS:bu S C e=S:=by rw[bu,if_neg n1,if_pos h2]
  have eC:bV S C e=nt C e.bidder.toNat e.want:=by rw[bV,if_neg n1,if_pos h2]
  rw[eF];refine an (C8 nE h8 hk hC eb (getD_at (d:=L3) (by rw[hcs]; omega))) ?_;rintro v w1 ⟨rfl,s1⟩;refine⟨_,rfl,by rw[eE],λ h=>⟨S,h8,boxed (unf s1)⟩,λ h=>?_⟩;rw[eE] at h;rw[if_pos h] at s1;exact⟨S,nt C e.bidder.toNat e.want,by rw[eS],by rw[eC],⟨g,hk⟩,iW (unf s1) hk hQ⟩
 by_cases h34:e.kind=3\/e.kind=4
 ·have eF:eL e.kind=97:=by rw[eL,if_neg n1,if_neg h2,if_pos h34]
  have eE:bW S C e=if C.ov then 10 else 0:=by rw[bW,if_neg n1,if_neg h2,if_pos h34]
  rw[eF];refine an (Oz nE h8 hk hC e) ?_;rintro v w1 ⟨x,S',C',rfl,h8',hk',hx,hov,s1⟩;refine⟨_,rfl,by rw[eE,hx],λ h=>⟨S',h8',boxed (unf s1)⟩,λ h=>?_⟩;have ho:C.ov=false:=by
   cases hv:C.ov with
   | false=>rfl
   | true=>rw[eE,hv] at h; cases h
  obtain⟨c1,c2⟩:=hov ho;refine⟨S',C',?_,?_,⟨g,hk'.trans hk⟩,iW (unf s1) (hk'.trans hk) λ w h=>?_⟩
  ·rw[bu,if_neg n1,if_neg h2,c2]
   by_cases h3:e.kind=3
   ·rw[if_pos h3,if_pos h3]
   ·rw[if_neg h3,if_neg h3,if_pos (h34.resolve_left h3)]; rfl
  ·rw[bV,if_neg n1,if_neg h2,c1]
   by_cases h3:e.kind=3
   ·rw[if_pos h3,if_pos h3]
   ·rw[if_neg h3,if_neg h3,if_pos (h34.resolve_left h3)]
  ·have:S'.s=S.s/\S'.bd=S.bd:=by
    rw[c2];constructor<;>(repeat' split)<;>rfl
   unfold IZ;rw[this.1,this.2]; exact hQ w h
 have n3:e.kind≠3:=λ h=>h34 (.inl h);have n4:e.kind≠4:=λ h=>h34 (.inr h)
 by_cases h5:e.kind=5
 ·have hnb:=hn (by rw[aX,dT (Or.inr (Or.inl h5))]);have eF:eL e.kind=98:=by rw[eL,if_neg n1,if_neg h2,if_neg h34,if_pos h5]
  have eE:bW S C e=fL S.s C e.bidder.toNat (S.s.bd.getD e.bidder.toNat L3) e.text:=by rw[bW,if_neg n1,if_neg h2,if_neg h34,if_pos h5]
  have eS:bu S C e=tI S e.bidder.toNat (bJ S.s.ps e.text).1:=by rw[bu,if_neg n1,if_neg h2,if_neg n3,if_neg n4,if_pos h5]
  have eC:bV S C e=C:=by rw[bV,if_neg n1,if_neg h2,if_neg n3,if_neg n4,if_neg (by omega),if_neg (by omega)]
  rw[eF];refine an (U1 (Q:=Q) (λ w h=>(hQ w h).1) s h8 hk hC hS eb (by rw[hcs]; omega) (getD_at (d:=L3) (by omega))) ?_;rintro v w1 ⟨rfl,k1,k2⟩;refine⟨_,rfl,by rw[eE],λ h=>⟨S,h8,boxed (k1 (by rw[<- eE]; exact h))⟩,λ h=>?_⟩;obtain⟨x,ex,s1⟩:=k2 (by rw[<- eE]; exact h);have s2:=(s1.ay [7,8,0,1,2,3,4,5,6,9]).j4 (S:=IZ (tI S e.bidder.toNat x)) (aU _) (aU _) (λ w h1 h2=>⟨(hQ w h1).1,λ y hy=>by
   rcases List.mem_or_eq_of_mem_set hy with hy|rfl
   ·exact(hQ w h1).2 y hy
   ·exact h2⟩)
  have s3:St w0 w1 (Sep (cU b (tI S e.bidder.toNat x) g C++[held (IZ (tI S e.bidder.toNat x)),B])):=s2.ay [1,2,3,4,5,6,7,0,8];refine⟨tI S e.bidder.toNat x,C,by rw[eS]; exact Ty (by rw[<- ex,O0]),by rw[eC],⟨g,hk⟩,iW s3 hk λ w h=>h⟩
 have dropQ:∀ {S' : Sx} {w:World},S'.s=S.s->(∀ y∈S'.bd,y∈S.bd\/(y.x=eH/\y.has=false))->Q w->IZ S' w:=λ e1 e2 h=>⟨by rw[e1]; exact(hQ _ h).1,λ y hy=>by
  rcases e2 y hy with h1|⟨h1,_⟩
  ·exact(hQ _ h).2 y h1
  ·rw[h1]; exact He _⟩
 have s' : St w0 w (Sep (ai b S.cells.toArray 86 :: (dR g C++[held Q,B]))):=s
 by_cases h6:e.kind=6
 ·have hnb:=hn (by rw[aX,dT (Or.inr (Or.inr (Or.inl h6)))]);have eF:eL e.kind=99:=by rw[eL,if_neg n1,if_neg h2,if_neg h34,if_neg h5,if_pos h6]
  have eE:bW S C e=if (S.bd.getD e.bidder.toNat dQ).has then 0 else 6:=by rw[bW,if_neg n1,if_neg h2,if_neg h34,if_neg h5,if_pos h6]
  have eS:bu S C e=bB S e.bidder.toNat:=by rw[bu,if_neg n1,if_neg h2,if_neg n3,if_neg n4,if_neg h5,if_pos h6]
  have eC:bV S C e=C:=by rw[bV,if_neg n1,if_neg h2,if_neg n3,if_neg n4,if_neg (by omega),if_neg (by omega)]
  rw[eF];refine an (IP s' h8 (by omega) eb) ?_;rintro v w1 (⟨hh,rfl,s1⟩|⟨hh,rfl,s1⟩)
  ·exact⟨_,rfl,by rw[eE,hh]; rfl,λ _=>⟨S,h8,boxed s1⟩,λ h=>by rw[eE,hh] at h; cases h⟩
  ·refine⟨_,rfl,by rw[eE,hh]; rfl,λ h=>absurd (by rw[eE,hh]; rfl) h,λ _=>⟨bB S e.bidder.toNat,C,by rw[eS],by rw[eC],⟨g,hk⟩,iW (show St w0 w1 (Sep (cU b (bB S e.bidder.toNat) g C++[held Q,B])) from s1) hk λ w h=>dropQ rfl (λ y hy=>rG hy) h⟩⟩
 by_cases h7:e.kind=7
 ·have hnb:=hn (by rw[aX,dT (Or.inr (Or.inr (Or.inr h7)))]);have eF:eL e.kind=100:=by rw[eL,if_neg n1,if_neg h2,if_neg h34,if_neg h5,if_neg h6,if_pos h7]
  have eE:bW S C e=if C.dp.getD e.bidder.toNat false then 10 else 0:=by rw[bW,if_neg n1,if_neg h2,if_neg h34,if_neg h5,if_neg h6,if_pos h7]
  have eS:bu S C e=bB (iR S e.bidder.toNat) e.bidder.toNat:=by rw[bu,if_neg n1,if_neg h2,if_neg n3,if_neg n4,if_neg h5,if_neg h6,if_pos h7]
  have eC:bV S C e=kV C e.bidder.toNat:=by rw[bV,if_neg n1,if_neg h2,if_neg n3,if_neg n4,if_pos h7]
  have hgd:∀ {v:Bool},C.dp[e.bidder.toNat]?=some v->C.dp.getD e.bidder.toNat false=v:=λ h=>by rw[List.getD_eq_getElem?_getD,h]; rfl
  rw[eF];refine an (RE nE h8 hk hC eb (by rw[hcs]; omega)) ?_;have hq:∀ w,Q w->IZ (bB (iR S e.bidder.toNat) e.bidder.toNat) w:=λ w h=>⟨(hQ w h).1,λ y hy=>by
   rcases rG hy with h1|⟨h1,_⟩
   ·obtain⟨z,hz,e1,_⟩:=JF (by omega) h1;rw[e1]; exact(hQ w h).2 z hz
   ·rw[h1]; exact He _⟩
  rintro v w1 (⟨hd,rfl,s1⟩|⟨hd,rfl,s1⟩)
  ·exact⟨_,rfl,by rw[eE,hgd hd]; rfl,λ _=>⟨_,by simp[bB,iR,h8],boxed (unf s1)⟩,λ h=>by rw[eE,hgd hd] at h; cases h⟩
  ·exact⟨_,rfl,by rw[eE,hgd hd]; rfl,λ h=>absurd (by rw[eE,hgd hd]; rfl) h,λ _=>⟨bB (iR S e.bidder.toNat) e.bidder.toNat,_,by rw[eS],by rw[eC],⟨g,hk⟩,iW (unf s1) hk hq⟩⟩
 by_cases h8' : e.kind=8
 ·have eF:eL e.kind=101:=by rw[eL,if_neg n1,if_neg h2,if_neg h34,if_neg h5,if_neg h6,if_neg h7,if_pos h8']
  have eE:bW S C e=if cK C e.round then 4 else 0:=by rw[bW,if_neg n1,if_neg h2,if_neg h34,if_neg h5,if_neg h6,if_neg h7,if_pos h8']
  have eS:bu S C e={ bZ S 8 with ph:=1 }:=by rw[bu,if_neg n1,if_neg h2,if_neg n3,if_neg n4,if_neg h5,if_neg h6,if_neg h7,if_pos h8']
  have eC:bV S C e=fF C e.round.toNat:=by rw[bV,if_neg n1,if_neg h2,if_neg n3,if_neg n4,if_neg h7,if_pos h8']
  have hsk:∀ k,(bZ S k).k=S.k/\(bZ S k).s=S.s:=λ k=>by
   induction k with
   | zero=>exact⟨rfl,rfl⟩
   | succ k ih=>exact ih
  rw[eF];refine an (Oy nE h8 hk hC e) ?_;rintro v w1 (⟨hd,rfl,s1⟩|⟨hd,rfl,C',eC',s1⟩)
  ·exact⟨_,rfl,by rw[eE,hd]; rfl,λ _=>⟨S,h8,boxed (unf s1)⟩,λ h=>by rw[eE,hd] at h; cases h⟩
  ·exact⟨_,rfl,by rw[eE,hd]; rfl,λ h=>absurd (by rw[eE,hd]; rfl) h,λ _=>⟨{ bZ S 8 with ph:=1 },C',by rw[eS],by rw[eC,eC'],⟨g,(hsk 8).1.trans hk⟩,iW (unf s1) ((hsk 8).1.trans hk) λ w h=>dropQ (hsk 8).2 (λ y hy=>tV 8 hy) h⟩⟩
 ·have eF:eL e.kind=102:=by rw[eL,if_neg n1,if_neg h2,if_neg h34,if_neg h5,if_neg h6,if_neg h7,if_neg h8']
  have eE:bW S C e=0:=by rw[bW,if_neg n1,if_neg h2,if_neg h34,if_neg h5,if_neg h6,if_neg h7,if_neg h8']
  have eS:bu S C e=pZ S e:=by rw[bu,if_neg n1,if_neg h2,if_neg n3,if_neg n4,if_neg h5,if_neg h6,if_neg h7,if_neg h8']
  have eC:bV S C e=C:=by rw[bV,if_neg n1,if_neg h2,if_neg n3,if_neg n4,if_neg h7,if_neg h8']
  have hf:(pZ S e).k=S.k/\(pZ S e).s=S.s/\(pZ S e).bd=S.bd:=by unfold pZ; split<;>exact⟨rfl,rfl,rfl⟩
  rw[eF];refine an (MO s' h8 e) ?_;rintro v w1 ⟨rfl,s1⟩;exact⟨_,rfl,by rw[eE],λ h=>absurd eE h,λ _=>⟨pZ S e,C,by rw[eS],by rw[eC],⟨g,hf.1.trans hk⟩,iW (show St w0 w1 (Sep (cU b (pZ S e) g C++[held Q,B])) from s1) (hf.1.trans hk) λ w h=>dropQ hf.2.1 (λ y hy=>.inl (by rw[hf.2.2] at hy; exact hy)) h⟩⟩
def BS:Option Addr->Ck->aG
 | none,_=>emp
 | some q,C=>Sep (dR q.block C)
theorem SY{k:Int}(h1:1<=k)(h:eD k 0=true):k=1:=by
 by_cases g:k=1
 ·exact g
 ·unfold eD at h;rw[if_neg g] at h
  repeat' split at h
  all_goals first|(revert h; decide)|cases h
theorem TS{Q:World->Prop}(hQ:∀ w,Q w->IZ S w)(s:St w0 w (Sep [ai b S.cells.toArray 86,BS S.k C,held Q,B]))(hok:lW S C)(hk:E3 S){e:Ev}(he:e.Vx)(h1:1<=e.kind)(hp:eD e.kind S.ph=true)(hn:aX e.kind=true->e.bidder<S.s.bd.length) :
  Calls prog (eL e.kind) #[pt b,e.v] w (RetC (Th w0 b S C e Q B)):=by
 by_cases h0:S.ph=0
 ·have e1:=hk.1 h0;rw[e1] at s;rw[h0] at hp;exact TQ hQ (s.ay [0,2,3]) hok.b8 he (SY h1 hp)
 ·obtain⟨g,hg⟩:=hk.2 h0;rw[hg] at s;have s1:St w0 w (Sep (Sep (dR g C) :: [ai b S.cells.toArray 86,held Q,B])):=s.ay [1,0,2,3];have s2:St w0 w (Sep (dR g C++[ai b S.cells.toArray 86,held Q,B])):=St.cat s1;exact TR hQ (s2.ay [6,0,1,2,3,4,5,7,8]) hok h0 hg he hp hn
theorem zC(hS:rT S C w)(hok:lW S C)(hk:E3 S):CP 49 #[.pointer S.k] w (λ r w'=>∃ (p:OA) (C' : Ck),r=.pointer p/\C'.er=C.er/\E3 { S with k:=p }/\St w w' (BS p C')):=by
 by_cases h0:S.ph=0
 ·rw[hk.1 h0];refine an (K:=λ r w'=>r=.pointer none/\w' = w) (pO ⟨rfl,rfl⟩) ?_;rintro v w1 ⟨rfl,rfl⟩;exact⟨_,rfl,none,C,rfl,rfl,⟨λ _=>rfl,λ h=>absurd h0 h⟩,St.start w1⟩
 ·obtain⟨g,hg⟩:=hk.2 h0;obtain⟨g',e,hrd⟩:=hS.k _ hg
  cases e
  rw[hg];refine an (Mv hrd (hok.c h0).ok) ?_;rintro v w1 ⟨g2,C',eC,rfl,k1⟩;exact⟨_,rfl,some ⟨g2,0,none⟩,C',rfl,eC,⟨λ h=>absurd h h0,λ _=>⟨g2,rfl⟩⟩,k1⟩
end
theorem EO{S:Sx}{b0 b1 b2 b3 b4 b5 b6 b7:Bd}(h:S.bd=[b0,b1,b2,b3,b4,b5,b6,b7]):S.cells=(iv S.o.step :: (iv S.o.pct :: (iv S.o.und :: (iv S.o.rule :: (iv S.ph :: (.slice S.s.a1 S.s.ps.length S.s.c1 :: (.slice S.s.a2 S.s.bd.length S.s.c2 :: (.slice S.s.a3 S.s.cp.length S.s.c3 :: (.slice S.s.a4 S.s.sa.length S.s.c4 :: (.pointer S.k :: (iv b0.x.op :: (b0.x.u.on (iv b0.x.v :: (.slice b0.x.a b0.x.args.length b0.x.c :: (.bool b0.has :: (.bool b0.out :: (iv b1.x.op :: (b1.x.u.on (iv b1.x.v :: (.slice b1.x.a b1.x.args.length b1.x.c :: (.bool b1.has :: (.bool b1.out :: (iv b2.x.op :: (b2.x.u.on (iv b2.x.v :: (.slice b2.x.a b2.x.args.length b2.x.c :: (.bool b2.has :: (.bool b2.out :: (iv b3.x.op :: (b3.x.u.on (iv b3.x.v :: (.slice b3.x.a b3.x.args.length b3.x.c :: (.bool b3.has :: (.bool b3.out :: (iv b4.x.op :: (b4.x.u.on (iv b4.x.v :: (.slice b4.x.a b4.x.args.length b4.x.c :: (.bool b4.has :: (.bool b4.out :: (iv b5.x.op :: (b5.x.u.on (iv b5.x.v :: (.slice b5.x.a b5.x.args.length b5.x.c :: (.bool b5.has :: (.bool b5.out :: (iv b6.x.op :: (b6.x.u.on (iv b6.x.v :: (.slice b6.x.a b6.x.args.length b6.x.c :: (.bool b6.has :: (.bool b6.out :: (iv b7.x.op :: (b7.x.u.on (iv b7.x.v :: (.slice b7.x.a b7.x.args.length b7.x.c :: (.bool b7.has :: (.bool b7.out :: [.int .u64 S.dec,iv S.cnt,.int .u64 S.dig])))))))))))))))))))))))))))))))))))))))))))))))))))))))))):=by
 rw[Sx.cells,h]; rfl
theorem As(k:Int):bR prog (eL k)=true:=by
 unfold eL
 repeat' split
 all_goals kernel_rfl
theorem DT{e:Ev}(h:dY e=0):1<=e.kind:=by
 unfold dY at h
 split at h
 ·cases h
 ·rename_i g
  by_cases h1:1<=e.kind
  ·exact h1
  ·exact absurd (Or.inl λ h=>h1 h.1) g
def iZ(S:Sx)(e:Ev):Int :=
 if dY e≠0 then dY e else if 600<=S.cnt then 18 else if eD e.kind S.ph=false then 10
 else if aX e.kind=true/\(S.s.bd.length:Int)<=e.bidder then 6 else if aX e.kind=true/\(S.bd.getD e.bidder.toNat dQ).out=true then 10 else 0
def xO(S:Sx)(C:Ck)(e:Ev):Int:=if iZ S e≠0 then iZ S e else bW S C e
def Kv(S:Sx)(C:Ck)(e:Ev):Sx:={ bu S C e with cnt:=S.cnt+1,dig:=((gY S.dig.toNat (cJ e):Nat):Int) }
abbrev Tt (S:Sx) (C:Ck) (e:Ev):Ck:=bV S C e
theorem Bt(S:Sx):∀ k,(bZ S k).cnt=S.cnt/\(bZ S k).dig=S.dig
 | 0=>⟨rfl,rfl⟩
 | k+1=>Bt S k
theorem Fy(S:Sx)(C:Ck)(e:Ev):(bu S C e).cnt=S.cnt/\(bu S C e).dig=S.dig:=by
 unfold bu
 split
 ·exact⟨rfl,rfl⟩
 split
 ·exact⟨rfl,rfl⟩
 split
 ·split<;>exact⟨rfl,rfl⟩
 split
 ·exact⟨rfl,rfl⟩
 split
 ·exact⟨rfl,rfl⟩
 split
 ·exact⟨rfl,rfl⟩
 split
 ·exact⟨rfl,rfl⟩
 split
 ·have h:=Bt S 8;generalize bZ S 8=X at h;exact h
 ·unfold pZ
  split<;>exact⟨rfl,rfl⟩
theorem yx{S:Sx}(h:S.bd.length=8):∀ k,(bZ S k).bd.length=8
 | 0=>h
 | k+1=>by rw[bZ,bB,List.length_set]; exact yx h k
theorem Fz{S:Sx}(h:S.bd.length=8)(C:Ck)(e:Ev):(bu S C e).bd.length=8:=by
 unfold bu
 split
 ·exact h
 split
 ·exact h
 split
 ·split<;>exact h
 split
 ·exact h
 split
 ·rw[tI,List.length_set]; exact h
 split
 ·rw[bB,List.length_set]; exact h
 split
 ·rw[bB,List.length_set,iR,List.length_set]; exact h
 split
 ·exact yx h 8
 ·unfold pZ
  split<;>exact h
theorem Cw{e:Ev}(h:dY e=0):(cJ e).length<=4000:=by
 unfold dY at h
 split at h
 ·cases h
 ·split at h
  ·cases h
  ·split at h
   ·cases h
   ·rename_i g; omega
theorem S6{S:Sx}(h:S.bd.length=8)(x:Int):S.cells.toArray.setIfInBounds 99 (iv x)=({ S with cnt:=x }:Sx).cells.toArray:=by
 obtain⟨o,ph,s,k,bd,dec,cnt,dig⟩:=S;obtain⟨b0,b1,b2,b3,b4,b5,b6,b7,rfl⟩:=bM h;rfl
theorem S7{S:Sx}(h:S.bd.length=8)(x:Int):S.cells.toArray.setIfInBounds 100 (.int .u64 x)=({ S with dig:=x }:Sx).cells.toArray:=by
 obtain⟨o,ph,s,k,bd,dec,cnt,dig⟩:=S;obtain⟨b0,b1,b2,b3,b4,b5,b6,b7,rfl⟩:=bM h;rfl
theorem EP{S:Sx}(h:S.bd.length=8):S.cells.toArray[99]?=some (iv S.cnt):=by
 obtain⟨o,ph,s,k,bd,dec,cnt,dig⟩:=S;obtain⟨b0,b1,b2,b3,b4,b5,b6,b7,rfl⟩:=bM h;rfl
theorem Ke{S:Sx}(h:S.bd.length=8):S.cells.toArray[100]?=some (.int .u64 S.dig):=by
 obtain⟨o,ph,s,k,bd,dec,cnt,dig⟩:=S;obtain⟨b0,b1,b2,b3,b4,b5,b6,b7,rfl⟩:=bM h;rfl
theorem OH{S:Sx}(h:S.bd.length=8){i:Nat}(hi:i<8){y:Bd}(hy:S.bd[i]?=some y):S.cells.toArray[10+i*11+10]?=some (.bool y.out):=by
 obtain⟨o,ph,s,k,bd,dec,cnt,dig⟩:=S;obtain⟨b0,b1,b2,b3,b4,b5,b6,b7,rfl⟩:=bM h
 match i,hi with
 | 0,_|1,_|2,_|3,_|4,_|5,_|6,_|7,_=>cases hy; rfl
theorem ER(S:Sx):∀ v∈S.cells,v.oneCell' = true:=by
 intro v hv;simp only[Sx.cells,Po.cells,Se.arr,List.mem_append,List.mem_cons,List.mem_nil_iff,or_false,List.mem_flatMap,Bd.cells] at hv;rcases hv with(rfl|rfl|rfl|rfl)|rfl|(rfl|rfl|rfl|rfl)|rfl|(⟨y,_,h|rfl|rfl⟩)|rfl|rfl|rfl
 all_goals first|rfl|exact Xv.one _ _ h
section
variable {w0 w:World} {b:Nat} {S:Sx} {C:Ck} {B:aG}
theorem rL{r1 r3 r4:Nat}{x:Int}{X:Sx}{L:List aG}(s:St w0 w (Sep (ai r4 S.cells.toArray 86 :: ai r3 #[iv x] 45 :: ai r1 #[pt b] 27 :: ai b X.cells.toArray 86 :: L)))(h8:S.bd.length=8)(hX:X.bd.length=8){R:World->Prop}(k0:x=0->R w)(k1:x≠0->∀ w',St w0 w' (Sep (ai r4 S.cells.toArray 86 :: ai r3 #[iv x] 45 :: ai r1 #[pt b] 27 :: ai b S.cells.toArray 86 :: L))->R w') :
  Ho prog 64 #[pt r3,pt r4,pt r1] w R:=by
 obtain⟨b0,b1,b2,b3,b4,b5,b6,b7,hb⟩:=bM h8;refine nY ?_;unfold jx;refine⟨_,s.ag 1 rfl 0,?_⟩
 by_cases h0:x=0
 ·exact cF (by simpa using h0) ⟨rfl,k0 h0⟩
 ·have hcl:af w ⟨r4,0,none⟩ 0 S.cells:=s.cellsIn 0 rfl;have hlen:S.cells.length=101:=Sx.len h8;have hone:=ER S;have e1:=EO hb;rw[e1] at hcl hlen hone;refine cT (by simpa using h0) ⟨_,s.ag 2 rfl 0,_,_,_,_,_,_,_,_,_,_,_,_,_,_,_,_,_,_,_,b0.x.u,_,_,_,_,_,_,_,b1.x.u,_,_,_,_,_,_,_,b2.x.u,_,_,_,_,_,_,_,b3.x.u,_,_,_,_,_,_,_,b4.x.u,_,_,_,_,_,_,_,b5.x.u,_,_,_,_,_,_,_,b6.x.u,_,_,_,_,_,_,_,b7.x.u,_,_,_,_,_,_,_,_,_,hcl,aq rfl (s.aC 3 rfl _ ?_ hone λ w1 s1=>⟨rfl,k1 h0 w1 ?_⟩)⟩
  ·rw[hlen,cI hX]
  ·rw[<- e1] at s1; exact s1
def Yf(w0:World)(b:Nat)(S:Sx)(C:Ck)(e:Ev)(B:aG):KP:=λ r w'=>r=iv (xO S C e) /\
 (xO S C e≠0->St w0 w' (Sep [ai b S.cells.toArray 86,held (rT S C),B])) /\
 (xO S C e=0->∃ (S' : Sx) (C' : Ck),S'.er=(Kv S C e).er/\C'.er=(Tt S C e).er/\(∃ g,S'.k=some ⟨g,0,none⟩)/\St w0 w' (Sep [ai b S'.cells.toArray 86,held (rT S' C'),B]))
theorem Ph(s:St w0 w (Sep [ai b S.cells.toArray 86,held (rT S C),B]))(hok:lW S C)(hk:E3 S){e:Ev}(hi:e.In) :
  CP 31 #[pt b,e.v] w ((Yf w0 b S C e B)):=by
 have h8:=hok.b8;obtain⟨b0,b1,b2,b3,b4,b5,b6,b7,hb⟩:=bM h8;refine iX (u1:=e.want) ?_;unfold gA;refine s.aB #[pt b] λ r1 w1 s1=>s1.aB e.cells.toArray λ r2 w2 s2=>s2.aB #[iv 0] λ r3 w3 s3=>?_;let M:Int->List aG:=λ x=>[ai r3 #[iv x] 45,ai r2 e.cells.toArray 71,ai r1 #[pt b] 27,ai b S.cells.toArray 86,held (rT S C),B];have s3:St w0 w3 (Sep (M 0)):=s3;have fin:∀ {x:Int} {w' : World},x≠0->iZ S e=x->St w0 w' (Sep (M 0))->aQ w' ⟨r3,0,none⟩ (iv x) λ w6=>∃ n:Int,w6.cell? ⟨r3,0,none⟩=some (iv n)/\Yf w0 b S C e B (iv n) w6:=λ {x w'} hx hs s =>
  s.aJ 0 rfl (by show 0<1; decide) rfl λ w6 s6=>⟨_,s6.ag 0 rfl 0,by
   have:xO S C e=x:=by rw[xO,if_pos (by rw[hs]; exact hx),hs]
   exact⟨by rw[this],λ _=>s6.ay [3,4,5],λ h=>absurd (this.symm.trans h) hx⟩⟩
 refine⟨_,s3.ag 2 rfl 0,cF rfl ⟨_,_,_,e.want,_,_,s3.cellsIn 1 rfl,an (wP w3 hi) ?_⟩⟩;rintro v w5 ⟨rfl,c5⟩;have s5:=s3.quiet c5;refine⟨_,rfl,?_⟩
 by_cases he : ¬ dY e=0
 ·exact cT (by simpa using he) (fin he (by rw[iZ,if_pos he]) s5)
 have he:dY e=0:=by simpa using he
 have hR:=rB he hi.d;have hR1:1<=e.kind:=DT he;have e1:iZ S e=if 600<=S.cnt then 18 else if eD e.kind S.ph=false then 10 else if aX e.kind=true/\(S.s.bd.length:Int)<=e.bidder then 6 else if aX e.kind=true/\(S.bd.getD e.bidder.toNat dQ).out=true then 10 else 0:=by rw[iZ,if_neg (λ h=>h he)]
 have c99:∀ {w' : World} {l:List aG} {i:Nat},St w0 w' (Sep l)->l[i]?=some (ai b S.cells.toArray 86)->w'.cell? ⟨b,99,none⟩=some (iv S.cnt):=λ s e=>by rw[s.ag _ e]; exact EP h8
 refine cF (by simpa using he) ⟨_,s5.ag 2 rfl 0,aq rfl ⟨_,c99 s5 (i:=3) rfl,?_⟩⟩
 by_cases h600:600<=S.cnt
 ·exact cT (dT h600) (fin (by decide) (by rw[e1,if_pos h600]) s5)
 rw[if_neg h600] at e1;have s6:=s5.quiet (Chg.drew w5 []);refine cF (dF h600) ⟨_,s6.ag 1 rfl 0,_,s6.ag 2 rfl 0,aq rfl ⟨_,(s6.ag 3 rfl 4).trans rfl,an (Be _ _ _) ?_⟩⟩;rintro v w8 ⟨rfl,rfl⟩;refine⟨_,rfl,?_⟩
 cases hp:eD e.kind S.ph with
 | false=>exact cT rfl (fin (by decide) (by rw[e1,if_pos hp]) s6)
 | true =>
 rw[if_neg (by rw[hp]; decide)] at e1;refine cF rfl ⟨λ bb w10=>bb=decide (aX e.kind=true/\(S.s.bd.length:Int)<=e.bidder)/\St w0 w10 (Sep (M 0)),?_,?_⟩
 rotate_left
 ·have s7:=s6.quiet (Chg.drew w5.drew []);refine⟨_,s7.ag 1 rfl 0,an (zK _ _) ?_⟩;rintro v w30 ⟨rfl,rfl⟩;refine⟨_,rfl,?_⟩
  cases hn:aX e.kind with
  | true =>
   refine cT rfl ⟨_,s7.ag 1 rfl 1,_,s7.ag 2 rfl 0,aq rfl ⟨_,_,_,(s7.ag 3 rfl 6).trans rfl,?_,s7⟩⟩
   by_cases hl:e.bidder>=(S.s.bd.length:Int)
   ·rw[dT hl,dT ⟨rfl,hl⟩]
   ·rw[dF hl,dF λ h=>hl h.2]
  | false=>exact cF rfl ⟨by rw[dF λ h=>by cases h.1],s7⟩
 rintro w10 bb ⟨rfl,s10⟩ x1
 by_cases hq:aX e.kind=true/\(S.s.bd.length:Int)<=e.bidder
 ·exact cT (dT hq) (fin (by decide) (by rw[e1,if_pos hq]) s10)
 rw[if_neg hq] at e1;have hnb:aX e.kind=true->e.bidder<S.s.bd.length:=λ h=>by
  rcases Int.lt_or_le e.bidder S.s.bd.length with h1|h1
  ·exact h1
  ·exact absurd ⟨h,h1⟩ hq
 refine cF (dF hq) ⟨λ bb w12=>bb=decide (aX e.kind=true/\(S.bd.getD e.bidder.toNat dQ).out=true)/\St w0 w12 (Sep (M 0)),?_,?_⟩
 rotate_left
 ·have s11:=s10.quiet (Chg.drew w10 []);refine⟨_,s11.ag 1 rfl 0,an (zK _ _) ?_⟩;rintro v w29 ⟨rfl,rfl⟩;refine⟨_,rfl,?_⟩
  cases hn:aX e.kind with
  | true =>
   have hb8:0<=e.bidder/\e.bidder<8:=hR.b;have eb:e.bidder=(e.bidder.toNat:Int):=(Int.toNat_of_nonneg hb8.1).symm;have co:w10.drew.cell? (Addr.add (Addr.add (Addr.add ⟨b,0,none⟩ 10) ((e.bidder).toNat*11)) 10)=some (.bool (S.bd.getD e.bidder.toNat dQ).out):=by
    rw[bq,bq,bq,s11.ag 3 rfl];rw[show 0+10+e.bidder.toNat*11+10=10+e.bidder.toNat*11+10 by omega];exact OH h8 (by omega) (getD_at (by omega))
   refine cT rfl ⟨_,s11.ag 2 rfl 0,_,s11.ag 1 rfl 1,aq rfl ⟨hb8.1,by omega,_,co,?_,s11⟩⟩
   cases ho:(S.bd.getD e.bidder.toNat dQ).out with
   | true=>rw[dT ⟨rfl,rfl⟩]
   | false=>rw[dF λ h=>by cases h.2]
  | false=>exact cF rfl ⟨by rw[dF λ h=>by cases h.1],s11⟩
 rintro w12 bb ⟨rfl,s12⟩ x2
 by_cases ho:aX e.kind=true/\(S.bd.getD e.bidder.toNat dQ).out=true
 ·exact cT (dT ho) (fin (by decide) (by rw[e1,if_pos ho]) s12)
 rw[if_neg ho] at e1;have eA:xO S C e=bW S C e:=by rw[xO,if_neg (λ h=>h e1)]
 have hcl:af w12 ⟨b,0,none⟩ 0 S.cells:=s12.cellsIn 3 rfl;have hlen:S.cells.length=101:=Sx.len h8;have hone:=ER S;have eS:=EO hb;rw[eS] at hcl hlen hone;refine cF (dF ho) ⟨_,s12.ag 2 rfl 0,aq rfl ⟨_,_,_,_,_,_,_,_,_,_,_,_,_,_,_,_,_,_,_,b0.x.u,_,_,_,_,_,_,_,b1.x.u,_,_,_,_,_,_,_,b2.x.u,_,_,_,_,_,_,_,b3.x.u,_,_,_,_,_,_,_,b4.x.u,_,_,_,_,_,_,_,b5.x.u,_,_,_,_,_,_,_,b6.x.u,_,_,_,_,_,_,_,b7.x.u,_,_,_,_,_,_,_,_,_,hcl,s12.aB (ql ⟨0,0,0,0⟩).cells.toArray λ r4 w14 s14=>s14.aC 0 rfl _ (by rw[hlen]; rfl) hone λ w15 s15=>?_⟩⟩;rw[<- eS] at s15;have s16:=s15.quiet (Chg.drew w15 []);have s16:St w0 w15.drew (Sep (ai r4 S.cells.toArray 86 :: M 0)):=s16;refine⟨_,s16.ag 3 rfl 0,_,s16.ag 3 rfl 0,aq rfl ⟨S.k,by rw[bq,s16.ag 4 rfl]; exact jb h8,?_⟩⟩;refine an (zC (s16.aP 5 rfl) hok hk) ?_;rintro v w16 ⟨p,C1,rfl,eC1,hk1,k16⟩;let S1:Sx:={ S with k:=p };have e1S:S1.er=S.er:=rfl;have hok1:lW S1 C1:=⟨h8,hok.ph,hok.z,λ h=>(hok.c h).er eC1,λ h=>(show C1.er.s=C.er.s from congrArg Ck.s eC1).trans (hok.cs h),hok.so,hok.cnt,hok.dig,hok.x⟩;have s17:St w0 w16 (Sep (BS p C1 :: ai r4 S.cells.toArray 86 :: M 0)):=s16.and k16;refine⟨_,rfl,s17.ag 4 rfl 0,aq rfl ?_⟩;rw[bq];refine s17.aJ 5 rfl (j:=0+9) (by show 0+9<S.cells.toArray.size; rw[cI h8]; decide) rfl λ w17 s18=>?_;rw[show 0+9=9 from rfl,RW h8] at s18;refine⟨_,s18.ag 4 rfl 0,_,s18.ag 3 rfl 0,an (FA w17 b e.kind) ?_⟩;rintro v w18 ⟨rfl,rfl⟩;refine⟨_,rfl,_,s18.ag 4 rfl 0,_,_,_,e.want,_,_,s18.cellsIn 3 rfl,br (As e.kind) ?_⟩;have s19:St w0 w18 (Sep [ai b S1.cells.toArray 86,BS S1.k C1,held (rT S C),Sep [ai r4 S.cells.toArray 86,ai r3 #[iv 0] 45,ai r2 e.cells.toArray 71,ai r1 #[pt b] 27,B]]) :=
  St.cat (((s18.ay [5,0,6,1,2,3,4,7]).split [_,_,_]).eqv (bw.right (bw.unit _)))
 refine an (TS (S:=S1) (λ w h=>(show IZ S1 w from h.h)) s19 hok1 hk1 hR hR1 hp hnb) ?_;rintro v w19 ⟨rfl,k1,k2⟩;have eE1:bW S1 C1 e=bW S C e:=by rw[<- uQ S1 C1,eC1,e1S,uQ]
 have eS1:(bu S1 C1 e).er=(bu S C e).er:=by rw[<- uR S1 C1,eC1,e1S,uR]
 have eC2:(bV S1 C1 e).er=(bV S C e).er:=by rw[<- uP S1 C1,eC1,e1S,uP]
 rw[eE1] at k1 k2 ⊢
 by_cases h0:bW S C e=0
 ·obtain⟨S',C',eS',eC',⟨g,hg⟩,s20⟩:=k2 h0;have s20:St w0 w19 (Sep ([ai b S'.cells.toArray 86,held (rT S' C')]++[ai r4 S.cells.toArray 86,ai r3 #[iv 0] 45,ai r2 e.cells.toArray 71,ai r1 #[pt b] 27,B])):=s20.dG [_,_];have eS3:=eS'.trans eS1;have h8' : S'.bd.length=8:=by
   have e1:S'.er.bd.length=(bu S C e).er.bd.length:=by rw[eS3]
   have e2:S'.er.bd.length=S'.bd.length:=List.length_map _;have e3:(bu S C e).er.bd.length=(bu S C e).bd.length:=List.length_map _;rw[<- e2,e1,e3]; exact Fz h8 C e
  have hcnt:S'.cnt=S.cnt:=(show S'.er.cnt=(bu S C e).er.cnt by rw[eS3]).trans (Fy S C e).1;have hdig:S'.dig=((S.dig.toNat:Nat):Int):=((show S'.er.dig=(bu S C e).er.dig by rw[eS3]).trans (Fy S C e).2).trans (Int.toNat_of_nonneg hok.dig.1).symm;have hc600:=hok.cnt;rw[h0];refine⟨_,rfl,s20.aJ 3 rfl (by show 0<1; decide) rfl λ w20 s21=>⟨_,s21.ag 3 rfl 0,cF rfl ⟨_,_,_,e.want,_,_,s21.cellsIn 4 rfl,an (FB w20 hi) ?_⟩⟩⟩;rintro v w23 ⟨rfl,c23⟩;rw[if_pos he,he];have s22:=s21.quiet c23;have c99:w23.cell? ⟨b,0+99,none⟩=some (iv S'.cnt):=by rw[s22.ag 0 rfl]; exact EP h8'
  refine⟨_,_,rfl,_,s22.ag 5 rfl 0,aq rfl ⟨_,by rw[bq]; exact c99,aq rfl ?_⟩⟩;rw[bq,aF (n:=S'.cnt+1) ⟨by omega,by omega⟩];refine s22.aJ 0 rfl (j:=0+99) (by rw[cI h8']; decide) rfl λ w24 s23=>?_;rw[show 0+99=99 from rfl,S6 h8'] at s23;have s24:=s23.quiet (Chg.drew w24 []);have h83:({ S' with cnt:=S'.cnt+1 }:Sx).bd.length=8:=h8';have c100:w24.drew.cell? ⟨b,0+100,none⟩=some (.int .u64 ((S.dig.toNat:Nat):Int)):=by rw[s24.ag 0 rfl,<- hdig]; exact Ke h83
  have hbl:=Cw he;refine⟨_,s24.ag 5 rfl 0,_,s24.ag 5 rfl 0,aq rfl ⟨_,by rw[bq]; exact c100,an (I9 _ S.dig.toNat (cJ e) (by omega)) ?_⟩⟩;rintro v w25 ⟨rfl,c25⟩;have s25:=s24.quiet c25;refine⟨_,rfl,s25.ag 5 rfl 0,aq rfl ?_⟩;rw[bq];refine s25.aJ 0 rfl (j:=0+100) (by rw[cI h83]; decide) rfl λ w26 s26=>?_;rw[show 0+100=100 from rfl,S7 h83] at s26;refine s26.aJ 3 rfl (by show 0<1; decide) rfl λ w27 s27=>?_;let S3:Sx:={ S' with cnt:=S'.cnt+1,dig:=((gY S.dig.toNat (cJ e):Nat):Int) };have s28:St w0 w27 (Sep (held (rT S' C') :: [ai r4 S.cells.toArray 86,ai r3 #[iv 0] 45,ai r1 #[pt b] 27,ai b S3.cells.toArray 86,ai r2 e.cells.toArray 71,B])):=s27.ay [1,2,3,5,0,4,6];have s29:St w0 w27 (Sep (held (rT S3 C') :: [ai r4 S.cells.toArray 86,ai r3 #[iv 0] 45,ai r1 #[pt b] 27,ai b S3.cells.toArray 86,ai r2 e.cells.toArray 71,B])):=s28.weak (bU.left (rC λ w h=>⟨⟨h.h.1,h.h.2⟩,h.k⟩));have s30:St w0 w27 (Sep (ai r4 S.cells.toArray 86 :: ai r3 #[iv 0] 45 :: ai r1 #[pt b] 27 :: ai b S3.cells.toArray 86 :: [held (rT S3 C'),B])):=s29.ay [1,2,3,4,0,6];refine rL s30 h8 (show S3.bd.length=8 from h8') (λ _=>⟨_,s30.ag 1 rfl 0,by rw[eA,h0],λ h=>absurd (eA.trans h0) h,λ _=>⟨S3,C',?_,eC'.trans eC2,⟨g,hg⟩,s30.ay [3,4,5]⟩⟩) (λ h=>absurd rfl h);show({ S'.er with cnt:=S'.cnt+1,dig:=((gY S.dig.toNat (cJ e):Nat):Int) }:Sx)={ (bu S C e).er with cnt:=S.cnt+1,dig:=((gY S.dig.toNat (cJ e):Nat):Int) };rw[eS3,hcnt]
 ·obtain⟨X,hX,s20⟩:=k1 h0;have s20:St w0 w19 (Sep ([ai b X.cells.toArray 86,held (rT S C)]++[ai r4 S.cells.toArray 86,ai r3 #[iv 0] 45,ai r2 e.cells.toArray 71,ai r1 #[pt b] 27,B])):=s20.dG [_,_];refine⟨_,rfl,s20.aJ 3 rfl (by show 0<1; decide) rfl λ w20 s21=>⟨_,s21.ag 3 rfl 0,cT (by simpa using h0) ⟨_,s21.ag 3 rfl 0,s21.aJ 3 rfl (by show 0<1; decide) rfl λ w21 s22=>?_⟩⟩⟩;have s23:St w0 w21 (Sep (ai r4 S.cells.toArray 86 :: ai r3 #[iv (bW S C e)] 45 :: ai r1 #[pt b] 27 :: ai b X.cells.toArray 86 :: [held (rT S C),ai r2 e.cells.toArray 71,B])):=s22.ay [2,3,5,0,1,4,6];refine rL s23 h8 hX (λ h=>absurd h h0) λ _ w22 s24=>⟨_,s24.ag 1 rfl 0,by rw[eA],λ _=>s24.ay [3,4,6],λ h=>absurd (eA.symm.trans h) h0⟩
end
theorem iK{α:Type}{f:Nat->α->Int}:∀ {l:List α} {n:Nat},gi f n l=0->∀ i p,l[i]?=some p->f (n+i) p=0
 | [],_,_,i,p,hp=>by simp at hp
 | y :: l,n,h,i,p,hp=>by
  rw[gi] at h
  split at h
  ·rename_i g; exact absurd h g
  ·rename_i g
   cases i with
   | zero=>cases hp; rw[Nat.add_zero]; simpa using g
   | succ i=>have:=iK h i p (by simpa using hp); rwa [show n+(i+1)=n+1+i by omega]
theorem UR{l:List Pr}(h:Lm l=0):dK l:=by
 unfold Lm at h
 by_cases h1:l.length=0
 ·rw[if_pos h1] at h; cases h
 rw[if_neg h1] at h
 by_cases h2:6<l.length
 ·rw[if_pos h2] at h; cases h
 rw[if_neg h2] at h
 by_cases h3:gi (LX l) 0 l=0
 ·rw[if_neg (λ g=>g h3)] at h
  by_cases h4:pr (EM l)<=1024
  ·refine⟨by omega,by omega,λ i p hp=>?_,by rw[<- EN (by omega)]; exact h4⟩;have:=iK h3 i p hp;rw[Nat.zero_add] at this;unfold LX at this
   split at this
   ·cases this
   split at this
   ·cases this
   split at this
   ·cases this
   rename_i g1 g2 g3;exact⟨by unfold xp; simp at g1 g3; rw[g1,g3]; rfl,by simpa using g2⟩
  ·rw[if_neg h4] at h; cases h
 ·rw[if_pos h3] at h; exact absurd h h3
theorem TC{l:List Br}(h:LS l=0):IX l:=by
 unfold LS at h
 by_cases h1:l.length=0
 ·rw[if_pos h1] at h; cases h
 rw[if_neg h1] at h
 by_cases h2:8<l.length
 ·rw[if_pos h2] at h; cases h
 rw[if_neg h2] at h;refine⟨by omega,by omega,λ i p hp=>?_⟩;have:=iK h i p hp;rw[Nat.zero_add] at this;unfold Pv at this
 split at this
 ·cases this
 split at this
 ·cases this
 split at this
 ·cases this
 rename_i g1 g2 g3;exact⟨by simp at g1 g3; rw[g1,g3]; rfl,by simpa using g2⟩
theorem TM{n:Nat}{l:List T3}(h:Mw n l=0):Ds n l:=by
 unfold Mw at h
 by_cases h2:16<l.length
 ·rw[if_pos h2] at h; cases h
 rw[if_neg h2] at h;refine⟨by omega,λ i p hp=>?_⟩;have:=iK h i p hp;rw[Nat.zero_add] at this;unfold PG at this
 split at this
 ·cases this
 split at this
 ·cases this
 split at this
 ·cases this
 rename_i g1 g2 g3;have g1:=Bool.not_eq_false _▸g1;have g2:=Bool.not_eq_false _▸g2;exact⟨by unfold Co; rw[g1,g2]; rfl,by simpa using g3⟩
theorem Vf{ps:List Pr}{l:List T3}(h:RT ps l=0):lU ps l:=by
 unfold RT at h
 by_cases h2:6<l.length
 ·rw[if_pos h2] at h; cases h
 rw[if_neg h2] at h;refine⟨by omega,λ i p hp=>?_⟩;have:=iK h i p hp;rw[Nat.zero_add] at this;unfold Rz at this
 split at this
 ·cases this
 split at this
 ·cases this
 split at this
 ·cases this
 rename_i g1 g2 g3;have g1:=Bool.not_eq_false _▸g1;have g2:=Bool.not_eq_false _▸g2;exact⟨by unfold Hv; rw[g1,g2]; rfl,by simpa using g3⟩
theorem U4{s:Se}(h:Iz s=0):s.Ok:=by
 unfold Iz at h
 by_cases h1:Lm s.ps=0
 ·rw[if_neg (λ g=>g h1)] at h
  by_cases h2:LS s.bd=0
  ·rw[if_neg (λ g=>g h2)] at h
   by_cases h3:Mw s.bd.length s.cp=0
   ·rw[if_neg (λ g=>g h3)] at h;exact⟨UR h1,TC h2,TM h3,Vf h⟩
   ·rw[if_pos h3] at h; exact absurd h h3
  ·rw[if_pos h2] at h; exact absurd h h2
 ·rw[if_pos h1] at h; exact absurd h h1
theorem Rj{t:List UInt8}(h:xu t=0):(xw t).Ok:=by
 unfold xu at h
 by_cases h1:4000<t.length
 ·rw[if_pos h1] at h; cases h
 rw[if_neg h1] at h
 by_cases h2:(gr fP (bC 10 t)).2=0
 ·rw[if_neg (λ g=>g h2)] at h; exact U4 h
 ·rw[if_pos h2] at h; exact absurd h h2
theorem NN{o:Po}{t:List UInt8}(h:oE o t=0):o.ok/\(xw t).Ok:=by
 unfold oE at h
 by_cases h1:qx o=0
 ·rw[if_neg (λ g=>g h1)] at h;refine⟨?_,Rj h⟩;unfold qx at h1
  by_cases g:o.ok
  ·exact g
  ·rw[if_neg g] at h1; cases h1
 ·rw[if_pos h1] at h; exact absurd h h1
section
variable {S S' : Sx} {C C' : Ck} {e:Ev}
theorem lW.er(h:lW S C)(eS:S'.er=S.er)(eC:C'.er=C.er):lW S' C':=by
 have eb:S'.bd.map Bd.er=S.bd.map Bd.er:=show S'.er.bd=S.er.bd by rw[eS]
 have ep:S'.ph=S.ph:=show S'.er.ph=S.er.ph by rw[eS]
 have es:S'.s.er=S.s.er:=show S'.er.s=S.er.s by rw[eS]
 have ec:S'.cnt=S.cnt:=show S'.er.cnt=S.er.cnt by rw[eS]
 have ed:S'.dig=S.dig:=show S'.er.dig=S.er.dig by rw[eS]
 have ecs:C'.s.er=C.s.er:=show C'.er.s=C.er.s by rw[eC]
 have hl:S'.bd.length=S.bd.length:=by have:=congrArg List.length eb; simpa using this
 refine⟨by rw[hl]; exact h.b8,by rw[ep]; exact h.ph,λ h0=>by rw[es]; exact h.z (ep▸h0),λ h0=>(h.c (ep▸h0)).er eC,λ h0=>by rw[ecs,es]; exact h.cs (ep▸h0),λ h0=>RF es (h.so (ep▸h0)),by rw[ec]; exact h.cnt,by rw[ed]; exact h.dig,λ y hy hh=>?_⟩;have:y.er∈S.bd.map Bd.er:=eb▸List.mem_map_of_mem hy;obtain⟨z,hz,ez⟩:=List.mem_map.1 this;have h1:z.x.er=y.x.er:=show z.er.x=y.er.x by rw[ez]
 have h2:z.has=y.has:=show z.er.has=y.er.has by rw[ez]
 rw[<- An,<- h1,An];exact h.x z hz (h2.trans hh)
theorem II(h:iZ S e=0):dY e=0/\S.cnt<600/\eD e.kind S.ph=true/\(aX e.kind=true->e.bidder<S.s.bd.length)/\(aX e.kind=true->(S.bd.getD e.bidder.toNat dQ).out=false):=by
 unfold iZ at h
 by_cases h1:dY e≠0
 ·rw[if_pos h1] at h; exact absurd h h1
 rw[if_neg h1] at h
 by_cases h2:600<=S.cnt
 ·rw[if_pos h2] at h; cases h
 rw[if_neg h2] at h
 by_cases h3:eD e.kind S.ph=false
 ·rw[if_pos h3] at h; cases h
 rw[if_neg h3] at h
 by_cases h4:aX e.kind=true/\(S.s.bd.length:Int)<=e.bidder
 ·rw[if_pos h4] at h; cases h
 rw[if_neg h4] at h
 by_cases h5:aX e.kind=true/\(S.bd.getD e.bidder.toNat dQ).out=true
 ·rw[if_pos h5] at h; cases h
 refine⟨by simpa using h1,by omega,by simpa using h3,λ hn=>?_,λ hn=>?_⟩
 ·rcases Int.lt_or_le e.bidder S.s.bd.length with h6|h6
  ·exact h6
  ·exact absurd ⟨hn,h6⟩ h4
 ·cases ho:(S.bd.getD e.bidder.toNat dQ).out with
  | false=>rfl
  | true=>exact absurd ⟨hn,ho⟩ h5
theorem Mc(h:xO S C e=0):iZ S e=0/\bW S C e=0:=by
 unfold xO at h
 by_cases h1:iZ S e=0
 ·rw[if_neg (λ g=>g h1)] at h; exact⟨h1,h⟩
 ·rw[if_pos h1] at h; exact absurd h h1
theorem Md(hok:lW S C)(h:xO S C e=0)(hi:e.In):lW (Kv S C e) (Tt S C e)/\(Kv S C e).ph≠0:=by
 obtain⟨hs,hE⟩:=Mc h;obtain⟨h1,h2,h3,h4,h5⟩:=II hs;have hR:=rB h1 hi.d;have hk1:=DT h1;have hc:=hok.cnt;have hch:0<=((gY S.dig.toNat (cJ e):Nat):Int)/\((gY S.dig.toNat (cJ e):Nat):Int)<18446744073709551616:=⟨Int.natCast_nonneg _,by have:gY S.dig.toNat (cJ e)<18446744073709551616:=M9 _; omega⟩;have hlen:=Fz hok.b8 C e
 suffices H:(0<=(bu S C e).ph/\(bu S C e).ph<=4/\(bu S C e).ph≠0)/\(bV S C e).Inv/\(bV S C e).s.er=(bu S C e).s.er/\(bu S C e).s.Ok/\∀ y∈(bu S C e).bd,y.has=true->fk y.x=0 by
  obtain⟨⟨p1,p2,p3⟩,i1,i2,i3,i4⟩:=H;exact⟨⟨hlen,⟨p1,p2⟩,λ h=>absurd h p3,λ _=>i1,λ _=>i2,λ _=>i3,⟨by show 0<=S.cnt+1; omega,by show S.cnt+1<=600; omega⟩,hch,i4⟩,p3⟩
 by_cases k1:e.kind=1
 ·have eE:bW S C e=oE S.o e.text:=by rw[bW,if_pos k1]
  have eS:bu S C e={ S with ph:=1,s:=xw e.text }:=by rw[bu,if_pos k1]
  have eC:bV S C e=mH (xw e.text) S.o:=by rw[bV,if_pos k1]
  obtain⟨ho,hS⟩:=NN (eE▸hE);rw[eS,eC];exact⟨⟨by show(0:Int)<=1; decide,by show(1:Int)<=4; decide,by show(1:Int)≠0; decide⟩,Ny hS ho,rfl,hS,hok.x⟩
 have n0:S.ph≠0:=λ h0=>k1 (SY hk1 (h0▸h3));have hC:=hok.c n0;have hcs:=hok.cs n0;have hS:=hok.so n0;have hph:=hok.ph
 by_cases k2:e.kind=2
 ·have eE:bW S C e=kD C e.bidder.toNat (C.s.bd.getD e.bidder.toNat L3) e.want:=by rw[bW,if_neg k1,if_pos k2]
  have eS:bu S C e=S:=by rw[bu,if_neg k1,if_pos k2]
  have eC:bV S C e=nt C e.bidder.toNat e.want:=by rw[bV,if_neg k1,if_pos k2]
  rw[eS,eC];exact⟨⟨hph.1,hph.2,n0⟩,Mk hC (eE▸hE),hcs,hS,hok.x⟩
 by_cases k3:e.kind=3
 ·have eE:bW S C e=if C.ov then 10 else 0:=by rw[bW,if_neg k1,if_neg k2,if_pos (.inl k3)]
  have eS:bu S C e=(if eu C then { S with ph:=2 } else S):=by rw[bu,if_neg k1,if_neg k2,if_pos k3]
  have eC:bV S C e=fX C:=by rw[bV,if_neg k1,if_neg k2,if_pos k3]
  have ho:C.ov=false:=by
   cases hv:C.ov with
   | false=>rfl
   | true=>rw[eE,hv] at hE; cases hE
  rw[eS,eC];refine⟨?_,Hy hC ho,?_,?_,?_⟩
  ·split
   ·exact⟨by show(0:Int)<=2; decide,by show(2:Int)<=4; decide,by show(2:Int)≠0; decide⟩
   ·exact⟨hph.1,hph.2,n0⟩
  ·split<;>exact hcs
  ·split<;>exact hS
  ·split<;>exact hok.x
 by_cases k4:e.kind=4
 ·have eS:bu S C e={ S with ph:=2 }:=by rw[bu,if_neg k1,if_neg k2,if_neg k3,if_pos k4]
  have eC:bV S C e=vZ C:=by rw[bV,if_neg k1,if_neg k2,if_neg k3,if_pos k4]
  rw[eS,eC];exact⟨⟨by show(0:Int)<=2; decide,by show(2:Int)<=4; decide,by show(2:Int)≠0; decide⟩,LI hC,hcs,hS,hok.x⟩
 have k34 : ¬ (e.kind=3\/e.kind=4):=λ h=>h.elim k3 k4
 by_cases k5:e.kind=5
 ·have eE:bW S C e=fL S.s C e.bidder.toNat (S.s.bd.getD e.bidder.toNat L3) e.text:=by rw[bW,if_neg k1,if_neg k2,if_neg k34,if_pos k5]
  have eS:bu S C e=tI S e.bidder.toNat (bJ S.s.ps e.text).1:=by rw[bu,if_neg k1,if_neg k2,if_neg k3,if_neg k4,if_pos k5]
  have eC:bV S C e=C:=by rw[bV,if_neg k1,if_neg k2,if_neg k3,if_neg k4,if_neg (by omega),if_neg (by omega)]
  rw[eE] at hE;have hp:(bJ S.s.ps e.text).2=0:=by
   unfold fL at hE
   by_cases g:(bJ S.s.ps e.text).2=0
   ·exact g
   ·rw[if_pos g] at hE; exact absurd hE g
  rw[eS,eC];refine⟨⟨hph.1,hph.2,n0⟩,hC,hcs,hS,λ y hy hh=>?_⟩;rcases List.mem_or_eq_of_mem_set hy with hy|rfl
  ·exact hok.x y hy hh
  ·exact CV hp
 have hdr:∀ {X:Sx} {n:Nat},(∀ y∈X.bd,y.has=true->fk y.x=0)->∀ y∈(bB X n).bd,y.has=true->fk y.x=0:=λ h y hy hh=>by
  rcases rG hy with h1|⟨_,h2⟩
  ·exact h y h1 hh
  ·rw[h2] at hh; cases hh
 by_cases k6:e.kind=6
 ·have eS:bu S C e=bB S e.bidder.toNat:=by rw[bu,if_neg k1,if_neg k2,if_neg k3,if_neg k4,if_neg k5,if_pos k6]
  have eC:bV S C e=C:=by rw[bV,if_neg k1,if_neg k2,if_neg k3,if_neg k4,if_neg (by omega),if_neg (by omega)]
  rw[eS,eC];exact⟨⟨hph.1,hph.2,n0⟩,hC,hcs,hS,hdr hok.x⟩
 by_cases k7:e.kind=7
 ·have eS:bu S C e=bB (iR S e.bidder.toNat) e.bidder.toNat:=by rw[bu,if_neg k1,if_neg k2,if_neg k3,if_neg k4,if_neg k5,if_neg k6,if_pos k7]
  have eC:bV S C e=kV C e.bidder.toNat:=by rw[bV,if_neg k1,if_neg k2,if_neg k3,if_neg k4,if_pos k7]
  have hb8:=hS.bd.l2;have hn:=h4 (by rw[aX,dT (Or.inr (Or.inr (Or.inr k7)))]);rw[eS,eC];refine⟨⟨hph.1,hph.2,n0⟩,KE hC _,hcs,hS,hdr λ y hy hh=>?_⟩;obtain⟨z,hz,e1,e2⟩:=JF (by have:=hok.b8; have:=hR.b; omega) hy;rw[e1]; exact hok.x z hz (e2▸hh)
 by_cases k8:e.kind=8
 ·have eE:bW S C e=if cK C e.round then 4 else 0:=by rw[bW,if_neg k1,if_neg k2,if_neg k34,if_neg k5,if_neg k6,if_neg k7,if_pos k8]
  have eS:bu S C e={ bZ S 8 with ph:=1 }:=by rw[bu,if_neg k1,if_neg k2,if_neg k3,if_neg k4,if_neg k5,if_neg k6,if_neg k7,if_pos k8]
  have eC:bV S C e=fF C e.round.toNat:=by rw[bV,if_neg k1,if_neg k2,if_neg k3,if_neg k4,if_neg k7,if_pos k8]
  have hr:cK C e.round=false:=by
   cases hv:cK C e.round with
   | false=>rfl
   | true=>rw[eE,hv] at hE; cases hE
  have hsk:∀ k,(bZ S k).s=S.s:=λ k=>by
   induction k with
   | zero=>rfl
   | succ k ih=>exact ih
  have h8:=hsk 8;have hm:∀ y∈(bZ S 8).bd,y.has=true->fk y.x=0:=λ y hy hh=>by
   rcases tV 8 hy with h1|⟨_,h2⟩
   ·exact hok.x y h1 hh
   ·rw[h2] at hh; cases hh
  have hrs:(fF C e.round.toNat).s=C.s:=by unfold fF; split<;>rfl
  rw[eS,eC];refine⟨⟨by show(0:Int)<=1; decide,by show(1:Int)<=4; decide,by show(1:Int)≠0; decide⟩,It hC hr,?_,?_,hm⟩
  ·rw[hrs,hcs]; show S.s.er=(bZ S 8).s.er; rw[h8]
  ·show(bZ S 8).s.Ok; rw[h8]; exact hS
 ·have eS:bu S C e=pZ S e:=by rw[bu,if_neg k1,if_neg k2,if_neg k3,if_neg k4,if_neg k5,if_neg k6,if_neg k7,if_neg k8]
  have eC:bV S C e=C:=by rw[bV,if_neg k1,if_neg k2,if_neg k3,if_neg k4,if_neg k7,if_neg k8]
  rw[eS,eC];unfold pZ
  split
  ·exact⟨⟨by show(0:Int)<=4; decide,by show(4:Int)<=4; decide,by show(4:Int)≠0; decide⟩,hC,hcs,hS,hok.x⟩
  ·exact⟨⟨by show(0:Int)<=3; decide,by show(3:Int)<=4; decide,by show(3:Int)≠0; decide⟩,hC,hcs,hS,hok.x⟩
end
def WS:Ck:={ s:=fP,o:=⟨0,0,0,0⟩,cl:=[],p:=z6,ask:=[],bd:=[],dp:=[],ov:=false,ka:=none,kc:=0,xa:=none,xc:=0,ya:=none,yc:=0,za:=none,zc:=0 }
theorem UH(o:Po):lW (ql o) WS:=⟨rfl,⟨by show(0:Int)<=0; decide,by show(0:Int)<=4; decide⟩,λ _=>rfl,λ h=>absurd rfl h,λ h=>absurd rfl h,λ h=>absurd rfl h,⟨by show(0:Int)<=0; decide,by show(0:Int)<=600; decide⟩,⟨by show(0:Int)<=0; decide,by show(0:Int)<18446744073709551616; decide⟩,λ y hy hh=>by
 simp only[ql,List.mem_cons,List.mem_nil_iff,or_false] at hy;rcases hy with rfl|rfl|rfl|rfl|rfl|rfl|rfl|rfl<;>cases hh⟩
theorem QT(o:Po):(ql o).er=ql o:=by
 show({ ql o with bd:=[dQ.er,dQ.er,dQ.er,dQ.er,dQ.er,dQ.er,dQ.er,dQ.er] }:Sx)=_;rw[O2]; rfl
theorem QU(o:Po)(w:World):rT (ql o) WS w:=⟨⟨O3 w,λ y hy=>by
 simp only[ql,List.mem_cons,List.mem_nil_iff,or_false] at hy;rcases hy with rfl|rfl|rfl|rfl|rfl|rfl|rfl|rfl<;>exact He w⟩,λ q h=>by cases h⟩
theorem OE(S:Sx)(e:Ev):iZ S.er e=iZ S e:=by
 have h:(S.er.bd.getD e.bidder.toNat dQ).out=(S.bd.getD e.bidder.toNat dQ).out:=by rw[uA]; rfl
 unfold iZ;rw[h]; rfl
theorem Mb(S:Sx)(C:Ck)(e:Ev):xO S.er C.er e=xO S C e:=by
 unfold xO;rw[OE,uQ]
theorem Tu(S:Sx)(C:Ck)(e:Ev):(Kv S.er C.er e).er=(Kv S C e).er:=by
 show({ (bu S.er C.er e).er with cnt:=S.cnt+1,dig:=((gY S.dig.toNat (cJ e):Nat):Int) }:Sx)={ (bu S C e).er with cnt:=S.cnt+1,dig:=((gY S.dig.toNat (cJ e):Nat):Int) };rw[uR]
end Go.Proofs.YtemiicbbbojdiaaGreatDoor
namespace Go.Proofs.YtemiicbbbojdiaaGreatDoor
open Go Go.Vc Go.RowKit Go.Deep
theorem dy{P:Program}{w:World}{d:Nat}{t:TypeId}{cs:List Value}{fs:Array Field}(h:Opn P w (d+1) t cs)(hu:P.underlying t=some (.struct fs))(i:Nat)(f:Field)(hf:fs[i]?=some f) :
  Opn P w d f.type ((cs.drop f.offset).take (P.cellsOf f.type)):=by
 unfold Opn at h;simp only[hu] at h;exact h.2 f (by simpa using Array.mem_of_getElem? hf)
theorem JC{α:Type}{Q:Nat->α->Prop}:∀ {l:Nat},(∀ i,i<l->∃ a,Q i a)->∃ L:List α,L.length=l/\∀ i a,L[i]?=some a->Q i a
 | 0,_=>⟨[],rfl,λ i a h=>by simp at h⟩
 | l+1,h=>by
  obtain⟨L,h1,h2⟩:=JC (l:=l) λ i hi=>h i (by omega);obtain⟨a,ha⟩:=h l (by omega);refine⟨L++[a],by simp[h1],λ i b hb=>?_⟩;rcases Nat.lt_or_ge i L.length with hi|hi
  ·rw[List.getElem?_append_left hi] at hb; exact h2 i b hb
  ·rw[List.getElem?_append_right hi] at hb;have h0:i-L.length=0:=by
    have:=(List.getElem?_eq_some_iff.1 hb).1;simp at this; omega
   rw[h0] at hb;simp at hb;subst hb;rw[show i=l by omega]; exact ha
theorem Jy:∀ {cs:List Value},(∀ v∈cs,∃ n,v=iv n/\In n)->∃ ns:List Int,cs=ns.map iv/\∀ n∈ns,In n
 | [],_=>⟨[],rfl,by simp⟩
 | v :: cs,h=>by
  obtain⟨n,rfl,hn⟩:=h v (List.mem_cons_self ..);obtain⟨ns,rfl,hs⟩:=Jy (cs:=cs) λ u hu=>h u (List.mem_cons_of_mem _ hu);refine⟨n :: ns,rfl,λ x hx=>?_⟩;rcases List.mem_cons.1 hx with rfl|hx
  ·exact hn
  ·exact hs x hx
theorem lf{w:World}{d t:Nat}{cs:List Value}(h:Opn Tryz.prog w (d+1) t cs)(hu:Tryz.prog.underlying t=some (.int .i64)):∃ n,cs=[iv n]/\In n:=by
 unfold Opn at h;simp only[hu] at h;obtain⟨n,rfl,hw⟩:=h;refine⟨n,rfl,?_⟩;simp[Lit.wf,IntKind.min,IntKind.max,IntKind.signed,IntKind.bits] at hw;exact⟨by omega,by omega⟩
theorem Q9{w:World}{d t k e:Nat}{cs:List Value}(h:Opn Tryz.prog w (d+2) t cs)(hu:Tryz.prog.underlying t=some (.array k e))(he:Tryz.prog.underlying e=some (.int .i64))(hc:Tryz.prog.cellsOf t=k)(h1:Tryz.prog.cellsOf e=1) :
  ∃ ns:List Int,cs=ns.map iv/\ns.length=k/\∀ n∈ns,In n:=by
 unfold Opn at h;simp only[hu] at h;obtain⟨hl,hi⟩:=h;rw[hc] at hl;obtain⟨ns,rfl,hs⟩:=Jy (cs:=cs) λ v hv=>by
  obtain⟨i,hlt,rfl⟩:=List.mem_iff_getElem.1 hv;obtain⟨n,hn,hI⟩:=lf (hi i (by omega)) he;rw[h1,Nat.mul_one] at hn;have e1:(cs.drop i).take 1=[cs[i]]:=by
   rw[List.drop_eq_getElem_cons hlt]; rfl
  rw[e1] at hn;exact⟨n,by simpa using hn,hI⟩
 exact⟨ns,rfl,by simpa using hl,hs⟩
theorem Lh{w:World}{d t e:Nat}{cs:List Value}(h:Opn Tryz.prog w (d+1) t cs)(hu:Tryz.prog.underlying t=some (.slice e)) :
  ∃ (a:OA) (l c:Nat),cs=[.slice a l c]/\l<=c/\l<=9223372036854775807/\l*Tryz.prog.bytesOf e<=140737488351232 /\
   ∀ i,i<l->∃ q cs',a=some q/\cs'.length=Tryz.prog.cellsOf e/\af w (q.add (i*Tryz.prog.cellsOf e)) 0 cs'/\Opn Tryz.prog w d e cs':=by
 unfold Opn at h;simp only[hu] at h;obtain⟨a,l,c,rfl,hlc,hcm,_,hb,hi⟩:=h;refine⟨a,l,c,rfl,hlc,by unfold maxLen at hcm; omega,hb,λ i hl=>?_⟩;obtain⟨q,cs',ha,hcs,ho⟩:=hi i hl;obtain⟨_,hlen,hg⟩:=World.cells?_some hcs;exact⟨q,cs',ha,hlen,bE _ 0 λ j v hj=>by
  rw[Nat.zero_add,hg j (by have:=(List.getElem?_eq_some_iff.1 hj).1; omega)]; exact hj,ho⟩
theorem Hx:Tryz.prog.cellsOf 3=1:=by kernel_rfl
theorem Mp:Tryz.prog.cellsOf 2=1:=by kernel_rfl
theorem I8:Tryz.prog.cellsOf 39=6:=by kernel_rfl
theorem PA:Tryz.prog.cellsOf 9=1:=by kernel_rfl
theorem Px:Tryz.prog.cellsOf 69=1:=by kernel_rfl
theorem Py:Tryz.prog.cellsOf 71=11:=by kernel_rfl
theorem Pz:Tryz.prog.cellsOf 23=4:=by kernel_rfl
theorem UN{w:World}{cs:List Value}(h:Opn Tryz.prog w 5 71 cs)(hlen:cs.length=11):∃ e:Ev,cs=e.cells/\e.In:=by
 match cs,hlen with
 | [x0,x1,x2,x3,x4,x5,x6,x7,x8,x9,x10],_ =>
  have q0:Opn Tryz.prog w 4 3 (([x0,x1,x2,x3,x4,x5,x6,x7,x8,x9,x10].drop 0).take (Tryz.prog.cellsOf 3)):=dy h Tryz.underlying71 0 _ rfl;have q1:Opn Tryz.prog w 4 3 (([x0,x1,x2,x3,x4,x5,x6,x7,x8,x9,x10].drop 1).take (Tryz.prog.cellsOf 3)):=dy h Tryz.underlying71 1 _ rfl;have q2:Opn Tryz.prog w 4 3 (([x0,x1,x2,x3,x4,x5,x6,x7,x8,x9,x10].drop 2).take (Tryz.prog.cellsOf 3)):=dy h Tryz.underlying71 2 _ rfl;have q3:Opn Tryz.prog w 4 39 (([x0,x1,x2,x3,x4,x5,x6,x7,x8,x9,x10].drop 3).take (Tryz.prog.cellsOf 39)):=dy h Tryz.underlying71 3 _ rfl;have q4:Opn Tryz.prog w 4 9 (([x0,x1,x2,x3,x4,x5,x6,x7,x8,x9,x10].drop 9).take (Tryz.prog.cellsOf 9)):=dy h Tryz.underlying71 4 _ rfl;have q5:Opn Tryz.prog w 4 69 (([x0,x1,x2,x3,x4,x5,x6,x7,x8,x9,x10].drop 10).take (Tryz.prog.cellsOf 69)):=dy h Tryz.underlying71 5 _ rfl;rw[Hx] at q0 q1 q2; rw[I8] at q3; rw[PA] at q4; rw[Px] at q5;obtain⟨n0,e0,_⟩:=lf q0 Tryz.underlying3;obtain⟨n1,e1,_⟩:=lf q1 Tryz.underlying3;obtain⟨n2,e2,_⟩:=lf q2 Tryz.underlying3;obtain⟨ns,e3,l3,_⟩:=Q9 q3 Tryz.underlying39 Tryz.underlying3 I8 Hx;unfold Opn at q4 q5;simp only[Tryz.underlying9] at q4;simp only[Tryz.underlying69] at q5;obtain⟨s,e4,_⟩:=q4;obtain⟨d,e5,hd⟩:=q5
  match ns,l3 with
  | [u0,u1,u2,u3,u4,u5],_ =>
   simp at e0 e1 e2 e3 e4 e5;obtain⟨rfl,rfl,rfl,rfl,rfl,rfl⟩:=e3;subst e0 e1 e2 e4 e5;refine⟨⟨n0,n1,n2,⟨u0,u1,u2,u3,u4,u5⟩,s.data.toList,d⟩,rfl,⟨?_⟩⟩;simp[Lit.wf,IntKind.min,IntKind.max,IntKind.signed,IntKind.bits] at hd;show 0<=d/\d<18446744073709551616;omega
theorem open_evs{w:World}{cs:List Value}(h:Opn Tryz.prog w 6 24 cs):∃ (a:OA) (c:Nat) (l:List Ev),cs=[.slice a l.length c]/\l.length<=c/\bG 11 Ev.cells w a l/\∀ e∈l,e.In:=by
 obtain⟨a,n,c,rfl,hc,_,_,hi⟩:=Lh h Tryz.underlying24;obtain⟨L,h1,h2⟩:=JC (Q:=λ i (e:Ev)=>e.In/\∃ q,a=some q/\af w (q.add (i*11)) 0 e.cells) (l:=n) λ i hl=>by
  obtain⟨q,cs',ha,hlen,hc,ho⟩:=hi i hl;rw[Py] at hlen hc;obtain⟨e,rfl,he⟩:=UN ho hlen;exact⟨e,he,q,ha,hc⟩
 refine⟨a,c,L,by rw[h1],by omega,λ i e he=>let ⟨_,q,hq,hc⟩:=h2 i e he; ⟨q,_,hq,hc,rfl,rfl⟩,λ e he=>?_⟩;obtain⟨i,hlt,rfl⟩:=List.mem_iff_getElem.1 he;exact(h2 i _ (gE hlt)).1
theorem open_po{w:World}{cs:List Value}(h:Opn Tryz.prog w 6 23 cs):∃ o:Po,cs=o.cells:=by
 have hlen:cs.length=4:=by
  have h':=h;unfold Opn at h';simp only[Tryz.underlying23] at h';rw[<- Pz]; exact h'.1
 match cs,hlen with
 | [x0,x1,x2,x3],_ =>
  have q0:Opn Tryz.prog w 5 2 (([x0,x1,x2,x3].drop 0).take (Tryz.prog.cellsOf 2)):=dy h Tryz.underlying23 0 _ rfl;have q1:Opn Tryz.prog w 5 3 (([x0,x1,x2,x3].drop 1).take (Tryz.prog.cellsOf 3)):=dy h Tryz.underlying23 1 _ rfl;have q2:Opn Tryz.prog w 5 3 (([x0,x1,x2,x3].drop 2).take (Tryz.prog.cellsOf 3)):=dy h Tryz.underlying23 2 _ rfl;have q3:Opn Tryz.prog w 5 3 (([x0,x1,x2,x3].drop 3).take (Tryz.prog.cellsOf 3)):=dy h Tryz.underlying23 3 _ rfl;rw[Mp] at q0; rw[Hx] at q1 q2 q3;obtain⟨n0,e0,_⟩:=lf q0 Tryz.underlying2;obtain⟨n1,e1,_⟩:=lf q1 Tryz.underlying3;obtain⟨n2,e2,_⟩:=lf q2 Tryz.underlying3;obtain⟨n3,e3,_⟩:=lf q3 Tryz.underlying3;simp at e0 e1 e2 e3;subst e0 e1 e2 e3;exact⟨⟨n0,n1,n2,n3⟩,rfl⟩
end Go.Proofs.YtemiicbbbojdiaaGreatDoor
namespace Go.Proofs.YtemiicbbbojdiaaGreatDoor
open Go Go.Vc _root_.Go.Proofs.Tryz
def Bh(a:OA)(b c:Nat)(d:OA)(e f:Nat)(w:World)(K:KP):=cond ((b:Int) !=(e:Int)) (K (.bool false) w) (∃ c:Int->qN,(∃ f,c 0 w f)/\∀ g f h,c h g f->∀ i:qv,cond (decide (h<(b:Int))) (au a λ a=>0<=h/\h<(b:Int)/\∃ b,g.drew.cell? (Addr.add a ((h).toNat*1))=some (.string b)/\au d λ a=>0<=h/\h<(e:Int)/\∃ d,g.drew.cell? (Addr.add a ((h).toNat*1))=some (.string d)/\cond (!(b.toList==d.toList)) (K (.bool false) g.drew) (∃ a,a<f/\c (IntKind.i64.wrap (h+1)) g.drew a)) (K (.bool true) g))
theorem B7{a1 l1 c1 a2 l2 c2 w K}(h:Bh a1 l1 c1 a2 l2 c2 w K):CP 27 #[.slice a1 l1 c1,.slice a2 l2 c2] w K:=ah (aE [(58,[(5,.s (.int .i64))])]) func27 (by kernel_rfl) (by kernel_rfl) h
def Sw(a b:Int)(c d:I6)(e:OA)(f g:Nat)(h:OA)(i j:Nat)(k:OA)(l m:Nat)(w:World)(K:KP):=av w (.cells (iv a :: iv b :: c.on (d.on [.slice e f g,.slice h i j,.slice k l m]):List Value).toArray 44) λ a b=>av b (.cells #[qz,qz,qz,qz,qz,qz,qz,qz,qz,qz,qz,qz,qz,qz,qn,qn,qn] 51) λ b c=>∃ d,c.cell? (qd a 0)=some (iv d)/\∃ e,c.cell? (qd a 1)=some (iv e)/\∃ f:I6,af c (qd a 2) 0 f.vs/\∃ g:I6,af c (qd a 8) 0 g.vs/\∃ h i j,c.cell? (qd a 14)=some (.slice h i j)/\∃ k l m,c.cell? (qd a 15)=some (.slice k l m)/\∃ n o p,c.cell? (qd a 16)=some (.slice n o p)/\aK (qd b 0) 0 (iv d :: iv e :: f.on (g.on [.slice h i j,.slice k l m,.slice n o p])) c λ a=>∃ c d,∃ e f:I6,∃ g h i j k l m n o,af a (qd b 0) 0 (iv c :: iv d :: e.on (f.on [.slice g h i,.slice j k l,.slice m n o]))/\K (.agg (iv c :: iv d :: e.on (f.on [.slice g h i,.slice j k l,.slice m n o]):List Value).toArray) a
theorem Nj{n1 n2 u1 u2 a1 l1 c1 a2 l2 c2 a3 l3 c3 w K}(h:Sw n1 n2 u1 u2 a1 l1 c1 a2 l2 c2 a3 l3 c3 w K):CP 16 #[.agg (iv n1 :: iv n2 :: u1.on (u2.on [.slice a1 l1 c1,.slice a2 l2 c2,.slice a3 l3 c3]):List Value).toArray] w K:=ah (aE []) func16 (by kernel_rfl) (by kernel_rfl) h
abbrev sT (r:List UInt8):List Value:=[sv r]
theorem EC(r:List UInt8):(sT r).length=1:=rfl
theorem Od(r:List UInt8):∀ v∈sT r,v.oneCell' = true:=by intro v hv; simp at hv; subst hv; rfl
theorem WH:iz prog 42 9 (sv []) 1 16:=iz.mk' underlying42 (by kernel_rfl) rfl (by decide)
abbrev zk (a:OA) (c:Nat) (l:List (List UInt8)):aG:=cH 9 1 sT a c l
theorem J2{w:World}{a:OA}{l:List (List UInt8)}(h:bG 1 sT w a l){i:Nat}{x:List UInt8}(hx:l[i]?=some x):∃ q,a=some q/\w.cell? (Addr.add q (i*1))=some (sv x):=by
 obtain⟨q,hq,hc⟩:=h.at hx;exact⟨q,hq,by have:=hc.1; rwa [Addr.add_add,Nat.add_zero] at this⟩
theorem iE(l:List UInt8):(bs l).size=l.length:=by simp[bs,ByteArray.size]
structure Vw where
 ph:Int
 rd:Int
 pr:I6
 ex:I6
 own:List Ch
 oa:Option Addr
 oc:Nat
 dm:List I6
 da:Option Addr
 dc:Nat
 nm:List (List UInt8)
 na:Option Addr
 nc:Nat
def Vw.vals(v:Vw):List Value:=iv v.ph :: iv v.rd :: v.pr.on (v.ex.on [.slice v.oa v.own.length v.oc,.slice v.da v.dm.length v.dc,.slice v.na v.nm.length v.nc])
def Vw.val(v:Vw):Value:=.agg v.vals.toArray
theorem Vw.one(v:Vw):∀ x∈v.vals,x.oneCell' = true:=by
 intro x hx;simp only[Vw.vals,I6.on,List.mem_cons,List.mem_nil_iff,or_false] at hx;rcases hx with rfl|rfl|rfl|rfl|rfl|rfl|rfl|rfl|rfl|rfl|rfl|rfl|rfl|rfl|rfl|rfl|rfl<;>rfl
structure Vw.Rd (v:Vw) (w:World):Prop where
 own:zw w v.oa v.own
 dm:bG 6 I6.vs w v.da v.dm
 nm:bG 1 sT w v.na v.nm
theorem Vw.Rd.aA{v:Vw}{w w' : World}(h:v.Rd w)(hc:Chg w w' []):v.Rd w':=⟨bG.aA h.own hc,bG.aA h.dm hc,bG.aA h.nm hc⟩
section
variable {w0 w:World} {l:List aG} {r:Nat} {T:TypeId} {v:Vw}
end
section
variable {ps:List Pr} {v:Vw}
end
def vF(a:OA)(b c:Nat)(d:OA)(e f:Nat)(w:World)(K:KP):=cond ((b:Int) !=(e:Int)) (K (.bool false) w) (∃ c:Int->qN,(∃ f,c 0 w f)/\∀ g f h,c h g f->∀ i:qv,cond (decide (h<(b:Int))) (au a λ a=>0<=h/\h<(b:Int)/\∃ b i:I6,af g.drew (Addr.add a ((h).toNat*12)) 0 (b.on (i.vs))/\au d λ a=>0<=h/\h<(e:Int)/\∃ d e:I6,af g.drew (Addr.add a ((h).toNat*12)) 0 (d.on (e.vs))/\cond (!((I6.beq b d)&&((I6.beq i e)&&true))) (K (.bool false) g.drew) (∃ a,a<f/\c (IntKind.i64.wrap (h+1)) g.drew a)) (K (.bool true) g))
theorem ze{a1 l1 c1 a2 l2 c2 w K}(h:vF a1 l1 c1 a2 l2 c2 w K):CP 23 #[.slice a1 l1 c1,.slice a2 l2 c2] w K:=ah (aE [(58,[(5,.s (.int .i64))])]) func23 (by kernel_rfl) (by kernel_rfl) h
def vE(a:OA)(b c:Nat)(d:OA)(e f:Nat)(w:World)(K:KP):=cond ((b:Int) !=(e:Int)) (K (.bool false) w) (∃ c:Int->qN,(∃ f,c 0 w f)/\∀ g f h,c h g f->∀ i:qv,cond (decide (h<(b:Int))) (au a λ a=>0<=h/\h<(b:Int)/\∃ b:I6,af g.drew (Addr.add a ((h).toNat*6)) 0 b.vs/\au d λ a=>0<=h/\h<(e:Int)/\∃ d:I6,af g.drew (Addr.add a ((h).toNat*6)) 0 d.vs/\cond (!(I6.beq b d)) (K (.bool false) g.drew) (∃ a,a<f/\c (IntKind.i64.wrap (h+1)) g.drew a)) (K (.bool true) g))
theorem zb{a1 l1 c1 a2 l2 c2 w K}(h:vE a1 l1 c1 a2 l2 c2 w K):CP 48 #[.slice a1 l1 c1,.slice a2 l2 c2] w K:=ah (aE [(58,[(5,.s (.int .i64))])]) func48 (by kernel_rfl) (by kernel_rfl) h
def JX(a b:Int)(c d:I6)(e:OA)(f g:Nat)(h:OA)(i j:Nat)(k:OA)(l m:Nat)(n o:Int)(p q:I6)(r:OA)(s t:Nat)(u:OA)(v x:Nat)(y:OA)(z A:Nat)(w:World)(K:KP):=av w (.cells (iv a :: iv b :: c.on (d.on [.slice e f g,.slice h i j,.slice k l m]):List Value).toArray 51) λ a b=>av b (.cells (iv n :: iv o :: p.on (q.on [.slice r s t,.slice u v x,.slice y z A]):List Value).toArray 51) λ b c=>∃ d,c.cell? (qd a 0)=some (iv d)/\∃ e,c.cell? (qd b 0)=some (iv e)/\cond (d==e) (∃ d,c.cell? (qd a 1)=some (iv d)/\∃ e,c.cell? (qd b 1)=some (iv e)/\cond (d==e) (∃ d:I6,af c (qd a 2) 0 d.vs/\∃ e:I6,af c (qd b 2) 0 e.vs/\cond (I6.beq d e) (∃ d:I6,af c (qd a 8) 0 d.vs/\∃ e:I6,af c (qd b 8) 0 e.vs/\cond (I6.beq d e) (∃ d e f,c.cell? (qd a 14)=some (.slice d e f)/\∃ g h i,c.cell? (qd b 14)=some (.slice g h i)/\CC 23 #[.slice d e f,.slice g h i] c λ d e=>∃ f,d=.returned (.bool f)/\cond f (∃ d f g,e.cell? (qd a 15)=some (.slice d f g)/\∃ h i j,e.cell? (qd b 15)=some (.slice h i j)/\CC 48 #[.slice d f g,.slice h i j] e λ d f=>∃ g,d=.returned (.bool g)/\cond g (∃ d g h,f.cell? (qd a 16)=some (.slice d g h)/\∃ a i j,f.cell? (qd b 16)=some (.slice a i j)/\CC 27 #[.slice d g h,.slice a i j] f λ a b=>∃ d,a=.returned (.bool d)/\K (.bool d) b) (K (.bool false) f)) (K (.bool false) e)) (K (.bool false) c)) (K (.bool false) c)) (K (.bool false) c)) (K (.bool false) c)
theorem Il{n1 n2 u1 u2 a1 l1 c1 a2 l2 c2 a3 l3 c3 n3 n4 u3 u4 a4 l4 c4 a5 l5 c5 a6 l6 c6 w K}(h:JX n1 n2 u1 u2 a1 l1 c1 a2 l2 c2 a3 l3 c3 n3 n4 u3 u4 a4 l4 c4 a5 l5 c5 a6 l6 c6 w K):CP 15 #[.agg (iv n1 :: iv n2 :: u1.on (u2.on [.slice a1 l1 c1,.slice a2 l2 c2,.slice a3 l3 c3]):List Value).toArray,.agg (iv n3 :: iv n4 :: u3.on (u4.on [.slice a4 l4 c4,.slice a5 l5 c5,.slice a6 l6 c6]):List Value).toArray] w K:=ah (aE []) func15 (by kernel_rfl) (by kernel_rfl) h

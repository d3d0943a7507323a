import Derived.Test.YtemiicbbbojdiaaGreatDoorD19
set_option linter.unusedVariables false
set_option maxRecDepth 100000
namespace Go.Proofs.YtemiicbbbojdiaaGreatDoor
open Go Go.Vc _root_.Go.Proofs.Tryz
def mR(a:Nat)(w:World)(K:KP):=∃ b c d e f g h i j k l m n o p q r s t,∃ u:I6,∃ v x y z A B C,∃ D:I6,∃ E F G H I J L,∃ M:I6,∃ N O P Q R S T,∃ U:I6,∃ V W X Y Z a1 a2,∃ a3:I6,∃ a4 a5 a6 a7 a8 a9 b1,∃ b2:I6,∃ b3 b4 b5 b6 b7 b8 b9,∃ c1:I6,∃ c2 c3 c4 c5 c6 c7 c8,∃ c9:I6,∃ d1 d2 d3 d4 d5 d6 d7 d8 d9,af w (qd a 0) 0 (iv b :: iv c :: iv d :: iv e :: iv f :: .slice g h i :: .slice j k l :: .slice m n o :: .slice p q r :: .pointer s :: iv t :: u.on (iv v :: .slice x y z :: .bool A :: .bool B :: iv C :: D.on (iv E :: .slice F G H :: .bool I :: .bool J :: iv L :: M.on (iv N :: .slice O P Q :: .bool R :: .bool S :: iv T :: U.on (iv V :: .slice W X Y :: .bool Z :: .bool a1 :: iv a2 :: a3.on (iv a4 :: .slice a5 a6 a7 :: .bool a8 :: .bool a9 :: iv b1 :: b2.on (iv b3 :: .slice b4 b5 b6 :: .bool b7 :: .bool b8 :: iv b9 :: c1.on (iv c2 :: .slice c3 c4 c5 :: .bool c6 :: .bool c7 :: iv c8 :: c9.on [iv d1,.slice d2 d3 d4,.bool d5,.bool d6,.int .u64 d7,iv d8,.int .u64 d9]))))))))/\av w (.cells #[qz,qz,qz,qz,qz,qn,qn,qn,qn,.pointer none,qz,qz,qz,qz,qz,qz,qz,qz,qn,.bool false,.bool false,qz,qz,qz,qz,qz,qz,qz,qz,qn,.bool false,.bool false,qz,qz,qz,qz,qz,qz,qz,qz,qn,.bool false,.bool false,qz,qz,qz,qz,qz,qz,qz,qz,qn,.bool false,.bool false,qz,qz,qz,qz,qz,qz,qz,qz,qn,.bool false,.bool false,qz,qz,qz,qz,qz,qz,qz,qz,qn,.bool false,.bool false,qz,qz,qz,qz,qz,qz,qz,qz,qn,.bool false,.bool false,qz,qz,qz,qz,qz,qz,qz,qz,qn,.bool false,.bool false,.int .u64 0,qz,.int .u64 0] 86) λ e1 e2=>aK (qd e1 0) 0 (iv b :: iv c :: iv d :: iv e :: iv f :: .slice g h i :: .slice j k l :: .slice m n o :: .slice p q r :: .pointer s :: iv t :: u.on (iv v :: .slice x y z :: .bool A :: .bool B :: iv C :: D.on (iv E :: .slice F G H :: .bool I :: .bool J :: iv L :: M.on (iv N :: .slice O P Q :: .bool R :: .bool S :: iv T :: U.on (iv V :: .slice W X Y :: .bool Z :: .bool a1 :: iv a2 :: a3.on (iv a4 :: .slice a5 a6 a7 :: .bool a8 :: .bool a9 :: iv b1 :: b2.on (iv b3 :: .slice b4 b5 b6 :: .bool b7 :: .bool b8 :: iv b9 :: c1.on (iv c2 :: .slice c3 c4 c5 :: .bool c6 :: .bool c7 :: iv c8 :: c9.on [iv d1,.slice d2 d3 d4,.bool d5,.bool d6,.int .u64 d7,iv d8,.int .u64 d9])))))))) e2 λ b=>∃ c,b.cell? (qd a 9)=some (.pointer c)/\CC 49 #[.pointer c] b λ a b=>∃ c,a=.returned (.pointer c)/\aQ b (qd e1 9) (.pointer c) λ a=>K (qp e1) a
theorem sJ{b1 w K}(h:mR b1 w K):CP 30 #[.pointer (some ⟨b1,0,none⟩)] w K:=ah (aE []) func30 (by kernel_rfl) (by kernel_rfl) h
section
variable {w0 w:World} {b:Nat} {S:Sx} {C:Ck} {B:aG}
def Ye(w0:World)(b:Nat)(S:Sx)(C:Ck)(e:Ev)(Q:World->Prop)(B:aG):KP:=λ r w'=>r=iv (xO S C e) /\
 (xO S C e≠0->St w0 w' (Sep [ai b S.cells.toArray 86,BS S.k C,held Q,B])) /\
 (xO S C e=0->∃ (S' : Sx) (C' : Ck),S'.er=(Kv S C e).er/\C'.er=(Tt S C e).er/\S'.s=S.s/\S'.bd=S.bd/\(∃ g,S'.k=some ⟨g,0,none⟩)/\St w0 w' (Sep [ai b S'.cells.toArray 86,BS S'.k C',held Q,B]))
set_option maxHeartbeats 1000000 in
theorem Me{Q:World->Prop}(hQ:∀ w,Q w->IZ S w)(s:St w0 w (Sep [ai b S.cells.toArray 86,BS S.k C,held Q,B]))(hok:lW S C)(hk:E3 S){e:Ev}(hi:e.In)(hd:e.kind=2) :
  CP 31 #[pt b,e.v] w ((Ye w0 b S C e Q B)):=by
 have h8:=hok.b8;obtain⟨b0,b1,b2,b3,b4,b5,b6,b7,hb⟩:=bM h8;refine iX (u1:=e.want) ?_;unfold gA;refine s.aB #[pt b] λ r1 w1 s1=>s1.aB e.cells.toArray λ r2 w2 s2=>s2.aB #[iv 0] λ r3 w3 s3=>?_;let M:Int->List aG:=λ x=>[ai r3 #[iv x] 45,ai r2 e.cells.toArray 71,ai r1 #[pt b] 27,ai b S.cells.toArray 86,BS S.k C,held Q,B];have s3:St w0 w3 (Sep (M 0)):=s3;have fin:∀ {x:Int} {w' : World},x≠0->iZ S e=x->St w0 w' (Sep (M 0))->aQ w' ⟨r3,0,none⟩ (iv x) λ w6=>∃ n:Int,w6.cell? ⟨r3,0,none⟩=some (iv n)/\Ye w0 b S C e Q B (iv n) w6:=λ {x w'} hx hs s =>
  s.aJ 0 rfl (by show 0<1; decide) rfl λ w6 s6=>⟨_,s6.ag 0 rfl 0,by
   have:xO S C e=x:=by rw[xO,if_pos (by rw[hs]; exact hx),hs]
   exact⟨by rw[this],λ _=>s6.ay [3,4,5,6],λ h=>absurd (this.symm.trans h) hx⟩⟩
 refine⟨_,s3.ag 2 rfl 0,cF rfl ⟨_,_,_,e.want,_,_,s3.cellsIn 1 rfl,an (wP w3 hi) ?_⟩⟩;rintro v w5 ⟨rfl,c5⟩;have s5:=s3.quiet c5;refine⟨_,rfl,?_⟩
 by_cases he : ¬ dY e=0
 ·exact cT (by simpa using he) (fin he (by rw[iZ,if_pos he]) s5)
 have he:dY e=0:=by simpa using he
 have hR:=rB he hi.d;have hR1:1<=e.kind:=DT he;have e1:iZ S e=if 600<=S.cnt then 18 else if eD e.kind S.ph=false then 10 else if aX e.kind=true/\(S.s.bd.length:Int)<=e.bidder then 6 else if aX e.kind=true/\(S.bd.getD e.bidder.toNat dQ).out=true then 10 else 0:=by rw[iZ,if_neg (λ h=>h he)]
 have c99:∀ {w' : World} {l:List aG} {i:Nat},St w0 w' (Sep l)->l[i]?=some (ai b S.cells.toArray 86)->w'.cell? ⟨b,99,none⟩=some (iv S.cnt):=λ s e=>by rw[s.ag _ e]; exact EP h8
 refine cF (by simpa using he) ⟨_,s5.ag 2 rfl 0,aq rfl ⟨_,c99 s5 (i:=3) rfl,?_⟩⟩
 by_cases h600:600<=S.cnt
 ·exact cT (dT h600) (fin (by decide) (by rw[e1,if_pos h600]) s5)
 rw[if_neg h600] at e1;have s6:=s5.quiet (Chg.drew w5 []);refine cF (dF h600) ⟨_,s6.ag 1 rfl 0,_,s6.ag 2 rfl 0,aq rfl ⟨_,(s6.ag 3 rfl 4).trans rfl,an (Be _ _ _) ?_⟩⟩;rintro v w8 ⟨rfl,rfl⟩;refine⟨_,rfl,?_⟩
 cases hp:eD e.kind S.ph with
 | false=>exact cT rfl (fin (by decide) (by rw[e1,if_pos hp]) s6)
 | true =>
 rw[if_neg (by rw[hp]; decide)] at e1;refine cF rfl ⟨λ bb w10=>bb=decide (aX e.kind=true/\(S.s.bd.length:Int)<=e.bidder)/\St w0 w10 (Sep (M 0)),?_,?_⟩
 rotate_left
 ·have s7:=s6.quiet (Chg.drew w5.drew []);refine⟨_,s7.ag 1 rfl 0,an (zK _ _) ?_⟩;rintro v w30 ⟨rfl,rfl⟩;refine⟨_,rfl,?_⟩
  cases hn:aX e.kind with
  | true =>
   refine cT rfl ⟨_,s7.ag 1 rfl 1,_,s7.ag 2 rfl 0,aq rfl ⟨_,_,_,(s7.ag 3 rfl 6).trans rfl,?_,s7⟩⟩
   by_cases hl:e.bidder>=(S.s.bd.length:Int)
   ·rw[dT hl,dT ⟨rfl,hl⟩]
   ·rw[dF hl,dF λ h=>hl h.2]
  | false=>exact cF rfl ⟨by rw[dF λ h=>by cases h.1],s7⟩
 rintro w10 bb ⟨rfl,s10⟩ x1
 by_cases hq:aX e.kind=true/\(S.s.bd.length:Int)<=e.bidder
 ·exact cT (dT hq) (fin (by decide) (by rw[e1,if_pos hq]) s10)
 rw[if_neg hq] at e1;have hnb:aX e.kind=true->e.bidder<S.s.bd.length:=λ h=>by
  rcases Int.lt_or_le e.bidder S.s.bd.length with h1|h1
  ·exact h1
  ·exact absurd ⟨h,h1⟩ hq
 refine cF (dF hq) ⟨λ bb w12=>bb=decide (aX e.kind=true/\(S.bd.getD e.bidder.toNat dQ).out=true)/\St w0 w12 (Sep (M 0)),?_,?_⟩
 rotate_left
 ·have s11:=s10.quiet (Chg.drew w10 []);refine⟨_,s11.ag 1 rfl 0,an (zK _ _) ?_⟩;rintro v w29 ⟨rfl,rfl⟩;refine⟨_,rfl,?_⟩
  cases hn:aX e.kind with
  | true =>
   have hb8:0<=e.bidder/\e.bidder<8:=hR.b;have eb:e.bidder=(e.bidder.toNat:Int):=(Int.toNat_of_nonneg hb8.1).symm;have co:w10.drew.cell? (Addr.add (Addr.add (Addr.add ⟨b,0,none⟩ 10) ((e.bidder).toNat*11)) 10)=some (.bool (S.bd.getD e.bidder.toNat dQ).out):=by
    rw[bq,bq,bq,s11.ag 3 rfl];rw[show 0+10+e.bidder.toNat*11+10=10+e.bidder.toNat*11+10 by omega];exact OH h8 (by omega) (getD_at (by omega))
   refine cT rfl ⟨_,s11.ag 2 rfl 0,_,s11.ag 1 rfl 1,aq rfl ⟨hb8.1,by omega,_,co,?_,s11⟩⟩
   cases ho:(S.bd.getD e.bidder.toNat dQ).out with
   | true=>rw[dT ⟨rfl,rfl⟩]
   | false=>rw[dF λ h=>by cases h.2]
  | false=>exact cF rfl ⟨by rw[dF λ h=>by cases h.1],s11⟩
 rintro w12 bb ⟨rfl,s12⟩ x2
 by_cases ho:aX e.kind=true/\(S.bd.getD e.bidder.toNat dQ).out=true
 ·exact cT (dT ho) (fin (by decide) (by rw[e1,if_pos ho]) s12)
 rw[if_neg ho] at e1;have eA:xO S C e=bW S C e:=by rw[xO,if_neg (λ h=>h e1)]
 have hcl:af w12 ⟨b,0,none⟩ 0 S.cells:=s12.cellsIn 3 rfl;have hlen:S.cells.length=101:=Sx.len h8;have hone:=ER S;have eS:=EO hb;rw[eS] at hcl hlen hone;refine cF (dF ho) ⟨_,s12.ag 2 rfl 0,aq rfl ⟨_,_,_,_,_,_,_,_,_,_,_,_,_,_,_,_,_,_,_,b0.x.u,_,_,_,_,_,_,_,b1.x.u,_,_,_,_,_,_,_,b2.x.u,_,_,_,_,_,_,_,b3.x.u,_,_,_,_,_,_,_,b4.x.u,_,_,_,_,_,_,_,b5.x.u,_,_,_,_,_,_,_,b6.x.u,_,_,_,_,_,_,_,b7.x.u,_,_,_,_,_,_,_,_,_,hcl,s12.aB (ql ⟨0,0,0,0⟩).cells.toArray λ r4 w14 s14=>s14.aC 0 rfl _ (by rw[hlen]; rfl) hone λ w15 s15=>?_⟩⟩;rw[<- eS] at s15;have s16:=s15.quiet (Chg.drew w15 []);have s16:St w0 w15.drew (Sep (ai r4 S.cells.toArray 86 :: M 0)):=s16;refine⟨_,s16.ag 3 rfl 0,_,s16.ag 3 rfl 0,aq rfl ⟨S.k,by rw[bq,s16.ag 4 rfl]; exact jb h8,?_⟩⟩;have h0:S.ph≠0:=λ h=>by
  rw[hd] at hp;rw[h] at hp;revert hp; decide
 obtain⟨g0,hg0⟩:=hk.2 h0;have hSI:rT S C w15.drew:=⟨hQ _ (s16.aP 6 rfl),λ q hq=>by
  have t:=(s16.out 5 rfl).first;rw[hq] at t;rw[hg0] at hq
  cases hq
  exact⟨g0,rfl,(show St w0 w15.drew (Sep (dR g0 C)) from t).imp sV⟩⟩
 refine an (zC hSI hok hk) ?_;rintro v w16 ⟨p,C1,rfl,eC1,hk1,k16⟩;obtain⟨g,hg⟩:=hk1.2 h0;have hg:p=some ⟨g,0,none⟩:=hg;subst hg;let S1:Sx:={ S with k:=some ⟨g,0,none⟩ };have e1S:S1.er=S.er:=rfl;have hok1:lW S1 C1:=⟨h8,hok.ph,hok.z,λ h=>(hok.c h).er eC1,λ h=>(show C1.er.s=C.er.s from congrArg Ck.s eC1).trans (hok.cs h),hok.so,hok.cnt,hok.dig,hok.x⟩;have s17:St w0 w16 (Sep (BS (some ⟨g,0,none⟩) C1 :: ai r4 S.cells.toArray 86 :: M 0)):=s16.and k16;refine⟨_,rfl,s17.ag 4 rfl 0,aq rfl ?_⟩;rw[bq];refine s17.aJ 5 rfl (j:=0+9) (by show 0+9<S.cells.toArray.size; rw[cI h8]; decide) rfl λ w17 s18=>?_;rw[show 0+9=9 from rfl,RW h8] at s18;refine⟨_,s18.ag 4 rfl 0,_,s18.ag 3 rfl 0,an (FA w17 b e.kind) ?_⟩;rintro v w18 ⟨rfl,rfl⟩;refine⟨_,rfl,_,s18.ag 4 rfl 0,_,_,_,e.want,_,_,s18.cellsIn 3 rfl,br (As e.kind) ?_⟩;let R5:List aG:=[ai r4 S.cells.toArray 86,ai r3 #[iv 0] 45,ai r2 e.cells.toArray 71,ai r1 #[pt b] 27,BS S.k C,held Q,B];have q1:St w0 w18 (Sep (Sep (dR g C1) :: ai b S1.cells.toArray 86 :: R5)):=s18.ay [0,5,1,2,3,4,6,7,8];have q2:St w0 w18 (Sep (dR g C1++ai b S1.cells.toArray 86 :: R5)):=St.cat q1;have q3:St w0 w18 (Sep (cU b S1 g C1++R5)):=q2.ay [6,0,1,2,3,4,5,7,8,9,10,11,12,13];have q4:St w0 w18 (Sep (cU b S1 g C1++[Sep R5])):=St.cat ((q3.split (cU b S1 g C1)).eqv (bw.right (bw.unit _)));have fold:∀ {w' : World} {C' : Ck},St w0 w' (Sep (cU b S1 g C'++[Sep R5]))->St w0 w' (Sep (ai b S1.cells.toArray 86 :: BS (some ⟨g,0,none⟩) C' :: R5)):=λ {w' C'} q=>by
  have q5:St w0 w' (Sep (cU b S1 g C'++R5)):=q.dG [_,_,_,_,_,_,_];have q6:St w0 w' (Sep (dR g C'++ai b S1.cells.toArray 86 :: R5)):=q5.ay [1,2,3,4,5,6,0,7,8,9,10,11,12,13];have q7:St w0 w' (Sep (Sep (dR g C') :: ai b S1.cells.toArray 86 :: R5)):=q6.split _;exact q7.ay [1,0,2,3,4,5,6,7,8]
 have hcs:=jQ (hok1.cs h0);have hC:=(hok1.c h0).ok;have hnb':=hnb (by rw[aX,dT (Or.inl hd)]);have n1:e.kind≠1:=by rw[hd]; decide
 have eF:eL e.kind=96:=by rw[eL,if_neg n1,if_pos hd]
 have eb:e.bidder=(e.bidder.toNat:Int):=(Int.toNat_of_nonneg hR.b.1).symm;have eE:bW S1 C1 e=kD C1 e.bidder.toNat (C1.s.bd.getD e.bidder.toNat L3) e.want:=by rw[bW,if_neg n1,if_pos hd]
 have eS:bu S1 C1 e=S1:=by rw[bu,if_neg n1,if_pos hd]
 have eC:bV S1 C1 e=nt C1 e.bidder.toNat e.want:=by rw[bV,if_neg n1,if_pos hd]
 rw[eF];refine an (C8 q4 h8 rfl hC eb (getD_at (d:=L3) (by rw[hcs]; show e.bidder.toNat<S.s.bd.length; omega))) ?_;rintro v w19 ⟨rfl,k1⟩;have eE1:bW S1 C1 e=bW S C e:=by rw[<- uQ S1 C1,eC1,e1S,uQ]
 have eS1:(bu S1 C1 e).er=(bu S C e).er:=by rw[<- uR S1 C1,eC1,e1S,uR]
 have eC2:(bV S1 C1 e).er=(bV S C e).er:=by rw[<- uP S1 C1,eC1,e1S,uP]
 have eV:kD C1 e.bidder.toNat (C1.s.bd.getD e.bidder.toNat L3) e.want=bW S C e:=eE.symm.trans eE1;rw[eV] at k1 ⊢
 by_cases h0' : bW S C e=0
 ·rw[if_pos h0'] at k1;have s20:=fold k1;have eS3:S1.er=(bu S C e).er:=by rw[<- eS1,eS]
  have hcnt:S1.cnt=S.cnt:=rfl;have hdig:S1.dig=((S.dig.toNat:Nat):Int):=(Int.toNat_of_nonneg hok.dig.1).symm;have hc600:=hok.cnt;have h8' : S1.bd.length=8:=h8;rw[h0'];refine⟨_,rfl,s20.aJ 3 rfl (by show 0<1; decide) rfl λ w20 s21=>⟨_,s21.ag 3 rfl 0,cF rfl ⟨_,_,_,e.want,_,_,s21.cellsIn 4 rfl,an (FB w20 hi) ?_⟩⟩⟩;rintro v w23 ⟨rfl,c23⟩;rw[if_pos he,he];have s22:=s21.quiet c23;have c99:w23.cell? ⟨b,0+99,none⟩=some (iv S1.cnt):=by rw[s22.ag 0 rfl]; exact EP h8'
  refine⟨_,_,rfl,_,s22.ag 5 rfl 0,aq rfl ⟨_,by rw[bq]; exact c99,aq rfl ?_⟩⟩;rw[bq,aF (n:=S1.cnt+1) ⟨by omega,by omega⟩];refine s22.aJ 0 rfl (j:=0+99) (by rw[cI h8']; decide) rfl λ w24 s23=>?_;rw[show 0+99=99 from rfl,S6 h8'] at s23;have s24:=s23.quiet (Chg.drew w24 []);have h83:({ S1 with cnt:=S1.cnt+1 }:Sx).bd.length=8:=h8';have c100:w24.drew.cell? ⟨b,0+100,none⟩=some (.int .u64 ((S.dig.toNat:Nat):Int)):=by rw[s24.ag 0 rfl,<- hdig]; exact Ke h83
  have hbl:=Cw he;refine⟨_,s24.ag 5 rfl 0,_,s24.ag 5 rfl 0,aq rfl ⟨_,by rw[bq]; exact c100,an (I9 _ S.dig.toNat (cJ e) (by omega)) ?_⟩⟩;rintro v w25 ⟨rfl,c25⟩;have s25:=s24.quiet c25;refine⟨_,rfl,s25.ag 5 rfl 0,aq rfl ?_⟩;rw[bq];refine s25.aJ 0 rfl (j:=0+100) (by rw[cI h83]; decide) rfl λ w26 s26=>?_;rw[show 0+100=100 from rfl,S7 h83] at s26;refine s26.aJ 3 rfl (by show 0<1; decide) rfl λ w27 s27=>?_;let S3:Sx:={ S1 with cnt:=S1.cnt+1,dig:=((gY S.dig.toNat (cJ e):Nat):Int) };have s30:St w0 w27 (Sep (ai r4 S.cells.toArray 86 :: ai r3 #[iv 0] 45 :: ai r1 #[pt b] 27 :: ai b S3.cells.toArray 86 :: [BS (some ⟨g,0,none⟩) (nt C1 e.bidder.toNat e.want),held Q,B])):=s27.ay [2,3,5,0,1,7,8];refine rL s30 h8 (show S3.bd.length=8 from h8') (λ _=>⟨_,s30.ag 1 rfl 0,by rw[eA,h0'],λ h=>absurd (eA.trans h0') h,λ _=>⟨S3,nt C1 e.bidder.toNat e.want,?_,?_,rfl,rfl,⟨g,rfl⟩,s30.ay [3,4,5,6]⟩⟩) (λ h=>absurd rfl h)
  ·show({ S1.er with cnt:=S1.cnt+1,dig:=((gY S.dig.toNat (cJ e):Nat):Int) }:Sx)={ (bu S C e).er with cnt:=S.cnt+1,dig:=((gY S.dig.toNat (cJ e):Nat):Int) };rw[eS3]
  ·rw[<- eC]; exact eC2
 ·rw[if_neg h0'] at k1;have s20:=fold k1;refine⟨_,rfl,s20.aJ 3 rfl (by show 0<1; decide) rfl λ w20 s21=>⟨_,s21.ag 3 rfl 0,cT (by simpa using h0') ⟨_,s21.ag 3 rfl 0,s21.aJ 3 rfl (by show 0<1; decide) rfl λ w21 s22=>?_⟩⟩⟩;have s23:St w0 w21 (Sep (ai r4 S.cells.toArray 86 :: ai r3 #[iv (bW S C e)] 45 :: ai r1 #[pt b] 27 :: ai b S1.cells.toArray 86 :: [BS S.k C,held Q,B])):=s22.ay [2,3,5,0,6,7,8];refine rL s23 h8 h8 (λ h=>absurd h h0') λ _ w22 s24=>⟨_,s24.ag 1 rfl 0,by rw[eA],λ _=>s24.ay [3,4,5,6],λ h=>absurd (eA.symm.trans h) h0'⟩
end
def jq(a b c d:Int)(e:OA)(f g:Nat)(h:OA)(i j:Nat)(k:Int)(w:World)(K:KP):=av w (.cells #[iv a,iv b,iv c,iv d] 23) λ a b=>∃ c:Bool->qW,(∀ d j,c j d->∀ l:qv,cond j (CC 9 #[] d λ j l=>∃ m,j=.returned (.bool m)/\K (.bool m) l) (∃ j l m n,af d (qd a 0) 0 [iv j,iv l,iv m,iv n]/\CC 10 #[.agg #[iv j,iv l,iv m,iv n],.slice e f g] d λ a d=>∃ j,a=.returned (.pointer j)/\cond (j).isNone (K (.bool false) d) (CC 30 #[.pointer j] d λ a d=>∃ l,a=.returned (.pointer l)/\cond (l).isNone (K (.bool false) d) (∃ a:Int->qN,(∃ m,a 0 d m)/\∀ d m n,a n d m->∀ o:qv,cond (decide (n<(i:Int))) (∃ o:qW,(∀ p,o p->∀ q:qv,∃ q,q<m/\a (IntKind.i64.wrap (n+1)) p q)/\au h λ a=>0<=n/\n<(i:Int)/\∃ m,d.cell? (Addr.add a ((n).toNat*11))=some (iv m)/\cond (m==2) (au h λ a=>0<=n/\n<(i:Int)/\∃ h m p,∃ q:I6,∃ r s,af d (Addr.add a ((n).toNat*11)) 0 (iv h :: iv m :: iv p :: q.on [.string r,.int .u64 s])/\CC 31 #[.pointer l,.agg (iv h :: iv m :: iv p :: q.on [.string r,.int .u64 s]:List Value).toArray] d λ a h=>∃ m,a=.returned (iv m)/\o h) (o d)) (∃ a:Int->qN,(∃ h,a 0 d h)/\∀ d h m,a m d h->∀ n:qv,cond (decide (m<4)) (CC 12 #[.pointer j,iv m,iv k] d λ j n=>∃ o p,∃ q r:I6,∃ s t u v x y z A B C,j=.returned (.tuple #[.agg (iv o :: iv p :: q.on (r.on [.slice s t u,.slice v x y,.slice z A B]):List Value).toArray,iv C])/\av n (.cells #[qz,qz,qz,qz,qz,qz,qz,qz,qz,qz,qz,qz,qz,qz,qn,qn,qn] 44) λ j n=>aK (qd j 0) 0 (iv o :: iv p :: q.on (r.on [.slice s t u,.slice v x y,.slice z A B])) n λ n=>CC 12 #[.pointer l,iv m,iv k] n λ k l=>∃ n o,∃ p q:I6,∃ r s t u v x y z A B,k=.returned (.tuple #[.agg (iv n :: iv o :: p.on (q.on [.slice r s t,.slice u v x,.slice y z A]):List Value).toArray,iv B])/\av l (.cells #[qz,qz,qz,qz,qz,qz,qz,qz,qz,qz,qz,qz,qz,qz,qn,qn,qn] 44) λ k l=>aK (qd k 0) 0 (iv n :: iv o :: p.on (q.on [.slice r s t,.slice u v x,.slice y z A])) l λ l=>∃ n:Bool->qW,(∀ o p,n p o->∀ q:qv,cond p (K (.bool false) o) (∃ p,p<h/\a (IntKind.i64.wrap (m+1)) o p))/\cond (C !=B) (n true l.drew) (∃ a h,∃ m o:I6,∃ p q r s t u v x y,af l.drew (qd j 0) 0 (iv a :: iv h :: m.on (o.on [.slice p q r,.slice s t u,.slice v x y]))/\∃ j z,∃ A B:I6,∃ C D E F G H I J L,af l.drew (qd k 0) 0 (iv j :: iv z :: A.on (B.on [.slice C D E,.slice F G H,.slice I J L]))/\CC 16 #[.agg (iv a :: iv h :: m.on (o.on [.slice p q r,.slice s t u,.slice v x y]):List Value).toArray] l.drew λ a h=>∃ l m,∃ o p:I6,∃ q r s t u v x y M,a=.returned (.agg (iv l :: iv m :: o.on (p.on [.slice q r s,.slice t u v,.slice x y M]):List Value).toArray)/\af h (qd k 0) 0 (iv j :: iv z :: A.on (B.on [.slice C D E,.slice F G H,.slice I J L]))/\CC 16 #[.agg (iv j :: iv z :: A.on (B.on [.slice C D E,.slice F G H,.slice I J L]):List Value).toArray] h λ a h=>∃ j k,∃ z A:I6,∃ B C D E F G H I J,a=.returned (.agg (iv j :: iv k :: z.on (A.on [.slice B C D,.slice E F G,.slice H I J]):List Value).toArray)/\CC 15 #[.agg (iv l :: iv m :: o.on (p.on [.slice q r s,.slice t u v,.slice x y M]):List Value).toArray,.agg (iv j :: iv k :: z.on (A.on [.slice B C D,.slice E F G,.slice H I J]):List Value).toArray] h λ a h=>∃ j,a=.returned (.bool j)/\n (!j) h)) (CC 9 #[] d λ a d=>∃ h,a=.returned (.bool h)/\K (.bool h) d))))))/\CC 8 #[.slice e f g] b λ a b=>∃ d,a=.returned (.bool d)/\cond (!d) (c true b) (c (decide ((i:Int)>(12:Int))) b)
theorem nJ{n1 n2 n3 n4 a1 l1 c1 a2 l2 c2 n5 w K}(h:jq n1 n2 n3 n4 a1 l1 c1 a2 l2 c2 n5 w K):CP 7 #[.agg #[iv n1,iv n2,iv n3,iv n4],.slice a1 l1 c1,.slice a2 l2 c2,iv n5] w K:=ah (aE [(6,[(24,.s .bool)]),(1018,[(11,.s (.int .i64))]),(4073,[]),(2042,[(12,.s (.int .i64))]),(130707,[(81,.s .bool)])]) func7 (by kernel_rfl) (by kernel_rfl) h
theorem PC{S:Sx}{C:Ck}(hk:E3 S):gU (BS S.k C) (λ w=>∀ q,S.k=some q->∃ g,q=⟨g,0,none⟩/\C.Rd g w):=λ w F hF q hq=>by
 by_cases h0:S.ph=0
 ·rw[hk.1 h0] at hq; cases hq
 ·obtain⟨g,hg⟩:=hk.2 h0;rw[hg] at hq hF
  cases hq
  exact⟨g,rfl,sV w F hF⟩
section
variable {w0 w:World} {bx bY:Nat} {S Sy:Sx} {C Cy:Ck} {B:aG}
def ZL(bx bY:Nat)(S:Sx)(C:Ck)(Sy:Sx)(Cy:Ck)(B:aG):List aG:=[ai bY Sy.cells.toArray 86,BS Sy.k Cy,ai bx S.cells.toArray 86,held (rT S C),B]
theorem Yk(s:St w0 w (Sep (ZL bx bY S C Sy Cy B)))(hk:E3 S):St w0 w (star (tA bx S.er C.er) B):=vX rfl rfl hk (s.ay [2,3,4])
theorem Yl(s:St w0 w (Sep (ZL bx bY S C Sy Cy B)))(hs:Sy.s=S.s)(hb:Sy.bd=S.bd)(hk:E3 Sy):St w0 w (star (tA bY Sy.er Cy.er) B):=by
 have s1:St w0 w (Sep [BS Sy.k Cy,held (rT S C),ai bY Sy.cells.toArray 86,B]):=s.ay [1,3,0,4];have s2:=s1.j4 (S:=rT Sy Cy) (PC hk) (aU _) (λ w h1 h2=>⟨⟨by rw[hs]; exact h2.h.1,by rw[hb]; exact h2.h.2⟩,h1⟩);exact vX rfl rfl hk (s2.ay [1,0,2])
theorem RD(s:St w0 w (Sep [ai bx S.cells.toArray 86,held (rT S C),B]))(hok:lW S C)(hk:E3 S) :
  CP 30 #[pt bx] w (λ r w'=>∃ (b:Nat) (p:OA) (C1:Ck),r=pt b/\C1.er=C.er/\E3 { S with k:=p }/\St w0 w' (Sep (ZL bx b S C { S with k:=p } C1 B))):=by
 have h8:=hok.b8;obtain⟨b0,b1,b2,b3,b4,b5,b6,b7,hb⟩:=bM h8;refine sJ ?_;unfold mR;have hcl:af w ⟨bx,0,none⟩ 0 S.cells:=s.cellsIn 0 rfl;have hlen:S.cells.length=101:=Sx.len h8;have hone:=ER S;have eS:=EO hb;rw[eS] at hcl hlen hone;refine⟨_,_,_,_,_,_,_,_,_,_,_,_,_,_,_,_,_,_,_,b0.x.u,_,_,_,_,_,_,_,b1.x.u,_,_,_,_,_,_,_,b2.x.u,_,_,_,_,_,_,_,b3.x.u,_,_,_,_,_,_,_,b4.x.u,_,_,_,_,_,_,_,b5.x.u,_,_,_,_,_,_,_,b6.x.u,_,_,_,_,_,_,_,b7.x.u,_,_,_,_,_,_,_,_,_,hcl,s.aB (ql ⟨0,0,0,0⟩).cells.toArray λ r1 w1 s1=>s1.aC 0 rfl _ (by rw[hlen]; rfl) hone λ w2 s2=>?_⟩;rw[<- eS] at s2;have s2:St w0 w2 (Sep [ai r1 S.cells.toArray 86,ai bx S.cells.toArray 86,held (rT S C),B]):=s2;refine⟨S.k,by rw[s2.ag 1 rfl]; exact jb h8,an (zC (s2.aP 2 rfl) hok hk) ?_⟩;rintro v w3 ⟨p,C1,rfl,eC1,hk1,k3⟩;have s3:St w0 w3 (Sep [BS p C1,ai r1 S.cells.toArray 86,ai bx S.cells.toArray 86,held (rT S C),B]):=s2.and k3;refine⟨p,rfl,s3.aJ 1 rfl (j:=9) (by rw[cI h8]; decide) rfl λ w4 s4=>⟨r1,p,C1,rfl,eC1,hk1,?_⟩⟩;rw[RW h8] at s4;exact s4.ay [1,0,2,3,4]
end
structure O5 (S:Sx) (C:Ck) (Sy:Sx) (Cy:Ck):Prop where
 s:Sy.s=S.s
 bd:Sy.bd=S.bd
 ph:Sy.ph=S.ph
 cl:Cy.er.cl=C.er.cl
 p:Cy.p=C.p
 ok:lW Sy Cy
 k:E3 Sy
theorem O5.next{S Sy S' : Sx}{C Cy C' : Ck}(h:O5 S C Sy Cy){e:Ev}(hi:e.In)(hd:e.kind=2)(h0:xO Sy Cy e=0)(eS:S'.er=(Kv Sy Cy e).er)(eC:C'.er=(Tt Sy Cy e).er)(es:S'.s=Sy.s)(eb:S'.bd=Sy.bd)(ek:∃ g,S'.k=some ⟨g,0,none⟩):O5 S C S' C':=by
 obtain⟨o1,o2⟩:=Md h.ok h0 hi;have n1:e.kind≠1:=by rw[hd]; decide
 have fS:bu Sy Cy e=Sy:=by rw[bu,if_neg n1,if_pos hd]
 have fC:Tt Sy Cy e=nt Cy e.bidder.toNat e.want:=show bV Sy Cy e=_ by rw[bV,if_neg n1,if_pos hd]
 have hph:S'.ph=(Kv Sy Cy e).ph:=show S'.er.ph=(Kv Sy Cy e).er.ph by rw[eS]
 have hph2:(Kv Sy Cy e).ph=Sy.ph:=show(bu Sy Cy e).ph=Sy.ph by rw[fS]
 refine⟨es.trans h.s,eb.trans h.bd,(hph.trans hph2).trans h.ph,?_,?_,o1.er eS eC,⟨λ z=>absurd (hph.symm.trans z) o2,λ _=>ek⟩⟩
 ·rw[eC,fC];show Cy.er.cl=_;exact h.cl
 ·have:C'.er.p=(Tt Sy Cy e).er.p:=by rw[eC]
  rw[fC] at this;exact(show C'.p=Cy.p from this).trans h.p
theorem O5.o8{S Sy:Sx}{C Cy:Ck}(h:O5 S C Sy Cy)(k vw:Int):o8 Sy.er k vw=o8 S.er k vw:=by
 unfold Proofs.YtemiicbbbojdiaaGreatDoor.o8;rw[show Sy.er.s.bd=S.er.s.bd from by show Sy.s.bd=S.s.bd; rw[h.s],show Sy.er.ph=S.er.ph from h.ph]
theorem O5.EF{S Sy:Sx}{C Cy:Ck}(h:O5 S C Sy Cy)(k vw:Int):EF Sy.er Cy.er k vw=EF S.er C.er k vw:=by
 have e1:Sy.er.ph=S.er.ph:=h.ph;have e2:Cy.er.p=C.er.p:=h.p;have e3:Sy.er.s=S.er.s:=by show Sy.s.er=S.s.er; rw[h.s]
 have e4:dA Cy.er vw=dA C.er vw:=by unfold dA wz; rw[h.cl]
 have e5:jf Sy.er Cy.er (bS k vw)=jf S.er C.er (bS k vw):=by unfold jf; rw[h.cl,e3]
 have e6:wN Cy.er (bS k vw)=wN C.er (bS k vw):=by unfold wN; rw[h.cl]
 have e7:sE Sy.er (bS k vw)=sE S.er (bS k vw):=by unfold sE; rw[e3]
 unfold Proofs.YtemiicbbbojdiaaGreatDoor.EF;rw[e1,e2,h.cl,e4,e5,e6,e7]
set_option maxHeartbeats 2000000 in
theorem Lw(aw:pG){w:World}{a1:OA}{c1:Nat}{l:List Ev}{a2:OA}{c2:Nat}{m:List Ev}(o:Po)(vw:Int)(h:bG 11 Ev.cells w a1 l)(hi:∀ e∈l,e.In)(h2:bG 11 Ev.cells w a2 m)(hi2:∀ e∈m,e.In) :
  CP 7 #[o.v,.slice a1 l.length c1,.slice a2 m.length c2,iv vw] w (λ r w'=>r=.bool true/\Chg w w' []):=by
 refine nJ ?_;unfold jq;refine(St.start w).one.aB o.cells.toArray λ r1 w1 s1=>⟨λ b w2=>(b=false->l.length<=60/\m.length<=12)/\St w w2 (Sep [ai r1 o.cells.toArray 23,emp]),?_,an (uX (bG.aA h s1.aA)) ?_⟩
 rotate_left
 ·rintro _ w2 ⟨b,rfl,rfl,hb⟩;refine⟨b,rfl,?_⟩
  cases b with
  | false=>exact cT rfl ⟨λ h=>(by cases h),s1⟩
  | true=>exact cF rfl ⟨λ h=>⟨hb rfl,by have:=of_decide_eq_false h; omega⟩,s1⟩
 rintro w2 b ⟨hb,s2⟩ -
 cases b with
 | true=>exact cT rfl (gW aw s2.aA)
 | false =>
 obtain⟨hl,hm⟩:=hb rfl;refine cF rfl ⟨_,_,_,_,s2.cellsIn 0 rfl,an (qj s2 o (bG.aA h) hi (by omega)) ?_⟩;rintro _ w3 ⟨bx,rfl,s3⟩;have hokE:=rF o l hi;generalize(made o l).1=SE at s3 hokE;generalize(made o l).2=CE at s3 hokE;obtain⟨S,C,rfl,rfl,hk,s4⟩:=rQ s3;have hok:lW S C:=BD hokE;let B:aG:=Sep [ai r1 o.cells.toArray 23,emp];refine⟨_,rfl,cF rfl (an (RD (B:=B) s4 hok hk) ?_)⟩;rintro _ w4 ⟨bY,p,C1,rfl,eC1,hk1,s5⟩;let S1:Sx:={ S with k:=p };have hok1:lW S1 C1:=⟨hok.b8,hok.ph,hok.z,λ h=>(hok.c h).er eC1,λ h=>(show C1.er.s=C.er.s from congrArg Ck.s eC1).trans (hok.cs h),hok.so,hok.cnt,hok.dig,hok.x⟩;have sam0:O5 S C S1 C1:=⟨rfl,rfl,rfl,by rw[eC1],show C1.er.p=C.er.p by rw[eC1],hok1,hk1⟩;refine⟨_,rfl,cF rfl ⟨λ n w' mm=>∃ (k:Nat) (Sy:Sx) (Cy:Ck),n=k/\k<=m.length/\mm=m.length-k/\O5 S C Sy Cy/\St w w' (Sep (ZL bx bY S C Sy Cy B)),⟨m.length,0,S1,C1,rfl,by omega,by omega,sam0,s5⟩,?_⟩⟩;rintro w6 mm n ⟨k,Sy,Cy,rfl,hkm,hmm,sam,s6⟩ -
 by_cases hlt:(k:Int)<(m.length:Int)
 ·have hx:m[k]?=some (m[k]'(by omega)):=gE (by omega);generalize m[k]'(by omega)=e at hx;obtain⟨q,hq,hcl⟩:=(bG.aA h2 s6.aA).at hx;have hie:=hi2 e (List.mem_of_getElem? hx);refine cT (dT hlt) ⟨λ w'=>∃ (Sy:Sx) (Cy:Ck),O5 S C Sy Cy/\St w w' (Sep (ZL bx bY S C Sy Cy B)),?_,aq hq ⟨by omega,by omega,e.kind,by have:=hcl.1; rwa [Addr.add_add] at this,?_⟩⟩
  ·rintro w7 ⟨Sy',Cy',sam',s7⟩ -;exact⟨m.length-(k+1),by omega,k+1,Sy',Cy',aF ⟨by omega,by omega⟩,by omega,rfl,sam',s7⟩
  ·by_cases hd:e.kind=2
   rotate_left
   ·exact cF (by simpa using hd) ⟨Sy,Cy,sam,s6⟩
   have t6:St w w6 (Sep [ai bY Sy.cells.toArray 86,BS Sy.k Cy,held (rT S C),Sep [ai bx S.cells.toArray 86,B]]):=St.cat (((s6.ay [0,1,3,2,4]).split [_,_,_]).eqv (bw.right (bw.unit _)));have back:∀ {w' : World} {S' : Sx} {C' : Ck},St w w' (Sep [ai bY S'.cells.toArray 86,BS S'.k C',held (rT S C),Sep [ai bx S.cells.toArray 86,B]])->St w w' (Sep (ZL bx bY S C S' C' B)):=λ {w' S' C'} q=>by
    have q2:St w w' (Sep ([ai bY S'.cells.toArray 86,BS S'.k C',held (rT S C)]++[ai bx S.cells.toArray 86,B])):=q.dG [_,_,_];exact q2.ay [0,1,3,2,4]
   refine cT (by simpa using hd) (aq hq ⟨by omega,by omega,e.kind,e.bidder,e.round,e.want,bs e.text,e.digest,hcl,an (Me (Q:=rT S C) (λ w' hq=>⟨by rw[sam.s]; exact hq.h.1,by rw[sam.bd]; exact hq.h.2⟩) t6 sam.ok sam.k hie hd) ?_⟩);rintro _ w8 ⟨rfl,g1,g2⟩;refine⟨_,rfl,?_⟩
   by_cases h0:xO Sy Cy e=0
   ·obtain⟨S',C',eS,eC,es,eb,ek,s8⟩:=g2 h0;exact⟨S',C',sam.next hie hd h0 eS eC es eb ek,back s8⟩
   ·exact⟨Sy,Cy,sam,back (g1 h0)⟩
 refine cF (dF hlt) ⟨λ n w' mm=>∃ k:Nat,n=k/\k<=4/\mm=4-k/\St w w' (Sep (ZL bx bY S C Sy Cy B)),⟨4,0,rfl,by omega,by omega,s6⟩,?_⟩;rintro w9 m3 n ⟨k,rfl,hk4,hm3,s9⟩ -
 by_cases hlt4:(k:Int)<4
 rotate_left
 ·exact cF (dF hlt4) (gW aw s9.aA)
 refine cT (dT hlt4) (an (qH (Yk s9 hk) hokE k vw) ?_);rintro _ w10 ⟨v,rfl,ev,k10⟩;obtain⟨n1,n2,n3⟩:=R9 hokE ev;have s10:St w w10 (Sep (held v.Rd :: ZL bx bY S C Sy Cy B)):=s9.and k10;refine⟨v.ph,v.rd,v.pr,v.ex,_,_,_,_,_,_,_,_,_,_,rfl,s10.aB lT.vals.toArray λ r2 w11 s11=>s11.aC 0 rfl v.vals rfl v.one λ w12 s12=>?_⟩;have s12:St w w12 (Sep (ai r2 v.vals.toArray 44 :: held v.Rd :: ZL bx bY S C Sy Cy B)):=s12;have hokY:lW Sy.er Cy.er:=sam.ok.er (gC Sy) (FF Cy);refine an (qH (Yl s12.second.second sam.s sam.bd sam.k) hokY k vw) ?_;rintro _ w13 ⟨v',rfl,ev',k13⟩;have s13:St w w13 (Sep (held v'.Rd :: ai r2 v.vals.toArray 44 :: held v.Rd :: ZL bx bY S C Sy Cy B)):=s12.and k13;refine⟨v'.ph,v'.rd,v'.pr,v'.ex,_,_,_,_,_,_,_,_,_,_,rfl,s13.aB lT.vals.toArray λ r3 w14 s14=>s14.aC 0 rfl v'.vals rfl v'.one λ w15 s15=>?_⟩;have s15:St w w15 (Sep (ai r3 v'.vals.toArray 44 :: held v'.Rd :: ai r2 v.vals.toArray 44 :: held v.Rd :: ZL bx bY S C Sy Cy B)):=s15;refine⟨λ b w'=>b=false/\St w w' (Sep (ZL bx bY S C Sy Cy B)),?_,?_⟩
 ·rintro w16 b ⟨rfl,s16⟩ -;exact cF rfl ⟨4-(k+1),by omega,k+1,aF ⟨by omega,by omega⟩,by omega,rfl,s16⟩
 have s16:=s15.quiet (Chg.drew _ _);refine cF (by rw[sam.o8]; simp) (W8 s16 2 0 rfl rfl (s16.aP 3 rfl) (s16.aP 1 rfl) n1 n2 n3 λ bb w' hbb hc=>?_);rw[sam.o8,sam.EF] at ev';have hbb:=hbb.2 (by rw[ev,ev']);subst hbb;exact⟨rfl,(s16.quiet hc).second.second.second.second⟩

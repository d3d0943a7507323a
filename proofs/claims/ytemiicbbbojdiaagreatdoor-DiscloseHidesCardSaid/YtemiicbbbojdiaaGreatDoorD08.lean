import Derived.Lib.AtoiBound
import Derived.Maps.RangeRun
import Derived.Test.YtemiicbbbojdiaaGreatDoorD07
set_option linter.unusedVariables false
set_option maxRecDepth 100000
namespace Go.Proofs.YtemiicbbbojdiaaGreatDoor
open Go Go.Vc _root_.Go.Proofs.Tryz
def names:List (List UInt8):=[[],[115,97,108,101],[100,101,109,97,110,100],[114,111,117,110,100],[115,116,111,112],[98,105,100],[119,105,116,104,100,114,97,119],[100,105,115,113,117,97,108,105,102,121],[114,101,114,117,110],[99,108,111,115,101],[100,101,99,105,100,101]]
def yf(k:Int):List UInt8:=if 1<=k/\k<=10 then names.getD k.toNat [] else []
theorem xh(k:Int):yf k=[]<->¬ (1<=k/\k<=10):=by
 unfold yf
 by_cases h:1<=k/\k<=10
 ·rw[if_pos h];refine⟨λ e=>?_,λ e=>absurd h e⟩;obtain⟨j,rfl⟩:∃ j:Nat,k=j:=⟨k.toNat,by omega⟩;rw[Int.toNat_natCast] at e;have:1<=j/\j<=10:=by omega
  match j,this with
  | 1,_|2,_|3,_|4,_|5,_|6,_|7,_|8,_|9,_|10,_=>simp[names] at e
 ·rw[if_neg h]; simp[h]
theorem UF(w:World)(k:Int):CP 91 #[iv k] w (λ r w'=>r=sv (yf k)/\Chg w w' []):=by
 refine BZ ?_;unfold Av;refine(St.start w).one.aB (List.replicate 11 (sv [])).toArray λ r1 w1 s1=>?_;refine s1.aC 0 rfl (names.map sv) rfl (by intro v hv; obtain⟨x,_,rfl⟩:=List.mem_map.1 hv; rfl) λ w2 s2=>?_;refine⟨λ b w3=>w3=w2/\b=decide (¬ (1<=k/\k<=10)),?_,?_⟩
 ·rintro w3 b ⟨rfl,rfl⟩ -
  by_cases h:1<=k/\k<=10
  ·have hj:k.toNat<11:=by omega
   have e:yf k=names.getD k.toNat []:=by simp[yf,h]
   refine cF (by simp; omega) ⟨by omega,by omega,bs (yf k),?_,rfl,s2.aA⟩;rw[bq,Nat.zero_add,Nat.mul_one,s2.ag 0 rfl,e];generalize k.toNat=j at hj
   match j,hj with
   | 0,_|1,_|2,_|3,_|4,_|5,_|6,_|7,_|8,_|9,_|10,_=>rfl
  ·exact cT (dT h) ⟨by rw[(xh k).2 h],s2.aA⟩
 ·by_cases h:k<1
  ·exact cT (dT h) ⟨rfl,by simp; omega⟩
  ·exact cF (dF h) ⟨rfl,decide_eq_decide.2 (by omega)⟩
def nB(n:Int):List UInt8:=yF n.toNat
def cJ(e:Ev):List UInt8 :=
 nB e.kind++(if fB e.kind then nB e.bidder else [])++(if fR e.kind then nB e.round else [])++(if fW e.kind then e.want.l.flatMap nB else [])++(if fT e.kind then Di e.text else [])++(if fD e.kind then nB e.digest else [])
structure Ev.Vx (e:Ev):Prop where
 k:0<=e.kind/\e.kind<=10
 b:0<=e.bidder/\e.bidder<8
 r:0<=e.round/\e.round<30
 w:I6.Le e.want 4
 t:e.text.length<=4000
 d:0<=e.digest/\e.digest<18446744073709551616
theorem Ef(n:Int):(nB n).length<=10:=mX _
theorem Jk(l:List Int):(l.flatMap nB).length<=10*l.length:=by
 induction l with
 | nil=>simp
 | cons x l ih=>have:=Ef x; simp only[List.flatMap_cons,List.length_append,List.length_cons]; omega
theorem I7(w:World){e:Ev}(h:e.Vx):CP 94 #[e.v] w (λ r w'=>r=sv (cJ e)/\Chg w w' []):=by
 refine Ax ?_;unfold xX;have hk:=h.k; have hb:=h.b; have hr:=h.r; have ht:=h.t; have hd:=h.d;have hm:IntKind.i64.max=9223372036854775807:=rfl;refine(St.start w).one.aB e.cells.toArray λ r1 w1 s1=>?_;refine⟨_,s1.ag 0 rfl 0,an (FI w1 e.kind) ?_⟩;rintro v w2 ⟨rfl,rfl⟩;refine⟨_,rfl,_,s1.ag 0 rfl 0,an (we w2 e.kind (by omega)) ?_⟩;rintro v w3 ⟨rfl,c3⟩;obtain⟨g1,g2,g3,g4,g5⟩:=FN e.kind;rw[g1,g2,g3,g4,g5];have s3:=s1.quiet c3;have l0:=Ef e.kind;let J:Nat->List UInt8->ByteArray->World->Prop:=λ n l s w'=>s=bs l/\l.length<=n/\St w w' (Sep [ai r1 e.cells.toArray 71,emp]);refine⟨_,rfl,J 20 (nB e.kind++(if fB e.kind then nB e.bidder else [])),?_,?_⟩
 rotate_left
 ·cases hf:fB e.kind with
  | true =>
   refine cT rfl ⟨_,s3.ag 0 rfl 1,an (we w3 e.bidder (by omega)) ?_⟩;rintro v w4 ⟨rfl,c4⟩;have:=Ef e.bidder;exact⟨_,rfl,by rw[iE,iE,hm]; unfold nB at *; omega,pH _ _,by simp only[List.length_append,if_true]; omega,s3.quiet c4⟩
  | false=>exact cF rfl ⟨by simp; rfl,by simp; omega,s3⟩
 rintro w4 s ⟨rfl,l1,s4⟩ -;refine⟨J 30 (nB e.kind++(if fB e.kind then nB e.bidder else [])++(if fR e.kind then nB e.round else [])),?_,?_⟩
 rotate_left
 ·generalize nB e.kind++(if fB e.kind then nB e.bidder else [])=l at *
  cases hf:fR e.kind with
  | true =>
   refine cT rfl ⟨_,s4.ag 0 rfl 2,an (we w4 e.round (by omega)) ?_⟩;rintro v w5 ⟨rfl,c5⟩;have:=Ef e.round;exact⟨_,rfl,by rw[iE,iE,hm]; unfold nB at *; omega,pH _ _,by simp only[List.length_append,if_true]; omega,s4.quiet c5⟩
  | false=>exact cF rfl ⟨by simp,by simp; omega,s4⟩
 clear l1 s4 l0 s3;rintro w5 s ⟨rfl,l1,s5⟩ -;refine⟨J 90 (nB e.kind++(if fB e.kind then nB e.bidder else [])++(if fR e.kind then nB e.round else [])++(if fW e.kind then e.want.l.flatMap nB else [])),?_,?_⟩
 rotate_left
 ·generalize nB e.kind++(if fB e.kind then nB e.bidder else [])++(if fR e.kind then nB e.round else [])=l at *
  cases hf:fW e.kind with
  | true =>
   refine cT rfl ⟨e.want,?_,λ s n w6 m=>∃ k:Nat,n=k/\k<=6/\m=6-k/\s=bs (l++(e.want.l.take k).flatMap nB)/\St w w6 (Sep [ai r1 e.cells.toArray 71,emp]),⟨6,0,rfl,by omega,by omega,by simp,s5⟩,?_⟩
   ·exact bE _ 0 λ j v hj=>by
     have h6:j<6:=(List.getElem?_eq_some_iff.1 hj).1;rw[bq,Nat.zero_add,s5.ag 0 rfl]
     match j,h6,hj with
     | 0,_,hj|1,_,hj|2,_,hj|3,_,hj|4,_,hj|5,_,hj=>simpa[Ev.cells,I6.on,I6.vs] using hj
   rintro w6 m s n ⟨k,rfl,hk6,hm6,rfl,s6⟩ -
   by_cases hlt:(k:Int)<6
   ·have hk' : k<6:=by omega
    have hw:=h.w k hk';refine cT (dT hlt) ⟨by omega,by omega,_,e.want.get k hk',an (we w6 _ (by omega)) ?_⟩;rintro v w7 ⟨rfl,c7⟩;have q1:=Jk (e.want.l.take k);have q2:(e.want.l.take k).length<=6:=by simp[I6.len]; omega
    have q3:=mX (e.want.at' k).toNat;refine⟨_,rfl,by rw[iE,iE,List.length_append,hm]; omega,6-(k+1),by omega,k+1,inc (by decide) hk',by omega,rfl,?_,s6.quiet c7⟩;rw[pH,aH (e.want.oY k hk'),List.flatMap_append,<- List.append_assoc]; simp[nB]
   ·obtain rfl:k=6:=by omega
    have q1:=Jk e.want.l;have q2:e.want.l.length=6:=rfl;refine cF (by simp) ⟨rfl,?_,s6⟩;simp only[List.length_append,if_true]; omega
  | false=>exact cF rfl ⟨by simp,by simp; omega,s5⟩
 clear l1 s5;rintro w6 s ⟨rfl,l1,s6⟩ -;refine⟨J 4100 (nB e.kind++(if fB e.kind then nB e.bidder else [])++(if fR e.kind then nB e.round else [])++(if fW e.kind then e.want.l.flatMap nB else [])++(if fT e.kind then Di e.text else [])),?_,?_⟩
 rotate_left
 ·generalize nB e.kind++(if fB e.kind then nB e.bidder else [])++(if fR e.kind then nB e.round else [])++(if fW e.kind then e.want.l.flatMap nB else [])=l at *
  cases hf:fT e.kind with
  | true =>
   refine cT rfl ⟨_,s6.ag 0 rfl 9,an (Vo w6 e.text (by omega)) ?_⟩;rintro v w7 ⟨rfl,c7⟩;have q:=mX e.text.length;have q2:(Di e.text).length<=4010:=by unfold Di; rw[List.length_append]; omega
   exact⟨_,rfl,by rw[iE,iE,hm]; omega,pH _ _,by simp only[List.length_append,if_true]; omega,s6.quiet c7⟩
  | false=>exact cF rfl ⟨by simp,by simp; omega,s6⟩
 clear l1 s6;rintro w7 s ⟨rfl,l1,s7⟩ -;refine⟨λ s w'=>s=bs (cJ e)/\Chg w w' [],?_,?_⟩
 ·rintro w8 s ⟨rfl,c8⟩ -;exact⟨rfl,c8⟩
 ·unfold cJ;generalize nB e.kind++(if fB e.kind then nB e.bidder else [])++(if fR e.kind then nB e.round else [])++(if fW e.kind then e.want.l.flatMap nB else [])++(if fT e.kind then Di e.text else [])=l at *
  cases hf:fD e.kind with
  | true =>
   have e1:e.digest=((e.digest.toNat:Nat):Int):=by omega
   refine cT rfl ⟨_,s7.ag 0 rfl 10,?_⟩;rw[e1];refine an (OT w7 e.digest.toNat (by omega)) ?_;rintro v w8 ⟨rfl,c8⟩;have:=mX e.digest.toNat;exact⟨_,rfl,by rw[iE,iE,hm]; omega,pH _ _,(s7.quiet c8).aA⟩
  | false=>exact cF rfl ⟨by simp,s7.aA⟩
theorem Ev.ext'{a b:Ev}(h1:a.kind=b.kind)(h2:a.bidder=b.bidder)(h3:a.round=b.round)(h4:a.want=b.want)(h5:a.text=b.text)(h6:a.digest=b.digest):a=b:=by
 cases a; cases b; simp_all
instance:DecidableEq Ev:=λ a b =>
 if h:a.kind=b.kind/\a.bidder=b.bidder/\a.round=b.round/\a.want=b.want/\a.text=b.text/\a.digest=b.digest then .isTrue (Ev.ext' h.1 h.2.1 h.2.2.1 h.2.2.2.1 h.2.2.2.2.1 h.2.2.2.2.2)
 else .isFalse λ e=>h (by subst e; exact⟨rfl,rfl,rfl,rfl,rfl,rfl⟩)
def dY(e:Ev):Int :=
 if ¬ (1<=e.kind/\e.kind<=10)\/e≠fK e then 2
 else if e.bidder<0\/8<=e.bidder\/e.round<0\/30<=e.round\/e.want.l.all nN=false then 4
 else if 4000<e.text.length\/4000<(cJ e).length then 3 else 0
theorem rB{e:Ev}(h:dY e=0)(hd:0<=e.digest/\e.digest<18446744073709551616):e.Vx:=by
 unfold dY at h
 split at h
 ·cases h
 ·rename_i h1
  split at h
  ·cases h
  ·rename_i h2
   split at h
   ·cases h
   ·rename_i h3;have hw:e.want.l.all nN=true:=by
     cases hq:e.want.l.all nN with
     | true=>rfl
     | false=>exact absurd (.inr (.inr (.inr (.inr hq)))) h2
    exact⟨by omega,by omega,by omega,LZ hw,by omega,hd⟩
theorem TD(a b:List UInt8):(bs a==bs b)=(a==b):=by
 show((bs a).data==(bs b).data)=_;simp[bs]
theorem wP(w:World){e:Ev}(hi:e.In):CP 61 #[e.v] w (λ r w'=>r=iv (dY e)/\Chg w w' []):=by
 refine Au ?_;unfold xW;refine(St.start w).one.aB e.cells.toArray λ r1 w1 s1=>?_;let Q1:Prop:=¬ (1<=e.kind/\e.kind<=10)\/e≠fK e;let Q2:Prop:=e.bidder<0\/8<=e.bidder\/e.round<0\/30<=e.round\/e.want.l.all nN=false;let Q3:Prop:=4000<e.text.length\/4000<(cJ e).length;refine⟨λ b w2=>(b=true<->Q1)/\Chg w1 w2 [],?_,?_⟩
 ·rintro w2 b ⟨hb,c2⟩ -;have s2:=s1.quiet c2
  cases b with
  | true=>exact cT rfl ⟨by unfold dY; rw[if_pos (hb.1 rfl)],s2.aA⟩
  | false =>
   have n1 : ¬ Q1:=λ h=>by have:=hb.2 h; cases this
   refine cF rfl ⟨λ b w3=>(b=true<->Q2)/\Chg w1 w3 [],?_,?_⟩
   ·rintro w3 b ⟨hb,c3⟩ -;have s3:=s1.quiet c3
    cases b with
    | true=>exact cT rfl ⟨by unfold dY; rw[if_neg n1,if_pos (hb.1 rfl)],s3.aA⟩
    | false =>
     have n2 : ¬ Q2:=λ h=>by have:=hb.2 h; cases this
     refine cF rfl ⟨λ b w4=>(b=true<->Q3)/\Chg w1 w4 [],?_,_,s3.ag 0 rfl 9,?_⟩
     ·rintro w4 b ⟨hb,c4⟩ -;have s4:=s1.quiet c4
      cases b with
      | true=>exact cT rfl ⟨by unfold dY; rw[if_neg n1,if_neg n2,if_pos (hb.1 rfl)],s4.aA⟩
      | false =>
       have n3 : ¬ Q3:=λ h=>by have:=hb.2 h; cases this
       exact cF rfl ⟨by unfold dY; rw[if_neg n1,if_neg n2,if_neg n3],s4.aA⟩
     ·rw[iE]
      by_cases ht:4000<e.text.length
      ·exact cT (dT (by omega)) ⟨⟨λ _=>.inl ht,λ _=>rfl⟩,c3⟩
      ·have hw:e.want.l.all nN=true:=by
        cases hq:e.want.l.all nN with
        | true=>rfl
        | false=>exact absurd (.inr (.inr (.inr (.inr hq)))) n2
       have hr:e.Vx:=⟨by omega,by omega,by omega,LZ hw,by omega,hi.d⟩;refine cF (dF (by omega)) ⟨_,_,_,e.want,_,_,s3.cellsIn 0 rfl,an (I7 w3 hr) ?_⟩;rintro v w5 ⟨rfl,c5⟩;refine⟨_,rfl,?_,c3.trans c5 (by simp)⟩;rw[iE,decide_eq_true_eq];exact⟨λ h=>.inr (by omega),λ h=>by rcases h with h|h<;>omega⟩
   ·refine⟨_,s2.ag 0 rfl 1,?_⟩
    by_cases g1:e.bidder<0
    ·exact cT (dT g1) ⟨⟨λ _=>.inl g1,λ _=>rfl⟩,c2⟩
    refine cF (dF g1) ⟨_,s2.ag 0 rfl 1,?_⟩
    by_cases g2:e.bidder>=8
    ·exact cT (dT g2) ⟨⟨λ _=>.inr (.inl g2),λ _=>rfl⟩,c2⟩
    refine cF (dF g2) ⟨_,s2.ag 0 rfl 2,?_⟩
    by_cases g3:e.round<0
    ·exact cT (dT g3) ⟨⟨λ _=>.inr (.inr (.inl g3)),λ _=>rfl⟩,c2⟩
    refine cF (dF g3) ⟨_,s2.ag 0 rfl 2,?_⟩
    by_cases g4:e.round>=30
    ·exact cT (dT g4) ⟨⟨λ _=>.inr (.inr (.inr (.inl g4))),λ _=>rfl⟩,c2⟩
    refine cF (dF g4) ⟨e.want,?_,an (de w2 e.want) ?_⟩
    ·exact bE _ 0 λ j v hj=>by
      have h6:j<6:=(List.getElem?_eq_some_iff.1 hj).1;rw[bq,Nat.zero_add,s2.ag 0 rfl]
      match j,h6,hj with
      | 0,_,hj|1,_,hj|2,_,hj|3,_,hj|4,_,hj|5,_,hj=>simpa[Ev.cells,I6.on,I6.vs] using hj
    ·rintro v w6 ⟨rfl,c6⟩;refine⟨_,rfl,?_,c2.trans c6 (by simp)⟩
     cases hq:e.want.l.all nN with
     | true=>exact⟨λ h=>by simp at h,λ h=>by rcases h with h|h|h|h|h<;>first|omega|(rw[hq] at h; cases h)⟩
     | false=>exact⟨λ _=>.inr (.inr (.inr (.inr hq))),λ _=>by simp⟩
 ·have s1':=s1.quiet (Chg.drew w1 []);refine⟨_,s1'.ag 0 rfl 0,an (UF _ e.kind) ?_⟩;rintro v w7 ⟨rfl,c7⟩;have s7:=s1'.quiet c7;have c17:Chg w1 w7 []:=(Chg.drew w1 []).trans c7 (by simp);refine⟨_,rfl,?_⟩
  by_cases hk:1<=e.kind/\e.kind<=10
  ·have hne:yf e.kind≠[]:=λ h=>(xh _).1 h hk;refine cF (by rw[jy,jy]; simpa using hne) ⟨_,_,_,e.want,_,_,s7.cellsIn 0 rfl,_,_,_,e.want,_,_,s7.cellsIn 0 rfl,an (Tx w7 e) ?_⟩;rintro v w8 ⟨rfl,c8⟩;refine⟨_,_,_,(fK e).want,_,_,rfl,(s7.quiet c8).cellsIn 0 rfl,?_,c17.trans c8 (by simp)⟩;simp only[I6.beq_eq,TD,Bool.and_true,Bool.not_eq_true',Bool.and_eq_false_iff,beq_eq_false_iff_ne,ne_eq,decide_eq_false_iff_not];constructor
   ·intro h;refine .inr λ he=>?_;rcases h with h|h|h|h|h|h<;>apply h<;>rw[<- he]
   ·intro h;rcases h with h|h
    ·exact absurd hk h
    ·by_cases q1:e.kind=(fK e).kind
     ·by_cases q2:e.bidder=(fK e).bidder
      ·by_cases q3:e.round=(fK e).round
       ·by_cases q4:e.want=(fK e).want
        ·by_cases q5:e.text=(fK e).text
         ·by_cases q6:e.digest=(fK e).digest
          ·exact absurd (Ev.ext' q1 q2 q3 q4 q5 q6) h
          ·exact .inr (.inr (.inr (.inr (.inr q6))))
         ·exact .inr (.inr (.inr (.inr (.inl q5))))
        ·exact .inr (.inr (.inr (.inl q4)))
       ·exact .inr (.inr (.inl q3))
      ·exact .inr (.inl q2)
     ·exact .inl q1
  ·have hne:yf e.kind=[]:=(xh _).2 hk;exact cT (by rw[jy,jy,hne]; rfl) ⟨⟨λ _=>.inl hk,λ _=>rfl⟩,c17⟩
theorem FB(w:World){e:Ev}(hi:e.In):CP 66 #[e.v] w (λ r w'=>r=.tuple #[sv (if dY e=0 then cJ e else []),iv (dY e)]/\Chg w w' []):=by
 refine yU ?_;unfold uS;refine(St.start w).one.aB e.cells.toArray λ r1 w1 s1=>?_;refine⟨_,_,_,e.want,_,_,s1.cellsIn 0 rfl,an (wP w1 hi) ?_⟩;rintro v w2 ⟨rfl,c2⟩;refine⟨_,rfl,?_⟩;have s2:=s1.quiet c2
 by_cases h0:dY e=0
 ·refine cF (by simpa using h0) ⟨_,_,_,e.want,_,_,s2.cellsIn 0 rfl,an (I7 w2 (rB h0 hi.d)) ?_⟩;rintro v w3 ⟨rfl,c3⟩;exact⟨_,rfl,by rw[if_pos h0,h0],(s2.quiet c3).aA⟩
 ·exact cT (by simpa using h0) ⟨by rw[if_neg h0],s2.aA⟩
theorem GY{S:Sx}(h:S.bd.length=8)(x:Int):S.cells.toArray.setIfInBounds 4 (iv x)=({ S with ph:=x }:Sx).cells.toArray:=by
 obtain⟨o,ph,s,k,bd,dec,cnt,dig⟩:=S;obtain⟨b0,b1,b2,b3,b4,b5,b6,b7,rfl⟩:=bM h;rfl
theorem Vk{S:Sx}(h:S.bd.length=8)(x:Int):S.cells.toArray.setIfInBounds 98 (.int .u64 x)=({ S with dec:=x }:Sx).cells.toArray:=by
 obtain⟨o,ph,s,k,bd,dec,cnt,dig⟩:=S;obtain⟨b0,b1,b2,b3,b4,b5,b6,b7,rfl⟩:=bM h;rfl
theorem Vl{S:Sx}(h:S.bd.length=8){i:Nat}(hi:i<8){y:Bd}(hy:S.bd[i]?=some y):S.cells.toArray[10+i*11+9]?=some (.bool y.has):=by
 obtain⟨o,ph,s,k,bd,dec,cnt,dig⟩:=S;obtain⟨b0,b1,b2,b3,b4,b5,b6,b7,rfl⟩:=bM h
 match i,hi with
 | 0,_|1,_|2,_|3,_|4,_|5,_|6,_|7,_=>cases hy; rfl
theorem cI{S:Sx}(h:S.bd.length=8):S.cells.toArray.size=101:=by simpa using Sx.len h
section
variable {w0 w:World} {b:Nat} {S:Sx} {m:List aG}
def pZ(S:Sx)(e:Ev):Sx:=if e.kind=10 then { S with ph:=4,dec:=e.digest } else { S with ph:=3 }
theorem MO(s:St w0 w (Sep (ai b S.cells.toArray 86 :: m)))(h:S.bd.length=8)(e:Ev) :
  CP 102 #[.pointer (some ⟨b,0,none⟩),e.v] w (λ r w'=>r=iv 0/\St w0 w' (Sep (ai b (pZ S e).cells.toArray 86 :: m))):=by
 refine pn (u1:=e.want) ?_;unfold kz;refine s.aB e.cells.toArray λ r1 w1 s1=>s1.aJ 1 rfl (j:=4) (by rw[cI h]; omega) rfl λ w2 s2=>?_;rw[GY h] at s2;have s2:St w0 w2 (Sep (ai r1 e.cells.toArray 71 :: ai b ({ S with ph:=3 }:Sx).cells.toArray 86 :: m)):=s2;refine⟨λ w3=>St w0 w3 (Sep (ai r1 e.cells.toArray 71 :: ai b (pZ S e).cells.toArray 86 :: m)),λ w3 s3 _=>⟨rfl,s3.second⟩,_,s2.ag 0 rfl 0,?_⟩
 by_cases h10:e.kind=10
 ·have h3:({ S with ph:=3 }:Sx).bd.length=8:=h;have h4:({ S with ph:=4 }:Sx).bd.length=8:=h;have s3:=s2.quiet (Chg.drew w2 []);refine cT (by simpa using h10) ⟨_,s3.ag 0 rfl 10,s3.aJ 1 rfl (j:=4) (by rw[cI h3]; omega) rfl λ w4 s4=>?_⟩;rw[GY h3] at s4;have s4:St w0 w4 (Sep (ai r1 e.cells.toArray 71 :: ai b ({ S with ph:=4 }:Sx).cells.toArray 86 :: m)):=s4;refine⟨s4.ag 0 rfl 10,s4.aJ 1 rfl (j:=98) (by rw[cI h4]; omega) rfl λ w5 s5=>?_⟩;rw[Vk h4] at s5;rw[pZ,if_pos h10];exact s5
 ·exact cF (by simpa using h10) (by rw[pZ,if_neg h10]; exact s2)
theorem IP(s:St w0 w (Sep (ai b S.cells.toArray 86 :: m)))(h:S.bd.length=8){e:Ev}{i:Nat}(hi:i<8)(he:e.bidder=i) :
  CP 99 #[.pointer (some ⟨b,0,none⟩),e.v] w (λ r w'=>((S.bd.getD i dQ).has=false/\r=iv 6/\St w0 w' (Sep (ai b S.cells.toArray 86 :: m)))\/((S.bd.getD i dQ).has=true/\r=iv 0/\St w0 w' (Sep (ai b (bB S i).cells.toArray 86 :: m)))):=by
 refine mU (u1:=e.want) ?_;unfold iY;have hy:S.bd[i]?=some (S.bd.getD i dQ):=by rw[List.getD_eq_getElem?_getD,gE (by omega)]; rfl
 generalize S.bd.getD i dQ=y at hy;refine s.aB e.cells.toArray λ r1 w1 s1=>?_;have s2:=s1.quiet (Chg.drew w1 []);have c1:w1.drew.cell? ⟨r1,1,none⟩=some (iv i):=by rw[<- he]; exact s2.ag 0 rfl 1
 have c2:w1.drew.cell? (Addr.add (Addr.add ⟨b,10,none⟩ (((i:Nat):Int).toNat*11)) 9)=some (.bool y.has):=by
  rw[WV,bq,s2.ag 1 rfl]; exact Vl h hi hy
 refine⟨_,c1,by omega,by omega,_,c2,?_⟩
 cases hh:y.has with
 | false=>exact cT rfl (.inl ⟨rfl,rfl,s2.second⟩)
 | true =>
  refine cF rfl ⟨_,c1,an (ED (s2.second) h hi) ?_⟩;rintro v w2 ⟨rfl,s3⟩;exact⟨rfl,.inr ⟨rfl,rfl,s3⟩⟩
end
def Tf:List UInt8:=[112,114,111,100,117,99,116]
def Td:List UInt8:=[98,105,100,100,101,114]
def Te:List UInt8:=[99,97,112]
def Tc:List UInt8:=[97,115,105,100,101]
def wk(s:List UInt8):Int:=if s=Tf then 6 else if s=Td then 5 else if s=Te\/s=Tc then 4 else 0
theorem Sb(w:World)(s:List UInt8):CP 183 #[sv s] w (λ r w'=>r=iv (wk s)/\w' = w):=by
 refine BB ?_;unfold yA;rw[jy,jy,jy,jy,jy]
 by_cases h1:s=Tf
 ·exact cT (beq_iff_eq.2 h1) ⟨by rw[wk,if_pos h1],rfl⟩
 refine cF (beq_eq_false_iff_ne.2 h1) ?_
 by_cases h2:s=Td
 ·exact cT (beq_iff_eq.2 h2) ⟨by rw[wk,if_neg h1,if_pos h2],rfl⟩
 refine cF (beq_eq_false_iff_ne.2 h2) ⟨λ b w1=>b=decide (s=Te\/s=Tc)/\w1=w,?_,?_⟩
 ·rintro w1 _ ⟨rfl,rfl⟩ -
  by_cases h3:s=Te\/s=Tc
  ·exact cT (dT h3) ⟨by rw[wk,if_neg h1,if_neg h2,if_pos h3],rfl⟩
  ·exact cF (dF h3) ⟨by rw[wk,if_neg h1,if_neg h2,if_neg h3],rfl⟩
 ·by_cases h3:s=Te
  ·exact cT (beq_iff_eq.2 h3) ⟨by rw[dT (Or.inl h3)]; exact beq_iff_eq.2 h3,rfl⟩
  ·refine cF (beq_eq_false_iff_ne.2 h3) ⟨?_,rfl⟩
   by_cases h4:s=Tc
   ·rw[dT (Or.inr h4)]; exact beq_iff_eq.2 h4
   ·rw[dF (by rintro(h|h); exact h3 h; exact h4 h)]; exact beq_eq_false_iff_ne.2 h4
def strings_Split(a b:ByteArray)(w:World)(K:KP):=CC 182 #[.string a,.string b,qz,iv (-1)] w λ a b=>∃ c d e,a=.returned (.slice c d e)/\K (.slice c d e) b
theorem xK{s1 s2 w K}(h:strings_Split s1 s2 w K):CP 160 #[.string s1,.string s2] w K:=ah (aE []) func160 (by kernel_rfl) (by kernel_rfl) h
abbrev sF (x:List UInt8):List Value:=[sv x]
theorem Ix(x:List UInt8):(sF x).length=1:=rfl
theorem Iy{w:World}{a:OA}{l:List (List UInt8)}(h:bG 1 sF w a l){i:Nat}{x:List UInt8}(hi:l[i]?=some x):∃ q,a=some q/\w.cell? (Addr.add q (i*1))=some (sv x):=by
 obtain⟨q,hq,hc⟩:=h.at hi;have:=aO hc 0 _ rfl;rw[Nat.zero_add,Addr.add_add,Nat.add_zero] at this;exact⟨q,hq,this⟩
def bC(c:UInt8)(s:List UInt8):List (List UInt8):=(Lib.splitB (bs [c]) 0 (Lib.countB (bs s) (bs [c])) (bs s)).map λ b=>b.data.toList
theorem nW(c:UInt8)(s:List UInt8):(bC c s).length=Lib.countB (bs s) (bs [c])+1:=by
 rw[bC,List.length_map,Lib.splitB_all (bs [c]) (by rw[iE]; exact Nat.le_refl 1) 0 _ _ rfl]
theorem Dc(c:UInt8)(s:List UInt8):(bC c s).length<=s.length+1:=by
 rw[nW];have:=Lib.countB_le (bs [c]) (by rw[iE]; exact Nat.le_refl 1) (bs s).size (bs s) (Nat.le_refl _);rw[iE] at this;omega
theorem Ka(w:World)(c:UInt8)(s:List UInt8)(hs:s.length<=1000000):CP 160 #[sv s,sv [c]] w (λ r w'=>∃ g,r=.slice (some ⟨g,0,none⟩) (bC c s).length (bC c s).length/\St w w' (Sep [cH 9 1 sF (some ⟨g,0,none⟩) (bC c s).length (bC c s)])):=by
 refine xK ?_;unfold strings_Split;have h1:1<=(bs [c]).size:=by rw[iE]; exact Nat.le_refl 1
 have hle:=Lib.countB_le (bs [c]) h1 (bs s).size (bs s) (Nat.le_refl _);have hlen:=Lib.splitB_all (bs [c]) h1 0 _ (bs s) rfl;have hz:(bs s).size=s.length:=iE s;have hC:=Tryz.strings_Count_one (bs s) c w;have k:=Any.strings_genSplit_core Tryz.QK (by kernel_rfl) (bs s) (bs [c]) 0 (-1) (Lib.countB (bs s) (bs [c])+1) w (by omega) h1 (Nat.zero_le _)
  (λ x cs _=>(Tryz.strings_Index_one x c _).mono λ e w' ⟨he,hw⟩=>⟨by rw[he]; show _=Ending.returned (Value.int .i64 (Lib.index x.data.toList [c])); rw[Lib.index_one],hw⟩) ?_ (by decide) (by decide) (by rw[if_pos (by decide)]; omega)
 ·rw[Nat.add_sub_cancel,hlen] at k;have e2:Lib.cellsOf (Lib.splitB (bs [c]) 0 (Lib.countB (bs s) (bs [c])) (bs s)) (Lib.countB (bs s) (bs [c])+1)=((Lib.splitB (bs [c]) 0 (Lib.countB (bs s) (bs [c])) (bs s)).map Value.string).toArray:=by rw[<- hlen]; exact Lib.cellsOf_full _
  rw[e2] at k;refine Calls.mono k ?_;rintro e w' ⟨rfl,rfl⟩;refine⟨_,_,_,rfl,w.heap.size,by rw[nW],?_⟩;have s1:=(St.start w).one.cN ((Lib.splitB (bs [c]) 0 (Lib.countB (bs s) (bs [c])) (bs s)).map Value.string).toArray 9;have e3:(((Lib.splitB (bs [c]) 0 (Lib.countB (bs s) (bs [c])) (bs s)).map Value.string).toArray:Array Value).toList=(bC c s).flatMap sF:=by
   rw[bC,List.flatMap_map]
   induction Lib.splitB (bs [c]) 0 (Lib.countB (bs s) (bs [c])) (bs s) with
   | nil=>rfl
   | cons b l ih=>simp only[List.map_cons,List.flatMap_cons] at ih ⊢; rw[<- ih,sF,sv,<- VM]; rfl
  refine(s1.ay [0]).weak (bU.left ?_);rintro w' F ⟨h,hF⟩;have hm:(bC c s).length<=maxLen:=by rw[nW]; unfold maxLen; omega
  exact⟨F,⟨A9 Ix h e3 hm,by rw[hF]; simp[Value.ownBlock]⟩,λ _ h=>h⟩
 ·refine Calls.mono hC ?_;rintro e w' ⟨rfl,hw⟩;refine⟨?_,hw⟩;show _=Ending.returned (Value.int .i64 ((Lib.count (bs s).data.toList [c]:Nat):Int));rw[Lib.count_one]; rfl
theorem Chg.PZ(w:World)(b o n:Nat):Chg w (w.freeze ⟨b,o,none⟩ n) [b]:=by
 unfold World.freeze
 split
 ·exact Chg.refl _ _
 ·refine⟨by simp,λ i _ hi=>?_,⟨rfl,rfl,rfl⟩⟩;simp only[List.mem_singleton] at hi;rw[Array.getElem?_modify,if_neg (λ h=>hi h.symm)]
theorem Kz(w:World)(e:TypeId)(t:ByteArray):Chg w (Lib.bytesWorld w e t) []:=by
 unfold Lib.bytesWorld;have c1:Chg w w.drew []:=Chg.drew w [];refine(c1.trans (Chg.new _ _ []) (by simp)).trans (Chg.PZ _ _ _ _) ?_;intro i hi;simp at hi; subst hi;exact .inr (Nat.le_refl _)
def E8(l:List UInt8):Bool:=l.all λ c=>yT (un c)
def Oe(l:List UInt8):Int:=(Lib.atoi l).getD 0
def gx(l:List UInt8):Int×Int:=if E8 l=false\/l=[]\/(l.head? = some 48/\1<l.length) then (0,2) else if 9<l.length then (0,4) else (Oe l,0)
theorem xV:∀ (l:List UInt8) (acc:Nat),E8 l=true->∃ n,Lib.decFrom acc l=some n
 | [],acc,_=>⟨acc,rfl⟩
 | b :: l,acc,h=>by
  unfold E8 at h;rw[List.all_cons,Bool.and_eq_true] at h;have h1:48<=b.toNat/\b.toNat<=57:=by
   have h2:48<=un b/\un b<=57:=by simpa[yT] using h.1
   unfold un at h2;omega
  rw[Lib.decFrom,Lib.digitVal,if_pos h1];exact xV l _ h.2
theorem Mh{l:List UInt8}(h:E8 l=true)(h0:l≠[]):∃ n,Lib.atoi l=some n:=by
 cases l with
 | nil=>exact absurd rfl h0
 | cons b l =>
  obtain⟨n,hn⟩:=xV (b :: l) 0 h;unfold E8 at h;rw[List.all_cons,Bool.and_eq_true] at h;have h1:48<=un b/\un b<=57:=by simpa[yT] using h.1
  have hb:(b==45)=false:=by rw[beq_eq_false_iff_ne]; rintro rfl; revert h1; decide
  have hb2:(b==43)=false:=by rw[beq_eq_false_iff_ne]; rintro rfl; revert h1; decide
  have hd:Lib.decNat (b :: l)=some n:=by rw[Lib.decNat]; exact hn
  rw[Lib.atoi,hb,hb2,hd];exact⟨_,rfl⟩
theorem Ry{l:List UInt8}(hl:l.length<=18):In (Oe l):=by
 unfold Oe
 cases h:Lib.atoi l with
 | none=>exact⟨by decide,by decide⟩
 | some n =>
  have:=Lib.atoi_bound h hl;show In n;exact⟨by omega,by omega⟩
theorem LD(w:World){l:List UInt8}(hl:l.length<=1000000):CP 215 #[sv l] w (λ r w'=>r=.tuple #[iv (gx l).1,iv (gx l).2]/\Chg w w' []):=by
 refine zm ?_;unfold vV;refine⟨λ i w1 m=>∃ k:Nat,i=k/\k<=l.length/\m=l.length-k/\E8 (l.take k)=true/\Chg w w1 [],⟨l.length,0,rfl,by omega,by omega,rfl,Chg.refl _ _⟩,?_⟩;rintro w1 m i ⟨k,rfl,hk,hm,ha,hc⟩ -
 by_cases hlt:k<l.length
 ·have hx:l[k]?=some (l[k]'hlt):=gE hlt;generalize l[k]'hlt=c at hx;refine cT (by rw[iE]; exact dT (by omega)) ⟨λ b w2=>b = !yT (un c)/\Chg w w2 [],?_,by omega,?_⟩
  ·rintro w2 b ⟨rfl,c2⟩ -
   cases hd:yT (un c) with
   | false =>
    have:E8 l=false:=List.all_eq_false.2 ⟨c,List.mem_of_getElem? hx,by simp[hd]⟩;exact cT rfl ⟨by rw[gx,if_pos (.inl this)],c2⟩
   | true =>
    refine cF rfl ⟨l.length-(k+1),by omega,k+1,aF ⟨by omega,by omega⟩,by omega,rfl,?_,c2⟩;unfold E8 at ha ⊢;rw[aH hx,List.all_append,ha]; simp[hd]
  ·rw[Int.toNat_natCast,lO,hx];have hlt8:=c.toNat_lt
   by_cases h1:(c.toNat:Int)<48
   ·exact cT (dT h1) ⟨by rw[yT,un,dF (by omega)]; rfl,hc⟩
   ·refine cF (dF h1) ⟨by omega,?_⟩;refine⟨?_,hc⟩
    by_cases h2:(c.toNat:Int)>57
    ·rw[dT h2,yT,un,dT (show(48:Int)<=(c.toNat:Int) by omega),dF (show ¬ (c.toNat:Int)<=57 by omega)]; rfl
    ·rw[dF h2,yT,un,dT (show(48:Int)<=(c.toNat:Int) by omega),dT (show(c.toNat:Int)<=57 by omega)]; rfl
 ·obtain rfl:k=l.length:=by omega
  rw[List.take_length] at ha;refine cF (by rw[iE]; exact dF (by omega)) ⟨λ b w2=>b=decide (l=[]\/(l.head? = some 48/\1<l.length))/\Chg w w2 [],?_,?_⟩
  ·rintro w2 b ⟨rfl,c2⟩ -
   by_cases hb:l=[]\/(l.head? = some 48/\1<l.length)
   ·exact cT (dT hb) ⟨by rw[gx,if_pos (.inr hb)],c2⟩
   ·refine cF (dF hb) ?_;have e1:gx l=if 9<l.length then (0,4) else (Oe l,0):=by
     rw[gx,if_neg];rintro(h|h)
     ·rw[ha] at h; cases h
     ·exact hb h
    by_cases h9:9<l.length
    ·exact cT (by rw[iE]; exact dT (by omega)) ⟨by rw[e1,if_pos h9],c2⟩
    ·rw[if_neg h9] at e1;obtain⟨n,hn⟩:=Mh ha (λ h=>hb (.inl h));refine cF (by rw[iE]; exact dF (by omega)) ((Tryz.strconv_Atoi (bs l) n (by rw[iE]; omega) hn w2).mono ?_);rintro e w3 ⟨rfl,t,rfl⟩;refine⟨_,_,rfl,?_,c2.trans (Kz _ _ _) (by simp)⟩;rw[e1,Oe,hn]; rfl
  ·cases l with
   | nil=>exact cT (by rw[jy]; rfl) ⟨by decide,hc⟩
   | cons c l =>
    refine cF (by rw[jy,jy]; rfl) ⟨by decide,?_⟩;show cond ((c.toNat:Int)==48) _ _
    by_cases h48:c=48
    ·subst h48;refine cT rfl ⟨?_,hc⟩;rw[iE]
     by_cases h1:1<(48 :: l:List UInt8).length
     ·rw[dT (show(((48 :: l:List UInt8).length:Nat):Int)>1 by omega),dT (Or.inr ⟨rfl,h1⟩)]
     ·rw[dF (show ¬ (((48 :: l:List UInt8).length:Nat):Int)>1 by omega),dF (by rintro(h|h); cases h; exact h1 h.2)]
    ·refine cF (beq_eq_false_iff_ne.2 λ h=>h48 (UInt8.toNat_inj.1 (by show c.toNat=48; omega))) ⟨?_,hc⟩;rw[dF];rintro(h|h)
     ·cases h
     ·exact h48 (by simpa using h.1)
def qq:List (List UInt8)->Int
 | []=>0
 | x :: l=>if (gx x).2≠0 then (gx x).2 else qq l
theorem Gq:∀ {l:List (List UInt8)} {k:Nat} {x:List UInt8},(∀ y∈l.take k,(gx y).2=0)->l[k]?=some x->qq l=if (gx x).2≠0 then (gx x).2 else qq (l.drop (k+1))
 | y :: l,0,x,_,hx=>by cases hx; rfl
 | y :: l,k+1,x,h,hx=>by
  rw[qq,if_neg (by simpa using h y (by simp))];exact Gq (λ z hz=>h z (by simp[hz])) (by simpa using hx)
theorem CR:∀ {l:List (List UInt8)},(∀ y∈l,(gx y).2=0)->qq l=0
 | [],_=>rfl
 | y :: l,h=>by rw[qq,if_neg (by simpa using h y (by simp))]; exact CR λ z hz=>h z (by simp[hz])
theorem IE{w:World}{a:OA}{c:Nat}{l:List (List UInt8)}(hr:bG 1 sF w a l)(hl:l.length<=100000)(hx:∀ x∈l,x.length<=1000000) :
  CP 185 #[.slice a l.length c] w (λ r w'=>(qq l≠0/\r=.tuple #[.slice none 0 0,iv (qq l)]/\Chg w w' [])\/(qq l=0/\∃ a' c',r=.tuple #[.slice a' l.length c',iv 0]/\St w w' (Sep [cH 3 1 i1 a' c' (l.map λ x=>(gx x).1)]))):=by
 refine xG ?_;unfold tu;refine⟨λ a2 n2 c2 i w1 m=>∃ k:Nat,i=k/\k<=l.length/\m=l.length-k/\n2=k/\(∀ y∈l.take k,(gx y).2=0)/\St w w1 (Sep [cH 3 1 i1 a2 c2 ((l.take k).map λ x=>(gx x).1)]),⟨l.length,0,rfl,by omega,by omega,rfl,by simp,(St.start w).cV⟩,?_⟩;rintro w1 m a2 n2 c2 i ⟨k,rfl,hk,hm,hn2,ha,s1⟩ -;have hn3:=hn2.symm;subst hn3
 by_cases hlt:(k:Int)<(l.length:Int)
 ·have hxk:l[k]?=some (l[k]'(by omega)):=gE (by omega);generalize l[k]'(by omega)=x at hxk;obtain⟨q,hq,hc⟩:=Iy (hr.aA s1.aA) hxk;have e1:=Gq ha hxk;refine cT (dT hlt) (aq hq ⟨by omega,by omega,_,hc,an (LD w1 (hx x (List.mem_of_getElem? hxk))) ?_⟩);rintro v w2 ⟨rfl,c3⟩;have s2:=s1.quiet c3;refine⟨_,_,rfl,?_⟩
  by_cases h0:(gx x).2=0
  ·refine cF (by simpa using h0) ?_;have e2:(l.take (k+1)).map (λ x=>(gx x).1)=(l.take k).map (λ x=>(gx x).1)++[(gx x).1]:=by rw[aH hxk,List.map_append]; rfl
   have hl2:((l.take k).map λ x=>(gx x).1).length=k:=by rw[List.length_map,List.length_take]; omega
   have:=eK (ty:=244) (x:=(gx x).1) (l:=(l.take k).map λ x=>(gx x).1) WD dB (HP _) s2 (by rw[hl2]; omega) (by rw[hl2]; omega) (R:=λ a3 l3 c3 w4=>∃ m2,m2<l.length-k/\∃ k' : Nat,IntKind.i64.wrap ((k:Int)+1)=(k' : Int)/\k'<=l.length/\m2=l.length-k'/\l3=k'/\(∀ y∈l.take k',(gx y).2=0)/\St w w4 (Sep [cH 3 1 i1 a3 c3 ((l.take k').map λ x=>(gx x).1)])) (λ a' c' w' s'=>⟨l.length-(k+1),by omega,k+1,aF ⟨by omega,by omega⟩,by omega,rfl,by rw[List.length_append,hl2]; rfl,λ y hy=>?_,by rw[e2]; exact s'⟩) rfl
   ·rw[hl2] at this;rw[hm];exact this
   ·rw[aH hxk] at hy;rcases List.mem_append.1 hy with h|h
    ·exact ha y h
    ·rw[List.mem_singleton.1 h]; exact h0
  ·rw[if_pos h0] at e1;exact cT (by simpa using h0) (.inl ⟨by rw[e1]; exact h0,by rw[e1],s2.aA⟩)
 ·obtain rfl:k=l.length:=by omega
  rw[List.take_length] at ha s1;exact cF (dF hlt) (.inr ⟨CR ha,a2,c2,rfl,s1⟩)
def uY(l:List Br)(nm:List UInt8):Int×Bool:=(((l.findIdx? λ p=>p.nm==nm).map λ k=>(k:Int)).getD 0,l.any λ p=>p.nm==nm)
theorem N4{w:World}{a:OA}{c:Nat}{l:List Br}(h:lJ w a l)(hl:l.length<=100000)(nm:List UInt8) :
  CP 119 #[.slice a l.length c,sv nm] w (λ r w'=>r=.tuple #[iv (uY l nm).1,.bool (uY l nm).2]/\Chg w w' []):=by
 refine CU ?_;unfold Ig;refine⟨λ n w1 m=>∃ k:Nat,n=k/\k<=l.length/\m=l.length-k/\(l.take k).any (λ p=>p.nm==nm)=false/\Chg w w1 [],⟨l.length,0,rfl,by omega,by omega,rfl,Chg.refl _ _⟩,?_⟩;rintro w1 m n ⟨k,rfl,hk,hm,ha,hc⟩ -
 by_cases hlt:(k:Int)<(l.length:Int)
 ·have hx:l[k]?=some (l[k]'(by omega)):=gE (by omega);generalize l[k]'(by omega)=x at hx;obtain⟨_,q,rfl,hcl⟩:=(h.aA hc) k x hx;refine cT (by simpa using hlt) ⟨by omega,by omega,_,_,_,_,hcl,(St.start' hc).one.aB _ λ r1 w2 s2=>s2.aC 0 rfl x.cells rfl x.one λ w3 s3=>?_⟩;refine⟨_,by rw[s3.ag 0 rfl]; rfl,?_⟩
  by_cases hn:x.nm=nm
  ·refine cT (by rw[hn]; simp) ⟨?_,s3.aA⟩;have hp:(λ p:Br=>p.nm==nm) x=true:=by simpa using hn
   rw[uY,p5 hx hp ha,kM hx hp]; rfl
  ·exact cF (by rw[jy,jy]; simpa using hn) ⟨l.length-(k+1),by omega,k+1,by rw[aF ⟨by omega,by omega⟩]; rfl,by omega,rfl,iB ha hx (by simpa using hn),s3.aA⟩
 ·refine cF (by simpa using hlt) ⟨?_,hc⟩;rw[List.take_of_length_le (by omega)] at ha;rw[uY,nD ha,ha]; rfl
def iP(S:Se)(h nm:List UInt8):Int×Int :=
 if h=Tf\/h=Td then (0,if gm nm then 0 else 5)
 else if h=Te then (if nm=[42] then (-1,0) else if (uY S.bd nm).2 then ((uY S.bd nm).1,0) else (0,6))
 else if h=Tc then (if (dN S.ps nm).2 then ((dN S.ps nm).1,0) else (0,6))
 else (-1,0)
theorem Oq{w:World}{S:Se}(hS:S.In w)(h1:S.ps.length<=100000)(h2:S.bd.length<=100000)(h nm:List UInt8) :
  CP 184 #[.agg S.arr,sv h,sv nm] w (λ r w'=>r=.tuple #[iv (iP S h nm).1,iv (iP S h nm).2]/\Chg w w' []):=by
 refine Bz ?_;unfold yz;refine(St.start w).one.aB S.arr λ r1 w1 s1=>?_;refine⟨λ n b w2=>((b=false/\iP S h nm=(0,6))\/(b=true/\iP S h nm=(n,0)))/\Chg w w2 [],?_,?_⟩
 ·rintro w2 n b ⟨(⟨rfl,e⟩|⟨rfl,e⟩),c2⟩ -
  ·exact cT rfl ⟨by rw[e],c2⟩
  ·exact cF rfl ⟨by rw[e],c2⟩
 refine⟨λ b w3=>b=decide (h=Tf\/h=Td)/\w3=w1,?_,?_⟩
 ·rintro w3 b ⟨rfl,rfl⟩ -
  by_cases g1:h=Tf\/h=Td
  ·have e1:iP S h nm=(0,if gm nm then 0 else 5):=by rw[iP,if_pos g1]
   refine cT (dT g1) (an (AR w3 nm) ?_);rintro v w4 ⟨rfl,rfl⟩;refine⟨_,rfl,?_⟩
   cases hn:gm nm with
   | true=>exact cF rfl ⟨by rw[e1,hn]; rfl,s1.aA⟩
   | false=>exact cT rfl ⟨by rw[e1,hn]; rfl,s1.aA⟩
  ·refine cF (dF g1) ?_;rw[jy,jy,jy,jy,jy]
   by_cases g2:h=Te
   ·have e2:iP S h nm=if nm=[42] then (-1,0) else if (uY S.bd nm).2 then ((uY S.bd nm).1,0) else (0,6):=by rw[iP,if_neg g1,if_pos g2]
    refine cT (beq_iff_eq.2 g2) ?_
    by_cases g3:nm=[42]
    ·exact cF (by rw[g3]; rfl) ⟨.inr ⟨rfl,by rw[e2,if_pos g3]⟩,s1.aA⟩
    ·rw[if_neg g3] at e2;refine cT (by rw[beq_eq_false_iff_ne.2 g3]; rfl) ⟨_,_,_,s1.ag 0 rfl 1,an (N4 (hS.aA s1.aA).bd h2 nm) ?_⟩;rintro v w5 ⟨rfl,c5⟩;refine⟨_,_,rfl,?_,(s1.quiet c5).aA⟩
     cases hf:(uY S.bd nm).2 with
     | true=>exact .inr ⟨rfl,by rw[e2,hf]; rfl⟩
     | false=>exact .inl ⟨rfl,by rw[e2,hf]; rfl⟩
   ·refine cF (beq_eq_false_iff_ne.2 g2) ?_
    by_cases g4:h=Tc
    ·have e2:iP S h nm=if (dN S.ps nm).2 then (((dN S.ps nm).1:Int),0) else (0,6):=by rw[iP,if_neg g1,if_neg g2,if_pos g4]
     refine cT (beq_iff_eq.2 g4) ⟨_,_,_,s1.ag 0 rfl 0,an (Jj (hS.aA s1.aA).ps h1 nm) ?_⟩;rintro v w5 ⟨rfl,c5⟩;refine⟨_,_,rfl,?_,(s1.quiet c5).aA⟩
     cases hf:(dN S.ps nm).2 with
     | true=>exact .inr ⟨rfl,by rw[e2,hf]; rfl⟩
     | false=>exact .inl ⟨rfl,by rw[e2,hf]; rfl⟩
    ·exact cF (beq_eq_false_iff_ne.2 g4) ⟨.inr ⟨rfl,by rw[iP,if_neg g1,if_neg g2,if_neg g4]⟩,s1.aA⟩
 ·rw[jy,jy,jy]
  by_cases g1:h=Tf
  ·exact cT (beq_iff_eq.2 g1) ⟨by rw[dT (Or.inl g1)]; exact beq_iff_eq.2 g1,rfl⟩
  ·refine cF (beq_eq_false_iff_ne.2 g1) ⟨?_,rfl⟩
   by_cases g2:h=Td
   ·rw[dT (Or.inr g2)]; exact beq_iff_eq.2 g2
   ·rw[dF (by rintro(h|h); exact g1 h; exact g2 h)]; exact beq_eq_false_iff_ne.2 g2
end Go.Proofs.YtemiicbbbojdiaaGreatDoor
namespace Go.Vc
open Go
abbrev nH (u:I6):Value:=.agg u.vs.toArray
structure VD (P:Program) (t kt et:TypeId):Prop where
 u:P.underlying t=some (.map kt et)
 k:∃ it,P.underlying kt=some (.array 6 it)
 z:(P.info? et).bind (·.zero)=some (iv 0)
 eq:∀ u v:I6,O6 P 12 kt (nH u) (nH v)=some (I6.beq u v)
 ck:∀ (b:Bool) (u:I6) (w:World),(Instr.checkKey b 10000 kt (nH u)).run P w=.ok () w
abbrev KV:=I6×Int
def kvs(es:List MapEntry):List (Value×Value):=es.map λ e=>(e.key,e.val)
def HQ(l:List KV):List (Value×Value):=l.map λ p=>(nH p.1,iv p.2)
structure E4 (es:List MapEntry) (cl:Nat) (l:List KV):Prop where
 kv:kvs es=HQ l
 nd:(es.map (·.born)).Nodup
 lt:∀ e∈es,e.born<cl
 ky:(l.map (·.1)).Nodup
def mapA(r:Nat)(l:List KV):aG:=TV λ (x:{ p:Array MapEntry×Nat // E4 p.1.toList p.2 l })=>bI r (.map x.1.1 x.1.2)
def kB(l:List KV)(u:I6):Option Int:=(l.find? λ p=>p.1==u).map (·.2)
section
variable {P:Program} {t kt et:TypeId} {w0 w:World} {B:aG} {r:Nat} {l:List KV}
theorem Mg(eq:∀ u v:I6,O6 P 12 kt (nH u) (nH v)=some (I6.beq u v))(u:I6)(w:World):∀ (es:List MapEntry) (l:List KV) (i:Nat),kvs es=HQ l ->
  (∃ v j,kB l u=some v/\(Instr.findAsking kt (nH u) es i).run P w=.ok (some (i+j,iv v)) w/\∃ e,es[j]?=some e/\e.key=nH u/\l[j]?=some (u,v)) \/
   (kB l u=none/\(Instr.findAsking kt (nH u) es i).run P w=.ok none w)
 | [],[],i,_=>.inr ⟨rfl,by simp[Instr.findAsking]⟩
 | e :: es,p :: l,i,h=>by
  simp only[kvs,HQ,List.map_cons,List.cons.injEq,Prod.mk.injEq] at h;obtain⟨⟨hk,hv⟩,hr⟩:=h;have he:(Op.equal kt (nH u) e.key).run P w=.ok (I6.beq u p.1) w:=by rw[hk]; exact DS 12 kt _ _ _ Op.maxDepth (eq u p.1) (by decide)
  have hb:I6.beq u p.1=(p.1==u):=by
   rw[I6.beq_eq]
   by_cases h:u=p.1
   ·rw[decide_eq_true h,h]; simp
   ·rw[decide_eq_false h]; symm; simpa using λ h'=>h h'.symm
  by_cases hu:p.1=u
  ·have hbt:I6.beq u p.1=true:=by rw[hb,hu]; simp
   rw[hbt] at he;refine .inl ⟨p.2,0,?_,?_,e,rfl,by rw[hk,hu],?_⟩
   ·simp[kB,hu]
   ·rw[Instr.findAsking]; simp[he,hv]
   ·obtain⟨a,b⟩:=p; simp only at hu ⊢; subst hu; rfl
  ·have hbf:I6.beq u p.1=false:=by rw[hb]; simpa using hu
   rw[hbf] at he;have hv' : kB (p :: l) u=kB l u:=by
    unfold kB;rw[List.find?_cons];have:(p.1==u)=false:=by simpa using hu
    rw[this]
   rcases Mg eq u w es l (i+1) hr with⟨v,j,h1,h2,e',h3,h4,h5⟩|⟨h1,h2⟩
   ·refine .inl ⟨v,j+1,by rw[hv',h1],?_,e',by simpa using h3,h4,by simpa using h5⟩;rw[Instr.findAsking]; simp[he,h2]; omega
   ·exact .inr ⟨by rw[hv',h1],by rw[Instr.findAsking]; simp[he,h2]⟩
 | [],_ :: _,_,h=>by simp[kvs,HQ] at h
 | _ :: _,[],_,h=>by simp[kvs,HQ] at h
theorem FJ(hT:VD P t kt et)(u:I6)(w:World){es:List MapEntry}(h:kvs es=HQ l) :
  (∃ v j,kB l u=some v/\(Instr.findKey kt (nH u) es).run P w=.ok (some (j,iv v)) w/\∃ e,es[j]?=some e/\e.key=nH u/\l[j]?=some (u,v))\/(kB l u=none/\(Instr.findKey kt (nH u) es).run P w=.ok none w):=by
 obtain⟨it,hk⟩:=hT.k;have hf:(Instr.findKey kt (nH u) es).run P w=(Instr.findAsking kt (nH u) es).run P w:=by
  cases es with
  | nil=>simp[Instr.findKey,aD hk,Instr.findNow,Instr.findAsking]
  | cons e es=>simp[Instr.findKey,aD hk,Instr.findNow,Instr.sameNow]
 rw[hf];rcases Mg hT.eq u w es l 0 h with⟨v,j,h1,h2,h3⟩|h1
 ·exact .inl ⟨v,j,h1,by rw[h2,Nat.zero_add],h3⟩
 ·exact .inr h1
theorem Gh(hT:VD P t kt et)(s:St w0 w (star (mapA r l) B))(u:I6){R:Int->World->Prop}(h:R ((kB l u).getD 0) w) :
  bp P (Instr.lookup t (.map (some r)) (nH u) false) w λ e w'=>∃ n:Int,e=iv n/\R n w':=by
 obtain⟨⟨⟨es,cl⟩,hok⟩,s'⟩:=s.ex;have ho:w.heap[r]?=some (.map es cl):=s'.obj;have hz:(zeroValue et).run P w=.ok (iv 0) w:=by
  have:=hT.z
  cases hi:P.info? et with
  | none=>simp[hi] at this
  | some i=>simp[hi] at this; simp[zeroValue,typeInfo,hi,this]
 have hc:=hT.ck es.isEmpty u w;rcases FJ hT u w hok.kv with⟨v,j,h1,h2,_⟩|⟨h1,h2⟩
 ·refine⟨iv v,w,?_,v,rfl,by rwa [h1] at h⟩;simp[Instr.lookup,aD hT.u,ho,hc,h2,getObj,Sem.run]
 ·refine⟨iv 0,w,?_,0,rfl,by rwa [h1] at h⟩;simp[Instr.lookup,aD hT.u,ho,hc,h2,hz,getObj,Sem.run]
def zl(l:List KV)(u:I6)(v:Int):List KV:=if (kB l u).isSome then l.map λ p=>if p.1=u then (u,v) else p else l++[(u,v)]
theorem RG{l:List KV}(hn:(l.map (·.1)).Nodup){u:I6}{v v0:Int}{j:Nat}(hj:l[j]?=some (u,v0)):l.map (λ p=>if p.1=u then (u,v) else p)=l.set j (u,v):=by
 have hlt:=(List.getElem?_eq_some_iff.1 hj).1;refine List.ext_getElem? λ i=>?_;rw[List.getElem?_map,List.getElem?_set]
 by_cases e:j=i
 ·subst e; rw[if_pos rfl,if_pos hlt,hj]; simp
 ·rw[if_neg e]
  cases hi:l[i]? with
  | none=>rfl
  | some p =>
   have hil:=(List.getElem?_eq_some_iff.1 hi).1;have hne:p.1≠u:=λ h=>by
    have h1:(l.map (·.1))[j]?=some u:=by rw[List.getElem?_map,hj]; rfl
    have h2:(l.map (·.1))[i]?=some u:=by rw[List.getElem?_map,hi]; simp[h]
    exact e ((List.getElem?_inj (by simpa using hlt) hn).1 (h1.trans h2.symm))
   simp[hne]
theorem Dl{l:List KV}{u:I6}(h:kB l u=none):∀ p∈l,p.1≠u:=λ p hp e=>by
 unfold kB at h;rw[Option.map_eq_none_iff,List.find?_eq_none] at h;exact h p hp (by simpa using e)
theorem OV{l:List KV}(hn:(l.map (·.1)).Nodup){p:KV}(hp:p∈l):kB l p.1=some p.2:=by
 induction l with
 | nil=>cases hp
 | cons q l ih =>
  simp only[List.map_cons,List.nodup_cons] at hn;unfold kB;rw[List.find?_cons];rcases List.mem_cons.1 hp with rfl|h
  ·simp
  ·have hne:q.1≠p.1:=λ e=>hn.1 (by rw[e]; exact List.mem_map_of_mem h);have:(q.1==p.1)=false:=by simpa using hne
   rw[this];exact ih hn.2 h
theorem Dm{l:List KV}{u:I6}{v:Int}(h:kB l u=some v):(u,v)∈l:=by
 unfold kB at h;rw[Option.map_eq_some_iff] at h;obtain⟨p,h1,h2⟩:=h;have hm:=List.mem_of_find?_eq_some h1;have hu:=List.find?_some h1;obtain⟨a,b⟩:=p;simp only[beq_iff_eq] at hu;simp only at h2;subst hu h2; exact hm
theorem OW(l:List KV)(u x:I6)(v:Int):kB (zl l u v) x=if x=u then some v else kB l x:=by
 unfold zl
 cases hs:kB l u with
 | none =>
  have hn:=Dl hs;rw[if_neg (by simp)];unfold kB;rw[List.find?_append]
  by_cases hx:x=u
  ·subst hx;have:l.find? (λ p=>p.1==x)=none:=by rw[List.find?_eq_none]; intro p hp; simpa using hn p hp
   rw[this]; simp
  ·rw[if_neg hx];have:(u==x)=false:=by simpa using λ h=>hx h.symm
   simp[this]
 | some v0 =>
  rw[if_pos (show(some v0).isSome=true from rfl)];have hm:=Dm hs;clear hs;unfold kB
  by_cases hx:x=u
  ·subst hx;rw[if_pos rfl]
   induction l with
   | nil=>cases hm
   | cons q l ih =>
    rw[List.map_cons,List.find?_cons]
    by_cases hq:q.1=x
    ·simp[hq]
    ·have:(q.1==x)=false:=by simpa using hq
     simp only[if_neg hq,this];refine ih ?_;rcases List.mem_cons.1 hm with rfl|h
     ·exact absurd rfl hq
     ·exact h
  ·rw[if_neg hx];clear hm
   induction l with
   | nil=>rfl
   | cons q l ih =>
    rw[List.map_cons,List.find?_cons,List.find?_cons]
    by_cases hq:q.1=u
    ·have h1:(u==x)=false:=by simpa using λ h=>hx h.symm
     have h2:(q.1==x)=false:=by rw[hq]; exact h1
     simp only[if_pos hq,h1,h2]; exact ih
    ·simp only[if_neg hq]
     cases h:(q.1==x) with
     | true=>rfl
     | false=>exact ih
theorem LB(u:I6):Instr.sameBits 10000 (nH u) (nH u)=true:=by
 rw[show(10000:Nat)=9998+1+1 from rfl];simp[Instr.sameBits,I6.vs]
theorem Rk(hT:VD P t kt et)(s:St w0 w (star (mapA r l) B))(u:I6)(v:Int){R:World->Prop}(h:∀ w',St w0 w' (star (mapA r (zl l u v)) B)->R w') :
  bp P (Instr.mapUpdate t (.map (some r)) (nH u) (iv v)) w λ _ w'=>R w':=by
 obtain⟨⟨⟨es,cl⟩,hok⟩,s'⟩:=s.ex;have ho:w.heap[r]?=some (.map es cl):=s'.obj;have hc:=hT.ck false u w;rcases FJ hT u w hok.kv with⟨v0,j,h1,h2,e0,h3,h4,h5⟩|⟨h1,h2⟩
 ·have hj:=(List.getElem?_eq_some_iff.1 h3).1;have hes:es[j]?=some e0:=by simpa using h3
  have hs:=s'.put (.map (es.modify j λ e=>{ e with key:=nH u,val:=iv v }) cl);have hr:(Instr.mapUpdate t (.map (some r)) (nH u) (iv v)).run P w=.ok () { w with heap:=w.heap.setIfInBounds r (.map (es.modify j λ e=>{ e with key:=nH u,val:=iv v }) cl) }:=by
   simp[Instr.mapUpdate,aD hT.u,ho,hc,h2,hes,h4,Instr.keyThatStays,LB,setObj,getObj,Sem.run]
  suffices H:E4 (es.modify j λ e=>{ e with key:=nH u,val:=iv v }).toList cl (zl l u v) from
   ⟨_,_,hr,h _ (St.y7 (f:=λ (x:{ p:Array MapEntry×Nat // E4 p.1.toList p.2 (zl l u v) })=>bI r (.map x.1.1 x.1.2)) ⟨(_,_),H⟩ hs)⟩
  have esl:zl l u v=l.set j (u,v):=by rw[zl,if_pos (by rw[h1]; rfl),RG hok.ky h5]
  have em:(es.modify j λ e=>{ e with key:=nH u,val:=iv v }).toList=es.toList.set j { e0 with key:=nH u,val:=iv v }:=by
   rw[Array.toList_modify];refine List.ext_getElem? λ i=>?_;rw[List.getElem?_modify,List.getElem?_set]
   by_cases e:j=i
   ·subst e; rw[if_pos rfl,if_pos hj,h3]; simp
   ·rw[if_neg e]; cases es.toList[i]? <;> simp[e]
  rw[em,esl];have hkv:=hok.kv;refine⟨?_,?_,?_,?_⟩
  ·unfold kvs HQ at hkv ⊢;rw[List.map_set,List.map_set,hkv]
  ·rw[List.map_set];have:(es.toList.map (·.born)).set j e0.born=es.toList.map (·.born):=by
    refine List.ext_getElem? λ i=>?_;rw[List.getElem?_set]
    split
    ·rename_i e; subst e; rw[List.getElem?_map,h3,if_pos (by rw[List.length_map]; exact hj)]; rfl
    ·rfl
   show((es.toList.map (·.born)).set j e0.born).Nodup;rw[this]; exact hok.nd
  ·intro e he;rcases List.mem_or_eq_of_mem_set he with he|rfl
   ·exact hok.lt e he
   ·exact hok.lt e0 (List.mem_of_getElem? h3)
  ·rw[List.map_set];have:(l.map (·.1)).set j u=l.map (·.1):=by
    refine List.ext_getElem? λ i=>?_;rw[List.getElem?_set]
    split
    ·rename_i e; subst e;have:=(List.getElem?_eq_some_iff.1 h5).1;rw[List.getElem?_map,h5]; simp[this]
    ·rfl
   show((l.map (·.1)).set j u).Nodup;rw[this]; exact hok.ky
 ·have hs:=s'.put (.map (es.push { key:=nH u,val:=iv v,born:=cl }) (cl+1));have hr:(Instr.mapUpdate t (.map (some r)) (nH u) (iv v)).run P w=.ok () { w with heap:=w.heap.setIfInBounds r (.map (es.push { key:=nH u,val:=iv v,born:=cl }) (cl+1)) }:=by
   simp[Instr.mapUpdate,aD hT.u,ho,hc,h2,setObj,getObj,Sem.run]
  suffices H:E4 (es.push { key:=nH u,val:=iv v,born:=cl }).toList (cl+1) (zl l u v) from
   ⟨_,_,hr,h _ (St.y7 (f:=λ (x:{ p:Array MapEntry×Nat // E4 p.1.toList p.2 (zl l u v) })=>bI r (.map x.1.1 x.1.2)) ⟨(_,_),H⟩ hs)⟩
  have esl:zl l u v=l++[(u,v)]:=by rw[zl,if_neg (by rw[h1]; decide)]
  rw[esl];have et:(es.push { key:=nH u,val:=iv v,born:=cl }).toList=es.toList++[{ key:=nH u,val:=iv v,born:=cl }]:=by simp
  rw[et];refine⟨?_,?_,?_,?_⟩
  ·have:=hok.kv; unfold kvs HQ at this ⊢; rw[List.map_append,List.map_append,this]; rfl
  ·rw[List.map_append,List.nodup_append];refine⟨hok.nd,by simp,λ a ha b hb=>?_⟩;obtain⟨e,he,rfl⟩:=List.mem_map.1 ha;have:=hok.lt e he;simp at hb; omega
  ·intro e he;rcases List.mem_append.1 he with he|he
   ·have:=hok.lt e he; omega
   ·rw[List.mem_singleton.1 he]; show cl<cl+1; omega
  ·rw[List.map_append,List.nodup_append];refine⟨hok.ky,by simp,λ a ha b hb=>?_⟩;obtain⟨p,hp,rfl⟩:=List.mem_map.1 ha;have:=Dl h1 p hp;simp at hb; subst hb; exact this
end
theorem tf{α:Type}[BEq α][LawfulBEq α]:∀ {l m:List α},l.Nodup->(∀ x∈l,x∈m)->l.length<=m.length
 | [],_,_,_=>Nat.zero_le _
 | x :: l,m,hd,h=>by
  rw[List.nodup_cons] at hd;have hx:=h x (by simp);have:=tf (l:=l) (m:=m.erase x) hd.2 λ y hy=>by
   refine(List.mem_erase_of_ne ?_).2 (h y (by simp[hy]));rintro rfl; exact hd.1 hy
  rw[List.length_erase_of_mem hx] at this;have:=List.length_pos_of_mem hx;simp only[List.length_cons]; omega
theorem QC{u v:I6}(h:nH u=nH v):u=v:=by
 cases u; cases v
 simp only[nH,I6.vs,Value.agg.injEq,Array.mk.injEq,List.cons.injEq,Value.int.injEq,true_and,and_true] at h;obtain⟨rfl,rfl,rfl,rfl,rfl,rfl⟩:=h; rfl
theorem born_inj:∀ {es:List MapEntry},(es.map (·.born)).Nodup->∀ {a b:MapEntry},a∈es->b∈es->a.born=b.born->a=b
 | e :: es,hn,a,b,ha,hb,h=>by
  rw[List.map_cons,List.nodup_cons] at hn;rcases List.mem_cons.1 ha with ea|ha'
  ·rcases List.mem_cons.1 hb with eb|hb'
   ·rw[ea,eb]
   ·exact absurd (by rw[<- ea,h]; exact List.mem_map_of_mem hb') hn.1
  ·rcases List.mem_cons.1 hb with eb|hb'
   ·exact absurd (by rw[<- eb,<- h]; exact List.mem_map_of_mem ha') hn.1
   ·exact born_inj hn.2 ha' hb' h
theorem Ni{es:List MapEntry}{l:List KV}(h:kvs es=HQ l):es.length=l.length:=by
 have:=congrArg List.length h;simpa[kvs,HQ] using this
theorem Su{es:List MapEntry}{l:List KV}(h:kvs es=HQ l){e:MapEntry}(he:e∈es):∃ p∈l,e.key=nH p.1/\e.val=iv p.2:=by
 have h1:(e.key,e.val)∈kvs es:=List.mem_map_of_mem (f:=λ e:MapEntry=>(e.key,e.val)) he;rw[h] at h1;obtain⟨p,hp,hh⟩:=List.mem_map.1 h1;simp only[Prod.mk.injEq] at hh;exact⟨p,hp,hh.1.symm,hh.2.symm⟩
theorem V8{es:List MapEntry}{l:List KV}(h:kvs es=HQ l){p:KV}(hp:p∈l):∃ e∈es,e.key=nH p.1/\e.val=iv p.2:=by
 have h1:(nH p.1,iv p.2)∈HQ l:=List.mem_map_of_mem (f:=λ p:KV=>(nH p.1,iv p.2)) hp;rw[<- h] at h1;obtain⟨e,he,hh⟩:=List.mem_map.1 h1;simp only[Prod.mk.injEq] at hh;exact⟨e,he,hh.1,hh.2⟩
structure VE (es:List MapEntry) (seen:List Nat) (S:List KV) (vis:List MapEntry):Prop where
 sn:seen=vis.map (·.born)
 nd:seen.Nodup
 sub:∀ e∈vis,e∈es
 kv:kvs vis=HQ S
structure Xb (l S:List KV) where
 es:Array MapEntry
 cl:Nat
 seen:Array Nat
 vis:List MapEntry
 ok:E4 es.toList cl l
 vk:VE es.toList seen.toList S vis
def AS(r it:Nat)(l S:List KV):aG:=TV λ (x:Xb l S)=>star (bI it (.mapIter (some r) x.cl x.seen x.cl)) (bI r (.map x.es x.cl))
section
variable {P:Program} {t kt et:TypeId} {w0 w:World} {B:aG} {r it:Nat} {l S:List KV}
theorem mL(hT:VD P t kt et)(s:St w0 w (star (mapA r l) B)){R:Nat->World->Prop}(k:∀ it w',St w0 w' (star (AS r it l []) B)->R it w') :
  bp P (Instr.range t (.map (some r))) w λ e w'=>∃ it:Nat,e=.pointer (some ⟨it,0,none⟩)/\R it w':=by
 obtain⟨⟨⟨es,cl⟩,hok⟩,s'⟩:=s.ex;have ho:w.heap[r]?=some (.map es cl):=s'.obj;have hr:(Instr.range t (.map (some r))).run P w=.ok (.pointer (some ⟨w.heap.size,0,none⟩)) (w.alloc (.mapIter (some r) cl #[] cl)):=by
  simp[Instr.range,aD hT.u,ho,getObj,Sem.run]
 refine⟨_,_,hr,_,rfl,k _ _ ?_⟩;have s2:=(s'.newObj (.mapIter (some r) cl #[] cl)).swap;exact St.y7 (f:=λ (x:Xb l [])=>star (bI w.heap.size (.mapIter (some r) x.cl x.seen x.cl)) (bI r (.map x.es x.cl))) ⟨es,cl,#[],[],hok,⟨rfl,by simp,by simp,rfl⟩⟩ (s2.eqv bw.assoc')
theorem St.AT(s:St w0 w (star (AS r it l S) B)):St w0 w (star (mapA r l) B):=by
 obtain⟨x,s'⟩:=s.ex;exact St.y7 (f:=λ (x:{ p:Array MapEntry×Nat // E4 p.1.toList p.2 l })=>bI r (.map x.1.1 x.1.2)) ⟨(x.es,x.cl),x.ok⟩ (s'.assoc.second)
theorem qm{ty:TypeId}(s:St w0 w (star (AS r it l S) B)){K:World->Prop}{F:I6->Int->World->Prop}(hend:(∀ p∈l,p∈S)->K w)(hstep:∀ p∈l,S.length<l.length->∀ w',St w0 w' (star (AS r it l (S++[p])) B)->F p.1 p.2 w') :
  bp P (Instr.next (.pointer (some ⟨it,0,none⟩)) false ty) w λ e w'=>(e=.tuple #[.bool false]/\K w')\/∃ v1 v2:Value,e=.tuple #[.bool true,v1,v2] /\
   bp P (Instr.entry (.pointer (some ⟨it,0,none⟩))) w' λ e' w''=>∃ (u:I6) (n:Int),e' = .tuple #[nH u,iv n]/\F u n w'':=by
 obtain⟨x,s'⟩:=s.ex;have hi:w.heap[it]?=some (.mapIter (some r) x.cl x.seen x.cl):=s'.assoc.obj;have hm:w.heap[r]?=some (.map x.es x.cl):=s'.assoc.Hl.obj;have kvE:=x.ok.kv;have kvV:=x.vk.kv;rcases run_next_at (P:=P) w ty it r x.cl x.cl x.seen x.es x.cl hi hm x.ok.lt (Nat.le_refl _) with⟨h0,hr⟩|⟨e,he,w1,hw1,hr⟩
 ·refine⟨_,w,hr,.inl ⟨rfl,hend λ p hp=>?_⟩⟩;obtain⟨e,he,hk,hv⟩:=V8 kvE hp;have hs:e.born∈x.seen.toList:=by
   by_cases hc:e.born∈x.seen.toList
   ·exact hc
   ·have:e∈leftOf x.es x.seen:=by
     unfold leftOf;simp only[Array.mem_filter,Array.mem_toList_iff] at *;exact⟨he,by simpa using hc⟩
    rw[Array.eq_empty_of_size_eq_zero h0] at this;simp at this
  rw[x.vk.sn] at hs;obtain⟨e',he',hb⟩:=List.mem_map.1 hs;have ee:=born_inj x.ok.nd (x.vk.sub e' he') he hb;subst ee;obtain⟨q,hq,hk2,hv2⟩:=Su kvV he';have h1:q.1=p.1:=QC (hk2.symm.trans hk);have h2:q.2=p.2:=by
   have:=hv2.symm.trans hv
   injection this
  have:q=p:=Prod.ext h1 h2;rw[<- this]; exact hq
 ·have hel:e∈x.es.toList/\e.born∉x.seen.toList:=by
   unfold leftOf at he;simp only[Array.toList_filter,List.mem_filter] at he;exact⟨he.1,by simpa using he.2⟩
  obtain⟨p,hp,hk,hv⟩:=Su kvE hel.1;have s1:St w0 w1 (star (star (bI it (.mapIter (some r) x.cl x.seen x.cl)) (bI r (.map x.es x.cl))) B):=by
   rcases hw1 with rfl|rfl
   ·exact s'
   ·exact s'.quiet (Chg.drew w [])
  have s2:St w0 (w1.putObj it (.mapIter (some r) x.cl (x.seen.push e.born) x.cl)) (star (bI it (.mapIter (some r) x.cl (x.seen.push e.born) x.cl)) (star (bI r (.map x.es x.cl)) B)):=s1.assoc.put _;have e2:ChangeMaps.setBlock w1 it (.mapIter (some r) x.cl (x.seen.push e.born) x.cl)=w1.putObj it (.mapIter (some r) x.cl (x.seen.push e.born) x.cl):=rfl;rw[e2] at hr;refine⟨_,_,hr,.inr ⟨_,_,rfl,?_⟩⟩;have he2:=run_entry_at (P:=P) _ it r x.cl x.seen x.es x.cl e s2.obj s2.Hl.obj hel.1 x.ok.nd;have nd2:(x.seen.toList++[e.born]).Nodup:=by
   rw[List.nodup_append];refine⟨x.vk.nd,by simp,λ a ha b hb=>?_⟩;simp at hb; subst hb;rintro rfl; exact hel.2 ha
  have hlen:S.length<l.length:=by
   have h1:=Ni kvV;have h2:=Ni kvE;have h3:(x.seen.toList++[e.born]).length<=(x.es.toList.map (·.born)).length:=tf nd2 λ b hb=>by
    rcases List.mem_append.1 hb with hb|hb
    ·rw[x.vk.sn] at hb;obtain⟨e',he',rfl⟩:=List.mem_map.1 hb;exact List.mem_map_of_mem (x.vk.sub e' he')
    ·rw[List.mem_singleton.1 hb]; exact List.mem_map_of_mem hel.1
   rw[List.length_append,List.length_map,x.vk.sn,List.length_map,List.length_singleton] at h3;omega
  refine⟨_,_,he2,p.1,p.2,by rw[hk,hv],hstep p hp hlen _ ?_⟩;refine St.y7 (f:=λ (x:Xb l (S++[p]))=>star (bI it (.mapIter (some r) x.cl x.seen x.cl)) (bI r (.map x.es x.cl))) ⟨x.es,x.cl,x.seen.push e.born,x.vis++[e],x.ok,⟨?_,?_,?_,?_⟩⟩ (s2.eqv bw.assoc')
  ·have:=x.vk.sn; rw[List.map_append,<- this]; simp
  ·simpa using nd2
  ·intro y hy;rcases List.mem_append.1 hy with hy|hy
   ·exact x.vk.sub y hy
   ·rw[List.mem_singleton.1 hy]; exact hel.1
  ·have hkv:=kvV;unfold kvs HQ at hkv ⊢;rw[List.map_append,List.map_append,hkv,List.map_singleton,List.map_singleton,hk,hv]
end
end Go.Vc
namespace Go.Proofs.YtemiicbbbojdiaaGreatDoor
open Go Go.Vc _root_.Go.Proofs.Tryz
theorem Xv.ind{P:Xv->Prop}(h:∀ x,(∀ y∈x.args,P y)->P x):∀ x,P x
 | .mk op u v a c args=>h _ λ y _hy=>Xv.ind h y
 termination_by x=>SizeOf.sizeOf x
 decreasing_by
  have:y∈args:=_hy;have:=List.sizeOf_lt_of_mem this
  simp_wf; omega
def aT:Xv->Nat
 | .mk _ _ _ _ _ args=>1+(args.map aT).sum
def oS:Xv->Nat
 | .mk _ _ _ _ _ args=>(args.map oS).foldl Nat.max 0+1
theorem gy(x:Xv):aT x=1+(x.args.map aT).sum:=by cases x; rw[aT]; rfl
theorem uL(x:Xv):oS x=(x.args.map oS).foldl Nat.max 0+1:=by cases x; rw[oS]; rfl
theorem EL:∀ {l:List Nat} {x:Nat},x∈l->x<=l.sum
 | y :: l,x,h=>by
  rw[List.sum_cons];rcases List.mem_cons.1 h with rfl|h
  ·omega
  ·have:=EL h; omega
theorem BC{x y:Xv}(h:y∈x.args):aT y<aT x:=by
 have:=EL (List.mem_map_of_mem (f:=aT) h);rw[gy x]; omega
theorem size_pos(x:Xv):1<=aT x:=by rw[gy]; omega
theorem Ab(x:Xv):x.args.length<aT x:=by
 rw[gy];have:∀ l:List Xv,l.length<=(l.map aT).sum:=λ l=>by
  induction l with
  | nil=>simp
  | cons y l ih=>have:=size_pos y; simp only[List.length_cons,List.map_cons,List.sum_cons]; omega
 have:=this x.args; omega
theorem u7{n:Nat}:∀ {l:List Nat} {a:Nat},a<=n->(∀ x∈l,x<=n)->l.foldl Nat.max a<=n
 | [],_,h,_=>h
 | x :: l,a,h,k=>by
  rw[List.foldl_cons];exact u7 (Nat.max_le.2 ⟨h,k x (by simp)⟩) λ y hy=>k y (by simp[hy])
theorem Mx:∀ x,oS x<=aT x:=Xv.ind λ x ih=>by
 rw[uL,gy];have:(x.args.map oS).foldl Nat.max 0<=(x.args.map aT).sum:=u7 (Nat.zero_le _) λ d hd=>by
  obtain⟨y,hy,rfl⟩:=List.mem_map.1 hd;exact Nat.le_trans (ih y hy) (EL (List.mem_map_of_mem hy))
 omega
theorem rA(x:Xv):x.er.args=x.args.map Xv.er:=by rw[Xv.sY]; rfl
theorem J9:∀ x,aT x.er=aT x:=Xv.ind λ x ih=>by
 rw[gy,gy x,rA,List.map_map]
 congr 2
 exact List.map_congr_left λ y hy=>ih y hy
theorem TN:∀ x,oS x.er=oS x:=Xv.ind λ x ih=>by
 rw[uL,uL x,rA,List.map_map]
 congr 2
 exact List.map_congr_left λ y hy=>ih y hy
def bF{S:Type}(step:S->Xv->S×Bool):Xv->S->S×Bool
 | .mk op u v a c args,s=>if (step s (.mk op u v a c args)).2 then (args.map (bF step)).foldl (λ r f=>if r.2 then f r.1 else r) ((step s (.mk op u v a c args)).1,true) else ((step s (.mk op u v a c args)).1,false)
def gI{S:Type}(step:S->Xv->S×Bool)(l:List Xv)(r:S×Bool):S×Bool:=l.foldl (λ r y=>if r.2 then bF step y r.1 else r) r
theorem ng{S:Type}(step:S->Xv->S×Bool)(x:Xv)(s:S):bF step x s=if (step s x).2 then gI step x.args ((step s x).1,true) else ((step s x).1,false):=by
 cases x
 rw[bF,gI];simp only[List.foldl_map,Xv.args]
theorem Kn{S:Type}{step:S->Xv->S×Bool}(hs:∀ s x,step s x.er=step s x):∀ (x:Xv) (s:S),bF step x.er s=bF step x s:=Xv.ind λ x ih s=>by
 rw[ng,ng step x,hs,rA]
 congr 1
 have:∀ (l:List Xv) (r:S×Bool),(∀ y∈l,∀ s,bF step y.er s=bF step y s)->gI step (l.map Xv.er) r=gI step l r:=λ l=>by
  induction l with
  | nil=>intro r _; rfl
  | cons y l ih2 =>
   intro r hl;unfold gI at ih2 ⊢;rw[List.map_cons,List.foldl_cons,List.foldl_cons,hl y (by simp)];exact ih2 _ λ z hz=>hl z (by simp[hz])
 exact this _ _ ih
section
variable {w0:World}
theorem PK:∀ (x:Xv),aT x<=100000->∀ w,x.In w->CP 236 #[.agg x.cells.toArray] w (λ r w'=>r=iv (oS x)/\Chg w w' []):=Xv.ind λ x ih hz w hx=>by
 refine B3 (u1:=x.u) ?_;unfold Az;have hl:=Ab x;refine(St.start w).one.aB x.cells.toArray λ r1 w1 s1=>⟨_,_,_,s1.ag 0 rfl 8,?_⟩;refine⟨λ n i w2 m=>∃ k:Nat,i=k/\k<=x.args.length/\m=x.args.length-k/\n=(((x.args.take k).map oS).foldl Nat.max 0:Nat)/\Chg w w2 [],⟨x.args.length,0,rfl,by omega,by omega,rfl,s1.aA⟩,?_⟩;rintro w2 m n i ⟨k,rfl,hk,hm,rfl,c2⟩ -
 by_cases hlt:(k:Int)<(x.args.length:Int)
 ·have hy:x.args[k]?=some (x.args[k]'(by omega)):=gE (by omega);generalize x.args[k]'(by omega)=y at hy;have hm:=List.mem_of_getElem? hy;obtain⟨q,hq,hcl⟩:=(hx.aA c2).fl.at hy;refine cT (dT hlt) (aq hq ⟨by omega,by omega,_,y.u,_,_,_,_,hcl,(St.start' c2).one.aB eH.cells.toArray λ r2 w3 s3=>s3.aC 0 rfl y.cells rfl y.one λ w4 s4=>⟨_,y.u,_,_,_,_,s4.cellsIn 0 rfl,?_⟩⟩);have hsz:=BC hm;refine an (ih y hm (by omega) w4 ((hx.aA s4.aA).sub y hm)) ?_;rintro v w5 ⟨rfl,c5⟩;refine⟨_,rfl,x.args.length-(k+1),by omega,k+1,aF ⟨by omega,by omega⟩,by omega,rfl,?_,(s4.quiet c5).aA⟩;rw[aH hy,List.map_append,List.foldl_append];show _=((Nat.max _ (oS y):Nat):Int);generalize((x.args.take k).map oS).foldl Nat.max 0=d;have:Nat.max d (oS y)=if oS y>d then oS y else d:=by
   show max _ _=_;rw[Nat.max_def]
   split<;>split<;>omega
  rw[this]
  split<;>split<;>omega
 ·obtain rfl:k=x.args.length:=by omega
  have hd:=Mx x;rw[uL] at hd;rw[List.take_length];refine cF (dF hlt) ⟨?_,c2⟩;rw[uL];generalize(x.args.map oS).foldl Nat.max 0=d at hd ⊢;rw[aF ⟨by omega,by omega⟩,Int.natCast_add]; rfl
variable {S:Type} {step:S->Xv->S×Bool} {A:S->aG} {v:Value}
theorem IN(hv:∀ (w:World) (B:aG) (s:S) (y:Xv) (R:Ending->World->Prop),St w0 w (star (A s) B)->y.In w->aT y<=100000->(∀ w',St w0 w' (star (A (step s y).1) B)->R (.returned (.bool (step s y).2)) w')->cO prog v #[.agg y.cells.toArray] w R) :
  ∀ (x:Xv),aT x<=100000->(∀ {w'},Chg w0 w' []->x.In w')->∀ (w:World) (B:aG) (s:S),St w0 w (star (A s) B) ->
  CP 238 #[.agg #[v],.agg x.cells.toArray] w (λ r w'=>r=.bool (bF step x s).2/\St w0 w' (star (A (bF step x s).1) B)):=Xv.ind λ x ih hz hx w B s h=>by
 refine sA (u1:=x.u) ?_;unfold mB;have hl:=Ab x;refine(h.yl).aB #[v] λ r1 w1 s1=>s1.aB x.cells.toArray λ r2 w2 s2=>?_;let M:S->List aG:=λ s=>[A s,ai r2 x.cells.toArray 81,ai r1 #[v] 310,B];have s3:St w0 w2 (Sep (M s)):=s2.ay [2,0,1,3];have opn:∀ {w' : World} {s:S},St w0 w' (Sep (M s))->St w0 w' (star (A s) B):=λ h=>(h.ay [0,3]).pair;refine⟨_,s2.ag 1 rfl 0,_,x.u,_,_,_,_,s2.cellsIn 0 rfl,hv w2 _ s x _ s3 (hx s3.aA) hz λ w3 s4=>⟨_,rfl,?_⟩⟩;have s4:St w0 w3 (Sep (M (step s x).1)):=s4;have ew:=ng step x s
 cases hb:(step s x).2 with
 | false =>
  rw[if_neg (by rw[hb]; decide)] at ew;exact cT rfl ⟨by rw[ew],by rw[ew]; exact opn s4⟩
 | true =>
  rw[if_pos hb] at ew;refine cF rfl ⟨_,_,_,s4.ag 1 rfl 8,?_⟩;refine⟨λ i w4 m=>∃ (k:Nat) (s' : S),i=k/\k<=x.args.length/\m=x.args.length-k/\gI step (x.args.drop k) (s',true)=bF step x s/\St w0 w4 (Sep (M s')),⟨x.args.length,0,_,rfl,by omega,by omega,ew.symm,s4⟩,?_⟩;rintro w4 m i ⟨k,s',rfl,hk,hm,hw,s5⟩ -
  by_cases hlt:(k:Int)<(x.args.length:Int)
  ·have hk' : k<x.args.length:=by omega
   have hy:x.args[k]?=some (x.args[k]'hk'):=gE hk';rw[List.drop_eq_getElem_cons hk'] at hw;generalize x.args[k]'hk' = y at hy hw;have hm:=List.mem_of_getElem? hy;obtain⟨q,hq,hcl⟩:=(hx s5.aA).fl.at hy;refine cT (dT hlt) (aq hq ⟨by omega,by omega,_,y.u,_,_,_,_,hcl,s5.aB eH.cells.toArray λ r3 w5 s6=>s6.aC 0 rfl y.cells rfl y.one λ w6 s7=>⟨_,s7.cellsIn 3 rfl,_,y.u,_,_,_,_,s7.cellsIn 0 rfl,?_⟩⟩);have s8:St w0 w6 (Sep (M s')):=s7.ay [1,2,3,4];refine an (ih y hm (by have:=BC hm; omega) (λ hc=>(hx hc).sub y hm) w6 _ s' s8) ?_;rintro r w7 ⟨rfl,s9⟩;have s9:St w0 w7 (Sep (M (bF step y s').1)):=s9;refine⟨_,rfl,?_⟩;rw[gI,List.foldl_cons,if_pos rfl] at hw
   cases hr:(bF step y s').2 with
   | true =>
    have e2:bF step y s' = ((bF step y s').1,true):=by rw[<- hr]
    rw[e2] at hw;exact cF rfl ⟨x.args.length-(k+1),by omega,k+1,_,aF ⟨by omega,by omega⟩,by omega,rfl,hw,s9⟩
   | false =>
    have e2:bF step y s' = ((bF step y s').1,false):=by rw[<- hr]
    have e3:∀ (l:List Xv) (r:S×Bool),r.2=false->l.foldl (λ r y=>if r.2 then bF step y r.1 else r) r=r:=λ l=>by
     induction l with
     | nil=>intro r _; rfl
     | cons z l ih=>intro r hr; rw[List.foldl_cons,if_neg (by rw[hr]; decide),ih r hr]
    rw[e3 _ _ hr] at hw;exact cT rfl ⟨by rw[<- hw,hr],by rw[<- hw]; exact opn s9⟩
  ·obtain rfl:k=x.args.length:=by omega
   rw[List.drop_length] at hw;exact cF (dF hlt) ⟨by rw[<- hw]; rfl,by rw[<- hw]; exact opn s5⟩
end
section
variable {w0:World} {p:Nat} {B:aG}
theorem lK.G6{w:World}{l:List Tk}{e:Int}{B' : aG}(h:lK w0 w p l e B)(k:bU B B'):lK w0 w p l e B':=by
 obtain⟨a,c,h1,h2,s⟩:=h;exact⟨a,c,h1,h2,s.weak (bU.right (bU.right (bU.left k)))⟩
theorem lK.push{w:World}{l:List Tk}{e:Int}{A:aG}{m:List aG}(h:lK w0 w p l e (star A (star (Sep m) B))):lK w0 w p l e (star (Sep (A :: m)) B):=h.G6 bw.assoc'.weak
abbrev VC (a:OA) (c:Nat) (l:List Pr) (p:Nat):Array Value:=#[.slice a l.length c,pt p]
def Sd(w0:World)(p:Nat)(a:OA)(c:Nat)(l:List Pr)(f:Nat):Prop :=
 ∀ (B:aG) (σ:Sc) (w:World),σ.1.length<f->ig w0 w p σ B ->
  CP 203 #[.agg (VC a c l p)] w (λ r w'=>∃ x:Xv,x.er=(iq l f σ).1/\r=.agg x.cells.toArray/\ig w0 w' p (iq l f σ).2 (star (held x.In) B))
variable {a:OA} {c:Nat} {l:List Pr}
theorem Sh{f:Nat}(H:Sd w0 p a c l f){σ:Sc}{w:World}(h:ig w0 w p σ B)(hl:σ.2=0->σ.1.length<f) :
  CP 232 #[.agg (VC a c l p)] w (λ r w'=>∃ x:Xv,x.er=(iC (iq l f) σ).1/\r=.agg x.cells.toArray/\ig w0 w' p (iC (iq l f) σ).2 (star (held x.In) B)):=by
 refine jA ?_;unfold eN;refine(St.start w).one.aB (VC a c l p) λ r1 w1 s1=>s1.aB eH.cells.toArray λ r2 w2 s2=>?_;have h2:=h.add s2;refine⟨_,s2.ag 1 rfl 1,an (Bv h2) ?_⟩;rintro v w2 ⟨rfl,rfl⟩;refine⟨_,rfl,?_⟩
 by_cases he:σ.2=0
 ·have e1:iC (iq l f) σ=iq l f σ:=by rw[iC,if_neg (by simpa using he)]
  rw[e1];refine cF (by simpa using he) ⟨_,_,_,_,s2.cellsIn 1 rfl,an (H _ σ w2 (hl he) h2) ?_⟩;rintro v w5 ⟨x,ex,rfl,h5⟩;obtain⟨B',s5,back⟩:=h5.push.out;exact⟨_,x.u,_,_,_,_,rfl,s5.aC 1 rfl x.cells rfl (Xv.one _) λ w6 s6=>⟨_,x.u,_,_,_,_,s6.cellsIn 1 rfl,x,ex,rfl,(back (m':=[held x.In,_,_,_]) s6).G6 (bw.assoc.weak.trans (bU.right ((bU.left (bU.none _)).trans (bw.swap.trans (bw.unit' B)).weak)))⟩⟩
 ·have e1:iC (iq l f) σ=(eH,σ):=by rw[iC,if_pos he]
  rw[e1];obtain⟨B',s5,back⟩:=h2.out;refine cT (by simpa using he) (s5.aC 0 rfl eH.cells rfl (Xv.one _) λ w6 s6=>⟨_,z6,_,_,_,_,s6.cellsIn 0 rfl,eH,IU,rfl,?_⟩);have s7:=s6.qf (Q:=eH.In) λ w=>.mk (λ i y hy=>by simp[eH,Xv.args] at hy) (λ y hy=>by simp[eH,Xv.args] at hy);exact(back (m':=[held eH.In,_,_,_]) s7).G6 (bw.assoc.weak.trans (bU.right ((bU.left (bU.none _)).trans (bw.swap.trans (bw.unit' B)).weak)))
end
section
variable {w0:World} {p:Nat} {B:aG} {a:OA} {c:Nat} {l:List Pr}
theorem Sn{A C:aG}{m:List aG}:bU (star (Sep (A :: m)) C) (star A C):=bw.assoc.weak.trans (bU.right ((bU.left (bU.none _)).trans (bw.swap.trans (bw.unit' C)).weak))
def TX(x:Xv)(tk:Tk)(r1 r2 r3 r4:Nat)(a:OA)(c:Nat)(l:List Pr)(p:Nat):List aG :=
 [ai r4 x.cells.toArray 81,Yo x.a x.c x.args,held (Pc x.args),ai r3 tk.cells.toArray 297,ai r2 eH.cells.toArray 81,ai r1 (VC a c l p) 268,emp]
theorem MI(hr:∀ {w'},Chg w0 w' []->fh w' a l)(hc:l.length<=c)(ho:dK l):∀ f,Sd w0 p a c l f
 | 0=>λ _ _ _ h _=>absurd h (Nat.not_lt_zero _)
 | f+1=>λ B σ w hlen h=>by
  have H:=MI hr hc ho f;refine iI ?_;unfold dL;refine(St.start w).one.aB (VC a c l p) λ r1 w1 s1=>s1.aB eH.cells.toArray λ r2 w2 s2=>⟨_,s2.ag 1 rfl 1,?_⟩;have h2:=h.add s2;refine an (rP h2) ?_;rintro v w3 ⟨rfl,c3⟩;have s3:=s2.quiet c3;generalize htk:aS σ.1 σ.2=tk at *;refine⟨_,_,_,_,rfl,s3.aB wA.cells.toArray λ r3 w4 s4=>s4.aC 0 rfl tk.cells rfl (Tk.one _) λ w5 s5=>?_⟩;let m0:List aG:=[ai r3 tk.cells.toArray 297,ai r2 eH.cells.toArray 81,ai r1 (VC a c l p) 268,emp];have h5:ig w0 w5 p σ (star (Sep m0) B):=h.add s5;have fr:∀ {w' : World} {σ' : Sc} {m:List aG},ig w0 w' p σ' (star (Sep m) B)->St w0 w' (Sep m):=λ h=>h.frame.first;refine⟨λ n w6=>n=cr tk/\ig w0 w6 p σ (star (Sep m0) B),?_,?_⟩
  ·rintro w6 _ ⟨rfl,h6⟩ -;refine⟨λ w7=>ig w0 w7 p (yW σ) (star (Sep m0) B),?_,?_⟩
   ·rintro w7 h7 -;obtain⟨B',t7,back⟩:=h7.out;refine t7.aB eH.cells.toArray λ r4 w8 s8=>s8.aC 0 rfl (Xv.mk (cr tk) z6 0 none 0 []).cells rfl (Xv.one _) λ w9 s9=>?_;have s9:St w0 w9 (Sep (ai r4 (Xv.mk (cr tk) z6 0 none 0 []).cells.toArray 81 :: (m0++[B']))):=s9
    by_cases h1:cr tk=1
    ·
     have eF:iq l (f+1) σ=(.mk 1 (bf l (yW σ)).1.1 (bf l (yW σ)).1.2 none 0 [],(bf l (yW σ)).2):=by rw[iq,htk,if_pos h1]
     have h9:ig w0 w9 p (yW σ) (star (Sep (ai r4 (Xv.mk (cr tk) z6 0 none 0 []).cells.toArray 81 :: m0)) B):=back (m':=ai r4 (Xv.mk (cr tk) z6 0 none 0 []).cells.toArray 81 :: m0) s9;refine cT (by simpa using h1) ⟨_,_,_,_,s9.cellsIn 3 rfl,an (GH h9 hr hc ho) ?_⟩;rintro v w10 ⟨rfl,h10⟩;obtain⟨B2,s10,back2⟩:=h10.out;let x:Xv:=.mk (cr tk) (bf l (yW σ)).1.1 (bf l (yW σ)).1.2 none 0 [];refine⟨_,_,rfl,s10.nX 0 1 rfl (Xv.mk (cr tk) (bf l (yW σ)).1.1 0 none 0 []).cells.toArray (show 7<=9 by decide) (I6.one _) rfl λ w11 s11=>s11.aJ 0 rfl (j:=7) (show 7<9 by decide) rfl λ w12 s12=>?_⟩;refine⟨_,x.u,_,_,_,_,s12.cellsIn 0 rfl,s12.aC 2 rfl x.cells rfl (Xv.one _) λ w13 s13=>⟨_,x.u,_,_,_,_,s13.cellsIn 2 rfl,x,?_,rfl,?_⟩⟩
     ·rw[eF,Xv.sY];show Xv.mk (cr tk) _ _ none 0 []=Xv.mk 1 _ _ none 0 [];rw[h1]; rfl
     ·rw[eF];have s14:=s13.qf (Q:=x.In) λ w=>.mk (λ i y hy=>by simp[x,Xv.args] at hy) (λ y hy=>by simp[x,Xv.args] at hy);exact(back2 (m':=[held x.In,_,_,_,_,_]) s14).G6 Sn
    ·
     have eF:iq l (f+1) σ=ME l (iq l f) (cr tk) (iC (iq l f) (BR σ)).1 (iC (iq l f) (BR σ)).2:=by rw[iq,htk,if_neg h1]
     have h1' : cr (aS σ.1 σ.2)≠1:=by rw[htk]; exact h1
     let x0:Xv:=.mk (cr tk) z6 0 none 0 [];have t9:St w0 w9 (Sep (TX x0 tk r1 r2 r3 r4 a c l p++[B'])):=(St.qf (l:=[_,_,_,_,_,_,_]) (s9.cV (e:=81) (sz:=9) (f:=Xv.cells)) (Q:=Pc []) (λ w=>by simp[Pc])).ay [2,1,0,3,4,5,6,7];let F:Xv->aG:=λ x=>star (Sep (TX x tk r1 r2 r3 r4 a c l p)) B;have h9:ig w0 w9 p (yW σ) (F x0):=back (m':=TX x0 tk r1 r2 r3 r4 a c l p) t9;have frF:∀ {w' : World} {σ' : Sc} {x:Xv},ig w0 w' p σ' (F x)->St w0 w' (Sep (TX x tk r1 r2 r3 r4 a c l p)):=λ h=>h.frame.first;have app:∀ {w' : World} {σ' : Sc} {x y:Xv} {R:World->Prop},x.args.length<=5000->ig w0 w' p σ' (star (held y.In) (F x)) ->
       (∀ a8 c8 w19,ig w0 w19 p σ' (F (.mk x.op x.u x.v a8 c8 (x.args++[y])))->R w19) ->
       w'.cell? ⟨r4,8,none⟩=some (.slice x.a x.args.length x.c)/\av w' (.cells (iv y.op :: (y.u.on [iv y.v,.slice y.a y.args.length y.c]):List Value).toArray 81) λ r5 w17=>w17.cell? ⟨r4,8,none⟩=some (.slice x.a x.args.length x.c) /\
        bp prog (Builtin.append_ #[79,79] 79 #[.slice x.a x.args.length x.c,.slice (some ⟨r5,0,none⟩) 1 1]) w17 λ e6 w18=>∃ (a8:OA) (l8 c8:Nat),e6=.slice a8 l8 c8/\aQ w18 ⟨r4,8,none⟩ (.slice a8 l8 c8) R:=by
      intro w' σ' x y R hxl hA k;obtain⟨B2,t,bk⟩:=hA.push.out;refine⟨t.ag 1 rfl 8,t.aB y.cells.toArray λ r5 w17 t17=>⟨t17.ag 2 rfl 8,?_⟩⟩;have hy1:bG 9 Xv.cells w17 (some ⟨r5,0,none⟩) [y]:=λ i z hz=>by
       obtain⟨rfl,rfl⟩:i=0/\z=y:=by
        cases i with
        | zero=>simp at hz; exact⟨rfl,hz.symm⟩
        | succ i=>simp at hz
       exact⟨_,_,rfl,by rw[Nat.zero_mul,tE]; exact t17.cellsIn 0 rfl,rfl,rfl⟩
      refine ij Ya Xv.len Xv.one (t17.out 3 rfl) (a2:=some ⟨r5,0,none⟩) (c2:=1) (l2:=[y]) hy1 (by simp; omega) (by simp; omega) λ a8 c8 w18 t18=>?_;have t19:=t18.back (show 3<10 by decide);refine t19.aJ 2 rfl (j:=8) (show 8<9 by decide) rfl λ w19 t20=>k a8 c8 w19 ?_;have t21:=(t20.ay [1,4,2,3,5,6,7,8,9]).j4 (aU _) (aU _) λ w h1 h2=>(show Pc (x.args++[y]) w from λ z hz=>(List.mem_append.1 hz).elim (h2 z) λ e=>by rw[List.mem_singleton.1 e]; exact h1);exact bk (m':=TX (.mk x.op x.u x.v a8 c8 (x.args++[y])) tk r1 r2 r3 r4 a c l p) (t21.ay [1,2,0,3,4,5,6,7])
     refine cF (by simpa using h1) ⟨_,(frF h9).ag 5 rfl 1,an (zR h9) ?_⟩;rintro v w14 ⟨rfl,h14⟩;have h14:ig w0 w14 p (yW σ).next (F x0):=h14;refine⟨_,_,_,_,rfl,_,(frF h14).ag 5 rfl 1,an (fM h14 [40]) ?_⟩;rintro v w15 ⟨rfl,h15⟩;have h15:ig w0 w15.drew p (BR σ) (F x0):=h15.quiet (Chg.drew w15 []);have h4000:(BR σ).1.length<=4000:=by obtain⟨_,_,_,h2,_⟩:=h15; exact h2
     refine⟨rfl,_,_,_,(frF h15).ag 0 rfl 8,_,_,_,_,(frF h15).cellsIn 5 rfl,an (Sh H h15 λ he=>by have:=MB h1' he; omega) ?_⟩;rintro v w16 ⟨y,ey,rfl,h16⟩;have l3:(iC (iq l f) (BR σ)).2.1.length<=(BR σ).1.length:=zA (DU l f) _;generalize iC (iq l f) (BR σ)=A1 at eF ey h16 l3;refine⟨_,y.u,_,_,_,_,rfl,app (x:=x0) (by show 0<=5000; omega) h16 λ a8 c8 w19 h19=>?_⟩;have h19:ig w0 w19 p A1.2 (F (.mk (cr tk) z6 0 a8 c8 [y])):=h19;refine⟨λ w20=>∃ (x:Xv) (τ:Sc),x.er=(iq l (f+1) σ).1/\τ.exp [41]=(iq l (f+1) σ).2/\ig w0 w20 p τ (F x),?_,?_⟩
     ·rintro w20 ⟨x,τ,ex,et,h20⟩ -;refine⟨_,(frF h20).ag 5 rfl 1,an (fM h20 [41]) ?_⟩;rintro v w21 ⟨rfl,h21⟩;have h21:ig w0 w21 p (τ.exp [41]) (F x):=h21;rw[et] at h21;obtain⟨B2,t,bk⟩:=h21.out;refine⟨rfl,_,x.u,_,_,_,_,t.cellsIn 0 rfl,t.aC 4 rfl x.cells rfl (Xv.one _) λ w22 t22=>⟨_,x.u,_,_,_,_,t22.cellsIn 4 rfl,x,ex,rfl,?_⟩⟩;have t23:=(t22.ay [1,2,0,3,4,5,6,7]).j4 (bh Xv.len) (aU _) λ w h1 h2=>(Xv.In.mk h1 h2:x.In w);exact(bk (m':=[held x.In,_,_,_,_,_]) t23).G6 Sn
     refine⟨λ b w23=>b=decide (cr tk=2\/cr tk=3)/\ig w0 w23 p A1.2 (F (.mk (cr tk) z6 0 a8 c8 [y])),?_,?_⟩
     ·rintro w23 _ ⟨rfl,h23⟩ -
      by_cases g23:cr tk=2\/cr tk=3
      ·have eR:iq l (f+1) σ=(.mk (cr tk) z6 0 none 0 (iD (iq l f) A1.2.1.length [A1.1] A1.2).1,(iD (iq l f) A1.2.1.length [A1.1] A1.2).2.exp [41]):=by rw[eF,ME,if_pos g23]
       refine cT (dT g23) ⟨λ w24 m=>∃ (n:Nat) (acc:List Xv) (a' : OA) (c' : Nat) (σ' : Sc),m=σ'.1.length/\σ'.1.length<=n/\acc.length+σ'.1.length<=4001/\σ'.1.length<=(BR σ).1.length/\iD (iq l f) n (acc.map Xv.er) σ' = iD (iq l f) A1.2.1.length [A1.1] A1.2/\ig w0 w24 p σ' (F (.mk (cr tk) z6 0 a' c' acc)),⟨_,A1.2.1.length,[y],a8,c8,A1.2,rfl,Nat.le_refl _,by simp; omega,l3,by rw[List.map_singleton,ey],h23⟩,?_⟩;rintro w24 m ⟨n,acc,a',c',σ',rfl,hn,hac,hl',he,h24⟩ -;refine⟨_,(frF h24).ag 5 rfl 1,an (rN h24 [44]) ?_⟩;rintro v w25 ⟨rfl,h25⟩;have h25:ig w0 w25 p (σ'.acc [44]) (F (.mk (cr tk) z6 0 a' c' acc)):=h25;refine⟨_,rfl,?_⟩
       cases hb:oO [44] σ'.1 σ'.2 with
       | true =>
        have hlen':=Du hb;obtain⟨n,rfl⟩:∃ k,n=k+1:=⟨n-1,by omega⟩;rw[iD,if_pos hb] at he;have h26:=h25.quiet (Chg.drew w25 []);have Vz:=HE σ;refine cT rfl ⟨_,_,_,(frF h26).ag 0 rfl 8,_,_,_,_,(frF h26).cellsIn 5 rfl,an (Sh H h26 λ _=>by omega) ?_⟩;rintro v w26 ⟨z,ez,rfl,h27⟩;have l4:(iC (iq l f) (σ'.acc [44])).2.1.length<=(σ'.acc [44]).1.length:=zA (DU l f) _;refine⟨_,z.u,_,_,_,_,rfl,app (x:=.mk (cr tk) z6 0 a' c' acc) (by show acc.length<=5000; omega) h27 λ a9 c9 w29 h29=>⟨_,?_,n,acc++[z],a9,c9,_,rfl,?_,?_,?_,?_,h29⟩⟩
        ·omega
        ·omega
        ·rw[List.length_append,List.length_singleton]; omega
        ·omega
        ·rw[List.map_append,List.map_singleton,ez]; exact he
       | false =>
        have ea:=Hr hb;rw[ea] at h25;have ef:iD (iq l f) n (acc.map Xv.er) σ' = (acc.map Xv.er,σ'):=by
         cases n with
         | zero=>rfl
         | succ n=>rw[iD,if_neg (by rw[hb]; decide)]
        rw[ef] at he;refine cF rfl ⟨_,σ',?_,?_,h25⟩
        ·rw[eR,<- he,Xv.sY]; rfl
        ·rw[eR,<- he]
      ·refine cF (dF g23) ?_
       by_cases g4:cr tk=4
       ·have eR:iq l (f+1) σ=(.mk (cr tk) (bf l (A1.2.exp [44])).1.1 (bf l (A1.2.exp [44])).1.2 none 0 [A1.1],(bf l (A1.2.exp [44])).2.exp [41]):=by rw[eF,ME,if_neg g23,if_pos g4]
        refine cT (by simpa using g4) ⟨_,(frF h23).ag 5 rfl 1,an (fM h23 [44]) ?_⟩;rintro v w30 ⟨rfl,h30⟩;have h30:ig w0 w30 p (A1.2.exp [44]) (F (.mk (cr tk) z6 0 a8 c8 [y])):=h30;refine⟨rfl,_,_,_,_,(frF h30).cellsIn 5 rfl,an (GH h30 hr hc ho) ?_⟩;rintro v w31 ⟨rfl,h31⟩;obtain⟨B2,t,bk⟩:=h31.out;refine⟨_,_,rfl,t.nX 0 1 rfl (Xv.mk (cr tk) (bf l (A1.2.exp [44])).1.1 0 a8 c8 [y]).cells.toArray (show 7<=9 by decide) (I6.one _) rfl λ w32 t32=>t32.aJ 0 rfl (j:=7) (show 7<9 by decide) rfl λ w33 t33=>⟨.mk (cr tk) (bf l (A1.2.exp [44])).1.1 (bf l (A1.2.exp [44])).1.2 a8 c8 [y],(bf l (A1.2.exp [44])).2,?_,by rw[eR],bk (m':=TX (.mk (cr tk) (bf l (A1.2.exp [44])).1.1 (bf l (A1.2.exp [44])).1.2 a8 c8 [y]) tk r1 r2 r3 r4 a c l p) t33⟩⟩;rw[eR,Xv.sY,<- ey]; rfl
       ·refine cF (by simpa using g4) ?_
        by_cases g5:cr tk=5
        ·have eR:iq l (f+1) σ=(.mk (cr tk) z6 (wE 1000000 (A1.2.exp [44]).1 (A1.2.exp [44]).2) none 0 [A1.1],((A1.2.exp [44]).sO 1000000).exp [41]):=by rw[eF,ME,if_neg g23,if_neg g4,if_pos g5]
         refine cT (by simpa using g5) ⟨_,(frF h23).ag 5 rfl 1,an (fM h23 [44]) ?_⟩;rintro v w34 ⟨rfl,h34⟩;have h34:ig w0 w34 p (A1.2.exp [44]) (F (.mk (cr tk) z6 0 a8 c8 [y])):=h34;refine⟨rfl,_,(frF h34).ag 5 rfl 1,an (xB h34 1000000) ?_⟩;rintro v w35 ⟨rfl,h35⟩;obtain⟨B2,t,bk⟩:=h35.out;refine⟨_,rfl,t.aJ 0 rfl (j:=7) (show 7<9 by decide) rfl λ w36 t36=>⟨.mk (cr tk) z6 (wE 1000000 (A1.2.exp [44]).1 (A1.2.exp [44]).2) a8 c8 [y],(A1.2.exp [44]).sO 1000000,?_,by rw[eR],bk (m':=TX (.mk (cr tk) z6 (wE 1000000 (A1.2.exp [44]).1 (A1.2.exp [44]).2) a8 c8 [y]) tk r1 r2 r3 r4 a c l p) t36⟩⟩;rw[eR,Xv.sY,<- ey]; rfl
        ·have eR:iq l (f+1) σ=(.mk (cr tk) z6 0 none 0 [A1.1],A1.2.exp [41]):=by rw[eF,ME,if_neg g23,if_neg g4,if_neg g5]
         refine cF (by simpa using g5) ⟨_,A1.2,?_,by rw[eR],h23⟩;rw[eR,Xv.sY,<- ey]; rfl
     ·by_cases g2:cr tk=2
      ·exact cT (by simpa using g2) ⟨by rw[dT (Or.inl g2)]; simpa using g2,h19⟩
      ·refine cF (by simpa using g2) ⟨?_,h19⟩
       by_cases g3:cr tk=3
       ·rw[dT (Or.inr g3)]; simpa using g3
       ·rw[dF (by rintro(h|h); exact g2 h; exact g3 h)]; simpa using g3
   ·by_cases h0:cr tk=0
    ·refine cT (by simpa using h0) ⟨_,(fr h6).ag 2 rfl 1,an (jE h6 2) ?_⟩;rintro v w37 ⟨rfl,h37⟩;exact⟨rfl,by rw[yW,htk,if_pos h0]; exact h37⟩
    ·exact cF (by simpa using h0) (by rw[yW,htk,if_neg h0]; exact h6)
  ·refine⟨_,s5.ag 0 rfl 0,?_⟩
   by_cases hk:tk.k=1
   ·refine cT (by simpa using hk) ⟨_,s5.ag 0 rfl 1,an (UM w5 tk.t) ?_⟩;rintro v w38 ⟨rfl,c38⟩;exact⟨_,rfl,by rw[cr,if_pos hk],h5.quiet c38⟩
   ·exact cF (by simpa using hk) ⟨by rw[cr,if_neg hk],h5⟩
end
theorem IQ(s:Nat):IntKind.i64.wrap (IntKind.i64.wrap s+1)=IntKind.i64.wrap ((s+1:Nat):Int):=by
 simp only[IntKind.wrap,IntKind.signed,IntKind.bits]
 simp
 omega
def gS(x:Xv):Bool :=
 if x.op=1 then x.args.length==0
 else if x.op=2\/x.op=3 then decide (1<=x.args.length)&&(decide (x.args.length<=8)&&(decide (x.u=z6)&&x.v==0))
 else if x.op=4 then x.args.length==1
 else if x.op=5 then x.args.length==1&&decide (x.u=z6)
 else false
def iU(x:Xv):Bool :=
 if x.op=2\/x.op=3 then true else if x.v<1\/x.v>1000000 then false
 else if x.op=5 then true else x.u.l.all nN&&decide (tot x.u>0)
theorem Ub(w:World)(x:Xv):CP 241 #[.agg x.cells.toArray] w (λ r w'=>r=.bool (gS x)/\Chg w w' []):=by
 refine DZ (u1:=x.u) ?_;unfold CA;refine(St.start w).one.aB x.cells.toArray λ r1 w1 s1=>⟨_,_,_,s1.ag 0 rfl 8,_,s1.ag 0 rfl 0,?_⟩;have beq0:∀ n m:Nat,(((n:Nat):Int)==(m:Int))=(n==m):=λ n m=>by
  by_cases h:n=m
  ·subst h; simp
  ·rw[beq_eq_false_iff_ne.2 h,beq_eq_false_iff_ne.2 (show(n:Int)≠m by omega)]
 by_cases h1:x.op=1
 ·exact cT (by simpa using h1) ⟨by rw[gS,if_pos h1,<- beq0]; rfl,s1.aA⟩
 refine cF (by simpa using h1) ⟨λ b w2=>b=decide (x.op=2\/x.op=3)/\w2=w1,?_,?_⟩
 ·rintro w2 _ ⟨rfl,rfl⟩ -
  by_cases h2:x.op=2\/x.op=3
  ·have e1:gS x=(decide (1<=x.args.length)&&(decide (x.args.length<=8)&&(decide (x.u=z6)&&x.v==0))):=by rw[gS,if_neg h1,if_pos h2]
   refine cT (dT h2) ?_
   by_cases g1:1<=x.args.length
   ·rw[dT g1,Bool.true_and] at e1;refine cT (dT (by omega)) ?_
    by_cases g2:x.args.length<=8
    ·rw[dT g2,Bool.true_and] at e1;refine cT (dT (by omega)) ⟨x.u,s1.aN 0 1 rfl rfl,?_⟩;rw[I6.beq_eq]
     by_cases g3:x.u=z6
     ·rw[dT g3,Bool.true_and] at e1;exact cT (dT g3) ⟨_,s1.ag 0 rfl 7,by rw[e1],s1.aA⟩
     ·rw[dF g3] at e1;exact cF (dF g3) ⟨by rw[e1]; rfl,s1.aA⟩
    ·rw[dF g2] at e1;exact cF (dF (by omega)) ⟨by rw[e1]; rfl,s1.aA⟩
   ·rw[dF g1] at e1;exact cF (dF (by omega)) ⟨by rw[e1]; rfl,s1.aA⟩
  ·refine cF (dF h2) ?_
   by_cases h4:x.op=4
   ·exact cT (by simpa using h4) ⟨by rw[gS,if_neg h1,if_neg h2,if_pos h4,<- beq0]; rfl,s1.aA⟩
   refine cF (by simpa using h4) ?_
   by_cases h5:x.op=5
   ·have e1:gS x=(x.args.length==1&&decide (x.u=z6)):=by rw[gS,if_neg h1,if_neg h2,if_neg h4,if_pos h5]
    refine cT (by simpa using h5) ?_
    by_cases g1:x.args.length=1
    ·refine cT (beq_iff_eq.2 (by omega)) ⟨x.u,s1.aN 0 1 rfl rfl,?_,s1.aA⟩;rw[e1,g1,I6.beq_eq]; rfl
    ·refine cF (beq_eq_false_iff_ne.2 (by omega)) ⟨?_,s1.aA⟩;rw[e1,beq_eq_false_iff_ne.2 g1]; rfl
   ·exact cF (by simpa using h5) ⟨by rw[gS,if_neg h1,if_neg h2,if_neg h4,if_neg h5],s1.aA⟩
 ·by_cases g2:x.op=2
  ·exact cT (by simpa using g2) ⟨by rw[dT (Or.inl g2)]; simpa using g2,rfl⟩
  ·refine cF (by simpa using g2) ⟨?_,rfl⟩
   by_cases g3:x.op=3
   ·rw[dT (Or.inr g3)]; simpa using g3
   ·rw[dF (by rintro(h|h); exact g2 h; exact g3 h)]; simpa using g3
theorem N0(w:World)(x:Xv):CP 242 #[.agg x.cells.toArray] w (λ r w'=>r=.bool (iU x)/\Chg w w' []):=by
 refine AB (u1:=x.u) ?_;unfold xZ;refine(St.start w).one.aB x.cells.toArray λ r1 w1 s1=>⟨_,s1.ag 0 rfl 0,?_⟩;refine⟨λ b w2=>b=decide (x.op=2\/x.op=3)/\w2=w1,?_,?_⟩
 ·rintro w2 _ ⟨rfl,rfl⟩ -
  by_cases h2:x.op=2\/x.op=3
  ·exact cT (dT h2) ⟨by rw[iU,if_pos h2],s1.aA⟩
  refine cF (dF h2) ⟨λ b w3=>b=decide (x.v<1\/x.v>1000000)/\w3=w2,?_,_,s1.ag 0 rfl 7,?_⟩
  ·rintro w3 _ ⟨rfl,rfl⟩ -
   by_cases h3:x.v<1\/x.v>1000000
   ·exact cT (dT h3) ⟨by rw[iU,if_neg h2,if_pos h3],s1.aA⟩
   refine cF (dF h3) ⟨_,s1.ag 0 rfl 0,?_⟩
   by_cases h5:x.op=5
   ·exact cT (by simpa using h5) ⟨by rw[iU,if_neg h2,if_neg h3,if_pos h5],s1.aA⟩
   have e1:iU x=(x.u.l.all nN&&decide (tot x.u>0)):=by rw[iU,if_neg h2,if_neg h3,if_neg h5]
   refine cF (by simpa using h5) ⟨x.u,s1.aN 0 1 rfl rfl,an (de _ x.u) ?_⟩;rintro v w4 ⟨rfl,c4⟩;have s4:=s1.quiet c4;refine⟨_,rfl,?_⟩
   cases hq:x.u.l.all nN with
   | false=>exact cF rfl ⟨by rw[e1,hq]; rfl,s4.aA⟩
   | true =>
    refine cT rfl ⟨x.u,s4.aN 0 1 rfl rfl,an (R4 _ x.u (uq (LZ hq) (by omega))) ?_⟩;rintro v w5 ⟨rfl,c5⟩;exact⟨_,rfl,by rw[e1,hq,Bool.true_and],(s4.quiet c5).aA⟩
  ·by_cases g1:x.v<1
   ·exact cT (dT g1) ⟨by rw[dT (Or.inl g1)],rfl⟩
   ·refine cF (dF g1) ⟨_,s1.ag 0 rfl 7,?_,rfl⟩
    by_cases g2:x.v>1000000
    ·rw[dT g2,dT (Or.inr g2)]
    ·rw[dF g2,dF (by rintro(h|h); exact g1 h; exact g2 h)]
 ·by_cases g2:x.op=2
  ·exact cT (by simpa using g2) ⟨by rw[dT (Or.inl g2)]; simpa using g2,rfl⟩
  ·refine cF (by simpa using g2) ⟨?_,rfl⟩
   by_cases g3:x.op=3
   ·rw[dT (Or.inr g3)]; simpa using g3
   ·rw[dF (by rintro(h|h); exact g2 h; exact g3 h)]; simpa using g3
def KB(n:Nat)(_:Xv):Nat×Bool:=(n+1,true)
theorem TJ:∀ (x:Xv) (n:Nat),bF KB x n=(n+aT x,true):=Xv.ind λ x ih n=>by
 rw[ng,if_pos (show(KB n x).2=true from rfl),gy];have:∀ (l:List Xv) (m:Nat),(∀ y∈l,∀ n,bF KB y n=(n+aT y,true))->gI KB l (m,true)=(m+(l.map aT).sum,true):=λ l=>by
  induction l with
  | nil=>intro m _; rfl
  | cons y l ih2 =>
   intro m hl;unfold gI at ih2 ⊢;rw[List.foldl_cons,if_pos rfl,hl y (by simp),ih2 _ λ z hz=>hl z (by simp[hz])];rw[List.map_cons,List.sum_cons,Nat.add_assoc]
 show gI KB x.args (n+1,true)=_;rw[this _ _ ih]; congr 1; omega
theorem Vb{w:World}{x:Xv}(hz:aT x<=100000)(hx:x.In w):CP 239 #[.agg x.cells.toArray] w (λ r w'=>r=iv (aT x)/\Chg w w' []):=by
 refine DY (u1:=x.u) ?_;unfold Cz;refine(St.start w).one.aB x.cells.toArray λ r1 w1 s1=>s1.aB #[iv 0] λ r2 w2 s2=>s2.aJ 0 rfl (j:=0) (show 0<1 by decide) rfl λ w3 s3=>s3.aB #[.nilFunc] λ r3 w4 s4=>s4.aJ 0 rfl (j:=0) (show 0<1 by decide) rfl λ w5 s5=>?_;refine⟨_,s5.cellsIn 0 rfl,_,x.u,_,_,_,_,s5.cellsIn 2 rfl,?_⟩;have hv:∀ (w9:World) (B:aG) (s:Nat) (y:Xv) (R:Ending->World->Prop),St w w9 (star (ai r2 #[iv (IntKind.i64.wrap s)] 3) B)->y.In w9->aT y<=100000->(∀ w',St w w' (star (ai r2 #[iv (IntKind.i64.wrap ((s+1:Nat):Int))] 3) B)->R (.returned (.bool true)) w')->cO prog (.func (.func 266) #[] #[pt r2]) #[.agg y.cells.toArray] w9 R:=by
  intro w9 B s y R h hy hys k;refine br (by kernel_rfl) (an (K:=λ r w'=>r=.bool true/\St w w' (star (ai r2 #[iv (IntKind.i64.wrap ((s+1:Nat):Int))] 3) B)) (AA (u1:=y.u) ?_) ?_)
  ·unfold xY;refine(h.yl).aB y.cells.toArray λ r4 w6 s6=>⟨_,s6.ag 1 rfl 0,s6.aJ 1 rfl (j:=0) (show 0<1 by decide) rfl λ w7 s7=>⟨rfl,?_⟩⟩;have e:IntKind.i64.wrap (IntKind.i64.wrap s+1)=IntKind.i64.wrap ((s+1:Nat):Int):=IQ s;have s8:=(s7.ay [1,2]).pair;rw[<- e]; exact s8
  ·rintro r w' ⟨rfl,h'⟩; exact k w' h'
 refine an (IN (w0:=w) (step:=KB) (A:=λ n=>ai r2 #[iv (IntKind.i64.wrap (n:Int))] 3) hv x hz (λ hc=>hx.aA hc) w5 emp 0 (s5.ay [1])) ?_;rintro r w6 ⟨rfl,s6⟩;rw[TJ] at s6;refine⟨_,rfl,_,s6.boxed 0,?_,s6.aA⟩;rw[Nat.zero_add,aF ⟨by omega,by omega⟩]
def wm(_:Unit)(x:Xv):Unit×Bool:=((),decide (x.args.length<=8))
def qo(e:Int)(x:Xv):Int:=if gS x then (if iU x then e else 4) else 2
def dS(e:Int)(x:Xv):Int×Bool:=(qo e x,qo e x==0)
def fk(x:Xv):Int:=if 6<oS x then 9 else if (bF wm x ()).2=false\/40<aT x then 3 else (bF dS x 0).1
theorem Sa(s:Unit)(x:Xv):wm s x.er=wm s x:=by
 unfold wm;rw[rA,List.length_map]
theorem PY(x:Xv):gS x.er=gS x:=by
 unfold gS;rw[rA,List.length_map,Xv.sY]; rfl
theorem Rm(x:Xv):iU x.er=iU x:=by
 unfold iU;rw[Xv.sY]; rfl
theorem UI(e:Int)(x:Xv):dS e x.er=dS e x:=by unfold dS qo; rw[PY,Rm]
theorem An(x:Xv):fk x.er=fk x:=by
 unfold fk;rw[TN,J9,Kn Sa,Kn UI]
theorem G7{w:World}{x:Xv}(hz:aT x<=100000)(hx:x.In w):CP 205 #[.agg x.cells.toArray] w (λ r w'=>r=iv (fk x)/\Chg w w' []):=by
 refine B1 (u1:=x.u) ?_;unfold Ay;have hd:=Mx x;refine(St.start w).one.aB x.cells.toArray λ r1 w1 s1=>⟨_,x.u,_,_,_,_,s1.cellsIn 0 rfl,an (PK x hz w1 (hx.aA s1.aA)) ?_⟩;rintro v w2 ⟨rfl,c2⟩;have s2:=s1.quiet c2;refine⟨_,rfl,?_⟩
 by_cases h6:6<oS x
 ·exact cT (dT (by omega)) ⟨by rw[fk,if_pos h6],s2.aA⟩
 refine cF (dF (by omega)) (s2.aB #[.nilFunc] λ r2 w3 s3=>s3.aJ 0 rfl (j:=0) (show 0<1 by decide) rfl λ w4 s4=>?_);refine⟨λ b w5=>b=decide ((bF wm x ()).2=false\/40<aT x)/\St w w5 (Sep [ai r1 x.cells.toArray 81]),?_,_,s4.cellsIn 0 rfl,_,x.u,_,_,_,_,s4.cellsIn 1 rfl,?_⟩
 ·rintro w5 _ ⟨rfl,s5⟩ -
  by_cases g:(bF wm x ()).2=false\/40<aT x
  ·exact cT (dT g) ⟨by rw[fk,if_neg h6,if_pos g],s5.aA⟩
  refine cF (dF g) (s5.aB #[iv 0] λ r3 w6 s6=>s6.aJ 0 rfl (j:=0) (show 0<1 by decide) rfl λ w7 s7=>s7.aB #[.nilFunc] λ r4 w8 s8=>s8.aJ 0 rfl (j:=0) (show 0<1 by decide) rfl λ w9 s9=>⟨_,s9.cellsIn 0 rfl,_,x.u,_,_,_,_,s9.cellsIn 2 rfl,?_⟩);have hv:∀ (w9:World) (B:aG) (s:Int) (y:Xv) (R:Ending->World->Prop),St w w9 (star (ai r3 #[iv s] 45) B)->y.In w9->aT y<=100000->(∀ w',St w w' (star (ai r3 #[iv (dS s y).1] 45) B)->R (.returned (.bool (dS s y).2)) w')->cO prog (.func (.func 240) #[] #[pt r3]) #[.agg y.cells.toArray] w9 R:=by
   intro w9 B s y R h hy hys k;refine br (by kernel_rfl) (an (K:=λ r w'=>r=.bool (qo s y==0)/\St w w' (star (ai r3 #[iv (qo s y)] 45) B)) (yZ (u1:=y.u) ?_) ?_)
   ·unfold uV;refine(h.yl).aB y.cells.toArray λ r5 w10 t=>⟨λ w2=>St w w2 (Sep [ai r5 y.cells.toArray 81,ai r3 #[iv (qo s y)] 45,B]),?_,_,y.u,_,_,_,_,t.cellsIn 0 rfl,an (Ub w10 y) ?_⟩
    ·rintro w2 t2 -;exact⟨_,t2.ag 1 rfl 0,rfl,(t2.ay [1,2]).pair⟩
    rintro v w11 ⟨rfl,c11⟩;have t1:=t.quiet c11;refine⟨_,rfl,?_⟩
    cases hf:gS y with
    | false =>
     have e:qo s y=2:=by rw[qo,hf]; rfl
     exact cT rfl (t1.aJ 1 rfl (j:=0) (show 0<1 by decide) rfl λ w12 t2=>by rw[e]; exact t2)
    | true =>
     refine cF rfl ⟨_,y.u,_,_,_,_,t1.cellsIn 0 rfl,an (N0 w11 y) ?_⟩;rintro v w12 ⟨rfl,c12⟩;have t2:=t1.quiet c12;refine⟨_,rfl,?_⟩
     cases hg:iU y with
     | false =>
      have e:qo s y=4:=by rw[qo,hf,hg]; rfl
      exact cT rfl (t2.aJ 1 rfl (j:=0) (show 0<1 by decide) rfl λ w12 t3=>by rw[e]; exact t3)
     | true =>
      have e:qo s y=s:=by rw[qo,hf,hg]; rfl
      exact cF rfl (by rw[e]; exact t2)
   ·rintro r w' ⟨rfl,h'⟩; exact k w' h'
  refine an (IN (w0:=w) (step:=dS) (A:=λ e=>ai r3 #[iv e] 45) hv x hz (λ hc=>hx.aA hc) w9 emp 0 (s9.ay [1])) ?_;rintro r w10 ⟨rfl,s10⟩;exact⟨_,rfl,_,s10.boxed 0,by rw[fk,if_neg h6,if_neg g],s10.aA⟩
 ·have hv:∀ (w9:World) (B:aG) (s:Unit) (y:Xv) (R:Ending->World->Prop),St w w9 (star emp B)->y.In w9->aT y<=100000->(∀ w',St w w' (star emp B)->R (.returned (.bool (wm s y).2)) w')->cO prog (.func (.func 237) #[] #[]) #[.agg y.cells.toArray] w9 R:=by
   intro w9 B s y R h hy hys k;refine br (by kernel_rfl) (an (K:=λ r w'=>r=.bool (decide (y.args.length<=8))/\Chg w9 w' []) (yY (u1:=y.u) ?_) ?_)
   ·unfold uU;refine(St.start w9).one.aB y.cells.toArray λ r4 w6 s6=>⟨_,_,_,s6.ag 0 rfl 8,?_,s6.aA⟩
    by_cases hl:y.args.length<=8
    ·rw[dT hl,dT (show((y.args.length:Nat):Int)<=8 by omega)]
    ·rw[dF hl,dF (show ¬ ((y.args.length:Nat):Int)<=8 by omega)]
   ·rintro r w' ⟨rfl,hc⟩; exact k w' (h.quiet hc)
  refine an (IN (w0:=w) (step:=wm) (A:=λ _=>emp) hv x hz (λ hc=>hx.aA hc) w4 (Sep [ai r1 x.cells.toArray 81]) () (s4.ay [2,1])) ?_;rintro r w11 ⟨rfl,s11⟩;have s11:St w w11 (Sep [emp,ai r1 x.cells.toArray 81]):=s11;refine⟨_,rfl,?_⟩
  cases hw:(bF wm x ()).2 with
  | false=>exact cT rfl ⟨by rw[dT (Or.inl rfl)],s11.ay [1]⟩
  | true =>
   refine cF rfl ⟨_,x.u,_,_,_,_,s11.cellsIn 1 rfl,an (Vb hz (hx.aA s11.aA)) ?_⟩;rintro v w12 ⟨rfl,c12⟩;refine⟨_,rfl,?_,(s11.quiet c12).ay [1]⟩
   by_cases g:40<aT x
   ·rw[dT (p:=true=false\/40<aT x) (Or.inr g)]; exact dT (by omega)
   ·rw[dF (p:=true=false\/40<aT x) (by rintro(h|h); exact absurd h (by decide); exact g h)]; exact dF (by omega)
theorem BP:aT eH=1:=by rw[gy]; rfl
theorem size_mk(op:Int)(u:I6)(v:Int)(a:OA)(c:Nat)(l:List Xv):aT (.mk op u v a c l)=1+(l.map aT).sum:=by rw[gy]; rfl
section
variable {g:Sc->Xv×Sc} (hg:∀ σ,aT (g σ).1+3*(g σ).2.1.length<=3*σ.1.length+2)
include hg
theorem I4(σ:Sc):aT (iC g σ).1+3*(iC g σ).2.1.length<=3*σ.1.length+2:=by
 unfold iC; split
 ·show aT eH+3*σ.1.length<=_; rw[BP]; omega
 ·exact hg _
theorem Fg:∀ (n:Nat) (acc:List Xv) (σ:Sc),((iD g n acc σ).1.map aT).sum+3*(iD g n acc σ).2.1.length<=(acc.map aT).sum+3*σ.1.length
 | 0,_,_=>Nat.le_refl _
 | n+1,acc,σ=>by
  rw[iD]
  split
  ·rename_i hb;have h1:=Fg n (acc++[(iC g (σ.acc [44])).1]) (iC g (σ.acc [44])).2;have h2:=I4 hg (σ.acc [44]);have h3:=Du hb;rw[List.map_append,List.sum_append,List.map_singleton,List.sum_singleton] at h1;omega
  ·exact Nat.le_refl _
theorem TZ(ps:List Pr)(op:Int)(a1:Xv)(σ:Sc):aT (ME ps g op a1 σ).1+3*(ME ps g op a1 σ).2.1.length<=1+aT a1+3*σ.1.length:=by
 unfold ME
 split
 ·have h1:=Fg hg σ.1.length [a1] σ;have h2:=wR [41] (iD g σ.1.length [a1] σ).2;rw[List.map_singleton,List.sum_singleton] at h1;show aT (.mk _ _ _ _ _ _)+3*((iD g σ.1.length [a1] σ).2.exp [41]).1.length<=_;rw[size_mk]; omega
 ·split
  ·have h1:=rJ ps (σ.exp [44]);have h2:=wR [44] σ;have h3:=wR [41] (bf ps (σ.exp [44])).2;show aT (.mk _ _ _ _ _ _)+3*((bf ps (σ.exp [44])).2.exp [41]).1.length<=_;rw[size_mk,List.map_singleton,List.sum_singleton]; omega
  ·split
   ·have h1:((σ.exp [44]).sO 1000000).1.length<=(σ.exp [44]).1.length:=z7 _ _ _;have h2:=wR [44] σ;have h3:=wR [41] ((σ.exp [44]).sO 1000000);show aT (.mk _ _ _ _ _ _)+3*(((σ.exp [44]).sO 1000000).exp [41]).1.length<=_;rw[size_mk,List.map_singleton,List.sum_singleton]; omega
   ·have h3:=wR [41] σ;show aT (.mk _ _ _ _ _ _)+3*(σ.exp [41]).1.length<=_;rw[size_mk,List.map_singleton,List.sum_singleton]; omega
end
theorem HF(ps:List Pr):∀ (f:Nat) (σ:Sc),aT (iq ps f σ).1+3*(iq ps f σ).2.1.length<=3*σ.1.length+2
 | 0,σ=>by show aT eH+_<=_; rw[BP]; show 1+3*σ.1.length<=_; omega
 | f+1,σ=>by
  rw[iq]
  split
  ·have h1:=rJ ps (yW σ);have h2:=HD σ;show aT (.mk _ _ _ _ _ _)+3*(bf ps (yW σ)).2.1.length<=_;rw[size_mk]; simp only[List.map_nil,List.sum_nil]; omega
  ·rename_i h1;have hR:=TZ (HF ps f) ps (cr (aS σ.1 σ.2)) (iC (iq ps f) (BR σ)).1 (iC (iq ps f) (BR σ)).2
   by_cases he:(BR σ).2=0
   ·have h2:=MB h1 he;have h3:=I4 (HF ps f) (BR σ);omega
   ·have h2:=HE σ;have h3:iC (iq ps f) (BR σ)=(eH,BR σ):=by rw[iC,if_pos he]
    rw[h3] at hR ⊢;rw[BP] at hR;have h4:(eH,BR σ).2.1.length=(BR σ).1.length:=rfl;omega
def bJ(ps:List Pr)(t:List UInt8):Xv×Int :=
 if (bQ t).2≠0 then (eH,(bQ t).2)
 else if FC (iq ps ((bQ t).1.length+1) ((bQ t).1,0)).2.1 (iq ps ((bQ t).1.length+1) ((bQ t).1,0)).2.2≠0 then (eH,FC (iq ps ((bQ t).1.length+1) ((bQ t).1,0)).2.1 (iq ps ((bQ t).1.length+1) ((bQ t).1,0)).2.2)
 else if fk (iq ps ((bQ t).1.length+1) ((bQ t).1,0)).1≠0 then (eH,fk (iq ps ((bQ t).1.length+1) ((bQ t).1,0)).1)
 else ((iq ps ((bQ t).1.length+1) ((bQ t).1,0)).1,0)
theorem BL(l:List UInt8):∀ (f n:Nat) (acc:List Tk),(Cc l f n acc).1.length<=acc.length+f
 | 0,_,_=>Nat.le_refl _
 | f+1,n,acc=>by
  rw[Cc]
  split
  ·simp
  ·split
   ·exact Nat.le_trans (BL l f _ _) (by omega)
   ·split
    ·simp
    ·have:=BL l f (n+(gq l n ‹UInt8›).1.t.length) (acc++[(gq l n ‹UInt8›).1]);simp only[List.length_append,List.length_singleton] at this;omega
theorem R3(l:List UInt8):(bQ l).1.length<=4000:=by
 unfold bQ
 split
 ·simp
 ·have:=BL l l.length 0 [];simp only[List.length_nil] at this;omega
theorem He(w:World):eH.In w:=.mk (λ i y hy=>by simp[eH,Xv.args] at hy) (λ y hy=>by simp[eH,Xv.args] at hy)
theorem Rc{w:World}{a:OA}{c:Nat}{l:List Pr}(hr:fh w a l)(hc:l.length<=c)(ho:dK l)(t:List UInt8) :
  CP 170 #[.slice a l.length c,sv t] w (λ r w'=>∃ x:Xv,x.er=(bJ l t).1/\r=.tuple #[.agg x.cells.toArray,iv (bJ l t).2]/\St w w' (held x.In)):=by
 refine uW ?_;unfold pX;refine(St.start w).one.aB eH.cells.toArray λ r1 w1 s1=>an (Al (hr.aA s1.aA) hc) ?_;rintro v w2 ⟨⟨e,rfl,hee⟩,c2⟩;obtain rfl:=hee.2 ho;have s2:=s1.quiet c2;have bad:∀ {k:Int} {w' : World} {m:List aG} {i:Nat} {cs:Array Value},St w w' (Sep m)->m[i]?=some (ai r1 cs 81)->cs.size=9->bJ l t=(eH,k) ->
   aK ⟨r1,0,none⟩ 0 eH.cells w' λ w3=>∃ (n2:Int) (u1:I6) (n3:Int) (a2:OA) (l2 c2:Nat),af w3 ⟨r1,0,none⟩ 0 (iv n2 :: u1.on [iv n3,.slice a2 l2 c2]) /\
    ∃ x:Xv,x.er=(bJ l t).1/\Value.tuple #[.agg (iv n2 :: u1.on [iv n3,.slice a2 l2 c2]:List Value).toArray,iv k]=.tuple #[.agg x.cells.toArray,iv (bJ l t).2]/\St w w3 (held x.In):=λ {k w' m i cs} s e hs hp =>
  s.aC i e eH.cells (by rw[hs]; rfl) (Xv.one _) λ w3 s3=>⟨_,z6,_,_,_,_,s3.cellsIn (cs:=eH.cells.toArray) (T:=81) i (List.getElem?_set_self (fA e)),eH,by rw[hp,IU],by rw[hp]; rfl,((St.start' s3.aA).one.qf He).first⟩
 refine⟨_,rfl,cF rfl (an (ON t) ?_)⟩;rintro v w4 ⟨a3,c3,rfl,k4⟩;have s4:St w w4 (Sep [_,_,_]):=s2.and k4;have ht:=R3 t;refine⟨_,_,_,_,rfl,?_⟩
 by_cases h1:(bQ t).2=0
 ·have rd:=St.rd Tk.len s4;refine cF (by simpa using h1) (an (Lc s4 rd ht) ?_);rintro v w6 ⟨p,rfl,h6⟩;have h6:ig w w6 p ((bQ t).1,0) (Sep [cH 297 4 Tk.cells a3 c3 (bQ t).1,ai r1 eH.cells.toArray 81,emp]):=h6;refine⟨_,rfl,(St.start w6).one.aB #[.slice none 0 0,.pointer none] λ r2 w7 s7=>s7.aC 0 rfl [.slice a l.length c,pt p] rfl (by simp[Value.oneCell']) λ w8 s8=>⟨_,_,_,_,s8.cellsIn 0 rfl,?_⟩⟩;have h8:=h6.add s8;refine an (MI (λ hc=>hr.aA hc) hc ho ((bQ t).1.length+1) _ ((bQ t).1,0) w8 (Nat.lt_succ_self _) h8) ?_;have hsz:=HF l ((bQ t).1.length+1) ((bQ t).1,0);have hP:bJ l t=if FC (iq l ((bQ t).1.length+1) ((bQ t).1,0)).2.1 (iq l ((bQ t).1.length+1) ((bQ t).1,0)).2.2≠0 then (eH,FC (iq l ((bQ t).1.length+1) ((bQ t).1,0)).2.1 (iq l ((bQ t).1.length+1) ((bQ t).1,0)).2.2)
    else if fk (iq l ((bQ t).1.length+1) ((bQ t).1,0)).1≠0 then (eH,fk (iq l ((bQ t).1.length+1) ((bQ t).1,0)).1)
    else ((iq l ((bQ t).1.length+1) ((bQ t).1,0)).1,0):=by rw[bJ,if_neg (by simpa using h1)]
  generalize iq l ((bQ t).1.length+1) ((bQ t).1,0)=R at hsz hP ⊢;rintro v w9 ⟨x,ex,rfl,h9⟩;have hsx:aT x<=100000:=by
   rw[<- J9 x,ex];have:(bQ t).1.length<=4000:=ht;simp only at hsz;omega
  refine⟨_,x.u,_,_,_,_,rfl,(St.start w9).one.aB eH.cells.toArray λ r3 w10 s10=>s10.aC 0 rfl x.cells rfl (Xv.one _) λ w11 s11=>?_⟩;have h11:ig w w11 p R.2 (star (Sep [ai r3 x.cells.toArray 81,emp]) (star (held x.In) (star (Sep [ai r2 #[.slice a l.length c,pt p] 268,emp]) (Sep [cH 297 4 Tk.cells a3 c3 (bQ t).1,ai r1 eH.cells.toArray 81,emp])))):=h9.add s11;have fl:St w w11 (Sep [ai r3 x.cells.toArray 81,emp,held x.In,ai r2 #[.slice a l.length c,pt p] 268,emp,cH 297 4 Tk.cells a3 c3 (bQ t).1,ai r1 eH.cells.toArray 81,emp]):=by
   have t1:=h11.frame;exact t1.eqv ((bw.right (bw.right (bw.cat [_,_]))).trans (bw.cat (m:=held x.In :: _) [_,_]))
  refine⟨_,fl.ag 3 rfl 1,an (U5 h11) ?_⟩;rintro v w12 ⟨rfl,rfl⟩;refine⟨_,rfl,?_⟩
  by_cases h2:FC R.2.1 R.2.2=0
  ·rw[if_neg (by simpa using h2)] at hP;have hin:x.In w12:=fl.aP 2 rfl;refine cF (by simpa using h2) ⟨_,x.u,_,_,_,_,fl.cellsIn 0 rfl,an (G7 hsx hin) ?_⟩;rintro v w14 ⟨rfl,c14⟩;have t14:=fl.quiet c14;have hxe:fk x=fk R.1:=by rw[<- ex,An]
   refine⟨_,rfl,?_⟩
   by_cases h3:fk x=0
   ·rw[if_neg (by rw[<- hxe]; simpa using h3)] at hP;exact cF (by simpa using h3) ⟨_,x.u,_,_,_,_,t14.cellsIn 0 rfl,t14.aC 6 rfl x.cells rfl (Xv.one _) λ w16 t16=>⟨_,x.u,_,_,_,_,t16.cellsIn 6 rfl,x,by rw[hP,ex],by rw[hP]; rfl,(t16.out 2 rfl).first⟩⟩
   ·rw[if_pos (by rw[<- hxe]; exact h3),<- hxe] at hP;exact cT (by simpa using h3) (bad t14 (i:=6) rfl rfl hP)
  ·rw[if_pos h2] at hP;exact cT (by simpa using h2) (bad fl (i:=6) rfl rfl hP)
 ·exact cT (by simpa using h1) (bad s4 (i:=1) rfl rfl (by rw[bJ,if_pos h1]))
abbrev Wf:=I6->Int
def rV(v:Int):Int:=if 1000000<v then 1000000 else v
def kf(lim:I6)(f:Wf)(p:KV):Wf:=λ w=>if w=p.1/\rV p.2>f p.1/\within p.1 lim=true then rV p.2 else f w
def bD(lim:I6)(f:Wf)(Q:List KV):Wf:=Q.foldl (kf lim) f
theorem Ln{lim:I6}{f:Wf}{p:KV}{w:I6}{n:Int}:kf lim f p w<=n<->f w<=n/\(p.1=w->within w lim=true->rV p.2<=n):=by
 unfold kf
 split
 ·rename_i h;obtain⟨rfl,h1,h2⟩:=h;exact⟨λ h=>⟨by omega,λ _ _=>h⟩,λ h=>h.2 rfl h2⟩
 ·rename_i h;refine⟨λ hn=>⟨hn,λ e hw=>?_⟩,λ h=>h.1⟩;subst e
  by_cases hc:rV p.2>f p.1
  ·exact absurd ⟨rfl,hc,hw⟩ h
  ·omega
theorem mK{lim:I6}:∀ {Q:List KV} {f:Wf} {w:I6} {n:Int},bD lim f Q w<=n<->f w<=n/\∀ p∈Q,p.1=w->within w lim=true->rV p.2<=n
 | [],f,w,n=>by simp[bD]
 | p :: Q,f,w,n=>by
  show bD lim (kf lim f p) Q w<=n<->_;rw[mK,Ln];constructor
  ·rintro⟨⟨h1,h2⟩,h3⟩;refine⟨h1,λ q hq=>?_⟩;rcases List.mem_cons.1 hq with rfl|hq
   ·exact h2
   ·exact h3 q hq
  ·rintro⟨h1,h2⟩;exact⟨⟨h1,h2 p (by simp)⟩,λ q hq=>h2 q (by simp[hq])⟩
theorem fE{lim:I6}{f:Wf}{Q Q' : List KV}(h:∀ p,p∈Q<->p∈Q'):bD lim f Q=bD lim f Q':=by
 funext w
 refine Int.le_antisymm (mK.2 ?_) (mK.2 ?_)
 ·have:=(mK (lim:=lim) (f:=f) (Q:=Q') (w:=w) (n:=bD lim f Q' w)).1 (Int.le_refl _);exact⟨this.1,λ p hp=>this.2 p ((h p).1 hp)⟩
 ·have:=(mK (lim:=lim) (f:=f) (Q:=Q) (w:=w) (n:=bD lim f Q w)).1 (Int.le_refl _);exact⟨this.1,λ p hp=>this.2 p ((h p).2 hp)⟩
theorem iT{lim:I6}{f:Wf}{Q:List KV}{p:KV}:kf lim (bD lim f Q) p=bD lim f (Q++[p]):=by
 rw[bD,bD,List.foldl_append]; rfl
theorem Ip{lim:I6}{f:Wf}{Q R:List KV}:bD lim (bD lim f Q) R=bD lim f (Q++R):=by
 rw[bD,bD,bD,List.foldl_append]
structure cM (lim:I6) (l:List KV) (f:Wf):Prop where
 v:∀ u,kB l u=if 0<f u then some (f u) else none
 le:∀ u,f u<=1000000
 z:∀ u,0<=f u
 s:∀ u,0<f u->I6.Le u 4/\within u lim=true
theorem cM.nil(lim:I6):cM lim [] λ _=>0:=⟨λ u=>rfl,λ u=>by omega,λ u=>by omega,λ u h=>by omega⟩
theorem cM.get{lim:I6}{l:List KV}{f:Wf}(h:cM lim l f)(u:I6):(kB l u).getD 0=f u:=by
 rw[h.v]
 split
 ·rfl
 ·have:=h.z u; show 0=f u; omega
theorem cM.mem{lim:I6}{l:List KV}{f:Wf}(h:cM lim l f)(hn:(l.map (·.1)).Nodup)(p:KV):p∈l<->0<f p.1/\p.2=f p.1:=by
 constructor
 ·intro hp;have h1:=OV hn hp;rw[h.v] at h1
  split at h1
  ·rename_i h2; exact⟨h2,by injection h1 with h1; exact h1.symm⟩
  ·cases h1
 ·rintro⟨h1,h2⟩;have h3:=h.v p.1;rw[if_pos h1] at h3;have:=Dm h3;obtain⟨a,b⟩:=p;simp only at h2 this;rw[h2]; exact this
theorem cM.raise{lim:I6}{l:List KV}{f:Wf}(h:cM lim l f)(hl:I6.Le lim 4){p:KV}(hp:I6.Le p.1 1000000) :
  cM lim (if rV p.2>f p.1/\within p.1 lim=true then zl l p.1 (rV p.2) else l) (kf lim f p):=by
 by_cases g:rV p.2>f p.1/\within p.1 lim=true
 ·rw[if_pos g];have hz:=h.z p.1;have e:∀ u,kf lim f p u=if u=p.1 then rV p.2 else f u:=λ u=>by
   unfold kf
   by_cases hu:u=p.1
   ·rw[if_pos ⟨hu,g⟩,if_pos hu]
   ·rw[if_neg (λ h=>hu h.1),if_neg hu]
  refine⟨λ u=>?_,λ u=>?_,λ u=>?_,λ u=>?_⟩
  ·rw[OW,e]
   by_cases hu:u=p.1
   ·rw[if_pos hu,if_pos hu,if_pos (by omega)]
   ·rw[if_neg hu,if_neg hu,h.v]
  ·rw[e]; split
   ·unfold rV; split<;>omega
   ·exact h.le u
  ·rw[e]; split
   ·omega
   ·exact h.z u
  ·rw[e]; split
   ·rename_i hu; subst hu; intro _;refine⟨λ k hk=>?_,g.2⟩;have h1:=hp k hk;have h2:=within_iff.1 g.2 k hk;have h3:=hl k hk;omega
   ·exact h.s u
 ·rw[if_neg g];have e:kf lim f p=f:=by
   funext u
   unfold kf;rw[if_neg (λ h=>g h.2)]
  rw[e]; exact h
theorem Sv:VD prog 312 39 2 where
 u:=underlying312
 k:=⟨_,underlying39⟩
 z:=by kernel_rfl
 eq u v:=by kernel_rfl
 ck b u w:=by
  obtain⟨i,hi,_,_,_⟩:=WD.i;have hc:(prog).cellsOf 3=1:=by kernel_rfl
  have hsz:∀ w,(Go.sizeOf 3).run prog w=.ok 1 w:=λ w=>by rw[run_sizeOf w hi,hc]
  have hpart:∀ (w:World) (j:Nat),j<6->(part 3 u.vs.toArray (j*1)).run prog w=.ok (iv (u.at' j)) w:=λ w j hj=>by
   have:=u.get j hj;simp only[Nat.mul_one] at this ⊢;simp[part,isAgg,aD underlying3,this]
  rw[show(10000:Nat)=9999+1 from rfl,Instr.checkKey];simp only[Sem.run_bind,run_underlying underlying39,Result.andThen_ok];simp only[Std.Legacy.Range.forIn_eq_forIn_range',Std.Legacy.Range.size,Nat.sub_zero,Nat.add_one_sub_one,Nat.div_one];have each:∀ j∈List.range' 0 6,j<6:=λ j hj=>by simpa using hj
  generalize List.range' 0 6=is at each
  induction is with
  | nil=>simp
  | cons j is ih =>
   have p1:=hpart w j (each j (by simp));have p2:=nO (P:=prog) underlying3 b 9998 (u.at' j) w;simp only[List.forIn_cons,Sem.run_bind,hsz,Result.andThen_ok,p1,p2,Sem.run_pure];exact ih λ y hy=>each y (by simp[hy])

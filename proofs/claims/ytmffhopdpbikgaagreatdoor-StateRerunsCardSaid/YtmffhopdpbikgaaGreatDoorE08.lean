import Derived.Lib.AtoiBound
import Derived.Maps.RangeRun
import Derived.Test.YtmffhopdpbikgaaGreatDoorE07
set_option linter.unusedVariables false
set_option maxRecDepth 100000
namespace Go.Proofs.YtmffhopdpbikgaaGreatDoor
open Go Go.Vc _root_.Go.Proofs.Tryz
def names:List (List UInt8):=[[],[115,97,108,101],[100,101,109,97,110,100],[114,111,117,110,100],[115,116,111,112],[98,105,100],[119,105,116,104,100,114,97,119],[100,105,115,113,117,97,108,105,102,121],[114,101,114,117,110],[99,108,111,115,101],[100,101,99,105,100,101]]
def vX(k:Int):List UInt8:=if 1<=k/\k<=10 then names.getD k.toNat [] else []
theorem uX(k:Int):vX k=[]<->¬ (1<=k/\k<=10):=by
 unfold vX
 by_cases h:1<=k/\k<=10
 ·rw[if_pos h];refine⟨λ e=>?_,λ e=>absurd h e⟩;obtain⟨j,rfl⟩:∃ j:Nat,k=j:=⟨k.toNat,by omega⟩;rw[Int.toNat_natCast] at e;have:1<=j/\j<=10:=by omega
  match j,this with
  | 1,_|2,_|3,_|4,_|5,_|6,_|7,_|8,_|9,_|10,_=>simp[names] at e
 ·rw[if_neg h]; simp[h]
theorem PN(w:World)(k:Int):CP 45 #[iv k] w (λ r w'=>r=sv (vX k)/\aA w w' []):=by
 refine z7 ?_;unfold yx;refine(St.start w).one.ax (List.replicate 11 (sv [])).toArray λ r1 w1 s1=>?_;refine s1.ay 0 rfl (names.map sv) rfl (by intro v hv; obtain⟨x,_,rfl⟩:=List.mem_map.1 hv; rfl) λ w2 s2=>?_;refine⟨λ b w3=>w3=w2/\b=decide (¬ (1<=k/\k<=10)),?_,?_⟩
 ·rintro w3 b ⟨rfl,rfl⟩ -
  by_cases h:1<=k/\k<=10
  ·have hj:k.toNat<11:=by omega
   have e:vX k=names.getD k.toNat []:=by simp[vX,h]
   refine cF (by simp; omega) ⟨by omega,by omega,bs (vX k),?_,rfl,s2.av⟩;rw[bw,Nat.zero_add,Nat.mul_one,s2.ag 0 rfl,e];generalize k.toNat=j at hj
   match j,hj with
   | 0,_|1,_|2,_|3,_|4,_|5,_|6,_|7,_|8,_|9,_|10,_=>rfl
  ·exact cT (dT h) ⟨by rw[(uX k).2 h],s2.av⟩
 ·by_cases h:k<1
  ·exact cT (dT h) ⟨rfl,by simp; omega⟩
  ·exact cF (dF h) ⟨rfl,decide_eq_decide.2 (by omega)⟩
def nB(n:Int):List UInt8:=wA n.toNat
def cE(e:Ev):List UInt8 :=
 nB e.kind++(if fB e.kind then nB e.bidder else [])++(if fR e.kind then nB e.round else [])++(if fW e.kind then e.want.l.flatMap nB else [])++(if fT e.kind then Bl e.text else [])++(if fD e.kind then nB e.digest else [])
structure Ev.QE (e:Ev):Prop where
 k:0<=e.kind/\e.kind<=10
 b:0<=e.bidder/\e.bidder<8
 r:0<=e.round/\e.round<30
 w:I6.Le e.want 4
 t:e.text.length<=4000
 d:0<=e.digest/\e.digest<18446744073709551616
theorem B6(n:Int):(nB n).length<=10:=lD _
theorem Gx(l:List Int):(l.flatMap nB).length<=10*l.length:=by
 induction l with
 | nil=>simp
 | cons x l ih=>have:=B6 x; simp only[List.flatMap_cons,List.length_append,List.length_cons]; omega
theorem Gk(w:World){e:Ev}(h:e.QE):CP 30 #[e.v] w (λ r w'=>r=sv (cE e)/\aA w w' []):=by
 refine yz ?_;unfold vP;have hk:=h.k; have hb:=h.b; have hr:=h.r; have ht:=h.t; have hd:=h.d;have hm:IntKind.i64.max=9223372036854775807:=rfl;refine(St.start w).one.ax e.cells.toArray λ r1 w1 s1=>?_;refine⟨_,s1.ag 0 rfl 0,aj (Dv w1 e.kind) ?_⟩;rintro v w2 ⟨rfl,rfl⟩;refine⟨_,rfl,_,s1.ag 0 rfl 0,aj (ua w2 e.kind (by omega)) ?_⟩;rintro v w3 ⟨rfl,c3⟩;obtain⟨g1,g2,g3,g4,g5⟩:=Dy e.kind;rw[g1,g2,g3,g4,g5];have s3:=s1.quiet c3;have l0:=B6 e.kind;let J:Nat->List UInt8->ByteArray->World->Prop:=λ n l s w'=>s=bs l/\l.length<=n/\St w w' (Sep [ai r1 e.cells.toArray 36,emp]);refine⟨_,rfl,J 20 (nB e.kind++(if fB e.kind then nB e.bidder else [])),?_,?_⟩
 rotate_left
 ·cases hf:fB e.kind with
  | true =>
   refine cT rfl ⟨_,s3.ag 0 rfl 1,aj (ua w3 e.bidder (by omega)) ?_⟩;rintro v w4 ⟨rfl,c4⟩;have:=B6 e.bidder;exact⟨_,rfl,by rw[gC,gC,hm]; unfold nB at *; omega,nU _ _,by simp only[List.length_append,if_true]; omega,s3.quiet c4⟩
  | false=>exact cF rfl ⟨by simp; rfl,by simp; omega,s3⟩
 rintro w4 s ⟨rfl,l1,s4⟩ -;refine⟨J 30 (nB e.kind++(if fB e.kind then nB e.bidder else [])++(if fR e.kind then nB e.round else [])),?_,?_⟩
 rotate_left
 ·generalize nB e.kind++(if fB e.kind then nB e.bidder else [])=l at *
  cases hf:fR e.kind with
  | true =>
   refine cT rfl ⟨_,s4.ag 0 rfl 2,aj (ua w4 e.round (by omega)) ?_⟩;rintro v w5 ⟨rfl,c5⟩;have:=B6 e.round;exact⟨_,rfl,by rw[gC,gC,hm]; unfold nB at *; omega,nU _ _,by simp only[List.length_append,if_true]; omega,s4.quiet c5⟩
  | false=>exact cF rfl ⟨by simp,by simp; omega,s4⟩
 clear l1 s4 l0 s3;rintro w5 s ⟨rfl,l1,s5⟩ -;refine⟨J 90 (nB e.kind++(if fB e.kind then nB e.bidder else [])++(if fR e.kind then nB e.round else [])++(if fW e.kind then e.want.l.flatMap nB else [])),?_,?_⟩
 rotate_left
 ·generalize nB e.kind++(if fB e.kind then nB e.bidder else [])++(if fR e.kind then nB e.round else [])=l at *
  cases hf:fW e.kind with
  | true =>
   refine cT rfl ⟨e.want,?_,λ s n w6 m=>∃ k:Nat,n=k/\k<=6/\m=6-k/\s=bs (l++(e.want.l.take k).flatMap nB)/\St w w6 (Sep [ai r1 e.cells.toArray 36,emp]),⟨6,0,rfl,by omega,by omega,by simp,s5⟩,?_⟩
   ·exact aY _ 0 λ j v hj=>by
     have h6:j<6:=(List.getElem?_eq_some_iff.1 hj).1;rw[bw,Nat.zero_add,s5.ag 0 rfl]
     match j,h6,hj with
     | 0,_,hj|1,_,hj|2,_,hj|3,_,hj|4,_,hj|5,_,hj=>simpa[Ev.cells,I6.on,I6.vs] using hj
   rintro w6 m s n ⟨k,rfl,hk6,hm6,rfl,s6⟩ -
   by_cases hlt:(k:Int)<6
   ·have hk' : k<6:=by omega
    have hw:=h.w k hk';refine cT (dT hlt) ⟨by omega,by omega,_,e.want.get k hk',aj (ua w6 _ (by omega)) ?_⟩;rintro v w7 ⟨rfl,c7⟩;have q1:=Gx (e.want.l.take k);have q2:(e.want.l.take k).length<=6:=by simp[I6.len]; omega
    have q3:=lD (e.want.at' k).toNat;refine⟨_,rfl,by rw[gC,gC,List.length_append,hm]; omega,6-(k+1),by omega,k+1,inc (by decide) hk',by omega,rfl,?_,s6.quiet c7⟩;rw[nU,aG (e.want.yT k hk'),List.flatMap_append,<- List.append_assoc]; simp[nB]
   ·obtain rfl:k=6:=by omega
    have q1:=Gx e.want.l;have q2:e.want.l.length=6:=rfl;refine cF (by simp) ⟨rfl,?_,s6⟩;simp only[List.length_append,if_true]; omega
  | false=>exact cF rfl ⟨by simp,by simp; omega,s5⟩
 clear l1 s5;rintro w6 s ⟨rfl,l1,s6⟩ -;refine⟨J 4100 (nB e.kind++(if fB e.kind then nB e.bidder else [])++(if fR e.kind then nB e.round else [])++(if fW e.kind then e.want.l.flatMap nB else [])++(if fT e.kind then Bl e.text else [])),?_,?_⟩
 rotate_left
 ·generalize nB e.kind++(if fB e.kind then nB e.bidder else [])++(if fR e.kind then nB e.round else [])++(if fW e.kind then e.want.l.flatMap nB else [])=l at *
  cases hf:fT e.kind with
  | true =>
   refine cT rfl ⟨_,s6.ag 0 rfl 9,aj (Qx w6 e.text (by omega)) ?_⟩;rintro v w7 ⟨rfl,c7⟩;have q:=lD e.text.length;have q2:(Bl e.text).length<=4010:=by unfold Bl; rw[List.length_append]; omega
   exact⟨_,rfl,by rw[gC,gC,hm]; omega,nU _ _,by simp only[List.length_append,if_true]; omega,s6.quiet c7⟩
  | false=>exact cF rfl ⟨by simp,by simp; omega,s6⟩
 clear l1 s6;rintro w7 s ⟨rfl,l1,s7⟩ -;refine⟨λ s w'=>s=bs (cE e)/\aA w w' [],?_,?_⟩
 ·rintro w8 s ⟨rfl,c8⟩ -;exact⟨rfl,c8⟩
 ·unfold cE;generalize nB e.kind++(if fB e.kind then nB e.bidder else [])++(if fR e.kind then nB e.round else [])++(if fW e.kind then e.want.l.flatMap nB else [])++(if fT e.kind then Bl e.text else [])=l at *
  cases hf:fD e.kind with
  | true =>
   have e1:e.digest=((e.digest.toNat:Nat):Int):=by omega
   refine cT rfl ⟨_,s7.ag 0 rfl 10,?_⟩;rw[e1];refine aj (LC w7 e.digest.toNat (by omega)) ?_;rintro v w8 ⟨rfl,c8⟩;have:=lD e.digest.toNat;exact⟨_,rfl,by rw[gC,gC,hm]; omega,nU _ _,(s7.quiet c8).av⟩
  | false=>exact cF rfl ⟨by simp,s7.av⟩
theorem Ev.ext'{a b:Ev}(h1:a.kind=b.kind)(h2:a.bidder=b.bidder)(h3:a.round=b.round)(h4:a.want=b.want)(h5:a.text=b.text)(h6:a.digest=b.digest):a=b:=by
 cases a; cases b; simp_all
instance:DecidableEq Ev:=λ a b =>
 if h:a.kind=b.kind/\a.bidder=b.bidder/\a.round=b.round/\a.want=b.want/\a.text=b.text/\a.digest=b.digest then .isTrue (Ev.ext' h.1 h.2.1 h.2.2.1 h.2.2.2.1 h.2.2.2.2.1 h.2.2.2.2.2)
 else .isFalse λ e=>h (by subst e; exact⟨rfl,rfl,rfl,rfl,rfl,rfl⟩)
def bY(e:Ev):Int :=
 if ¬ (1<=e.kind/\e.kind<=10)\/e≠dO e then 2
 else if e.bidder<0\/8<=e.bidder\/e.round<0\/30<=e.round\/e.want.l.all j8=false then 4
 else if 4000<e.text.length\/4000<(cE e).length then 3 else 0
theorem uL{e:Ev}(h:bY e=0)(hd:0<=e.digest/\e.digest<18446744073709551616):e.QE:=by
 unfold bY at h
 split at h
 ·cases h
 ·rename_i h1
  split at h
  ·cases h
  ·rename_i h2
   split at h
   ·cases h
   ·rename_i h3;have hw:e.want.l.all j8=true:=by
     cases hq:e.want.l.all j8 with
     | true=>rfl
     | false=>exact absurd (.inr (.inr (.inr (.inr hq)))) h2
    exact⟨by omega,by omega,by omega,It hw,by omega,hd⟩
theorem O5(a b:List UInt8):(bs a==bs b)=(a==b):=by
 show((bs a).data==(bs b).data)=_;simp[bs]
theorem AG(w:World){e:Ev}(hi:e.In):CP 24 #[e.v] w (λ r w'=>r=iv (bY e)/\aA w w' []):=by
 refine yw ?_;unfold vO;refine(St.start w).one.ax e.cells.toArray λ r1 w1 s1=>?_;let Q1:Prop:=¬ (1<=e.kind/\e.kind<=10)\/e≠dO e;let Q2:Prop:=e.bidder<0\/8<=e.bidder\/e.round<0\/30<=e.round\/e.want.l.all j8=false;let Q3:Prop:=4000<e.text.length\/4000<(cE e).length;refine⟨λ b w2=>(b=true<->Q1)/\aA w1 w2 [],?_,?_⟩
 ·rintro w2 b ⟨hb,c2⟩ -;have s2:=s1.quiet c2
  cases b with
  | true=>exact cT rfl ⟨by unfold bY; rw[if_pos (hb.1 rfl)],s2.av⟩
  | false =>
   have n1 : ¬ Q1:=λ h=>by have:=hb.2 h; cases this
   refine cF rfl ⟨λ b w3=>(b=true<->Q2)/\aA w1 w3 [],?_,?_⟩
   ·rintro w3 b ⟨hb,c3⟩ -;have s3:=s1.quiet c3
    cases b with
    | true=>exact cT rfl ⟨by unfold bY; rw[if_neg n1,if_pos (hb.1 rfl)],s3.av⟩
    | false =>
     have n2 : ¬ Q2:=λ h=>by have:=hb.2 h; cases this
     refine cF rfl ⟨λ b w4=>(b=true<->Q3)/\aA w1 w4 [],?_,_,s3.ag 0 rfl 9,?_⟩
     ·rintro w4 b ⟨hb,c4⟩ -;have s4:=s1.quiet c4
      cases b with
      | true=>exact cT rfl ⟨by unfold bY; rw[if_neg n1,if_neg n2,if_pos (hb.1 rfl)],s4.av⟩
      | false =>
       have n3 : ¬ Q3:=λ h=>by have:=hb.2 h; cases this
       exact cF rfl ⟨by unfold bY; rw[if_neg n1,if_neg n2,if_neg n3],s4.av⟩
     ·rw[gC]
      by_cases ht:4000<e.text.length
      ·exact cT (dT (by omega)) ⟨⟨λ _=>.inl ht,λ _=>rfl⟩,c3⟩
      ·have hw:e.want.l.all j8=true:=by
        cases hq:e.want.l.all j8 with
        | true=>rfl
        | false=>exact absurd (.inr (.inr (.inr (.inr hq)))) n2
       have hr:e.QE:=⟨by omega,by omega,by omega,It hw,by omega,hi.d⟩;refine cF (dF (by omega)) ⟨_,_,_,e.want,_,_,s3.cellsIn 0 rfl,aj (Gk w3 hr) ?_⟩;rintro v w5 ⟨rfl,c5⟩;refine⟨_,rfl,?_,c3.trans c5 (by simp)⟩;rw[gC,decide_eq_true_eq];exact⟨λ h=>.inr (by omega),λ h=>by rcases h with h|h<;>omega⟩
   ·refine⟨_,s2.ag 0 rfl 1,?_⟩
    by_cases g1:e.bidder<0
    ·exact cT (dT g1) ⟨⟨λ _=>.inl g1,λ _=>rfl⟩,c2⟩
    refine cF (dF g1) ⟨_,s2.ag 0 rfl 1,?_⟩
    by_cases g2:e.bidder>=8
    ·exact cT (dT g2) ⟨⟨λ _=>.inr (.inl g2),λ _=>rfl⟩,c2⟩
    refine cF (dF g2) ⟨_,s2.ag 0 rfl 2,?_⟩
    by_cases g3:e.round<0
    ·exact cT (dT g3) ⟨⟨λ _=>.inr (.inr (.inl g3)),λ _=>rfl⟩,c2⟩
    refine cF (dF g3) ⟨_,s2.ag 0 rfl 2,?_⟩
    by_cases g4:e.round>=30
    ·exact cT (dT g4) ⟨⟨λ _=>.inr (.inr (.inr (.inl g4))),λ _=>rfl⟩,c2⟩
    refine cF (dF g4) ⟨e.want,?_,aj (bR w2 e.want) ?_⟩
    ·exact aY _ 0 λ j v hj=>by
      have h6:j<6:=(List.getElem?_eq_some_iff.1 hj).1;rw[bw,Nat.zero_add,s2.ag 0 rfl]
      match j,h6,hj with
      | 0,_,hj|1,_,hj|2,_,hj|3,_,hj|4,_,hj|5,_,hj=>simpa[Ev.cells,I6.on,I6.vs] using hj
    ·rintro v w6 ⟨rfl,c6⟩;refine⟨_,rfl,?_,c2.trans c6 (by simp)⟩
     cases hq:e.want.l.all j8 with
     | true=>exact⟨λ h=>by simp at h,λ h=>by rcases h with h|h|h|h|h<;>first|omega|(rw[hq] at h; cases h)⟩
     | false=>exact⟨λ _=>.inr (.inr (.inr (.inr hq))),λ _=>by simp⟩
 ·have s1':=s1.quiet (aA.drew w1 []);refine⟨_,s1'.ag 0 rfl 0,aj (PN _ e.kind) ?_⟩;rintro v w7 ⟨rfl,c7⟩;have s7:=s1'.quiet c7;have c17:aA w1 w7 []:=(aA.drew w1 []).trans c7 (by simp);refine⟨_,rfl,?_⟩
  by_cases hk:1<=e.kind/\e.kind<=10
  ·have hne:vX e.kind≠[]:=λ h=>(uX _).1 h hk;refine cF (by rw[iw,iw]; simpa using hne) ⟨_,_,_,e.want,_,_,s7.cellsIn 0 rfl,_,_,_,e.want,_,_,s7.cellsIn 0 rfl,aj (OW w7 e) ?_⟩;rintro v w8 ⟨rfl,c8⟩;refine⟨_,_,_,(dO e).want,_,_,rfl,(s7.quiet c8).cellsIn 0 rfl,?_,c17.trans c8 (by simp)⟩;simp only[I6.beq_eq,O5,Bool.and_true,Bool.not_eq_true',Bool.and_eq_false_iff,beq_eq_false_iff_ne,ne_eq,decide_eq_false_iff_not];constructor
   ·intro h;refine .inr λ he=>?_;rcases h with h|h|h|h|h|h<;>apply h<;>rw[<- he]
   ·intro h;rcases h with h|h
    ·exact absurd hk h
    ·by_cases q1:e.kind=(dO e).kind
     ·by_cases q2:e.bidder=(dO e).bidder
      ·by_cases q3:e.round=(dO e).round
       ·by_cases q4:e.want=(dO e).want
        ·by_cases q5:e.text=(dO e).text
         ·by_cases q6:e.digest=(dO e).digest
          ·exact absurd (Ev.ext' q1 q2 q3 q4 q5 q6) h
          ·exact .inr (.inr (.inr (.inr (.inr q6))))
         ·exact .inr (.inr (.inr (.inr (.inl q5))))
        ·exact .inr (.inr (.inr (.inl q4)))
       ·exact .inr (.inr (.inl q3))
      ·exact .inr (.inl q2)
     ·exact .inl q1
  ·have hne:vX e.kind=[]:=(uX _).2 hk;exact cT (by rw[iw,iw,hne]; rfl) ⟨⟨λ _=>.inl hk,λ _=>rfl⟩,c17⟩
theorem Ds(w:World){e:Ev}(hi:e.In):CP 11 #[e.v] w (λ r w'=>r=.tuple #[sv (if bY e=0 then cE e else []),iv (bY e)]/\aA w w' []):=by
 refine wN ?_;unfold sV;refine(St.start w).one.ax e.cells.toArray λ r1 w1 s1=>?_;refine⟨_,_,_,e.want,_,_,s1.cellsIn 0 rfl,aj (AG w1 hi) ?_⟩;rintro v w2 ⟨rfl,c2⟩;refine⟨_,rfl,?_⟩;have s2:=s1.quiet c2
 by_cases h0:bY e=0
 ·refine cF (by simpa using h0) ⟨_,_,_,e.want,_,_,s2.cellsIn 0 rfl,aj (Gk w2 (uL h0 hi.d)) ?_⟩;rintro v w3 ⟨rfl,c3⟩;exact⟨_,rfl,by rw[if_pos h0,h0],(s2.quiet c3).av⟩
 ·exact cT (by simpa using h0) ⟨by rw[if_neg h0],s2.av⟩
theorem Er{S:Sx}(h:S.bd.length=8)(x:Int):S.cells.toArray.setIfInBounds 4 (iv x)=({ S with ph:=x }:Sx).cells.toArray:=by
 obtain⟨o,ph,s,k,bd,dec,cnt,dig⟩:=S;obtain⟨b0,b1,b2,b3,b4,b5,b6,b7,rfl⟩:=bB h;rfl
theorem Qt{S:Sx}(h:S.bd.length=8)(x:Int):S.cells.toArray.setIfInBounds 98 (.int .u64 x)=({ S with dec:=x }:Sx).cells.toArray:=by
 obtain⟨o,ph,s,k,bd,dec,cnt,dig⟩:=S;obtain⟨b0,b1,b2,b3,b4,b5,b6,b7,rfl⟩:=bB h;rfl
theorem FV{S:Sx}(h:S.bd.length=8){i:Nat}(hi:i<8){y:Bd}(hy:S.bd[i]?=some y):S.cells.toArray[10+i*11+9]?=some (.bool y.has):=by
 obtain⟨o,ph,s,k,bd,dec,cnt,dig⟩:=S;obtain⟨b0,b1,b2,b3,b4,b5,b6,b7,rfl⟩:=bB h
 match i,hi with
 | 0,_|1,_|2,_|3,_|4,_|5,_|6,_|7,_=>cases hy; rfl
theorem de{S:Sx}(h:S.bd.length=8):S.cells.toArray.size=101:=by simpa using Sx.len h
section
variable {w0 w:World} {b:Nat} {S:Sx} {m:List aD}
def ox(S:Sx)(e:Ev):Sx:=if e.kind=10 then { S with ph:=4,dec:=e.digest } else { S with ph:=3 }
theorem JZ(s:St w0 w (Sep (ai b S.cells.toArray 80 :: m)))(h:S.bd.length=8)(e:Ev) :
  CP 58 #[.pointer (some ⟨b,0,none⟩),e.v] w (λ r w'=>r=iv 0/\St w0 w' (Sep (ai b (ox S e).cells.toArray 80 :: m))):=by
 refine nO (u1:=e.want) ?_;unfold jb;refine s.ax e.cells.toArray λ r1 w1 s1=>s1.aJ 1 rfl (j:=4) (by rw[de h]; omega) rfl λ w2 s2=>?_;rw[Er h] at s2;have s2:St w0 w2 (Sep (ai r1 e.cells.toArray 36 :: ai b ({ S with ph:=3 }:Sx).cells.toArray 80 :: m)):=s2;refine⟨λ w3=>St w0 w3 (Sep (ai r1 e.cells.toArray 36 :: ai b (ox S e).cells.toArray 80 :: m)),λ w3 s3 _=>⟨rfl,s3.second⟩,_,s2.ag 0 rfl 0,?_⟩
 by_cases h10:e.kind=10
 ·have h3:({ S with ph:=3 }:Sx).bd.length=8:=h;have h4:({ S with ph:=4 }:Sx).bd.length=8:=h;have s3:=s2.quiet (aA.drew w2 []);refine cT (by simpa using h10) ⟨_,s3.ag 0 rfl 10,s3.aJ 1 rfl (j:=4) (by rw[de h3]; omega) rfl λ w4 s4=>?_⟩;rw[Er h3] at s4;have s4:St w0 w4 (Sep (ai r1 e.cells.toArray 36 :: ai b ({ S with ph:=4 }:Sx).cells.toArray 80 :: m)):=s4;refine⟨s4.ag 0 rfl 10,s4.aJ 1 rfl (j:=98) (by rw[de h4]; omega) rfl λ w5 s5=>?_⟩;rw[Qt h4] at s5;rw[ox,if_pos h10];exact s5
 ·exact cF (by simpa using h10) (by rw[ox,if_neg h10]; exact s2)
theorem F4(s:St w0 w (Sep (ai b S.cells.toArray 80 :: m)))(h:S.bd.length=8){e:Ev}{i:Nat}(hi:i<8)(he:e.bidder=i) :
  CP 55 #[.pointer (some ⟨b,0,none⟩),e.v] w (λ r w'=>((S.bd.getD i bF).has=false/\r=iv 6/\St w0 w' (Sep (ai b S.cells.toArray 80 :: m)))\/((S.bd.getD i bF).has=true/\r=iv 0/\St w0 w' (Sep (ai b (aX S i).cells.toArray 80 :: m)))):=by
 refine lB (u1:=e.want) ?_;unfold gy;have hy:S.bd[i]?=some (S.bd.getD i bF):=by rw[List.getD_eq_getElem?_getD,gE (by omega)]; rfl
 generalize S.bd.getD i bF=y at hy;refine s.ax e.cells.toArray λ r1 w1 s1=>?_;have s2:=s1.quiet (aA.drew w1 []);have c1:w1.drew.cell? ⟨r1,1,none⟩=some (iv i):=by rw[<- he]; exact s2.ag 0 rfl 1
 have c2:w1.drew.cell? (Addr.add (Addr.add ⟨b,10,none⟩ (((i:Nat):Int).toNat*11)) 9)=some (.bool y.has):=by
  rw[N2,bw,s2.ag 1 rfl]; exact FV h hi hy
 refine⟨_,c1,by omega,by omega,_,c2,?_⟩
 cases hh:y.has with
 | false=>exact cT rfl (.inl ⟨rfl,rfl,s2.second⟩)
 | true =>
  refine cF rfl ⟨_,c1,aj (Cs (s2.second) h hi) ?_⟩;rintro v w2 ⟨rfl,s3⟩;exact⟨rfl,.inr ⟨rfl,rfl,s3⟩⟩
end
def OI:List UInt8:=[112,114,111,100,117,99,116]
def OG:List UInt8:=[98,105,100,100,101,114]
def OH:List UInt8:=[99,97,112]
def OF:List UInt8:=[97,115,105,100,101]
def uf(s:List UInt8):Int:=if s=OI then 6 else if s=OG then 5 else if s=OH\/s=OF then 4 else 0
theorem NX(w:World)(s:List UInt8):CP 166 #[sv s] w (λ r w'=>r=iv (uf s)/\w' = w):=by
 refine zz ?_;unfold wo;rw[iw,iw,iw,iw,iw]
 by_cases h1:s=OI
 ·exact cT (beq_iff_eq.2 h1) ⟨by rw[uf,if_pos h1],rfl⟩
 refine cF (beq_eq_false_iff_ne.2 h1) ?_
 by_cases h2:s=OG
 ·exact cT (beq_iff_eq.2 h2) ⟨by rw[uf,if_neg h1,if_pos h2],rfl⟩
 refine cF (beq_eq_false_iff_ne.2 h2) ⟨λ b w1=>b=decide (s=OH\/s=OF)/\w1=w,?_,?_⟩
 ·rintro w1 _ ⟨rfl,rfl⟩ -
  by_cases h3:s=OH\/s=OF
  ·exact cT (dT h3) ⟨by rw[uf,if_neg h1,if_neg h2,if_pos h3],rfl⟩
  ·exact cF (dF h3) ⟨by rw[uf,if_neg h1,if_neg h2,if_neg h3],rfl⟩
 ·by_cases h3:s=OH
  ·exact cT (beq_iff_eq.2 h3) ⟨by rw[dT (Or.inl h3)]; exact beq_iff_eq.2 h3,rfl⟩
  ·refine cF (beq_eq_false_iff_ne.2 h3) ⟨?_,rfl⟩
   by_cases h4:s=OF
   ·rw[dT (Or.inr h4)]; exact beq_iff_eq.2 h4
   ·rw[dF (by rintro(h|h); exact h3 h; exact h4 h)]; exact beq_eq_false_iff_ne.2 h4
def strings_Split(a b:ByteArray)(w:World)(K:KP):=CC 165 #[.string a,.string b,qz,iv (-1)] w λ a b=>∃ c d e,a=.returned (.slice c d e)/\K (.slice c d e) b
theorem vz{s1 s2 w K}(h:strings_Split s1 s2 w K):CP 116 #[.string s1,.string s2] w K:=ah (az []) func116 (by kernel_rfl) (by kernel_rfl) h
abbrev sF (x:List UInt8):List Value:=[sv x]
theorem FI(x:List UInt8):(sF x).length=1:=rfl
theorem FJ{w:World}{a:OA}{l:List (List UInt8)}(h:cW 1 sF w a l){i:Nat}{x:List UInt8}(hi:l[i]?=some x):∃ q,a=some q/\w.cell? (Addr.add q (i*1))=some (sv x):=by
 obtain⟨q,hq,hc⟩:=h.at hi;have:=aL hc 0 _ rfl;rw[Nat.zero_add,Addr.add_add,Nat.add_zero] at this;exact⟨q,hq,this⟩
def bh(c:UInt8)(s:List UInt8):List (List UInt8):=(Lib.splitB (bs [c]) 0 (Lib.countB (bs s) (bs [c])) (bs s)).map λ b=>b.data.toList
theorem mu(c:UInt8)(s:List UInt8):(bh c s).length=Lib.countB (bs s) (bs [c])+1:=by
 rw[bh,List.length_map,Lib.splitB_all (bs [c]) (by rw[gC]; exact Nat.le_refl 1) 0 _ _ rfl]
theorem Bg(c:UInt8)(s:List UInt8):(bh c s).length<=s.length+1:=by
 rw[mu];have:=Lib.countB_le (bs [c]) (by rw[gC]; exact Nat.le_refl 1) (bs s).size (bs s) (Nat.le_refl _);rw[gC] at this;omega
theorem Hq(w:World)(c:UInt8)(s:List UInt8)(hs:s.length<=1000000):CP 116 #[sv s,sv [c]] w (λ r w'=>∃ g,r=.slice (some ⟨g,0,none⟩) (bh c s).length (bh c s).length/\St w w' (Sep [bM 9 1 sF (some ⟨g,0,none⟩) (bh c s).length (bh c s)])):=by
 refine vz ?_;unfold strings_Split;have h1:1<=(bs [c]).size:=by rw[gC]; exact Nat.le_refl 1
 have hle:=Lib.countB_le (bs [c]) h1 (bs s).size (bs s) (Nat.le_refl _);have hlen:=Lib.splitB_all (bs [c]) h1 0 _ (bs s) rfl;have hz:(bs s).size=s.length:=gC s;have hC:=Tryz.strings_Count_one (bs s) c w;have k:=Any.strings_genSplit_core Tryz.MP (by kernel_rfl) (bs s) (bs [c]) 0 (-1) (Lib.countB (bs s) (bs [c])+1) w (by omega) h1 (Nat.zero_le _)
  (λ x cs _=>(Tryz.strings_Index_one x c _).mono λ e w' ⟨he,hw⟩=>⟨by rw[he]; show _=Ending.returned (Value.int .i64 (Lib.index x.data.toList [c])); rw[Lib.index_one],hw⟩) ?_ (by decide) (by decide) (by rw[if_pos (by decide)]; omega)
 ·rw[Nat.add_sub_cancel,hlen] at k;have e2:Lib.cellsOf (Lib.splitB (bs [c]) 0 (Lib.countB (bs s) (bs [c])) (bs s)) (Lib.countB (bs s) (bs [c])+1)=((Lib.splitB (bs [c]) 0 (Lib.countB (bs s) (bs [c])) (bs s)).map Value.string).toArray:=by rw[<- hlen]; exact Lib.cellsOf_full _
  rw[e2] at k;refine Calls.mono k ?_;rintro e w' ⟨rfl,rfl⟩;refine⟨_,_,_,rfl,w.heap.size,by rw[mu],?_⟩;have s1:=(St.start w).one.bO ((Lib.splitB (bs [c]) 0 (Lib.countB (bs s) (bs [c])) (bs s)).map Value.string).toArray 9;have e3:(((Lib.splitB (bs [c]) 0 (Lib.countB (bs s) (bs [c])) (bs s)).map Value.string).toArray:Array Value).toList=(bh c s).flatMap sF:=by
   rw[bh,List.flatMap_map]
   induction Lib.splitB (bs [c]) 0 (Lib.countB (bs s) (bs [c])) (bs s) with
   | nil=>rfl
   | cons b l ih=>simp only[List.map_cons,List.flatMap_cons] at ih ⊢; rw[<- ih,sF,sv,<- Q6]; rfl
  refine(s1.au [0]).weak (bG.left ?_);rintro w' F ⟨h,hF⟩;have hm:(bh c s).length<=maxLen:=by rw[mu]; unfold maxLen; omega
  exact⟨F,⟨y6 FI h e3 hm,by rw[hF]; simp[Value.ownBlock]⟩,λ _ h=>h⟩
 ·refine Calls.mono hC ?_;rintro e w' ⟨rfl,hw⟩;refine⟨?_,hw⟩;show _=Ending.returned (Value.int .i64 ((Lib.count (bs s).data.toList [c]:Nat):Int));rw[Lib.count_one]; rfl
theorem aA.Mz(w:World)(b o n:Nat):aA w (w.freeze ⟨b,o,none⟩ n) [b]:=by
 unfold World.freeze
 split
 ·exact aA.refl _ _
 ·refine⟨by simp,λ i _ hi=>?_,⟨rfl,rfl,rfl⟩⟩;simp only[List.mem_singleton] at hi;rw[Array.getElem?_modify,if_neg (λ h=>hi h.symm)]
theorem HJ(w:World)(e:TypeId)(t:ByteArray):aA w (Lib.bytesWorld w e t) []:=by
 unfold Lib.bytesWorld;have c1:aA w w.drew []:=aA.drew w [];refine(c1.trans (aA.new _ _ []) (by simp)).trans (aA.Mz _ _ _ _) ?_;intro i hi;simp at hi; subst hi;exact .inr (Nat.le_refl _)
def CT(l:List UInt8):Bool:=l.all λ c=>wK (un c)
def K1(l:List UInt8):Int:=(Lib.atoi l).getD 0
def eL(l:List UInt8):Int×Int:=if CT l=false\/l=[]\/(l.head? = some 48/\1<l.length) then (0,2) else if 9<l.length then (0,4) else (K1 l,0)
theorem vM:∀ (l:List UInt8) (acc:Nat),CT l=true->∃ n,Lib.decFrom acc l=some n
 | [],acc,_=>⟨acc,rfl⟩
 | b :: l,acc,h=>by
  unfold CT at h;rw[List.all_cons,Bool.and_eq_true] at h;have h1:48<=b.toNat/\b.toNat<=57:=by
   have h2:48<=un b/\un b<=57:=by simpa[wK] using h.1
   unfold un at h2;omega
  rw[Lib.decFrom,Lib.digitVal,if_pos h1];exact vM l _ h.2
theorem Jk{l:List UInt8}(h:CT l=true)(h0:l≠[]):∃ n,Lib.atoi l=some n:=by
 cases l with
 | nil=>exact absurd rfl h0
 | cons b l =>
  obtain⟨n,hn⟩:=vM (b :: l) 0 h;unfold CT at h;rw[List.all_cons,Bool.and_eq_true] at h;have h1:48<=un b/\un b<=57:=by simpa[wK] using h.1
  have hb:(b==45)=false:=by rw[beq_eq_false_iff_ne]; rintro rfl; revert h1; decide
  have hb2:(b==43)=false:=by rw[beq_eq_false_iff_ne]; rintro rfl; revert h1; decide
  have hd:Lib.decNat (b :: l)=some n:=by rw[Lib.decNat]; exact hn
  rw[Lib.atoi,hb,hb2,hd];exact⟨_,rfl⟩
theorem Nr{l:List UInt8}(hl:l.length<=18):In (K1 l):=by
 unfold K1
 cases h:Lib.atoi l with
 | none=>exact⟨by decide,by decide⟩
 | some n =>
  have:=Lib.atoi_bound h hl;show In n;exact⟨by omega,by omega⟩
theorem IJ(w:World){l:List UInt8}(hl:l.length<=1000000):CP 210 #[sv l] w (λ r w'=>r=.tuple #[iv (eL l).1,iv (eL l).2]/\aA w w' []):=by
 refine xe ?_;unfold tS;refine⟨λ i w1 m=>∃ k:Nat,i=k/\k<=l.length/\m=l.length-k/\CT (l.take k)=true/\aA w w1 [],⟨l.length,0,rfl,by omega,by omega,rfl,aA.refl _ _⟩,?_⟩;rintro w1 m i ⟨k,rfl,hk,hm,ha,hc⟩ -
 by_cases hlt:k<l.length
 ·have hx:l[k]?=some (l[k]'hlt):=gE hlt;generalize l[k]'hlt=c at hx;refine cT (by rw[gC]; exact dT (by omega)) ⟨λ b w2=>b = !wK (un c)/\aA w w2 [],?_,by omega,?_⟩
  ·rintro w2 b ⟨rfl,c2⟩ -
   cases hd:wK (un c) with
   | false =>
    have:CT l=false:=List.all_eq_false.2 ⟨c,List.mem_of_getElem? hx,by simp[hd]⟩;exact cT rfl ⟨by rw[eL,if_pos (.inl this)],c2⟩
   | true =>
    refine cF rfl ⟨l.length-(k+1),by omega,k+1,aB ⟨by omega,by omega⟩,by omega,rfl,?_,c2⟩;unfold CT at ha ⊢;rw[aG hx,List.all_append,ha]; simp[hd]
  ·rw[Int.toNat_natCast,lR,hx];have hlt8:=c.toNat_lt
   by_cases h1:(c.toNat:Int)<48
   ·exact cT (dT h1) ⟨by rw[wK,un,dF (by omega)]; rfl,hc⟩
   ·refine cF (dF h1) ⟨by omega,?_⟩;refine⟨?_,hc⟩
    by_cases h2:(c.toNat:Int)>57
    ·rw[dT h2,wK,un,dT (show(48:Int)<=(c.toNat:Int) by omega),dF (show ¬ (c.toNat:Int)<=57 by omega)]; rfl
    ·rw[dF h2,wK,un,dT (show(48:Int)<=(c.toNat:Int) by omega),dT (show(c.toNat:Int)<=57 by omega)]; rfl
 ·obtain rfl:k=l.length:=by omega
  rw[List.take_length] at ha;refine cF (by rw[gC]; exact dF (by omega)) ⟨λ b w2=>b=decide (l=[]\/(l.head? = some 48/\1<l.length))/\aA w w2 [],?_,?_⟩
  ·rintro w2 b ⟨rfl,c2⟩ -
   by_cases hb:l=[]\/(l.head? = some 48/\1<l.length)
   ·exact cT (dT hb) ⟨by rw[eL,if_pos (.inr hb)],c2⟩
   ·refine cF (dF hb) ?_;have e1:eL l=if 9<l.length then (0,4) else (K1 l,0):=by
     rw[eL,if_neg];rintro(h|h)
     ·rw[ha] at h; cases h
     ·exact hb h
    by_cases h9:9<l.length
    ·exact cT (by rw[gC]; exact dT (by omega)) ⟨by rw[e1,if_pos h9],c2⟩
    ·rw[if_neg h9] at e1;obtain⟨n,hn⟩:=Jk ha (λ h=>hb (.inl h));refine cF (by rw[gC]; exact dF (by omega)) ((Tryz.strconv_Atoi (bs l) n (by rw[gC]; omega) hn w2).mono ?_);rintro e w3 ⟨rfl,t,rfl⟩;refine⟨_,_,rfl,?_,c2.trans (HJ _ _ _) (by simp)⟩;rw[e1,K1,hn]; rfl
  ·cases l with
   | nil=>exact cT (by rw[iw]; rfl) ⟨by decide,hc⟩
   | cons c l =>
    refine cF (by rw[iw,iw]; rfl) ⟨by decide,?_⟩;show cond ((c.toNat:Int)==48) _ _
    by_cases h48:c=48
    ·subst h48;refine cT rfl ⟨?_,hc⟩;rw[gC]
     by_cases h1:1<(48 :: l:List UInt8).length
     ·rw[dT (show(((48 :: l:List UInt8).length:Nat):Int)>1 by omega),dT (Or.inr ⟨rfl,h1⟩)]
     ·rw[dF (show ¬ (((48 :: l:List UInt8).length:Nat):Int)>1 by omega),dF (by rintro(h|h); cases h; exact h1 h.2)]
    ·refine cF (beq_eq_false_iff_ne.2 λ h=>h48 (UInt8.toNat_inj.1 (by show c.toNat=48; omega))) ⟨?_,hc⟩;rw[dF];rintro(h|h)
     ·cases h
     ·exact h48 (by simpa using h.1)
def oK:List (List UInt8)->Int
 | []=>0
 | x :: l=>if (eL x).2≠0 then (eL x).2 else oK l
theorem DW:∀ {l:List (List UInt8)} {k:Nat} {x:List UInt8},(∀ y∈l.take k,(eL y).2=0)->l[k]?=some x->oK l=if (eL x).2≠0 then (eL x).2 else oK (l.drop (k+1))
 | y :: l,0,x,_,hx=>by cases hx; rfl
 | y :: l,k+1,x,h,hx=>by
  rw[oK,if_neg (by simpa using h y (by simp))];exact DW (λ z hz=>h z (by simp[hz])) (by simpa using hx)
theorem AU:∀ {l:List (List UInt8)},(∀ y∈l,(eL y).2=0)->oK l=0
 | [],_=>rfl
 | y :: l,h=>by rw[oK,if_neg (by simpa using h y (by simp))]; exact AU λ z hz=>h z (by simp[hz])
theorem FQ{w:World}{a:OA}{c:Nat}{l:List (List UInt8)}(hr:cW 1 sF w a l)(hl:l.length<=100000)(hx:∀ x∈l,x.length<=1000000) :
  CP 168 #[.slice a l.length c] w (λ r w'=>(oK l≠0/\r=.tuple #[.slice none 0 0,iv (oK l)]/\aA w w' [])\/(oK l=0/\∃ a' c',r=.tuple #[.slice a' l.length c',iv 0]/\St w w' (Sep [bM 3 1 i1 a' c' (l.map λ x=>(eL x).1)]))):=by
 refine vt ?_;unfold q8;refine⟨λ a2 n2 c2 i w1 m=>∃ k:Nat,i=k/\k<=l.length/\m=l.length-k/\n2=k/\(∀ y∈l.take k,(eL y).2=0)/\St w w1 (Sep [bM 3 1 i1 a2 c2 ((l.take k).map λ x=>(eL x).1)]),⟨l.length,0,rfl,by omega,by omega,rfl,by simp,(St.start w).cv⟩,?_⟩;rintro w1 m a2 n2 c2 i ⟨k,rfl,hk,hm,hn2,ha,s1⟩ -;have hn3:=hn2.symm;subst hn3
 by_cases hlt:(k:Int)<(l.length:Int)
 ·have hxk:l[k]?=some (l[k]'(by omega)):=gE (by omega);generalize l[k]'(by omega)=x at hxk;obtain⟨q,hq,hc⟩:=FJ (hr.av s1.av) hxk;have e1:=DW ha hxk;refine cT (dT hlt) (ak hq ⟨by omega,by omega,_,hc,aj (IJ w1 (hx x (List.mem_of_getElem? hxk))) ?_⟩);rintro v w2 ⟨rfl,c3⟩;have s2:=s1.quiet c3;refine⟨_,_,rfl,?_⟩
  by_cases h0:(eL x).2=0
  ·refine cF (by simpa using h0) ?_;have e2:(l.take (k+1)).map (λ x=>(eL x).1)=(l.take k).map (λ x=>(eL x).1)++[(eL x).1]:=by rw[aG hxk,List.map_append]; rfl
   have hl2:((l.take k).map λ x=>(eL x).1).length=k:=by rw[List.length_map,List.length_take]; omega
   have:=cK (ty:=65) (x:=(eL x).1) (l:=(l.take k).map λ x=>(eL x).1) Oy bU (yM _) s2 (by rw[hl2]; omega) (by rw[hl2]; omega) (R:=λ a3 l3 c3 w4=>∃ m2,m2<l.length-k/\∃ k' : Nat,IntKind.i64.wrap ((k:Int)+1)=(k' : Int)/\k'<=l.length/\m2=l.length-k'/\l3=k'/\(∀ y∈l.take k',(eL y).2=0)/\St w w4 (Sep [bM 3 1 i1 a3 c3 ((l.take k').map λ x=>(eL x).1)])) (λ a' c' w' s'=>⟨l.length-(k+1),by omega,k+1,aB ⟨by omega,by omega⟩,by omega,rfl,by rw[List.length_append,hl2]; rfl,λ y hy=>?_,by rw[e2]; exact s'⟩) rfl
   ·rw[hl2] at this;rw[hm];exact this
   ·rw[aG hxk] at hy;rcases List.mem_append.1 hy with h|h
    ·exact ha y h
    ·rw[List.mem_singleton.1 h]; exact h0
  ·rw[if_pos h0] at e1;exact cT (by simpa using h0) (.inl ⟨by rw[e1]; exact h0,by rw[e1],s2.av⟩)
 ·obtain rfl:k=l.length:=by omega
  rw[List.take_length] at ha s1;exact cF (dF hlt) (.inr ⟨AU ha,a2,c2,rfl,s1⟩)
def tf(l:List Br)(nm:List UInt8):Int×Bool:=(((l.findIdx? λ p=>p.nm==nm).map λ k=>(k:Int)).getD 0,l.any λ p=>p.nm==nm)
theorem KU{w:World}{a:OA}{c:Nat}{l:List Br}(h:kf w a l)(hl:l.length<=100000)(nm:List UInt8) :
  CP 132 #[.slice a l.length c,sv nm] w (λ r w'=>r=.tuple #[iv (tf l nm).1,.bool (tf l nm).2]/\aA w w' []):=by
 refine AY ?_;unfold Fx;refine⟨λ n w1 m=>∃ k:Nat,n=k/\k<=l.length/\m=l.length-k/\(l.take k).any (λ p=>p.nm==nm)=false/\aA w w1 [],⟨l.length,0,rfl,by omega,by omega,rfl,aA.refl _ _⟩,?_⟩;rintro w1 m n ⟨k,rfl,hk,hm,ha,hc⟩ -
 by_cases hlt:(k:Int)<(l.length:Int)
 ·have hx:l[k]?=some (l[k]'(by omega)):=gE (by omega);generalize l[k]'(by omega)=x at hx;obtain⟨_,q,rfl,hcl⟩:=(h.av hc) k x hx;refine cT (by simpa using hlt) ⟨by omega,by omega,_,_,_,_,hcl,(St.start' hc).one.ax _ λ r1 w2 s2=>s2.ay 0 rfl x.cells rfl x.one λ w3 s3=>?_⟩;refine⟨_,by rw[s3.ag 0 rfl]; rfl,?_⟩
  by_cases hn:x.nm=nm
  ·refine cT (by rw[hn]; simp) ⟨?_,s3.av⟩;have hp:(λ p:Br=>p.nm==nm) x=true:=by simpa using hn
   rw[tf,oz hx hp ha,jq hx hp]; rfl
  ·exact cF (by rw[iw,iw]; simpa using hn) ⟨l.length-(k+1),by omega,k+1,by rw[aB ⟨by omega,by omega⟩]; rfl,by omega,rfl,fL ha hx (by simpa using hn),s3.av⟩
 ·refine cF (by simpa using hlt) ⟨?_,hc⟩;rw[List.take_of_length_le (by omega)] at ha;rw[tf,lZ ha,ha]; rfl
def gm(S:Se)(h nm:List UInt8):Int×Int :=
 if h=OI\/h=OG then (0,if ei nm then 0 else 5)
 else if h=OH then (if nm=[42] then (-1,0) else if (tf S.bd nm).2 then ((tf S.bd nm).1,0) else (0,6))
 else if h=OF then (if (cQ S.ps nm).2 then ((cQ S.ps nm).1,0) else (0,6))
 else (-1,0)
theorem Ld{w:World}{S:Se}(hS:S.In w)(h1:S.ps.length<=100000)(h2:S.bd.length<=100000)(h nm:List UInt8) :
  CP 167 #[.agg S.arr,sv h,sv nm] w (λ r w'=>r=.tuple #[iv (gm S h nm).1,iv (gm S h nm).2]/\aA w w' []):=by
 refine zw ?_;unfold wm;refine(St.start w).one.ax S.arr λ r1 w1 s1=>?_;refine⟨λ n b w2=>((b=false/\gm S h nm=(0,6))\/(b=true/\gm S h nm=(n,0)))/\aA w w2 [],?_,?_⟩
 ·rintro w2 n b ⟨(⟨rfl,e⟩|⟨rfl,e⟩),c2⟩ -
  ·exact cT rfl ⟨by rw[e],c2⟩
  ·exact cF rfl ⟨by rw[e],c2⟩
 refine⟨λ b w3=>b=decide (h=OI\/h=OG)/\w3=w1,?_,?_⟩
 ·rintro w3 b ⟨rfl,rfl⟩ -
  by_cases g1:h=OI\/h=OG
  ·have e1:gm S h nm=(0,if ei nm then 0 else 5):=by rw[gm,if_pos g1]
   refine cT (dT g1) (aj (yN w3 nm) ?_);rintro v w4 ⟨rfl,rfl⟩;refine⟨_,rfl,?_⟩
   cases hn:ei nm with
   | true=>exact cF rfl ⟨by rw[e1,hn]; rfl,s1.av⟩
   | false=>exact cT rfl ⟨by rw[e1,hn]; rfl,s1.av⟩
  ·refine cF (dF g1) ?_;rw[iw,iw,iw,iw,iw]
   by_cases g2:h=OH
   ·have e2:gm S h nm=if nm=[42] then (-1,0) else if (tf S.bd nm).2 then ((tf S.bd nm).1,0) else (0,6):=by rw[gm,if_neg g1,if_pos g2]
    refine cT (beq_iff_eq.2 g2) ?_
    by_cases g3:nm=[42]
    ·exact cF (by rw[g3]; rfl) ⟨.inr ⟨rfl,by rw[e2,if_pos g3]⟩,s1.av⟩
    ·rw[if_neg g3] at e2;refine cT (by rw[beq_eq_false_iff_ne.2 g3]; rfl) ⟨_,_,_,s1.ag 0 rfl 1,aj (KU (hS.av s1.av).bd h2 nm) ?_⟩;rintro v w5 ⟨rfl,c5⟩;refine⟨_,_,rfl,?_,(s1.quiet c5).av⟩
     cases hf:(tf S.bd nm).2 with
     | true=>exact .inr ⟨rfl,by rw[e2,hf]; rfl⟩
     | false=>exact .inl ⟨rfl,by rw[e2,hf]; rfl⟩
   ·refine cF (beq_eq_false_iff_ne.2 g2) ?_
    by_cases g4:h=OF
    ·have e2:gm S h nm=if (cQ S.ps nm).2 then (((cQ S.ps nm).1:Int),0) else (0,6):=by rw[gm,if_neg g1,if_neg g2,if_pos g4]
     refine cT (beq_iff_eq.2 g4) ⟨_,_,_,s1.ag 0 rfl 0,aj (Gw (hS.av s1.av).ps h1 nm) ?_⟩;rintro v w5 ⟨rfl,c5⟩;refine⟨_,_,rfl,?_,(s1.quiet c5).av⟩
     cases hf:(cQ S.ps nm).2 with
     | true=>exact .inr ⟨rfl,by rw[e2,hf]; rfl⟩
     | false=>exact .inl ⟨rfl,by rw[e2,hf]; rfl⟩
    ·exact cF (beq_eq_false_iff_ne.2 g4) ⟨.inr ⟨rfl,by rw[gm,if_neg g1,if_neg g2,if_neg g4]⟩,s1.av⟩
 ·rw[iw,iw,iw]
  by_cases g1:h=OI
  ·exact cT (beq_iff_eq.2 g1) ⟨by rw[dT (Or.inl g1)]; exact beq_iff_eq.2 g1,rfl⟩
  ·refine cF (beq_eq_false_iff_ne.2 g1) ⟨?_,rfl⟩
   by_cases g2:h=OG
   ·rw[dT (Or.inr g2)]; exact beq_iff_eq.2 g2
   ·rw[dF (by rintro(h|h); exact g1 h; exact g2 h)]; exact beq_eq_false_iff_ne.2 g2
end Go.Proofs.YtmffhopdpbikgaaGreatDoor
namespace Go.Vc
open Go
abbrev j3 (u:I6):Value:=.agg u.vs.toArray
structure NZ (P:Program) (t kt et:TypeId):Prop where
 u:P.underlying t=some (.map kt et)
 k:∃ it,P.underlying kt=some (.array 6 it)
 z:(P.info? et).bind (·.zero)=some (iv 0)
 eq:∀ u v:I6,LN P 12 kt (j3 u) (j3 v)=some (I6.beq u v)
 ck:∀ (b:Bool) (u:I6) (w:World),(Instr.checkKey b 10000 kt (j3 u)).run P w=.ok () w
abbrev KV:=I6×Int
def kvs(es:List MapEntry):List (Value×Value):=es.map λ e=>(e.key,e.val)
def Fa(l:List KV):List (Value×Value):=l.map λ p=>(j3 p.1,iv p.2)
structure Bt (es:List MapEntry) (cl:Nat) (l:List KV):Prop where
 kv:kvs es=Fa l
 nd:(es.map (·.born)).Nodup
 lt:∀ e∈es,e.born<cl
 ky:(l.map (·.1)).Nodup
def mapA(r:Nat)(l:List KV):aD:=Oa λ (x:{ p:Array MapEntry×Nat // Bt p.1.toList p.2 l })=>bg r (.map x.1.1 x.1.2)
def bL(l:List KV)(u:I6):Option Int:=(l.find? λ p=>p.1==u).map (·.2)
section
variable {P:Program} {t kt et:TypeId} {w0 w:World} {B:aD} {r:Nat} {l:List KV}
theorem Jj(eq:∀ u v:I6,LN P 12 kt (j3 u) (j3 v)=some (I6.beq u v))(u:I6)(w:World):∀ (es:List MapEntry) (l:List KV) (i:Nat),kvs es=Fa l ->
  (∃ v j,bL l u=some v/\(Instr.findAsking kt (j3 u) es i).run P w=.ok (some (i+j,iv v)) w/\∃ e,es[j]?=some e/\e.key=j3 u/\l[j]?=some (u,v)) \/
   (bL l u=none/\(Instr.findAsking kt (j3 u) es i).run P w=.ok none w)
 | [],[],i,_=>.inr ⟨rfl,by simp[Instr.findAsking]⟩
 | e :: es,p :: l,i,h=>by
  simp only[kvs,Fa,List.map_cons,List.cons.injEq,Prod.mk.injEq] at h;obtain⟨⟨hk,hv⟩,hr⟩:=h;have he:(Op.equal kt (j3 u) e.key).run P w=.ok (I6.beq u p.1) w:=by rw[hk]; exact yq 12 kt _ _ _ Op.maxDepth (eq u p.1) (by decide)
  have hb:I6.beq u p.1=(p.1==u):=by
   rw[I6.beq_eq]
   by_cases h:u=p.1
   ·rw[decide_eq_true h,h]; simp
   ·rw[decide_eq_false h]; symm; simpa using λ h'=>h h'.symm
  by_cases hu:p.1=u
  ·have hbt:I6.beq u p.1=true:=by rw[hb,hu]; simp
   rw[hbt] at he;refine .inl ⟨p.2,0,?_,?_,e,rfl,by rw[hk,hu],?_⟩
   ·simp[bL,hu]
   ·rw[Instr.findAsking]; simp[he,hv]
   ·obtain⟨a,b⟩:=p; simp only at hu ⊢; subst hu; rfl
  ·have hbf:I6.beq u p.1=false:=by rw[hb]; simpa using hu
   rw[hbf] at he;have hv' : bL (p :: l) u=bL l u:=by
    unfold bL;rw[List.find?_cons];have:(p.1==u)=false:=by simpa using hu
    rw[this]
   rcases Jj eq u w es l (i+1) hr with⟨v,j,h1,h2,e',h3,h4,h5⟩|⟨h1,h2⟩
   ·refine .inl ⟨v,j+1,by rw[hv',h1],?_,e',by simpa using h3,h4,by simpa using h5⟩;rw[Instr.findAsking]; simp[he,h2]; omega
   ·exact .inr ⟨by rw[hv',h1],by rw[Instr.findAsking]; simp[he,h2]⟩
 | [],_ :: _,_,h=>by simp[kvs,Fa] at h
 | _ :: _,[],_,h=>by simp[kvs,Fa] at h
theorem yE(hT:NZ P t kt et)(u:I6)(w:World){es:List MapEntry}(h:kvs es=Fa l) :
  (∃ v j,bL l u=some v/\(Instr.findKey kt (j3 u) es).run P w=.ok (some (j,iv v)) w/\∃ e,es[j]?=some e/\e.key=j3 u/\l[j]?=some (u,v))\/(bL l u=none/\(Instr.findKey kt (j3 u) es).run P w=.ok none w):=by
 obtain⟨it,hk⟩:=hT.k;have hf:(Instr.findKey kt (j3 u) es).run P w=(Instr.findAsking kt (j3 u) es).run P w:=by
  cases es with
  | nil=>simp[Instr.findKey,aC hk,Instr.findNow,Instr.findAsking]
  | cons e es=>simp[Instr.findKey,aC hk,Instr.findNow,Instr.sameNow]
 rw[hf];rcases Jj hT.eq u w es l 0 h with⟨v,j,h1,h2,h3⟩|h1
 ·exact .inl ⟨v,j,h1,by rw[h2,Nat.zero_add],h3⟩
 ·exact .inr h1
theorem DN(hT:NZ P t kt et)(s:St w0 w (star (mapA r l) B))(u:I6){R:Int->World->Prop}(h:R ((bL l u).getD 0) w) :
  aP P (Instr.lookup t (.map (some r)) (j3 u) false) w λ e w'=>∃ n:Int,e=iv n/\R n w':=by
 obtain⟨⟨⟨es,cl⟩,hok⟩,s'⟩:=s.ex;have ho:w.heap[r]?=some (.map es cl):=s'.obj;have hz:(zeroValue et).run P w=.ok (iv 0) w:=by
  have:=hT.z
  cases hi:P.info? et with
  | none=>simp[hi] at this
  | some i=>simp[hi] at this; simp[zeroValue,typeInfo,hi,this]
 have hc:=hT.ck es.isEmpty u w;rcases yE hT u w hok.kv with⟨v,j,h1,h2,_⟩|⟨h1,h2⟩
 ·refine⟨iv v,w,?_,v,rfl,by rwa [h1] at h⟩;simp[Instr.lookup,aC hT.u,ho,hc,h2,getObj,Sem.run]
 ·refine⟨iv 0,w,?_,0,rfl,by rwa [h1] at h⟩;simp[Instr.lookup,aC hT.u,ho,hc,h2,hz,getObj,Sem.run]
def j6(l:List KV)(u:I6)(v:Int):List KV:=if (bL l u).isSome then l.map λ p=>if p.1=u then (u,v) else p else l++[(u,v)]
theorem Nx{l:List KV}(hn:(l.map (·.1)).Nodup){u:I6}{v v0:Int}{j:Nat}(hj:l[j]?=some (u,v0)):l.map (λ p=>if p.1=u then (u,v) else p)=l.set j (u,v):=by
 have hlt:=(List.getElem?_eq_some_iff.1 hj).1;refine List.ext_getElem? λ i=>?_;rw[List.getElem?_map,List.getElem?_set]
 by_cases e:j=i
 ·subst e; rw[if_pos rfl,if_pos hlt,hj]; simp
 ·rw[if_neg e]
  cases hi:l[i]? with
  | none=>rfl
  | some p =>
   have hil:=(List.getElem?_eq_some_iff.1 hi).1;have hne:p.1≠u:=λ h=>by
    have h1:(l.map (·.1))[j]?=some u:=by rw[List.getElem?_map,hj]; rfl
    have h2:(l.map (·.1))[i]?=some u:=by rw[List.getElem?_map,hi]; simp[h]
    exact e ((List.getElem?_inj (by simpa using hlt) hn).1 (h1.trans h2.symm))
   simp[hne]
theorem vA{l:List KV}{u:I6}(h:bL l u=none):∀ p∈l,p.1≠u:=λ p hp e=>by
 unfold bL at h;rw[Option.map_eq_none_iff,List.find?_eq_none] at h;exact h p hp (by simpa using e)
theorem LF{l:List KV}(hn:(l.map (·.1)).Nodup){p:KV}(hp:p∈l):bL l p.1=some p.2:=by
 induction l with
 | nil=>cases hp
 | cons q l ih =>
  simp only[List.map_cons,List.nodup_cons] at hn;unfold bL;rw[List.find?_cons];rcases List.mem_cons.1 hp with rfl|h
  ·simp
  ·have hne:q.1≠p.1:=λ e=>hn.1 (by rw[e]; exact List.mem_map_of_mem h);have:(q.1==p.1)=false:=by simpa using hne
   rw[this];exact ih hn.2 h
theorem vB{l:List KV}{u:I6}{v:Int}(h:bL l u=some v):(u,v)∈l:=by
 unfold bL at h;rw[Option.map_eq_some_iff] at h;obtain⟨p,h1,h2⟩:=h;have hm:=List.mem_of_find?_eq_some h1;have hu:=List.find?_some h1;obtain⟨a,b⟩:=p;simp only[beq_iff_eq] at hu;simp only at h2;subst hu h2; exact hm
theorem LG(l:List KV)(u x:I6)(v:Int):bL (j6 l u v) x=if x=u then some v else bL l x:=by
 unfold j6
 cases hs:bL l u with
 | none =>
  have hn:=vA hs;rw[if_neg (by simp)];unfold bL;rw[List.find?_append]
  by_cases hx:x=u
  ·subst hx;have:l.find? (λ p=>p.1==x)=none:=by rw[List.find?_eq_none]; intro p hp; simpa using hn p hp
   rw[this]; simp
  ·rw[if_neg hx];have:(u==x)=false:=by simpa using λ h=>hx h.symm
   simp[this]
 | some v0 =>
  rw[if_pos (show(some v0).isSome=true from rfl)];have hm:=vB hs;clear hs;unfold bL
  by_cases hx:x=u
  ·subst hx;rw[if_pos rfl]
   induction l with
   | nil=>cases hm
   | cons q l ih =>
    rw[List.map_cons,List.find?_cons]
    by_cases hq:q.1=x
    ·simp[hq]
    ·have:(q.1==x)=false:=by simpa using hq
     simp only[if_neg hq,this];refine ih ?_;rcases List.mem_cons.1 hm with rfl|h
     ·exact absurd rfl hq
     ·exact h
  ·rw[if_neg hx];clear hm
   induction l with
   | nil=>rfl
   | cons q l ih =>
    rw[List.map_cons,List.find?_cons,List.find?_cons]
    by_cases hq:q.1=u
    ·have h1:(u==x)=false:=by simpa using λ h=>hx h.symm
     have h2:(q.1==x)=false:=by rw[hq]; exact h1
     simp only[if_pos hq,h1,h2]; exact ih
    ·simp only[if_neg hq]
     cases h:(q.1==x) with
     | true=>rfl
     | false=>exact ih
theorem IF(u:I6):Instr.sameBits 10000 (j3 u) (j3 u)=true:=by
 rw[show(10000:Nat)=9998+1+1 from rfl];simp[Instr.sameBits,I6.vs]
theorem G6(hT:NZ P t kt et)(s:St w0 w (star (mapA r l) B))(u:I6)(v:Int){R:World->Prop}(h:∀ w',St w0 w' (star (mapA r (j6 l u v)) B)->R w') :
  aP P (Instr.mapUpdate t (.map (some r)) (j3 u) (iv v)) w λ _ w'=>R w':=by
 obtain⟨⟨⟨es,cl⟩,hok⟩,s'⟩:=s.ex;have ho:w.heap[r]?=some (.map es cl):=s'.obj;have hc:=hT.ck false u w;rcases yE hT u w hok.kv with⟨v0,j,h1,h2,e0,h3,h4,h5⟩|⟨h1,h2⟩
 ·have hj:=(List.getElem?_eq_some_iff.1 h3).1;have hes:es[j]?=some e0:=by simpa using h3
  have hs:=s'.put (.map (es.modify j λ e=>{ e with key:=j3 u,val:=iv v }) cl);have hr:(Instr.mapUpdate t (.map (some r)) (j3 u) (iv v)).run P w=.ok () { w with heap:=w.heap.setIfInBounds r (.map (es.modify j λ e=>{ e with key:=j3 u,val:=iv v }) cl) }:=by
   simp[Instr.mapUpdate,aC hT.u,ho,hc,h2,hes,h4,Instr.keyThatStays,IF,setObj,getObj,Sem.run]
  suffices H:Bt (es.modify j λ e=>{ e with key:=j3 u,val:=iv v }).toList cl (j6 l u v) from
   ⟨_,_,hr,h _ (St.qx (f:=λ (x:{ p:Array MapEntry×Nat // Bt p.1.toList p.2 (j6 l u v) })=>bg r (.map x.1.1 x.1.2)) ⟨(_,_),H⟩ hs)⟩
  have esl:j6 l u v=l.set j (u,v):=by rw[j6,if_pos (by rw[h1]; rfl),Nx hok.ky h5]
  have em:(es.modify j λ e=>{ e with key:=j3 u,val:=iv v }).toList=es.toList.set j { e0 with key:=j3 u,val:=iv v }:=by
   rw[Array.toList_modify];refine List.ext_getElem? λ i=>?_;rw[List.getElem?_modify,List.getElem?_set]
   by_cases e:j=i
   ·subst e; rw[if_pos rfl,if_pos hj,h3]; simp
   ·rw[if_neg e]; cases es.toList[i]? <;> simp[e]
  rw[em,esl];have hkv:=hok.kv;refine⟨?_,?_,?_,?_⟩
  ·unfold kvs Fa at hkv ⊢;rw[List.map_set,List.map_set,hkv]
  ·rw[List.map_set];have:(es.toList.map (·.born)).set j e0.born=es.toList.map (·.born):=by
    refine List.ext_getElem? λ i=>?_;rw[List.getElem?_set]
    split
    ·rename_i e; subst e; rw[List.getElem?_map,h3,if_pos (by rw[List.length_map]; exact hj)]; rfl
    ·rfl
   show((es.toList.map (·.born)).set j e0.born).Nodup;rw[this]; exact hok.nd
  ·intro e he;rcases List.mem_or_eq_of_mem_set he with he|rfl
   ·exact hok.lt e he
   ·exact hok.lt e0 (List.mem_of_getElem? h3)
  ·rw[List.map_set];have:(l.map (·.1)).set j u=l.map (·.1):=by
    refine List.ext_getElem? λ i=>?_;rw[List.getElem?_set]
    split
    ·rename_i e; subst e;have:=(List.getElem?_eq_some_iff.1 h5).1;rw[List.getElem?_map,h5]; simp[this]
    ·rfl
   show((l.map (·.1)).set j u).Nodup;rw[this]; exact hok.ky
 ·have hs:=s'.put (.map (es.push { key:=j3 u,val:=iv v,born:=cl }) (cl+1));have hr:(Instr.mapUpdate t (.map (some r)) (j3 u) (iv v)).run P w=.ok () { w with heap:=w.heap.setIfInBounds r (.map (es.push { key:=j3 u,val:=iv v,born:=cl }) (cl+1)) }:=by
   simp[Instr.mapUpdate,aC hT.u,ho,hc,h2,setObj,getObj,Sem.run]
  suffices H:Bt (es.push { key:=j3 u,val:=iv v,born:=cl }).toList (cl+1) (j6 l u v) from
   ⟨_,_,hr,h _ (St.qx (f:=λ (x:{ p:Array MapEntry×Nat // Bt p.1.toList p.2 (j6 l u v) })=>bg r (.map x.1.1 x.1.2)) ⟨(_,_),H⟩ hs)⟩
  have esl:j6 l u v=l++[(u,v)]:=by rw[j6,if_neg (by rw[h1]; decide)]
  rw[esl];have et:(es.push { key:=j3 u,val:=iv v,born:=cl }).toList=es.toList++[{ key:=j3 u,val:=iv v,born:=cl }]:=by simp
  rw[et];refine⟨?_,?_,?_,?_⟩
  ·have:=hok.kv; unfold kvs Fa at this ⊢; rw[List.map_append,List.map_append,this]; rfl
  ·rw[List.map_append,List.nodup_append];refine⟨hok.nd,by simp,λ a ha b hb=>?_⟩;obtain⟨e,he,rfl⟩:=List.mem_map.1 ha;have:=hok.lt e he;simp at hb; omega
  ·intro e he;rcases List.mem_append.1 he with he|he
   ·have:=hok.lt e he; omega
   ·rw[List.mem_singleton.1 he]; show cl<cl+1; omega
  ·rw[List.map_append,List.nodup_append];refine⟨hok.ky,by simp,λ a ha b hb=>?_⟩;obtain⟨p,hp,rfl⟩:=List.mem_map.1 ha;have:=vA h1 p hp;simp at hb; subst hb; exact this
end
theorem qS{α:Type}[BEq α][LawfulBEq α]:∀ {l m:List α},l.Nodup->(∀ x∈l,x∈m)->l.length<=m.length
 | [],_,_,_=>Nat.zero_le _
 | x :: l,m,hd,h=>by
  rw[List.nodup_cons] at hd;have hx:=h x (by simp);have:=qS (l:=l) (m:=m.erase x) hd.2 λ y hy=>by
   refine(List.mem_erase_of_ne ?_).2 (h y (by simp[hy]));rintro rfl; exact hd.1 hy
  rw[List.length_erase_of_mem hx] at this;have:=List.length_pos_of_mem hx;simp only[List.length_cons]; omega
theorem MI{u v:I6}(h:j3 u=j3 v):u=v:=by
 cases u; cases v
 simp only[j3,I6.vs,Value.agg.injEq,Array.mk.injEq,List.cons.injEq,Value.int.injEq,true_and,and_true] at h;obtain⟨rfl,rfl,rfl,rfl,rfl,rfl⟩:=h; rfl
theorem born_inj:∀ {es:List MapEntry},(es.map (·.born)).Nodup->∀ {a b:MapEntry},a∈es->b∈es->a.born=b.born->a=b
 | e :: es,hn,a,b,ha,hb,h=>by
  rw[List.map_cons,List.nodup_cons] at hn;rcases List.mem_cons.1 ha with ea|ha'
  ·rcases List.mem_cons.1 hb with eb|hb'
   ·rw[ea,eb]
   ·exact absurd (by rw[<- ea,h]; exact List.mem_map_of_mem hb') hn.1
  ·rcases List.mem_cons.1 hb with eb|hb'
   ·exact absurd (by rw[<- eb,<- h]; exact List.mem_map_of_mem ha') hn.1
   ·exact born_inj hn.2 ha' hb' h
theorem E9{es:List MapEntry}{l:List KV}(h:kvs es=Fa l):es.length=l.length:=by
 have:=congrArg List.length h;simpa[kvs,Fa] using this
theorem Oe{es:List MapEntry}{l:List KV}(h:kvs es=Fa l){e:MapEntry}(he:e∈es):∃ p∈l,e.key=j3 p.1/\e.val=iv p.2:=by
 have h1:(e.key,e.val)∈kvs es:=List.mem_map_of_mem (f:=λ e:MapEntry=>(e.key,e.val)) he;rw[h] at h1;obtain⟨p,hp,hh⟩:=List.mem_map.1 h1;simp only[Prod.mk.injEq] at hh;exact⟨p,hp,hh.1.symm,hh.2.symm⟩
theorem Rh{es:List MapEntry}{l:List KV}(h:kvs es=Fa l){p:KV}(hp:p∈l):∃ e∈es,e.key=j3 p.1/\e.val=iv p.2:=by
 have h1:(j3 p.1,iv p.2)∈Fa l:=List.mem_map_of_mem (f:=λ p:KV=>(j3 p.1,iv p.2)) hp;rw[<- h] at h1;obtain⟨e,he,hh⟩:=List.mem_map.1 h1;simp only[Prod.mk.injEq] at hh;exact⟨e,he,hh.1,hh.2⟩
structure QM (es:List MapEntry) (seen:List Nat) (S:List KV) (vis:List MapEntry):Prop where
 sn:seen=vis.map (·.born)
 nd:seen.Nodup
 sub:∀ e∈vis,e∈es
 kv:kvs vis=Fa S
structure RV (l S:List KV) where
 es:Array MapEntry
 cl:Nat
 seen:Array Nat
 vis:List MapEntry
 ok:Bt es.toList cl l
 vk:QM es.toList seen.toList S vis
def uR(r it:Nat)(l S:List KV):aD:=Oa λ (x:RV l S)=>star (bg it (.mapIter (some r) x.cl x.seen x.cl)) (bg r (.map x.es x.cl))
section
variable {P:Program} {t kt et:TypeId} {w0 w:World} {B:aD} {r it:Nat} {l S:List KV}
theorem gZ(hT:NZ P t kt et)(s:St w0 w (star (mapA r l) B)){R:Nat->World->Prop}(k:∀ it w',St w0 w' (star (uR r it l []) B)->R it w') :
  aP P (Instr.range t (.map (some r))) w λ e w'=>∃ it:Nat,e=.pointer (some ⟨it,0,none⟩)/\R it w':=by
 obtain⟨⟨⟨es,cl⟩,hok⟩,s'⟩:=s.ex;have ho:w.heap[r]?=some (.map es cl):=s'.obj;have hr:(Instr.range t (.map (some r))).run P w=.ok (.pointer (some ⟨w.heap.size,0,none⟩)) (w.alloc (.mapIter (some r) cl #[] cl)):=by
  simp[Instr.range,aC hT.u,ho,getObj,Sem.run]
 refine⟨_,_,hr,_,rfl,k _ _ ?_⟩;have s2:=(s'.newObj (.mapIter (some r) cl #[] cl)).swap;exact St.qx (f:=λ (x:RV l [])=>star (bg w.heap.size (.mapIter (some r) x.cl x.seen x.cl)) (bg r (.map x.es x.cl))) ⟨es,cl,#[],[],hok,⟨rfl,by simp,by simp,rfl⟩⟩ (s2.eqv aT.assoc')
theorem St.uS(s:St w0 w (star (uR r it l S) B)):St w0 w (star (mapA r l) B):=by
 obtain⟨x,s'⟩:=s.ex;exact St.qx (f:=λ (x:{ p:Array MapEntry×Nat // Bt p.1.toList p.2 l })=>bg r (.map x.1.1 x.1.2)) ⟨(x.es,x.cl),x.ok⟩ (s'.assoc.second)
theorem kV{ty:TypeId}(s:St w0 w (star (uR r it l S) B)){K:World->Prop}{F:I6->Int->World->Prop}(hend:(∀ p∈l,p∈S)->K w)(hstep:∀ p∈l,S.length<l.length->∀ w',St w0 w' (star (uR r it l (S++[p])) B)->F p.1 p.2 w') :
  aP P (Instr.next (.pointer (some ⟨it,0,none⟩)) false ty) w λ e w'=>(e=.tuple #[.bool false]/\K w')\/∃ v1 v2:Value,e=.tuple #[.bool true,v1,v2] /\
   aP P (Instr.entry (.pointer (some ⟨it,0,none⟩))) w' λ e' w''=>∃ (u:I6) (n:Int),e' = .tuple #[j3 u,iv n]/\F u n w'':=by
 obtain⟨x,s'⟩:=s.ex;have hi:w.heap[it]?=some (.mapIter (some r) x.cl x.seen x.cl):=s'.assoc.obj;have hm:w.heap[r]?=some (.map x.es x.cl):=s'.assoc.zU.obj;have kvE:=x.ok.kv;have kvV:=x.vk.kv;rcases run_next_at (P:=P) w ty it r x.cl x.cl x.seen x.es x.cl hi hm x.ok.lt (Nat.le_refl _) with⟨h0,hr⟩|⟨e,he,w1,hw1,hr⟩
 ·refine⟨_,w,hr,.inl ⟨rfl,hend λ p hp=>?_⟩⟩;obtain⟨e,he,hk,hv⟩:=Rh kvE hp;have hs:e.born∈x.seen.toList:=by
   by_cases hc:e.born∈x.seen.toList
   ·exact hc
   ·have:e∈leftOf x.es x.seen:=by
     unfold leftOf;simp only[Array.mem_filter,Array.mem_toList_iff] at *;exact⟨he,by simpa using hc⟩
    rw[Array.eq_empty_of_size_eq_zero h0] at this;simp at this
  rw[x.vk.sn] at hs;obtain⟨e',he',hb⟩:=List.mem_map.1 hs;have ee:=born_inj x.ok.nd (x.vk.sub e' he') he hb;subst ee;obtain⟨q,hq,hk2,hv2⟩:=Oe kvV he';have h1:q.1=p.1:=MI (hk2.symm.trans hk);have h2:q.2=p.2:=by
   have:=hv2.symm.trans hv
   injection this
  have:q=p:=Prod.ext h1 h2;rw[<- this]; exact hq
 ·have hel:e∈x.es.toList/\e.born∉x.seen.toList:=by
   unfold leftOf at he;simp only[Array.toList_filter,List.mem_filter] at he;exact⟨he.1,by simpa using he.2⟩
  obtain⟨p,hp,hk,hv⟩:=Oe kvE hel.1;have s1:St w0 w1 (star (star (bg it (.mapIter (some r) x.cl x.seen x.cl)) (bg r (.map x.es x.cl))) B):=by
   rcases hw1 with rfl|rfl
   ·exact s'
   ·exact s'.quiet (aA.drew w [])
  have s2:St w0 (w1.putObj it (.mapIter (some r) x.cl (x.seen.push e.born) x.cl)) (star (bg it (.mapIter (some r) x.cl (x.seen.push e.born) x.cl)) (star (bg r (.map x.es x.cl)) B)):=s1.assoc.put _;have e2:ChangeMaps.setBlock w1 it (.mapIter (some r) x.cl (x.seen.push e.born) x.cl)=w1.putObj it (.mapIter (some r) x.cl (x.seen.push e.born) x.cl):=rfl;rw[e2] at hr;refine⟨_,_,hr,.inr ⟨_,_,rfl,?_⟩⟩;have he2:=run_entry_at (P:=P) _ it r x.cl x.seen x.es x.cl e s2.obj s2.zU.obj hel.1 x.ok.nd;have nd2:(x.seen.toList++[e.born]).Nodup:=by
   rw[List.nodup_append];refine⟨x.vk.nd,by simp,λ a ha b hb=>?_⟩;simp at hb; subst hb;rintro rfl; exact hel.2 ha
  have hlen:S.length<l.length:=by
   have h1:=E9 kvV;have h2:=E9 kvE;have h3:(x.seen.toList++[e.born]).length<=(x.es.toList.map (·.born)).length:=qS nd2 λ b hb=>by
    rcases List.mem_append.1 hb with hb|hb
    ·rw[x.vk.sn] at hb;obtain⟨e',he',rfl⟩:=List.mem_map.1 hb;exact List.mem_map_of_mem (x.vk.sub e' he')
    ·rw[List.mem_singleton.1 hb]; exact List.mem_map_of_mem hel.1
   rw[List.length_append,List.length_map,x.vk.sn,List.length_map,List.length_singleton] at h3;omega
  refine⟨_,_,he2,p.1,p.2,by rw[hk,hv],hstep p hp hlen _ ?_⟩;refine St.qx (f:=λ (x:RV l (S++[p]))=>star (bg it (.mapIter (some r) x.cl x.seen x.cl)) (bg r (.map x.es x.cl))) ⟨x.es,x.cl,x.seen.push e.born,x.vis++[e],x.ok,⟨?_,?_,?_,?_⟩⟩ (s2.eqv aT.assoc')
  ·have:=x.vk.sn; rw[List.map_append,<- this]; simp
  ·simpa using nd2
  ·intro y hy;rcases List.mem_append.1 hy with hy|hy
   ·exact x.vk.sub y hy
   ·rw[List.mem_singleton.1 hy]; exact hel.1
  ·have hkv:=kvV;unfold kvs Fa at hkv ⊢;rw[List.map_append,List.map_append,hkv,List.map_singleton,List.map_singleton,hk,hv]
end
end Go.Vc
namespace Go.Proofs.YtmffhopdpbikgaaGreatDoor
open Go Go.Vc _root_.Go.Proofs.Tryz
theorem Xv.ind{P:Xv->Prop}(h:∀ x,(∀ y∈x.args,P y)->P x):∀ x,P x
 | .mk op u v a c args=>h _ λ y _hy=>Xv.ind h y
 termination_by x=>SizeOf.sizeOf x
 decreasing_by
  have:y∈args:=_hy;have:=List.sizeOf_lt_of_mem this
  simp_wf; omega
mutual
def aO:Xv->Nat
 | .mk _ _ _ _ _ args=>1+(Hj args).sum
def Hj:List Xv->List Nat
 | []=>[]
 | x :: l=>aO x :: Hj l
end
mutual
def lX:Xv->Nat
 | .mk _ _ _ _ _ args=>(Ml args).foldl Nat.max 0+1
def Ml:List Xv->List Nat
 | []=>[]
 | x :: l=>lX x :: Ml l
end
theorem Em:∀ l:List Xv,Hj l=l.map aO
 | []=>rfl
 | x :: l=>by rw[Hj,Em l]; rfl
theorem Gr:∀ l:List Xv,Ml l=l.map lX
 | []=>rfl
 | x :: l=>by rw[Ml,Gr l]; rfl
theorem eN(x:Xv):aO x=1+(x.args.map aO).sum:=by cases x; rw[aO,Em]; rfl
theorem sU(x:Xv):lX x=(x.args.map lX).foldl Nat.max 0+1:=by cases x; rw[lX,Gr]; rfl
theorem CB:∀ {l:List Nat} {x:Nat},x∈l->x<=l.sum
 | y :: l,x,h=>by
  rw[List.sum_cons];rcases List.mem_cons.1 h with rfl|h
  ·omega
  ·have:=CB h; omega
theorem zA{x y:Xv}(h:y∈x.args):aO y<aO x:=by
 have:=CB (List.mem_map_of_mem (f:=aO) h);rw[eN x]; omega
theorem size_pos(x:Xv):1<=aO x:=by rw[eN]; omega
theorem xQ(x:Xv):x.args.length<aO x:=by
 rw[eN];have:∀ l:List Xv,l.length<=(l.map aO).sum:=λ l=>by
  induction l with
  | nil=>simp
  | cons y l ih=>have:=size_pos y; simp only[List.length_cons,List.map_cons,List.sum_cons]; omega
 have:=this x.args; omega
theorem th{n:Nat}:∀ {l:List Nat} {a:Nat},a<=n->(∀ x∈l,x<=n)->l.foldl Nat.max a<=n
 | [],_,h,_=>h
 | x :: l,a,h,k=>by
  rw[List.foldl_cons];exact th (Nat.max_le.2 ⟨h,k x (by simp)⟩) λ y hy=>k y (by simp[hy])
theorem JF:∀ x,lX x<=aO x:=Xv.ind λ x ih=>by
 rw[sU,eN];have:(x.args.map lX).foldl Nat.max 0<=(x.args.map aO).sum:=th (Nat.zero_le _) λ d hd=>by
  obtain⟨y,hy,rfl⟩:=List.mem_map.1 hd;exact Nat.le_trans (ih y hy) (CB (List.mem_map_of_mem hy))
 omega
theorem pR(x:Xv):x.er.args=x.args.map Xv.er:=by rw[Xv.ot]; rfl
theorem Hl:∀ x,aO x.er=aO x:=Xv.ind λ x ih=>by
 rw[eN,eN x,pR,List.map_map]
 congr 2
 exact List.map_congr_left λ y hy=>ih y hy
theorem Pa:∀ x,lX x.er=lX x:=Xv.ind λ x ih=>by
 rw[sU,sU x,pR,List.map_map]
 congr 2
 exact List.map_congr_left λ y hy=>ih y hy
mutual
def bt{S:Type}(step:S->Xv->S×Bool):Xv->S->S×Bool
 | .mk op u v a c args,s=>if (step s (.mk op u v a c args)).2 then Ey step args ((step s (.mk op u v a c args)).1,true) else ((step s (.mk op u v a c args)).1,false)
def Ey{S:Type}(step:S->Xv->S×Bool):List Xv->S×Bool->S×Bool
 | [],r=>r
 | x :: l,r=>Ey step l (if r.2 then bt step x r.1 else r)
end
def eZ{S:Type}(step:S->Xv->S×Bool)(l:List Xv)(r:S×Bool):S×Bool:=l.foldl (λ r y=>if r.2 then bt step y r.1 else r) r
theorem Ez{S:Type}(step:S->Xv->S×Bool):∀ (l:List Xv) (r:S×Bool),Ey step l r=eZ step l r
 | [],r=>by rw[Ey]; rfl
 | x :: l,r=>by rw[Ey,Ez step l]; rfl
theorem lG{S:Type}(step:S->Xv->S×Bool)(x:Xv)(s:S):bt step x s=if (step s x).2 then eZ step x.args ((step s x).1,true) else ((step s x).1,false):=by
 cases x
 rw[bt,Ez]; rfl
theorem Hz{S:Type}{step:S->Xv->S×Bool}(hs:∀ s x,step s x.er=step s x):∀ (x:Xv) (s:S),bt step x.er s=bt step x s:=Xv.ind λ x ih s=>by
 rw[lG,lG step x,hs,pR]
 congr 1
 have:∀ (l:List Xv) (r:S×Bool),(∀ y∈l,∀ s,bt step y.er s=bt step y s)->eZ step (l.map Xv.er) r=eZ step l r:=λ l=>by
  induction l with
  | nil=>intro r _; rfl
  | cons y l ih2 =>
   intro r hl;unfold eZ at ih2 ⊢;rw[List.map_cons,List.foldl_cons,List.foldl_cons,hl y (by simp)];exact ih2 _ λ z hz=>hl z (by simp[hz])
 exact this _ _ ih
section
variable {w0:World}
theorem Mm:∀ (x:Xv),aO x<=100000->∀ w,x.In w->CP 147 #[.agg x.cells.toArray] w (λ r w'=>r=iv (lX x)/\aA w w' []):=Xv.ind λ x ih hz w hx=>by
 refine Ab (u1:=x.u) ?_;unfold yB;have hl:=xQ x;refine(St.start w).one.ax x.cells.toArray λ r1 w1 s1=>⟨_,_,_,s1.ag 0 rfl 8,?_⟩;refine⟨λ n i w2 m=>∃ k:Nat,i=k/\k<=x.args.length/\m=x.args.length-k/\n=(((x.args.take k).map lX).foldl Nat.max 0:Nat)/\aA w w2 [],⟨x.args.length,0,rfl,by omega,by omega,rfl,s1.av⟩,?_⟩;rintro w2 m n i ⟨k,rfl,hk,hm,rfl,c2⟩ -
 by_cases hlt:(k:Int)<(x.args.length:Int)
 ·have hy:x.args[k]?=some (x.args[k]'(by omega)):=gE (by omega);generalize x.args[k]'(by omega)=y at hy;have hm:=List.mem_of_getElem? hy;obtain⟨q,hq,hcl⟩:=(hx.av c2).fl.at hy;refine cT (dT hlt) (ak hq ⟨by omega,by omega,_,y.u,_,_,_,_,hcl,(St.start' c2).one.ax cI.cells.toArray λ r2 w3 s3=>s3.ay 0 rfl y.cells rfl y.one λ w4 s4=>⟨_,y.u,_,_,_,_,s4.cellsIn 0 rfl,?_⟩⟩);have hsz:=zA hm;refine aj (ih y hm (by omega) w4 ((hx.av s4.av).sub y hm)) ?_;rintro v w5 ⟨rfl,c5⟩;refine⟨_,rfl,x.args.length-(k+1),by omega,k+1,aB ⟨by omega,by omega⟩,by omega,rfl,?_,(s4.quiet c5).av⟩;rw[aG hy,List.map_append,List.foldl_append];show _=((Nat.max _ (lX y):Nat):Int);generalize((x.args.take k).map lX).foldl Nat.max 0=d;have:Nat.max d (lX y)=if lX y>d then lX y else d:=by
   show max _ _=_;rw[Nat.max_def]
   split<;>split<;>omega
  rw[this]
  split<;>split<;>omega
 ·obtain rfl:k=x.args.length:=by omega
  have hd:=JF x;rw[sU] at hd;rw[List.take_length];refine cF (dF hlt) ⟨?_,c2⟩;rw[sU];generalize(x.args.map lX).foldl Nat.max 0=d at hd ⊢;rw[aB ⟨by omega,by omega⟩,Int.natCast_add]; rfl
variable {S:Type} {step:S->Xv->S×Bool} {A:S->aD} {v:Value}
theorem F0(hv:∀ (w:World) (B:aD) (s:S) (y:Xv) (R:Ending->World->Prop),St w0 w (star (A s) B)->y.In w->aO y<=100000->(∀ w',St w0 w' (star (A (step s y).1) B)->R (.returned (.bool (step s y).2)) w')->cr prog v #[.agg y.cells.toArray] w R) :
  ∀ (x:Xv),aO x<=100000->(∀ {w'},aA w0 w' []->x.In w')->∀ (w:World) (B:aD) (s:S),St w0 w (star (A s) B) ->
  CP 149 #[.agg #[v],.agg x.cells.toArray] w (λ r w'=>r=.bool (bt step x s).2/\St w0 w' (star (A (bt step x s).1) B)):=Xv.ind λ x ih hz hx w B s h=>by
 refine qu (u1:=x.u) ?_;unfold kL;have hl:=xQ x;refine(h.v8).ax #[v] λ r1 w1 s1=>s1.ax x.cells.toArray λ r2 w2 s2=>?_;let M:S->List aD:=λ s=>[A s,ai r2 x.cells.toArray 60,ai r1 #[v] 229,B];have s3:St w0 w2 (Sep (M s)):=s2.au [2,0,1,3];have opn:∀ {w' : World} {s:S},St w0 w' (Sep (M s))->St w0 w' (star (A s) B):=λ h=>(h.au [0,3]).pair;refine⟨_,s2.ag 1 rfl 0,_,x.u,_,_,_,_,s2.cellsIn 0 rfl,hv w2 _ s x _ s3 (hx s3.av) hz λ w3 s4=>⟨_,rfl,?_⟩⟩;have s4:St w0 w3 (Sep (M (step s x).1)):=s4;have ew:=lG step x s
 cases hb:(step s x).2 with
 | false =>
  rw[if_neg (by rw[hb]; decide)] at ew;exact cT rfl ⟨by rw[ew],by rw[ew]; exact opn s4⟩
 | true =>
  rw[if_pos hb] at ew;refine cF rfl ⟨_,_,_,s4.ag 1 rfl 8,?_⟩;refine⟨λ i w4 m=>∃ (k:Nat) (s' : S),i=k/\k<=x.args.length/\m=x.args.length-k/\eZ step (x.args.drop k) (s',true)=bt step x s/\St w0 w4 (Sep (M s')),⟨x.args.length,0,_,rfl,by omega,by omega,ew.symm,s4⟩,?_⟩;rintro w4 m i ⟨k,s',rfl,hk,hm,hw,s5⟩ -
  by_cases hlt:(k:Int)<(x.args.length:Int)
  ·have hk' : k<x.args.length:=by omega
   have hy:x.args[k]?=some (x.args[k]'hk'):=gE hk';rw[List.drop_eq_getElem_cons hk'] at hw;generalize x.args[k]'hk' = y at hy hw;have hm:=List.mem_of_getElem? hy;obtain⟨q,hq,hcl⟩:=(hx s5.av).fl.at hy;refine cT (dT hlt) (ak hq ⟨by omega,by omega,_,y.u,_,_,_,_,hcl,s5.ax cI.cells.toArray λ r3 w5 s6=>s6.ay 0 rfl y.cells rfl y.one λ w6 s7=>⟨_,s7.cellsIn 3 rfl,_,y.u,_,_,_,_,s7.cellsIn 0 rfl,?_⟩⟩);have s8:St w0 w6 (Sep (M s')):=s7.au [1,2,3,4];refine aj (ih y hm (by have:=zA hm; omega) (λ hc=>(hx hc).sub y hm) w6 _ s' s8) ?_;rintro r w7 ⟨rfl,s9⟩;have s9:St w0 w7 (Sep (M (bt step y s').1)):=s9;refine⟨_,rfl,?_⟩;rw[eZ,List.foldl_cons,if_pos rfl] at hw
   cases hr:(bt step y s').2 with
   | true =>
    have e2:bt step y s' = ((bt step y s').1,true):=by rw[<- hr]
    rw[e2] at hw;exact cF rfl ⟨x.args.length-(k+1),by omega,k+1,_,aB ⟨by omega,by omega⟩,by omega,rfl,hw,s9⟩
   | false =>
    have e2:bt step y s' = ((bt step y s').1,false):=by rw[<- hr]
    have e3:∀ (l:List Xv) (r:S×Bool),r.2=false->l.foldl (λ r y=>if r.2 then bt step y r.1 else r) r=r:=λ l=>by
     induction l with
     | nil=>intro r _; rfl
     | cons z l ih=>intro r hr; rw[List.foldl_cons,if_neg (by rw[hr]; decide),ih r hr]
    rw[e3 _ _ hr] at hw;exact cT rfl ⟨by rw[<- hw,hr],by rw[<- hw]; exact opn s9⟩
  ·obtain rfl:k=x.args.length:=by omega
   rw[List.drop_length] at hw;exact cF (dF hlt) ⟨by rw[<- hw]; rfl,by rw[<- hw]; exact opn s5⟩
end
section
variable {w0:World} {p:Nat} {B:aD}
theorem jV.EA{w:World}{l:List Tk}{e:Int}{B' : aD}(h:jV w0 w p l e B)(k:bG B B'):jV w0 w p l e B':=by
 obtain⟨a,c,h1,h2,s⟩:=h;exact⟨a,c,h1,h2,s.weak (bG.right (bG.right (bG.left k)))⟩
theorem jV.push{w:World}{l:List Tk}{e:Int}{A:aD}{m:List aD}(h:jV w0 w p l e (star A (star (Sep m) B))):jV w0 w p l e (star (Sep (A :: m)) B):=h.EA aT.assoc'.weak
abbrev QK (a:OA) (c:Nat) (l:List Pr) (p:Nat):Array Value:=#[.slice a l.length c,pt p]
def NY(w0:World)(p:Nat)(a:OA)(c:Nat)(l:List Pr)(f:Nat):Prop :=
 ∀ (B:aD) (σ:Sc) (w:World),σ.1.length<f->fC w0 w p σ B ->
  CP 186 #[.agg (QK a c l p)] w (λ r w'=>∃ x:Xv,x.er=(fF l f σ).1/\r=.agg x.cells.toArray/\fC w0 w' p (fF l f σ).2 (star (held x.In) B))
variable {a:OA} {c:Nat} {l:List Pr}
theorem N5{f:Nat}(H:NY w0 p a c l f){σ:Sc}{w:World}(h:fC w0 w p σ B)(hl:σ.2=0->σ.1.length<f) :
  CP 223 #[.agg (QK a c l p)] w (λ r w'=>∃ x:Xv,x.er=(fM (fF l f) σ).1/\r=.agg x.cells.toArray/\fC w0 w' p (fM (fF l f) σ).2 (star (held x.In) B)):=by
 refine gU ?_;unfold dy;refine(St.start w).one.ax (QK a c l p) λ r1 w1 s1=>s1.ax cI.cells.toArray λ r2 w2 s2=>?_;have h2:=h.add s2;refine⟨_,s2.ag 1 rfl 1,aj (zo h2) ?_⟩;rintro v w2 ⟨rfl,rfl⟩;refine⟨_,rfl,?_⟩
 by_cases he:σ.2=0
 ·have e1:fM (fF l f) σ=fF l f σ:=by rw[fM,if_neg (by simpa using he)]
  rw[e1];refine cF (by simpa using he) ⟨_,_,_,_,s2.cellsIn 1 rfl,aj (H _ σ w2 (hl he) h2) ?_⟩;rintro v w5 ⟨x,ex,rfl,h5⟩;obtain⟨B',s5,back⟩:=h5.push.out;exact⟨_,x.u,_,_,_,_,rfl,s5.ay 1 rfl x.cells rfl (Xv.one _) λ w6 s6=>⟨_,x.u,_,_,_,_,s6.cellsIn 1 rfl,x,ex,rfl,(back (m':=[held x.In,_,_,_]) s6).EA (aT.assoc.weak.trans (bG.right ((bG.left (bG.none _)).trans (aT.swap.trans (aT.unit' B)).weak)))⟩⟩
 ·have e1:fM (fF l f) σ=(cI,σ):=by rw[fM,if_pos he]
  rw[e1];obtain⟨B',s5,back⟩:=h2.out;refine cT (by simpa using he) (s5.ay 0 rfl cI.cells rfl (Xv.one _) λ w6 s6=>⟨_,z6,_,_,_,_,s6.cellsIn 0 rfl,cI,F8,rfl,?_⟩);have s7:=s6.vT (Q:=cI.In) λ w=>.mk (λ i y hy=>by simp[cI,Xv.args] at hy) (λ y hy=>by simp[cI,Xv.args] at hy);exact(back (m':=[held cI.In,_,_,_]) s7).EA (aT.assoc.weak.trans (bG.right ((bG.left (bG.none _)).trans (aT.swap.trans (aT.unit' B)).weak)))
end
section
variable {w0:World} {p:Nat} {B:aD} {a:OA} {c:Nat} {l:List Pr}
theorem N9{A C:aD}{m:List aD}:bG (star (Sep (A :: m)) C) (star A C):=aT.assoc.weak.trans (bG.right ((bG.left (bG.none _)).trans (aT.swap.trans (aT.unit' C)).weak))
def Pk(x:Xv)(tk:Tk)(r1 r2 r3 r4:Nat)(a:OA)(c:Nat)(l:List Pr)(p:Nat):List aD :=
 [ai r4 x.cells.toArray 60,SD x.a x.c x.args,held (LU x.args),ai r3 tk.cells.toArray 287,ai r2 cI.cells.toArray 60,ai r1 (QK a c l p) 265,emp]
theorem JV(hr:∀ {w'},aA w0 w' []->dx w' a l)(hc:l.length<=c)(ho:bP l):∀ f,NY w0 p a c l f
 | 0=>λ _ _ _ h _=>absurd h (Nat.not_lt_zero _)
 | f+1=>λ B σ w hlen h=>by
  have H:=JV hr hc ho f;refine fU ?_;unfold cN;refine(St.start w).one.ax (QK a c l p) λ r1 w1 s1=>s1.ax cI.cells.toArray λ r2 w2 s2=>⟨_,s2.ag 1 rfl 1,?_⟩;have h2:=h.add s2;refine aj (pZ h2) ?_;rintro v w3 ⟨rfl,c3⟩;have s3:=s2.quiet c3;generalize htk:aN σ.1 σ.2=tk at *;refine⟨_,_,_,_,rfl,s3.ax uo.cells.toArray λ r3 w4 s4=>s4.ay 0 rfl tk.cells rfl (Tk.one _) λ w5 s5=>?_⟩;let m0:List aD:=[ai r3 tk.cells.toArray 287,ai r2 cI.cells.toArray 60,ai r1 (QK a c l p) 265,emp];have h5:fC w0 w5 p σ (star (Sep m0) B):=h.add s5;have fr:∀ {w' : World} {σ' : Sc} {m:List aD},fC w0 w' p σ' (star (Sep m) B)->St w0 w' (Sep m):=λ h=>h.frame.first;refine⟨λ n w6=>n=bN tk/\fC w0 w6 p σ (star (Sep m0) B),?_,?_⟩
  ·rintro w6 _ ⟨rfl,h6⟩ -;refine⟨λ w7=>fC w0 w7 p (wP σ) (star (Sep m0) B),?_,?_⟩
   ·rintro w7 h7 -;obtain⟨B',t7,back⟩:=h7.out;refine t7.ax cI.cells.toArray λ r4 w8 s8=>s8.ay 0 rfl (Xv.mk (bN tk) z6 0 none 0 []).cells rfl (Xv.one _) λ w9 s9=>?_;have s9:St w0 w9 (Sep (ai r4 (Xv.mk (bN tk) z6 0 none 0 []).cells.toArray 60 :: (m0++[B']))):=s9
    by_cases h1:bN tk=1
    ·
     have eF:fF l (f+1) σ=(.mk 1 (aU l (wP σ)).1.1 (aU l (wP σ)).1.2 none 0 [],(aU l (wP σ)).2):=by rw[fF,htk,if_pos h1]
     have h9:fC w0 w9 p (wP σ) (star (Sep (ai r4 (Xv.mk (bN tk) z6 0 none 0 []).cells.toArray 60 :: m0)) B):=back (m':=ai r4 (Xv.mk (bN tk) z6 0 none 0 []).cells.toArray 60 :: m0) s9;refine cT (by simpa using h1) ⟨_,_,_,_,s9.cellsIn 3 rfl,aj (Ec h9 hr hc ho) ?_⟩;rintro v w10 ⟨rfl,h10⟩;obtain⟨B2,s10,back2⟩:=h10.out;let x:Xv:=.mk (bN tk) (aU l (wP σ)).1.1 (aU l (wP σ)).1.2 none 0 [];refine⟨_,_,rfl,s10.j7 0 1 rfl (Xv.mk (bN tk) (aU l (wP σ)).1.1 0 none 0 []).cells.toArray (show 7<=9 by decide) (I6.one _) rfl λ w11 s11=>s11.aJ 0 rfl (j:=7) (show 7<9 by decide) rfl λ w12 s12=>?_⟩;refine⟨_,x.u,_,_,_,_,s12.cellsIn 0 rfl,s12.ay 2 rfl x.cells rfl (Xv.one _) λ w13 s13=>⟨_,x.u,_,_,_,_,s13.cellsIn 2 rfl,x,?_,rfl,?_⟩⟩
     ·rw[eF,Xv.ot];show Xv.mk (bN tk) _ _ none 0 []=Xv.mk 1 _ _ none 0 [];rw[h1]; rfl
     ·rw[eF];have s14:=s13.vT (Q:=x.In) λ w=>.mk (λ i y hy=>by simp[x,Xv.args] at hy) (λ y hy=>by simp[x,Xv.args] at hy);exact(back2 (m':=[held x.In,_,_,_,_,_]) s14).EA N9
    ·
     have eF:fF l (f+1) σ=JQ l (fF l f) (bN tk) (fM (fF l f) (zS σ)).1 (fM (fF l f) (zS σ)).2:=by rw[fF,htk,if_neg h1]
     have h1' : bN (aN σ.1 σ.2)≠1:=by rw[htk]; exact h1
     let x0:Xv:=.mk (bN tk) z6 0 none 0 [];have t9:St w0 w9 (Sep (Pk x0 tk r1 r2 r3 r4 a c l p++[B'])):=(St.vT (l:=[_,_,_,_,_,_,_]) (s9.cv (e:=60) (sz:=9) (f:=Xv.cells)) (Q:=LU []) (λ w=>by simp[LU])).au [2,1,0,3,4,5,6,7];let F:Xv->aD:=λ x=>star (Sep (Pk x tk r1 r2 r3 r4 a c l p)) B;have h9:fC w0 w9 p (wP σ) (F x0):=back (m':=Pk x0 tk r1 r2 r3 r4 a c l p) t9;have frF:∀ {w' : World} {σ' : Sc} {x:Xv},fC w0 w' p σ' (F x)->St w0 w' (Sep (Pk x tk r1 r2 r3 r4 a c l p)):=λ h=>h.frame.first;have app:∀ {w' : World} {σ' : Sc} {x y:Xv} {R:World->Prop},x.args.length<=5000->fC w0 w' p σ' (star (held y.In) (F x)) ->
       (∀ a8 c8 w19,fC w0 w19 p σ' (F (.mk x.op x.u x.v a8 c8 (x.args++[y])))->R w19) ->
       w'.cell? ⟨r4,8,none⟩=some (.slice x.a x.args.length x.c)/\an w' (.cells (iv y.op :: (y.u.on [iv y.v,.slice y.a y.args.length y.c]):List Value).toArray 60) λ r5 w17=>w17.cell? ⟨r4,8,none⟩=some (.slice x.a x.args.length x.c) /\
        aP prog (Builtin.append_ #[58,58] 58 #[.slice x.a x.args.length x.c,.slice (some ⟨r5,0,none⟩) 1 1]) w17 λ e6 w18=>∃ (a8:OA) (l8 c8:Nat),e6=.slice a8 l8 c8/\aM w18 ⟨r4,8,none⟩ (.slice a8 l8 c8) R:=by
      intro w' σ' x y R hxl hA k;obtain⟨B2,t,bk⟩:=hA.push.out;refine⟨t.ag 1 rfl 8,t.ax y.cells.toArray λ r5 w17 t17=>⟨t17.ag 2 rfl 8,?_⟩⟩;have hy1:cW 9 Xv.cells w17 (some ⟨r5,0,none⟩) [y]:=λ i z hz=>by
       obtain⟨rfl,rfl⟩:i=0/\z=y:=by
        cases i with
        | zero=>simp at hz; exact⟨rfl,hz.symm⟩
        | succ i=>simp at hz
       exact⟨_,_,rfl,by rw[Nat.zero_mul,p8]; exact t17.cellsIn 0 rfl,rfl,rfl⟩
      refine dD Sl Xv.len Xv.one (t17.out 3 rfl) (a2:=some ⟨r5,0,none⟩) (c2:=1) (l2:=[y]) hy1 (by simp; omega) (by simp; omega) λ a8 c8 w18 t18=>?_;have t19:=t18.back (show 3<10 by decide);refine t19.aJ 2 rfl (j:=8) (show 8<9 by decide) rfl λ w19 t20=>k a8 c8 w19 ?_;have t21:=(t20.au [1,4,2,3,5,6,7,8,9]).qQ (aZ _) (aZ _) λ w h1 h2=>(show LU (x.args++[y]) w from λ z hz=>(List.mem_append.1 hz).elim (h2 z) λ e=>by rw[List.mem_singleton.1 e]; exact h1);exact bk (m':=Pk (.mk x.op x.u x.v a8 c8 (x.args++[y])) tk r1 r2 r3 r4 a c l p) (t21.au [1,2,0,3,4,5,6,7])
     refine cF (by simpa using h1) ⟨_,(frF h9).ag 5 rfl 1,aj (xH h9) ?_⟩;rintro v w14 ⟨rfl,h14⟩;have h14:fC w0 w14 p (wP σ).next (F x0):=h14;refine⟨_,_,_,_,rfl,_,(frF h14).ag 5 rfl 1,aj (dR h14 [40]) ?_⟩;rintro v w15 ⟨rfl,h15⟩;have h15:fC w0 w15.drew p (zS σ) (F x0):=h15.quiet (aA.drew w15 []);have h4000:(zS σ).1.length<=4000:=by obtain⟨_,_,_,h2,_⟩:=h15; exact h2
     refine⟨rfl,_,_,_,(frF h15).ag 0 rfl 8,_,_,_,_,(frF h15).cellsIn 5 rfl,aj (N5 H h15 λ he=>by have:=JN h1' he; omega) ?_⟩;rintro v w16 ⟨y,ey,rfl,h16⟩;have l3:(fM (fF l f) (zS σ)).2.1.length<=(zS σ).1.length:=xu (BR l f) _;generalize fM (fF l f) (zS σ)=A1 at eF ey h16 l3;refine⟨_,y.u,_,_,_,_,rfl,app (x:=x0) (by show 0<=5000; omega) h16 λ a8 c8 w19 h19=>?_⟩;have h19:fC w0 w19 p A1.2 (F (.mk (bN tk) z6 0 a8 c8 [y])):=h19;refine⟨λ w20=>∃ (x:Xv) (τ:Sc),x.er=(fF l (f+1) σ).1/\τ.exp [41]=(fF l (f+1) σ).2/\fC w0 w20 p τ (F x),?_,?_⟩
     ·rintro w20 ⟨x,τ,ex,et,h20⟩ -;refine⟨_,(frF h20).ag 5 rfl 1,aj (dR h20 [41]) ?_⟩;rintro v w21 ⟨rfl,h21⟩;have h21:fC w0 w21 p (τ.exp [41]) (F x):=h21;rw[et] at h21;obtain⟨B2,t,bk⟩:=h21.out;refine⟨rfl,_,x.u,_,_,_,_,t.cellsIn 0 rfl,t.ay 4 rfl x.cells rfl (Xv.one _) λ w22 t22=>⟨_,x.u,_,_,_,_,t22.cellsIn 4 rfl,x,ex,rfl,?_⟩⟩;have t23:=(t22.au [1,2,0,3,4,5,6,7]).qQ (bD Xv.len) (aZ _) λ w h1 h2=>(Xv.In.mk h1 h2:x.In w);exact(bk (m':=[held x.In,_,_,_,_,_]) t23).EA N9
     refine⟨λ b w23=>b=decide (bN tk=2\/bN tk=3)/\fC w0 w23 p A1.2 (F (.mk (bN tk) z6 0 a8 c8 [y])),?_,?_⟩
     ·rintro w23 _ ⟨rfl,h23⟩ -
      by_cases g23:bN tk=2\/bN tk=3
      ·have eR:fF l (f+1) σ=(.mk (bN tk) z6 0 none 0 (fN (fF l f) A1.2.1.length [A1.1] A1.2).1,(fN (fF l f) A1.2.1.length [A1.1] A1.2).2.exp [41]):=by rw[eF,JQ,if_pos g23]
       refine cT (dT g23) ⟨λ w24 m=>∃ (n:Nat) (acc:List Xv) (a' : OA) (c' : Nat) (σ' : Sc),m=σ'.1.length/\σ'.1.length<=n/\acc.length+σ'.1.length<=4001/\σ'.1.length<=(zS σ).1.length/\fN (fF l f) n (acc.map Xv.er) σ' = fN (fF l f) A1.2.1.length [A1.1] A1.2/\fC w0 w24 p σ' (F (.mk (bN tk) z6 0 a' c' acc)),⟨_,A1.2.1.length,[y],a8,c8,A1.2,rfl,Nat.le_refl _,by simp; omega,l3,by rw[List.map_singleton,ey],h23⟩,?_⟩;rintro w24 m ⟨n,acc,a',c',σ',rfl,hn,hac,hl',he,h24⟩ -;refine⟨_,(frF h24).ag 5 rfl 1,aj (pY h24 [44]) ?_⟩;rintro v w25 ⟨rfl,h25⟩;have h25:fC w0 w25 p (σ'.acc [44]) (F (.mk (bN tk) z6 0 a' c' acc)):=h25;refine⟨_,rfl,?_⟩
       cases hb:nh [44] σ'.1 σ'.2 with
       | true =>
        have hlen':=Bu hb;obtain⟨n,rfl⟩:∃ k,n=k+1:=⟨n-1,by omega⟩;rw[fN,if_pos hb] at he;have h26:=h25.quiet (aA.drew w25 []);have QH:=E4 σ;refine cT rfl ⟨_,_,_,(frF h26).ag 0 rfl 8,_,_,_,_,(frF h26).cellsIn 5 rfl,aj (N5 H h26 λ _=>by omega) ?_⟩;rintro v w26 ⟨z,ez,rfl,h27⟩;have l4:(fM (fF l f) (σ'.acc [44])).2.1.length<=(σ'.acc [44]).1.length:=xu (BR l f) _;refine⟨_,z.u,_,_,_,_,rfl,app (x:=.mk (bN tk) z6 0 a' c' acc) (by show acc.length<=5000; omega) h27 λ a9 c9 w29 h29=>⟨_,?_,n,acc++[z],a9,c9,_,rfl,?_,?_,?_,?_,h29⟩⟩
        ·omega
        ·omega
        ·rw[List.length_append,List.length_singleton]; omega
        ·omega
        ·rw[List.map_append,List.map_singleton,ez]; exact he
       | false =>
        have ea:=EN hb;rw[ea] at h25;have ef:fN (fF l f) n (acc.map Xv.er) σ' = (acc.map Xv.er,σ'):=by
         cases n with
         | zero=>rfl
         | succ n=>rw[fN,if_neg (by rw[hb]; decide)]
        rw[ef] at he;refine cF rfl ⟨_,σ',?_,?_,h25⟩
        ·rw[eR,<- he,Xv.ot]; rfl
        ·rw[eR,<- he]
      ·refine cF (dF g23) ?_
       by_cases g4:bN tk=4
       ·have eR:fF l (f+1) σ=(.mk (bN tk) (aU l (A1.2.exp [44])).1.1 (aU l (A1.2.exp [44])).1.2 none 0 [A1.1],(aU l (A1.2.exp [44])).2.exp [41]):=by rw[eF,JQ,if_neg g23,if_pos g4]
        refine cT (by simpa using g4) ⟨_,(frF h23).ag 5 rfl 1,aj (dR h23 [44]) ?_⟩;rintro v w30 ⟨rfl,h30⟩;have h30:fC w0 w30 p (A1.2.exp [44]) (F (.mk (bN tk) z6 0 a8 c8 [y])):=h30;refine⟨rfl,_,_,_,_,(frF h30).cellsIn 5 rfl,aj (Ec h30 hr hc ho) ?_⟩;rintro v w31 ⟨rfl,h31⟩;obtain⟨B2,t,bk⟩:=h31.out;refine⟨_,_,rfl,t.j7 0 1 rfl (Xv.mk (bN tk) (aU l (A1.2.exp [44])).1.1 0 a8 c8 [y]).cells.toArray (show 7<=9 by decide) (I6.one _) rfl λ w32 t32=>t32.aJ 0 rfl (j:=7) (show 7<9 by decide) rfl λ w33 t33=>⟨.mk (bN tk) (aU l (A1.2.exp [44])).1.1 (aU l (A1.2.exp [44])).1.2 a8 c8 [y],(aU l (A1.2.exp [44])).2,?_,by rw[eR],bk (m':=Pk (.mk (bN tk) (aU l (A1.2.exp [44])).1.1 (aU l (A1.2.exp [44])).1.2 a8 c8 [y]) tk r1 r2 r3 r4 a c l p) t33⟩⟩;rw[eR,Xv.ot,<- ey]; rfl
       ·refine cF (by simpa using g4) ?_
        by_cases g5:bN tk=5
        ·have eR:fF l (f+1) σ=(.mk (bN tk) z6 (uv 1000000 (A1.2.exp [44]).1 (A1.2.exp [44]).2) none 0 [A1.1],((A1.2.exp [44]).qG 1000000).exp [41]):=by rw[eF,JQ,if_neg g23,if_neg g4,if_pos g5]
         refine cT (by simpa using g5) ⟨_,(frF h23).ag 5 rfl 1,aj (dR h23 [44]) ?_⟩;rintro v w34 ⟨rfl,h34⟩;have h34:fC w0 w34 p (A1.2.exp [44]) (F (.mk (bN tk) z6 0 a8 c8 [y])):=h34;refine⟨rfl,_,(frF h34).ag 5 rfl 1,aj (vo h34 1000000) ?_⟩;rintro v w35 ⟨rfl,h35⟩;obtain⟨B2,t,bk⟩:=h35.out;refine⟨_,rfl,t.aJ 0 rfl (j:=7) (show 7<9 by decide) rfl λ w36 t36=>⟨.mk (bN tk) z6 (uv 1000000 (A1.2.exp [44]).1 (A1.2.exp [44]).2) a8 c8 [y],(A1.2.exp [44]).qG 1000000,?_,by rw[eR],bk (m':=Pk (.mk (bN tk) z6 (uv 1000000 (A1.2.exp [44]).1 (A1.2.exp [44]).2) a8 c8 [y]) tk r1 r2 r3 r4 a c l p) t36⟩⟩;rw[eR,Xv.ot,<- ey]; rfl
        ·have eR:fF l (f+1) σ=(.mk (bN tk) z6 0 none 0 [A1.1],A1.2.exp [41]):=by rw[eF,JQ,if_neg g23,if_neg g4,if_neg g5]
         refine cF (by simpa using g5) ⟨_,A1.2,?_,by rw[eR],h23⟩;rw[eR,Xv.ot,<- ey]; rfl
     ·by_cases g2:bN tk=2
      ·exact cT (by simpa using g2) ⟨by rw[dT (Or.inl g2)]; simpa using g2,h19⟩
      ·refine cF (by simpa using g2) ⟨?_,h19⟩
       by_cases g3:bN tk=3
       ·rw[dT (Or.inr g3)]; simpa using g3
       ·rw[dF (by rintro(h|h); exact g2 h; exact g3 h)]; simpa using g3
   ·by_cases h0:bN tk=0
    ·refine cT (by simpa using h0) ⟨_,(fr h6).ag 2 rfl 1,aj (gX h6 2) ?_⟩;rintro v w37 ⟨rfl,h37⟩;exact⟨rfl,by rw[wP,htk,if_pos h0]; exact h37⟩
    ·exact cF (by simpa using h0) (by rw[wP,htk,if_neg h0]; exact h6)
  ·refine⟨_,s5.ag 0 rfl 0,?_⟩
   by_cases hk:tk.k=1
   ·refine cT (by simpa using hk) ⟨_,s5.ag 0 rfl 1,aj (PV w5 tk.t) ?_⟩;rintro v w38 ⟨rfl,c38⟩;exact⟨_,rfl,by rw[bN,if_pos hk],h5.quiet c38⟩
   ·exact cF (by simpa using hk) ⟨by rw[bN,if_neg hk],h5⟩
end
theorem F5(s:Nat):IntKind.i64.wrap (IntKind.i64.wrap s+1)=IntKind.i64.wrap ((s+1:Nat):Int):=by
 simp only[IntKind.wrap,IntKind.signed,IntKind.bits]
 simp
 omega
def fm(x:Xv):Bool :=
 if x.op=1 then x.args.length==0
 else if x.op=2\/x.op=3 then decide (1<=x.args.length)&&(decide (x.args.length<=8)&&(decide (x.u=z6)&&x.v==0))
 else if x.op=4 then x.args.length==1
 else if x.op=5 then x.args.length==1&&decide (x.u=z6)
 else false
def gu(x:Xv):Bool :=
 if x.op=2\/x.op=3 then true else if x.v<1\/x.v>1000000 then false
 else if x.op=5 then true else x.u.l.all j8&&decide (tot x.u>0)
theorem Pv(w:World)(x:Xv):CP 152 #[.agg x.cells.toArray] w (λ r w'=>r=.bool (fm x)/\aA w w' []):=by
 refine BX (u1:=x.u) ?_;unfold AJ;refine(St.start w).one.ax x.cells.toArray λ r1 w1 s1=>⟨_,_,_,s1.ag 0 rfl 8,_,s1.ag 0 rfl 0,?_⟩;have beq0:∀ n m:Nat,(((n:Nat):Int)==(m:Int))=(n==m):=λ n m=>by
  by_cases h:n=m
  ·subst h; simp
  ·rw[beq_eq_false_iff_ne.2 h,beq_eq_false_iff_ne.2 (show(n:Int)≠m by omega)]
 by_cases h1:x.op=1
 ·exact cT (by simpa using h1) ⟨by rw[fm,if_pos h1,<- beq0]; rfl,s1.av⟩
 refine cF (by simpa using h1) ⟨λ b w2=>b=decide (x.op=2\/x.op=3)/\w2=w1,?_,?_⟩
 ·rintro w2 _ ⟨rfl,rfl⟩ -
  by_cases h2:x.op=2\/x.op=3
  ·have e1:fm x=(decide (1<=x.args.length)&&(decide (x.args.length<=8)&&(decide (x.u=z6)&&x.v==0))):=by rw[fm,if_neg h1,if_pos h2]
   refine cT (dT h2) ?_
   by_cases g1:1<=x.args.length
   ·rw[dT g1,Bool.true_and] at e1;refine cT (dT (by omega)) ?_
    by_cases g2:x.args.length<=8
    ·rw[dT g2,Bool.true_and] at e1;refine cT (dT (by omega)) ⟨x.u,s1.aF 0 1 rfl rfl,?_⟩;rw[I6.beq_eq]
     by_cases g3:x.u=z6
     ·rw[dT g3,Bool.true_and] at e1;exact cT (dT g3) ⟨_,s1.ag 0 rfl 7,by rw[e1],s1.av⟩
     ·rw[dF g3] at e1;exact cF (dF g3) ⟨by rw[e1]; rfl,s1.av⟩
    ·rw[dF g2] at e1;exact cF (dF (by omega)) ⟨by rw[e1]; rfl,s1.av⟩
   ·rw[dF g1] at e1;exact cF (dF (by omega)) ⟨by rw[e1]; rfl,s1.av⟩
  ·refine cF (dF h2) ?_
   by_cases h4:x.op=4
   ·exact cT (by simpa using h4) ⟨by rw[fm,if_neg h1,if_neg h2,if_pos h4,<- beq0]; rfl,s1.av⟩
   refine cF (by simpa using h4) ?_
   by_cases h5:x.op=5
   ·have e1:fm x=(x.args.length==1&&decide (x.u=z6)):=by rw[fm,if_neg h1,if_neg h2,if_neg h4,if_pos h5]
    refine cT (by simpa using h5) ?_
    by_cases g1:x.args.length=1
    ·refine cT (beq_iff_eq.2 (by omega)) ⟨x.u,s1.aF 0 1 rfl rfl,?_,s1.av⟩;rw[e1,g1,I6.beq_eq]; rfl
    ·refine cF (beq_eq_false_iff_ne.2 (by omega)) ⟨?_,s1.av⟩;rw[e1,beq_eq_false_iff_ne.2 g1]; rfl
   ·exact cF (by simpa using h5) ⟨by rw[fm,if_neg h1,if_neg h2,if_neg h4,if_neg h5],s1.av⟩
 ·by_cases g2:x.op=2
  ·exact cT (by simpa using g2) ⟨by rw[dT (Or.inl g2)]; simpa using g2,rfl⟩
  ·refine cF (by simpa using g2) ⟨?_,rfl⟩
   by_cases g3:x.op=3
   ·rw[dT (Or.inr g3)]; simpa using g3
   ·rw[dF (by rintro(h|h); exact g2 h; exact g3 h)]; simpa using g3
theorem KN(w:World)(x:Xv):CP 153 #[.agg x.cells.toArray] w (λ r w'=>r=.bool (gu x)/\aA w w' []):=by
 refine yD (u1:=x.u) ?_;unfold vR;refine(St.start w).one.ax x.cells.toArray λ r1 w1 s1=>⟨_,s1.ag 0 rfl 0,?_⟩;refine⟨λ b w2=>b=decide (x.op=2\/x.op=3)/\w2=w1,?_,?_⟩
 ·rintro w2 _ ⟨rfl,rfl⟩ -
  by_cases h2:x.op=2\/x.op=3
  ·exact cT (dT h2) ⟨by rw[gu,if_pos h2],s1.av⟩
  refine cF (dF h2) ⟨λ b w3=>b=decide (x.v<1\/x.v>1000000)/\w3=w2,?_,_,s1.ag 0 rfl 7,?_⟩
  ·rintro w3 _ ⟨rfl,rfl⟩ -
   by_cases h3:x.v<1\/x.v>1000000
   ·exact cT (dT h3) ⟨by rw[gu,if_neg h2,if_pos h3],s1.av⟩
   refine cF (dF h3) ⟨_,s1.ag 0 rfl 0,?_⟩
   by_cases h5:x.op=5
   ·exact cT (by simpa using h5) ⟨by rw[gu,if_neg h2,if_neg h3,if_pos h5],s1.av⟩
   have e1:gu x=(x.u.l.all j8&&decide (tot x.u>0)):=by rw[gu,if_neg h2,if_neg h3,if_neg h5]
   refine cF (by simpa using h5) ⟨x.u,s1.aF 0 1 rfl rfl,aj (bR _ x.u) ?_⟩;rintro v w4 ⟨rfl,c4⟩;have s4:=s1.quiet c4;refine⟨_,rfl,?_⟩
   cases hq:x.u.l.all j8 with
   | false=>exact cF rfl ⟨by rw[e1,hq]; rfl,s4.av⟩
   | true =>
    refine cT rfl ⟨x.u,s4.aF 0 1 rfl rfl,aj (NS _ x.u (sD (It hq) (by omega))) ?_⟩;rintro v w5 ⟨rfl,c5⟩;exact⟨_,rfl,by rw[e1,hq,Bool.true_and],(s4.quiet c5).av⟩
  ·by_cases g1:x.v<1
   ·exact cT (dT g1) ⟨by rw[dT (Or.inl g1)],rfl⟩
   ·refine cF (dF g1) ⟨_,s1.ag 0 rfl 7,?_,rfl⟩
    by_cases g2:x.v>1000000
    ·rw[dT g2,dT (Or.inr g2)]
    ·rw[dF g2,dF (by rintro(h|h); exact g1 h; exact g2 h)]
 ·by_cases g2:x.op=2
  ·exact cT (by simpa using g2) ⟨by rw[dT (Or.inl g2)]; simpa using g2,rfl⟩
  ·refine cF (by simpa using g2) ⟨?_,rfl⟩
   by_cases g3:x.op=3
   ·rw[dT (Or.inr g3)]; simpa using g3
   ·rw[dF (by rintro(h|h); exact g2 h; exact g3 h)]; simpa using g3
def HL(n:Nat)(_:Xv):Nat×Bool:=(n+1,true)
theorem O6:∀ (x:Xv) (n:Nat),bt HL x n=(n+aO x,true):=Xv.ind λ x ih n=>by
 rw[lG,if_pos (show(HL n x).2=true from rfl),eN];have:∀ (l:List Xv) (m:Nat),(∀ y∈l,∀ n,bt HL y n=(n+aO y,true))->eZ HL l (m,true)=(m+(l.map aO).sum,true):=λ l=>by
  induction l with
  | nil=>intro m _; rfl
  | cons y l ih2 =>
   intro m hl;unfold eZ at ih2 ⊢;rw[List.foldl_cons,if_pos rfl,hl y (by simp),ih2 _ λ z hz=>hl z (by simp[hz])];rw[List.map_cons,List.sum_cons,Nat.add_assoc]
 show eZ HL x.args (n+1,true)=_;rw[this _ _ ih]; congr 1; omega
theorem Qm{w:World}{x:Xv}(hz:aO x<=100000)(hx:x.In w):CP 150 #[.agg x.cells.toArray] w (λ r w'=>r=iv (aO x)/\aA w w' []):=by
 refine BW (u1:=x.u) ?_;unfold AI;refine(St.start w).one.ax x.cells.toArray λ r1 w1 s1=>s1.ax #[iv 0] λ r2 w2 s2=>s2.aJ 0 rfl (j:=0) (show 0<1 by decide) rfl λ w3 s3=>s3.ax #[.nilFunc] λ r3 w4 s4=>s4.aJ 0 rfl (j:=0) (show 0<1 by decide) rfl λ w5 s5=>?_;refine⟨_,s5.cellsIn 0 rfl,_,x.u,_,_,_,_,s5.cellsIn 2 rfl,?_⟩;have hv:∀ (w9:World) (B:aD) (s:Nat) (y:Xv) (R:Ending->World->Prop),St w w9 (star (ai r2 #[iv (IntKind.i64.wrap s)] 3) B)->y.In w9->aO y<=100000->(∀ w',St w w' (star (ai r2 #[iv (IntKind.i64.wrap ((s+1:Nat):Int))] 3) B)->R (.returned (.bool true)) w')->cr prog (.func (.func 200) #[] #[pt r2]) #[.agg y.cells.toArray] w9 R:=by
  intro w9 B s y R h hy hys k;refine bn (by kernel_rfl) (aj (K:=λ r w'=>r=.bool true/\St w w' (star (ai r2 #[iv (IntKind.i64.wrap ((s+1:Nat):Int))] 3) B)) (yC (u1:=y.u) ?_) ?_)
  ·unfold vQ;refine(h.v8).ax y.cells.toArray λ r4 w6 s6=>⟨_,s6.ag 1 rfl 0,s6.aJ 1 rfl (j:=0) (show 0<1 by decide) rfl λ w7 s7=>⟨rfl,?_⟩⟩;have e:IntKind.i64.wrap (IntKind.i64.wrap s+1)=IntKind.i64.wrap ((s+1:Nat):Int):=F5 s;have s8:=(s7.au [1,2]).pair;rw[<- e]; exact s8
  ·rintro r w' ⟨rfl,h'⟩; exact k w' h'
 refine aj (F0 (w0:=w) (step:=HL) (A:=λ n=>ai r2 #[iv (IntKind.i64.wrap (n:Int))] 3) hv x hz (λ hc=>hx.av hc) w5 emp 0 (s5.au [1])) ?_;rintro r w6 ⟨rfl,s6⟩;rw[O6] at s6;refine⟨_,rfl,_,s6.boxed 0,?_,s6.av⟩;rw[Nat.zero_add,aB ⟨by omega,by omega⟩]
def ug(_:Unit)(x:Xv):Unit×Bool:=((),decide (x.args.length<=8))
def oJ(e:Int)(x:Xv):Int:=if fm x then (if gu x then e else 4) else 2
def cZ(e:Int)(x:Xv):Int×Bool:=(oJ e x,oJ e x==0)
def dH(x:Xv):Int:=if 6<lX x then 9 else if (bt ug x ()).2=false\/40<aO x then 3 else (bt cZ x 0).1
theorem NW(s:Unit)(x:Xv):ug s x.er=ug s x:=by
 unfold ug;rw[pR,List.length_map]
theorem My(x:Xv):fm x.er=fm x:=by
 unfold fm;rw[pR,List.length_map,Xv.ot]; rfl
theorem Ng(x:Xv):gu x.er=gu x:=by
 unfold gu;rw[Xv.ot]; rfl
theorem PO(e:Int)(x:Xv):cZ e x.er=cZ e x:=by unfold cZ oJ; rw[My,Ng]
theorem yh(x:Xv):dH x.er=dH x:=by
 unfold dH;rw[Pa,Hl,Hz NW,Hz PO]
theorem EB{w:World}{x:Xv}(hz:aO x<=100000)(hx:x.In w):CP 104 #[.agg x.cells.toArray] w (λ r w'=>r=iv (dH x)/\aA w w' []):=by
 refine Aa (u1:=x.u) ?_;unfold yA;have hd:=JF x;refine(St.start w).one.ax x.cells.toArray λ r1 w1 s1=>⟨_,x.u,_,_,_,_,s1.cellsIn 0 rfl,aj (Mm x hz w1 (hx.av s1.av)) ?_⟩;rintro v w2 ⟨rfl,c2⟩;have s2:=s1.quiet c2;refine⟨_,rfl,?_⟩
 by_cases h6:6<lX x
 ·exact cT (dT (by omega)) ⟨by rw[dH,if_pos h6],s2.av⟩
 refine cF (dF (by omega)) (s2.ax #[.nilFunc] λ r2 w3 s3=>s3.aJ 0 rfl (j:=0) (show 0<1 by decide) rfl λ w4 s4=>?_);refine⟨λ b w5=>b=decide ((bt ug x ()).2=false\/40<aO x)/\St w w5 (Sep [ai r1 x.cells.toArray 60]),?_,_,s4.cellsIn 0 rfl,_,x.u,_,_,_,_,s4.cellsIn 1 rfl,?_⟩
 ·rintro w5 _ ⟨rfl,s5⟩ -
  by_cases g:(bt ug x ()).2=false\/40<aO x
  ·exact cT (dT g) ⟨by rw[dH,if_neg h6,if_pos g],s5.av⟩
  refine cF (dF g) (s5.ax #[iv 0] λ r3 w6 s6=>s6.aJ 0 rfl (j:=0) (show 0<1 by decide) rfl λ w7 s7=>s7.ax #[.nilFunc] λ r4 w8 s8=>s8.aJ 0 rfl (j:=0) (show 0<1 by decide) rfl λ w9 s9=>⟨_,s9.cellsIn 0 rfl,_,x.u,_,_,_,_,s9.cellsIn 2 rfl,?_⟩);have hv:∀ (w9:World) (B:aD) (s:Int) (y:Xv) (R:Ending->World->Prop),St w w9 (star (ai r3 #[iv s] 31) B)->y.In w9->aO y<=100000->(∀ w',St w w' (star (ai r3 #[iv (cZ s y).1] 31) B)->R (.returned (.bool (cZ s y).2)) w')->cr prog (.func (.func 151) #[] #[pt r3]) #[.agg y.cells.toArray] w9 R:=by
   intro w9 B s y R h hy hys k;refine bn (by kernel_rfl) (aj (K:=λ r w'=>r=.bool (oJ s y==0)/\St w w' (star (ai r3 #[iv (oJ s y)] 31) B)) (wS (u1:=y.u) ?_) ?_)
   ·unfold sZ;refine(h.v8).ax y.cells.toArray λ r5 w10 t=>⟨λ w2=>St w w2 (Sep [ai r5 y.cells.toArray 60,ai r3 #[iv (oJ s y)] 31,B]),?_,_,y.u,_,_,_,_,t.cellsIn 0 rfl,aj (Pv w10 y) ?_⟩
    ·rintro w2 t2 -;exact⟨_,t2.ag 1 rfl 0,rfl,(t2.au [1,2]).pair⟩
    rintro v w11 ⟨rfl,c11⟩;have t1:=t.quiet c11;refine⟨_,rfl,?_⟩
    cases hf:fm y with
    | false =>
     have e:oJ s y=2:=by rw[oJ,hf]; rfl
     exact cT rfl (t1.aJ 1 rfl (j:=0) (show 0<1 by decide) rfl λ w12 t2=>by rw[e]; exact t2)
    | true =>
     refine cF rfl ⟨_,y.u,_,_,_,_,t1.cellsIn 0 rfl,aj (KN w11 y) ?_⟩;rintro v w12 ⟨rfl,c12⟩;have t2:=t1.quiet c12;refine⟨_,rfl,?_⟩
     cases hg:gu y with
     | false =>
      have e:oJ s y=4:=by rw[oJ,hf,hg]; rfl
      exact cT rfl (t2.aJ 1 rfl (j:=0) (show 0<1 by decide) rfl λ w12 t3=>by rw[e]; exact t3)
     | true =>
      have e:oJ s y=s:=by rw[oJ,hf,hg]; rfl
      exact cF rfl (by rw[e]; exact t2)
   ·rintro r w' ⟨rfl,h'⟩; exact k w' h'
  refine aj (F0 (w0:=w) (step:=cZ) (A:=λ e=>ai r3 #[iv e] 31) hv x hz (λ hc=>hx.av hc) w9 emp 0 (s9.au [1])) ?_;rintro r w10 ⟨rfl,s10⟩;exact⟨_,rfl,_,s10.boxed 0,by rw[dH,if_neg h6,if_neg g],s10.av⟩
 ·have hv:∀ (w9:World) (B:aD) (s:Unit) (y:Xv) (R:Ending->World->Prop),St w w9 (star emp B)->y.In w9->aO y<=100000->(∀ w',St w w' (star emp B)->R (.returned (.bool (ug s y).2)) w')->cr prog (.func (.func 148) #[] #[]) #[.agg y.cells.toArray] w9 R:=by
   intro w9 B s y R h hy hys k;refine bn (by kernel_rfl) (aj (K:=λ r w'=>r=.bool (decide (y.args.length<=8))/\aA w9 w' []) (wR (u1:=y.u) ?_) ?_)
   ·unfold sY;refine(St.start w9).one.ax y.cells.toArray λ r4 w6 s6=>⟨_,_,_,s6.ag 0 rfl 8,?_,s6.av⟩
    by_cases hl:y.args.length<=8
    ·rw[dT hl,dT (show((y.args.length:Nat):Int)<=8 by omega)]
    ·rw[dF hl,dF (show ¬ ((y.args.length:Nat):Int)<=8 by omega)]
   ·rintro r w' ⟨rfl,hc⟩; exact k w' (h.quiet hc)
  refine aj (F0 (w0:=w) (step:=ug) (A:=λ _=>emp) hv x hz (λ hc=>hx.av hc) w4 (Sep [ai r1 x.cells.toArray 60]) () (s4.au [2,1])) ?_;rintro r w11 ⟨rfl,s11⟩;have s11:St w w11 (Sep [emp,ai r1 x.cells.toArray 60]):=s11;refine⟨_,rfl,?_⟩
  cases hw:(bt ug x ()).2 with
  | false=>exact cT rfl ⟨by rw[dT (Or.inl rfl)],s11.au [1]⟩
  | true =>
   refine cF rfl ⟨_,x.u,_,_,_,_,s11.cellsIn 1 rfl,aj (Qm hz (hx.av s11.av)) ?_⟩;rintro v w12 ⟨rfl,c12⟩;refine⟨_,rfl,?_,(s11.quiet c12).au [1]⟩
   by_cases g:40<aO x
   ·rw[dT (p:=true=false\/40<aO x) (Or.inr g)]; exact dT (by omega)
   ·rw[dF (p:=true=false\/40<aO x) (by rintro(h|h); exact absurd h (by decide); exact g h)]; exact dF (by omega)
theorem zP:aO cI=1:=by rw[eN]; rfl
theorem tU(op:Int)(u:I6)(v:Int)(a:OA)(c:Nat)(l:List Xv):aO (.mk op u v a c l)=1+(l.map aO).sum:=by rw[eN]; rfl
section
variable {g:Sc->Xv×Sc} (hg:∀ σ,aO (g σ).1+3*(g σ).2.1.length<=3*σ.1.length+2)
include hg
theorem Gh(σ:Sc):aO (fM g σ).1+3*(fM g σ).2.1.length<=3*σ.1.length+2:=by
 unfold fM; split
 ·show aO cI+3*σ.1.length<=_; rw[zP]; omega
 ·exact hg _
theorem C3:∀ (n:Nat) (acc:List Xv) (σ:Sc),((fN g n acc σ).1.map aO).sum+3*(fN g n acc σ).2.1.length<=(acc.map aO).sum+3*σ.1.length
 | 0,_,_=>Nat.le_refl _
 | n+1,acc,σ=>by
  rw[fN]
  split
  ·rename_i hb;have h1:=C3 n (acc++[(fM g (σ.acc [44])).1]) (fM g (σ.acc [44])).2;have h2:=Gh hg (σ.acc [44]);have h3:=Bu hb;rw[List.map_append,List.sum_append,List.map_singleton,List.sum_singleton] at h1;omega
  ·exact Nat.le_refl _
theorem Pn(ps:List Pr)(op:Int)(a1:Xv)(σ:Sc):aO (JQ ps g op a1 σ).1+3*(JQ ps g op a1 σ).2.1.length<=1+aO a1+3*σ.1.length:=by
 unfold JQ
 split
 ·have h1:=C3 hg σ.1.length [a1] σ;have h2:=uM [41] (fN g σ.1.length [a1] σ).2;rw[List.map_singleton,List.sum_singleton] at h1;show aO (.mk _ _ _ _ _ _)+3*((fN g σ.1.length [a1] σ).2.exp [41]).1.length<=_;rw[tU]; omega
 ·split
  ·have h1:=pW ps (σ.exp [44]);have h2:=uM [44] σ;have h3:=uM [41] (aU ps (σ.exp [44])).2;show aO (.mk _ _ _ _ _ _)+3*((aU ps (σ.exp [44])).2.exp [41]).1.length<=_;rw[tU,List.map_singleton,List.sum_singleton]; omega
  ·split
   ·have h1:((σ.exp [44]).qG 1000000).1.length<=(σ.exp [44]).1.length:=xP _ _ _;have h2:=uM [44] σ;have h3:=uM [41] ((σ.exp [44]).qG 1000000);show aO (.mk _ _ _ _ _ _)+3*(((σ.exp [44]).qG 1000000).exp [41]).1.length<=_;rw[tU,List.map_singleton,List.sum_singleton]; omega
   ·have h3:=uM [41] σ;show aO (.mk _ _ _ _ _ _)+3*(σ.exp [41]).1.length<=_;rw[tU,List.map_singleton,List.sum_singleton]; omega
end
theorem E5(ps:List Pr):∀ (f:Nat) (σ:Sc),aO (fF ps f σ).1+3*(fF ps f σ).2.1.length<=3*σ.1.length+2
 | 0,σ=>by show aO cI+_<=_; rw[zP]; show 1+3*σ.1.length<=_; omega
 | f+1,σ=>by
  rw[fF]
  split
  ·have h1:=pW ps (wP σ);have h2:=E3 σ;show aO (.mk _ _ _ _ _ _)+3*(aU ps (wP σ)).2.1.length<=_;rw[tU]; simp only[List.map_nil,List.sum_nil]; omega
  ·rename_i h1;have hR:=Pn (E5 ps f) ps (bN (aN σ.1 σ.2)) (fM (fF ps f) (zS σ)).1 (fM (fF ps f) (zS σ)).2
   by_cases he:(zS σ).2=0
   ·have h2:=JN h1 he;have h3:=Gh (E5 ps f) (zS σ);omega
   ·have h2:=E4 σ;have h3:fM (fF ps f) (zS σ)=(cI,zS σ):=by rw[fM,if_pos he]
    rw[h3] at hR ⊢;rw[zP] at hR;have h4:(cI,zS σ).2.1.length=(zS σ).1.length:=rfl;omega
def bz(ps:List Pr)(t:List UInt8):Xv×Int :=
 if (bI t).2≠0 then (cI,(bI t).2)
 else if Dt (fF ps ((bI t).1.length+1) ((bI t).1,0)).2.1 (fF ps ((bI t).1.length+1) ((bI t).1,0)).2.2≠0 then (cI,Dt (fF ps ((bI t).1.length+1) ((bI t).1,0)).2.1 (fF ps ((bI t).1.length+1) ((bI t).1,0)).2.2)
 else if dH (fF ps ((bI t).1.length+1) ((bI t).1,0)).1≠0 then (cI,dH (fF ps ((bI t).1.length+1) ((bI t).1,0)).1)
 else ((fF ps ((bI t).1.length+1) ((bI t).1,0)).1,0)
theorem zK(l:List UInt8):∀ (f n:Nat) (acc:List Tk),(Ah l f n acc).1.length<=acc.length+f
 | 0,_,_=>Nat.le_refl _
 | f+1,n,acc=>by
  rw[Ah]
  split
  ·simp
  ·split
   ·exact Nat.le_trans (zK l f _ _) (by omega)
   ·split
    ·simp
    ·have:=zK l f (n+(eu l n ‹UInt8›).1.t.length) (acc++[(eu l n ‹UInt8›).1]);simp only[List.length_append,List.length_singleton] at this;omega
theorem NR(l:List UInt8):(bI l).1.length<=4000:=by
 unfold bI
 split
 ·simp
 ·have:=zK l l.length 0 [];simp only[List.length_nil] at this;omega
theorem EE(w:World):cI.In w:=.mk (λ i y hy=>by simp[cI,Xv.args] at hy) (λ y hy=>by simp[cI,Xv.args] at hy)
theorem M9{w:World}{a:OA}{c:Nat}{l:List Pr}(hr:dx w a l)(hc:l.length<=c)(ho:bP l)(t:List UInt8) :
  CP 126 #[.slice a l.length c,sv t] w (λ r w'=>∃ x:Xv,x.er=(bz l t).1/\r=.tuple #[.agg x.cells.toArray,iv (bz l t).2]/\St w w' (held x.In)):=by
 refine td ?_;unfold ou;refine(St.start w).one.ax cI.cells.toArray λ r1 w1 s1=>aj (yf (hr.av s1.av) hc) ?_;rintro v w2 ⟨⟨e,rfl,hee⟩,c2⟩;obtain rfl:=hee.2 ho;have s2:=s1.quiet c2;have bad:∀ {k:Int} {w' : World} {m:List aD} {i:Nat} {cs:Array Value},St w w' (Sep m)->m[i]?=some (ai r1 cs 60)->cs.size=9->bz l t=(cI,k) ->
   aK ⟨r1,0,none⟩ 0 cI.cells w' λ w3=>∃ (n2:Int) (u1:I6) (n3:Int) (a2:OA) (l2 c2:Nat),af w3 ⟨r1,0,none⟩ 0 (iv n2 :: u1.on [iv n3,.slice a2 l2 c2]) /\
    ∃ x:Xv,x.er=(bz l t).1/\Value.tuple #[.agg (iv n2 :: u1.on [iv n3,.slice a2 l2 c2]:List Value).toArray,iv k]=.tuple #[.agg x.cells.toArray,iv (bz l t).2]/\St w w3 (held x.In):=λ {k w' m i cs} s e hs hp =>
  s.ay i e cI.cells (by rw[hs]; rfl) (Xv.one _) λ w3 s3=>⟨_,z6,_,_,_,_,s3.cellsIn (cs:=cI.cells.toArray) (T:=60) i (List.getElem?_set_self (dJ e)),cI,by rw[hp,F8],by rw[hp]; rfl,((St.start' s3.av).one.vT EE).first⟩
 refine⟨_,rfl,cF rfl (aj (Lw t) ?_)⟩;rintro v w4 ⟨a3,c3,rfl,k4⟩;have s4:St w w4 (Sep [_,_,_]):=s2.and k4;have ht:=NR t;refine⟨_,_,_,_,rfl,?_⟩
 by_cases h1:(bI t).2=0
 ·have rd:=St.rd Tk.len s4;refine cF (by simpa using h1) (aj (Ii s4 rd ht) ?_);rintro v w6 ⟨p,rfl,h6⟩;have h6:fC w w6 p ((bI t).1,0) (Sep [bM 287 4 Tk.cells a3 c3 (bI t).1,ai r1 cI.cells.toArray 60,emp]):=h6;refine⟨_,rfl,(St.start w6).one.ax #[.slice none 0 0,.pointer none] λ r2 w7 s7=>s7.ay 0 rfl [.slice a l.length c,pt p] rfl (by simp[Value.oneCell']) λ w8 s8=>⟨_,_,_,_,s8.cellsIn 0 rfl,?_⟩⟩;have h8:=h6.add s8;refine aj (JV (λ hc=>hr.av hc) hc ho ((bI t).1.length+1) _ ((bI t).1,0) w8 (Nat.lt_succ_self _) h8) ?_;have hsz:=E5 l ((bI t).1.length+1) ((bI t).1,0);have hP:bz l t=if Dt (fF l ((bI t).1.length+1) ((bI t).1,0)).2.1 (fF l ((bI t).1.length+1) ((bI t).1,0)).2.2≠0 then (cI,Dt (fF l ((bI t).1.length+1) ((bI t).1,0)).2.1 (fF l ((bI t).1.length+1) ((bI t).1,0)).2.2)
    else if dH (fF l ((bI t).1.length+1) ((bI t).1,0)).1≠0 then (cI,dH (fF l ((bI t).1.length+1) ((bI t).1,0)).1)
    else ((fF l ((bI t).1.length+1) ((bI t).1,0)).1,0):=by rw[bz,if_neg (by simpa using h1)]
  generalize fF l ((bI t).1.length+1) ((bI t).1,0)=R at hsz hP ⊢;rintro v w9 ⟨x,ex,rfl,h9⟩;have hsx:aO x<=100000:=by
   rw[<- Hl x,ex];have:(bI t).1.length<=4000:=ht;simp only at hsz;omega
  refine⟨_,x.u,_,_,_,_,rfl,(St.start w9).one.ax cI.cells.toArray λ r3 w10 s10=>s10.ay 0 rfl x.cells rfl (Xv.one _) λ w11 s11=>?_⟩;have h11:fC w w11 p R.2 (star (Sep [ai r3 x.cells.toArray 60,emp]) (star (held x.In) (star (Sep [ai r2 #[.slice a l.length c,pt p] 265,emp]) (Sep [bM 287 4 Tk.cells a3 c3 (bI t).1,ai r1 cI.cells.toArray 60,emp])))):=h9.add s11;have fl:St w w11 (Sep [ai r3 x.cells.toArray 60,emp,held x.In,ai r2 #[.slice a l.length c,pt p] 265,emp,bM 287 4 Tk.cells a3 c3 (bI t).1,ai r1 cI.cells.toArray 60,emp]):=by
   have t1:=h11.frame;exact t1.eqv ((aT.right (aT.right (aT.cat [_,_]))).trans (aT.cat (m:=held x.In :: _) [_,_]))
  refine⟨_,fl.ag 3 rfl 1,aj (Qj h11) ?_⟩;rintro v w12 ⟨rfl,rfl⟩;refine⟨_,rfl,?_⟩
  by_cases h2:Dt R.2.1 R.2.2=0
  ·rw[if_neg (by simpa using h2)] at hP;have hin:x.In w12:=fl.bK 2 rfl;refine cF (by simpa using h2) ⟨_,x.u,_,_,_,_,fl.cellsIn 0 rfl,aj (EB hsx hin) ?_⟩;rintro v w14 ⟨rfl,c14⟩;have t14:=fl.quiet c14;have hxe:dH x=dH R.1:=by rw[<- ex,yh]
   refine⟨_,rfl,?_⟩
   by_cases h3:dH x=0
   ·rw[if_neg (by rw[<- hxe]; simpa using h3)] at hP;exact cF (by simpa using h3) ⟨_,x.u,_,_,_,_,t14.cellsIn 0 rfl,t14.ay 6 rfl x.cells rfl (Xv.one _) λ w16 t16=>⟨_,x.u,_,_,_,_,t16.cellsIn 6 rfl,x,by rw[hP,ex],by rw[hP]; rfl,(t16.out 2 rfl).first⟩⟩
   ·rw[if_pos (by rw[<- hxe]; exact h3),<- hxe] at hP;exact cT (by simpa using h3) (bad t14 (i:=6) rfl rfl hP)
  ·rw[if_pos h2] at hP;exact cT (by simpa using h2) (bad fl (i:=6) rfl rfl hP)
 ·exact cT (by simpa using h1) (bad s4 (i:=1) rfl rfl (by rw[bz,if_pos h1]))
abbrev Wf:=I6->Int
def qg(v:Int):Int:=if 1000000<v then 1000000 else v
def iP(lim:I6)(f:Wf)(p:KV):Wf:=λ w=>if w=p.1/\qg p.2>f p.1/\within p.1 lim=true then qg p.2 else f w
def bp(lim:I6)(f:Wf)(Q:List KV):Wf:=Q.foldl (iP lim) f
theorem Iu{lim:I6}{f:Wf}{p:KV}{w:I6}{n:Int}:iP lim f p w<=n<->f w<=n/\(p.1=w->within w lim=true->qg p.2<=n):=by
 unfold iP
 split
 ·rename_i h;obtain⟨rfl,h1,h2⟩:=h;exact⟨λ h=>⟨by omega,λ _ _=>h⟩,λ h=>h.2 rfl h2⟩
 ·rename_i h;refine⟨λ hn=>⟨hn,λ e hw=>?_⟩,λ h=>h.1⟩;subst e
  by_cases hc:qg p.2>f p.1
  ·exact absurd ⟨rfl,hc,hw⟩ h
  ·omega
theorem kW{lim:I6}:∀ {Q:List KV} {f:Wf} {w:I6} {n:Int},bp lim f Q w<=n<->f w<=n/\∀ p∈Q,p.1=w->within w lim=true->qg p.2<=n
 | [],f,w,n=>by simp[bp]
 | p :: Q,f,w,n=>by
  show bp lim (iP lim f p) Q w<=n<->_;rw[kW,Iu];constructor
  ·rintro⟨⟨h1,h2⟩,h3⟩;refine⟨h1,λ q hq=>?_⟩;rcases List.mem_cons.1 hq with rfl|hq
   ·exact h2
   ·exact h3 q hq
  ·rintro⟨h1,h2⟩;exact⟨⟨h1,h2 p (by simp)⟩,λ q hq=>h2 q (by simp[hq])⟩
theorem dK{lim:I6}{f:Wf}{Q Q' : List KV}(h:∀ p,p∈Q<->p∈Q'):bp lim f Q=bp lim f Q':=by
 funext w
 refine Int.le_antisymm (kW.2 ?_) (kW.2 ?_)
 ·have:=(kW (lim:=lim) (f:=f) (Q:=Q') (w:=w) (n:=bp lim f Q' w)).1 (Int.le_refl _);exact⟨this.1,λ p hp=>this.2 p ((h p).1 hp)⟩
 ·have:=(kW (lim:=lim) (f:=f) (Q:=Q) (w:=w) (n:=bp lim f Q w)).1 (Int.le_refl _);exact⟨this.1,λ p hp=>this.2 p ((h p).2 hp)⟩
theorem gr{lim:I6}{f:Wf}{Q:List KV}{p:KV}:iP lim (bp lim f Q) p=bp lim f (Q++[p]):=by
 rw[bp,bp,List.foldl_append]; rfl
theorem FD{lim:I6}{f:Wf}{Q R:List KV}:bp lim (bp lim f Q) R=bp lim f (Q++R):=by
 rw[bp,bp,bp,List.foldl_append]
structure bQ (lim:I6) (l:List KV) (f:Wf):Prop where
 v:∀ u,bL l u=if 0<f u then some (f u) else none
 le:∀ u,f u<=1000000
 z:∀ u,0<=f u
 s:∀ u,0<f u->I6.Le u 4/\within u lim=true
theorem bQ.nil(lim:I6):bQ lim [] λ _=>0:=⟨λ u=>rfl,λ u=>by omega,λ u=>by omega,λ u h=>by omega⟩
theorem bQ.get{lim:I6}{l:List KV}{f:Wf}(h:bQ lim l f)(u:I6):(bL l u).getD 0=f u:=by
 rw[h.v]
 split
 ·rfl
 ·have:=h.z u; show 0=f u; omega
theorem bQ.mem{lim:I6}{l:List KV}{f:Wf}(h:bQ lim l f)(hn:(l.map (·.1)).Nodup)(p:KV):p∈l<->0<f p.1/\p.2=f p.1:=by
 constructor
 ·intro hp;have h1:=LF hn hp;rw[h.v] at h1
  split at h1
  ·rename_i h2; exact⟨h2,by injection h1 with h1; exact h1.symm⟩
  ·cases h1
 ·rintro⟨h1,h2⟩;have h3:=h.v p.1;rw[if_pos h1] at h3;have:=vB h3;obtain⟨a,b⟩:=p;simp only at h2 this;rw[h2]; exact this
theorem bQ.raise{lim:I6}{l:List KV}{f:Wf}(h:bQ lim l f)(hl:I6.Le lim 4){p:KV}(hp:I6.Le p.1 1000000) :
  bQ lim (if qg p.2>f p.1/\within p.1 lim=true then j6 l p.1 (qg p.2) else l) (iP lim f p):=by
 by_cases g:qg p.2>f p.1/\within p.1 lim=true
 ·rw[if_pos g];have hz:=h.z p.1;have e:∀ u,iP lim f p u=if u=p.1 then qg p.2 else f u:=λ u=>by
   unfold iP
   by_cases hu:u=p.1
   ·rw[if_pos ⟨hu,g⟩,if_pos hu]
   ·rw[if_neg (λ h=>hu h.1),if_neg hu]
  refine⟨λ u=>?_,λ u=>?_,λ u=>?_,λ u=>?_⟩
  ·rw[LG,e]
   by_cases hu:u=p.1
   ·rw[if_pos hu,if_pos hu,if_pos (by omega)]
   ·rw[if_neg hu,if_neg hu,h.v]
  ·rw[e]; split
   ·unfold qg; split<;>omega
   ·exact h.le u
  ·rw[e]; split
   ·omega
   ·exact h.z u
  ·rw[e]; split
   ·rename_i hu; subst hu; intro _;refine⟨λ k hk=>?_,g.2⟩;have h1:=hp k hk;have h2:=within_iff.1 g.2 k hk;have h3:=hl k hk;omega
   ·exact h.s u
 ·rw[if_neg g];have e:iP lim f p=f:=by
   funext u
   unfold iP;rw[if_neg (λ h=>g h.2)]
  rw[e]; exact h
theorem I3:NZ prog 181 34 2 where
 u:=underlying181
 k:=⟨_,underlying34⟩
 z:=by kernel_rfl
 eq u v:=by kernel_rfl
 ck b u w:=by
  obtain⟨i,hi,_,_,_⟩:=Oy.i;have hc:(prog).cellsOf 3=1:=by kernel_rfl
  have hsz:∀ w,(Go.sizeOf 3).run prog w=.ok 1 w:=λ w=>by rw[run_sizeOf w hi,hc]
  have hpart:∀ (w:World) (j:Nat),j<6->(part 3 u.vs.toArray (j*1)).run prog w=.ok (iv (u.at' j)) w:=λ w j hj=>by
   have:=u.get j hj;simp only[Nat.mul_one] at this ⊢;simp[part,isAgg,aC underlying3,this]
  rw[show(10000:Nat)=9999+1 from rfl,Instr.checkKey];simp only[Sem.run_bind,run_underlying underlying34,Result.andThen_ok];simp only[Std.Legacy.Range.forIn_eq_forIn_range',Std.Legacy.Range.size,Nat.sub_zero,Nat.add_one_sub_one,Nat.div_one];have each:∀ j∈List.range' 0 6,j<6:=λ j hj=>by simpa using hj
  generalize List.range' 0 6=is at each
  induction is with
  | nil=>simp
  | cons j is ih =>
   have p1:=hpart w j (each j (by simp));have p2:=eH (P:=prog) underlying3 b 9998 (u.at' j) w;simp only[List.forIn_cons,Sem.run_bind,hsz,Result.andThen_ok,p1,p2,Sem.run_pure];exact ih λ y hy=>each y (by simp[hy])

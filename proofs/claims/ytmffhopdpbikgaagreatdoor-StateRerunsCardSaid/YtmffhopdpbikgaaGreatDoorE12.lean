import Derived.Test.YtmffhopdpbikgaaGreatDoorTie
import Derived.Test.YtmffhopdpbikgaaGreatDoorCards
import Derived.DataReads
import Derived.ProofKit
import Derived.ChangeOld
import Derived.ChangeSlices
import Derived.Below
import Derived.Lay
import Derived.Lib.SmallJoins
import Derived.Lib.LaidTab
import Derived.ChangeSame
import Derived.ChangeVars
import Derived.JoinedOf
import Derived.LaidLaws
import Derived.LaidHandle
import Derived.Stop.Joined
import Derived.Stop.LaidErr
import Derived.SevenTiedAt
import Derived.Test.YtmffhopdpbikgaaGreatDoorE11
set_option linter.unusedVariables false
set_option maxRecDepth 100000
namespace Go.Proofs.YtmffhopdpbikgaaGreatDoor
open Go Go.Vc _root_.Go.Proofs.Tryz
theorem PU{w:World}{S:Se}(h:S.In w)(hs:S.Ok) :
  CP 80 #[.agg S.arr] w (λ r w'=>r=.tuple #[.agg (wq S.ps S.sa).1.vs.toArray,.agg (wq S.ps S.sa).2.vs.toArray]/\aA w w' []):=by
 refine Ad ?_;unfold zu;refine(St.start w).one.ax S.arr λ r1 w1 s1=>s1.ax z6.vs.toArray λ r2 w2 s2=>s2.ax z6.vs.toArray λ r3 w3 s3=>⟨_,_,_,_,_,_,_,_,_,_,_,_,s3.cellsIn 2 rfl,aj (oZ (h.av s3.av)) ?_⟩;rintro v w4 ⟨⟨e,rfl,he⟩,c4⟩;obtain rfl:=he.2 hs;have s4:=s3.quiet c4;refine⟨_,rfl,cF rfl ⟨_,_,_,_,_,_,_,_,_,_,_,_,s4.cellsIn 2 rfl,aj (El (h.av s4.av) hs) ?_⟩⟩;rintro v w7 ⟨rfl,c7⟩;have s7:=s4.quiet c7;exact⟨_,_,rfl,s7.ay 1 rfl _ rfl (I6.one _) λ w8 s8=>s8.ay 0 rfl _ rfl (I6.one _) λ w9 s9=>⟨_,s9.cellsIn 1 rfl,_,s9.cellsIn 0 rfl,rfl,s9.av⟩⟩
def Cn(l:List Pr)(u:I6):Int:=Ln Pr.res l u
theorem Ox{l:List Pr}(h:bP l):∀ p∈l,0<=p.res/\p.res<=1000000:=λ p hp=>by
 obtain⟨i,hi⟩:=List.getElem?_of_mem hp;have:=(h.good i p hi).1;simp only[ze,IC,Bool.and_eq_true,decide_eq_true_eq] at this;omega
theorem Qd{l:List Pr}(h:bP l){u:I6}(hu:I6.Le u 4):0<=Cn l u/\Cn l u<=24000000:=by
 have h1:=xI (wt:=Pr.res) hu (Ox h) l.length h.l2;have h2:=h.l2;unfold Cn Ln;omega
theorem IA{w:World}{a:OA}{c:Nat}{l:List Pr}(h:dx w a l)(hcap:l.length<=c)(ho:bP l){u:I6}(hu:I6.Le u 4) :
  CP 81 #[.slice a l.length c,.agg u.vs.toArray] w (λ r w'=>r=iv (Cn l u)/\aA w w' []):=by
 refine rE ?_;unfold mG;refine(St.start w).one.ax u.vs.toArray λ r1 w1 s1=>⟨_,s1.cellsIn 0 rfl,aj (F6 (wt:=Pr.res) (h.av s1.av) hcap ho hu (Ox ho) ?_) ?_⟩
 ·intro w' p R _ _ k;refine bn (by kernel_rfl) (aj (K:=λ r w''=>r=iv p.res/\aA w' w'' []) (nY ?_) ?_)
  ·unfold js;exact(St.start w').one.ax p.cells.toArray λ r2 w2 s2=>⟨_,s2.ag 0 rfl 2,rfl,s2.av⟩
  ·rintro r w'' ⟨rfl,hc⟩; exact k w'' hc
 ·rintro v w2 ⟨rfl,c2⟩;exact⟨_,rfl,rfl,(s1.quiet c2).av⟩
theorem La(w:World){n:Nat}{x:Of}(hb:0<=x.b/\x.b<(n:Int))(hv:1<=x.v/\x.v<=1000000)(hq:x.want.l.all j8=true) :
  CP 79 #[iv n,.agg x.cells.toArray] w (λ r w'=>r=iv 0/\aA w w' []):=by
 refine tG (u1:=x.want) ?_;unfold oR;refine(St.start w).one.ax x.cells.toArray λ r1 w1 s1=>⟨λ b w2=>b=false/\w2=w1,?_,x.b,s1.ag 0 rfl 0,cF (dF (by omega)) ⟨x.b,s1.ag 0 rfl 0,dF (by omega),rfl⟩⟩;rintro w2 b ⟨rfl,rfl⟩ -;refine cF rfl ⟨λ b w3=>b=false/\w3=w2,?_,x.v,s1.ag 0 rfl 7,cF (dF (by omega)) ⟨x.v,s1.ag 0 rfl 7,dF (by omega),rfl⟩⟩;rintro w3 b ⟨rfl,rfl⟩ -;refine cF rfl ⟨x.want,s1.aF 0 1 rfl rfl,aj (bR _ x.want) ?_⟩;rintro v w4 ⟨rfl,c4⟩;exact⟨_,rfl,by rw[if_pos hq],(s1.quiet c4).av⟩
theorem BI(b:Bool)(n:Nat)(k:Int)(w:World):(Instr.checkKey b (n+1) 3 (iv k)).run prog w=.ok () w:=eH underlying3 b n k w
theorem BH(b:Bool)(m:Nat)(u:I6)(w:World):(Instr.checkKey b (m+2) 34 (j3 u)).run prog w=.ok () w:=by
 obtain⟨i,hi,_,_,_⟩:=Oy.i;have hc:(prog).cellsOf 3=1:=by kernel_rfl
 have hsz:∀ w,(Go.sizeOf 3).run prog w=.ok 1 w:=λ w=>by rw[run_sizeOf w hi,hc]
 have hpart:∀ (w:World) (j:Nat),j<6->(part 3 u.vs.toArray (j*1)).run prog w=.ok (iv (u.at' j)) w:=λ w j hj=>by
  have:=u.get j hj;simp only[Nat.mul_one] at this ⊢;simp[part,isAgg,aC underlying3,this]
 rw[show m+2=(m+1)+1 from rfl,Instr.checkKey];simp only[Sem.run_bind,run_underlying underlying34,Result.andThen_ok];simp only[Std.Legacy.Range.forIn_eq_forIn_range',Std.Legacy.Range.size,Nat.sub_zero,Nat.add_one_sub_one,Nat.div_one];have each:∀ j∈List.range' 0 6,j<6:=λ j hj=>by simpa using hj
 generalize List.range' 0 6=is at each
 induction is with
 | nil=>simp
 | cons j is ih =>
  have p1:=hpart w j (each j (by simp));have p2:=eH (P:=prog) underlying3 b m (u.at' j) w;simp only[List.forIn_cons,Sem.run_bind,hsz,Result.andThen_ok,p1,p2,Sem.run_pure];exact ih λ y hy=>each y (by simp[hy])
theorem R7:I9 prog 140 143 3 where
 u:=underlying140
 k:=⟨_,underlying143⟩
 z:=by kernel_rfl
 eq u v:=by kernel_rfl
 ck b u w:=by
  have p1:∀ w,(part 3 (iv u.1 :: u.2.vs).toArray 0).run prog w=.ok (iv u.1) w:=λ w=>by
   simp[part,isAgg,aC underlying3]
  have p2:∀ w,(part 34 (iv u.1 :: u.2.vs).toArray 1).run prog w=.ok (j3 u.2) w:=λ w=>by
   simp[part,isAgg,aC underlying34,I6.vs]
  rw[show(10000:Nat)=9999+1 from rfl,Instr.checkKey];simp only[Sem.run_bind,run_underlying underlying143,Result.andThen_ok];have k1:∀ w,(Instr.checkKey b 9999 3 (iv u.1)).run prog w=.ok () w:=λ w=>BI b 9998 u.1 w;have k2:∀ w,(Instr.checkKey b 9999 34 (j3 u.2)).run prog w=.ok () w:=λ w=>BH b 9997 u.2 w;simp[p1,p2,k1,k2]
structure N0 (S:Se) (l:List Of):Prop where
 n:l.length<=320
 b:∀ o∈l,0<=o.b/\o.b<(S.bd.length:Int)
 v:∀ o∈l,1<=o.v/\o.v<=1000000
 q:∀ o∈l,o.want.l.all j8=true
 k:(l.map λ o=>((o.b,o.want):K7)).Nodup
def j0(o:Of):K7:=(o.b,o.want)
def tn(l:List Of):Nat->List EL
 | 0=>[]
 | k+1=>tn l k++[(j0 (l.getD k sC),(k:Int))]
theorem yO{l:List Of}:∀ {k:Nat},k<=l.length->(tn l k).map (·.1)=(l.take k).map j0
 | 0,_=>rfl
 | k+1,h=>by
  rw[tn,List.map_append,yO (by omega),aG (getD_at (d:=sC) (by omega)),List.map_append]; rfl
theorem GG{l:List Of}{j:Nat}:∀ {k:Nat},j<k->(j0 (l.getD j sC),(j:Int))∈tn l k
 | 0,h=>absurd h (Nat.not_lt_zero j)
 | k+1,h=>by
  rw[tn]
  by_cases e:j=k
  ·subst e; exact List.mem_append_right _ (by simp)
  ·exact List.mem_append_left _ (GG (by omega))
theorem Kg{l:List Of}(hn:(l.map j0).Nodup){k:Nat}(hk:k<l.length):eV (tn l k) (j0 (l.getD k sC))=none:=by
 unfold eV;rw[Option.map_eq_none_iff,List.find?_eq_none];intro p hp hc;have e:p.1=j0 (l.getD k sC):=by simpa using hc
 have h1:p.1∈(l.take k).map j0:=by rw[<- yO (by omega)]; exact List.mem_map_of_mem hp
 rw[e] at h1;have h2:((l.take (k+1)).map j0).Nodup:=((List.take_sublist (k+1) l).map j0).nodup hn;rw[aG (getD_at (d:=sC) hk),List.map_append,List.nodup_append] at h2;exact h2.2.2 _ h1 _ (by simp) rfl
theorem Kh{l:List Of}(hn:(l.map j0).Nodup){k:Nat}(hk:k<l.length):eV (tn l l.length) (j0 (l.getD k sC))=some (k:Int) :=
 IT (p:=(j0 (l.getD k sC),(k:Int))) (by rw[yO (Nat.le_refl _),List.take_length]; exact hn) (GG hk)
def uV(S:Se)(x:Of):Of:={ x with v:=x.v-Cn S.ps x.want }
def mO(S:Se)(x:Of):Bool:=decide (1<=x.v-Cn S.ps x.want)&&(decide (x.want≠z6)&&decide (cD S x.b.toNat (S.bd.getD x.b.toNat zV) x.want=0))
def iH(S:Se)(l:List Of):Nat->List Of
 | 0=>[]
 | k+1=>if mO S (l.getD k sC)=true then iH S l k++[uV S (l.getD k sC)] else iH S l k
def rP(S:Se)(l:List Of):Nat->List Int
 | 0=>[]
 | k+1=>if mO S (l.getD k sC)=true then rP S l k++[(k:Int)] else rP S l k
theorem E8(S:Se)(l:List Of):∀ k,(rP S l k).length=(iH S l k).length/\(iH S l k).length<=k
 | 0=>⟨rfl,Nat.le_refl 0⟩
 | k+1=>by
  have ih:=E8 S l k;rw[rP,iH]
  split
  ·rw[List.length_append,List.length_append,List.length_singleton,List.length_singleton]; omega
  ·omega
abbrev zT (u1 u2 u3:I6) (v1 v2:Value):Array Value:=(u1.on (u2.on (u3.on [v1,v2])):List Value).toArray
abbrev um:Array Value:=zT z6 z6 z6 (.slice none 0 0) (.slice none 0 0)
theorem u7(u1 u2 u3:I6){v1 v2:Value}(h1:v1.oneCell' = true)(h2:v2.oneCell' = true):∀ v∈(u1.on (u2.on (u3.on [v1,v2])):List Value),v.oneCell' = true:=by
 intro v hv;simp only[I6.on,List.mem_cons,List.mem_nil_iff,or_false] at hv;rcases hv with rfl|rfl|rfl|rfl|rfl|rfl|rfl|rfl|rfl|rfl|rfl|rfl|rfl|rfl|rfl|rfl|rfl|rfl|rfl|rfl<;>first|rfl|assumption
abbrev tP (a:OA) (c:Nat) (l:List Int):aD:=bM 3 1 i1 a c l
theorem MG(n:Int)(u:I6):∀ v∈(iv n :: u.vs:List Value),v.oneCell' = true:=by
 intro v hv;rcases List.mem_cons.1 hv with rfl|hv
 ·rfl
 ·exact I6.one _ v hv
theorem O3(y:Br):∀ v∈y.cells,v.oneCell' = true:=by
 intro v hv;simp only[Br.cells,List.mem_cons,List.mem_nil_iff,or_false] at hv;rcases hv with rfl|rfl|rfl|rfl<;>rfl
theorem L8{w:World}{S:Se}(h:S.In w)(hs:S.Ok){a:OA}{c:Nat}{l:List Of}(hr:RO w a l)(ho:N0 S l) :
  CP 44 #[.agg S.arr,.slice a l.length c] w (λ r w'=>(160<(iH S l l.length).length/\r=.tuple #[.agg um,.slice none 0 0,iv 3]/\aA w w' [])\/((iH S l l.length).length<=160/\∃ (a1 a2 a3:OA) (c1 c2 c3:Nat),r=.tuple #[.agg (zT (aQ S.ps) (wq S.ps S.sa).1 (wq S.ps S.sa).2 (.slice a1 (S.bd.map Br.cls).length c1) (.slice a2 (iH S l l.length).length c2)),.slice a3 (rP S l l.length).length c3,iv 0] /\
    St w w' (Sep [tP a3 c3 (rP S l l.length),tP a1 c1 (S.bd.map Br.cls),bf a2 c2 (iH S l l.length),emp]))):=by
 refine vg ?_;unfold qU;have z1:=hs.ps.l2;have z2:=hs.bd.l2;have hn:=ho.n;have hk:(l.map j0).Nodup:=ho.k;refine(St.start w).one.ax S.arr λ r1 w1 s1=>s1.ax um λ r2 w2 s2=>⟨_,_,_,_,_,_,_,_,_,_,_,_,s2.cellsIn 1 rfl,aj (oZ (h.av s2.av)) ?_⟩;rintro v w3 ⟨⟨e,rfl,he⟩,c3⟩;obtain rfl:=he.2 hs;have s3:=s2.quiet c3;refine⟨_,rfl,cF rfl (cF (dF (by omega)) (kU s3 λ rm w6 _ s6=>?_))⟩;have s6:St w w6 (Sep [cR rm (tn l 0),ai r2 um 67,ai r1 S.arr 75,emp]):=St.Qz s6;refine⟨λ n w7 m=>∃ k:Nat,n=k/\k<=l.length/\m=l.length-k/\St w w7 (Sep [cR rm (tn l k),ai r2 um 67,ai r1 S.arr 75,emp]),⟨l.length,0,rfl,by omega,by omega,s6⟩,?_⟩;clear s6 s3 s2 s1;rintro w7 m n ⟨k,rfl,hkl,hm,s7⟩ -
 by_cases hlt:(k:Int)<(l.length:Int)
 ·have hx:l[k]?=some (l.getD k sC):=getD_at (by omega);have hnone:=Kg hk (k:=k) (by omega);have hsucc:tn l (k+1)=tn l k++[(j0 (l.getD k sC),(k:Int))]:=rfl;generalize l.getD k sC=x at hx hnone hsucc;have hxm:=List.mem_of_getElem? hx;obtain⟨q,hq,hcx⟩:=(hr.av s7.av).at hx;refine cT (dT hlt) ⟨λ w8=>St w w8 (Sep [cR rm (tn l (k+1)),ai r2 um 67,ai r1 S.arr 75,emp]),λ w8 s8 _=>⟨l.length-(k+1),by omega,k+1,aB ⟨by omega,by omega⟩,by omega,rfl,s8⟩,ak hq ⟨by omega,by omega,_,x.want,_,hcx,s7.ax sC.cells.toArray λ r3 w9 s9=>s9.ay 0 rfl x.cells rfl x.one λ w10 s10=>⟨_,_,_,s10.ag 3 rfl 1,_,x.want,_,s10.cellsIn 0 rfl,aj (La w10 (ho.b x hxm) (ho.v x hxm) (ho.q x hxm)) ?_⟩⟩⟩;rintro _ w11 ⟨rfl,c11⟩;have s11:=s10.quiet c11;refine⟨_,rfl,cF rfl ⟨_,s11.ag 0 rfl 0,x.want,s11.aF 0 1 rfl rfl,s11.ax (iv 0 :: z6.vs:List Value).toArray λ r4 w13 s13=>s13.ay 0 rfl (iv x.b :: x.want.vs) rfl (MG _ _) λ w14 s14=>⟨_,x.want,s14.cellsIn 0 rfl,?_⟩⟩⟩;have s14:St w w14 (Sep [ai r4 (iv x.b :: x.want.vs:List Value).toArray 143,ai r3 x.cells.toArray 44,cR rm (tn l k),ai r2 um 67,ai r1 S.arr 75,emp]):=s14;refine Ff R7 (s14.out 2 rfl) (j0 x) ?_;rw[hnone];refine⟨λ b w16=>b=true/\w16=w14.drew,?_,cT rfl ⟨rfl,rfl⟩⟩;rintro w16 b ⟨rfl,rfl⟩ -;have s16:=s14.quiet (aA.drew w14 []);refine cT rfl ⟨_,x.want,s16.cellsIn 0 rfl,KL R7 (s16.out 2 rfl) (j0 x) k λ w17 s17=>?_⟩;have e:o4 (tn l k) (j0 x) k=tn l (k+1):=by rw[o4,if_neg (by rw[hnone]; decide),hsucc]
  rw[e] at s17;have s18:St w w17 (Sep [cR rm (tn l (k+1)),ai r4 (iv x.b :: x.want.vs:List Value).toArray 143,ai r3 x.cells.toArray 44,ai r2 um 67,ai r1 S.arr 75,emp]):=s17;exact s18.au [0,3,4,5]
 obtain rfl:k=l.length:=by omega
 refine cF (dF hlt) ⟨_,_,_,s7.ag 2 rfl 0,aj (jd (h.av s7.av).ps (by omega)) ?_⟩;rintro _ w18 ⟨rfl,c18⟩;have s18:=s7.quiet c18;refine⟨_,rfl,s18.ax um λ r5 w19 s19=>s19.ay 0 rfl (zT (aQ S.ps) z6 z6 (.slice none 0 0) (.slice none 0 0)).toList rfl (u7 _ _ _ rfl rfl) λ w20 s20=>⟨_,_,_,_,_,_,_,_,_,_,_,_,s20.cellsIn 3 rfl,aj (PU (h.av s20.av) hs) ?_⟩⟩;rintro _ w21 ⟨rfl,c21⟩;have s21:=s20.quiet c21;generalize hop:(wq S.ps S.sa).1=op;generalize hcl:(wq S.ps S.sa).2=cl;refine⟨_,_,rfl,s21.j7 0 6 rfl (vs:=op.vs) (zT (aQ S.ps) op z6 (.slice none 0 0) (.slice none 0 0)) (by show 6+6<=20; decide) (I6.one _) rfl λ w22 s22=>s22.j7 0 12 rfl (vs:=cl.vs) (zT (aQ S.ps) op cl (.slice none 0 0) (.slice none 0 0)) (by show 12+6<=20; decide) (I6.one _) rfl λ w23 s23=>⟨_,_,_,s23.ag 3 rfl 1,?_⟩⟩;have s23:St w w23 (Sep [ai r5 (zT (aQ S.ps) op cl (.slice none 0 0) (.slice none 0 0)) 67,cR rm (tn l l.length),ai r2 um 67,ai r1 S.arr 75,emp]):=s23;refine⟨λ n w24 m=>∃ (k:Nat) (ac:OA) (cc:Nat),n=k/\k<=S.bd.length/\m=S.bd.length-k/\St w w24 (Sep [tP ac cc ((S.bd.take k).map Br.cls),ai r5 (zT (aQ S.ps) op cl (.slice ac ((S.bd.take k).map Br.cls).length cc) (.slice none 0 0)) 67,cR rm (tn l l.length),ai r2 um 67,ai r1 S.arr 75,emp]),⟨S.bd.length,0,none,0,rfl,by omega,by omega,St.cv s23⟩,?_⟩
 clear s23 s21 s20 s18 s7;rintro w24 m n ⟨k,ac,cc,rfl,hkb,hm2,s24⟩ -;have hcl2:((S.bd.take k).map Br.cls).length=k:=by rw[List.length_map,List.length_take]; omega
 by_cases hlb:(k:Int)<(S.bd.length:Int)
 ·have hy:S.bd[k]?=some (S.bd.getD k zV):=getD_at (by omega);generalize S.bd.getD k zV=y at hy;obtain⟨_,q,hq,hcy⟩:=(h.av s24.av).bd k y hy;have e:(S.bd.take (k+1)).map Br.cls=(S.bd.take k).map Br.cls++[y.cls]:=by rw[aG hy,List.map_append]; rfl
  refine cT (dT hlb) (ak hq ⟨by omega,by omega,_,_,_,_,hcy,s24.ax #[.string (bs []),iv 0,iv 0,iv 0] λ r6 w25 s25=>s25.ay 0 rfl y.cells rfl (O3 y) λ w26 s26=>⟨_,_,_,s26.ag 2 rfl 18,_,s26.ag 0 rfl 1,cK Oy bU (x:=y.cls) (yM _) (s26.out 1 rfl) (by omega) (by omega) (λ a' c' w28 s28=>?_) rfl⟩⟩);rw[<- e] at s28 ⊢;have s28:St w w28 (Sep [tP a' c' ((S.bd.take (k+1)).map Br.cls),ai r6 y.cells.toArray 137,ai r5 (zT (aQ S.ps) op cl (.slice ac ((S.bd.take k).map Br.cls).length cc) (.slice none 0 0)) 67,cR rm (tn l l.length),ai r2 um 67,ai r1 S.arr 75,emp]):=s28;refine s28.aJ 2 rfl (by show 18<20; decide) rfl λ w29 s29=>⟨S.bd.length-(k+1),by omega,k+1,a',c',aB ⟨by omega,by omega⟩,by omega,rfl,?_⟩;exact s29.au [0,2,3,4,5,6]
 obtain rfl:k=S.bd.length:=by omega
 rw[List.take_length] at s24;generalize hcls:S.bd.map Br.cls=cls at s24;refine cF (dF hlb) ⟨λ a25 l25 c25 n w30 m=>∃ (k:Nat) (ao:OA) (co:Nat),n=k/\k<=l.length/\m=l.length-k/\l25=(rP S l k).length /\
   St w w30 (Sep [tP a25 c25 (rP S l k),tP ac cc cls,bf ao co (iH S l k),ai r5 (zT (aQ S.ps) op cl (.slice ac cls.length cc) (.slice ao (iH S l k).length co)) 67,cR rm (tn l l.length),ai r2 um 67,ai r1 S.arr 75,emp]),⟨l.length,0,none,0,rfl,by omega,by omega,rfl,?_⟩,?_⟩
 ·have s25:St w w24 (Sep [bf none 0 [],tP ac cc cls,ai r5 (zT (aQ S.ps) op cl (.slice ac cls.length cc) (.slice none 0 0)) 67,cR rm (tn l l.length),ai r2 um 67,ai r1 S.arr 75,emp]):=St.cv s24;have s26:St w w24 (Sep [tP none 0 [],bf none 0 [],tP ac cc cls,ai r5 (zT (aQ S.ps) op cl (.slice ac cls.length cc) (.slice none 0 0)) 67,cR rm (tn l l.length),ai r2 um 67,ai r1 S.arr 75,emp]):=St.cv s25;exact s26.au [0,2,1,3,4,5,6,7]
 clear s24 hlb hkb hm2 hcl2;rintro w30 m a25 l25 c25 n ⟨k,ao,co,rfl,hkl,hm3,rfl,s30⟩ -;have hkp:=E8 S l k
 by_cases hlt:(k:Int)<(l.length:Int)
 ·have hx:l[k]?=some (l.getD k sC):=getD_at (by omega);have hsome:=Kh hk (k:=k) (by omega);have eI:rP S l (k+1)=if mO S (l.getD k sC)=true then rP S l k++[(k:Int)] else rP S l k:=rfl
  have eO:iH S l (k+1)=if mO S (l.getD k sC)=true then iH S l k++[uV S (l.getD k sC)] else iH S l k:=rfl
  generalize l.getD k sC=x at hx hsome eI eO;have hxm:=List.mem_of_getElem? hx;have hle:=It (ho.q x hxm);have hrb:=Qd hs.ps hle;have hv:=ho.v x hxm;have hb:=ho.b x hxm;obtain⟨i,hbi⟩:=Int.eq_ofNat_of_zero_le hb.1;have hyi:S.bd[i]?=some (S.bd.getD i zV):=getD_at (by omega);have hti:x.b.toNat=i:=by omega
  obtain⟨q,hq,hcx⟩:=(hr.av s30.av).at hx;refine cT (dT hlt) ⟨λ a26 l26 c26 w31=>∃ (ao:OA) (co:Nat),l26=(rP S l (k+1)).length /\
   St w w31 (Sep [tP a26 c26 (rP S l (k+1)),tP ac cc cls,bf ao co (iH S l (k+1)),ai r5 (zT (aQ S.ps) op cl (.slice ac cls.length cc) (.slice ao (iH S l (k+1)).length co)) 67,cR rm (tn l l.length),ai r2 um 67,ai r1 S.arr 75,emp]),?_,?_⟩
  ·rintro w31 a26 l26 c26 ⟨ao,co,rfl,s31⟩ -;exact⟨l.length-(k+1),by omega,k+1,ao,co,aB ⟨by omega,by omega⟩,by omega,rfl,rfl,s31⟩
  refine ak hq ⟨by omega,by omega,_,x.want,_,hcx,s30.ax sC.cells.toArray λ r8 w32 s32=>s32.ay 0 rfl x.cells rfl x.one λ w33 s33=>?_⟩;have s34:St w w33.drew (Sep [ai r8 x.cells.toArray 44,tP a25 c25 (rP S l k),tP ac cc cls,bf ao co (iH S l k),ai r5 (zT (aQ S.ps) op cl (.slice ac cls.length cc) (.slice ao (iH S l k).length co)) 67,cR rm (tn l l.length),ai r2 um 67,ai r1 S.arr 75,emp]):=s33.quiet (aA.drew w33 []);refine⟨_,s34.ag 0 rfl 7,_,_,_,s34.ag 7 rfl 0,x.want,s34.aF 0 1 rfl rfl,aj (IA (h.av s34.av).ps h.h1 hs.ps hle) ?_⟩;rintro _ w34 ⟨rfl,c34⟩;have s35:=s34.quiet c34;refine⟨_,rfl,s35.ag 0 rfl 7,?_⟩;rw[aB (n:=x.v-Cn S.ps x.want) ⟨by omega,by omega⟩];refine s35.aJ 0 rfl (by show 7<8; decide) rfl λ w35 s36=>?_;have s36:St w w35 (Sep [ai r8 (uV S x).cells.toArray 44,tP a25 c25 (rP S l k),tP ac cc cls,bf ao co (iH S l k),ai r5 (zT (aQ S.ps) op cl (.slice ac cls.length cc) (.slice ao (iH S l k).length co)) 67,cR rm (tn l l.length),ai r2 um 67,ai r1 S.arr 75,emp]):=s36;refine⟨λ b w36=>b = !mO S x/\St w w36 (Sep [ai r8 (uV S x).cells.toArray 44,tP a25 c25 (rP S l k),tP ac cc cls,bf ao co (iH S l k),ai r5 (zT (aQ S.ps) op cl (.slice ac cls.length cc) (.slice ao (iH S l k).length co)) 67,cR rm (tn l l.length),ai r2 um 67,ai r1 S.arr 75,emp]),?_,?_⟩
  ·rintro w36 b ⟨rfl,s37⟩ -
   cases hkeep:mO S x with
   | false =>
    rw[if_neg (by rw[hkeep]; decide)] at eI eO;exact cT rfl ⟨ao,co,by rw[eI],by rw[eI,eO]; exact s37.au [1,2,3,4,5,6,7,8]⟩
   | true =>
    rw[if_pos hkeep] at eI eO;rw[eI,eO];refine cF rfl ⟨_,_,_,s37.ag 4 rfl 19,_,x.want,_,s37.cellsIn 0 rfl,cK En Of.len (x:=uV S x) (Of.one _) (s37.out 3 rfl) (by omega) (by omega) (λ a' c' w38 s38=>?_) rfl⟩;have s38:St w w38 (Sep [bf a' c' (iH S l k++[uV S x]),ai r8 (uV S x).cells.toArray 44,tP a25 c25 (rP S l k),tP ac cc cls,ai r5 (zT (aQ S.ps) op cl (.slice ac cls.length cc) (.slice ao (iH S l k).length co)) 67,cR rm (tn l l.length),ai r2 um 67,ai r1 S.arr 75,emp]):=s38;refine s38.aJ 4 rfl (by show 19<20; decide) rfl λ w39 s39=>?_;have s39:St w w39 (Sep [bf a' c' (iH S l k++[uV S x]),ai r8 (uV S x).cells.toArray 44,tP a25 c25 (rP S l k),tP ac cc cls,ai r5 (zT (aQ S.ps) op cl (.slice ac cls.length cc) (.slice a' (iH S l k++[uV S x]).length c')) 67,cR rm (tn l l.length),ai r2 um 67,ai r1 S.arr 75,emp]):=s39;refine cK Oy bU (x:=(k:Int)) (yM _) (s39.out 2 rfl) (by omega) (by omega) (λ a'' c'' w41 s41=>?_) rfl;have s41:St w w41 (Sep [tP a'' c'' (rP S l k++[(k:Int)]),bf a' c' (iH S l k++[uV S x]),ai r8 (uV S x).cells.toArray 44,tP ac cc cls,ai r5 (zT (aQ S.ps) op cl (.slice ac cls.length cc) (.slice a' (iH S l k++[uV S x]).length c')) 67,cR rm (tn l l.length),ai r2 um 67,ai r1 S.arr 75,emp]):=s41;exact⟨a',c',rfl,s41.au [0,3,1,4,5,6,7,8]⟩
  ·refine⟨_,s36.ag 0 rfl 0,x.want,s36.aF 0 1 rfl rfl,HX R7 (s36.out 5 rfl) (j0 x) ?_⟩;rw[hsome];refine cF (by simp) ⟨_,s36.ag 0 rfl 7,?_⟩
   by_cases h1:x.v-Cn S.ps x.want<1
   ·exact cT (dT h1) ⟨by rw[mO,dF (by omega)]; rfl,s36⟩
   have k1:decide (1<=x.v-Cn S.ps x.want)=true:=dT (by omega);refine cF (dF h1) ⟨x.want,s36.aF 0 1 rfl rfl,?_⟩;rw[I6.beq_eq]
   by_cases hz:x.want=z6
   ·exact cT (dT hz) ⟨by rw[mO,k1,dF (by simpa using hz)]; rfl,s36⟩
   have k2:decide (x.want≠z6)=true:=dT hz;refine cF (dF hz) ⟨_,_,_,_,_,_,_,_,_,_,_,_,s36.cellsIn 7 rfl,(i:Int),by rw[<- hbi]; exact s36.ag 0 rfl 0,x.want,s36.aF 0 1 rfl rfl,aj (pK (h.av s36.av) hs hyi x.want) ?_⟩;rintro _ w43 ⟨rfl,c43⟩;refine⟨_,rfl,?_,s36.quiet c43⟩;rw[mO,k1,k2,hti]
   by_cases ha:cD S i (S.bd.getD i zV) x.want=0
   ·rw[ha]; rfl
   ·rw[dF ha]; simpa using ha
 ·obtain rfl:k=l.length:=by omega
  by_cases h160:160<(iH S l l.length).length
  ·refine cF (dF hlt) (cT (dT (by omega)) (s30.ay 5 rfl um.toList rfl (u7 _ _ _ rfl rfl) λ w44 s44=>⟨z6,z6,z6,_,_,_,_,_,_,s44.cellsIn 5 rfl,.inl ⟨h160,rfl,s44.av⟩⟩))
  ·refine cF (dF hlt) (cF (dF (by omega)) ⟨aQ S.ps,op,cl,_,_,_,_,_,_,s30.cellsIn 3 rfl,s30.ay 5 rfl (zT (aQ S.ps) op cl (.slice ac cls.length cc) (.slice ao (iH S l l.length).length co)).toList rfl (u7 _ _ _ rfl rfl) λ w45 s45=>⟨aQ S.ps,op,cl,_,_,_,_,_,_,s45.cellsIn 5 rfl,.inr ⟨by omega,ac,ao,a25,cc,co,c25,rfl,?_⟩⟩⟩);exact s45.au [0,1,2,9]
def vW(a:OA)(b c:Nat)(w:World)(K:KP):=cond (decide ((b:Int)>(120:Int))) (K (.bool true) w) (∃ c:Int->qN,(∃ d,c 0 w d)/\∀ e d f,c f e d->∀ g:qv,cond (decide (f<(b:Int))) (aq a λ a=>0<=f/\f<(b:Int)/\∃ b,e.cell? (Addr.add (Addr.add a ((f).toNat*11)) 9)=some (.string b)/\cond (decide (((b.size:Nat):Int)>(5000:Int))) (K (.bool true) e) (∃ a,a<d/\c (IntKind.i64.wrap (f+1)) e a)) (K (.bool false) e))
theorem yQ{a1 l1 c1 w K}(h:vW a1 l1 c1 w K):CP 6 #[.slice a1 l1 c1] w K:=ah (az [(58,[(3,.s (.int .i64))])]) func6 (by kernel_rfl) (by kernel_rfl) h
def yR  (w:World) (K:KP):=an w (.cells #[iv 1,qz,qz,qz,qz,qz,qz,qz,qz,.string (bs [112,114,111,100,117,99,116,32,97,32,49,32,48,32,49,32,48,10,98,105,100,100,101,114,32,120,32,48,32,48,32,53,10,98,105,100,100,101,114,32,121,32,48,32,48,32,53,10]),.int .u64 0,iv 4,qz,qz,qz,qz,qz,qz,qz,qz,.string (bs []),.int .u64 0,iv 5,iv 1,qz,qz,qz,qz,qz,qz,qz,.string (bs [123,97,58,49,125,64,55]),.int .u64 0,iv 9,qz,qz,qz,qz,qz,qz,qz,qz,.string (bs []),.int .u64 0] 36) λ a b=>K (.slice (some (qd a 0)) 4 4) b
theorem Ac{w K}(h:yR w K):CP 22 #[] w K:=ah (az []) func22 (by kernel_rfl) (by kernel_rfl) h
def vV  (w:World) (K:KP):=CC 8 #[.agg #[iv 1,qz,iv 1,iv 2]] w λ g h=>∃ i,g=.returned (.pointer i)/\∃ g:Bool->qW,(∀ j k,g k j->∀ l:qv,cond k (K (.bool false) j) (CC 22 #[] j λ j k=>∃ l m n,j=.returned (.slice l m n)/\∃ j:Int->qN,(∃ n,j 0 k n)/\∀ k n o,j o k n->∀ p:qv,cond (decide (o<(m:Int))) (aq l λ l=>0<=o/\o<(m:Int)/\∃ m p q,∃ r:I6,∃ s t,af k (Addr.add l ((o).toNat*11)) 0 (iv m :: iv p :: iv q :: r.on [.string s,.int .u64 t])/\CC 10 #[.pointer i,.agg (iv m :: iv p :: iv q :: r.on [.string s,.int .u64 t]:List Value).toArray] k λ l m=>∃ p,l=.returned (iv p)/\cond (p !=0) (K (.bool false) m) (∃ l,l<n/\j (IntKind.i64.wrap (o+1)) m l)) (CC 13 #[.pointer i] k λ j k=>∃ l m n,j=.returned (.slice l m n)/\CC 23 #[.pointer i] k λ j k=>∃ n o p:I6,∃ q r s t u v x y z A,j=.returned (.tuple #[.agg (n.on (o.on (p.on [.slice q r s,.slice t u v])):List Value).toArray,.slice x y z,iv A])/\an k (.cells #[qz,qz,qz,qz,qz,qz,qz,qz,qz,qz,qz,qz,qz,qz,qz,qz,qz,qz,qn,qn] 67) λ j k=>aK (qd j 0) 0 (n.on (o.on (p.on [.slice q r s,.slice t u v]))) k λ k=>CC 16 #[.pointer i] k λ k n=>∃ o,k=.returned (iv o)/\cond (o==3) (cond ((m:Int)==(1:Int)) (aq l λ k=>0<=(0:Int)/\(0:Int)<(m:Int)/\∃ l,∃ m:I6,∃ o,af n (Addr.add k (((0:Int)).toNat*8)) 0 (iv l :: m.on [iv o])/\cond ((l==1)&&(((m.a==(1:Int))&&((m.b==(0:Int))&&((m.c==(0:Int))&&((m.d==(0:Int))&&((m.e==(0:Int))&&((m.f==(0:Int))&&true))))))&&((o==7)&&true))) (∃ k l m,n.cell? (qd j 19)=some (.slice k l m)/\cond ((l:Int)==(1:Int)) (cond ((y:Int)==(1:Int)) (cond (A==0) (CC 9 #[.pointer i] n λ j k=>∃ l,j=.returned (.int .u64 l)/\cond (l !=0) (CC 10 #[.pointer i,.agg #[iv 10,qz,qz,qz,qz,qz,qz,qz,qz,.string (bs []),.int .u64 9]] k λ j l=>∃ m,j=.returned (iv m)/\cond (m==0) (CC 16 #[.pointer i] l λ j m=>∃ o,j=.returned (iv o)/\K (.bool (o==4)) m) (K (.bool false) l)) (K (.bool false) k)) (K (.bool false) n)) (K (.bool false) n)) (K (.bool false) n)) (K (.bool false) n)) (K (.bool false) n)) (K (.bool false) n))))/\cond (i).isNone (g true h) (CC 10 #[.pointer i,.agg #[iv 3,qz,qz,qz,qz,qz,qz,qz,qz,.string (bs []),.int .u64 0]] h λ h j=>∃ k,h=.returned (iv k)/\cond (k !=10) (g true j) (CC 9 #[.pointer i] j λ h i=>∃ j,h=.returned (.int .u64 j)/\g (j !=0) i))
theorem yP{w K}(h:vV w K):CP 7 #[] w K:=ah (az [(14,[(22,.s .bool)]),(250,[(3,.s (.int .i64))])]) func7 (by kernel_rfl) (by kernel_rfl) h
def iI(a b c d:Int)(e:OA)(f g:Nat)(w:World)(K:KP):=an w (.cells #[iv a,iv b,iv c,iv d] 23) λ a b=>CC 6 #[.slice e f g] b λ b c=>∃ d,b=.returned (.bool d)/\cond d (CC 7 #[] c λ b d=>∃ g,b=.returned (.bool g)/\K (.bool g) d) (∃ b d g h,af c (qd a 0) 0 [iv b,iv d,iv g,iv h]/\CC 8 #[.agg #[iv b,iv d,iv g,iv h]] c λ a b=>∃ c,a=.returned (.pointer c)/\∃ a:Int->Int->qN,(∃ d,a 0 (0:Int) b d)/\∀ b d g h,a g h b d->∀ i:qv,cond (decide (h<(f:Int))) (∃ i:Int->qW,(∀ j k,i k j->∀ l:qv,∃ l,l<d/\a k (IntKind.i64.wrap (h+1)) j l)/\CC 9 #[.pointer c] b λ a d=>∃ j,a=.returned (.int .u64 j)/\aq e λ a=>0<=h/\h<(f:Int)/\∃ k l m,∃ n:I6,∃ o p,af d (Addr.add a ((h).toNat*11)) 0 (iv k :: iv l :: iv m :: n.on [.string o,.int .u64 p])/\CC 10 #[.pointer c,.agg (iv k :: iv l :: iv m :: n.on [.string o,.int .u64 p]:List Value).toArray] d λ a d=>∃ k,a=.returned (iv k)/\cond (k==0) (aq e λ a=>0<=h/\h<(f:Int)/\∃ e f k,∃ l:I6,∃ m n,af d (Addr.add a ((h).toNat*11)) 0 (iv e :: iv f :: iv k :: l.on [.string m,.int .u64 n])/\CC 11 #[.agg (iv e :: iv f :: iv k :: l.on [.string m,.int .u64 n]:List Value).toArray] d λ a e=>∃ f h,a=.returned (.tuple #[.string f,iv h])/\cond (h !=0) (K (.bool false) e) (CC 12 #[.int .u64 g,.string f] e λ a e=>∃ f,a=.returned (.int .u64 f)/\i f e)) (CC 9 #[.pointer c] d λ a d=>∃ e,a=.returned (.int .u64 e)/\cond (e !=j) (K (.bool false) d) (i g d))) (CC 9 #[.pointer c] b λ a b=>∃ c,a=.returned (.int .u64 c)/\cond (c==g) (CC 7 #[] b λ a c=>∃ d,a=.returned (.bool d)/\K (.bool d) c) (K (.bool false) b)))
theorem nv{n1 n2 n3 n4 a1 l1 c1 w K}(h:iI n1 n2 n3 n4 a1 l1 c1 w K):CP 3 #[.agg #[iv n1,iv n2,iv n3,iv n4],.slice a1 l1 c1] w K:=ah (az [(250,[(6,.s (.int .u64)),(7,.s (.int .i64))]),(1001,[(6,.s (.int .u64))])]) func3 (by kernel_rfl) (by kernel_rfl) h
def jE(a b c d:Int)(e:OA)(f g:Nat)(h:Int)(w:World)(K:KP):=an w (.cells #[iv a,iv b,iv c,iv d] 23) λ a b=>CC 6 #[.slice e f g] b λ b c=>∃ d,b=.returned (.bool d)/\cond d (CC 7 #[] c λ b d=>∃ g,b=.returned (.bool g)/\K (.bool g) d) (∃ b d g i,af c (qd a 0) 0 [iv b,iv d,iv g,iv i]/\CC 8 #[.agg #[iv b,iv d,iv g,iv i]] c λ a b=>∃ c,a=.returned (.pointer c)/\∃ a:Int->qN,(∃ d,a 0 b d)/\∀ b d g,a g b d->∀ i:qv,cond (decide (g<(f:Int))) (aq e λ e=>0<=g/\g<(f:Int)/\∃ f i j,∃ k:I6,∃ l m,af b (Addr.add e ((g).toNat*11)) 0 (iv f :: iv i :: iv j :: k.on [.string l,.int .u64 m])/\CC 10 #[.pointer c,.agg (iv f :: iv i :: iv j :: k.on [.string l,.int .u64 m]:List Value).toArray] b λ e f=>∃ i,e=.returned (iv i)/\∃ e,e<d/\a (IntKind.i64.wrap (g+1)) f e) (CC 15 #[.pointer c] b λ a b=>∃ d,a=.returned (.pointer d)/\(30:Int)≠0/\CC 16 #[.pointer c] b λ a b=>∃ e,a=.returned (iv e)/\CC 10 #[.pointer c,.agg #[iv 8,qz,iv (IntKind.i64.wrap (Int.tmod h 30)),qz,qz,qz,qz,qz,qz,.string (bs []),.int .u64 0]] b λ a b=>∃ f,a=.returned (iv f)/\cond (f !=0) (cond (e !=1) (cond (e !=2) (CC 16 #[.pointer c] b λ a g=>∃ i,a=.returned (iv i)/\cond (i==e) (CC 7 #[] g λ a i=>∃ j,a=.returned (.bool j)/\K (.bool j) i) (K (.bool false) g)) (cond (f==4) (CC 16 #[.pointer c] b λ a g=>∃ i,a=.returned (iv i)/\cond (i==e) (CC 7 #[] g λ a i=>∃ j,a=.returned (.bool j)/\K (.bool j) i) (K (.bool false) g)) (K (.bool false) b))) (cond (f==4) (CC 16 #[.pointer c] b λ a f=>∃ g,a=.returned (iv g)/\cond (g==e) (CC 7 #[] f λ a e=>∃ g,a=.returned (.bool g)/\K (.bool g) e) (K (.bool false) f)) (K (.bool false) b))) (CC 15 #[.pointer c] b λ a b=>∃ e,a=.returned (.pointer e)/\∃ a:Bool->qW,(∀ f g,a g f->∀ i:qv,cond g (K (.bool false) f) (CC 19 #[.pointer d] f λ f g=>∃ i j k,f=.returned (.slice i j k)/\CC 19 #[.pointer e] g λ f g=>∃ k l m,f=.returned (.slice k l m)/\∃ f:Int->qN,(∃ m,f 0 g m)/\∀ g m n,f n g m->∀ o:qv,cond (decide (n<(IntKind.i64.wrap (Int.tmod h 30)))) (aq i λ o=>0<=n/\n<(j:Int)/\∃ p:I6,af g.drew (Addr.add o ((n).toNat*9)) 0 p.vs/\aq k λ k=>0<=n/\n<(l:Int)/\∃ l:I6,af g.drew (Addr.add k ((n).toNat*9)) 0 l.vs/\cond (!(I6.beq p l)) (K (.bool false) g.drew) (∃ k,k<m/\f (IntKind.i64.wrap (n+1)) g.drew k)) (∃ f:Int->qN,(∃ k,f 0 g k)/\∀ g k l,f l g k->∀ m:qv,cond (decide (l<8)) (CC 20 #[.pointer c,iv l] g λ m n=>∃ o,∃ p:I6,∃ q r s t u,m=.returned (.tuple #[.agg (iv o :: p.on [iv q,.slice r s t]:List Value).toArray,.bool u])/\an n (.cells #[qz,qz,qz,qz,qz,qz,qz,qz,qn] 60) λ m n=>aK (qd m 0) 0 (iv o :: p.on [iv q,.slice r s t]) n λ m=>cond u (K (.bool false) m) (∃ n,n<k/\f (IntKind.i64.wrap (l+1)) m n)) (CC 18 #[.pointer d] g.drew λ f g=>∃ k,f=.returned (iv k)/\cond ((IntKind.i64.wrap (Int.tmod h 30))==k) (CC 21 #[.pointer e] g λ f k=>∃ l:I6,f=.returned (.agg l.vs.toArray)/\CC 21 #[.pointer d] k λ f k=>∃ m:I6,f=.returned (.agg m.vs.toArray)/\cond (I6.beq l m) (CC 7 #[] k λ f l=>∃ m,f=.returned (.bool m)/\K (.bool m) l) (CC 18 #[.pointer d] k λ f k=>∃ l,f=.returned (iv l)/\cond (decide ((IntKind.i64.wrap (Int.tmod h 30))<l)) (aq i λ f=>0<=(IntKind.i64.wrap (Int.tmod h 30))/\(IntKind.i64.wrap (Int.tmod h 30))<(j:Int)/\∃ l:I6,af k (Addr.add f (((IntKind.i64.wrap (Int.tmod h 30))).toNat*9)) 0 l.vs/\CC 21 #[.pointer e] k λ m n=>∃ o:I6,m=.returned (.agg o.vs.toArray)/\af n (Addr.add f (((IntKind.i64.wrap (Int.tmod h 30))).toNat*9)) 0 l.vs/\cond (I6.beq o l) (CC 7 #[] n λ f l=>∃ m,f=.returned (.bool m)/\K (.bool m) l) (K (.bool false) n)) (K (.bool false) k))) (CC 18 #[.pointer d] g λ f g=>∃ k,f=.returned (iv k)/\cond (decide ((IntKind.i64.wrap (Int.tmod h 30))<k)) (aq i λ f=>0<=(IntKind.i64.wrap (Int.tmod h 30))/\(IntKind.i64.wrap (Int.tmod h 30))<(j:Int)/\∃ i:I6,af g (Addr.add f (((IntKind.i64.wrap (Int.tmod h 30))).toNat*9)) 0 i.vs/\CC 21 #[.pointer e] g λ j k=>∃ l:I6,j=.returned (.agg l.vs.toArray)/\af k (Addr.add f (((IntKind.i64.wrap (Int.tmod h 30))).toNat*9)) 0 i.vs/\cond (I6.beq l i) (CC 7 #[] k λ f i=>∃ j,f=.returned (.bool j)/\K (.bool j) i) (K (.bool false) k)) (K (.bool false) g))))))/\cond (d).isNone (a true b) (cond (e).isNone (a true b) (CC 16 #[.pointer c] b λ b c=>∃ f,b=.returned (iv f)/\cond (f !=1) (a true c) (CC 17 #[.pointer e] c λ b c=>∃ f,b=.returned (.bool f)/\cond f (a true c) (CC 18 #[.pointer e] c λ b c=>∃ e,b=.returned (iv e)/\cond (e !=(IntKind.i64.wrap (Int.tmod h 30))) (a true c) (CC 18 #[.pointer d] c λ b c=>∃ d,b=.returned (iv d)/\a (decide (d<(IntKind.i64.wrap (Int.tmod h 30)))) c))))))))
theorem oD{n1 n2 n3 n4 a1 l1 c1 n5 w K}(h:jE n1 n2 n3 n4 a1 l1 c1 n5 w K):CP 5 #[.agg #[iv n1,iv n2,iv n3,iv n4],.slice a1 l1 c1,.int .u8 n5] w K:=ah (az [(122,[(8,.s (.int .i64))]),(4094,[(97,.s .bool)]),(65530,[(16,.s (.int .i64))]),(131066,[(17,.s (.int .i64))])]) func5 (by kernel_rfl) (by kernel_rfl) h
def dP(a b c d:Int)(e:OA)(f g:Nat)(h:Int)(w:World)(K:KP):=an w (.cells #[iv a,iv b,iv c,iv d] 23) λ a b=>CC 6 #[.slice e f g] b λ b c=>∃ d,b=.returned (.bool d)/\cond d (CC 7 #[] c λ b d=>∃ g,b=.returned (.bool g)/\K (.bool g) d) (∃ b d g i,af c (qd a 0) 0 [iv b,iv d,iv g,iv i]/\CC 8 #[.agg #[iv b,iv d,iv g,iv i]] c λ a b=>∃ c,a=.returned (.pointer c)/\∃ a:Int->qN,(∃ d,a 0 b d)/\∀ b d g,a g b d->∀ i:qv,cond (decide (g<(f:Int))) (aq e λ e=>0<=g/\g<(f:Int)/\∃ f i j,∃ k:I6,∃ l m,af b (Addr.add e ((g).toNat*11)) 0 (iv f :: iv i :: iv j :: k.on [.string l,.int .u64 m])/\CC 10 #[.pointer c,.agg (iv f :: iv i :: iv j :: k.on [.string l,.int .u64 m]:List Value).toArray] b λ e f=>∃ i,e=.returned (iv i)/\∃ e,e<d/\a (IntKind.i64.wrap (g+1)) f e) ((8:Int)≠0/\CC 10 #[.pointer c,.agg #[iv 7,iv (IntKind.i64.wrap (Int.tmod h 8)),qz,qz,qz,qz,qz,qz,qz,.string (bs []),.int .u64 0]] b λ a b=>∃ d,a=.returned (iv d)/\cond (d !=0) (CC 7 #[] b λ a d=>∃ e,a=.returned (.bool e)/\K (.bool e) d) (CC 13 #[.pointer c] b λ a b=>∃ d e f,a=.returned (.slice d e f)/\∃ a:Int->qN,(∃ f,a 0 b f)/\∀ b f g,a g b f->∀ i:qv,cond (decide (g<(e:Int))) (aq d λ d=>0<=g/\g<(e:Int)/\∃ e,b.cell? (Addr.add d ((g).toNat*8))=some (iv e)/\cond (e==(IntKind.i64.wrap (Int.tmod h 8))) (K (.bool false) b) (∃ d,d<f/\a (IntKind.i64.wrap (g+1)) b d)) (CC 14 #[.pointer c,iv (IntKind.i64.wrap (Int.tmod h 8))] b λ a b=>∃ d,a=.returned (.bool d)/\cond d (CC 10 #[.pointer c,.agg #[iv 2,iv (IntKind.i64.wrap (Int.tmod h 8)),qz,qz,qz,qz,qz,qz,qz,.string (bs []),.int .u64 0]] b λ a d=>∃ e,a=.returned (iv e)/\cond (e==10) (CC 10 #[.pointer c,.agg #[iv 5,iv (IntKind.i64.wrap (Int.tmod h 8)),qz,qz,qz,qz,qz,qz,qz,.string (bs [123,97,58,49,125,64,49]),.int .u64 0]] d λ a e=>∃ f,a=.returned (iv f)/\cond (f==10) (CC 10 #[.pointer c,.agg #[iv 7,iv (IntKind.i64.wrap (Int.tmod h 8)),qz,qz,qz,qz,qz,qz,qz,.string (bs []),.int .u64 0]] e λ a c=>∃ f,a=.returned (iv f)/\cond (f==10) (CC 7 #[] c λ a f=>∃ g,a=.returned (.bool g)/\K (.bool g) f) (K (.bool false) c)) (K (.bool false) e)) (K (.bool false) d)) (K (.bool false) b)))))
theorem iJ{n1 n2 n3 n4 a1 l1 c1 n5 w K}(h:dP n1 n2 n3 n4 a1 l1 c1 n5 w K):CP 4 #[.agg #[iv n1,iv n2,iv n3,iv n4],.slice a1 l1 c1,.int .u8 n5] w K:=ah (az [(122,[(8,.s (.int .i64))]),(2042,[(11,.s (.int .i64))])]) func4 (by kernel_rfl) (by kernel_rfl) h
def lq(a:Nat)(b:Int)(w:World)(K:KP):=an w (.cells #[qz,qz,qz,qz,qz,qz,qz,qz,qn] 60) λ c d=>∃ e:Bool->qW,(∀ f g,e g f->∀ h:qv,cond g (aK (qd c 0) 0 [qz,qz,qz,qz,qz,qz,qz,qz,qn] f λ g=>∃ h,∃ i:I6,∃ j k l m,af g (qd c 0) 0 (iv h :: i.on [iv j,.slice k l m])/\K (.tuple #[.agg (iv h :: i.on [iv j,.slice k l m]:List Value).toArray,.bool false]) g) (0<=b/\b<8/\∃ g,∃ h:I6,∃ i j k l,af f (Addr.add (qd a 10) ((b).toNat*11)) 0 (iv g :: h.on [iv i,.slice j k l])/\CC 43 #[.agg (iv g :: h.on [iv i,.slice j k l]:List Value).toArray] f λ f g=>∃ h,∃ i:I6,∃ j k l m,f=.returned (.agg (iv h :: i.on [iv j,.slice k l m]:List Value).toArray)/\aK (qd c 0) 0 (iv h :: i.on [iv j,.slice k l m]) g λ f=>∃ g,∃ h:I6,∃ i j k l,af f (qd c 0) 0 (iv g :: h.on [iv i,.slice j k l])/\K (.tuple #[.agg (iv g :: h.on [iv i,.slice j k l]:List Value).toArray,.bool true]) f))/\CC 40 #[qp a,iv b] d λ c d=>∃ f,c=.returned (.bool f)/\cond (!f) (e true d) (0<=b/\b<8/\∃ c,d.cell? (Addr.add (Addr.add (qd a 10) ((b).toNat*11)) 9)=some (.bool c)/\e (!c) d)
theorem qC{b1 n1 w K}(h:lq b1 n1 w K):CP 20 #[.pointer (some ⟨b1,0,none⟩),iv n1] w K:=ah (az [(6,[(19,.s .bool)])]) func20 (by kernel_rfl) (by kernel_rfl) h
def iX(a:Nat)(w:World)(K:KP):=∃ b,w.cell? (qd a 100)=some (.int .u64 b)/\K (.int .u64 b) w
theorem nK{b1 w K}(h:iX b1 w K):CP 9 #[.pointer (some ⟨b1,0,none⟩)] w K:=ah (az []) func9 (by kernel_rfl) (by kernel_rfl) h
def mV(a:Nat)(b:Int)(w:World)(K:KP):=CC 40 #[qp a,iv b] w λ c d=>∃ e,c=.returned (.bool e)/\cond e (0<=b/\b<8/\∃ c,d.cell? (Addr.add (Addr.add (qd a 10) ((b).toNat*11)) 10)=some (.bool c)/\K (.bool c) d) (K (.bool false) d)
theorem rZ{b1 n1 w K}(h:mV b1 n1 w K):CP 14 #[.pointer (some ⟨b1,0,none⟩),iv n1] w K:=ah (az []) func14 (by kernel_rfl) (by kernel_rfl) h
def pe(a:Nat)(b:Int)(w:World)(K:KP):=cond (decide (b>=0)) (∃ c d e,w.cell? (qd a 6)=some (.slice c d e)/\K (.bool (decide (b<(d:Int)))) w) (K (.bool false) w)
theorem tV{b1 n1 w K}(h:pe b1 n1 w K):CP 40 #[.pointer (some ⟨b1,0,none⟩),iv n1] w K:=ah (az []) func40 (by kernel_rfl) (by kernel_rfl) h
def kD(a:Nat)(w:World)(K:KP):=∃ b,w.cell? (qd a 18)=some (.bool b)/\K (.bool b) w
theorem qk{b1 w K}(h:kD b1 w K):CP 17 #[.pointer (some ⟨b1,0,none⟩)] w K:=ah (az []) func17 (by kernel_rfl) (by kernel_rfl) h
theorem M0(S:Sx)(C:Ck)(i:Nat):dr S.er C.er i=dr S C i:=by
 unfold dr;rw[Jx,dV];show Ju (qL C i)++(if (S.bd.getD i bF).has=true then (if oM (S.bd.getD i bF).x.er (aQ S.s.ps)=0 then oN (S.bd.getD i bF).x.er (aQ S.s.ps) else []) else [])=_;rw[GQ,GR]
theorem OY(S:Sx)(C:Ck)(i:Nat):CO S.er C.er i=CO S C i:=by
 unfold CO;rw[M0,dV]; rfl
theorem GO(S:Sx)(C:Ck):aS S.er C.er=aS S C:=by
 unfold aS uz;have e:(λ i=>if i<S.er.s.bd.length then CO S.er C.er i else [])=λ i=>if i<S.s.bd.length then CO S C i else []:=by
  funext i
  rw[OY]; rfl
 rw[e]; rfl
structure Al (S:Se) (i:Nat) (y:Br) (l:List KV):Prop where
 v:∀ p∈l,(1<=p.2/\p.2<=1000000)/\cD S i y p.1=0
 n:(l.map (·.1)).Nodup
theorem K8{l:List KV}{u:I6}{v:Int}{p:KV}(h:p∈j6 l u v):p∈l\/p=(u,v):=by
 unfold j6 at h
 split at h
 ·obtain⟨q,hq,rfl⟩:=List.mem_map.1 h
  split
  ·exact .inr rfl
  ·exact .inl hq
 ·rcases List.mem_append.1 h with h|h
  ·exact .inl h
  ·exact .inr (List.mem_singleton.1 h)
theorem Ny{l:List KV}(hn:(l.map (·.1)).Nodup)(u:I6)(v:Int):((j6 l u v).map (·.1)).Nodup:=by
 unfold j6
 split
 ·have e:(l.map λ p=>if p.1=u then (u,v) else p).map (·.1)=l.map (·.1):=by
   rw[List.map_map];refine List.map_congr_left λ p _=>?_;show(if p.1=u then (u,v) else p).1=p.1
   split
   ·rename_i h; exact h.symm
   ·rfl
  rw[e]; exact hn
 ·rename_i g;rw[List.map_append,List.nodup_append];refine⟨hn,by simp,λ a ha b hb=>?_⟩;obtain⟨p,hp,rfl⟩:=List.mem_map.1 ha;have hx:bL l u=none:=by simpa using g
  have:=vA hx p hp;simp at hb; subst hb; exact this
theorem Is{S:Se}{i:Nat}{y:Br}{l:List KV}(h:Al S i y l)(u:I6)(v:Int):Al S i y (vj S i y l u v):=by
 unfold vj
 split
 ·exact h
 ·rename_i g;have h1:1<=v/\v<=1000000:=by
   by_cases h1:v<1\/v>1000000
   ·exact absurd (.inl h1) g
   ·omega
  have h2:cD S i y u=0:=by
   by_cases h2:cD S i y u=0
   ·exact h2
   ·exact absurd (.inr (.inl h2)) g
  refine⟨λ p hp=>?_,Ny h.n u _⟩;rcases K8 hp with hp|rfl
  ·exact h.v p hp
  ·refine⟨?_,h2⟩;show 1<=(if v>(bL l u).getD 0 then v else (bL l u).getD 0)/\_<=_;have h3:(bL l u).getD 0<=1000000:=by
    cases hx:bL l u with
    | none=>show(0:Int)<=1000000; decide
    | some x=>exact(h.v _ (vB hx)).1.2
   show 1<=(if v>(bL l u).getD 0 then v else (bL l u).getD 0)/\(if v>(bL l u).getD 0 then v else (bL l u).getD 0)<=1000000
   split<;>omega
theorem A2{S:Sx}{i:Nat}:∀ {m:List Of} {l:List KV},Al S.s i (S.s.bd.getD i zV) l->Al S.s i (S.s.bd.getD i zV) (m.foldl (rT S i) l)
 | [],_,h=>h
 | o :: m,l,h=>A2 (m:=m) (l:=rT S i l o) (Is h o.want o.v)
theorem C4(S:Sx)(C:Ck)(i:Nat):Al S.s i (S.s.bd.getD i zV) (CO S C i):=by
 have h0:Al S.s i (S.s.bd.getD i zV) []:=⟨λ p hp=>(by cases hp),by simp⟩;unfold CO
 split
 ·exact h0
 ·exact A2 h0
theorem QT{S:Se}{i:Nat}{y:Br}{u:I6}(h:cD S i y u=0):u.l.all j8=true:=by
 unfold cD at h
 split at h
 ·assumption
 ·cases h
theorem yX{L:List (List KV)}{o:Of}:∀ {k:Nat},o∈ru L k->∃ i,i<k/\∃ p∈L.getD i [],o=EH i p
 | 0,h=>by cases h
 | k+1,h=>by
  rw[ru] at h;rcases List.mem_append.1 h with h|h
  ·obtain⟨i,hi,hp⟩:=yX h;exact⟨i,by omega,hp⟩
  ·have h2:=(dZ _).mem_iff.1 h;obtain⟨p,hp,rfl⟩:=List.mem_map.1 h2;exact⟨k,by omega,p,hp,rfl⟩
theorem Gf{L:List (List KV)}(h:∀ l∈L,(l.map (·.1)).Nodup):∀ k,((ru L k).map j0).Nodup
 | 0=>List.Pairwise.nil
 | k+1=>by
  rw[ru,List.map_append,List.nodup_append];have hk:((L.getD k []).map (·.1)).Nodup:=by
   rw[List.getD_eq_getElem?_getD]
   cases hx:L[k]? with
   | none=>exact List.Pairwise.nil
   | some l=>exact h l (List.mem_of_getElem? hx)
  refine⟨Gf h k,?_,λ a ha b hb=>?_⟩
  ·refine((dZ _).map j0).nodup_iff.2 ?_;rw[List.map_map];unfold List.Nodup at hk ⊢;rw[List.pairwise_map] at hk ⊢;exact hk.imp λ h e=>h (congrArg Prod.snd e)
  ·obtain⟨x,hx,rfl⟩:=List.mem_map.1 ha;obtain⟨y,hy,rfl⟩:=List.mem_map.1 hb;obtain⟨i,hi,p,_,rfl⟩:=yX hx;obtain⟨q,_,rfl⟩:=List.mem_map.1 ((dZ _).mem_iff.1 hy);intro e;have:(i:Int)=(k:Int):=congrArg Prod.fst e;omega
theorem Jp{S:Sx}{C:Ck}{k:Nat}:∀ l∈uz S C k,(l.map (·.1)).Nodup:=λ l hl=>by
 obtain⟨i,_,rfl⟩:=List.mem_map.1 hl
 split
 ·exact(C4 S C i).n
 ·exact List.Pairwise.nil
theorem tA{S:Sx}{C:Ck}{o:Of}(h:o∈aS S C):∃ i:Nat,i<S.s.bd.length/\(S.bd.getD i bF).out=false/\o.b=i/\(1<=o.v/\o.v<=1000000)/\cD S.s i (S.s.bd.getD i zV) o.want=0:=by
 unfold aS at h
 split at h
 ·cases h
 ·obtain⟨i,hi,p,hp,rfl⟩:=yX h;rw[gT] at hi;rw[List.getD_eq_getElem?_getD,rC hi,if_pos hi] at hp;have hg:=(C4 S C i).v p hp;refine⟨i,hi,?_,rfl,hg.1,hg.2⟩
  cases ho:(S.bd.getD i bF).out with
  | false=>rfl
  | true =>
   have hp:p∈CO S C i:=hp;rw[CO,if_pos ho] at hp
   cases hp
theorem GP{S:Sx}{C:Ck}(hs:S.s.Ok):N0 S.s (aS S C):=by
 have z2:=hs.bd.l2;refine⟨?_,λ o h=>?_,λ o h=>?_,λ o h=>?_,?_⟩
 ·unfold aS
  split
  ·show 0<=320; decide
  ·have:=xM (L:=uz S C S.s.bd.length) Gj (uz S C S.s.bd.length).length;rw[gT] at this;show(ru _ (uz S C S.s.bd.length).length).length<=320;rw[gT]; omega
 ·obtain⟨i,hi,_,hb,_⟩:=tA h; omega
 ·obtain⟨i,hi,_,hb,hv,_⟩:=tA h; exact hv
 ·obtain⟨i,hi,_,hb,hv,ha⟩:=tA h; exact QT ha
 ·show((aS S C).map j0).Nodup;unfold aS
  split
  ·exact List.Pairwise.nil
  ·exact Gf Jp _
theorem DD(S:Se)(x:Of):mO S.er x=mO S x:=by unfold mO cD; rfl
theorem Kf(S:Se)(l:List Of):∀ k,iH S.er l k=iH S l k
 | 0=>rfl
 | k+1=>by rw[iH,iH,DD,Kf S l k]; rfl
theorem Ke(S:Se)(l:List Of):∀ k,rP S.er l k=rP S l k
 | 0=>rfl
 | k+1=>by rw[rP,rP,DD,Ke S l k]
theorem Hi{S:Sx}{C:Ck}{w w' : World}(h:vD S C w)(hc:aA w w' []):vD S C w' :=
 ⟨⟨h.h.1.av hc,λ y hy=>(h.h.2 y hy).av hc⟩,λ q hq=>let ⟨g,e,r⟩:=h.k q hq; ⟨g,e,r.av hc⟩⟩
section
variable {w0 w:World} {b:Nat} {S:Sx} {C:Ck} {B:aD}
theorem y9(s:St w0 w (star (o6 b S C) B)):CP 16 #[pt b] w (λ r w'=>r=iv S.ph/\w' = w):=by
 refine o9 ?_;unfold jQ;obtain⟨S',C',rfl,rfl,hk,s1⟩:=gY s;exact⟨_,(s1.ag 0 rfl 4).trans rfl,rfl,rfl⟩
theorem Qu{S:Sx}(h:S.bd.length=8):S.cells.toArray[100]?=some (.int .u64 S.dig):=by
 obtain⟨o,ph,s,k,bd,dec,cnt,dig⟩:=S;obtain⟨b0,b1,b2,b3,b4,b5,b6,b7,rfl⟩:=bB h;rfl
theorem yp(s:St w0 w (star (o6 b S C) B))(hok:p7 S C):CP 9 #[pt b] w (λ r w'=>r=.int .u64 S.dig/\w' = w):=by
 refine nK ?_;unfold iX;obtain⟨S',C',rfl,rfl,hk,s1⟩:=gY s;have h8:S'.bd.length=8:=(rY hok).b8;exact⟨_,(s1.ag 0 rfl 100).trans (Qu h8),rfl,rfl⟩
theorem AV(s:St w0 w (star (o6 b S C) B))(hok:p7 S C):CP 13 #[pt b] w (λ r w'=>∃ a c,r=.slice a (aS S C).length c/\St w w' (star (bf a c (aS S C)) emp)):=by
 obtain⟨S',C',rfl,rfl,hk,s1⟩:=gY s;rw[GO];exact zB (s1.cellsIn 0 rfl) (s1.bK 1 rfl) (rY hok) hk
theorem Nc(s:St w0 w (star (o6 b S C) B))(hok:p7 S C)(hp:S.ph=3):CP 23 #[pt b] w (λ r w' =>
  (160<(iH S.s (aS S C) (aS S C).length).length/\r=.tuple #[.agg um,.slice none 0 0,iv 3]/\aA w w' [])\/((iH S.s (aS S C) (aS S C).length).length<=160/\∃ (a1 a2 a3:OA) (c1 c2 c3:Nat),r=.tuple #[.agg (zT (aQ S.s.ps) (wq S.s.ps S.s.sa).1 (wq S.s.ps S.s.sa).2 (.slice a1 (S.s.bd.map Br.cls).length c1) (.slice a2 (iH S.s (aS S C) (aS S C).length).length c2)),.slice a3 (rP S.s (aS S C) (aS S C).length).length c3,iv 0] /\
   St w w' (Sep [tP a3 c3 (rP S.s (aS S C) (aS S C).length),tP a1 c1 (S.s.bd.map Br.cls),bf a2 c2 (iH S.s (aS S C) (aS S C).length),emp]))):=by
 refine mz ?_;unfold gQ;obtain⟨S',C',rfl,rfl,hk,s1⟩:=gY s;have hok' : p7 S' C':=rY hok;have hp' : S'.ph=3:=hp;have hs:=hok'.so (by omega);rw[GO,show iH S'.er.s (aS S' C') (aS S' C').length=iH S'.s (aS S' C') (aS S' C').length from Kf _ _ _,show rP S'.er.s (aS S' C') (aS S' C').length=rP S'.s (aS S' C') (aS S' C').length from Ke _ _ _];refine(St.start w).one.ax um λ r1 w1 k1=>?_;have hb:=s1.cellsIn 0 rfl;have hS:=s1.bK 1 rfl;refine⟨λ x w2=>x=false/\w2=w1,?_,_,xF hb k1.av 4 rfl,cF (by rw[hp']; rfl) ⟨rfl,rfl⟩⟩;rintro w2 x ⟨rfl,rfl⟩ -;have k2:=k1.quiet (aA.drew w2 []);have hS2:vD S' C' w2.drew:=Hi hS k2.av;refine cF rfl ⟨_,_,_,_,_,_,_,_,_,_,_,_,K2 hb k2.av,aj (zB (bC k2.av hb) hS2 hok' hk) ?_⟩;rintro _ w4 ⟨a,c,rfl,k4⟩;have k5:St w w4 (Sep [bf a c (aS S' C'),ai r1 um 67,emp]):=St.cat (l:=[bf a c (aS S' C')]) (k2.and k4);refine⟨_,_,_,rfl,K2 hb k5.av,aj (L8 (Hi hS k5.av).h.1 hs (St.rd Of.len k5) (GP hs)) ?_⟩;rintro _ w5 (⟨h160,rfl,c5⟩|⟨h160,a1,a2,a3,c1,c2,c3,rfl,k6⟩)
 ·have k7:=k5.quiet c5;exact⟨z6,z6,z6,_,_,_,_,_,_,_,_,_,_,rfl,k7.ay 1 rfl um.toList rfl (u7 _ _ _ rfl rfl) λ w6 k8=>⟨z6,z6,z6,_,_,_,_,_,_,k8.cellsIn 1 rfl,.inl ⟨h160,rfl,k8.av⟩⟩⟩
 ·have k7:St w w5 (Sep [tP a3 c3 (rP S'.s (aS S' C') (aS S' C').length),tP a1 c1 (S'.s.bd.map Br.cls),bf a2 c2 (iH S'.s (aS S' C') (aS S' C').length),emp,bf a c (aS S' C'),ai r1 um 67,emp]):=St.cat (l:=[tP a3 c3 (rP S'.s (aS S' C') (aS S' C').length),tP a1 c1 (S'.s.bd.map Br.cls),bf a2 c2 (iH S'.s (aS S' C') (aS S' C').length),emp]) (k5.and k6);refine⟨aQ S'.s.ps,(wq S'.s.ps S'.s.sa).1,(wq S'.s.ps S'.s.sa).2,_,_,_,_,_,_,_,_,_,_,rfl,k7.ay 5 rfl (zT (aQ S'.s.ps) (wq S'.s.ps S'.s.sa).1 (wq S'.s.ps S'.s.sa).2 (.slice a1 (S'.s.bd.map Br.cls).length c1) (.slice a2 (iH S'.s (aS S' C') (aS S' C').length).length c2)).toList rfl (u7 _ _ _ rfl rfl) λ w6 k8=>⟨aQ S'.s.ps,(wq S'.s.ps S'.s.sa).1,(wq S'.s.ps S'.s.sa).2,_,_,_,_,_,_,k8.cellsIn 5 rfl,.inr ⟨h160,a1,a2,a3,c1,c2,c3,rfl,k8.au [0,1,2,9]⟩⟩⟩
theorem Od(s:St w0 w (star (o6 b S C) B)){i:Nat}:CP 40 #[pt b,iv i] w (λ r w'=>r=.bool (decide ((i:Int)<(S.s.bd.length:Int)))/\w' = w):=by
 refine tV ?_;unfold pe;obtain⟨S',C',rfl,rfl,hk,s1⟩:=gY s;exact cT (dT (by omega)) ⟨S'.s.a2,S'.s.bd.length,S'.s.c2,(s1.ag 0 rfl 6).trans rfl,rfl,rfl⟩
theorem PX(s:St w0 w (star (o6 b S C) B))(hok:p7 S C){i:Nat}(hi:i<S.s.bd.length)(h8:i<8):CP 14 #[pt b,iv i] w (λ r w'=>r=.bool (S.bd.getD i bF).out/\w' = w):=by
 refine rZ ?_;unfold mV;refine aj (Od s) ?_;rintro _ w1 ⟨rfl,rfl⟩;obtain⟨S',C',rfl,rfl,hk,s1⟩:=gY s;have e8:S'.bd.length=8:=(rY hok).b8;refine⟨_,rfl,cT (dT (by omega)) ⟨by omega,by omega,(S'.bd.getD i bF).out,?_,?_,rfl⟩⟩
 ·rw[N2,bw,s1.ag 0 rfl];exact FX e8 h8 (getD_at (by omega))
 ·rw[dV]; rfl
theorem Mt(s:St w0 w (star (o6 b S C) B))(hok:p7 S C){i:Nat}(h8:i<8)(hh:(S.bd.getD i bF).has=false) :
  CP 20 #[pt b,iv i] w (λ r w'=>r=.tuple #[.agg cI.cells.toArray,.bool false]/\aA w w' []):=by
 refine qC ?_;unfold lq;obtain⟨S',C',rfl,rfl,hk,s1⟩:=gY s;have e8:S'.bd.length=8:=(rY hok).b8;rw[dV] at hh;have hh:(S'.bd.getD i bF).has=false:=hh;refine(St.start w).one.ax cI.cells.toArray λ r1 w1 k1=>⟨λ x w2=>x=true/\w2=w1,?_,?_⟩
 ·rintro w2 x ⟨rfl,rfl⟩ -;exact cT rfl (k1.ay 0 rfl cI.cells rfl (Xv.one _) λ w3 k3=>⟨_,z6,_,_,_,_,k3.cellsIn 0 rfl,rfl,k3.av⟩)
 ·have s2:St w0 w1 (star (o6 b S'.er C'.er) B):=s.quiet k1.av;refine aj (Od s2) ?_;rintro _ w3 ⟨rfl,rfl⟩;refine⟨_,rfl,?_⟩
  by_cases hi:(i:Int)<(S'.er.s.bd.length:Int)
  ·refine cF (by rw[dT hi]; rfl) ⟨by omega,by omega,false,?_,rfl,rfl⟩;rw[N2,bw,<- hh];have:=(s1.quiet k1.av).ag 0 rfl (10+i*11+9);rw[this];exact FV e8 h8 (getD_at (l:=S'.bd) (n:=i) (d:=bF) (by omega))
  ·exact cT (by rw[dF hi]; rfl) ⟨rfl,rfl⟩
theorem Dj(s:St w0 w (star (o6 b S C) B))(hok:p7 S C):CP 15 #[pt b] w (λ r w'=>(S.ph=0/\r=.pointer none/\aA w w' [])\/(S.ph≠0/\∃ (g:Nat) (C' : Ck),r=pt g/\C'.er=C/\St w w' (held (C'.Rd g)))):=by
 obtain⟨S1,C1,rfl,rfl,hk,s1⟩:=gY s;have hok' : p7 S1 C1:=rY hok;refine aj (K3 (s1.cellsIn 0 rfl) hok'.b8 (s1.bK 1 rfl) hok' hk) ?_;rintro v w1 ⟨p,C',rfl,e1,e2,e3⟩
 by_cases h0:S1.ph=0
 ·have h1:p=none:=e2.1 h0;subst h1;exact⟨_,rfl,.inl ⟨h0,rfl,St.av e3⟩⟩
 ·obtain⟨g,hg⟩:=e2.2 h0;have hg:p=some ⟨g,0,none⟩:=hg;subst hg;have e4:St w w1 (Sep (dI g C')):=e3;exact⟨_,rfl,.inr ⟨h0,g,C',rfl,e1,e4.weak (gR.weak yj)⟩⟩
end
theorem MH{b:Nat}{C:Ck}{w:World}(h:C.Rd b w):CP 17 #[pt b] w (λ r w'=>r=.bool C.ov/\w' = w):=by
 refine qk ?_;unfold kD;exact⟨_,h.cell 18 rfl,rfl,rfl⟩
def vE:Po:=⟨1,0,1,2⟩
def nj:List Ev:=[⟨1,0,0,z6,[112,114,111,100,117,99,116,32,97,32,49,32,48,32,49,32,48,10,98,105,100,100,101,114,32,120,32,48,32,48,32,53,10,98,105,100,100,101,114,32,121,32,48,32,48,32,53,10],0⟩,⟨4,0,0,z6,[],0⟩,⟨5,1,0,z6,[123,97,58,49,125,64,55],0⟩,⟨9,0,0,z6,[],0⟩]
def QF:Ev:=⟨3,0,0,z6,[],0⟩
def Jl:Ev:=⟨10,0,0,z6,[],9⟩
theorem Q0:lP (gW vE) IY QF=10:=by kernel_rfl
theorem R1:(List.range 4).all (λ k=>lP (made vE (nj.take k)).1 (made vE (nj.take k)).2 (nj.getD k QF)==0)=true:=by kernel_rfl
theorem ET:∀ e∈nj,e.In:=by
 intro e he;simp only[nj,List.mem_cons,List.mem_nil_iff,or_false] at he;rcases he with rfl|rfl|rfl|rfl<;>exact⟨by show(0:Int)<=0; decide,by show(0:Int)<18446744073709551616; decide⟩
structure Sr (S:Sx) (C:Ck):Prop where
 o:aS S C=[⟨1,⟨1,0,0,0,0,0⟩,7⟩]
 k:(iH S.s [⟨1,⟨1,0,0,0,0,0⟩,7⟩] 1).length=1
 p:S.ph=3
 d:(S.dig !=0)=true
 a:lP S C Jl=0
 q:(pM S C Jl).1.ph=4
 ok:p7 S C
theorem QX:aS (made vE nj).1 (made vE nj).2=[⟨1,⟨1,0,0,0,0,0⟩,7⟩]:=by kernel_rfl
theorem QW:(iH (made vE nj).1.s [⟨1,⟨1,0,0,0,0,0⟩,7⟩] 1).length=1:=by kernel_rfl
theorem QY:(made vE nj).1.ph=3:=by kernel_rfl
theorem QV:((made vE nj).1.dig !=0)=true:=by kernel_rfl
theorem QU:lP (made vE nj).1 (made vE nj).2 Jl=0:=by kernel_rfl
theorem QZ:(pM (made vE nj).1 (made vE nj).2 Jl).1.ph=4:=by kernel_rfl
theorem SB:Sr (made vE nj).1 (made vE nj).2:=⟨QX,QW,QY,QV,QU,QZ,tv vE nj ET⟩
abbrev nT:Prop:=∀ w,CP 7 #[] w (λ r w'=>r=.bool true/\aA w w' [])
theorem Qe(w:World):CP 22 #[] w (λ r w'=>∃ r1:Nat,r=.slice (some ⟨r1,0,none⟩) 4 4/\St w w' (Sep [ai r1 (nj.flatMap Ev.cells).toArray 36,emp])):=by
 refine Ac ?_;unfold yR;exact(St.start w).one.ax (nj.flatMap Ev.cells).toArray λ r1 w1 s1=>⟨r1,rfl,s1.au [0,9]⟩
theorem Nt{w0 w:World}{l:List aD}{r1:Nat}(s1:St w0 w (Sep l))(i:Nat)(e:l[i]?=some (ai r1 (nj.flatMap Ev.cells).toArray 36)):cW 11 Ev.cells w (some ⟨r1,0,none⟩) nj:=λ j x hx=>by
 match j,hx with
 | 0,rfl=>exact⟨_,_,rfl,by rw[bw]; exact s1.aF i 0 e rfl,rfl,rfl⟩
 | 1,rfl=>exact⟨_,_,rfl,by rw[bw]; exact s1.aF i 11 e rfl,rfl,rfl⟩
 | 2,rfl=>exact⟨_,_,rfl,by rw[bw]; exact s1.aF i 22 e rfl,rfl,rfl⟩
 | 3,rfl=>exact⟨_,_,rfl,by rw[bw]; exact s1.aF i 33 e rfl,rfl,rfl⟩
theorem B7{w0 w:World}{L:List aD}(s:St w0 w (Sep L))(o:Po):CP 8 #[o.v] w (λ r w'=>∃ b,r=pt b/\St w0 w' (Sep (o6 b (gW o) IY :: L))):=by
 refine aj (Qp w o) ?_;rintro v w2 ⟨b,rfl,k2⟩;have s2:St w0 w2 (Sep (ai b (gW o).cells.toArray 80 :: L)):=St.cat (l:=[ai b (gW o).cells.toArray 80]) (s.and k2);have s3:St w0 w2 (star (held (vD (gW o) IY)) (star (ai b (gW o).cells.toArray 80) (Sep L))):=s2.vT (MW o);exact⟨_,rfl,b,rfl,Cu (MV o) rfl ⟨λ _=>rfl,λ h=>absurd rfl h⟩ s3.zU.p4⟩
theorem uw{S:Sx}{C:Ck}{e:Ev}(h:lP S C e≠0):pM S C e=(S,C):=by rw[pM,if_neg h]
set_option maxHeartbeats 1000000 in
theorem ux:nT:=by
 intro w;refine yP ?_;unfold vV;refine aj (B7 (St.start w).one vE) ?_;rintro _ w1 ⟨b,rfl,s1⟩;refine⟨_,rfl,λ x w2=>x=false/\St w w2 (Sep (o6 b (gW vE) IY :: [emp])),?_,cF rfl (aj (cq s1 (Fj vE) (e:=QF) ⟨by show(0:Int)<=0; decide,by show(0:Int)<18446744073709551616; decide⟩) ?_)⟩
 rotate_left
 ·rintro _ w14 ⟨rfl,s14⟩;rw[Q0];rw[uw (by rw[Q0]; decide)] at s14;refine⟨_,rfl,cF rfl (aj (yp s14 (Fj vE)) ?_)⟩;rintro _ w15 ⟨rfl,rfl⟩;exact⟨_,rfl,rfl,s14⟩
 rintro w2 x ⟨rfl,s2⟩ -;refine cF rfl (aj (Qe w2) ?_);rintro _ w3 ⟨r1,rfl,k3⟩;have s3:St w w3 (Sep [o6 b (gW vE) IY,ai r1 (nj.flatMap Ev.cells).toArray 36,emp]):=(St.cat (l:=[ai r1 (nj.flatMap Ev.cells).toArray 36,emp]) (s2.and k3)).au [2,0,9];refine⟨_,_,_,rfl,λ n w4 m=>∃ k:Nat,n=k/\k<=4/\m=4-k/\St w w4 (Sep [o6 b (made vE (nj.take k)).1 (made vE (nj.take k)).2,ai r1 (nj.flatMap Ev.cells).toArray 36,emp]),⟨4,0,rfl,by omega,by omega,s3⟩,?_⟩;rintro w4 m n ⟨k,rfl,hk,hm,s4⟩ -
 by_cases hlt:(k:Int)<((4:Nat):Int)
 ·have hx:nj[k]?=some (nj.getD k QF):=getD_at (by show k<4; omega);have he:=List.all_eq_true.1 R1 k (by simp; omega);have he:lP (made vE (nj.take k)).1 (made vE (nj.take k)).2 (nj.getD k QF)=0:=by simpa using he
  generalize nj.getD k QF=e at hx he;obtain⟨q,hq,hcl⟩:=(Nt s4 1 rfl).at hx;have hok:=tv vE (nj.take k) λ e he=>ET e (List.mem_of_mem_take he);refine cT (dT hlt) (ak hq ⟨by omega,by omega,e.kind,e.bidder,e.round,e.want,bs e.text,e.digest,hcl,aj (cq s4 hok (ET e (List.mem_of_getElem? hx))) ?_⟩);rintro _ w5 ⟨rfl,s5⟩;rw[he];refine⟨_,rfl,cF rfl ⟨4-(k+1),by omega,k+1,aB ⟨by omega,by omega⟩,by omega,rfl,?_⟩⟩;rw[aG hx,pT];exact s5
 obtain rfl:k=4:=by omega
 rw[show nj.take 4=nj from rfl] at s4;obtain⟨S,C,eq,F⟩:∃ S C,made vE nj=(S,C)/\Sr S C:=⟨_,_,rfl,SB⟩;rw[eq] at s4;have s4:St w w4 (Sep [o6 b S C,ai r1 (nj.flatMap Ev.cells).toArray 36,emp]):=s4;have hok:=F.ok;have e1:(iH S.s (aS S C) (aS S C).length).length=1:=by rw[F.o]; exact F.k
 have e2:(rP S.s (aS S C) (aS S C).length).length=1:=(E8 _ _ _).1.trans e1;refine cF rfl (aj (AV s4 hok) ?_);rintro _ w6 ⟨a2,c2,rfl,k6⟩;have s6:St w w6 (Sep [o6 b S C,bf a2 c2 (aS S C),emp]):=(St.cat (l:=[bf a2 c2 (aS S C)]) (s4.and k6)).au [1,0,9];refine⟨_,_,_,rfl,aj (Nc s6 hok F.p) ?_⟩;generalize hO:iH S.s (aS S C) (aS S C).length=O at e1;generalize hI:rP S.s (aS S C) (aS S C).length=I at e2;rw[F.o] at s6 ⊢;rintro _ w7 (⟨h160,_⟩|⟨_,a1,a5,a3,c1,c5,c3,rfl,k7⟩)
 ·rw[e1] at h160; omega
 have s7:=s6.quiet k7.av;refine⟨aQ S.s.ps,(wq S.s.ps S.s.sa).1,(wq S.s.ps S.s.sa).2,_,_,_,_,_,_,_,_,_,_,rfl,s7.ax um λ r9 w8 s8=>s8.ay 0 rfl (zT (aQ S.s.ps) (wq S.s.ps S.s.sa).1 (wq S.s.ps S.s.sa).2 (.slice a1 (S.s.bd.map Br.cls).length c1) (.slice a5 O.length c5)).toList rfl (u7 _ _ _ rfl rfl) λ w9 s9=>aj (y9 (s9.out 1 rfl)) ?_⟩;rintro _ w10 ⟨rfl,rfl⟩;obtain⟨q,hq,hc⟩:=(St.rd Of.len (s9.out 2 rfl)).at (i:=0) rfl;refine⟨_,rfl,cT (by rw[F.p]; rfl) (cT rfl (ak hq ⟨by decide,by decide,_,⟨1,0,0,0,0,0⟩,_,hc,cT rfl ⟨_,_,_,s9.ag 0 rfl 19,cT (by rw[e1]; rfl) (cT (by rw[e2]; rfl) (cT rfl (aj (yp (s9.out 1 rfl) hok) ?_)))⟩⟩))⟩;rintro _ w11 ⟨rfl,rfl⟩;refine⟨_,rfl,cT F.d (aj (cq (s9.out 1 rfl) hok (e:=Jl) ⟨by show(0:Int)<=9; decide,by show(9:Int)<18446744073709551616; decide⟩) ?_)⟩;rintro _ w12 ⟨rfl,s12⟩;rw[F.a];refine⟨_,rfl,cT rfl (aj (y9 s12) ?_)⟩;rintro _ w13 ⟨rfl,rfl⟩;rw[F.q];exact⟨_,rfl,rfl,s12.av⟩
theorem yL{w:World}{a:OA}{c:Nat}{l:List Ev}(h:cW 11 Ev.cells w a l) :
  CP 6 #[.slice a l.length c] w (λ r w'=>∃ b:Bool,r=.bool b/\w' = w/\(b=false->l.length<=120)):=by
 refine yQ ?_;unfold vW
 by_cases g:(l.length:Int)>120
 ·exact cT (dT g) ⟨true,rfl,rfl,λ h=>by cases h⟩
 refine cF (dF g) ⟨λ n w' m=>∃ k:Nat,n=k/\k<=l.length/\m=l.length-k/\w' = w,⟨l.length,0,rfl,by omega,by omega,rfl⟩,?_⟩;rintro w' m n ⟨k,rfl,hk,hm,rfl⟩ -
 by_cases hlt:(k:Int)<(l.length:Int)
 ·have hx:l[k]?=some (l[k]'(by omega)):=gE (by omega);generalize l[k]'(by omega)=e at hx;obtain⟨q,hq,hcl⟩:=h.at hx;have hc:=aL hcl 9 (sv e.text) rfl;refine cT (dT hlt) (ak hq ⟨by omega,by omega,bs e.text,hc,?_⟩)
  by_cases g2:(((bs e.text).size:Nat):Int)>5000
  ·exact cT (dT g2) ⟨true,rfl,rfl,λ h=>by cases h⟩
  ·exact cF (dF g2) ⟨l.length-(k+1),by omega,k+1,aB ⟨by omega,by omega⟩,by omega,rfl,rfl⟩
 ·exact cF (dF hlt) ⟨false,rfl,rfl,λ _=>by omega⟩
theorem fE(aw:nT){w0 w:World}(hc:aA w0 w []):CC 7 #[] w (λ e w'=>∃ b,e=.returned (.bool b)/\(Value.bool b=.bool true/\aA w0 w' [])) :=
 aj (aw _) λ v w'' ⟨h1,h2⟩=>by subst h1; exact⟨true,rfl,rfl,hc.trans h2 (by simp)⟩
section
variable {w:World} {a:OA} {c:Nat} {l:List Ev}
theorem Dp(aw:nT)(o:Po)(h:cW 11 Ev.cells w a l)(hi:∀ e∈l,e.In) :
  CP 3 #[o.v,.slice a l.length c] w (λ r w'=>r=.bool true/\aA w w' []):=by
 refine nv ?_;unfold iI;refine(St.start w).one.ax o.cells.toArray λ r1 w1 s1=>aj (yL (h.av s1.av)) ?_;rintro _ w2 ⟨gb,rfl,rfl,hle⟩;refine⟨_,rfl,?_⟩
 cases gb with
 | true=>exact cT rfl (fE aw s1.av)
 | false =>
 have hle:=hle rfl;refine cF rfl ⟨_,_,_,_,s1.cellsIn 0 rfl,aj (B7 s1 o) ?_⟩;rintro _ w4 ⟨b,rfl,s4⟩;have s4:St w w4 (Sep [o6 b (gW o) IY,ai r1 o.cells.toArray 23,emp]):=s4;refine⟨_,rfl,λ d n w5 m=>∃ k:Nat,n=k/\k<=l.length/\m=l.length-k/\d=(made o (l.take k)).1.dig/\St w w5 (Sep [o6 b (made o (l.take k)).1 (made o (l.take k)).2,ai r1 o.cells.toArray 23,emp]),⟨l.length,0,rfl,by omega,by omega,rfl,s4⟩,?_⟩;rintro w5 m d n ⟨k,rfl,hk,hm,rfl,s5⟩ -;have hok:=tv o (l.take k) λ e he=>hi e (List.mem_of_mem_take he)
 by_cases hlt:(k:Int)<(l.length:Int)
 ·have hx:l[k]?=some (l[k]'(by omega)):=gE (by omega);generalize l[k]'(by omega)=e at hx;have he:=hi e (List.mem_of_getElem? hx);have em:made o (l.take (k+1))=pM (made o (l.take k)).1 (made o (l.take k)).2 e:=by rw[aG hx,pT]
  generalize(made o (l.take k)).1=S at s5 hok em;generalize(made o (l.take k)).2=C at s5 hok em;refine cT (dT hlt) ⟨λ d w6=>d=(pM S C e).1.dig/\St w w6 (Sep [o6 b (pM S C e).1 (pM S C e).2,ai r1 o.cells.toArray 23,emp]),?_,aj (yp s5 hok) ?_⟩
  ·rintro w6 d ⟨rfl,s6⟩ -;exact⟨l.length-(k+1),by omega,k+1,aB ⟨by omega,by omega⟩,by omega,rfl,by rw[em],by rw[em]; exact s6⟩
  rintro _ w7 ⟨rfl,rfl⟩;obtain⟨q,hq,hcl⟩:=(h.av s5.av).at hx;refine⟨_,rfl,ak hq ⟨by omega,by omega,e.kind,e.bidder,e.round,e.want,bs e.text,e.digest,hcl,aj (cq s5 hok he) ?_⟩⟩;rintro _ w8 ⟨rfl,s8⟩;refine⟨_,rfl,?_⟩;have hok2:=Bx hok he
  by_cases ha:lP S C e=0
  ·obtain⟨q2,hq2,hcl2⟩:=(h.av s8.av).at hx;have hev:=(mA (sJ ha).1).1;refine cT (by rw[ha]; rfl) (ak hq2 ⟨by omega,by omega,e.kind,e.bidder,e.round,e.want,bs e.text,e.digest,hcl2,aj (Ds w8 he) ?_⟩);rintro _ w9 ⟨rfl,c9⟩;rw[if_pos hev,hev];have s9:=s8.quiet c9;have hlen:=AF hev;have hd:((S.dig.toNat:Nat):Int)=S.dig:=Int.toNat_of_nonneg hok.dig.1;have hch:=Gn w9 S.dig.toNat (cE e) (by omega);rw[hd] at hch;refine⟨_,_,rfl,cF rfl (aj hch ?_)⟩;rintro _ w10 ⟨rfl,c10⟩;refine⟨_,rfl,?_,s9.quiet c10⟩;rw[pM,if_pos ha]; rfl
  ·refine cF (by simpa using ha) (aj (yp s8 hok2) ?_);rintro _ w11 ⟨rfl,rfl⟩;rw[uw ha] at s8 ⊢;exact⟨_,rfl,cF (by simp) ⟨rfl,s8⟩⟩
 ·obtain rfl:k=l.length:=by omega
  refine cF (dF hlt) (aj (yp s5 hok) ?_);rintro _ w12 ⟨rfl,rfl⟩;exact⟨_,rfl,cT (by simp) (fE aw s5.av)⟩
theorem DO(o:Po)(l:List Ev):(made o l).1.cnt<=l.length:=by
 suffices H:∀ (l:List Ev) (X:Sx×Ck),(FH l X).1.cnt<=X.1.cnt+l.length by
  have:=H l (gW o,IY);have e:(gW o,IY).1.cnt=0:=rfl;unfold made; omega
 intro l
 induction l with
 | nil=>intro X; show X.1.cnt<=X.1.cnt+(0:Nat); omega
 | cons e l ih =>
  intro X;have h1:=ih (pM X.1 X.2 e);have h2:(pM X.1 X.2 e).1.cnt<=X.1.cnt+1:=by
   unfold pM
   split
   ·exact Int.le_refl _
   ·show X.1.cnt<=X.1.cnt+1; omega
  have e1:FH (e :: l) X=FH l (pM X.1 X.2 e):=rfl;rw[e1,List.length_cons]; omega
theorem zD{S:Sx}{e:Ev}(h1:bY e=0)(h2:S.cnt<600)(h3:br e.kind=true)(h4:e.bidder<S.s.bd.length)(h5:(S.bd.getD e.bidder.toNat bF).out=true){C:Ck}:lP S C e=10:=by
 have hs:gz S e=10:=by
  unfold gz;rw[if_neg (by simpa using h1),if_neg (by omega)]
  by_cases hp:dB e.kind S.ph=false
  ·rw[if_pos hp]
  ·rw[if_neg hp,if_neg (λ g=>by omega),if_pos ⟨h3,h5⟩]
 rw[lP,hs]; rfl
theorem Et(n k:Nat)(h:k<1000)(hk:0<k):IntKind.i64.wrap (Int.tmod (n:Int) (k:Int))=((n%k:Nat):Int):=by
 have e:Int.tmod (n:Int) (k:Int)=((n%k:Nat):Int):=rfl;rw[e];have:=Nat.mod_lt n hk;exact aB ⟨by omega,by omega⟩
def wL(kd:Int)(k:Nat)(t:List UInt8):Ev:=⟨kd,k,0,z6,t,0⟩
theorem Mp:∀ k:Nat,k<8->bY (wL 7 k [])=0/\bY (wL 2 k [])=0/\bY (wL 5 k [123,97,58,49,125,64,49])=0
 | 0,_=>⟨by kernel_rfl,by kernel_rfl,by kernel_rfl⟩
 | 1,_=>⟨by kernel_rfl,by kernel_rfl,by kernel_rfl⟩
 | 2,_=>⟨by kernel_rfl,by kernel_rfl,by kernel_rfl⟩
 | 3,_=>⟨by kernel_rfl,by kernel_rfl,by kernel_rfl⟩
 | 4,_=>⟨by kernel_rfl,by kernel_rfl,by kernel_rfl⟩
 | 5,_=>⟨by kernel_rfl,by kernel_rfl,by kernel_rfl⟩
 | 6,_=>⟨by kernel_rfl,by kernel_rfl,by kernel_rfl⟩
 | 7,_=>⟨by kernel_rfl,by kernel_rfl,by kernel_rfl⟩
 | k+8,h=>absurd h (by omega)
theorem yu(kd:Int)(k:Nat)(t:List UInt8):(wL kd k t).In:=⟨by show(0:Int)<=0; decide,by show(0:Int)<18446744073709551616; decide⟩
theorem OT{S:Sx}{C:Ck}{k:Nat}(h:lP S C (wL 7 k [])=0):(pM S C (wL 7 k [])).1.s.bd=S.s.bd/\(pM S C (wL 7 k [])).1.cnt=S.cnt+1:=by
 rw[pM,if_pos h]; exact⟨rfl,rfl⟩
theorem Io{S:Sx}{C:Ck}{k:Nat}(hok:p7 S C)(hk:k<8)(h:lP S C (wL 7 k [])=0):((pM S C (wL 7 k [])).1.bd.getD k bF).out=true:=by
 have h8:=hok.b8;rw[pM,if_pos h];show((Gg S C (wL 7 k [])).er.bd.getD k bF).out=true;rw[dV];show((Gg S C (wL 7 k [])).bd.getD k bF).out=true;have e:(Gg S C (wL 7 k [])).bd=(aX (eD S k) k).bd:=rfl;rw[e];unfold aX eD;show(((S.bd.set k { S.bd.getD k bF with out:=true }).set k (vN ((S.bd.set k { S.bd.getD k bF with out:=true }).getD k bF))).getD k bF).out=true;simp[List.getD_eq_getElem?_getD,h8,hk,vN]
theorem JG(aw:nT)(o:Po){n:Int}(hn:0<=n)(h:cW 11 Ev.cells w a l)(hi:∀ e∈l,e.In) :
  CP 4 #[o.v,.slice a l.length c,.int .u8 n] w (λ r w'=>r=.bool true/\aA w w' []):=by
 obtain⟨nn,rfl⟩:=Int.eq_ofNat_of_zero_le hn;refine iJ ?_;unfold dP;have et:IntKind.i64.wrap (Int.tmod (nn:Int) (8:Int))=((nn%8:Nat):Int):=Et nn 8 (by decide) (by decide);have hi8:nn%8<8:=Nat.mod_lt _ (by decide);simp only[et];generalize nn%8=i at hi8;clear et;obtain⟨v7,v2,v5⟩:=Mp i hi8;refine(St.start w).one.ax o.cells.toArray λ r1 w1 s1=>aj (yL (h.av s1.av)) ?_;rintro _ w2 ⟨gb,rfl,rfl,hle⟩;refine⟨_,rfl,?_⟩
 cases gb with
 | true=>exact cT rfl (fE aw s1.av)
 | false =>
 have hle:=hle rfl;refine cF rfl ⟨_,_,_,_,s1.cellsIn 0 rfl,aj (B7 s1 o) ?_⟩;rintro _ w4 ⟨b,rfl,s4⟩;have s4:St w w4 (Sep [o6 b (gW o) IY,ai r1 o.cells.toArray 23,emp]):=s4;refine⟨_,rfl,λ n w5 m=>∃ k:Nat,n=k/\k<=l.length/\m=l.length-k/\St w w5 (Sep [o6 b (made o (l.take k)).1 (made o (l.take k)).2,ai r1 o.cells.toArray 23,emp]),⟨l.length,0,rfl,by omega,by omega,s4⟩,?_⟩;rintro w5 m n ⟨k,rfl,hk,hm,s5⟩ -;have hok:=tv o (l.take k) λ e he=>hi e (List.mem_of_mem_take he)
 by_cases hlt:(k:Int)<(l.length:Int)
 ·have hx:l[k]?=some (l[k]'(by omega)):=gE (by omega);generalize l[k]'(by omega)=e at hx;have he:=hi e (List.mem_of_getElem? hx);obtain⟨q,hq,hcl⟩:=(h.av s5.av).at hx;refine cT (dT hlt) (ak hq ⟨by omega,by omega,e.kind,e.bidder,e.round,e.want,bs e.text,e.digest,hcl,aj (cq s5 hok he) ?_⟩);rintro _ w6 ⟨rfl,s6⟩;refine⟨_,rfl,l.length-(k+1),by omega,k+1,aB ⟨by omega,by omega⟩,by omega,rfl,?_⟩;rw[aG hx,pT]; exact s6
 obtain rfl:k=l.length:=by omega
 rw[List.take_length] at s5 hok;have hcnt:=DO o l;generalize(made o l).1=S at s5 hok hcnt;generalize(made o l).2=C at s5 hok;refine cF (dF hlt) ⟨by decide,aj (cq s5 hok (e:=wL 7 i []) (yu _ _ _)) ?_⟩;rintro _ w7 ⟨rfl,s7⟩;refine⟨_,rfl,?_⟩
 by_cases ha:lP S C (wL 7 i [])=0
 rotate_left
 ·exact cT (by simpa using ha) (fE aw s7.av)
 have hout:=Io hok hi8 ha;obtain⟨ebd,ecnt⟩:=OT ha;have hib:(i:Int)<(S.s.bd.length:Int):=(mA (sJ ha).1).2.2.2.1 rfl;have hok7:=Bx hok (yu 7 i []);generalize(pM S C (wL 7 i [])).1=S7 at s7 hout ebd ecnt hok7;generalize(pM S C (wL 7 i [])).2=C7 at s7 hok7;have hc7:S7.cnt<600:=by omega
 have hib7:(i:Int)<(S7.s.bd.length:Int):=by rw[ebd]; exact hib
 refine cF (by rw[ha]; rfl) (aj (AV s7 hok7) ?_);rintro _ w9 ⟨a2,c2,rfl,k9⟩;have s9:St w w9 (Sep [bf a2 c2 (aS S7 C7),o6 b S7 C7,ai r1 o.cells.toArray 23,emp]):=St.cat (l:=[bf a2 c2 (aS S7 C7)]) (s7.and k9);have hlen:(aS S7 C7).length<=320:=by
  by_cases h0:S7.ph=0
  ·rw[aS,if_pos h0]; exact Nat.zero_le _
  ·exact(GP (hok7.so h0)).n
 refine⟨_,_,_,rfl,λ n w10 m=>∃ j:Nat,n=j/\j<=(aS S7 C7).length/\m=(aS S7 C7).length-j/\St w w10 (Sep [bf a2 c2 (aS S7 C7),o6 b S7 C7,ai r1 o.cells.toArray 23,emp]),⟨(aS S7 C7).length,0,rfl,by omega,by omega,s9⟩,?_⟩;rintro w10 m2 n ⟨j,rfl,hj,hm2,s10⟩ -
 by_cases hlj:(j:Int)<((aS S7 C7).length:Int)
 ·have hx:(aS S7 C7)[j]?=some ((aS S7 C7)[j]'(by omega)):=gE (by omega);generalize(aS S7 C7)[j]'(by omega)=x at hx;obtain⟨q,hq,hcx⟩:=(St.rd Of.len s10).at hx;have hcb:w10.cell? (Addr.add q (((j:Nat):Int).toNat*8))=some (iv x.b):=by
   have:=aL hcx 0 _ rfl;rw[Int.toNat_natCast];rw[Addr.add_add] at this;simpa using this
  obtain⟨i',_,ho,hb,_⟩:=tA (List.mem_of_getElem? hx);have hne:x.b≠(i:Int):=λ e=>by
   have:i' = i:=by omega
   rw[this,hout] at ho; cases ho
  exact cT (dT hlj) (ak hq ⟨by omega,by omega,_,hcb,cF (by simpa using hne) ⟨(aS S7 C7).length-(j+1),by omega,j+1,aB ⟨by omega,by omega⟩,by omega,rfl,s10⟩⟩)
 have sA:=s10.zU;refine cF (dF hlj) (aj (PX sA hok7 (by omega) hi8) ?_);rintro _ w11 ⟨rfl,rfl⟩;have q2:lP S7 C7 (wL 2 i [])=10:=zD v2 hc7 rfl hib7 (by simpa[wL] using hout);have q5:lP S7 C7 (wL 5 i [123,97,58,49,125,64,49])=10:=zD v5 hc7 rfl hib7 (by simpa[wL] using hout);have q7:lP S7 C7 (wL 7 i [])=10:=zD v7 hc7 rfl hib7 (by simpa[wL] using hout);refine⟨_,rfl,cT (by rw[hout]) (aj (cq sA hok7 (e:=wL 2 i []) (yu _ _ _)) ?_)⟩;rintro _ w12 ⟨rfl,s12⟩;rw[uw (by rw[q2]; decide)] at s12;rw[q2];refine⟨_,rfl,cT rfl (aj (cq s12 hok7 (e:=wL 5 i [123,97,58,49,125,64,49]) (yu _ _ _)) ?_)⟩;rintro _ w13 ⟨rfl,s13⟩;rw[uw (by rw[q5]; decide)] at s13;rw[q5];refine⟨_,rfl,cT rfl (aj (cq s13 hok7 (e:=wL 7 i []) (yu _ _ _)) ?_)⟩;rintro _ w14 ⟨rfl,s14⟩;rw[q7];exact⟨_,rfl,cT rfl (fE aw s14.av)⟩
def wM(t:Nat):Ev:=⟨8,0,t,z6,[],0⟩
theorem JM:(List.range 30).all (λ t=>bY (wM t)==0)=true:=by kernel_rfl
theorem Mq{t:Nat}(h:t<30):bY (wM t)=0:=by
 have:=List.all_eq_true.1 JM t (by simpa using h);simpa using this
theorem E2(t:Nat):(wM t).In:=⟨by show(0:Int)<=0; decide,by show(0:Int)<18446744073709551616; decide⟩
theorem KQ{S:Sx}{C:Ck}{t:Nat}(ht:t<30)(hc:S.cnt<600)(h:lP S C (wM t)≠0):(S.ph≠1/\S.ph≠2)\/lP S C (wM t)=4:=by
 by_cases hp:S.ph=1\/S.ph=2
 ·right
  have hs:gz S (wM t)=0:=by
   unfold gz;rw[if_neg (by rw[Mq ht]; decide),if_neg (by omega),if_neg,if_neg,if_neg]
   ·rintro⟨h,_⟩; cases h
   ·rintro⟨h,_⟩; cases h
   ·show ¬ (S.ph==1||S.ph==2)=false;rcases hp with hp|hp<;>rw[hp]<;>decide
  unfold lP at h ⊢;rw[if_neg (by rw[hs]; decide)] at h ⊢;have e:bT S C (wM t)=if bH C (wM t).round then 4 else 0:=rfl
  rw[e] at h ⊢
  split
  ·rfl
  ·rename_i g; rw[if_neg g] at h; exact absurd rfl h
 ·exact .inl ⟨λ h=>hp (.inl h),λ h=>hp (.inr h)⟩
theorem Ef{S:Sx}{C:Ck}{t:Nat}(h:lP S C (wM t)=0):(S.ph=1\/S.ph=2)/\t<=C.cl.length:=by
 obtain⟨h1,h2⟩:=sJ h;have hp:(S.ph==1||S.ph==2)=true:=(mA h1).2.2.1;have e:bT S C (wM t)=if bH C (wM t).round then 4 else 0:=rfl
 rw[e] at h2;refine⟨by simpa using hp,?_⟩
 by_cases g:bH C (wM t).round=true
 ·rw[if_pos g] at h2; cases h2
 ·unfold bH at g;simp only[Bool.or_eq_true,decide_eq_true_eq] at g;have : ¬ ((t:Int)>(C.cl.length:Int)):=λ x=>g (.inl (.inr x));omega
theorem Qc{S:Sx}{C:Ck}{t:Nat}(hok:p7 S C)(h:lP S C (wM t)=0):(pM S C (wM t)).1.ph=1/\(∀ i,i<8->((pM S C (wM t)).1.bd.getD i bF).has=false)/\(pM S C (wM t)).2=(bW C t).er:=by
 rw[pM,if_pos h];refine⟨rfl,λ i hi=>?_,rfl⟩;show((Gg S C (wM t)).er.bd.getD i bF).has=false;rw[dV];show((Gg S C (wM t)).bd.getD i bF).has=false;have e:(Gg S C (wM t)).bd=(bA S 8).bd:=rfl;rw[e];have h8:=hok.b8
 suffices H:∀ k,k<=8->∀ i,i<k->((bA S k).bd.getD i bF).has=false from H 8 (Nat.le_refl 8) i hi
 intro k
 induction k with
 | zero=>intro _ i hi; omega
 | succ k ih =>
  intro hk i hi;have hl:=rX h8 k;show(((bA S k).bd.set k (vN ((bA S k).bd.getD k bF))).getD i bF).has=false
  by_cases e:k=i
  ·subst e;simp[List.getD_eq_getElem?_getD,hl,show k<8 by omega,vN]
  ·have:=ih (by omega) i (by omega);rw[List.getD_eq_getElem?_getD] at this ⊢;rw[List.getElem?_set,if_neg e]; exact this
def A4(l:List Rn):List I6:=l.map Rn.p
theorem zg(l:List Rn):A4 (l.map Rn.er)=A4 l:=by unfold A4; rw[List.map_map]; rfl
theorem KT{C:Ck}{t:Nat}(ht:t<=C.cl.length):A4 (bW C t).er.cl=(A4 C.cl).take t/\(bW C t).er.ov=false/\(bW C t).er.p=(if h:t<C.cl.length then (C.cl[t]).p else C.p):=by
 have e:∀ D:Ck,D.er.cl=D.cl.map Rn.er:=λ _=>rfl;rw[e,zg];unfold bW
 by_cases g:t<C.cl.length
 ·rw[gE g,dif_pos g];exact⟨by unfold A4; rw[List.map_take],rfl,rfl⟩
 ·rw[List.getElem?_eq_none (by omega),dif_neg g];refine⟨?_,rfl,rfl⟩;show A4 C.cl=_;rw[List.take_of_length_le];unfold A4; rw[List.length_map]; omega
end
end Go.Proofs.YtmffhopdpbikgaaGreatDoor
namespace Go.Proofs.YtmffhopdpbikgaaGreatDoor
open Go Go.Vc Go.RowKit Go.Deep
theorem cA{P:Program}{w:World}{d:Nat}{t:TypeId}{cs:List Value}{fs:Array Field}(h:nQ P w (d+1) t cs)(hu:P.underlying t=some (.struct fs))(i:Nat)(f:Field)(hf:fs[i]?=some f) :
  nQ P w d f.type ((cs.drop f.offset).take (P.cellsOf f.type)):=by
 unfold nQ at h;simp only[hu] at h;exact h.2 f (by simpa using Array.mem_of_getElem? hf)
theorem GI{α:Type}{Q:Nat->α->Prop}:∀ {l:Nat},(∀ i,i<l->∃ a,Q i a)->∃ L:List α,L.length=l/\∀ i a,L[i]?=some a->Q i a
 | 0,_=>⟨[],rfl,λ i a h=>by simp at h⟩
 | l+1,h=>by
  obtain⟨L,h1,h2⟩:=GI (l:=l) λ i hi=>h i (by omega);obtain⟨a,ha⟩:=h l (by omega);refine⟨L++[a],by simp[h1],λ i b hb=>?_⟩;rcases Nat.lt_or_ge i L.length with hi|hi
  ·rw[List.getElem?_append_left hi] at hb; exact h2 i b hb
  ·rw[List.getElem?_append_right hi] at hb;have h0:i-L.length=0:=by
    have:=(List.getElem?_eq_some_iff.1 hb).1;simp at this; omega
   rw[h0] at hb;simp at hb;subst hb;rw[show i=l by omega]; exact ha
theorem GF:∀ {cs:List Value},(∀ v∈cs,∃ n,v=iv n/\In n)->∃ ns:List Int,cs=ns.map iv/\∀ n∈ns,In n
 | [],_=>⟨[],rfl,by simp⟩
 | v :: cs,h=>by
  obtain⟨n,rfl,hn⟩:=h v (List.mem_cons_self ..);obtain⟨ns,rfl,hs⟩:=GF (cs:=cs) λ u hu=>h u (List.mem_cons_of_mem _ hu);refine⟨n :: ns,rfl,λ x hx=>?_⟩;rcases List.mem_cons.1 hx with rfl|hx
  ·exact hn
  ·exact hs x hx
theorem jJ{w:World}{d t:Nat}{cs:List Value}(h:nQ Tryz.prog w (d+1) t cs)(hu:Tryz.prog.underlying t=some (.int .i64)):∃ n,cs=[iv n]/\In n:=by
 unfold nQ at h;simp only[hu] at h;obtain⟨n,rfl,hw⟩:=h;refine⟨n,rfl,?_⟩;simp[Lit.wf,IntKind.min,IntKind.max,IntKind.signed,IntKind.bits] at hw;exact⟨by omega,by omega⟩
theorem M6{w:World}{d t k e:Nat}{cs:List Value}(h:nQ Tryz.prog w (d+2) t cs)(hu:Tryz.prog.underlying t=some (.array k e))(he:Tryz.prog.underlying e=some (.int .i64))(hc:Tryz.prog.cellsOf t=k)(h1:Tryz.prog.cellsOf e=1) :
  ∃ ns:List Int,cs=ns.map iv/\ns.length=k/\∀ n∈ns,In n:=by
 unfold nQ at h;simp only[hu] at h;obtain⟨hl,hi⟩:=h;rw[hc] at hl;obtain⟨ns,rfl,hs⟩:=GF (cs:=cs) λ v hv=>by
  obtain⟨i,hlt,rfl⟩:=List.mem_iff_getElem.1 hv;obtain⟨n,hn,hI⟩:=jJ (hi i (by omega)) he;rw[h1,Nat.mul_one] at hn;have e1:(cs.drop i).take 1=[cs[i]]:=by
   rw[List.drop_eq_getElem_cons hlt]; rfl
  rw[e1] at hn;exact⟨n,by simpa using hn,hI⟩
 exact⟨ns,rfl,by simpa using hl,hs⟩
theorem Im{w:World}{d t e:Nat}{cs:List Value}(h:nQ Tryz.prog w (d+1) t cs)(hu:Tryz.prog.underlying t=some (.slice e)) :
  ∃ (a:OA) (l c:Nat),cs=[.slice a l c]/\l<=c/\l<=9223372036854775807/\l*Tryz.prog.bytesOf e<=140737488351232 /\
   ∀ i,i<l->∃ q cs',a=some q/\cs'.length=Tryz.prog.cellsOf e/\af w (q.add (i*Tryz.prog.cellsOf e)) 0 cs'/\nQ Tryz.prog w d e cs':=by
 unfold nQ at h;simp only[hu] at h;obtain⟨a,l,c,rfl,hlc,hcm,_,hb,hi⟩:=h;refine⟨a,l,c,rfl,hlc,by unfold maxLen at hcm; omega,hb,λ i hl=>?_⟩;obtain⟨q,cs',ha,hcs,ho⟩:=hi i hl;obtain⟨_,hlen,hg⟩:=World.cells?_some hcs;exact⟨q,cs',ha,hlen,aY _ 0 λ j v hj=>by
  rw[Nat.zero_add,hg j (by have:=(List.getElem?_eq_some_iff.1 hj).1; omega)]; exact hj,ho⟩
theorem EU:Tryz.prog.cellsOf 3=1:=by kernel_rfl
theorem Jw:Tryz.prog.cellsOf 2=1:=by kernel_rfl
theorem Gm:Tryz.prog.cellsOf 34=6:=by kernel_rfl
theorem Me:Tryz.prog.cellsOf 9=1:=by kernel_rfl
theorem Mb:Tryz.prog.cellsOf 29=1:=by kernel_rfl
theorem Mc:Tryz.prog.cellsOf 36=11:=by kernel_rfl
theorem Md:Tryz.prog.cellsOf 23=4:=by kernel_rfl
theorem PW{w:World}{cs:List Value}(h:nQ Tryz.prog w 5 36 cs)(hlen:cs.length=11):∃ e:Ev,cs=e.cells/\e.In:=by
 match cs,hlen with
 | [x0,x1,x2,x3,x4,x5,x6,x7,x8,x9,x10],_ =>
  have q0:nQ Tryz.prog w 4 3 (([x0,x1,x2,x3,x4,x5,x6,x7,x8,x9,x10].drop 0).take (Tryz.prog.cellsOf 3)):=cA h Tryz.underlying36 0 _ rfl;have q1:nQ Tryz.prog w 4 3 (([x0,x1,x2,x3,x4,x5,x6,x7,x8,x9,x10].drop 1).take (Tryz.prog.cellsOf 3)):=cA h Tryz.underlying36 1 _ rfl;have q2:nQ Tryz.prog w 4 3 (([x0,x1,x2,x3,x4,x5,x6,x7,x8,x9,x10].drop 2).take (Tryz.prog.cellsOf 3)):=cA h Tryz.underlying36 2 _ rfl;have q3:nQ Tryz.prog w 4 34 (([x0,x1,x2,x3,x4,x5,x6,x7,x8,x9,x10].drop 3).take (Tryz.prog.cellsOf 34)):=cA h Tryz.underlying36 3 _ rfl;have q4:nQ Tryz.prog w 4 9 (([x0,x1,x2,x3,x4,x5,x6,x7,x8,x9,x10].drop 9).take (Tryz.prog.cellsOf 9)):=cA h Tryz.underlying36 4 _ rfl;have q5:nQ Tryz.prog w 4 29 (([x0,x1,x2,x3,x4,x5,x6,x7,x8,x9,x10].drop 10).take (Tryz.prog.cellsOf 29)):=cA h Tryz.underlying36 5 _ rfl;rw[EU] at q0 q1 q2; rw[Gm] at q3; rw[Me] at q4; rw[Mb] at q5;obtain⟨n0,e0,_⟩:=jJ q0 Tryz.underlying3;obtain⟨n1,e1,_⟩:=jJ q1 Tryz.underlying3;obtain⟨n2,e2,_⟩:=jJ q2 Tryz.underlying3;obtain⟨ns,e3,l3,_⟩:=M6 q3 Tryz.underlying34 Tryz.underlying3 Gm EU;unfold nQ at q4 q5;simp only[Tryz.underlying9] at q4;simp only[Tryz.underlying29] at q5;obtain⟨s,e4,_⟩:=q4;obtain⟨d,e5,hd⟩:=q5
  match ns,l3 with
  | [u0,u1,u2,u3,u4,u5],_ =>
   simp at e0 e1 e2 e3 e4 e5;obtain⟨rfl,rfl,rfl,rfl,rfl,rfl⟩:=e3;subst e0 e1 e2 e4 e5;refine⟨⟨n0,n1,n2,⟨u0,u1,u2,u3,u4,u5⟩,s.data.toList,d⟩,rfl,⟨?_⟩⟩;simp[Lit.wf,IntKind.min,IntKind.max,IntKind.signed,IntKind.bits] at hd;show 0<=d/\d<18446744073709551616;omega
theorem y5{w:World}{cs:List Value}(h:nQ Tryz.prog w 6 24 cs):∃ (a:OA) (c:Nat) (l:List Ev),cs=[.slice a l.length c]/\l.length<=c/\cW 11 Ev.cells w a l/\∀ e∈l,e.In:=by
 obtain⟨a,n,c,rfl,hc,_,_,hi⟩:=Im h Tryz.underlying24;obtain⟨L,h1,h2⟩:=GI (Q:=λ i (e:Ev)=>e.In/\∃ q,a=some q/\af w (q.add (i*11)) 0 e.cells) (l:=n) λ i hl=>by
  obtain⟨q,cs',ha,hlen,hc,ho⟩:=hi i hl;rw[Mc] at hlen hc;obtain⟨e,rfl,he⟩:=PW ho hlen;exact⟨e,he,q,ha,hc⟩
 refine⟨a,c,L,by rw[h1],by omega,λ i e he=>let ⟨_,q,hq,hc⟩:=h2 i e he; ⟨q,_,hq,hc,rfl,rfl⟩,λ e he=>?_⟩;obtain⟨i,hlt,rfl⟩:=List.mem_iff_getElem.1 he;exact(h2 i _ (gE hlt)).1
theorem Ca{w:World}{cs:List Value}(h:nQ Tryz.prog w 6 23 cs):∃ o:Po,cs=o.cells:=by
 have hlen:cs.length=4:=by
  have h':=h;unfold nQ at h';simp only[Tryz.underlying23] at h';rw[<- Md]; exact h'.1
 match cs,hlen with
 | [x0,x1,x2,x3],_ =>
  have q0:nQ Tryz.prog w 5 2 (([x0,x1,x2,x3].drop 0).take (Tryz.prog.cellsOf 2)):=cA h Tryz.underlying23 0 _ rfl;have q1:nQ Tryz.prog w 5 3 (([x0,x1,x2,x3].drop 1).take (Tryz.prog.cellsOf 3)):=cA h Tryz.underlying23 1 _ rfl;have q2:nQ Tryz.prog w 5 3 (([x0,x1,x2,x3].drop 2).take (Tryz.prog.cellsOf 3)):=cA h Tryz.underlying23 2 _ rfl;have q3:nQ Tryz.prog w 5 3 (([x0,x1,x2,x3].drop 3).take (Tryz.prog.cellsOf 3)):=cA h Tryz.underlying23 3 _ rfl;rw[Jw] at q0; rw[EU] at q1 q2 q3;obtain⟨n0,e0,_⟩:=jJ q0 Tryz.underlying2;obtain⟨n1,e1,_⟩:=jJ q1 Tryz.underlying3;obtain⟨n2,e2,_⟩:=jJ q2 Tryz.underlying3;obtain⟨n3,e3,_⟩:=jJ q3 Tryz.underlying3;simp at e0 e1 e2 e3;subst e0 e1 e2 e3;exact⟨⟨n0,n1,n2,n3⟩,rfl⟩
end Go.Proofs.YtmffhopdpbikgaaGreatDoor
namespace Go.Proofs.YtmffhopdpbikgaaGreatDoor
open Go Go.Vc Go.ChangeShapes Go.WideShapes Go.ChangeAt Go.RowKit _root_.Go.Proofs.Tryz
theorem own:ownKnob prog.godebug=none:=by kernel_rfl
theorem laidOut:laidOutB prog=true:=by kernel_rfl
theorem Sb:mapsRowed prog=true:=by kernel_rfl
theorem Sd:(prog.stops==[])=true:=by kernel_rfl
theorem Sf:(prog.stopKnobs==[])=true:=by kernel_rfl
theorem PZ:prog.stopsHeard=true:=by kernel_rfl
theorem P0:prog.mayEnter=true:=by kernel_rfl
theorem Sg:true=Tryz.pinned.checked.prog.looks []:=by kernel_rfl
theorem xS{w w' : World}(h:aA w w' []):Below w.heap.size w w':=⟨h.env.os,h.env.tape,h.env.out,h.size,λ k hk=>h.same k hk (by simp)⟩
theorem Ko(P:Program)(laid:List (String×DataW Unit))(w:World)(h:(laid.all λ x=>x.2.handleName?.isNone)=true):laidMetH P laid w=laidMet P laid w:=by
 have e:(laid.filter λ x=>x.2.handleName?.isSome)=[]:=by
  rw[List.filter_eq_nil_iff];intro x hx hs;have:=List.all_eq_true.1 h x hx;rw[Option.isNone_iff_eq_none] at this;rw[this] at hs
  cases hs
 unfold laidMetH;rw[e]
def qO:List (String×DataW Unit):=Rows.stateDigestsRow.laid.filter λ x=>x.2.handleName?.isNone
noncomputable def fu(os:Os):World:=(World.holding prog os ⟨#[],#[],[]⟩).layVars prog qO
theorem mb(os:Os):(fu os).os=os:=(World.layVars_os _ _ _).trans rfl
theorem HT(os:Os)(args:Array Value):laidMet prog qO ((fu os).forCall (λ _ _=>0) ⟨#[],args,[]⟩).memory:=by
 have e1:(qO.filter λ x=>(qO.map (·.1)).contains x.1)=qO:=List.filter_eq_self.2 λ x hx=>List.contains_iff_mem.2 (List.mem_map.2 ⟨x,hx,rfl⟩);have e2:(qO.filter λ x=>!(qO.map (·.1)).contains x.1)=[]:=List.filter_eq_nil_iff.2 λ x hx=>by rw[List.contains_iff_mem.2 (List.mem_map.2 ⟨x,hx,rfl⟩)]; simp
 have h:laidMet prog qO (fu os):=laidMet_layVars (w0:=World.holding prog os ⟨#[],#[],[]⟩) (qO.map (·.1)) [] (by rw[e1]; rfl) (by rw[e1]; kernel_rfl) (by rw[e1]; kernel_rfl) (by rw[e2]; exact LaidIn.none);exact h.of_heap (by simp[World.memory,World.forCall,Input.heap])
theorem DU:(Rows.stateDigestsRow.laid.all λ x=>x.2.handleName?.isNone)=true:=by kernel_rfl
theorem j4(os:Os)(args:Array Value):laidMetH prog Rows.stateDigestsRow.laid ((fu os).forCall (λ _ _=>0) ⟨#[],args,[]⟩).memory:=by
 rw[Ko _ _ _ DU];have e:qO=Rows.stateDigestsRow.laid:=List.filter_eq_self.2 (List.all_eq_true.1 DU);rw[<- e]; exact HT os args
theorem OE{n:Int}(h:(Lit.int .u8 n).wf=true):0<=n/\n<=255:=by
 simp[Lit.wf,IntKind.min,IntKind.max,IntKind.signed,IntKind.bits] at h;exact⟨by omega,by omega⟩
end Go.Proofs.YtmffhopdpbikgaaGreatDoor
namespace Go.Proofs.YtmffhopdpbikgaaGreatDoor
open Go Go.Vc _root_.Go.Proofs.Tryz
section
variable {w:World} {a:OA} {c:Nat} {l:List Ev}
theorem Np{w:World}{q:Addr}{x:Rn}(h:af w q 0 x.cells):af w q 0 x.p.vs:=aY _ 0 λ j v hj=>by
 have h6:j<6:=(List.getElem?_eq_some_iff.1 hj).1;refine aL h j v ?_
 match j,h6 with
 | 0,_|1,_|2,_|3,_|4,_|5,_=>exact hj
theorem G9{l:List Rn}{i:Nat}{x:Rn}(h:l[i]?=some x):(A4 l)[i]?=some x.p:=by unfold A4; rw[List.getElem?_map,h]; rfl
set_option maxHeartbeats 1000000 in
theorem FF(aw:nT)(o:Po){n:Int}(hn:0<=n)(h:cW 11 Ev.cells w a l)(hi:∀ e∈l,e.In) :
  CP 5 #[o.v,.slice a l.length c,.int .u8 n] w (λ r w'=>r=.bool true/\aA w w' []):=by
 obtain⟨nn,rfl⟩:=Int.eq_ofNat_of_zero_le hn;refine oD ?_;unfold jE;have et:IntKind.i64.wrap (Int.tmod (nn:Int) (30:Int))=((nn%30:Nat):Int):=Et nn 30 (by decide) (by decide);have ht:nn%30<30:=Nat.mod_lt _ (by decide);simp only[et];generalize nn%30=t at ht;clear et;refine(St.start w).one.ax o.cells.toArray λ r1 w1 s1=>aj (yL (h.av s1.av)) ?_;rintro _ w2 ⟨gb,rfl,rfl,hle⟩;refine⟨_,rfl,?_⟩
 cases gb with
 | true=>exact cT rfl (fE aw s1.av)
 | false =>
 have hle:=hle rfl;refine cF rfl ⟨_,_,_,_,s1.cellsIn 0 rfl,aj (B7 s1 o) ?_⟩;rintro _ w4 ⟨b,rfl,s4⟩;have s4:St w w4 (Sep [o6 b (gW o) IY,ai r1 o.cells.toArray 23,emp]):=s4;refine⟨_,rfl,λ n w5 m=>∃ k:Nat,n=k/\k<=l.length/\m=l.length-k/\St w w5 (Sep [o6 b (made o (l.take k)).1 (made o (l.take k)).2,ai r1 o.cells.toArray 23,emp]),⟨l.length,0,rfl,by omega,by omega,s4⟩,?_⟩;rintro w5 m n ⟨k,rfl,hk,hm,s5⟩ -;have hok:=tv o (l.take k) λ e he=>hi e (List.mem_of_mem_take he)
 by_cases hlt:(k:Int)<(l.length:Int)
 ·have hx:l[k]?=some (l[k]'(by omega)):=gE (by omega);generalize l[k]'(by omega)=e at hx;have he:=hi e (List.mem_of_getElem? hx);obtain⟨q,hq,hcl⟩:=(h.av s5.av).at hx;refine cT (dT hlt) (ak hq ⟨by omega,by omega,e.kind,e.bidder,e.round,e.want,bs e.text,e.digest,hcl,aj (cq s5 hok he) ?_⟩);rintro _ w6 ⟨rfl,s6⟩;refine⟨_,rfl,l.length-(k+1),by omega,k+1,aB ⟨by omega,by omega⟩,by omega,rfl,?_⟩;rw[aG hx,pT]; exact s6
 obtain rfl:k=l.length:=by omega
 rw[List.take_length] at s5 hok;have hcnt:=DO o l;generalize(made o l).1=S at s5 hok hcnt;generalize(made o l).2=C at s5 hok;have hcnt:S.cnt<600:=by omega
 refine cF (dF hlt) (aj (Dj s5 hok) ?_);clear s4 s1;rintro _ w7 (⟨h0,rfl,c7⟩|⟨h0,g,C1,rfl,eC,k7⟩)
 ·have s7:=s5.quiet c7;refine⟨_,rfl,by decide,aj (y9 s7) ?_⟩;rintro _ w8 ⟨rfl,rfl⟩;have hne:lP S C (wM t)≠0:=λ g=>by have:=(Ef g).1; omega
  refine⟨_,rfl,aj (cq s7 hok (e:=wM t) (E2 t)) ?_⟩;rintro _ w9 ⟨rfl,s9⟩;rw[uw hne] at s9;refine⟨_,rfl,cT (by simpa using hne) (cT (by rw[h0]; rfl) (cT (by rw[h0]; rfl) (aj (y9 s9) ?_)))⟩;rintro _ w10 ⟨rfl,rfl⟩;exact⟨_,rfl,cT (by simp) (fE aw s9.av)⟩
 have s7:St w w7 (Sep [o6 b S C,held (C1.Rd g),ai r1 o.cells.toArray 23,emp]):=St.zU (s5.and k7);refine⟨_,rfl,by decide,aj (y9 s7) ?_⟩;rintro _ w8 ⟨rfl,rfl⟩;refine⟨_,rfl,aj (cq s7 hok (e:=wM t) (E2 t)) ?_⟩;rintro _ w9 ⟨rfl,s9⟩;refine⟨_,rfl,?_⟩
 by_cases ha:lP S C (wM t)=0
 rotate_left
 ·have hco:=KQ ht hcnt ha;rw[uw ha] at s9;have fin:CC 16 #[pt b] w9 λ e10 w12=>∃ (n19:Int),e10=.returned (iv n19)/\cond (n19==S.ph) (CC 7 #[] w12 λ e11 w13=>∃ (b4:Bool),e11=.returned (.bool b4)/\(Value.bool b4=.bool true/\aA w w13 [])) (Value.bool false=.bool true/\aA w w12 []):=by
   refine aj (y9 s9) ?_;rintro _ w10 ⟨rfl,rfl⟩;exact⟨_,rfl,cT (by simp) (fE aw s9.av)⟩
  refine cT (by simpa using ha) ?_;rcases hco with⟨p1,p2⟩|h4
  ·exact cT (by simpa using p1) (cT (by simpa using p2) fin)
  ·rw[h4]
   by_cases p1:S.ph=1
   ·exact cF (by rw[p1]; rfl) (cT rfl fin)
   ·refine cT (by simpa using p1) ?_
    by_cases p2:S.ph=2
    ·exact cF (by rw[p2]; rfl) (cT rfl fin)
    ·exact cT (by simpa using p2) fin
 obtain⟨hp12,htl⟩:=Ef ha;obtain⟨q1,q2,q3⟩:=Qc hok ha;have hok9:=Bx hok (E2 t);generalize(pM S C (wM t)).1=S9 at s9 q1 q2 hok9;generalize(pM S C (wM t)).2=C9 at s9 q3 hok9;obtain⟨z1,z2,z3⟩:=KT htl;rw[<- q3] at z1 z2 z3;have c9:C9.Inv:=hok9.c (by omega);have c1:C.Inv:=hok.c h0;have ok1:C1.Ok:=(Ck.Inv.PS (eC▸c1)).ok;have e1:A4 C1.cl=A4 C.cl:=by rw[<- eC]; exact(zg C1.cl).symm
 have l1e:C1.cl.length=C.cl.length:=by rw[<- eC]; exact(List.length_map _).symm
 have p1e:C1.p=C.p:=by rw[<- eC]; rfl
 refine cF (by rw[ha]; rfl) (aj (Dj s9 hok9) ?_);rintro _ w16 (⟨z,_⟩|⟨_,g2,C2,rfl,eC2,k16⟩)
 ·omega
 have ok2:C2.Ok:=(Ck.Inv.PS (eC2▸c9)).ok;have e2:A4 C2.cl=(A4 C.cl).take t:=by rw[<- z1,<- eC2]; exact(zg C2.cl).symm
 have pl:(A4 C.cl).length=C.cl.length:=List.length_map _;have l2e:C2.cl.length=t:=by
  have:=congrArg List.length e2;rw[List.length_take,pl] at this;unfold A4 at this;rw[List.length_map] at this; omega
 have ov2:C2.ov=false:=by rw[<- z2,<- eC2]; rfl
 have p2e:C2.p=(if h:t<C.cl.length then (C.cl[t]).p else C.p):=by rw[<- z3,<- eC2]; rfl
 clear z1 z2 z3 q3;have s16:St w w16 (Sep [held (C2.Rd g2),o6 b S9 C9,held (C1.Rd g),ai r1 o.cells.toArray 23,emp]):=s9.and k16;refine⟨_,rfl,λ x w17=>x=false/\St w w17 (Sep [held (C2.Rd g2),o6 b S9 C9,held (C1.Rd g),ai r1 o.cells.toArray 23,emp]),?_,cF rfl (cF rfl (aj (y9 s16.zU) ?_))⟩
 rotate_left
 ·rintro _ w35 ⟨rfl,rfl⟩;refine⟨_,rfl,cF (by rw[q1]; rfl) (aj (MH (s16.bK 0 rfl)) ?_)⟩;rintro _ w36 ⟨rfl,rfl⟩;refine⟨_,rfl,cF ov2 (aj (tj (s16.bK 0 rfl)) ?_)⟩;rintro _ w37 ⟨rfl,rfl⟩;refine⟨_,rfl,cF (by rw[l2e]; simp) (aj (tj (s16.bK 2 rfl)) ?_)⟩;rintro _ w38 ⟨rfl,rfl⟩;exact⟨_,rfl,dF (by omega),s16⟩
 rintro w17 x ⟨rfl,s17⟩ -;refine cF rfl (aj (uU (s17.bK 2 rfl) ok1) ?_);rintro _ w18 ⟨L1,a2,c2,er1,rfl,k18⟩;have s18:St w w18 (Sep [EJ a2 c2 L1,held (iq L1),held (C2.Rd g2),o6 b S9 C9,held (C1.Rd g),ai r1 o.cells.toArray 23,emp]):=St.assoc (s17.and k18);refine⟨_,_,_,rfl,aj (uU (s18.bK 2 rfl) ok2) ?_⟩;rintro _ w19 ⟨L2,a3,c3,er2,rfl,k19⟩;have s19:St w w19 (Sep [EJ a3 c3 L2,held (iq L2),EJ a2 c2 L1,held (iq L1),held (C2.Rd g2),o6 b S9 C9,held (C1.Rd g),ai r1 o.cells.toArray 23,emp]):=St.assoc (s18.and k19);have y1:A4 L1=A4 C.cl:=by rw[<- zg L1,er1,zg,e1]
 have y2:A4 L2=(A4 C.cl).take t:=by rw[<- zg L2,er2,zg,e2]
 have n1:L1.length=C.cl.length:=by have:=congrArg List.length er1; rw[List.length_map,List.length_map] at this; omega
 have n2:L2.length=t:=by have:=congrArg List.length er2; rw[List.length_map,List.length_map] at this; omega
 refine⟨_,_,_,rfl,λ n w20 m=>∃ j:Nat,n=j/\j<=t/\m=t-j/\St w w20 (Sep [EJ a3 c3 L2,held (iq L2),EJ a2 c2 L1,held (iq L1),held (C2.Rd g2),o6 b S9 C9,held (C1.Rd g),ai r1 o.cells.toArray 23,emp]),⟨t,0,rfl,by omega,by omega,s19⟩,?_⟩;clear s19 s18 s17 s16 s9 s7 s5 k19 k18 k16 k7;rintro w20 m2 n ⟨j,rfl,hj,hm2,s20⟩ -
 by_cases hlj:(j:Int)<(t:Int)
 ·have hx1:L1[j]?=some (L1[j]'(by omega)):=gE (by omega);have hx2:L2[j]?=some (L2[j]'(by omega)):=gE (by omega);generalize L1[j]'(by omega)=x1 at hx1;generalize L2[j]'(by omega)=x2 at hx2;have hpe:x1.p=x2.p:=by
   have h1:=G9 hx1;have h2:=G9 hx2;rw[y1] at h1;rw[y2,List.getElem?_take,if_pos (by omega),h1] at h2;exact Option.some.inj h2
  have s21:=s20.quiet (aA.drew w20 []);obtain⟨q,hq,hc1⟩:=(St.rd Rn.len (s21.out 2 rfl)).at hx1;obtain⟨q',hq',hc2⟩:=(St.rd Rn.len (s21.out 0 rfl)).at hx2;refine cT (dT hlj) (ak hq ⟨by omega,by omega,x1.p,Np hc1,ak hq' ⟨by omega,by omega,x2.p,Np hc2,?_⟩⟩);rw[I6.beq_eq,dT hpe];exact cF rfl ⟨t-(j+1),by omega,j+1,aB ⟨by omega,by omega⟩,by omega,rfl,s21⟩
 refine cF (dF hlj) ⟨λ n w21 m=>∃ j:Nat,n=j/\j<=8/\m=8-j/\St w w21 (Sep [EJ a3 c3 L2,held (iq L2),EJ a2 c2 L1,held (iq L1),held (C2.Rd g2),o6 b S9 C9,held (C1.Rd g),ai r1 o.cells.toArray 23,emp]),⟨8,0,rfl,by omega,by omega,s20⟩,?_⟩;clear s20 hlj hm2 hj;rintro w21 m3 n ⟨j,rfl,hj,hm3,s21⟩ -
 by_cases hlj:(j:Int)<(8:Int)
 ·refine cT (dT hlj) (aj (Mt (s21.out 5 rfl) hok9 (by omega) (q2 j (by omega))) ?_);rintro _ w22 ⟨rfl,c22⟩;have s22:=s21.quiet c22;exact⟨_,z6,_,_,_,_,_,rfl,s22.ax cI.cells.toArray λ r2 w23 s23=>s23.ay 0 rfl cI.cells rfl (Xv.one _) λ w24 s24=>cF rfl ⟨8-(j+1),by omega,j+1,aB ⟨by omega,by omega⟩,by omega,rfl,s24.au [1,2,3,4,5,6,7,8,9]⟩⟩
 have s22:=s21.quiet (aA.drew w21 []);refine cF (dF hlj) (aj (tj (s22.bK 6 rfl)) ?_);rintro _ w25 ⟨rfl,rfl⟩;refine⟨_,rfl,?_⟩
 by_cases e:t=C.cl.length
 ·refine cT (by rw[l1e,e]; simp) (aj (uT (s22.bK 4 rfl)) ?_);rintro _ w26 ⟨rfl,c26⟩;have s26:=s22.quiet c26;refine⟨_,rfl,aj (uT (s26.bK 6 rfl)) ?_⟩;rintro _ w27 ⟨rfl,c27⟩;refine⟨_,rfl,?_⟩;rw[I6.beq_eq,dT (by rw[p2e,dif_neg (by omega),p1e])];exact cT rfl (fE aw (s26.quiet c27).av)
 ·refine cF (by rw[l1e]; simpa using λ h=>e (by omega)) (aj (tj (s22.bK 6 rfl)) ?_);rintro _ w32 ⟨rfl,rfl⟩;have hx1:L1[t]?=some (L1[t]'(by omega)):=gE (by omega);generalize L1[t]'(by omega)=x1 at hx1;have hpe:C2.p=x1.p:=by
   have h1:=G9 hx1;rw[y1] at h1;have h3:=G9 (l:=C.cl) (gE (show t<C.cl.length by omega));rw[h1] at h3;rw[p2e,dif_pos (by omega)];exact(Option.some.inj h3).symm
  obtain⟨q,hq,hc1⟩:=(St.rd Rn.len (s22.out 2 rfl)).at hx1;refine⟨_,rfl,cT (dT (by omega)) (ak hq ⟨by omega,by omega,x1.p,Np hc1,aj (uT (s22.bK 4 rfl)) ?_⟩)⟩;rintro _ w33 ⟨rfl,c33⟩;refine⟨_,rfl,bC c33 (Np hc1),?_⟩;rw[I6.beq_eq,dT hpe];exact cT rfl (fE aw (s22.quiet c33).av)
end

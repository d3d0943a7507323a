import Derived.Test.YtpihmghnbplohaaGreatDoorM04
import Derived.Test.YtpihmghnbplohaaGreatDoorM05
import Derived.Test.YtpihmghnbplohaaGreatDoorM13
import Derived.Test.YtpihmghnbplohaaGreatDoorM14
set_option linter.unusedVariables false
set_option maxRecDepth 100000
namespace Go.Proofs.YtpihmghnbplohaaGreatDoor
open Go Go.Vc Tryz
def IF:List UInt8:=[120,111,114,32,111,114,32,98,111,110,117,115,32,108,105,109,105,116,32]
def Mo:List (List UInt8×Int):=[([120,111,114],2),([111,114],3),([98,111,110,117,115],4),([108,105,109,105,116],5)]
def Pa:List (List UInt8×Int)->List UInt8->Int
  | [],_=>0
  | x :: l,nm=>if x.1=nm then x.2 else Pa l nm
def K4(nm:List UInt8):Int:=Pa Mo nm
def DQ(k:Nat):Nat:=(IF.take k).count 32
def DP(g:Nat):Nat:=[0,4,7,13,19].getD g 0
theorem QC:∀ k,k<19->Utf8.decode (bs IF) k=((IF.getD k 0).toNat,1):=by decide
theorem NB:∀ k,k<19->(IF.getD k 0).toNat≠32->DQ (k+1)=DQ k:=by decide
theorem NC:∀ k,k<19->(IF.getD k 0).toNat=32->DQ (k+1)=DQ k+1/\DQ k<4/\Mo[DQ k]? = some ((IF.drop (DP (DQ k))).take (k-DP (DQ k)),2+(DQ k:Int))/\DP (DQ k+1)=k+1/\DP (DQ k)<=k:=by decide
theorem K1{g:Nat}{nm:List UInt8}{x:List UInt8×Int}(hx:Mo[g]? = some x)(hn:x.1≠nm):Pa (Mo.drop (g+1)) nm=Pa (Mo.drop g) nm:=by
  have hg:=(List.getElem?_eq_some_iff.1 hx).1;rw[List.drop_eq_getElem_cons hg,Pa];have:Mo[g]=x:=Option.some.inj ((gE hg).symm.trans hx);rw[this,if_neg hn]
theorem NA{g:Nat}{nm:List UInt8}{x:List UInt8×Int}(hx:Mo[g]? = some x)(hn:x.1=nm):Pa (Mo.drop g) nm=x.2:=by
  have hg:=(List.getElem?_eq_some_iff.1 hx).1;rw[List.drop_eq_getElem_cons hg,Pa];have:Mo[g]=x:=Option.some.inj ((gE hg).symm.trans hx);rw[this,if_pos hn]
theorem QD(w:World)(nm:List UInt8):CP 233 #[sv nm] w (λ r w'=>r=iv (K4 nm)/\az w w' []):=by
  refine mX ?_;unfold iL;refine D5 underlying9 (St.start w).one (bs IF) λ r1 w1 s1=>?_;refine⟨λ n1 n2 w2 m=>∃ k:Nat,k<=19/\m=19-k/\n1=2+(DQ k:Int)/\n2=DP (DQ k)/\Pa (Mo.drop (DQ k)) nm=K4 nm/\St w w2 (Sep [aK r1 (.stringIter (bs IF) k),emp]),⟨19,0,by omega,by omega,rfl,rfl,rfl,s1⟩,?_⟩;rintro w2 m n1 n2 ⟨k,hk,hm,rfl,rfl,ho,s2⟩ -;have hsz:(bs IF).size=19:=rfl;refine Fi s2 0 rfl (λ hp=>?_) (λ hp w3 s3=>?_)
  · obtain rfl:k=19:=by omega
    exact⟨by rw[<- ho]; rfl,s2.av⟩
  · rw[hsz] at hp;rw[QC k hp] at s3 ⊢;show cond (((IF.getD k 0).toNat:Int) !=32) _ _
    by_cases h32:(IF.getD k 0).toNat=32
    · obtain⟨e1,e2,e3,e4,e5⟩:=NC k hp h32;refine cF (by rw[h32]; rfl) ⟨by omega,by show(k:Int)<=19; omega,by omega,by omega,?_⟩;show cond ((((bs IF).extract ((DP (DQ k):Int)).toNat ((k:Int)).toNat)).toList==(bs nm).toList) _ _;rw[Int.toNat_natCast,Int.toNat_natCast,Bn,ia,ia]
      by_cases hn:(IF.drop (DP (DQ k))).take (k-DP (DQ k))=nm
      · exact cT (by rw[hn]; simp) ⟨by rw[<- ho,NA e3 hn],s3.av⟩
      · refine cF (by simpa using hn) ⟨19-(k+1),by omega,k+1,by omega,rfl,?_,?_,?_,s3⟩
        · rw[aC ⟨by omega,by omega⟩,e1]; omega
        · rw[aC ⟨by omega,by omega⟩,e1,e4]; omega
        · rw[e1,K1 e3 hn,ho]
    · have e1:=NB k hp h32;refine cT (bne_iff_ne.2 (by omega)) ⟨19-(k+1),by omega,k+1,by omega,rfl,by rw[e1],by rw[e1],by rw[e1]; exact ho,s3⟩
def NK(σ:Sc):Sc:=if (aT σ.1 σ.2).k=0 then σ.fail 1 else if (aT σ.1 σ.2).k≠3\/(aT σ.1 σ.2).t≠[123] then σ.fail 2 else σ
def R8(ps:List Pr)(σ:Sc):Sc:=(jN ps (NK σ)).2.exp [64]
def bf(ps:List Pr)(σ:Sc):(I6×Int)×Sc:=(((jN ps (NK σ)).1,tO 1000000 (R8 ps σ).1 (R8 ps σ).2),(R8 ps σ).qc 1000000)
theorem D3{w0 w:World}{p:Nat}{σ:Sc}{B:aD}{a:OA}{c:Nat}{l:List Pr}(h:fI w0 w p σ B)(hr:∀ {w'},az w0 w' []->dL w' a l)(hc:l.length<=c)(ho:cY l) :
    CP 235 #[.agg #[.slice a l.length c,pt p]] w (λ r w'=>r=.tuple #[.agg (bf l σ).1.1.vs.toArray,iv (bf l σ).1.2]/\fI w0 w' p (bf l σ).2 B):=by
  refine jj ?_;unfold eP;refine(St.start w).one.ax #[.slice a l.length c,pt p] λ r1 w1 s1=>s1.ax z6.vs.toArray λ r2 w2 s2=>?_;let Fr:I6->aD:=λ b=>star (Sep [ai r2 b.vs.toArray 41,ai r1 #[.slice a l.length c,pt p] 316,emp]) B;have h2:fI w0 w2 p σ (Fr z6):=h.add s2;have fr:∀ {w' : World} {σ' : Sc} {b:I6},fI w0 w' p σ' (Fr b)->St w0 w' (Sep [ai r2 b.vs.toArray 41,ai r1 #[.slice a l.length c,pt p] 316,emp]):=λ h=>h.frame.first;refine⟨λ w3=>fI w0 w3 p (NK σ) (Fr z6),?_,?_⟩
  · rintro w3 h3 -;have s3:=fr h3;refine⟨_,_,_,s3.ag 1 rfl 0,_,s3.ag 1 rfl 1,aj (QY h3 hr hc ho) ?_⟩;rintro v w4 ⟨rfl,h4⟩;refine⟨_,rfl,(St.start w4).one.ax z6.vs.toArray λ r3 w5 s5=>s5.aA 0 rfl (jN l (NK σ)).1.vs rfl (I6.one _) λ w6 s6=>?_⟩;have h6:=h4.add s6;have fr2:∀ {w' : World} {σ' : Sc} {m:List aD},fI w0 w' p σ' (star (Sep m) (Fr z6))->St w0 w' (Sep [ai r2 z6.vs.toArray 41,ai r1 #[.slice a l.length c,pt p] 316,emp]):=λ h=>fr h.drop;refine⟨_,(fr2 h6).ag 1 rfl 1,aj (eB h6 [64]) ?_⟩;rintro v w7 ⟨rfl,h7⟩;have h7:fI w0 w7 p (R8 l σ) _:=h7;have h8:=h7.quiet (az.drew w7 []);have s8:St w0 w7.drew (Sep [_,_]):=h8.frame.first;refine⟨rfl,_,s8.cellsIn 0 rfl,_,(fr2 h8).ag 1 rfl 1,aj (uD h8 1000000) ?_⟩;rintro v w9 ⟨rfl,h9⟩;have h9:fI w0 w9 p ((R8 l σ).qc 1000000) _:=h9;have s9:St w0 w9 (Sep [_,_]):=h9.frame.first;obtain⟨B',s10,back⟩:=h9.drop.out;exact⟨_,rfl,s9.cellsIn 0 rfl,s10.aA 0 rfl _ rfl (I6.one _) λ w11 s11=>⟨_,s11.cellsIn 0 rfl,rfl,(back (m':=[_,_,_]) s11).drop⟩⟩
  · have s3:=fr h2;refine⟨_,s3.ag 1 rfl 1,aj (pz h2) ?_⟩;rintro v w10 ⟨rfl,c10⟩;refine⟨_,_,_,_,rfl,(St.start w10).one.ax tK.cells.toArray λ r4 w11 s11=>s11.aA 0 rfl (aT σ.1 σ.2).cells rfl (Tk.one _) λ w12 s12=>⟨_,s12.ag 0 rfl 0,?_⟩⟩;have h12:=(h2.quiet c10).quiet s12.av
    by_cases hk:(aT σ.1 σ.2).k=0
    · refine cT (by simpa using hk) ⟨_,(fr h12).ag 1 rfl 1,aj (iq h12 1) ?_⟩;rintro v w13 ⟨rfl,h13⟩;exact⟨rfl,by rw[NK,if_pos hk]; exact h13⟩
    · refine cF (by simpa using hk) ⟨λ x w14=>x=decide ((aT σ.1 σ.2).k≠3\/(aT σ.1 σ.2).t≠[123])/\w14=w12,?_,_,s12.ag 0 rfl 0,?_⟩
      · rintro w14 x ⟨rfl,rfl⟩ -
        by_cases g:(aT σ.1 σ.2).k≠3\/(aT σ.1 σ.2).t≠[123]
        · refine cT (dT g) ⟨_,(fr h12).ag 1 rfl 1,aj (iq h12 2) ?_⟩;rintro v w15 ⟨rfl,h15⟩;exact⟨rfl,by rw[NK,if_neg hk,if_pos g]; exact h15⟩
        · exact cF (dF g) (by rw[NK,if_neg hk,if_neg g]; exact h12)
      · by_cases h3:(aT σ.1 σ.2).k=3
        · refine cF (by simpa using h3) ⟨_,s12.ag 0 rfl 1,?_,rfl⟩;rw[ia,ia]
          by_cases ht:(aT σ.1 σ.2).t=[123]
          · rw[dF (by rintro(h | h); exact h h3; exact h ht),ht]; rfl
          · rw[dT (Or.inr ht)]; simpa using ht
        · exact cT (by simpa using h3) ⟨by rw[dT (Or.inl h3)],rfl⟩
inductive Xv where
  | mk (op:Int) (u:I6) (v:Int) (a:OA) (c:Nat) (args:List Xv)
def Xv.op:Xv->Int | .mk op _ _ _ _ _=>op
def Xv.u:Xv->I6 | .mk _ u _ _ _ _=>u
def Xv.v:Xv->Int | .mk _ _ v _ _ _=>v
def Xv.a:Xv->Option Addr | .mk _ _ _ a _ _=>a
def Xv.c:Xv->Nat | .mk _ _ _ _ c _=>c
def Xv.args:Xv->List Xv | .mk _ _ _ _ _ l=>l
def Xv.cells(x:Xv):List Value:=iv x.op :: x.u.on [iv x.v,.slice x.a x.args.length x.c]
theorem Xv.len(x:Xv):x.cells.length=9:=rfl
theorem Xv.one(x:Xv):∀ v∈x.cells,v.oneCell' = true:=by
  intro v hv; simp[Xv.cells,I6.on] at hv; rcases hv with rfl | rfl | rfl | rfl | rfl | rfl | rfl | rfl | rfl<;>rfl
def Xv.er:Xv->Xv
  | .mk op u v _ _ args=>.mk op u v none 0 (args.map Xv.er)
theorem Xv.qh(x:Xv):x.er=.mk x.op x.u x.v none 0 (x.args.map Xv.er):=by cases x; rw[Xv.er]; rfl
inductive Xv.In (w:World):Xv->Prop where
  | mk {x:Xv} (h:cH 9 Xv.cells w x.a x.args) (k:∀ y∈x.args,Xv.In w y):Xv.In w x
theorem Xv.In.fl{w:World}{x:Xv}(h:x.In w):cH 9 Xv.cells w x.a x.args:=by cases h; assumption
theorem Xv.In.sub{w:World}{x:Xv}(h:x.In w):∀ y∈x.args,y.In w:=by cases h; assumption
theorem Xv.In.av{w w' : World}{x:Xv}(h:x.In w)(hc:az w w' []):x.In w':=by
  induction h with
  | mk h k ih=>exact .mk (h.av hc) ih
def dG:Xv:=.mk 0 z6 0 none 0 []
theorem Ge:dG.er=dG:=by rw[dG,Xv.er]; rfl
theorem Tn:gL prog 107 109 (.agg dG.cells.toArray) 9 88:=gL.mk' underlying107 (by kernel_rfl) rfl (by decide)
abbrev TD (a:OA) (c:Nat) (l:List Xv):aD:=bW 109 9 Xv.cells a c l
abbrev Mr (l:List Xv) (w:World):Prop:=∀ x∈l,x.In w
def fX(g:Sc->Xv×Sc)(σ:Sc):Xv×Sc:=if σ.2≠0 then (dG,σ) else g σ
def fY(g:Sc->Xv×Sc):Nat->List Xv->Sc->List Xv×Sc
  | 0,acc,σ=>(acc,σ)
  | n+1,acc,σ=>if mQ [44] σ.1 σ.2 then fY g n (acc++[(fX g (σ.acc [44])).1]) (fX g (σ.acc [44])).2 else (acc,σ)
def bR(t:Tk):Int:=if t.k=1 then K4 t.t else 1
def vO(σ:Sc):Sc:=if bR (aT σ.1 σ.2)=0 then σ.fail 2 else σ
def J7(ps:List Pr)(g:Sc->Xv×Sc)(op:Int)(a1:Xv)(σ:Sc):Xv×Sc :=
  if op=2\/op=3 then (.mk op z6 0 none 0 (fY g σ.1.length [a1] σ).1,(fY g σ.1.length [a1] σ).2.exp [41])
  else if op=4 then (.mk op (bf ps (σ.exp [44])).1.1 (bf ps (σ.exp [44])).1.2 none 0 [a1],(bf ps (σ.exp [44])).2.exp [41])
  else if op=5 then (.mk op z6 (tO 1000000 (σ.exp [44]).1 (σ.exp [44]).2) none 0 [a1],((σ.exp [44]).qc 1000000).exp [41])
  else (.mk op z6 0 none 0 [a1],σ.exp [41])
def zq(σ:Sc):Sc:=(vO σ).next.exp [40]
def fJ(ps:List Pr):Nat->Sc->Xv×Sc
  | 0,σ=>(dG,σ)
  | f+1,σ =>
    if bR (aT σ.1 σ.2)=1 then (.mk 1 (bf ps (vO σ)).1.1 (bf ps (vO σ)).1.2 none 0 [],(bf ps (vO σ)).2)
    else J7 ps (fJ ps f) (bR (aT σ.1 σ.2)) (fX (fJ ps f) (zq σ)).1 (fX (fJ ps f) (zq σ)).2
theorem tY(m:List UInt8)(σ:Sc):(σ.exp m).1.length<=σ.1.length:=cQ _ _ _
theorem Eg(ps:List Pr):∀ (f:Nat) (b:I6) (σ:Sc),(th ps f b σ).2.1.length<=σ.1.length
  | 0,_,_=>Nat.le_refl _
  | f+1,b,σ=>by
    rw[th]
    split
    · exact Nat.le_trans (Eg ps f _ _) (Nat.le_trans (BG _ _ _) (cQ _ _ _))
    · exact Nat.le_refl _
theorem N2(ps:List Pr)(σ:Sc):(jN ps σ).2.1.length<=σ.1.length:=by
  unfold jN
  split
  · exact Nat.le_refl _
  · split
    · exact Nat.le_trans (cQ _ _ _) (cQ _ _ _)
    · have h1:(Ee ps (σ.exp [123])).2.1.length<=(th ps (fu ps z6 (σ.exp [123])).2.1.length (fu ps z6 (σ.exp [123])).1 (fu ps z6 (σ.exp [123])).2).2.1.length:=by
        unfold Ee Ef
        split
        · exact cQ _ _ _
        · exact cQ _ _ _
      exact Nat.le_trans h1 (Nat.le_trans (Eg ps _ _ _) (Nat.le_trans (BG _ _ _) (cQ _ _ _)))
theorem QI(σ:Sc):(NK σ).1.length<=σ.1.length:=by unfold NK; split; exact Nat.le_refl _; split; exact Nat.le_refl _; exact Nat.le_refl _
theorem pe(ps:List Pr)(σ:Sc):(bf ps σ).2.1.length<=σ.1.length :=
  Nat.le_trans (xo _ _ _) (Nat.le_trans (cQ _ _ _) (Nat.le_trans (N2 _ _) (QI _)))
theorem EZ(σ:Sc):(vO σ).1.length<=σ.1.length:=by unfold vO; split; exact Nat.le_refl _; exact Nat.le_refl _
theorem E0(σ:Sc):(zq σ).1.length<=σ.1.length:=Nat.le_trans (cQ _ _ _) (Nat.le_trans (wO _ _) (EZ σ))
section
variable {g:Sc->Xv×Sc} (hg:∀ σ,(g σ).2.1.length<=σ.1.length)
include hg
theorem wE(σ:Sc):(fX g σ).2.1.length<=σ.1.length:=by unfold fX; split; exact Nat.le_refl _; exact hg _
theorem CT:∀ (n:Nat) (acc:List Xv) (σ:Sc),(fY g n acc σ).2.1.length<=σ.1.length
  | 0,_,_=>Nat.le_refl _
  | n+1,acc,σ=>by
    rw[fY]
    split
    · exact Nat.le_trans (CT n _ _) (Nat.le_trans (wE hg _) (cQ _ _ _))
    · exact Nat.le_refl _
theorem P8(ps:List Pr)(op:Int)(a1:Xv)(σ:Sc):(J7 ps g op a1 σ).2.1.length<=σ.1.length:=by
  unfold J7
  split
  · exact Nat.le_trans (cQ _ _ _) (CT hg _ _ _)
  · split
    · exact Nat.le_trans (cQ _ _ _) (Nat.le_trans (pe _ _) (cQ _ _ _))
    · split
      · exact Nat.le_trans (cQ _ _ _) (Nat.le_trans (xo _ _ _) (cQ _ _ _))
      · exact cQ _ _ _
end
theorem BI(ps:List Pr):∀ (f:Nat) (σ:Sc),(fJ ps f σ).2.1.length<=σ.1.length
  | 0,_=>Nat.le_refl _
  | f+1,σ=>by
    rw[fJ]
    split
    · exact Nat.le_trans (pe _ _) (EZ σ)
    · exact Nat.le_trans (P8 (BI ps f) _ _ _ _) (Nat.le_trans (wE (BI ps f) _) (E0 σ))
theorem Qc{m:List UInt8}{σ:Sc}(h:(σ.exp m).2=0):σ.2=0:=by
  unfold Sc.exp Kb at h;simp only at h
  split at h
  · exact h
  · unfold rj mB at h
    split at h
    · assumption
    · exact h
theorem J4{σ:Sc}(h1:bR (aT σ.1 σ.2)≠1)(h:(zq σ).2=0):(zq σ).1.length<σ.1.length:=by
  have h2:(vO σ).2=0:=Qc (σ:=(vO σ).next) h;have h3:bR (aT σ.1 σ.2)≠0:=λ h0=>by
    unfold vO at h2;rw[if_pos h0] at h2;unfold Sc.fail mB at h2;simp only at h2
    split at h2
    · cases h2
    · rename_i hn; exact hn h2
  have e1:vO σ=σ:=by rw[vO,if_neg h3]
  have hk:(aT σ.1 σ.2).k=1:=by
    unfold bR at h1
    split at h1
    · assumption
    · exact absurd rfl h1
  rw[e1] at h2;have hlt:(fE σ.1 σ.2).length<σ.1.length:=by
    rw[fE,if_pos h2];rw[aT,if_pos h2] at hk
    cases hl:σ.1 with
    | nil=>rw[hl] at hk; cases hk
    | cons x l=>simp
  rw[zq,e1];exact Nat.lt_of_le_of_lt (cQ _ _ _) hlt
end Go.Proofs.YtpihmghnbplohaaGreatDoor
namespace Go.Vc
open Go
def Ho(es:Array MapEntry)(ks:List Int):Prop:=es.toList.map (·.key)=ks.map iv/\∀ e∈es.toList,e.val=.bool true
def yR(r:Nat)(ks:List Int):aD:=Jh λ (x:{ p:Array MapEntry×Nat // Ho p.1 ks })=>aK r (.map x.1.1 x.1.2)
theorem nT(k:Int):∀ (es:List MapEntry) (ks:List Int) (i:Nat),es.map (·.key)=ks.map iv->(∀ e∈es,e.val=.bool true) ->
    (k∈ks/\∃ j,Instr.findNow (.int .i64) (iv k) es i=some (some (j,.bool true)))\/(k∉ks/\Instr.findNow (.int .i64) (iv k) es i=some none)
  | [],[],_,_,_=>.inr ⟨by simp,rfl⟩
  | e :: es,x :: ks,i,h,hv=>by
    simp only[List.map_cons,List.cons.injEq] at h;have hs:Instr.sameNow (.int .i64) (iv k) e.key=some (k==x):=by rw[h.1]; simp[Instr.sameNow]
    by_cases hkx:k=x
    · subst hkx;refine .inl ⟨by simp,i,?_⟩;have:=hv e (by simp);simp[Instr.findNow,hs,this]
    · have hb:(k==x)=false:=by simpa using hkx
      rcases nT k es ks (i+1) h.2 (λ e he=>hv e (by simp[he])) with⟨h1,j,h2⟩ | ⟨h1,h2⟩
      · exact .inl ⟨by simp[h1],j,by simp[Instr.findNow,hs,hb,h2]⟩
      · exact .inr ⟨by simp[h1,hkx],by simp[Instr.findNow,hs,hb,h2]⟩
  | [],_ :: _,_,h,_=>by simp at h
  | _ :: _,[],_,h,_=>by simp at h
structure SM (P:Program) (t k e:TypeId) (z:Value):Prop where
  u:P.underlying t=some (.map k e)
  z:(P.info? e).bind (·.zero)=some z
section
variable {P:Program} {t kt et:TypeId} {w0 w:World} {B:aD} {r:Nat} {ks:List Int}
theorem lT(hk:P.underlying kt=some (.int .i64))(b:Bool)(n:Nat)(k:Int)(w:World):(Instr.checkKey b (n+1) kt (iv k)).run P w=.ok () w:=by
  simp[Instr.checkKey,aI hk]
theorem ym(hT:SM P t kt et (.bool false))(hk:P.underlying kt=some (.int .i64))(s:St w0 w (star (yR r ks) B))(k:Int){R:Bool->World->Prop}(h:R (decide (k∈ks)) w) :
    aZ P (Instr.lookup t (.map (some r)) (iv k) false) w λ e w'=>∃ b:Bool,e=.bool b/\R b w':=by
  obtain⟨⟨⟨es,cl⟩,h1,h2⟩,s'⟩:=s.ex;have ho:w.heap[r]? = some (.map es cl):=s'.obj;have hz:(zeroValue et).run P w=.ok (.bool false) w:=by
    have:=hT.z
    cases hi:P.info? et with
    | none=>simp[hi] at this
    | some i=>simp[hi] at this; simp[zeroValue,typeInfo,hi,this]
  have hc:=lT (P:=P) hk es.isEmpty 9999 k w;rcases nT k es.toList ks 0 h1 h2 with⟨hm,j,hf⟩ | ⟨hm,hf⟩
  · refine⟨.bool true,w,?_,true,rfl,by rwa [decide_eq_true hm] at h⟩;simp[Instr.lookup,aI hT.u,Instr.findKey,aI hk,hf,ho,hc,getObj,Sem.run]
  · refine⟨.bool false,w,?_,false,rfl,by rwa [decide_eq_false hm] at h⟩;simp[Instr.lookup,aI hT.u,Instr.findKey,aI hk,hf,ho,hc,hz,getObj,Sem.run]
theorem AB(hT:SM P t kt et (.bool false))(hk:P.underlying kt=some (.int .i64))(s:St w0 w (star (yR r ks) B))(k:Int)(hn:k∉ks){R:World->Prop}(h:∀ w',az w w' [r]->St w0 w' (star (yR r (ks++[k])) B)->R w'):aZ P (Instr.mapUpdate t (.map (some r)) (iv k) (.bool true)) w λ _ w'=>R w':=by
  obtain⟨⟨⟨es,cl⟩,h1,h2⟩,s'⟩:=s.ex;have ho:w.heap[r]? = some (.map es cl):=s'.obj;have hc:=lT (P:=P) hk false 9999 k w;rcases nT k es.toList ks 0 h1 h2 with⟨hm,_⟩ | ⟨hm,hf⟩
  · exact absurd hm hn
  · have hs:=s'.put (.map (es.push { key:=iv k,val:=.bool true,born:=cl }) (cl+1));have hr:(Instr.mapUpdate t (.map (some r)) (iv k) (.bool true)).run P w=.ok () { w with heap:=w.heap.setIfInBounds r (.map (es.push { key:=iv k,val:=.bool true,born:=cl }) (cl+1)) }:=by
      simp[Instr.mapUpdate,aI hT.u,Instr.findKey,aI hk,hf,ho,hc,setObj,getObj,Sem.run]
    refine⟨_,_,hr,h _ (az.put w r _ (by simp)) (St.kK (f:=λ (x:{ p:Array MapEntry×Nat // Ho p.1 (ks++[k]) })=>aK r (.map x.1.1 x.1.2)) ⟨(_,_),?_,?_⟩ hs)⟩
    · simp[h1]
    · intro e he;have he' : e∈es.toList++[{ key:=iv k,val:=.bool true,born:=cl }]:=by simpa using he
      rcases List.mem_append.1 he' with he | he
      · exact h2 e he
      · rw[List.mem_singleton.1 he]
theorem C7{ty:TypeId}(hT:SM P t kt et (.bool false))(s:St w0 w (star (yR r ks) B)){R:World->Prop}(h:∀ w',az w w' [r]->St w0 w' (star (yR r []) B)->R w') :
    aZ P (Builtin.clear_ #[t] ty #[.map (some r)]) w λ _ w'=>R w':=by
  obtain⟨⟨⟨es,cl⟩,h1,h2⟩,s'⟩:=s.ex;have ho:w.heap[r]? = some (.map es cl):=s'.obj;have hs:=s'.put (.map #[] cl);have hr:(Builtin.clear_ #[t] ty #[.map (some r)]).run P w=.ok (.tuple #[]) { w with heap:=w.heap.setIfInBounds r (.map #[] cl) }:=by
    simp[Builtin.clear_,aI hT.u,ho,setObj,getObj,Sem.run]
  exact⟨_,_,hr,h _ (az.put w r _ (by simp)) (St.kK (f:=λ (x:{ p:Array MapEntry×Nat // Ho p.1 [] })=>aK r (.map x.1.1 x.1.2)) ⟨(_,_),by simp,by simp⟩ hs)⟩
theorem uk{t' : TypeId}(s:St w0 w B){R:Option Nat->World->Prop}(h:∀ r w',az w w' []->St w0 w' (star (aK r (.map #[] 0)) B)->R (some r) w'):aZ P (Instr.makeMap t' none) w λ e w'=>∃ m:Option Nat,e=.map m/\R m w':=by
  refine⟨_,_,?_,_,rfl,h _ _ (az.new w (.map #[] 0) []) (s.newObj (.map #[] 0)).swap⟩;simp[Instr.makeMap,newObj,Sem.run]
theorem St.SD(s:St w0 w (star (aK r (.map #[] 0)) B)):St w0 w (star (yR r []) B) :=
  St.kK (f:=λ (x:{ p:Array MapEntry×Nat // Ho p.1 [] })=>aK r (.map x.1.1 x.1.2)) ⟨(#[],0),by simp,by simp⟩ s
end
end Go.Vc
namespace Go.Vc
structure Lo where
  v:Nat->Int
  f:Nat->Int
  lr:Nat->Nat
  ch:Int
def pG{α:Type}(f:Nat->α)(i:Nat)(x:α):Nat->α:=λ j=>if j=i then x else f j
theorem cO{α:Type}(f:Nat->α)(i:Nat)(x:α):pG f i x i=x:=if_pos rfl
theorem fG{α:Type}(f:Nat->α){i j:Nat}(x:α)(h:j≠i):pG f i x j=f j:=if_neg h
theorem BZ{α:Type}(f:Nat->α)(n i:Nat)(x:α):((List.range n).map f).set i x=(List.range n).map (pG f i x):=by
  refine List.ext_getElem? λ j=>?_;rw[List.getElem?_set,List.length_map,List.length_range,List.getElem?_map,List.getElem?_map]
  by_cases h:i=j
  · subst h;rw[if_pos rfl]
    by_cases hl:i<n
    · rw[if_pos hl,List.getElem?_range hl,Option.map_some,cO]
    · rw[if_neg hl,List.getElem?_eq_none (by simpa using hl),Option.map_none]
  · rw[if_neg h]
    cases hj:(List.range n)[j]? with
    | none=>rfl
    | some k =>
      have:k=j:=by
        obtain⟨hl,e⟩:=List.getElem?_eq_some_iff.1 hj;simpa using e.symm
      subst this;rw[Option.map_some,Option.map_some,fG _ _ (Ne.symm h)]
def RA:Lo:=⟨λ _=>0,λ _=>-1,λ _=>0,-1⟩
def Jm(g:Nat->Nat->Int)(r a b:Nat)(t:Lo):Lo:=if t.v a+g a b<t.v b then { v:=pG t.v b (t.v a+g a b),f:=pG t.f b a,lr:=pG t.lr b r,ch:=b } else t
def OY(g:Nat->Nat->Int)(r a:Nat):Nat->Lo->Lo
  | 0,t=>t
  | b+1,t=>Jm g r a b (OY g r a b t)
def OX(g:Nat->Nat->Int)(n r:Nat):Nat->Lo->Lo
  | 0,t=>t
  | a+1,t=>OY g r a n (OX g n r a t)
def O0(g:Nat->Nat->Int)(n r:Nat)(s:Lo):Lo:=OX g n r n { s with ch:=-1 }
def Qs(g:Nat->Nat->Int)(n:Nat):Nat->Nat->Lo->Lo
  | 0,_,s=>s
  | k+1,r,s=>if (O0 g n (r+1) s).ch<0 then O0 g n (r+1) s else Qs g n k (r+1) (O0 g n (r+1) s)
def sE(g:Nat->Nat->Int)(n:Nat):Lo:=Qs g n n 0 RA
structure Gk (g:Nat->Nat->Int) (n:Nat) (G T:Int) (r a b:Nat) (s:Lo):Prop where
  lo:∀ x,x<n->-(G*(T+1))<=s.v x/\s.v x<=0
  la:a<n->-(G*T)<=s.v a
  lr:∀ x,x<n->s.lr x<=r
  f:∀ y,y<n->(s.f y=-1/\s.lr y=0)\/∃ p,p<n/\s.f y=(p:Int)/\1<=s.lr y/\s.lr y<=s.lr p+1
  ch:s.ch<0\/∃ c,c<n/\s.ch=(c:Int)/\s.lr c=r
  dn:∀ x,x<n->x<a->s.lr x<r->∀ y,y<n->s.v y<=s.v x+g x y
  nx:∀ x,x<n->a<=x->s.lr x+1<r->∀ y,y<n->s.v y<=s.v x+g x y
  cu:a<n->∀ y,y<b->s.v y<=s.v a+g a y
structure HH (g:Nat->Nat->Int) (n:Nat) (G T:Int) (r a:Nat) (s:Lo):Prop where
  i:Gk g n G T r a 0 s
  b:∀ x,x<n->-(G*T)<=s.v x
section
variable {g:Nat->Nat->Int} {n:Nat} {G T:Int} {r a b:Nat} {s:Lo}
theorem Gk.O6(h:Gk g n G T r n 0 s)(hb:∀ x,x<n->-(G*T)<=s.v x):Gk g n G T (r+1) 0 0 { s with ch:=-1 } :=
  ⟨h.lo,λ hn=>hb 0 hn,λ x hx=>Nat.le_succ_of_le (h.lr x hx),h.f,.inl (show(-1:Int)<0 by decide),λ x _ hx=>absurd hx (Nat.not_lt_zero x),λ x hx _ hl y hy=>h.dn x hx hx (Nat.lt_of_succ_lt_succ hl) y hy,λ _ y hy=>absurd hy (Nat.not_lt_zero y)⟩
theorem Gk.Jm(h:Gk g n G T r a b s)(g0:∀ a,g a a=0)(gb:∀ a b,a<n->b<n->-G<=g a b/\g a b<=G)(hr:1<=r)(ha:a<n)(hb:b<n):Gk g n G T r a (b+1) (Jm g r a b s):=by
  unfold Vc.Jm
  split
  · rename_i hlt;have hab:a≠b:=λ e=>by subst e; rw[g0 a] at hlt; omega
    have hra:r<=s.lr a+1:=by
      rcases Nat.lt_or_ge (s.lr a+1) r with h1 | h1
      · have:=h.nx a ha (Nat.le_refl a) h1 b hb;omega
      · exact h1
    have vb:∀ x,pG s.v b (s.v a+g a b) x<=s.v x:=λ x=>by
      by_cases e:x=b
      · subst e; rw[cO]; omega
      · rw[fG _ _ e]; exact Int.le_refl _
    have va:pG s.v b (s.v a+g a b) a=s.v a:=fG _ _ hab;refine⟨λ x hx=>?_,λ _=>?_,λ x hx=>?_,λ y hy=>?_,.inr ⟨b,hb,rfl,cO _ _ _⟩,λ x hx hxa hl y hy=>?_,λ x hx hxa hl y hy=>?_,λ _ y hy=>?_⟩
    · show -(G*(T+1))<=pG s.v b _ x/\pG s.v b _ x<=0;have h0:=h.lo x hx;have h1:=vb x;refine⟨?_,by omega⟩
      by_cases e:x=b
      · subst e;rw[cO];have h2:=h.la ha;have h3:=(gb a x ha hx).1;rw[Int.mul_add,Int.mul_one];omega
      · rw[fG _ _ e]; exact h0.1
    · show -(G*T)<=pG s.v b _ a;rw[va]; exact h.la ha
    · show pG s.lr b r x<=r
      by_cases e:x=b
      · subst e; rw[cO]; exact Nat.le_refl _
      · rw[fG _ _ e]; exact h.lr x hx
    · show(pG s.f b (a:Int) y=-1/\pG s.lr b r y=0)\/∃ p,p<n/\pG s.f b (a:Int) y=(p:Int)/\1<=pG s.lr b r y/\pG s.lr b r y<=pG s.lr b r p+1;have up:∀ p,p<n->s.lr p<=pG s.lr b r p:=λ p hp=>by
        by_cases e:p=b
        · subst e; rw[cO]; exact h.lr p hp
        · rw[fG _ _ e]; exact Nat.le_refl _
      by_cases e:y=b
      · subst e;rw[cO,cO];exact .inr ⟨a,ha,rfl,hr,by have:=up a ha; omega⟩
      · rw[fG _ _ e,fG _ _ e];rcases h.f y hy with h1 | ⟨p,hp,h1,h2,h3⟩
        · exact .inl h1
        · exact .inr ⟨p,hp,h1,h2,by have:=up p hp; omega⟩
    · show pG s.v b _ y<=pG s.v b _ x+g x y;have hl:pG s.lr b r x<r:=hl;have e:x≠b:=λ e=>by subst e; rw[cO] at hl; omega
      rw[fG _ _ e] at hl;rw[fG (i:=b) (j:=x) _ _ e];have:=h.dn x hx hxa hl y hy;have:=vb y;omega
    · show pG s.v b _ y<=pG s.v b _ x+g x y;have hl:pG s.lr b r x+1<r:=hl;have e:x≠b:=λ e=>by subst e; rw[cO] at hl; omega
      rw[fG _ _ e] at hl;rw[fG (i:=b) (j:=x) _ _ e];have:=h.nx x hx hxa hl y hy;have:=vb y;omega
    · show pG s.v b _ y<=pG s.v b _ a+g a y;rw[va]
      by_cases e:y=b
      · subst e; rw[cO]; exact Int.le_refl _
      · have:=h.cu ha y (by omega);have:=vb y;omega
  · rename_i hlt;exact⟨h.lo,h.la,h.lr,h.f,h.ch,h.dn,h.nx,λ _ y hy=>by
      by_cases e:y=b
      · subst e; omega
      · exact h.cu ha y (by omega)⟩
theorem Gk.OY(h:Gk g n G T r a 0 s)(g0:∀ a,g a a=0)(gb:∀ a b,a<n->b<n->-G<=g a b/\g a b<=G)(hr:1<=r)(ha:a<n):∀ b,b<=n->Gk g n G T r a b (OY g r a b s)
  | 0,_=>h
  | b+1,hb=>(Gk.OY h g0 gb hr ha b (Nat.le_of_succ_le hb)).Jm g0 gb hr ha hb
theorem Gk.R4(h:Gk g n G T r a n s)(hG:0<=G)(ha:a<n):HH g n G (T+1) r (a+1) s:=by
  have e:G*(T+1+1)=G*(T+1)+G:=by rw[Int.mul_add G (T+1),Int.mul_one]
  refine⟨⟨λ x hx=>?_,λ hx=>(h.lo (a+1) hx).1,h.lr,h.f,h.ch,λ x hx hxa hl y hy=>?_,λ x hx hxa hl y hy=>h.nx x hx (by omega) hl y hy,λ _ y hy=>absurd hy (Nat.not_lt_zero y)⟩,λ x hx=>(h.lo x hx).1⟩
  · have:=h.lo x hx;rw[e];omega
  · by_cases e:x=a
    · subst e; exact h.cu hx y hy
    · exact h.dn x hx (by omega) hl y hy
theorem HH.OX(h:HH g n G T r 0 s)(hG:0<=G)(g0:∀ a,g a a=0)(gb:∀ a b,a<n->b<n->-G<=g a b/\g a b<=G)(hr:1<=r):∀ a,a<=n->HH g n G (T+(a:Int)) r a (OX g n r a s)
  | 0,_=>by rw[show T+((0:Nat):Int)=T by omega]; exact h
  | a+1,ha=>by
    have ih:=HH.OX h hG g0 gb hr a (Nat.le_of_succ_le ha);have:=(ih.i.OY g0 gb hr ha n (Nat.le_refl n)).R4 hG ha;rw[show T+((a+1:Nat):Int)=T+(a:Int)+1 by omega];exact this
theorem OW(hG:0<=G):HH g n G 0 0 n RA:=by
  refine⟨⟨λ x _=>?_,λ h=>absurd h (Nat.lt_irrefl n),λ _ _=>Nat.le_refl 0,λ _ _=>.inl ⟨rfl,rfl⟩,.inl (show(-1:Int)<0 by decide),λ _ _ _ h=>absurd h (Nat.lt_irrefl 0),λ _ _ _ h=>absurd h (Nat.not_lt_zero _),λ h=>absurd h (Nat.lt_irrefl n)⟩,λ x _=>?_⟩
  · show -(G*(0+1))<=0/\(0:Int)<=0;rw[Int.zero_add,Int.mul_one]; omega
  · show -(G*0)<=0;rw[Int.mul_zero]; omega
theorem OZ(hG:0<=G)(g0:∀ a,g a a=0)(gb:∀ a b,a<n->b<n->-G<=g a b/\g a b<=G):∀ (k r:Nat) (T:Int) (s:Lo),r+k=n->HH g n G T r n s->∃ r' T',HH g n G T' r' n (Qs g n k r s)/\(0<=(Qs g n k r s).ch->r' = n)
  | 0,r,T,s,hk,h=>⟨r,T,h,λ _=>hk⟩
  | k+1,r,T,s,hk,h=>by
    have h1:HH g n G T (r+1) 0 { s with ch:=-1 }:=⟨h.i.O6 h.b,h.b⟩;have h2:HH g n G (T+(n:Int)) (r+1) n (O0 g n (r+1) s):=h1.OX hG g0 gb (by omega) n (Nat.le_refl n);unfold Qs
    split
    · rename_i hc;exact⟨r+1,_,h2,λ h=>absurd h (by omega)⟩
    · exact OZ hG g0 gb k (r+1) _ _ (by omega) h2
theorem Ip(hG:0<=G)(g0:∀ a,g a a=0)(gb:∀ a b,a<n->b<n->-G<=g a b/\g a b<=G):∃ r T,HH g n G T r n (sE g n)/\(0<=(sE g n).ch->r=n) :=
  OZ hG g0 gb n 0 0 RA (by omega) (OW hG)
end
end Go.Vc
namespace Go.Proofs.YtpihmghnbplohaaGreatDoor
open Go Go.Vc Tryz
structure Jq (w:World) (s:Se):Prop where
  i:s.In w
  o:s.Ok
theorem Jq.av{w w' : World}{s:Se}(h:Jq w s)(hc:az w w' []):Jq w' s:=⟨h.i.av hc,h.o⟩
theorem Jt{w:World}{s:Se}(h:Jq w s){n:Nat}{b:Br}(hb:s.bd[n]? = some b){c:Ch}(hc:c.Ok) :
    CP 145 #[.agg s.arr,iv n,c.v] w (λ r w'=>r=iv (CJ b c)/\az w w' []):=by
  refine lu ?_;unfold gO;have hn:=(List.getElem?_eq_some_iff.1 hb).1;refine(St.start w).one.ax s.arr λ r1 w1 s1=>s1.ax c.cells.toArray λ r2 w2 s2=>⟨_,_,_,_,_,_,_,_,_,_,_,_,s2.cellsIn 1 rfl,aj (Kp (s:=s) n) ?_⟩;rintro v w3 ⟨rfl,c3⟩;have s3:=s2.quiet c3;obtain⟨q,hq,hcl⟩:=JF ((h.av s3.av).i.bd) hb 2 _ rfl;refine⟨_,rfl,cF (by simp; omega) ⟨_,_,_,s3.ag 1 rfl 1,?_⟩⟩;rw[hq];refine⟨by omega,by omega,_,hcl,λ g w4=>g=decide (b.bud≠0/\b.bud<cost c.p c.want)/\az w w4 [],?_,?_⟩
  · rintro w4 g ⟨rfl,c4⟩ -
    by_cases hg:b.bud≠0/\b.bud<cost c.p c.want
    · exact cT (dT hg) ⟨by rw[CJ,if_pos hg],c4⟩
    · exact cF (dF hg) ⟨by rw[CJ,if_neg hg],c4⟩
  · by_cases h0:b.bud=0
    · exact cF (by simp[h0]) ⟨by simp[h0],s3.av⟩
    · refine cT (by simpa using h0) ⟨_,vI s3 0 rfl,_,bZ s3 0 rfl,aj (iJ w3 hc.p hc.w) ?_⟩;rintro v w5 ⟨rfl,c5⟩;exact⟨_,rfl,by simp[h0],(s3.quiet c5).av⟩
def Ah(l:List Ch):Bool:=(l.getLast?.map λ c=>decide (c.want=z6)).getD false
theorem Ka{w:World}{a:OA}{c:Nat}{l:List Ch}(h:EE w a l)(hl:l.length<=1000):CP 184 #[.slice a l.length c] w (λ r w'=>r=.bool (Ah l)/\w' = w):=by
  refine qy ?_;unfold mh
  by_cases h0:l.length=0
  · have:l=[]:=List.eq_nil_of_length_eq_zero h0;subst this;exact cF rfl ⟨rfl,rfl⟩
  · have hx:l[l.length-1]? = some (l[l.length-1]'(by omega)):=gE (by omega);have hlast:l.getLast? = some (l[l.length-1]'(by omega)):=by rw[List.getLast?_eq_getElem?,hx]
    generalize l[l.length-1]'(by omega)=x at hx hlast;obtain⟨q,hq,hcl⟩:=h.at hx;rw[hq];have e:IntKind.i64.wrap ((l.length:Int)-1)=((l.length-1:Nat):Int):=by rw[aC ⟨by omega,by omega⟩]; omega
    rw[e];refine cT (dT (by omega)) ⟨by omega,by omega,x.want,?_,?_,rfl⟩
    · refine bE _ 0 λ j v hj=>?_;have h6:j<6:=(List.getElem?_eq_some_iff.1 hj).1;have:=bC hcl (6+j) v (by
        match j,h6,hj with
        | 0,_,hj | 1,_,hj | 2,_,hj | 3,_,hj | 4,_,hj | 5,_,hj=>simpa[Ch.cells,I6.on,I6.vs] using hj)
      rw[Nat.zero_add] at this;rw[Addr.add_add,Nat.zero_add,Int.toNat_natCast];exact this
    · rw[Ah,hlast]; simp[I6.beq_eq]
def Ji(s:Se)(n:Int)(a:OA)(c:Nat)(l:List Ch):List Value:=[.slice s.a1 s.ps.length s.c1,.slice s.a2 s.bd.length s.c2,.slice s.a3 s.cp.length s.c3,.slice s.a4 s.sa.length s.c4,iv n,.slice a l.length c]
theorem Ks{w0 w:World}{s:Se}{n:Int}{a:OA}{c:Nat}{l:List Ch}{ls:List aD}{r:Nat}{T:TypeId}(h:St w0 w (Sep ls))(i:Nat)(e:ls[i]? = some (ai r (Ji s n a c l).toArray T)):af w ⟨r,0,none⟩ 0 s.arr.toList :=
  bE _ 0 λ j v hj=>by
    have h6:j<4:=(List.getElem?_eq_some_iff.1 hj).1;rw[bG,Nat.zero_add,Nat.zero_add,h.ag i e]
    match j,h6,hj with
    | 0,_,hj | 1,_,hj | 2,_,hj | 3,_,hj=>simpa[Ji,Se.arr] using hj
theorem Am{w:World}{s:Se}(h:Jq w s){n:Int}{a:OA}{k:Nat}{l:List Ch}{c:Ch}(hc:c.Ok) :
    CP 226 #[.agg (Ji s n a k l).toArray,c.v] w (λ r w'=>r=iv (Lb s.ps c.want)/\az w w' []):=by
  refine iA ?_;unfold dV;refine(St.start w).one.ax (Ji s n a k l).toArray λ r1 w1 s1=>s1.ax c.cells.toArray λ r2 w2 s2=>⟨_,_,_,s2.ag 1 rfl 0,_,bZ s2 0 rfl,aj (K9 ((h.av s2.av).i.ps) h.i.h1 h.o.ps hc.w) ?_⟩;rintro v w3 ⟨rfl,c3⟩;exact⟨_,rfl,rfl,(s2.quiet c3).av⟩
def Gy(s:Se)(b:Br)(l:List Ch):Int:=l.foldl (λ m c=>if Lb s.ps c.want<m then Lb s.ps c.want else m) b.pts
theorem P4{w:World}{s:Se}(h:Jq w s){n:Nat}{b:Br}(hb:s.bd[n]? = some b){a:OA}{k:Nat}{l:List Ch}(hr:EE w a l)(hl:l.length<=1000)(ho:∀ c∈l,c.Ok) :
    CP 227 #[.agg s.arr,iv n,.slice a l.length k] w (λ r w'=>r=iv (Gy s b l)/\az w w' []):=by
  refine j8 ?_;unfold fP;have hn:=(List.getElem?_eq_some_iff.1 hb).1;refine(St.start w).one.ax s.arr λ r1 w1 s1=>⟨_,_,_,_,_,_,_,_,_,_,_,_,s1.cellsIn 0 rfl,aj (Kp (s:=s) n) ?_⟩;rintro v w2 ⟨rfl,c2⟩;have s2:=(s1.quiet c2).quiet (az.drew w2 []);obtain⟨q,hq,hcl⟩:=JF ((h.av s2.av).i.bd) hb 3 _ rfl;refine⟨_,rfl,cF (by simp; omega) ⟨_,_,_,_,_,_,_,_,_,_,_,_,s2.cellsIn 0 rfl,_,_,_,s2.ag 0 rfl 1,?_⟩⟩;refine au hq ⟨by omega,by omega,_,hcl,λ m n4 w3 x=>∃ j:Nat,n4=j/\j<=l.length/\x=l.length-j/\m=Gy s b (l.take j)/\St w w3 (Sep [ai r1 s.arr 100,emp]),⟨l.length,0,rfl,by omega,by omega,rfl,s2⟩,?_⟩;rintro w3 x m n4 ⟨j,rfl,hj,hx',rfl,s3⟩ -
  by_cases hlt:(j:Int)<(l.length:Int)
  · have hx:l[j]? = some (l[j]'(by omega)):=gE (by omega);generalize l[j]'(by omega)=y at hx;obtain⟨q2,rfl,hcl2⟩:=(hr.av s3.av).at hx;refine cT (by simpa using hlt) ⟨by omega,by omega,y.p,y.want,hcl2,s3.ax A6.cells.toArray λ r2 w4 s4=>s4.aA 0 rfl y.cells rfl y.one λ w5 s5=>⟨y.p,y.want,s5.cellsIn 0 rfl,?_⟩⟩;have hp:=Am (n:=(n:Int)) (a:=some q2) (k:=k) (l:=l) (h.av s5.av) (ho y (List.mem_of_getElem? hx));refine aj hp ?_;rintro v w6 ⟨rfl,c6⟩;refine⟨_,rfl,l.length-(j+1),by omega,j+1,aC ⟨by omega,by omega⟩,by omega,rfl,?_,(s5.quiet c6).aq [1,2]⟩;rw[aL hx]; unfold Gy; rw[List.foldl_append,List.foldl_cons,List.foldl_nil]
  · obtain rfl:j=l.length:=by omega
    exact cF (by simp) ⟨by rw[List.take_length],s3.av⟩
def Dh(s:Se)(b:Br)(l:List Ch)(c:Ch):Bool:=decide (Lb s.ps c.want<=Gy s b l)
theorem GJ{w:World}{s:Se}(h:Jq w s){n:Nat}{b:Br}(hb:s.bd[n]? = some b){a:OA}{k:Nat}{l:List Ch}(hr:EE w a l)(hl:l.length<=1000)(ho:∀ c∈l,c.Ok){c:Ch}(hc:c.Ok) :
    CP 181 #[.agg (Ji s n a k l).toArray,c.v] w (λ r w'=>r=.bool (Dh s b l c)/\az w w' []):=by
  refine jX ?_;unfold fq;refine(St.start w).one.ax (Ji s n a k l).toArray λ r1 w1 s1=>s1.ax c.cells.toArray λ r2 w2 s2=>?_;have s3:=s2.quiet (az.drew w2 []);refine⟨_,_,_,_,_,_,_,_,_,_,_,_,_,_,_,_,s3.cellsIn 1 rfl,c.p,c.want,s3.cellsIn 0 rfl,_,_,_,_,_,_,_,_,_,_,_,_,Ks s3 1 rfl,_,s3.ag 1 rfl 4,_,_,_,s3.ag 1 rfl 5,aj (Am (n:=n) (a:=a) (k:=k) (l:=l) (h.av s3.av) hc) ?_⟩;rintro v w3 ⟨rfl,c3⟩;have s4:=s3.quiet c3;refine⟨_,rfl,s4.ag 1 rfl 5,s4.ag 1 rfl 4,Ks s4 1 rfl,aj (P4 (h.av s4.av) hb (hr.av s4.av) hl ho) ?_⟩;rintro v w5 ⟨rfl,c5⟩;exact⟨_,rfl,rfl,(s4.quiet c5).av⟩
def tT(c:Ch):Bool:=c.p.l.all qc&&c.want.l.all lR
theorem C5{c:Ch}:tT c=true<->c.Ok:=by
  unfold tT;rw[Bool.and_eq_true];exact⟨λ h=>⟨sP.1 h.1,Jl h.2⟩,λ h=>⟨sP.2 h.p,leq h.w⟩⟩
theorem Lu(w:World)(c:Ch):CP 294 #[c.v] w (λ r w'=>r=.bool (tT c)/\az w w' []):=by
  refine td ?_;unfold oC;refine(St.start w).one.ax c.cells.toArray λ r1 w1 s1=>⟨c.p,vI s1 0 rfl,λ n w2 m=>∃ k:Nat,n=k/\k<=6/\m=6-k/\(c.p.l.take k).all qc=true/\w2=w1,⟨6,0,rfl,by omega,by omega,rfl,rfl⟩,?_⟩;rintro w2 m n ⟨k,rfl,hk,hm,ha,rfl⟩ -
  by_cases hlt:(k:Int)<6
  · have hk' : k<6:=by omega
    refine cT (dT hlt) ⟨by omega,by omega,_,c.p.get k hk',λ b w3=>b=(!qc (c.p.at' k))/\w3=w2,?_,?_⟩
    · rintro w3 b ⟨rfl,rfl⟩ -
      cases hx:qc (c.p.at' k) with
      | true=>exact cF rfl ⟨6-(k+1),by omega,k+1,inc (by decide) hk',by omega,rfl,tN ha (c.p.vY k hk') hx,rfl⟩
      | false=>exact cT rfl ⟨by rw[tT,xk (c.p.vY k hk') hx]; rfl,s1.av⟩
    · by_cases h0:c.p.at' k<0
      · exact cT (dT h0) ⟨by simp[qc]; omega,rfl⟩
      · refine cF (dF h0) ⟨?_,rfl⟩;rw[qc,dT (show 0<=c.p.at' k by omega),Bool.true_and]
        by_cases h1:c.p.at' k<=1000000
        · rw[dT h1,dF (by omega)]; rfl
        · rw[dF h1,dT (by omega)]; rfl
  · obtain rfl:k=6:=by omega
    refine cF (by simp) ⟨_,bZ s1 0 rfl,aj (cJ w2 c.want) ?_⟩;rintro v w4 ⟨rfl,c4⟩;refine⟨_,rfl,?_,(s1.quiet c4).av⟩;rw[tT,show c.p.l.all qc=true from ha]
    cases c.want.l.all lR<;>rfl
theorem xm{w:World}{a:OA}{k:Nat}{l:List Ch}(hr:EE w a l)(hl:l.length<=1000) :
    CP 267 #[.slice a l.length k] w (λ r w'=>r=.bool (l.all tT)/\az w w' []):=by
  refine oz ?_;unfold jK;refine⟨λ n w1 m=>∃ j:Nat,n=j/\j<=l.length/\m=l.length-j/\(l.take j).all tT=true/\az w w1 [],⟨l.length,0,rfl,by omega,by omega,rfl,az.refl _ _⟩,?_⟩;rintro w1 m n ⟨j,rfl,hj,hm,ha,hc⟩ -
  by_cases hlt:(j:Int)<(l.length:Int)
  · have hx:l[j]? = some (l[j]'(by omega)):=gE (by omega);generalize l[j]'(by omega)=y at hx;obtain⟨q2,rfl,hcl2⟩:=(hr.av hc).at hx;refine cT (by simpa using hlt) ⟨by omega,by omega,y.p,y.want,hcl2,(St.start' hc).one.ax A6.cells.toArray λ r2 w4 s4=>s4.aA 0 rfl y.cells rfl y.one λ w5 s5=>⟨y.p,y.want,s5.cellsIn 0 rfl,aj (Lu w5 y) ?_⟩⟩;rintro v w6 ⟨rfl,c6⟩;refine⟨_,rfl,?_⟩
    cases hy:tT y with
    | true =>
      refine cF rfl ⟨l.length-(j+1),by omega,j+1,aC ⟨by omega,by omega⟩,by omega,rfl,?_,(s5.quiet c6).av⟩;rw[aL hx,List.all_append,ha]; simp[hy]
    | false =>
      refine cT rfl ⟨?_,(s5.quiet c6).av⟩;rw[List.all_eq_false.2 ⟨y,List.mem_of_getElem? hx,by simp[hy]⟩]
  · obtain rfl:j=l.length:=by omega
    rw[List.take_length] at ha;exact cF (by simp) ⟨by rw[ha],hc⟩
def xY(a b:Ch):Int:=cost a.p b.want-cost a.p a.want
theorem M9{a b:Ch}(ha:a.Ok)(hb:b.Ok) : -24000000<=xY a b/\xY a b<=24000000:=by
  have h1:=lG ha.p hb.w;have h2:=lG ha.p ha.w;unfold xY; omega
theorem Qg(w:World){a b:Ch}(ha:a.Ok)(hb:b.Ok):CP 286 #[a.v,b.v] w (λ r w'=>r=iv (xY a b)/\az w w' []):=by
  refine uA ?_;unfold qo;have h1:=lG ha.p hb.w;have h2:=lG ha.p ha.w;refine(St.start w).one.ax a.cells.toArray λ r1 w1 s1=>s1.ax b.cells.toArray λ r2 w2 s2=>?_;have s3:=s2.quiet (az.drew w2 []);refine⟨_,vI s3 1 rfl,_,bZ s3 0 rfl,_,vI s3 1 rfl,_,bZ s3 1 rfl,aj (iJ _ ha.p hb.w) ?_⟩;rintro v w3 ⟨rfl,c3⟩;have s4:=s3.quiet c3;refine⟨_,rfl,bZ s4 1 rfl,vI s4 1 rfl,aj (iJ _ ha.p ha.w) ?_⟩;rintro v w5 ⟨rfl,c5⟩;refine⟨_,rfl,?_,(s4.quiet c5).av⟩;rw[aC ⟨by omega,by omega⟩]; rfl
end Go.Proofs.YtpihmghnbplohaaGreatDoor

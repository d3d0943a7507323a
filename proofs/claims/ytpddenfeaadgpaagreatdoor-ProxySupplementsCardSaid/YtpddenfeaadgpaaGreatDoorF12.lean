import Derived.Test.YtpddenfeaadgpaaGreatDoorTie
import Derived.Test.YtpddenfeaadgpaaGreatDoorCards
import Derived.DataReads
import Derived.ProofKit
import Derived.ChangeOld
import Derived.ChangeSlices
import Derived.Below
import Derived.Lay
import Derived.Lib.SmallJoins
import Derived.Lib.LaidTab
import Derived.ChangeSame
import Derived.ChangeVars
import Derived.JoinedOf
import Derived.LaidLaws
import Derived.LaidHandle
import Derived.Stop.Joined
import Derived.Stop.LaidErr
import Derived.SevenTiedAt
import Derived.Test.YtpddenfeaadgpaaGreatDoorF11
set_option linter.unusedVariables false
set_option maxRecDepth 100000
namespace Go.Proofs.YtpddenfeaadgpaaGreatDoor
open Go Go.Vc _root_.Go.Proofs.Tryz
theorem CA(l:List Ch)(c:Ch):eW (l++[c])=decide (c.want=z6):=by simp[eW]
theorem Gq{p p' u:I6}(hu:I6.Le u 4)(hle:∀ k,k<6->p.at' k<=p'.at' k):cost p u<=cost p' u:=by
 have key:∀ k,k<6->p.at' k*u.at' k<=p'.at' k*u.at' k:=λ k hk=>Int.mul_le_mul_of_nonneg_right (hle k hk) (hu k hk).1;have h0:=key 0 (by decide); have h1:=key 1 (by decide); have h2:=key 2 (by decide); have h3:=key 3 (by decide); have h4:=key 4 (by decide); have h5:=key 5 (by decide);simp only[I6.at'] at h0 h1 h2 h3 h4 h5;unfold cost;omega
theorem least(f:Nat->Int):∀ n,0<n->∃ s,s<n/\∀ t,t<n->f s<=f t
 | 0,h=>by omega
 | 1,_=>⟨0,by omega,λ t ht=>by
  obtain rfl:t=0:=by omega
  exact Int.le_refl _⟩
 | n+2,_=>by
  obtain⟨s,h1,h2⟩:=least f (n+1) (by omega);rcases Int.lt_or_le (f (n+1)) (f s) with h|h
  ·refine⟨n+1,by omega,λ t ht=>?_⟩
   by_cases e:t=n+1
   ·rw[e]; exact Int.le_refl _
   ·have:=h2 t (by omega); omega
  ·refine⟨s,by omega,λ t ht=>?_⟩
   by_cases e:t=n+1
   ·rw[e]; exact h
   ·exact h2 t (by omega)
theorem H9{l:List Ch}{p:I6}(hc:bO l=true)(hp:bw p=true)(hup:∀ c∈l,∀ k,k<6->c.p.at' k<=p.at' k):bO (l++[Ch.mk p z6])=true:=by
 obtain⟨hok,v,hv⟩:=iE.1 hc;have gl:∀ {i},i<l.length->(l++[Ch.mk p z6]).getD i dj=l.getD i dj:=λ {i} hi=>by
  rw[List.getD_eq_getElem?_getD,List.getD_eq_getElem?_getD,List.getElem?_append_left hi]
 have gn:(l++[Ch.mk p z6]).getD l.length dj=Ch.mk p z6:=by simp[List.getD_eq_getElem?_getD]
 have gm:∀ {j},j<l.length->l.getD j dj∈l:=λ {j} hj=>by
  rw[List.getD_eq_getElem?_getD,gE hj]; exact List.getElem_mem hj
 have hv' : ∀ a b,a<l.length->b<l.length->v b<=v a+(cost (l.getD a dj).p (l.getD b dj).want-cost (l.getD a dj).p (l.getD a dj).want):=λ a b ha hb=>hv a b ha hb _ (List.mem_singleton.2 rfl);refine iE.2 ⟨λ c hc=>?_,?_⟩
 ·rcases List.mem_append.1 hc with hc|hc
  ·exact hok c hc
  ·cases List.mem_singleton.1 hc
   exact⟨eM hp,Ce (by decide)⟩
 rcases Nat.eq_zero_or_pos l.length with h0|h0
 ·refine⟨v,λ a b ha hb x hx=>?_⟩
  cases List.mem_singleton.1 hx
  have hl:(l++[(⟨p,z6⟩:Ch)]).length=1:=by simp[h0]
  obtain rfl:a=0:=by omega
  obtain rfl:b=0:=by omega
  rw[Bk]; omega
 obtain⟨s,hs,hmin⟩:=least (λ t=>v t-cost (l.getD t dj).p (l.getD t dj).want) l.length h0;refine⟨λ j=>if j<l.length then v j else v s-cost (l.getD s dj).p (l.getD s dj).want,λ a b ha hb x hx=>?_⟩
 cases List.mem_singleton.1 hx
 have hl:(l++[(⟨p,z6⟩:Ch)]).length=l.length+1:=by simp
 show(if b<l.length then v b else _)<=(if a<l.length then v a else _)+gF _ a b;unfold gF iF
 by_cases ga:a<l.length
 ·rw[if_pos ga,gl ga]
  by_cases gb:b<l.length
  ·rw[if_pos gb,gl gb]; exact hv' a b ga gb
  ·obtain rfl:b=l.length:=by omega
   rw[if_neg gb,gn];have:=hmin a ga;rw[show cost (l.getD a dj).p (⟨p,z6⟩:Ch).want=0 from j6 _];omega
 ·obtain rfl:a=l.length:=by omega
  rw[if_neg ga,gn];rw[show cost (⟨p,z6⟩:Ch).p (⟨p,z6⟩:Ch).want=0 from j6 _]
  by_cases gb:b<l.length
  ·rw[if_pos gb,gl gb];have h1:=hv' s b hs gb;have h2:cost (l.getD s dj).p (l.getD b dj).want<=cost p (l.getD b dj).want:=Gq (hok _ (gm gb)).2 (hup _ (gm hs));show v b<=_+(cost p (l.getD b dj).want-0);omega
  ·obtain rfl:b=l.length:=by omega
   rw[if_neg gb,gn,show cost (⟨p,z6⟩:Ch).p (⟨p,z6⟩:Ch).want=0 from j6 _];omega
structure FB (S:Se) (o:Po) (C:Ck):Prop where
 inv:C.Inv
 s:C.s=S
 o:C.o=o
 dp:∀ i,C.dp.getD i false=false
 up:∀ x∈C.cl,∀ k,k<6->x.p.at' k<=C.p.at' k
 bd:∀ x∈C.cl,∀ i,i<S.bd.length->x.bd.getD i false=true
 cs:C.o.rule=2->∀ i,i<S.bd.length->eW (fz C i)=true\/bO (fz C i)=true
theorem G3{S:Se}(hs:S.Ok){u:I6}(hu:I6.Le u 4):0<=nh S.ps u:=by
 have:=hs.ps.l2;exact(oM hu (Kv hs.ps) S.ps.length (by omega)).1
theorem Bc{S:Se}(hs:S.Ok):∀ (l:List Ch) (m:Int),0<=m->(∀ c∈l,I6.Le c.want 4)->0<=l.foldl (λ m c=>if nh S.ps c.want<m then nh S.ps c.want else m) m
 | [],_,hm,_=>hm
 | c :: l,m,hm,h=>by
  rw[List.foldl_cons];refine Bc hs l _ ?_ λ c hc=>h c (by simp[hc])
  split
  ·exact G3 hs (h c (by simp))
  ·exact hm
section
variable {S:Se} {o:Po} {C:Ck} (hs:S.Ok) (ho:o.ok)
include hs ho
theorem Hr(h:FB S o C)(hov:C.ov=false){i:Nat}(hi:i<S.bd.length):bK C i (S.bd.getD i eH) z6=0:=by
 have hy:S.bd[i]?=some (S.bd[i]'hi):=gE hi;have ey:S.bd.getD i eH = S.bd[i]'hi:=by simp[List.getD_eq_getElem?_getD,hy]
 rw[ey];generalize S.bd[i]'hi=y at hy ey;have hpm:=ng hs hy C.p;rw[cK,Bool.and_eq_true,decide_eq_true_eq,decide_eq_true_eq] at hpm;have hr:=ho;unfold Po.ok at hr;unfold bK;rw[hov,h.dp i,h.s,if_neg (by decide),if_neg (by rw[hpm.1]; simp),if_neg (by rw[hpm.2]; simp),h.o,mJ,if_pos (by omega)]
 by_cases hex:eW (fz C i)=true
 ·rw[if_pos hex,if_pos];rw[decide_eq_true_eq]
 rw[if_neg hex,if_pos];have hc4:∀ c∈fz C i,I6.Le c.want 4:=λ c hc=>by
  obtain⟨x,hx,rfl⟩:=List.mem_map.1 hc;have hl:i<x.ask.length:=by rw[(h.inv.ok.cz x hx).ask,h.s]; exact hi
  have e:x.ask.getD i z6=x.ask[i]'hl:=by rw[List.getD_eq_getElem?_getD,gE hl]; rfl
  show I6.Le (x.ask.getD i z6) 4;rw[e]; exact h.inv.ok.ca x hx _ (List.getElem_mem hl)
 have hf:mg S y (fz C i) ⟨C.p,z6⟩=true:=by
  rw[mg,decide_eq_true_eq];have e0:nh S.ps z6=0:=by
   unfold nh Dt;exact AS _ _ _ (by have:=hs.ps.l2; omega)
  show nh S.ps z6<=_;rw[e0];have:=(hs.bd.good i y hy).1;simp only[lH,Bool.and_eq_true,decide_eq_true_eq] at this;exact Bc hs _ _ this.2.2.2.1 hc4
 unfold mD
 by_cases g1:o.rule=1
 ·rw[if_pos g1]; exact hf
 rw[if_neg g1]
 by_cases g2:o.rule=2
 ·rw[if_pos g2];rcases h.cs (by rw[h.o]; exact g2) i hi with hc|hc
  ·exact absurd hc hex
  ·refine H9 hc h.inv.ok.p λ c hc=>?_;obtain⟨x,hx,rfl⟩:=List.mem_map.1 hc;exact h.up x hx
 ·rw[if_neg g2,hf,Bool.true_or]
theorem I1(h:FB S o C)(hov:C.ov=false){i:Nat}(hi:i<S.bd.length)(l:List Of):∃ u,pW S C i l=gZ C i u/\bK C i (S.bd.getD i eH) u=0:=by
 unfold pW
 by_cases g:bK C i (S.bd.getD i eH) (cG S i l C.p).1=0
 ·rw[if_pos g]; exact⟨_,rfl,g⟩
 ·have:=Hr hs ho h hov hi;rw[if_neg g,if_pos this]; exact⟨_,rfl,this⟩
theorem Ff{L:List Lx}(h:FB S o C)(hov:C.ov=false):∀ k,k<=S.bd.length->FB S o (cv S L C k)/\(cv S L C k).ov=false/\(cv S L C k).p=C.p/\(cv S L C k).cl=C.cl/\∀ i,i<k->(cv S L C k).bd.getD i false=true/\(o.rule=2->(cv S L C k).ask.getD i z6=z6\/bO (fz C i++[⟨C.p,(cv S L C k).ask.getD i z6⟩])=true)
 | 0,_=>⟨h,hov,rfl,rfl,λ i hi=>by omega⟩
 | k+1,hk=>by
  obtain⟨h1,h2,h3,h4,h6⟩:=Ff (L:=L) h hov k (by omega);have hk' : k<S.bd.length:=by omega
  obtain⟨u,e1,e2⟩:=I1 hs ho h1 h2 hk' ((L[k]?.map Lx.l).getD []);have eR:cv S L C (k+1)=gZ (cv S L C k) k u:=e1;have la:k<(cv S L C k).ask.length:=by rw[h1.inv.ok.ask,h1.s]; exact hk'
  have lb:k<(cv S L C k).bd.length:=by rw[h1.inv.ok.bd,h1.s]; exact hk'
  have ech:fz (cv S L C k) k=fz C k:=by unfold fz; rw[h4]
  rw[eR];refine⟨⟨nK h1.inv e2,h1.s,h1.o,h1.dp,h1.up,h1.bd,h1.cs⟩,h2,h3,h4,λ i hi=>?_⟩;show((cv S L C k).bd.set k true).getD i false=true/\(_->((cv S L C k).ask.set k u).getD i z6=z6\/bO (fz C i++[⟨C.p,((cv S L C k).ask.set k u).getD i z6⟩])=true)
  by_cases e:k=i
  ·subst e;have ea:((cv S L C k).ask.set k u).getD k z6=u:=by rw[List.getD_eq_getElem?_getD,List.getElem?_set,if_pos rfl,if_pos la]; rfl
   have eb:((cv S L C k).bd.set k true).getD k false=true:=by rw[List.getD_eq_getElem?_getD,List.getElem?_set,if_pos rfl,if_pos lb]; rfl
   rw[ea,eb];refine⟨rfl,λ hr2=>?_⟩;unfold bK at e2;rw[h2,h1.dp k,if_neg (by decide)] at e2
   split at e2
   ·rename_i hh; exact absurd e2 hh
   split at e2
   ·rename_i hh; exact absurd e2 hh
   rw[h1.o,hr2,mJ,if_pos (by decide),ech,h3] at e2
   by_cases gu:u=z6
   ·exact .inl gu
   refine .inr ?_
   by_cases hex:eW (fz C k)=true
   ·simp[hex,gu] at e2
   by_cases hc:bO (fz C k++[⟨C.p,u⟩])=true
   ·exact hc
   ·simp[hex,mD,hc] at e2
  ·have e3:((cv S L C k).ask.set k u).getD i z6=(cv S L C k).ask.getD i z6:=by rw[List.getD_eq_getElem?_getD,List.getElem?_set,if_neg e,<- List.getD_eq_getElem?_getD]
   have e4:((cv S L C k).bd.set k true).getD i false=(cv S L C k).bd.getD i false:=by rw[List.getD_eq_getElem?_getD,List.getElem?_set,if_neg e,<- List.getD_eq_getElem?_getD]
   rw[e3,e4];exact h6 i (by omega)
theorem FC{L:List Lx}(hl:L.length=S.bd.length)(h:FB S o C)(hov:C.ov=false):FB S o (mH S L C):=by
 obtain⟨h1,h2,h3,h4,h6⟩:=Ff hs ho (L:=L) h hov L.length (by omega);show FB S o (bA (cv S L C L.length));generalize cv S L C L.length=D at h1 h2 h3 h4 h6;have hup:∀ k,k<6->D.p.at' k<=(bA D).p.at' k:=λ k hk=>by
  show _<=(if bP D then D.p else (cW D).1).at' k
  split
  ·exact Int.le_refl _
  ·rename_i hl;have hl2:(cW D).2=0:=by
    unfold bP at hl;simp only[Bool.or_eq_true,not_or,decide_eq_true_eq,bne_iff_ne,ne_eq,Decidable.not_not] at hl;exact hl.2.2
   unfold cW fj at hl2 ⊢
   split
   ·rename_i hc; rw[if_pos hc] at hl2; exact absurd hl2 (by decide)
   ·rw[h1.o]; exact zk ho h1.inv.ok.p k hk
 refine⟨iY h1.inv h2,h1.s,h1.o,h1.dp,λ x hx k hk=>?_,λ x hx i hi=>?_,λ hr i hi=>?_⟩
 ·rcases List.mem_append.1 (show x∈D.cl++[vf D] from hx) with hx|hx
  ·exact Int.le_trans (h1.up x hx k hk) (hup k hk)
  ·cases List.mem_singleton.1 hx; exact hup k hk
 ·rcases List.mem_append.1 (show x∈D.cl++[vf D] from hx) with hx|hx
  ·exact h1.bd x hx i hi
  ·cases List.mem_singleton.1 hx; exact(h6 i (by omega)).1
 ·have hr:D.o.rule=2:=hr;rw[h1.o] at hr;have e:fz (bA D) i=fz D i++[⟨D.p,D.ask.getD i z6⟩]:=by
   show(D.cl++[vf D]).map _=_;rw[List.map_append]; rfl
  rw[e,CA];rcases(h6 i (by omega)).2 hr with h7|h7
  ·exact .inl (by rw[decide_eq_true_eq]; exact h7)
  ·refine .inr ?_;have ech:fz D i=fz C i:=by unfold fz; rw[h4]
   rw[ech,h3]; exact h7
theorem zl{L:List Lx}(hl:L.length=S.bd.length):∀ (f:Nat) {C:Ck},FB S o C->FB S o (dY S L f C)
 | 0,_,h=>h
 | f+1,C,h=>by
  unfold dY
  split
  ·exact h
  ·rename_i hc;exact zl hl f (FC hs ho hl h (by simpa using hc))
theorem B4{L:List Lx}(hl:L.length=S.bd.length):FB S o (runM S o L) :=
 zl hs ho hl 31 ⟨ob hs ho,rfl,rfl,λ i=>by
  show(List.replicate S.bd.length false).getD i false=false;rw[List.getD_eq_getElem?_getD,List.getElem?_replicate]
  split<;>rfl,λ x hx=>by simp[dy] at hx,λ x hx=>by simp[dy] at hx,λ _ i _=>.inr (by
   show bO []=true;exact iE.2 ⟨λ c hc=>by simp at hc,λ _=>0,λ a b ha _=>by simp at ha⟩)⟩
end
set_option maxHeartbeats 4000000 in
theorem EX{w:World}(ht:zH w){S:Se}(h:S.In w)(o:Po){al:OA}{cl:Nat}{L:List Lx}(hF:bU 1 Lx.cells w al L)(hI:∀ x∈L,iQ w x.a x.l) :
  CP 4 #[.agg S.arr,o.v,.slice al L.length cl] w (λ r w'=>r=.bool true/\ax w w' []):=by
 refine mY ?_;unfold jx;refine(St.start w).one.av S.arr λ r1 w1 s1=>s1.av o.cells.toArray λ r2 w2 s2=>?_;have s2:St w w2 (Sep [ah r2 o.cells.toArray 41,ah r1 S.arr 27,emp]):=s2;have aw:∀ {w'},ax w w' []->CC 9 #[] w' λ e2 w5=>∃ b2,e2=.returned (.bool b2)/\(.bool b2:Value)=.bool true/\ax w w5 []:=λ hc=>aq (iq (ht.an hc)) λ v w5 hv=>⟨true,by rw[hv.1],rfl,hc.trans hv.2 (by simp)⟩;refine⟨_,_,_,_,_,_,_,_,_,_,_,_,s2.cellsIn 1 rfl,aq (kF (h.an s2.an) (hF.an s2.an)) ?_⟩;rintro v w3 ⟨⟨b,rfl,hb⟩,c3⟩;have s3:=s2.quiet c3;refine⟨_,rfl,?_⟩
 cases b with
 | false=>exact cT rfl (aw s3.an)
 | true =>
 have hf:=hb rfl;have hL:∀ {w'},ax w w' []->wV w' al L:=λ hc=>wV.an ⟨hF,λ x hx=>⟨hI x hx,by have:=hf.l x hx; omega⟩⟩ hc;refine cF rfl ⟨_,_,_,_,_,_,_,_,_,_,_,_,s3.cellsIn 1 rfl,_,_,_,_,s3.cellsIn 0 rfl,aq (pH (h.an s3.an) o (hL s3.an)) ?_⟩;rintro v w5 (⟨h0,rfl,c5⟩|⟨h0,hs,ho,hl,g,C,eC,hi,hov,rfl,k5⟩)
 ·have s5:=s3.quiet c5;refine⟨_,_,rfl,_,_,_,_,_,_,_,_,_,_,_,_,s5.cellsIn 1 rfl,_,_,_,_,s5.cellsIn 0 rfl,aq (sL (h.an s5.an) o (hL s5.an)) ?_⟩;rintro v w6 (⟨_,rfl,c6⟩|⟨h1,_⟩)
  ·exact⟨_,_,_,_,_,_,_,_,_,_,_,_,_,_,_,_,_,_,_,z6,_,_,_,_,_,_,_,_,_,_,_,rfl,(s5.quiet c6).av aI λ r3 w7 s7=>s7.az 0 rfl aI.toList rfl oQ λ w8 s8=>cF (by simp) (cT (by simpa using h0) (cT rfl (aw s8.an)))⟩
  ·exact absurd h1 h0
 have s5:St w w5 (Sep (eu g C++[ah r2 o.cells.toArray 41,ah r1 S.arr 27,emp])):=St.cat (l:=eu g C) (s3.and k5);refine⟨_,_,rfl,_,_,_,_,_,_,_,_,_,_,_,_,s5.cellsIn 7 rfl,_,_,_,_,s5.cellsIn 6 rfl,aq (sL (h.an s5.an) o (hL s5.an)) ?_⟩;rintro v w6 (⟨h1,_⟩|⟨_,_,_,_,D,eD,hiD,hsD,rfl,k6⟩)
 ·exact absurd h0 h1
 have s6:St w w6 (Sep (held D.bX :: (eu g C++[ah r2 o.cells.toArray 41,ah r1 S.arr 27,emp]))):=s5.and k6;have eCD:C.er=D.er:=eC.trans eD.symm;have FA:=B4 hs ho (L:=L) hl;refine⟨_,_,_,_,_,_,_,_,_,_,_,_,_,_,_,_,_,_,_,D.p,_,_,_,_,_,_,_,_,_,_,_,rfl,s6.av aI λ r3 w7 s7=>s7.az 0 rfl D.cells rfl D.one λ w8 s8=>cF rfl (cF rfl ?_)⟩;have s8:St w w8 (Sep ([ah r3 D.cells.toArray 49,held D.bX]++(eu g C++[ah r2 o.cells.toArray 41,ah r1 S.arr 27,emp]))):=s8;have rdC:∀ {w'},St w w' (Sep ([ah r3 D.cells.toArray 49,held D.bX]++(eu g C++[ah r2 o.cells.toArray 41,ah r1 S.arr 27,emp])))->C.Rd g w':=λ s=>((s.split _).second.split (eu g C)).first.imp nO;refine⟨λ b w10=>b=false/\St w w10 (Sep ([ah r3 D.cells.toArray 49,held D.bX]++(eu g C++[ah r2 o.cells.toArray 41,ah r1 S.arr 27,emp]))),?_,?_⟩
 ·rintro w10 b ⟨rfl,s10⟩ -;refine cF rfl (aq (lf (rdC s10) hi.ok) ?_);rintro v w11 ⟨l',a',c',el,rfl,k11⟩;have s11:=s10.quiet k11.an;have hrr:∀ {w'},ax w11 w' []->bU 9 Rn.cells w' a' l':=λ hc=>bU.an (St.rd Rn.len k11) hc;have hin:∀ {w'},ax w11 w' []->∀ x∈l',x.In w':=λ hc x hx=>((k11.second.imp (bB _)) x hx).an hc;have ecl:l'.map Rn.er=(runM S o L).cl.map Rn.er:=el.trans (congrArg Ck.cl eC);have h30:=FA.inv.ok.cl;have h8:=hs.bd.l2;have hl' : l'.length=(runM S o L).cl.length:=by have:=congrArg List.length ecl; simpa using this
  have hbd:∀ x∈l',x.bd.length=S.bd.length/\∀ i,i<S.bd.length->x.bd.getD i false=true:=λ x hx=>by
   have hm:x.er∈(runM S o L).cl.map Rn.er:=by rw[<- ecl]; exact List.mem_map_of_mem hx
   obtain⟨y,hy,e⟩:=List.mem_map.1 hm;have e2:y.bd=x.bd:=(congrArg Rn.bd e:y.er.bd=x.er.bd);have h2:=(FA.inv.ok.cz y hy).bd;rw[FA.s] at h2;rw[<- e2];exact⟨h2,FA.bd y hy⟩
  refine⟨_,_,_,rfl,λ i w12 m=>∃ k:Nat,i=k/\k<=l'.length/\m=l'.length-k/\ax w11 w12 [],⟨l'.length,0,rfl,by omega,by omega,ax.refl _ _⟩,?_⟩;rintro w12 m i ⟨n,rfl,hn,hm,d12⟩ -
  by_cases hlt:(n:Int)<(l'.length:Int)
  rotate_left
  ·exact cF (dF hlt) (aw (s11.quiet d12).an)
  have hx:l'[n]?=some (l'[n]'(by omega)):=gE (by omega);generalize l'[n]'(by omega)=x at hx;have hxm:=List.mem_of_getElem? hx;obtain⟨hx1,hx2⟩:=hbd x hxm;refine cT (dT hlt) ⟨λ i w13 m=>∃ k:Nat,i=k/\k<=x.bd.length/\m=x.bd.length-k/\ax w11 w13 [],⟨x.bd.length,0,rfl,by omega,by omega,d12⟩,?_⟩;rintro w13 m3 i ⟨j,rfl,hj,hm3,d13⟩ -;obtain⟨q,hq,hcl⟩:=(hrr d13).at hx;obtain⟨_,_,_,x8⟩:=kM hcl;refine ai hq ⟨by omega,by omega,_,_,_,x8,?_⟩
  by_cases hlt2:(j:Int)<(x.bd.length:Int)
  ·have hy:x.bd[j]?=some true:=by
    have h3:x.bd[j]?=some (x.bd[j]'(by omega)):=gE (by omega);have h4:=hx2 j (by omega);rw[List.getD_eq_getElem?_getD,h3] at h4;rw[h3]; exact congrArg some h4
   obtain⟨q3,hq3,hc3⟩:=DL (hin d13 x hxm).bd hy;exact cT (dT hlt2) (ai hq ⟨by omega,by omega,_,_,_,x8,ai hq3 ⟨by omega,by omega,true,hc3,cF rfl ⟨x.bd.length-(j+1),by omega,j+1,ay ⟨by omega,by omega⟩,by omega,rfl,d13⟩⟩⟩)
  ·exact cF (dF hlt2) ⟨l'.length-(n+1),by omega,n+1,ay ⟨by omega,by omega⟩,by omega,rfl,d13⟩
 have s9:=s8.quiet (ax.drew w8 []);refine cF rfl (aq (vH (rdC s9)) ?_);rintro v w15 ⟨rfl,rfl⟩;refine⟨_,rfl,cF (by rw[hov]; rfl) ⟨D.p,s9.aF 0 9 rfl rfl,aq (ld (rdC s9)) ?_⟩⟩;rintro v w16 ⟨rfl,c16⟩;have s16:St w w16 (Sep ([ah r3 D.cells.toArray 49,held D.bX]++(eu g C++[ah r2 o.cells.toArray 41,ah r1 S.arr 27,emp]))):=s9.quiet c16;have ep:C.p=D.p:=by
  have h3:=congrArg Ck.p eCD;exact h3
 refine⟨C.p,rfl,s16.aF 0 9 rfl rfl,cF (by rw[ep]; simp[I6.beq]) ⟨_,_,_,s16.ag 0 rfl 8,aq (AN (rdC s16) hi.ok) ?_⟩⟩;rintro v w17 ⟨l',a',c',el,rfl,k17⟩;have s17:=s16.quiet k17.an;have hDv:D.bX w17:=St.jc s17 1 rfl;have i1:cj l' w17:=k17.jc 1 rfl;have e1:l'.map Rn.er=D.cl.map Rn.er:=el.trans (congrArg Ck.cl eCD);have hl' : l'.length=C.cl.length:=by have:=congrArg List.length el; simpa using this
 have h30:=hi.ok.cl;have h8:=hi.ok.s.bd.l2;refine⟨_,_,_,rfl,s17.ag 0 rfl 8,aq (Dc (St.rd Rn.len (k17.out 0 rfl)) i1 hDv.cl hDv.i e1 (by omega) λ x hx=>?_) ?_⟩
 ·have hm:x.er∈C.cl.map Rn.er:=by rw[<- el]; exact List.mem_map_of_mem hx
  obtain⟨y,hy,e⟩:=List.mem_map.1 hm;have e2:y.ask=x.ask:=(congrArg Rn.ask e:y.er.ask=x.er.ask);have h2:=(hi.ok.cz y hy).ask;rw[<- e2]; omega
 ·rintro v w18 ⟨rfl,c18⟩;exact⟨_,rfl,rfl,s17.quiet c18⟩
set_option maxHeartbeats 1000000 in
theorem Aq{w:World}(ht:zH w){S:Se}(h:S.In w)(o:Po){al:OA}{cl:Nat}{L:List Lx}(hF:bU 1 Lx.cells w al L)(hI:∀ x∈L,iQ w x.a x.l) :
  CP 5 #[.agg S.arr,o.v,.slice al L.length cl] w (λ r w'=>r=.bool true/\ax w w' []):=by
 refine ki ?_;unfold gH;refine(St.start w).one.av S.arr λ r1 w1 s1=>s1.av o.cells.toArray λ r2 w2 s2=>?_;have s2:St w w2 (Sep [ah r2 o.cells.toArray 41,ah r1 S.arr 27,emp]):=s2;have aw:∀ {w'},ax w w' []->CC 9 #[] w' λ e2 w5=>∃ b2,e2=.returned (.bool b2)/\(.bool b2:Value)=.bool true/\ax w w5 []:=λ hc=>aq (iq (ht.an hc)) λ v w5 hv=>⟨true,by rw[hv.1],rfl,hc.trans hv.2 (by simp)⟩;refine⟨_,_,_,_,_,_,_,_,_,_,_,_,s2.cellsIn 1 rfl,aq (kF (h.an s2.an) (hF.an s2.an)) ?_⟩;rintro v w3 ⟨⟨b,rfl,hb⟩,c3⟩;have s3:=s2.quiet c3;refine⟨_,rfl,?_⟩
 cases b with
 | false=>exact cT rfl (aw s3.an)
 | true =>
 have hf:=hb rfl;have hL:∀ {w'},ax w w' []->wV w' al L:=λ hc=>wV.an ⟨hF,λ x hx=>⟨hI x hx,by have:=hf.l x hx; omega⟩⟩ hc;refine cF rfl ⟨_,_,_,_,_,_,_,_,_,_,_,_,s3.cellsIn 1 rfl,_,_,_,_,s3.cellsIn 0 rfl,aq (xK (h.an s3.an) (ht.an s3.an) o (hL s3.an)) ?_⟩;rintro v w5 (⟨h0,rfl,c5⟩|⟨h0,hs,ho,hl,a,c,rfl,k5⟩)
 ·have s5:=s3.quiet c5;refine⟨_,_,_,_,rfl,_,_,_,_,_,_,_,_,_,_,_,_,s5.cellsIn 1 rfl,_,_,_,_,s5.cellsIn 0 rfl,aq (qj (h.an s5.an) o (hL s5.an)) ?_⟩;rintro v w6 (⟨_,rfl,c6⟩|⟨h1,_⟩)
  ·refine⟨_,_,_,_,rfl,cT (by simp) (aq (qm (l:=[]) (λ i x hx=>by simp at hx) (λ i x hx=>by simp at hx) (by simp)) ?_)⟩;rintro v w7 ⟨rfl,c7⟩;exact⟨_,rfl,cT rfl (aw ((s5.quiet c6).quiet c7).an)⟩
  ·exact absurd h1 h0
 have s5:St w w5 (Sep [oI a c (nS S (runM S o L)),ah r2 o.cells.toArray 41,ah r1 S.arr 27,emp]):=s3.and k5;refine⟨_,_,_,_,rfl,_,_,_,_,_,_,_,_,_,_,_,_,s5.cellsIn 2 rfl,_,_,_,_,s5.cellsIn 1 rfl,aq (qj (h.an s5.an) o (hL s5.an)) ?_⟩;rintro v w6 (⟨h1,_⟩|⟨_,a2,c2,rfl,k6⟩)
 ·exact absurd h0 h1
 have s6:St w w6 (Sep [oI a2 c2 (nS S (runM S o L)),oI a c (nS S (runM S o L)),ah r2 o.cells.toArray 41,ah r1 S.arr 27,emp]):=s5.and k6;have hlen:(nS S (runM S o L)).length<=100000:=by
  have FA:=B4 hs ho (L:=L) hl;have h30:=FA.inv.ok.cl;have h8:=hs.bd.l2;have:=q5 (dM S) (cl:=(runM S o L).cl) (λ x hx=>by
   have h2:=(FA.inv.ok.cz x hx).ask;rw[FA.s] at h2; omega) (runM S o L).cl.length
  show(p7 _ _ _).length<=_;omega
 refine⟨_,_,_,_,rfl,cT rfl (aq (qm (St.rd rU (s6.out 1 rfl)) (St.rd rU (s6.out 0 rfl)) hlen) ?_)⟩;rintro v w7 ⟨rfl,c7⟩;exact⟨_,rfl,cT rfl (aw (s6.quiet c7).an)⟩
theorem qM{w:World}{a1 a2:OA}{c1 c2:Nat}{l:List Ch}{bids:List Of}(hr:nG w a1 l)(hl:l.length<=1000)(ho:∀ c∈l,c.Ok)(hb:iQ w a2 bids)(hbl:bids.length<=100000)(n:Int) :
  CP 28 #[.slice a1 l.length c1,iv n,.slice a2 bids.length c2] w (λ r w'=>∃ a' c',r=.slice a' ((bT l bids.length bids).map (dh n)).length c'/\St w w' (cw a' c' ((bT l bids.length bids).map (dh n)))):=by
 refine pM ?_;unfold mA;refine aq (De hr hl ho hb hbl) ?_;rintro v w2 ⟨a2,c2,rfl,s2⟩;have s3:=(St.start w2).one;have hT:=(lE (l:=l) bids.length bids (Nat.le_refl _)).2;have hrd0:∀ {w'},ax w2 w' []->iQ w' a2 (bT l bids.length bids):=λ hc=>bU.an (St.rd (B:=emp) Of.len s2.one) hc;have c02:=s2.an;generalize bT l bids.length bids=T at hT hrd0;refine⟨_,_,_,rfl,λ a4 l4 c4 i w3 m=>∃ k:Nat,i=k/\k<=T.length/\m=T.length-k/\l4=((T.take k).map (dh n)).length/\St w2 w3 (Sep [cw a4 c4 ((T.take k).map (dh n)),emp]),⟨T.length,0,rfl,by omega,by omega,rfl,s3.gU⟩,?_⟩;rintro w3 m a4 l4 c4 i ⟨k,rfl,hk2,hm,rfl,s4⟩ -
 by_cases hlt:(k:Int)<(T.length:Int)
 ·have hx:T[k]?=some (T[k]'(by omega)):=gE (by omega);generalize T[k]'(by omega)=y at hx;have s5:=s4.quiet (ax.drew w3 []);obtain⟨p,hp,hcl2⟩:=(hrd0 s5.an).at hx;have hlen4:((T.take k).map (dh n)).length<=100000:=by rw[List.length_map,List.length_take]; omega
  refine cT (dT hlt) (ai hp ⟨by omega,by omega,y.want,Ag hcl2,ai hp ⟨by omega,by omega,y.v,GW hcl2,s5.av (dh n y).cells.toArray λ r2 w7 s8=>?_⟩⟩);refine aY (l2:=[dh n y]) zo Of.len Of.one (s8.out 1 rfl) (cH (s8.cellsIn 0 rfl) rfl) (by simp only[List.length_singleton]; omega) (by simp only[List.length_singleton]; omega) λ a' c' w9 s9=>?_;have s9:=s9.back (i:=1) (by show 1<3; decide);have e1:(T.take k).map (dh n)++[dh n y]=(T.take (k+1)).map (dh n):=by rw[aQ hx,List.map_append]; rfl
  rw[e1] at s9 ⊢;exact⟨T.length-(k+1),by omega,k+1,ay ⟨by omega,by omega⟩,by omega,rfl,rfl,s9.aA [1,2]⟩
 ·obtain rfl:T.length=k:=by omega
  rw[List.take_length] at s4 ⊢;exact cF (dF hlt) ⟨_,_,rfl,(((St.start w).one.quiet c02).and s4.first).first⟩
theorem Iw{x:Of}:((x.b==x.b)&&((I6.beq x.want x.want)&&((x.v==x.v)&&true)))=true:=by simp[I6.beq]
theorem Dd{w:World}{a1 a2:OA}{c1 c2:Nat}{l:List Of}(h1:iQ w a1 l)(h2:iQ w a2 l)(hl:l.length<=100000) :
  CP 27 #[.slice a1 l.length c1,.slice a2 l.length c2] w (λ r w'=>r=.bool true/\ax w w' []):=by
 refine pL ?_;unfold mz;refine cF (by simp) ⟨λ i w1 m=>∃ k:Nat,i=k/\k<=l.length/\m=l.length-k/\ax w w1 [],⟨l.length,0,rfl,by omega,by omega,ax.refl _ _⟩,?_⟩;rintro w1 m i ⟨k,rfl,hk,hm,d1⟩ -
 by_cases hlt:(k:Int)<(l.length:Int)
 ·have hx:l[k]?=some (l[k]'(by omega)):=gE (by omega);generalize l[k]'(by omega)=y at hx;have d2:ax w w1.drew []:=d1.trans (ax.drew w1 []) (by simp);obtain⟨p,hp,hcl⟩:=(h1.an d2).at hx;obtain⟨p2,hp2,hcl2⟩:=(h2.an d2).at hx;refine cT (dT hlt) (ai hp ⟨by omega,by omega,y.b,y.want,y.v,hcl,ai hp2 ⟨by omega,by omega,y.b,y.want,y.v,hcl2,?_⟩⟩);exact cF (by rw[Iw]; rfl) ⟨l.length-(k+1),by omega,k+1,ay ⟨by omega,by omega⟩,by omega,rfl,d2⟩
 ·exact cF (dF hlt) ⟨rfl,d1⟩
theorem GS(l:List Ch)(bids:List Of)(n:Int)(q:I6):jJ l (bids.map (dh n)) q=jJ l bids q:=by
 unfold jJ;generalize l.foldl (hJ q) 0=v
 induction bids generalizing v with
 | nil=>rfl
 | cons x bids ih=>exact ih _
theorem ID(l:List Ch)(bids:List Of)(n:Int):gk l (bids.map (dh n))=gk l bids:=by
 have e1:(bids.map (dh n)).all eX=bids.all eX:=by rw[List.all_map]; rfl
 have e2:(bids.map (dh n)).any (fk l (bids.map (dh n)))=bids.any (fk l bids):=by
  rw[List.any_map];have:jJ l (bids.map (dh n))=jJ l bids:=funext λ q=>GS l bids n q;have e3:(fk l (bids.map (dh n)) ∘ dh n)=fk l bids:=funext λ x=>by
   show fk l (bids.map (dh n)) (dh n x)=_;unfold fk;rw[this]; rfl
  rw[e3]
 rw[gk,gk,e1,e2]
set_option maxHeartbeats 1000000 in
theorem G0{w:World}(ht:zH w){S:Se}(h:S.In w)(o:Po){al:OA}{cl:Nat}{L:List Lx}(hF:bU 1 Lx.cells w al L)(hI:∀ x∈L,iQ w x.a x.l)(n:Int){a:OA}{c:Nat}{l:List Of}(hl:iQ w a l) :
  CP 7 #[.agg S.arr,o.v,.slice al L.length cl,iv n,.slice a l.length c] w (λ r w'=>r=.bool true/\ax w w' []):=by
 refine gi ?_;unfold dS;refine(St.start w).one.av S.arr λ r1 w1 s1=>s1.av o.cells.toArray λ r2 w2 s2=>?_;have s2:St w w2 (Sep [ah r2 o.cells.toArray 41,ah r1 S.arr 27,emp]):=s2;have aw:∀ {w'},ax w w' []->CC 9 #[] w' λ e2 w5=>∃ b2,e2=.returned (.bool b2)/\(.bool b2:Value)=.bool true/\ax w w5 []:=λ hc=>aq (iq (ht.an hc)) λ v w5 hv=>⟨true,by rw[hv.1],rfl,hc.trans hv.2 (by simp)⟩;refine⟨λ b w3=>(b=false->HS S L/\l.length<=14)/\St w w3 (Sep [ah r2 o.cells.toArray 41,ah r1 S.arr 27,emp]),?_,_,_,_,_,_,_,_,_,_,_,_,_,s2.cellsIn 1 rfl,aq (kF (h.an s2.an) (hF.an s2.an)) ?_⟩
 rotate_left
 ·rintro v w3 ⟨⟨b,rfl,hb⟩,c3⟩;have s3:=s2.quiet c3;refine⟨_,rfl,?_⟩
  cases b with
  | false=>exact cT rfl ⟨λ h=>(by cases h),s3⟩
  | true =>
   refine cF rfl ⟨λ hh=>⟨hb rfl,?_⟩,s3⟩;have:=of_decide_eq_false hh;omega
 rintro w3 b ⟨hb,s3⟩ -
 cases b with
 | true=>exact cT rfl (aw s3.an)
 | false =>
 obtain⟨hf,h14⟩:=hb rfl;have hL:∀ {w'},ax w w' []->wV w' al L:=λ hc=>wV.an ⟨hF,λ x hx=>⟨hI x hx,by have:=hf.l x hx; omega⟩⟩ hc;refine cF rfl ⟨_,_,_,_,_,_,_,_,_,_,_,_,s3.cellsIn 1 rfl,_,_,_,_,s3.cellsIn 0 rfl,aq (pH (h.an s3.an) o (hL s3.an)) ?_⟩;rintro v w5 (⟨h0,rfl,c5⟩|⟨h0,hs,ho,hll,g,C,eC,hi,hov,rfl,k5⟩)
 ·exact⟨_,_,rfl,cT (by simpa using h0) (aw (s3.quiet c5).an)⟩
 have c5:ax w w5 []:=s3.an.trans k5.an (by simp);have rd:∀ {w'},ax w5 w' []->C.Rd g w':=λ hc=>(k5.imp nO).an hc;have hco:∀ n,∀ c∈bI C n,c.Ok:=λ n c hc=>by
  unfold bI at hc
  split at hc
  ·simp at hc
  ·exact DQ hi.ok c hc
 have h30:=hi.ok.cl;have hcn:=rQ C n;refine⟨_,_,rfl,cF rfl (cF rfl (aq (rR (rd (ax.refl _ _)) hi.ok n) ?_))⟩;rintro v w7 ⟨a11,c11,rfl,s7⟩;have rch:∀ {w'},ax w7 w' []->nG w' a11 (bI C n):=λ hc=>bU.an (St.rd (B:=emp) (λ _=>rfl) s7.one) hc;have c7:ax w w7 []:=c5.trans s7.an (by simp);refine⟨_,_,_,rfl,aq (wO (rd s7.an) hi.ok (by omega) hco n (hl.an c7) (by omega)) ?_⟩;rintro v w8 ⟨a12,c12,rfl,s8⟩;have c8:ax w w8 []:=c7.trans s8.an (by simp);obtain⟨hz,hzl⟩:=lE (l:=bI C n) l.length l (Nat.le_refl _);have hsl:(tR C n l).length<=14:=by unfold tR; rw[List.length_map]; omega
 have r12:∀ {w'},ax w8 w' []->iQ w' a12 (tR C n l):=λ hc=>bU.an (St.rd (B:=emp) Of.len s8.one) hc;have hE:gk (bI C n) (tR C n l)=0:=by unfold tR; rw[ID]; exact hz
 refine⟨_,_,_,rfl,aq (qs (rch s8.an) (by omega) (hco n) (r12 (ax.refl _ _)) (by omega)) ?_⟩;rintro v w9 ⟨rfl,c9⟩;have c09:ax w w9 []:=c8.trans c9 (by simp);refine⟨_,_,rfl,cT (by rw[hE]; rfl) (aq (qM (rch (s8.an.trans c9 (by simp))) (by omega) (hco n) (hl.an c09) (by omega) n) ?_)⟩;rintro v w10 ⟨a13,c13,rfl,s10⟩;have s10:St w9 w10 (cw a13 c13 (tR C n l)):=s10;refine⟨_,_,_,rfl,aq (Dd (l:=tR C n l) (r12 (c9.trans s10.an (by simp))) (St.rd (B:=emp) Of.len s10.one) (by omega)) ?_⟩;rintro v w11 ⟨rfl,c11⟩;exact⟨_,rfl,cT rfl (aw (c09.trans (s10.an.trans c11 (by simp)) (by simp)))⟩
end Go.Proofs.YtpddenfeaadgpaaGreatDoor
namespace Go.Proofs.YtpddenfeaadgpaaGreatDoor
open Go Go.Vc Go.RowKit Go.Deep _root_.Go.Proofs.Tryz
theorem aV{P:Program}{w:World}{d:Nat}{t:TypeId}{cs:List Value}{fs:Array Field}(h:cY P w (d+1) t cs)(hu:P.underlying t=some (.struct fs))(i:Nat)(f:Field)(hf:fs[i]?=some f) :
  cY P w d f.type ((cs.drop f.offset).take (P.cellsOf f.type)):=by
 unfold cY at h;simp only[hu] at h;exact h.2 f (by simpa using Array.mem_of_getElem? hf)
theorem Bp{α:Type}{Q:Nat->α->Prop}:∀ {l:Nat},(∀ i,i<l->∃ a,Q i a)->∃ L:List α,L.length=l/\∀ i a,L[i]?=some a->Q i a
 | 0,_=>⟨[],rfl,λ i a h=>by simp at h⟩
 | l+1,h=>by
  obtain⟨L,h1,h2⟩:=Bp (l:=l) λ i hi=>h i (by omega);obtain⟨a,ha⟩:=h l (by omega);refine⟨L++[a],by simp[h1],λ i b hb=>?_⟩;rcases Nat.lt_or_ge i L.length with hi|hi
  ·rw[List.getElem?_append_left hi] at hb; exact h2 i b hb
  ·rw[List.getElem?_append_right hi] at hb;have h0:i-L.length=0:=by
    have:=(List.getElem?_eq_some_iff.1 hb).1;simp at this; omega
   rw[h0] at hb;simp at hb;subst hb;rw[show i=l by omega]; exact ha
theorem Bo:∀ {cs:List Value},(∀ v∈cs,∃ n,v=iv n/\In n)->∃ ns:List Int,cs=ns.map iv/\∀ n∈ns,In n
 | [],_=>⟨[],rfl,by simp⟩
 | v :: cs,h=>by
  obtain⟨n,rfl,hn⟩:=h v (List.mem_cons_self ..);obtain⟨ns,rfl,hs⟩:=Bo (cs:=cs) λ u hu=>h u (List.mem_cons_of_mem _ hu);refine⟨n :: ns,rfl,λ x hx=>?_⟩;rcases List.mem_cons.1 hx with rfl|hx
  ·exact hn
  ·exact hs x hx
theorem bQ{w:World}{d t:Nat}{cs:List Value}(h:cY prog w (d+1) t cs)(hu:prog.underlying t=some (.int .i64)):∃ n,cs=[iv n]/\In n:=by
 unfold cY at h;simp only[hu] at h;obtain⟨n,rfl,hw⟩:=h;refine⟨n,rfl,?_⟩;simp[Lit.wf,IntKind.min,IntKind.max,IntKind.signed,IntKind.bits] at hw;exact⟨by omega,by omega⟩
theorem GY{w:World}{d t k e:Nat}{cs:List Value}(h:cY prog w (d+2) t cs)(hu:prog.underlying t=some (.array k e))(he:prog.underlying e=some (.int .i64))(hc:prog.cellsOf t=k)(h1:prog.cellsOf e=1) :
  ∃ ns:List Int,cs=ns.map iv/\ns.length=k/\∀ n∈ns,In n:=by
 unfold cY at h;simp only[hu] at h;obtain⟨hl,hi⟩:=h;rw[hc] at hl;obtain⟨ns,rfl,hs⟩:=Bo (cs:=cs) λ v hv=>by
  obtain⟨i,hlt,rfl⟩:=List.mem_iff_getElem.1 hv;obtain⟨n,hn,hI⟩:=bQ (hi i (by omega)) he;rw[h1,Nat.mul_one] at hn;have e1:(cs.drop i).take 1=[cs[i]]:=by
   rw[List.drop_eq_getElem_cons hlt]; rfl
  rw[e1] at hn;exact⟨n,by simpa using hn,hI⟩
 exact⟨ns,rfl,by simpa using hl,hs⟩
theorem CT{w:World}{d t e:Nat}{cs:List Value}(h:cY prog w (d+1) t cs)(hu:prog.underlying t=some (.slice e)) :
  ∃ (a:OA) (l c:Nat),cs=[.slice a l c]/\l<=c/\l<=9223372036854775807/\l*prog.bytesOf e<=140737488351232 /\
   ∀ i,i<l->∃ q cs',a=some q/\cs'.length=prog.cellsOf e/\af w (q.add (i*prog.cellsOf e)) 0 cs'/\cY prog w d e cs':=by
 unfold cY at h;simp only[hu] at h;obtain⟨a,l,c,rfl,hlc,hcm,_,hb,hi⟩:=h;refine⟨a,l,c,rfl,hlc,by unfold maxLen at hcm; omega,hb,λ i hl=>?_⟩;obtain⟨q,cs',ha,hcs,ho⟩:=hi i hl;obtain⟨_,hlen,hg⟩:=World.cells?_some hcs;exact⟨q,cs',ha,hlen,bt _ 0 λ j v hj=>by
  rw[Nat.zero_add,hg j (by have:=(List.getElem?_eq_some_iff.1 hj).1; omega)]; exact hj,ho⟩
theorem oW:prog.cellsOf 3=1:=by kernel_rfl
theorem jZ:prog.cellsOf 2=1:=by kernel_rfl
theorem A6:prog.cellsOf 35=6:=by kernel_rfl
theorem A7:prog.cellsOf 9=1:=by kernel_rfl
theorem Gk:prog.cellsOf 41=4:=by kernel_rfl
theorem ru{w:World}{cs:List Value}(h:cY prog w 6 41 cs):∃ o:Po,cs=o.cells:=by
 have hlen:cs.length=4:=by
  have h':=h;unfold cY at h';simp only[underlying41] at h';rw[<- Gk]; exact h'.1
 match cs,hlen with
 | [x0,x1,x2,x3],_ =>
  have q0:cY prog w 5 2 (([x0,x1,x2,x3].drop 0).take (prog.cellsOf 2)):=aV h underlying41 0 _ rfl;have q1:cY prog w 5 3 (([x0,x1,x2,x3].drop 1).take (prog.cellsOf 3)):=aV h underlying41 1 _ rfl;have q2:cY prog w 5 3 (([x0,x1,x2,x3].drop 2).take (prog.cellsOf 3)):=aV h underlying41 2 _ rfl;have q3:cY prog w 5 3 (([x0,x1,x2,x3].drop 3).take (prog.cellsOf 3)):=aV h underlying41 3 _ rfl;rw[jZ] at q0; rw[oW] at q1 q2 q3;obtain⟨n0,e0,_⟩:=bQ q0 underlying2;obtain⟨n1,e1,_⟩:=bQ q1 underlying3;obtain⟨n2,e2,_⟩:=bQ q2 underlying3;obtain⟨n3,e3,_⟩:=bQ q3 underlying3;simp at e0 e1 e2 e3;subst e0 e1 e2 e3;exact⟨⟨n0,n1,n2,n3⟩,rfl⟩
theorem Gj:prog.cellsOf 117=5:=by kernel_rfl
theorem Gb:prog.cellsOf 66=4:=by kernel_rfl
theorem Gc:prog.cellsOf 113=3:=by kernel_rfl
theorem Ga:prog.cellsOf 115=3:=by kernel_rfl
theorem Gl:prog.cellsOf 27=4:=by kernel_rfl
theorem Gi:prog.cellsOf 30=6:=by kernel_rfl
theorem Gh:prog.cellsOf 22=1:=by kernel_rfl
theorem Ge:prog.cellsOf 23=1:=by kernel_rfl
theorem Gf:prog.cellsOf 24=1:=by kernel_rfl
theorem Gd:prog.cellsOf 25=1:=by kernel_rfl
theorem Bz{w:World}{d:Nat}{cs:List Value}(h:cY prog w (d+1) 9 cs):∃ s:List UInt8,cs=[sv s]:=by
 unfold cY at h;simp only[underlying9] at h;obtain⟨s,rfl,_⟩:=h;exact⟨s.data.toList,rfl⟩
theorem IA{w:World}{cs:List Value}(h:cY prog w 4 117 cs)(hl:cs.length=5):∃ p:Pr,cs=p.cells/\p.In:=by
 match cs,hl with
 | [x0,x1,x2,x3,x4],_ =>
  have q0:cY prog w 3 9 (([x0,x1,x2,x3,x4].drop 0).take (prog.cellsOf 9)):=aV h underlying117 0 _ rfl;have q1:cY prog w 3 3 (([x0,x1,x2,x3,x4].drop 1).take (prog.cellsOf 3)):=aV h underlying117 1 _ rfl;have q2:cY prog w 3 2 (([x0,x1,x2,x3,x4].drop 2).take (prog.cellsOf 2)):=aV h underlying117 2 _ rfl;have q3:cY prog w 3 3 (([x0,x1,x2,x3,x4].drop 3).take (prog.cellsOf 3)):=aV h underlying117 3 _ rfl;have q4:cY prog w 3 3 (([x0,x1,x2,x3,x4].drop 4).take (prog.cellsOf 3)):=aV h underlying117 4 _ rfl;rw[A7] at q0; rw[oW] at q1 q3 q4; rw[jZ] at q2;obtain⟨s,e0⟩:=Bz q0;obtain⟨n1,e1,i1⟩:=bQ q1 underlying3;obtain⟨n2,e2,i2⟩:=bQ q2 underlying2;obtain⟨n3,e3,i3⟩:=bQ q3 underlying3;obtain⟨n4,e4,i4⟩:=bQ q4 underlying3;simp at e0 e1 e2 e3 e4;subst e0 e1 e2 e3 e4;exact⟨⟨s,n1,n2,n3,n4⟩,rfl,i1,i2,i3,i4⟩
theorem Iy{w:World}{cs:List Value}(h:cY prog w 4 66 cs)(hl:cs.length=4):∃ p:Br,cs=p.cells/\p.In:=by
 match cs,hl with
 | [x0,x1,x2,x3],_ =>
  have q0:cY prog w 3 9 (([x0,x1,x2,x3].drop 0).take (prog.cellsOf 9)):=aV h underlying66 0 _ rfl;have q1:cY prog w 3 3 (([x0,x1,x2,x3].drop 1).take (prog.cellsOf 3)):=aV h underlying66 1 _ rfl;have q2:cY prog w 3 2 (([x0,x1,x2,x3].drop 2).take (prog.cellsOf 2)):=aV h underlying66 2 _ rfl;have q3:cY prog w 3 3 (([x0,x1,x2,x3].drop 3).take (prog.cellsOf 3)):=aV h underlying66 3 _ rfl;rw[A7] at q0; rw[oW] at q1 q3; rw[jZ] at q2;obtain⟨s,e0⟩:=Bz q0;obtain⟨n1,e1,i1⟩:=bQ q1 underlying3;obtain⟨n2,e2,i2⟩:=bQ q2 underlying2;obtain⟨n3,e3,i3⟩:=bQ q3 underlying3;simp at e0 e1 e2 e3;subst e0 e1 e2 e3;exact⟨⟨s,n1,n2,n3⟩,rfl,i1,i2,i3⟩
theorem EH{w:World}{t:Nat}{cs:List Value}{fs:Array Field}(h:cY prog w 4 t cs)(hu:prog.underlying t=some (.struct fs)){g0 g1 g2:Field}(f0:fs[0]?=some g0)(f1:fs[1]?=some g1)(f2:fs[2]?=some g2)(z:g0.offset=0/\g0.type=3/\g1.offset=1/\g1.type=3/\g2.offset=2/\g2.type=3)(hl:cs.length=3):∃ p:T3,cs=p.cells:=by
 match cs,hl with
 | [x0,x1,x2],_ =>
  obtain⟨z0,y0,z1,y1,z2,y2⟩:=z;have q0:=aV h hu 0 _ f0;have q1:=aV h hu 1 _ f1;have q2:=aV h hu 2 _ f2;rw[z0,y0] at q0; rw[z1,y1] at q1; rw[z2,y2] at q2;rw[oW] at q0 q1 q2;obtain⟨n0,e0,_⟩:=bQ q0 underlying3;obtain⟨n1,e1,_⟩:=bQ q1 underlying3;obtain⟨n2,e2,_⟩:=bQ q2 underlying3;simp at e0 e1 e2;subst e0 e1 e2;exact⟨⟨n0,n1,n2⟩,rfl⟩
theorem lq{w:World}{d t e sz:Nat}{α:Type}{f:α->List Value}{I:α->Prop}{cs:List Value}(h:cY prog w (d+1) t cs)(hu:prog.underlying t=some (.slice e))(hs:prog.cellsOf e=sz)(k:∀ cs',cY prog w d e cs'->cs'.length=sz->∃ x,cs' = f x/\I x):∃ (a:OA) (c:Nat) (l:List α),cs=[.slice a l.length c]/\l.length<=c/\∀ i x,l[i]?=some x->I x/\∃ q,a=some q/\af w (q.add (i*sz)) 0 (f x):=by
 obtain⟨a,n,c,rfl,hc,_,_,hi⟩:=CT h hu;obtain⟨L,h1,h2⟩:=Bp (Q:=λ i (x:α)=>I x/\∃ q,a=some q/\af w (q.add (i*sz)) 0 (f x)) (l:=n) λ i hl=>by
  obtain⟨q,cs',ha,hlen,hcl,ho⟩:=hi i hl;rw[hs] at hlen hcl;obtain⟨x,rfl,hx⟩:=k cs' ho hlen;exact⟨x,hx,q,ha,hcl⟩
 exact⟨a,c,L,by rw[h1],by omega,h2⟩
theorem og{w:World}{cs:List Value}(h:cY prog w 6 27 cs):∃ s:Se,cs=s.arr.toList/\s.In w:=by
 have hlen:cs.length=4:=by
  have h':=h;unfold cY at h';simp only[underlying27] at h';rw[<- Gl]; exact h'.1
 match cs,hlen with
 | [x0,x1,x2,x3],_ =>
  have q0:cY prog w 5 22 (([x0,x1,x2,x3].drop 0).take (prog.cellsOf 22)):=aV h underlying27 0 _ rfl;have q1:cY prog w 5 23 (([x0,x1,x2,x3].drop 1).take (prog.cellsOf 23)):=aV h underlying27 1 _ rfl;have q2:cY prog w 5 24 (([x0,x1,x2,x3].drop 2).take (prog.cellsOf 24)):=aV h underlying27 2 _ rfl;have q3:cY prog w 5 25 (([x0,x1,x2,x3].drop 3).take (prog.cellsOf 25)):=aV h underlying27 3 _ rfl;rw[Gh] at q0; rw[Ge] at q1; rw[Gf] at q2; rw[Gd] at q3;obtain⟨a1,c1,l1,e1,h1,r1⟩:=lq (f:=Pr.cells) (I:=Pr.In) q0 underlying22 Gj λ cs' ho hl=>IA ho hl;obtain⟨a2,c2,l2,e2,h2,r2⟩:=lq (f:=Br.cells) (I:=Br.In) q1 underlying23 Gb λ cs' ho hl=>Iy ho hl;obtain⟨a3,c3,l3,e3,h3,r3⟩:=lq (f:=T3.cells) (I:=λ _=>True) q2 underlying24 Gc λ cs' ho hl=>let ⟨p,hp⟩:=EH ho underlying113 rfl rfl rfl ⟨rfl,rfl,rfl,rfl,rfl,rfl⟩ hl; ⟨p,hp,trivial⟩;obtain⟨a4,c4,l4,e4,h4,r4⟩:=lq (f:=T3.cells) (I:=λ _=>True) q3 underlying25 Ga λ cs' ho hl=>let ⟨p,hp⟩:=EH ho underlying115 rfl rfl rfl ⟨rfl,rfl,rfl,rfl,rfl,rfl⟩ hl; ⟨p,hp,trivial⟩;simp at e1 e2 e3 e4;subst e1 e2 e3 e4;exact⟨⟨l1,l2,l3,l4,a1,c1,a2,c2,a3,c3,a4,c4⟩,rfl,r1,r2,λ i p hp=>(r3 i p hp).2,λ i p hp=>(r4 i p hp).2,h1,h2,h3,h4⟩
theorem IL{ns:List Int}(hl:ns.length=6)(hI:∀ n∈ns,In n):∃ u:I6,ns.map iv=u.vs/\∀ k,k<6->In (u.at' k):=by
 match ns,hl with
 | [n0,n1,n2,n3,n4,n5],_ =>
  refine⟨⟨n0,n1,n2,n3,n4,n5⟩,rfl,λ k hk=>?_⟩
  match k,hk with
  | 0,_=>exact hI n0 (by simp)
  | 1,_=>exact hI n1 (by simp)
  | 2,_=>exact hI n2 (by simp)
  | 3,_=>exact hI n3 (by simp)
  | 4,_=>exact hI n4 (by simp)
  | 5,_=>exact hI n5 (by simp)
theorem By{w:World}{d t e:Nat}{cs:List Value}(h:cY prog w (d+2) t cs)(hu:prog.underlying t=some (.array 6 e))(he:prog.underlying e=some (.int .i64))(hc:prog.cellsOf t=6)(h1:prog.cellsOf e=1):∃ u:I6,cs=u.vs/\∀ k,k<6->In (u.at' k):=by
 obtain⟨ns,rfl,hl,hI⟩:=GY h hu he hc h1;exact IL hl hI
theorem DP : prog.cellsOf 81=8:=by kernel_rfl
theorem Gg:prog.cellsOf 28=1:=by kernel_rfl
theorem Iz{w:World}{d:Nat}{cs:List Value}(h:cY prog w (d+3) 81 cs)(hl:cs.length=8):∃ o:Of,cs=o.cells/\True:=by
 have q0:cY prog w (d+2) 3 ((cs.drop 0).take (prog.cellsOf 3)):=aV h underlying81 0 _ rfl;have q1:cY prog w (d+2) 35 ((cs.drop 1).take (prog.cellsOf 35)):=aV h underlying81 1 _ rfl;have q2:cY prog w (d+2) 2 ((cs.drop 7).take (prog.cellsOf 2)):=aV h underlying81 2 _ rfl;rw[oW] at q0; rw[A6] at q1; rw[jZ] at q2;obtain⟨n0,e0,_⟩:=bQ q0 underlying3;obtain⟨u,e1,_⟩:=By q1 underlying35 underlying3 A6 oW;obtain⟨n2,e2,_⟩:=bQ q2 underlying2;refine⟨⟨n0,u,n2⟩,?_,trivial⟩;have e7:cs=(cs.drop 0).take 1++((cs.drop 1).take 6++(cs.drop 7).take 1):=by
  match cs,hl with
  | [x0,x1,x2,x3,x4,x5,x6,x7],_=>rfl
 rw[e7,e0,e1,e2]; rfl
theorem sr{w:World}{d:Nat}{cs:List Value}(h:cY prog w (d+4) 28 cs):∃ (a:OA) (c:Nat) (l:List Of),cs=[.slice a l.length c]/\iQ w a l:=by
 obtain⟨a,c,l,e,_,r⟩:=lq (f:=Of.cells) (I:=λ _=>True) h underlying28 DP λ cs' ho hl=>Iz ho hl;exact⟨a,c,l,e,λ i x hx=>let ⟨_,q,hq,hc⟩:=r i x hx; ⟨q,_,hq,hc,rfl,rfl⟩⟩
theorem oe{w:World}{cs:List Value}(h:cY prog w 6 32 cs):∃ (a:OA) (c:Nat) (L:List Lx),cs=[.slice a L.length c]/\bU 1 Lx.cells w a L/\∀ x∈L,iQ w x.a x.l:=by
 obtain⟨a,c,L,e,_,r⟩:=lq (f:=Lx.cells) (I:=λ x=>iQ w x.a x.l) h underlying32 Gg λ cs' ho hl=>let ⟨a,c,l,e,r⟩:=sr (d:=1) ho; ⟨⟨a,c,l⟩,e,r⟩;exact⟨a,c,L,e,λ i x hx=>let ⟨_,q,hq,hc⟩:=r i x hx; ⟨q,_,hq,hc,rfl,rfl⟩,λ x hx=>by
  obtain⟨i,hi⟩:=List.getElem?_of_mem hx;exact(r i x hi).1⟩
theorem GX{w:World}{cs:List Value}(h:cY prog w 6 30 cs):∃ u:I6,cs=u.vs:=by
 obtain⟨u,e,_⟩:=By (d:=4) h underlying30 underlying2 Gi jZ;exact⟨u,e⟩
open Go.ChangeShapes Go.WideShapes Go.ChangeAt
theorem own:ownKnob prog.godebug=none:=by kernel_rfl
theorem laidOut:laidOutB prog=true:=by kernel_rfl
theorem Jx:mapsRowed prog=true:=by kernel_rfl
theorem Jy:(prog.stops==[])=true:=by kernel_rfl
theorem Jz:(prog.stopKnobs==[])=true:=by kernel_rfl
theorem ER:prog.stopsHeard=true:=by kernel_rfl
theorem ES:prog.mayEnter=true:=by kernel_rfl
theorem JA:false=Tryz.pinned.checked.prog.looks []:=by kernel_rfl
theorem jS{w w' : World}(h:ax w w' []):Below w.heap.size w w':=⟨h.env.os,h.env.tape,h.env.out,h.size,λ k hk=>h.same k hk (by simp)⟩
theorem xW(P:Program)(laid:List (String×DataW Unit))(w:World)(h:(laid.all λ x=>x.2.handleName?.isNone)=true):laidMetH P laid w=laidMet P laid w:=by
 have e:(laid.filter λ x=>x.2.handleName?.isSome)=[]:=by
  rw[List.filter_eq_nil_iff];intro x hx hs;have:=List.all_eq_true.1 h x hx;rw[Option.isNone_iff_eq_none] at this;rw[this] at hs
  cases hs
 unfold laidMetH;rw[e]
def mc:List (String×DataW Unit):=Rows.proxyRunsRow.laid.filter λ x=>x.2.handleName?.isNone
noncomputable def cV(os:Os):World:=(World.holding prog os ⟨#[],#[],[]⟩).layVars prog mc
theorem dR(os:Os):(cV os).os=os:=(World.layVars_os _ _ _).trans rfl
theorem CF(os:Os)(args:Array Value):laidMet prog mc ((cV os).forCall (λ _ _=>0) ⟨#[],args,[]⟩).memory:=by
 have e1:(mc.filter λ x=>(mc.map (·.1)).contains x.1)=mc:=List.filter_eq_self.2 λ x hx=>List.contains_iff_mem.2 (List.mem_map.2 ⟨x,hx,rfl⟩);have e2:(mc.filter λ x=>!(mc.map (·.1)).contains x.1)=[]:=List.filter_eq_nil_iff.2 λ x hx=>by rw[List.contains_iff_mem.2 (List.mem_map.2 ⟨x,hx,rfl⟩)]; simp
 have h:laidMet prog mc (cV os):=laidMet_layVars (w0:=World.holding prog os ⟨#[],#[],[]⟩) (mc.map (·.1)) [] (by rw[e1]; rfl) (by rw[e1]; kernel_rfl) (by rw[e1]; kernel_rfl) (by rw[e2]; exact LaidIn.none);exact h.of_heap (by simp[World.memory,World.forCall,Input.heap])
theorem so:(Rows.proxyRunsRow.laid.all λ x=>x.2.handleName?.isNone)=true:=by kernel_rfl
theorem dx(os:Os)(args:Array Value):laidMetH prog Rows.proxyRunsRow.laid ((cV os).forCall (λ _ _=>0) ⟨#[],args,[]⟩).memory:=by
 rw[xW _ _ _ so];have e:mc=Rows.proxyRunsRow.laid:=List.filter_eq_self.2 (List.all_eq_true.1 so);rw[<- e]; exact CF os args
theorem td{W:World}(h:laidMetH prog Rows.proxyRunsRow.laid W):zH W:=by
 rw[xW _ _ _ so] at h;have h2:laidMet prog (("internal/strconv.uint64pow10",Lib.tabData .u64 Lib.pow10Tab) :: Rows.proxyRunsRow.laid.drop 3) W:=by
  have:=h.tail.tail;exact this
 exact Lib.tabIs_of_head (g:=0) (by kernel_rfl) (by kernel_rfl) (t:=235) (e:=83) (n:=20) (by kernel_rfl) (by kernel_rfl) (by kernel_rfl) (by kernel_rfl) h2

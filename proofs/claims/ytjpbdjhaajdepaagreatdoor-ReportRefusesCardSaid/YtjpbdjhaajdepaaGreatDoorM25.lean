import Derived.Test.YtjpbdjhaajdepaaGreatDoorM18
import Derived.Test.YtjpbdjhaajdepaaGreatDoorM21
import Derived.Test.YtjpbdjhaajdepaaGreatDoorM24
set_option maxRecDepth 100000
namespace Go.Proofs.YtjpbdjhaajdepaaGreatDoor
open Go Go.Vc Tryz
def Cz(r:Nat)(S:Se):List aI:=[ah r S.arr 68,bY 121 5 Pr.cells S.a1 S.c1 S.ps,bY 79 4 Br.cells S.a2 S.c2 S.bd,bY 125 3 T3.cells S.a3 S.c3 S.cp,bY 128 3 T3.cells S.a4 S.c4 S.sa]
structure wq (S:Se) (n:Nat):Prop where
  ps:∀ p∈S.ps,p.In
  bd:∀ p∈S.bd,p.In
  l1:S.ps.length<=n
  l2:S.bd.length<=n
  l3:S.cp.length<=n
  l4:S.sa.length<=n
theorem Cx{α:Type}{e:TypeId}{sz:Nat}{f:α->List Value}{a:OA}{c:Nat}{l:List α}:iE (bY e sz f a c l) λ _=>l.length<=c:=λ _ _ h=>(y7 h.1).1
theorem iE.and{A:aI}{Q R:World->Prop}(h:iE A Q)(k:iE A R):iE A λ w=>Q w/\R w:=λ w F hA=>⟨h w F hA,k w F hA⟩
theorem Lp{r n:Nat}{S:Se}(h:wq S n):iE (Sep (Cz r S)) S.In :=
  iE.mono (iE.cons (Q:=λ _=>True) (λ _ _ _=>trivial) (iE.cons (iE.and (bp Pr.len) Cx) (iE.cons (iE.and (bp Br.len) Cx) (iE.cons (iE.and (bp T3.len) Cx) (iE.cons (iE.and (bp T3.len) Cx) iE.nil)))))
    λ _ ⟨_,h1,h2,h3,h4,_⟩=>⟨eB.of h1.1 h.ps,kE.of h2.1 h.bd,CV.of h3.1,CV.of h4.1,h1.2,h2.2,h3.2,h4.2⟩
def nV(ws:List (List UInt8))(i:Nat):Int:=(fN (ws.getD (i+2) [])).1
theorem KF{ws:List (List UInt8)}{i:Nat}(h:i+2<ws.length):((ws.drop 2).map λ x=>(fN x).1)[i]? = some (nV ws i):=by
  rw[List.getElem?_map,List.getElem?_drop,show 2+i=i+2 by omega,nV,List.getD_eq_getElem?_getD,gE h]; rfl
theorem Oy(x:List UInt8):In (fN x).1:=by
  unfold fN
  split
  · exact⟨by decide,by decide⟩
  · split
    · exact⟨by decide,by decide⟩
    · exact Oz (by omega)
def Cq(S:Se)(ws:List (List UInt8)):Int :=
  if uf (ws.getD 0 [])=0 then 22 else if uf (ws.getD 0 [])≠(ws.length:Int) then 2
  else if (gR S (ws.getD 0 []) (ws.getD 1 [])).2≠0 then (gR S (ws.getD 0 []) (ws.getD 1 [])).2 else oR (ws.drop 2)
def AS(S:Se)(ws:List (List UInt8)):Se :=
  if ws.getD 0 []=PV then { S with ps:=S.ps++[⟨ws.getD 1 [],nV ws 0,nV ws 1,nV ws 2,nV ws 3⟩] }
  else if ws.getD 0 []=PT then { S with bd:=S.bd++[⟨ws.getD 1 [],nV ws 0,nV ws 1,nV ws 2⟩] }
  else if ws.getD 0 []=PU then { S with cp:=S.cp++[⟨(gR S (ws.getD 0 []) (ws.getD 1 [])).1,nV ws 0,nV ws 1⟩] }
  else if ws.getD 0 []=PS then { S with sa:=S.sa++[⟨(gR S (ws.getD 0 []) (ws.getD 1 [])).1,nV ws 0,nV ws 1⟩] }
  else S
theorem Ru{S:Se}{n:Nat}(h:wq S n)(ws:List (List UInt8)):wq (AS S ws) (n+1):=by
  obtain⟨h1,h2,l1,l2,l3,l4⟩:=h;unfold AS;have ni:=λ i=>Oy (ws.getD (i+2) [])
  split
  · refine⟨λ p hp=>?_,h2,by simp; omega,(Nat.le_succ_of_le l2),(Nat.le_succ_of_le l3),(Nat.le_succ_of_le l4)⟩;rcases List.mem_append.1 hp with hp | hp
    · exact h1 p hp
    · rw[List.mem_singleton.1 hp]; exact⟨ni 0,ni 1,ni 2,ni 3⟩
  · split
    · refine⟨h1,λ p hp=>?_,(Nat.le_succ_of_le l1),by simp; omega,(Nat.le_succ_of_le l3),(Nat.le_succ_of_le l4)⟩;rcases List.mem_append.1 hp with hp | hp
      · exact h2 p hp
      · rw[List.mem_singleton.1 hp]; exact⟨ni 0,ni 1,ni 2⟩
    · split
      · exact⟨h1,h2,(Nat.le_succ_of_le l1),(Nat.le_succ_of_le l2),by simp; omega,(Nat.le_succ_of_le l4)⟩
      · split
        · exact⟨h1,h2,(Nat.le_succ_of_le l1),(Nat.le_succ_of_le l2),(Nat.le_succ_of_le l3),by simp; omega⟩
        · exact⟨h1,h2,by omega,by omega,by omega,by omega⟩
theorem wq.up{S:Se}{n m:Nat}(h:wq S n)(hn:n<=m):wq S m:=⟨h.ps,h.bd,by have:=h.l1; omega,by have:=h.l2; omega,by have:=h.l3; omega,by have:=h.l4; omega⟩
theorem wq.er{S S' : Se}{n:Nat}(h:wq S n)(e:S'.er=S.er):wq S' n:=by
  have e1:S'.ps=S.ps:=show S'.er.ps=S.er.ps from congrArg Se.ps e;have e2:S'.bd=S.bd:=show S'.er.bd=S.er.bd from congrArg Se.bd e;have e3:S'.cp=S.cp:=show S'.er.cp=S.er.cp from congrArg Se.cp e;have e4:S'.sa=S.sa:=show S'.er.sa=S.er.sa from congrArg Se.sa e;exact⟨by rw[e1]; exact h.ps,by rw[e2]; exact h.bd,by rw[e1]; exact h.l1,by rw[e2]; exact h.l2,by rw[e3]; exact h.l3,by rw[e4]; exact h.l4⟩
theorem Rw{w0 w:World}{r n c:Nat}{S:Se}{B:aI}{a:OA}{ws:List (List UInt8)}(s:St w0 w (Sep (Cz r S++[B])))(hB:iE B λ w=>cN 1 sF w a ws)(hc:ws.length<=c)(h1:1<=ws.length)(hl:ws.length<=100000)(hx:∀ x∈ws,x.length<=1000000)(hg:wq S n)(hn:n<=90000) :
    CP 111 #[.pointer (some ⟨r,0,none⟩),.slice a ws.length c] w (λ v w'=>v=iv (Cq S ws)/\(Cq S ws≠0->St w0 w' (Sep (Cz r S++[B])))/\(Cq S ws=0->∃ S' : Se,S'.er=(AS S ws).er/\St w0 w' (Sep (Cz r S'++[B])))):=by
  refine zX ?_;unfold zn;have wc:∀ {w' : World} {l:List aI} {i:Nat},St w0 w' (Sep l)->l[i]? = some B->∀ (j:Nat),j<ws.length->∃ q,a=some q/\w'.cell? (Addr.add q (j*1))=some (sv (ws.getD j [])):=λ s e j hj =>
    FR ((s.out _ e).first.imp hB) (by rw[List.getD_eq_getElem?_getD,gE hj]; rfl)
  obtain⟨q,hq,c0⟩:=wc s (i:=5) rfl 0 (by omega);have wc' : ∀ {w' : World} {l:List aI} {i:Nat},St w0 w' (Sep l)->l[i]? = some B->∀ (j:Nat),j<ws.length->w'.cell? (Addr.add q (j*1))=some (sv (ws.getD j [])):=λ s e j hj=>by
    obtain⟨q',hq',h⟩:=wc s e j hj;rw[hq] at hq'; cases hq'; exact h
  have bad:∀ {k:Int} {w' : World},k≠0->Cq S ws=k->St w0 w' (Sep (Cz r S++[B]))->iv k=iv (Cq S ws)/\(Cq S ws≠0->St w0 w' (Sep (Cz r S++[B])))/\(Cq S ws=0->∃ S' : Se,S'.er=(AS S ws).er/\St w0 w' (Sep (Cz r S'++[B]))):=λ hk e hc =>
    ⟨by rw[e],λ _=>hc,λ h=>absurd (e.symm.trans h) hk⟩
  refine aq hq ⟨by omega,by omega,_,c0,au (O2 w _) ?_⟩;rintro v w1 ⟨rfl,rfl⟩;refine⟨_,rfl,?_⟩
  by_cases h0:uf (ws.getD 0 [])=0
  · exact cT (by simpa using h0) (bad (by decide) (by rw[Cq,if_pos h0]) s)
  refine cF (by simpa using h0) ?_
  by_cases h2:uf (ws.getD 0 [])=(ws.length:Int)
  · have hw4:4<=ws.length:=by
      unfold uf at h0 h2
      split at h2
      · omega
      · rename_i g1
        split at h2
        · omega
        · rename_i g2
          split at h2
          · omega
          · rename_i g3; rw[if_neg g1,if_neg g2,if_neg g3] at h0; exact absurd rfl h0
    have s2:=s.quiet (aF.drew w1 []);have sI:S.In w1.drew:=by
      have:=s2.aA [0,1,2,3,4];exact(this:St w0 w1.drew (Sep (Cz r S))).imp (Lp hg)
    refine cT (by simpa using h2) ⟨_,_,_,_,_,_,_,_,_,_,_,_,s2.cellsIn 0 rfl,aq hq ⟨by omega,by omega,_,wc' s2 (i:=5) rfl 0 (by omega),aq hq ⟨by omega,by omega,_,wc' s2 (i:=5) rfl 1 (by omega),au (Lv sI (by have:=hg.l1; omega) (by have:=hg.l2; omega) _ _) ?_⟩⟩⟩;rintro v w2 ⟨rfl,c2⟩;have s3:=s2.quiet c2;have e1:Cq S ws=if (gR S (ws.getD 0 []) (ws.getD 1 [])).2≠0 then (gR S (ws.getD 0 []) (ws.getD 1 [])).2 else oR (ws.drop 2):=by rw[Cq,if_neg h0,if_neg (λ h=>h h2)]
    refine⟨_,_,rfl,?_⟩
    by_cases h3:(gR S (ws.getD 0 []) (ws.getD 1 [])).2=0
    · rw[if_neg (λ h=>h h3)] at e1;refine cF (by simpa using h3) ⟨by decide,by omega,?_⟩;have hfl:cN 1 sF w2 a ws:=(s3.out 5 rfl).first.imp hB;have ht:cN 1 sF w2 (some (q.add (((2:Int)).toNat*1))) (ws.drop 2):=λ i x hi=>by
        rw[List.getElem?_drop] at hi;obtain⟨q',cs,e,h1,h2,h3⟩:=hfl (2+i) x hi;rw[hq] at e; cases e;refine⟨_,cs,rfl,?_,h2,h3⟩;rw[Addr.add_add];have:((2:Int)).toNat*1+i*1=(2+i)*1:=by show 2*1+i*1=(2+i)*1; omega
        rw[this]; exact h1
      have hln:ws.length-((2:Int)).toNat=(ws.drop 2).length:=by rw[List.length_drop]; rfl
      rw[if_neg (show ¬ c=((2:Int)).toNat by show ¬ c=2; omega),hq,Option.map_some,hln];refine au (FY ht (by rw[List.length_drop]; omega) λ x h=>hx x (List.mem_of_mem_drop h)) ?_;rintro v w4 (⟨hne,rfl,c4⟩ | ⟨he,a6,c6,rfl,k4⟩)
      · exact⟨_,_,_,_,rfl,cT (by simpa using hne) (bad hne e1 (s3.quiet c4))⟩
      · have s4:St w0 w4 (Sep (bY 3 1 i1 a6 c6 ((ws.drop 2).map λ x=>(fN x).1) :: (Cz r S++[B]))):=s3.and k4.single;rw[he] at e1;refine⟨_,_,_,_,rfl,cF rfl ⟨λ w5=>∃ S' : Se,S'.er=(AS S ws).er/\St w0 w5 (Sep (Cz r S'++[B])),λ w5 h _=>⟨by rw[e1],λ hh=>absurd e1 hh,λ _=>h⟩,aq rfl ⟨by omega,by omega,_,wc' s4 (i:=6) rfl 0 (by omega),?_⟩⟩⟩;have s5:=s4.quiet (aF.drew w4 []);obtain⟨q6,hq6,_⟩:=eu (St.rd bS s5) (KF (ws:=ws) (i:=0) (by omega));have nc:∀ i,i+2<ws.length->w4.drew.cell? (Addr.add q6 (i*1))=some (iv (nV ws i)):=λ i hi=>by
          obtain⟨q',hq',hc'⟩:=eu (St.rd bS s5) (KF (ws:=ws) hi);rw[hq6] at hq'; cases hq'; exact hc'
        have w1c:=wc' s5 (i:=6) rfl 1 (by omega);have z1:=hg.l1; have z2:=hg.l2; have z3:=hg.l3; have z4:=hg.l4;rw[iV,iV,iV,iV,iV]
        by_cases g1:ws.getD 0 []=PV
        · have hw6:ws.length=6:=by unfold uf at h2; rw[if_pos g1] at h2; omega
          have eM:AS S ws={ S with ps:=S.ps++[⟨ws.getD 1 [],nV ws 0,nV ws 1,nV ws 2,nV ws 3⟩] }:=by rw[AS,if_pos g1]
          refine cT (beq_iff_eq.2 g1) ⟨_,_,_,s5.ag 1 rfl 0,aq rfl ⟨by omega,by omega,_,w1c,aq hq6 ⟨by omega,by omega,_,nc 0 (by omega),aq hq6 ⟨by omega,by omega,_,nc 1 (by omega),aq hq6 ⟨by omega,by omega,_,nc 2 (by omega),aq hq6 ⟨by omega,by omega,_,nc 3 (by omega),?_⟩⟩⟩⟩⟩⟩;refine s5.aB (⟨ws.getD 1 [],nV ws 0,nV ws 1,nV ws 2,nV ws 3⟩:Pr).cells.toArray λ r1 w6 s6=>⟨s6.ag 2 rfl 0,?_⟩;refine iF (l2:=[(⟨ws.getD 1 [],nV ws 0,nV ws 1,nV ws 2,nV ws 3⟩:Pr)]) Tp Pr.len Pr.one (s6.out 3 rfl) (xP (s6.cellsIn 0 rfl) rfl) (by simp; omega) (by simp; omega) λ a8 c8 w7 s7=>?_;have s8:=s7.back (i:=3) (by show 3<8; decide);refine s8.aJ 2 rfl (j:=0) (by show 0<4; decide) rfl λ w8 s9=>⟨{ S with ps:=S.ps++[⟨ws.getD 1 [],nV ws 0,nV ws 1,nV ws 2,nV ws 3⟩],a1:=a8,c1:=c8 },by rw[eM]; rfl,s9.aA [2,3,4,5,6,7]⟩
        refine cF (beq_eq_false_iff_ne.2 g1) ?_
        by_cases g2:ws.getD 0 []=PT
        · have hw6:ws.length=5:=by unfold uf at h2; rw[if_neg g1,if_pos g2] at h2; omega
          have eM:AS S ws={ S with bd:=S.bd++[⟨ws.getD 1 [],nV ws 0,nV ws 1,nV ws 2⟩] }:=by rw[AS,if_neg g1,if_pos g2]
          refine cT (beq_iff_eq.2 g2) ⟨_,_,_,s5.ag 1 rfl 1,aq rfl ⟨by omega,by omega,_,w1c,aq hq6 ⟨by omega,by omega,_,nc 0 (by omega),aq hq6 ⟨by omega,by omega,_,nc 1 (by omega),aq hq6 ⟨by omega,by omega,_,nc 2 (by omega),?_⟩⟩⟩⟩⟩;refine s5.aB (⟨ws.getD 1 [],nV ws 0,nV ws 1,nV ws 2⟩:Br).cells.toArray λ r1 w6 s6=>⟨s6.ag 2 rfl 1,?_⟩;refine iF (l2:=[(⟨ws.getD 1 [],nV ws 0,nV ws 1,nV ws 2⟩:Br)]) Tj Br.len Br.one (s6.out 4 rfl) (xP (s6.cellsIn 0 rfl) rfl) (by simp; omega) (by simp; omega) λ a8 c8 w7 s7=>?_;have s8:=s7.back (i:=4) (by show 4<8; decide);refine s8.aJ 2 rfl (j:=1) (by show 1<4; decide) rfl λ w8 s9=>⟨{ S with bd:=S.bd++[⟨ws.getD 1 [],nV ws 0,nV ws 1,nV ws 2⟩],a2:=a8,c2:=c8 },by rw[eM]; rfl,s9.aA [2,3,4,5,6,7]⟩
        refine cF (beq_eq_false_iff_ne.2 g2) ?_
        by_cases g3:ws.getD 0 []=PU
        · have hw6:ws.length=4:=by unfold uf at h2; rw[if_neg g1,if_neg g2,if_pos (.inl g3)] at h2; omega
          have eM:AS S ws={ S with cp:=S.cp++[⟨(gR S (ws.getD 0 []) (ws.getD 1 [])).1,nV ws 0,nV ws 1⟩] }:=by rw[AS,if_neg g1,if_neg g2,if_pos g3]
          refine cT (beq_iff_eq.2 g3) ⟨_,_,_,s5.ag 1 rfl 2,aq hq6 ⟨by omega,by omega,_,nc 0 (by omega),aq hq6 ⟨by omega,by omega,_,nc 1 (by omega),?_⟩⟩⟩;refine s5.aB (⟨(gR S (ws.getD 0 []) (ws.getD 1 [])).1,nV ws 0,nV ws 1⟩:T3).cells.toArray λ r1 w6 s6=>⟨s6.ag 2 rfl 2,?_⟩;refine iF (l2:=[(⟨(gR S (ws.getD 0 []) (ws.getD 1 [])).1,nV ws 0,nV ws 1⟩:T3)]) Tn T3.len T3.one (s6.out 5 rfl) (xP (s6.cellsIn 0 rfl) rfl) (by simp; omega) (by simp; omega) λ a8 c8 w7 s7=>?_;have s8:=s7.back (i:=5) (by show 5<8; decide);refine s8.aJ 2 rfl (j:=2) (by show 2<4; decide) rfl λ w8 s9=>⟨{ S with cp:=S.cp++[⟨(gR S (ws.getD 0 []) (ws.getD 1 [])).1,nV ws 0,nV ws 1⟩],a3:=a8,c3:=c8 },by rw[eM]; rfl,s9.aA [2,3,4,5,6,7]⟩
        refine cF (beq_eq_false_iff_ne.2 g3) ?_
        by_cases g4:ws.getD 0 []=PS
        · have hw6:ws.length=4:=by unfold uf at h2; rw[if_neg g1,if_neg g2,if_pos (.inr g4)] at h2; omega
          have eM:AS S ws={ S with sa:=S.sa++[⟨(gR S (ws.getD 0 []) (ws.getD 1 [])).1,nV ws 0,nV ws 1⟩] }:=by rw[AS,if_neg g1,if_neg g2,if_neg g3,if_pos g4]
          refine cT (beq_iff_eq.2 g4) ⟨_,_,_,s5.ag 1 rfl 3,aq hq6 ⟨by omega,by omega,_,nc 0 (by omega),aq hq6 ⟨by omega,by omega,_,nc 1 (by omega),?_⟩⟩⟩;refine s5.aB (⟨(gR S (ws.getD 0 []) (ws.getD 1 [])).1,nV ws 0,nV ws 1⟩:T3).cells.toArray λ r1 w6 s6=>⟨s6.ag 2 rfl 3,?_⟩;refine iF (l2:=[(⟨(gR S (ws.getD 0 []) (ws.getD 1 [])).1,nV ws 0,nV ws 1⟩:T3)]) Ti T3.len T3.one (s6.out 6 rfl) (xP (s6.cellsIn 0 rfl) rfl) (by simp; omega) (by simp; omega) λ a8 c8 w7 s7=>?_;have s8:=s7.back (i:=6) (by show 6<8; decide);refine s8.aJ 2 rfl (j:=3) (by show 3<4; decide) rfl λ w8 s9=>⟨{ S with sa:=S.sa++[⟨(gR S (ws.getD 0 []) (ws.getD 1 [])).1,nV ws 0,nV ws 1⟩],a4:=a8,c4:=c8 },by rw[eM]; rfl,s9.aA [2,3,4,5,6,7]⟩
        · exact cF (beq_eq_false_iff_ne.2 g4) ⟨S,by rw[AS,if_neg g1,if_neg g2,if_neg g3,if_neg g4],s4.second⟩
    · rw[if_pos h3] at e1;exact cT (by simpa using h3) (bad h3 e1 s3)
  · exact cF (by simpa using h2) (bad (by decide) (by rw[Cq,if_neg h0,if_pos h2]) s)
theorem A2(sep:ByteArray):∀ (k:Nat) (s:ByteArray),∀ x∈Lib.splitB sep 0 k s,x.size<=s.size
  | 0,s,x,hx=>by rw[Lib.splitB_zero,List.mem_singleton] at hx; rw[hx]; exact Nat.le_refl _
  | k+1,s,x,hx=>by
    rw[Lib.splitB] at hx
    split at hx
    · rw[List.mem_singleton] at hx; rw[hx]; exact Nat.le_refl _
    · rcases List.mem_cons.1 hx with rfl | hx
      · rw[ByteArray.size_extract]; omega
      · have:=A2 sep k _ x hx;rw[ByteArray.size_extract] at this;omega
theorem A4{c:UInt8}{s x:List UInt8}(hx:x∈bu c s):x.length<=s.length:=by
  obtain⟨b,hb,rfl⟩:=List.mem_map.1 hx;have:=A2 _ _ _ b hb;rw[hJ] at this;exact this
theorem FZ(c:UInt8)(s:List UInt8):1<=(bu c s).length:=by rw[mJ]; omega
def fo:Se:=⟨[],[],[],[],none,0,none,0,none,0,none,0⟩
def fJ:Se->List (List UInt8)->Se×Int
  | S,[]=>(S,0)
  | S,l :: ls=>if l=[] then fJ S ls else if Cq S (bu 32 l)≠0 then (fo,Cq S (bu 32 l)) else fJ (AS S (bu 32 l)) ls
def uV(t:List UInt8):Int:=if 4000<t.length then 3 else if (fJ fo (bu 10 t)).2≠0 then (fJ fo (bu 10 t)).2 else FT (fJ fo (bu 10 t)).1
def uW(t:List UInt8):Se:=(fJ fo (bu 10 t)).1
theorem Rs{S S' : Se}(e:S'.er=S.er)(ws:List (List UInt8)):Cq S' ws=Cq S ws:=by
  have:∀ S:Se,Cq S ws=Cq S.er ws:=λ _=>rfl;rw[this S',e,<- this]
theorem Rt{S S' : Se}(e:S'.er=S.er)(ws:List (List UInt8)):(AS S' ws).er=(AS S ws).er:=by
  have:∀ S:Se,(AS S ws).er=(AS S.er ws).er:=λ S=>by
    unfold AS
    split
    · rfl
    · split
      · rfl
      · split
        · rfl
        · split<;>rfl
  rw[this S',e,<- this]
theorem RC{S S' : Se}(e:S'.er=S.er):FT S' = FT S:=by
  have:∀ S:Se,FT S=FT S.er:=λ _=>rfl;rw[this S',e,<- this]
theorem Cl:∀ {l:List (List UInt8)} {S S' : Se},S'.er=S.er->(fJ S' l).1.er=(fJ S l).1.er/\(fJ S' l).2=(fJ S l).2
  | [],_,_,e=>⟨e,rfl⟩
  | x :: l,S,S',e=>by
    rw[fJ,fJ,Rs e]
    split
    · exact Cl e
    · split
      · exact⟨rfl,rfl⟩
      · exact Cl (Rt e _)
theorem Mb(w:World):fo.In w:=⟨λ i p h=>by simp[fo] at h,λ i p h=>by simp[fo] at h,λ i p h=>by simp[fo] at h,λ i p h=>by simp[fo] at h,Nat.le_refl _,Nat.le_refl _,Nat.le_refl _,Nat.le_refl _⟩
theorem Lw(w:World)(t:List UInt8)(ht:t.length<=80000):CP 90 #[sv t] w (λ r w'=>∃ (S' : Se) (i:Int),r=.tuple #[.agg S'.arr,iv i,iv (uV t)]/\St w w' (held S'.In)/\(uV t=0->S'.er=(uW t).er/\S'.Ok)):=by
  refine zl ?_;unfold vY;refine(St.start w).one.aB fo.arr λ r1 w1 s1=>?_;have bad:∀ {k i:Int} {w' : World} {m:List aI} {j:Nat},St w w' (Sep m)->m[j]? = some (ah r1 fo.arr 68)->k≠0->uV t=k ->
      aP ⟨r1,0,none⟩ 0 fo.arr.toList w' λ w3=>∃ (a1:OA) (l1 c1:Nat) (a2:OA) (l2 c2:Nat) (a3:OA) (l3 c3:Nat) (a4:OA) (l4 c4:Nat),af w3 ⟨r1,0,none⟩ 0 [.slice a1 l1 c1,.slice a2 l2 c2,.slice a3 l3 c3,.slice a4 l4 c4] /\
        ∃ (S' : Se) (i' : Int),Value.tuple #[.agg #[.slice a1 l1 c1,.slice a2 l2 c2,.slice a3 l3 c3,.slice a4 l4 c4],iv i,iv k]=.tuple #[.agg S'.arr,iv i',iv (uV t)]/\St w w3 (held S'.In)/\(uV t=0->S'.er=(uW t).er/\S'.Ok):=λ {k i w' m j} s e hk hp =>
    s.aD j e fo.arr.toList rfl (by simp[fo,Se.arr,Value.oneCell']) λ w3 s3=>⟨_,_,_,_,_,_,_,_,_,_,_,_,s3.cellsIn (cs:=fo.arr) (T:=68) j (List.getElem?_set_self (eI e)),fo,i,by rw[hp]; rfl,((St.start' s3.aC).one.tj Mb).first,λ h=>absurd (hp.symm.trans h) hk⟩
  by_cases h4:4000<t.length
  · exact cT (by rw[hJ]; exact dT (by omega)) (bad s1 (j:=0) rfl (by decide) (by rw[uV,if_pos h4]))
  refine cF (by rw[hJ]; exact dF (by omega)) (s1.aB fo.arr λ r2 w3 s3=>au (Hy w3 10 t (by omega)) ?_);rintro v w4 ⟨g,rfl,k4⟩;have e0:uV t=if (fJ fo (bu 10 t)).2≠0 then (fJ fo (bu 10 t)).2 else FT (fJ fo (bu 10 t)).1:=by rw[uV,if_neg h4]
  have hll:=A3 10 t;have hls:∀ x∈bu 10 t,x.length<=4000:=λ x hx=>by have:=A4 hx; omega
  generalize hL:bu 10 t=L at *;have s4:St w w4 (Sep [bY 9 1 sF (some ⟨g,0,none⟩) L.length L,ah r2 fo.arr 68,ah r1 fo.arr 68,emp]):=s3.and k4.single;have s5:St w w4 (Sep (Cz r2 fo++[Sep [bY 9 1 sF (some ⟨g,0,none⟩) L.length L,ah r1 fo.arr 68]])):=by
    have h1:St w w4 (Sep (bY 128 3 T3.cells none 0 [] :: bY 125 3 T3.cells none 0 [] :: bY 79 4 Br.cells none 0 [] :: bY 121 5 Pr.cells none 0 [] :: [bY 9 1 sF (some ⟨g,0,none⟩) L.length L,ah r2 fo.arr 68,ah r1 fo.arr 68,emp])):=(((s4.dI).dI).dI).dI;have h2:=(h1.aA [5,3,2,1,0,4,6]).split [_,_,_,_,_];exact St.cat (h2.eqv (bq.right (bq.unit _)))
  let B:aI:=Sep [bY 9 1 sF (some ⟨g,0,none⟩) L.length L,ah r1 fo.arr 68];have rdL:iE B λ w=>cN 1 sF w (some ⟨g,0,none⟩) L:=λ w F ⟨F1,F2,_,h1,_,_⟩=>bp FQ w F1 h1;have sB1:∀ {w' : World} {S:Se},St w w' (Sep (Cz r2 S++[B]))->St w w' (Sep (Cz r2 S++[bY 9 1 sF (some ⟨g,0,none⟩) L.length L,ah r1 fo.arr 68])):=λ s=>s.dc [_,_,_,_,_];refine⟨_,_,_,rfl,λ i w5 m=>∃ (k:Nat) (S:Se),i=k/\k<=L.length/\m=L.length-k/\wq S k/\(fJ S (L.drop k)).1.er=(fJ fo L).1.er/\(fJ S (L.drop k)).2=(fJ fo L).2/\St w w5 (Sep (Cz r2 S++[B])),⟨L.length,0,fo,rfl,by omega,by omega,⟨by simp[fo],by simp[fo],by simp[fo],by simp[fo],by simp[fo],by simp[fo]⟩,rfl,rfl,s5⟩,?_⟩;rintro w5 m i ⟨k,S,rfl,hk,hm,hg,p1,p2,s6⟩ -
  by_cases hlt:(k:Int)<(L.length:Int)
  · have hx:L[k]? = some (L[k]'(by omega)):=gE (by omega);have hdrop:L.drop k=L[k]'(by omega) :: L.drop (k+1):=List.drop_eq_getElem_cons (by omega);generalize L[k]'(by omega)=x at hx hdrop;rw[hdrop,fJ] at p1 p2;obtain⟨q,hq,hc⟩:=FR ((s6.out 5 rfl).first.imp rdL) hx
    cases hq
    refine cT (dT hlt) ⟨λ w6=>∃ S' : Se,wq S' (k+1)/\(fJ S' (L.drop (k+1))).1.er=(fJ fo L).1.er/\(fJ S' (L.drop (k+1))).2=(fJ fo L).2/\St w w6 (Sep (Cz r2 S'++[B])),?_,aq rfl ⟨by omega,by omega,_,hc,?_⟩⟩
    · rintro w6 ⟨S',h1,h2,h3,s7⟩ -;exact⟨L.length-(k+1),by omega,k+1,S',aG ⟨by omega,by omega⟩,by omega,rfl,h1,h2,h3,s7⟩
    · by_cases hx0:x=[]
      · rw[if_pos hx0] at p1 p2;exact cT (by rw[hx0,iV]; rfl) ⟨S,hg.up (by omega),p1,p2,s6⟩
      · rw[if_neg hx0] at p1 p2;have hxl:=hls x (List.mem_of_getElem? hx);refine cF (by rw[iV,iV]; exact beq_eq_false_iff_ne.2 hx0) (au (Hy w5 32 x (by omega)) ?_);rintro v w7 ⟨g2,rfl,k7⟩;have s7:St w w7 (Sep (bY 9 1 sF (some ⟨g2,0,none⟩) (bu 32 x).length (bu 32 x) :: (Cz r2 S++[B]))):=s6.and k7.single;have hwl:=A3 32 x;have s8:St w w7 (Sep (Cz r2 S++[Sep [bY 9 1 sF (some ⟨g2,0,none⟩) (bu 32 x).length (bu 32 x),B]])) :=
          St.cat (((s7.aA [1,2,3,4,5,0,6]).split [_,_,_,_,_]).eqv (bq.right (bq.unit _)))
        refine⟨_,_,_,rfl,au (Rw s8 (λ w F ⟨F1,F2,_,h1,_,_⟩=>bp FQ w F1 h1) (Nat.le_refl _) (FZ 32 x) (by omega) (λ y hy=>by have:=A4 hy; omega) hg (by omega)) ?_⟩;rintro v w8 ⟨rfl,ko,ok⟩;refine⟨_,rfl,?_⟩
        by_cases hr:Cq S (bu 32 x)=0
        · rw[if_neg (λ h=>h hr)] at p1 p2;obtain⟨S',eS,s9⟩:=ok hr;have h1:=Cl (l:=L.drop (k+1)) eS;refine cF (by simpa using hr) ⟨S',(Ru hg _).er eS,h1.1.trans p1,h1.2.trans p2,?_⟩;have s10:=s9.dc [_,_,_,_,_];exact s10.aA [0,1,2,3,4,6]
        · rw[if_pos hr] at p1 p2;have p2:Cq S (bu 32 x)=(fJ fo L).2:=p2;have s9:=sB1 (((ko hr).dc [_,_,_,_,_]).aA [0,1,2,3,4,6]);exact cT (by simpa using hr) (bad s9 (j:=6) rfl hr (by rw[e0,if_pos (by rw[<- p2]; exact hr),<- p2]))
  · obtain rfl:k=L.length:=by omega
    rw[List.drop_length,fJ] at p1 p2;have p1:S.er=(fJ fo L).1.er:=p1;have p2:(0:Int)=(fJ fo L).2:=p2;rw[if_neg (λ h=>h p2.symm),<- RC p1] at e0;have s7:=sB1 s6;have sI:S.In w5:=(show St w w5 (Sep (Cz r2 S)) from s7.aA [0,1,2,3,4]).imp (Lp hg);refine cF (dF hlt) ⟨_,_,_,_,_,_,_,_,_,_,_,_,s7.cellsIn 0 rfl,au (AY sI) ?_⟩;rintro v w10 ⟨⟨rfl,hok⟩,c10⟩;have s8:=s7.quiet c10;refine⟨_,rfl,?_⟩
    by_cases h0:FT S=0
    · refine cF (by simpa using h0) ⟨_,_,_,_,_,_,_,_,_,_,_,_,s8.cellsIn 0 rfl,s8.aD 6 rfl S.arr.toList rfl (by simp[Se.arr,Value.oneCell']) λ w12 s9=>⟨_,_,_,_,_,_,_,_,_,_,_,_,s9.cellsIn (cs:=S.arr) 6 rfl,S,0,by rw[e0,h0]; rfl,?_,λ _=>⟨by rw[uW,hL]; exact p1,hok.1 h0⟩⟩⟩;exact((show St w w12 (Sep (Cz r2 S)) from s9.aA [0,1,2,3,4]).held (Lp hg))
    · exact cT (by simpa using h0) (bad s8 (j:=6) rfl h0 e0)
def oO(o:Po):Sx:={ o:=o,ph:=0,s:=fo,k:=none,bd:=[cv,cv,cv,cv,cv,cv,cv,cv],dec:=0,cnt:=0,dig:=0 }
theorem RP(w:World)(o:Po):CP 15 #[o.v] w (λ r w'=>∃ b,r=.pointer (some ⟨b,0,none⟩)/\St w w' (Sep [ah b (oO o).cells.toArray 112])):=by
  refine CC ?_;unfold A5;exact(St.start w).one.aB o.cells.toArray λ r1 w1 s1=>⟨_,_,_,_,s1.cellsIn 0 rfl,s1.aB (oO o).cells.toArray λ r2 w2 s2=>⟨r2,rfl,s2.aA [0]⟩⟩
theorem lO{S:Sx}(h:S.bd.length=8):S.cells.toArray[9]? = some (.pointer S.k):=by
  obtain⟨o,ph,s,k,bd,dec,cnt,dig⟩:=S;obtain⟨b0,b1,b2,b3,b4,b5,b6,b7,rfl⟩:=bQ h;rfl
section
variable {w0 w:World} {b g:Nat} {S:Sx} {C:Ck} {B:aI}
def dJ(b:Nat)(S:Sx)(g:Nat)(C:Ck):List aI:=ah b S.cells.toArray 112 :: eY g C
theorem St.mq{m:List aI}(s:St w0 w (Sep (eY g C++m))):St w0 w (Sep (eY g C++[Sep m])):=St.cat ((s.split (eY g C)).eqv (bq.right (bq.unit _)))
theorem Lz(s:St w0 w (Sep (dJ b S g C++[B])))(h:S.bd.length=8)(hk:S.k=some ⟨g,0,none⟩)(hC:C.Ok)(e:Ev) :
    CP 70 #[.pointer (some ⟨b,0,none⟩),e.v] w (λ r w'=>∃ (x:Int) (S' : Sx) (C' : Ck),r=iv x/\S'.bd.length=8/\S'.k=S.k/\x=(if C.ov then 10 else 0)/\(C.ov=false->C'.er=(if e.kind=3 then fy C else tY C).er/\S' = if (if e.kind=3 then dR C else true) then { S with ph:=2 } else S)/\St w0 w' (Sep (dJ b S' g C'++[B]))):=by
  refine pH (u1:=e.want) ?_;unfold ke;refine s.aB e.cells.toArray λ r1 w1 s1=>?_;let Bf:aI:=Sep [ah r1 e.cells.toArray 45,ah b S.cells.toArray 112,B];have s2:St w0 w1 (Sep (eY g C++[Bf])):=St.mq (m:=[_,_,_]) (s1.aA [2,3,4,5,6,7,0,1,8]);have cl:w1.cell? ⟨b,9,none⟩=some (.pointer (some ⟨g,0,none⟩)):=by rw[s1.ag 1 rfl,lO h,hk]
  have unf:∀ {w' : World} {C' : Ck},St w0 w' (Sep (eY g C'++[Bf]))->St w0 w' (Sep (dJ b S g C'++[B])):=λ s=>(s.dc [_,_,_,_,_,_]).aA [7,0,1,2,3,4,5,8];refine⟨λ o x w2=>∃ C' : Ck,x=(if C.ov then 10 else 0)/\(C.ov=false->C'.er=(if e.kind=3 then fy C else tY C).er/\o=if e.kind=3 then dR C else true)/\St w0 w2 (Sep (dJ b S g C'++[B])),?_,_,s1.ag 0 rfl 0,?_⟩
  · rintro w2 o x ⟨C',hx,ho,s3⟩ -;refine⟨λ w3=>∃ S' : Sx,S'.bd.length=8/\S'.k=S.k/\S' = (if o then { S with ph:=2 } else S)/\St w0 w3 (Sep (dJ b S' g C'++[B])),?_,?_⟩
    · rintro w3 ⟨S',h8,hk',hS,s4⟩ -;exact⟨x,S',C',rfl,h8,hk',hx,λ hv=>⟨(ho hv).1,by rw[hS,(ho hv).2]⟩,s4⟩
    · cases o with
      | true =>
        refine cT rfl (s3.aJ 0 rfl (j:=4) (by rw[dO h]; omega) rfl λ w4 s4=>⟨{ S with ph:=2 },h,rfl,rfl,?_⟩);rw[Ex h] at s4;exact s4
      | false=>exact cF rfl ⟨S,h,rfl,rfl,s3⟩
  · by_cases h3:e.kind=3
    · refine cT (by simpa using h3) ⟨_,cl,au (MI s2 hC) ?_⟩;rintro v w5 (⟨hv,rfl,s5⟩ | ⟨hv,rfl,C',eC,s5⟩)
      · exact⟨_,_,rfl,C,by rw[hv]; rfl,λ h=>(by rw[hv] at h; cases h),unf s5⟩
      · exact⟨_,_,rfl,C',by rw[hv]; rfl,λ _=>⟨by rw[if_pos h3]; exact eC,by rw[if_pos h3]⟩,unf s5⟩
    · refine cF (by simpa using h3) ⟨_,cl,au (RR s2 hC) ?_⟩;rintro v w5 (⟨hv,rfl,s5⟩ | ⟨hv,rfl,C',eC,s5⟩)
      · exact⟨_,rfl,C,by rw[hv]; rfl,λ h=>(by rw[hv] at h; cases h),unf s5⟩
      · exact⟨_,rfl,C',by rw[hv]; rfl,λ _=>⟨by rw[if_neg h3]; exact eC,by rw[if_neg h3]⟩,unf s5⟩
end
section
variable {w0 w:World} {b g:Nat} {S:Sx} {C:Ck} {B:aI}
theorem IY(s:St w0 w (Sep (dJ b S g C++[B])))(h:S.bd.length=8)(hk:S.k=some ⟨g,0,none⟩)(hC:C.Ok){e:Ev}{n:Nat}{y:Br}(hn:e.bidder=n)(hy:C.s.bd[n]? = some y) :
    CP 69 #[.pointer (some ⟨b,0,none⟩),e.v] w (λ r w'=>r=iv (kI C n y e.want)/\St w0 w' (Sep (dJ b S g (if kI C n y e.want=0 then rz C n e.want else C)++[B]))):=by
  refine nX (u1:=e.want) ?_;unfold jx;refine s.aB e.cells.toArray λ r1 w1 s1=>?_;have s1':=s1.quiet (aF.drew w1 []);let Bf:aI:=Sep [ah r1 e.cells.toArray 45,ah b S.cells.toArray 112,B];have s2:St w0 w1.drew (Sep (eY g C++[Bf])):=St.mq (m:=[_,_,_]) (s1'.aA [2,3,4,5,6,7,0,1,8]);have cl:w1.drew.cell? ⟨b,9,none⟩=some (.pointer (some ⟨g,0,none⟩)):=by rw[s1'.ag 1 rfl,lO h,hk]
  have unf:∀ {w' : World} {C' : Ck},St w0 w' (Sep (eY g C'++[Bf]))->St w0 w' (Sep (dJ b S g C'++[B])):=λ s=>(s.dc [_,_,_,_,_,_]).aA [7,0,1,2,3,4,5,8];have cb:w1.drew.cell? ⟨r1,1,none⟩=some (iv n):=by rw[<- hn]; exact s1'.ag 0 rfl 1
  refine⟨_,cl,_,cb,e.want,s1'.aM 0 3 rfl rfl,au (QX s2 hC hy e.want) ?_⟩;rintro v w2 ⟨rfl,s3⟩;refine⟨_,rfl,rfl,unf ?_⟩
  split at s3
  · rename_i h0; rw[if_pos h0]; exact s3
  · rename_i h0; rw[if_neg h0]; exact s3
end
section
variable {w0 w:World} {b g:Nat} {S:Sx} {C:Ck} {B:aI}
def fe(S:Sx)(i:Nat):Sx:={ S with bd:=S.bd.set i { S.bd.getD i cv with out:=true } }
theorem OD(s:St w0 w (Sep (dJ b S g C++[B])))(h:S.bd.length=8)(hk:S.k=some ⟨g,0,none⟩)(hC:C.Ok){e:Ev}{i:Nat}(he:e.bidder=i)(hi:i<C.s.bd.length) :
    CP 73 #[.pointer (some ⟨b,0,none⟩),e.v] w (λ r w'=>(C.dp[i]? = some true/\r=iv 10/\St w0 w' (Sep (dJ b (bn (fe S i) i) g C++[B])))\/(C.dp[i]? = some false/\r=iv 0/\St w0 w' (Sep (dJ b (bn (fe S i) i) g (jS C i)++[B])))):=by
  refine jG (u1:=e.want) ?_;unfold fP;have hi8:i<8:=by have:=hC.s.bd.l2; omega
  have hy:S.bd[i]? = some (S.bd.getD i cv):=by rw[List.getD_eq_getElem?_getD,gE (by omega)]; rfl
  refine s.aB e.cells.toArray λ r1 w1 s1=>?_;have s2:=s1.quiet (aF.drew w1 []);have c1:w1.drew.cell? ⟨r1,1,none⟩=some (iv i):=by rw[<- he]; exact s2.ag 0 rfl 1
  refine⟨_,c1,by omega,by omega,?_⟩;rw[Sk,aV];refine s2.aJ 1 rfl (j:=10+i*11+10) (by rw[dO h]; omega) rfl λ w2 s3=>?_;rw[OS h hi8 hy] at s3;have h2:(fe S i).bd.length=8:=by simpa[fe] using h
  have h3:(bn (fe S i) i).bd.length=8:=by simpa[bn] using h2
  have s3:St w0 w2 (Sep (ah r1 e.cells.toArray 45 :: ah b (fe S i).cells.toArray 112 :: (eY g C++[B]))):=s3;have c2:w2.cell? ⟨r1,1,none⟩=some (iv i):=by rw[<- he]; exact s3.ag 0 rfl 1
  refine⟨_,c2,au (Cy (m:=ah r1 e.cells.toArray 45 :: (eY g C++[B])) (s3.aA [1,0,2,3,4,5,6,7,8]) h2 hi8) ?_⟩;rintro v w3 ⟨rfl,s4⟩;have s5:=s4.quiet (aF.drew w3 []);let S' : Sx:=bn (fe S i) i;let Bf:aI:=Sep [ah r1 e.cells.toArray 45,ah b S'.cells.toArray 112,B];have s6:St w0 w3.drew (Sep (eY g C++[Bf])):=St.mq (m:=[_,_,_]) (s5.aA [2,3,4,5,6,7,1,0,8]);have cl:w3.drew.cell? ⟨b,9,none⟩=some (.pointer (some ⟨g,0,none⟩)):=by
    rw[s5.ag 0 rfl,lO h3];show some (Value.pointer S.k)=_;rw[hk]
  have unf:∀ {w' : World} {C' : Ck},St w0 w' (Sep (eY g C'++[Bf]))->St w0 w' (Sep (dJ b S' g C'++[B])):=λ s=>(s.dc [_,_,_,_,_,_]).aA [7,0,1,2,3,4,5,8];have c3:w3.drew.cell? ⟨r1,1,none⟩=some (iv i):=by rw[<- he]; exact s5.ag 1 rfl 1
  refine⟨rfl,_,cl,_,c3,au (Qj s6 hC hi) ?_⟩;rintro v w4 (⟨hd,rfl,s7⟩ | ⟨hd,rfl,s7⟩)
  · exact⟨_,rfl,.inl ⟨hd,rfl,unf s7⟩⟩
  · exact⟨_,rfl,.inr ⟨hd,rfl,unf s7⟩⟩
end
section
variable {w0 w:World} {b g:Nat} {S:Sx} {C:Ck} {B:aI}
def bE(S:Sx):Nat->Sx
  | 0=>S
  | k+1=>bn (bE S k) k
theorem zg(h:S.bd.length=8):∀ k,(bE S k).bd.length=8
  | 0=>h
  | k+1=>by have:=zg h k; simpa[bE,bn] using this
theorem Ly(s:St w0 w (Sep (dJ b S g C++[B])))(h:S.bd.length=8)(hk:S.k=some ⟨g,0,none⟩)(hC:C.Ok)(e:Ev) :
    CP 74 #[.pointer (some ⟨b,0,none⟩),e.v] w (λ r w'=>(ct C e.round=true/\r=iv 4/\St w0 w' (Sep (dJ b S g C++[B])))\/(ct C e.round=false/\r=iv 0/\∃ C',C'.er=(eK C e.round.toNat).er/\St w0 w' (Sep (dJ b { bE S 8 with ph:=1 } g C'++[B])))):=by
  refine pG (u1:=e.want) ?_;unfold j9;refine s.aB e.cells.toArray λ r1 w1 s1=>?_;have s2:=s1.quiet (aF.drew w1 []);let Bf:aI:=Sep [ah r1 e.cells.toArray 45,ah b S.cells.toArray 112,B];have s3:St w0 w1.drew (Sep (eY g C++[Bf])):=St.mq (m:=[_,_,_]) (s2.aA [2,3,4,5,6,7,0,1,8]);have cl:w1.drew.cell? ⟨b,9,none⟩=some (.pointer (some ⟨g,0,none⟩)):=by rw[s2.ag 1 rfl,lO h,hk]
  have unf:∀ {w' : World} {C' : Ck},St w0 w' (Sep (eY g C'++[Bf]))->St w0 w' (Sep (dJ b S g C'++[B])):=λ s=>(s.dc [_,_,_,_,_,_]).aA [7,0,1,2,3,4,5,8];refine⟨_,cl,_,s2.ag 0 rfl 2,au (Oq s3 hC e.round) ?_⟩;rintro v w2 (⟨hr,rfl,s4⟩ | ⟨hr,rfl,C',eC,s4⟩)
  · exact⟨_,rfl,cT rfl (.inl ⟨hr,rfl,unf s4⟩)⟩
  · refine⟨_,rfl,cF rfl ⟨λ i w3 m=>∃ k:Nat,i=k/\k<=8/\m=8-k/\St w0 w3 (Sep (dJ b (bE S k) g C'++[B])),⟨8,0,rfl,by omega,by omega,unf s4⟩,?_⟩⟩;rintro w3 m i ⟨k,rfl,hk8,hm,s5⟩ -;have h5:=zg h k
    by_cases hlt:(k:Int)<8
    · refine cT (dT hlt) (au (Cy (m:=eY g C'++[B]) s5 h5 (i:=k) (by omega)) ?_);rintro v w4 ⟨rfl,s6⟩;exact⟨rfl,8-(k+1),by omega,k+1,aG ⟨by omega,by omega⟩,by omega,rfl,s6⟩
    · obtain rfl:k=8:=by omega
      refine cF (dF hlt) (s5.aJ 0 rfl (j:=4) (by rw[dO h5]; omega) rfl λ w4 s6=>.inr ⟨hr,rfl,C',eC,?_⟩);rw[Ex h5] at s6;exact s6
end
def AB(F:I6->Int)(b:I6)(v:Int)(c:Ch):Int:=if c.want=b then v else if F c.want+cost c.p b-cost c.p c.want<v then F c.want+cost c.p b-cost c.p c.want else v
def PB(F:I6->Int)(l:List Ch)(b:I6):Int:=l.foldl (AB F b) 1000000
theorem MZ{l:List Ch}(h:∀ c∈l,c.Ok){q:I6}(hq:I6.Le q 4):∀ {v:Int},0<=v/\v<=24000000->0<=l.foldl (wM q) v/\l.foldl (wM q) v<=24000000:=by
  induction l with
  | nil=>intro v hv; exact hv
  | cons c l ih =>
    intro v hv;rw[List.foldl_cons];refine ih (λ c hc=>h c (by simp[hc])) ?_;have:=mc (h c (by simp)).p hq;unfold wM
    split
    · split<;>omega
    · exact hv
theorem MY{l:List Of}(h:∀ x∈l,x.v<=1000000){q:I6}:∀ {v:Int},0<=v/\v<=24000000->0<=l.foldl (BQ q) v/\l.foldl (BQ q) v<=24000000:=by
  induction l with
  | nil=>intro v hv; exact hv
  | cons c l ih =>
    intro v hv;rw[List.foldl_cons];refine ih (λ c hc=>h c (by simp[hc])) ?_;have:=h c (by simp);unfold BQ
    split
    · split<;>omega
    · exact hv
theorem M0{l:List Ch}{bids:List Of}(h:∀ c∈l,c.Ok)(hb:∀ x∈bids,x.v<=1000000){q:I6}(hq:I6.Le q 4):0<=J5 l bids q/\J5 l bids q<=24000000:=MY hb (MZ h hq (by decide))
theorem Q9{w:World}{a:OA}{c:Nat}{l:List Ch}(hr:EJ w a l)(hl:l.length<=1000)(ho:∀ c∈l,c.Ok){F:I6->Int}(hF:∀ q,I6.Le q 4->0<=F q/\F q<=24000000){v:Value}(hv:∀ (w' : World) (q:I6) (R:Ending->World->Prop),aF w w' []->I6.Le q 4->(∀ w'',aF w' w'' []->R (.returned (iv (F q))) w'')->dy prog v #[.agg q.vs.toArray] w' R){b:I6}(hb:I6.Le b 4) :
    CP 168 #[.slice a l.length c,v,.agg b.vs.toArray] w (λ r w'=>r=iv (PB F l b)/\aF w w' []):=by
  refine y4 ?_;unfold vW;refine(St.start w).one.aB b.vs.toArray λ r1 w1 s1=>?_;let M:List aI:=[ah r1 b.vs.toArray 42,emp];refine⟨λ n i w2 m=>∃ k:Nat,i=k/\k<=l.length/\m=l.length-k/\n=(l.take k).foldl (AB F b) 1000000/\St w w2 (Sep M),⟨l.length,0,rfl,by omega,by omega,rfl,s1⟩,?_⟩;rintro w2 m n i ⟨k,rfl,hk,hm,rfl,s2⟩ -
  by_cases hlt:(k:Int)<(l.length:Int)
  · have hx:l[k]? = some (l[k]'(by omega)):=gE (by omega);generalize l[k]'(by omega)=y at hx;obtain⟨p,hp,hcl⟩:=(hr.aC s2.aC).at hx;have oy:=ho y (List.mem_of_getElem? hx);have ef:=uH (f:=AB F b) (a:=1000000) hx;refine cT (dT hlt) ⟨λ n w3=>n=(l.take (k+1)).foldl (AB F b) 1000000/\St w w3 (Sep M),?_,aq hp ⟨by omega,by omega,y.p,y.want,hcl,s2.aB Bg.cells.toArray λ r2 w4 s4=>s4.aD 0 rfl y.cells rfl y.one λ w5 s5=>⟨y.want,cA s5 0 rfl,b,s5.cellsIn 1 rfl,?_⟩⟩⟩
    · rintro w3 n ⟨rfl,s3⟩ -;exact⟨l.length-(k+1),by omega,k+1,aG ⟨by omega,by omega⟩,by omega,rfl,rfl,s3⟩
    rw[I6.beq_eq]
    by_cases hw:y.want=b
    · exact cF (by rw[dT hw]; rfl) ⟨by rw[ef,AB,if_pos hw],s5.aA [1,2]⟩
    · have s6:=s5.quiet (aF.drew w5 []);refine cT (by rw[dF hw]; rfl) ⟨y.want,cA s6 0 rfl,y.p,wD s6 0 rfl,b,s6.cellsIn 1 rfl,y.p,wD s6 0 rfl,y.want,cA s6 0 rfl,hv _ y.want _ s6.aC oy.w λ w7 c7=>?_⟩;have s7:=s6.quiet c7;refine⟨_,rfl,cA s7 0 rfl,wD s7 0 rfl,s7.cellsIn 1 rfl,wD s7 0 rfl,au (ja w7 oy.p hb) ?_⟩;rintro x w8 ⟨rfl,c8⟩;have s8:=s7.quiet c8;refine⟨_,rfl,cA s8 0 rfl,wD s8 0 rfl,au (ja w8 oy.p oy.w) ?_⟩;rintro x w9 ⟨rfl,c9⟩;have h1:=hF y.want oy.w;have h2:=mc oy.p hb;have h3:=mc oy.p oy.w;refine⟨_,rfl,?_,(s8.quiet c9).aA [1,2]⟩;rw[ef,AB,if_neg hw,aG (n:=F y.want+cost y.p b) ⟨by omega,by omega⟩,aG ⟨by omega,by omega⟩]
  · obtain rfl:l.length=k:=by omega
    rw[List.take_length];exact cF (dF hlt) ⟨rfl,s2.aC⟩
theorem Ib(w:World)(a:OA)(n c:Nat):CP 233 #[.slice a n c,.agg #[.slice none 0 0,.slice none 0 0]] w (λ r w'=>r=.bool true/\aF w w' []):=by
  refine rP ?_;unfold nr;refine(St.start w).one.aB #[.slice none 0 0,.slice none 0 0] λ r1 w1 s1=>⟨λ b w2=>b=false/\w2=w1,?_,_,_,_,s1.ag 0 rfl 0,cF rfl ⟨_,_,_,s1.ag 0 rfl 0,rfl,rfl⟩⟩;rintro w2 _ ⟨rfl,rfl⟩ -;refine cF rfl ⟨_,_,_,s1.ag 0 rfl 0,λ i w3 m=>i=0/\w3=w2,⟨0,rfl,rfl⟩,?_⟩;rintro w3 m i ⟨rfl,rfl⟩ -;refine cF rfl ⟨_,_,_,s1.ag 0 rfl 1,λ i w4 m=>i=0/\w4=w3,⟨0,rfl,rfl⟩,?_⟩;rintro w4 m i ⟨rfl,rfl⟩ -;exact cF rfl ⟨rfl,s1.aC⟩
theorem Je{w:World}{a:OA}{c:Nat}{x:Ch}(hr:EJ w a [x])(ho:x.Ok):CP 207 #[.slice a 1 c,.agg #[.slice none 0 0,.slice none 0 0]] w (λ r w'=>r=iv 13/\aF w w' []):=by
  refine rO ?_;unfold nq;refine(St.start w).one.aB #[.slice none 0 0,.slice none 0 0] λ r1 w1 s1=>au (xH (l:=[x]) (k:=c) (hr.aC s1.aC) (by simp)) ?_;rintro v w2 ⟨rfl,c2⟩;have s2:=s1.quiet c2;have hv:[x].all uA=true:=C2.2 λ c hc=>by rw[List.mem_singleton.1 hc]; exact ho
  refine⟨_,rfl,cF (by rw[hv]; rfl) ⟨_,_,_,_,_,_,s2.cellsIn 0 rfl,au (Ib w2 a 1 c) ?_⟩⟩;rintro v w3 ⟨rfl,c3⟩;have s3:=s2.quiet c3;refine⟨_,rfl,cF rfl ⟨_,_,_,s3.ag 0 rfl 0,cT rfl ⟨_,_,_,s3.ag 0 rfl 1,au (K:=λ r w'=>r=.bool false/\w' = w3) (o7 ?_) ?_⟩⟩⟩
  · unfold jY;exact cT rfl ⟨rfl,rfl⟩
  · rintro v w4 ⟨rfl,rfl⟩;exact⟨_,rfl,cT rfl ⟨rfl,s3.aC⟩⟩
theorem OL{w:World}{a:OA}{c:Nat}{l:List Ch}(hr:EJ w a l)(hl:l.length<=1000)(ho:∀ c∈l,c.Ok):CP 165 #[.slice a l.length c] w (λ r w'=>r=.bool true/\aF w w' []):=by
  refine wS ?_;unfold tJ;refine⟨λ i w2 m=>∃ k:Nat,i=k/\k<=l.length/\m=l.length-k/\aF w w2 [],⟨l.length,0,rfl,by omega,by omega,aF.refl _ _⟩,?_⟩;rintro w2 m i ⟨k,rfl,hk,hm,c2⟩ -
  by_cases hlt:(k:Int)<(l.length:Int)
  · have hx:l[k]? = some (l[k]'(by omega)):=gE (by omega);generalize l[k]'(by omega)=y at hx;obtain⟨p,hp,hcl⟩:=(hr.aC c2).at hx;refine cT (dT hlt) (aq hp ⟨by omega,by omega,y.p,y.want,hcl,(St.start' c2).one.aB Bg.cells.toArray λ r1 w3 s3=>s3.aD 0 rfl y.cells rfl y.one λ w4 s4=>⟨y.p,y.want,s4.cellsIn 0 rfl,s4.aB y.cells.toArray λ r2 w5 s5=>?_⟩⟩);have h1:EJ w5 (some ⟨r2,0,none⟩) [y]:=λ i z hz=>by
      obtain⟨rfl,rfl⟩:i=0/\z=y:=by
        cases i with
        | zero=>simp at hz; exact⟨rfl,hz.symm⟩
        | succ i=>simp at hz
      exact⟨_,_,rfl,by rw[Nat.zero_mul,qk]; exact s5.cellsIn 0 rfl,rfl,rfl⟩
    refine au (Je (c:=1) h1 (ho y (List.mem_of_getElem? hx))) ?_;rintro v w6 ⟨rfl,c6⟩;exact⟨_,rfl,cF rfl ⟨l.length-(k+1),by omega,k+1,aG ⟨by omega,by omega⟩,by omega,rfl,(s5.quiet c6).aC⟩⟩
  · exact cF (dF hlt) ⟨rfl,c2⟩
def G4(l:List Ch)(bids:List Of)(x:Of):Bool:=decide (x.v>PB (J5 l bids) l x.want)
def IQ(l:List Ch)(bids:List Of):Int:=if bids.all B9 then (if bids.any (G4 l bids) then 16 else 0) else 4
theorem FN{w:World}{a1 a2:OA}{c1 c2:Nat}{l:List Ch}{bids:List Of}(hr:EJ w a1 l)(hl:l.length<=1000)(ho:∀ c∈l,c.Ok)(hb:Va w a2 bids)(hbl:bids.length<=100000) :
    CP 126 #[.slice a1 l.length c1,.slice a2 bids.length c2] w (λ r w'=>(∃ i:Int,r=.tuple #[iv i,iv (IQ l bids)])/\aF w w' []):=by
  refine wR ?_;unfold tI;refine au (OL hr hl ho) ?_;rintro v w1 ⟨rfl,d1⟩;refine⟨_,rfl,cF rfl ⟨λ i w2 m=>∃ k:Nat,i=k/\k<=bids.length/\m=bids.length-k/\(bids.take k).all B9=true/\aF w w2 [],⟨bids.length,0,rfl,by omega,by omega,rfl,d1⟩,?_⟩⟩;rintro w2 m i ⟨k,rfl,hk,hm,ha,d2⟩ -
  by_cases hlt:(k:Int)<(bids.length:Int)
  · have hx:bids[k]? = some (bids[k]'(by omega)):=gE (by omega);generalize bids[k]'(by omega)=y at hx;obtain⟨p,hp,hcl⟩:=(hb.aC d2).at hx;refine cT (dT hlt) (aq hp ⟨by omega,by omega,_,y.want,_,hcl,(St.start' d2).one.aB TI.cells.toArray λ r1 w3 s3=>s3.aD 0 rfl y.cells rfl y.one λ w4 s4=>⟨_,y.want,_,s4.cellsIn 0 rfl,au (IB w4 y) ?_⟩⟩);rintro v w5 ⟨rfl,c5⟩;refine⟨_,rfl,?_⟩
    cases hy:B9 y with
    | false =>
      have:bids.all B9=false:=List.all_eq_false.2 ⟨y,List.mem_of_getElem? hx,by simp[hy]⟩;exact cT rfl ⟨⟨k,by rw[IQ,this]; rfl⟩,(s4.quiet c5).aC⟩
    | true =>
      refine cF rfl ⟨bids.length-(k+1),by omega,k+1,aG ⟨by omega,by omega⟩,by omega,rfl,?_,(s4.quiet c5).aC⟩;rw[aO hx,List.all_append,ha]; simp[hy]
  · obtain rfl:bids.length=k:=by omega
    rw[List.take_length] at ha;have e0:IQ l bids=if bids.any (G4 l bids) then 16 else 0:=by rw[IQ,if_pos ha]
    have hok:∀ x∈bids,I6.Le x.want 4/\x.v<=1000000:=λ x hx=>by
      have:=List.all_eq_true.1 ha x hx;unfold B9 at this;simp only[Bool.and_eq_true,decide_eq_true_eq] at this;exact⟨Jm this.1,this.2.2.2⟩
    refine cF (dF hlt) (au (K:=λ r w'=>∃ r1 r2,r=.func (.func 208) #[] #[pt r1,pt r2]/\St w w' (Sep [ah r2 #[.slice a2 bids.length c2] 215,ah r1 #[.slice a1 l.length c1] 206,emp])) (uX ?_) ?_)
    · unfold qS;exact(St.start' d2).one.aB _ λ r1 w3 s3=>s3.aB _ λ r2 w4 s4=>⟨r1,r2,rfl,s4⟩
    rintro v w6 ⟨r1,r2,rfl,s6⟩;refine⟨_,rfl,λ i w7 m=>∃ k:Nat,i=k/\k<=bids.length/\m=bids.length-k/\(bids.take k).any (G4 l bids)=false/\St w w7 (Sep [ah r2 #[.slice a2 bids.length c2] 215,ah r1 #[.slice a1 l.length c1] 206,emp]),⟨bids.length,0,rfl,by omega,by omega,rfl,s6⟩,?_⟩;clear hlt hm hk d2;rintro w7 m i ⟨k,rfl,hk,hm,hany,s7⟩ -
    by_cases hlt:(k:Int)<(bids.length:Int)
    · have hx:bids[k]? = some (bids[k]'(by omega)):=gE (by omega);generalize bids[k]'(by omega)=y at hx;obtain⟨p,hp,hcl⟩:=(hb.aC s7.aC).at hx;refine cT (dT hlt) (aq hp ⟨by omega,by omega,_,y.want,_,hcl,s7.aB TI.cells.toArray λ r3 w8 s8=>s8.aD 0 rfl y.cells rfl y.one λ w9 s9=>?_⟩);have s10:=s9.quiet (aF.drew w9 []);refine⟨_,s10.ag 0 rfl 7,y.want,s10.aM 0 1 rfl rfl,au (Q9 (F:=J5 l bids) (hr.aC s10.aC) hl ho (λ q hq=>M0 ho (λ x hx=>(hok x hx).2) hq) ?_ (hok y (List.mem_of_getElem? hx)).1) ?_⟩
      · intro w' q R hc _ kk;refine bF (by kernel_rfl) (au (M4 (hr.aC (s10.quiet hc).aC) hl ho (hb.aC (s10.quiet hc).aC) hbl ((s10.quiet hc).ag 2 rfl 0) ((s10.quiet hc).ag 1 rfl 0) q) ?_);rintro r w'' ⟨rfl,h⟩; exact kk w'' h
      · rintro v w10 ⟨rfl,c10⟩;have s11:=s10.quiet c10;refine⟨_,rfl,s11.ag 0 rfl 7,?_⟩
        cases ho:G4 l bids y with
        | true=>exact cT ho ⟨⟨k,by rw[e0,jL hx ho]; rfl⟩,s11.aC⟩
        | false=>exact cF ho ⟨bids.length-(k+1),by omega,k+1,aG ⟨by omega,by omega⟩,by omega,rfl,gD hany hx ho,s11.aA [1,2,3]⟩
    · obtain rfl:bids.length=k:=by omega
      rw[List.take_length] at hany;exact cF (dF hlt) ⟨⟨0,by rw[e0,hany]; rfl⟩,s7.aC⟩
end Go.Proofs.YtjpbdjhaajdepaaGreatDoor

import Derived.Test.YtpihmghnbplohaaGreatDoorM18
import Derived.Test.YtpihmghnbplohaaGreatDoorM21
import Derived.Test.YtpihmghnbplohaaGreatDoorM24
set_option linter.unusedVariables false
set_option maxRecDepth 100000
namespace Go.Proofs.YtpihmghnbplohaaGreatDoor
open Go Go.Vc Tryz
def Co(r:Nat)(S:Se):List aD:=[ai r S.arr 100,bW 170 5 Pr.cells S.a1 S.c1 S.ps,bW 159 4 Br.cells S.a2 S.c2 S.bd,bW 174 3 T3.cells S.a3 S.c3 S.cp,bW 177 3 T3.cells S.a4 S.c4 S.sa]
structure vD (S:Se) (n:Nat):Prop where
  ps:∀ p∈S.ps,p.In
  bd:∀ p∈S.bd,p.In
  l1:S.ps.length<=n
  l2:S.bd.length<=n
  l3:S.cp.length<=n
  l4:S.sa.length<=n
theorem Cm{α:Type}{e:TypeId}{sz:Nat}{f:α->List Value}{a:OA}{c:Nat}{l:List α}:iu (bW e sz f a c l) λ _=>l.length<=c:=λ _ _ h=>(yL h.1).1
theorem iu.and{A:aD}{Q R:World->Prop}(h:iu A Q)(k:iu A R):iu A λ w=>Q w/\R w:=λ w F hA=>⟨h w F hA,k w F hA⟩
theorem Ly{r n:Nat}{S:Se}(h:vD S n):iu (Sep (Co r S)) S.In :=
  iu.mono (iu.cons (Q:=λ _=>True) (λ _ _ _=>trivial) (iu.cons (iu.and (bK Pr.len) Cm) (iu.cons (iu.and (bK Br.len) Cm) (iu.cons (iu.and (bK T3.len) Cm) (iu.cons (iu.and (bK T3.len) Cm) iu.nil)))))
    λ _ ⟨_,h1,h2,h3,h4,_⟩=>⟨dL.of h1.1 h.ps,j7.of h2.1 h.bd,CH.of h3.1,CH.of h4.1,h1.2,h2.2,h3.2,h4.2⟩
def nV(ws:List (List UInt8))(i:Nat):Int:=(e9 (ws.getD (i+2) [])).1
theorem KT{ws:List (List UInt8)}{i:Nat}(h:i+2<ws.length):((ws.drop 2).map λ x=>(e9 x).1)[i]? = some (nV ws i):=by
  rw[List.getElem?_map,List.getElem?_drop,show 2+i=i+2 by omega,nV,List.getD_eq_getElem?_getD,gE h]; rfl
theorem NZ(x:List UInt8):In (e9 x).1:=by
  unfold e9
  split
  · exact⟨by decide,by decide⟩
  · split
    · exact⟨by decide,by decide⟩
    · exact N0 (by omega)
def Cc(S:Se)(ws:List (List UInt8)):Int :=
  if tE (ws.getD 0 [])=0 then 22 else if tE (ws.getD 0 [])≠(ws.length:Int) then 2
  else if (gx S (ws.getD 0 []) (ws.getD 1 [])).2≠0 then (gx S (ws.getD 0 []) (ws.getD 1 [])).2 else oh (ws.drop 2)
def AG(S:Se)(ws:List (List UInt8)):Se :=
  if ws.getD 0 []=Pq then { S with ps:=S.ps++[⟨ws.getD 1 [],nV ws 0,nV ws 1,nV ws 2,nV ws 3⟩] }
  else if ws.getD 0 []=Pm then { S with bd:=S.bd++[⟨ws.getD 1 [],nV ws 0,nV ws 1,nV ws 2⟩] }
  else if ws.getD 0 []=Pn then { S with cp:=S.cp++[⟨(gx S (ws.getD 0 []) (ws.getD 1 [])).1,nV ws 0,nV ws 1⟩] }
  else if ws.getD 0 []=Pk then { S with sa:=S.sa++[⟨(gx S (ws.getD 0 []) (ws.getD 1 [])).1,nV ws 0,nV ws 1⟩] }
  else S
theorem QS{S:Se}{n:Nat}(h:vD S n)(ws:List (List UInt8)):vD (AG S ws) (n+1):=by
  obtain⟨h1,h2,l1,l2,l3,l4⟩:=h;unfold AG;have ni:=λ i=>NZ (ws.getD (i+2) [])
  split
  · refine⟨λ p hp=>?_,h2,by simp; omega,(Nat.le_succ_of_le l2),(Nat.le_succ_of_le l3),(Nat.le_succ_of_le l4)⟩;rcases List.mem_append.1 hp with hp | hp
    · exact h1 p hp
    · rw[List.mem_singleton.1 hp]; exact⟨ni 0,ni 1,ni 2,ni 3⟩
  · split
    · refine⟨h1,λ p hp=>?_,(Nat.le_succ_of_le l1),by simp; omega,(Nat.le_succ_of_le l3),(Nat.le_succ_of_le l4)⟩;rcases List.mem_append.1 hp with hp | hp
      · exact h2 p hp
      · rw[List.mem_singleton.1 hp]; exact⟨ni 0,ni 1,ni 2⟩
    · split
      · exact⟨h1,h2,(Nat.le_succ_of_le l1),(Nat.le_succ_of_le l2),by simp; omega,(Nat.le_succ_of_le l4)⟩
      · split
        · exact⟨h1,h2,(Nat.le_succ_of_le l1),(Nat.le_succ_of_le l2),(Nat.le_succ_of_le l3),by simp; omega⟩
        · exact⟨h1,h2,by omega,by omega,by omega,by omega⟩
theorem vD.up{S:Se}{n m:Nat}(h:vD S n)(hn:n<=m):vD S m:=⟨h.ps,h.bd,by have:=h.l1; omega,by have:=h.l2; omega,by have:=h.l3; omega,by have:=h.l4; omega⟩
theorem vD.er{S S' : Se}{n:Nat}(h:vD S n)(e:S'.er=S.er):vD S' n:=by
  have e1:S'.ps=S.ps:=show S'.er.ps=S.er.ps from congrArg Se.ps e;have e2:S'.bd=S.bd:=show S'.er.bd=S.er.bd from congrArg Se.bd e;have e3:S'.cp=S.cp:=show S'.er.cp=S.er.cp from congrArg Se.cp e;have e4:S'.sa=S.sa:=show S'.er.sa=S.er.sa from congrArg Se.sa e;exact⟨by rw[e1]; exact h.ps,by rw[e2]; exact h.bd,by rw[e1]; exact h.l1,by rw[e2]; exact h.l2,by rw[e3]; exact h.l3,by rw[e4]; exact h.l4⟩
theorem QU{w0 w:World}{r n c:Nat}{S:Se}{B:aD}{a:OA}{ws:List (List UInt8)}(s:St w0 w (Sep (Co r S++[B])))(hB:iu B λ w=>cH 1 sF w a ws)(hc:ws.length<=c)(h1:1<=ws.length)(hl:ws.length<=100000)(hx:∀ x∈ws,x.length<=1000000)(hg:vD S n)(hn:n<=90000) :
    CP 139 #[.pointer (some ⟨r,0,none⟩),.slice a ws.length c] w (λ v w'=>v=iv (Cc S ws)/\(Cc S ws≠0->St w0 w' (Sep (Co r S++[B])))/\(Cc S ws=0->∃ S' : Se,S'.er=(AG S ws).er/\St w0 w' (Sep (Co r S'++[B])))):=by
  refine zJ ?_;unfold yV;have wc:∀ {w' : World} {l:List aD} {i:Nat},St w0 w' (Sep l)->l[i]? = some B->∀ (j:Nat),j<ws.length->∃ q,a=some q/\w'.cell? (Addr.add q (j*1))=some (sv (ws.getD j [])):=λ s e j hj =>
    FK ((s.out _ e).first.imp hB) (by rw[List.getD_eq_getElem?_getD,gE hj]; rfl)
  obtain⟨q,hq,c0⟩:=wc s (i:=5) rfl 0 (by omega);have wc' : ∀ {w' : World} {l:List aD} {i:Nat},St w0 w' (Sep l)->l[i]? = some B->∀ (j:Nat),j<ws.length->w'.cell? (Addr.add q (j*1))=some (sv (ws.getD j [])):=λ s e j hj=>by
    obtain⟨q',hq',h⟩:=wc s e j hj;rw[hq] at hq'; cases hq'; exact h
  have bad:∀ {k:Int} {w' : World},k≠0->Cc S ws=k->St w0 w' (Sep (Co r S++[B]))->iv k=iv (Cc S ws)/\(Cc S ws≠0->St w0 w' (Sep (Co r S++[B])))/\(Cc S ws=0->∃ S' : Se,S'.er=(AG S ws).er/\St w0 w' (Sep (Co r S'++[B]))):=λ hk e hc =>
    ⟨by rw[e],λ _=>hc,λ h=>absurd (e.symm.trans h) hk⟩
  refine au hq ⟨by omega,by omega,_,c0,aj (OB w _) ?_⟩;rintro v w1 ⟨rfl,rfl⟩;refine⟨_,rfl,?_⟩
  by_cases h0:tE (ws.getD 0 [])=0
  · exact cT (by simpa using h0) (bad (by decide) (by rw[Cc,if_pos h0]) s)
  refine cF (by simpa using h0) ?_
  by_cases h2:tE (ws.getD 0 [])=(ws.length:Int)
  · have hw4:4<=ws.length:=by
      unfold tE at h0 h2
      split at h2
      · omega
      · rename_i g1
        split at h2
        · omega
        · rename_i g2
          split at h2
          · omega
          · rename_i g3; rw[if_neg g1,if_neg g2,if_neg g3] at h0; exact absurd rfl h0
    have s2:=s.quiet (az.drew w1 []);have sI:S.In w1.drew:=by
      have:=s2.aq [0,1,2,3,4];exact(this:St w0 w1.drew (Sep (Co r S))).imp (Ly hg)
    refine cT (by simpa using h2) ⟨_,_,_,_,_,_,_,_,_,_,_,_,s2.cellsIn 0 rfl,au hq ⟨by omega,by omega,_,wc' s2 (i:=5) rfl 0 (by omega),au hq ⟨by omega,by omega,_,wc' s2 (i:=5) rfl 1 (by omega),aj (LH sI (by have:=hg.l1; omega) (by have:=hg.l2; omega) _ _) ?_⟩⟩⟩;rintro v w2 ⟨rfl,c2⟩;have s3:=s2.quiet c2;have e1:Cc S ws=if (gx S (ws.getD 0 []) (ws.getD 1 [])).2≠0 then (gx S (ws.getD 0 []) (ws.getD 1 [])).2 else oh (ws.drop 2):=by rw[Cc,if_neg h0,if_neg (λ h=>h h2)]
    refine⟨_,_,rfl,?_⟩
    by_cases h3:(gx S (ws.getD 0 []) (ws.getD 1 [])).2=0
    · rw[if_neg (λ h=>h h3)] at e1;refine cF (by simpa using h3) ⟨by decide,by omega,?_⟩;have hfl:cH 1 sF w2 a ws:=(s3.out 5 rfl).first.imp hB;have ht:cH 1 sF w2 (some (q.add (((2:Int)).toNat*1))) (ws.drop 2):=λ i x hi=>by
        rw[List.getElem?_drop] at hi;obtain⟨q',cs,e,h1,h2,h3⟩:=hfl (2+i) x hi;rw[hq] at e; cases e;refine⟨_,cs,rfl,?_,h2,h3⟩;rw[Addr.add_add];have:((2:Int)).toNat*1+i*1=(2+i)*1:=by show 2*1+i*1=(2+i)*1; omega
        rw[this]; exact h1
      have hln:ws.length-((2:Int)).toNat=(ws.drop 2).length:=by rw[List.length_drop]; rfl
      rw[if_neg (show ¬ c=((2:Int)).toNat by show ¬ c=2; omega),hq,Option.map_some,hln];refine aj (FR ht (by rw[List.length_drop]; omega) λ x h=>hx x (List.mem_of_mem_drop h)) ?_;rintro v w4 (⟨hne,rfl,c4⟩ | ⟨he,a6,c6,rfl,k4⟩)
      · exact⟨_,_,_,_,rfl,cT (by simpa using hne) (bad hne e1 (s3.quiet c4))⟩
      · have s4:St w0 w4 (Sep (bW 3 1 i1 a6 c6 ((ws.drop 2).map λ x=>(e9 x).1) :: (Co r S++[B]))):=s3.and k4.single;rw[he] at e1;refine⟨_,_,_,_,rfl,cF rfl ⟨λ w5=>∃ S' : Se,S'.er=(AG S ws).er/\St w0 w5 (Sep (Co r S'++[B])),λ w5 h _=>⟨by rw[e1],λ hh=>absurd e1 hh,λ _=>h⟩,au rfl ⟨by omega,by omega,_,wc' s4 (i:=6) rfl 0 (by omega),?_⟩⟩⟩;have s5:=s4.quiet (az.drew w4 []);obtain⟨q6,hq6,_⟩:=fK (St.rd cR s5) (KT (ws:=ws) (i:=0) (by omega));have nc:∀ i,i+2<ws.length->w4.drew.cell? (Addr.add q6 (i*1))=some (iv (nV ws i)):=λ i hi=>by
          obtain⟨q',hq',hc'⟩:=fK (St.rd cR s5) (KT (ws:=ws) hi);rw[hq6] at hq'; cases hq'; exact hc'
        have w1c:=wc' s5 (i:=6) rfl 1 (by omega);have z1:=hg.l1; have z2:=hg.l2; have z3:=hg.l3; have z4:=hg.l4;rw[ia,ia,ia,ia,ia]
        by_cases g1:ws.getD 0 []=Pq
        · have hw6:ws.length=6:=by unfold tE at h2; rw[if_pos g1] at h2; omega
          have eM:AG S ws={ S with ps:=S.ps++[⟨ws.getD 1 [],nV ws 0,nV ws 1,nV ws 2,nV ws 3⟩] }:=by rw[AG,if_pos g1]
          refine cT (beq_iff_eq.2 g1) ⟨_,_,_,s5.ag 1 rfl 0,au rfl ⟨by omega,by omega,_,w1c,au hq6 ⟨by omega,by omega,_,nc 0 (by omega),au hq6 ⟨by omega,by omega,_,nc 1 (by omega),au hq6 ⟨by omega,by omega,_,nc 2 (by omega),au hq6 ⟨by omega,by omega,_,nc 3 (by omega),?_⟩⟩⟩⟩⟩⟩;refine s5.ax (⟨ws.getD 1 [],nV ws 0,nV ws 1,nV ws 2,nV ws 3⟩:Pr).cells.toArray λ r1 w6 s6=>⟨s6.ag 2 rfl 0,?_⟩;refine eK (l2:=[(⟨ws.getD 1 [],nV ws 0,nV ws 1,nV ws 2,nV ws 3⟩:Pr)]) Sr Pr.len Pr.one (s6.out 3 rfl) (xx (s6.cellsIn 0 rfl) rfl) (by simp; omega) (by simp; omega) λ a8 c8 w7 s7=>?_;have s8:=s7.back (i:=3) (by show 3<8; decide);refine s8.aH 2 rfl (j:=0) (by show 0<4; decide) rfl λ w8 s9=>⟨{ S with ps:=S.ps++[⟨ws.getD 1 [],nV ws 0,nV ws 1,nV ws 2,nV ws 3⟩],a1:=a8,c1:=c8 },by rw[eM]; rfl,s9.aq [2,3,4,5,6,7]⟩
        refine cF (beq_eq_false_iff_ne.2 g1) ?_
        by_cases g2:ws.getD 0 []=Pm
        · have hw6:ws.length=5:=by unfold tE at h2; rw[if_neg g1,if_pos g2] at h2; omega
          have eM:AG S ws={ S with bd:=S.bd++[⟨ws.getD 1 [],nV ws 0,nV ws 1,nV ws 2⟩] }:=by rw[AG,if_neg g1,if_pos g2]
          refine cT (beq_iff_eq.2 g2) ⟨_,_,_,s5.ag 1 rfl 1,au rfl ⟨by omega,by omega,_,w1c,au hq6 ⟨by omega,by omega,_,nc 0 (by omega),au hq6 ⟨by omega,by omega,_,nc 1 (by omega),au hq6 ⟨by omega,by omega,_,nc 2 (by omega),?_⟩⟩⟩⟩⟩;refine s5.ax (⟨ws.getD 1 [],nV ws 0,nV ws 1,nV ws 2⟩:Br).cells.toArray λ r1 w6 s6=>⟨s6.ag 2 rfl 1,?_⟩;refine eK (l2:=[(⟨ws.getD 1 [],nV ws 0,nV ws 1,nV ws 2⟩:Br)]) Sn Br.len Br.one (s6.out 4 rfl) (xx (s6.cellsIn 0 rfl) rfl) (by simp; omega) (by simp; omega) λ a8 c8 w7 s7=>?_;have s8:=s7.back (i:=4) (by show 4<8; decide);refine s8.aH 2 rfl (j:=1) (by show 1<4; decide) rfl λ w8 s9=>⟨{ S with bd:=S.bd++[⟨ws.getD 1 [],nV ws 0,nV ws 1,nV ws 2⟩],a2:=a8,c2:=c8 },by rw[eM]; rfl,s9.aq [2,3,4,5,6,7]⟩
        refine cF (beq_eq_false_iff_ne.2 g2) ?_
        by_cases g3:ws.getD 0 []=Pn
        · have hw6:ws.length=4:=by unfold tE at h2; rw[if_neg g1,if_neg g2,if_pos (.inl g3)] at h2; omega
          have eM:AG S ws={ S with cp:=S.cp++[⟨(gx S (ws.getD 0 []) (ws.getD 1 [])).1,nV ws 0,nV ws 1⟩] }:=by rw[AG,if_neg g1,if_neg g2,if_pos g3]
          refine cT (beq_iff_eq.2 g3) ⟨_,_,_,s5.ag 1 rfl 2,au hq6 ⟨by omega,by omega,_,nc 0 (by omega),au hq6 ⟨by omega,by omega,_,nc 1 (by omega),?_⟩⟩⟩;refine s5.ax (⟨(gx S (ws.getD 0 []) (ws.getD 1 [])).1,nV ws 0,nV ws 1⟩:T3).cells.toArray λ r1 w6 s6=>⟨s6.ag 2 rfl 2,?_⟩;refine eK (l2:=[(⟨(gx S (ws.getD 0 []) (ws.getD 1 [])).1,nV ws 0,nV ws 1⟩:T3)]) Sp T3.len T3.one (s6.out 5 rfl) (xx (s6.cellsIn 0 rfl) rfl) (by simp; omega) (by simp; omega) λ a8 c8 w7 s7=>?_;have s8:=s7.back (i:=5) (by show 5<8; decide);refine s8.aH 2 rfl (j:=2) (by show 2<4; decide) rfl λ w8 s9=>⟨{ S with cp:=S.cp++[⟨(gx S (ws.getD 0 []) (ws.getD 1 [])).1,nV ws 0,nV ws 1⟩],a3:=a8,c3:=c8 },by rw[eM]; rfl,s9.aq [2,3,4,5,6,7]⟩
        refine cF (beq_eq_false_iff_ne.2 g3) ?_
        by_cases g4:ws.getD 0 []=Pk
        · have hw6:ws.length=4:=by unfold tE at h2; rw[if_neg g1,if_neg g2,if_pos (.inr g4)] at h2; omega
          have eM:AG S ws={ S with sa:=S.sa++[⟨(gx S (ws.getD 0 []) (ws.getD 1 [])).1,nV ws 0,nV ws 1⟩] }:=by rw[AG,if_neg g1,if_neg g2,if_neg g3,if_pos g4]
          refine cT (beq_iff_eq.2 g4) ⟨_,_,_,s5.ag 1 rfl 3,au hq6 ⟨by omega,by omega,_,nc 0 (by omega),au hq6 ⟨by omega,by omega,_,nc 1 (by omega),?_⟩⟩⟩;refine s5.ax (⟨(gx S (ws.getD 0 []) (ws.getD 1 [])).1,nV ws 0,nV ws 1⟩:T3).cells.toArray λ r1 w6 s6=>⟨s6.ag 2 rfl 3,?_⟩;refine eK (l2:=[(⟨(gx S (ws.getD 0 []) (ws.getD 1 [])).1,nV ws 0,nV ws 1⟩:T3)]) Sm T3.len T3.one (s6.out 6 rfl) (xx (s6.cellsIn 0 rfl) rfl) (by simp; omega) (by simp; omega) λ a8 c8 w7 s7=>?_;have s8:=s7.back (i:=6) (by show 6<8; decide);refine s8.aH 2 rfl (j:=3) (by show 3<4; decide) rfl λ w8 s9=>⟨{ S with sa:=S.sa++[⟨(gx S (ws.getD 0 []) (ws.getD 1 [])).1,nV ws 0,nV ws 1⟩],a4:=a8,c4:=c8 },by rw[eM]; rfl,s9.aq [2,3,4,5,6,7]⟩
        · exact cF (beq_eq_false_iff_ne.2 g4) ⟨S,by rw[AG,if_neg g1,if_neg g2,if_neg g3,if_neg g4],s4.second⟩
    · rw[if_pos h3] at e1;exact cT (by simpa using h3) (bad h3 e1 s3)
  · exact cF (by simpa using h2) (bad (by decide) (by rw[Cc,if_neg h0,if_pos h2]) s)
theorem AO(sep:ByteArray):∀ (k:Nat) (s:ByteArray),∀ x∈Lib.splitB sep 0 k s,x.size<=s.size
  | 0,s,x,hx=>by rw[Lib.splitB_zero,List.mem_singleton] at hx; rw[hx]; exact Nat.le_refl _
  | k+1,s,x,hx=>by
    rw[Lib.splitB] at hx
    split at hx
    · rw[List.mem_singleton] at hx; rw[hx]; exact Nat.le_refl _
    · rcases List.mem_cons.1 hx with rfl | hx
      · rw[ByteArray.size_extract]; omega
      · have:=AO sep k _ x hx;rw[ByteArray.size_extract] at this;omega
theorem AQ{c:UInt8}{s x:List UInt8}(hx:x∈bq c s):x.length<=s.length:=by
  obtain⟨b,hb,rfl⟩:=List.mem_map.1 hx;have:=AO _ _ _ b hb;rw[fm] at this;exact this
theorem FU(c:UInt8)(s:List UInt8):1<=(bq c s).length:=by rw[lW]; omega
def fH:Se:=⟨[],[],[],[],none,0,none,0,none,0,none,0⟩
def eY:Se->List (List UInt8)->Se×Int
  | S,[]=>(S,0)
  | S,l :: ls=>if l=[] then eY S ls else if Cc S (bq 32 l)≠0 then (fH,Cc S (bq 32 l)) else eY (AG S (bq 32 l)) ls
def uu(t:List UInt8):Int:=if 4000<t.length then 3 else if (eY fH (bq 10 t)).2≠0 then (eY fH (bq 10 t)).2 else FN (eY fH (bq 10 t)).1
def uv(t:List UInt8):Se:=(eY fH (bq 10 t)).1
theorem QN{S S' : Se}(e:S'.er=S.er)(ws:List (List UInt8)):Cc S' ws=Cc S ws:=by
  have:∀ S:Se,Cc S ws=Cc S.er ws:=λ _=>rfl;rw[this S',e,<- this]
theorem QO{S S' : Se}(e:S'.er=S.er)(ws:List (List UInt8)):(AG S' ws).er=(AG S ws).er:=by
  have:∀ S:Se,(AG S ws).er=(AG S.er ws).er:=λ S=>by
    unfold AG
    split
    · rfl
    · split
      · rfl
      · split
        · rfl
        · split<;>rfl
  rw[this S',e,<- this]
theorem QZ{S S' : Se}(e:S'.er=S.er):FN S' = FN S:=by
  have:∀ S:Se,FN S=FN S.er:=λ _=>rfl;rw[this S',e,<- this]
theorem B9:∀ {l:List (List UInt8)} {S S' : Se},S'.er=S.er->(eY S' l).1.er=(eY S l).1.er/\(eY S' l).2=(eY S l).2
  | [],_,_,e=>⟨e,rfl⟩
  | x :: l,S,S',e=>by
    rw[eY,eY,QN e]
    split
    · exact B9 e
    · split
      · exact⟨rfl,rfl⟩
      · exact B9 (QO e _)
theorem Mk(w:World):fH.In w:=⟨λ i p h=>by simp[fH] at h,λ i p h=>by simp[fH] at h,λ i p h=>by simp[fH] at h,λ i p h=>by simp[fH] at h,Nat.le_refl _,Nat.le_refl _,Nat.le_refl _,Nat.le_refl _⟩
theorem LK(w:World)(t:List UInt8)(ht:t.length<=80000):CP 121 #[sv t] w (λ r w'=>∃ (S' : Se) (i:Int),r=.tuple #[.agg S'.arr,iv i,iv (uu t)]/\St w w' (held S'.In)/\(uu t=0->S'.er=(uv t).er/\S'.Ok)):=by
  refine yT ?_;unfold vr;refine(St.start w).one.ax fH.arr λ r1 w1 s1=>?_;have bad:∀ {k i:Int} {w' : World} {m:List aD} {j:Nat},St w w' (Sep m)->m[j]? = some (ai r1 fH.arr 100)->k≠0->uu t=k ->
      aQ ⟨r1,0,none⟩ 0 fH.arr.toList w' λ w3=>∃ (a1:OA) (l1 c1:Nat) (a2:OA) (l2 c2:Nat) (a3:OA) (l3 c3:Nat) (a4:OA) (l4 c4:Nat),af w3 ⟨r1,0,none⟩ 0 [.slice a1 l1 c1,.slice a2 l2 c2,.slice a3 l3 c3,.slice a4 l4 c4] /\
        ∃ (S' : Se) (i' : Int),Value.tuple #[.agg #[.slice a1 l1 c1,.slice a2 l2 c2,.slice a3 l3 c3,.slice a4 l4 c4],iv i,iv k]=.tuple #[.agg S'.arr,iv i',iv (uu t)]/\St w w3 (held S'.In)/\(uu t=0->S'.er=(uv t).er/\S'.Ok):=λ {k i w' m j} s e hk hp =>
    s.aA j e fH.arr.toList rfl (by simp[fH,Se.arr,Value.oneCell']) λ w3 s3=>⟨_,_,_,_,_,_,_,_,_,_,_,_,s3.cellsIn (cs:=fH.arr) (T:=100) j (List.getElem?_set_self (dO e)),fH,i,by rw[hp]; rfl,((St.start' s3.av).one.su Mk).first,λ h=>absurd (hp.symm.trans h) hk⟩
  by_cases h4:4000<t.length
  · exact cT (by rw[fm]; exact dT (by omega)) (bad s1 (j:=0) rfl (by decide) (by rw[uu,if_pos h4]))
  refine cF (by rw[fm]; exact dF (by omega)) (s1.ax fH.arr λ r2 w3 s3=>aj (Hq w3 10 t (by omega)) ?_);rintro v w4 ⟨g,rfl,k4⟩;have e0:uu t=if (eY fH (bq 10 t)).2≠0 then (eY fH (bq 10 t)).2 else FN (eY fH (bq 10 t)).1:=by rw[uu,if_neg h4]
  have hll:=AP 10 t;have hls:∀ x∈bq 10 t,x.length<=4000:=λ x hx=>by have:=AQ hx; omega
  generalize hL:bq 10 t=L at *;have s4:St w w4 (Sep [bW 9 1 sF (some ⟨g,0,none⟩) L.length L,ai r2 fH.arr 100,ai r1 fH.arr 100,emp]):=s3.and k4.single;have s5:St w w4 (Sep (Co r2 fH++[Sep [bW 9 1 sF (some ⟨g,0,none⟩) L.length L,ai r1 fH.arr 100]])):=by
    have h1:St w w4 (Sep (bW 177 3 T3.cells none 0 [] :: bW 174 3 T3.cells none 0 [] :: bW 159 4 Br.cells none 0 [] :: bW 170 5 Pr.cells none 0 [] :: [bW 9 1 sF (some ⟨g,0,none⟩) L.length L,ai r2 fH.arr 100,ai r1 fH.arr 100,emp])):=(((s4.eZ).eZ).eZ).eZ;have h2:=(h1.aq [5,3,2,1,0,4,6]).split [_,_,_,_,_];exact St.cat (h2.eqv (aS.right (aS.unit _)))
  let B:aD:=Sep [bW 9 1 sF (some ⟨g,0,none⟩) L.length L,ai r1 fH.arr 100];have rdL:iu B λ w=>cH 1 sF w (some ⟨g,0,none⟩) L:=λ w F ⟨F1,F2,_,h1,_,_⟩=>bK FJ w F1 h1;have sB1:∀ {w' : World} {S:Se},St w w' (Sep (Co r2 S++[B]))->St w w' (Sep (Co r2 S++[bW 9 1 sF (some ⟨g,0,none⟩) L.length L,ai r1 fH.arr 100])):=λ s=>s.bN [_,_,_,_,_];refine⟨_,_,_,rfl,λ i w5 m=>∃ (k:Nat) (S:Se),i=k/\k<=L.length/\m=L.length-k/\vD S k/\(eY S (L.drop k)).1.er=(eY fH L).1.er/\(eY S (L.drop k)).2=(eY fH L).2/\St w w5 (Sep (Co r2 S++[B])),⟨L.length,0,fH,rfl,by omega,by omega,⟨by simp[fH],by simp[fH],by simp[fH],by simp[fH],by simp[fH],by simp[fH]⟩,rfl,rfl,s5⟩,?_⟩;rintro w5 m i ⟨k,S,rfl,hk,hm,hg,p1,p2,s6⟩ -
  by_cases hlt:(k:Int)<(L.length:Int)
  · have hx:L[k]? = some (L[k]'(by omega)):=gE (by omega);have hdrop:L.drop k=L[k]'(by omega) :: L.drop (k+1):=List.drop_eq_getElem_cons (by omega);generalize L[k]'(by omega)=x at hx hdrop;rw[hdrop,eY] at p1 p2;obtain⟨q,hq,hc⟩:=FK ((s6.out 5 rfl).first.imp rdL) hx
    cases hq
    refine cT (dT hlt) ⟨λ w6=>∃ S' : Se,vD S' (k+1)/\(eY S' (L.drop (k+1))).1.er=(eY fH L).1.er/\(eY S' (L.drop (k+1))).2=(eY fH L).2/\St w w6 (Sep (Co r2 S'++[B])),?_,au rfl ⟨by omega,by omega,_,hc,?_⟩⟩
    · rintro w6 ⟨S',h1,h2,h3,s7⟩ -;exact⟨L.length-(k+1),by omega,k+1,S',aC ⟨by omega,by omega⟩,by omega,rfl,h1,h2,h3,s7⟩
    · by_cases hx0:x=[]
      · rw[if_pos hx0] at p1 p2;exact cT (by rw[hx0,ia]; rfl) ⟨S,hg.up (by omega),p1,p2,s6⟩
      · rw[if_neg hx0] at p1 p2;have hxl:=hls x (List.mem_of_getElem? hx);refine cF (by rw[ia,ia]; exact beq_eq_false_iff_ne.2 hx0) (aj (Hq w5 32 x (by omega)) ?_);rintro v w7 ⟨g2,rfl,k7⟩;have s7:St w w7 (Sep (bW 9 1 sF (some ⟨g2,0,none⟩) (bq 32 x).length (bq 32 x) :: (Co r2 S++[B]))):=s6.and k7.single;have hwl:=AP 32 x;have s8:St w w7 (Sep (Co r2 S++[Sep [bW 9 1 sF (some ⟨g2,0,none⟩) (bq 32 x).length (bq 32 x),B]])) :=
          St.cat (((s7.aq [1,2,3,4,5,0,6]).split [_,_,_,_,_]).eqv (aS.right (aS.unit _)))
        refine⟨_,_,_,rfl,aj (QU s8 (λ w F ⟨F1,F2,_,h1,_,_⟩=>bK FJ w F1 h1) (Nat.le_refl _) (FU 32 x) (by omega) (λ y hy=>by have:=AQ hy; omega) hg (by omega)) ?_⟩;rintro v w8 ⟨rfl,ko,ok⟩;refine⟨_,rfl,?_⟩
        by_cases hr:Cc S (bq 32 x)=0
        · rw[if_neg (λ h=>h hr)] at p1 p2;obtain⟨S',eS,s9⟩:=ok hr;have h1:=B9 (l:=L.drop (k+1)) eS;refine cF (by simpa using hr) ⟨S',(QS hg _).er eS,h1.1.trans p1,h1.2.trans p2,?_⟩;have s10:=s9.bN [_,_,_,_,_];exact s10.aq [0,1,2,3,4,6]
        · rw[if_pos hr] at p1 p2;have p2:Cc S (bq 32 x)=(eY fH L).2:=p2;have s9:=sB1 (((ko hr).bN [_,_,_,_,_]).aq [0,1,2,3,4,6]);exact cT (by simpa using hr) (bad s9 (j:=6) rfl hr (by rw[e0,if_pos (by rw[<- p2]; exact hr),<- p2]))
  · obtain rfl:k=L.length:=by omega
    rw[List.drop_length,eY] at p1 p2;have p1:S.er=(eY fH L).1.er:=p1;have p2:(0:Int)=(eY fH L).2:=p2;rw[if_neg (λ h=>h p2.symm),<- QZ p1] at e0;have s7:=sB1 s6;have sI:S.In w5:=(show St w w5 (Sep (Co r2 S)) from s7.aq [0,1,2,3,4]).imp (Ly hg);refine cF (dF hlt) ⟨_,_,_,_,_,_,_,_,_,_,_,_,s7.cellsIn 0 rfl,aj (AM sI) ?_⟩;rintro v w10 ⟨⟨rfl,hok⟩,c10⟩;have s8:=s7.quiet c10;refine⟨_,rfl,?_⟩
    by_cases h0:FN S=0
    · refine cF (by simpa using h0) ⟨_,_,_,_,_,_,_,_,_,_,_,_,s8.cellsIn 0 rfl,s8.aA 6 rfl S.arr.toList rfl (by simp[Se.arr,Value.oneCell']) λ w12 s9=>⟨_,_,_,_,_,_,_,_,_,_,_,_,s9.cellsIn (cs:=S.arr) 6 rfl,S,0,by rw[e0,h0]; rfl,?_,λ _=>⟨by rw[uv,hL]; exact p1,hok.1 h0⟩⟩⟩;exact((show St w w12 (Sep (Co r2 S)) from s9.aq [0,1,2,3,4]).held (Ly hg))
    · exact cT (by simpa using h0) (bad s8 (j:=6) rfl h0 e0)
def ij(o:Po):Sx:={ o:=o,ph:=0,s:=fH,k:=none,bd:=[dH,dH,dH,dH,dH,dH,dH,dH],dec:=0,cnt:=0,dig:=0 }
theorem LI(w:World)(o:Po):CP 32 #[o.v] w (λ r w'=>∃ b,r=.pointer (some ⟨b,0,none⟩)/\St w w' (Sep [ai b (ij o).cells.toArray 114])):=by
  refine Cq ?_;unfold AR;exact(St.start w).one.ax o.cells.toArray λ r1 w1 s1=>⟨_,_,_,_,s1.cellsIn 0 rfl,s1.ax (ij o).cells.toArray λ r2 w2 s2=>⟨r2,rfl,s2.aq [0]⟩⟩
theorem kX{S:Sx}(h:S.bd.length=8):S.cells.toArray[9]? = some (.pointer S.k):=by
  obtain⟨o,ph,s,k,bd,dec,cnt,dig⟩:=S;obtain⟨b0,b1,b2,b3,b4,b5,b6,b7,rfl⟩:=bO h;rfl
section
variable {w0 w:World} {b g:Nat} {S:Sx} {C:Ck} {B:aD}
def dm(b:Nat)(S:Sx)(g:Nat)(C:Ck):List aD:=ai b S.cells.toArray 114 :: dW g C
theorem St.lJ{m:List aD}(s:St w0 w (Sep (dW g C++m))):St w0 w (Sep (dW g C++[Sep m])):=St.cat ((s.split (dW g C)).eqv (aS.right (aS.unit _)))
theorem LM(s:St w0 w (Sep (dm b S g C++[B])))(h:S.bd.length=8)(hk:S.k=some ⟨g,0,none⟩)(hC:C.Ok)(e:Ev) :
    CP 92 #[.pointer (some ⟨b,0,none⟩),e.v] w (λ r w'=>∃ (x:Int) (S' : Sx) (C' : Ck),r=iv x/\S'.bd.length=8/\S'.k=S.k/\x=(if C.ov then 10 else 0)/\(C.ov=false->C'.er=(if e.kind=3 then eL C else tr C).er/\S' = if (if e.kind=3 then dB C else true) then { S with ph:=2 } else S)/\St w0 w' (Sep (dm b S' g C'++[B]))):=by
  refine oL (u1:=e.want) ?_;unfold jT;refine s.ax e.cells.toArray λ r1 w1 s1=>?_;let Bf:aD:=Sep [ai r1 e.cells.toArray 43,ai b S.cells.toArray 114,B];have s2:St w0 w1 (Sep (dW g C++[Bf])):=St.lJ (m:=[_,_,_]) (s1.aq [2,3,4,5,6,7,0,1,8]);have cl:w1.cell? ⟨b,9,none⟩=some (.pointer (some ⟨g,0,none⟩)):=by rw[s1.ag 1 rfl,kX h,hk]
  have unf:∀ {w' : World} {C' : Ck},St w0 w' (Sep (dW g C'++[Bf]))->St w0 w' (Sep (dm b S g C'++[B])):=λ s=>(s.bN [_,_,_,_,_,_]).aq [7,0,1,2,3,4,5,8];refine⟨λ o x w2=>∃ C' : Ck,x=(if C.ov then 10 else 0)/\(C.ov=false->C'.er=(if e.kind=3 then eL C else tr C).er/\o=if e.kind=3 then dB C else true)/\St w0 w2 (Sep (dm b S g C'++[B])),?_,_,s1.ag 0 rfl 0,?_⟩
  · rintro w2 o x ⟨C',hx,ho,s3⟩ -;refine⟨λ w3=>∃ S' : Sx,S'.bd.length=8/\S'.k=S.k/\S' = (if o then { S with ph:=2 } else S)/\St w0 w3 (Sep (dm b S' g C'++[B])),?_,?_⟩
    · rintro w3 ⟨S',h8,hk',hS,s4⟩ -;exact⟨x,S',C',rfl,h8,hk',hx,λ hv=>⟨(ho hv).1,by rw[hS,(ho hv).2]⟩,s4⟩
    · cases o with
      | true =>
        refine cT rfl (s3.aH 0 rfl (j:=4) (by rw[dz h]; omega) rfl λ w4 s4=>⟨{ S with ph:=2 },h,rfl,rfl,?_⟩);rw[Er h] at s4;exact s4
      | false=>exact cF rfl ⟨S,h,rfl,rfl,s3⟩
  · by_cases h3:e.kind=3
    · refine cT (by simpa using h3) ⟨_,cl,aj (MK s2 hC) ?_⟩;rintro v w5 (⟨hv,rfl,s5⟩ | ⟨hv,rfl,C',eC,s5⟩)
      · exact⟨_,_,rfl,C,by rw[hv]; rfl,λ h=>(by rw[hv] at h; cases h),unf s5⟩
      · exact⟨_,_,rfl,C',by rw[hv]; rfl,λ _=>⟨by rw[if_pos h3]; exact eC,by rw[if_pos h3]⟩,unf s5⟩
    · refine cF (by simpa using h3) ⟨_,cl,aj (Rf s2 hC) ?_⟩;rintro v w5 (⟨hv,rfl,s5⟩ | ⟨hv,rfl,C',eC,s5⟩)
      · exact⟨_,rfl,C,by rw[hv]; rfl,λ h=>(by rw[hv] at h; cases h),unf s5⟩
      · exact⟨_,rfl,C',by rw[hv]; rfl,λ _=>⟨by rw[if_neg h3]; exact eC,by rw[if_neg h3]⟩,unf s5⟩
end
section
variable {w0 w:World} {b g:Nat} {S:Sx} {C:Ck} {B:aD}
theorem IY(s:St w0 w (Sep (dm b S g C++[B])))(h:S.bd.length=8)(hk:S.k=some ⟨g,0,none⟩)(hC:C.Ok){e:Ev}{n:Nat}{y:Br}(hn:e.bidder=n)(hy:C.s.bd[n]? = some y) :
    CP 91 #[.pointer (some ⟨b,0,none⟩),e.v] w (λ r w'=>r=iv (ke C n y e.want)/\St w0 w' (Sep (dm b S g (if ke C n y e.want=0 then qB C n e.want else C)++[B]))):=by
  refine nv (u1:=e.want) ?_;unfold jc;refine s.ax e.cells.toArray λ r1 w1 s1=>?_;have s1':=s1.quiet (az.drew w1 []);let Bf:aD:=Sep [ai r1 e.cells.toArray 43,ai b S.cells.toArray 114,B];have s2:St w0 w1.drew (Sep (dW g C++[Bf])):=St.lJ (m:=[_,_,_]) (s1'.aq [2,3,4,5,6,7,0,1,8]);have cl:w1.drew.cell? ⟨b,9,none⟩=some (.pointer (some ⟨g,0,none⟩)):=by rw[s1'.ag 1 rfl,kX h,hk]
  have unf:∀ {w' : World} {C' : Ck},St w0 w' (Sep (dW g C'++[Bf]))->St w0 w' (Sep (dm b S g C'++[B])):=λ s=>(s.bN [_,_,_,_,_,_]).aq [7,0,1,2,3,4,5,8];have cb:w1.drew.cell? ⟨r1,1,none⟩=some (iv n):=by rw[<- hn]; exact s1'.ag 0 rfl 1
  refine⟨_,cl,_,cb,e.want,s1'.aP 0 3 rfl rfl,aj (Qp s2 hC hy e.want) ?_⟩;rintro v w2 ⟨rfl,s3⟩;refine⟨_,rfl,rfl,unf ?_⟩
  split at s3
  · rename_i h0; rw[if_pos h0]; exact s3
  · rename_i h0; rw[if_neg h0]; exact s3
end
section
variable {w0 w:World} {b g:Nat} {S:Sx} {C:Ck} {B:aD}
def gy(S:Sx)(i:Nat):Sx:={ S with bd:=S.bd.set i { S.bd.getD i dH with out:=true } }
theorem N3(s:St w0 w (Sep (dm b S g C++[B])))(h:S.bd.length=8)(hk:S.k=some ⟨g,0,none⟩)(hC:C.Ok){e:Ev}{i:Nat}(he:e.bidder=i)(hi:i<C.s.bd.length) :
    CP 95 #[.pointer (some ⟨b,0,none⟩),e.v] w (λ r w'=>(C.dp[i]? = some true/\r=iv 10/\St w0 w' (Sep (dm b (bp (gy S i) i) g C++[B])))\/(C.dp[i]? = some false/\r=iv 0/\St w0 w' (Sep (dm b (bp (gy S i) i) g (jA C i)++[B])))):=by
  refine jl (u1:=e.want) ?_;unfold fe;have hi8:i<8:=by have:=hC.s.bd.l2; omega
  have hy:S.bd[i]? = some (S.bd.getD i dH):=by rw[List.getD_eq_getElem?_getD,gE (by omega)]; rfl
  refine s.ax e.cells.toArray λ r1 w1 s1=>?_;have s2:=s1.quiet (az.drew w1 []);have c1:w1.drew.cell? ⟨r1,1,none⟩=some (iv i):=by rw[<- he]; exact s2.ag 0 rfl 1
  refine⟨_,c1,by omega,by omega,?_⟩;rw[SN,bG];refine s2.aH 1 rfl (j:=10+i*11+10) (by rw[dz h]; omega) rfl λ w2 s3=>?_;rw[Ol h hi8 hy] at s3;have h2:(gy S i).bd.length=8:=by simpa[gy] using h
  have h3:(bp (gy S i) i).bd.length=8:=by simpa[bp] using h2
  have s3:St w0 w2 (Sep (ai r1 e.cells.toArray 43 :: ai b (gy S i).cells.toArray 114 :: (dW g C++[B]))):=s3;have c2:w2.cell? ⟨r1,1,none⟩=some (iv i):=by rw[<- he]; exact s3.ag 0 rfl 1
  refine⟨_,c2,aj (Cn (m:=ai r1 e.cells.toArray 43 :: (dW g C++[B])) (s3.aq [1,0,2,3,4,5,6,7,8]) h2 hi8) ?_⟩;rintro v w3 ⟨rfl,s4⟩;have s5:=s4.quiet (az.drew w3 []);let S' : Sx:=bp (gy S i) i;let Bf:aD:=Sep [ai r1 e.cells.toArray 43,ai b S'.cells.toArray 114,B];have s6:St w0 w3.drew (Sep (dW g C++[Bf])):=St.lJ (m:=[_,_,_]) (s5.aq [2,3,4,5,6,7,1,0,8]);have cl:w3.drew.cell? ⟨b,9,none⟩=some (.pointer (some ⟨g,0,none⟩)):=by
    rw[s5.ag 0 rfl,kX h3];show some (Value.pointer S.k)=_;rw[hk]
  have unf:∀ {w' : World} {C' : Ck},St w0 w' (Sep (dW g C'++[Bf]))->St w0 w' (Sep (dm b S' g C'++[B])):=λ s=>(s.bN [_,_,_,_,_,_]).aq [7,0,1,2,3,4,5,8];have c3:w3.drew.cell? ⟨r1,1,none⟩=some (iv i):=by rw[<- he]; exact s5.ag 1 rfl 1
  refine⟨rfl,_,cl,_,c3,aj (PX s6 hC hi) ?_⟩;rintro v w4 (⟨hd,rfl,s7⟩ | ⟨hd,rfl,s7⟩)
  · exact⟨_,rfl,.inl ⟨hd,rfl,unf s7⟩⟩
  · exact⟨_,rfl,.inr ⟨hd,rfl,unf s7⟩⟩
end
section
variable {w0 w:World} {b g:Nat} {S:Sx} {C:Ck} {B:aD}
def bQ(S:Sx):Nat->Sx
  | 0=>S
  | k+1=>bp (bQ S k) k
theorem yP(h:S.bd.length=8):∀ k,(bQ S k).bd.length=8
  | 0=>h
  | k+1=>by have:=yP h k; simpa[bQ,bp] using this
theorem LL(s:St w0 w (Sep (dm b S g C++[B])))(h:S.bd.length=8)(hk:S.k=some ⟨g,0,none⟩)(hC:C.Ok)(e:Ev) :
    CP 96 #[.pointer (some ⟨b,0,none⟩),e.v] w (λ r w'=>(bV C e.round=true/\r=iv 4/\St w0 w' (Sep (dm b S g C++[B])))\/(bV C e.round=false/\r=iv 0/\∃ C',C'.er=(dQ C e.round.toNat).er/\St w0 w' (Sep (dm b { bQ S 8 with ph:=1 } g C'++[B])))):=by
  refine oK (u1:=e.want) ?_;unfold jS;refine s.ax e.cells.toArray λ r1 w1 s1=>?_;have s2:=s1.quiet (az.drew w1 []);let Bf:aD:=Sep [ai r1 e.cells.toArray 43,ai b S.cells.toArray 114,B];have s3:St w0 w1.drew (Sep (dW g C++[Bf])):=St.lJ (m:=[_,_,_]) (s2.aq [2,3,4,5,6,7,0,1,8]);have cl:w1.drew.cell? ⟨b,9,none⟩=some (.pointer (some ⟨g,0,none⟩)):=by rw[s2.ag 1 rfl,kX h,hk]
  have unf:∀ {w' : World} {C' : Ck},St w0 w' (Sep (dW g C'++[Bf]))->St w0 w' (Sep (dm b S g C'++[B])):=λ s=>(s.bN [_,_,_,_,_,_]).aq [7,0,1,2,3,4,5,8];refine⟨_,cl,_,s2.ag 0 rfl 2,aj (NT s3 hC e.round) ?_⟩;rintro v w2 (⟨hr,rfl,s4⟩ | ⟨hr,rfl,C',eC,s4⟩)
  · exact⟨_,rfl,cT rfl (.inl ⟨hr,rfl,unf s4⟩)⟩
  · refine⟨_,rfl,cF rfl ⟨λ i w3 m=>∃ k:Nat,i=k/\k<=8/\m=8-k/\St w0 w3 (Sep (dm b (bQ S k) g C'++[B])),⟨8,0,rfl,by omega,by omega,unf s4⟩,?_⟩⟩;rintro w3 m i ⟨k,rfl,hk8,hm,s5⟩ -;have h5:=yP h k
    by_cases hlt:(k:Int)<8
    · refine cT (dT hlt) (aj (Cn (m:=dW g C'++[B]) s5 h5 (i:=k) (by omega)) ?_);rintro v w4 ⟨rfl,s6⟩;exact⟨rfl,8-(k+1),by omega,k+1,aC ⟨by omega,by omega⟩,by omega,rfl,s6⟩
    · obtain rfl:k=8:=by omega
      refine cF (dF hlt) (s5.aH 0 rfl (j:=4) (by rw[dz h5]; omega) rfl λ w4 s6=>.inr ⟨hr,rfl,C',eC,?_⟩);rw[Er h5] at s6;exact s6
end
def Ar(F:I6->Int)(b:I6)(v:Int)(c:Ch):Int:=if c.want=b then v else if F c.want+cost c.p b-cost c.p c.want<v then F c.want+cost c.p b-cost c.p c.want else v
def O4(F:I6->Int)(l:List Ch)(b:I6):Int:=l.foldl (Ar F b) 1000000
theorem M0{l:List Ch}(h:∀ c∈l,c.Ok){q:I6}(hq:I6.Le q 4):∀ {v:Int},0<=v/\v<=24000000->0<=l.foldl (vS q) v/\l.foldl (vS q) v<=24000000:=by
  induction l with
  | nil=>intro v hv; exact hv
  | cons c l ih =>
    intro v hv;rw[List.foldl_cons];refine ih (λ c hc=>h c (by simp[hc])) ?_;have:=lG (h c (by simp)).p hq;unfold vS
    split
    · split<;>omega
    · exact hv
theorem MZ{l:List Of}(h:∀ x∈l,x.v<=1000000){q:I6}:∀ {v:Int},0<=v/\v<=24000000->0<=l.foldl (BP q) v/\l.foldl (BP q) v<=24000000:=by
  induction l with
  | nil=>intro v hv; exact hv
  | cons c l ih =>
    intro v hv;rw[List.foldl_cons];refine ih (λ c hc=>h c (by simp[hc])) ?_;have:=h c (by simp);unfold BP
    split
    · split<;>omega
    · exact hv
theorem M1{l:List Ch}{bids:List Of}(h:∀ c∈l,c.Ok)(hb:∀ x∈bids,x.v<=1000000){q:I6}(hq:I6.Le q 4):0<=Kf l bids q/\Kf l bids q<=24000000:=MZ hb (M0 h hq (by decide))
theorem Qx{w:World}{a:OA}{c:Nat}{l:List Ch}(hr:EE w a l)(hl:l.length<=1000)(ho:∀ c∈l,c.Ok){F:I6->Int}(hF:∀ q,I6.Le q 4->0<=F q/\F q<=24000000){v:Value}(hv:∀ (w' : World) (q:I6) (R:Ending->World->Prop),az w w' []->I6.Le q 4->(∀ w'',az w' w'' []->R (.returned (iv (F q))) w'')->cC prog v #[.agg q.vs.toArray] w' R){b:I6}(hb:I6.Le b 4) :
    CP 205 #[.slice a l.length c,v,.agg b.vs.toArray] w (λ r w'=>r=iv (O4 F l b)/\az w w' []):=by
  refine yG ?_;unfold vp;refine(St.start w).one.ax b.vs.toArray λ r1 w1 s1=>?_;let M:List aD:=[ai r1 b.vs.toArray 41,emp];refine⟨λ n i w2 m=>∃ k:Nat,i=k/\k<=l.length/\m=l.length-k/\n=(l.take k).foldl (Ar F b) 1000000/\St w w2 (Sep M),⟨l.length,0,rfl,by omega,by omega,rfl,s1⟩,?_⟩;rintro w2 m n i ⟨k,rfl,hk,hm,rfl,s2⟩ -
  by_cases hlt:(k:Int)<(l.length:Int)
  · have hx:l[k]? = some (l[k]'(by omega)):=gE (by omega);generalize l[k]'(by omega)=y at hx;obtain⟨p,hp,hcl⟩:=(hr.av s2.av).at hx;have oy:=ho y (List.mem_of_getElem? hx);have ef:=ua (f:=Ar F b) (a:=1000000) hx;refine cT (dT hlt) ⟨λ n w3=>n=(l.take (k+1)).foldl (Ar F b) 1000000/\St w w3 (Sep M),?_,au hp ⟨by omega,by omega,y.p,y.want,hcl,s2.ax A6.cells.toArray λ r2 w4 s4=>s4.aA 0 rfl y.cells rfl y.one λ w5 s5=>⟨y.want,bZ s5 0 rfl,b,s5.cellsIn 1 rfl,?_⟩⟩⟩
    · rintro w3 n ⟨rfl,s3⟩ -;exact⟨l.length-(k+1),by omega,k+1,aC ⟨by omega,by omega⟩,by omega,rfl,rfl,s3⟩
    rw[I6.beq_eq]
    by_cases hw:y.want=b
    · exact cF (by rw[dT hw]; rfl) ⟨by rw[ef,Ar,if_pos hw],s5.aq [1,2]⟩
    · have s6:=s5.quiet (az.drew w5 []);refine cT (by rw[dF hw]; rfl) ⟨y.want,bZ s6 0 rfl,y.p,vI s6 0 rfl,b,s6.cellsIn 1 rfl,y.p,vI s6 0 rfl,y.want,bZ s6 0 rfl,hv _ y.want _ s6.av oy.w λ w7 c7=>?_⟩;have s7:=s6.quiet c7;refine⟨_,rfl,bZ s7 0 rfl,vI s7 0 rfl,s7.cellsIn 1 rfl,vI s7 0 rfl,aj (iJ w7 oy.p hb) ?_⟩;rintro x w8 ⟨rfl,c8⟩;have s8:=s7.quiet c8;refine⟨_,rfl,bZ s8 0 rfl,vI s8 0 rfl,aj (iJ w8 oy.p oy.w) ?_⟩;rintro x w9 ⟨rfl,c9⟩;have h1:=hF y.want oy.w;have h2:=lG oy.p hb;have h3:=lG oy.p oy.w;refine⟨_,rfl,?_,(s8.quiet c9).aq [1,2]⟩;rw[ef,Ar,if_neg hw,aC (n:=F y.want+cost y.p b) ⟨by omega,by omega⟩,aC ⟨by omega,by omega⟩]
  · obtain rfl:l.length=k:=by omega
    rw[List.take_length];exact cF (dF hlt) ⟨rfl,s2.av⟩
theorem Ia(w:World)(a:OA)(n c:Nat):CP 284 #[.slice a n c,.agg #[.slice none 0 0,.slice none 0 0]] w (λ r w'=>r=.bool true/\az w w' []):=by
  refine qW ?_;unfold mJ;refine(St.start w).one.ax #[.slice none 0 0,.slice none 0 0] λ r1 w1 s1=>⟨λ b w2=>b=false/\w2=w1,?_,_,_,_,s1.ag 0 rfl 0,cF rfl ⟨_,_,_,s1.ag 0 rfl 0,rfl,rfl⟩⟩;rintro w2 _ ⟨rfl,rfl⟩ -;refine cF rfl ⟨_,_,_,s1.ag 0 rfl 0,λ i w3 m=>i=0/\w3=w2,⟨0,rfl,rfl⟩,?_⟩;rintro w3 m i ⟨rfl,rfl⟩ -;refine cF rfl ⟨_,_,_,s1.ag 0 rfl 1,λ i w4 m=>i=0/\w4=w3,⟨0,rfl,rfl⟩,?_⟩;rintro w4 m i ⟨rfl,rfl⟩ -;exact cF rfl ⟨rfl,s1.av⟩
theorem Jd{w:World}{a:OA}{c:Nat}{x:Ch}(hr:EE w a [x])(ho:x.Ok):CP 254 #[.slice a 1 c,.agg #[.slice none 0 0,.slice none 0 0]] w (λ r w'=>r=iv 13/\az w w' []):=by
  refine qV ?_;unfold mI;refine(St.start w).one.ax #[.slice none 0 0,.slice none 0 0] λ r1 w1 s1=>aj (xm (l:=[x]) (k:=c) (hr.av s1.av) (by simp)) ?_;rintro v w2 ⟨rfl,c2⟩;have s2:=s1.quiet c2;have hv:[x].all tT=true:=CL.2 λ c hc=>by rw[List.mem_singleton.1 hc]; exact ho
  refine⟨_,rfl,cF (by rw[hv]; rfl) ⟨_,_,_,_,_,_,s2.cellsIn 0 rfl,aj (Ia w2 a 1 c) ?_⟩⟩;rintro v w3 ⟨rfl,c3⟩;have s3:=s2.quiet c3;refine⟨_,rfl,cF rfl ⟨_,_,_,s3.ag 0 rfl 0,cT rfl ⟨_,_,_,s3.ag 0 rfl 1,aj (K:=λ r w'=>r=.bool false/\w' = w3) (oB ?_) ?_⟩⟩⟩
  · unfold jL;exact cT rfl ⟨rfl,rfl⟩
  · rintro v w4 ⟨rfl,rfl⟩;exact⟨_,rfl,cT rfl ⟨rfl,s3.av⟩⟩
theorem Od{w:World}{a:OA}{c:Nat}{l:List Ch}(hr:EE w a l)(hl:l.length<=1000)(ho:∀ c∈l,c.Ok):CP 202 #[.slice a l.length c] w (λ r w'=>r=.bool true/\az w w' []):=by
  refine wg ?_;unfold sR;refine⟨λ i w2 m=>∃ k:Nat,i=k/\k<=l.length/\m=l.length-k/\az w w2 [],⟨l.length,0,rfl,by omega,by omega,az.refl _ _⟩,?_⟩;rintro w2 m i ⟨k,rfl,hk,hm,c2⟩ -
  by_cases hlt:(k:Int)<(l.length:Int)
  · have hx:l[k]? = some (l[k]'(by omega)):=gE (by omega);generalize l[k]'(by omega)=y at hx;obtain⟨p,hp,hcl⟩:=(hr.av c2).at hx;refine cT (dT hlt) (au hp ⟨by omega,by omega,y.p,y.want,hcl,(St.start' c2).one.ax A6.cells.toArray λ r1 w3 s3=>s3.aA 0 rfl y.cells rfl y.one λ w4 s4=>⟨y.p,y.want,s4.cellsIn 0 rfl,s4.ax y.cells.toArray λ r2 w5 s5=>?_⟩⟩);have h1:EE w5 (some ⟨r2,0,none⟩) [y]:=λ i z hz=>by
      obtain⟨rfl,rfl⟩:i=0/\z=y:=by
        cases i with
        | zero=>simp at hz; exact⟨rfl,hz.symm⟩
        | succ i=>simp at hz
      exact⟨_,_,rfl,by rw[Nat.zero_mul,fQ]; exact s5.cellsIn 0 rfl,rfl,rfl⟩
    refine aj (Jd (c:=1) h1 (ho y (List.mem_of_getElem? hx))) ?_;rintro v w6 ⟨rfl,c6⟩;exact⟨_,rfl,cF rfl ⟨l.length-(k+1),by omega,k+1,aC ⟨by omega,by omega⟩,by omega,rfl,(s5.quiet c6).av⟩⟩
  · exact cF (dF hlt) ⟨rfl,c2⟩
def GY(l:List Ch)(bids:List Of)(x:Of):Bool:=decide (x.v>O4 (Kf l bids) l x.want)
def IS(l:List Ch)(bids:List Of):Int:=if bids.all B3 then (if bids.any (GY l bids) then 16 else 0) else 4
theorem FG{w:World}{a1 a2:OA}{c1 c2:Nat}{l:List Ch}{bids:List Of}(hr:EE w a1 l)(hl:l.length<=1000)(ho:∀ c∈l,c.Ok)(hb:Tv w a2 bids)(hbl:bids.length<=100000) :
    CP 155 #[.slice a1 l.length c1,.slice a2 bids.length c2] w (λ r w'=>(∃ i:Int,r=.tuple #[iv i,iv (IS l bids)])/\az w w' []):=by
  refine we ?_;unfold sQ;refine aj (Od hr hl ho) ?_;rintro v w1 ⟨rfl,d1⟩;refine⟨_,rfl,cF rfl ⟨λ i w2 m=>∃ k:Nat,i=k/\k<=bids.length/\m=bids.length-k/\(bids.take k).all B3=true/\az w w2 [],⟨bids.length,0,rfl,by omega,by omega,rfl,d1⟩,?_⟩⟩;rintro w2 m i ⟨k,rfl,hk,hm,ha,d2⟩ -
  by_cases hlt:(k:Int)<(bids.length:Int)
  · have hx:bids[k]? = some (bids[k]'(by omega)):=gE (by omega);generalize bids[k]'(by omega)=y at hx;obtain⟨p,hp,hcl⟩:=(hb.av d2).at hx;refine cT (dT hlt) (au hp ⟨by omega,by omega,_,y.want,_,hcl,(St.start' d2).one.ax SI.cells.toArray λ r1 w3 s3=>s3.aA 0 rfl y.cells rfl y.one λ w4 s4=>⟨_,y.want,_,s4.cellsIn 0 rfl,aj (ID w4 y) ?_⟩⟩);rintro v w5 ⟨rfl,c5⟩;refine⟨_,rfl,?_⟩
    cases hy:B3 y with
    | false =>
      have:bids.all B3=false:=List.all_eq_false.2 ⟨y,List.mem_of_getElem? hx,by simp[hy]⟩;exact cT rfl ⟨⟨k,by rw[IS,this]; rfl⟩,(s4.quiet c5).av⟩
    | true =>
      refine cF rfl ⟨bids.length-(k+1),by omega,k+1,aC ⟨by omega,by omega⟩,by omega,rfl,?_,(s4.quiet c5).av⟩;rw[aL hx,List.all_append,ha]; simp[hy]
  · obtain rfl:bids.length=k:=by omega
    rw[List.take_length] at ha;have e0:IS l bids=if bids.any (GY l bids) then 16 else 0:=by rw[IS,if_pos ha]
    have hok:∀ x∈bids,I6.Le x.want 4/\x.v<=1000000:=λ x hx=>by
      have:=List.all_eq_true.1 ha x hx;unfold B3 at this;simp only[Bool.and_eq_true,decide_eq_true_eq] at this;exact⟨Jl this.1,this.2.2.2⟩
    refine cF (dF hlt) (aj (K:=λ r w'=>∃ r1 r2,r=.func (.func 255) #[] #[pt r1,pt r2]/\St w w' (Sep [ai r2 #[.slice a2 bids.length c2] 249,ai r1 #[.slice a1 l.length c1] 239,emp])) (uy ?_) ?_)
    · unfold qn;exact(St.start' d2).one.ax _ λ r1 w3 s3=>s3.ax _ λ r2 w4 s4=>⟨r1,r2,rfl,s4⟩
    rintro v w6 ⟨r1,r2,rfl,s6⟩;refine⟨_,rfl,λ i w7 m=>∃ k:Nat,i=k/\k<=bids.length/\m=bids.length-k/\(bids.take k).any (GY l bids)=false/\St w w7 (Sep [ai r2 #[.slice a2 bids.length c2] 249,ai r1 #[.slice a1 l.length c1] 239,emp]),⟨bids.length,0,rfl,by omega,by omega,rfl,s6⟩,?_⟩;clear hlt hm hk d2;rintro w7 m i ⟨k,rfl,hk,hm,hany,s7⟩ -
    by_cases hlt:(k:Int)<(bids.length:Int)
    · have hx:bids[k]? = some (bids[k]'(by omega)):=gE (by omega);generalize bids[k]'(by omega)=y at hx;obtain⟨p,hp,hcl⟩:=(hb.av s7.av).at hx;refine cT (dT hlt) (au hp ⟨by omega,by omega,_,y.want,_,hcl,s7.ax SI.cells.toArray λ r3 w8 s8=>s8.aA 0 rfl y.cells rfl y.one λ w9 s9=>?_⟩);have s10:=s9.quiet (az.drew w9 []);refine⟨_,s10.ag 0 rfl 7,y.want,s10.aP 0 1 rfl rfl,aj (Qx (F:=Kf l bids) (hr.av s10.av) hl ho (λ q hq=>M1 ho (λ x hx=>(hok x hx).2) hq) ?_ (hok y (List.mem_of_getElem? hx)).1) ?_⟩
      · intro w' q R hc _ kk;refine bx (by kernel_rfl) (aj (M4 (hr.av (s10.quiet hc).av) hl ho (hb.av (s10.quiet hc).av) hbl ((s10.quiet hc).ag 2 rfl 0) ((s10.quiet hc).ag 1 rfl 0) q) ?_);rintro r w'' ⟨rfl,h⟩; exact kk w'' h
      · rintro v w10 ⟨rfl,c10⟩;have s11:=s10.quiet c10;refine⟨_,rfl,s11.ag 0 rfl 7,?_⟩
        cases ho:GY l bids y with
        | true=>exact cT ho ⟨⟨k,by rw[e0,jr hx ho]; rfl⟩,s11.av⟩
        | false=>exact cF ho ⟨bids.length-(k+1),by omega,k+1,aC ⟨by omega,by omega⟩,by omega,rfl,fV hany hx ho,s11.aq [1,2,3]⟩
    · obtain rfl:bids.length=k:=by omega
      rw[List.take_length] at hany;exact cF (dF hlt) ⟨⟨0,by rw[e0,hany]; rfl⟩,s7.av⟩
end Go.Proofs.YtpihmghnbplohaaGreatDoor

import Derived.Lib.ItoaLen
import Derived.Test.YtbnolaiklhbkkaaGreatDoorG10
set_option linter.unusedVariables false
set_option maxRecDepth 100000
namespace Go.Proofs.YtbnolaiklhbkkaaGreatDoor
open Go Go.Vc _root_.Go.Proofs.Tryz
def CX(r:Nat)(S:Se):List aC:=[ai r S.arr 27,bR 94 5 Pr.cells S.a1 S.c1 S.ps,bR 96 4 Br.cells S.a2 S.c2 S.bd,bR 98 3 T3.cells S.a3 S.c3 S.cp,bR 100 3 T3.cells S.a4 S.c4 S.sa]
structure wA (S:Se) (n:Nat):Prop where
 ps:∀ p∈S.ps,p.In
 bd:∀ p∈S.bd,p.In
 l1:S.ps.length<=n
 l2:S.bd.length<=n
 l3:S.cp.length<=n
 l4:S.sa.length<=n
theorem CV{α:Type}{e:TypeId}{sz:Nat}{f:α->List Value}{a:OA}{c:Nat}{l:List α}:gQ (bR e sz f a c l) λ _=>l.length<=c:=λ _ _ h=>(tT h.1).1
theorem gQ.and{A:aC}{Q R:World->Prop}(h:gQ A Q)(k:gQ A R):gQ A λ w=>Q w/\R w:=λ w F hA=>⟨h w F hA,k w F hA⟩
theorem Md{r n:Nat}{S:Se}(h:wA S n):gQ (Sep (CX r S)) S.In :=
 gQ.mono (gQ.cons (Q:=λ _=>True) (λ _ _ _=>trivial) (gQ.cons (gQ.and (bB Pr.len) CV) (gQ.cons (gQ.and (bB Br.len) CV) (gQ.cons (gQ.and (bB T3.len) CV) (gQ.cons (gQ.and (bB T3.len) CV) gQ.nil)))))
  λ _ ⟨_,h1,h2,h3,h4,_⟩=>⟨dH.of h1.1 h.ps,ku.of h2.1 h.bd,Dn.of h3.1,Dn.of h4.1,h1.2,h2.2,h3.2,h4.2⟩
def nV(ws:List (List UInt8))(i:Nat):Int:=(bV (ws.getD (i+2) [])).1
theorem Lu{ws:List (List UInt8)}{i:Nat}(h:i+2<ws.length):((ws.drop 2).map λ x=>(bV x).1)[i]?=some (nV ws i):=by
 rw[List.getElem?_map,List.getElem?_drop,show 2+i=i+2 by omega,nV,List.getD_eq_getElem?_getD,gE h]; rfl
theorem O7(x:List UInt8):In (bV x).1:=by
 unfold bV
 split
 ·exact⟨by decide,by decide⟩
 ·split
  ·exact⟨by decide,by decide⟩
  ·exact O9 (by omega)
def Bt(S:Se)(ws:List (List UInt8)):Int :=
 if jy (ws.getD 0 [])=0 then 22 else if jy (ws.getD 0 [])≠(ws.length:Int) then 2
 else if (cE S (ws.getD 0 []) (ws.getD 1 [])).2≠0 then (cE S (ws.getD 0 []) (ws.getD 1 [])).2 else gD (ws.drop 2)
def Ay(S:Se)(ws:List (List UInt8)):Se :=
 if ws.getD 0 []=zY then { S with ps:=S.ps++[⟨ws.getD 1 [],nV ws 0,nV ws 1,nV ws 2,nV ws 3⟩] }
 else if ws.getD 0 []=zX then { S with bd:=S.bd++[⟨ws.getD 1 [],nV ws 0,nV ws 1,nV ws 2⟩] }
 else if ws.getD 0 []=xT then { S with cp:=S.cp++[⟨(cE S (ws.getD 0 []) (ws.getD 1 [])).1,nV ws 0,nV ws 1⟩] }
 else if ws.getD 0 []=xS then { S with sa:=S.sa++[⟨(cE S (ws.getD 0 []) (ws.getD 1 [])).1,nV ws 0,nV ws 1⟩] }
 else S
theorem RI{S:Se}{n:Nat}(h:wA S n)(ws:List (List UInt8)):wA (Ay S ws) (n+1):=by
 obtain⟨h1,h2,l1,l2,l3,l4⟩:=h;unfold Ay;have ni:=λ i=>O7 (ws.getD (i+2) [])
 split
 ·refine⟨λ p hp=>?_,h2,by simp; omega,(Nat.le_succ_of_le l2),(Nat.le_succ_of_le l3),(Nat.le_succ_of_le l4)⟩;rcases List.mem_append.1 hp with hp|hp
  ·exact h1 p hp
  ·rw[List.mem_singleton.1 hp]; exact⟨ni 0,ni 1,ni 2,ni 3⟩
 ·split
  ·refine⟨h1,λ p hp=>?_,(Nat.le_succ_of_le l1),by simp; omega,(Nat.le_succ_of_le l3),(Nat.le_succ_of_le l4)⟩;rcases List.mem_append.1 hp with hp|hp
   ·exact h2 p hp
   ·rw[List.mem_singleton.1 hp]; exact⟨ni 0,ni 1,ni 2⟩
  ·split
   ·exact⟨h1,h2,(Nat.le_succ_of_le l1),(Nat.le_succ_of_le l2),by simp; omega,(Nat.le_succ_of_le l4)⟩
   ·split
    ·exact⟨h1,h2,(Nat.le_succ_of_le l1),(Nat.le_succ_of_le l2),(Nat.le_succ_of_le l3),by simp; omega⟩
    ·exact⟨h1,h2,by omega,by omega,by omega,by omega⟩
theorem wA.up{S:Se}{n m:Nat}(h:wA S n)(hn:n<=m):wA S m:=⟨h.ps,h.bd,by have:=h.l1; omega,by have:=h.l2; omega,by have:=h.l3; omega,by have:=h.l4; omega⟩
theorem wA.er{S S' : Se}{n:Nat}(h:wA S n)(e:S'.er=S.er):wA S' n:=by
 have e1:S'.ps=S.ps:=show S'.er.ps=S.er.ps from congrArg Se.ps e;have e2:S'.bd=S.bd:=show S'.er.bd=S.er.bd from congrArg Se.bd e;have e3:S'.cp=S.cp:=show S'.er.cp=S.er.cp from congrArg Se.cp e;have e4:S'.sa=S.sa:=show S'.er.sa=S.er.sa from congrArg Se.sa e;exact⟨by rw[e1]; exact h.ps,by rw[e2]; exact h.bd,by rw[e1]; exact h.l1,by rw[e2]; exact h.l2,by rw[e3]; exact h.l3,by rw[e4]; exact h.l4⟩
theorem RL{w0 w:World}{r n c:Nat}{S:Se}{B:aC}{a:OA}{ws:List (List UInt8)}(s:St w0 w (Sep (CX r S++[B])))(hB:gQ B λ w=>cG 1 sF w a ws)(hc:ws.length<=c)(h1:1<=ws.length)(hl:ws.length<=100000)(hx:∀ x∈ws,x.length<=1000000)(hg:wA S n)(hn:n<=90000) :
  CP 152 #[.pointer (some ⟨r,0,none⟩),.slice a ws.length c] w (λ v w'=>v=iv (Bt S ws)/\(Bt S ws≠0->St w0 w' (Sep (CX r S++[B])))/\(Bt S ws=0->∃ S' : Se,S'.er=(Ay S ws).er/\St w0 w' (Sep (CX r S'++[B])))):=by
 refine AB ?_;unfold zJ;have wc:∀ {w' : World} {l:List aC} {i:Nat},St w0 w' (Sep l)->l[i]?=some B->∀ (j:Nat),j<ws.length->∃ q,a=some q/\w'.cell? (Addr.add q (j*1))=some (sv (ws.getD j [])):=λ s e j hj =>
  Gt ((s.out _ e).first.imp hB) (by rw[List.getD_eq_getElem?_getD,gE hj]; rfl)
 obtain⟨q,hq,c0⟩:=wc s (i:=5) rfl 0 (by omega);have wc' : ∀ {w' : World} {l:List aC} {i:Nat},St w0 w' (Sep l)->l[i]?=some B->∀ (j:Nat),j<ws.length->w'.cell? (Addr.add q (j*1))=some (sv (ws.getD j [])):=λ s e j hj=>by
  obtain⟨q',hq',h⟩:=wc s e j hj;rw[hq] at hq'; cases hq'; exact h
 have bad:∀ {k:Int} {w' : World},k≠0->Bt S ws=k->St w0 w' (Sep (CX r S++[B]))->iv k=iv (Bt S ws)/\(Bt S ws≠0->St w0 w' (Sep (CX r S++[B])))/\(Bt S ws=0->∃ S' : Se,S'.er=(Ay S ws).er/\St w0 w' (Sep (CX r S'++[B]))):=λ hk e hc =>
  ⟨by rw[e],λ _=>hc,λ h=>absurd (e.symm.trans h) hk⟩
 refine aj hq ⟨by omega,by omega,_,c0,ak (PF w _) ?_⟩;rintro v w1 ⟨rfl,rfl⟩;refine⟨_,rfl,?_⟩
 by_cases h0:jy (ws.getD 0 [])=0
 ·exact cT (by simpa using h0) (bad (by decide) (by rw[Bt,if_pos h0]) s)
 refine cF (by simpa using h0) ?_
 by_cases h2:jy (ws.getD 0 [])=(ws.length:Int)
 ·have hw4:4<=ws.length:=by
   unfold jy at h0 h2
   split at h2
   ·omega
   ·rename_i g1
    split at h2
    ·omega
    ·rename_i g2
     split at h2
     ·omega
     ·rename_i g3; rw[if_neg g1,if_neg g2,if_neg g3] at h0; exact absurd rfl h0
  have s2:=s.quiet (ay.drew w1 []);have sI:S.In w1.drew:=by
   have:=s2.av [0,1,2,3,4];exact(this:St w0 w1.drew (Sep (CX r S))).imp (Md hg)
  refine cT (by simpa using h2) ⟨_,_,_,_,_,_,_,_,_,_,_,_,s2.cellsIn 0 rfl,aj hq ⟨by omega,by omega,_,wc' s2 (i:=5) rfl 0 (by omega),aj hq ⟨by omega,by omega,_,wc' s2 (i:=5) rfl 1 (by omega),ak (Mk sI (by have:=hg.l1; omega) (by have:=hg.l2; omega) _ _) ?_⟩⟩⟩;rintro v w2 ⟨rfl,c2⟩;have s3:=s2.quiet c2;have e1:Bt S ws=if (cE S (ws.getD 0 []) (ws.getD 1 [])).2≠0 then (cE S (ws.getD 0 []) (ws.getD 1 [])).2 else gD (ws.drop 2):=by rw[Bt,if_neg h0,if_neg (λ h=>h h2)]
  refine⟨_,_,rfl,?_⟩
  by_cases h3:(cE S (ws.getD 0 []) (ws.getD 1 [])).2=0
  ·rw[if_neg (λ h=>h h3)] at e1;refine cF (by simpa using h3) ⟨by decide,by omega,?_⟩;have hfl:cG 1 sF w2 a ws:=(s3.out 5 rfl).first.imp hB;have ht:cG 1 sF w2 (some (q.add (((2:Int)).toNat*1))) (ws.drop 2):=λ i x hi=>by
    rw[List.getElem?_drop] at hi;obtain⟨q',cs,e,h1,h2,h3⟩:=hfl (2+i) x hi;rw[hq] at e; cases e;refine⟨_,cs,rfl,?_,h2,h3⟩;rw[Addr.add_add];have:((2:Int)).toNat*1+i*1=(2+i)*1:=by show 2*1+i*1=(2+i)*1; omega
    rw[this]; exact h1
   have hln:ws.length-((2:Int)).toNat=(ws.drop 2).length:=by rw[List.length_drop]; rfl
   rw[if_neg (show ¬ c=((2:Int)).toNat by show ¬ c=2; omega),hq,Option.map_some,hln];refine ak (Gy ht (by rw[List.length_drop]; omega) λ x h=>hx x (List.mem_of_mem_drop h)) ?_;rintro v w4 (⟨hne,rfl,c4⟩|⟨he,a6,c6,rfl,k4⟩)
   ·exact⟨_,_,_,_,rfl,cT (by simpa using hne) (bad hne e1 (s3.quiet c4))⟩
   ·have s4:St w0 w4 (Sep (bR 3 1 i1 a6 c6 ((ws.drop 2).map λ x=>(bV x).1) :: (CX r S++[B]))):=s3.and k4.single;rw[he] at e1;refine⟨_,_,_,_,rfl,cF rfl ⟨λ w5=>∃ S' : Se,S'.er=(Ay S ws).er/\St w0 w5 (Sep (CX r S'++[B])),λ w5 h _=>⟨by rw[e1],λ hh=>absurd e1 hh,λ _=>h⟩,aj rfl ⟨by omega,by omega,_,wc' s4 (i:=6) rfl 0 (by omega),?_⟩⟩⟩;have s5:=s4.quiet (ay.drew w4 []);obtain⟨q6,hq6,_⟩:=fK (St.rd cR s5) (Lu (ws:=ws) (i:=0) (by omega));have nc:∀ i,i+2<ws.length->w4.drew.cell? (Addr.add q6 (i*1))=some (iv (nV ws i)):=λ i hi=>by
     obtain⟨q',hq',hc'⟩:=fK (St.rd cR s5) (Lu (ws:=ws) hi);rw[hq6] at hq'; cases hq'; exact hc'
    have w1c:=wc' s5 (i:=6) rfl 1 (by omega);have z1:=hg.l1; have z2:=hg.l2; have z3:=hg.l3; have z4:=hg.l4;rw[iI,iI,iI,iI,iI]
    by_cases g1:ws.getD 0 []=zY
    ·have hw6:ws.length=6:=by unfold jy at h2; rw[if_pos g1] at h2; omega
     have eM:Ay S ws={ S with ps:=S.ps++[⟨ws.getD 1 [],nV ws 0,nV ws 1,nV ws 2,nV ws 3⟩] }:=by rw[Ay,if_pos g1]
     refine cT (beq_iff_eq.2 g1) ⟨_,_,_,s5.ag 1 rfl 0,aj rfl ⟨by omega,by omega,_,w1c,aj hq6 ⟨by omega,by omega,_,nc 0 (by omega),aj hq6 ⟨by omega,by omega,_,nc 1 (by omega),aj hq6 ⟨by omega,by omega,_,nc 2 (by omega),aj hq6 ⟨by omega,by omega,_,nc 3 (by omega),?_⟩⟩⟩⟩⟩⟩;refine s5.ax (⟨ws.getD 1 [],nV ws 0,nV ws 1,nV ws 2,nV ws 3⟩:Pr).cells.toArray λ r1 w6 s6=>⟨s6.ag 2 rfl 0,?_⟩;refine cS (l2:=[(⟨ws.getD 1 [],nV ws 0,nV ws 1,nV ws 2,nV ws 3⟩:Pr)]) TA Pr.len Pr.one (s6.out 3 rfl) (gR (s6.cellsIn 0 rfl) rfl) (by simp; omega) (by simp; omega) λ a8 c8 w7 s7=>?_;have s8:=s7.back (i:=3) (by show 3<8; decide);refine s8.aK 2 rfl (j:=0) (by show 0<4; decide) rfl λ w8 s9=>⟨{ S with ps:=S.ps++[⟨ws.getD 1 [],nV ws 0,nV ws 1,nV ws 2,nV ws 3⟩],a1:=a8,c1:=c8 },by rw[eM]; rfl,s9.av [2,3,4,5,6,7]⟩
    refine cF (beq_eq_false_iff_ne.2 g1) ?_
    by_cases g2:ws.getD 0 []=zX
    ·have hw6:ws.length=5:=by unfold jy at h2; rw[if_neg g1,if_pos g2] at h2; omega
     have eM:Ay S ws={ S with bd:=S.bd++[⟨ws.getD 1 [],nV ws 0,nV ws 1,nV ws 2⟩] }:=by rw[Ay,if_neg g1,if_pos g2]
     refine cT (beq_iff_eq.2 g2) ⟨_,_,_,s5.ag 1 rfl 1,aj rfl ⟨by omega,by omega,_,w1c,aj hq6 ⟨by omega,by omega,_,nc 0 (by omega),aj hq6 ⟨by omega,by omega,_,nc 1 (by omega),aj hq6 ⟨by omega,by omega,_,nc 2 (by omega),?_⟩⟩⟩⟩⟩;refine s5.ax (⟨ws.getD 1 [],nV ws 0,nV ws 1,nV ws 2⟩:Br).cells.toArray λ r1 w6 s6=>⟨s6.ag 2 rfl 1,?_⟩;refine cS (l2:=[(⟨ws.getD 1 [],nV ws 0,nV ws 1,nV ws 2⟩:Br)]) Tv Br.len Br.one (s6.out 4 rfl) (gR (s6.cellsIn 0 rfl) rfl) (by simp; omega) (by simp; omega) λ a8 c8 w7 s7=>?_;have s8:=s7.back (i:=4) (by show 4<8; decide);refine s8.aK 2 rfl (j:=1) (by show 1<4; decide) rfl λ w8 s9=>⟨{ S with bd:=S.bd++[⟨ws.getD 1 [],nV ws 0,nV ws 1,nV ws 2⟩],a2:=a8,c2:=c8 },by rw[eM]; rfl,s9.av [2,3,4,5,6,7]⟩
    refine cF (beq_eq_false_iff_ne.2 g2) ?_
    by_cases g3:ws.getD 0 []=xT
    ·have hw6:ws.length=4:=by unfold jy at h2; rw[if_neg g1,if_neg g2,if_pos (.inl g3)] at h2; omega
     have eM:Ay S ws={ S with cp:=S.cp++[⟨(cE S (ws.getD 0 []) (ws.getD 1 [])).1,nV ws 0,nV ws 1⟩] }:=by rw[Ay,if_neg g1,if_neg g2,if_pos g3]
     refine cT (beq_iff_eq.2 g3) ⟨_,_,_,s5.ag 1 rfl 2,aj hq6 ⟨by omega,by omega,_,nc 0 (by omega),aj hq6 ⟨by omega,by omega,_,nc 1 (by omega),?_⟩⟩⟩;refine s5.ax (⟨(cE S (ws.getD 0 []) (ws.getD 1 [])).1,nV ws 0,nV ws 1⟩:T3).cells.toArray λ r1 w6 s6=>⟨s6.ag 2 rfl 2,?_⟩;refine cS (l2:=[(⟨(cE S (ws.getD 0 []) (ws.getD 1 [])).1,nV ws 0,nV ws 1⟩:T3)]) Tx T3.len T3.one (s6.out 5 rfl) (gR (s6.cellsIn 0 rfl) rfl) (by simp; omega) (by simp; omega) λ a8 c8 w7 s7=>?_;have s8:=s7.back (i:=5) (by show 5<8; decide);refine s8.aK 2 rfl (j:=2) (by show 2<4; decide) rfl λ w8 s9=>⟨{ S with cp:=S.cp++[⟨(cE S (ws.getD 0 []) (ws.getD 1 [])).1,nV ws 0,nV ws 1⟩],a3:=a8,c3:=c8 },by rw[eM]; rfl,s9.av [2,3,4,5,6,7]⟩
    refine cF (beq_eq_false_iff_ne.2 g3) ?_
    by_cases g4:ws.getD 0 []=xS
    ·have hw6:ws.length=4:=by unfold jy at h2; rw[if_neg g1,if_neg g2,if_pos (.inr g4)] at h2; omega
     have eM:Ay S ws={ S with sa:=S.sa++[⟨(cE S (ws.getD 0 []) (ws.getD 1 [])).1,nV ws 0,nV ws 1⟩] }:=by rw[Ay,if_neg g1,if_neg g2,if_neg g3,if_pos g4]
     refine cT (beq_iff_eq.2 g4) ⟨_,_,_,s5.ag 1 rfl 3,aj hq6 ⟨by omega,by omega,_,nc 0 (by omega),aj hq6 ⟨by omega,by omega,_,nc 1 (by omega),?_⟩⟩⟩;refine s5.ax (⟨(cE S (ws.getD 0 []) (ws.getD 1 [])).1,nV ws 0,nV ws 1⟩:T3).cells.toArray λ r1 w6 s6=>⟨s6.ag 2 rfl 3,?_⟩;refine cS (l2:=[(⟨(cE S (ws.getD 0 []) (ws.getD 1 [])).1,nV ws 0,nV ws 1⟩:T3)]) Tu T3.len T3.one (s6.out 6 rfl) (gR (s6.cellsIn 0 rfl) rfl) (by simp; omega) (by simp; omega) λ a8 c8 w7 s7=>?_;have s8:=s7.back (i:=6) (by show 6<8; decide);refine s8.aK 2 rfl (j:=3) (by show 3<4; decide) rfl λ w8 s9=>⟨{ S with sa:=S.sa++[⟨(cE S (ws.getD 0 []) (ws.getD 1 [])).1,nV ws 0,nV ws 1⟩],a4:=a8,c4:=c8 },by rw[eM]; rfl,s9.av [2,3,4,5,6,7]⟩
    ·exact cF (beq_eq_false_iff_ne.2 g4) ⟨S,by rw[Ay,if_neg g1,if_neg g2,if_neg g3,if_neg g4],s4.second⟩
  ·rw[if_pos h3] at e1;exact cT (by simpa using h3) (bad h3 e1 s3)
 ·exact cF (by simpa using h2) (bad (by decide) (by rw[Bt,if_neg h0,if_pos h2]) s)
theorem By(sep:ByteArray):∀ (k:Nat) (s:ByteArray),∀ x∈Lib.splitB sep 0 k s,x.size<=s.size
 | 0,s,x,hx=>by rw[Lib.splitB_zero,List.mem_singleton] at hx; rw[hx]; exact Nat.le_refl _
 | k+1,s,x,hx=>by
  rw[Lib.splitB] at hx
  split at hx
  ·rw[List.mem_singleton] at hx; rw[hx]; exact Nat.le_refl _
  ·rcases List.mem_cons.1 hx with rfl|hx
   ·rw[ByteArray.size_extract]; omega
   ·have:=By sep k _ x hx;rw[ByteArray.size_extract] at this;omega
theorem BC{c:UInt8}{s x:List UInt8}(hx:x∈aR c s):x.length<=s.length:=by
 obtain⟨b,hb,rfl⟩:=List.mem_map.1 hx;have:=By _ _ _ b hb;rw[eH] at this;exact this
theorem Gz(c:UInt8)(s:List UInt8):1<=(aR c s).length:=by rw[mL]; omega
def cL:Se:=⟨[],[],[],[],none,0,none,0,none,0,none,0⟩
def bX:Se->List (List UInt8)->Se×Int
 | S,[]=>(S,0)
 | S,l :: ls=>if l=[] then bX S ls else if Bt S (aR 32 l)≠0 then (cL,Bt S (aR 32 l)) else bX (Ay S (aR 32 l)) ls
def tM(t:List UInt8):Int:=if 4000<t.length then 3 else if (bX cL (aR 10 t)).2≠0 then (bX cL (aR 10 t)).2 else vp (bX cL (aR 10 t)).1
def o5(t:List UInt8):Se:=(bX cL (aR 10 t)).1
theorem RG{S S' : Se}(e:S'.er=S.er)(ws:List (List UInt8)):Bt S' ws=Bt S ws:=by
 have:∀ S:Se,Bt S ws=Bt S.er ws:=λ _=>rfl;rw[this S',e,<- this]
theorem RH{S S' : Se}(e:S'.er=S.er)(ws:List (List UInt8)):(Ay S' ws).er=(Ay S ws).er:=by
 have:∀ S:Se,(Ay S ws).er=(Ay S.er ws).er:=λ S=>by
  unfold Ay
  split
  ·rfl
  ·split
   ·rfl
   ·split
    ·rfl
    ·split<;>rfl
 rw[this S',e,<- this]
theorem RR{S S' : Se}(e:S'.er=S.er):vp S' = vp S:=by
 have:∀ S:Se,vp S=vp S.er:=λ _=>rfl;rw[this S',e,<- this]
theorem CJ:∀ {l:List (List UInt8)} {S S' : Se},S'.er=S.er->(bX S' l).1.er=(bX S l).1.er/\(bX S' l).2=(bX S l).2
 | [],_,_,e=>⟨e,rfl⟩
 | x :: l,S,S',e=>by
  rw[bX,bX,RG e]
  split
  ·exact CJ e
  ·split
   ·exact⟨rfl,rfl⟩
   ·exact CJ (RH e _)
theorem MU(w:World):cL.In w:=⟨λ i p h=>by simp[cL] at h,λ i p h=>by simp[cL] at h,λ i p h=>by simp[cL] at h,λ i p h=>by simp[cL] at h,Nat.le_refl _,Nat.le_refl _,Nat.le_refl _,Nat.le_refl _⟩
theorem Mm(w:World)(t:List UInt8)(ht:t.length<=80000):CP 109 #[sv t] w (λ r w'=>∃ (S' : Se) (i:Int),r=.tuple #[.agg S'.arr,iv i,iv (tM t)]/\St w w' (held S'.In)/\(tM t=0->S'.er=(o5 t).er/\S'.Ok)):=by
 refine zG ?_;unfold v8;refine(St.start w).one.ax cL.arr λ r1 w1 s1=>?_;have bad:∀ {k i:Int} {w' : World} {m:List aC} {j:Nat},St w w' (Sep m)->m[j]?=some (ai r1 cL.arr 27)->k≠0->tM t=k ->
   aL ⟨r1,0,none⟩ 0 cL.arr.toList w' λ w3=>∃ (a1:OA) (l1 c1:Nat) (a2:OA) (l2 c2:Nat) (a3:OA) (l3 c3:Nat) (a4:OA) (l4 c4:Nat),af w3 ⟨r1,0,none⟩ 0 [.slice a1 l1 c1,.slice a2 l2 c2,.slice a3 l3 c3,.slice a4 l4 c4] /\
    ∃ (S' : Se) (i' : Int),Value.tuple #[.agg #[.slice a1 l1 c1,.slice a2 l2 c2,.slice a3 l3 c3,.slice a4 l4 c4],iv i,iv k]=.tuple #[.agg S'.arr,iv i',iv (tM t)]/\St w w3 (held S'.In)/\(tM t=0->S'.er=(o5 t).er/\S'.Ok):=λ {k i w' m j} s e hk hp =>
  s.az j e cL.arr.toList rfl (by simp[cL,Se.arr,Value.oneCell']) λ w3 s3=>⟨_,_,_,_,_,_,_,_,_,_,_,_,s3.cellsIn (cs:=cL.arr) (T:=27) j (List.getElem?_set_self (dS e)),cL,i,by rw[hp]; rfl,((St.start' s3.au).one.vQ MU).first,λ h=>absurd (hp.symm.trans h) hk⟩
 by_cases h4:4000<t.length
 ·exact cT (by rw[eH]; exact dT (by omega)) (bad s1 (j:=0) rfl (by decide) (by rw[tM,if_pos h4]))
 refine cF (by rw[eH]; exact dF (by omega)) (s1.ax cL.arr λ r2 w3 s3=>ak (H8 w3 10 t (by omega)) ?_);rintro v w4 ⟨g,rfl,k4⟩;have e0:tM t=if (bX cL (aR 10 t)).2≠0 then (bX cL (aR 10 t)).2 else vp (bX cL (aR 10 t)).1:=by rw[tM,if_neg h4]
 have hll:=BA 10 t;have hls:∀ x∈aR 10 t,x.length<=4000:=λ x hx=>by have:=BC hx; omega
 generalize hL:aR 10 t=L at *;have s4:St w w4 (Sep [bR 9 1 sF (some ⟨g,0,none⟩) L.length L,ai r2 cL.arr 27,ai r1 cL.arr 27,emp]):=s3.and k4.single;have s5:St w w4 (Sep (CX r2 cL++[Sep [bR 9 1 sF (some ⟨g,0,none⟩) L.length L,ai r1 cL.arr 27]])):=by
  have h1:St w w4 (Sep (bR 100 3 T3.cells none 0 [] :: bR 98 3 T3.cells none 0 [] :: bR 96 4 Br.cells none 0 [] :: bR 94 5 Pr.cells none 0 [] :: [bR 9 1 sF (some ⟨g,0,none⟩) L.length L,ai r2 cL.arr 27,ai r1 cL.arr 27,emp])):=(((s4.dP).dP).dP).dP;have h2:=(h1.av [5,3,2,1,0,4,6]).split [_,_,_,_,_];exact St.cat (h2.eqv (bf.right (bf.unit _)))
 let B:aC:=Sep [bR 9 1 sF (some ⟨g,0,none⟩) L.length L,ai r1 cL.arr 27];have Su:gQ B λ w=>cG 1 sF w (some ⟨g,0,none⟩) L:=λ w F ⟨F1,F2,_,h1,_,_⟩=>bB Gs w F1 h1;have sB1:∀ {w' : World} {S:Se},St w w' (Sep (CX r2 S++[B]))->St w w' (Sep (CX r2 S++[bR 9 1 sF (some ⟨g,0,none⟩) L.length L,ai r1 cL.arr 27])):=λ s=>s.dw [_,_,_,_,_];refine⟨_,_,_,rfl,λ i w5 m=>∃ (k:Nat) (S:Se),i=k/\k<=L.length/\m=L.length-k/\wA S k/\(bX S (L.drop k)).1.er=(bX cL L).1.er/\(bX S (L.drop k)).2=(bX cL L).2/\St w w5 (Sep (CX r2 S++[B])),⟨L.length,0,cL,rfl,by omega,by omega,⟨by simp[cL],by simp[cL],by simp[cL],by simp[cL],by simp[cL],by simp[cL]⟩,rfl,rfl,s5⟩,?_⟩;rintro w5 m i ⟨k,S,rfl,hk,hm,hg,p1,p2,s6⟩ -
 by_cases hlt:(k:Int)<(L.length:Int)
 ·have hx:L[k]?=some (L[k]'(by omega)):=gE (by omega);have hdrop:L.drop k=L[k]'(by omega) :: L.drop (k+1):=List.drop_eq_getElem_cons (by omega);generalize L[k]'(by omega)=x at hx hdrop;rw[hdrop,bX] at p1 p2;obtain⟨q,hq,hc⟩:=Gt ((s6.out 5 rfl).first.imp Su) hx
  cases hq
  refine cT (dT hlt) ⟨λ w6=>∃ S' : Se,wA S' (k+1)/\(bX S' (L.drop (k+1))).1.er=(bX cL L).1.er/\(bX S' (L.drop (k+1))).2=(bX cL L).2/\St w w6 (Sep (CX r2 S'++[B])),?_,aj rfl ⟨by omega,by omega,_,hc,?_⟩⟩
  ·rintro w6 ⟨S',h1,h2,h3,s7⟩ -;exact⟨L.length-(k+1),by omega,k+1,S',aB ⟨by omega,by omega⟩,by omega,rfl,h1,h2,h3,s7⟩
  ·by_cases hx0:x=[]
   ·rw[if_pos hx0] at p1 p2;exact cT (by rw[hx0,iI]; rfl) ⟨S,hg.up (by omega),p1,p2,s6⟩
   ·rw[if_neg hx0] at p1 p2;have hxl:=hls x (List.mem_of_getElem? hx);refine cF (by rw[iI,iI]; exact beq_eq_false_iff_ne.2 hx0) (ak (H8 w5 32 x (by omega)) ?_);rintro v w7 ⟨g2,rfl,k7⟩;have s7:St w w7 (Sep (bR 9 1 sF (some ⟨g2,0,none⟩) (aR 32 x).length (aR 32 x) :: (CX r2 S++[B]))):=s6.and k7.single;have hwl:=BA 32 x;have s8:St w w7 (Sep (CX r2 S++[Sep [bR 9 1 sF (some ⟨g2,0,none⟩) (aR 32 x).length (aR 32 x),B]])) :=
     St.cat (((s7.av [1,2,3,4,5,0,6]).split [_,_,_,_,_]).eqv (bf.right (bf.unit _)))
    refine⟨_,_,_,rfl,ak (RL s8 (λ w F ⟨F1,F2,_,h1,_,_⟩=>bB Gs w F1 h1) (Nat.le_refl _) (Gz 32 x) (by omega) (λ y hy=>by have:=BC hy; omega) hg (by omega)) ?_⟩;rintro v w8 ⟨rfl,ko,ok⟩;refine⟨_,rfl,?_⟩
    by_cases hr:Bt S (aR 32 x)=0
    ·rw[if_neg (λ h=>h hr)] at p1 p2;obtain⟨S',eS,s9⟩:=ok hr;have h1:=CJ (l:=L.drop (k+1)) eS;refine cF (by simpa using hr) ⟨S',(RI hg _).er eS,h1.1.trans p1,h1.2.trans p2,?_⟩;have s10:=s9.dw [_,_,_,_,_];exact s10.av [0,1,2,3,4,6]
    ·rw[if_pos hr] at p1 p2;have p2:Bt S (aR 32 x)=(bX cL L).2:=p2;have s9:=sB1 (((ko hr).dw [_,_,_,_,_]).av [0,1,2,3,4,6]);exact cT (by simpa using hr) (bad s9 (j:=6) rfl hr (by rw[e0,if_pos (by rw[<- p2]; exact hr),<- p2]))
 ·obtain rfl:k=L.length:=by omega
  rw[List.drop_length,bX] at p1 p2;have p1:S.er=(bX cL L).1.er:=p1;have p2:(0:Int)=(bX cL L).2:=p2;rw[if_neg (λ h=>h p2.symm),<- RR p1] at e0;have s7:=sB1 s6;have sI:S.In w5:=(show St w w5 (Sep (CX r2 S)) from s7.av [0,1,2,3,4]).imp (Md hg);refine cF (dF hlt) ⟨_,_,_,_,_,_,_,_,_,_,_,_,s7.cellsIn 0 rfl,ak (lF sI) ?_⟩;rintro v w10 ⟨⟨rfl,hok⟩,c10⟩;have s8:=s7.quiet c10;refine⟨_,rfl,?_⟩
  by_cases h0:vp S=0
  ·refine cF (by simpa using h0) ⟨_,_,_,_,_,_,_,_,_,_,_,_,s8.cellsIn 0 rfl,s8.az 6 rfl S.arr.toList rfl (by simp[Se.arr,Value.oneCell']) λ w12 s9=>⟨_,_,_,_,_,_,_,_,_,_,_,_,s9.cellsIn (cs:=S.arr) 6 rfl,S,0,by rw[e0,h0]; rfl,?_,λ _=>⟨by rw[o5,hL]; exact p1,hok.1 h0⟩⟩⟩;exact((show St w w12 (Sep (CX r2 S)) from s9.av [0,1,2,3,4]).held (Md hg))
  ·exact cT (by simpa using h0) (bad s8 (j:=6) rfl h0 e0)
def nR(o:Po):Sx:={ o:=o,ph:=0,s:=cL,k:=none,bd:=[cO,cO,cO,cO,cO,cO,cO,cO],dec:=0,cnt:=0,dig:=0 }
theorem R2(w:World)(o:Po):CP 8 #[o.v] w (λ r w'=>∃ b,r=.pointer (some ⟨b,0,none⟩)/\St w w' (Sep [ai b (nR o).cells.toArray 86])):=by
 refine C4 ?_;unfold BD;exact(St.start w).one.ax o.cells.toArray λ r1 w1 s1=>⟨_,_,_,_,s1.cellsIn 0 rfl,s1.ax (nR o).cells.toArray λ r2 w2 s2=>⟨r2,rfl,s2.av [0]⟩⟩
theorem lP{S:Sx}(h:S.bd.length=8):S.cells.toArray[9]?=some (.pointer S.k):=by
 obtain⟨o,ph,s,k,bd,dec,cnt,dig⟩:=S;obtain⟨b0,b1,b2,b3,b4,b5,b6,b7,rfl⟩:=bH h;rfl
section
variable {w0 w:World} {b g:Nat} {S:Sx} {C:Ck} {B:aC}
def dr(b:Nat)(S:Sx)(g:Nat)(C:Ck):List aC:=ai b S.cells.toArray 86 :: bM g C
theorem St.mA{m:List aC}(s:St w0 w (Sep (bM g C++m))):St w0 w (Sep (bM g C++[Sep m])):=St.cat ((s.split (bM g C)).eqv (bf.right (bf.unit _)))
theorem Mo(s:St w0 w (Sep (dr b S g C++[B])))(h:S.bd.length=8)(hk:S.k=some ⟨g,0,none⟩)(hC:C.Ok)(e:Ev) :
  CP 71 #[.pointer (some ⟨b,0,none⟩),e.v] w (λ r w'=>∃ (x:Int) (S' : Sx) (C' : Ck),r=iv x/\S'.bd.length=8/\S'.k=S.k/\x=(if C.ov then 10 else 0)/\(C.ov=false->C'.er=(if e.kind=3 then bz C else ud C).er/\S' = if (if e.kind=3 then bE C else true) then { S with ph:=2 } else S)/\St w0 w' (Sep (dr b S' g C'++[B]))):=by
 refine pK (u1:=e.want) ?_;unfold j6;refine s.ax e.cells.toArray λ r1 w1 s1=>?_;let Bf:aC:=Sep [ai r1 e.cells.toArray 47,ai b S.cells.toArray 86,B];have s2:St w0 w1 (Sep (bM g C++[Bf])):=St.mA (m:=[_,_,_]) (s1.av [2,3,4,5,6,7,0,1,8]);have cl:w1.cell? ⟨b,9,none⟩=some (.pointer (some ⟨g,0,none⟩)):=by rw[s1.ag 1 rfl,lP h,hk]
 have unf:∀ {w' : World} {C' : Ck},St w0 w' (Sep (bM g C'++[Bf]))->St w0 w' (Sep (dr b S g C'++[B])):=λ s=>(s.dw [_,_,_,_,_,_]).av [7,0,1,2,3,4,5,8];refine⟨λ o x w2=>∃ C' : Ck,x=(if C.ov then 10 else 0)/\(C.ov=false->C'.er=(if e.kind=3 then bz C else ud C).er/\o=if e.kind=3 then bE C else true)/\St w0 w2 (Sep (dr b S g C'++[B])),?_,_,s1.ag 0 rfl 0,?_⟩
 ·rintro w2 o x ⟨C',hx,ho,s3⟩ -;refine⟨λ w3=>∃ S' : Sx,S'.bd.length=8/\S'.k=S.k/\S' = (if o then { S with ph:=2 } else S)/\St w0 w3 (Sep (dr b S' g C'++[B])),?_,?_⟩
  ·rintro w3 ⟨S',h8,hk',hS,s4⟩ -;exact⟨x,S',C',rfl,h8,hk',hx,λ hv=>⟨(ho hv).1,by rw[hS,(ho hv).2]⟩,s4⟩
  ·cases o with
   | true =>
    refine cT rfl (s3.aK 0 rfl (j:=4) (by rw[dA h]; omega) rfl λ w4 s4=>⟨{ S with ph:=2 },h,rfl,rfl,?_⟩);rw[EX h] at s4;exact s4
   | false=>exact cF rfl ⟨S,h,rfl,rfl,s3⟩
 ·by_cases h3:e.kind=3
  ·refine cT (by simpa using h3) ⟨_,cl,ak (GZ s2 hC) ?_⟩;rintro v w5 (⟨hv,rfl,s5⟩|⟨hv,rfl,C',eC,s5⟩)
   ·exact⟨_,_,rfl,C,by rw[hv]; rfl,λ h=>(by rw[hv] at h; cases h),unf s5⟩
   ·exact⟨_,_,rfl,C',by rw[hv]; rfl,λ _=>⟨by rw[if_pos h3]; exact eC,by rw[if_pos h3]⟩,unf s5⟩
  ·refine cF (by simpa using h3) ⟨_,cl,ak (R4 s2 hC) ?_⟩;rintro v w5 (⟨hv,rfl,s5⟩|⟨hv,rfl,C',eC,s5⟩)
   ·exact⟨_,rfl,C,by rw[hv]; rfl,λ h=>(by rw[hv] at h; cases h),unf s5⟩
   ·exact⟨_,rfl,C',by rw[hv]; rfl,λ _=>⟨by rw[if_neg h3]; exact eC,by rw[if_neg h3]⟩,unf s5⟩
end
section
variable {w0 w:World} {b g:Nat} {S:Sx} {C:Ck} {B:aC}
theorem JB(s:St w0 w (Sep (dr b S g C++[B])))(h:S.bd.length=8)(hk:S.k=some ⟨g,0,none⟩)(hC:C.Ok){e:Ev}{n:Nat}{y:Br}(hn:e.bidder=n)(hy:C.s.bd[n]?=some y) :
  CP 70 #[.pointer (some ⟨b,0,none⟩),e.v] w (λ r w'=>r=iv (dI C n y e.want)/\St w0 w' (Sep (dr b S g (if dI C n y e.want=0 then gh C n e.want else C)++[B]))):=by
 refine nU (u1:=e.want) ?_;unfold jh;refine s.ax e.cells.toArray λ r1 w1 s1=>?_;have s1':=s1.quiet (ay.drew w1 []);let Bf:aC:=Sep [ai r1 e.cells.toArray 47,ai b S.cells.toArray 86,B];have s2:St w0 w1.drew (Sep (bM g C++[Bf])):=St.mA (m:=[_,_,_]) (s1'.av [2,3,4,5,6,7,0,1,8]);have cl:w1.drew.cell? ⟨b,9,none⟩=some (.pointer (some ⟨g,0,none⟩)):=by rw[s1'.ag 1 rfl,lP h,hk]
 have unf:∀ {w' : World} {C' : Ck},St w0 w' (Sep (bM g C'++[Bf]))->St w0 w' (Sep (dr b S g C'++[B])):=λ s=>(s.dw [_,_,_,_,_,_]).av [7,0,1,2,3,4,5,8];have cb:w1.drew.cell? ⟨r1,1,none⟩=some (iv n):=by rw[<- hn]; exact s1'.ag 0 rfl 1
 refine⟨_,cl,_,cb,e.want,s1'.aF 0 3 rfl rfl,ak (FG s2 hC hy e.want) ?_⟩;rintro v w2 ⟨rfl,s3⟩;refine⟨_,rfl,rfl,unf ?_⟩
 split at s3
 ·rename_i h0; rw[if_pos h0]; exact s3
 ·rename_i h0; rw[if_neg h0]; exact s3
end
section
variable {w0 w:World} {b g:Nat} {S:Sx} {C:Ck} {B:aC}
def gG(S:Sx)(i:Nat):Sx:={ S with bd:=S.bd.set i { S.bd.getD i cO with out:=true } }
theorem Pc(s:St w0 w (Sep (dr b S g C++[B])))(h:S.bd.length=8)(hk:S.k=some ⟨g,0,none⟩)(hC:C.Ok){e:Ev}{i:Nat}(he:e.bidder=i)(hi:i<C.s.bd.length) :
  CP 74 #[.pointer (some ⟨b,0,none⟩),e.v] w (λ r w'=>(C.dp[i]?=some true/\r=iv 10/\St w0 w' (Sep (dr b (bn (gG S i) i) g C++[B])))\/(C.dp[i]?=some false/\r=iv 0/\St w0 w' (Sep (dr b (bn (gG S i) i) g (jK C i)++[B])))):=by
 refine jt (u1:=e.want) ?_;unfold fc;have hi8:i<8:=by have:=hC.s.bd.l2; omega
 have hy:S.bd[i]?=some (S.bd.getD i cO):=by rw[List.getD_eq_getElem?_getD,gE (by omega)]; rfl
 refine s.ax e.cells.toArray λ r1 w1 s1=>?_;have s2:=s1.quiet (ay.drew w1 []);have c1:w1.drew.cell? ⟨r1,1,none⟩=some (iv i):=by rw[<- he]; exact s2.ag 0 rfl 1
 refine⟨_,c1,by omega,by omega,?_⟩;rw[TS,bq];refine s2.aK 1 rfl (j:=10+i*11+10) (by rw[dA h]; omega) rfl λ w2 s3=>?_;rw[Pv h hi8 hy] at s3;have h2:(gG S i).bd.length=8:=by simpa[gG] using h
 have h3:(bn (gG S i) i).bd.length=8:=by simpa[bn] using h2
 have s3:St w0 w2 (Sep (ai r1 e.cells.toArray 47 :: ai b (gG S i).cells.toArray 86 :: (bM g C++[B]))):=s3;have c2:w2.cell? ⟨r1,1,none⟩=some (iv i):=by rw[<- he]; exact s3.ag 0 rfl 1
 refine⟨_,c2,ak (CW (m:=ai r1 e.cells.toArray 47 :: (bM g C++[B])) (s3.av [1,0,2,3,4,5,6,7,8]) h2 hi8) ?_⟩;rintro v w3 ⟨rfl,s4⟩;have s5:=s4.quiet (ay.drew w3 []);let S' : Sx:=bn (gG S i) i;let Bf:aC:=Sep [ai r1 e.cells.toArray 47,ai b S'.cells.toArray 86,B];have s6:St w0 w3.drew (Sep (bM g C++[Bf])):=St.mA (m:=[_,_,_]) (s5.av [2,3,4,5,6,7,1,0,8]);have cl:w3.drew.cell? ⟨b,9,none⟩=some (.pointer (some ⟨g,0,none⟩)):=by
  rw[s5.ag 0 rfl,lP h3];show some (Value.pointer S.k)=_;rw[hk]
 have unf:∀ {w' : World} {C' : Ck},St w0 w' (Sep (bM g C'++[Bf]))->St w0 w' (Sep (dr b S' g C'++[B])):=λ s=>(s.dw [_,_,_,_,_,_]).av [7,0,1,2,3,4,5,8];have c3:w3.drew.cell? ⟨r1,1,none⟩=some (iv i):=by rw[<- he]; exact s5.ag 1 rfl 1
 refine⟨rfl,_,cl,_,c3,ak (QN s6 hC hi) ?_⟩;rintro v w4 (⟨hd,rfl,s7⟩|⟨hd,rfl,s7⟩)
 ·exact⟨_,rfl,.inl ⟨hd,rfl,unf s7⟩⟩
 ·exact⟨_,rfl,.inr ⟨hd,rfl,unf s7⟩⟩
end
section
variable {w0 w:World} {b g:Nat} {S:Sx} {C:Ck} {B:aC}
def bJ(S:Sx):Nat->Sx
 | 0=>S
 | k+1=>bn (bJ S k) k
theorem zC(h:S.bd.length=8):∀ k,(bJ S k).bd.length=8
 | 0=>h
 | k+1=>by have:=zC h k; simpa[bJ,bn] using this
theorem Mn(s:St w0 w (Sep (dr b S g C++[B])))(h:S.bd.length=8)(hk:S.k=some ⟨g,0,none⟩)(hC:C.Ok)(e:Ev) :
  CP 75 #[.pointer (some ⟨b,0,none⟩),e.v] w (λ r w'=>(bU C e.round=true/\r=iv 4/\St w0 w' (Sep (dr b S g C++[B])))\/(bU C e.round=false/\r=iv 0/\∃ C',C'.er=(dV C e.round.toNat).er/\St w0 w' (Sep (dr b { bJ S 8 with ph:=1 } g C'++[B])))):=by
 refine pJ (u1:=e.want) ?_;unfold j5;refine s.ax e.cells.toArray λ r1 w1 s1=>?_;have s2:=s1.quiet (ay.drew w1 []);let Bf:aC:=Sep [ai r1 e.cells.toArray 47,ai b S.cells.toArray 86,B];have s3:St w0 w1.drew (Sep (bM g C++[Bf])):=St.mA (m:=[_,_,_]) (s2.av [2,3,4,5,6,7,0,1,8]);have cl:w1.drew.cell? ⟨b,9,none⟩=some (.pointer (some ⟨g,0,none⟩)):=by rw[s2.ag 1 rfl,lP h,hk]
 have unf:∀ {w' : World} {C' : Ck},St w0 w' (Sep (bM g C'++[Bf]))->St w0 w' (Sep (dr b S g C'++[B])):=λ s=>(s.dw [_,_,_,_,_,_]).av [7,0,1,2,3,4,5,8];refine⟨_,cl,_,s2.ag 0 rfl 2,ak (O3 s3 hC e.round) ?_⟩;rintro v w2 (⟨hr,rfl,s4⟩|⟨hr,rfl,C',eC,s4⟩)
 ·exact⟨_,rfl,cT rfl (.inl ⟨hr,rfl,unf s4⟩)⟩
 ·refine⟨_,rfl,cF rfl ⟨λ i w3 m=>∃ k:Nat,i=k/\k<=8/\m=8-k/\St w0 w3 (Sep (dr b (bJ S k) g C'++[B])),⟨8,0,rfl,by omega,by omega,unf s4⟩,?_⟩⟩;rintro w3 m i ⟨k,rfl,hk8,hm,s5⟩ -;have h5:=zC h k
  by_cases hlt:(k:Int)<8
  ·refine cT (dT hlt) (ak (CW (m:=bM g C'++[B]) s5 h5 (i:=k) (by omega)) ?_);rintro v w4 ⟨rfl,s6⟩;exact⟨rfl,8-(k+1),by omega,k+1,aB ⟨by omega,by omega⟩,by omega,rfl,s6⟩
  ·obtain rfl:k=8:=by omega
   refine cF (dF hlt) (s5.aK 0 rfl (j:=4) (by rw[dA h5]; omega) rfl λ w4 s6=>.inr ⟨hr,rfl,C',eC,?_⟩);rw[EX h5] at s6;exact s6
end
def Bc(F:I6->Int)(b:I6)(v:Int)(c:Ch):Int:=if c.want=b then v else if F c.want+cost c.p b-cost c.p c.want<v then F c.want+cost c.p b-cost c.p c.want else v
def P8(F:I6->Int)(l:List Ch)(b:I6):Int:=l.foldl (Bc F b) 1000000
theorem NV{l:List Ch}(h:∀ c∈l,c.Ok){q:I6}(hq:I6.Le q 4):∀ {v:Int},0<=v/\v<=24000000->0<=l.foldl (wN q) v/\l.foldl (wN q) v<=24000000:=by
 induction l with
 | nil=>intro v hv; exact hv
 | cons c l ih =>
  intro v hv;rw[List.foldl_cons];refine ih (λ c hc=>h c (by simp[hc])) ?_;have:=mq (h c (by simp)).p hq;unfold wN
  split
  ·split<;>omega
  ·exact hv
theorem NU{l:List Of}(h:∀ x∈l,x.v<=1000000){q:I6}:∀ {v:Int},0<=v/\v<=24000000->0<=l.foldl (Ci q) v/\l.foldl (Ci q) v<=24000000:=by
 induction l with
 | nil=>intro v hv; exact hv
 | cons c l ih =>
  intro v hv;rw[List.foldl_cons];refine ih (λ c hc=>h c (by simp[hc])) ?_;have:=h c (by simp);unfold Ci
  split
  ·split<;>omega
  ·exact hv
theorem NW{l:List Ch}{bids:List Of}(h:∀ c∈l,c.Ok)(hb:∀ x∈bids,x.v<=1000000){q:I6}(hq:I6.Le q 4):0<=KL l bids q/\KL l bids q<=24000000:=NU hb (NV h hq (by decide))
theorem Rm{w:World}{a:OA}{c:Nat}{l:List Ch}(hr:Dm w a l)(hl:l.length<=1000)(ho:∀ c∈l,c.Ok){F:I6->Int}(hF:∀ q,I6.Le q 4->0<=F q/\F q<=24000000){v:Value}(hv:∀ (w' : World) (q:I6) (R:Ending->World->Prop),ay w w' []->I6.Le q 4->(∀ w'',ay w' w'' []->R (.returned (iv (F q))) w'')->cU prog v #[.agg q.vs.toArray] w' R){b:I6}(hb:I6.Le b 4) :
  CP 129 #[.slice a l.length c,v,.agg b.vs.toArray] w (λ r w'=>r=iv (P8 F l b)/\ay w w' []):=by
 refine zq ?_;unfold vZ;refine(St.start w).one.ax b.vs.toArray λ r1 w1 s1=>?_;let M:List aC:=[ai r1 b.vs.toArray 44,emp];refine⟨λ n i w2 m=>∃ k:Nat,i=k/\k<=l.length/\m=l.length-k/\n=(l.take k).foldl (Bc F b) 1000000/\St w w2 (Sep M),⟨l.length,0,rfl,by omega,by omega,rfl,s1⟩,?_⟩;rintro w2 m n i ⟨k,rfl,hk,hm,rfl,s2⟩ -
 by_cases hlt:(k:Int)<(l.length:Int)
 ·have hx:l[k]?=some (l[k]'(by omega)):=gE (by omega);generalize l[k]'(by omega)=y at hx;obtain⟨p,hp,hcl⟩:=(hr.au s2.au).at hx;have oy:=ho y (List.mem_of_getElem? hx);have ef:=pY (f:=Bc F b) (a:=1000000) hx;refine cT (dT hlt) ⟨λ n w3=>n=(l.take (k+1)).foldl (Bc F b) 1000000/\St w w3 (Sep M),?_,aj hp ⟨by omega,by omega,y.p,y.want,hcl,s2.ax nD.cells.toArray λ r2 w4 s4=>s4.az 0 rfl y.cells rfl y.one λ w5 s5=>⟨y.want,bY s5 0 rfl,b,s5.cellsIn 1 rfl,?_⟩⟩⟩
  ·rintro w3 n ⟨rfl,s3⟩ -;exact⟨l.length-(k+1),by omega,k+1,aB ⟨by omega,by omega⟩,by omega,rfl,rfl,s3⟩
  rw[I6.beq_eq]
  by_cases hw:y.want=b
  ·exact cF (by rw[dT hw]; rfl) ⟨by rw[ef,Bc,if_pos hw],s5.av [1,2]⟩
  ·have s6:=s5.quiet (ay.drew w5 []);refine cT (by rw[dF hw]; rfl) ⟨y.want,bY s6 0 rfl,y.p,wF s6 0 rfl,b,s6.cellsIn 1 rfl,y.p,wF s6 0 rfl,y.want,bY s6 0 rfl,hv _ y.want _ s6.au oy.w λ w7 c7=>?_⟩;have s7:=s6.quiet c7;refine⟨_,rfl,bY s7 0 rfl,wF s7 0 rfl,s7.cellsIn 1 rfl,wF s7 0 rfl,ak (gr w7 oy.p hb) ?_⟩;rintro x w8 ⟨rfl,c8⟩;have s8:=s7.quiet c8;refine⟨_,rfl,bY s8 0 rfl,wF s8 0 rfl,ak (gr w8 oy.p oy.w) ?_⟩;rintro x w9 ⟨rfl,c9⟩;have h1:=hF y.want oy.w;have h2:=mq oy.p hb;have h3:=mq oy.p oy.w;refine⟨_,rfl,?_,(s8.quiet c9).av [1,2]⟩;rw[ef,Bc,if_neg hw,aB (n:=F y.want+cost y.p b) ⟨by omega,by omega⟩,aB ⟨by omega,by omega⟩]
 ·obtain rfl:l.length=k:=by omega
  rw[List.take_length];exact cF (dF hlt) ⟨rfl,s2.au⟩
theorem IS(w:World)(a:OA)(n c:Nat):CP 163 #[.slice a n c,.agg #[.slice none 0 0,.slice none 0 0]] w (λ r w'=>r=.bool true/\ay w w' []):=by
 refine rS ?_;unfold nr;refine(St.start w).one.ax #[.slice none 0 0,.slice none 0 0] λ r1 w1 s1=>⟨λ b w2=>b=false/\w2=w1,?_,_,_,_,s1.ag 0 rfl 0,cF rfl ⟨_,_,_,s1.ag 0 rfl 0,rfl,rfl⟩⟩;rintro w2 _ ⟨rfl,rfl⟩ -;refine cF rfl ⟨_,_,_,s1.ag 0 rfl 0,λ i w3 m=>i=0/\w3=w2,⟨0,rfl,rfl⟩,?_⟩;rintro w3 m i ⟨rfl,rfl⟩ -;refine cF rfl ⟨_,_,_,s1.ag 0 rfl 1,λ i w4 m=>i=0/\w4=w3,⟨0,rfl,rfl⟩,?_⟩;rintro w4 m i ⟨rfl,rfl⟩ -;exact cF rfl ⟨rfl,s1.au⟩
theorem JN{w:World}{a:OA}{c:Nat}{x:Ch}(hr:Dm w a [x])(ho:x.Ok):CP 126 #[.slice a 1 c,.agg #[.slice none 0 0,.slice none 0 0]] w (λ r w'=>r=iv 13/\ay w w' []):=by
 refine rR ?_;unfold nq;refine(St.start w).one.ax #[.slice none 0 0,.slice none 0 0] λ r1 w1 s1=>ak (yb (l:=[x]) (k:=c) (hr.au s1.au) (by simp)) ?_;rintro v w2 ⟨rfl,c2⟩;have s2:=s1.quiet c2;have hv:[x].all uE=true:=x9.2 λ c hc=>by rw[List.mem_singleton.1 hc]; exact ho
 refine⟨_,rfl,cF (by rw[hv]; rfl) ⟨_,_,_,_,_,_,s2.cellsIn 0 rfl,ak (IS w2 a 1 c) ?_⟩⟩;rintro v w3 ⟨rfl,c3⟩;have s3:=s2.quiet c3;refine⟨_,rfl,cF rfl ⟨_,_,_,s3.ag 0 rfl 0,cT rfl ⟨_,_,_,s3.ag 0 rfl 1,ak (K:=λ r w'=>r=.bool false/\w' = w3) (pg ?_) ?_⟩⟩⟩
 ·unfold jW;exact cT rfl ⟨rfl,rfl⟩
 ·rintro v w4 ⟨rfl,rfl⟩;exact⟨_,rfl,cT rfl ⟨rfl,s3.au⟩⟩
theorem Pm{w:World}{a:OA}{c:Nat}{l:List Ch}(hr:Dm w a l)(hl:l.length<=1000)(ho:∀ c∈l,c.Ok):CP 93 #[.slice a l.length c] w (λ r w'=>r=.bool true/\ay w w' []):=by
 refine wY ?_;unfold tO;refine⟨λ i w2 m=>∃ k:Nat,i=k/\k<=l.length/\m=l.length-k/\ay w w2 [],⟨l.length,0,rfl,by omega,by omega,ay.refl _ _⟩,?_⟩;rintro w2 m i ⟨k,rfl,hk,hm,c2⟩ -
 by_cases hlt:(k:Int)<(l.length:Int)
 ·have hx:l[k]?=some (l[k]'(by omega)):=gE (by omega);generalize l[k]'(by omega)=y at hx;obtain⟨p,hp,hcl⟩:=(hr.au c2).at hx;refine cT (dT hlt) (aj hp ⟨by omega,by omega,y.p,y.want,hcl,(St.start' c2).one.ax nD.cells.toArray λ r1 w3 s3=>s3.az 0 rfl y.cells rfl y.one λ w4 s4=>⟨y.p,y.want,s4.cellsIn 0 rfl,s4.ax y.cells.toArray λ r2 w5 s5=>?_⟩⟩);have h1:Dm w5 (some ⟨r2,0,none⟩) [y]:=λ i z hz=>by
   obtain⟨rfl,rfl⟩:i=0/\z=y:=by
    cases i with
    | zero=>simp at hz; exact⟨rfl,hz.symm⟩
    | succ i=>simp at hz
   exact⟨_,_,rfl,by rw[Nat.zero_mul,sy]; exact s5.cellsIn 0 rfl,rfl,rfl⟩
  refine ak (JN (c:=1) h1 (ho y (List.mem_of_getElem? hx))) ?_;rintro v w6 ⟨rfl,c6⟩;exact⟨_,rfl,cF rfl ⟨l.length-(k+1),by omega,k+1,aB ⟨by omega,by omega⟩,by omega,rfl,(s5.quiet c6).au⟩⟩
 ·exact cF (dF hlt) ⟨rfl,c2⟩
def Bj(l:List Ch)(bids:List Of)(x:Of):Bool:=decide (x.v>P8 (KL l bids) l x.want)
def Gi(l:List Ch)(bids:List Of):Int:=if bids.all y9 then (if bids.any (Bj l bids) then 16 else 0) else 4
def IT{α:Type}(p:α->Bool):List α->Nat
 | []=>0
 | x :: l=>if p x=true then 0 else IT p l+1
theorem Cn{α:Type}{p:α->Bool}:∀ {l:List α} {k:Nat} {x:α},(l.take k).any p=false->l[k]?=some x->p x=true->IT p l=k
 | y :: l,0,x,_,hx,h=>by cases hx; rw[IT,if_pos h]
 | y :: l,k+1,x,ha,hx,h=>by
  rw[List.take_succ_cons,List.any_cons,Bool.or_eq_false_iff] at ha;rw[IT,if_neg (by rw[ha.1]; decide),Cn ha.2 (by simpa using hx) h]
def Gj(l:List Ch)(bids:List Of):Nat:=if bids.all y9 then (if bids.any (Bj l bids) then IT (Bj l bids) bids else 0) else IT (λ x=>!y9 x) bids
theorem EM{w:World}{a1 a2:OA}{c1 c2:Nat}{l:List Ch}{bids:List Of}(hr:Dm w a1 l)(hl:l.length<=1000)(ho:∀ c∈l,c.Ok)(hb:Fa w a2 bids)(hbl:bids.length<=100000) :
  CP 95 #[.slice a1 l.length c1,.slice a2 bids.length c2] w (λ r w'=>r=.tuple #[iv (Gj l bids),iv (Gi l bids)]/\ay w w' []):=by
 refine wX ?_;unfold tN;refine ak (Pm hr hl ho) ?_;rintro v w1 ⟨rfl,d1⟩;refine⟨_,rfl,cF rfl ⟨λ i w2 m=>∃ k:Nat,i=k/\k<=bids.length/\m=bids.length-k/\(bids.take k).all y9=true/\ay w w2 [],⟨bids.length,0,rfl,by omega,by omega,rfl,d1⟩,?_⟩⟩;rintro w2 m i ⟨k,rfl,hk,hm,ha,d2⟩ -
 by_cases hlt:(k:Int)<(bids.length:Int)
 ·have hx:bids[k]?=some (bids[k]'(by omega)):=gE (by omega);generalize bids[k]'(by omega)=y at hx;obtain⟨p,hp,hcl⟩:=(hb.au d2).at hx;refine cT (dT hlt) (aj hp ⟨by omega,by omega,_,y.want,_,hcl,(St.start' d2).one.ax PG.cells.toArray λ r1 w3 s3=>s3.az 0 rfl y.cells rfl y.one λ w4 s4=>⟨_,y.want,_,s4.cellsIn 0 rfl,ak (Jf w4 y) ?_⟩⟩);rintro v w5 ⟨rfl,c5⟩;refine⟨_,rfl,?_⟩
  cases hy:y9 y with
  | false =>
   have:bids.all y9=false:=List.all_eq_false.2 ⟨y,List.mem_of_getElem? hx,by simp[hy]⟩;have e2:Gj l bids=k:=by
    rw[Gj,this,if_neg (by decide)];refine Cn ?_ hx (by rw[hy]; rfl);rw[List.any_eq_false];intro z hz;rw[List.all_eq_true.1 ha z hz]; decide
   exact cT rfl ⟨by rw[e2,Gi,this]; rfl,(s4.quiet c5).au⟩
  | true =>
   refine cF rfl ⟨bids.length-(k+1),by omega,k+1,aB ⟨by omega,by omega⟩,by omega,rfl,?_,(s4.quiet c5).au⟩;rw[aG hx,List.all_append,ha]; simp[hy]
 ·obtain rfl:bids.length=k:=by omega
  rw[List.take_length] at ha;have e0:Gi l bids=if bids.any (Bj l bids) then 16 else 0:=by rw[Gi,if_pos ha]
  have hok:∀ x∈bids,I6.Le x.want 4/\x.v<=1000000:=λ x hx=>by
   have:=List.all_eq_true.1 ha x hx;unfold y9 at this;simp only[Bool.and_eq_true,decide_eq_true_eq] at this;exact⟨JT this.1,this.2.2.2⟩
  refine cF (dF hlt) (ak (K:=λ r w'=>∃ r1 r2,r=.func (.func 166) #[] #[pt r1,pt r2]/\St w w' (Sep [ai r2 #[.slice a2 bids.length c2] 62,ai r1 #[.slice a1 l.length c1] 121,emp])) (vh ?_) ?_)
  ·unfold qU;exact(St.start' d2).one.ax _ λ r1 w3 s3=>s3.ax _ λ r2 w4 s4=>⟨r1,r2,rfl,s4⟩
  rintro v w6 ⟨r1,r2,rfl,s6⟩;refine⟨_,rfl,λ i w7 m=>∃ k:Nat,i=k/\k<=bids.length/\m=bids.length-k/\(bids.take k).any (Bj l bids)=false/\St w w7 (Sep [ai r2 #[.slice a2 bids.length c2] 62,ai r1 #[.slice a1 l.length c1] 121,emp]),⟨bids.length,0,rfl,by omega,by omega,rfl,s6⟩,?_⟩;clear hlt hm hk d2;rintro w7 m i ⟨k,rfl,hk,hm,hany,s7⟩ -
  by_cases hlt:(k:Int)<(bids.length:Int)
  ·have hx:bids[k]?=some (bids[k]'(by omega)):=gE (by omega);generalize bids[k]'(by omega)=y at hx;obtain⟨p,hp,hcl⟩:=(hb.au s7.au).at hx;refine cT (dT hlt) (aj hp ⟨by omega,by omega,_,y.want,_,hcl,s7.ax PG.cells.toArray λ r3 w8 s8=>s8.az 0 rfl y.cells rfl y.one λ w9 s9=>?_⟩);have s10:=s9.quiet (ay.drew w9 []);refine⟨_,s10.ag 0 rfl 7,y.want,s10.aF 0 1 rfl rfl,ak (Rm (F:=KL l bids) (hr.au s10.au) hl ho (λ q hq=>NW ho (λ x hx=>(hok x hx).2) hq) ?_ (hok y (List.mem_of_getElem? hx)).1) ?_⟩
   ·intro w' q R hc _ kk;refine bx (by kernel_rfl) (ak (NX (hr.au (s10.quiet hc).au) hl ho (hb.au (s10.quiet hc).au) hbl ((s10.quiet hc).ag 2 rfl 0) ((s10.quiet hc).ag 1 rfl 0) q) ?_);rintro r w'' ⟨rfl,h⟩; exact kk w'' h
   ·rintro v w10 ⟨rfl,c10⟩;have s11:=s10.quiet c10;refine⟨_,rfl,s11.ag 0 rfl 7,?_⟩
    cases ho:Bj l bids y with
    | true =>
     have e2:Gj l bids=k:=by rw[Gj,if_pos ha,iq hx ho,if_pos rfl]; exact Cn hany hx ho
     exact cT ho ⟨by rw[e2,e0,iq hx ho]; rfl,s11.au⟩
    | false=>exact cF ho ⟨bids.length-(k+1),by omega,k+1,aB ⟨by omega,by omega⟩,by omega,rfl,fS hany hx ho,s11.av [1,2,3]⟩
  ·obtain rfl:bids.length=k:=by omega
   rw[List.take_length] at hany;have e2:Gj l bids=0:=by rw[Gj,if_pos ha,hany]; rfl
   exact cF (dF hlt) ⟨by rw[e2,e0,hany]; rfl,s7.au⟩
theorem Gk{w:World}{a1 a2:OA}{c1 c2:Nat}{l:List Ch}{bids:List Of}(hr:Dm w a1 l)(hl:l.length<=1000)(ho:∀ c∈l,c.Ok)(hb:Fa w a2 bids)(hbl:bids.length<=100000) :
  CP 95 #[.slice a1 l.length c1,.slice a2 bids.length c2] w (λ r w'=>(∃ i:Int,r=.tuple #[iv i,iv (Gi l bids)])/\ay w w' []) :=
 ak (EM hr hl ho hb hbl) λ _ _ h=>⟨_,rfl,⟨_,h.1⟩,h.2⟩
theorem OE(x:Xv)(m:I6):tE x.er m=tE x m:=by unfold tE; rw[yy,Qc]
theorem OF(x:Xv)(m:I6):tF x.er m=tF x m:=by unfold tF; rw[Qc]
theorem Bn{l:List Pr}{t:List UInt8}(h:(bA l t).2=0):dR (bA l t).1=0:=by
 unfold bA at h ⊢
 split at h
 ·rename_i g; exact absurd h g
 ·rename_i g; rw[if_neg g]
  split at h
  ·rename_i g2; exact absurd h g2
  ·rename_i g2; rw[if_neg g2]
   split at h
   ·rename_i g3; exact absurd h g3
   ·rename_i g3; rw[if_neg g3]; simpa using g3
theorem Ki{x:Xv}(h:dR x=0):aO x<=40:=by
 unfold dR at h
 split at h
 ·cases h
 ·split at h
  ·cases h
  ·rename_i g; omega
def Fc(S:Se)(n:Nat)(y:Br):List Of->Int
 | []=>0
 | o :: l=>if fQ S n y o.want≠0 then fQ S n y o.want else if y.bud≠0/\y.bud<o.v then 17 else Fc S n y l
theorem yU{S:Se}{n:Nat}{y:Br}:∀ (l:List Of) (k:Nat),(∀ o∈l.take k,fQ S n y o.want=0/\¬ (y.bud≠0/\y.bud<o.v))->Fc S n y l=Fc S n y (l.drop k)
 | l,0,_=>rfl
 | [],k+1,_=>rfl
 | o :: l,k+1,h=>by
  obtain⟨h1,h2⟩:=h o (by simp);rw[Fc,if_neg (by simpa using h1),if_neg h2,yU l k λ o ho=>h o (by simp[ho])]; rfl
theorem Ri{S:Se}{n:Nat}{y:Br}{l:List Of}{k:Nat}{o:Of}(h:∀ o∈l.take k,fQ S n y o.want=0/\¬ (y.bud≠0/\y.bud<o.v))(hx:l[k]?=some o) :
  Fc S n y l=if fQ S n y o.want≠0 then fQ S n y o.want else if y.bud≠0/\y.bud<o.v then 17 else Fc S n y (l.drop (k+1)):=by
 obtain⟨hl,rfl⟩:=List.getElem?_eq_some_iff.1 hx;rw[yU l k h,List.drop_eq_getElem_cons hl,Fc]
def eB(S:Se)(C:Ck)(n:Nat)(y:Br)(t:List UInt8):Int :=
 if (bA S.ps t).2≠0 then (bA S.ps t).2 else if tE (bA S.ps t).1 (aX S.ps)≠0 then tE (bA S.ps t).1 (aX S.ps)
 else if Fc S n y (tF (bA S.ps t).1 (aX S.ps))≠0 then Fc S n y (tF (bA S.ps t).1 (aX S.ps)) else Gi (mc C n) (tF (bA S.ps t).1 (aX S.ps))
theorem R7{l:List Pr}(h:bZ l):pr (aX l).l<=1024:=by
 rw[C7,ue h.l2]; exact h.lim
theorem JE{w:World}{b g n:Nat}{S:Sx}{C:Ck}{y:Br}(hb:af w ⟨b,0,none⟩ 0 S.cells)(hI:S.s.In w)(hk:S.k=some ⟨g,0,none⟩)(hK:C.Rd g w)(hC:C.Ok)(hs:S.s.Ok)(hn:n<C.s.bd.length)(hy:S.s.bd[n]?=some y)(t:List UInt8) :
  CP 111 #[.pointer (some ⟨b,0,none⟩),iv n,sv t] w (λ r w'=>∃ x:Xv,(eB S.s C n y t=0->x.er=(bA S.s.ps t).1)/\r=.tuple #[.agg x.cells.toArray,iv (eB S.s C n y t)]/\St w w' (held x.In)):=by
 refine nY ?_;unfold jk;have hn':=(List.getElem?_eq_some_iff.1 hy).1;have z2:=hs.bd.l2;have hm:=sup_le hs.ps;have hp:=R7 hs.ps;have cb:∀ {w'},ay w w' []->∀ (j:Nat) (v:Value),S.cells[j]?=some v->w'.cell? ⟨b,j,none⟩=some v:=λ hc j v hv=>by
  have:=aS (bu hc hb) j v hv
  rwa [Nat.zero_add,sy] at this
 refine(St.start w).one.ax dK.cells.toArray λ r1 w1 s1=>⟨_,_,_,cb s1.au 5 _ rfl,ak (OS (hI.au s1.au).ps hI.h1 hs.ps t) ?_⟩;rintro v w2 ⟨x,ex,rfl,k2⟩;have s2:St w w2 (Sep [held x.In,ai r1 dK.cells.toArray 81,emp]):=s1.and k2;refine⟨_,x.u,_,_,_,_,_,rfl,s2.ax dK.cells.toArray λ r2 w3 s3=>s3.az 0 rfl x.cells rfl x.one λ w4 s4=>?_⟩;have s4:St w w4 (Sep [ai r2 x.cells.toArray 81,held x.In,ai r1 dK.cells.toArray 81,emp]):=s4;have bad:∀ {k:Int} {w' : World} {m:List aC} {i:Nat},St w w' (Sep m)->m[i]?=some (ai r1 dK.cells.toArray 81)->k≠0->eB S.s C n y t=k ->
   aL ⟨r1,0,none⟩ 0 dK.cells w' λ w3=>∃ (n2:Int) (u1:I6) (n3:Int) (a2:OA) (l2 c2:Nat),af w3 ⟨r1,0,none⟩ 0 (iv n2 :: u1.on [iv n3,.slice a2 l2 c2]) /\
    ∃ x:Xv,(eB S.s C n y t=0->x.er=(bA S.s.ps t).1)/\Value.tuple #[.agg (iv n2 :: u1.on [iv n3,.slice a2 l2 c2]:List Value).toArray,iv k]=.tuple #[.agg x.cells.toArray,iv (eB S.s C n y t)]/\St w w3 (held x.In):=λ {k w' m i} s e hk0 hp =>
  s.az i e dK.cells rfl (Xv.one _) λ w3 s3=>⟨_,z6,_,_,_,_,s3.cellsIn (cs:=dK.cells.toArray) (T:=81) i (List.getElem?_set_self (dS e)),dK,λ h=>absurd (hp.symm.trans h) hk0,by rw[hp]; rfl,((St.start' s3.au).one.vQ E9).first⟩
 by_cases h1:(bA S.s.ps t).2=0
 ·have hx0:dR x=0:=by rw[<- yy,ex]; exact Bn h1
  have hz:=Ki hx0;have e1:eB S.s C n y t=if tE x (aX S.s.ps)≠0 then tE x (aX S.s.ps) else if Fc S.s n y (tF x (aX S.s.ps))≠0 then Fc S.s n y (tF x (aX S.s.ps)) else Gi (mc C n) (tF x (aX S.s.ps)):=by
   rw[eB,if_neg (by simpa using h1),<- ex,OE,OF]
  have s5:=s4.quiet (ay.drew w4 []);refine cF (by simpa using h1) ⟨_,x.u,_,_,_,_,s5.cellsIn 0 rfl,_,_,_,cb s5.au 5 _ rfl,ak (lN (hI.au s5.au).ps (by have:=hs.ps.l2; omega)) ?_⟩;rintro v w6 ⟨rfl,c6⟩;have s6:=s5.quiet c6;refine⟨_,rfl,s6.cellsIn 0 rfl,ak (IQ hm hp (by omega) (s6.cv 1 rfl)) ?_⟩;rintro v w7 (⟨ho,rfl,c7⟩|⟨ho,hlen,a,c,rfl,k7⟩)
  ·exact⟨_,_,_,_,rfl,cT (by simpa using ho) (bad (s6.quiet c7) (i:=2) rfl ho (by rw[e1,if_pos ho]))⟩
  rw[if_neg (by simpa using ho)] at e1;have s7:St w w7 (Sep [vm a c (tF x (aX S.s.ps)),ai r2 x.cells.toArray 81,held x.In,ai r1 dK.cells.toArray 81,emp]):=s6.and k7.single;generalize hl:tF x (aX S.s.ps)=l at *;obtain⟨_,q,hq,hcy⟩:=(hI.au s7.au).bd n y hy;have cbud:w7.cell? (Addr.add (Addr.add q (((n:Nat):Int).toNat*4)) 2)=some (iv y.bud):=by
   have:=aS hcy 2 _ rfl
   rwa [Nat.zero_add] at this
  refine⟨_,_,_,_,rfl,cF rfl ⟨_,_,_,cb s7.au 6 _ rfl,aj hq ⟨by omega,by omega,_,cbud,?_⟩⟩⟩;refine⟨λ i w8 m=>∃ k:Nat,i=k/\k<=l.length/\m=l.length-k/\(∀ o∈l.take k,fQ S.s n y o.want=0/\¬ (y.bud≠0/\y.bud<o.v))/\St w w8 (Sep [vm a c l,ai r2 x.cells.toArray 81,held x.In,ai r1 dK.cells.toArray 81,emp]),⟨l.length,0,rfl,by omega,by omega,by simp,s7⟩,?_⟩;rintro w8 m i ⟨k,rfl,hk8,hm8,hall,s8⟩ -
  by_cases hlt:(k:Int)<(l.length:Int)
  ·have hxk:l[k]?=some (l[k]'(by omega)):=gE (by omega);generalize l[k]'(by omega)=o at hxk;obtain⟨q2,hq2,hc2⟩:=(St.rd Of.len s8).at hxk;have eo:=Ri hall hxk;refine cT (dT hlt) (aj hq2 ⟨by omega,by omega,_,o.want,_,hc2,s8.ax PG.cells.toArray λ r3 w9 s9=>s9.az 0 rfl o.cells rfl o.one λ w10 s10=>?_⟩);have s11:=s10.quiet (ay.drew w10 []);have hset:af w10.drew ⟨b,5,none⟩ 0 S.s.arr.toList:=br _ 0 λ j v hj=>by
    rw[bq,Nat.zero_add];refine cb s11.au (5+j) v ?_;have hj4:j<4:=(List.getElem?_eq_some_iff.1 hj).1
    match j,hj4 with
    | 0,_|1,_|2,_|3,_=>exact hj
   refine⟨_,_,_,_,_,_,_,_,_,_,_,_,hset,o.want,s11.aF 0 1 rfl rfl,ak (uu (hI.au s11.au) hs hy o.want) ?_⟩;rintro v w12 ⟨rfl,c12⟩;have s12:=s11.quiet c12;refine⟨_,rfl,?_⟩
   by_cases ha:fQ S.s n y o.want=0
   ·rw[if_neg (by simpa using ha)] at eo;refine cF (by simpa using ha) ⟨λ bb w13=>bb=decide (y.bud≠0/\y.bud<o.v)/\St w w13 (Sep [vm a c l,ai r2 x.cells.toArray 81,held x.In,ai r1 dK.cells.toArray 81,emp]),?_,?_⟩
    ·rintro w13 bb ⟨rfl,s13⟩ x2
     by_cases hbud:y.bud≠0/\y.bud<o.v
     ·rw[if_pos hbud] at eo;exact cT (dT hbud) (bad s13 (i:=3) rfl (by decide) (by rw[e1,eo]; rfl))
     ·refine cF (dF hbud) ⟨l.length-(k+1),by omega,k+1,aB ⟨by omega,by omega⟩,by omega,rfl,λ o' ho'=>?_,s13⟩;rw[aG hxk] at ho';rcases List.mem_append.1 ho' with h|h
      ·exact hall o' h
      ·rw[List.mem_singleton.1 h]; exact⟨ha,hbud⟩
    ·by_cases hb0:y.bud=0
     ·exact cF (by simpa using hb0) ⟨by rw[dF λ h=>h.1 hb0],s12.av [1,2,3,4,5]⟩
     ·refine cT (by simpa using hb0) ⟨_,s12.ag 0 rfl 7,?_,s12.av [1,2,3,4,5]⟩
      by_cases hv:y.bud<o.v
      ·rw[dT hv,dT ⟨hb0,hv⟩]
      ·rw[dF hv,dF λ h=>hv h.2]
   ·rw[if_pos ha] at eo;exact cT (by simpa using ha) (bad s12 (i:=4) rfl ha (by rw[e1,eo,if_pos ha]))
  ·obtain rfl:k=l.length:=by omega
   rw[List.take_length] at hall;have e0:Fc S.s n y l=0:=by rw[yU l l.length (by rw[List.take_length]; exact hall),List.drop_length]; rfl
   rw[e0,if_neg (by decide)] at e1;refine cF (dF hlt) ⟨_,(cb s8.au 9 _ rfl).trans (by rw[hk]),ak (AR (hK.au s8.au) hC hn) ?_⟩;rintro v w9 ⟨a4,c4,rfl,k9⟩;have rl:=(St.rd Of.len s8).au k9.au;have rch:Dm w9 a4 (mc C n):=St.rd Ch.len k9.one;have s9:=s8.quiet k9.au;refine⟨_,_,_,rfl,ak (Gk rch (by unfold mc; rw[List.length_map]; have:=hC.cl; omega) (PS hC) rl (by omega)) ?_⟩;rintro v w10 ⟨⟨i,rfl⟩,c10⟩;have s10:=s9.quiet c10;refine⟨_,_,rfl,_,x.u,_,_,_,_,s10.cellsIn 1 rfl,s10.az 3 rfl x.cells rfl x.one λ w11 s11=>⟨_,x.u,_,_,_,_,s11.cellsIn 3 rfl,x,λ _=>ex,by rw[e1]; rfl,?_⟩⟩;exact(s11.av [2]).single
 ·exact cT (by simpa using h1) (bad s4 (i:=2) rfl h1 (by rw[eB,if_pos h1]))
def ru(S:Sx)(n:Nat)(x:Xv):Sx:={ S with bd:=S.bd.set n { S.bd.getD n cO with x:=x,has:=true } }
section
variable {w0 w:World} {b g n:Nat} {S:Sx} {C:Ck} {B:aC} {y:Br}
theorem NA{k:List Nat}{l:List aC}(s:St w0 w (Sep l))(e:av k l=bM g C):C.Rd g w:=(by have:=s.av k; rw[e] at this; exact this:St w0 w (Sep (bM g C))).imp mV
theorem RP{Q:World->Prop}(hQ:∀ w,Q w->S.s.In w)(s:St w0 w (Sep (dr b S g C++[held Q,B])))(h:S.bd.length=8)(hk:S.k=some ⟨g,0,none⟩)(hC:C.Ok)(hs:S.s.Ok){e:Ev}(he:e.bidder=n)(hn:n<C.s.bd.length)(hy:S.s.bd[n]?=some y) :
  CP 72 #[.pointer (some ⟨b,0,none⟩),e.v] w (λ r w'=>r=iv (eB S.s C n y e.text)/\(eB S.s C n y e.text≠0->St w0 w' (Sep (dr b S g C++[held Q,B])))/\(eB S.s C n y e.text=0->∃ x:Xv,x.er=(bA S.s.ps e.text).1/\St w0 w' (Sep (dr b (ru S n x) g C++[held Q,held x.In,B])))):=by
 refine rT (u1:=e.want) ?_;unfold nt;have hn':=(List.getElem?_eq_some_iff.1 hy).1;have z2:=hs.bd.l2;have hn8:n<8:=by omega
 have hyb:S.bd[n]?=some (S.bd.getD n cO):=by rw[List.getD_eq_getElem?_getD,gE (by omega)]; rfl
 have hsz:S.cells.toArray.size=101:=by simpa using Sx.len h
 refine s.ax e.cells.toArray λ r1 w1 s1=>?_;have s1:St w0 w1 (Sep (ai r1 e.cells.toArray 47 :: ai b S.cells.toArray 86 :: (bM g C++[held Q,B]))):=s1;have c1:w1.cell? ⟨r1,1,none⟩=some (iv n):=by rw[<- he]; exact s1.ag 0 rfl 1
 have rdK:C.Rd g w1:=NA (k:=[2,3,4,5,6,7]) s1 rfl;refine⟨_,c1,_,s1.ag 0 rfl 9,ak (JE (s1.cellsIn 1 rfl) (hQ _ (s1.cv 8 rfl)) hk rdK hC hs hn hy e.text) ?_⟩;rintro v w2 ⟨x,ex,rfl,k2⟩;have s2:St w0 w2 (Sep (held x.In :: ai r1 e.cells.toArray 47 :: ai b S.cells.toArray 86 :: (bM g C++[held Q,B]))):=s1.and k2;refine⟨_,x.u,_,_,_,_,_,rfl,s2.ax dK.cells.toArray λ r2 w3 s3=>s3.az 0 rfl x.cells rfl x.one λ w4 s4=>?_⟩;have s4:St w0 w4 (Sep (ai r2 x.cells.toArray 81 :: held x.In :: ai r1 e.cells.toArray 47 :: ai b S.cells.toArray 86 :: (bM g C++[held Q,B]))):=s4
 by_cases h0:eB S.s C n y e.text=0
 ·refine⟨λ w5=>St w0 w5 (Sep (dr b (ru S n x) g C++[held Q,held x.In,B])),λ w5 s5 _=>⟨rfl,λ h=>absurd h0 h,λ _=>⟨x,ex h0,s5⟩⟩,?_⟩;have s5:=s4.quiet (ay.drew w4 []);have c5:w4.drew.cell? ⟨r1,1,none⟩=some (iv n):=by rw[<- he]; exact s5.ag 2 rfl 1
  refine cT (by simpa using h0) ⟨_,c5,_,c5,_,x.u,_,_,_,_,s5.cellsIn 0 rfl,by omega,by omega,?_⟩;rw[TS];let S1:Sx:={ S with bd:=S.bd.set n { S.bd.getD n cO with x:=x } };refine s5.pE 3 (10+n*11) rfl (vs:=x.cells) S1.cells.toArray (by rw[hsz,Xv.len]; omega) (Xv.one _) (by rw[Xv.len]; exact congrArg List.toArray (Ib h hn8 hyb x)) λ w6 s6=>?_;have h1:S1.bd.length=8:=by simpa[S1] using h
  have hy1:S1.bd[n]?=some { S.bd.getD n cO with x:=x }:=by
   show(S.bd.set n _)[n]?=_;rw[List.getElem?_set_self (by omega)]
  have hsz1:S1.cells.toArray.size=101:=by simpa using Sx.len h1
  have s6:St w0 w6 (Sep (ai r2 x.cells.toArray 81 :: held x.In :: ai r1 e.cells.toArray 47 :: ai b S1.cells.toArray 86 :: (bM g C++[held Q,B]))):=s6;have c6:w6.cell? ⟨r1,1,none⟩=some (iv n):=by rw[<- he]; exact s6.ag 2 rfl 1
  refine⟨c6,by omega,by omega,?_⟩;rw[bq];refine s6.aK 3 rfl (j:=10+n*11+9) (by rw[hsz1]; omega) rfl λ w7 s7=>?_;have e1:=Ia h1 hn8 hy1 true;have e2:({ S1 with bd:=S1.bd.set n { ({ S.bd.getD n cO with x:=x }:Bd) with has:=true } }:Sx)=ru S n x:=by
   show({ S with bd:=(S.bd.set n _).set n _ }:Sx)=_;rw[List.set_set]; rfl
  rw[e2] at e1;rw[e1] at s7;exact s7.av [3,4,5,6,7,8,9,10,1,11]
 ·refine⟨λ w5=>St w0 w5 (Sep (dr b S g C++[held Q,B])),λ w5 s5 _=>⟨rfl,λ _=>s5,λ h=>absurd h h0⟩,cF (by simpa using h0) (s4.av [3,4,5,6,7,8,9,10,11])⟩
end
structure Ck.Inv (C:Ck):Prop where
 ok:C.Ok
 n30:C.ov=false->C.cl.length<30
section
variable {C C' : Ck}
theorem Rn.Sz.er{x:Rn}{n:Nat}:x.er.Sz n<->x.Sz n:=⟨λ h=>⟨h.ask,h.got,h.bd⟩,λ h=>⟨h.ask,h.got,h.bd⟩⟩
theorem Ck.Inv.Uy(h:C.Inv):C.er.Inv:=by
 obtain⟨⟨s,o,cl,cz,cp,ca,cg,p,ask,bd,dp,asked⟩,n30⟩:=h;have mm:∀ {x:Rn},x∈C.er.cl->∃ y∈C.cl,y.er=x:=λ hx=>List.mem_map.1 hx;have hl:C.er.cl.length=C.cl.length:=List.length_map _;refine⟨⟨⟨s.ps,s.bd,s.cp,s.sa⟩,o,by rw[hl]; exact cl,λ x hx=>?_,λ x hx=>?_,λ x hx=>?_,λ x hx=>?_,p,ask,bd,dp,asked⟩,λ h=>by rw[hl]; exact n30 h⟩
 ·obtain⟨y,hy,rfl⟩:=mm hx; exact Rn.Sz.er.2 (cz y hy)
 ·obtain⟨y,hy,rfl⟩:=mm hx; exact cp y hy
 ·obtain⟨y,hy,rfl⟩:=mm hx; exact ca y hy
 ·obtain⟨y,hy,rfl⟩:=mm hx; exact cg y hy
theorem Ck.Inv.Uk(h:C.er.Inv):C.Inv:=by
 obtain⟨⟨s,o,cl,cz,cp,ca,cg,p,ask,bd,dp,asked⟩,n30⟩:=h;have mm:∀ {x:Rn},x∈C.cl->x.er∈C.er.cl:=λ hx=>List.mem_map_of_mem hx;have hl:C.er.cl.length=C.cl.length:=List.length_map _;rw[hl] at cl n30;exact⟨⟨⟨s.ps,s.bd,s.cp,s.sa⟩,o,cl,λ x hx=>Rn.Sz.er.1 (cz _ (mm hx)),λ x hx=>cp x.er (mm hx),λ x hx=>ca x.er (mm hx),λ x hx=>cg x.er (mm hx),p,ask,bd,dp,asked⟩,n30⟩
theorem Ck.Inv.er(h:C.Inv)(e:C'.er=C.er):C'.Inv:=Ck.Inv.Uk (e▸h.Uy)
theorem PR(C:Ck)(n:Nat):mc C.er n=mc C n:=by
 show(C.cl.map Rn.er).map _=_;rw[List.map_map]; rfl
theorem OU(C:Ck):ia C.er=ia C:=by
 show gI C.dp 0 (((C.cl.map Rn.er).getLast?.map Rn.got).getD [])=_;rw[List.getLast?_map,Option.map_map]; rfl
theorem uT(C:Ck):C.er.cl.length=C.cl.length:=List.length_map _
theorem KY(C:Ck):oK C.er=oK C:=by
 unfold oK;rw[uT,OU]; rfl
theorem KF(C:Ck):wK C.er=wK C:=by unfold wK; rw[KY]; rfl
theorem LA(C:Ck):kr C.er=kr C:=by unfold kr; rw[KF]; rfl
theorem Hw(C:Ck):bE C.er=bE C:=by unfold bE; rw[KF,LA,uT]
theorem Tn(C:Ck):(Ff C.er).er=(Ff C).er:=by
 show({ p:=_,ask:=_,got:=oK C.er,bd:=_,xa:=_,xc:=_,ga:=_,gc:=_,ba:=_,bc:=_ }:Rn)=_;rw[KY]; rfl
theorem He(C:Ck):C.er.er=C.er:=by
 show({ C.er with cl:=(C.cl.map Rn.er).map Rn.er }:Ck)=_;rw[List.map_map]; rfl
theorem oz(C:Ck):(bz C.er).er=(bz C).er:=by
 have e1:(bz C.er).cl.map Rn.er=(bz C).cl.map Rn.er:=by
  show((C.cl.map Rn.er)++[Ff C.er]).map Rn.er=(C.cl++[Ff C]).map Rn.er;rw[List.map_append,List.map_append,List.map_map,List.map_singleton,List.map_singleton,Tn]; rfl
 show({ s:=_,o:=_,cl:=(bz C.er).cl.map Rn.er,p:=if bE C.er then C.p else (kr C.er).1,ask:=_,bd:=_,dp:=_,ov:=bE C.er,ka:=_,kc:=_,xa:=_,xc:=_,ya:=_,yc:=_,za:=_,zc:=_ }:Ck)=_;rw[e1,Hw,LA]; rfl
theorem Pp(C:Ck):(ud C.er).er=(ud C).er:=by
 show({ s:=_,o:=_,cl:=(C.cl.map Rn.er).map Rn.er,p:=_,ask:=_,bd:=_,dp:=_,ov:=_,ka:=_,kc:=_,xa:=_,xc:=_,ya:=_,yc:=_,za:=_,zc:=_ }:Ck)=_;rw[List.map_map]; rfl
theorem Kr(C:Ck)(n:Nat):(jK C.er n).er=(jK C n).er:=by
 show({ s:=_,o:=_,cl:=(C.cl.map Rn.er).map Rn.er,p:=_,ask:=_,bd:=_,dp:=_,ov:=_,ka:=_,kc:=_,xa:=_,xc:=_,ya:=_,yc:=_,za:=_,zc:=_ }:Ck)=_;rw[List.map_map]; rfl
theorem xz(C:Ck)(n:Nat)(u:I6):(gh C.er n u).er=(gh C n u).er:=by
 show({ s:=_,o:=_,cl:=(C.cl.map Rn.er).map Rn.er,p:=_,ask:=_,bd:=_,dp:=_,ov:=_,ka:=_,kc:=_,xa:=_,xc:=_,ya:=_,yc:=_,za:=_,zc:=_ }:Ck)=_;rw[List.map_map]; rfl
theorem Jt(C:Ck)(r:Int):bU C.er r=bU C r:=by unfold bU; rw[uT]; rfl
theorem L0(C:Ck)(r:Nat):(dV C.er r).er=(dV C r).er:=by
 unfold dV;have e:C.er.cl[r]?=(C.cl[r]?).map Rn.er:=List.getElem?_map ..;rw[e]
 cases C.cl[r]? with
 | none =>
  show({ s:=_,o:=_,cl:=(C.cl.map Rn.er).map Rn.er,p:=_,ask:=_,bd:=_,dp:=_,ov:=_,ka:=_,kc:=_,xa:=_,xc:=_,ya:=_,yc:=_,za:=_,zc:=_ }:Ck)=_;rw[List.map_map]; rfl
 | some x =>
  show({ s:=_,o:=_,cl:=(((C.cl.map Rn.er).take r).map Rn.er),p:=_,ask:=_,bd:=_,dp:=_,ov:=_,ka:=_,kc:=_,xa:=_,xc:=_,ya:=_,yc:=_,za:=_,zc:=_ }:Ck)=_;rw[<- List.map_take,List.map_map]; rfl
theorem BV(C:Ck)(n:Nat)(y:Br)(u:I6):dI C.er n y u=dI C n y u:=by
 unfold dI;rw[PR]; rfl
theorem LB(S:Se)(C:Ck)(n:Nat)(y:Br)(t:List UInt8):eB S.er C.er n y t=eB S C n y t:=by
 unfold eB;rw[PR];have:∀ l:List Of,Fc S.er n y l=Fc S n y l:=λ l=>by
  induction l with
  | nil=>rfl
  | cons o l ih=>rw[Fc,Fc,ih]; rfl
 rw[this]; rfl
theorem yY{S:Se}{o:Po}(hs:S.Ok)(ho:o.ok):(eW S o).Inv:=⟨Ox hs ho,λ _=>by show([]:List Rn).length<30; decide⟩
theorem od(h:C.Inv){n:Nat}{y:Br}{u:I6}(hb:dI C n y u=0):(gh C n u).Inv:=by
 have hu:I6.Le u 4:=by
  unfold dI at hb
  split at hb
  ·cases hb
  ·split at hb
   ·rename_i h1; exact absurd hb h1
   ·rename_i h1;have h2:fQ C.s n y u=0:=by simpa using h1
    unfold fQ at h2
    split at h2
    ·rename_i h3; exact JT h3
    ·cases h2
 obtain⟨⟨s,o,cl,cz,cp,ca,cg,p,ask,bd,dp,asked⟩,n30⟩:=h;refine⟨⟨s,o,cl,cz,cp,ca,cg,p,by simpa[gh] using ask,by simpa[gh] using bd,dp,λ v hv=>?_⟩,n30⟩;rcases List.mem_or_eq_of_mem_set hv with hv|rfl
 ·exact asked v hv
 ·exact hu
theorem IF(h:C.Inv)(n:Nat):(jK C n).Inv:=by
 obtain⟨⟨s,o,cl,cz,cp,ca,cg,p,ask,bd,dp,asked⟩,n30⟩:=h;refine⟨⟨s,o,cl,cz,cp,ca,cg,p,by simpa[jK] using ask,by simpa[jK] using bd,by simpa[jK] using dp,λ v hv=>?_⟩,n30⟩;rcases List.mem_or_eq_of_mem_set hv with hv|rfl
 ·exact asked v hv
 ·exact Im (by omega)
theorem RN{n:Nat}:∀ u∈List.replicate n z6,I6.Le u 4:=λ u hu=>by rw[List.eq_of_mem_replicate hu]; exact Im (by omega)
theorem B0(h:C.Ok):(fo C).Ok:=by
 obtain⟨s,o,cl,cz,cp,ca,cg,p,ask,bd,dp,asked⟩:=h;exact⟨s,o,cl,cz,cp,ca,cg,p,by simpa[fo] using dp,by simpa[fo] using dp,dp,RN⟩
theorem JF(h:C.Inv):(ud C).Inv:=by
 obtain⟨s,o,cl,cz,cp,ca,cg,p,ask,bd,dp,asked⟩:=B0 h.ok;exact⟨⟨s,o,cl,cz,cp,ca,cg,p,ask,bd,dp,asked⟩,λ h=>by cases h⟩
theorem Gl(h:C.Inv){r:Int}(hr:bU C r=false):(dV C r.toNat).Inv:=by
 have hr' : 0<=r/\r<=C.cl.length/\(r=C.cl.length->C.ov=false):=by
  unfold bU at hr;simp only[Bool.or_eq_false_iff,decide_eq_false_iff_not,Bool.and_eq_false_iff,beq_eq_false_iff_ne] at hr;obtain⟨⟨h1,h2⟩,h3⟩:=hr;refine⟨by omega,by omega,λ e=>?_⟩;rcases h3 with h3|h3
  ·exact absurd e h3
  ·exact h3
 have k:=B0 h.ok;obtain⟨s,o,cl,cz,cp,ca,cg,p,ask,bd,dp,asked⟩:=k;have hl:=h.ok.cl;unfold dV
 cases hx:C.cl[r.toNat]? with
 | some x =>
  have hm:=List.mem_of_getElem? hx;have hlt:=(List.getElem?_eq_some_iff.1 hx).1;refine⟨⟨s,o,?_,λ y hy=>cz y (List.mem_of_mem_take hy),λ y hy=>cp y (List.mem_of_mem_take hy),λ y hy=>ca y (List.mem_of_mem_take hy),λ y hy=>cg y (List.mem_of_mem_take hy),cp x hm,ask,bd,dp,asked⟩,λ _=>?_⟩
  ·show(C.cl.take r.toNat).length<=30;rw[List.length_take]; omega
  ·show(C.cl.take r.toNat).length<30;rw[List.length_take]; omega
 | none =>
  have hge:C.cl.length<=r.toNat:=List.getElem?_eq_none_iff.1 hx;have e:r=C.cl.length:=by omega
  exact⟨⟨s,o,cl,cz,cp,ca,cg,p,ask,bd,dp,asked⟩,λ _=>h.n30 (hr'.2.2 e)⟩
theorem FO{o:Po}{p ex:I6}(hp:dJ p=true)(h:(tB o p ex).2=0):dJ (tB o p ex).1=true:=by
 unfold tB at h ⊢
 split
 ·rename_i g; rw[if_pos g] at h; cases h
 ·rename_i g;show dJ (bw o p ex)=true
  by_cases e:bw o p ex=p
  ·rw[e]; exact hp
  ·cases hv:dJ (bw o p ex) with
   | true=>rfl
   | false=>exact absurd ⟨e,hv⟩ g
theorem rE(h:C.Inv)(hov:C.ov=false):(bz C).Inv:=by
 have h30:=h.n30 hov;have hg:=KZ h.ok;have hk:=h.ok;obtain⟨s,o,cl,cz,cp,ca,cg,p,ask,bd,dp,asked⟩:=B0 h.ok;have mm:∀ {Q:Rn->Prop},(∀ x∈C.cl,Q x)->Q (Ff C)->∀ x∈(bz C).cl,Q x:=λ h1 h2 x hx=>by
  rcases List.mem_append.1 hx with hx|hx
  ·exact h1 x hx
  ·rw[List.mem_singleton.1 hx]; exact h2
 refine⟨⟨s,o,?_,mm cz ⟨hk.ask,hg.1,hk.bd⟩,mm cp hk.p,mm ca hk.asked,mm cg hg.2,?_,ask,bd,dp,asked⟩,λ hl=>?_⟩
 ·show(C.cl++[Ff C]).length<=30;rw[List.length_append,List.length_singleton]; omega
 ·show dJ (if bE C then C.p else (kr C).1)=true
  split
  ·exact hk.p
  ·rename_i hl;refine FO hk.p ?_;have hl:bE C=false:=by simpa using hl
   unfold bE at hl;simp only[Bool.or_eq_false_iff] at hl;have h2:(kr C).2=0:=by simpa using hl.2.2
   exact h2
 ·have hl:bE C=false:=hl;unfold bE at hl;simp only[Bool.or_eq_false_iff,decide_eq_false_iff_not] at hl;show(C.cl++[Ff C]).length<30;rw[List.length_append,List.length_singleton]; omega
end
theorem St.pk{w0 w:World}{l m:List aC}(s:St w0 w (Sep (l++m))):St w0 w (Sep (l++[Sep m])):=(s.split l).open
theorem St.TM{w0 w:World}{l m:List aC}(s:St w0 w (Sep (l++[Sep m]))):St w0 w (Sep (l++m)):=s.shut.cat
theorem Mc{S:Se}(h:S.Ok):vp S=0:=by
 have e1:Ga S.ps=0:=by
  unfold Ga;rw[if_neg (by have:=h.ps.l1; omega),if_neg (by have:=h.ps.l2; omega),bP λ i p hp=>by rw[Nat.zero_add]; exact zi (h.ps.good i p hp)];rw[if_neg (λ h=>h rfl),if_pos (by rw[ue h.ps.l2]; exact h.ps.lim)]
 have e2:GV S.bd=0:=by
  unfold GV;rw[if_neg (by have:=h.bd.l1; omega),if_neg (by have:=h.bd.l2; omega),bP λ i p hp=>by rw[Nat.zero_add]; exact yh (h.bd.good i p hp)]
 have e3:IE S.bd.length S.cp=0:=by
  unfold IE;rw[if_neg (by have:=h.cp.l1; omega),bP λ i p hp=>by rw[Nat.zero_add]; exact yA (h.cp.good i p hp)]
 have e4:Mp S.ps S.sa=0:=by
  unfold Mp;rw[if_neg (by have:=h.sa.l1; omega),bP λ i p hp=>by rw[Nat.zero_add]; exact zz (h.sa.good i p hp)]
 unfold vp;rw[e1,e2,e3,e4]; rfl
def yX(S:Se)(o:Po):Int:=if vp S≠0 then vp S else gH o
theorem Rr{w:World}{S:Se}(h:S.In w)(o:Po):CP 27 #[.agg S.arr,o.v] w (λ r w'=>(yX S o≠0/\r=.tuple #[.pointer none,iv (yX S o)]/\ay w w' [])\/(yX S o=0/\S.Ok/\o.ok/\∃ g C',C'.er=(eW S o).er/\r=.tuple #[.pointer (some ⟨g,0,none⟩),iv 0]/\St w w' (Sep (bM g C')))):=by
 by_cases hh:S.Ok/\o.ok
 ·obtain⟨hs,ho⟩:=hh;refine ak (P9 h hs ho) λ v w' ⟨g,C',h1,h2,h3⟩=>⟨v,rfl,.inr ⟨by rw[yX,Mc hs,gH,if_pos ho]; rfl,hs,ho,g,C',h1,h2,h3⟩⟩
 refine sQ ?_;unfold uG;refine(St.start w).one.ax S.arr λ r1 w1 s1=>s1.ax o.cells.toArray λ r2 w2 s2=>⟨_,_,_,_,_,_,_,_,_,_,_,_,s2.cellsIn 1 rfl,ak (lF (h.au s2.au)) ?_⟩;rintro v w3 ⟨⟨rfl,he⟩,c3⟩;have s3:=s2.quiet c3;refine⟨_,rfl,?_⟩
 by_cases g:vp S=0
 ·have hs:=he.1 g;have ho : ¬ o.ok:=λ ho=>hh ⟨hs,ho⟩;refine cF (by rw[g]; rfl) ⟨_,_,_,_,s3.cellsIn 0 rfl,ak (p9 w3 o) ?_⟩;rintro v w4 ⟨rfl,c4⟩;have e:yX S o=4:=by rw[yX,g,gH,if_neg ho]; rfl
  exact⟨_,rfl,cT (by rw[gH,if_neg ho]; rfl) (.inl ⟨by rw[e]; decide,by rw[e,gH,if_neg ho],(s3.quiet c4).au⟩)⟩
 ·have e:yX S o=vp S:=by rw[yX,if_pos g]
  exact cT (by simpa using g) (.inl ⟨by rw[e]; exact g,by rw[e],s3.au⟩)
structure Lx where
 a:Option Addr
 c:Nat
 l:List Of
def Lx.cells(x:Lx):List Value:=[.slice x.a x.l.length x.c]
structure MW (w:World) (a:OA) (L:List Lx):Prop where
 r:cG 1 Lx.cells w a L
 i:∀ x∈L,Fa w x.a x.l/\x.l.length<=100000
theorem MW.au{w w' : World}{a:OA}{L:List Lx}(h:MW w a L)(hc:ay w w' []):MW w' a L:=⟨h.r.au hc,λ x hx=>⟨(h.i x hx).1.au hc,(h.i x hx).2⟩⟩
def Aj(S:Se)(C:Ck)(k:Nat)(l:List Of):Ck :=
 if dI C k (S.bd.getD k mQ) (iu S k l C.p).1=0 then gh C k (iu S k l C.p).1 else if dI C k (S.bd.getD k mQ) z6=0 then gh C k z6 else C
def cN(S:Se)(L:List Lx)(C:Ck):Nat->Ck
 | 0=>C
 | k+1=>Aj S (cN S L C k) k ((L[k]?.map Lx.l).getD [])
theorem M6{S:Se}{C:Ck}(h:C.Inv)(k:Nat)(l:List Of):(Aj S C k l).Inv:=by
 unfold Aj
 split
 ·rename_i g; exact od h g
 ·split
  ·rename_i g; exact od h g
  ·exact h
theorem CN{S:Se}{L:List Lx}{C:Ck}(h:C.Inv):∀ k,(cN S L C k).Inv
 | 0=>h
 | k+1=>M6 (CN h k) k _
theorem SD(S:Se)(C:Ck)(k:Nat)(l:List Of):(Aj S C k l).s=C.s/\(Aj S C k l).ov=C.ov/\(Aj S C k l).cl=C.cl:=by
 unfold Aj
 split
 ·exact⟨rfl,rfl,rfl⟩
 ·split<;>exact⟨rfl,rfl,rfl⟩
theorem HU(S:Se)(L:List Lx)(C:Ck):∀ k,(cN S L C k).s=C.s/\(cN S L C k).ov=C.ov/\(cN S L C k).cl=C.cl
 | 0=>⟨rfl,rfl,rfl⟩
 | k+1=>by
  obtain⟨h1,h2,h3⟩:=HU S L C k;obtain⟨g1,g2,g3⟩:=SD S (cN S L C k) k ((L[k]?.map Lx.l).getD []);exact⟨g1.trans h1,g2.trans h2,g3.trans h3⟩
section
variable {b:Nat} {C:Ck} {w0 w:World} {B:aC} {S:Se} {al:OA} {cl:Nat} {L:List Lx}
set_option maxHeartbeats 1000000 in
theorem O5(s:St w0 w (Sep (bM b C++[B])))(hk:C.Inv)(hS:∀ {w'},ay w0 w' []->S.In w')(hse:C.s.er=S.er)(hL:∀ {w'},ay w0 w' []->MW w' al L)(hlen:L.length=S.bd.length)(hov:C.ov=false) :
  CP 28 #[pt b,.agg S.arr,.slice al L.length cl] w (λ r w'=>r=.tuple #[]/\∃ C',C'.er=(bz (cN S L C L.length)).er/\St w0 w' (Sep (bM b C'++[B]))):=by
 refine zk ?_;unfold vY;have hbd:C.s.bd=S.bd:=by
  show C.s.er.bd=S.er.bd;rw[hse]
 have h8:=hk.ok.s.bd.l2;rw[hbd] at h8;refine s.ax S.arr λ r1 w1 s1=>?_;have s1:St w0 w1 (Sep (bM b C++[ai r1 S.arr 27,B])):=s1.av [1,2,3,4,5,6,0,7];refine⟨λ n w2 m=>∃ k:Nat,n=k/\k<=L.length/\m=L.length-k/\St w0 w2 (Sep (bM b (cN S L C k)++[ai r1 S.arr 27,B])),⟨L.length,0,rfl,by omega,by omega,s1⟩,?_⟩;rintro w2 m n ⟨k,rfl,hk1,hm,s2⟩ -;have hinv:=CN (S:=S) (L:=L) hk k;obtain⟨es,eo,ec⟩:=HU S L C k
 by_cases hlt:(k:Int)<(L.length:Int)
 ·have hx:L[k]?=some (L[k]'(by omega)):=gE (by omega);have eN:cN S L C (k+1)=Aj S (cN S L C k) k ((L[k]?.map Lx.l).getD []):=rfl;generalize L[k]'(by omega)=x at hx;rw[hx] at eN;have eN:cN S L C (k+1)=Aj S (cN S L C k) k x.l:=eN;have hy:S.bd[k]?=some (S.bd.getD k mQ):=by rw[List.getD_eq_getElem?_getD,gE (by omega)]; rfl
  have hy2:(cN S L C k).s.bd[k]?=some (S.bd.getD k mQ):=by rw[es,hbd]; exact hy
  generalize hC2:cN S L C (k+1)=C2 at eN;generalize cN S L C k=C1 at s2 hinv es eo ec eN hy2;obtain⟨q,hq,hcl⟩:=(hL s2.au).r.at hx;have hx1:=λ {w'} (hc:ay w0 w' [])=>(hL hc).i x (List.mem_of_getElem? hx);unfold Aj at eN;generalize S.bd.getD k mQ = y at hy hy2 eN;generalize hu:(iu S k x.l C1.p).1=u at eN;refine cT (dT hlt) ⟨λ w3=>St w0 w3 (Sep (bM b C2++[ai r1 S.arr 27,B])),?_,aj hq ⟨by omega,by omega,_,_,_,hcl.1,?_⟩⟩
  ·intro w3 s3 x2;exact⟨L.length-(k+1),by omega,k+1,aB ⟨by omega,by omega⟩,by omega,rfl,by rw[hC2]; exact s3⟩
  refine⟨λ r2 w4=>St w0 w4 (Sep (ai r2 u.vs.toArray 44 :: (bM b C1++[ai r1 S.arr 27,B]))),?_,?_⟩
  ·intro w4 r2 s4 x3;have s4' : St w0 w4 (Sep (bM b C1++[Sep [ai r2 u.vs.toArray 44,ai r1 S.arr 27,B]])):=St.pk (l:=bM b C1) (s4.av [1,2,3,4,5,6,0,7,8]);refine⟨u,s4.cellsIn 0 rfl,ak (FG s4' hinv.ok hy2 u) ?_⟩;rintro v w5 ⟨rfl,s5⟩;refine⟨_,rfl,?_⟩
   by_cases g:dI C1 k y u=0
   ·rw[if_pos g] at s5 eN;refine cF (by rw[g]; rfl) ?_;have s6:=St.TM s5;rw[eN]; exact s6.av [0,1,2,3,4,5,7,8]
   ·rw[if_neg g] at s5 eN;refine cT (by simpa using g) (ak (FG s5 hinv.ok hy2 z6) ?_);rintro v w6 ⟨rfl,s6⟩;refine⟨_,rfl,?_⟩
    by_cases g2:dI C1 k y z6=0
    ·rw[if_pos g2] at s6 eN;have s7:=St.TM s6;rw[eN]; exact s7.av [0,1,2,3,4,5,7,8]
    ·rw[if_neg g2] at s6 eN;have s7:=St.TM s6;rw[eN]; exact s7.av [0,1,2,3,4,5,7,8]
  have rdO:∀ {w' : World} {M:List aC},St w0 w' (Sep (M++(bM b C1++[ai r1 S.arr 27,B])))->C1.Rd b w':=λ s=>((s.split _).second.split (bM b C1)).first.imp mV;have s3:=s2.quiet (ay.drew w2 []);have eb:∀ {w' : World},ay w0 w' []->CC 19 #[.agg S.arr,iv k,.slice x.a x.l.length x.c,.agg C1.p.vs.toArray] w' (xV λ r w''=>∃ e:Int,r=.tuple #[.agg u.vs.toArray,iv e]/\ay w' w'' []):=λ hc =>
   ak (yf (hS hc) (hx1 hc).1 (hx1 hc).2 k C1.p) λ v w'' ⟨h1,h2⟩=>⟨v,rfl,(iu S k x.l C1.p).2,by rw[h1,hu],h2⟩
  refine⟨_,_,_,_,_,_,_,_,_,_,_,_,s3.cellsIn 6 rfl,⟨?_,?_⟩⟩
  ·refine ak (kS (rdO (M:=[]) s3)) ?_;rintro v w4 ⟨rfl,c4⟩;have s4:=s3.quiet c4;refine⟨_,rfl,s4.cellsIn 6 rfl,⟨?_,?_⟩⟩
   ·refine ak (eb s4.au) ?_;rintro v w5 ⟨e,rfl,c5⟩;exact⟨_,_,rfl,(s4.quiet c5).ax z6.vs.toArray λ r3 w6 s6=>s6.az 0 rfl u.vs rfl (I6.one _) λ w7 s7=>s7⟩
   ·refine s4.ax z6.vs.toArray λ r4 w5 s5=>⟨s5.cellsIn 7 rfl,ak (eb s5.au) ?_⟩;rintro v w6 ⟨e,rfl,c6⟩;exact⟨_,_,rfl,(s5.quiet c6).az 0 rfl u.vs rfl (I6.one _) λ w7 s7=>s7⟩
  ·refine s3.ax z6.vs.toArray λ r5 w4 s4=>⟨s4.cellsIn 7 rfl,ak (kS (rdO (M:=[_]) s4)) ?_⟩;rintro v w5 ⟨rfl,c5⟩;have s5:=s4.quiet c5;refine⟨_,rfl,s5.cellsIn 7 rfl,ak (eb s5.au) ?_⟩;rintro v w6 ⟨e,rfl,c6⟩;exact⟨_,_,rfl,(s5.quiet c6).az 0 rfl u.vs rfl (I6.one _) λ w7 s7=>s7⟩
 ·obtain rfl:L.length=k:=by omega
  refine cF (dF hlt) (ak (GZ (St.pk (l:=bM b _) s2) hinv.ok) ?_);rintro v w3 (⟨h1,_⟩|⟨_,rfl,C',e,s3⟩)
  ·rw[eo,hov] at h1; cases h1
  ·exact⟨_,_,rfl,rfl,C',e,(St.TM s3).av [0,1,2,3,4,5,7]⟩
end
theorem PZ{b:Nat}{C:Ck}{w:World}(h:C.Rd b w):CP 22 #[pt b] w (λ r w'=>r=.bool C.ov/\w' = w):=by
 refine qq ?_;unfold kH;exact⟨_,h.cell 18 rfl,rfl,rfl⟩
theorem J2(S:Se)(C:Ck)(k:Nat)(l:List Of):(Aj S C.er k l).er=(Aj S C k l).er:=by
 unfold Aj;simp only[BV];show(if dI C k (S.bd.getD k mQ) (iu S k l C.p).1=0 then gh C.er k (iu S k l C.p).1 else if dI C k (S.bd.getD k mQ) z6=0 then gh C.er k z6 else C.er).er=_
 split
 ·exact xz _ _ _
 ·split
  ·exact xz _ _ _
  ·exact He C
theorem Qo{S:Se}{C D:Ck}(h:C.er=D.er)(k:Nat)(l:List Of):(Aj S C k l).er=(Aj S D k l).er:=by rw[<- J2,h,J2]
theorem LX{S:Se}{L:List Lx}{C D:Ck}(h:C.er=D.er):∀ k,(cN S L C k).er=(cN S L D k).er
 | 0=>h
 | k+1=>Qo (LX h k) k _
theorem Iz{C D:Ck}(h:C.er=D.er):(bz C).er=(bz D).er:=by rw[<- oz,h,oz]
def nu(S:Se)(L:List Lx)(C:Ck):Ck:=bz (cN S L C L.length)
theorem Mt{S:Se}{L:List Lx}{C D:Ck}(h:C.er=D.er):(nu S L C).er=(nu S L D).er:=Iz (LX h _)
def mH(S:Se)(L:List Lx):Nat->Ck->Ck
 | 0,C=>C
 | f+1,C=>if C.ov=true then C else mH S L f (nu S L C)
theorem xO{S:Se}{L:List Lx}:∀ (f:Nat) {C D:Ck},C.er=D.er->(mH S L f C).er=(mH S L f D).er
 | 0,_,_,h=>h
 | f+1,C,D,h=>by
  have ho:C.ov=D.ov:=by show C.er.ov=D.er.ov; rw[h]
  unfold mH;rw[ho]
  split
  ·exact h
  ·exact xO f (Mt h)
def runM(S:Se)(o:Po)(L:List Lx):Ck:=mH S L 31 (eW S o)
def o6(S:Se)(o:Po)(n:Nat):Int:=if yX S o≠0 then yX S o else if n≠S.bd.length then 3 else 0
theorem QG{b:Nat}{C:Ck}{w0 w:World}{m:List aC}(s:St w0 w (Sep (bM b C++m))):C.Rd b w:=(s.split (bM b C)).first.imp mV
theorem zl{w:World}{S:Se}(h:S.In w)(o:Po){al:OA}{cl:Nat}{L:List Lx}(hL:MW w al L) :
  CP 7 #[.agg S.arr,o.v,.slice al L.length cl] w (λ r w'=>(o6 S o L.length≠0/\r=.tuple #[.pointer none,iv (o6 S o L.length)]/\ay w w' [])\/(o6 S o L.length=0/\S.Ok/\o.ok/\L.length=S.bd.length/\∃ g C',C'.er=(runM S o L).er/\C'.Inv/\C'.ov=true/\r=.tuple #[.pointer (some ⟨g,0,none⟩),iv 0]/\St w w' (Sep (bM g C')))):=by
 refine CH ?_;unfold Bp;refine(St.start w).one.ax S.arr λ r1 w1 s1=>s1.ax o.cells.toArray λ r2 w2 s2=>⟨_,_,_,_,_,_,_,_,_,_,_,_,s2.cellsIn 1 rfl,_,_,_,_,s2.cellsIn 0 rfl,ak (Rr (h.au s2.au) o) ?_⟩;rintro v w3 (⟨h0,rfl,c3⟩|⟨h0,hs,ho,g,C',eC,rfl,k3⟩)
 ·have e:o6 S o L.length=yX S o:=by rw[o6,if_pos h0]
  exact⟨_,_,rfl,cT (by simpa using h0) (.inl ⟨by rw[e]; exact h0,by rw[e],(s2.quiet c3).au⟩)⟩
 have e:o6 S o L.length=if L.length≠S.bd.length then 3 else 0:=by rw[o6,if_neg (λ h=>h h0)]
 have s3:St w w3 (Sep (Sep (bM g C') :: [ai r2 o.cells.toArray 29,ai r1 S.arr 27,emp])):=s2.and k3;have s3:St w w3 (Sep (bM g C'++[ai r2 o.cells.toArray 29,ai r1 S.arr 27,emp])):=St.cat (l:=bM g C') s3;refine⟨_,_,rfl,cF rfl ⟨_,_,_,s3.ag 7 rfl 1,?_⟩⟩
 by_cases hl:L.length=S.bd.length
 rotate_left
 ·rw[if_pos hl] at e;exact cT (by simp; omega) (.inl ⟨by rw[e]; decide,by rw[e],s3.au⟩)
 rw[if_neg (λ h=>h hl)] at e;refine cF (by simp[hl]) ?_;have s3' : St w w3 (Sep (bM g C'++[Sep [ai r2 o.cells.toArray 29,ai r1 S.arr 27,emp]])):=St.pk (l:=bM g C') s3;refine⟨λ w4 m=>∃ C,m=31-C.cl.length/\C.Inv/\C.s.er=S.er/\(mH S L (31-C.cl.length) C).er=(runM S o L).er/\St w w4 (Sep (bM g C++[Sep [ai r2 o.cells.toArray 29,ai r1 S.arr 27,emp]])),?_,?_⟩
 ·have e0:C'.cl.length=0:=by
   have:=congrArg (λ C:Ck=>C.cl.length) eC;simp only[uT] at this;exact this
  refine⟨31-C'.cl.length,C',rfl,(yY hs ho).er eC,?_,?_,s3'⟩
  ·exact congrArg Ck.s eC
  ·rw[e0]; exact xO 31 eC
 rintro w4 m ⟨C,rfl,hi,hse,hr,s4⟩ -;refine ak (PZ (QG s4)) ?_;rintro v w5 ⟨rfl,rfl⟩;refine⟨_,rfl,?_⟩
 cases hov:C.ov with
 | true =>
  have e1:mH S L (31-C.cl.length) C=C:=by
   cases 31-C.cl.length with
   | zero=>rfl
   | succ f=>unfold mH; rw[if_pos hov]
  rw[e1] at hr;exact cF rfl (.inr ⟨e,hs,ho,hl,g,C,hr,hi,hov,rfl,(s4.split (bM g C)).first⟩)
 | false =>
  have hc:=hi.n30 hov;have s5:=St.TM s4;refine cT rfl ⟨_,_,_,_,_,_,_,_,_,_,_,_,s5.cellsIn 7 rfl,ak (O5 s4 hi (λ hc=>h.au hc) hse (λ hc=>hL.au hc) hl hov) ?_⟩;rintro v w6 ⟨rfl,D,eD,s6⟩;have eD:D.er=(nu S L C).er:=eD;obtain⟨q1,q2,q3⟩:=HU S L C L.length;have hD:D.cl.length=C.cl.length+1:=by
   have:=congrArg (λ C:Ck=>C.cl.length) eD;simp only[uT] at this;rw[this];show(bz (cN S L C L.length)).cl.length=_;show((cN S L C L.length).cl++[_]).length=_;rw[q3]; simp
  refine⟨rfl,31-D.cl.length,by omega,D,rfl,?_,?_,?_,s6⟩
  ·exact(rE (CN hi _) (by rw[q2]; exact hov)).er eD
  ·have:=congrArg Ck.s eD;exact this.trans (by rw[show(nu S L C).er.s=(cN S L C L.length).s.er from rfl,q1]; exact hse)
  ·rw[<- hr,show 31-C.cl.length=(31-D.cl.length)+1 by omega];rw[show mH S L (31-D.cl.length+1) C=mH S L (31-D.cl.length) (nu S L C) from by rw[mH,if_neg (by rw[hov]; decide)]];exact xO _ eD
end Go.Proofs.YtbnolaiklhbkkaaGreatDoor
namespace Go.Proofs.YtbnolaiklhbkkaaGreatDoor
open Go Go.Vc Go.Sort Go.RowKit _root_.Go.Proofs.Tryz
def JY(w:World):Prop:=Lib.TabIs prog w "internal/strconv.uint64pow10" .u64 Lib.pow10Tab
theorem DH(w:World)(k:Nat)(os:Array Obj):ay w (grow (w.drewN k) os) [] :=
 ⟨by simp[grow,World.drewN],λ i hi _=>Array.getElem?_append_left hi,⟨rfl,rfl,rfl⟩⟩
theorem Ix{w w' : World}(h:Below w.heap.size w w'):ay w w' []:=⟨h.size,λ i hi _=>h.block i hi,⟨h.os,h.tape,h.output⟩⟩
theorem JY.au{w w' : World}(h:JY w)(hc:ay w w' []):JY w':=by
 unfold JY Lib.TabIs World.var? at h ⊢
 cases hg:prog.globalNamed "internal/strconv.uint64pow10" with
 | none=>simp[hg] at h
 | some g =>
  simp only[hg,Option.bind_some] at h ⊢;have hlt:g<w.heap.size:=by
   rcases Nat.lt_or_ge g w.heap.size with h' | h'
   ·exact h'
   ·simp[Array.getElem?_eq_none h'] at h
  rw[hc.same g hlt (by simp)];exact h
section
variable {w:World}
theorem mB(ht:JY w){n:Int}(hn:In n):CP 53 #[iv n] w (λ r w'=>r=sv (Lib.itoa n)/\ay w w' []) :=
 (Tryz.strconv_Itoa n hn.1 hn.2 w ht).mono λ _ _ ⟨he,k,os,hw⟩=>⟨_,he,rfl,hw▸DH w k os⟩
theorem KQ(ht:JY w){n:Int}(hn:In n):CP 54 #[iv n,iv 10] w (λ r w'=>r=sv (Lib.itoa n)/\ay w w' []) :=
 (Tryz.strconv_FormatInt_10 n hn.1 hn.2 w ht).mono λ _ _ ⟨he,k,os,hw⟩=>⟨_,he,rfl,hw▸DH w k os⟩
def tv(xs:List (List UInt8)):List UInt8:=Lib.join xs [32]++[10]
end
theorem Ro:∀ (k u:Nat),u<10 ^ (k+1)->Lib.nDigits u<=k+1
 | 0,u,h=>by unfold Lib.nDigits; rw[dif_pos (by simpa using h)]; exact Nat.le_refl _
 | k+1,u,h=>by
  unfold Lib.nDigits
  split
  ·omega
  ·have:=Ro k (u / 10) (by rw[Nat.pow_succ] at h; omega);omega
end Go.Proofs.YtbnolaiklhbkkaaGreatDoor
namespace Go.Proofs.YtbnolaiklhbkkaaGreatDoor
open Go Go.Vc _root_.Go.Proofs.Tryz
abbrev sT (r:List UInt8):List Value:=[sv r]
theorem Ma(r:List UInt8):(sT r).length=1:=rfl
abbrev Tr (a:OA) (c:Nat) (l:List (List UInt8)):aC:=bR 9 1 sT a c l
theorem O8{w:World}{a:OA}{l:List (List UInt8)}(h:cG 1 sT w a l){i:Nat}{x:List UInt8}(hx:l[i]?=some x):∃ q,a=some q/\w.cell? (Addr.add q (i*1))=some (sv x):=by
 obtain⟨q,hq,hc⟩:=h.at hx;exact⟨q,hq,by have:=hc.1; rwa [Addr.add_add,Nat.add_zero] at this⟩
theorem eH(l:List UInt8):(bs l).size=l.length:=by simp[bs,ByteArray.size]
theorem N6:IntKind.i64.max=9223372036854775807:=rfl
theorem Oo{w:World}{b i:Nat}{v:Value}(h:w.cell? ⟨b,i,none⟩=some v):b<w.heap.size:=by
 rcases Nat.lt_or_ge b w.heap.size with h' | h'
 ·exact h'
 ·rw[kE,Array.getElem?_eq_none h'] at h;simp[N3] at h
theorem join_le:∀ {xs:List (List UInt8)} {sep:List UInt8} {m:Nat},(∀ y∈xs,y.length<=m)->(Lib.join xs sep).length<=xs.length*(m+sep.length)
 | [],_,_,_=>by simp[Lib.join_nil]
 | x :: r,sep,m,h=>by
  have hx:=h x (by simp);have hl:Lib.lens r<=r.length*m:=by
   clear hx
   induction r with
   | nil=>simp[Lib.lens]
   | cons y r ih =>
    have h1:=ih λ z hz=>h z (by rcases List.mem_cons.1 hz with rfl|hz; exact List.mem_cons_self ..; exact List.mem_cons_of_mem _ (List.mem_cons_of_mem _ hz));have h2:=h y (by simp);simp only[Lib.lens,List.map_cons,List.sum_cons,List.length_cons] at h1 ⊢;rw[Nat.succ_mul]; omega
  rw[Lib.join_length];have e:Lib.lens (x :: r)=x.length+Lib.lens r:=by simp[Lib.lens]
  have e2:sep.length*r.length=r.length*sep.length:=Nat.mul_comm _ _;rw[e,List.length_cons,Nat.succ_mul,Nat.mul_add,e2];omega
structure Vw where
 ph:Int
 rd:Int
 pr:I6
 ex:I6
 own:List Ch
 oa:Option Addr
 oc:Nat
 dm:List I6
 da:Option Addr
 dc:Nat
 nm:List (List UInt8)
 na:Option Addr
 nc:Nat
section
variable {w0 w:World} {l:List aC} {r:Nat} {T:TypeId} {v:Vw}
end
theorem Ct{xs:List (List UInt8)}(h:∀ y∈xs,y.length<=100):(tv xs).length<=xs.length*101+1:=by
 have:=join_le (sep:=[32]) h;unfold tv;rw[List.length_append,List.length_singleton];simpa using this
theorem Re{xs:List (List UInt8)}(h:∀ y∈xs,y.length<=100)(hn:xs.length<=1000):(Lib.join xs [32]).length<=140737488355328:=by
 have:=join_le (sep:=[32]) h;simp only[List.length_singleton] at this;omega
theorem K9{n:Int}(h:In n):(Lib.itoa n).length<=21:=Lib.itoa_length_le n h.1 h.2
section
variable {ps:List Pr} {v:Vw}
end
theorem xA{w0 w:World}{L:List aC}(s:St w0 w (Sep L))(i:Nat){r:Nat}{cs:Array Value}(e:L[i]?=some (ai r cs 9)){xs:List (List UInt8)}(hcs:cs.toList=xs.flatMap sT)(hn:xs.length<=1000) :
  St w0 w (star (Tr (some ⟨r,0,none⟩) xs.length xs) (Sep (L.eraseIdx i))):=by
 have h1:cs.size=xs.length:=by
  rw[<- Array.length_toList,hcs];exact(ct Ma xs).trans (Nat.mul_one _)
 have:=(s.out i e).weak (bC.left (QC h1 (by unfold maxLen; omega)));rw[hcs] at this;exact this
def zH(a:OA)(b c:Nat)(w:World)(K:KP):=CC 98 #[.slice a b c,.string (bs [32])] w λ a b=>∃ c,a=.returned (.string c)/\((c.size+(bs [10]).size:Nat):Int)<=IntKind.i64.max/\K (.string (c++(bs [10]))) b
theorem AA{a1 l1 c1 w K}(h:zH a1 l1 c1 w K):CP 52 #[.slice a1 l1 c1] w K:=ah (aA []) func52 (by kernel_rfl) (by kernel_rfl) h
def tX(a:OA)(b c:Nat)(d:OA)(e f:Nat)(g:OA)(h i:Nat)(j:OA)(k l:Nat)(w:World)(K:KP):=aq w (.cells #[.slice a b c,.slice d e f,.slice g h i,.slice j k l] 27) λ a b=>∃ c d e f g h i j k l m n,af b (qd a 0) 0 [.slice c d e,.slice f g h,.slice i j k,.slice l m n]/\CC 42 #[.agg #[.slice c d e,.slice f g h,.slice i j k,.slice l m n]] b λ b c=>∃ d,b=.returned (iv d)/\cond (d !=0) (K (.tuple #[.string (bs []),iv d]) c) (∃ b d e,c.cell? (qd a 0)=some (.slice b d e)/\∃ e:ByteArray->Int->qN,(∃ f,e (bs []) (0:Int) c f)/\∀ c f g h,e g h c f->∀ i:qv,cond (decide (h<(d:Int))) (an b λ b=>0<=h/\h<(d:Int)/\∃ d i j k l,af c (Addr.add b ((h).toNat*5)) 0 [.string d,iv i,iv j,iv k,iv l]/\aq c (.cells #[.string (bs []),qz,qz,qz,qz] 94) λ b m=>aL (qd b 0) 0 [.string d,iv i,iv j,iv k,iv l] m λ d=>∃ i,d.drew.cell? (qd b 0)=some (.string i)/\∃ j,d.drew.cell? (qd b 1)=some (iv j)/\∃ k,d.drew.cell? (qd b 2)=some (iv k)/\∃ l,d.drew.cell? (qd b 3)=some (iv l)/\∃ m,d.drew.cell? (qd b 4)=some (iv m)/\CC 53 #[iv j] d.drew λ d j=>∃ n,d=.returned (.string n)/\j.cell? (qd b 4)=some (iv m)/\j.cell? (qd b 3)=some (iv l)/\j.cell? (qd b 2)=some (iv k)/\j.cell? (qd b 0)=some (.string i)/\CC 54 #[iv k,iv 10] j λ d j=>∃ k,d=.returned (.string k)/\j.cell? (qd b 4)=some (iv m)/\j.cell? (qd b 3)=some (iv l)/\j.cell? (qd b 0)=some (.string i)/\CC 53 #[iv l] j λ d j=>∃ l,d=.returned (.string l)/\j.cell? (qd b 4)=some (iv m)/\j.cell? (qd b 0)=some (.string i)/\CC 53 #[iv m] j λ d j=>∃ m,d=.returned (.string m)/\j.cell? (qd b 0)=some (.string i)/\aq j (.cells #[.string (bs [112,114,111,100,117,99,116]),.string i,.string n,.string k,.string l,.string m] 9) λ b d=>CC 52 #[.slice (some (qd b 0)) 6 6] d λ b d=>∃ i,b=.returned (.string i)/\((g.size+i.size:Nat):Int)<=IntKind.i64.max/\∃ b,b<f/\e (g++i) (IntKind.i64.wrap (h+1)) d b) (∃ b d e,c.cell? (qd a 1)=some (.slice b d e)/\∃ e:ByteArray->Int->qN,(∃ f,e g 0 c f)/\∀ c f g h,e g h c f->∀ i:qv,cond (decide (h<(d:Int))) (an b λ b=>0<=h/\h<(d:Int)/\∃ d i j k,af c (Addr.add b ((h).toNat*4)) 0 [.string d,iv i,iv j,iv k]/\aq c (.cells #[.string (bs []),qz,qz,qz] 96) λ b l=>aL (qd b 0) 0 [.string d,iv i,iv j,iv k] l λ d=>∃ i,d.drew.cell? (qd b 0)=some (.string i)/\∃ j,d.drew.cell? (qd b 1)=some (iv j)/\∃ k,d.drew.cell? (qd b 2)=some (iv k)/\∃ l,d.drew.cell? (qd b 3)=some (iv l)/\CC 53 #[iv j] d.drew λ d j=>∃ m,d=.returned (.string m)/\j.cell? (qd b 3)=some (iv l)/\j.cell? (qd b 2)=some (iv k)/\j.cell? (qd b 0)=some (.string i)/\CC 54 #[iv k,iv 10] j λ d j=>∃ k,d=.returned (.string k)/\j.cell? (qd b 3)=some (iv l)/\j.cell? (qd b 0)=some (.string i)/\CC 53 #[iv l] j λ d j=>∃ l,d=.returned (.string l)/\j.cell? (qd b 0)=some (.string i)/\aq j (.cells #[.string (bs [98,105,100,100,101,114]),.string i,.string m,.string k,.string l] 9) λ b d=>CC 52 #[.slice (some (qd b 0)) 5 5] d λ b d=>∃ i,b=.returned (.string i)/\((g.size+i.size:Nat):Int)<=IntKind.i64.max/\∃ b,b<f/\e (g++i) (IntKind.i64.wrap (h+1)) d b) (∃ b d e,c.cell? (qd a 2)=some (.slice b d e)/\∃ e:ByteArray->Int->qN,(∃ f,e g 0 c f)/\∀ c f g h,e g h c f->∀ i:qv,cond (decide (h<(d:Int))) (an b λ b=>0<=h/\h<(d:Int)/\∃ d i j,af c (Addr.add b ((h).toNat*3)) 0 [iv d,iv i,iv j]/\aq c (.cells #[qz,qz,qz] 98) λ b k=>aL (qd b 0) 0 [iv d,iv i,iv j] k λ d=>∃ i:ByteArray->qW,(∀ j k,i k j->∀ l:qv,∃ l,j.drew.cell? (qd b 1)=some (iv l)/\∃ m,j.drew.cell? (qd b 2)=some (iv m)/\CC 53 #[iv l] j.drew λ j l=>∃ n,j=.returned (.string n)/\l.cell? (qd b 2)=some (iv m)/\CC 53 #[iv m] l λ j l=>∃ m,j=.returned (.string m)/\aq l (.cells #[.string (bs [99,97,112]),.string k,.string n,.string m] 9) λ j k=>CC 52 #[.slice (some (qd j 0)) 4 4] k λ j k=>∃ l,j=.returned (.string l)/\((g.size+l.size:Nat):Int)<=IntKind.i64.max/\∃ j,j<f/\e (g++l) (IntKind.i64.wrap (h+1)) k j)/\∃ e,d.cell? (qd b 0)=some (iv e)/\cond (decide (e>=0)) (∃ e f h,d.cell? (qd a 1)=some (.slice e f h)/\∃ h,d.cell? (qd b 0)=some (iv h)/\an e λ b=>0<=h/\h<(f:Int)/\∃ e,d.cell? (Addr.add b ((h).toNat*4))=some (.string e)/\i e d) (i (bs [42]) d)) (∃ b d e,c.cell? (qd a 3)=some (.slice b d e)/\∃ e:ByteArray->Int->qN,(∃ f,e g 0 c f)/\∀ c f g h,e g h c f->∀ i:qv,cond (decide (h<(d:Int))) (an b λ b=>0<=h/\h<(d:Int)/\∃ d i j,af c (Addr.add b ((h).toNat*3)) 0 [iv d,iv i,iv j]/\aq c (.cells #[qz,qz,qz] 100) λ b k=>aL (qd b 0) 0 [iv d,iv i,iv j] k λ d=>∃ i j k,d.drew.cell? (qd a 0)=some (.slice i j k)/\∃ l,d.drew.cell? (qd b 0)=some (iv l)/\an i λ m=>0<=l/\l<(j:Int)/\∃ n,d.drew.cell? (Addr.add m ((l).toNat*5))=some (.string n)/\∃ o,d.drew.cell? (qd b 1)=some (iv o)/\∃ p,d.drew.cell? (qd b 2)=some (iv p)/\CC 53 #[iv o] d.drew λ d o=>∃ q,d=.returned (.string q)/\o.cell? (qd b 2)=some (iv p)/\o.cell? (Addr.add m ((l).toNat*5))=some (.string n)/\o.cell? (qd b 0)=some (iv l)/\o.cell? (qd a 0)=some (.slice i j k)/\CC 53 #[iv p] o λ d o=>∃ p,d=.returned (.string p)/\o.cell? (Addr.add m ((l).toNat*5))=some (.string n)/\o.cell? (qd b 0)=some (iv l)/\o.cell? (qd a 0)=some (.slice i j k)/\aq o (.cells #[.string (bs [97,115,105,100,101]),.string n,.string q,.string p] 9) λ a b=>CC 52 #[.slice (some (qd a 0)) 4 4] b λ a b=>∃ d,a=.returned (.string d)/\((g.size+d.size:Nat):Int)<=IntKind.i64.max/\∃ a,a<f/\e (g++d) (IntKind.i64.wrap (h+1)) b a) (K (.tuple #[.string g,qz]) c)))))
theorem xe{a1 l1 c1 a2 l2 c2 a3 l3 c3 a4 l4 c4 w K}(h:tX a1 l1 c1 a2 l2 c2 a3 l3 c3 a4 l4 c4 w K):CP 25 #[.agg #[.slice a1 l1 c1,.slice a2 l2 c2,.slice a3 l3 c3,.slice a4 l4 c4]] w K:=ah (aA [(122,[(5,.s .str),(23,.s (.int .i64))]),(250,[(5,.s .str),(49,.s (.int .i64))]),(506,[(5,.s .str),(72,.s (.int .i64))]),(64819,[(12,.s .str)]),(1018,[(5,.s .str),(101,.s (.int .i64))])]) func25 (by kernel_rfl) (by kernel_rfl) h

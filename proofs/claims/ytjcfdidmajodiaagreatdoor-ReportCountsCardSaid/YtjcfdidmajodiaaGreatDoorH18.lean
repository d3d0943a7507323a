import Derived.Test.YtjcfdidmajodiaaGreatDoorTie
import Derived.Test.YtjcfdidmajodiaaGreatDoorCards
import Derived.DataReads
import Derived.ProofKit
import Derived.ChangeOld
import Derived.ChangeSlices
import Derived.Below
import Derived.Lay
import Derived.Lib.SmallJoins
import Derived.Lib.LaidTab
import Derived.ChangeSame
import Derived.ChangeVars
import Derived.JoinedOf
import Derived.LaidLaws
import Derived.LaidHandle
import Derived.Stop.Joined
import Derived.Stop.LaidErr
import Derived.SevenTiedAt
import Derived.Test.YtjcfdidmajodiaaGreatDoorH17
set_option linter.unusedVariables false
set_option linter.defProp false
set_option maxRecDepth 100000
namespace Go.Proofs.YtjcfdidmajodiaaGreatDoor
open Go Go.Vc _root_.Go.Proofs.Tryz
def Yu:j7 prog 30 58 (.agg M6.cells.toArray) 6 72:=j7.mk' underlying30 (by kernel_rfl) rfl (by decide)
abbrev I3 (a:OA) (c:Nat) (l:List Bs):aI:=dK 58 6 Bs.cells a c l
def SP{w:af}{M:Sm}(h:M.In w)(D:M.bs.length<=1000) :
  CP 7 #[.agg M.cells.toArray] w (λ r w'=>∃ (ba:OA) (bc:Nat),r=.agg ({ M with ba:=ba,bc:=bc }:Sm).cells.toArray/\St w w' (held λ o=>cP 6 Bs.cells o ba M.bs)):=by
 refine ue.2.2.2.2.2.1 ?_;refine aG M.cells.toArray λ r1 G s1=>s1.aB gz.cells.toArray λ r2 B s2=>?_;have s2:St w B (Sep [aj r2 gz.cells.toArray 33,aj r1 M.cells.toArray 37,emp]):=s2;refine Ex8 ⟨_,_,_,s2.aQ 1 0 rfl rfl,_,s2.ag 1 rfl 11,_,_,_,s2.ag 1 rfl 12,_,_,_,s2.ag 1 rfl 14,s2.aB gz.cells.toArray λ r3 H u=>u.az 0 rfl ({ M with bs:=[],ba:=none,bc:=0 }:Sm).cells rfl (Sm.one _) λ C v=>?_⟩;refine⟨λ n w' m=>∃ (k:Nat) (ba:OA) (bc:Nat),n=k/\k<=M.bs.length/\m=M.bs.length-k/\St w w' (Sep [I3 ba bc (M.bs.take k),aj r3 ({ M with bs:=M.bs.take k,ba:=ba,bc:=bc }:Sm).cells.toArray 33,aj r2 gz.cells.toArray 33,aj r1 M.cells.toArray 37,emp]),⟨M.bs.length,0,none,0,rfl,by omega,by omega,?_⟩,?_⟩
 ·have a:St w C (Sep (aj r3 ({ M with bs:=[],ba:=none,bc:=0 }:Sm).cells.toArray 33 :: [aj r2 gz.cells.toArray 33,aj r1 M.cells.toArray 37,emp])):=v;exact a.dy
 rintro I m1 t ⟨k,ba,bc,rfl,E,hm,a⟩ -;refine⟨_,_,_,a.ag 3 rfl 13,?_⟩
 by_cases c:(k:Int)<(M.bs.length:Int)
 ·obtain⟨x,p⟩:=bx M.bs k (by omega);obtain⟨q,s,e⟩:=(h.av a.av).bs.at p;have F:(M.bs.take k).length=k:=by rw[di]; omega
  refine aP c ⟨_,_,_,a.ag 3 rfl 13,aq s ⟨by omega,by omega,Ex8 ⟨e,a.aB M6.cells.toArray λ r4 J y=>y.az 0 rfl x.cells rfl x.one λ K b=>?_⟩⟩⟩;refine⟨ba,(M.bs.take k).length,bc,b.ag 2 rfl 13,_,b.ag 0 rfl 0,_,b.ag 0 rfl 1,_,b.ag 0 rfl 2,_,b.ag 0 rfl 3,_,b.ag 0 rfl 4,_,_,_,b.ag 0 rfl 5,dw (l:=M.bs.take k) Yu Bs.len x.one (x:=x) (b.out 1 rfl) (by omega) (by omega) (λ a' c' w' g=>?_) rfl⟩;have g:St w w' (Sep (aj r4 x.cells.toArray 54 :: I3 a' c' (M.bs.take k++[x]) :: [aj r3 ({ M with bs:=M.bs.take k,ba:=ba,bc:=bc }:Sm).cells.toArray 33,aj r2 gz.cells.toArray 33,aj r1 M.cells.toArray 37,emp])):=g.back (i:=1) (by show 1<6; decide);refine g.aN 2 rfl (j:=13) (by show 13<15; decide) rfl λ z f=>⟨M.bs.length-(k+1),by omega,k+1,a',c',cA (by omega),by omega,rfl,?_⟩;rw[aH p];exact f.second
 obtain rfl:k=M.bs.length:=by omega
 rw[br] at a;refine aU c (Ex8<|Ex8<|Ex4<|⟨_,a.cellsIn 1 rfl,a.az 2 rfl ({ M with ba:=ba,bc:=bc }:Sm).cells rfl (Sm.one _) λ A d=>(Ex8<|Ex8<|Ex4<|⟨_,d.cellsIn 2 rfl,ba,bc,rfl,?_⟩)⟩);exact((d.ay [0]).qj (bn Bs.len)).single
def KY{w:af}{a1:OA}{c1:Nat}{a2:OA}{c2:Nat}{l:List Int}(h1:cP 1 i1 w a1 l)(h2:cP 1 i1 w a2 l)(i:l.length<=1000000) :
  CP 15 #[.slice a1 l.length c1,.slice a2 l.length c2] w (λ r w'=>r=.bool true/\aC w w' []):=by
 refine(p6 ue).2.1 ?_;refine cF (by simp) ⟨λ n w' m=>∃ k:Nat,n=k/\k<=l.length/\m=l.length-k/\aC w w' [],⟨l.length,0,rfl,by omega,by omega,aC.refl _ _⟩,?_⟩;rintro g m n ⟨k,rfl,h,hm,hc⟩ -
 by_cases a:(k:Int)<(l.length:Int)
 ·obtain⟨x,f⟩:=bx l k (by omega);have hd:aC w g.drew []:=hc.trans (aC.drew g []) (by simp);obtain⟨j,d,b⟩:=dA (h1.av hd) f;obtain⟨o,e,c⟩:=dA (h2.av hd) f;refine aP a (aq d ⟨by omega,by omega,x,b,aq e ⟨by omega,by omega,x,c,cF (by simp) (jZ (by omega) hd)⟩⟩)
 ·exact aU a ⟨rfl,hc⟩
def Wm{w:af}{c f:Sm}(h1:c.In w)(h2:f.In w)(e:c.er=f.er)(l1:c.ps.length<=1000)(l2:c.bs.length<=1000)(l3:c.rr.length<=1000)(l4:∀ x∈c.bs,x.pts.length<=1000) :
  CP 6 #[.agg c.cells.toArray,.agg f.cells.toArray] w (λ r w'=>r=.bool true/\aC w w' []):=by
 refine(p6 ue).1 ?_;have V:f.cn=c.cn:=show f.er.cn=c.er.cn by rw[e]
 have W:f.rf=c.rf:=show f.er.rf=c.er.rf by rw[e]
 have I:f.ps=c.ps:=show f.er.ps=c.er.ps by rw[e]
 have M:f.bs.map Bs.er=c.bs.map Bs.er:=show f.er.bs=c.er.bs by rw[e]
 have N:f.rr=c.rr:=show f.er.rr=c.er.rr by rw[e]
 have X:f.bs.length=c.bs.length:=by have:=congrArg List.length M; simpa using this
 refine aG c.cells.toArray λ r1 w1 s1=>s1.aB f.cells.toArray λ r2 w2 s2=>?_;have s2:St w w2 (Sep [aj r2 f.cells.toArray 33,aj r1 c.cells.toArray 33,emp]):=s2;let Q:af->Prop:=λ w'=>St w w' (Sep [aj r2 f.cells.toArray 33,aj r1 c.cells.toArray 33,emp]);refine⟨λ b w'=>b=false/\Q w',?_,Ex8 ⟨_,_,_,s2.aQ 1 0 rfl rfl,Ex8 ⟨_,_,_,s2.aQ 0 0 rfl rfl,cF (by rw[V]; simp) ⟨_,s2.ag 1 rfl 11,_,s2.ag 0 rfl 11,cF (by rw[W]; simp) ⟨_,_,_,s2.ag 1 rfl 12,_,_,_,s2.ag 0 rfl 12,cF (by rw[I]; simp) ⟨_,_,_,s2.ag 1 rfl 13,_,_,_,s2.ag 0 rfl 13,cF (by rw[X]; simp) ⟨_,_,_,s2.ag 1 rfl 14,_,_,_,s2.ag 0 rfl 14,?_⟩⟩⟩⟩⟩⟩⟩
 ·rintro w3 b ⟨rfl,s3⟩ -;refine cF rfl ⟨λ n w' m=>∃ k:Nat,n=k/\k<=c.ps.length/\m=c.ps.length-k/\Q w',⟨c.ps.length,0,rfl,by omega,by omega,s3⟩,?_⟩;rintro w4 m1 n ⟨k,rfl,O,hm,L⟩ -;refine⟨_,_,_,L.ag 1 rfl 12,?_⟩
  by_cases o:(k:Int)<(c.ps.length:Int)
  ·obtain⟨u,F⟩:=bx c.ps k (by omega);have z:=L.quiet (aC.drew w4 []);obtain⟨P,D,A⟩:=(h1.av z.av).ps.at F;obtain⟨R,E,C⟩:=(h2.av z.av).ps.at (by rw[I]; exact F);refine aP o ⟨_,_,_,z.ag 1 rfl 12,aq D ⟨by omega,by omega,u,A,_,_,_,z.ag 0 rfl 12,aq E ⟨by omega,by rw[I]; omega,u,C,cF (by simp[I6.beq]) (jZ (by omega) z)⟩⟩⟩
  refine aU o ⟨λ n w' m=>∃ k:Nat,n=k/\k<=c.bs.length/\m=c.bs.length-k/\Q w',⟨c.bs.length,0,rfl,by omega,by omega,L⟩,?_⟩;clear o hm O;rintro S m3 n ⟨k,rfl,O,hm,z⟩ -;refine⟨_,_,_,z.ag 1 rfl 13,?_⟩
  by_cases o:(k:Int)<(c.bs.length:Int)
  ·obtain⟨x,F⟩:=bx c.bs k (by omega);obtain⟨y,J⟩:=bx f.bs k (by omega);have j:x.er=y.er:=by
    have g1:(c.bs.map Bs.er)[k]?=some x.er:=by rw[dD,F]; rfl
    have g2:(f.bs.map Bs.er)[k]?=some y.er:=by rw[dD,J]; rfl
    rw[M,g1] at g2;exact qP g2
   have x1:y.nm=x.nm:=show y.er.nm=x.er.nm by rw[j]
   have x2:y.dm=x.dm:=show y.er.dm=x.er.dm by rw[j]
   have x3:y.bi=x.bi:=show y.er.bi=x.er.bi by rw[j]
   have x4:y.wd=x.wd:=show y.er.wd=x.er.wd by rw[j]
   have x5:y.out=x.out:=show y.er.out=x.er.out by rw[j]
   have U:y.pts=x.pts:=show y.er.pts=x.er.pts by rw[j]
   have G:St w S.drew (Sep [aj r2 f.cells.toArray 33,aj r1 c.cells.toArray 33,emp]):=z.quiet (aC.drew S []);obtain⟨P,D,A⟩:=h1.bs.at F;obtain⟨R,E,C⟩:=h2.bs.at J;have p:∀ {w':af} {l:List aI},St w w' (Sep l)->aA w' (P.add (k*6)) 0 x.cells:=λ s=>bB s.av A;have g:∀ {w':af} {l:List aI},St w w' (Sep l)->aA w' (R.add (k*6)) 0 y.cells:=λ s=>bB s.av C;refine aP o ⟨λ a b w'=>∃ B:List aI,St w w' (Sep (aj a x.cells.toArray 58 :: aj b y.cells.toArray 58 :: B))/\Q w',?_,_,_,_,G.ag 1 rfl 13,aq D ⟨by omega,by omega,Ex8 ⟨p G,_,_,_,G.ag 0 rfl 13,aq E ⟨by omega,by omega,Ex8 ⟨g G,?_,?_⟩⟩⟩⟩⟩
   ·rintro w6 r3 r4 ⟨B,i,Y⟩ -;refine⟨λ b w'=>b=false/\Q w',?_,_,i.ag 0 rfl 0,_,i.ag 1 rfl 0,cF (by rw[x1,HO _ _ rfl]; rfl) ⟨_,i.ag 0 rfl 1,_,i.ag 1 rfl 1,cF (by rw[x2]; simp) ⟨_,i.ag 0 rfl 2,_,i.ag 1 rfl 2,cF (by rw[x3]; simp) ⟨_,i.ag 0 rfl 3,_,i.ag 1 rfl 3,cF (by rw[x4]; simp) ⟨_,i.ag 0 rfl 4,_,i.ag 1 rfl 4,cF (by rw[x5]; simp) ⟨_,_,_,i.ag 0 rfl 5,_,_,_,i.ag 1 rfl 5,?_⟩⟩⟩⟩⟩⟩
    ·rintro T b ⟨rfl,Z⟩ -;exact cF rfl (jZ (by omega) Z)
    ·have i2:=(h2.av i.av).bi y (bf J);have K:=(h1.av i.av).bi x (bf F);have:=l4 x (bf F);rw[Bs.In,U] at i2;rw[U];refine au (KY K i2 (by omega)) ?_;rintro v T ⟨rfl,H⟩;exact⟨true,rfl,rfl,St.quiet Y H⟩
   ·exact G.aB M6.cells.toArray λ r5 w9 t=>⟨g t,t.ag 1 rfl 13,p t,t.ag 2 rfl 13,t.aB M6.cells.toArray λ r6 w10 d=>⟨g d,d.ag 2 rfl 13,p d,d.ag 3 rfl 13,d.az 1 rfl x.cells rfl x.one λ w11 h=>⟨g h,h.ag 2 rfl 13,h.az 0 rfl y.cells rfl y.one λ w12 q=>⟨[],q.ay [1,0],q.ay [2,3,4]⟩⟩⟩⟩
   ·exact G.aB M6.cells.toArray λ r7 w13 t=>⟨g t,t.ag 1 rfl 13,p t,t.ag 2 rfl 13,t.aB M6.cells.toArray λ r8 w14 d=>⟨g d,d.ag 2 rfl 13,p d,d.ag 3 rfl 13,d.az 0 rfl x.cells rfl x.one λ w15 h=>⟨g h,h.ag 2 rfl 13,h.az 1 rfl y.cells rfl y.one λ w16 q=>⟨[],q.ay [0,1],q.ay [2,3,4]⟩⟩⟩⟩
  exact aU o ⟨rfl,z.av⟩
 ·rw[N];have i2:=(h2.av s2.av).rr;rw[N] at i2;refine au (KY (h1.av s2.av).rr i2 (by omega)) ?_;rintro v T ⟨rfl,H⟩;exact⟨true,rfl,rfl,St.quiet s2 H⟩
def c8(f:Nat->Int):List Value:=[iv (f 0),iv (f 1),iv (f 2),iv (f 3),iv (f 4),iv (f 5),iv (f 6),iv (f 7)]
def vt(f:Nat->Int){i:Nat}(hi:i<8):(c8 f).toArray[i]?=some (iv (f i)):=by
 match i,hi with
 | 0,_|1,_|2,_|3,_|4,_|5,_|6,_|7,_=>rfl
def HP(f:Nat->Int){i:Nat}(hi:i<8):(c8 f).toArray.setIfInBounds i (iv (f i+1))=(c8 (dB f i)).toArray:=by
 match i,hi with
 | 0,_|1,_|2,_|3,_|4,_|5,_|6,_|7,_=>rfl
def R0(o:Po):Rs:={ o:=o,ph:=0,s:=dL,C:=W0,has:=[],ex:=[],out:=[],dec:=0,cnt:=0,dig:=0,ha:=none,hc:=0,ea:=none,ec:=0,oa:=none,oc:=0 }
def Xf(o:Po):QY (R0 o):=⟨OW o,λ h=>absurd rfl h,λ _=>rfl,rfl,rfl,λ h=>absurd rfl h,λ h=>absurd (show(0:Int)=1 from h) (by decide),λ h=>absurd rfl h⟩
def W3(w:af):dL.In w:=(Ks (⟨0,0,0,0⟩:Po) w).h.1
def Pz(w:af)(o:Po):CP 24 #[o.v] w (λ r w'=>r=.agg (R0 o).cells.toArray/\aC w w' []):=by
 refine Cd.2.2.2.2.2.1 ?_;exact aG o.cells.toArray λ r1 b s1=>s1.aB _ λ r2 c s2=>⟨_,_,_,_,s2.cellsIn 1 rfl,s2.az 0 rfl (R0 o).cells rfl (R0 o).one λ d a=>(Ex8<|Ex8<|Ex8<|Ex8<|Ex4<|⟨z6,Ex8<|Ex8<|Ex4<|⟨_,_,St.cellsIn (cs:=(R0 o).cells.toArray) a 0 rfl,rfl,a.av⟩⟩)⟩
def SW(r1 r2 r3 r5 b d:Nat)(o:Po)(σ:Cs)(a:OA)(c:Nat):List aI :=
 [aj r3 (nr σ a c).cells.toArray 33,rY a c σ.rr,aj r5 (c8 σ.dm).toArray 92,aj b (c8 σ.bi).toArray 92,aj d (c8 σ.wd).toArray 92,aj r2 gz.cells.toArray 33,aj r1 o.cells.toArray 24,emp]
def QI(w0 w':af)(r1 r2 r3 r4 r5 b d:Nat)(o:Po)(σ:Cs):Prop:=∃ (R:Rs) (a:OA) (c:Nat),σ.S=R.cL.er/\σ.C=R.C.er/\QY R/\(R.ph=0->R.C.cl=[])/\St w0 w' (Sep (aj r4 R.cells.toArray 90 :: held R.C.bF :: held R.dR :: SW r1 r2 r3 r5 b d o σ a c))
def QT(r1 r2 r3 r4 r5 a b:Nat)(o:Po)(σ:Cs)(R:Rs)(M:Sm):List aI :=
 [aj r3 M.cells.toArray 33,I3 M.ba M.bc M.bs,held (mL M.bs),Wi M.pa M.pc M.ps,rY M.ra M.rc M.rr,aj r4 R.cells.toArray 90,held R.C.bF,held R.dR,aj r5 (c8 σ.dm).toArray 92,aj a (c8 σ.bi).toArray 92,aj b (c8 σ.wd).toArray 92,aj r2 gz.cells.toArray 33,aj r1 o.cells.toArray 24,emp]
set_option maxHeartbeats 4000000 in
theorem Er{w:af}{al:OA}{cl:Nat}{l:List Ev}(o:Po)(h:cP 11 Ev.cells w al l)(hi:∀ e∈l,e.In)(ht:∀ e∈l,e.text.length<=80000)(hl:l.length<=61) :
  CP 9 #[.slice al l.length cl,o.v] w (λ r w'=>∃ M:Sm,r=.agg M.cells.toArray/\M.er=UA (lO o l)/\St w w' (held M.In)):=by
 refine XL.1 ?_;refine aG o.cells.toArray λ r1 w1 s1=>s1.aB gz.cells.toArray λ r2 w2 s2=>s2.aB gz.cells.toArray λ r3 w3 s3=>⟨_,_,_,_,s3.cellsIn 2 rfl,au (Pz w3 o) ?_⟩;rintro _ w4 ⟨rfl,c4⟩;have s4:St w w4 (Sep [aj r3 gz.cells.toArray 33,aj r2 gz.cells.toArray 33,aj r1 o.cells.toArray 24,emp]):=s3.quiet c4;refine Ex8<|Ex8<|Ex8<|Ex8<|Ex4<|⟨z6,Ex8<|Ex8<|Ex4<|⟨_,_,rfl,s4.aB _ λ r4 w5 s5=>?_⟩⟩;obtain⟨Z,hZ,s5⟩:∃ Z:Array Value,Z.size=34/\St w w5 (Sep [aj r4 Z 90,aj r3 gz.cells.toArray 33,aj r2 gz.cells.toArray 33,aj r1 o.cells.toArray 24,emp]):=⟨_,rfl,s5⟩;refine s5.az 0 rfl (R0 o).cells (by rw[hZ]; rfl) (R0 o).one λ w6 s6=>s6.aB (c8 λ _=>0).toArray λ r5 w7 s7=>s7.aB (c8 λ _=>0).toArray λ u w8 s8=>s8.aB (c8 λ _=>0).toArray λ A w9 s9=>?_;have s9:St w w9 (Sep [aj A (c8 λ _=>0).toArray 92,aj u (c8 λ _=>0).toArray 92,aj r5 (c8 λ _=>0).toArray 92,aj r4 (R0 o).cells.toArray 90,aj r3 gz.cells.toArray 33,aj r2 gz.cells.toArray 33,aj r1 o.cells.toArray 24,emp]):=s9;refine⟨λ n w' m=>∃ k:Nat,n=k/\k<=l.length/\m=l.length-k/\QI w w' r1 r2 r3 r4 r5 u A o (lO o (l.take k)),⟨l.length,0,rfl,by omega,by omega,?_⟩,?_⟩
 ·have t0:St w w9 (Sep [rY none 0 [],aj A (c8 λ _=>0).toArray 92,aj u (c8 λ _=>0).toArray 92,aj r5 (c8 λ _=>0).toArray 92,aj r4 (R0 o).cells.toArray 90,aj r3 gz.cells.toArray 33,aj r2 gz.cells.toArray 33,aj r1 o.cells.toArray 24,emp]):=s9.dy;have t1:=St.jx (Q:=W0.bF) (St.jx (Q:=(R0 o).dR) t0 λ w'=>⟨W3 w',BM.nil,BM.nil,λ x J=>(by cases J),BM.nil⟩) λ w'=>⟨BM.nil,BM.nil,BM.nil,BM.nil,λ x J=>(by cases J),aO 0⟩;exact⟨R0 o,none,0,(Kr o).symm,rfl,Xf o,λ _=>rfl,t1.ay [6,0,1,7,2,5,4,3,8,9,10]⟩
 rintro w10 m1 n21 ⟨k,rfl,hk,hm,R,a,c,eS,eC,hR,hz,s10⟩ -;have IV:=I0 o (l.take k) λ e he=>hi e (eX he);have hlk:(l.take k).length=k:=by rw[di]; omega
 rw[hlk] at IV
 by_cases hlt:(k:Int)<(l.length:Int)
 ·obtain⟨e,J⟩:=bx l k (by omega);have hem:=bf J;have hie:=hi e hem;obtain⟨q,T,-⟩:=h.at J;have ev:∀ {w':af},aC w w' []->aA w' (Addr.add q (k*11)) 0 e.cells:=λ hc=>by
   obtain⟨q',hq',hcl⟩:=(h.av hc).at J;rw[T] at hq'; cases hq'; exact hcl
  have eQ:lO o (l.take (k+1))=iU (lO o (l.take k)) e:=by rw[aH J,CQ]
  generalize lO o (l.take k)=σ at *;have hbd:=IV.bd;have hrr:=IV.rr;have hap:qx σ.S σ.C e=qx R.cL R.C e:=by rw[eS,eC,Nw]
  refine aP hlt ⟨λ w'=>QI w w' r1 r2 r3 r4 r5 u A o (iU σ e),λ w' hw _=>(jZ (by omega) (by rw[eQ]; exact hw)),λ r8 n w'=>∃ R':Rs,n=qx R.cL R.C e/\QY R'/\(qx R.cL R.C e=0->R'.cL.er=(kr R.cL R.C e).er/\R'.C.er=(QM R.cL R.C e).er)/\(qx R.cL R.C e≠0->R'=R)/\St w w' (Sep (aj r8 R'.cells.toArray 90 :: held R'.C.bF :: held R'.dR :: aj r4 R.cells.toArray 90 :: SW r1 r2 r3 r5 u A o σ a c)),?_,?_⟩
  ·rintro w12 r8 n22 ⟨R',rfl,K,B,h1,s12⟩ -
   by_cases ha:qx R.cL R.C e=0
   rotate_left
   ·have hr:=hbd.2;have eR:=h1 ha;subst eR;refine cT (by simpa using ha) ⟨σ.rf,s12.ag 4 rfl 11,?_⟩;rw[cA (by omega)];have e1:iU σ e={ σ with rf:=σ.rf+1 }:=by unfold iU; rw[ak (by rw[hap]; exact ha)]
    refine s12.aN 4 rfl (j:=11) (by show 11<15; decide) rfl λ w13 s13=>⟨R',a,c,by rw[e1]; exact eS,by rw[e1]; exact eC,K,hz,?_⟩;rw[e1];exact s13.ay [3,1,2,4,5,6,7,8,9,10,11]
   obtain⟨eS',eC'⟩:=B ha;obtain⟨hs,hE⟩:=qX ha;obtain⟨g1,g2,g3,g4,g5⟩:=jP hs;have hRg:=eH g1 hie.d;obtain⟨Ky,phN⟩:=JQ hR.so ha hie;obtain⟨kk,hkk⟩:∃ kk:Nat,e.kind=kk:=⟨e.kind.toNat,(j4 hRg.k.1).symm⟩;obtain⟨n,hn⟩:∃ n:Nat,e.bidder=n:=⟨e.bidder.toNat,(j4 hRg.b.1).symm⟩;have hk1:kk<11:=by have:=hRg.k; omega
   have L:n<8:=by have:=hRg.b; omega
   have hph':R'.ph=(kr R.cL R.C e).ph:=show R'.cL.er.ph=(kr R.cL R.C e).er.ph by rw[eS']
   have hz':R'.ph=0->R'.C.cl=[]:=λ h=>absurd (hph'.symm.trans h) phN;have hst:iU σ e={ S:=(kr σ.S σ.C e).er,C:=(QM σ.S σ.C e).er,cn:=dB σ.cn kk,rf:=σ.rf,dm:=if (kk:Int)=2 then dB σ.dm n else σ.dm,bi:=if (kk:Int)=5 then dB σ.bi n else σ.bi,wd:=if (kk:Int)=6 then dB σ.wd n else σ.wd,rr:=if (kk:Int)=8 then σ.rr++[e.round] else σ.rr }:=by
    unfold iU;rw[ah (by rw[hap]; exact λ h=>h ha),hkk,hn,aD,aD]
   have eS2:(iU σ e).S=R'.cL.er:=by rw[hst]; show(kr σ.S σ.C e).er=_; rw[eS,eC,Nx,eS']
   have eC2:(iU σ e).C=R'.C.er:=by rw[hst]; show(QM σ.S σ.C e).er=_; rw[eS,eC,eC']; exact y5 R.cL R.C e
   refine cF (by rw[ha]; rfl) (Ex8<|Ex8<|Ex8<|Ex8<|Ex4<|⟨R'.C.p,Ex8<|Ex8<|Ex4<|⟨_,_,s12.cellsIn 0 rfl,s12.az 3 rfl R'.cells rfl R'.one λ w14 U=>?_⟩⟩);have U:St w w14 (Sep (aj r8 R'.cells.toArray 90 :: held R'.C.bF :: held R'.dR :: aj r4 R'.cells.toArray 90 :: SW r1 r2 r3 r5 u A o σ a c)):=U;have evk:∀ {w':af},aC w w' []->w'.cell? (Addr.add q (((k:Nat):Int).toNat*11))=some (iv (kk:Int)):=λ hc=>by
    have:=aM (ev hc) 0 _ rfl;rw[Addr.add_add] at this;rw[aD,<- hkk]; exact this
   have evb:∀ {w':af},aC w w' []->w'.cell? (Addr.add (Addr.add q (((k:Nat):Int).toNat*11)) 1)=some (iv (n:Int)):=λ hc=>by
    have:=aM (ev hc) 1 _ rfl;rw[aD,<- hn]; exact this
   have evr:∀ {w':af},aC w w' []->w'.cell? (Addr.add (Addr.add q (((k:Nat):Int).toNat*11)) 2)=some (iv e.round):=λ hc=>by
    have:=aM (ev hc) 2 _ rfl;rw[aD]; exact this
   have cc:w14.cell? (Addr.add ⟨r3,0,none⟩ (((kk:Nat):Int).toNat*1))=some (iv (σ.cn kk)):=by rw[Hr,U.ag 4 rfl]; exact G6 (nr σ a c) hk1
   refine aq T ⟨by omega,by omega,_,evk U.av,by omega,by omega,_,cc,by omega,by omega,?_⟩;have hc:=hbd.1 kk;have hbn:=hbd.2.2.2 n;rw[Hr,cA (by omega)];refine U.aN 4 rfl (j:=kk) (by show kk<15; omega) rfl λ w15 t=>?_;have t:St w w15 (Sep [aj r8 R'.cells.toArray 90,held R'.C.bF,held R'.dR,aj r4 R'.cells.toArray 90,aj r3 ((nr σ a c).cells.toArray.setIfInBounds kk (iv ((nr σ a c).cn kk+1))) 33,rY a c σ.rr,aj r5 (c8 σ.dm).toArray 92,aj u (c8 σ.bi).toArray 92,aj A (c8 σ.wd).toArray 92,aj r2 gz.cells.toArray 33,aj r1 o.cells.toArray 24,emp]):=t;rw[Qa _ hk1] at t;have fin:∀ {w':af} {f g f':Nat->Int} {rr:List Int} {a':OA} {c':Nat},(if (kk:Int)=2 then dB σ.dm n else σ.dm)=f->(if (kk:Int)=5 then dB σ.bi n else σ.bi)=g->(if (kk:Int)=6 then dB σ.wd n else σ.wd)=f'->(if (kk:Int)=8 then σ.rr++[e.round] else σ.rr)=rr ->
     St w w' (Sep [aj r8 R'.cells.toArray 90,held R'.C.bF,held R'.dR,aj r4 R'.cells.toArray 90,aj r3 (nr { σ with cn:=dB σ.cn kk,rr:=rr } a' c').cells.toArray 33,rY a' c' rr,aj r5 (c8 f).toArray 92,aj u (c8 g).toArray 92,aj A (c8 f').toArray 92,aj r2 gz.cells.toArray 33,aj r1 o.cells.toArray 24,emp])->QI w w' r1 r2 r3 r4 r5 u A o (iU σ e):=λ {w' f g f' rr a' c'} e1 e2 e3 e4 s=>by
    refine⟨R',a',c',eS2,eC2,K,hz',?_⟩;rw[hst,e1,e2,e3,e4];exact s.ay [3,1,2,4,5,6,7,8,9,10,11]
   refine aq T ⟨by omega,by omega,_,evk t.av,?_⟩
   by_cases k2:kk=2
   ·refine cT (by rw[k2]; rfl) (aq T ⟨by omega,by omega,_,evb t.av,by omega,by omega,σ.dm n,by rw[Hr,t.ag 6 rfl]; exact vt σ.dm L,by omega,by omega,?_⟩);rw[Hr,cA (by omega)];refine t.aN 6 rfl (j:=n) (by show n<8; omega) rfl λ w16 F=>fin (a':=a) (c':=c) (ak (by omega)) (ah (by omega)) (ah (by omega)) (ah (by omega)) ?_;rw[<- HP σ.dm L]; exact F
   refine cF (by rw[aS]; omega) ?_
   by_cases k5:kk=5
   ·refine cT (by rw[k5]; rfl) (aq T ⟨by omega,by omega,_,evb t.av,by omega,by omega,σ.bi n,by rw[Hr,t.ag 7 rfl]; exact vt σ.bi L,by omega,by omega,?_⟩);rw[Hr,cA (by omega)];refine t.aN 7 rfl (j:=n) (by show n<8; omega) rfl λ w16 F=>fin (a':=a) (c':=c) (ah (by omega)) (ak (by omega)) (ah (by omega)) (ah (by omega)) ?_;rw[<- HP σ.bi L]; exact F
   refine cF (by rw[aS]; omega) ?_
   by_cases k6:kk=6
   ·refine cT (by rw[k6]; rfl) (aq T ⟨by omega,by omega,_,evb t.av,by omega,by omega,σ.wd n,by rw[Hr,t.ag 8 rfl]; exact vt σ.wd L,by omega,by omega,?_⟩);rw[Hr,cA (by omega)];refine t.aN 8 rfl (j:=n) (by show n<8; omega) rfl λ w16 F=>fin (a':=a) (c':=c) (ah (by omega)) (ah (by omega)) (ak (by omega)) (ah (by omega)) ?_;rw[<- HP σ.wd L]; exact F
   refine cF (by rw[aS]; omega) ?_
   by_cases k8:kk=8
   ·have c8:=hbd.1 8;have t15:=t.quiet (aC.drew w15 []);refine cT (by rw[k8]; rfl) ⟨a,σ.rr.length,c,t15.ag 4 rfl 14,aq T ⟨by omega,by omega,_,evr t15.av,An (t15.aB _ λ r w' s'=>s'.ag 5 rfl 14) (dw (x:=e.round) QV bV (pQ _) (t15.out 5 rfl) (by omega) (by omega) (λ a' c' w' s20=>?_) rfl)⟩⟩;have s20:=s20.back (i:=5) (by show 5<12; decide);exact s20.aN 4 rfl (j:=14) (by show 14<15; decide) rfl λ w16 F=>fin (ah (by omega)) (ah (by omega)) (ah (by omega)) (ak (by omega)) F
   ·exact cF (by rw[aS]; omega) (fin (ah (by omega)) (ah (by omega)) (ah (by omega)) (ah (by omega)) t)
  ·have t10:=s10.quiet (aC.drew w10 []);have hte:=ht e hem;refine Ex8<|Ex8<|Ex8<|Ex8<|Ex4<|⟨R.C.p,Ex8<|Ex8<|Ex4<|⟨_,_,t10.cellsIn 0 rfl,aq T ⟨by omega,by omega,_,_,_,e.want,_,_,(by rw[aD]; exact ev t10.av),?_,?_⟩⟩⟩
   ·have u10:St w w10.drew (Sep (held R.C.bF :: held R.dR :: aj r4 R.cells.toArray 90 :: SW r1 r2 r3 r5 u A o σ a c)):=t10.ay [1,2,0,3,4,5,6,7,8,9,10];refine au (Ax u10 hR hie hte) ?_;rintro _ w22 ⟨R',rfl,s22,K,B,h1⟩;refine Ex8<|Ex8<|Ex8<|Ex8<|Ex4<|⟨R'.C.p,Ex8<|Ex8<|Ex4<|⟨_,_,_,rfl,s22.aB _ λ r10 w23 s23=>?_⟩⟩;obtain⟨Z,hZ,s23⟩:∃ Z:Array Value,Z.size=34/\St w w23 (Sep (aj r10 Z 90 :: held R'.C.bF :: held R'.dR :: aj r4 R.cells.toArray 90 :: SW r1 r2 r3 r5 u A o σ a c)):=⟨_,rfl,s23⟩;exact s23.az 0 rfl R'.cells (by rw[hZ]; rfl) R'.one λ w24 s24=>⟨R',rfl,K,B,h1,s24⟩
   ·refine t10.aB _ λ r11 w25 V=>?_;obtain⟨Z,hZ,V⟩:∃ Z:Array Value,Z.size=34/\St w w25 (Sep (aj r11 Z 90 :: aj r4 R.cells.toArray 90 :: held R.C.bF :: held R.dR :: SW r1 r2 r3 r5 u A o σ a c)):=⟨_,rfl,V⟩;have u25:St w w25 (Sep (held R.C.bF :: held R.dR :: aj r11 Z 90 :: aj r4 R.cells.toArray 90 :: SW r1 r2 r3 r5 u A o σ a c)):=V.ay [2,3,0,1,4,5,6,7,8,9,10,11];refine⟨by rw[aD]; exact ev V.av,V.cellsIn 1 rfl,au (Ax u25 hR hie hte) ?_⟩;rintro _ w26 ⟨R',rfl,s26,K,B,h1⟩;refine Ex8<|Ex8<|Ex8<|Ex8<|Ex4<|⟨R'.C.p,Ex8<|Ex8<|Ex4<|⟨_,_,_,rfl,s26.az 2 rfl R'.cells (by rw[hZ]; rfl) R'.one λ w27 s27=>⟨R',rfl,K,B,h1,?_⟩⟩⟩;exact s27.ay [2,0,1,3,4,5,6,7,8,9,10,11]
 obtain rfl:k=l.length:=by omega
 rw[br] at IV eS eC s10;generalize lO o l=σ at *;have P:=hR.so;have e1:σ.S.ph=R.ph:=by rw[eS]; rfl
 have e2:σ.S.s.bd=R.s.bd:=by rw[eS]; rfl
 have e3:σ.S.s.ps=R.s.ps:=by rw[eS]; rfl
 have e5:σ.C.cl=R.C.cl.map Rn.er:=by rw[eC]; rfl
 have hl30:R.C.cl.length<=30:=by
  by_cases B:R.ph=0
  ·rw[hz B]; exact jJ 30
  ·exact(P.c B).ok.cl
 have hb0:R.ph=0->R.s.bd=[]:=λ B=>show R.s.er.bd=dL.bd by rw[show R.s.er=dL from P.z B]
 have h8:R.s.bd.length<=8:=by
  by_cases B:R.ph=0
  ·rw[hb0 B]; exact jJ 8
  ·exact(P.so B).bd.l2
 let X:Sm->List aI:=λ M=>QT r1 r2 r3 r4 r5 u A o σ R M;refine aU hlt ⟨λ n w' m=>∃ (k:Nat) (bl:List Bs) (ba:OA) (bc:Nat),n=k/\k<=R.s.bd.length/\m=R.s.bd.length-k/\bl.map Bs.er=(List.range k).map (Fg σ)/\St w w' (Sep (QT r1 r2 r3 r4 r5 u A o σ R { nr σ a c with bs:=bl,ba:=ba,bc:=bc })),⟨R.s.bd.length,0,[],none,0,rfl,by omega,by omega,rfl,?_⟩,?_⟩
 ·have t0:St w w10 (Sep (Wi none 0 [] :: held (mL []) :: aj r4 R.cells.toArray 90 :: held R.C.bF :: held R.dR :: SW r1 r2 r3 r5 u A o σ a c)):=St.dy (St.jx (Q:=mL []) s10 λ w' x J=>by cases J);have t1:St w w10 (Sep (I3 none 0 [] :: Wi none 0 [] :: held (mL []) :: aj r4 R.cells.toArray 90 :: held R.C.bF :: held R.dR :: SW r1 r2 r3 r5 u A o σ a c)):=St.dy t0;exact t1.ay [6,0,2,1,7,3,4,5,8,9,10,11,12,13]
 rintro w28 m3 n88 ⟨k,bl,ba,bc,rfl,hk,hm3,hbl,s28⟩ -;have hblk:bl.length=k:=by have:=congrArg List.length hbl; simpa using this
 refine⟨_,_,_,s28.ag 5 rfl 6,?_⟩
 by_cases hlt2:(k:Int)<(R.s.bd.length:Int)
 ·have hph:R.ph≠0:=λ B=>by
   have:=congrArg List.length (hb0 B);simp only[eY] at this;omega
  obtain⟨x,J⟩:=bx R.s.bd k (by omega);have D:k<8:=by omega
  have hno:=hR.n hph;have t28:=s28.quiet (aC.drew w28 []);have E:R.dR w28.drew:=t28.bC 7 rfl;obtain⟨q8,hq8,-⟩:=E.s.bd.fl.at J;obtain⟨q9,hq9,-⟩:=E.out.at (i:=k) (x:=R.out.getD k false) (getD_at (by omega));have nmc:∀ {w':af},R.dR w'->w'.cell? (Addr.add q8 (((k:Nat):Int).toNat*4))=some (sv x.nm)/\w'.cell? (Addr.add q9 (((k:Nat):Int).toNat*1))=some (.bool (R.out.getD k false)):=λ E=>by
   obtain⟨q,T,hc⟩:=E.s.bd.fl.at J;rw[hq8] at T; cases T;obtain⟨p,hp,hd⟩:=E.out.at (i:=k) (x:=R.out.getD k false) (getD_at (by omega));rw[hq9] at hp; cases hp;have a:=aM hc 0 _ rfl;have b:=aM hd 0 _ rfl;rw[Addr.add_add] at a b;rw[aD]; exact⟨a,b⟩
  let B0:Bs:=⟨x.nm,σ.dm k,σ.bi k,σ.wd k,R.out.getD k false,[],none,0⟩;refine aP hlt2 ⟨_,_,_,t28.ag 5 rfl 6,aq hq8 ⟨by omega,by omega,_,(nmc E).1,by omega,by omega,σ.dm k,by rw[Hr,t28.ag 8 rfl]; exact vt σ.dm D,by omega,by omega,σ.bi k,by rw[Hr,t28.ag 9 rfl]; exact vt σ.bi D,by omega,by omega,σ.wd k,by rw[Hr,t28.ag 10 rfl]; exact vt σ.wd D,_,_,_,t28.ag 5 rfl 30,aq hq9 ⟨by omega,by omega,_,(nmc E).2,t28.aB M6.cells.toArray λ N w29 G=>?_⟩⟩⟩;have r29:R.dR w29:=G.bC 8 rfl;refine⟨(nmc r29).2,G.ag 6 rfl 30,by rw[Hr,G.ag 11 rfl]; exact vt σ.wd D,by rw[Hr,G.ag 10 rfl]; exact vt σ.bi D,by rw[Hr,G.ag 9 rfl]; exact vt σ.dm D,(nmc r29).1,G.ag 6 rfl 6,G.az 0 rfl B0.cells rfl (Bs.one _) λ w30 s30=>?_⟩;have s30:St w w30 (Sep (aj N B0.cells.toArray 58 :: QT r1 r2 r3 r4 r5 u A o σ R { nr σ a c with bs:=bl,ba:=ba,bc:=bc })):=s30;let f:Rn->Int:=λ y=>yw R.s.ps (y.ask.getD k z6);have t30:St w w30 (Sep (rY none 0 [] :: aj N B0.cells.toArray 58 :: QT r1 r2 r3 r4 r5 u A o σ R { nr σ a c with bs:=bl,ba:=ba,bc:=bc })):=s30.dy;refine⟨λ n w' m=>∃ (j:Nat) (ai:OA) (ci:Nat),n=j/\j<=R.C.cl.length/\m=R.C.cl.length-j/\St w w' (Sep (rY ai ci ((R.C.cl.take j).map f) :: aj N ({ B0 with pts:=(R.C.cl.take j).map f,pa:=ai,pc:=ci }:Bs).cells.toArray 58 :: QT r1 r2 r3 r4 r5 u A o σ R { nr σ a c with bs:=bl,ba:=ba,bc:=bc })),⟨R.C.cl.length,0,none,0,rfl,by omega,by omega,t30⟩,?_⟩;rintro Y m5 n92 ⟨j,ai,ci,rfl,hj,hm5,O⟩ -;have hlen:((R.C.cl.take j).map f).length=j:=by simp; omega
  have hI:=P.c hph;refine⟨_,_,_,O.ag 7 rfl 17,?_⟩
  by_cases hlt4:(j:Int)<(R.C.cl.length:Int)
  ·obtain⟨y,hy⟩:=bx R.C.cl j (by omega);have hym:=bf hy;have t31:=O.quiet (aC.drew Y []);have rdv:R.C.bF Y.drew:=t31.bC 8 rfl;have r31:R.dR Y.drew:=t31.bC 9 rfl;obtain⟨q10,hq10,hc10⟩:=rdv.cl.at hy;have z1:y.ask.length=R.C.s.bd.length:=(hI.ok.cz y hym).ask;rw[hR.cs hph] at z1;have hu:y.ask[k]?=some (y.ask.getD k z6):=getD_at (by omega);obtain⟨q11,hq11,hc11⟩:=(rdv.i y hym).ask.at hu;have c6:Y.drew.cell? (Addr.add (Addr.add q10 (((j:Nat):Int).toNat*9)) 6)=some (.slice y.xa y.ask.length y.xc):=by
    have:=aM hc10 6 _ rfl;rw[aD]; exact this
   refine aP hlt4 ⟨_,_,_,t31.ag 7 rfl 5,_,_,_,t31.ag 7 rfl 17,aq hq10 ⟨by omega,by omega,_,_,_,c6,aq hq11 ⟨by omega,by omega,y.ask.getD k z6,by rw[aD]; exact hc11,au (xz r31.s.ps (P.so hph).ps (leq (hI.ok.ca y hym _ (bf hu))) 0) ?_⟩⟩⟩;rintro _ w32 ⟨rfl,c32⟩;have s32:=t31.quiet c32;refine⟨_,_,_,rfl,_,_,_,s32.ag 1 rfl 5,dw (l:=(R.C.cl.take j).map f) QV bV (pQ _) (x:=f y) (s32.out 0 rfl) (by omega) (by omega) (λ a' c' w' s33=>?_) rfl⟩;have s33:St w w' (Sep (rY a' c' ((R.C.cl.take j).map f++[f y]) :: aj N ({ B0 with pts:=(R.C.cl.take j).map f,pa:=ai,pc:=ci }:Bs).cells.toArray 58 :: QT r1 r2 r3 r4 r5 u A o σ R { nr σ a c with bs:=bl,ba:=ba,bc:=bc })):=s33;refine s33.aN 1 rfl (j:=5) (by show 5<6; decide) rfl λ w35 s35=>⟨R.C.cl.length-(j+1),by omega,j+1,a',c',cA (by omega),by omega,rfl,?_⟩;rw[aH hy,bP,cV];exact s35
  obtain rfl:j=R.C.cl.length:=by omega
  rw[br] at O;let I:Bs:={ B0 with pts:=R.C.cl.map f,pa:=ai,pc:=ci };refine aU hlt4 ⟨ba,bl.length,bc,O.ag 2 rfl 13,Ex8 ⟨O.cellsIn 1 rfl,?_⟩⟩;have s35:St w Y (Sep (rY ai ci I.pts :: aj N I.cells.toArray 58 :: aj r3 ({ nr σ a c with bs:=bl,ba:=ba,bc:=bc }:Sm).cells.toArray 33 :: I3 ba bc bl :: held (mL bl) :: (QT r1 r2 r3 r4 r5 u A o σ R { nr σ a c with bs:=bl,ba:=ba,bc:=bc }).drop 3)):=O;refine dw (l:=bl) Yu Bs.len (Bs.one I) (x:=I) (s35.out 3 rfl) (by omega) (by omega) (λ a' c' w' H=>?_) rfl;have H:St w w' (Sep (rY ai ci I.pts :: aj N I.cells.toArray 58 :: aj r3 ({ nr σ a c with bs:=bl,ba:=ba,bc:=bc }:Sm).cells.toArray 33 :: I3 a' c' (bl++[I]) :: held (mL bl) :: (QT r1 r2 r3 r4 r5 u A o σ R { nr σ a c with bs:=bl,ba:=ba,bc:=bc }).drop 3)):=H.back (i:=3) (by show 3<16; decide);refine H.aN 2 rfl (j:=13) (by show 13<15; decide) rfl λ w42 s42=>⟨R.s.bd.length-(k+1),by omega,k+1,bl++[I],a',c',cA (by omega),by omega,rfl,?_,?_⟩
  ·rw[yO,bP,bP,hbl,cV,cV];have f1:(σ.S.s.bd.getD k Hw).nm=x.nm:=by rw[e2,aJ,J]; rfl
   have f2:(σ.S.bd.getD k dG).out=R.out.getD k false:=by rw[eS,H8,oe D,Rs.Bh,ak (by omega)]
   have e6:Fg σ k=I.er:=by
    unfold Fg;rw[f1,f2,e5,eG,e3]; rfl
   rw[e6]
  ·have s43:St w w42 (Sep (rY ai ci I.pts :: held (mL bl) :: aj r3 ({ nr σ a c with bs:=bl++[I],ba:=a',bc:=c' }:Sm).cells.toArray 33 :: I3 a' c' (bl++[I]) :: (QT r1 r2 r3 r4 r5 u A o σ R { nr σ a c with bs:=bl++[I],ba:=a',bc:=c' }).drop 3)):=s42.ay [0,4,2,3,5,6,7,8,9,10,11,12,13,14,15];have s44:=s43.fX (S:=mL (bl++[I])) (bn bV) (aW _) λ w' h1 h2 y hy=>(aV.1 hy).elim (h2 y) λ e=>by rw[bp.1 e]; exact h1
   exact s44.ay [1,2,0,3,4,5,6,7,8,9,10,11,12,13]
 obtain rfl:k=R.s.bd.length:=by omega
 refine aU hlt2 ⟨λ n w' m=>∃ (j:Nat) (ap:OA) (cp:Nat),n=j/\j<=R.C.cl.length/\m=R.C.cl.length-j/\St w w' (Sep (QT r1 r2 r3 r4 r5 u A o σ R { nr σ a c with ps:=(R.C.cl.take j).map Rn.p,pa:=ap,pc:=cp,bs:=bl,ba:=ba,bc:=bc })),⟨R.C.cl.length,0,none,0,rfl,by omega,by omega,s28⟩,?_⟩;rintro w39 m7 n99 ⟨j,ap,cp,rfl,hj,hm7,W⟩ -;have hlen:((R.C.cl.take j).map Rn.p).length=j:=by simp; omega
 refine⟨_,_,_,W.ag 5 rfl 17,?_⟩
 by_cases hlt5:(j:Int)<(R.C.cl.length:Int)
 ·obtain⟨y,hy⟩:=bx R.C.cl j (by omega);have t39:=W.quiet (aC.drew w39 []);have rdv:R.C.bF w39.drew:=t39.bC 6 rfl;obtain⟨q12,hq12,hc12⟩:=rdv.cl.at hy;have hpr:aA w39.drew (Addr.add q12 (((j:Nat):Int).toNat*9)) 0 y.p.vs:=by
   rw[aD]; exact xJ hc12 rfl
  refine aP hlt5 ⟨_,_,_,t39.ag 0 rfl 12,_,_,_,t39.ag 5 rfl 17,aq hq12 ⟨by omega,by omega,y.p,hpr,An (t39.aB _ λ r w' s'=>s'.ag 1 rfl 12) (dw (l:=(R.C.cl.take j).map Rn.p) WA bE (I6.one _) (x:=y.p) (t39.out 3 rfl) (by omega) (by omega) (λ a' c' w' H=>?_) rfl)⟩⟩;have H:=H.back (i:=3) (by show 3<14; decide);refine H.aN 0 rfl (j:=12) (by show 12<15; decide) rfl λ w42 s42=>⟨R.C.cl.length-(j+1),by omega,j+1,a',c',cA (by omega),by omega,rfl,?_⟩;rw[aH hy,bP,cV];exact s42
 obtain rfl:j=R.C.cl.length:=by omega
 rw[br] at W;let M3:Sm:={ nr σ a c with ps:=R.C.cl.map Rn.p,pa:=ap,pc:=cp,bs:=bl,ba:=ba,bc:=bc };refine aU hlt5 (Ex8<|Ex8<|Ex4<|⟨_,W.cellsIn 0 rfl,W.az 11 rfl M3.cells rfl (Sm.one _) λ w43 s43=>(Ex8<|Ex8<|Ex4<|⟨_,s43.cellsIn 11 rfl,M3,rfl,?_,?_⟩)⟩)
 ·have ep:(if σ.S.ph=0 then [] else σ.C.cl.map Rn.p)=R.C.cl.map Rn.p:=by
   split
   ·rename_i g; rw[hz (by rw[<- e1]; exact g)]; rfl
   ·rw[e5,eG]; rfl
  unfold UA T8;rw[ep,e2,<- hbl]; rfl
 ·have s50:=(s43.ay [1,2,3,4]).held ((bn Bs.len).cons ((aW _).cons ((bn bE).cons ((bn bV).cons js.nil))));exact s50.weak (eI λ w' ⟨i1,i2,i3,i4,_⟩=>⟨i3,i1,i2,i4⟩)
end Go.Proofs.YtjcfdidmajodiaaGreatDoor
namespace Go.Proofs.YtjcfdidmajodiaaGreatDoor
open Go Go.Vc Go.Sort Go.RowKit _root_.Go.Proofs.Tryz
abbrev W4 (w:af) (b:Nat) (l:List UInt8):Prop:=Lib.IsBuilder 101 5 b b (Lib.byteCells l) w
def W4.av{w w':af}{b:Nat}{l:List UInt8}(h:W4 w b l)(hc:aC w w' []):W4 w' b l:=by
 have key:∀ {p:Value},Lib.BuilderAt 101 5 b b p (Lib.byteCells l) w->Lib.BuilderAt 101 5 b b p (Lib.byteCells l) w':=by
  rintro p ⟨h1,v,h2,⟨h3,c⟩,h4⟩;refine⟨h1,v,by rw[hc.same b (iR h2) (by simp)]; exact h2,⟨h3,c.imp id ?_⟩,h4⟩;rintro⟨g,cap,cur,e,d,a,rest⟩;exact⟨g,cap,cur,e,d,by rw[hc.same g (iR a) (by simp)]; exact a,rest⟩
 exact h.imp key key
def W4.lt{w:af}{b:Nat}{l:List UInt8}(h:W4 w b l):b<w.heap.size:=by
 rcases h with⟨_,v,h2,_⟩|⟨_,v,h2,_⟩<;>exact iR h2
structure Ft (w0:af) (r b:Nat) (o:Obj) (l:List UInt8) (w:af):Prop where
 av:aC w0 w []
 box:w.heap[r]?=some o
 bld:W4 w b l
 lt:r<b
 new:w0.heap.size<=b
def Ft.to{w0:af}{r b:Nat}{o:Obj}{l:List UInt8}{w w':af}(h:Ft w0 r b o l w)(hc:aC w w' []):Ft w0 r b o l w' :=
 ⟨h.av.trans hc (by simp),by rw[hc.same r (iR h.box) (by simp)]; exact h.box,h.bld.av hc,h.lt,h.new⟩
def Ft.cell{w0 w:af}{r b:Nat}{cs:Array Value}{T:TypeId}{l:List UInt8}(h:Ft w0 r b (.cells cs T (0,0)) l w)(j:Nat):w.cell? ⟨r,j,none⟩=cs[j]?:=by
 rw[mN,h.box,kM]
section
variable {w0 w:af} {r b:Nat} {o:Obj} {l:List UInt8}
def FK{w':af}(h:Ft w0 r b o l w)(k:Below b w w'):aC w0 w' []:=⟨cC h.av.size k.size,λ i hi _=>by
 rw[k.block i (zE hi h.new)]; exact h.av.same i hi (by simp),⟨k.os.trans h.av.env.os,k.tape.trans h.av.env.tape,k.output.trans h.av.env.out⟩⟩
def TW{s:List UInt8}(h:Ft w0 r b o l w)(c:l.length+s.length<=140737488355328) :
  CP 27 #[pt b,sv s] w (λ v w'=>(∃ (n:Int) (x:Value),v=.tuple #[iv n,x])/\Ft w0 r b o (l++s) w') :=
 (Any.Builder_WriteString (ρ:=Tryz.nP) { Tryz.D1 with } Tryz.j3 b b (Lib.byteCells l) (bs s) w h.bld (by rw[Lib.byteCells_length,dX]; exact c) (Nat.le_of_lt h.bld.lt)).mono λ e w' ⟨he,a,k⟩ =>
  ⟨_,he,⟨_,_,rfl⟩,FK h k,by rw[k.block r h.lt]; exact h.box,.inr (by
   rw[show Lib.byteCells (l++s)=Lib.byteCells l++Lib.strCells (bs s) by rw[Lib.byteCells_append]; simp[Lib.strCells,Lib.byteCells,bs]]; exact a),h.lt,h.new⟩
def UX(h:Ft w0 r b o l w):CP 32 #[pt b] w (λ v w'=>v=sv l/\aC w0 w' []) :=
 (Any.Builder_String_any (ρ:=Tryz.nP) { Tryz.D1 with } Tryz.j3 b b l w h.bld (Nat.le_of_lt h.bld.lt)).mono λ _ w' ⟨he,k⟩=>⟨_,he,rfl,FK h k⟩
end
def Tg{w0 w:af}{a:OA}{c:Nat}{xs:List (List UInt8)}{B:aI}(s:St w0 w (star (PY a c xs) B))(m:xs≠[])(l:xs.length<=1000)(k:∀ y∈xs,y.length<=100) :
  CP 28 #[.slice a xs.length c] w (λ r w'=>r=sv (Ul xs)/\aC w w' []):=by
 refine(p6 ue).2.2.2.1 ?_;have own:=s.rowOf;have b:0<xs.length:=by cases xs with|nil=>exact absurd rfl m|cons x r=>simp
 obtain⟨g,rfl,h⟩:=EB own b;have cells:∀ (j:Nat) x,xs[j]?=some x->w.cell? ⟨g,0+j,none⟩=some (sv x):=λ j x d=>by
  obtain⟨q,o,hc⟩:=Tj (s.rd EE) d
  cases o
  rw[bY,gG] at hc;exact hc
 obtain⟨x,d⟩:∃ x,xs[0]?=some x:=⟨_,gE b⟩;have f:(xs.map bs).map (·.data.toList)=xs:=by
  rw[eG]
  conv=>rhs; rw[<- List.map_id xs]
  exact dz λ x _=>by simp[bs]
 have i:=Tryz.strings_Join g 0 c (xs.map bs) (bs [32]) w (λ j x d=>by
  rw[dD,Jw] at d;obtain⟨y,p,rfl⟩:=d;exact cells j y p) (Su (cells 0 x d)) (by simp; omega) (by simpa using(o8 own).1) (by rw[f]; exact Oz k l)
 rw[f,dU] at i;refine i.mono λ e w' ⟨he,n⟩=>⟨_,he,?_,?_,LA n⟩
 ·have h1:=Oz k l;have e:(⟨(Lib.join xs (bs [32]).data.toList).toArray⟩:ByteArray).size=(Lib.join xs [32]).length:=by simp[ByteArray.size,bs]
  rw[e];have h2:(bs [10]).size=1:=rfl;rw[h2];have:IntKind.i64.max=9223372036854775807:=rfl;omega
 ·congr 1
def Kj{xs:List (List UInt8)}(a:∀ y∈xs,y.length<=100)(b:xs.length<=1000):(Ul xs).length<=200000:=by
 have:=join_le (sep:=[32]) a;simp only[bS] at this;simp only[Ul,aY,bS];omega
def Jo{w0 m w:af}{r b:Nat}{o:Obj}{l:List UInt8}{a:OA}{c:Nat}{xs:List (List UInt8)}{B:aI}(f:Ft w0 r b o l w)(s:St m w (star (PY a c xs) B))(j:xs≠[])(h:xs.length<=1000)(g:∀ y∈xs,y.length<=100)(p:l.length<=140737480000000){R:af->Prop}(k:∀ w',Ft w0 r b o (l++Ul xs) w'->R w'):CC 28 #[.slice a xs.length c] w λ e i=>∃ s,e=.returned (.string s)/\CC 27 #[pt b,.string s] i λ e d=>∃ (n:Int) (v:Value),e=.returned (.tuple #[iv n,v])/\R d:=by
 refine au (Tg s j h g) ?_;rintro _ i ⟨rfl,c2⟩;have:=Kj g h;refine⟨_,rfl,au (TW (f.to c2) (by omega)) ?_⟩;rintro _ d ⟨⟨n,v,rfl⟩,f3⟩;exact⟨n,v,rfl,k d f3⟩
def Jl{w0 w:af}{r b:Nat}{o:Obj}{l:List UInt8}{cs:Array Value}(xs:List (List UInt8))(f:Ft w0 r b o l w)(a:cs.toList=xs.flatMap sT)(h:xs≠[])(c:xs.length<=1000)(j:∀ y∈xs,y.length<=100)(i:l.length<=140737480000000){R:af->Prop}(k:∀ w',Ft w0 r b o (l++Ul xs) w'->R w'):cR w (.cells cs 9) λ g d=>CC 28 #[.slice (qs g) xs.length xs.length] d λ e m=>∃ s,e=.returned (.string s)/\CC 27 #[pt b,.string s] m λ e p=>∃ (n:Int) (v:Value),e=.returned (.tuple #[iv n,v])/\R p :=
 aG cs λ g d s1=>Jo (f.to s1.av) (DD s1 0 rfl a c) h c j i k
def TS:List UInt8:=[114,101,102,117,115,101,100]
def WX:List UInt8:=[112,114,105,99,101,115]
def TT:List UInt8:=[114,101,115,101,116]
def YK:List UInt8:=[98,105,100,100,101,114]
def LY(u:I6):List (List UInt8):=WX :: (List.range 6).map λ i=>Lib.itoa (u.at' i)
def M8(x:Bs):List (List UInt8):=[YK,x.nm,Lib.itoa x.dm,Lib.itoa x.bi,Lib.itoa x.wd,if x.out then [111,117,116] else [105,110]]++x.pts.map Lib.itoa
def Xb(M:Sm):List (List (List UInt8)):=(List.range 10).map λ k=>[rK ((k+1:Nat):Int),Lib.itoa (M.cn (k+1))]
def xP(M:Sm):List (List (List UInt8)):=Xb M++([TS,Lib.itoa M.rf] :: (M.ps.map LY++(M.rr.map (λ n=>[TT,Lib.itoa n])++M.bs.map M8)))
def tx(L:List (List (List UInt8)))(j:Nat):List UInt8:=((L.take j).map Ul).flatten
def wA{L:List (List (List UInt8))}{j:Nat}{xs:List (List UInt8)}(h:L[j]?=some xs):tx L (j+1)=tx L j++Ul xs:=by
 unfold tx; rw[aH h,bP,List.flatten_append]; simp
structure QW (M:Sm):Prop where
 w:∀ xs∈xP M,xs.length<=1000/\∀ y∈xs,y.length<=100
 cn:∀ i,i<11->In (M.cn i)
 rf:In M.rf
 ps:∀ u∈M.ps,∀ i,i<6->In (u.at' i)
 rr:∀ n∈M.rr,In n
 bs:∀ x∈M.bs,In x.dm/\In x.bi/\In x.wd/\(∀ n∈x.pts,In n)/\x.pts.length<=100
 l:M.ps.length<=100/\M.bs.length<=100/\M.rr.length<=100
def YJ{M:Sm}(h:QW M)(j:Nat):(tx (xP M) j).length<=200000*400:=by
 have h1:∀ l:List (List (List UInt8)),(∀ xs∈l,xs.length<=1000/\∀ y∈xs,y.length<=100)->(l.map Ul).flatten.length<=200000*l.length:=by
  intro l
  induction l with
  | nil=>intro _; simp
  | cons a l c =>
   intro h;have h1:=c λ xs b=>h xs (jH _ b);have h2:=h a (lA ..);have h3:=Kj h2.2 h2.1;simp only[jm,List.flatten_cons,aY,gm];omega
 have h2:=h1 ((xP M).take j) λ xs b=>h.w xs (eX b);have h3:((xP M).take j).length<=400:=by
  have:=h.l;rw[di];simp only[xP,Xb,aY,dU,HC,gm];omega
 have:=Nat.mul_le_mul_left 200000 h3;unfold tx;omega
def D8(M:Sm):(Xb M).length=10:=by simp[Xb]
def Zy(M:Sm){k:Nat}(h:k<10):(xP M)[k]?=some [rK ((k+1:Nat):Int),Lib.itoa (M.cn (k+1))]:=by
 rw[xP,lD (by rw[D8]; exact h),Xb,dD,uY h]; rfl
def Ss(M:Sm)(i:Nat):(xP M)[10+i]?=([TS,Lib.itoa M.rf] :: (M.ps.map LY++(M.rr.map (λ n=>[TT,Lib.itoa n])++M.bs.map M8)))[i]?:=by
 rw[xP,kH (by rw[D8]; omega),D8,show 10+i-10=i by omega]
def ZA{M:Sm}{i:Nat}{u:I6}(h:M.ps[i]?=some u):(xP M)[11+i]?=some (LY u):=by
 rw[show 11+i=10+(i+1) by omega,Ss,um,lD (by rw[dU]; exact(aR.1 h).1),dD,h]; rfl
def Zz{M:Sm}{i:Nat}{n:Int}(h:M.rr[i]?=some n):(xP M)[11+M.ps.length+i]?=some [TT,Lib.itoa n]:=by
 rw[show 11+M.ps.length+i=10+(M.ps.length+i+1) by omega,Ss,um,kH (by simp),dU,show M.ps.length+i-M.ps.length=i by omega,lD (by rw[dU]; exact(aR.1 h).1),dD,h]; rfl
def Zx{M:Sm}{i:Nat}{x:Bs}(h:M.bs[i]?=some x):(xP M)[11+M.ps.length+M.rr.length+i]?=some (M8 x):=by
 rw[show 11+M.ps.length+M.rr.length+i=10+(M.ps.length+(M.rr.length+i)+1) by omega,Ss,um,kH (by simp),dU,show M.ps.length+(M.rr.length+i)-M.ps.length=M.rr.length+i by omega,kH (by simp),dU,show M.rr.length+i-M.rr.length=i by omega,dD,h]; rfl
def Vr{w:af}{cs a:Array Value}{T:TypeId}{R:Nat->Nat->af->Prop}(h:a = #[.pointer none,.slice none 0 0])(k:∀ r b w',Ft w r b (.cells cs T (0,0)) [] w'->R r b w') :
  cR w (.cells cs T) λ r c=>cR c (.cells a 101) λ b d=>R r b d:=by
 subst h;exact k _ _ _ ⟨(aC.new w _ []).trans (aC.new _ _ []) (by simp),by rw[iw,ah (by simp)]; rw[iw,ak rfl],.inl ⟨aO _,.slice none 0 0,by rw[iw,ak rfl],⟨by simp[Lib.byteCells],.inl ⟨rfl,rfl⟩⟩,by simp[Value.ownBlock]⟩,by simp,by simp⟩
def wH{k:Nat}(h:k<1000000):IntKind.i64.wrap ((k:Int)+1)=((k+1:Nat):Int):=by rw[cA (by omega)]; rfl
set_option maxHeartbeats 4000000 in
theorem FJ{w:af}{M:Sm}(h:M.In w)(ht:QL w)(hw:QW M):CP 12 #[.agg M.cells.toArray] w (λ r w'=>r=sv (tx (xP M) (11+M.ps.length+M.rr.length+M.bs.length))/\aC w w' []):=by
 obtain⟨hl1,hl2,hl3⟩:=hw.l;have P:=YJ hw;have W:∀ {j:Nat} {xs:List (List UInt8)},(xP M)[j]?=some xs->xs.length<=1000/\∀ y∈xs,y.length<=100:=λ e=>hw.w _ (bf e);refine xN.1 ?_;refine Vr rfl λ r b w2 f2=>?_;let F:Nat->af->Prop:=λ j=>Ft w r b (.cells M.cells.toArray 37 (0,0)) (tx (xP M) j);have f2:F 0 w2:=f2;refine⟨λ n w3 m=>∃ k:Nat,n=k/\k<=10/\m=10-k/\F k w3,⟨10,0,rfl,by omega,by omega,f2⟩,?_⟩;rintro w3 m n ⟨k,rfl,hk,hm,f3⟩ -
 by_cases d:(k:Int)<10
 ·have g:=Zy M (k:=k) (by omega);have fd:=Ft.to f3 (aC.drew w3 []);have hc:∀ {w:af},F k w->w.cell? (Addr.add ⟨r,0,none⟩ ((((k+1:Nat):Int)).toNat*1))=some (iv (M.cn (k+1))):=λ f=>by
   rw[om,aD,gG]; exact(Ft.cell f (k+1)).trans (G6 M (by omega))
  rw[wH (by omega)];refine aP d ⟨by omega,by omega,_,hc fd,au (OT _ _) ?_⟩;rintro _ w4 ⟨rfl,c4⟩;have f4:=Ft.to fd c4;refine⟨_,rfl,hc f4,au (uD (ht.av f4.av) (hw.cn _ (by omega))) ?_⟩;rintro _ w5 ⟨rfl,c5⟩;refine⟨_,rfl,Jl [rK ((k+1:Nat):Int),Lib.itoa (M.cn (k+1))] (Ft.to f4 c5) rfl (by simp) (W g).1 (W g).2 (by have:=P k; omega) λ w8 f8=>⟨10-(k+1),by omega,k+1,rfl,by omega,rfl,?_⟩⟩;show Ft _ _ _ _ _ _;rw[wA g]; exact f8
 obtain rfl:k=10:=by omega
 have g:(xP M)[10]?=some [TS,Lib.itoa M.rf]:=Ss M 0;refine aU d ⟨_,(Ft.cell f3 11).trans rfl,au (uD (ht.av f3.av) hw.rf) ?_⟩;rintro _ w5 ⟨rfl,c5⟩;refine⟨_,rfl,Jl [TS,Lib.itoa M.rf] (Ft.to f3 c5) rfl (by simp) (W g).1 (W g).2 (by have:=P 10; omega) λ w8 f8=>?_⟩;have f8:F 11 w8:=by show Ft _ _ _ _ _ _; rw[wA g]; exact f8
 refine⟨_,_,_,(Ft.cell f8 12).trans rfl,λ n A m=>∃ i:Nat,n=i/\i<=M.ps.length/\m=M.ps.length-i/\F (11+i) A,⟨M.ps.length,0,rfl,by omega,by omega,f8⟩,?_⟩;rintro A m n ⟨i,rfl,hi,hm,f9⟩ -
 by_cases d:(i:Int)<(M.ps.length:Int)
 ·obtain⟨u,hu⟩:=bx M.ps i (by omega);have g:=ZA hu;have hin:=hw.ps u (bf hu);obtain⟨q,R,D⟩:=(h.av f9.av).ps.at hu;refine aP d (aq R ⟨by omega,by omega,u,D,aG z6.vs.toArray λ r5 w14 s14=>s14.az 0 rfl u.vs rfl (I6.one _) λ w15 s15=>s15.aB #[sv WX] λ r6 w16 S=>⟨u,S.cellsIn 1 rfl,?_⟩⟩);refine⟨λ a l c n V m=>∃ j:Nat,n=j/\j<=6/\m=6-j/\l=((LY u).take (j+1)).length/\St A V (star (PY a c ((LY u).take (j+1))) (Sep [aj r5 u.vs.toArray 57,emp])),⟨6,0,rfl,by omega,by omega,rfl,DD S 0 rfl (xs:=[WX]) rfl (by simp)⟩,?_⟩;rintro V m a l c n ⟨j,rfl,hj,hm',rfl,E⟩ -
  by_cases p:(j:Int)<6
  ·have K:j<6:=by omega
   have hy:(LY u)[j+1]?=some (Lib.itoa (u.at' j)):=by
    rw[LY,um,dD,uY K]; rfl
   refine aP p ⟨by omega,by omega,u.at' j,?_,au (Vo (ht.av (f9.av.trans E.av (by simp))) (hin j K)) ?_⟩
   ·rw[aD,gG]
    match j,K with
    | 0,_|1,_|2,_|3,_|4,_|5,_=>rfl
   rintro _ w18 ⟨rfl,c18⟩;have hl:((LY u).take (j+1)).length=j+1:=by rw[di]; simp[LY]; omega
   refine⟨_,rfl,dw Yx EE (x:=Lib.itoa (u.at' j)) (PZ _) (E.quiet c18) (by omega) (by omega) (λ a' c' w' L=>⟨6-(j+1),by omega,j+1,wH (by omega),by omega,rfl,?_,?_⟩) rfl⟩
   ·rw[aH hy,aY]
   ·rw[aH hy]; exact L
  ·obtain rfl:j=6:=by omega
   refine aU p ?_;rw[show(LY u).take 7=LY u from fN (by simp[LY])] at E ⊢;refine Jo (Ft.to f9 E.av) E (by simp[LY]) (W g).1 (W g).2 (by have:=P (11+i); omega) λ X f22=>⟨M.ps.length-(i+1),by omega,i+1,wH (by omega),by omega,rfl,?_⟩;show Ft _ _ _ _ _ _;rw[show 11+(i+1)=11+i+1 by omega,wA g]; exact f22
 obtain rfl:i=M.ps.length:=by omega
 refine aU d ⟨_,_,_,(Ft.cell f9 14).trans rfl,λ n A m=>∃ i:Nat,n=i/\i<=M.rr.length/\m=M.rr.length-i/\F (11+M.ps.length+i) A,⟨M.rr.length,0,rfl,by omega,by omega,f9⟩,?_⟩;clear f9 f8 f3 d;rintro A m n ⟨i,rfl,hi,hm,f9⟩ -
 by_cases d:(i:Int)<(M.rr.length:Int)
 ·obtain⟨u,hu⟩:=bx M.rr i (by omega);have g:=Zz hu;obtain⟨q,R,D⟩:=(h.av f9.av).rr.at hu;refine aP d (aq R ⟨by omega,by omega,u,D.1,au (uD (ht.av f9.av) (hw.rr u (bf hu))) ?_⟩);rintro _ w5 ⟨rfl,c5⟩;refine⟨_,rfl,Jl [TT,Lib.itoa u] (Ft.to f9 c5) rfl (by simp) (W g).1 (W g).2 (by have:=P (11+M.ps.length+i); omega) λ X f22=>⟨M.rr.length-(i+1),by omega,i+1,wH (by omega),by omega,rfl,?_⟩⟩;show Ft _ _ _ _ _ _;rw[show 11+M.ps.length+(i+1)=11+M.ps.length+i+1 by omega,wA g]; exact f22
 obtain rfl:i=M.rr.length:=by omega
 refine aU d ⟨_,_,_,(Ft.cell f9 13).trans rfl,λ n A m=>∃ i:Nat,n=i/\i<=M.bs.length/\m=M.bs.length-i/\F (11+M.ps.length+M.rr.length+i) A,⟨M.bs.length,0,rfl,by omega,by omega,f9⟩,?_⟩;clear f9 d;rintro A m n ⟨i,rfl,hi,hm,f9⟩ -
 by_cases d:(i:Int)<(M.bs.length:Int)
 ·obtain⟨x,hu⟩:=bx M.bs i (by omega);have g:=Zx hu;have J:=bf hu;obtain⟨h1,h2,h3,h4,h5⟩:=hw.bs x J;have hI:=h.av f9.av;obtain⟨q,R,D⟩:=hI.bs.at hu;refine aP d (aq R ⟨by omega,by omega,bs x.nm,Ex4 ⟨_,_,_,D,aG M6.cells.toArray λ r9 w29 s29=>s29.az 0 rfl x.cells rfl x.one λ w30 t=>?_⟩⟩);have t:=t.quiet (aC.drew w30 []);have C:∀ {w:af} {B:List aI} (j:Nat) {v:Value},St A w (Sep (aj r9 x.cells.toArray 54 :: B))->x.cells.toArray[j]?=some v->w.cell? ⟨r9,j,none⟩=some v:=λ j v s e=>by rw[s.ag 0 rfl]; exact e
  refine⟨bs x.nm,C 0 t rfl,x.dm,C 1 t rfl,x.bi,C 2 t rfl,x.wd,C 3 t rfl,au (uD (ht.av (f9.av.trans t.av (by simp))) h1) ?_⟩;rintro _ w31 ⟨rfl,c31⟩;have G:=t.quiet c31;refine⟨_,rfl,C 3 G rfl,C 2 G rfl,C 0 G rfl,au (uD (ht.av (f9.av.trans G.av (by simp))) h2) ?_⟩;rintro _ w32 ⟨rfl,c32⟩;have I:=G.quiet c32;refine⟨_,rfl,C 3 I rfl,C 0 I rfl,au (uD (ht.av (f9.av.trans I.av (by simp))) h3) ?_⟩;rintro _ w33 ⟨rfl,c33⟩;have T:=I.quiet c33;let H:Bool->List (List UInt8):=λ o=>[YK,x.nm,Lib.itoa x.dm,Lib.itoa x.bi,Lib.itoa x.wd,if o then [111,117,116] else [105,110]];refine⟨_,rfl,C 0 T rfl,T.aB ((H false).map sv).toArray λ r10 w34 N=>⟨λ Y=>St A Y (Sep [aj r10 ((H x.out).map sv).toArray 9,aj r9 x.cells.toArray 54,emp]),?_,x.out,(by rw[N.ag 1 rfl]; rfl),?_⟩⟩
  rotate_left
  ·cases ho:x.out with
   | false=>exact cF rfl N
   | true=>exact cT rfl ⟨by omega,by omega,N.aN 0 rfl (by show 5<6; decide) rfl λ w42 s42=>s42⟩
  intro Y U _;refine⟨_,_,_,(by rw[U.ag 1 rfl]; rfl),?_⟩;have O:∀ j,(M8 x).take (6+j)=H x.out++(x.pts.take j).map Lib.itoa:=λ j=>by
   show(H x.out++x.pts.map Lib.itoa).take (6+j)=_;rw[HF,fN (by show 6<=6+j; omega),List.map_take]
   congr 2
   show 6+j-6=j;omega
  have b0:=DD U 0 rfl (xs:=H x.out) rfl (by show 6<=1000; decide);refine⟨λ a l c n Z m=>∃ j:Nat,n=j/\j<=x.pts.length/\m=x.pts.length-j/\l=((M8 x).take (6+j)).length/\St A Z (star (PY a c ((M8 x).take (6+j))) (Sep [aj r9 x.cells.toArray 54,emp])),⟨x.pts.length,0,rfl,by omega,by omega,by rw[O]; rfl,by rw[O,show H x.out++(x.pts.take 0).map Lib.itoa=H x.out from zK _]; exact b0⟩,?_⟩;rintro Z m a l c n ⟨j,rfl,hj,hm',rfl,z⟩ -;have hl:((M8 x).take (6+j)).length=6+j:=by rw[O,aY,dU,di]; show 6+_=_; omega
  by_cases p:(j:Int)<(x.pts.length:Int)
  ·obtain⟨v,hv⟩:=bx x.pts j (by omega);obtain⟨q4,hq4,Q⟩:=((hI.bi x J).av z.av).at hv;refine aP p (aq hq4 ⟨by omega,by omega,v,Q.1,au (uD (ht.av (f9.av.trans z.av (by simp))) (h4 v (bf hv))) ?_⟩);rintro _ w37 ⟨rfl,c37⟩;have e:(M8 x).take (6+(j+1))=(M8 x).take (6+j)++[Lib.itoa v]:=by rw[O,O,aH hv,bP,mJ]; rfl
   refine⟨_,rfl,dw Yx EE (x:=Lib.itoa v) (PZ _) (z.quiet c37) (by omega) (by omega) (λ a' c' w' L=>⟨x.pts.length-(j+1),by omega,j+1,wH (by omega),by omega,rfl,?_,?_⟩) rfl⟩
   ·rw[e,aY]
   ·rw[e]; exact L
  ·obtain rfl:j=x.pts.length:=by omega
   refine aU p ?_;rw[show(M8 x).take (6+x.pts.length)=M8 x by rw[O,br]; rfl] at z ⊢;refine Jo (Ft.to f9 z.av) z (by simp[M8]) (W g).1 (W g).2 (by have:=P (11+M.ps.length+M.rr.length+i); omega) λ X f22=>⟨M.bs.length-(i+1),by omega,i+1,wH (by omega),by omega,rfl,?_⟩;show Ft _ _ _ _ _ _;rw[show 11+M.ps.length+M.rr.length+(i+1)=11+M.ps.length+M.rr.length+i+1 by omega,wA g]; exact f22
 obtain rfl:i=M.bs.length:=by omega
 exact aU d (au (UX f9) λ _ w' ⟨h1,h2⟩=>by subst h1; exact⟨_,rfl,rfl,h2⟩)
def Uh{α:Type}{f:α->List Value}{t e:TypeId}{z:Value}{sz by_:Nat}(d:j7 prog t e z sz by_)(g:∀ x,(f x).length=sz)(h1:∀ x,∀ v∈f x,v.oneCell'=true){w:af}{a1 a2:OA}{c1 c2:Nat}{l1 l2:List α}(r1:cP sz f w a1 l1)(r2:cP sz f w a2 l2)(o:(l1.length+l2.length)*by_<=140737488355328)(hm:l1.length+l2.length<=1000000){R:Option Addr->Nat->Nat->af->Prop}(k:∀ a c w',aC w w' []->R a (l1.length+l2.length) c w') :
  gi prog (Builtin.append_ #[t,t] t #[.slice none 0 0,.slice a1 l1.length c1]) w λ m q=>∃ (a:OA) (l c:Nat),m=.slice a l c/\gi prog (Builtin.append_ #[t,t] t #[.slice a l c,.slice a2 l2.length c2]) q λ n r=>∃ (a:OA) (l c:Nat),n=.slice a l c/\R a l c r:=by
 have s:=zG by_ (Nat.le_add_right l1.length l2.length);refine bQ (l:=[]) d g h1 ((St.start w).dy) r1 (by simp; omega) (by simp; omega) λ a' c' w' h=>?_;refine bQ d g h1 h (r2.av h.av) (by simpa using o) (by simp; omega) λ i j p b=>?_;rw[show(([]:List α)++l1++l2).length=l1.length+l2.length by simp];exact k _ _ _ b.av
section
variable {w:af} {M N:Sm}
def Sf{a1 a2:OA}{c1 c2:Nat}{l1 l2:List I6}(r1:cP 6 I6.vs w a1 l1)(r2:cP 6 I6.vs w a2 l2)(hm:l1.length+l2.length<=1000) :
  CP 33 #[.slice a1 l1.length c1,.slice a2 l2.length c2] w (λ r w'=>(∃ a c,r=.slice a (l1.length+l2.length) c)/\aC w w' []) :=
 xN.2.1 (Uh WA bE I6.one r1 r2 (by omega) (by omega) λ _ _ _ h=>⟨⟨_,_,rfl⟩,h⟩)
def Kg{a1 a2:OA}{c1 c2:Nat}{l1 l2:List Int}(r1:cP 1 i1 w a1 l1)(r2:cP 1 i1 w a2 l2)(hm:l1.length+l2.length<=1000) :
  CP 34 #[.slice a1 l1.length c1,.slice a2 l2.length c2] w (λ r w'=>(∃ a c,r=.slice a (l1.length+l2.length) c)/\aC w w' []) :=
 xN.2.2.1 (Uh QV bV pQ r1 r2 (by omega) (by omega) λ _ _ _ h=>⟨⟨_,_,rfl⟩,h⟩)
def OM(h:M.bs.length≠N.bs.length):CP 13 #[.agg M.cells.toArray,.agg N.cells.toArray] w (λ r w'=>(∃ S:Sm,r=.tuple #[.agg S.cells.toArray,iv 2])/\aC w w' []) :=
 qm (aG M.cells.toArray λ _ _ s1=>s1.aB N.cells.toArray λ _ _ s2=>s2.aB gz.cells.toArray λ _ _ a=>⟨_,_,_,a.ag 2 rfl 13,_,_,_,a.ag 1 rfl 13,cT (by simp; omega)
  (a.az 0 rfl gz.cells rfl (Sm.one _) λ _ b=>(Ex8<|Ex8<|Ex4<|⟨_,b.cellsIn 0 rfl,⟨gz,rfl⟩,b.av⟩))⟩)
def YU(M N:Sm)(pa:OA)(pc:Nat)(ra:OA)(rc:Nat):Sm:=⟨λ _=>0,IntKind.i64.wrap (M.rf+N.rf),M.ps++N.ps,pa,pc,[],none,0,M.rr++N.rr,ra,rc⟩
def ON(M N S:Sm)(k:Nat):Sm:={ S with cn:=λ i=>if i<k then IntKind.i64.wrap (M.cn i+N.cn i) else 0 }
def Sv(S:Sm):∀ {k:Nat},k<11->(ON M N S k).cells.toArray.setIfInBounds k (iv (IntKind.i64.wrap (M.cn k+N.cn k)))=(ON M N S (k+1)).cells.toArray
 | 0,_|1,_|2,_|3,_|4,_|5,_|6,_|7,_|8,_|9,_|10,_=>rfl
structure MgR (M N S:Sm):Prop where
 cn:∀ i,i<11->S.cn i=IntKind.i64.wrap (M.cn i+N.cn i)
 ps:S.ps.length=M.ps.length+N.ps.length
 bs:S.bs.length=M.bs.length
 pt:∀ (i:Nat) (x y z:Bs),M.bs[i]?=some x->N.bs[i]?=some y->S.bs[i]?=some z->z.pts.length=x.pts.length+y.pts.length
end
def UY{w0 w:af}{L:List aI}{r:Nat}{T:TypeId}{z:Bs}(s:St w0 w (Sep (aj r z.cells.toArray T :: L))):cP 6 Bs.cells w (qs r) [z]:=λ j x a=>by
 match j,a with
 | 0,rfl=>exact⟨_,_,rfl,by rw[bY]; exact s.cellsIn 0 rfl,rfl,rfl⟩
set_option maxHeartbeats 4000000 in
theorem OL{w:af}{M N:Sm}(hM:M.In w)(hN:N.In w)(hl:M.bs.length=N.bs.length)(hn:∀ (i:Nat) (x y:Bs),M.bs[i]?=some x->N.bs[i]?=some y->x.nm=y.nm)(b1:M.ps.length+N.ps.length<=1000)(b2:M.rr.length+N.rr.length<=1000)(b3:M.bs.length<=1000)(b4:∀ x∈M.bs,∀ y∈N.bs,x.pts.length+y.pts.length<=1000) :
  CP 13 #[.agg M.cells.toArray,.agg N.cells.toArray] w (λ r w'=>∃ S:Sm,r=.tuple #[.agg S.cells.toArray,iv 0]/\MgR M N S/\St w w' (Sep [QU S.ba S.bc S.bs,emp])):=by
 refine qm (aG M.cells.toArray λ r1 w1 s1=>s1.aB N.cells.toArray λ r2 w2 s2=>s2.aB gz.cells.toArray λ r3 w3 O=>?_);let B:List aI:=[aj r3 gz.cells.toArray 37,aj r2 N.cells.toArray 37,aj r1 M.cells.toArray 37,emp];have O:St w w3 (Sep B):=O;refine⟨_,_,_,O.ag 2 rfl 13,_,_,_,O.ag 1 rfl 13,cF (by simp; omega) ⟨_,_,_,O.ag 2 rfl 13,λ n w5 m=>∃ k:Nat,n=k/\k<=M.bs.length/\m=M.bs.length-k/\St w w5 (Sep B),⟨M.bs.length,0,rfl,by omega,by omega,O⟩,?_⟩⟩;rintro w5 m n ⟨k,rfl,hk,hm,p⟩ -;have p:=p.quiet (aC.drew w5 [])
 by_cases j:(k:Int)<(M.bs.length:Int)
 ·obtain⟨x,T⟩:=bx M.bs k (by omega);obtain⟨y,U⟩:=bx N.bs k (by omega);obtain⟨q,hq,F⟩:=(hM.av p.av).bs.at T;obtain⟨q',I,v⟩:=(hN.av p.av).bs.at U;exact aP j ⟨_,_,_,p.ag 2 rfl 13,aq hq ⟨by omega,by omega,bs x.nm,F.1,_,_,_,p.ag 1 rfl 13,aq I ⟨by omega,by omega,bs y.nm,v.1,cF (by rw[hn k x y T U]; simp) ⟨M.bs.length-(k+1),by omega,k+1,wH (by omega),by omega,rfl,p⟩⟩⟩⟩
 refine aU j ?_;let E:Sm->Nat->List aI:=λ S r=>aj r S.cells.toArray 37 :: B;refine⟨λ r w7=>∃ pa pc ra rc,St w w7 (Sep (E (YU M N pa pc ra rc) r)),?_,?_⟩
 ·clear O p j hm hk;rintro w7 r ⟨pa,pc,ra,rc,t⟩ -;generalize hZ:YU M N pa pc ra rc=Z at t;have z0:ON M N Z 0=Z:=by subst hZ; rfl
  refine⟨λ n w8 m=>∃ k:Nat,n=k/\k<=11/\m=11-k/\St w w8 (Sep (E (ON M N Z k) r)),⟨11,0,rfl,by omega,by omega,by rw[z0]; exact t⟩,?_⟩;rintro w8 m n ⟨k,rfl,hk,hm,s8⟩ -
  by_cases j:(k:Int)<11
  ·have G:k<11:=by omega
   have f:=s8.quiet (aC.drew w8 []);have g:∀ {r:Nat} {S:Sm} (i:Nat),(E (ON M N Z k) r)[i]?=some (aj r S.cells.toArray 37)->True:=λ _ _=>trivial;refine aP j ⟨by omega,by omega,M.cn k,?_,by omega,by omega,N.cn k,?_,by omega,by omega,?_⟩
   ·rw[om,aD,gG,f.ag 3 rfl]; exact G6 M G
   ·rw[om,aD,gG,f.ag 2 rfl]; exact G6 N G
   ·rw[om,aD,gG];refine f.aN 0 rfl (by show k<15; omega) rfl λ Q o=>⟨11-(k+1),by omega,k+1,wH (by omega),by omega,rfl,?_⟩;rw[Sv Z G] at o;exact o
  obtain rfl:k=11:=by omega
  clear t z0 j hm hk;have zc:∀ i,i<11->(ON M N Z 11).cn i=IntKind.i64.wrap (M.cn i+N.cn i):=λ i hi=>ak hi;have zb:(ON M N Z 11).bs=[]/\(ON M N Z 11).ba=none/\(ON M N Z 11).bc=0/\(ON M N Z 11).ps=M.ps++N.ps:=by subst hZ; exact⟨rfl,rfl,rfl,rfl⟩
  generalize ON M N Z 11=Y at s8 zc zb;obtain⟨hb,hba,hbc,hps⟩:=zb;have e0:({ Y with bs:=[],ba:=none,bc:=0 }:Sm)=Y:=by rw[<- hb,<- hba,<- hbc]
  let P:Nat->af->Prop:=λ k w'=>∃ (l:List Bs) (a:OA) (c:Nat),l.length=k/\(∀ (i:Nat) (x y z:Bs),M.bs[i]?=some x->N.bs[i]?=some y->l[i]?=some z->z.pts.length=x.pts.length+y.pts.length) /\
   St w w' (Sep (QU a c l :: E { Y with bs:=l,ba:=a,bc:=c } r))
  refine cF rfl ⟨_,_,_,s8.ag 3 rfl 13,λ n Q m=>∃ k:Nat,n=k/\k<=M.bs.length/\m=M.bs.length-k/\P k Q,⟨M.bs.length,0,rfl,by omega,by omega,[],none,0,rfl,λ i x y z _ _ h=>by simp at h,by rw[e0]; exact s8.dy⟩,?_⟩;rintro Q m n ⟨k,rfl,hk,hm,l,a,c,H,hpt,o⟩ -;generalize hY:({ Y with bs:=l,ba:=a,bc:=c }:Sm)=Y' at o;have V:Y'.bs=l/\Y'.ba=a/\Y'.bc=c:=by subst hY; exact⟨rfl,rfl,rfl⟩
  by_cases j:(k:Int)<(M.bs.length:Int)
  ·obtain⟨x,T⟩:=bx M.bs k (by omega);obtain⟨y,U⟩:=bx N.bs k (by omega);have X:=bf T;have hmy:=bf U;obtain⟨q,hq,F⟩:=(hM.av o.av).bs.at T;refine aP j ⟨P (k+1),λ w11 h11 _=>⟨M.bs.length-(k+1),by omega,k+1,wH (by omega),by omega,rfl,h11⟩,aq hq ⟨by omega,by omega,bs x.nm,Ex4 ⟨_,_,_,F,o.aB M6.cells.toArray λ r5 w12 s12=>s12.az 0 rfl x.cells rfl x.one λ w13 J=>?_⟩⟩⟩;obtain⟨q',I,v⟩:=(hN.av J.av).bs.at U;refine⟨_,_,_,J.ag 4 rfl 13,aq I ⟨by omega,by omega,bs y.nm,Ex4 ⟨_,_,_,v,J.aB M6.cells.toArray λ r6 w14 s14=>s14.az 0 rfl y.cells rfl y.one λ w15 d=>?_⟩⟩⟩;have d:=d.quiet (aC.drew w15 []);have C:∀ {w':af} {L:List aI} {i:Nat},St w w' (Sep L)->L[i]?=some (aj r Y'.cells.toArray 37)->w'.cell? ⟨r,13,none⟩=some (.slice a l.length c):=λ s e=>by
    rw[s.ag _ e,<- V.1,<- V.2.1,<- V.2.2]; rfl
   let B':List aI:=[aj r6 y.cells.toArray 54,aj r5 x.cells.toArray 54,QU a c l,aj r Y'.cells.toArray 37,aj r3 gz.cells.toArray 37,aj r2 N.cells.toArray 37,aj r1 M.cells.toArray 37,emp];have tl:∀ {A:af} (z:Bs),St w A (Sep B')->z.pts.length=x.pts.length+y.pts.length->cR A (.cells z.cells.toArray 54) λ r7 R=>R.cell? ⟨r,13,none⟩=some (.slice a l.length c) /\
     gi prog (Builtin.append_ #[35,35] 35 #[.slice a l.length c,.slice (qs r7) 1 1]) R λ e2 w18=>∃ (a:OA) (l c:Nat),e2=.slice a l c/\fL w18 ⟨r,13,none⟩ (.slice a l c) λ w19=>P (k+1) w19:=λ {A} z b hz =>
    b.aB z.cells.toArray λ r7 R K=>⟨C K (i:=4) rfl,bQ Yr Bs.len Bs.one (K.out 3 rfl) (l2:=[z]) (UY K) (by simp only[bS]; omega) (by simp only[bS]; omega) λ a' c' w18 s18=>St.aN (l:=QU a' c' (l++[z]) :: aj r7 z.cells.toArray 54 :: aj r6 y.cells.toArray 54 :: aj r5 x.cells.toArray 54 :: aj r Y'.cells.toArray 37 :: B) s18 4 rfl (by show 13<15; decide) rfl λ w19 s19=>⟨l++[z],a',c',by rw[aY,H]; rfl,λ i x' y' z' h1 h2 h3=>by
     by_cases hi:i<k
     ·rw[lD (by omega)] at h3; exact hpt i x' y' z' h1 h2 h3
     ·rw[kH (by omega),H] at h3;obtain rfl:i=k:=by
       rcases bw (i-k) 1 with h|h
       ·omega
       ·rw[cr (by simpa using h)] at h3; cases h3
      rw[yR] at h3;rw[T] at h1; rw[U] at h2; cases h1; cases h2; cases h3; exact hz,by
     have:=s19.ay [0,4,5,6,7,8];subst hY;exact this⟩⟩
   have ji:=Kg (c1:=x.pc) (c2:=y.pc) ((hM.av d.av).bi x X) ((hN.av d.av).bi y hmy) (b4 x X y hmy);refine⟨_,_,_,C d (i:=3) rfl,bs x.nm,d.ag 1 rfl 0,x.dm,d.ag 1 rfl 1,y.dm,d.ag 0 rfl 1,x.bi,d.ag 1 rfl 2,y.bi,d.ag 0 rfl 2,x.wd,d.ag 1 rfl 3,y.wd,d.ag 0 rfl 3,x.out,d.ag 1 rfl 4,?_⟩
   cases ho:x.out with
   | true =>
    refine cT rfl ⟨_,_,_,d.ag 1 rfl 5,_,_,_,d.ag 0 rfl 5,au ji ?_⟩;rintro _ A ⟨⟨a5,c5,rfl⟩,D⟩;have b:=d.quiet D;refine⟨_,_,_,rfl,b.ag 0 rfl 3,b.ag 1 rfl 3,b.ag 0 rfl 2,b.ag 1 rfl 2,b.ag 0 rfl 1,b.ag 1 rfl 1,b.ag 1 rfl 0,C b (i:=3) rfl,?_⟩;rw[<- aY];exact tl ⟨x.nm,_,_,_,true,x.pts++y.pts,a5,c5⟩ b aY
   | false =>
    refine cF rfl ⟨y.out,d.ag 0 rfl 4,_,_,_,d.ag 1 rfl 5,_,_,_,d.ag 0 rfl 5,au ji ?_⟩;rintro _ A ⟨⟨a5,c5,rfl⟩,D⟩;have b:=d.quiet D;refine⟨_,_,_,rfl,b.ag 0 rfl 4,b.ag 0 rfl 3,b.ag 1 rfl 3,b.ag 0 rfl 2,b.ag 1 rfl 2,b.ag 0 rfl 1,b.ag 1 rfl 1,b.ag 1 rfl 0,C b (i:=3) rfl,?_⟩;rw[<- aY];exact tl ⟨x.nm,_,_,_,y.out,x.pts++y.pts,a5,c5⟩ b aY
  ·obtain rfl:k=M.bs.length:=by omega
   refine aU j (Ex8<|Ex8<|Ex4<|⟨_,o.cellsIn 1 rfl,o.az 2 rfl Y'.cells rfl (Sm.one _) λ w24 s24=>(Ex8<|Ex8<|Ex4<|⟨_,s24.cellsIn 2 rfl,Y',rfl,?_,?_⟩)⟩)
   ·subst hY;exact⟨zc,by rw[hps,aY],H,hpt⟩
   ·rw[V.1,V.2.1,V.2.2]; exact s24.ay [0,5]
 ·have fin:∀ {w':af} {r:Nat} {a4 a5:OA} {c4 c5:Nat},St w w' (Sep (E gz r))->uP ⟨r,0,none⟩ 0 [iv 0,iv 0,iv 0,iv 0,iv 0,iv 0,iv 0,iv 0,iv 0,iv 0,iv 0,iv (IntKind.i64.wrap (M.rf+N.rf)),.slice a4 (M.ps.length+N.ps.length) c4,.slice none 0 0,.slice a5 (M.rr.length+N.rr.length) c5] w' λ w''=>∃ pa pc ra rc,St w w'' (Sep (E (YU M N pa pc ra rc) r)):=λ {w' r a4 a5 c4 c5} s=>by
   rw[<- aY,<- aY];exact s.az 0 rfl (YU M N a4 c4 a5 c5).cells rfl (Sm.one _) λ w'' s''=>⟨_,_,_,_,s''⟩
  have jp:∀ {w':af} {L:List aI},St w w' (Sep L)->_:=λ {w' L} s=>Sf (c1:=M.pc) (c2:=N.pc) (hM.av s.av).ps (hN.av s.av).ps b1;have jr:∀ {w':af} {L:List aI},St w w' (Sep L)->_:=λ {w' L} s=>Kg (c1:=M.rc) (c2:=N.rc) (hM.av s.av).rr (hN.av s.av).rr b2;refine⟨_,p.ag 2 rfl 11,_,p.ag 1 rfl 11,_,_,_,p.ag 2 rfl 12,_,_,_,p.ag 1 rfl 12,_,_,_,p.ag 2 rfl 14,_,_,_,p.ag 1 rfl 14,au (jp p) ?_,p.aB gz.cells.toArray λ r9 w9 f=>⟨f.ag 2 rfl 14,f.ag 3 rfl 14,f.ag 2 rfl 12,f.ag 3 rfl 12,f.ag 2 rfl 11,f.ag 3 rfl 11,au (jp f) ?_⟩⟩
  ·rintro _ w6 ⟨⟨a4,c4,rfl⟩,c6⟩;have u:=p.quiet c6;refine⟨_,_,_,rfl,u.ag 1 rfl 14,u.ag 2 rfl 14,u.ag 1 rfl 11,u.ag 2 rfl 11,au (jr u) ?_,u.aB gz.cells.toArray λ r9 w9 f=>⟨f.ag 2 rfl 14,f.ag 3 rfl 14,f.ag 2 rfl 11,f.ag 3 rfl 11,au (jr f) ?_⟩⟩
   ·rintro _ w7 ⟨⟨a5,c5,rfl⟩,W⟩;have t:=u.quiet W;exact⟨_,_,_,rfl,t.ag 1 rfl 11,t.ag 2 rfl 11,t.aB gz.cells.toArray λ r9 w9 f=>⟨f.ag 2 rfl 11,f.ag 3 rfl 11,fin f⟩⟩
   ·rintro _ w7 ⟨⟨a5,c5,rfl⟩,W⟩;have t:=f.quiet W;exact⟨_,_,_,rfl,t.ag 2 rfl 11,t.ag 3 rfl 11,fin t⟩
  ·rintro _ w6 ⟨⟨a4,c4,rfl⟩,c6⟩;have u:=f.quiet c6;refine⟨_,_,_,rfl,u.ag 2 rfl 14,u.ag 3 rfl 14,u.ag 2 rfl 11,u.ag 3 rfl 11,au (jr u) ?_⟩;rintro _ w7 ⟨⟨a5,c5,rfl⟩,W⟩;have t:=u.quiet W;exact⟨_,_,_,rfl,t.ag 2 rfl 11,t.ag 3 rfl 11,fin t⟩
end Go.Proofs.YtjcfdidmajodiaaGreatDoor
namespace Go.Proofs.YtjcfdidmajodiaaGreatDoor
open Go Go.Vc _root_.Go.Proofs.Tryz
def UR{σ:Cs}{k:Nat}(b:Iv σ k):σ.S.s.bd.length<=8:=by
 have a:=b.ok
 by_cases h:σ.S.ph=0
 ·rw[show σ.S.s.bd=[] from show σ.S.s.er.bd=dL.bd by rw[a.z h]]; decide
 ·exact(a.so h).bd.l2
end Go.Proofs.YtjcfdidmajodiaaGreatDoor
namespace Go.Proofs.YtjcfdidmajodiaaGreatDoor
open Go Go.Vc Go.Sort Go.RowKit _root_.Go.Proofs.Tryz
def Wk:Po:=⟨1,0,1,1⟩
def saT:List UInt8:=[112,114,111,100,117,99,116,32,97,32,49,32,51,32,50,32,48,10,98,105,100,100,101,114,32,120,32,48,32,48,32,53,10,98,105,100,100,101,114,32,121,32,48,32,48,32,53,10]
def EF:List Ev:=[⟨1,0,0,z6,saT,0⟩,⟨2,1,0,⟨1,0,0,0,0,0⟩,[],0⟩,⟨3,0,0,z6,[],0⟩,⟨1,0,0,z6,saT,0⟩]
def Na:Sm:=UA (lO Wk EF)
def saW:List UInt8:=[115,97,108,101,32,49,10,100,101,109,97,110,100,32,49,10,114,111,117,110,100,32,49,10,115,116,111,112,32,48,10,98,105,100,32,48,10,119,105,116,104,100,114,97,119,32,48,10,100,105,115,113,117,97,108,105,102,121,32,48,10,114,101,114,117,110,32,48,10,99,108,111,115,101,32,48,10,100,101,99,105,100,101,32,48,10,114,101,102,117,115,101,100,32,49,10,112,114,105,99,101,115,32,51,32,48,32,48,32,48,32,48,32,48,10,98,105,100,100,101,114,32,120,32,48,32,48,32,48,32,105,110,32,48,10,98,105,100,100,101,114,32,121,32,49,32,48,32,48,32,105,110,32,50,10]
def Tp:∀ e∈EF,e.In:=by
 intro e he;simp only[EF,cJ,mb,mc] at he;rcases he with rfl|rfl|rfl|rfl<;>exact⟨by show(0:Int)<=0; decide,by show(0:Int)<18446744073709551616; decide⟩
def ZF(L:List (List (List UInt8))):Bool:=L.all λ xs=>decide (xs.length<=1000)&&xs.all λ y=>decide (y.length<=100)
def Ut{L:List (List (List UInt8))}(h:ZF L=true):∀ xs∈L,xs.length<=1000/\∀ y∈xs,y.length<=100:=λ xs a=>by
 have:=dS.1 h xs a;rw[aX] at this;exact⟨iI this.1,λ y b=>iI (dS.1 this.2 y b)⟩
def Yl:Na.rf=1:=by kernel_rfl
def Yk:Na.ps=[⟨3,0,0,0,0,0⟩]:=by kernel_rfl
def Yi:Na.bs=[⟨[120],0,0,0,false,[0],none,0⟩,⟨[121],1,0,0,false,[2],none,0⟩]:=by kernel_rfl
def Ym:Na.rr=[]:=by kernel_rfl
def Yj:ZF (xP Na)=true:=by kernel_rfl
def Yn:tx (xP Na) 14=saW:=by kernel_rfl
def ZZ:ZF (xP gz)=true:=by kernel_rfl
def VG(M:Sm):xP M.er=xP M:=by
 unfold xP Sm.er Xb;simp only[eG];rfl
structure Y8 (M:Sm):Prop where
 cn:∀ i,i<11->0<=M.cn i/\M.cn i<=1
 c1:M.cn 1=1
 rf:M.rf=1
 ps:M.ps=[⟨3,0,0,0,0,0⟩]
 rr:M.rr=[]
 bs:∃ p c q d,M.bs=[⟨[120],0,0,0,false,[0],p,c⟩,⟨[121],1,0,0,false,[2],q,d⟩]
 ln:xP M=xP Na
def saF{M:Sm}(h:M.er=Na):Y8 M:=by
 have hc:M.er.cn=Na.cn:=by rw[h]
 change M.cn=Na.cn at hc
 have cn:(List.range 11).all (λ i=>decide (0<=Na.cn i/\Na.cn i<=1))=true:=by kernel_rfl
 refine⟨λ i hi=>?_,?_,(by rw[h]; exact Yl:M.er.rf=1),(by rw[h]; exact Yk:M.er.ps=_),(by rw[h]; exact Ym:M.er.rr=_),?_,by rw[<- VG,h]⟩
 ·rw[hc]; exact iI (dS.1 cn i (iH.2 hi))
 ·rw[hc]; kernel_rfl
 ·have a:=Yi;rw[<- h] at a
  change M.bs.map Bs.er=_ at a
  match hm:M.bs,a with
  | [⟨a1,a2,a3,a4,a5,b,p,c⟩,⟨e,f,g,j,k,l,q,d⟩],a =>
   simp only[jm,yP,Bs.er,Dw,Bs.mk.injEq,and_true] at a;obtain⟨⟨rfl,rfl,rfl,rfl,rfl,rfl⟩,rfl,rfl,rfl,rfl,rfl,rfl⟩:=a;exact⟨p,c,q,d,rfl⟩
def Y8.Zw{M:Sm}(F:Y8 M):QW M:=by
 obtain⟨p,c,q,d,e⟩:=F.bs;have H:∀ {n:Int},0<=n->n<=3->In n:=λ h1 h2=>⟨by omega,by omega⟩;have a:∀ n:Nat,(h:n<=3:=by decide)->In (n:Int):=λ n h=>H (by omega) (by omega);refine⟨by rw[F.ln]; exact Ut Yj,λ i hi=>H (F.cn i hi).1 (by have:=(F.cn i hi).2; omega),H (by rw[F.rf]; decide) (by rw[F.rf]; decide),λ u hu i hi=>?_,λ n b=>by rw[F.rr] at b; simp at b,λ x f=>?_,by rw[F.ps,e,F.rr]; exact⟨(by decide:1<=100),(by decide:2<=100),(by decide:0<=100)⟩⟩
 ·rw[F.ps,bp] at hu;subst hu
  match i,hi with
  | 0,_|1,_|2,_|3,_|4,_|5,_=>exact H (by decide) (by decide)
 ·rw[e,cJ,bp] at f;rcases f with rfl|rfl
  ·exact⟨a 0,a 0,a 0,λ n b=>by rw[bp.1 b]; exact a 0,(by decide:1<=100)⟩
  ·exact⟨a 1,a 0,a 0,λ n b=>by rw[bp.1 b]; exact a 2,(by decide:1<=100)⟩
def W2:QW gz:=⟨Ut ZZ,λ _ _=>⟨by show -9223372036854775808<=(0:Int); decide,by show(0:Int)<=9223372036854775807; decide⟩,⟨by show -9223372036854775808<=(0:Int); decide,by show(0:Int)<=9223372036854775807; decide⟩,λ u hu=>by simp[gz] at hu,λ u hu=>by simp[gz] at hu,λ u hu=>by simp[gz] at hu,⟨by decide,by decide,by decide⟩⟩
def ZY(w:af):gz.In w:=⟨λ j x a=>by simp[gz] at a,λ j x a=>by simp[gz] at a,λ x a=>by simp[gz] at a,λ j x a=>by simp[gz] at a⟩
def Z0:tx (xP gz) (11+gz.ps.length+gz.rr.length+gz.bs.length)=[115,97,108,101,32,48,10,100,101,109,97,110,100,32,48,10,114,111,117,110,100,32,48,10,115,116,111,112,32,48,10,98,105,100,32,48,10,119,105,116,104,100,114,97,119,32,48,10,100,105,115,113,117,97,108,105,102,121,32,48,10,114,101,114,117,110,32,48,10,99,108,111,115,101,32,48,10,100,101,99,105,100,101,32,48,10,114,101,102,117,115,101,100,32,48,10]:=by kernel_rfl
def KZ(w:af):CP 11 #[] w (λ r w'=>r=Wk.v/\aC w w' []) :=
 (p6 xN).1 (aG #[iv 0,iv 0,iv 0,iv 0] λ r1 b s1=>s1.az 0 rfl Wk.cells rfl (by intro v a; simp[Wk,Po.cells] at a; rcases a with rfl|rfl|rfl<;>rfl) λ c s2=>⟨_,_,_,_,s2.cellsIn 0 rfl,rfl,s2.av⟩)
def Wl(w:af):CP 10 #[] w (λ r w'=>∃ r1:Nat,r=.slice (qs r1) 4 4/\St w w' (Sep [aj r1 (EF.flatMap Ev.cells).toArray 45,emp])) :=
 xN.2.2.2.2.2.1 (aG (EF.flatMap Ev.cells).toArray λ r1 _ s1=>⟨r1,rfl,s1.ay [0,9]⟩)
def Tn{w0 w:af}{l:List aI}{r1:Nat}(s1:St w0 w (Sep l))(i:Nat)(e:l[i]?=some (aj r1 (EF.flatMap Ev.cells).toArray 45)):cP 11 Ev.cells w (qs r1) EF:=λ j x a=>by
 match j,a with
 | 0,rfl=>exact⟨_,_,rfl,by rw[bY]; exact s1.aQ i 0 e rfl,rfl,rfl⟩
 | 1,rfl=>exact⟨_,_,rfl,by rw[bY]; exact s1.aQ i 11 e rfl,rfl,rfl⟩
 | 2,rfl=>exact⟨_,_,rfl,by rw[bY]; exact s1.aQ i 22 e rfl,rfl,rfl⟩
 | 3,rfl=>exact⟨_,_,rfl,by rw[bY]; exact s1.aQ i 33 e rfl,rfl,rfl⟩
def P0(w:af):CP 14 #[.pointer none,Wk.v] w (λ r w'=>r=.tuple #[.agg gz.cells.toArray,iv 6]/\aC w w' []) :=
 (p6 xN).2.1 (aG Wk.cells.toArray λ _ _ b=>b.aB gz.cells.toArray λ _ _ c=>c.az 0 rfl gz.cells rfl (Sm.one _) λ _ a=>(Ex8<|Ex8<|Ex4<|⟨_,a.cellsIn 0 rfl,rfl,a.av⟩))
set_option maxHeartbeats 4000000 in
theorem NC{w:af}(ht:QL w):CP 5 #[] w (λ r w'=>r=.bool true/\aC w w' []):=by
 refine xN.2.2.2.2.1 ?_;refine au (Wl w) ?_;rintro _ V ⟨r1,rfl,s1⟩;refine⟨_,_,_,rfl,au (KZ V) ?_⟩;rintro _ w2 ⟨rfl,c2⟩;have s2:=s1.quiet c2;refine⟨_,_,_,_,rfl,au (B5 (l:=EF) Wk (Tn s2 0 rfl) Tp (by decide)) ?_⟩;rintro _ w3 ⟨M,rfl,J,O⟩;have F:=saF J;have P:St w w3 (Sep [held M.In,aj r1 (EF.flatMap Ev.cells).toArray 45,emp]):=s2.and O;refine Ex8<|Ex8<|Ex4<|⟨_,rfl,P.aB gz.cells.toArray λ r2 w4 Q=>Q.az 0 rfl M.cells rfl (Sm.one _) λ w5 E=>?_⟩;have f5:=FJ (M:=gz) (ZY w5) (ht.av E.av) W2;rw[Z0] at f5;refine au f5 ?_;clear f5;rintro _ w6 ⟨rfl,H⟩;have u:=E.quiet H;have hI:=u.bC 1 rfl;obtain⟨pb,cb,D,A,c⟩:=F.bs;refine⟨_,rfl,Ex8<|Ex8<|Ex4<|⟨_,u.cellsIn 0 rfl,au (OM (M:=M) (N:=gz) (by rw[c]; exact(by decide:2≠0))) ?_⟩⟩;rintro _ w7 ⟨⟨G,rfl⟩,I⟩;have T:=u.quiet I;refine Ex8<|Ex8<|Ex4<|⟨_,_,rfl,T.aB gz.cells.toArray λ r3 w8 U=>U.az 0 rfl G.cells rfl (Sm.one _) λ w9 e=>(Ex8<|Ex8<|Ex4<|⟨_,e.cellsIn 1 rfl,Ex8<|Ex8<|Ex4<|⟨_,e.cellsIn 1 rfl,?_⟩⟩)⟩;have B:=0;refine au (OL (M:=M) (N:=M) (e.bC 2 rfl) (e.bC 2 rfl) rfl (λ i x y h1 h2=>by rw[h1] at h2; cases h2; rfl) (by rw[F.ps]; decide) (by rw[F.rr]; decide) (by rw[c]; exact(by decide:2<=1000)) (by rw[c]; intro x C y d; simp at C d; rcases C with rfl|rfl<;>rcases d with rfl|rfl<;>exact(by decide:1+1<=1000))) ?_;rintro _ W ⟨S,rfl,R,k⟩;have m:=St.cat (l:=[QU S.ba S.bc S.bs,emp]) (e.and k);refine Ex8<|Ex8<|Ex4<|⟨_,_,rfl,m.aB gz.cells.toArray λ r4 X n=>n.az 0 rfl S.cells rfl (Sm.one _) λ v o=>au (KZ v) ?_⟩;rintro _ z ⟨rfl,f⟩;have p:=o.quiet f;refine⟨_,_,_,_,rfl,au (P0 z) ?_⟩;rintro _ Y ⟨rfl,g⟩;have s:=p.quiet g;refine Ex8<|Ex8<|Ex4<|⟨_,_,rfl,s.aB gz.cells.toArray λ r7 Z t=>t.az 0 rfl gz.cells rfl (Sm.one _) λ w19 b=>(Ex8<|Ex8<|Ex4<|⟨_,b.cellsIn 5 rfl,?_⟩)⟩;have f19:=FJ (M:=M) (b.bC 6 rfl) (ht.av b.av) F.Zw;rw[show tx (xP M) (11+M.ps.length+M.rr.length+M.bs.length)=saW by rw[F.ln,F.ps,F.rr,c]; exact Yn] at f19;refine au f19 ?_;clear f19;rintro _ w20 ⟨rfl,h⟩;have a:=b.quiet h;have K:S.bs.length=2:=R.bs.trans (by rw[c]; rfl);obtain⟨y,d⟩:=bx S.bs 1 (by omega);have hp:y.pts.length=1+1:=R.pt 1 ⟨[121],1,0,0,false,[2],D,A⟩ ⟨[121],1,0,0,false,[2],D,A⟩ y (by rw[c]; rfl) (by rw[c]; rfl) d;obtain⟨q,L,j⟩:=(St.rd Bs.len (a.out 2 rfl)).at d;refine⟨_,rfl,cT ?_ (cT (by kernel_rfl) ⟨by decide,by decide,by decide,by decide,cT (by kernel_rfl) ⟨iI (by kernel_rfl),iI (by kernel_rfl),cT (by kernel_rfl) (cT rfl (cT rfl ⟨by decide,by decide,_,a.ag 1 rfl 1,cT ?_ ⟨_,_,_,a.ag 1 rfl 12,cT ?_ ⟨_,_,_,a.ag 1 rfl 13,cT ?_ ⟨_,_,_,a.ag 1 rfl 13,aq L ⟨by decide,by omega,_,_,_,j.2.2.2.2.2.1,cT ?_ ⟨rfl,a.av⟩⟩⟩⟩⟩⟩))⟩⟩)⟩
 ·kernel_rfl
 ·rw[R.cn 1 (by decide),F.c1]; kernel_rfl
 ·rw[R.ps,F.ps]; rfl
 ·rw[K]; rfl
 ·rw[hp]; rfl
end Go.Proofs.YtjcfdidmajodiaaGreatDoor
namespace Go.Proofs.YtjcfdidmajodiaaGreatDoor
open Go Go.Vc _root_.Go.Proofs.Tryz
def A2{σ:Cs}{k:Nat}(a:Iv σ k)(q:k<=61){M:Sm}(d:M.er=UA σ):M.ps.length<=1000/\M.bs.length<=1000/\M.rr.length<=1000/\∀ x∈M.bs,x.pts.length<=1000:=by
 have j:M.ps=if σ.S.ph=0 then [] else σ.C.cl.map Rn.p:=show M.er.ps=_ by rw[d]; rfl
 have h:M.bs.map Bs.er=T8 σ:=show M.er.bs=_ by rw[d]; rfl
 have l:M.rr=σ.rr:=show M.er.rr=_ by rw[d]; rfl
 have hlen:M.bs.length=σ.S.s.bd.length:=by have:=congrArg List.length h; simpa[T8] using this
 have n:=UR a;have r:=a.rr;have o:=a.bd.1 8;refine⟨?_,by omega,by rw[l]; omega,λ x m=>?_⟩
 ·rw[j]
  split
  ·decide
  ·rename_i b;have:=(a.ok.c b).ok.cl;rw[dU]; omega
 ·have f:x.er∈T8 σ:=by rw[<- h]; exact gP m
  obtain⟨i,hi,g⟩:=bL.1 f;have e:σ.S.ph≠0:=λ b=>by
   rw[show σ.S.s.bd=[] from show σ.S.s.er.bd=dL.bd by rw[a.ok.z b]] at hi
   cases hi
  have h1:x.pts.length=σ.C.cl.length:=show x.er.pts.length=_ by rw[<- g]; simp[Fg]
  have:=(a.ok.c e).ok.cl;omega
def Vm{w:af}{a:OA}{c:Nat}{l:List Ev}(h:cP 11 Ev.cells w a l) :
  CP 4 #[.slice a l.length c] w (λ r w'=>∃ b:Bool,r=.bool b/\w'=w/\(b=true->l.length<=60/\∀ e∈l,e.text.length<=2000)):=by
 refine ue.2.2.2.2.1 ?_
 by_cases g:(l.length:Int)>60
 ·exact aP g ⟨false,rfl,rfl,λ h=>by cases h⟩
 refine aU g ⟨λ n w' m=>∃ k:Nat,n=k/\k<=l.length/\m=l.length-k/\w'=w/\∀ e∈l.take k,e.text.length<=2000,⟨l.length,0,rfl,by omega,by omega,rfl,by simp⟩,?_⟩;rintro w' m n ⟨k,rfl,p,hm,rfl,ha⟩ -
 by_cases f:(k:Int)<(l.length:Int)
 ·obtain⟨e,j⟩:=bx l k (by omega);obtain⟨q,o,i⟩:=h.at j;have hc:=aM i 9 (sv e.text) rfl;refine aP f (aq o ⟨by omega,by omega,bs e.text,hc,?_⟩)
  by_cases g2:(((bs e.text).size:Nat):Int)>2000
  ·exact aP g2 ⟨false,rfl,rfl,λ h=>by cases h⟩
  ·refine aU g2 (jZ (by omega) ⟨rfl,λ y d=>?_⟩);rw[aH j] at d;rcases aV.1 d with d|d
   ·exact ha y d
   ·rw[bp.1 d]; rw[dX] at g2; omega
 ·refine aU f ⟨true,rfl,rfl,λ _=>⟨by omega,λ e he=>ha e ?_⟩⟩;rw[fN (by omega)]; exact he
def NT{w:af}{a:OA}{c:Nat}{l:List Ev}(aw:QL w)(o:Po)(h:cP 11 Ev.cells w a l)(hi:∀ e∈l,e.In) :
  CP 3 #[.slice a l.length c,o.v] w (λ r w'=>r=.bool true/\aC w w' []):=by
 refine(p6 ue).2.2.1 ?_;refine aG o.cells.toArray λ r1 I s1=>au (Vm (h.av s1.av)) ?_;rintro v n ⟨b,rfl,rfl,A⟩;refine⟨b,rfl,?_⟩;have fin:∀ {n:af},aC w n []->CC 5 #[] n (λ e w'=>∃ b,e=.returned (.bool b)/\(Value.bool b=.bool true/\aC w w' [])):=λ hc=>au (NC (aw.av hc)) λ v w' ⟨h1,h2⟩=>by subst h1; exact⟨true,rfl,rfl,hc.trans h2 (by simp)⟩
 cases b with
 | false=>exact cT rfl (fin s1.av)
 | true =>
 obtain⟨H,B⟩:=A rfl;have p:=I0 o l hi;have t1:=s1.quiet (aC.drew _ []);refine cF rfl ⟨_,_,_,_,t1.cellsIn 0 rfl,_,_,_,_,t1.cellsIn 0 rfl,au (B5 o (h.av t1.av) hi (by omega)) ?_⟩;rintro v F ⟨M,rfl,d,C⟩;have j:St w F (Sep [held M.In,aj r1 o.cells.toArray 24,emp]):=t1.and C;obtain⟨q,i,s,t⟩:=A2 p (by omega) d;refine Ex8<|Ex8<|Ex4<|⟨_,rfl,j.cellsIn 1 rfl,au (SP (j.bC 0 rfl) i) ?_⟩;rintro v u ⟨ba,bc,rfl,D⟩;have f:St w u (Sep [held λ m=>cP 6 Bs.cells m ba M.bs,held M.In,aj r1 o.cells.toArray 24,emp]):=j.and D;have f:St w u (Sep [held ({ M with ba:=ba,bc:=bc }:Sm).In,aj r1 o.cells.toArray 24,emp]):=f.fX (aW _) (aW _) λ w' i1 i2=>⟨i2.ps,i1,i2.bi,i2.rr⟩;have d:({ M with ba:=ba,bc:=bc }:Sm).er=UA (lO o l):=d;generalize z:({ M with ba:=ba,bc:=bc }:Sm)=Mf at f d;obtain⟨q,i,s,t⟩:=A2 p (by omega) d;refine Ex8<|Ex8<|Ex4<|⟨_,rfl,f.cellsIn 1 rfl,au (Er o (h.av f.av) hi (λ e he=>by have:=B e he; omega) (by omega)) ?_⟩;rintro v G ⟨x,rfl,g,E⟩;have k:St w G (Sep [held x.In,held Mf.In,aj r1 o.cells.toArray 24,emp]):=f.and E;refine Ex8<|Ex8<|Ex4<|⟨_,rfl,au (Wm (k.bC 1 rfl) (k.bC 0 rfl) (d.trans g.symm) q i s t) ?_⟩;rintro v J ⟨rfl,y⟩;exact⟨true,rfl,cT rfl (fin (k.av.trans y (by simp)))⟩
end Go.Proofs.YtjcfdidmajodiaaGreatDoor
namespace Go.Proofs.YtjcfdidmajodiaaGreatDoor
open Go Go.Vc Go.RowKit Go.Deep
def iB{P:Program}{w:af}{d:Nat}{t:TypeId}{cs:List Value}{a:Array Field}(h:tX P w (d+1) t cs)(hu:P.underlying t=some (.struct a))(i:Nat)(f:Field)(b:a[i]?=some f) :
  tX P w d f.type ((cs.drop f.offset).take (P.cellsOf f.type)):=by
 unfold tX at h;simp only[hu] at h;exact h.2 f (by simpa using Hz b)
theorem Kk{α:Type}{Q:Nat->α->Prop}:∀ {l:Nat},(∀ i,i<l->∃ a,Q i a)->∃ L:List α,L.length=l/\∀ i a,L[i]?=some a->Q i a
 | 0,_=>⟨[],rfl,λ i a h=>by simp at h⟩
 | l+1,h=>by
  obtain⟨L,h1,h2⟩:=Kk (l:=l) λ i hi=>h i (by omega);obtain⟨a,ha⟩:=h l (by omega);refine⟨L++[a],by simp[h1],λ i b c=>?_⟩;rcases bw i L.length with hi|hi
  ·rw[lD hi] at c; exact h2 i b c
  ·rw[kH hi] at c;have d:i-L.length=0:=by
    have:=(aR.1 c).1;simp at this; omega
   rw[d] at c;simp at c;subst c;rw[show i=l by omega]; exact ha
theorem Kf:∀ {cs:List Value},(∀ v∈cs,∃ n,v=iv n/\In n)->∃ a:List Int,cs=a.map iv/\∀ n∈a,In n
 | [],_=>⟨[],rfl,by simp⟩
 | v :: cs,h=>by
  obtain⟨n,rfl,c⟩:=h v (lA ..);obtain⟨a,rfl,d⟩:=Kf (cs:=cs) λ u hu=>h u (jH _ hu);refine⟨n :: a,rfl,λ x b=>?_⟩;rcases cJ.1 b with rfl|b
  ·exact c
  ·exact d x b
def nW{w:af}{d t:Nat}{cs:List Value}(h:tX Tryz.prog w (d+1) t cs)(hu:Tryz.prog.underlying t=some (.int .i64)):∃ n,cs=[iv n]/\In n:=by
 unfold tX at h;simp only[hu] at h;obtain⟨n,rfl,hw⟩:=h;refine⟨n,rfl,?_⟩;simp[Lit.wf,IntKind.min,IntKind.max,IntKind.signed,IntKind.bits] at hw;exact⟨by omega,by omega⟩
def SM{w:af}{d t k e:Nat}{cs:List Value}(h:tX Tryz.prog w (d+2) t cs)(hu:Tryz.prog.underlying t=some (.array k e))(he:Tryz.prog.underlying e=some (.int .i64))(hc:Tryz.prog.cellsOf t=k)(h1:Tryz.prog.cellsOf e=1) :
  ∃ a:List Int,cs=a.map iv/\a.length=k/\∀ n∈a,In n:=by
 unfold tX at h;simp only[hu] at h;obtain⟨f,hi⟩:=h;rw[hc] at f;obtain⟨a,rfl,l⟩:=Kf (cs:=cs) λ v m=>by
  obtain⟨i,b,rfl⟩:=qQ.1 m;obtain⟨n,c,j⟩:=nW (hi i (by omega)) he;rw[h1,gG] at c;have g:(cs.drop i).take 1=[cs[i]]:=by
   rw[jC b]; rfl
  rw[g] at c;exact⟨n,by simpa using c,j⟩
 exact⟨a,rfl,by simpa using f,l⟩
def Mc{w:af}{d t e:Nat}{cs:List Value}(h:tX Tryz.prog w (d+1) t cs)(hu:Tryz.prog.underlying t=some (.slice e)) :
  ∃ (a:OA) (l c:Nat),cs=[.slice a l c]/\l<=c/\l<=9223372036854775807/\l*Tryz.prog.bytesOf e<=140737488351232 /\
   ∀ i,i<l->∃ q b,a=some q/\b.length=Tryz.prog.cellsOf e/\aA w (q.add (i*Tryz.prog.cellsOf e)) 0 b/\tX Tryz.prog w d e b:=by
 unfold tX at h;simp only[hu] at h;obtain⟨a,l,c,rfl,k,f,_,n,hi⟩:=h;refine⟨a,l,c,rfl,k,by unfold maxLen at f; omega,n,λ i p=>?_⟩;obtain⟨q,b,ha,g,r⟩:=hi i p;obtain⟨_,hlen,o⟩:=World.cells?_some g;exact⟨q,b,ha,hlen,bM _ 0 λ j v m=>by
  rw[aL,o j (by have:=(aR.1 m).1; omega)]; exact m,r⟩
def HQ:Tryz.prog.cellsOf 3=1:=by kernel_rfl
def NJ:Tryz.prog.cellsOf 2=1:=by kernel_rfl
def JX:Tryz.prog.cellsOf 42=6:=by kernel_rfl
def Rv:Tryz.prog.cellsOf 9=1:=by kernel_rfl
def Rp:Tryz.prog.cellsOf 43=1:=by kernel_rfl
def Rr:Tryz.prog.cellsOf 45=11:=by kernel_rfl
def Ru:Tryz.prog.cellsOf 24=4:=by kernel_rfl
def VV{w:af}{cs:List Value}(h:tX Tryz.prog w 5 45 cs)(hlen:cs.length=11):∃ e:Ev,cs=e.cells/\e.In:=by
 match cs,hlen with
 | [x0,x1,b,c,f,g,i,j,k,l,a],_ =>
  have v:tX Tryz.prog w 4 3 (([x0,x1,b,c,f,g,i,j,k,l,a].drop 0).take (Tryz.prog.cellsOf 3)):=iB h Tryz.underlying45 0 _ rfl;have x:tX Tryz.prog w 4 3 (([x0,x1,b,c,f,g,i,j,k,l,a].drop 1).take (Tryz.prog.cellsOf 3)):=iB h Tryz.underlying45 1 _ rfl;have y:tX Tryz.prog w 4 3 (([x0,x1,b,c,f,g,i,j,k,l,a].drop 2).take (Tryz.prog.cellsOf 3)):=iB h Tryz.underlying45 2 _ rfl;have z:tX Tryz.prog w 4 42 (([x0,x1,b,c,f,g,i,j,k,l,a].drop 3).take (Tryz.prog.cellsOf 42)):=iB h Tryz.underlying45 3 _ rfl;have m:tX Tryz.prog w 4 9 (([x0,x1,b,c,f,g,i,j,k,l,a].drop 9).take (Tryz.prog.cellsOf 9)):=iB h Tryz.underlying45 4 _ rfl;have n:tX Tryz.prog w 4 43 (([x0,x1,b,c,f,g,i,j,k,l,a].drop 10).take (Tryz.prog.cellsOf 43)):=iB h Tryz.underlying45 5 _ rfl;rw[HQ] at v x y; rw[JX] at z; rw[Rv] at m; rw[Rp] at n;obtain⟨n0,o,_⟩:=nW v Tryz.underlying3;obtain⟨n1,p,_⟩:=nW x Tryz.underlying3;obtain⟨n2,q,_⟩:=nW y Tryz.underlying3;obtain⟨A,r,l3,_⟩:=SM z Tryz.underlying42 Tryz.underlying3 JX HQ;unfold tX at m n;simp only[Tryz.underlying9] at m;simp only[Tryz.underlying43] at n;obtain⟨s,t,_⟩:=m;obtain⟨d,u,hd⟩:=n
  match A,l3 with
  | [B,u1,u2,u3,u4,u5],_ =>
   simp at o p q r t u;obtain⟨rfl,rfl,rfl,rfl,rfl,rfl⟩:=r;subst o p q t u;refine⟨⟨n0,n1,n2,⟨B,u1,u2,u3,u4,u5⟩,s.data.toList,d⟩,rfl,⟨?_⟩⟩;simp[Lit.wf,IntKind.min,IntKind.max,IntKind.signed,IntKind.bits] at hd;show 0<=d/\d<18446744073709551616;omega
def Pd{w:af}{cs:List Value}(h:tX Tryz.prog w 6 22 cs):∃ (a:OA) (c:Nat) (l:List Ev),cs=[.slice a l.length c]/\l.length<=c/\cP 11 Ev.cells w a l/\∀ e∈l,e.In:=by
 obtain⟨a,n,c,rfl,hc,_,_,hi⟩:=Mc h Tryz.underlying22;obtain⟨L,h1,h2⟩:=Kk (Q:=λ i (e:Ev)=>e.In/\∃ q,a=some q/\aA w (q.add (i*11)) 0 e.cells) (l:=n) λ i f=>by
  obtain⟨q,d,ha,hlen,hc,g⟩:=hi i f;rw[Rr] at hlen hc;obtain⟨e,rfl,he⟩:=VV g hlen;exact⟨e,he,q,ha,hc⟩
 refine⟨a,c,L,by rw[h1],by omega,λ i e he=>let ⟨_,q,hq,hc⟩:=h2 i e he; ⟨q,_,hq,hc,rfl,rfl⟩,λ e he=>?_⟩;obtain⟨i,b,rfl⟩:=qQ.1 he;exact(h2 i _ (gE b)).1
def SI{w:af}{cs:List Value}(h:tX Tryz.prog w 6 24 cs):∃ o:Po,cs=o.cells:=by
 have hlen:cs.length=4:=by
  have c:=h;unfold tX at c;simp only[Tryz.underlying24] at c;rw[<- Ru]; exact c.1
 match cs,hlen with
 | [x0,x1,a,b],_ =>
  have i:tX Tryz.prog w 5 2 (([x0,x1,a,b].drop 0).take (Tryz.prog.cellsOf 2)):=iB h Tryz.underlying24 0 _ rfl;have j:tX Tryz.prog w 5 3 (([x0,x1,a,b].drop 1).take (Tryz.prog.cellsOf 3)):=iB h Tryz.underlying24 1 _ rfl;have k:tX Tryz.prog w 5 3 (([x0,x1,a,b].drop 2).take (Tryz.prog.cellsOf 3)):=iB h Tryz.underlying24 2 _ rfl;have l:tX Tryz.prog w 5 3 (([x0,x1,a,b].drop 3).take (Tryz.prog.cellsOf 3)):=iB h Tryz.underlying24 3 _ rfl;rw[NJ] at i; rw[HQ] at j k l;obtain⟨n0,d,_⟩:=nW i Tryz.underlying2;obtain⟨n1,e,_⟩:=nW j Tryz.underlying3;obtain⟨n2,f,_⟩:=nW k Tryz.underlying3;obtain⟨n3,g,_⟩:=nW l Tryz.underlying3;simp at d e f g;subst d e f g;exact⟨⟨n0,n1,n2,n3⟩,rfl⟩
end Go.Proofs.YtjcfdidmajodiaaGreatDoor
namespace Go.Proofs.YtjcfdidmajodiaaGreatDoor
open Go Go.Vc Go.ChangeShapes Go.WideShapes Go.ChangeAt Go.RowKit _root_.Go.Proofs.Tryz
def own:ownKnob prog.godebug=none:=by kernel_rfl
def laidOut:laidOutB prog=true:=by kernel_rfl
def pf3:mapsRowed prog=true:=by kernel_rfl
def pf7:(prog.stops==[])=true:=by kernel_rfl
def pf9:(prog.stopKnobs==[])=true:=by kernel_rfl
def ZI:prog.stopsHeard=true:=by kernel_rfl
def ZJ:prog.mayEnter=true:=by kernel_rfl
def pfl:true=Tryz.pinned.checked.prog.looks []:=by kernel_rfl
def ND{w w':af}(h:aC w w' []):Below w.heap.size w w':=⟨h.env.os,h.env.tape,h.env.out,h.size,λ k a=>h.same k a (by simp)⟩
def F9(P:Program)(laid:List (String×DataW Unit))(w:af)(h:(laid.all λ x=>x.2.handleName?.isNone)=true):laidMetH P laid w=laidMet P laid w:=by
 have e:(laid.filter λ x=>x.2.handleName?.isSome)=[]:=by
  rw[JK];intro x b a;have:=dS.1 h x b;rw[Option.isNone_iff_eq_none] at this;rw[this] at a
  cases a
 unfold laidMetH;rw[e]
def ua:List (String×DataW Unit):=Rows.reportCountsRow.laid.filter λ x=>x.2.handleName?.isNone
noncomputable def oT(os:Os):af:=(World.holding prog os ⟨#[],#[],[]⟩).layVars prog ua
def D0(os:Os):(oT os).os=os:=(World.layVars_os _ _ _).trans rfl
def LQ(os:Os)(args:Array Value):laidMet prog ua ((oT os).forCall (λ _ _=>0) ⟨#[],args,[]⟩).memory:=by
 have a:(ua.filter λ x=>(ua.map (·.1)).contains x.1)=ua:=JL.2 λ x b=>Dn.2 (bL.2 ⟨x,b,rfl⟩);have c:(ua.filter λ x=>!(ua.map (·.1)).contains x.1)=[]:=JK.2 λ x b=>by rw[Dn.2 (bL.2 ⟨x,b,rfl⟩)]; simp
 have h:laidMet prog ua (oT os):=laidMet_layVars (w0:=World.holding prog os ⟨#[],#[],[]⟩) (ua.map (·.1)) [] (by rw[a]; rfl) (by rw[a]; kernel_rfl) (by rw[a]; kernel_rfl) (by rw[c]; exact LaidIn.none);exact h.of_heap (by simp[World.memory,World.forCall,Input.heap])
def Ap:(Rows.reportCountsRow.laid.all λ x=>x.2.handleName?.isNone)=true:=by kernel_rfl
def BC(os:Os)(args:Array Value):laidMetH prog Rows.reportCountsRow.laid ((oT os).forCall (λ _ _=>0) ⟨#[],args,[]⟩).memory:=by
 rw[F9 _ _ _ Ap];have e:ua=Rows.reportCountsRow.laid:=JL.2 (dS.1 Ap);rw[<- e]; exact LQ os args
def WQ{W:af}(h:laidMetH prog Rows.reportCountsRow.laid W):QL W:=by
 rw[F9 _ _ _ Ap] at h;have h2:laidMet prog (("internal/strconv.uint64pow10",Lib.tabData .u64 Lib.pow10Tab) :: Rows.reportCountsRow.laid.drop 3) W:=by
  have:=h.tail.tail;exact this
 exact Lib.tabIs_of_head (g:=0) (by kernel_rfl) (by kernel_rfl) (t:=237) (e:=43) (n:=20) (by kernel_rfl) (by kernel_rfl) (by kernel_rfl) (by kernel_rfl) h2

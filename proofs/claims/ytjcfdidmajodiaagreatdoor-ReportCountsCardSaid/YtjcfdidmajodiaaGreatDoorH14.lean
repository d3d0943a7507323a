import Derived.Test.YtjcfdidmajodiaaGreatDoorH13
set_option linter.unusedVariables false
set_option linter.defProp false
set_option maxRecDepth 100000
namespace Go.Proofs.YtjcfdidmajodiaaGreatDoor
open Go Go.Vc _root_.Go.Proofs.Tryz
def PJ{S:Se}{ws:List (List UInt8)}(h:qH S ws=0)(a:∀ p∈S.bd,p.nm≠[42]):∀ p∈(qL S ws).bd,p.nm≠[42]:=by
 unfold qL
 split
 ·exact a
 split
 ·rename_i g1 g2;intro p hp;rcases aV.1 hp with hp|hp
  ·exact a p hp
  ·rw[bp.1 hp];intro (h42:ws.getD 1 []=[42]);have b:ic S Jg [42]=(0,5):=by rw[ic,ak (.inr rfl),show cY [42]=false by decide]; rfl
   unfold qH at h;rw[g2,h42,b] at h
   split at h
   ·cases h
   split at h
   ·cases h
   rw[ak (by decide)] at h
   cases h
 split
 ·exact a
 split
 ·exact a
 ·exact a
def TC{S a:Se}(e:a.er=S.er)(h:∀ p∈S.bd,p.nm≠[42]):∀ p∈a.bd,p.nm≠[42]:=by
 have b:a.bd=S.bd:=show a.er.bd=S.er.bd from congrArg Se.bd e;rw[b]; exact h
def VF{S:Se}{n:Nat}(h:qS S n):js (Sep (Bi S [])) S.In :=
 js.mono (js.cons (js.and (bn Pr.len) rZ) (js.cons (js.and (bn Br.len) rZ) (js.cons (js.and (bn T3.len) rZ) (js.cons (js.and (bn T3.len) rZ) js.nil))))
  λ _ ⟨h1,h2,h3,h4,_⟩=>⟨fS.of h1.1 h.ps,mj.of h2.1 h.bd,Bp.of h3.1,Bp.of h4.1,h1.2,h2.2,h3.2,h4.2⟩
def IM(w:af)(t:List UInt8)(ht:t.length<=80000):CP 93 #[sv t] w (λ r w'=>∃ (a:Se) (i:Int),r=.tuple #[.agg a.arr,iv i,iv (lI t)]/\St w w' (held a.In)/\(lI t=0->a.er=(pX t).er/\a.Ok)):=by
 refine oQ.2.1 ?_;refine aG dL.arr λ r1 w1 s1=>?_;have bad:∀ {k i:Int} {w':af} {m:List aI} {j:Nat},St w w' (Sep m)->m[j]?=some (aj r1 dL.arr 73)->k≠0->lI t=k ->
   uP ⟨r1,0,none⟩ 0 dL.arr.toList w' λ Z=>∃ (a1:OA) (l1 c1:Nat) (a2:OA) (l2 c2:Nat) (a3:OA) (l3 c3:Nat) (a4:OA) (l4 c4:Nat),aA Z ⟨r1,0,none⟩ 0 [.slice a1 l1 c1,.slice a2 l2 c2,.slice a3 l3 c3,.slice a4 l4 c4] /\
    ∃ (a:Se) (i':Int),Value.tuple #[.agg #[.slice a1 l1 c1,.slice a2 l2 c2,.slice a3 l3 c3,.slice a4 l4 c4],iv i,iv k]=.tuple #[.agg a.arr,iv i',iv (lI t)]/\St w Z (held a.In)/\(lI t=0->a.er=(pX t).er/\a.Ok):=λ {k i w' m j} s e hk hp =>
  s.az j e dL.arr.toList rfl (by simp[dL,Se.arr,Value.oneCell']) λ Z s3=>(Ex8<|Ex4<|⟨s3.cellsIn (cs:=dL.arr) (T:=73) j (nK (gr e)),dL,i,by rw[hp]; rfl,((St.start' s3.av).one.jx Jr).first,λ h=>absurd (hp.symm.trans h) hk⟩)
 by_cases h4:4000<t.length
 ·exact cT (by rw[dX]; exact dT (by omega)) (bad s1 (j:=0) rfl (by decide) (by rw[lI,ak h4]))
 refine cF (by rw[dX]; exact dF (by omega)) (s1.aB dL.arr λ r2 Z s3=>au (uK Z 10 t (by omega)) ?_);rintro v w4 ⟨g,c,rfl,k4⟩;have e0:lI t=if (fQ dL (bD 10 t)).2≠0 then (fQ dL (bD 10 t)).2 else tv (fQ dL (bD 10 t)).1:=by rw[lI,ah h4]
 have hll:=tB 10 t;have hls:∀ x∈bD 10 t,x.length<=4000:=λ x M=>by have:=tC M; omega
 generalize hL:bD 10 t=L at *;let R:aI:=dK 9 1 sF (qs g) c L;have s4:St w w4 (Sep [R,aj r2 dL.arr 73,aj r1 dL.arr 73,emp]):=s3.and k4.single;have s5:St w w4 (Sep (aj r2 dL.arr 73 :: aj r1 dL.arr 73 :: Bi dL [R])):=by
  have h1:St w w4 (Sep [dK 134 5 Pr.cells none 0 [],dK 82 4 Br.cells none 0 [],dK 138 3 T3.cells none 0 [],dK 141 3 T3.cells none 0 [],R,aj r2 dL.arr 73,aj r1 dL.arr 73,emp]):=(((s4.dy).dy).dy).dy;exact h1.ay [5,6,0,1,2,3,4]
 have X9:js R λ w=>cP 1 sF w (qs g) L:=bn sg;refine⟨_,_,_,rfl,λ i w5 m=>∃ (k:Nat) (S:Se),i=k/\k<=L.length/\m=L.length-k/\qS S k/\(∀ p∈S.bd,p.nm≠[42])/\(fQ S (L.drop k)).1.er=(fQ dL L).1.er/\(fQ S (L.drop k)).2=(fQ dL L).2/\St w w5 (Sep (aj r2 S.arr 73 :: aj r1 dL.arr 73 :: Bi S [R])),⟨L.length,0,dL,rfl,by omega,by omega,⟨by simp[dL],by simp[dL],by simp[dL],by simp[dL],by simp[dL],by simp[dL]⟩,by simp[dL],rfl,rfl,s5⟩,?_⟩;rintro w5 m i ⟨k,S,rfl,hk,hm,J,C,p1,p2,G⟩ -
 by_cases K:(k:Int)<(L.length:Int)
 ·have M:L[k]?=some (L[k]'(by omega)):=gE (by omega);have b:L.drop k=L[k]'(by omega) :: L.drop (k+1):=jC (by omega);generalize L[k]'(by omega)=x at M b;rw[b,fQ] at p1 p2;have B:∀ {w':af} {l:List aI} {i:Nat},St w w' (Sep l)->l[i]?=some R->w'.cell? (Addr.add ⟨g,0,none⟩ (k*1))=some (sv x):=λ s e=>by
   obtain⟨q,hq,hc⟩:=uM ((s.out _ e).first.imp X9) M
   cases hq; exact hc
  refine aP K ⟨λ w6=>∃ a:Se,qS a (k+1)/\(∀ p∈a.bd,p.nm≠[42])/\(fQ a (L.drop (k+1))).1.er=(fQ dL L).1.er/\(fQ a (L.drop (k+1))).2=(fQ dL L).2/\St w w6 (Sep (aj r2 a.arr 73 :: aj r1 dL.arr 73 :: Bi a [R])),?_,aq rfl ⟨by omega,by omega,_,B G (i:=6) rfl,?_⟩⟩
  ·rintro w6 ⟨a,h1,h1',h2,h3,F⟩ -;exact⟨L.length-(k+1),by omega,k+1,a,cA (by omega),by omega,rfl,h1,h1',h2,h3,F⟩
  ·by_cases n:x=[]
   ·rw[ak n] at p1 p2;exact cT (by rw[n,fG]; rfl) ⟨S,J.up (by omega),C,p1,p2,G⟩
   ·rw[ah n] at p1 p2;have hxl:=hls x (bf M);have hwl:=tB 32 x;have hwp:=A4 32 x;have hws:∀ y∈bD 32 x,y.length<=1000000:=λ y hy=>by have:=tC hy; omega
    generalize hW:bD 32 x=W at *;have u:=G.quiet (aC.drew w5 []);refine cF (by rw[fG,fG]; exact aS.2 n) ⟨λ r3 n2 w7=>∃ a:Se,n2=qH S W/\a.er=(if qH S W=0 then qL S W else S).er/\St w w7 (Sep (aj r3 a.arr 73 :: aj r2 S.arr 73 :: aj r1 dL.arr 73 :: Bi a [R])),?_,?_⟩
    ·rintro w7 r3 n2 ⟨a,rfl,eS,F⟩ -
     by_cases z:qH S W=0
     ·rw[ah (λ h=>h z)] at p1 p2;rw[ak z] at eS;have h1:=zm (l:=L.drop (k+1)) eS;refine cF (by simpa using z) (Ex8<|Ex4<|⟨F.cellsIn 0 rfl,F.az 1 rfl a.arr.toList rfl a.one λ w9 H=>⟨a,(PI J _).er eS,TC eS (PJ z C),h1.1.trans p1,h1.2.trans p2,H.second⟩⟩)
     ·rw[ak z] at p1 p2;have p2:qH S W=(fQ dL L).2:=p2;exact cT (by simpa using z) (bad F (j:=2) rfl z (by rw[e0,ak (by rw[<- p2]; exact z),<- p2]))
    ·have ln:∀ {w':af} {X:aI} {g2 c2:Nat},St w w' (Sep (dK 9 1 sF (qs g2) c2 W :: X :: aj r2 S.arr 73 :: aj r1 dL.arr 73 :: Bi S [R])) ->
       CC 135 #[.agg S.arr,.slice (qs g2) W.length c2] w' (yd λ r P=>∃ a:Se,r=.tuple #[.agg a.arr,iv (qH S W)]/\a.er=(if qH S W=0 then qL S W else S).er/\St w P (Sep (X :: aj r2 S.arr 73 :: aj r1 dL.arr 73 :: Bi a [R]))):=λ {w' X g2 c2} F=>by
      have O:St w w' (Sep (Bi S (dK 9 1 sF (qs g2) c2 W :: [R,X,aj r2 S.arr 73,aj r1 dL.arr 73]))):=F.ay [4,5,6,7,0,8,1,2,3];refine(Mq O (bn sg) hwp (by omega) hws J (by omega) C).mono ?_;rintro e P ⟨r,rfl,a,e1,A,H⟩;exact⟨r,rfl,a,e1,A,H.ay [6,7,8,0,1,2,3,5]⟩
     have s0:St w w5.drew (Sep (Vc.held (λ _=>True) :: aj r2 S.arr 73 :: aj r1 dL.arr 73 :: Bi S [R])):=u.jx λ _=>trivial;refine Ex8<|Ex4<|⟨u.cellsIn 0 rfl,aq rfl ⟨by omega,by omega,_,B u (i:=6) rfl,⟨?_,?_⟩⟩⟩
     ·refine au (uK _ 32 x (by omega)) ?_;rw[hW];rintro v Q ⟨g2,c2,rfl,k10⟩;have D:St w Q (Sep (dK 9 1 sF (qs g2) c2 W :: Vc.held (λ _=>True) :: aj r2 S.arr 73 :: aj r1 dL.arr 73 :: Bi S [R])):=s0.and k10.single;refine⟨_,_,_,rfl,D.cellsIn 2 rfl,⟨au (ln D) ?_,?_⟩⟩
      ·rintro v U ⟨a,rfl,A,d⟩;refine Ex8<|Ex4<|⟨_,rfl,d.second.aB dL.arr λ r4 V s12=>s12.az 0 rfl a.arr.toList rfl a.one λ Y f=>⟨a,rfl,A,f⟩⟩
      ·refine D.aB dL.arr λ r5 w14 o=>⟨o.cellsIn 3 rfl,?_⟩;have o:St w w14 (Sep (dK 9 1 sF (qs g2) c2 W :: aj r5 dL.arr 73 :: aj r2 S.arr 73 :: aj r1 dL.arr 73 :: Bi S [R])):=o.ay [1,0,3,4,5,6,7,8,9];refine au (ln o) ?_;rintro v U ⟨a,rfl,A,d⟩;exact Ex8<|Ex4<|⟨_,rfl,d.az 0 rfl a.arr.toList rfl a.one λ Y f=>⟨a,rfl,A,f⟩⟩
     ·refine u.aB dL.arr λ r6 w17 E=>⟨B E (i:=7) rfl,E.cellsIn 1 rfl,au (uK _ 32 x (by omega)) ?_⟩;rw[hW];rintro v w18 ⟨g2,c2,rfl,k18⟩;have N:St w w18 (Sep (dK 9 1 sF (qs g2) c2 W :: aj r6 dL.arr 73 :: aj r2 S.arr 73 :: aj r1 dL.arr 73 :: Bi S [R])):=E.and k18.single;refine⟨_,_,_,rfl,N.cellsIn 2 rfl,au (ln N) ?_⟩;rintro v U ⟨a,rfl,A,d⟩;exact Ex8<|Ex4<|⟨_,rfl,d.az 0 rfl a.arr.toList rfl a.one λ Y f=>⟨a,rfl,A,f⟩⟩
 ·obtain rfl:k=L.length:=by omega
  rw[pE,fQ] at p1 p2;have p1:S.er=(fQ dL L).1.er:=p1;have p2:(0:Int)=(fQ dL L).2:=p2;rw[ah (λ h=>h p2.symm),<- I7 p1] at e0;refine aU K (Ex8<|Ex4<|⟨G.cellsIn 0 rfl,au (nY (OE G.second.second J)) ?_⟩);rintro v Q ⟨⟨rfl,hok⟩,c10⟩;have O:=G.quiet c10;refine⟨_,rfl,?_⟩
  by_cases I:tv S=0
  ·refine cF (by simpa using I) (Ex8<|Ex4<|⟨O.cellsIn 0 rfl,O.az 1 rfl S.arr.toList rfl S.one λ V H=>(Ex8<|Ex4<|⟨H.cellsIn (cs:=S.arr) 1 rfl,S,0,by rw[e0,I]; rfl,?_,λ _=>⟨by rw[pX,hL]; exact p1,hok.1 I⟩⟩)⟩);exact((show St w V (Sep (Bi S [])) from H.ay [2,3,4,5]).held (VF J))
  ·exact cT (by simpa using I) (bad O (j:=1) rfl I e0)
def Tq(b:Nat)(a:OA)(c:Nat)(l:List Tk)(e:Int):List aI:=[aj b #[.slice a l.length c,iv e] 269,held λ w=>cP 4 Tk.cells w a l]
def j0(w0 w:af)(b:Nat)(l:List Tk)(e:Int)(B:aI):Prop:=∃ a c,l.length<=c/\l.length<=4000/\St w0 w (Sep (Tq b a c l e++[B]))
section
variable {w0 w:af} {b:Nat} {l:List Tk} {e:Int} {B:aI}
def j0.quiet{w':af}(h:j0 w0 w b l e B)(hc:aC w w' []):j0 w0 w' b l e B:=let ⟨a,c,h1,h2,s⟩:=h; ⟨a,c,h1,h2,s.quiet hc⟩
def j0.av(h:j0 w0 w b l e B):aC w0 w []:=let ⟨_,_,_,_,s⟩:=h; s.av
def j0.add(h:j0 w0 w b l e B){w':af}{A:aI}(k:St w w' A):j0 w0 w' b l e (star A B):=by
 obtain⟨a,c,h1,h2,s⟩:=h;have s1:St w0 w' (Sep [A,_,_,B]):=s.and k;exact⟨a,c,h1,h2,(s1.ay [1,2,0,3]).eqv (bX.right (bX.right bX.assoc'))⟩
def j0.drop{A:aI}(h:j0 w0 w b l e (star A B)):j0 w0 w b l e B:=by
 obtain⟨a,c,h1,h2,s⟩:=h;exact⟨a,c,h1,h2,s.weak (bz.right (bz.right (bz.left ((bz.left (bz.none A)).trans (bX.swap.trans (bX.unit' B)).weak))))⟩
def j0.out{m:List aI}(h:j0 w0 w b l e (star (Sep m) B)):∃ d,St w0 w (Sep (m++[d]))/\∀ {w':af} {m':List aI},St w0 w' (Sep (m'++[d]))->j0 w0 w' b l e (star (Sep m') B):=by
 obtain⟨a,c,h1,h2,s⟩:=h;refine⟨star (Sep (Tq b a c l e)) B,St.open (((s.split (Tq b a c l e)).eqv (bX.right (bX.unit' _))).pY),λ k=>⟨a,c,h1,h2,?_⟩⟩;exact St.cat ((k.shut.pY).eqv (bX.right (bX.unit _)))
def j0.frame(h:j0 w0 w b l e B):St w0 w B:=by
 obtain⟨a,c,h1,h2,s⟩:=h;exact(s.split [_,_]).second.single
def rW(h:j0 w0 w b l e B):CP 243 #[pt b] w (λ r w'=>r=(aT l e).val/\aC w w' []):=by
 obtain⟨a,c,h1,h2,s⟩:=h;refine oQ.2.2.2.1 ?_;have rd:cP 4 Tk.cells w a l:=s.bC 1 rfl;have g0:=s.ag 0 rfl 0; have g1:=s.ag 0 rfl 1;refine aG kF.cells.toArray λ r1 o s1=>?_;have g:=dI g0 s1.av; have n:=dI g1 s1.av;refine⟨λ x j=>x = !(decide (e=0)&&decide (l.length≠0))/\j=o,?_,_,n,?_⟩
 ·rintro j x ⟨rfl,rfl⟩ -
  by_cases he:e=0
  ·cases l with
   | nil=>exact cT (by simp) (s1.az 0 rfl kF.cells rfl (Tk.one _) λ k d=>⟨_,_,_,_,d.cellsIn 0 rfl,by rw[aT,ak he]; rfl,d.av⟩)
   | cons x l =>
    obtain⟨q,m,f⟩:=(rd.av s1.av).at (i:=0) (x:=x) rfl;refine cF (by simp[he]) ⟨_,_,_,g,aq m ⟨by omega,by simp,_,_,_,_,f,s1.az 0 rfl x.cells rfl (Tk.one _) λ k d=>⟨_,_,_,_,d.cellsIn 0 rfl,by rw[aT,ak he]; rfl,d.av⟩⟩⟩
  ·exact cT (by simp[he]) (s1.az 0 rfl kF.cells rfl (Tk.one _) λ k d=>⟨_,_,_,_,d.cellsIn 0 rfl,by rw[aT,ah he]; rfl,d.av⟩)
 ·by_cases he:e=0
  ·refine cF (by simp[he]) ⟨_,_,_,g,?_,rfl⟩;rw[dT he]
   cases l with
   | nil=>rfl
   | cons x l=>simp; omega
  ·exact cT (by simpa using he) ⟨by simp[he],rfl⟩
def rV(h:j0 w0 w b l e B)(k:Int):CP 246 #[pt b,iv k] w (λ r w'=>r=.tuple #[]/\j0 w0 w' b l (cK e k) B):=by
 obtain⟨a,c,h1,h2,s⟩:=h;refine oQ.2.2.2.2.2.1 ?_;refine⟨_,s.ag 0 rfl 1,?_⟩
 by_cases he:e=0
 ·exact cT (by simpa using he) (s.aN 0 rfl (j:=1) (show 1<2 by decide) rfl λ d s2=>⟨rfl,a,c,h1,h2,by rw[cK,ak he]; exact s2⟩)
 ·exact cF (by simpa using he) ⟨rfl,a,c,h1,h2,by rw[cK,ah he]; exact s⟩
def xA(h:j0 w0 w b l e B):CP 304 #[pt b] w (λ r w'=>r=.tuple #[]/\j0 w0 w' b l (gx l e) B):=by
 refine(p6 oQ).1 ?_;refine⟨λ f=>j0 w0 f b l (if l.length=0 then cK e 1 else e) B,?_,?_⟩
 ·rintro f h1 -;refine au (rV h1 2) ?_;rintro v i ⟨rfl,h2⟩;refine⟨rfl,rfl,?_⟩;have:gx l e=cK (if l.length=0 then cK e 1 else e) 2:=by
   unfold gx cK
   split<;>split<;>simp_all
  rw[this]; exact h2
 ·have g:=h;obtain⟨a,c,h1,h2,s⟩:=g;refine⟨_,_,_,s.ag 0 rfl 0,?_⟩
  by_cases d:l.length=0
  ·refine cT (by simpa using d) (au (rV h 1) ?_);rintro v j ⟨rfl,h3⟩;exact⟨rfl,by rw[ak d]; exact h3⟩
  ·exact cF (by simpa using d) (by rw[ah d]; exact h)
def AK(h:j0 w0 w b l e B):CP 305 #[pt b] w (λ r w'=>r=(aT l e).val/\j0 w0 w' b (eL l e) e B):=by
 have o:=h;obtain⟨a,c,h1,h2,s⟩:=o;refine oQ.2.2.2.2.1 ?_;refine s.aB kF.cells.toArray λ r1 z s1=>?_;refine au (rW (⟨a,c,h1,h2,s1.ay [1,2,3]⟩:j0 w0 z b l e B)) ?_;rintro v D ⟨rfl,c2⟩;refine⟨_,_,_,_,rfl,(s1.quiet c2).aB kF.cells.toArray λ r2 E t=>t.az 0 rfl (aT l e).cells rfl (Tk.one _) λ A d=>?_⟩;refine⟨λ m=>∃ a' c',(eL l e).length<=c'/\St w0 m (Sep (aj r2 (aT l e).cells.toArray 310 :: aj r1 kF.cells.toArray 310 :: (Tq b a' c' (eL l e) e++[B]))),?_,?_⟩
 ·rintro m ⟨a',c',f,i⟩ -;have hle:(eL l e).length<=4000:=by
   unfold eL; split
   ·rw[sR]; omega
   ·exact h2
  exact⟨_,_,_,_,i.cellsIn 0 rfl,i.az 1 rfl (aT l e).cells rfl (Tk.one _) λ F k=>⟨_,_,_,_,k.cellsIn 1 rfl,rfl,a',c',f,hle,k.ay [2,3,4]⟩⟩
 refine⟨λ x n=>x=(decide (e=0)&&decide (l.length≠0))/\n=A,?_,_,d.ag 2 rfl 1,?_⟩
 ·rintro n x ⟨rfl,rfl⟩ -
  by_cases g:e=0/\l.length≠0
  ·have en:eL l e=l.tail:=by rw[eL,ak g.1]
   refine cT (by simp[g.1]; intro h; exact g.2 (by rw[h]; rfl)) ⟨_,_,_,d.ag 2 rfl 0,by omega,by omega,?_⟩;refine d.aN 2 rfl (j:=0) (show 0<2 by decide) rfl λ C u=>⟨if c=1 then a else Option.map (λ x=>Addr.add x (1*4)) a,c-1,by rw[en,sR]; omega,?_⟩;have y:=(u.ay [3,0,1,2,4]).qj ((aW _).mono λ w q=>K9 q h1);rw[en];have el:l.tail.length=l.length-1:=sR;show St w0 C (Sep [_,_,aj b #[.slice (if c=1 then a else Option.map (λ x=>Addr.add x (1*4)) a) l.tail.length (c-1),iv e] _,_,_]);rw[el];exact y.ay [1,2,3,0,4]
  ·have en:eL l e=l:=by
    unfold eL
    split
    ·rename_i he
     cases l with
     | nil=>rfl
     | cons x l=>exact absurd ⟨he,by simp⟩ g
    ·rfl
   refine cF (by simp only[pH,iY]; by_cases he:e=0; exact .inr λ h=>g ⟨he,h⟩; exact .inl he) ⟨a,c,by rw[en]; exact h1,by rw[en]; exact d⟩
 ·by_cases he:e=0
  ·refine cT (by simpa using he) ⟨_,_,_,d.ag 2 rfl 0,?_,rfl⟩;rw[dT he,bt]
   by_cases p:l.length=0
   ·rw[dF (by omega),dF (by omega)]
   ·rw[dT (by omega),dT p]
  ·exact cF (by simpa using he) ⟨by rw[dF he]; rfl,rfl⟩
def AI(h:j0 w0 w b l e B)(m:List UInt8):CP 248 #[pt b,sv m] w (λ r w'=>r=.bool (fO m l e)/\j0 w0 w' b (jX m l e) e B):=by
 refine(p6 oQ).2.1 ?_;refine au (rW h) ?_;rintro v i ⟨rfl,c1⟩;refine⟨_,_,_,_,rfl,aG kF.cells.toArray λ r1 j s2=>s2.az 0 rfl (aT l e).cells rfl (Tk.one _) λ g c=>?_⟩;have h3:=(h.quiet c1).quiet c.av;refine⟨λ x d=>x=(!fO m l e)/\d=g,?_,_,c.ag 0 rfl 0,?_⟩
 ·rintro d x ⟨rfl,rfl⟩ -
  cases ha:fO m l e with
  | false=>exact cT rfl ⟨rfl,by rw[jX,ha]; exact h3⟩
  | true =>
   refine cF rfl (au (AK h3) ?_);rintro v n ⟨rfl,f⟩;exact⟨_,_,_,_,rfl,rfl,by rw[jX,ha]; exact f⟩
 ·by_cases a:(aT l e).k=3
  ·refine cF (by simpa using a) ⟨_,c.ag 0 rfl 1,?_,rfl⟩;rw[fO,dT a,bt,fG,fG]
  ·exact cT (by simpa using a) ⟨by rw[fO,dF a]; rfl,rfl⟩
def mZ(h:j0 w0 w b l e B)(m:List UInt8):CP 247 #[pt b,sv m] w (λ r w'=>r=.tuple #[]/\j0 w0 w' b (jX m l e) (vB m l e) B):=by
 refine(p6 oQ).2.2.1 ?_;refine au (AI h m) ?_;rintro v a ⟨rfl,h1⟩;refine⟨_,rfl,?_⟩
 cases ha:fO m l e with
 | true=>exact cF rfl ⟨rfl,by rw[vB,ha]; exact h1⟩
 | false =>
  have el:jX m l e=l:=by rw[jX,ha]; rfl
  rw[el] at h1;refine cT rfl (au (xA h1) ?_);rintro v c ⟨rfl,h2⟩;exact⟨rfl,rfl,by rw[el,vB,ha]; exact h2⟩
def PC(h:j0 w0 w b l e B):CP 245 #[pt b] w (λ r w'=>r=sv (fK l e)/\j0 w0 w' b (lg l e) (nj l e) B):=by
 refine(p6 oQ).2.2.2.1 ?_;refine au (rW h) ?_;rintro v j ⟨rfl,c1⟩;refine⟨_,_,_,_,rfl,aG kF.cells.toArray λ r1 g s2=>s2.az 0 rfl (aT l e).cells rfl (Tk.one _) λ m c=>⟨_,c.ag 0 rfl 0,?_⟩⟩;have h3:=(h.quiet c1).quiet c.av
 by_cases a:(aT l e).k=1
 ·have g1:=c.ag 0 rfl 1;refine cF (by simpa using a) (au (AK ((h.quiet c1).add c)) ?_);rintro v i ⟨rfl,d⟩;have f:St w0 i (Sep [aj r1 (aT l e).cells.toArray 310,emp]):=d.frame.first;exact⟨_,_,_,_,rfl,_,f.ag 0 rfl 1,by rw[fK,ak a],by rw[lg,ak a,nj,ak a]; exact d.drop⟩
 ·refine cT (by simpa using a) (au (xA h3) ?_);rintro v g ⟨rfl,h2⟩;exact⟨rfl,by rw[fK,ah a],by rw[lg,ah a,nj,ah a]; exact h2⟩
def AJ(h:j0 w0 w b l e B)(m:Int):CP 249 #[pt b,iv m] w (λ r w'=>r=iv (gW m l e)/\j0 w0 w' b (qV m l e) (nv m l e) B):=by
 refine(p6 oQ).2.2.2.2.1 ?_;refine au (rW h) ?_;rintro v p ⟨rfl,c1⟩;refine⟨_,_,_,_,rfl,aG kF.cells.toArray λ r1 q s2=>s2.az 0 rfl (aT l e).cells rfl (Tk.one _) λ n d=>⟨_,d.ag 0 rfl 0,?_⟩⟩;have h3:=(h.quiet c1).add d
 by_cases a:(aT l e).k=2
 ·refine cF (by simpa using a) ⟨λ x g=>x=tK m (aT l e)/\g=n,?_,_,d.ag 0 rfl 2,?_⟩
  ·rintro g x ⟨rfl,rfl⟩ -
   cases ha:tK m (aT l e) with
   | true =>
    refine cT rfl (au (rV h3 4) ?_);rintro v t ⟨rfl,i⟩;exact⟨rfl,by rw[gW,ah (by rw[ha]; simp)],by rw[qV,ah (by rw[ha]; simp),nv,ak a,ak ha]; exact i.drop⟩
   | false =>
    refine cF rfl (au (AK h3) ?_);rintro v o ⟨rfl,f⟩;have j:St w0 o (Sep [aj r1 (aT l e).cells.toArray 310,emp]):=f.frame.first;exact⟨_,_,_,_,rfl,_,j.ag 0 rfl 2,by rw[gW,ak ⟨a,ha⟩],by rw[qV,ak ⟨a,ha⟩,nv,ak a,ah (by rw[ha]; decide)]; exact f.drop⟩
  ·by_cases c:(aT l e).v<0
   ·exact aP c ⟨by rw[tK,dT c]; rfl,rfl⟩
   ·exact aU c ⟨_,d.ag 0 rfl 2,by rw[tK,dF c]; rfl,rfl⟩
 ·refine cT (by simpa using a) (au (xA h3) ?_);rintro v s ⟨rfl,h4⟩;exact⟨rfl,by rw[gW,ah (λ h=>a h.1)],by rw[qV,ah (λ h=>a h.1),nv,ah a]; exact h4.drop⟩
def S4(h:j0 w0 w b l e B):CP 192 #[pt b] w (λ r w'=>r=iv (pN l e)/\w'=w):=by
 have i:=h;obtain⟨a,c,h1,h2,s⟩:=h;refine(p6 oQ).2.2.2.2.2.1 ?_;refine⟨λ x f=>x=decide (e=0/\0<l.length)/\f=w,?_,_,s.ag 0 rfl 1,?_⟩
 ·rintro f x ⟨rfl,rfl⟩ -
  by_cases g:e=0/\0<l.length
  ·exact aP g ⟨by rw[pN,ak g],rfl⟩
  ·exact aU g ⟨_,s.ag 0 rfl 1,by rw[pN,ah g],rfl⟩
 ·by_cases he:e=0
  ·refine cT (by simpa using he) ⟨_,_,_,s.ag 0 rfl 0,?_,rfl⟩
   by_cases d:0<l.length
   ·rw[dT (p:=e=0/\0<l.length) ⟨he,d⟩]; exact dT (by omega)
   ·rw[dF (p:=e=0/\0<l.length) (λ h=>d h.2)]; exact dF (by omega)
  ·exact cF (by simpa using he) ⟨by rw[dF (p:=e=0/\0<l.length) (λ h=>he h.1)],rfl⟩
end
def Ms(w:af)(c:UInt8):CP 302 #[.int .u8 (un c)] w (λ r w'=>r=.bool (marks.contains c)/\w'=w):=by
 refine BA.2.2.1 ?_;let L:List UInt8:=[123,125,40,41,58,44,64,43,45,61];have hm:marks.contains c=L.contains c:=by
  rw[Dm];simp only[marks,L,List.contains_eq_mem,cJ,mb,mc,bN];constructor<;>(intro h; rcases h with h|h|h|h|h|h|h|h|h|h<;>simp[h])
 refine⟨λ n e m=>∃ k:Nat,n=k/\k<=10/\m=10-k/\(L.take k).any (λ x=>x==c)=false/\e=w,⟨10,0,rfl,by omega,by omega,rfl,rfl⟩,?_⟩;rintro e m n ⟨k,rfl,i,g,ha,rfl⟩ -;rw[dX]
 by_cases a:k<10
 ·have b:L[k]?=some (L[k]'a):=gE a;generalize L[k]'a=x at b;refine aP (by show(k:Int)<10; omega) ⟨by omega,?_⟩;rw[aD,gK,b];show cond ((x.toNat:Int)==un c) _ _
  by_cases h:x=c
  ·refine cT (by rw[h]; simp[un]) ⟨?_,rfl⟩;rw[hm,List.contains_eq_any_beq,eZ (p:=λ x=>c==x) b (by simp[h])]
  ·have d:(x.toNat:Int)≠un c:=λ f=>h (nI.1 (by unfold un at f; omega));exact cF (aS.2 d) (jZ (by omega) ⟨dY ha b (by simpa using h),rfl⟩)
 ·obtain rfl:k=10:=by omega
  refine cF (by rfl) ⟨?_,rfl⟩;have h2:L.any (λ x=>x==c)=false:=ha;rw[hm]
  cases hc:L.contains c with
  | false=>rfl
  | true =>
   rw[Dn] at hc;rw[tY] at h2;exact absurd (beq_self_eq_true c) (h2 c hc)
theorem ES{p:UInt8->Bool}:∀ {l:List UInt8} {k:Nat},k<=l.length->(l.take k).all p=true->(k=l.length\/∃ c,l[k]?=some c/\p c=false)->l.takeWhile p=l.take k
 | [],k,_,_,_=>by simp
 | x :: l,0,_,_,h=>by
  rcases h with h|⟨c,hc,hp⟩
  ·simp at h
  ·have:x=c:=by simpa using hc
   rw[vg,this,hp]; rfl
 | x :: l,k+1,a,ha,h=>by
  rw[pF,og,aX] at ha;rw[vg,ak ha.1,pF,ES (by simpa using a) ha.2 (by
   rcases h with h|⟨c,hc,hp⟩
   ·exact .inl (by simpa using h)
   ·exact .inr ⟨c,by simpa using hc,hp⟩)]
def PA(w:af){l:List UInt8}{c0:UInt8}(W:l.length<=4000)(f:l[0]?=some c0) :
  CP 242 #[sv l] w (λ r w'=>r=.tuple #[(de l 0 c0).1.val,iv (de l 0 c0).2]/\aC w w' []):=by
 refine CE ?_;have hp:1<=l.length:=(aR.1 f).1;refine aG kF.cells.toArray λ r1 J s1=>?_;have ret:∀ {w':af} (x:Tk) (k:Int),w'=J->de l 0 c0=(x,k)->uP ⟨r1,0,none⟩ 0 x.cells w' λ z=>∃ (n5:Int) (H:ByteArray) (n6 n7:Int),aA z ⟨r1,0,none⟩ 0 [(iv n5),(.string H),(iv n6),(iv n7)] /\
   Value.tuple #[(.agg #[(iv n5),(.string H),(iv n6),(iv n7)]),iv k]=.tuple #[(de l 0 c0).1.val,iv (de l 0 c0).2]/\aC w z []:=λ x k hw e=>by
  subst hw;refine s1.az 0 rfl x.cells rfl (Tk.one _) λ z I=>⟨_,_,_,_,I.cellsIn 0 rfl,by rw[e]; rfl,I.av⟩
 have get:∀ {k:Nat} {c:UInt8} {R:UInt8->Prop},l[k]?=some c->R c->bO ((bs l)[((k:Nat):Int).toNat]?) R:=λ hc h=>by
  rw[aD,gK,hc]; exact h
 have d:∀ {R:UInt8->Prop},R c0->bO ((bs l)[(0:Int).toNat]?) R:=λ h=>get (k:=0) f h;refine⟨by omega,d (au (o5 J (un c0)) ?_)⟩;rintro v K ⟨rfl,rfl⟩;refine⟨_,rfl,?_⟩
 cases h1:zg (un c0) with
 | true =>
  have g:de l 0 c0=if 12<(word l).length then (kF,3) else (⟨1,word l,0,0⟩,0):=by rw[de,ak h1]; rfl
  refine cT rfl ⟨λ n q m=>∃ k:Nat,n=k/\1<=k/\k<=l.length/\m=l.length-k/\(l.take k).all (λ c=>inr (un c))=true/\q=K,⟨l.length-1,1,rfl,by omega,by omega,rfl,?_,rfl⟩,?_⟩
  ·rw[aH (i:=0) f]; simp[inr,h1]
  rintro q m n ⟨k,rfl,E,D,hm,ha,rfl⟩ -;refine⟨λ b y=>y=q/\((b=true/\∃ c,l[k]?=some c/\inr (un c)=true)\/(b=false/\(k=l.length\/∃ c,l[k]?=some c/\inr (un c)=false))),?_,?_⟩
  ·rintro y b ⟨rfl,h⟩ -;rcases h with⟨rfl,c,hc,t⟩|⟨rfl,he⟩
   ·have a:=(aR.1 hc).1;exact cT rfl ⟨l.length-(k+1),by omega,k+1,by rw[cA (by omega)]; rfl,by omega,by omega,rfl,qU (p:=λ c=>inr (un c)) ha hc t,rfl⟩
   ·have hw:word l=l.take k:=ES D ha he;have u:(word l).length=k:=by rw[hw,di]; omega
    by_cases N:12<k
    ·exact cF rfl (cT (by simp; omega) (ret kF 3 rfl (by rw[g,ak (by omega)])))
    ·refine cF rfl (cF (by simp; omega) ⟨by omega,by rw[dX]; omega,?_⟩);rw[aD,Fh,<- hw];exact ret ⟨1,word l,0,0⟩ 0 rfl (by rw[g,ah (by omega)])
  ·by_cases a:(k:Int)<(l.length:Int)
   ·obtain⟨c,hc⟩:=bx l k (by omega);refine cT (by rw[dX]; simpa using a) ⟨by omega,get hc (au (o5 q (un c)) ?_)⟩;rintro v S ⟨rfl,rfl⟩;refine⟨_,rfl,?_⟩
    cases h1:zg (un c) with
    | true=>exact cT rfl ⟨rfl,.inl ⟨rfl,c,hc,by simp[inr,h1]⟩⟩
    | false =>
     refine cF rfl ⟨by omega,get hc (au (wh S (un c)) ?_)⟩;rintro v T ⟨rfl,rfl⟩;refine⟨_,rfl,?_⟩
     cases h2:lz (un c) with
     | true=>exact cT rfl ⟨rfl,.inl ⟨rfl,c,hc,by simp[inr,h1,h2]⟩⟩
     | false =>
      refine cF rfl ⟨by omega,get hc ⟨rfl,?_⟩⟩;have e:inr (un c)=(un c==95):=by simp[inr,h1,h2]
      by_cases o:un c=95
      ·exact .inl ⟨by simp; exact o,c,hc,by rw[e,o]; rfl⟩
      ·exact .inr ⟨by simp; exact o,.inr ⟨c,hc,by rw[e]; simpa using o⟩⟩
   ·exact cF (by rw[dX]; simpa using a) ⟨rfl,.inr ⟨rfl,.inl (by omega)⟩⟩
 | false =>
 refine cF rfl ⟨by omega,d (au (wh K (un c0)) ?_)⟩;rintro v L ⟨rfl,rfl⟩;refine⟨_,rfl,?_⟩
 cases h2:lz (un c0) with
 | true =>
  have g:de l 0 c0=if (oz (digits l)).2≠0 then (kF,(oz (digits l)).2) else (⟨2,digits l,(oz (digits l)).1,0⟩,0):=by rw[de,ah (by rw[h1]; decide),ak h2]; rfl
  refine cT rfl ⟨λ n q m=>∃ k:Nat,n=k/\1<=k/\k<=l.length/\m=l.length-k/\(l.take k).all (λ c=>lz (un c))=true/\q=L,⟨l.length-1,1,rfl,by omega,by omega,rfl,?_,rfl⟩,?_⟩
  ·rw[aH (i:=0) f]; simp[h2]
  rintro q m n ⟨k,rfl,E,D,hm,ha,rfl⟩ -;refine⟨λ b y=>y=q/\((b=true/\∃ c,l[k]?=some c/\lz (un c)=true)\/(b=false/\(k=l.length\/∃ c,l[k]?=some c/\lz (un c)=false))),?_,?_⟩
  ·rintro y b ⟨rfl,h⟩ -;rcases h with⟨rfl,c,hc,t⟩|⟨rfl,he⟩
   ·have a:=(aR.1 hc).1;exact cT rfl ⟨l.length-(k+1),by omega,k+1,by rw[cA (by omega)]; rfl,by omega,by omega,rfl,qU (p:=λ c=>lz (un c)) ha hc t,rfl⟩
   ·have hw:digits l=l.take k:=ES D ha he;have u:(digits l).length=k:=by rw[hw,di]; omega
    have O:(digits l).head? = some c0:=by rw[hw,List.head?_take,ah (by omega)]; rw[List.head?_eq_getElem?]; exact f
    refine cF rfl ⟨λ b F=>b=decide (1<(digits l).length/\(digits l).head? = some 48)/\F=y,?_,?_⟩
    ·rintro F b ⟨rfl,rfl⟩ -
     by_cases A:1<(digits l).length/\(digits l).head? = some 48
     ·have en:oz (digits l)=(0,2):=by rw[oz,ak A]
      exact aP A (ret kF 2 rfl (by rw[g,en]; rfl))
     refine aU A ?_
     by_cases U:9<k
     ·have en:oz (digits l)=(0,4):=by rw[oz,ah A,ak (by omega)]
      exact aP (by omega) (ret kF 4 rfl (by rw[g,en]; rfl))
     have en:oz (digits l)=(xk (digits l),0):=by rw[oz,ah A,ah (by omega)]
     refine aU (by omega) ⟨λ n i z m=>∃ j:Nat,i=j/\j<=k/\m=k-j/\n=xk (l.take j)/\z=F,⟨k,0,rfl,by omega,by omega,rfl,rfl⟩,?_⟩;rintro z m n i ⟨j,rfl,V,P,rfl,rfl⟩ -
     by_cases a:j<k
     ·obtain⟨c,hc⟩:=bx l j (by omega);have C:c∈l.take k:=bf (i:=j) (by rw[gV,ak a]; exact hc);have h1:lz (un c)=true:=dS.1 ha c C;have h2:=Ku 9 (l.take j) (by rw[di]; omega) (by
       rw[dS] at ha ⊢;exact λ x G=>ha x (by
        have:l.take j=(l.take k).take j:=by rw[HG,wM (by omega)]
        rw[this] at G; exact eX G))
      have h1:48<=un c/\un c<=57:=by simpa[lz] using h1
      unfold un at h1;refine aP (by omega) ⟨by omega,get hc (jZ (by omega) ⟨?_,rfl⟩)⟩;have g1:IntKind.i64.wrap (xk (l.take j)*10)=xk (l.take j)*10:=cA (by omega);have g2:IntKind.i64.wrap ((c.toNat:Int)-48)=(c.toNat:Int)-48:=cA (by omega);rw[IntWalk.u8_in _ (by omega),g1,g2,cA (by omega),aH hc,xm];unfold un; omega
     ·obtain rfl:j=k:=by omega
      refine aU (by omega) ⟨by omega,by rw[dX]; omega,?_⟩;rw[aD,Fh,<- hw];exact ret ⟨2,digits l,xk (digits l),0⟩ 0 rfl (by rw[g,en]; rfl)
    ·by_cases B:1<k
     ·refine aP (by omega) ⟨by omega,d ⟨?_,rfl⟩⟩;rw[u,O]
      by_cases s:c0=48
      ·subst s; rw[dT (show 1<k/\(some 48:Option UInt8)=some 48 from⟨B,rfl⟩)]; rfl
      ·rw[dF (p:=1<k/\(some c0:Option UInt8)=some 48) (λ h=>s (qP h.2))];exact aS.2 λ h=>s (nI.1 (by show c0.toNat=48; omega))
     ·exact aU (by omega) ⟨by rw[u,dF (λ h=>B h.1)],rfl⟩
  ·by_cases a:(k:Int)<(l.length:Int)
   ·obtain⟨c,hc⟩:=bx l k (by omega);refine cT (by rw[dX]; simpa using a) ⟨by omega,get hc (au (wh q (un c)) ?_)⟩;rintro v T ⟨rfl,rfl⟩;refine⟨_,rfl,rfl,?_⟩
    cases h2:lz (un c) with
    | true=>exact .inl ⟨rfl,c,hc,h2⟩
    | false=>exact .inr ⟨rfl,.inr ⟨c,hc,h2⟩⟩
   ·exact cF (by rw[dX]; simpa using a) ⟨rfl,.inr ⟨rfl,.inl (by omega)⟩⟩
 | false =>
 have g:de l 0 c0=if marks.contains c0 then (⟨3,[c0],0,0⟩,0) else (kF,2):=by rw[de,ah (by rw[h1]; decide),ah (by rw[h2]; decide)]; rfl
 refine cF rfl ⟨by omega,d (au (Ms L c0) ?_)⟩;rintro v Q ⟨rfl,rfl⟩;refine⟨_,rfl,?_⟩
 cases h3:marks.contains c0 with
 | true =>
  refine cT rfl ⟨by omega,by rw[dX]; omega,?_⟩;have M:l.take 1=[c0]:=by rw[aH (i:=0) f]; rfl
  rw[show((1:Int)).toNat=1 from rfl,Fh,M];exact ret ⟨3,[c0],0,0⟩ 0 rfl (by rw[g,h3]; rfl)
 | false=>exact cF rfl (ret kF 2 rfl (by rw[g,h3]; rfl))
def O7(l:List UInt8)(n:Nat)(c:UInt8):(de l n c).2=(de (l.drop n) 0 c).2/\((de l n c).2=0->(de l n c).1={ (de (l.drop n) 0 c).1 with a:=n })/\(de l n c).1.t=(de (l.drop n) 0 c).1.t:=by
 unfold de;rw[yV]
 split
 ·split
  ·exact⟨rfl,λ h=>(by cases h),rfl⟩
  ·exact⟨rfl,λ _=>rfl,rfl⟩
 split
 ·split
  ·rename_i h; exact⟨rfl,λ b=>absurd b h,rfl⟩
  ·exact⟨rfl,λ _=>rfl,rfl⟩
 split
 ·exact⟨rfl,λ _=>rfl,rfl⟩
 ·exact⟨rfl,λ h=>(by cases h),rfl⟩
def Yw:j7 prog 264 310 kF.val 4 40:=j7.mk' underlying264 (by kernel_rfl) rfl (by decide)
def GS{w:af}(l:List UInt8) :
  CP 190 #[sv l] w (λ r w'=>∃ a c,r=.tuple #[.slice a (bR l).1.length c,iv (bR l).2]/\St w w' (dK 310 4 Tk.cells a c (bR l).1)):=by
 refine(p6 (p6 oQ)).1 ?_;rw[dX]
 by_cases A:4000<l.length
 ·refine aP (by omega) ⟨none,0,?_⟩;rw[bR,ak A];exact⟨rfl,(St.start w).dy.first⟩
 refine aU (by omega) ?_;have C:bR l=qc l l.length 0 []:=by rw[bR,ah A]
 refine⟨λ a l1 c n z m=>∃ (k:Nat) (acc:List Tk),n=k/\k<=l.length/\m=l.length-k/\l1=acc.length/\acc.length<=k/\(∃ f,l.length-k<=f/\qc l f k acc=bR l)/\St w z (star (dK 310 4 Tk.cells a c acc) emp),⟨l.length,0,[],rfl,by omega,by omega,rfl,by simp,⟨l.length,by omega,C.symm⟩,(St.start w).dy⟩,?_⟩;rintro z m a l1 c n ⟨k,acc,rfl,L,hm,rfl,E,⟨f,K,b⟩,s1⟩ -
 by_cases i:k<l.length
 ·have hc:l[k]?=some (l[k]'i):=gE i;generalize l[k]'i=x at hc;obtain⟨f,rfl⟩:∃ g,f=g+1:=⟨f-1,by omega⟩;rw[qc,hc] at b;simp only at b;refine aP (by omega) ⟨by omega,?_⟩;rw[aD,gK,hc];show cond ((x.toNat:Int)==32) _ _
  by_cases d:x=32
  ·rw[ak d] at b;exact cT (by rw[d]; rfl) ⟨l.length-(k+1),by omega,k+1,acc,cA (by omega),by omega,rfl,rfl,by omega,⟨f,by omega,b⟩,s1⟩
  rw[ah d] at b;have u:(x.toNat:Int)≠32:=λ h=>d (nI.1 (by have:(32:UInt8).toNat=32:=rfl; omega));have q:(l.drop k)[0]?=some x:=by rw[lW]; exact hc
  have s:(bs l).extract k l.length=bs (l.drop k):=by rw[zS,fN (by rw[gH]; omega)]
  rw[s];obtain⟨d1,d2,d3⟩:=O7 l k x;refine cF (by simpa using u) ⟨by omega,by omega,au (PA z (by rw[gH]; omega) q) ?_⟩;rintro v H ⟨rfl,c2⟩;have s2:St w H (Sep [_]):=s1.quiet c2;refine Ex4 ⟨_,rfl,s2.aB kF.cells.toArray λ r1 M G=>G.az 0 rfl (de (l.drop k) 0 x).1.cells rfl (Tk.one _) λ N B=>?_⟩;rw[<- d1]
  by_cases he:(de l k x).2=0
  ·rw[ah (by simpa using he)] at b;have y:=F5 hc he;have F:=d2 he;refine cF (by rw[he]; rfl) (B.aN 0 rfl (j:=3) (by show 3<4; decide) rfl λ I o=>?_);have D:((de (l.drop k) 0 x).1.cells.toArray.setIfInBounds 3 (iv k))=(de l k x).1.cells.toArray:=by rw[F]; rfl
   have o:St w I (Sep [aj r1 (de l k x).1.cells.toArray 310,dK 310 4 Tk.cells a c acc]):=by rw[<- D]; exact o
   refine⟨_,_,_,_,o.cellsIn 0 rfl,dw Yw Tk.len (x:=(de l k x).1) (Tk.one _) (o.out 1 rfl) (by omega) (by omega) (λ a' c' J p=>?_) rfl⟩;have p:St w J (Sep [_,_]):=p;refine⟨_,p.ag 1 rfl 1,l.length-(k+(de l k x).1.t.length),by omega,k+(de l k x).1.t.length,acc++[(de l k x).1],?_,y.2,rfl,rfl,?_,⟨f,by omega,b⟩,p.ay [0]⟩
   ·rw[dX,cA (by omega)]; omega
   ·rw[aY,bS]; omega
  ·rw[ak he] at b;refine cT (by simpa using he) ⟨none,0,?_⟩;rw[<- b];exact⟨rfl,(St.start' B.av).dy.first⟩
 ·have hc:l[k]?=none:=cr (by omega);have e:qc l f k acc=(acc,0):=by
   cases f with
   | zero=>rfl
   | succ f=>rw[qc,hc]
  rw[e] at b;refine aU (by omega) ⟨a,c,?_⟩;rw[<- b];exact⟨rfl,s1.first⟩
end Go.Proofs.YtjcfdidmajodiaaGreatDoor
set_option maxHeartbeats 4000000
namespace Go.Proofs.YtjcfdidmajodiaaGreatDoor
open Go Go.Vc Go.Vt _root_.Go.Proofs.Tryz
def vJ:=many uj [en func341 [] [],en func342 [] [],en func303 [] [(126,[(8,.s (.int .i64))]),(2016,[(33,.s .bool)]),(64574,[(79,.s .bool)]),(129150,[(100,.s .bool)])],en func244 [(1,.k (.s .blk))] [],en func191 [(1,.k (.s .blk))] [(14,[(20,.s .bool)]),(31,[]),(255,[]),(2042,[(62,.s .bool)]),(16340,[])],en func146 [] [],en func250 [] [(58,[(3,.s (.int .i64)),(4,.s (.int .i64))])],en func251 [] [(58,[(3,.s .slice),(4,.s (.int .i64))])],en func252 [] [(491,[(14,.s .bool)])]] (by conv=>lhs;reduce) (by kernel_rfl) λ x=>by
 dsimp only[fj,fh,ff,fe,fk,fm,fq,tF,iP,en,sV,wrap,dc,dn,qA,gU,tW,U.I,U.B,U.S,U.N,U.A,U.O,U.W,U.V,U.L,U.U6,U.C,U.M,U.F,U.E,tP,tN,tI,oo,jU,gJ,kr,jq,TJ,Nat.reduceSub,Nat.reduceAdd,Int.reduceOfNat,Int.reduceNeg,UInt8.reduceOfNat] at x
 exact x
def Gt:=(p6 vJ).1
def Av:=(p6 vJ).2.1
def Ej:=(p6 vJ).2.2.1
def Oi:=many uj [en func253 [] [(6,[(10,.s .bool)]),(14,[(18,.s .bool)])],en func193 [] [(250,[(4,.s (.int .i64))]),(506,[(5,.s (.int .i64))])],en func306 [] [(58,[(3,.s (.int .i64)),(4,.s (.int .i64))])]] (by conv=>lhs;reduce) (by kernel_rfl) λ x=>by
 dsimp only[fj,fh,ff,fe,fk,fm,fq,tF,iP,en,sV,wrap,dc,dn,qA,gU,tW,U.I,U.B,U.S,U.N,U.A,U.O,U.W,U.V,U.L,U.U6,U.C,U.M,U.F,U.E,tP,tN,tI,oo,jU,gJ,kr,jq,TJ,Nat.reduceSub,Nat.reduceAdd,Int.reduceOfNat,Int.reduceNeg,UInt8.reduceOfNat] at x
 exact x
def Em:=Oi.1
def Gs:=Oi.2.1
end Go.Proofs.YtjcfdidmajodiaaGreatDoor
namespace Go.Proofs.YtjcfdidmajodiaaGreatDoor
open Go Go.Vc _root_.Go.Proofs.Tryz
abbrev Kd (l:List Tk):Prop:=∀ x∈l,x.k≠0
def EY(l:List Tk)(i:Nat)(m:List UInt8):Bool:=fO m (l.drop i) 0
def mF(l:List Tk)(i:Nat):aT (l.drop i) 0=(l[i]?).getD kF:=by
 rw[aT,ak rfl]
 by_cases h:i<l.length
 ·rw[jC h,gE h]; rfl
 ·rw[List.drop_eq_nil_of_le (by omega),cr (by omega)]; rfl
def Eb(l:List Tk)(i:Nat):eL (l.drop i) 0=l.drop (i+1):=by rw[eL,ak rfl,List.tail_drop]
def vN{l:List Tk}{i:Nat}{m:List UInt8}{x:Tk}(h:l[i]?=some x):EY l i m=(decide (x.k=3)&&x.t==m):=by rw[EY,fO,mF,h]; rfl
def FN{l:List Tk}{i:Nat}{m:List UInt8}(h:l.length<=i):EY l i m=false:=by rw[EY,fO,mF,cr h]; rfl
def Ad{l:List Tk}{i:Nat}{m:List UInt8}(h:EY l i m=true):i<l.length:=by
 rcases bw i l.length with a | a
 ·exact a
 ·rw[FN a] at h; cases h
def HJ{l:List Tk}{i:Nat}{m:List UInt8}(h:EY l i m=true):jX m (l.drop i) 0=l.drop (i+1):=by
 have a:fO m (l.drop i) 0=true:=h;rw[jX,a,ak rfl,Eb]
def M4(l:List Tk)(i:Nat):Int:=if l.length<=i then 1 else 2
def Bc(l:List Tk)(i:Nat):gx (l.drop i) 0=M4 l i:=by
 rw[gx,cK,ak rfl,gH,M4]
 by_cases h:l.length<=i
 ·rw[ak (by omega),ak h]
 ·rw[ah (by omega),ah h]
def oD(l:List Tk)(i:Nat):M4 l i≠0:=by unfold M4; split<;>decide
def oG{m:List UInt8}{l:List Tk}{e:Int}(h:e≠0):fO m l e=false:=by rw[fO,aT,ah h]; rfl
def uV{l:List Tk}{e:Int}(h:e≠0):gx l e=e:=by rw[gx,cK,ah h]
def jb{m:List UInt8}{σ:Sc}(h:σ.2≠0):σ.exp m=σ:=by
 show(jX m σ.1 σ.2,vB m σ.1 σ.2)=σ;rw[jX,vB,oG h,uV h]; rfl
def kS{n:Int}{σ:Sc}(h:σ.2≠0):σ.kJ n=σ/\gW n σ.1 σ.2=0:=by
 have a : ¬ (aT σ.1 σ.2).k=2:=by rw[aT,ah h]; decide
 refine⟨?_,by rw[gW,ah (λ h=>a h.1)]⟩;show(qV n σ.1 σ.2,nv n σ.1 σ.2)=σ;rw[qV,nv,ah (λ h=>a h.1),ah a,uV h]
def DV{l:List Tk}{i:Nat}{m:List UInt8}(h:EY l i m=true):Sc.exp m (l.drop i,0)=(l.drop (i+1),0):=by
 have a:fO m (l.drop i) 0=true:=h;show(jX m (l.drop i) 0,vB m (l.drop i) 0)=_;rw[HJ h,vB,a,ak rfl]
def Oa{l:List Tk}{i:Nat}{m:List UInt8}(h:EY l i m=false):(Sc.exp m (l.drop i,0)).2=M4 l i:=by
 have a:fO m (l.drop i) 0=false:=h;show vB m (l.drop i) 0=_;rw[vB,a,<- Bc]; rfl
section
variable {ps:List Pr} {b:I6} {t:List Tk} {k f:Nat}
def MJ{σ:Sc}(h:σ.2≠0):lR ps f b σ=(b,σ):=by
 cases f with
 | zero=>rfl
 | succ f=>rw[lR,oG h]; rfl
abbrev J1 (ps:List Pr) (f:Nat) (b:I6) (σ:Sc):I6×Sc:=ob (lR ps f (eu ps b σ).1 (eu ps b σ).2)
def NR{σ:Sc}{e:Int}(h:(eu ps b σ).2.2=e)(he:e≠0):(J1 ps f b σ).2.2=e:=by
 have h1:(eu ps b σ).2.2≠0:=by rw[h]; exact he
 show(ob _).2.2=e;rw[MJ h1,ob];rw[jb (σ:=(eu ps b σ).2) h1,ak h1,h]
def RI{σ:Sc}(h:σ.2≠0):(Bx σ).2=σ.2:=by
 obtain⟨h1,h2⟩:=kS (n:=4) h;rw[Bx,ak h2,h1];show cK σ.2 4=σ.2;rw[cK,ah h]
def RL(h:((t[k]?).getD kF).k≠1):(eu ps b (t.drop k,0)).2.2=M4 t k:=by
 have h1:(Sc.name (t.drop k,0)).2=M4 t k:=by
  show nj (t.drop k) 0=_;rw[nj,mF,ah h,Bc]
 rw[eu,ak (by rw[h1]; exact oD _ _)]; exact h1
def z8{x:Tk}(a:t[k]?=some x)(h:x.k=1):eu ps b (t.drop k,0)=(b.put (cO ps x.t).1 (gW 4 (y6 ps b x.t (t.drop (k+1),0)).1 (y6 ps b x.t (t.drop (k+1),0)).2),Bx (y6 ps b x.t (t.drop (k+1),0))):=by
 have hp:aT (t.drop k) 0=x:=by rw[mF,a]; rfl
 have h1:Sc.name (t.drop k,0)=(t.drop (k+1),0):=by
  show(lg (t.drop k) 0,nj (t.drop k) 0)=_;rw[lg,nj,hp,ak h,ak h,Eb]
 have h2:fK (t.drop k) 0=x.t:=by rw[fK,hp,ak h]
 rw[eu,h1,ah (λ h=>h rfl)];show(b.put (cO ps (fK (t.drop k) 0)).1 _,Bx (y6 ps b (fK (t.drop k) 0) _))=_;rw[h2]
def DN{x:Tk}{e:Int}(a:t[k]?=some x)(h:x.k=1)(h3:(y6 ps b x.t (t.drop (k+1),0)).2=e)(he:e≠0):(eu ps b (t.drop k,0)).2.2=e:=by
 rw[z8 a h];show(Bx _).2=e;rw[RI (by rw[h3]; exact he),h3]
def XC{nm:List UInt8}(h:(cO ps nm).2=false):(y6 ps b nm (t,0)).2=6:=by
 have h2:HZ ps b nm (t,0)=(t,6):=by rw[HZ,h]; rfl
 rw[y6,h2,jb (by show(6:Int)≠0; decide)]
def XD{nm:List UInt8}(h:(cO ps nm).2=true)(a:b.at' (cO ps nm).1≠0):(y6 ps b nm (t,0)).2=7:=by
 have h2:HZ ps b nm (t,0)=(t,7):=by rw[HZ,h,ak rfl,ak a]; rfl
 rw[y6,h2,jb (by show(7:Int)≠0; decide)]
def N2{nm:List UInt8}(h:(cO ps nm).2=true)(a:b.at' (cO ps nm).1=0):y6 ps b nm (t,0)=Sc.exp [58] (t,0):=by
 have h2:HZ ps b nm (t,0)=(t,0):=by rw[HZ,h,ak rfl,ah (λ h=>h a)]
 rw[y6,h2]
def Vb(h:((t[k]?).getD kF).k≠2):(Bx (t.drop k,0)).2=M4 t k:=by
 have a : ¬ (aT (t.drop k) 0).k=2:=by rw[mF]; exact h
 have h1:gW 4 (t.drop k) 0=0:=by rw[gW,ah (λ h=>a h.1)]
 have h2:nv 4 (t.drop k) 0=M4 t k:=by rw[nv,ah a,Bc]
 rw[Bx];show(if gW 4 (t.drop k) 0=0 then _ else _:Sc).2=_;rw[ak h1];show cK (nv 4 (t.drop k) 0) 4=_;rw[h2,cK,ah (oD _ _)]
def RJ{x:Tk}(b:t[k]?=some x)(h:x.k=2)(c:x.v<1\/4<x.v):(Bx (t.drop k,0)).2=4:=by
 have hp:aT (t.drop k) 0=x:=by rw[mF,b]; rfl
 by_cases hi:tK 4 x=false
 ·have a:x.v=0:=by
   simp only[tK,oF,iY] at hi; omega
  have h1:gW 4 (t.drop k) 0=0:=by rw[gW,hp,ak ⟨h,hi⟩,a]
  have h2:nv 4 (t.drop k) 0=0:=by rw[nv,hp,ak h,hi]; rfl
  rw[Bx];show(if gW 4 (t.drop k) 0=0 then _ else _:Sc).2=_;rw[ak h1];show cK (nv 4 (t.drop k) 0) 4=_;rw[h2]; rfl
 ·have h1:gW 4 (t.drop k) 0=0:=by rw[gW,hp,ah (λ h=>hi h.2)]
  have h2:nv 4 (t.drop k) 0=4:=by rw[nv,hp,ak h,show tK 4 x=true by simpa using hi]; rfl
  rw[Bx];show(if gW 4 (t.drop k) 0=0 then _ else _:Sc).2=_;rw[ak h1];show cK (nv 4 (t.drop k) 0) 4=_;rw[h2]; rfl
def Vd{x:Tk}(a:t[k]?=some x)(h:x.k=2)(b:1<=x.v/\x.v<=4):Bx (t.drop k,0)=(t.drop (k+1),0)/\gW 4 (t.drop k) 0=x.v:=by
 have hp:aT (t.drop k) 0=x:=by rw[mF,a]; rfl
 have hi:tK 4 x=false:=by simp only[tK,oF,iY]; omega
 have h1:gW 4 (t.drop k) 0=x.v:=by rw[gW,hp,ak ⟨h,hi⟩]
 refine⟨?_,h1⟩;rw[Bx];show(if gW 4 (t.drop k) 0=0 then _ else _:Sc)=_;rw[ah (by rw[h1]; omega)];show(qV 4 (t.drop k) 0,nv 4 (t.drop k) 0)=_;rw[qV,nv,hp,ak ⟨h,hi⟩,ak h,hi,Eb]; rfl
def RM{x y:Tk}(i:t[k]?=some x)(h:x.k=1)(f:(cO ps x.t).2=true)(e:b.at' (cO ps x.t).1=0)(hc:EY t (k+1) [58]=true)(j:t[k+2]?=some y)(h2:y.k=2)(g:1<=y.v/\y.v<=4) :
  eu ps b (t.drop k,0)=(b.put (cO ps x.t).1 y.v,(t.drop (k+3),0)):=by
 have a:y6 ps b x.t (t.drop (k+1),0)=(t.drop (k+2),0):=by rw[N2 f e,DV hc]
 obtain⟨c,d⟩:=Vd j h2 g;rw[z8 i h,a];show(b.put _ (gW 4 (t.drop (k+2)) 0),Bx (t.drop (k+2),0))=_;rw[c,d]
end
section
variable {w:af} {a:OA} {c:Nat} {t:List Tk}
def Qt(h:cP 4 Tk.cells w a t){i:Nat}{x:Tk}(c:t[i]?=some x):∃ q,a=some q/\w.cell? (Addr.add q (i*4))=some (iv x.k)/\w.cell? (Addr.add (Addr.add q (i*4)) 1)=some (sv x.t)/\w.cell? (Addr.add (Addr.add q (i*4)) 2)=some (iv x.v):=by
 obtain⟨q,b,hc⟩:=h.at c;exact⟨q,b,by have:=aM hc 0 _ rfl; rw[Addr.add_add] at this; exact this,aM hc 1 _ rfl,aM hc 2 _ rfl⟩
def wj(h:cP 4 Tk.cells w a t)(f:t.length<=4000)(i:Nat)(m:List UInt8):CP 341 #[.slice a t.length c,iv i,sv m] w (λ r w'=>r=.bool (EY t i m)/\w'=w):=by
 refine vJ.1 ?_
 by_cases b:i<t.length
 ·have d:t[i]?=some (t[i]'b):=gE b;generalize t[i]'b=x at d;obtain⟨q,e,h1,h2,_⟩:=Qt h d;rw[vN d];refine aP (by omega) (aq e ⟨by omega,by omega,_,h1,?_⟩)
  by_cases h3:x.k=3
  ·refine cT (by simpa using h3) (aq e ⟨by omega,by omega,_,h2,?_,rfl⟩);rw[fG,fG,dT h3,bt]
  ·exact cF (by simpa using h3) ⟨by rw[dF h3]; rfl,rfl⟩
 ·exact aU (by omega) ⟨by rw[FN (by omega)],rfl⟩
def ng(w:af)(a:OA)(c:Nat)(t:List Tk)(i:Nat):CP 342 #[.slice a t.length c,iv i] w (λ r w'=>r=iv (M4 t i)/\w'=w):=by
 refine vJ.2.1 ?_
 by_cases h:t.length<=i
 ·exact aP (by omega) ⟨by rw[M4,ak h],rfl⟩
 ·exact aU (by omega) ⟨by rw[M4,ah h],rfl⟩
end
def GU{w:af}{a a2:OA}{c c2:Nat}{ps:List Pr}{t:List Tk}(hr:fS w a ps)(ho:dH ps)(Y:cP 4 Tk.cells w a2 t)(T:t.length<=4000)(hk:Kd t) :
  CP 303 #[.slice a ps.length c,.slice a2 t.length c2] w (λ r w'=>∃ (u:I6) (n f:Int),r=.tuple #[.agg u.vs.toArray,iv n,iv f]/\(f≠0->(fF ps (uG (t,0))).2.2=f)/\(f=0->∃ k:Nat,n=k/\k<=t.length/\fF ps (uG (t,0))=(u,(t.drop k,0)))/\aC w w' []):=by
 refine vJ.2.2.1 ?_;have h6:=ho.l2;refine aG z6.vs.toArray λ r1 w1 s1=>s1.aB z6.vs.toArray λ r2 Z s2=>?_;have out:∀ {b u:I6} {w':af} {n f:Int},St w w' (Sep [aj r2 b.vs.toArray 42,aj r1 z6.vs.toArray 42,emp])->(f≠0->(fF ps (uG (t,0))).2.2=f)->(f=0->∃ k:Nat,n=k/\k<=t.length/\fF ps (uG (t,0))=(u,(t.drop k,0))) ->
   uP ⟨r1,0,none⟩ 0 u.vs w' λ w5=>∃ u1:I6,aA w5 ⟨r1,0,none⟩ 0 u1.vs/\∃ (u':I6) (n' X:Int),Value.tuple #[.agg u1.vs.toArray,iv n,iv f]=.tuple #[.agg u'.vs.toArray,iv n',iv X]/\(X≠0->(fF ps (uG (t,0))).2.2=X)/\(X=0->∃ k:Nat,n'=k/\k<=t.length/\fF ps (uG (t,0))=(u',(t.drop k,0)))/\aC w w5 []:=λ {b u w' n f} s h1 h2 =>
  s.az 1 rfl u.vs rfl (I6.one _) λ w5 s5=>⟨u,s5.cellsIn 1 rfl,u,n,f,rfl,h1,h2,s5.av⟩
 have W:fF ps (t,0)=if fO [125] (Sc.exp [123] (t,0)).1 (Sc.exp [123] (t,0)).2 then (z6,(Sc.exp [123] (t,0)).acc [125]) else xY ps (Sc.exp [123] (t,0)):=by rw[fF,ah (λ h=>h rfl)]
 refine au (wj (Y.av s2.av) T 0 [123]) ?_;rintro v Z ⟨rfl,rfl⟩;refine⟨_,rfl,?_⟩
 cases hi0:EY t 0 [123] with
 | false =>
  refine cT rfl (au (ng Z a2 c2 t 0) ?_);rintro v Z ⟨rfl,rfl⟩;refine⟨_,rfl,out s2 (λ _=>?_) (λ h=>absurd h (oD _ _))⟩;have J:(uG (t,0)).2=M4 t 0:=by
   have hp:=mF t 0;rw[yV] at hp;rw[uG];show(if (aT t 0).k=0 then _ else if (aT t 0).k≠3\/(aT t 0).t≠[123] then _ else _:Sc).2=_
   cases t with
   | nil=>rfl
   | cons x t =>
    have o:aT (x :: t) 0=x:=hp;rw[o,ah (hk x (by simp))];rw[vN (x:=x) rfl] at hi0;rw[ak]
    ·rfl
    ·by_cases h3:x.k=3
     ·rw[dT h3,bt] at hi0;exact .inr (by simpa using hi0)
     ·exact .inl h3
  rw[fF,ak (by rw[J]; exact oD _ _)]; exact J
 | true =>
 have i:=Ad hi0;have J:uG (t,0)=(t,0):=by
  have o:t[0]?=some (t[0]'i):=gE i;have hp:=mF t 0;generalize t[0]'i=x at o;rw[yV,o] at hp;have hp:aT t 0=x:=hp;rw[vN o,aX] at hi0;rw[uG];show(if (aT t 0).k=0 then _ else if (aT t 0).k≠3\/(aT t 0).t≠[123] then _ else _:Sc)=_;have h3:x.k=3:=iI hi0.1;have h4:x.t=[123]:=by simpa using hi0.2
  rw[hp,ah (by omega),ah (by rintro(h|h); exact h h3; exact h h4)]
 have ex:Sc.exp [123] (t,0)=(t.drop 1,0):=by have:=DV hi0; rwa [yV] at this
 rw[J] at out ⊢;rw[ex] at W;refine cF rfl (au (wj (Y.av s2.av) T 1 [125]) ?_);rintro v Z ⟨rfl,rfl⟩;refine⟨_,rfl,?_⟩
 cases hi1:EY t 1 [125] with
 | true =>
  have hl1:=Ad hi1;refine cT rfl ⟨z6,s2.cellsIn 0 rfl,out s2 (λ h=>absurd rfl h) (λ _=>⟨2,rfl,by omega,?_⟩)⟩;have M:fO [125] (t.drop 1) 0=true:=hi1;rw[W];show(if fO [125] (t.drop 1) 0=true then (z6,(jX [125] (t.drop 1) 0,(0:Int))) else _)=_;rw[ak M,HJ hi1]
 | false =>
 have e1:fF ps (t,0)=J1 ps (eu ps z6 (t.drop 1,0)).2.1.length z6 (t.drop 1,0):=by
  have M:fO [125] (t.drop 1) 0=false:=hi1;rw[W];show(if fO [125] (t.drop 1) 0=true then _ else xY ps (t.drop 1,0))=_;rw[M,ah (by decide),xY]
 clear W;generalize hR:fF ps (t,0)=R at *;refine cF rfl ⟨λ n w8 m=>∃ (k f:Nat) (b:I6),n=k/\k<=t.length/\m=t.length-k/\(eu ps b (t.drop k,0)).2.1.length<=f/\R=J1 ps f b (t.drop k,0)/\St w w8 (Sep [aj r2 b.vs.toArray 42,aj r1 z6.vs.toArray 42,emp]),⟨t.length-1,1,_,z6,rfl,by omega,rfl,aO _,e1,s2⟩,?_⟩;rintro w8 m n ⟨k,f,b,rfl,hkl,rfl,hf,hc,H⟩ -;have D:=Y.av H.av;have bad:∀ {b':I6} {w':af} {e:Int},St w w' (Sep [aj r2 b'.vs.toArray 42,aj r1 z6.vs.toArray 42,emp])->(eu ps b (t.drop k,0)).2.2=e->e≠0->_:=λ {b' w' e} s h he=>out (u:=z6) (n:=0) (f:=e) s (λ _=>by rw[hc]; exact NR h he) (λ h=>absurd h he);refine⟨λ x K=>K=w8/\x = !decide (((t[k]?).getD kF).k=1),?_,?_⟩
 rotate_left
 ·by_cases i:k<t.length
  ·have o:t[k]?=some (t[k]'i):=gE i;generalize t[k]'i=x at o;obtain⟨q,hq,h1,_,_⟩:=Qt D o;refine aU (by omega) (aq hq ⟨by omega,by omega,_,h1,rfl,?_⟩);rw[o]; rfl
  ·refine aP (by omega) ⟨rfl,?_⟩;rw[cr (by omega)]; rfl
 rintro K x ⟨rfl,rfl⟩ -
 by_cases d:((t[k]?).getD kF).k=1
 rotate_left
 ·refine cT (by rw[dF d]; rfl) (au (ng K a2 c2 t k) ?_);rintro v K ⟨rfl,rfl⟩;exact⟨_,rfl,bad H (RL d) (oD _ _)⟩
 have i:k<t.length:=by
  rcases bw k t.length with h|h
  ·exact h
  ·rw[cr h] at d; cases d
 have o:t[k]?=some (t[k]'i):=gE i;generalize t[k]'i=x at o;rw[o] at d;have d:x.k=1:=d;obtain⟨q,hq,_,h1,_⟩:=Qt D o;refine cF (by rw[o]; show(!decide (x.k=1))=false; rw[dT d]; rfl) (aq hq ⟨by omega,by omega,_,h1,au (CG (hr.av H.av) (by omega) x.t) ?_⟩);rintro v K ⟨rfl,rfl⟩;refine⟨_,_,rfl,?_⟩
 cases hfm:(cO ps x.t).2 with
 | false=>exact cT rfl (bad H (DN o d (XC hfm) (by decide)) (by decide))
 | true =>
 have hix:=FD hfm;have O:(cO ps x.t).1<6:=by omega
 generalize I:(cO ps x.t).1=ix at *;refine cF rfl ⟨by omega,by omega,_,by rw[dM]; exact aF H 0 rfl O,?_⟩
 by_cases A:b.at' ix=0
 rotate_left
 ·exact cT (by simpa using A) (bad H (DN o d (XD hfm (by rw[I]; exact A)) (by decide)) (by decide))
 have e3:=N2 (t:=t.drop (k+1)) hfm (show b.at' (cO ps x.t).1=0 by rw[I]; exact A);have i1:IntKind.i64.wrap ((k:Int)+1)=((k+1:Nat):Int):=cA (by omega);have i2:IntKind.i64.wrap ((k:Int)+2)=((k+2:Nat):Int):=cA (by omega);have i3:IntKind.i64.wrap ((k:Int)+3)=((k+3:Nat):Int):=cA (by omega);have i4:IntKind.i64.wrap ((k:Int)+4)=((k+4:Nat):Int):=cA (by omega);rw[i1,i2,i3,i4];refine cF (by simpa using A) (au (wj D T (k+1) [58]) ?_);rintro v K ⟨rfl,rfl⟩;refine⟨_,rfl,?_⟩
 cases hi58:EY t (k+1) [58] with
 | false =>
  refine cT rfl (au (ng K a2 c2 t (k+1)) ?_);rintro v K ⟨rfl,rfl⟩;exact⟨_,rfl,bad H (DN o d (by rw[e3]; exact Oa hi58) (oD _ _)) (oD _ _)⟩
 | true =>
 have e3':y6 ps b x.t (t.drop (k+1),0)=(t.drop (k+2),0):=by rw[e3,DV hi58]
 have ey:(eu ps b (t.drop k,0)).2=Bx (t.drop (k+2),0):=by rw[z8 o d,e3']
 refine cF rfl ⟨λ z E=>E=K/\z = !decide (((t[k+2]?).getD kF).k=2),?_,?_⟩
 rotate_left
 ·by_cases j:k+2<t.length
  ·have G:t[k+2]?=some (t[k+2]'j):=gE j;generalize t[k+2]'j=y at G;obtain⟨q',C,h1',_,_⟩:=Qt D G;refine aU (by omega) (aq C ⟨by omega,by omega,_,h1',rfl,?_⟩);rw[G]; rfl
  ·refine aP (by omega) ⟨rfl,?_⟩;rw[cr (by omega)]; rfl
 rintro E z ⟨rfl,rfl⟩ -
 by_cases l:((t[k+2]?).getD kF).k=2
 rotate_left
 ·refine cT (by rw[dF l]; rfl) (au (ng E a2 c2 t (k+2)) ?_);rintro v E ⟨rfl,rfl⟩;exact⟨_,rfl,bad H (by rw[ey]; exact Vb l) (oD _ _)⟩
 have j:k+2<t.length:=by
  rcases bw (k+2) t.length with h|h
  ·exact h
  ·rw[cr h] at l; cases l
 have G:t[k+2]?=some (t[k+2]'j):=gE j;generalize t[k+2]'j=y at G;rw[G] at l;have l:y.k=2:=l;obtain⟨q',C,_,_,P⟩:=Qt D G;refine cF (by rw[G]; show(!decide (y.k=2))=false; rw[dT l]; rfl) ⟨λ z V=>V=E/\z=decide (y.v<1\/4<y.v),?_,aq C ⟨by omega,by omega,_,P,?_⟩⟩
 rotate_left
 ·by_cases N:y.v<1
  ·exact aP N ⟨rfl,(dT (.inl N)).symm⟩
  ·refine aU N (aq C ⟨by omega,by omega,_,P,rfl,?_⟩);exact Dk.2 (by omega)
 rintro V z ⟨rfl,rfl⟩ -
 by_cases hv:y.v<1\/4<y.v
 ·exact aP hv (bad H (by rw[ey]; exact RJ G l hv) (by decide))
 have eo:=RM o d hfm (show b.at' (cO ps x.t).1=0 by rw[I]; exact A) hi58 G l (by omega);rw[I] at eo;refine aU hv (aq C ⟨by omega,by omega,_,P,by omega,by omega,?_⟩);rw[dM];refine H.aN 0 rfl O rfl λ F p=>?_;rw[I6.jf _ _ _ O] at p;have p:St w F (Sep [aj r2 (b.put ix y.v).vs.toArray 42,aj r1 z6.vs.toArray 42,emp]):=p;have Q:R=ob (lR ps f (b.put ix y.v) (t.drop (k+3),0)):=by rw[hc,J1,eo]
 have L:=Y.av p.av;refine au (wj L T (k+3) [125]) ?_;rintro v F ⟨rfl,rfl⟩;refine⟨_,rfl,?_⟩;have S:(t.drop (k+3)).length<=f:=by rw[eo] at hf; exact hf
 have e44:∀ {m:List UInt8},m≠[44]->EY t (k+3) m=true->EY t (k+3) [44]=false:=λ {m} hm h=>by
  have B:=Ad h;have hz:t[k+3]?=some (t[k+3]'B):=gE B;generalize t[k+3]'B=z at hz;rw[vN hz] at h ⊢;rw[aX] at h;have:z.t=m:=by simpa using h.2
  rw[this,aS.2 hm,Bool.and_false]
 have U:EY t (k+3) [44]=false->R=ob (b.put ix y.v,(t.drop (k+3),0)):=λ h=>by
  have M:fO [44] (t.drop (k+3)) 0=false:=h;rw[Q]
  cases f with
  | zero=>rfl
  | succ f=>rw[lR]; show ob (if fO [44] (t.drop (k+3)) 0=true then _ else _)=_; rw[M,ah (by decide)]
 cases hi125:EY t (k+3) [125] with
 | true =>
  have B:=Ad hi125;refine cT rfl ⟨_,p.cellsIn 0 rfl,out p (λ h=>absurd rfl h) (λ _=>⟨k+4,rfl,by omega,?_⟩)⟩;rw[U (e44 (by decide) hi125),ob];show(if (Sc.exp [125] (t.drop (k+3),0)).2≠0 then _ else ((b.put ix y.v),Sc.exp [125] (t.drop (k+3),0)))=_;rw[DV hi125]; rfl
 | false =>
 refine cF rfl (au (wj L T (k+3) [44]) ?_);rintro v F ⟨rfl,rfl⟩;refine⟨_,rfl,?_⟩
 cases hi44:EY t (k+3) [44] with
 | false =>
  refine cT rfl (au (ng F a2 c2 t (k+3)) ?_);rintro v F ⟨rfl,rfl⟩;refine⟨_,rfl,out p (λ _=>?_) (λ h=>absurd h (oD _ _))⟩;rw[U hi44,ob];have e5:=Oa hi125;show(if (Sc.exp [125] (t.drop (k+3),0)).2≠0 then (z6,Sc.exp [125] (t.drop (k+3),0)) else _).2.2=_;rw[ak (by rw[e5]; exact oD _ _)]; exact e5
 | true =>
  have B:=Ad hi44;obtain⟨f,rfl⟩:∃ g,f=g+1:=⟨f-1,by rw[gH] at S; omega⟩;have M:fO [44] (t.drop (k+3)) 0=true:=hi44;refine cF rfl ⟨t.length-(k+4),by omega,k+4,f,b.put ix y.v,rfl,by omega,rfl,?_,?_,p⟩
  ·have:=y7 ps (b.put ix y.v) (t.drop (k+4),0);have h2:((t.drop (k+4),(0:Int)):Sc).1.length=t.length-(k+4):=gH ..;rw[gH] at S; omega
  ·rw[Q,lR];show ob (if fO [44] (t.drop (k+3)) 0=true then lR ps f (eu ps (b.put ix y.v) (jX [44] (t.drop (k+3)) 0,0)).1 (eu ps (b.put ix y.v) (jX [44] (t.drop (k+3)) 0,0)).2 else _)=_;rw[ak M,HJ hi44]
abbrev qE (w0 w:af) (b:Nat) (σ:Sc) (B:aI):Prop:=j0 w0 w b σ.1 σ.2 B
def Rl(σ' σ:Sc):Prop:=σ'.2=σ.2/\(σ.2=0->σ'=σ)
def Rl.refl(σ:Sc):Rl σ σ:=⟨rfl,λ _=>rfl⟩
def Rl.trans{a b c:Sc}(h:Rl a b)(k:Rl b c):Rl a c:=⟨h.1.trans k.1,λ e=>(h.2 (k.1.trans e)).trans (k.2 e)⟩
def Rl.err{a b:Sc}(h:a.2=b.2)(c:b.2≠0):Rl a b:=⟨h,λ e=>absurd e c⟩
def Rl.cases{a b:Sc}(h:Rl a b):a=b\/(b.2≠0/\a.2≠0/\a.2=b.2):=by
 by_cases e:b.2=0
 ·exact .inl (h.2 e)
 ·exact .inr ⟨e,by rw[h.1]; exact e,h.1⟩
def Rl.exp{a b:Sc}(h:Rl a b)(m:List UInt8):Rl (a.exp m) (b.exp m):=by
 rcases h.cases with rfl|⟨h1,h2,h3⟩
 ·exact Rl.refl _
 ·rw[jb h1,jb h2]; exact Rl.err h3 h1
def JM{m:List UInt8}{σ:Sc}(h:σ.2≠0):σ.acc m=σ:=zM (oG h)
def Rl.acc{a b:Sc}(h:Rl a b)(m:List UInt8):Rl (a.acc m) (b.acc m)/\fO m a.1 a.2=fO m b.1 b.2:=by
 rcases h.cases with rfl|⟨h1,h2,h3⟩
 ·exact⟨Rl.refl _,rfl⟩
 ·rw[JM h1,JM h2,oG h1,oG h2]; exact⟨Rl.err h3 h1,rfl⟩
def Rl.kJ{a b:Sc}(h:Rl a b)(n:Int):Rl (a.kJ n) (b.kJ n)/\gW n a.1 a.2=gW n b.1 b.2:=by
 rcases h.cases with rfl|⟨h1,h2,h3⟩
 ·exact⟨Rl.refl _,rfl⟩
 ·rw[(kS h1).1,(kS h2).1,(kS h1).2,(kS h2).2]; exact⟨Rl.err h3 h1,rfl⟩
def SQ{σ:Sc}(h:σ.2≠0):uG σ=σ:=by
 rw[uG,show(aT σ.1 σ.2).k=0 by rw[aT,ah h]; rfl,ak rfl];show(σ.1,cK σ.2 1)=σ;rw[cK,ah h]
def pW{ps:List Pr}{σ:Sc}(h:σ.2≠0):aZ ps σ=((z6,0),σ):=by
 have h1:fF ps (uG σ)=(z6,σ):=by rw[SQ h,fF,ak h]
 have h2:KD ps σ=σ:=by rw[KD,h1]; exact jb h
 rw[aZ,h1,h2,(kS h).1,(kS h).2]
def Rl.V2{a b:Sc}(h:Rl a b)(ps:List Pr):Rl (aZ ps a).2 (aZ ps b).2/\(aZ ps a).1=(aZ ps b).1:=by
 rcases h.cases with rfl|⟨h1,h2,h3⟩
 ·exact⟨Rl.refl _,rfl⟩
 ·rw[pW h1,pW h2]; exact⟨Rl.err h3 h1,rfl⟩
def Kd.sub{l a:List Tk}(h:Kd l)(k:∀ x∈a,x∈l):Kd a:=λ x b=>h x (k x b)
def Ao{l:List Tk}{e:Int}:∀ x∈eL l e,x∈l:=by
 unfold eL; split
 ·exact λ x a=>List.mem_of_mem_tail a
 ·exact λ x a=>a
def vo{m:List UInt8}{l:List Tk}{e:Int}:∀ x∈jX m l e,x∈l:=by
 unfold jX; split
 ·exact Ao
 ·exact λ x a=>a
def JP{m:Int}{l:List Tk}{e:Int}:∀ x∈qV m l e,x∈l:=by
 unfold qV; split
 ·exact Ao
 ·exact λ x a=>a
def Ge{l:List Tk}{e:Int}:∀ x∈lg l e,x∈l:=by
 unfold lg; split
 ·exact Ao
 ·exact λ x a=>a
def RF{w:af}{a:OA}{c k:Nat}{l:List Tk}(h:cP 4 Tk.cells w a l)(hc:l.length<=c):cP 4 Tk.cells w (if c=k then a else Option.map (λ x=>Addr.add x (k*4)) a) (l.drop k):=λ i x d=>by
 rw[lW] at d;have hi:=(aR.1 d).1;obtain⟨q,e,b⟩:=h.at d;refine⟨q.add (k*4),_,by rw[ah (by omega),e]; rfl,?_,rfl,rfl⟩;rw[Addr.add_add,<- gT]; exact b
def xV{w0 w:af}{p:Nat}{σ:Sc}{B:aI}{a:OA}{c:Nat}{ps:List Pr}(h:qE w0 w p σ B)(E:∀ {w'},aC w0 w' []->fS w' a ps)(Z:dH ps)(s:Kd σ.1) :
  CP 244 #[.slice a ps.length c,pt p] w (λ r w'=>∃ (u:I6) (v:Int) (σ':Sc),r=.tuple #[.agg u.vs.toArray,iv v]/\qE w0 w' p σ' B/\Kd σ'.1/\(∀ x∈σ'.1,x∈σ.1)/\σ'.1.length<=σ.1.length/\Rl σ' (aZ ps σ).2/\(σ'.2=0->(u,v)=(aZ ps σ).1)):=by
 refine vJ.2.2.2.1 ?_;refine aG z6.vs.toArray λ r1 O s1=>?_;have h1:qE w0 O p σ (star (Sep [aj r1 z6.vs.toArray 42,emp]) B):=h.add s1;have W:∀ {w':af} {σ':Sc} {cs:Array Value},qE w0 w' p σ' (star (Sep [aj r1 cs 42,emp]) B)->St w0 w' (Sep [aj r1 cs 42,emp]):=λ h=>h.frame.first;have zero:∀ {w':af} {σ':Sc} {u:I6} {v:Int},qE w0 w' p σ' (star (Sep [aj r1 z6.vs.toArray 42,emp]) B)->Kd σ'.1->(∀ x∈σ'.1,x∈σ.1)->σ'.1.length<=σ.1.length->Rl σ' (aZ ps σ).2->(σ'.2=0->(u,v)=(aZ ps σ).1) ->
   uP ⟨r1,0,none⟩ 0 u.vs w' λ H=>∃ u1:I6,aA H ⟨r1,0,none⟩ 0 u1.vs/\∃ (N:I6) (v':Int) (σ':Sc),Value.tuple #[.agg u1.vs.toArray,iv v]=.tuple #[.agg N.vs.toArray,iv v']/\qE w0 H p σ' B/\Kd σ'.1/\(∀ x∈σ'.1,x∈σ.1)/\σ'.1.length<=σ.1.length/\Rl σ' (aZ ps σ).2/\(σ'.2=0->(N,v')=(aZ ps σ).1):=λ {w' σ' u v} h2 o y F k3 k4=>by
  obtain⟨R,t,back⟩:=h2.out;exact t.az 0 rfl u.vs rfl (I6.one _) λ H t2=>⟨u,t2.cellsIn 0 rfl,u,v,σ',rfl,(back (m':=[_,_]) t2).drop,o,y,F,k3,k4⟩
 obtain⟨a2,c2,C,l,z⟩:=h1;have h1:qE w0 O p σ (star (Sep [aj r1 z6.vs.toArray 42,emp]) B):=⟨a2,c2,C,l,z⟩;refine⟨_,z.ag 0 rfl 1,?_⟩
 by_cases he:σ.2=0
 rotate_left
 ·have T:=pW (ps:=ps) he;exact cT (by simpa using he) (zero h1 s (λ x m=>m) (aO _) (by rw[T]; exact Rl.refl _) (λ h=>absurd h he))
 have V:σ=(σ.1,0):=by rw[<- he]
 refine cF (by simpa using he) ⟨_,_,_,z.ag 0 rfl 0,au (GU (E h1.av) Z (z.bC 1 rfl) l s) ?_⟩;rintro v w3 ⟨u,n,f,rfl,o,y,c3⟩;rw[<- V] at o y;have h3:=h1.quiet c3;obtain⟨B3,t3,e⟩:=j0.out h3;refine⟨_,_,_,rfl,t3.aB z6.vs.toArray λ r2 w4 t4=>t4.az 0 rfl u.vs rfl (I6.one _) λ w5 t5=>?_⟩;have J:qE w0 w5 p σ (star (Sep [aj r2 u.vs.toArray 42,aj r1 z6.vs.toArray 42,emp]) B):=e (m':=[aj r2 u.vs.toArray 42,aj r1 z6.vs.toArray 42,emp]) t5;have off:∀ {w':af} {σ':Sc} {cs:Array Value},qE w0 w' p σ' (star (Sep [aj r2 cs 42,aj r1 z6.vs.toArray 42,emp]) B)->qE w0 w' p σ' (star (Sep [aj r1 z6.vs.toArray 42,emp]) B):=λ h=>by
  obtain⟨R,t,back⟩:=j0.out h;exact back (m':=[_,_]) (t.ay [1,2,3])
 by_cases d:f=0
 rotate_left
 ·refine cT (by simpa using d) (au (rV J f) ?_);rintro v w6 ⟨rfl,K⟩;have U:cK σ.2 f=f:=by rw[cK,ak he]
  rw[U] at K;have g:(fF ps (uG σ)).2.2≠0:=by rw[o d]; exact d
  have q:KD ps σ=(fF ps (uG σ)).2:=jb g;have I:(aZ ps σ).2.2=f:=by rw[aZ,q,(kS g).1,o d]
  exact⟨rfl,zero (σ':=(σ.1,f)) (off K) s (λ x m=>m) (aO _) (Rl.err I.symm (by rw[I]; exact d)) (λ h=>absurd h d)⟩
 ·obtain⟨k,rfl,X,g⟩:=y d;obtain⟨a3,c4,D,Y,M⟩:=J;refine cF (by simpa using d) ⟨_,_,_,M.ag 0 rfl 0,by omega,by omega,?_⟩;rw[aD];refine M.aN 0 rfl (j:=0) (show 0<2 by decide) rfl λ P s8=>?_;have L:qE w0 P p (σ.1.drop k,σ.2) (star (Sep [aj r2 u.vs.toArray 42,aj r1 z6.vs.toArray 42,emp]) B):=by
   have s9:=(s8.ay [1,0,2]).qj ((aW _).mono λ w E=>RF (k:=k) E D);refine⟨if c4=k then a3 else Option.map (λ x=>Addr.add x (k*4)) a3,c4-k,?_,?_,?_⟩
   ·rw[gH]; omega
   ·rw[gH]; omega
   ·show St w0 P (Sep [aj p #[.slice (if c4=k then a3 else Option.map (λ x=>Addr.add x (k*4)) a3) (σ.1.drop k).length (c4-k),iv σ.2] _,_,_]);rw[gH];exact s9.ay [1,0,2]
  rw[he] at L;refine au (mZ L [64]) ?_;rintro v Q ⟨rfl,A⟩;have q:KD ps σ=Sc.exp [64] (σ.1.drop k,0):=by rw[KD,g]
  have A:qE w0 Q p (KD ps σ) (star (Sep [aj r2 u.vs.toArray 42,aj r1 z6.vs.toArray 42,emp]) B):=by rw[q]; exact A
  have i:=j0.quiet A (aC.drew Q []);obtain⟨B9,t9,_⟩:=j0.out i;refine⟨rfl,u,t9.cellsIn 0 rfl,au (AJ i 1000000) ?_⟩;rintro v G ⟨rfl,b⟩;have b:qE w0 G p (aZ ps σ).2 (star (Sep [aj r2 u.vs.toArray 42,aj r1 z6.vs.toArray 42,emp]) B):=b;obtain⟨S,t10,_⟩:=j0.out b;have hm:∀ x∈(aZ ps σ).2.1,x∈σ.1:=λ x m=>by
   have h1:x∈(KD ps σ).1:=JP x m;rw[q] at h1;exact JE (vo x h1)
  refine⟨_,rfl,t10.cellsIn 0 rfl,zero (σ':=(aZ ps σ).2) (off b) (s.sub hm) hm (oZ ps σ) (Rl.refl _) (λ _=>?_)⟩;rw[aZ,g]
section
variable {w0:af} {p:Nat} {B:aI}
def j0.uk{w:af}{l:List Tk}{e:Int}{b:aI}(h:j0 w0 w p l e B)(k:bz B b):j0 w0 w p l e b:=by
 obtain⟨a,c,h1,h2,s⟩:=h;exact⟨a,c,h1,h2,s.weak (bz.right (bz.right (bz.left k)))⟩
def j0.push{w:af}{l:List Tk}{e:Int}{A:aI}{m:List aI}(h:j0 w0 w p l e (star A (star (Sep m) B))):j0 w0 w p l e (star (Sep (A :: m)) B):=h.uk bX.assoc'.weak
def Nb(w0:af)(p:Nat)(a:OA)(c:Nat)(l:List Pr)(f:Nat):Prop :=
 ∀ (B:aI) (σ:Sc) (w:af),Kd σ.1->(σ.2=0->σ.1.length<f)->qE w0 w p σ B ->
  CP 191 #[.slice a l.length c,pt p] w (λ r w'=>∃ (x:Xv) (σ':Sc),r=.agg x.cells.toArray/\qE w0 w' p σ' (star (held x.In) B)/\(∀ y∈σ'.1,y∈σ.1)/\σ'.1.length<=σ.1.length/\Rl σ' (fz (fU l f) σ).2/\(σ'.2=0->x.er=(fz (fU l f) σ).1))
def Ki{op:Int}{u:I6}{v:Int}{a:OA}{c:Nat}(w:af):(Xv.mk op u v a c []).In w:=.mk (λ i y b=>by simp[Xv.args] at b) (λ y b=>by simp[Xv.args] at b)
def V5(x:Xv)(b:Tk)(r1 r2 r4:Nat):List aI :=
 [aj r4 x.cells.toArray 120,uX x.a x.c x.args,held (yh x.args),aj r2 b.cells.toArray 310,aj r1 cI.cells.toArray 120,emp]
def Mb:xQ []=0:=by decide
def SL(nm:List UInt8):xQ nm=if nm=[120,111,114] then 2 else if nm=[111,114] then 3 else if nm=[98,111,110,117,115] then 4 else if nm=[108,105,109,105,116] then 5 else 0:=by
 rw[xQ,Pb,L9,L9,L9,L9,L9];simp only[eq_comm]
def IC{ps:List Pr}{σ:Sc}{e:Int}(h:(uG σ).2=e)(he:e≠0):(aZ ps σ).2.2=e:=by
 have h1:(uG σ).2≠0:=by rw[h]; exact he
 have h2:fF ps (uG σ)=(z6,uG σ):=by rw[fF,ak h1]
 have h3:KD ps σ=uG σ:=by rw[KD,h2]; exact jb h1
 rw[aZ,h3,(kS h1).1,h]
def RQ{ps:List Pr}{g:Sc->Xv×Sc}{a1:Xv}{σ:Sc}(h:σ.2≠0):(FB ps g 0 a1 σ).2=σ:=by
 rw[FB,ah (by decide),ah (by decide),ah (by decide)]; exact jb h
variable {a:OA} {c:Nat} {l:List Pr}
def Gf{σ:Sc}(h:(aT σ.1 σ.2).k≠1):σ.name=(σ.1,gx σ.1 σ.2)/\fK σ.1 σ.2=[]:=by
 refine⟨?_,by rw[fK,ah h]⟩;show(lg σ.1 σ.2,nj σ.1 σ.2)=_;rw[lg,nj,ah h,ah h]
def Gg{σ:Sc}(h:(aT σ.1 σ.2).k=1):σ.name=σ.next/\fK σ.1 σ.2=(aT σ.1 σ.2).t:=by
 refine⟨?_,by rw[fK,ak h]⟩;show(lg σ.1 σ.2,nj σ.1 σ.2)=(eL σ.1 σ.2,σ.2);rw[lg,nj,ak h,ak h]
def Vk{f:Nat}{σ:Sc}(j:Kd σ.1)(e : ¬ ((aT σ.1 σ.2).k=3/\(aT σ.1 σ.2).t=[123]))(i:xQ (fK σ.1 σ.2)=0)(p:σ.2=0->∃ g,f=g+1):(fz (fU l f) σ).2.2=cK σ.name.2 2/\cK σ.name.2 2≠0:=by
 by_cases he:σ.2=0
 rotate_left
 ·have h1:(aT σ.1 σ.2).k≠1:=by rw[aT,ah he]; decide
  have a:σ.name.2=σ.2:=by rw[(Gf h1).1]; exact uV he
  rw[fz,ak he,a,cK,ah he]; exact⟨rfl,he⟩
 obtain⟨g,rfl⟩:=p he;rw[fz,ah (λ h=>h he)]
 by_cases h1:(aT σ.1 σ.2).k=1
 ·obtain⟨a,m⟩:=Gg h1;rw[m] at i;have b:dW (aT σ.1 σ.2)=0:=by rw[dW,ak h1]; exact i
  have c:tg σ=(σ.1,2):=by rw[tg,ak b]; show(σ.1,cK σ.2 2)=_; rw[cK,ak he]
  have d:qG σ=(σ.1,2):=by
   rw[qG,c];have:Sc.next (σ.1,2)=(σ.1,2):=by show(eL σ.1 2,(2:Int))=_; rw[eL,ah (by decide)]
   rw[this]; exact jb (by show(2:Int)≠0; decide)
  have n:(fU l (g+1) σ).2.2=2:=by
   rw[fU,b,ah (by decide),d];have:fz (fU l g) (σ.1,2)=(cI,(σ.1,2)):=by rw[fz,ak (by show(2:Int)≠0; decide)]
   rw[this,RQ (by show(2:Int)≠0; decide)]
  have o:cK σ.name.2 2=2:=by rw[a]; show cK σ.2 2=2; rw[cK,ak he]
  rw[n,o]; exact⟨rfl,by decide⟩
 ·obtain⟨a,_⟩:=Gf h1;have b:dW (aT σ.1 σ.2)=1:=by rw[dW,ah h1]
  have c:tg σ=σ:=by rw[tg,b,ah (by decide)]
  have hw:gx σ.1 σ.2≠0:=by rw[gx,cK,ak he]; split<;>decide
  have d:(uG σ).2=gx σ.1 σ.2:=by
   have hp:aT σ.1 σ.2=σ.1.headD kF:=by rw[aT,ak he]
   rw[uG,gx]
   cases hl:σ.1 with
   | nil =>
    have:(aT σ.1 σ.2).k=0:=by rw[hp,hl]; rfl
    rw[hl] at this;rw[ak this];show cK σ.2 1=_;rfl
   | cons x t =>
    rw[hl] at hp e j;have q:aT (x :: t) σ.2=x:=hp;rw[q] at e ⊢;rw[ah (j x (by simp)),ak (by by_cases h3:x.k=3; exact .inr λ h=>e ⟨h3,h⟩; exact .inl h3)];show cK σ.2 2=_;rfl
  rw[fU,b,ak rfl];show(aZ l (tg σ)).2.2=_/\_;rw[c,a];show _=cK (gx σ.1 σ.2) 2/\cK (gx σ.1 σ.2) 2≠0;rw[cK,ah hw];exact⟨IC d hw,hw⟩
def AE(hr:∀ {w'},aC w0 w' []->fS w' a l)(ho:dH l){f:Nat}(H:∀ g,f=g+1->Nb w0 p a c l g):Nb w0 p a c l f:=by
 intro B σ w hk hlen h;have hf:σ.2=0->∃ g,f=g+1:=λ e=>⟨f-1,by have:=hlen e; omega⟩;refine vJ.2.2.2.2.1 ?_;refine aG cI.cells.toArray λ r1 w1 s1=>?_;have h1:=h.add s1;refine au (rW h1) ?_;rintro v w2 ⟨rfl,c2⟩;have s2:=s1.quiet c2;generalize q:aT σ.1 σ.2=o at *;refine⟨_,_,_,_,rfl,s2.aB kF.cells.toArray λ r2 w3 s3=>s3.az 0 rfl o.cells rfl (Tk.one _) λ w4 s4=>?_⟩;let m0:List aI:=[aj r2 o.cells.toArray 310,aj r1 cI.cells.toArray 120,emp];have h4:qE w0 w4 p σ (star (Sep m0) B):=h.add s4;have none_:∀ {w':af} {σ':Sc} {r4:Nat},qE w0 w' p σ' (star (Sep (aj r4 cI.cells.toArray 120 :: m0)) B)->(∀ y∈σ'.1,y∈σ.1)->σ'.1.length<=σ.1.length->Rl σ' (fz (fU l f) σ).2->σ'.2≠0\/(fz (fU l f) σ).1=cI ->
   ∃ (n18:Int) (u10:I6) (n19:Int) (a9:OA) (l9 c9:Nat),aA w' ⟨r4,0,none⟩ 0 ((iv n18) :: (u10.on [(iv n19),(.slice a9 l9 c9)]))/\uP ⟨r1,0,none⟩ 0 ((iv n18) :: (u10.on [(iv n19),(.slice a9 l9 c9)])) w' λ w42 =>
    ∃ (n20:Int) (u11:I6) (n21:Int) (a10:OA) (l10 c10:Nat),aA w42 ⟨r1,0,none⟩ 0 ((iv n20) :: (u11.on [(iv n21),(.slice a10 l10 c10)])) /\
    ∃ (x:Xv) (σ':Sc),Value.agg ((iv n20) :: (u11.on [(iv n21),(.slice a10 l10 c10)]):List Value).toArray=.agg x.cells.toArray/\qE w0 w42 p σ' (star (held x.In) B)/\(∀ y∈σ'.1,y∈σ.1)/\σ'.1.length<=σ.1.length/\Rl σ' (fz (fU l f) σ).2/\(σ'.2=0->x.er=(fz (fU l f) σ).1):=λ {w' σ' r4} h k1 k2 k3 S=>by
  obtain⟨B',t,back⟩:=j0.out h;refine⟨_,z6,_,_,_,_,t.cellsIn 0 rfl,t.az 2 rfl cI.cells rfl (Xv.one _) λ w6 t6=>⟨_,z6,_,_,_,_,t6.cellsIn 2 rfl,cI,σ',rfl,?_,k1,k2,k3,λ e=>?_⟩⟩
  ·have s7:=t6.jx (Q:=cI.In) λ w=>Ki w;exact(back (m':=[held cI.In,_,_,_,_]) s7).uk Fw
  ·rcases S with S|S
   ·exact absurd e S
   ·rw[S,Be]
 refine⟨λ b w5=>b=decide (o.k=3/\o.t=[123])/\w5=w4,?_,_,s4.ag 0 rfl 0,?_⟩
 rotate_left
 ·by_cases h3:o.k=3
  ·refine cT (by simpa using h3) ⟨_,s4.ag 0 rfl 1,?_,rfl⟩;rw[fG,fG]
   by_cases h4:o.t=[123]
   ·rw[dT (p:=o.k=3/\o.t=[123]) ⟨h3,h4⟩]; exact bH.2 h4
   ·rw[dF (p:=o.k=3/\o.t=[123]) (λ h=>h4 h.2)]; exact aS.2 h4
  ·exact cF (by simpa using h3) ⟨by rw[dF (p:=o.k=3/\o.t=[123]) (λ h=>h3 h.1)],rfl⟩
 rintro w5 b ⟨rfl,rfl⟩ -
 by_cases hb:o.k=3/\o.t=[123]
 ·
  have he:σ.2=0:=iK λ he=>by
   rw[aT,ah he] at q;rw[<- q] at hb; cases hb.1
  obtain⟨g,rfl⟩:=hf he;have e3:dW o=1:=by rw[dW,ah (by omega)]
  have E:tg σ=σ:=by rw[tg,q,e3,ah (by decide)]
  have eF:fz (fU l (g+1)) σ=(.mk 1 (aZ l σ).1.1 (aZ l σ).1.2 none 0 [],(aZ l σ).2):=by rw[fz,ah (λ h=>h he),fU,q,ak e3,E]
  refine aP hb (au (xV h4 hr ho hk) ?_);rintro v w6 ⟨u,v,σ',rfl,h6,k1,k2,k2',k3,S⟩;obtain⟨B',t,back⟩:=j0.out h6;let x:Xv:=.mk 1 u v none 0 [];refine⟨u,v,rfl,t.aB z6.vs.toArray λ r3 w7 t7=>t7.az 0 rfl u.vs rfl (I6.one _) λ w8 t8=>⟨u,t8.cellsIn 0 rfl,t8.az 2 rfl x.cells rfl (Xv.one _) λ w9 t9=>⟨_,u,_,_,_,_,t9.cellsIn 2 rfl,x,σ',rfl,?_,k2,k2',by rw[eF]; exact k3,λ e=>?_⟩⟩⟩
  ·have s7:=t9.jx (Q:=x.In) λ w=>Ki w;exact(back (m':=[held x.In,_,_,_,_]) s7).uk Fw
  ·rw[eF,Xv.mQ];show Xv.mk 1 u v none 0 []=Xv.mk 1 (aZ l σ).1.1 (aZ l σ).1.2 none 0 [];rw[<- S e]
 refine aU hb ?_;obtain⟨B',t4,back4⟩:=j0.out h4;refine t4.aB cI.cells.toArray λ r4 w10 t10=>t10.az 0 rfl cI.cells rfl (Xv.one _) λ w11 t11=>?_;have h11:qE w0 w11 p σ (star (Sep (aj r4 cI.cells.toArray 120 :: m0)) B):=back4 (m':=_ :: m0) t11;refine⟨λ w12=>∃ op:Int,xQ (fK σ.1 σ.2)=op/\(op=2\/op=3\/op=4\/op=5)/\qE w0 w12 p σ.name (star (Sep (aj r4 (Xv.mk op z6 0 none 0 []).cells.toArray 120 :: m0)) B),?_,au (PC h11) ?_⟩
 rotate_left
 ·rintro v w36 ⟨rfl,P⟩;have P:qE w0 w36 p σ.name (star (Sep (aj r4 cI.cells.toArray 120 :: m0)) B):=P;have E:=SL (fK σ.1 σ.2);obtain⟨B6,t36,d⟩:=j0.out P;refine⟨_,rfl,?_⟩;rw[fG,fG,fG,fG,fG]
  by_cases g2:fK σ.1 σ.2=[120,111,114]
  ·rw[ak g2] at E;exact cT (bH.2 g2) (t36.aN 0 rfl (j:=0) (show 0<9 by decide) rfl λ w37 t37=>⟨2,E,.inl rfl,d (m':=_ :: m0) t37⟩)
  rw[ah g2] at E;refine cF (aS.2 g2) ?_
  by_cases g3:fK σ.1 σ.2=[111,114]
  ·rw[ak g3] at E;exact cT (bH.2 g3) (t36.aN 0 rfl (j:=0) (show 0<9 by decide) rfl λ w37 t37=>⟨3,E,.inr (.inl rfl),d (m':=_ :: m0) t37⟩)
  rw[ah g3] at E;refine cF (aS.2 g3) ?_
  by_cases g4:fK σ.1 σ.2=[98,111,110,117,115]
  ·rw[ak g4] at E;exact cT (bH.2 g4) (t36.aN 0 rfl (j:=0) (show 0<9 by decide) rfl λ w37 t37=>⟨4,E,.inr (.inr (.inl rfl)),d (m':=_ :: m0) t37⟩)
  rw[ah g4] at E;refine cF (aS.2 g4) ?_
  by_cases g5:fK σ.1 σ.2=[108,105,109,105,116]
  ·rw[ak g5] at E;exact cT (bH.2 g5) (t36.aN 0 rfl (j:=0) (show 0<9 by decide) rfl λ w37 t37=>⟨5,E,.inr (.inr (.inr rfl)),d (m':=_ :: m0) t37⟩)
  rw[ah g5] at E;obtain⟨b1,b2⟩:=Vk (f:=f) hk (by rw[q]; exact hb) E hf;refine cF (aS.2 g5) (au (rV P 2) ?_);rintro v w41 ⟨rfl,h41⟩;exact⟨rfl,none_ (σ':=(σ.name.1,cK σ.name.2 2)) h41 Ge (vQ _ _) (Rl.err b1.symm (by rw[b1]; exact b2)) (.inl b2)⟩
 rintro w12 ⟨op,hop,hop4,h12⟩ -;have K:o.k=1:=iK λ h1=>by
  rw[fK,q,ah h1,Mb] at hop; omega
 have he:σ.2=0:=iK λ he=>by
  rw[aT,ah he] at q;rw[<- q] at K; cases K
 obtain⟨g,rfl⟩:=hf he;have hlg:=hlen he;have hnm:fK σ.1 σ.2=o.t:=by rw[fK,q,ak K]
 rw[hnm] at hop;have e3:dW (aT σ.1 σ.2)=op:=by rw[q,dW,ak K]; exact hop
 have ex1e:tg σ=σ:=by rw[tg,e3,ah (by omega)]
 have X:qG σ=σ.name.exp [40]:=by rw[qG,ex1e,(Gg (by rw[q]; exact K)).1]
 have eF:fz (fU l (g+1)) σ=FB l (fU l g) op (fz (fU l g) (qG σ)).1 (fz (fU l g) (qG σ)).2:=by rw[fz,ah (λ h=>h he),fU,e3,ah (by omega)]
 have hlt2:(qG σ).2=0->(qG σ).1.length<g:=λ h=>by
  have:=Ia (σ:=σ) (by rw[e3]; omega) h; omega
 have hle2:=DP σ;have hm2:∀ y∈(qG σ).1,y∈σ.1:=λ y C=>by
  rw[X] at C;exact Ge y (vo y C)
 clear hf;let x0:Xv:=.mk op z6 0 none 0 [];let F:Xv->aI:=λ x=>star (Sep (V5 x o r1 r2 r4)) B;have frF:∀ {w':af} {σ':Sc} {x:Xv},qE w0 w' p σ' (F x)->St w0 w' (Sep (V5 x o r1 r2 r4)):=λ h=>j0.frame h |>.first;have h12:qE w0 w12 p σ.name (F x0):=by
  obtain⟨B6,t,d⟩:=j0.out h12;exact d (m':=V5 x0 o r1 r2 r4) ((St.jx (l:=[_,_,_,_,_,_]) (t.dy (e:=120) (sz:=9) (f:=Xv.cells)) (Q:=yh []) (λ w=>by simp[yh])).ay [2,1,0,3,4,5,6])
 have app:∀ {w':af} {σ':Sc} {x y:Xv} {R:af->Prop},x.args.length<=5000->qE w0 w' p σ' (star (held y.In) (F x)) ->
   (∀ Z c8 L,qE w0 L p σ' (F (.mk x.op x.u x.v Z c8 (x.args++[y])))->R L) ->
   w'.cell? ⟨r4,8,none⟩=some (.slice x.a x.args.length x.c)/\cR w' (.cells (iv y.op :: (y.u.on [iv y.v,.slice y.a y.args.length y.c]):List Value).toArray 120) λ r5 G=>G.cell? ⟨r4,8,none⟩=some (.slice x.a x.args.length x.c) /\
    gi prog (Builtin.append_ #[88,88] 88 #[.slice x.a x.args.length x.c,.slice (qs r5) 1 1]) G λ e6 W=>∃ (Z:OA) (l8 c8:Nat),e6=.slice Z l8 c8/\fL W ⟨r4,8,none⟩ (.slice Z l8 c8) R:=by
  intro w' σ' x y R hxl hA k;obtain⟨B2,t,bk⟩:=j0.out hA.push;refine⟨t.ag 1 rfl 8,t.aB y.cells.toArray λ r5 G t17=>⟨t17.ag 2 rfl 8,?_⟩⟩;have hy1:cP 9 Xv.cells G (qs r5) [y]:=λ i z hz=>by
   obtain⟨rfl,rfl⟩:i=0/\z=y:=by
    cases i with
    | zero=>simp at hz; exact⟨rfl,hz.symm⟩
    | succ i=>simp at hz
   exact⟨_,_,rfl,by rw[wK,om]; exact t17.cellsIn 0 rfl,rfl,rfl⟩
  refine bQ P8 Xv.len Xv.one (t17.out 3 rfl) (a2:=qs r5) (c2:=1) (l2:=[y]) hy1 (by simp; omega) (by simp; omega) λ Z c8 W t18=>?_;have t19:=t18.back (show 3<9 by decide);refine t19.aN 2 rfl (j:=8) (show 8<9 by decide) rfl λ L t20=>k Z c8 L ?_;have t21:=(t20.ay [1,4,2,3,5,6,7,8]).fX (aW _) (aW _) λ w h1 h2=>(show yh (x.args++[y]) w from λ z hz=>(aV.1 hz).elim (h2 z) λ e=>by rw[bp.1 e]; exact h1);exact bk (m':=V5 (.mk x.op x.u x.v Z c8 (x.args++[y])) o r1 r2 r4) (t21.ay [1,2,0,3,4,5,6])
 refine au (mZ h12 [40]) ?_;rintro v w13 ⟨rfl,N⟩;have N:qE w0 w13 p (qG σ) (F x0):=by rw[X]; exact N
 have h4000:(qG σ).1.length<=4000:=by obtain⟨_,_,_,h2,_⟩:=N; exact h2
 refine⟨rfl,au (H g rfl (F x0) (qG σ) w13 (hk.sub hm2) hlt2 N) ?_⟩;rintro v w14 ⟨y,A,rfl,h14,m1,l1,U,ey⟩;generalize fz (fU l g) (qG σ)=s at eF ey U;obtain⟨B7,t14,back7⟩:=j0.out h14.push;refine⟨_,y.u,_,_,_,_,rfl,t14.aB y.cells.toArray λ r5 w15 t15=>t15.aN 2 rfl (j:=8) (show 8<9 by decide) rfl λ V t16=>?_⟩;have O:qE w0 V p A (F (.mk op z6 0 (qs r5) 1 [y])):=by
  have t17:St w0 V (star (uX (qs r5) 1 [y]) _):=St.weak t16 (bz.left (by
   have:=dO (r:=r5) (cs:=y.cells.toArray) (T:=120) (n:=1) (sz:=9) rfl (by decide);have e:y.cells.toArray.toList=[y].flatMap Xv.cells:=by simp
   rw[e] at this; exact this))
  have t18:St w0 V (Sep [uX (qs r5) 1 [y],held y.In,aj r4 (Xv.mk op z6 0 (qs r5) 1 [y]).cells.toArray 120,uX none 0 [],held (yh []),aj r2 o.cells.toArray 310,aj r1 cI.cells.toArray 120,emp,B7]):=t17;have t19:=(t18.ay [1,0,2,5,6,7,8]).qj ((aW _).mono λ w C=>(show yh [y] w from λ z hz=>by rw[bp.1 hz]; exact C));exact back7 (m':=V5 (.mk op z6 0 (qs r5) 1 [y]) o r1 r2 r4) (t19.ay [2,1,0,3,4,5,6])
 generalize hR:fz (fU l (g+1)) σ=R at *;refine⟨λ G=>∃ (x:Xv) (τ:Sc),qE w0 G p τ (F x)/\(∀ y∈τ.1,y∈σ.1)/\τ.1.length<=σ.1.length/\Rl (τ.exp [41]) R.2/\((τ.exp [41]).2=0->x.er=R.1),?_,op,(frF O).ag 0 rfl 0,?_⟩
 ·rintro G ⟨x,τ,h17,m2,l2,rl2,ex⟩ -;refine au (mZ h17 [41]) ?_;rintro v W ⟨rfl,h18⟩;have h18:qE w0 W p (τ.exp [41]) (F x):=h18;obtain⟨B2,t,bk⟩:=j0.out h18;refine⟨rfl,_,x.u,_,_,_,_,t.cellsIn 0 rfl,t.az 4 rfl x.cells rfl (Xv.one _) λ L t22=>⟨_,x.u,_,_,_,_,t22.cellsIn 4 rfl,x,τ.exp [41],rfl,?_,λ y C=>m2 y (vo y C),cC (rz _ _) l2,rl2,ex⟩⟩;have t23:=(t22.ay [1,2,0,3,4,5,6]).fX (bn Xv.len) (aW _) λ w h1 h2=>(Xv.In.mk h1 h2:x.In w);exact(bk (m':=[held x.In,_,_,_,_]) t23).uk Fw
 have okz:∀ {τ:Sc},(τ.exp [41]).2=0->τ.2=0:=λ {τ} h=>iK λ h'=>by rw[jb h'] at h; exact h' h
 have m1':∀ y∈A.1,y∈σ.1:=λ y C=>hm2 y (m1 y C);refine⟨λ b w20=>b=decide (op=2\/op=3)/\w20=V,?_,?_⟩
 rotate_left
 ·by_cases g2:op=2
  ·exact cT (by simpa using g2) ⟨by rw[dT (Or.inl g2)]; simpa using g2,rfl⟩
  ·refine cF (by simpa using g2) ⟨?_,rfl⟩
   by_cases g3:op=3
   ·rw[dT (Or.inr g3)]; simpa using g3
   ·rw[dF (by rintro(h|h); exact g2 h; exact g3 h)]; simpa using g3
 rintro w20 b ⟨rfl,rfl⟩ -
 by_cases g23:op=2\/op=3
 ·have M:R=(.mk op z6 0 none 0 (iL (fU l g) s.2.1.length [s.1] s.2).1,(iL (fU l g) s.2.1.length [s.1] s.2).2.exp [41]):=by rw[eF,FB,ak g23]
  generalize hT:iL (fU l g) s.2.1.length [s.1] s.2=T at M;refine aP g23 ⟨λ w21 m=>∃ (n:Nat) (acc D:List Xv) (a':OA) (c':Nat) (σ' Y:Sc),m=σ'.1.length/\(σ'.2=0->σ'.1.length<=n)/\acc.length+σ'.1.length<=4001/\σ'.1.length<=(qG σ).1.length/\(∀ y∈σ'.1,y∈σ.1)/\iL (fU l g) n D Y=T/\Rl σ' Y/\(σ'.2=0->acc.map Xv.er=D)/\qE w0 w21 p σ' (F (.mk op z6 0 a' c' acc)),⟨_,s.2.1.length,[y],[s.1],qs r5,1,A,s.2,rfl,λ e=>?_,by simp; omega,l1,m1',hT,U,λ e=>by rw[cV,ey e],O⟩,?_⟩
  ·rcases U.cases with h|⟨_,h,_⟩
   ·rw[h]; exact aO _
   ·exact absurd e h
  rintro w21 m ⟨n,acc,D,a',c',σ',Y,rfl,hn,hac,hl',hm',J,rl',ea,h21⟩ -;refine au (AI h21 [44]) ?_;rintro v w22 ⟨rfl,I⟩;have I:qE w0 w22 p (σ'.acc [44]) (F (.mk op z6 0 a' c' acc)):=I;refine⟨_,rfl,?_⟩
  cases hb':fO [44] σ'.1 σ'.2 with
  | true =>
   have he':σ'.2=0:=iK λ h=>by rw[oG h] at hb'; cases hb'
   obtain rfl:σ'=Y:=by
    rcases rl'.cases with h|⟨_,h,_⟩
    ·exact h
    ·exact absurd he' h
   have hlen':=yX hb';have hn':=hn he';obtain⟨n,rfl⟩:∃ k,n=k+1:=⟨n-1,by omega⟩;rw[iL,ak hb'] at J;have h23:=j0.quiet I (aC.drew w22 []);have hmA:∀ y∈(σ'.acc [44]).1,y∈σ.1:=λ y C=>hm' y (vo y C);refine cT rfl ⟨_,_,_,(frF h23).ag 0 rfl 8,au (H g rfl (F (.mk op z6 0 a' c' acc)) (σ'.acc [44]) _ (hk.sub hmA) (λ _=>by omega) h23) ?_⟩;rintro v w23 ⟨z,σ2,rfl,h24,m3,l3,rl3,ez⟩;refine⟨_,z.u,_,_,_,_,rfl,app (x:=.mk op z6 0 a' c' acc) (by show acc.length<=5000; omega) h24 λ a9 c9 w29 h29=>⟨σ2.1.length,by omega,n,acc++[z],_,a9,c9,σ2,_,rfl,λ _=>by omega,?_,by omega,λ y C=>hmA y (m3 y C),J,rl3,λ e=>?_,h29⟩⟩
   ·rw[aY,bS]; omega
   ·rw[bP,cV,ez e,ea he']
  | false =>
   rw[zM hb'] at I;have hbP:fO [44] Y.1 Y.2=false:=by rw[<- (rl'.acc [44]).2]; exact hb'
   have ef:iL (fU l g) n D Y=(D,Y):=by
    cases n with
    | zero=>rfl
    | succ n=>rw[iL,ah (by rw[hbP]; decide)]
   rw[ef] at J;refine cF rfl ⟨_,σ',I,hm',by omega,?_,λ e=>?_⟩
   ·rw[M,<- J]; exact rl'.exp _
   ·rw[M,<- J,<- ea (okz e),Xv.mQ]; rfl
 refine aU g23 ?_;have rl4:Rl (A.exp [44]) (s.2.exp [44]):=U.exp _;have m4:∀ y∈(A.exp [44]).1,y∈σ.1:=λ y C=>m1' y (vo y C);have l4:=rz [44] A
 by_cases g4:op=4
 ·have M:R=(.mk op (aZ l (s.2.exp [44])).1.1 (aZ l (s.2.exp [44])).1.2 none 0 [s.1],(aZ l (s.2.exp [44])).2.exp [41]):=by rw[eF,FB,ah g23,ak g4]
  refine cT (by simpa using g4) (au (mZ O [44]) ?_);rintro v w27 ⟨rfl,h27⟩;have h27:qE w0 w27 p (A.exp [44]) (F (.mk op z6 0 (qs r5) 1 [y])):=h27;refine⟨rfl,au (xV h27 hr ho (hk.sub m4)) ?_⟩;rintro v w28 ⟨u,n16,σ2,rfl,h28,k1,k2,k2',k3,S⟩;obtain⟨B2,t,bk⟩:=j0.out h28;have rp:=rl4.V2 l;refine⟨u,_,rfl,t.aB z6.vs.toArray λ r7 w29 t29=>t29.az 0 rfl u.vs rfl (I6.one _) λ w30 t30=>⟨u,t30.cellsIn 0 rfl,?_⟩⟩;refine t30.jO 1 1 rfl (Xv.mk op u 0 (qs r5) 1 [y]).cells.toArray (show 7<=9 by decide) (I6.one _) rfl λ w31 t31=>t31.aN 1 rfl (j:=7) (show 7<9 by decide) rfl λ w32 t32=>⟨.mk op u n16 (qs r5) 1 [y],σ2,bk (m':=V5 (.mk op u n16 (qs r5) 1 [y]) o r1 r2 r4) (St.second t32),λ y C=>m4 y (k2 y C),by omega,?_,λ e=>?_⟩
  ·rw[M]; exact(k3.trans rp.1).exp _
  ·have e0:=okz e;have k5:=(S e0).trans rp.2;have e1:A.2=0:=iK λ h=>by
    have h2:(A.exp [44]).2≠0:=by rw[jb h]; exact h
    have h3:σ2.2=(A.exp [44]).2:=by rw[k3.1,pW h2]
    rw[h3] at e0; exact h2 e0
   rw[M,Xv.mQ,<- ey e1,<- k5]; rfl
 ·have g5:op=5:=by omega
  have M:R=(.mk op z6 (gW 1000000 (s.2.exp [44]).1 (s.2.exp [44]).2) none 0 [s.1],((s.2.exp [44]).kJ 1000000).exp [41]):=by rw[eF,FB,ah g23,ah g4,ak g5]
  refine cF (by simpa using g4) (au (mZ O [44]) ?_);rintro v w33 ⟨rfl,h33⟩;have h33:qE w0 w33 p (A.exp [44]) (F (.mk op z6 0 (qs r5) 1 [y])):=h33;refine⟨rfl,au (AJ h33 1000000) ?_⟩;rintro v w34 ⟨rfl,h34⟩;have h34:qE w0 w34 p ((A.exp [44]).kJ 1000000) (F (.mk op z6 0 (qs r5) 1 [y])):=h34;obtain⟨B2,t,bk⟩:=j0.out h34;have rp:=rl4.kJ 1000000;have l5:((A.exp [44]).kJ 1000000).1.length<=(A.exp [44]).1.length:=wN _ _ _;refine⟨_,rfl,t.aN 0 rfl (j:=7) (show 7<9 by decide) rfl λ w35 t35=>⟨.mk op z6 (gW 1000000 (A.exp [44]).1 (A.exp [44]).2) (qs r5) 1 [y],(A.exp [44]).kJ 1000000,bk (m':=V5 (.mk op z6 (gW 1000000 (A.exp [44]).1 (A.exp [44]).2) (qs r5) 1 [y]) o r1 r2 r4) t35,λ y C=>m4 y (JP y C),by omega,?_,λ e=>?_⟩⟩
  ·rw[M]; exact rp.1.exp _
  ·have e0:=okz e;have e1:A.2=0:=iK λ h=>by
    have h2:(A.exp [44]).2≠0:=by rw[jb h]; exact h
    rw[(kS h2).1] at e0; exact h2 e0
   rw[M,Xv.mQ,<- ey e1,<- rp.2]; rfl
def SY(e:∀ {w'},aC w0 w' []->fS w' a l)(d:dH l):∀ f,Nb w0 p a c l f:=by
 intro f
 induction f with
 | zero=>exact AE e d λ g b=>by omega
 | succ f h=>exact AE e d λ g b=>by cases b; exact h
end
mutual
def kj:Xv->List Xv
 | .mk op u v a c args=>.mk op u v a c args :: SR args
def SR:List Xv->List Xv
 | []=>[]
 | x :: l=>kj x++SR l
end
theorem KE:∀ l:List Xv,SR l=l.flatMap kj
 | []=>rfl
 | x :: l=>by rw[SR,KE l]; rfl
def pV(x:Xv):kj x=x :: x.args.flatMap kj:=by cases x; rw[kj,KE]; rfl
def KF:∀ x,(kj x).length=bJ x:=Xv.ind λ x a=>by
 rw[pV,jz,gm,List.length_flatMap,vh]
 congr 2
 exact dz a
def V1:∀ (x:Xv) (w:af),x.In w->∀ y∈kj x,y.In w:=Xv.ind λ x d w b y a=>by
 rw[pV] at a;rcases cJ.1 a with rfl|a
 ·exact b
 ·obtain⟨z,c,a⟩:=iO.1 a;exact d z c w (b.sub z c) y a
def wX{α β:Type}(f:α->List β)(l:List α)(k:Nat):((l.take k).flatMap f).length<=(l.flatMap f).length:=by
 conv=>rhs; rw[<- JJ k l,uo,aY]
 omega
section
variable {S:Type}
def mG(step:S->Xv->S×Bool):List Xv->S->S×Bool
 | [],s=>(s,true)
 | y :: l,s=>if (step s y).2 then mG step l (step s y).1 else ((step s y).1,false)
theorem EC(step:S->Xv->S×Bool):∀ (l m:List Xv) (s:S),mG step (l++m) s=if (mG step l s).2 then mG step m (mG step l s).1 else mG step l s
 | [],m,s=>by rw[mG,ak rfl]; rfl
 | y :: l,m,s=>by
  rw[List.cons_append,mG,mG]
  split
  ·exact EC step l m _
  ·rfl
def wD(step:S->Xv->S×Bool):∀ (x:Xv) (s:S),dh step x s=mG step (kj x) s:=Xv.ind λ x f s=>by
 rw[nq,pV,mG]
 split
 ·have H:∀ (l:List Xv) (r:S×Bool),(∀ y∈l,∀ s,dh step y s=mG step (kj y) s)->jA step l r=if r.2 then mG step (l.flatMap kj) r.1 else r:=λ l=>by
   induction l with
   | nil =>
    intro r _;show r=_
    split
    ·rename_i h; rw[List.flatMap_nil,mG,<- h]
    ·rfl
   | cons y l b =>
    intro r c;have e:=b (if r.2 then dh step y r.1 else r) λ z d=>c z (by simp[d]);unfold jA at e ⊢;rw[fM,e,j5]
    by_cases a:r.2=true
    ·rw[ak a,ak a,c y (by simp),EC]
    ·rw[ah a,ah a,ah a]
  rw[H _ _ f,ak rfl]
 ·rfl
end
theorem AR:∀ (l:List Xv) (s:Unit),(mG sN l s).2=l.all λ y=>decide (y.args.length<=8)
 | [],_=>rfl
 | y :: l,s=>by
  rw[mG,og];show(if decide (y.args.length<=8)=true then _ else _:Unit×Bool).2=_
  cases h:decide (y.args.length<=8) with
  | true=>rw[ak rfl,AR l]; rfl
  | false=>rw[ah (by decide)]; rfl
abbrev Ky (y:Xv):Prop:=fJ y=true/\gy y=true
theorem I2:∀ (l:List Xv),(∀ y∈l,Ky y)->mG fI l 0=(0,true)
 | [],_=>rfl
 | y :: l,h=>by
  obtain⟨h1,h2⟩:=h y (by simp);have e:fI 0 y=(0,true):=by unfold fI mV; rw[h1,h2]; rfl
  rw[mG,e,ak rfl];exact I2 l λ z a=>h z (by simp[a])
def ED{l:List Xv}{k:Nat}{y:Xv}{e:Int}(h:∀ z∈l.take k,Ky z)(c:l[k]?=some y)(a:mV 0 y=e)(he:e≠0):(mG fI l 0).1=e:=by
 have b:=(aR.1 c).1;have d:l=l.take k++y :: l.drop (k+1):=by
  conv=>lhs; rw[<- JJ k l,jC b]
  congr 2
  exact qP ((gE b).symm.trans c)
 rw[d,EC,I2 _ h,ak rfl,mG];have f:(fI 0 y).2=false:=by unfold fI; rw[a]; exact aS.2 he
 show(if (fI 0 y).2=true then _ else ((fI 0 y).1,false):Int×Bool).1=e;rw[f,ah (by decide)]; exact a
def IT(w:af)(u:I6)(hu:I6.Le u 1000000):CP 306 #[.agg u.vs.toArray] w (λ r w'=>r=iv (tot u)/\aC w w' []):=by
 refine Oi.2.2.1 ?_;let c:I6:=⟨1,1,1,1,1,1⟩;have f:∀ k,k<6->c.at' k=1:=λ k d=>by
  match k,d with
  | 0,_|1,_|2,_|3,_|4,_|5,_=>rfl
 refine aG u.vs.toArray λ r1 g s1=>?_;refine⟨λ p n e m=>∃ k:Nat,n=k/\k<=6/\m=6-k/\p=Bw c u k/\0<=p/\p<=(k:Int)*1000000/\e=g,⟨6,0,rfl,by omega,by omega,rfl,by simp,by simp,rfl⟩,?_⟩;rintro e m p n ⟨k,rfl,d,hm,hp,h,h1,rfl⟩ -
 by_cases b:(k:Int)<6
 ·have a:k<6:=by omega
  have h2:=hu k a;refine aP b ⟨by omega,by omega,u.at' k,by rw[dM,aF s1 0 rfl a],6-(k+1),by omega,k+1,inc (by decide) a,by omega,rfl,?_,?_,?_,rfl⟩
  ·rw[cA (by omega),oM,f k a,hp]; omega
  ·rw[cA (by omega)]; omega
  ·rw[cA (by omega)]; omega
 ·obtain rfl:k=6:=by omega
  refine cF (by simp) ⟨?_,s1.av⟩;rw[hp,vz]; simp[cost,tot,c]
def IJ:∀ (x:Xv),bJ x<=100000->∀ w,x.In w->CP 250 #[.agg x.cells.toArray] w (λ r w'=>r=iv (ku x)/\aC w w' []):=Xv.ind λ x j s w f=>by
 refine @Gt _ x.u _ _ _ _ _ _ ?_;have p:=qY x;refine aG x.cells.toArray λ r1 l s1=>?_;refine⟨λ n i e m=>∃ k:Nat,i=k/\k<=x.args.length/\m=x.args.length-k/\n=(((x.args.take k).map ku).foldl Nat.max 0:Nat)/\aC l e [],⟨x.args.length,0,rfl,by omega,by omega,rfl,aC.refl _ _⟩,?_⟩;rintro e m n i ⟨k,rfl,o,hm,rfl,c2⟩ -;have s2:=s1.quiet c2;refine⟨_,_,_,s2.ag 0 rfl 8,?_⟩
 by_cases a:(k:Int)<(x.args.length:Int)
 ·obtain⟨y,c⟩:=bx x.args k (by omega);have hm:=bf c;obtain⟨q,g,b⟩:=(f.av s2.av).fl.at c;have h:=sj hm;refine aP a ⟨_,_,_,s2.ag 0 rfl 8,aq g ⟨by omega,by omega,_,y.u,_,_,_,_,b,au (j y hm (by omega) e ((f.av s2.av).sub y hm)) ?_⟩⟩;rintro v t ⟨rfl,c5⟩;refine⟨_,rfl,x.args.length-(k+1),by omega,k+1,cA (by omega),by omega,rfl,?_,c2.trans c5 (by simp)⟩;rw[aH c,bP,iJ];show _=((Nat.max _ (ku y):Nat):Int);generalize((x.args.take k).map ku).foldl Nat.max 0=d;have:Nat.max d (ku y)=if ku y>d then ku y else d:=by
   show max _ _=_;rw[Nat.max_def]
   split<;>split<;>omega
  rw[this]
  split<;>split<;>omega
 ·obtain rfl:k=x.args.length:=by omega
  have hd:=HW x;rw[pM] at hd;rw[br];refine aU a ⟨?_,s2.av⟩;rw[pM];generalize(x.args.map ku).foldl Nat.max 0=d at hd ⊢;rw[cA (by omega),vi]; rfl
def PB:∀ (x:Xv),bJ x<=100000->∀ w,x.In w->CP 251 #[.agg x.cells.toArray] w (λ r w'=>∃ a c,r=.slice a (kj x).length c/\St w w' (Sep [uX a c (kj x)])):=Xv.ind λ x E L w p=>by
 refine @Av _ x.u _ _ _ _ _ _ ?_;have K:=qY x;have j:=KF x;rw[pV,gm] at j;refine aG x.cells.toArray λ r1 M s1=>⟨_,x.u,_,_,_,_,s1.cellsIn 0 rfl,s1.aB x.cells.toArray λ r2 t s2=>?_⟩;have s2:St w t (Sep [uX (qs r2) 1 [x],aj r1 x.cells.toArray 120,emp]):=by
  have t17:St w t (star (uX (qs r2) 1 [x]) _):=St.weak s2 (bz.left (by
   have:=dO (r:=r2) (cs:=x.cells.toArray) (T:=120) (n:=1) (sz:=9) rfl (by decide);have e:x.cells.toArray.toList=[x].flatMap Xv.cells:=by simp
   rw[e] at this; exact this))
  exact t17
 refine⟨λ a3 l3 c3 i o m=>∃ k:Nat,i=k/\k<=x.args.length/\m=x.args.length-k/\l3=(x :: (x.args.take k).flatMap kj).length/\St w o (Sep [uX a3 c3 (x :: (x.args.take k).flatMap kj),aj r1 x.cells.toArray 120,emp]),⟨x.args.length,0,rfl,by omega,by omega,rfl,s2⟩,?_⟩;rintro o m a3 l3 c3 i ⟨k,rfl,J,hm,rfl,d⟩ -;refine⟨_,_,_,d.ag 1 rfl 8,?_⟩
 by_cases f:(k:Int)<(x.args.length:Int)
 ·obtain⟨y,l⟩:=bx x.args k (by omega);have b:=bf l;obtain⟨q,C,h⟩:=(p.av d.av).fl.at l;have D:=sj b;refine aP f ⟨_,_,_,d.ag 1 rfl 8,aq C ⟨by omega,by omega,_,y.u,_,_,_,_,h,au (E y b (by omega) o ((p.av d.av).sub y b)) ?_⟩⟩;rintro v H ⟨z,A,rfl,F⟩;have s:St w H (Sep [uX z A (kj y),uX a3 c3 (x :: (x.args.take k).flatMap kj),aj r1 x.cells.toArray 120,emp]):=d.and F.single;have g:(x.args.take (k+1)).flatMap kj=(x.args.take k).flatMap kj++kj y:=by rw[aH l,uo]; simp
  have B:=wX kj x.args (k+1);rw[g,aY] at B;refine⟨_,_,_,rfl,bQ P8 Xv.len Xv.one (s.out 1 rfl) (St.rd Xv.len (s.out 0 rfl)) (by rw[gm]; omega) (by rw[gm]; omega) λ I c8 N G=>?_⟩;refine jZ (by omega) ⟨by rw[g]; rfl,?_⟩;rw[g];exact(G.back (i:=1) (by show 1<4; decide)).ay [1,2,3]
 ·obtain rfl:k=x.args.length:=by omega
  rw[br,<- pV] at d ⊢;exact aU f ⟨a3,c3,rfl,d.ay [0]⟩
def Xp(n m:Nat):(((n:Nat):Int)==(m:Int))=(n==m):=by
 by_cases h:n=m
 ·subst h; simp
 ·rw[aS.2 h,aS.2 (show(n:Int)≠m by omega)]
def GI(w:af)(x:Xv):CP 252 #[.agg x.cells.toArray] w (λ r w'=>r=.bool (fJ x)/\aC w w' []):=by
 refine @Ej _ x.u _ _ _ _ _ _ ?_;refine aG x.cells.toArray λ r1 f s1=>⟨_,_,_,s1.ag 0 rfl 8,s1.aB z6.vs.toArray λ r2 e s2=>⟨_,s2.ag 1 rfl 0,?_⟩⟩
 by_cases h1:x.op=1
 ·exact cT (by simpa using h1) ⟨by rw[fJ,ak h1,<- Xp]; rfl,s2.av⟩
 refine cF (by simpa using h1) ⟨λ b d=>b=decide (x.op=2\/x.op=3)/\d=e,?_,?_⟩
 ·rintro d _ ⟨rfl,rfl⟩ -
  by_cases h2:x.op=2\/x.op=3
  ·have a:fJ x=(decide (1<=x.args.length)&&(decide (x.args.length<=8)&&(decide (x.u=z6)&&x.v==0))):=by rw[fJ,ah h1,ak h2]
   refine aP h2 ?_
   by_cases g1:1<=x.args.length
   ·rw[dT g1,bt] at a;refine aP (by omega) ?_
    by_cases g2:x.args.length<=8
    ·rw[dT g2,bt] at a;refine aP (by omega) ⟨x.u,s2.aQ 1 1 rfl rfl,z6,s2.cellsIn 0 rfl,?_⟩;rw[I6.beq_eq]
     by_cases g3:x.u=z6
     ·rw[dT g3,bt] at a;exact aP g3 ⟨_,s2.ag 1 rfl 7,by rw[a],s2.av⟩
     ·rw[dF g3] at a;exact aU g3 ⟨by rw[a]; rfl,s2.av⟩
    ·rw[dF g2] at a;exact aU (by omega) ⟨by rw[a]; rfl,s2.av⟩
   ·rw[dF g1] at a;exact aU (by omega) ⟨by rw[a]; rfl,s2.av⟩
  ·refine aU h2 ?_
   by_cases h4:x.op=4
   ·exact cT (by simpa using h4) ⟨by rw[fJ,ah h1,ah h2,ak h4,<- Xp]; rfl,s2.av⟩
   refine cF (by simpa using h4) ?_
   by_cases c:x.op=5
   ·have a:fJ x=(x.args.length==1&&decide (x.u=z6)):=by rw[fJ,ah h1,ah h2,ah h4,ak c]
    refine cT (by simpa using c) ?_
    by_cases g1:x.args.length=1
    ·refine cT (bH.2 (by omega)) ⟨x.u,s2.aQ 1 1 rfl rfl,z6,s2.cellsIn 0 rfl,?_,s2.av⟩;rw[a,g1,I6.beq_eq]; rfl
    ·refine cF (aS.2 (by omega)) ⟨?_,s2.av⟩;rw[a,aS.2 g1]; rfl
   ·exact cF (by simpa using c) ⟨by rw[fJ,ah h1,ah h2,ah h4,ah c],s2.av⟩
 ·by_cases g2:x.op=2
  ·exact cT (by simpa using g2) ⟨by rw[dT (Or.inl g2)]; simpa using g2,rfl⟩
  ·refine cF (by simpa using g2) ⟨?_,rfl⟩
   by_cases g3:x.op=3
   ·rw[dT (Or.inr g3)]; simpa using g3
   ·rw[dF (by rintro(h|h); exact g2 h; exact g3 h)]; simpa using g3
def GQ(w:af)(x:Xv):CP 253 #[.agg x.cells.toArray] w (λ r w'=>r=.bool (gy x)/\aC w w' []):=by
 refine @Em _ x.u _ _ _ _ _ _ ?_;refine aG x.cells.toArray λ r1 g s1=>?_;refine⟨λ b d=>b=decide (x.op=2\/x.op=3)/\d=g,?_,_,s1.ag 0 rfl 0,?_⟩
 ·rintro d _ ⟨rfl,rfl⟩ -
  by_cases h2:x.op=2\/x.op=3
  ·exact aP h2 ⟨by rw[gy,ak h2],s1.av⟩
  refine aU h2 ⟨λ b f=>b=decide (x.v<1\/x.v>1000000)/\f=d,?_,_,s1.ag 0 rfl 7,?_⟩
  ·rintro f _ ⟨rfl,rfl⟩ -
   by_cases h3:x.v<1\/x.v>1000000
   ·exact aP h3 ⟨by rw[gy,ah h2,ak h3],s1.av⟩
   refine aU h3 ⟨_,s1.ag 0 rfl 0,?_⟩
   by_cases a:x.op=5
   ·exact cT (by simpa using a) ⟨by rw[gy,ah h2,ah h3,ak a],s1.av⟩
   have e:gy x=(x.u.l.all iy&&decide (tot x.u>0)):=by rw[gy,ah h2,ah h3,ah a]
   refine cF (by simpa using a) ⟨x.u,s1.aQ 0 1 rfl rfl,au (ig _ x.u) ?_⟩;rintro v i ⟨rfl,c4⟩;have c:=s1.quiet c4;refine⟨_,rfl,?_⟩
   cases hq:x.u.l.all iy with
   | false=>exact cF rfl ⟨by rw[e,hq]; rfl,c.av⟩
   | true =>
    refine cT rfl ⟨x.u,c.aQ 0 1 rfl rfl,au (IT _ x.u (qg (Bl hq) (by omega))) ?_⟩;rintro v j ⟨rfl,c5⟩;refine⟨_,rfl,?_,(c.quiet c5).av⟩;rw[e,hq,bt]
    congr 1
  ·by_cases g1:x.v<1
   ·exact aP g1 ⟨by rw[dT (Or.inl g1)],rfl⟩
   ·refine aU g1 ⟨_,s1.ag 0 rfl 7,?_,rfl⟩
    by_cases g2:x.v>1000000
    ·rw[dT g2,dT (Or.inr g2)]
    ·rw[dF g2,dF (by rintro(h|h); exact g1 h; exact g2 h)]
 ·by_cases g2:x.op=2
  ·exact cT (by simpa using g2) ⟨by rw[dT (Or.inl g2)],rfl⟩
  ·refine cF (by simpa using g2) ⟨_,s1.ag 0 rfl 0,?_,rfl⟩
   by_cases g3:x.op=3
   ·rw[dT (Or.inr g3)]; simpa using g3
   ·rw[dF (by rintro(h|h); exact g2 h; exact g3 h)]; simpa using g3
def AA{w:af}{x:Xv}(c:bJ x<=100000)(A:x.In w):CP 193 #[.agg x.cells.toArray] w (λ r w'=>r=iv (fC x)/\aC w w' []):=by
 refine @Gs _ x.u _ _ _ _ _ _ ?_;refine aG x.cells.toArray λ r1 K s1=>⟨_,x.u,_,_,_,_,s1.cellsIn 0 rfl,au (IJ x c K (A.av s1.av)) ?_⟩;rintro v M ⟨rfl,c2⟩;have s2:=s1.quiet c2;refine⟨_,rfl,?_⟩
 by_cases hd:6<ku x
 ·exact aP (by omega) ⟨by rw[fC,ak hd],s2.av⟩
 have d:fC x=if (mG sN (kj x) ()).2=false\/40<(kj x).length then 3 else (mG fI (kj x) 0).1:=by rw[fC,ah hd,wD,wD,KF]
 refine aU (by omega) ⟨_,x.u,_,_,_,_,s2.cellsIn 0 rfl,au (PB x c M (A.av s2.av)) ?_⟩;rintro v C ⟨a4,c4,rfl,J⟩;have p:St w C (Sep [uX a4 c4 (kj x),aj r1 x.cells.toArray 120,emp]):=s2.and J.single;have H:=λ (w':af) (hc:aC w w' [])=>V1 x w' (A.av hc);rw[AR] at d;have g:cP 9 Xv.cells C a4 (kj x):=St.rd Xv.len (p.out 0 rfl);generalize O:kj x=L at *;refine⟨_,_,_,rfl,?_⟩
 by_cases j:40<L.length
 ·exact aP (by omega) ⟨by rw[d,ak (.inr j)],p.av⟩
 refine aU (by omega) ⟨λ i D m=>∃ k:Nat,i=k/\k<=L.length/\m=L.length-k/\(L.take k).all (λ y=>decide (y.args.length<=8))=true/\D=C,⟨L.length,0,rfl,by omega,by omega,rfl,rfl⟩,?_⟩;rintro D m i ⟨k,rfl,I,hm,ha,rfl⟩ -
 by_cases a:k<L.length
 ·have b:L[k]?=some (L[k]'a):=gE a;generalize L[k]'a=y at b;obtain⟨q,s,f⟩:=g.at b;refine aP (by omega) (aq s ⟨by omega,by omega,_,_,_,aM f 8 _ rfl,?_⟩)
  by_cases G:y.args.length<=8
  ·refine aU (by omega) (jZ (by omega) ⟨?_,rfl⟩);rw[aH b,lZ,ha]; simp[G]
  ·refine aP (by omega) ⟨?_,p.av⟩;rw[d,ak (.inl (nG.2 ⟨y,bf b,by simpa using G⟩))]
 ·obtain rfl:k=L.length:=by omega
  rw[br] at ha;rw[ha,ah (by rintro(h|h); cases h; exact j h)] at d;refine aU (by omega) ⟨λ i E m=>∃ k:Nat,i=k/\k<=L.length/\m=L.length-k/\(∀ y∈L.take k,Ky y)/\aC D E [],⟨L.length,0,rfl,by omega,by omega,by simp,aC.refl _ _⟩,?_⟩;rintro E m i ⟨k,rfl,I,hm,n,c5⟩ -;have B:=p.quiet c5
  by_cases a:k<L.length
  ·have b:L[k]?=some (L[k]'a):=gE a;generalize L[k]'a=y at b;obtain⟨q,s,f⟩:=(g.av c5).at b;refine aP (by omega) (aq s ⟨by omega,by omega,_,y.u,_,_,_,_,f,au (GI E y) ?_⟩);rintro v N ⟨rfl,o⟩;refine⟨_,rfl,?_⟩
   cases hf:fJ y with
   | false=>exact cT rfl ⟨by rw[d,ED n b (e:=2) (by unfold mV; rw[hf]; rfl) (by decide)],(B.quiet o).av⟩
   | true =>
    obtain⟨P,t,l⟩:=(g.av (c5.trans o (by simp))).at b;refine cF rfl (aq t ⟨by omega,by omega,_,y.u,_,_,_,_,l,au (GQ N y) ?_⟩);rintro v Q ⟨rfl,F⟩;refine⟨_,rfl,?_⟩
    cases hg:gy y with
    | false=>exact cT rfl ⟨by rw[d,ED n b (e:=4) (by unfold mV; rw[hf,hg]; rfl) (by decide)],((B.quiet o).quiet F).av⟩
    | true =>
     refine cF rfl (jZ (by omega) ⟨λ z c=>?_,(c5.trans o (by simp)).trans F (by simp)⟩);rw[aH b] at c;rcases aV.1 c with c|c
     ·exact n z c
     ·rw[bp.1 c]; exact⟨hf,hg⟩
  ·obtain rfl:k=L.length:=by omega
   rw[br] at n;exact aU (by omega) ⟨by rw[d,I2 _ n],B.av⟩
def O8{l:List UInt8}{n:Nat}{c:UInt8}(h:(de l n c).2=0):(de l n c).1.k≠0:=by
 unfold de at h ⊢
 split
 ·rename_i h1; rw[ak h1] at h
  split
  ·rename_i h2; rw[ak h2] at h; cases h
  ·exact(by decide:(1:Int)≠0)
 ·rename_i h1; rw[ah h1] at h
  split
  ·rename_i h2; rw[ak h2] at h
   split
   ·rename_i h3; rw[ak h3] at h; exact absurd h h3
   ·exact(by decide:(2:Int)≠0)
  ·rename_i h2; rw[ah h2] at h
   split
   ·exact(by decide:(3:Int)≠0)
   ·rename_i h3; rw[ah h3] at h; cases h
theorem ER(l:List UInt8):∀ (f n:Nat) (acc:List Tk),Kd acc->Kd (qc l f n acc).1
 | 0,_,_,h=>h
 | f+1,n,acc,h=>by
  rw[qc]
  cases hc:l[n]? with
  | none=>exact h
  | some c =>
   show Kd (if c=32 then qc l f (n+1) acc else if (de l n c).2≠0 then ([],(de l n c).2) else qc l f (n+(de l n c).1.t.length) (acc++[(de l n c).1])).1
   split
   ·exact ER l f _ _ h
   ·split
    ·exact λ x a=>by simp at a
    ·rename_i h2;refine ER l f _ _ λ x a=>?_;rcases aV.1 a with a|a
     ·exact h x a
     ·rw[bp.1 a]; exact O8 (iK h2)
def WT(l:List UInt8):Kd (bR l).1:=by
 unfold bR; split
 ·exact λ x a=>by simp at a
 ·exact ER l _ _ _ λ x a=>by simp at a
def Vf{a b:Sc}(h:Rl a b):pN a.1 a.2=pN b.1 b.2:=by
 rcases h.cases with rfl|⟨h1,h2,h3⟩
 ·rfl
 ·rw[pN,pN,ah (λ h=>h2 h.1),ah (λ h=>h1 h.1),h3]
def IN{w:af}{a:OA}{c:Nat}{l:List Pr}(F:fS w a l)(E:dH l)(t:List UInt8) :
  CP 146 #[.slice a l.length c,sv t] w (λ r w'=>∃ x:Xv,x.er=(bW l t).1/\r=.tuple #[.agg x.cells.toArray,iv (bW l t).2]/\St w w' (held x.In)):=by
 refine vJ.2.2.2.2.2.1 ?_;refine aG cI.cells.toArray λ r1 Y s1=>au (rU (F.av s1.av)) ?_;rintro v Z ⟨⟨rfl,d⟩,c2⟩;have d:=d.2 E;rw[d];have s2:=s1.quiet c2;have bad:∀ {k:Int} {w':af} {m:List aI} {i:Nat} {cs:Array Value},St w w' (Sep m)->m[i]?=some (aj r1 cs 120)->cs.size=9->bW l t=(cI,k) ->
   uP ⟨r1,0,none⟩ 0 cI.cells w' λ B=>∃ (n2:Int) (u1:I6) (n3:Int) (a2:OA) (l2 c2:Nat),aA B ⟨r1,0,none⟩ 0 (iv n2 :: u1.on [iv n3,.slice a2 l2 c2]) /\
    ∃ x:Xv,x.er=(bW l t).1/\Value.tuple #[.agg (iv n2 :: u1.on [iv n3,.slice a2 l2 c2]:List Value).toArray,iv k]=.tuple #[.agg x.cells.toArray,iv (bW l t).2]/\St w B (held x.In):=λ {k w' m i cs} s e O hp =>
  s.az i e cI.cells (by rw[O]; rfl) (Xv.one _) λ B I=>⟨_,z6,_,_,_,_,I.cellsIn (cs:=cI.cells.toArray) (T:=120) i (nK (gr e)),cI,by rw[hp,Be],by rw[hp]; rfl,((St.start' I.av).one.jx sO).first⟩
 refine⟨_,rfl,cF rfl (au (GS t) ?_)⟩;rintro v X ⟨a3,c3,rfl,P⟩;have z:St w X (Sep [dK 310 4 Tk.cells a3 c3 (bR t).1,aj r1 cI.cells.toArray 120,emp]):=s2.and P;have G:=Ld t;have q:=WT t;refine⟨_,_,_,_,rfl,?_⟩
 by_cases h1:(bR t).2=0
 rotate_left
 ·exact cT (by simpa using h1) (bad z (i:=1) rfl rfl (by rw[bW,ak h1]))
 have g:=(St.lQ z).1;refine cF (by simpa using h1) (z.aB #[.slice a3 (bR t).1.length c3,iv 0] λ r2 J Q=>?_);have M:qE w J r2 ((bR t).1,0) (Sep [aj r1 cI.cells.toArray 120,emp]) :=
  ⟨a3,c3,g,G,((((Q.ay [1,0,2,3]).qj (bn Tk.len)).ay [1,0,2,3]).split [_,_] |>.eqv (bX.right (bX.unit _)) |> St.cat)⟩
 refine au (SY (c:=c) (λ hc=>F.av hc) E ((bR t).1.length+1) _ ((bR t).1,0) J q (λ _=>Nat.lt_succ_self _) M) ?_;have j:=DR l ((bR t).1.length+1) ((bR t).1,0);have D:fz (fU l ((bR t).1.length+1)) ((bR t).1,0)=fU l ((bR t).1.length+1) ((bR t).1,0):=by rw[fz,ah (λ h=>h rfl)]
 rw[D];have b:bW l t=if pN (fU l ((bR t).1.length+1) ((bR t).1,0)).2.1 (fU l ((bR t).1.length+1) ((bR t).1,0)).2.2≠0 then (cI,pN (fU l ((bR t).1.length+1) ((bR t).1,0)).2.1 (fU l ((bR t).1.length+1) ((bR t).1,0)).2.2)
   else if fC (fU l ((bR t).1.length+1) ((bR t).1,0)).1≠0 then (cI,fC (fU l ((bR t).1.length+1) ((bR t).1,0)).1)
   else ((fU l ((bR t).1.length+1) ((bR t).1,0)).1,0):=by rw[bW,ah (by simpa using h1)]
 clear D;generalize fU l ((bR t).1.length+1) ((bR t).1,0)=R at j b ⊢;rintro v w7 ⟨x,σ',rfl,N,_,_,H,ex⟩;have L:=Vf H;refine⟨_,x.u,_,_,_,_,rfl,aG cI.cells.toArray λ r3 w8 S=>S.az 0 rfl x.cells rfl (Xv.one _) λ K U=>?_⟩;have C:qE w K r2 σ' (star (Sep [aj r3 x.cells.toArray 120,emp]) (star (held x.In) (Sep [aj r1 cI.cells.toArray 120,emp]))):=j0.add N U;have fl:St w K (Sep [aj r3 x.cells.toArray 120,emp,held x.In,aj r1 cI.cells.toArray 120,emp]):=by
  have t1:=j0.frame C;exact t1.eqv (bX.cat (m:=held x.In :: _) [_,_])
 refine au (S4 C) ?_;rintro v A ⟨rfl,rfl⟩;refine⟨_,rfl,?_⟩;rw[L]
 by_cases h2:pN R.2.1 R.2.2=0
 rotate_left
 ·rw[ak h2] at b;exact cT (by simpa using h2) (bad fl (i:=3) rfl rfl b)
 rw[ah (by simpa using h2)] at b;have o:R.2.2=0:=by
  unfold pN at h2
  split at h2
  ·cases h2
  ·exact h2
 have ex:=ex (by rw[H.1]; exact o);have y:bJ x<=100000:=by
  rw[<- EJ x,ex];have:(bR t).1.length<=4000:=G;simp only at j;omega
 have p:x.In A:=fl.bC 2 rfl;refine cF (by simpa using h2) ⟨_,x.u,_,_,_,_,fl.cellsIn 0 rfl,au (AA y p) ?_⟩;rintro v V ⟨rfl,n⟩;have t14:=fl.quiet n;have f:fC x=fC R.1:=by rw[<- ex,uv]
 refine⟨_,rfl,?_⟩
 by_cases h3:fC x=0
 ·rw[ah (by rw[<- f]; simpa using h3)] at b;exact cF (by simpa using h3) ⟨_,x.u,_,_,_,_,t14.cellsIn 0 rfl,t14.az 3 rfl x.cells rfl (Xv.one _) λ W t16=>⟨_,x.u,_,_,_,_,t16.cellsIn 3 rfl,x,by rw[b,ex],by rw[b]; rfl,(t16.out 2 rfl).first⟩⟩
 ·rw[ak (by rw[<- f]; exact h3),<- f] at b;exact cT (by simpa using h3) (bad t14 (i:=3) rfl rfl b)

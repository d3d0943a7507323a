import Derived.Test.YtjcfdidmajodiaaGreatDoorH15
set_option linter.unusedVariables false
set_option linter.defProp false
set_option maxRecDepth 100000
namespace Go.Proofs.YtjcfdidmajodiaaGreatDoor
open Go Go.Vc _root_.Go.Proofs.Tryz
def St.in2{w0 w:af}{A B H M:aI}(s:St w0 w (star A (star B (star H M)))):St w0 w (star H (star A (star B M))):=(s.eqv (bX.right bX.pY)).pY
def St.VX{w0 w:af}{A B H M:aI}(s:St w0 w (star H (star A (star B M)))):St w0 w (star H M):=s.pY.second.pY.second
section
variable {w0 w:af} {C:Ck} {M:List aI}
def wo(s:St w0 w (Sep (held C.bF :: M)))(d:C.dp.length<=1000) :
  CP 145 #[.agg C.cells.toArray] w (λ r w'=>∃ a:Ck,a.er=(hJ C).er/\a.s=C.s/\r=.agg a.cells.toArray/\St w0 w' (Sep (held a.bF :: M))):=by
 refine au (wg (St.pk (l:=[_]) s) d) ?_;rintro v w' ⟨b,h1,h2,rfl,c⟩;exact⟨_,rfl,b,h1,h2,rfl,St.Y0 (l:=[_]) c⟩
def Mw(s:St w0 w (Sep (held C.bF :: M)))(b:C.Ok) :
  CP 97 #[.agg C.cells.toArray] w (λ r w'=>∃ a:Ck,a.er=(if C.ov then C else sC C).er/\a.s=C.s/\(C.ov=true->a=C)/\r=.tuple #[.agg a.cells.toArray,iv (if C.ov then 10 else 0)]/\St w0 w' (Sep (held a.bF :: M))):=by
 refine(p6 rD).2.2.2.2.1 ?_;have q:=b.s.bd.l2; have z3:=b.dp;refine s.aB C.cells.toArray λ r1 t s1=>s1.aB cH λ r2 u s2=>⟨_,s2.ag 1 rfl 18,?_⟩
 cases hov:C.ov with
 | true=>exact cT rfl (Ex8<|Ex8<|⟨_,_,_,C.p,Ex8 ⟨_,_,s2.cellsIn 1 rfl,s2.az 0 rfl C.cells rfl C.one λ x c=>(Ex8<|Ex8<|⟨_,_,_,C.p,Ex8 ⟨_,_,c.cellsIn 0 rfl,C,rfl,rfl,λ _=>rfl,rfl,c.second.second⟩⟩)⟩⟩)
 | false =>
 let D:Ck:={ C with ov:=true };refine cF rfl (s2.aN 1 rfl (j:=18) (by show 18<19; decide) rfl λ f m=>?_);have n:St w0 f (Sep (aj r2 cH 87 :: aj r1 D.cells.toArray 87 :: held C.bF :: M)):=m;have d:St w0 f (Sep (held D.bF :: aj r2 cH 87 :: aj r1 D.cells.toArray 87 :: M)):=(St.in2 n).weak (bz.left (eI λ w h=>(⟨h.ask,h.bd,h.dp,h.cl,h.i,h.k⟩:D.bF w)));refine Ex8<|Ex8<|⟨_,_,_,D.p,Ex8 ⟨_,_,d.cellsIn 2 rfl,au (wo d (by show C.dp.length<=1000; omega)) ?_⟩⟩;rintro v y ⟨a,g,l,rfl,o⟩;refine Ex8<|Ex8<|⟨_,_,_,a.p,Ex8 ⟨_,_,rfl,o.az 1 rfl a.cells rfl a.one λ z e=>(Ex8<|Ex8<|⟨_,_,_,a.p,Ex8 ⟨_,_,e.cellsIn 1 rfl,a,g,l,λ h=>(by cases h),rfl,St.VX e⟩⟩)⟩⟩
set_option maxHeartbeats 2000000 in
theorem Ml(s:St w0 w (Sep (held C.bF :: M)))(hk:C.Ok){n:Nat}(hn:n<C.s.bd.length) :
  CP 100 #[.agg C.cells.toArray,iv n] w (λ r w'=>∃ y:Ck,y.er=(if C.dp.getD n false then C else jS C n).er/\y.s=C.s/\(C.dp.getD n false=true->y=C)/\r=.tuple #[.agg y.cells.toArray,iv (if C.dp.getD n false then 10 else 0)]/\St w0 w' (Sep (held y.bF :: M))):=by
 refine Uf.1 ?_;have h8:=hk.s.bd.l2; have z1:=hk.dp; have z2:=hk.ask; have z3:=hk.bd;refine s.aB C.cells.toArray λ r1 w1 s1=>s1.aB cH λ r2 w2 s2=>?_;have s2:St w0 w2 (Sep (aj r2 cH 87 :: aj r1 C.cells.toArray 87 :: held C.bF :: M)):=s2;refine⟨λ b H=>b=false/\H=w2,?_,aU (by omega) ⟨_,_,_,s2.ag 1 rfl 17,dF (by omega),rfl⟩⟩;rintro H b ⟨rfl,rfl⟩ -;have hr:C.bF H:=s2.bC 2 rfl;have Y:C.dp[n]?=some (C.dp.getD n false):=by rw[aJ,gE (by omega)]; rfl
 generalize C.dp.getD n false=x at Y;obtain⟨q,hq,J⟩:=hr.dp.at Y;refine cF rfl ⟨_,_,_,s2.ag 1 rfl 17,aq hq ⟨by omega,by omega,x,by rw[aD]; exact J.1,?_⟩⟩
 cases x with
 | true=>exact cT rfl (Ex8<|Ex8<|⟨_,_,_,C.p,Ex8 ⟨_,_,s2.cellsIn 1 rfl,s2.az 0 rfl C.cells rfl C.one λ H Z=>(Ex8<|Ex8<|⟨_,_,_,C.p,Ex8 ⟨_,_,Z.cellsIn 0 rfl,C,rfl,rfl,λ _=>rfl,rfl,Z.second.second⟩⟩)⟩⟩)
 | false =>
 refine cF rfl (s2.aB #[] λ r3 W D=>⟨_,_,_,D.ag 2 rfl 17,?_⟩);have D:St w0 W (star (gO (qs r3) 0 []) (Sep (aj r2 cH 87 :: aj r1 C.cells.toArray 87 :: held C.bF :: M))):=St.weak D (bz.left (dO (n:=0) (sz:=1) rfl (by decide)));have N:St w0 W (Sep (gO (qs r3) 0 [] :: aj r2 cH 87 :: aj r1 C.cells.toArray 87 :: held C.bF :: M)):=D;have h6:C.bF W:=N.bC 3 rfl;refine bQ (l:=[]) (l2:=C.dp) tS dj wO D h6.dp (by simp only[eY]; omega) (by simp only[eY]; omega) λ za zc w7 G=>?_;rw[lC] at G ⊢;have G:St w0 w7 (Sep (gO za zc C.dp :: aj r2 cH 87 :: aj r1 C.cells.toArray 87 :: held C.bF :: M)):=G;refine G.aN 2 rfl (j:=17) (by show 17<19; decide) rfl λ w8 s8=>s8.aB #[] λ r4 X E=>⟨_,_,_,E.ag 3 rfl 15,?_⟩;let z:Ck:={ C with za:=za,zc:=zc };have E:St w0 X (star (eV (qs r4) 0 []) (Sep (gO za zc C.dp :: aj r2 cH 87 :: aj r1 z.cells.toArray 87 :: held C.bF :: M))):=St.weak E (bz.left (dO (n:=0) (sz:=6) rfl (by decide)));have O:St w0 X (Sep (eV (qs r4) 0 [] :: gO za zc C.dp :: aj r2 cH 87 :: aj r1 z.cells.toArray 87 :: held C.bF :: M)):=E;have h9:C.bF X:=O.bC 4 rfl;refine Fc E h9.ask (by omega) λ xa xc P t=>?_;have t:St w0 P (Sep (eV xa xc C.ask :: gO za zc C.dp :: aj r2 cH 87 :: aj r1 z.cells.toArray 87 :: held C.bF :: M)):=t;refine t.aN 3 rfl (j:=15) (by show 15<19; decide) rfl λ w11 K=>K.aB #[] λ r5 u f=>⟨_,_,_,f.ag 4 rfl 16,?_⟩;let o:Ck:={ z with xa:=xa,xc:=xc };have f:St w0 u (star (gO (qs r5) 0 []) (Sep (eV xa xc C.ask :: gO za zc C.dp :: aj r2 cH 87 :: aj r1 o.cells.toArray 87 :: held C.bF :: M))):=St.weak f (bz.left (dO (n:=0) (sz:=1) rfl (by decide)));have A:St w0 u (Sep (gO (qs r5) 0 [] :: eV xa xc C.ask :: gO za zc C.dp :: aj r2 cH 87 :: aj r1 o.cells.toArray 87 :: held C.bF :: M)):=f;have I:C.bF u:=A.bC 5 rfl;refine bQ (l:=[]) (l2:=C.bd) tS dj wO f I.bd (by simp only[eY]; omega) (by simp only[eY]; omega) λ ya yc Q c=>?_;rw[lC] at c ⊢;have c:St w0 Q (Sep (gO ya yc C.bd :: eV xa xc C.ask :: gO za zc C.dp :: aj r2 cH 87 :: aj r1 o.cells.toArray 87 :: held C.bF :: M)):=c;obtain⟨g0,rfl⟩:=(c.out 0 rfl).iS (by omega);obtain⟨g1,rfl⟩:=(c.out 1 rfl).iS (by omega);obtain⟨g2,rfl⟩:=(c.out 2 rfl).iS (by omega);let a:Ck:={ jS C n with za:=qs g2,zc:=zc,xa:=qs g1,xc:=xc,ya:=qs g0,yc:=yc };have e2:o.dp.length=C.dp.length:=rfl;refine c.aN 4 rfl (j:=16) (by show 16<19; decide) rfl λ R g=>⟨_,_,_,g.ag 4 rfl 17,aq rfl ⟨by omega,by omega,?_⟩⟩;have eC:({ o with ya:=qs g0,yc:=yc }:Ck).cells=a.cells:=by simp[a,o,z,jS,Ck.cells]
 have g:St w0 R (Sep (gO (qs g0) yc C.bd :: eV (qs g1) xc C.ask :: gO (qs g2) zc C.dp :: aj r2 cH 87 :: aj r1 ({ o with ya:=qs g0,yc:=yc }:Ck).cells.toArray 87 :: held C.bF :: M)):=g;rw[eC] at g;rw[aD];refine St.gu (v:=.bool) (x:=true) rfl (g.out 2 rfl) (i:=n) (by omega) λ T d=>?_;have d:=d.back (i:=2) (l:=gO (qs g0) yc C.bd :: eV (qs g1) xc C.ask :: gO (qs g2) zc C.dp :: aj r2 cH 87 :: aj r1 a.cells.toArray 87 :: held C.bF :: M) (by simp);have d:St w0 T (Sep (gO (qs g0) yc C.bd :: eV (qs g1) xc C.ask :: gO (qs g2) zc (C.dp.set n true) :: aj r2 cH 87 :: aj r1 a.cells.toArray 87 :: held C.bF :: M)):=d;refine⟨qs g1,C.ask.length,xc,(d.ag 4 rfl 15).trans (by simp[a,jS,Ck.cells,I6.on]),aq rfl ⟨by omega,by omega,?_⟩⟩;refine St.su bE (x:=z6) z6.one (d.out 1 rfl) (i:=n) (by omega) λ U e=>?_;have e:=e.back (i:=1) (l:=gO (qs g0) yc C.bd :: eV (qs g1) xc C.ask :: gO (qs g2) zc (C.dp.set n true) :: aj r2 cH 87 :: aj r1 a.cells.toArray 87 :: held C.bF :: M) (by simp);have e:St w0 U (Sep (gO (qs g0) yc C.bd :: eV (qs g1) xc (C.ask.set n z6) :: gO (qs g2) zc (C.dp.set n true) :: aj r2 cH 87 :: aj r1 a.cells.toArray 87 :: held C.bF :: M)):=e;refine⟨qs g0,C.bd.length,yc,(e.ag 4 rfl 16).trans (by simp[a,jS,Ck.cells,I6.on]),aq rfl ⟨by omega,by omega,?_⟩⟩;refine St.gu (v:=.bool) (x:=false) rfl (e.out 0 rfl) (i:=n) (by omega) λ V m=>?_;have m:St w0 V (Sep (gO (qs g0) yc (C.bd.set n false) :: eV (qs g1) xc (C.ask.set n z6) :: gO (qs g2) zc (C.dp.set n true) :: aj r2 cH 87 :: aj r1 a.cells.toArray 87 :: held C.bF :: M)):=m;refine Ex8<|Ex8<|⟨_,_,_,a.p,Ex8 ⟨_,_,m.cellsIn 4 rfl,m.az 3 rfl a.cells rfl a.one λ F B=>(Ex8<|Ex8<|⟨_,_,_,a.p,Ex8 ⟨_,_,B.cellsIn 3 rfl,a,rfl,rfl,λ h=>(by cases h),rfl,?_⟩⟩)⟩⟩;have L:St w0 F (Sep (gO (qs g0) yc (C.bd.set n false) :: eV (qs g1) xc (C.ask.set n z6) :: gO (qs g2) zc (C.dp.set n true) :: aj r2 a.cells.toArray 87 :: aj r1 a.cells.toArray 87 :: held C.bF :: M)):=B;have t1:=L.fX (bn dj) (bn bE) (S:=λ w=>cP 1 bl w (qs g0) (C.bd.set n false)/\cP 6 I6.vs w (qs g1) (C.ask.set n z6)) λ w h1 h2=>⟨h1,h2⟩;have t2:=t1.fX (aW _) (bn dj) (S:=λ w=>(cP 1 bl w (qs g0) (C.bd.set n false)/\cP 6 I6.vs w (qs g1) (C.ask.set n z6))/\cP 1 bl w (qs g2) (C.dp.set n true)) λ w h1 h2=>⟨h1,h2⟩;have t3:St w0 F (Sep (held (λ w=>(cP 1 bl w (qs g0) (C.bd.set n false)/\cP 6 I6.vs w (qs g1) (C.ask.set n z6))/\cP 1 bl w (qs g2) (C.dp.set n true)) :: held C.bF :: M)):=St.VX t2;exact t3.fX (aW _) (aW _) λ w h1 h2=>(⟨h1.1.2,h1.1.1,h1.2,h2.cl,h2.i,h2.k⟩:a.bF w)
set_option maxHeartbeats 2000000 in
theorem IP(s:St w0 w (Sep (held C.bF :: M)))(hk:C.Ok)(r:Int) :
  CP 101 #[.agg C.cells.toArray,iv r] w (λ v w'=>∃ a:Ck,a.er=(if cU C r then C else e9 C r.toNat).er/\a.s=C.s/\(cU C r=true->a=C)/\v=.tuple #[.agg a.cells.toArray,iv (if cU C r then 4 else 0)]/\St w0 w' (Sep (held a.bF :: M))):=by
 refine Uf.2.1 ?_;have h8:=hk.s.bd.l2; have z1:=hk.dp; have hl:=hk.cl;refine s.aB C.cells.toArray λ r1 w1 s1=>s1.aB cH λ r2 P s2=>?_;have s2:St w0 P (Sep (aj r2 cH 87 :: aj r1 C.cells.toArray 87 :: held C.bF :: M)):=s2;refine⟨λ b B=>b=cU C r/\B=P,?_,?_⟩
 rotate_left
 ·by_cases g1:r<0
  ·exact aP g1 ⟨by rw[cU,dT g1]; rfl,rfl⟩
  refine aU g1 ⟨_,_,_,s2.ag 1 rfl 8,?_⟩
  by_cases g2:r>(C.cl.length:Int)
  ·exact aP g2 ⟨by rw[cU,dT g2]; simp,rfl⟩
  refine aU g2 ⟨_,_,_,s2.ag 1 rfl 8,?_⟩
  by_cases g3:r=(C.cl.length:Int)
  ·exact cT (by simpa using g3) ⟨_,s2.ag 1 rfl 18,by rw[cU,dF g1,dF g2,g3]; simp,rfl⟩
  ·exact cF (by simpa using g3) ⟨by rw[cU,dF g1,dF g2]; simp; exact λ h=>absurd h g3,rfl⟩
 rintro B b ⟨rfl,rfl⟩ -
 cases he:cU C r with
 | true=>exact cT rfl (Ex8<|Ex8<|⟨_,_,_,C.p,Ex8 ⟨_,_,s2.cellsIn 1 rfl,s2.az 0 rfl C.cells rfl C.one λ B N=>(Ex8<|Ex8<|⟨_,_,_,C.p,Ex8 ⟨_,_,N.cellsIn 0 rfl,C,rfl,rfl,λ _=>rfl,rfl,N.second.second⟩⟩)⟩⟩)
 | false =>
 have Y:0<=r/\r<=(C.cl.length:Int):=by
  simp only[cU,oF,iY] at he; omega
 obtain⟨n,rfl⟩:=vm Y.1;refine cF rfl ⟨λ Q=>∃ D:Ck,(hJ { D with ov:=false }).er=(e9 C n).er/\D.s=C.s/\D.dp=C.dp/\St w0 Q (Sep (aj r2 cH 87 :: aj r1 D.cells.toArray 87 :: held D.bF :: M)),?_,_,_,_,s2.ag 1 rfl 8,?_⟩
 ·rintro Q ⟨D,V,G,F,s5⟩ -;let E:Ck:={ D with ov:=false };refine s5.aN 1 rfl (j:=18) (by show 18<19; decide) rfl λ T J=>?_;have J:St w0 T (Sep (aj r2 cH 87 :: aj r1 E.cells.toArray 87 :: held D.bF :: M)):=J;have O:St w0 T (Sep (held E.bF :: aj r2 cH 87 :: aj r1 E.cells.toArray 87 :: M)):=(St.in2 J).weak (bz.left (eI λ w h=>(⟨h.ask,h.bd,h.dp,h.cl,h.i,h.k⟩:E.bF w)));refine Ex8<|Ex8<|⟨_,_,_,E.p,Ex8 ⟨_,_,O.cellsIn 2 rfl,au (wo O (by show D.dp.length<=1000; rw[F]; omega)) ?_⟩⟩;rintro v w7 ⟨a,U,W,rfl,s8⟩;exact Ex8<|Ex8<|⟨_,_,_,a.p,Ex8 ⟨_,_,rfl,s8.az 1 rfl a.cells rfl a.one λ w8 A=>(Ex8<|Ex8<|⟨_,_,_,a.p,Ex8 ⟨_,_,A.cellsIn 1 rfl,a,U.trans V,W.trans G,λ h=>(by cases h),rfl,St.VX A⟩⟩)⟩⟩
 by_cases u:(n:Int)<(C.cl.length:Int)
 rotate_left
 ·have hn:C.cl[n]?=none:=cr (by omega);exact aU u ⟨C,by rw[e9,hn]; rfl,rfl,rfl,s2⟩
 obtain⟨x,L⟩:=bx C.cl n (by omega);have hr:C.bF B:=s2.bC 2 rfl;obtain⟨q,hq,H⟩:=hr.cl.at L;obtain⟨x0,_⟩:=PS H;let o:Ck:={ C with p:=x.p };refine aP u ⟨_,_,_,s2.ag 1 rfl 8,aq hq ⟨by omega,by omega,x.p,by rw[aD]; exact x0,s2.jO 1 9 rfl o.cells.toArray (show 15<=19 by decide) x.p.one rfl λ w9 A=>A.aB #[] λ r3 m c=>?_⟩⟩;have c:St w0 m (star (Bo (qs r3) 0 []) (Sep (aj r2 cH 87 :: aj r1 o.cells.toArray 87 :: held C.bF :: M))):=St.weak c (bz.left (dO (n:=0) (sz:=9) rfl (by decide)));have f:St w0 m (Sep (Bo (qs r3) 0 [] :: aj r2 cH 87 :: aj r1 o.cells.toArray 87 :: held C.bF :: M)):=c;have t:C.bF m:=f.bC 3 rfl;have Z:=t.k;have el:(C.cl.take n).length=n:=by rw[di]; omega
 have X:o.kc=C.kc:=rfl;refine⟨_,_,_,f.ag 2 rfl 8,by omega,by omega,?_⟩;rw[UZ,aD,pI,pI];have ap:=KN (k:=C.kc) (l:=C.cl.take n) (R:=λ a' l' c' w'=>fL w' ⟨r1,8,none⟩ (.slice a' l' c') λ e=>∃ D:Ck,(hJ { D with ov:=false }).er=(e9 C n).er/\D.s=C.s/\D.dp=C.dp/\St w0 e (Sep (aj r2 cH 87 :: aj r1 D.cells.toArray 87 :: held D.bF :: M))) c (BM.take t.cl n) (by omega) λ a' c' K d=>?_
 ·rw[el] at ap;exact ap
 have d:St w0 K (Sep (Bo a' c' (C.cl.take n) :: aj r2 cH 87 :: aj r1 o.cells.toArray 87 :: held C.bF :: M)):=d;have I:(C.cl.take n).length<=c':=(o8 (d.out 0 rfl).rowOf).1;let z:Ck:={ o with cl:=C.cl.take n,ka:=a',kc:=c' };refine d.aN 2 rfl (j:=8) (by show 8<19; decide) rfl λ e g=>⟨z,by rw[e9,L]; rfl,rfl,rfl,?_⟩;have g:St w0 e (Sep (Bo a' c' (C.cl.take n) :: aj r2 cH 87 :: aj r1 z.cells.toArray 87 :: held C.bF :: M)):=g;have t1:St w0 e (Sep (held C.bF :: Bo a' c' (C.cl.take n) :: aj r2 cH 87 :: aj r1 z.cells.toArray 87 :: M)):=(g.eqv (bX.right (bX.right bX.pY))).eqv (bX.right bX.pY) |>.pY;have t2:=t1.fX (aW _) (bn Rn.len) (S:=z.bF) λ w h1 h2=>⟨h1.ask,h1.bd,h1.dp,h2,λ y hy=>h1.i y (eX hy),I⟩;exact(t2.pY).eqv (bX.right bX.pY)
end
def YC{S:Sx}(h:S.bd.length=8)(k:OA):S.cells.toArray.setIfInBounds 9 (.pointer k)=({ S with k:=k }:Sx).cells.toArray:=by
 obtain⟨o,ph,s,j,bd,dec,cnt,dig⟩:=S;obtain⟨a,b,c,d,e,f,g,i,rfl⟩:=fA h;rfl
def WL(S:Sx)(a:Se):(S.cells.toArray.toList.take 5++a.arr.toList++S.cells.toArray.toList.drop (5+a.arr.toList.length)).toArray=({ S with s:=a }:Sx).cells.toArray:=rfl
def lN(o:Po)(t:List UInt8):Int:=if ki o≠0 then ki o else lI t
section
variable {w0 w:af} {b:Nat} {S:Sx} {B:aI}
def Tz(s:St w0 w (Sep [aj b S.cells.toArray 125,B]))(h:S.bd.length=8){e:Ev}(E:e.text.length<=80000) :
  CP 78 #[.pointer (qs b),e.v] w (λ r w'=>r=iv (lN S.o e.text)/\(lN S.o e.text≠0->St w0 w' (Sep [aj b S.cells.toArray 125,B]))/\(lN S.o e.text=0->∃ (a:Se) (g:Nat) (C:Ck),a.er=(pX e.text).er/\a.Ok/\S.o.ok/\C.er=(kg a S.o).er/\St w0 w' (Sep (iT b { S with ph:=1,s:=a,k:=qs g } g C++[held a.In,B])))):=by
 refine @tT _ _ _ _ e.want _ _ _ _ ?_;refine s.aB e.cells.toArray λ r1 K s1=>?_;refine⟨_,_,_,_,s1.aQ (vs:=S.o.cells) 1 0 rfl rfl,au (xu K S.o) ?_⟩;rintro v M ⟨rfl,c2⟩;have s2:=s1.quiet c2;refine⟨_,rfl,?_⟩
 by_cases h1:ki S.o=0
 ·have l:lN S.o e.text=lI e.text:=by rw[lN,ah (λ h=>h h1)]
  refine cF (by simpa using h1) ⟨_,s2.ag 0 rfl 9,au (Qc M e.text E) ?_⟩;rintro v N ⟨a,i,rfl,F,p⟩;have H:St w0 N (Sep [held a.In,aj r1 e.cells.toArray 45,aj b S.cells.toArray 125,B]):=s2.and F;refine Ex8<|Ex4<|⟨_,_,rfl,H.aB dL.arr λ r2 P I=>I.az 0 rfl a.arr.toList rfl (by simp[Se.arr,Value.oneCell']) λ z m=>?_⟩;have m:St w0 z (Sep [aj r2 a.arr 73,held a.In,aj r1 e.cells.toArray 45,aj b S.cells.toArray 125,B]):=m
  by_cases h2:lI e.text=0
  ·obtain⟨D,t⟩:=p h2;have u:S.o.ok:=by
    unfold ki at h1
    by_cases g:S.o.ok
    ·exact g
    ·rw[ah g] at h1; cases h1
   have n:=m.quiet (aC.drew z []);refine cF (by simpa using h2) (Ex8<|Ex4<|⟨n.cellsIn (cs:=a.arr) 0 rfl,_,_,_,_,n.aQ (vs:=S.o.cells) 3 0 rfl rfl,au (XW (n.bC 1 rfl) t u) ?_⟩);rintro v O ⟨g,C,A,rfl,G⟩;have x:St w0 O (Sep (jR g C++[aj r2 a.arr 73,held a.In,aj r1 e.cells.toArray 45,aj b S.cells.toArray 125,B])):=St.cat (n.and G);refine⟨_,_,rfl,cF rfl (Ex8<|Ex4<|⟨x.cellsIn (cs:=a.arr) 6 rfl,?_⟩)⟩;have q:S.cells.toArray.size=101:=jg h;refine x.jO 9 5 rfl (vs:=a.arr.toList) ({ S with s:=a }:Sx).cells.toArray (by rw[q]; show 9<=101; decide) (by simp[Se.arr,Value.oneCell']) (WL S a) λ Q J=>?_;have c:({ S with s:=a }:Sx).bd.length=8:=h;refine J.aN 9 rfl (j:=9) (by show 9<({ S with s:=a }:Sx).cells.toArray.size; rw[jg c]; decide) rfl λ R y=>?_;rw[YC c] at y;have d:({ S with s:=a,k:=qs g }:Sx).bd.length=8:=h;refine y.aN 9 rfl (j:=4) (by show 4<({ S with s:=a,k:=qs g }:Sx).cells.toArray.size; rw[jg d]; decide) rfl λ L f=>?_;rw[He d] at f;refine⟨by rw[l,h2],λ h=>absurd (l.trans h2) h,λ _=>⟨a,g,C,D,t,u,A,?_⟩⟩;exact f.ay [9,0,1,2,3,4,5,7,10]
  ·exact cT (by simpa using h2) ⟨by rw[l],λ _=>m.ay [3,4],λ h=>absurd (l.symm.trans h) h2⟩
 ·exact cT (by simpa using h1) ⟨by rw[lN,ak h1],λ _=>s2.second,λ h=>absurd h (by rw[lN,ak h1]; exact h1)⟩
end
def jY(k:Int):FuncId:=if k=1 then 78 else if k=2 then 79 else if k=3\/k=4 then 80 else if k=5 then 81
 else if k=6 then 82 else if k=7 then 83 else if k=8 then 84 else 85
def N0(w:af)(b:Nat)(k:Int):CP 43 #[.pointer (qs b),iv k] w (λ r w'=>r=.func (.func (jY k)) #[] #[]/\w'=w):=by
 refine lM.2.2.2.2.2.1 ?_
 by_cases h1:k=1
 ·exact cT (by simpa using h1) ⟨by rw[jY,ak h1],rfl⟩
 refine cF (by simpa using h1) ?_
 by_cases h2:k=2
 ·exact cT (by simpa using h2) ⟨by rw[jY,ah h1,ak h2],rfl⟩
 refine cF (by simpa using h2) ⟨λ b f=>b=decide (k=3\/k=4)/\f=w,?_,?_⟩
 ·rintro f _ ⟨rfl,rfl⟩ -
  by_cases h3:k=3\/k=4
  ·exact aP h3 ⟨by rw[jY,ah h1,ah h2,ak h3],rfl⟩
  refine aU h3 ?_
  by_cases a:k=5
  ·exact cT (by simpa using a) ⟨by rw[jY,ah h1,ah h2,ah h3,ak a],rfl⟩
  refine cF (by simpa using a) ?_
  by_cases c:k=6
  ·exact cT (by simpa using c) ⟨by rw[jY,ah h1,ah h2,ah h3,ah a,ak c],rfl⟩
  refine cF (by simpa using c) ?_
  by_cases d:k=7
  ·exact cT (by simpa using d) ⟨by rw[jY,ah h1,ah h2,ah h3,ah a,ah c,ak d],rfl⟩
  refine cF (by simpa using d) ?_
  by_cases e:k=8
  ·exact cT (by simpa using e) ⟨by rw[jY,ah h1,ah h2,ah h3,ah a,ah c,ah d,ak e],rfl⟩
  ·exact cF (by simpa using e) ⟨by rw[jY,ah h1,ah h2,ah h3,ah a,ah c,ah d,ah e],rfl⟩
 ·by_cases g3:k=3
  ·exact cT (by simpa using g3) ⟨by rw[dT (Or.inl g3)]; simpa using g3,rfl⟩
  ·refine cF (by simpa using g3) ⟨?_,rfl⟩
   by_cases g4:k=4
   ·rw[dT (Or.inr g4)]; simpa using g4
   ·rw[dF (by omega)]; simpa using g4
def Hw:Br:=⟨[],0,0,0⟩
def cN(S:Sx)(C:Ck)(e:Ev):Int :=
 if e.kind=1 then lN S.o e.text
 else if e.kind=2 then gX C e.bidder.toNat (C.s.bd.getD e.bidder.toNat Hw) e.want
 else if e.kind=3\/e.kind=4 then (if C.ov then 10 else 0)
 else if e.kind=5 then fY S.s C e.bidder.toNat (S.s.bd.getD e.bidder.toNat Hw) e.text
 else if e.kind=6 then (if (S.bd.getD e.bidder.toNat dG).has then 0 else 6)
 else if e.kind=7 then (if C.dp.getD e.bidder.toNat false then 10 else 0)
 else if e.kind=8 then (if cU C e.round then 4 else 0) else 0
def bA(S:Sx)(C:Ck)(e:Ev):Sx :=
 if e.kind=1 then { S with ph:=1,s:=pX e.text }
 else if e.kind=2 then S
 else if e.kind=3 then (if eJ C then { S with ph:=2 } else S)
 else if e.kind=4 then { S with ph:=2 }
 else if e.kind=5 then qy S e.bidder.toNat (bW S.s.ps e.text).1
 else if e.kind=6 then cG S e.bidder.toNat
 else if e.kind=7 then cG (jj S e.bidder.toNat) e.bidder.toNat
 else if e.kind=8 then { dr S 8 with ph:=1 } else mA S e
def cw(S:Sx)(C:Ck)(e:Ev):Ck :=
 if e.kind=1 then kg (pX e.text) S.o
 else if e.kind=2 then oK C e.bidder.toNat e.want
 else if e.kind=3 then gZ C
 else if e.kind=4 then sC C
 else if e.kind=7 then jS C e.bidder.toNat
 else if e.kind=8 then e9 C e.round.toNat else C
def Jp:∀ x:Xv,x.er.er=x.er:=Xv.ind λ x b=>by
 rw[Xv.mQ x,Xv.er,Xv.H7]
 congr 1
 rw[eG];exact dz λ y a=>b y a
def Bd.er(y:Bd):Bd:={ y with x:=y.x.er }
def Sx.er(S:Sx):Sx:={ S with s:=S.s.er,k:=none,bd:=S.bd.map Bd.er }
def DB(y:Bd):y.er.er=y.er:=by show({ y with x:=y.x.er.er }:Bd)=_; rw[Jp]; rfl
def kn(S:Sx):S.er.er=S.er:=by
 show({ S.er with bd:=(S.bd.map Bd.er).map Bd.er }:Sx)=_;rw[eG,show(Bd.er ∘ Bd.er)=Bd.er from funext DB]; rfl
def QJ:dG.er=dG:=by show({ dG with x:=cI.er }:Bd)=_; rw[Be]; rfl
def sX(S:Sx)(n:Nat):S.er.bd.getD n dG=(S.bd.getD n dG).er:=by
 show(S.bd.map Bd.er).getD n dG=_;rw[aJ,aJ,dD]
 cases S.bd[n]? with
 | none=>exact QJ.symm
 | some y=>rfl
def uE{l:List Bd}{n:Nat}{y a:Bd}(h:y.er=a.er):((l.map Bd.er).set n y).map Bd.er=(l.set n a).map Bd.er:=by
 rw[lX,lX,eG,h,show(Bd.er ∘ Bd.er)=Bd.er from funext DB]
def xD(S:Sx)(n:Nat):(cG S.er n).er=(cG S n).er:=by
 have:((S.bd.map Bd.er).set n (B8 (S.er.bd.getD n dG))).map Bd.er=(S.bd.set n (B8 (S.bd.getD n dG))).map Bd.er:=uE (by rw[sX]; rfl);show({ S.er with bd:=((S.bd.map Bd.er).set n (B8 (S.er.bd.getD n dG))).map Bd.er }:Sx)=_;rw[this]; rfl
def Ph(S:Sx)(n:Nat):(jj S.er n).er=(jj S n).er:=by
 have:((S.bd.map Bd.er).set n { S.er.bd.getD n dG with out:=true }).map Bd.er=(S.bd.set n { S.bd.getD n dG with out:=true }).map Bd.er:=uE (by rw[sX]; exact DB { S.bd.getD n dG with out:=true });show({ S.er with bd:=((S.bd.map Bd.er).set n { S.er.bd.getD n dG with out:=true }).map Bd.er }:Sx)=_;rw[this]; rfl
def G3{S a:Sx}(h:a.er=S.er)(n:Nat):(cG a n).er=(cG S n).er:=by rw[<- xD a,h,xD]
theorem CS{S a:Sx}(h:a.er=S.er):∀ k,(dr a k).er=(dr S k).er
 | 0=>h
 | k+1=>G3 (CS h k) k
def KC{S a:Sx}(h:a.er=S.er)(x:Int):({ a with ph:=x }:Sx).er=({ S with ph:=x }:Sx).er:=by
 show({ a.er with ph:=x }:Sx)={ S.er with ph:=x };rw[h]
def Rf(S:Sx)(n:Nat)(x:Xv):(qy S.er n x).er=(qy S n x).er:=by
 have:((S.bd.map Bd.er).set n { S.er.bd.getD n dG with x:=x,has:=true }).map Bd.er=(S.bd.set n { S.bd.getD n dG with x:=x,has:=true }).map Bd.er:=uE (by rw[sX]; rfl);show({ S.er with bd:=((S.bd.map Bd.er).set n { S.er.bd.getD n dG with x:=x,has:=true }).map Bd.er }:Sx)=_;rw[this]; rfl
def US{S:Sx}{n:Nat}{x a:Xv}(h:x.er=a.er):(qy S n x).er=(qy S n a).er:=by
 have:(S.bd.set n { S.bd.getD n dG with x:=x,has:=true }).map Bd.er=(S.bd.set n { S.bd.getD n dG with x:=a,has:=true }).map Bd.er:=by
  rw[lX,lX]
  congr 1
  show({ S.bd.getD n dG with x:=x.er,has:=true }:Bd)={ S.bd.getD n dG with x:=a.er,has:=true };rw[h]
 show({ S.er with bd:=(S.bd.set n { S.bd.getD n dG with x:=x,has:=true }).map Bd.er }:Sx)=_;rw[this]; rfl
def DL(S:Sx)(C:Ck)(e:Ev):cN S.er C.er e=cN S C e:=by
 have h1:(S.er.bd.getD e.bidder.toNat dG).has=(S.bd.getD e.bidder.toNat dG).has:=by rw[sX]; rfl
 unfold cN;rw[h1,Rc,MC];show(if _ then _ else if _ then _ else if _ then _ else if _ then fY S.s.er C.er _ _ _ else _)=_;rw[O6]; rfl
def DM(S:Sx)(C:Ck)(e:Ev):(bA S.er C.er e).er=(bA S C e).er:=by
 unfold bA;rw[Kh]
 split
 ·show({ S.er.er with ph:=1,s:=(pX e.text).er }:Sx)={ S.er with ph:=1,s:=(pX e.text).er };rw[kn]
 ·split
  ·exact kn S
  ·split
   ·split
    ·exact KC (kn S) 2
    ·exact kn S
   ·split
    ·exact KC (kn S) 2
    ·split
     ·exact Rf S _ _
     ·split
      ·exact xD S _
      ·split
       ·exact G3 (Ph S _) _
       ·split
        ·exact KC (CS (kn S) 8) 1
        ·unfold mA
         split
         ·show({ S.er.er with ph:=4,dec:=e.digest }:Sx)={ S.er with ph:=4,dec:=e.digest };rw[kn]
         ·exact KC (kn S) 3
def y5(S:Sx)(C:Ck)(e:Ev):(cw S.er C.er e).er=(cw S C e).er:=by
 unfold cw
 split
 ·rfl
 ·split
  ·exact Re C _ _
  ·split
   ·exact NN C
   ·split
    ·exact TE C
    ·split
     ·exact NW C _
     ·split
      ·exact PN C _
      ·exact J6 C
def Lp(S:Sx)(w:af):Prop:=S.s.In w/\∀ y∈S.bd,y.x.In w
structure uq (S:Sx) (C:Ck) (w:af):Prop where
 h:Lp S w
 k:∀ q,S.k=some q->∃ g,q=⟨g,0,none⟩/\C.Rd g w
structure BL (S:Sx) (C:Ck):Prop where
 b8:S.bd.length=8
 ph:0<=S.ph/\S.ph<=4
 z:S.ph=0->S.s.er=dL
 c:S.ph≠0->C.Inv
 cs:S.ph≠0->C.s.er=S.s.er
 so:S.ph≠0->S.s.Ok
 cnt:0<=S.cnt/\S.cnt<=600
 dig:0<=S.dig/\S.dig<18446744073709551616
 x:∀ y∈S.bd,y.has=true->fC y.x=0
def QK(S:Sx):Prop:=(S.ph=0->S.k=none)/\(S.ph≠0->∃ g,S.k=qs g)
def vq{S a:Se}(e:a.er=S.er):a.bd=S.bd:=show a.er.bd=S.er.bd from congrArg Se.bd e
def K0{S a:Se}(e:a.er=S.er)(h:S.Ok):a.Ok:=by
 have h2:S.er.Ok:=⟨h.ps,h.bd,h.cp,h.sa⟩;rw[<- e] at h2;exact⟨h2.ps,h2.bd,h2.cp,h2.sa⟩
def getD_at{α:Type}{l:List α}{n:Nat}{d:α}(h:n<l.length):l[n]?=some (l.getD n d):=by rw[aJ,gE h]; rfl
def tj{S:Sx}{n:Nat}{y:Bd}(h:y∈(cG S n).bd):y∈S.bd\/(y.x=cI/\y.has=false):=by
 rcases lY h with h|rfl
 ·exact .inl h
 ·exact .inr ⟨rfl,rfl⟩
theorem uF{S:Sx}{y:Bd}:∀ k,y∈(dr S k).bd->y∈S.bd\/(y.x=cI/\y.has=false)
 | 0,h=>.inl h
 | k+1,h=>(tj h).elim (uF k) .inr
def Km{S:Sx}{n:Nat}{y:Bd}(a:n<S.bd.length)(h:y∈(jj S n).bd):∃ z∈S.bd,y.x=z.x/\y.has=z.has:=by
 rcases lY h with h|rfl
 ·exact⟨y,h,rfl,rfl⟩
 ·exact⟨S.bd.getD n dG,bf (getD_at a),rfl,rfl⟩
section
variable {w0 w:af} {b g:Nat} {S:Sx} {C:Ck} {B:aI}
def lq{Q:af->Prop}(s:St w0 w (Sep (iT b S g C++[held Q,B])))(c:S.k=qs g)(hQ:∀ w,Q w->Lp S w):St w0 w (Sep [aj b S.cells.toArray 125,held (uq S C),B]):=by
 have s1:St w0 w (Sep (jR g C++[held Q,aj b S.cells.toArray 125,B])):=s.ay [1,2,3,4,5,6,7,0,8];have s2:St w0 w (Sep (Sep (jR g C) :: held Q :: [aj b S.cells.toArray 125,B])):=s1.split _;have d:=s2.fX (S:=uq S C) zX (aW Q) (λ w h1 h2=>⟨hQ w h2,λ q a=>by rw[c] at a; cases a; exact⟨g,rfl,h1⟩⟩);exact d.ay [1,0,2]
def UI(w0:af)(b:Nat)(S:Sx)(C:Ck)(e:Ev)(Q:af->Prop)(B:aI):KP:=λ r w'=>r=iv (cN S C e) /\
 (cN S C e≠0->∃ X:Sx,X.bd.length=8/\St w0 w' (Sep [aj b X.cells.toArray 125,held Q,B])) /\
 (cN S C e=0->∃ (a:Sx) (c:Ck),a.er=(bA S C e).er/\c.er=(cw S C e).er/\(∃ g,a.k=qs g)/\St w0 w' (Sep [aj b a.cells.toArray 125,held (uq a c),B]))
def U8{Q:af->Prop}(hQ:∀ w,Q w->Lp S w)(s:St w0 w (Sep [aj b S.cells.toArray 125,held Q,B]))(j:S.bd.length=8){e:Ev}(he:e.W7)(h1:e.kind=1) :
  Calls prog (jY e.kind) #[pt b,e.v] w (yd (UI w0 b S C e Q B)):=by
 have n:jY e.kind=78:=by rw[jY,ak h1]
 have i:cN S C e=lN S.o e.text:=by rw[cN,ak h1]
 rw[n];have s1:St w0 w (Sep [aj b S.cells.toArray 125,Sep [held Q,B]]):=s.eqv (bX.right (bX.unit _));refine au (Tz s1 j (by have:=he.t; omega)) ?_;rintro v l ⟨rfl,r,u⟩;refine⟨_,rfl,by rw[i],λ h=>⟨S,j,?_⟩,λ h=>?_⟩
 ·have:=(r (by rw[<- i]; exact h)).iE [_];exact this
 ·obtain⟨a,g,d,f,A,D,m,s2⟩:=u (by rw[<- i]; exact h);let c:Sx:={ S with ph:=1,s:=a,k:=qs g };have x:St w0 l (Sep (iT b c g d++[held a.In,held Q,B])):=s2.iE [_,_,_,_,_,_,_,_];have y:=(x.ay [7,8,0,1,2,3,4,5,6,9]).fX (S:=Lp c) (aW _) (aW _) (λ w h1 h2=>⟨h1,(hQ w h2).2⟩);have z:St w0 l (Sep (iT b c g d++[held (Lp c),B])):=y.ay [1,2,3,4,5,6,7,0,8];refine⟨c,d,?_,?_,⟨g,rfl⟩,lq z rfl λ w h=>h⟩
  ·rw[bA,ak h1];show({ S.er with ph:=1,s:=a.er }:Sx)={ S.er with ph:=1,s:=(pX e.text).er };rw[f]
  ·rw[cw,ak h1,m];have q:=vq f;show({ s:=a.er,o:=S.o,cl:=[],p:=gw a.er.ps,ask:=List.replicate a.bd.length z6,bd:=List.replicate a.bd.length false,dp:=List.replicate a.bd.length false,ov:=false,ka:=none,kc:=0,xa:=none,xc:=0,ya:=none,yc:=0,za:=none,zc:=0 }:Ck)=_;rw[q,f]; rfl
def U9{Q:af->Prop}(hQ:∀ w,Q w->Lp S w)(s:St w0 w (Sep (iT b S g C++[held Q,B])))(F:BL S C)(O:S.ph≠0)(j:S.k=qs g){e:Ev}(he:e.W7)(hp:dx e.kind S.ph=true)(R:cE e.kind=true->e.bidder<S.s.bd.length) :
  Calls prog (jY e.kind) #[pt b,e.v] w (yd (UI w0 b S C e Q B)):=by
 have u:=F.b8;have hC:=(F.c O).ok;have W:=F.so O;have I:=vq (F.cs O);have hb8:=W.bd.l2;have n1:e.kind≠1:=λ h=>by
  rw[h] at hp;have:dx 1 S.ph=(S.ph==0):=by rw[dx,ak rfl]
  rw[this] at hp; exact O (by simpa using hp)
 have pP:St w0 w (Sep (iT b S g C++[Sep [held Q,B]])):=St.cat ((s.split (iT b S g C)).eqv (bX.right (bX.unit _)));have l:∀ {w':af} {o:Sx} {H:Ck},St w0 w' (Sep (iT b o g H++[Sep [held Q,B]]))->St w0 w' (Sep (iT b o g H++[held Q,B])):=λ s=>s.iE [_,_,_,_,_,_,_];have boxed:∀ {w':af} {o:Sx} {H:Ck},St w0 w' (Sep (iT b o g H++[held Q,B]))->St w0 w' (Sep [aj b o.cells.toArray 125,held Q,B]):=λ s=>s.ay [0,7,8];have Z:0<=e.bidder:=he.b.1;have N:e.bidder=(e.bidder.toNat:Int):=(j4 Z).symm
 by_cases h2:e.kind=2
 ·have J:=R (by rw[cE,dT (Or.inl h2)]);have q:jY e.kind=79:=by rw[jY,ah n1,ak h2]
  have f:cN S C e=gX C e.bidder.toNat (C.s.bd.getD e.bidder.toNat Hw) e.want:=by rw[cN,ah n1,ak h2]
  have D:bA S C e=S:=by rw[bA,ah n1,ak h2]
  have A:cw S C e=oK C e.bidder.toNat e.want:=by rw[cw,ah n1,ak h2]
  rw[q];refine au (MK pP u j hC N (getD_at (d:=Hw) (by rw[I]; omega))) ?_;rintro v G ⟨rfl,s1⟩;refine⟨_,rfl,by rw[f],λ h=>⟨S,u,boxed (l s1)⟩,λ h=>?_⟩;rw[f] at h;rw[ak h] at s1;exact⟨S,oK C e.bidder.toNat e.want,by rw[D],by rw[A],⟨g,j⟩,lq (l s1) j hQ⟩
 by_cases a:e.kind=3\/e.kind=4
 ·have q:jY e.kind=80:=by rw[jY,ah n1,ah h2,ak a]
  have f:cN S C e=if C.ov then 10 else 0:=by rw[cN,ah n1,ah h2,ak a]
  rw[q];refine au (Qe pP u j hC e) ?_;rintro v G ⟨x,o,H,rfl,i,M,hx,V,s1⟩;refine⟨_,rfl,by rw[f,hx],λ h=>⟨o,i,boxed (l s1)⟩,λ h=>?_⟩;have ho:C.ov=false:=by
   cases hv:C.ov with
   | false=>rfl
   | true=>rw[f,hv] at h; cases h
  obtain⟨c1,c2⟩:=V ho;refine⟨o,H,?_,?_,⟨g,M.trans j⟩,lq (l s1) (M.trans j) λ w h=>?_⟩
  ·rw[bA,ah n1,ah h2,c2]
   by_cases h3:e.kind=3
   ·rw[ak h3,ak h3]
   ·rw[ah h3,ah h3,ak (a.resolve_left h3)]; rfl
  ·rw[cw,ah n1,ah h2,c1]
   by_cases h3:e.kind=3
   ·rw[ak h3,ak h3]
   ·rw[ah h3,ah h3,ak (a.resolve_left h3)]
  ·have:o.s=S.s/\o.bd=S.bd:=by
    rw[c2];constructor<;>(repeat' split)<;>rfl
   unfold Lp;rw[this.1,this.2]; exact hQ w h
 have n3:e.kind≠3:=λ h=>a (.inl h);have n4:e.kind≠4:=λ h=>a (.inr h)
 by_cases m:e.kind=5
 ·have J:=R (by rw[cE,dT (Or.inr (Or.inl m))]);have q:jY e.kind=81:=by rw[jY,ah n1,ah h2,ah a,ak m]
  have f:cN S C e=fY S.s C e.bidder.toNat (S.s.bd.getD e.bidder.toNat Hw) e.text:=by rw[cN,ah n1,ah h2,ah a,ak m]
  have D:bA S C e=qy S e.bidder.toNat (bW S.s.ps e.text).1:=by rw[bA,ah n1,ah h2,ah n3,ah n4,ak m]
  have A:cw S C e=C:=by rw[cw,ah n1,ah h2,ah n3,ah n4,ah (by omega),ah (by omega)]
  rw[q];refine au (Wo (Q:=Q) (λ w h=>(hQ w h).1) s u j hC W N (by rw[I]; omega) (getD_at (d:=Hw) (by omega))) ?_;rintro v G ⟨rfl,k1,k2⟩;refine⟨_,rfl,by rw[f],λ h=>⟨S,u,boxed (k1 (by rw[<- f]; exact h))⟩,λ h=>?_⟩;obtain⟨x,ex,s1⟩:=k2 (by rw[<- f]; exact h);have s2:=(s1.ay [7,8,0,1,2,3,4,5,6,9]).fX (S:=Lp (qy S e.bidder.toNat x)) (aW _) (aW _) (λ w h1 h2=>⟨(hQ w h1).1,λ y p=>by
   rcases lY p with p|rfl
   ·exact(hQ w h1).2 y p
   ·exact h2⟩)
  have s3:St w0 G (Sep (iT b (qy S e.bidder.toNat x) g C++[held (Lp (qy S e.bidder.toNat x)),B])):=s2.ay [1,2,3,4,5,6,7,0,8];refine⟨qy S e.bidder.toNat x,C,by rw[D]; exact US (by rw[<- ex,Jp]),by rw[A],⟨g,j⟩,lq s3 j λ w h=>h⟩
 have n:∀ {o:Sx} {w:af},o.s=S.s->(∀ y∈o.bd,y∈S.bd\/(y.x=cI/\y.has=false))->Q w->Lp o w:=λ T Y h=>⟨by rw[T]; exact(hQ _ h).1,λ y p=>by
  rcases Y y p with h1|⟨h1,_⟩
  ·exact(hQ _ h).2 y h1
  ·rw[h1]; exact sO _⟩
 have X:St w0 w (Sep (aj b S.cells.toArray 125 :: (jR g C++[held Q,B]))):=s
 by_cases r:e.kind=6
 ·have J:=R (by rw[cE,dT (Or.inr (Or.inr (Or.inl r)))]);have q:jY e.kind=82:=by rw[jY,ah n1,ah h2,ah a,ah m,ak r]
  have f:cN S C e=if (S.bd.getD e.bidder.toNat dG).has then 0 else 6:=by rw[cN,ah n1,ah h2,ah a,ah m,ak r]
  have D:bA S C e=cG S e.bidder.toNat:=by rw[bA,ah n1,ah h2,ah n3,ah n4,ah m,ak r]
  have A:cw S C e=C:=by rw[cw,ah n1,ah h2,ah n3,ah n4,ah (by omega),ah (by omega)]
  rw[q];refine au (Jm X u (by omega) N) ?_;rintro v G (⟨L,rfl,s1⟩|⟨L,rfl,s1⟩)
  ·exact⟨_,rfl,by rw[f,L]; rfl,λ _=>⟨S,u,boxed s1⟩,λ h=>by rw[f,L] at h; cases h⟩
  ·refine⟨_,rfl,by rw[f,L]; rfl,λ h=>absurd (by rw[f,L]; rfl) h,λ _=>⟨cG S e.bidder.toNat,C,by rw[D],by rw[A],⟨g,j⟩,lq (show St w0 G (Sep (iT b (cG S e.bidder.toNat) g C++[held Q,B])) from s1) j λ w h=>n rfl (λ y p=>tj p) h⟩⟩
 by_cases t:e.kind=7
 ·have J:=R (by rw[cE,dT (Or.inr (Or.inr (Or.inr t)))]);have q:jY e.kind=83:=by rw[jY,ah n1,ah h2,ah a,ah m,ah r,ak t]
  have f:cN S C e=if C.dp.getD e.bidder.toNat false then 10 else 0:=by rw[cN,ah n1,ah h2,ah a,ah m,ah r,ak t]
  have D:bA S C e=cG (jj S e.bidder.toNat) e.bidder.toNat:=by rw[bA,ah n1,ah h2,ah n3,ah n4,ah m,ah r,ak t]
  have A:cw S C e=jS C e.bidder.toNat:=by rw[cw,ah n1,ah h2,ah n3,ah n4,ak t]
  have E:∀ {v:Bool},C.dp[e.bidder.toNat]?=some v->C.dp.getD e.bidder.toNat false=v:=λ h=>by rw[aJ,h]; rfl
  rw[q];refine au (Tt pP u j hC N (by rw[I]; omega)) ?_;have hq:∀ w,Q w->Lp (cG (jj S e.bidder.toNat) e.bidder.toNat) w:=λ w h=>⟨(hQ w h).1,λ y p=>by
   rcases tj p with h1|⟨h1,_⟩
   ·obtain⟨z,hz,T,_⟩:=Km (by omega) h1;rw[T]; exact(hQ w h).2 z hz
   ·rw[h1]; exact sO _⟩
  rintro v G (⟨hd,rfl,s1⟩|⟨hd,rfl,s1⟩)
  ·exact⟨_,rfl,by rw[f,E hd]; rfl,λ _=>⟨_,by simp[cG,jj,u],boxed (l s1)⟩,λ h=>by rw[f,E hd] at h; cases h⟩
  ·exact⟨_,rfl,by rw[f,E hd]; rfl,λ h=>absurd (by rw[f,E hd]; rfl) h,λ _=>⟨cG (jj S e.bidder.toNat) e.bidder.toNat,_,by rw[D],by rw[A],⟨g,j⟩,lq (l s1) j hq⟩⟩
 by_cases i:e.kind=8
 ·have q:jY e.kind=84:=by rw[jY,ah n1,ah h2,ah a,ah m,ah r,ah t,ak i]
  have f:cN S C e=if cU C e.round then 4 else 0:=by rw[cN,ah n1,ah h2,ah a,ah m,ah r,ah t,ak i]
  have D:bA S C e={ dr S 8 with ph:=1 }:=by rw[bA,ah n1,ah h2,ah n3,ah n4,ah m,ah r,ah t,ak i]
  have A:cw S C e=e9 C e.round.toNat:=by rw[cw,ah n1,ah h2,ah n3,ah n4,ah t,ak i]
  have K:∀ k,(dr S k).k=S.k/\(dr S k).s=S.s:=λ k=>by
   induction k with
   | zero=>exact⟨rfl,rfl⟩
   | succ k ih=>exact ih
  rw[q];refine au (Qd pP u j hC e) ?_;rintro v G (⟨hd,rfl,s1⟩|⟨hd,rfl,H,U,s1⟩)
  ·exact⟨_,rfl,by rw[f,hd]; rfl,λ _=>⟨S,u,boxed (l s1)⟩,λ h=>by rw[f,hd] at h; cases h⟩
  ·exact⟨_,rfl,by rw[f,hd]; rfl,λ h=>absurd (by rw[f,hd]; rfl) h,λ _=>⟨{ dr S 8 with ph:=1 },H,by rw[D],by rw[A,U],⟨g,(K 8).1.trans j⟩,lq (l s1) ((K 8).1.trans j) λ w h=>n (K 8).2 (λ y p=>uF 8 p) h⟩⟩
 ·have q:jY e.kind=85:=by rw[jY,ah n1,ah h2,ah a,ah m,ah r,ah t,ah i]
  have f:cN S C e=0:=by rw[cN,ah n1,ah h2,ah a,ah m,ah r,ah t,ah i]
  have D:bA S C e=mA S e:=by rw[bA,ah n1,ah h2,ah n3,ah n4,ah m,ah r,ah t,ah i]
  have A:cw S C e=C:=by rw[cw,ah n1,ah h2,ah n3,ah n4,ah t,ah i]
  have P:(mA S e).k=S.k/\(mA S e).s=S.s/\(mA S e).bd=S.bd:=by unfold mA; split<;>exact⟨rfl,rfl,rfl⟩
  rw[q];refine au (Oh X u e) ?_;rintro v G ⟨rfl,s1⟩;exact⟨_,rfl,by rw[f],λ h=>absurd f h,λ _=>⟨mA S e,C,by rw[D],by rw[A],⟨g,P.1.trans j⟩,lq (show St w0 G (Sep (iT b (mA S e) g C++[held Q,B])) from s1) (P.1.trans j) λ w h=>n P.2.1 (λ y p=>.inl (by rw[P.2.2] at p; exact p)) h⟩⟩
def W5:Option Addr->Ck->aI
 | none,_=>emp
 | some q,C=>Sep (jR q.block C)
def Gm{k:Int}(h1:1<=k)(h:dx k 0=true):k=1:=by
 by_cases g:k=1
 ·exact g
 ·unfold dx at h;rw[ah g] at h
  repeat' split at h
  all_goals first|(revert h; decide)|cases h
def Va{Q:af->Prop}(hQ:∀ w,Q w->Lp S w)(s:St w0 w (Sep [aj b S.cells.toArray 125,W5 S.k C,held Q,B]))(a:BL S C)(f:QK S){e:Ev}(he:e.W7)(h1:1<=e.kind)(hp:dx e.kind S.ph=true)(i:cE e.kind=true->e.bidder<S.s.bd.length) :
  Calls prog (jY e.kind) #[pt b,e.v] w (yd (UI w0 b S C e Q B)):=by
 by_cases c:S.ph=0
 ·have h:=f.1 c;rw[h] at s;rw[c] at hp;exact U8 hQ (s.ay [0,2,3]) a.b8 he (Gm h1 hp)
 ·obtain⟨g,d⟩:=f.2 c;rw[d] at s;have s1:St w0 w (Sep (Sep (jR g C) :: [aj b S.cells.toArray 125,held Q,B])):=s.ay [1,0,2,3];have s2:St w0 w (Sep (jR g C++[aj b S.cells.toArray 125,held Q,B])):=St.cat s1;exact U9 hQ (s2.ay [6,0,1,2,3,4,5,7,8]) a c d he hp i
def J2(n:uq S C w)(d:BL S C)(j:QK S):CP 42 #[.pointer S.k] w (λ r w'=>∃ (p:OA) (b:Ck),r=.pointer p/\b.er=C.er/\QK { S with k:=p }/\St w w' (W5 p b)):=by
 by_cases a:S.ph=0
 ·rw[j.1 a];refine au (K:=λ r w'=>r=.pointer none/\w'=w) (Cc.2.2.2.2.2.1 ⟨rfl,rfl⟩) ?_;rintro v l ⟨rfl,rfl⟩;exact⟨_,rfl,none,C,rfl,rfl,⟨λ _=>rfl,λ h=>absurd a h⟩,St.start l⟩
 ·obtain⟨g,i⟩:=j.2 a;obtain⟨q,e,f⟩:=n.k _ i
  cases e
  rw[i];refine au (NS f (d.c a).ok) ?_;rintro v l ⟨g2,b,m,rfl,o⟩;exact⟨_,rfl,qs g2,b,rfl,m,⟨λ h=>absurd h a,λ _=>⟨g2,rfl⟩⟩,o⟩
end
def Qm{S:Sx}{b d e f g i j l:Bd}(h:S.bd=[b,d,e,f,g,i,j,l]):S.cells=(iv S.o.step :: (iv S.o.pct :: (iv S.o.und :: (iv S.o.rule :: (iv S.ph :: (.slice S.s.a1 S.s.ps.length S.s.c1 :: (.slice S.s.a2 S.s.bd.length S.s.c2 :: (.slice S.s.a3 S.s.cp.length S.s.c3 :: (.slice S.s.a4 S.s.sa.length S.s.c4 :: (.pointer S.k :: (iv b.x.op :: (b.x.u.on (iv b.x.v :: (.slice b.x.a b.x.args.length b.x.c :: (.bool b.has :: (.bool b.out :: (iv d.x.op :: (d.x.u.on (iv d.x.v :: (.slice d.x.a d.x.args.length d.x.c :: (.bool d.has :: (.bool d.out :: (iv e.x.op :: (e.x.u.on (iv e.x.v :: (.slice e.x.a e.x.args.length e.x.c :: (.bool e.has :: (.bool e.out :: (iv f.x.op :: (f.x.u.on (iv f.x.v :: (.slice f.x.a f.x.args.length f.x.c :: (.bool f.has :: (.bool f.out :: (iv g.x.op :: (g.x.u.on (iv g.x.v :: (.slice g.x.a g.x.args.length g.x.c :: (.bool g.has :: (.bool g.out :: (iv i.x.op :: (i.x.u.on (iv i.x.v :: (.slice i.x.a i.x.args.length i.x.c :: (.bool i.has :: (.bool i.out :: (iv j.x.op :: (j.x.u.on (iv j.x.v :: (.slice j.x.a j.x.args.length j.x.c :: (.bool j.has :: (.bool j.out :: (iv l.x.op :: (l.x.u.on (iv l.x.v :: (.slice l.x.a l.x.args.length l.x.c :: (.bool l.has :: (.bool l.out :: [.int .u64 S.dec,iv S.cnt,.int .u64 S.dig])))))))))))))))))))))))))))))))))))))))))))))))))))))))))):=by
 rw[Sx.cells,h]; rfl
def HX(k:Int):jG prog (jY k)=true:=by
 unfold jY
 repeat' split
 all_goals kernel_rfl
def tf{e:Ev}(h:fE e=0):1<=e.kind:=by
 unfold fE at h
 split at h
 ·cases h
 ·rename_i g
  by_cases h1:1<=e.kind
  ·exact h1
  ·exact absurd (Or.inl λ h=>h1 h.1) g
def jV(S:Sx)(e:Ev):Int :=
 if fE e≠0 then fE e else if 600<=S.cnt then 18 else if dx e.kind S.ph=false then 10
 else if cE e.kind=true/\(S.s.bd.length:Int)<=e.bidder then 6 else if cE e.kind=true/\(S.bd.getD e.bidder.toNat dG).out=true then 10 else 0
def qx(S:Sx)(C:Ck)(e:Ev):Int:=if jV S e≠0 then jV S e else cN S C e
def kr(S:Sx)(C:Ck)(e:Ev):Sx:={ bA S C e with cnt:=S.cnt+1,dig:=((jo S.dig.toNat (bZ e):Nat):Int) }
abbrev QM (S:Sx) (C:Ck) (e:Ev):Ck:=cw S C e
theorem AT(S:Sx):∀ k,(dr S k).cnt=S.cnt/\(dr S k).dig=S.dig
 | 0=>⟨rfl,rfl⟩
 | k+1=>AT S k
def z7(S:Sx)(C:Ck)(e:Ev):(bA S C e).cnt=S.cnt/\(bA S C e).dig=S.dig:=by
 unfold bA
 split
 ·exact⟨rfl,rfl⟩
 split
 ·exact⟨rfl,rfl⟩
 split
 ·split<;>exact⟨rfl,rfl⟩
 split
 ·exact⟨rfl,rfl⟩
 split
 ·exact⟨rfl,rfl⟩
 split
 ·exact⟨rfl,rfl⟩
 split
 ·exact⟨rfl,rfl⟩
 split
 ·have h:=AT S 8;generalize dr S 8=X at h;exact h
 ·unfold mA
  split<;>exact⟨rfl,rfl⟩
theorem si{S:Sx}(h:S.bd.length=8):∀ k,(dr S k).bd.length=8
 | 0=>h
 | k+1=>by rw[dr,cG,dN]; exact si h k
def Fz{S:Sx}(h:S.bd.length=8)(C:Ck)(e:Ev):(bA S C e).bd.length=8:=by
 unfold bA
 split
 ·exact h
 split
 ·exact h
 split
 ·split<;>exact h
 split
 ·exact h
 split
 ·rw[qy,dN]; exact h
 split
 ·rw[cG,dN]; exact h
 split
 ·rw[cG,dN,jj,dN]; exact h
 split
 ·exact si h 8
 ·unfold mA
  split<;>exact h
def Ca{e:Ev}(h:fE e=0):(bZ e).length<=4000:=by
 unfold fE at h
 split at h
 ·cases h
 ·split at h
  ·cases h
  ·split at h
   ·cases h
   ·rename_i g; omega
def YA{S:Sx}(h:S.bd.length=8)(x:Int):S.cells.toArray.setIfInBounds 99 (iv x)=({ S with cnt:=x }:Sx).cells.toArray:=by
 obtain⟨o,ph,s,k,bd,dec,cnt,dig⟩:=S;obtain⟨a,b,c,d,e,f,g,i,rfl⟩:=fA h;rfl
def YB{S:Sx}(h:S.bd.length=8)(x:Int):S.cells.toArray.setIfInBounds 100 (.int .u64 x)=({ S with dig:=x }:Sx).cells.toArray:=by
 obtain⟨o,ph,s,k,bd,dec,cnt,dig⟩:=S;obtain⟨a,b,c,d,e,f,g,i,rfl⟩:=fA h;rfl
def Qn{S:Sx}(h:S.bd.length=8):S.cells.toArray[99]?=some (iv S.cnt):=by
 obtain⟨o,ph,s,k,bd,dec,cnt,dig⟩:=S;obtain⟨a,b,c,d,e,f,g,i,rfl⟩:=fA h;rfl
def TH{S:Sx}(h:S.bd.length=8):S.cells.toArray[100]?=some (.int .u64 S.dig):=by
 obtain⟨o,ph,s,k,bd,dec,cnt,dig⟩:=S;obtain⟨a,b,c,d,e,f,g,i,rfl⟩:=fA h;rfl
def Qp{S:Sx}(h:S.bd.length=8){i:Nat}(hi:i<8){y:Bd}(a:S.bd[i]?=some y):S.cells.toArray[10+i*11+10]?=some (.bool y.out):=by
 obtain⟨o,ph,s,k,bd,dec,cnt,dig⟩:=S;obtain⟨b,c,d,e,f,g,j,l,rfl⟩:=fA h
 match i,hi with
 | 0,_|1,_|2,_|3,_|4,_|5,_|6,_|7,_=>cases a; rfl
def Qo(S:Sx):∀ v∈S.cells,v.oneCell'=true:=by
 intro v a;simp only[Sx.cells,Po.cells,Se.arr,aV,cJ,mb,mc,iO,Bd.cells] at a;rcases a with(rfl|rfl|rfl|rfl)|rfl|(rfl|rfl|rfl|rfl)|rfl|(⟨y,_,h|rfl|rfl⟩)|rfl|rfl|rfl
 all_goals first|rfl|exact Xv.one _ _ h
section
variable {w0 w:af} {b:Nat} {S:Sx} {C:Ck} {B:aI}
def CN{r1 r3 r4:Nat}{x:Int}{X:Sx}{L:List aI}(s:St w0 w (Sep (aj r4 S.cells.toArray 125 :: aj r3 #[iv x] 49 :: aj r1 #[pt b] 62 :: aj b X.cells.toArray 125 :: L)))(f:S.bd.length=8)(o:X.bd.length=8){R:af->Prop}(q:x=0->R w)(r:x≠0->∀ w',St w0 w' (Sep (aj r4 S.cells.toArray 125 :: aj r3 #[iv x] 49 :: aj r1 #[pt b] 62 :: aj b S.cells.toArray 125 :: L))->R w') :
  Hx prog 41 #[pt r3,pt r4,pt r1] w R:=by
 obtain⟨g,h,i,j,k,l,m,n,p⟩:=fA f;refine p8 ?_;unfold lS;refine⟨_,s.ag 1 rfl 0,?_⟩
 by_cases d:x=0
 ·exact cF (by simpa using d) ⟨rfl,q d⟩
 ·have c:aA w ⟨r4,0,none⟩ 0 S.cells:=s.cellsIn 0 rfl;have hlen:S.cells.length=101:=Sx.len f;have a:=Qo S;have e:=Qm p;rw[e] at c hlen a;refine cT (by simpa using d) ⟨_,s.ag 2 rfl 0,Ex8<|Ex8<|⟨_,_,_,g.x.u,Ex4 ⟨_,_,_,h.x.u,Ex4 ⟨_,_,_,i.x.u,Ex4 ⟨_,_,_,j.x.u,Ex4 ⟨_,_,_,k.x.u,Ex4 ⟨_,_,_,l.x.u,Ex4 ⟨_,_,_,m.x.u,Ex4 ⟨_,_,_,n.x.u,Ex8 ⟨_,c,aq rfl (s.az 3 rfl _ ?_ a λ t s1=>⟨rfl,r d t ?_⟩)⟩⟩⟩⟩⟩⟩⟩⟩⟩⟩
  ·rw[hlen,jg o]
  ·rw[<- e] at s1; exact s1
def Y2(w0:af)(b:Nat)(S:Sx)(C:Ck)(e:Ev)(Q:af->Prop)(B:aI):KP:=λ r w'=>r=iv (qx S C e) /\
 (qx S C e≠0->St w0 w' (Sep [aj b S.cells.toArray 125,held Q,B])) /\
 (qx S C e=0->∃ (a:Sx) (c:Ck),a.er=(kr S C e).er/\c.er=(QM S C e).er/\(∃ g,a.k=qs g)/\St w0 w' (Sep [aj b a.cells.toArray 125,held (uq a c),B]))
def Nz{Q:af->Prop}(hQ:∀ w,Q w->uq S C w)(s:St w0 w (Sep [aj b S.cells.toArray 125,held Q,B]))(a:BL S C)(hk:QK S){e:Ev}(hi:e.In) :
  CP 17 #[pt b,e.v] w ((Y2 w0 b S C e Q B)):=by
 have G:=a.b8;obtain⟨b0,b1,b2,b3,b4,b5,b6,b7,hb⟩:=fA G;refine sw (u1:=e.want) ?_;unfold od;refine s.aB #[pt b] λ r1 w1 s1=>s1.aB e.cells.toArray λ r2 w2 s2=>s2.aB #[iv 0] λ r3 w3 s3=>?_;let M:Int->List aI:=λ x=>[aj r3 #[iv x] 49,aj r2 e.cells.toArray 45,aj r1 #[pt b] 62,aj b S.cells.toArray 125,held Q,B];have s3:St w0 w3 (Sep (M 0)):=s3;have fin:∀ {x:Int} {w':af},x≠0->jV S e=x->St w0 w' (Sep (M 0))->fL w' ⟨r3,0,none⟩ (iv x) λ w6=>∃ n:Int,w6.cell? ⟨r3,0,none⟩=some (iv n)/\Y2 w0 b S C e Q B (iv n) w6:=λ {x w'} hx hs s =>
  s.aN 0 rfl (by show 0<1; decide) rfl λ w6 T=>⟨_,T.ag 0 rfl 0,by
   have:qx S C e=x:=by rw[qx,ak (by rw[hs]; exact hx),hs]
   exact⟨by rw[this],λ _=>T.ay [3,4,5],λ h=>absurd (this.symm.trans h) hx⟩⟩
 refine⟨_,s3.ag 2 rfl 0,cF rfl ⟨_,_,_,e.want,_,_,s3.cellsIn 1 rfl,au (Cb w3 hi) ?_⟩⟩;rintro v w5 ⟨rfl,c5⟩;have s5:=s3.quiet c5;refine⟨_,rfl,?_⟩
 by_cases he : ¬ fE e=0
 ·exact cT (by simpa using he) (fin he (by rw[jV,ak he]) s5)
 have he:fE e=0:=by simpa using he
 have hR:=eH he hi.d;have hR1:1<=e.kind:=tf he;have E:jV S e=if 600<=S.cnt then 18 else if dx e.kind S.ph=false then 10 else if cE e.kind=true/\(S.s.bd.length:Int)<=e.bidder then 6 else if cE e.kind=true/\(S.bd.getD e.bidder.toNat dG).out=true then 10 else 0:=by rw[jV,ah (λ h=>h he)]
 have V:∀ {w':af} {l:List aI} {i:Nat},St w0 w' (Sep l)->l[i]?=some (aj b S.cells.toArray 125)->w'.cell? ⟨b,99,none⟩=some (iv S.cnt):=λ s e=>by rw[s.ag _ e]; exact Qn G
 refine cF (by simpa using he) ⟨_,s5.ag 2 rfl 0,aq rfl ⟨_,V s5 (i:=3) rfl,?_⟩⟩
 by_cases t:600<=S.cnt
 ·exact aP t (fin (by decide) (by rw[E,ak t]) s5)
 rw[ah t] at E;have T:=s5.quiet (aC.drew w5 []);refine aU t ⟨_,T.ag 1 rfl 0,_,T.ag 2 rfl 0,aq rfl ⟨_,(T.ag 3 rfl 4).trans rfl,au (IA _ _ _) ?_⟩⟩;rintro v w8 ⟨rfl,rfl⟩;refine⟨_,rfl,?_⟩
 cases hp:dx e.kind S.ph with
 | false=>exact cT rfl (fin (by decide) (by rw[E,ak hp]) T)
 | true =>
 rw[ah (by rw[hp]; decide)] at E;refine cF rfl ⟨λ bb O=>bb=decide (cE e.kind=true/\(S.s.bd.length:Int)<=e.bidder)/\St w0 O (Sep (M 0)),?_,?_⟩
 rotate_left
 ·have s7:=T.quiet (aC.drew w5.drew []);refine⟨_,s7.ag 1 rfl 0,au (Kq _ _) ?_⟩;rintro v w30 ⟨rfl,rfl⟩;refine⟨_,rfl,?_⟩
  cases hn:cE e.kind with
  | true =>
   refine cT rfl ⟨_,s7.ag 1 rfl 1,_,s7.ag 2 rfl 0,aq rfl ⟨_,_,_,(s7.ag 3 rfl 6).trans rfl,?_,s7⟩⟩
   by_cases hl:e.bidder>=(S.s.bd.length:Int)
   ·rw[dT hl,dT ⟨rfl,hl⟩]
   ·rw[dF hl,dF λ h=>hl h.2]
  | false=>exact cF rfl ⟨by rw[dF λ h=>by cases h.1],s7⟩
 rintro O bb ⟨rfl,s10⟩ x1
 by_cases hq:cE e.kind=true/\(S.s.bd.length:Int)<=e.bidder
 ·exact aP hq (fin (by decide) (by rw[E,ak hq]) s10)
 rw[ah hq] at E;have hnb:cE e.kind=true->e.bidder<S.s.bd.length:=λ h=>by
  rcases yH e.bidder S.s.bd.length with h1|h1
  ·exact h1
  ·exact absurd ⟨h,h1⟩ hq
 refine aU hq ⟨λ bb w12=>bb=decide (cE e.kind=true/\(S.bd.getD e.bidder.toNat dG).out=true)/\St w0 w12 (Sep (M 0)),?_,?_⟩
 rotate_left
 ·have y:=s10.quiet (aC.drew O []);refine⟨_,y.ag 1 rfl 0,au (Kq _ _) ?_⟩;rintro v w29 ⟨rfl,rfl⟩;refine⟨_,rfl,?_⟩
  cases hn:cE e.kind with
  | true =>
   have hb8:0<=e.bidder/\e.bidder<8:=hR.b;have eb:e.bidder=(e.bidder.toNat:Int):=(j4 hb8.1).symm;have co:O.drew.cell? (Addr.add (Addr.add (Addr.add ⟨b,0,none⟩ 10) ((e.bidder).toNat*11)) 10)=some (.bool (S.bd.getD e.bidder.toNat dG).out):=by
    rw[bY,bY,bY,y.ag 3 rfl];rw[show 0+10+e.bidder.toNat*11+10=10+e.bidder.toNat*11+10 by omega];exact Qp G (by omega) (getD_at (by omega))
   refine cT rfl ⟨_,y.ag 2 rfl 0,_,y.ag 1 rfl 1,aq rfl ⟨hb8.1,by omega,_,co,?_,y⟩⟩
   cases ho:(S.bd.getD e.bidder.toNat dG).out with
   | true=>rw[dT ⟨rfl,rfl⟩]
   | false=>rw[dF λ h=>by cases h.2]
  | false=>exact cF rfl ⟨by rw[dF λ h=>by cases h.1],y⟩
 rintro w12 bb ⟨rfl,L⟩ x2
 by_cases ho:cE e.kind=true/\(S.bd.getD e.bidder.toNat dG).out=true
 ·exact aP ho (fin (by decide) (by rw[E,ak ho]) L)
 rw[ah ho] at E;have eA:qx S C e=cN S C e:=by rw[qx,ah (λ h=>h E)]
 have hcl:aA w12 ⟨b,0,none⟩ 0 S.cells:=L.cellsIn 3 rfl;have hlen:S.cells.length=101:=Sx.len G;have R:=Qo S;have eS:=Qm hb;rw[eS] at hcl hlen R;refine aU ho ⟨_,L.ag 2 rfl 0,aq rfl (Ex8<|Ex8<|⟨_,_,_,b0.x.u,Ex4 ⟨_,_,_,b1.x.u,Ex4 ⟨_,_,_,b2.x.u,Ex4 ⟨_,_,_,b3.x.u,Ex4 ⟨_,_,_,b4.x.u,Ex4 ⟨_,_,_,b5.x.u,Ex4 ⟨_,_,_,b6.x.u,Ex4 ⟨_,_,_,b7.x.u,Ex8 ⟨_,hcl,L.aB (rL ⟨0,0,0,0⟩).cells.toArray λ r4 w14 s14=>s14.az 0 rfl _ (by rw[hlen]; rfl) R λ w15 s15=>?_⟩⟩⟩⟩⟩⟩⟩⟩⟩)⟩;rw[<- eS] at s15;have m:=s15.quiet (aC.drew w15 []);have m:St w0 w15.drew (Sep (aj r4 S.cells.toArray 125 :: M 0)):=m;refine⟨_,m.ag 3 rfl 0,_,m.ag 3 rfl 0,aq rfl ⟨S.k,by rw[bY,m.ag 4 rfl]; exact pg G,?_⟩⟩;refine au (J2 (hQ _ (m.bC 5 rfl)) a hk) ?_;rintro v w16 ⟨p,J,rfl,F,hk1,k16⟩;let D:Sx:={ S with k:=p };have W:D.er=S.er:=rfl;have hok1:BL D J:=⟨G,a.ph,a.z,λ h=>(a.c h).er F,λ h=>(show J.er.s=C.er.s from congrArg Ck.s F).trans (a.cs h),a.so,a.cnt,a.dig,a.x⟩;have s17:St w0 w16 (Sep (W5 p J :: aj r4 S.cells.toArray 125 :: M 0)):=m.and k16;refine⟨_,rfl,s17.ag 4 rfl 0,aq rfl ?_⟩;rw[bY];refine s17.aN 5 rfl (j:=0+9) (by show 0+9<S.cells.toArray.size; rw[jg G]; decide) rfl λ w17 A=>?_;rw[show 0+9=9 from rfl,YC G] at A;refine⟨_,A.ag 4 rfl 0,_,A.ag 3 rfl 0,au (N0 w17 b e.kind) ?_⟩;rintro v w18 ⟨rfl,rfl⟩;refine⟨_,rfl,_,A.ag 4 rfl 0,_,_,_,e.want,_,_,A.cellsIn 3 rfl,dZ (HX e.kind) ?_⟩;have s19:St w0 w18 (Sep [aj b D.cells.toArray 125,W5 D.k J,held Q,Sep [aj r4 S.cells.toArray 125,aj r3 #[iv 0] 49,aj r2 e.cells.toArray 45,aj r1 #[pt b] 62,B]]) :=
  St.cat (((A.ay [5,0,6,1,2,3,4,7]).split [_,_,_]).eqv (bX.right (bX.unit _)))
 refine au (Va (S:=D) (λ w h=>(show Lp D w from(hQ w h).h)) s19 hok1 hk1 hR hR1 hp hnb) ?_;rintro v w19 ⟨rfl,k1,k2⟩;have eE1:cN D J e=cN S C e:=by rw[<- DL D J,F,W,DL]
 have eS1:(bA D J e).er=(bA S C e).er:=by rw[<- DM D J,F,W,DM]
 have eC2:(cw D J e).er=(cw S C e).er:=by rw[<- y5 D J,F,W,y5]
 rw[eE1] at k1 k2 ⊢
 by_cases P:cN S C e=0
 ·obtain⟨f,C',eS',eC',⟨g,hg⟩,o⟩:=k2 P;have o:St w0 w19 (Sep ([aj b f.cells.toArray 125,held (uq f C')]++[aj r4 S.cells.toArray 125,aj r3 #[iv 0] 49,aj r2 e.cells.toArray 45,aj r1 #[pt b] 62,B])):=o.iE [_,_];have K:=eS'.trans eS1;have H:f.bd.length=8:=by
   have E:f.er.bd.length=(bA S C e).er.bd.length:=by rw[K]
   have e2:f.er.bd.length=f.bd.length:=dU _;have e3:(bA S C e).er.bd.length=(bA S C e).bd.length:=dU _;rw[<- e2,E,e3]; exact Fz G C e
  have hcnt:f.cnt=S.cnt:=(show f.er.cnt=(bA S C e).er.cnt by rw[K]).trans (z7 S C e).1;have hdig:f.dig=((S.dig.toNat:Nat):Int):=((show f.er.dig=(bA S C e).er.dig by rw[K]).trans (z7 S C e).2).trans (j4 a.dig.1).symm;have hc600:=a.cnt;rw[P];refine⟨_,rfl,o.aN 3 rfl (by show 0<1; decide) rfl λ w20 q=>⟨_,q.ag 3 rfl 0,cF rfl ⟨_,_,_,e.want,_,_,q.cellsIn 4 rfl,au (N4 w20 hi) ?_⟩⟩⟩;rintro v w23 ⟨rfl,c23⟩;rw[ak he,he];have I:=q.quiet c23;have V:w23.cell? ⟨b,0+99,none⟩=some (iv f.cnt):=by rw[I.ag 0 rfl]; exact Qn H
  refine⟨_,_,rfl,_,I.ag 5 rfl 0,aq rfl ⟨_,by rw[bY]; exact V,aq rfl ?_⟩⟩;rw[bY,cW (n:=f.cnt+1) ⟨by omega,by omega⟩];refine I.aN 0 rfl (j:=0+99) (by rw[jg H]; decide) rfl λ w24 N=>?_;rw[show 0+99=99 from rfl,YA H] at N;have r:=N.quiet (aC.drew w24 []);have Y:({ f with cnt:=f.cnt+1 }:Sx).bd.length=8:=H;have c100:w24.drew.cell? ⟨b,0+100,none⟩=some (.int .u64 ((S.dig.toNat:Nat):Int)):=by rw[r.ag 0 rfl,<- hdig]; exact TH Y
  have hbl:=Ca he;refine⟨_,r.ag 5 rfl 0,_,r.ag 5 rfl 0,aq rfl ⟨_,by rw[bY]; exact c100,au (Rw _ S.dig.toNat (bZ e) (by omega)) ?_⟩⟩;rintro v w25 ⟨rfl,c25⟩;have s25:=r.quiet c25;refine⟨_,rfl,s25.ag 5 rfl 0,aq rfl ?_⟩;rw[bY];refine s25.aN 0 rfl (j:=0+100) (by rw[jg Y]; decide) rfl λ w26 s26=>?_;rw[show 0+100=100 from rfl,YB Y] at s26;refine s26.aN 3 rfl (by show 0<1; decide) rfl λ w27 s27=>?_;let U:Sx:={ f with cnt:=f.cnt+1,dig:=((jo S.dig.toNat (bZ e):Nat):Int) };have s28:St w0 w27 (Sep (held (uq f C') :: [aj r4 S.cells.toArray 125,aj r3 #[iv 0] 49,aj r1 #[pt b] 62,aj b U.cells.toArray 125,aj r2 e.cells.toArray 45,B])):=s27.ay [1,2,3,5,0,4,6];have s29:St w0 w27 (Sep (held (uq U C') :: [aj r4 S.cells.toArray 125,aj r3 #[iv 0] 49,aj r1 #[pt b] 62,aj b U.cells.toArray 125,aj r2 e.cells.toArray 45,B])):=s28.weak (bz.left (eI λ w h=>⟨⟨h.h.1,h.h.2⟩,h.k⟩));have Z:St w0 w27 (Sep (aj r4 S.cells.toArray 125 :: aj r3 #[iv 0] 49 :: aj r1 #[pt b] 62 :: aj b U.cells.toArray 125 :: [held (uq U C'),B])):=s29.ay [1,2,3,4,0,6];refine CN Z G (show U.bd.length=8 from H) (λ _=>⟨_,Z.ag 1 rfl 0,by rw[eA,P],λ h=>absurd (eA.trans P) h,λ _=>⟨U,C',?_,eC'.trans eC2,⟨g,hg⟩,Z.ay [3,4,5]⟩⟩) (λ h=>absurd rfl h);show({ f.er with cnt:=f.cnt+1,dig:=((jo S.dig.toNat (bZ e):Nat):Int) }:Sx)={ (bA S C e).er with cnt:=S.cnt+1,dig:=((jo S.dig.toNat (bZ e):Nat):Int) };rw[K,hcnt]
 ·obtain⟨X,hX,o⟩:=k1 P;have o:St w0 w19 (Sep ([aj b X.cells.toArray 125,held Q]++[aj r4 S.cells.toArray 125,aj r3 #[iv 0] 49,aj r2 e.cells.toArray 45,aj r1 #[pt b] 62,B])):=o.iE [_,_];refine⟨_,rfl,o.aN 3 rfl (by show 0<1; decide) rfl λ w20 q=>⟨_,q.ag 3 rfl 0,cT (by simpa using P) ⟨_,q.ag 3 rfl 0,q.aN 3 rfl (by show 0<1; decide) rfl λ w21 I=>?_⟩⟩⟩;have N:St w0 w21 (Sep (aj r4 S.cells.toArray 125 :: aj r3 #[iv (cN S C e)] 49 :: aj r1 #[pt b] 62 :: aj b X.cells.toArray 125 :: [held Q,aj r2 e.cells.toArray 45,B])):=I.ay [2,3,5,0,1,4,6];refine CN N G hX (λ h=>absurd h P) λ _ w22 r=>⟨_,r.ag 1 rfl 0,by rw[eA],λ _=>r.ay [3,4,6],λ h=>absurd (eA.symm.trans h) P⟩
def ApP(w0:af)(b:Nat)(S:Sx)(C:Ck)(e:Ev)(B:aI):KP:=Y2 w0 b S C e (uq S C) B
def Q9(s:St w0 w (Sep [aj b S.cells.toArray 125,held (uq S C),B]))(a:BL S C)(c:QK S){e:Ev}(hi:e.In) :
  CP 17 #[pt b,e.v] w ((ApP w0 b S C e B)):=Nz (λ _ h=>h) s a c hi
end
end Go.Proofs.YtjcfdidmajodiaaGreatDoor
set_option maxHeartbeats 4000000
namespace Go.Proofs.YtjcfdidmajodiaaGreatDoor
open Go Go.Vc Go.Vt _root_.Go.Proofs.Tryz
def Cd:=many uj [en func56 [] [(107,[(10,.s .bool)]),(431,[(16,.s .bool)])],en func98 [] [(1018,[(12,.s (.int .i64))]),(32585,[(13,.s (.int .i64))]),(65170,[(75,.s .bool)])],en func99 [] [],en func57 [] [(7,[(6,.s (.int .i64))]),(30079,[]),(30932982,[])],en func25 [] [(63,[]),(126,[(39,.s .bool)])],en func24 [] []] (by conv=>lhs;reduce) (by kernel_rfl) λ x=>by
 dsimp only[fj,fh,ff,fe,fk,fm,fq,tF,iP,en,sV,wrap,dc,dn,qA,gU,tW,U.I,U.B,U.S,U.N,U.A,U.O,U.W,U.V,U.L,U.U6,U.C,U.M,U.F,U.E,tP,tN,tI,oo,jU,gJ,kr,jq,TJ,Nat.reduceSub,Nat.reduceAdd,Int.reduceOfNat,Int.reduceNeg,UInt8.reduceOfNat] at x
 exact x
def El:=Cd.2.1
def Mi:=Cd.2.2.1
def Ei:=Cd.2.2.2.1
def Gr:=Cd.2.2.2.2.1
def XL:=many uj [en func9 [] [(250,[(10,.s (.int .i64))]),(1001,[]),(4004,[(11,.s .blk),(12,.s (.int .i64))]),(506,[(13,.s (.int .i64))]),(129610,[(15,.s (.int .i64))]),(1018,[(19,.s (.int .i64))])]] (by conv=>lhs;reduce) (by kernel_rfl) λ x=>by
 dsimp only[fj,fh,ff,fe,fk,fm,fq,tF,iP,en,sV,wrap,dc,dn,qA,gU,tW,U.I,U.B,U.S,U.N,U.A,U.O,U.W,U.V,U.L,U.U6,U.C,U.M,U.F,U.E,tP,tN,tI,oo,jU,gJ,kr,jq,TJ,Nat.reduceSub,Nat.reduceAdd,Int.reduceOfNat,Int.reduceNeg,UInt8.reduceOfNat] at x
 exact x
end Go.Proofs.YtjcfdidmajodiaaGreatDoor
namespace Go.Proofs.YtjcfdidmajodiaaGreatDoor
open Go Go.Vc _root_.Go.Proofs.Tryz
def BE(w:af)(k p:Int):CP 56 #[iv k,iv p] w (λ r w'=>r=.bool (dx k p)/\w'=w):=by
 refine Cd.1 ?_
 by_cases h1:k=1
 ·exact cT (by simpa using h1) ⟨by rw[dx,ak h1],rfl⟩
 refine cF (by simpa using h1) ⟨λ b i=>b=decide (k=2\/k=3\/k=4)/\i=w,?_,?_⟩
 rotate_left
 ·by_cases h2:k=2
  ·exact cT (by simpa using h2) ⟨by rw[dT (Or.inl h2)]; simpa using h2,rfl⟩
  refine cF (by simpa using h2) ?_
  by_cases h3:k=3
  ·exact cT (by simpa using h3) ⟨by rw[dT (Or.inr (Or.inl h3))]; simpa using h3,rfl⟩
  refine cF (by simpa using h3) ⟨?_,rfl⟩
  by_cases h4:k=4
  ·rw[dT (Or.inr (Or.inr h4))]; simpa using h4
  ·rw[dF (by rintro(h|h|h); exact h2 h; exact h3 h; exact h4 h)]; simpa using h4
 rintro i b ⟨rfl,rfl⟩ -
 by_cases h2:k=2\/k=3\/k=4
 ·exact aP h2 ⟨by rw[dx,ah h1,ak h2],rfl⟩
 refine aU h2 ⟨λ b j=>b=decide (k=5\/k=6\/k=9)/\j=i,?_,?_⟩
 rotate_left
 ·by_cases a:k=5
  ·exact cT (by simpa using a) ⟨by rw[dT (Or.inl a)]; simpa using a,rfl⟩
  refine cF (by simpa using a) ?_
  by_cases c:k=6
  ·exact cT (by simpa using c) ⟨by rw[dT (Or.inr (Or.inl c))]; simpa using c,rfl⟩
  refine cF (by simpa using c) ⟨?_,rfl⟩
  by_cases g:k=9
  ·rw[dT (Or.inr (Or.inr g))]; simpa using g
  ·rw[dF (by rintro(h|h|h); exact a h; exact c h; exact g h)]; simpa using g
 rintro j b ⟨rfl,rfl⟩ -
 by_cases a:k=5\/k=6\/k=9
 ·exact aP a ⟨by rw[dx,ah h1,ah h2,ak a],rfl⟩
 refine aU a ?_
 by_cases d:k=7
 ·have e:dx k p=(decide (1<=p)&&decide (p<=3)):=by rw[dx,ah h1,ah h2,ah a,ak d]
  refine cT (by simpa using d) ?_
  by_cases hp:p>=1
  ·exact aP hp ⟨by rw[e,dT (show 1<=p from hp),bt],rfl⟩
  ·exact aU hp ⟨by rw[e,dF (show ¬ 1<=p from hp)]; rfl,rfl⟩
 refine cF (by simpa using d) ?_
 by_cases f:k=8
 ·have e:dx k p=(p==1||p==2):=by rw[dx,ah h1,ah h2,ah a,ah d,ak f]
  refine cT (by simpa using f) ?_
  by_cases hp:p=1
  ·exact cT (by simpa using hp) ⟨by rw[e,hp]; rfl,rfl⟩
  ·exact cF (by simpa using hp) ⟨by rw[e,aS.2 hp,nJ],rfl⟩
 ·exact cF (by simpa using f) ⟨by rw[dx,ah h1,ah h2,ah a,ah d,ah f],rfl⟩
structure Rs where
 o:Po
 ph:Int
 s:Se
 C:Ck
 has:List Bool
 ex:List Xv
 out:List Bool
 dec:Int
 cnt:Int
 dig:Int
 ha:Option Addr
 hc:Nat
 ea:Option Addr
 ec:Nat
 oa:Option Addr
 oc:Nat
def Rs.cells(R:Rs):List Value:=R.o.cells++(iv R.ph :: (R.s.arr.toList++(R.C.cells++[.slice R.ha R.has.length R.hc,.slice R.ea R.ex.length R.ec,.slice R.oa R.out.length R.oc,.int .u64 R.dec,iv R.cnt,.int .u64 R.dig])))
structure Rs.T4 (R:Rs) (w:af):Prop where
 s:R.s.In w
 C:R.C.bF w
 has:cP 1 bl w R.ha R.has
 ex:cP 9 Xv.cells w R.ea R.ex
 ei:yh R.ex w
 out:cP 1 bl w R.oa R.out
def Rs.T4.av{R:Rs}{w w':af}(h:R.T4 w)(hc:aC w w' []):R.T4 w':=⟨h.s.av hc,h.C.av hc,h.has.av hc,h.ex.av hc,λ x a=>(h.ei x a).av hc,h.out.av hc⟩
structure Rs.dR (R:Rs) (w:af):Prop where
 s:R.s.In w
 has:cP 1 bl w R.ha R.has
 ex:cP 9 Xv.cells w R.ea R.ex
 ei:yh R.ex w
 out:cP 1 bl w R.oa R.out
def Rs.T4.of{R:Rs}{w:af}(h:R.C.bF w)(k:R.dR w):R.T4 w:=⟨k.s,h,k.has,k.ex,k.ei,k.out⟩
def GL{w:af}{R:Rs}{n:Nat}{y:Br}(L:R.T4 w)(hC:R.C.Ok)(U:R.s.Ok)(hn:n<R.C.s.bd.length)(hy:R.s.bd[n]?=some y)(t:List UInt8) :
  CP 98 #[.agg R.cells.toArray,iv n,sv t] w (λ r w'=>∃ x:Xv,(fY R.s R.C n y t=0->x.er=(bW R.s.ps t).1)/\r=.tuple #[.agg x.cells.toArray,iv (fY R.s R.C n y t)]/\St w w' (held x.In)):=by
 refine @El _ _ _ _ _ _ _ _ _ _ _ _ _ _ _ _ _ _ _ _ _ _ _ _ _ _ _ _ _ _ _ _ _ _ _ _ R.C.p _ _ _ _ _ _ _ _ _ _ _ _ _ _ _ _ _ _ _ _ _ _ _ _ _ _ ?_;have hn':=(aR.1 hy).1;have z2:=U.bd.l2;have hm:=sup_le U.ps;have hmq:(bI R.s.ps).l.all iy=true:=leq hm;have hp:=Ql U.ps;refine aG R.cells.toArray λ r1 w1 s1=>s1.aB cI.cells.toArray λ r2 w2 s2=>⟨_,_,_,s2.ag 1 rfl 5,au (IN (L.av s2.av).s.ps U.ps t) ?_⟩;rintro v w3 ⟨x,ex,rfl,k3⟩;have s3:St w w3 (Sep [held x.In,aj r2 cI.cells.toArray 120,aj r1 R.cells.toArray 90,emp]):=s2.and k3;refine⟨_,x.u,Ex4 ⟨_,rfl,s3.aB cI.cells.toArray λ r3 w4 s4=>s4.az 0 rfl x.cells rfl x.one λ w5 s5=>?_⟩⟩;have s5:St w w5 (Sep [aj r3 x.cells.toArray 120,held x.In,aj r2 cI.cells.toArray 120,aj r1 R.cells.toArray 90,emp]):=s5;have bad:∀ {k:Int} {w':af} {m:List aI} {i:Nat},St w w' (Sep m)->m[i]?=some (aj r2 cI.cells.toArray 120)->k≠0->fY R.s R.C n y t=k ->
   uP ⟨r2,0,none⟩ 0 cI.cells w' λ w3=>∃ (n2:Int) (u1:I6) (n3:Int) (a2:OA) (l2 c2:Nat),aA w3 ⟨r2,0,none⟩ 0 (iv n2 :: u1.on [iv n3,.slice a2 l2 c2]) /\
    ∃ x:Xv,(fY R.s R.C n y t=0->x.er=(bW R.s.ps t).1)/\Value.tuple #[.agg (iv n2 :: u1.on [iv n3,.slice a2 l2 c2]:List Value).toArray,iv k]=.tuple #[.agg x.cells.toArray,iv (fY R.s R.C n y t)]/\St w w3 (held x.In):=λ {k w' m i} s e hk0 hp =>
  s.az i e cI.cells rfl (Xv.one _) λ w3 s3=>⟨_,z6,_,_,_,_,s3.cellsIn (cs:=cI.cells.toArray) (T:=120) i (nK (gr e)),cI,λ h=>absurd (hp.symm.trans h) hk0,by rw[hp]; rfl,((St.start' s3.av).one.jx sO).first⟩
 by_cases h1:(bW R.s.ps t).2=0
 rotate_left
 ·exact cT (by simpa using h1) (bad s5 (i:=2) rfl h1 (by rw[fY,ak h1]))
 have hx0:fC x=0:=by rw[<- uv,ex]; exact xq h1
 have hz:=Fp hx0;have J:fY R.s R.C n y t=if mX x (bI R.s.ps)≠0 then mX x (bI R.s.ps) else if D7 R.s n y (mE x (bI R.s.ps))≠0 then D7 R.s n y (mE x (bI R.s.ps)) else yy (sZ R.C n) (mE x (bI R.s.ps)):=by
  rw[fY,ah (by simpa using h1),<- ex,Kw,Kx]
 have s6:=s5.quiet (aC.drew w5 []);refine cF (by simpa using h1) ⟨_,x.u,_,_,_,_,s6.cellsIn 0 rfl,_,_,_,s6.ag 3 rfl 5,au (rX (L.av s6.av).s.ps) ?_⟩;rintro v w7 ⟨rfl,c7⟩;have s7:=s6.quiet c7;refine⟨_,rfl,s7.cellsIn 0 rfl,au (GK hmq hp (by omega) (s7.bC 1 rfl)) ?_⟩;rintro v w8 (⟨Q,rfl,c8⟩|⟨Q,hlen,a,c,rfl,k8⟩)
 ·exact⟨_,_,_,_,rfl,cT (by simpa using Q) (bad (s7.quiet c8) (i:=2) rfl Q (by rw[J,ak Q]))⟩
 rw[ah (by simpa using Q)] at J;generalize hl:mE x (bI R.s.ps)=l at *;let M:List aI:=[tR a c l,aj r3 x.cells.toArray 120,held x.In,aj r2 cI.cells.toArray 120,aj r1 R.cells.toArray 90,emp];have s8:St w w8 (Sep M):=s7.and k8.single;obtain⟨_,q,hq,hcy⟩:=(L.av s8.av).s.bd n y hy;refine⟨_,_,_,_,rfl,cF rfl ⟨_,_,_,s8.ag 4 rfl 6,aq hq ⟨by omega,by omega,_,by have:=aM hcy 2 _ rfl; rwa [aL] at this,?_⟩⟩⟩;refine⟨λ i z m=>∃ k:Nat,i=k/\k<=l.length/\m=l.length-k/\(∀ o∈l.take k,fP R.s n y o.want=0/\¬ (y.bud≠0/\y.bud<o.v))/\St w z (Sep M),⟨l.length,0,rfl,by omega,by omega,by simp,s8⟩,?_⟩;rintro z m i ⟨k,rfl,hk,hm10,f,D⟩ -
 by_cases P:(k:Int)<(l.length:Int)
 ·obtain⟨o,B⟩:=bx l k (by omega);have E:=D.quiet (aC.drew z []);obtain⟨q2,hq2,hc2⟩:=(St.rd Of.len (E.out 0 rfl)).at B;have K:=OK f B;have V:aA z.drew ⟨r1,5,none⟩ 0 R.s.arr.toList:=bM _ 0 λ j v d=>by
   rw[bY,aL,E.ag 4 rfl];have hj4:j<4:=(aR.1 d).1
   match j,hj4 with
   | 0,_|1,_|2,_|3,_=>exact d
  have G:aA z.drew (Addr.add (Addr.add q2 (((k:Nat):Int).toNat*8)) 1) 0 o.want.vs:=bM _ 0 λ j v d=>by
   have hj6:j<6:=(aR.1 d).1;have:=aM hc2 (1+j) v (by
    match j,hj6,d with
    | 0,_,d|1,_,d|2,_,d|3,_,d|4,_,d|5,_,d=>exact d)
   rw[aL] at this ⊢;rw[Addr.add_add];rw[Addr.add_add] at this ⊢;rw[aD]; exact this
  refine aP P (Ex8<|Ex4<|⟨V,aq hq2 ⟨by omega,by omega,o.want,G,au (v7 (L.av E.av).s U hy o.want) ?_⟩⟩);rintro v w11 ⟨rfl,c11⟩;have H:=E.quiet c11;refine⟨_,rfl,λ e Y=>e=(if fP R.s n y o.want≠0 then fP R.s n y o.want else if y.bud≠0/\y.bud<o.v then 17 else 0)/\St w Y (Sep M),?_,λ b Z=>b=decide (fP R.s n y o.want=0/\y.bud≠0/\y.bud<o.v)/\Z=w11,?_,?_⟩
  ·rintro Y e ⟨rfl,I⟩ -
   by_cases ha:fP R.s n y o.want=0
   ·rw[ah (λ h=>h ha)] at K;rw[ah (λ h=>h ha)]
    by_cases g:y.bud≠0/\y.bud<o.v
    ·rw[ak g] at K;rw[ak g];exact cT (by decide) (bad I (i:=3) rfl (by decide) (by rw[J,K]; rfl))
    ·rw[ah g];refine cF (by decide) (jZ (by omega) ⟨λ o' S=>?_,I⟩);rw[aH B] at S;rcases aV.1 S with h|h
     ·exact f o' h
     ·rw[bp.1 h]; exact⟨ha,g⟩
   ·rw[ak ha] at K ⊢;exact cT (by simpa using ha) (bad I (i:=3) rfl ha (by rw[J,K,ak ha]))
  ·rintro Z b ⟨rfl,rfl⟩ -
   by_cases N:fP R.s n y o.want=0/\y.bud≠0/\y.bud<o.v
   ·exact aP N ⟨by rw[ah (λ h=>h N.1),ak N.2],H⟩
   ·refine aU N ⟨?_,H⟩
    by_cases ha:fP R.s n y o.want=0
    ·rw[ah (λ h=>h ha),ah (λ h=>N ⟨ha,h⟩),ha]
    ·rw[ak ha]
  ·by_cases ha:fP R.s n y o.want=0
   ·refine cT (by simpa using ha) ?_
    by_cases A:y.bud=0
    ·exact cF (by simpa using A) ⟨by rw[dF λ h=>h.2.1 A],rfl⟩
    ·obtain⟨q3,hq3,hc3⟩:=(St.rd Of.len (H.out 0 rfl)).at B;refine cT (by simpa using A) (aq hq3 ⟨by omega,by omega,o.v,by have:=aM hc3 7 _ rfl; rwa [aL] at this,?_,rfl⟩)
     by_cases hv:y.bud<o.v
     ·rw[dT hv,dT ⟨ha,A,hv⟩]
     ·rw[dF hv,dF λ h=>hv h.2.2]
   ·exact cF (by simpa using ha) ⟨by rw[dF λ h=>ha h.1],rfl⟩
 ·obtain rfl:k=l.length:=by omega
  rw[br] at f;have e0:D7 R.s n y l=0:=by rw[vO l l.length (by rw[br]; exact f),pE]; rfl
  rw[e0,ah (by decide)] at J;have hcw:ju R.C n=sZ R.C n:=by
   unfold ju;rw[ah (by omega)]; rfl
  have hck:aA z ⟨r1,9,none⟩ 0 R.C.cells:=bM _ 0 λ j v d=>by
   rw[bY,aL,D.ag 4 rfl];have O:j<19:=(aR.1 d).1
   match j,O with
   | 0,_|1,_|2,_|3,_|4,_|5,_|6,_|7,_|8,_|9,_|10,_|11,_|12,_|13,_|14,_|15,_|16,_|17,_|18,_=>exact d
  refine aU P (Ex8<|Ex8<|⟨_,_,_,R.C.p,Ex8 ⟨_,_,hck,au (we (L.av D.av).C hC n) ?_⟩⟩);rintro v w15 ⟨a4,c4,rfl,k15⟩;have F:St w w15 (Sep (uL a4 c4 (ju R.C n) :: M)):=D.and k15;rw[hcw] at F ⊢;refine⟨_,_,_,rfl,au (IG (St.rd Ch.len (F.out 0 rfl)) (by unfold sZ; rw[dU]; have:=hC.cl; omega) (JY hC) (St.rd Of.len (F.out 1 rfl)) (by omega)) ?_⟩;rintro v w16 ⟨rfl,c16⟩;have W:=F.quiet c16;refine⟨_,_,rfl,_,x.u,_,_,_,_,W.cellsIn 2 rfl,W.az 4 rfl x.cells rfl x.one λ w17 X=>⟨_,x.u,_,_,_,_,X.cellsIn 4 rfl,x,λ _=>ex,by rw[J]; rfl,?_⟩⟩;exact(X.ay [3]).single
def Rs.AY(R:Rs)(n:Nat)(x:Xv)(b:Bool)(ha:OA)(hc:Nat)(ea:OA)(ec:Nat):Rs:={ R with has:=R.has.set n b,ex:=R.ex.set n x,ha:=ha,hc:=hc,ea:=ea,ec:=ec }
def Rs.one(R:Rs):∀ v∈R.cells,v.oneCell'=true:=by
 intro v a;simp only[Rs.cells,Po.cells,aV,cJ,mb,mc] at a;rcases a with h|rfl|h|h|h
 ·rcases h with rfl|rfl|rfl|rfl<;>rfl
 ·rfl
 ·exact R.s.one v h
 ·exact R.C.one v h
 ·rcases h with rfl|rfl|rfl|rfl|rfl|rfl<;>rfl
def Ay{w0 w:af}{R:Rs}{x:Xv}{M:List aI}(s:St w0 w (Sep (held R.dR :: held x.In :: M))){n:Nat}{b:Bool}(V:n<R.has.length)(N:n<R.ex.length)(h1:R.has.length<=1000)(h2:R.ex.length<=1000) :
  CP 99 #[.agg R.cells.toArray,iv n,.agg x.cells.toArray,.bool b] w (λ r w'=>∃ ha hc ea ec,r=.agg (R.AY n x b ha hc ea ec).cells.toArray/\St w0 w' (Sep (held (R.AY n x b ha hc ea ec).dR :: M))):=by
 refine @Mi _ _ _ _ _ _ _ _ _ _ _ _ _ _ _ _ _ _ _ _ _ _ _ _ _ _ _ _ _ _ _ _ _ _ _ _ R.C.p _ _ _ _ _ _ _ _ _ _ _ _ _ _ _ _ _ _ _ _ _ _ _ _ x.u _ _ _ _ _ _ _ ?_;refine s.aB R.cells.toArray λ r1 W s1=>s1.aB x.cells.toArray λ r2 X s2=>s2.aB _ λ r3 Y P=>P.aB #[] λ r4 K F=>⟨_,_,_,F.ag 3 rfl 28,?_⟩;have z:R.dR K:=F.bC 4 rfl;have t4:St w0 K (star (gO (qs r4) 0 []) (Sep (aj r3 _ 90 :: aj r2 x.cells.toArray 120 :: aj r1 R.cells.toArray 90 :: held R.dR :: held x.In :: M))):=St.weak F (bz.left (dO (n:=0) (sz:=1) rfl (by decide)));refine bQ (l:=[]) (l2:=R.has) tS dj wO t4 z.has (by simp only[eY]; omega) (by simp only[eY]; omega) λ ha hc S q=>?_;rw[lC] at q ⊢;have q:St w0 S (Sep (gO ha hc R.has :: aj r3 _ 90 :: aj r2 x.cells.toArray 120 :: aj r1 R.cells.toArray 90 :: held R.dR :: held x.In :: M)):=q;let R1:Rs:={ R with ha:=ha,hc:=hc };refine q.aN 3 rfl (j:=28) (by show 28<34; decide) rfl λ Z Q=>Q.aB #[] λ r5 J o=>⟨_,_,_,o.ag 4 rfl 29,?_⟩;have o:St w0 J (Sep (aj r5 #[] 120 :: gO ha hc R.has :: aj r3 _ 90 :: aj r2 x.cells.toArray 120 :: aj r1 R1.cells.toArray 90 :: held R.dR :: held x.In :: M)):=o;have A:R.dR J:=o.bC 5 rfl;have t7:St w0 J (star (uX (qs r5) 0 []) (Sep (gO ha hc R.has :: aj r3 _ 90 :: aj r2 x.cells.toArray 120 :: aj r1 R1.cells.toArray 90 :: held R.dR :: held x.In :: M))):=St.weak o (bz.left (dO (n:=0) (sz:=9) rfl (by decide)));refine bQ (l:=[]) (l2:=R.ex) P8 Xv.len Xv.one t7 A.ex (by simp only[eY]; omega) (by simp only[eY]; omega) λ ea ec T m=>?_;rw[lC] at m ⊢;have m:St w0 T (Sep (uX ea ec R.ex :: gO ha hc R.has :: aj r3 _ 90 :: aj r2 x.cells.toArray 120 :: aj r1 R1.cells.toArray 90 :: held R.dR :: held x.In :: M)):=m;obtain⟨ge,rfl⟩:=(m.out 0 rfl).iS (by omega);obtain⟨d,rfl⟩:=(m.out 1 rfl).iS (by omega);let k:Rs:={ R1 with ea:=qs ge,ec:=ec };refine m.aN 4 rfl (j:=29) (by show 29<34; decide) rfl λ U t=>?_;have t:St w0 U (Sep (uX (qs ge) ec R.ex :: gO (qs d) hc R.has :: aj r3 _ 90 :: aj r2 x.cells.toArray 120 :: aj r1 k.cells.toArray 90 :: held R.dR :: held x.In :: M)):=t;refine⟨qs d,R.has.length,hc,t.ag 4 rfl 28,aq rfl ⟨by omega,by omega,?_⟩⟩;rw[aD];refine St.gu (v:=.bool) (x:=b) rfl (t.out 1 rfl) (i:=n) (by omega) λ G a=>?_;have a:=a.back (i:=1) (l:=uX (qs ge) ec R.ex :: gO (qs d) hc R.has :: aj r3 _ 90 :: aj r2 x.cells.toArray 120 :: aj r1 k.cells.toArray 90 :: held R.dR :: held x.In :: M) (by simp);have a:St w0 G (Sep (uX (qs ge) ec R.ex :: gO (qs d) hc (R.has.set n b) :: aj r3 _ 90 :: aj r2 x.cells.toArray 120 :: aj r1 k.cells.toArray 90 :: held R.dR :: held x.In :: M)):=a;refine⟨qs ge,R.ex.length,ec,a.ag 4 rfl 29,_,x.u,_,_,_,_,a.cellsIn 3 rfl,aq rfl ⟨by omega,by omega,?_⟩⟩;refine St.su Xv.len (x:=x) (Xv.one _) (a.out 0 rfl) (i:=n) (by omega) λ H c=>?_;have c:=c.back (i:=0) (l:=uX (qs ge) ec R.ex :: gO (qs d) hc (R.has.set n b) :: aj r3 _ 90 :: aj r2 x.cells.toArray 120 :: aj r1 k.cells.toArray 90 :: held R.dR :: held x.In :: M) (by simp);let g:Rs:=R.AY n x b (qs d) hc (qs ge) ec;have L:k.cells=g.cells:=by simp[g,k,R1,Rs.AY,Rs.cells]
 have c:St w0 H (Sep (uX (qs ge) ec (R.ex.set n x) :: gO (qs d) hc (R.has.set n b) :: aj r3 _ 90 :: aj r2 x.cells.toArray 120 :: aj r1 k.cells.toArray 90 :: held R.dR :: held x.In :: M)):=c;rw[L] at c;refine Ex8<|Ex8<|Ex8<|Ex8<|Ex4<|⟨R.C.p,Ex8<|Ex8<|Ex4<|⟨_,_,c.cellsIn 4 rfl,c.az 2 rfl g.cells rfl g.one λ I f=>(Ex8<|Ex8<|Ex8<|Ex8<|Ex4<|⟨R.C.p,Ex8<|Ex8<|Ex4<|⟨_,_,St.cellsIn (cs:=g.cells.toArray) f 2 rfl,qs d,hc,qs ge,ec,rfl,?_⟩⟩)⟩⟩;have f:St w0 I (Sep (uX (qs ge) ec (R.ex.set n x) :: gO (qs d) hc (R.has.set n b) :: aj r3 g.cells.toArray 90 :: aj r2 x.cells.toArray 120 :: aj r1 g.cells.toArray 90 :: held R.dR :: held x.In :: M)):=f;have B:=f.fX (bn Xv.len) (bn dj) λ w h1 h2=>(⟨h1,h2⟩:cP 9 Xv.cells w (qs ge) (R.ex.set n x)/\cP 1 bl w (qs d) (R.has.set n b));have D:=B.pY.second.pY.second.pY.second;have E:=St.fX (l:=held x.In :: M) D (aW _) (aW _) λ w h1 h2=>(⟨h1,h2⟩:(cP 9 Xv.cells w (qs ge) (R.ex.set n x)/\cP 1 bl w (qs d) (R.has.set n b))/\R.dR w);exact E.fX (aW _) (aW _) λ w h1 h2=>(⟨h1.2.s,h1.1.2,h1.1.1,λ y O=>(lY O).elim (λ h=>h1.2.ei y h) (λ e=>by rw[e]; exact h2),h1.2.out⟩:g.dR w)
def Xc(g:Option Nat):Option Addr:=g.map λ g=>⟨g,0,none⟩
def Rs.QO(R:Rs)(n:Nat)(h e o:Option Nat)(b a bo:Bool):Rs :=
 { R with has:=if b then List.replicate n false else R.has,ha:=if b then Xc h else R.ha,hc:=if b then n else R.hc,ex:=if a then List.replicate n cI else R.ex,ea:=if a then Xc e else R.ea,ec:=if a then n else R.ec,out:=if bo then List.replicate n false else R.out,oa:=if bo then Xc o else R.oa,oc:=if bo then n else R.oc }
def Uz(n:Nat):Option Nat->aI
 | some g=>gO (qs g) n (List.replicate n false)
 | none=>emp
def Yd(n:Nat):Option Nat->aI
 | some g=>uX (qs g) n (List.replicate n cI)
 | none=>emp
def C4(w0:af)(r1:Nat)(R:Rs)(n:Nat)(M:List aI)(h e o:Option Nat)(b a bo:Bool)(w:af):Prop :=
 St w0 w (Sep (aj r1 (R.QO n h e o b a bo).cells.toArray 90 :: Uz n h :: Yd n e :: Uz n o :: M))
section
variable {w0 w:af} {r1 n:Nat} {R:Rs} {M:List aI} {h e o:Option Nat} {bh be bo:Bool}
def EI{A:aI}{L:List aI}{i:Nat}(s:St w0 w (star A (Sep L)))(hi:L[i]?=some emp):St w0 w (Sep (L.set i A)):=by
 have h1:i<L.length:=(aR.1 hi).1;have s2:St w0 w (Sep (A :: L)):=s;have a:St w0 w (star emp (star A (Sep (L.eraseIdx i)))):=(St.out s2 (i+1) (A:=emp) (by simpa using hi));have b:St w0 w (star A (Sep (L.eraseIdx i))):=a.second;exact b.back h1
def It(f:n<=1000)(s:C4 w0 r1 R n M none e o false be bo w){K:Option Addr->Nat->Nat->af->Prop}(k:∀ g w',C4 w0 r1 R n M (some g) e o false be bo w'->K (qs g) n n w') :
  gi prog (Instr.makeSlice 78 (iv n) (iv n)) w λ e d=>∃ a l c,e=.slice a l c/\K a l c d :=
 cZ tS dj (x:=false) rfl s (by omega) (by omega) λ g w' _ b=>k g w' (EI (i:=1) b rfl)
def yu(f:n<=1000)(s:C4 w0 r1 R n M h e none bh be false w){K:Option Addr->Nat->Nat->af->Prop}(k:∀ g w',C4 w0 r1 R n M h e (some g) bh be false w'->K (qs g) n n w') :
  gi prog (Instr.makeSlice 78 (iv n) (iv n)) w λ e d=>∃ a l c,e=.slice a l c/\K a l c d :=
 cZ tS dj (x:=false) rfl s (by omega) (by omega) λ g w' _ b=>k g w' (EI (i:=3) b rfl)
def yq(f:n<=1000)(s:C4 w0 r1 R n M h none o bh false bo w){K:Option Addr->Nat->Nat->af->Prop}(k:∀ g w',C4 w0 r1 R n M h (some g) o bh false bo w'->K (qs g) n n w') :
  gi prog (Instr.makeSlice 88 (iv n) (iv n)) w λ e d=>∃ a l c,e=.slice a l c/\K a l c d :=
 cZ P8 Xv.len (x:=cI) rfl s (by omega) (by omega) λ g w' _ b=>k g w' (EI (i:=2) b rfl)
def wq{g:Nat}(s:C4 w0 r1 R n M (some g) e o false be bo w){K:af->Prop}(k:∀ w',C4 w0 r1 R n M (some g) e o true be bo w'->K w'):fL w ⟨r1,28,none⟩ (.slice (qs g) n n) K :=
 St.aN s 0 rfl (j:=28) (by show 28<34; decide) rfl λ w' b=>k w' (by
  have a:(R.QO n (some g) e o false be bo).cells.toArray.setIfInBounds 28 (.slice (qs g) n n)=(R.QO n (some g) e o true be bo).cells.toArray:=by
   have:(List.replicate n false).length=n:=j6;simp[Rs.QO,Rs.cells,Po.cells,Se.arr,Ck.cells,I6.on,Xc]
  unfold C4; rw[<- a]; exact b)
def qB{g:Nat}(s:C4 w0 r1 R n M h (some g) o bh false bo w){K:af->Prop}(k:∀ w',C4 w0 r1 R n M h (some g) o bh true bo w'->K w'):fL w ⟨r1,29,none⟩ (.slice (qs g) n n) K :=
 St.aN s 0 rfl (j:=29) (by show 29<34; decide) rfl λ w' b=>k w' (by
  have a:(R.QO n h (some g) o bh false bo).cells.toArray.setIfInBounds 29 (.slice (qs g) n n)=(R.QO n h (some g) o bh true bo).cells.toArray:=by
   simp[Rs.QO,Rs.cells,Po.cells,Se.arr,Ck.cells,I6.on,Xc]
  unfold C4; rw[<- a]; exact b)
def uO{g:Nat}(s:C4 w0 r1 R n M h e (some g) bh be false w){K:af->Prop}(k:∀ w',C4 w0 r1 R n M h e (some g) bh be true w'->K w'):fL w ⟨r1,30,none⟩ (.slice (qs g) n n) K :=
 St.aN s 0 rfl (j:=30) (by show 30<34; decide) rfl λ w' b=>k w' (by
  have a:(R.QO n h e (some g) bh be false).cells.toArray.setIfInBounds 30 (.slice (qs g) n n)=(R.QO n h e (some g) bh be true).cells.toArray:=by
   simp[Rs.QO,Rs.cells,Po.cells,Se.arr,Ck.cells,I6.on,Xc]
  unfold C4; rw[<- a]; exact b)
end
theorem kZ{α:Type}{f:Nat->α->Int}:∀ {l:List α} {n:Nat},ke f n l=0->∀ i p,l[i]?=some p->f (n+i) p=0
 | [],_,_,i,p,hp=>by simp at hp
 | y :: l,n,h,i,p,hp=>by
  rw[ke] at h
  split at h
  ·rename_i g; exact absurd h g
  ·rename_i g
   cases i with
   | zero=>cases hp; rw[wL]; simpa using g
   | succ i=>have:=kZ h i p (by simpa using hp); rwa [show n+(i+1)=n+1+i by omega]
def V3{l:List Pr}(h:Bk l=0):dH l:=by
 unfold Bk at h
 by_cases h1:l.length=0
 ·rw[ak h1] at h; cases h
 rw[ah h1] at h
 by_cases h2:6<l.length
 ·rw[ak h2] at h; cases h
 rw[ah h2] at h
 by_cases h3:ke (E0 l) 0 l=0
 ·rw[ah (λ g=>g h3)] at h
  by_cases h4:pr (BF l)<=1024
  ·refine⟨by omega,by omega,λ i p hp=>?_,by rw[<- zv (by omega)]; exact h4⟩;have:=kZ h3 i p hp;rw[aL] at this;unfold E0 at this
   split at this
   ·cases this
   split at this
   ·cases this
   split at this
   ·cases this
   rename_i g1 g2 g3;exact⟨by unfold tQ; simp at g1 g3; rw[g1,g3]; rfl,by simpa using g2⟩
  ·rw[ah h4] at h; cases h
 ·rw[ak h3] at h; exact absurd h h3
def UW{l:List Br}(h:BS l=0):zz l:=by
 unfold BS at h
 by_cases h1:l.length=0
 ·rw[ak h1] at h; cases h
 rw[ah h1] at h
 by_cases h2:8<l.length
 ·rw[ak h2] at h; cases h
 rw[ah h2] at h;refine⟨by omega,by omega,λ i p hp=>?_⟩;have:=kZ h i p hp;rw[aL] at this;unfold JT at this
 split at this
 ·cases this
 split at this
 ·cases this
 split at this
 ·cases this
 rename_i g1 g2 g3;exact⟨by simp at g1 g3; rw[g1,g3]; rfl,by simpa using g2⟩
def U3{n:Nat}{l:List T3}(h:Ht n l=0):zA n l:=by
 unfold Ht at h
 by_cases h2:16<l.length
 ·rw[ak h2] at h; cases h
 rw[ah h2] at h;refine⟨by omega,λ i p hp=>?_⟩;have:=kZ h i p hp;rw[aL] at this;unfold HT at this
 split at this
 ·cases this
 split at this
 ·cases this
 split at this
 ·cases this
 rename_i g1 g2 g3;have g1:=yW _▸g1;have g2:=yW _▸g2;exact⟨by unfold vu; rw[g1,g2]; rfl,by simpa using g3⟩
def WE{ps:List Pr}{l:List T3}(h:MQ ps l=0):kW ps l:=by
 unfold MQ at h
 by_cases h2:6<l.length
 ·rw[ak h2] at h; cases h
 rw[ah h2] at h;refine⟨by omega,λ i p hp=>?_⟩;have:=kZ h i p hp;rw[aL] at this;unfold KW at this
 split at this
 ·cases this
 split at this
 ·cases this
 split at this
 ·cases this
 rename_i g1 g2 g3;have g1:=yW _▸g1;have g2:=yW _▸g2;exact⟨by unfold zQ; rw[g1,g2]; rfl,by simpa using g3⟩
def Wq{s:Se}(h:tv s=0):s.Ok:=by
 unfold tv at h
 by_cases h1:Bk s.ps=0
 ·rw[ah (λ g=>g h1)] at h
  by_cases h2:BS s.bd=0
  ·rw[ah (λ g=>g h2)] at h
   by_cases h3:Ht s.bd.length s.cp=0
   ·rw[ah (λ g=>g h3)] at h;exact⟨V3 h1,UW h2,U3 h3,WE h⟩
   ·rw[ak h3] at h; exact absurd h h3
  ·rw[ak h2] at h; exact absurd h h2
 ·rw[ak h1] at h; exact absurd h h1
def SU{t:List UInt8}(h:lI t=0):(pX t).Ok:=by
 unfold lI at h
 by_cases h1:4000<t.length
 ·rw[ak h1] at h; cases h
 rw[ah h1] at h
 by_cases h2:(fQ dL (bD 10 t)).2=0
 ·rw[ah (λ g=>g h2)] at h; exact Wq h
 ·rw[ak h2] at h; exact absurd h h2
def Pc{o:Po}{t:List UInt8}(h:lN o t=0):o.ok/\(pX t).Ok:=by
 unfold lN at h
 by_cases h1:ki o=0
 ·rw[ah (λ g=>g h1)] at h;refine⟨?_,SU h⟩;unfold ki at h1
  by_cases g:o.ok
  ·exact g
  ·rw[ah g] at h1; cases h1
 ·rw[ak h1] at h; exact absurd h h1
section
variable {S S':Sx} {C C':Ck} {e:Ev}
def BL.er(h:BL S C)(b:S'.er=S.er)(f:C'.er=C.er):BL S' C':=by
 have g:S'.bd.map Bd.er=S.bd.map Bd.er:=show S'.er.bd=S.er.bd by rw[b]
 have d:S'.ph=S.ph:=show S'.er.ph=S.er.ph by rw[b]
 have es:S'.s.er=S.s.er:=show S'.er.s=S.er.s by rw[b]
 have ec:S'.cnt=S.cnt:=show S'.er.cnt=S.er.cnt by rw[b]
 have j:S'.dig=S.dig:=show S'.er.dig=S.er.dig by rw[b]
 have e:C'.s.er=C.s.er:=show C'.er.s=C.er.s by rw[f]
 have l:S'.bd.length=S.bd.length:=by have:=congrArg List.length g; simpa using this
 refine⟨by rw[l]; exact h.b8,by rw[d]; exact h.ph,λ a=>by rw[es]; exact h.z (d▸a),λ a=>(h.c (d▸a)).er f,λ a=>by rw[e,es]; exact h.cs (d▸a),λ a=>K0 es (h.so (d▸a)),by rw[ec]; exact h.cnt,by rw[j]; exact h.dig,λ y m k=>?_⟩;have:y.er∈S.bd.map Bd.er:=g▸gP m;obtain⟨z,n,i⟩:=bL.1 this;have h1:z.x.er=y.x.er:=show z.er.x=y.er.x by rw[i]
 have h2:z.has=y.has:=show z.er.has=y.er.has by rw[i]
 rw[<- uv,<- h1,uv];exact h.x z n (h2.trans k)
def jP(h:jV S e=0):fE e=0/\S.cnt<600/\dx e.kind S.ph=true/\(cE e.kind=true->e.bidder<S.s.bd.length)/\(cE e.kind=true->(S.bd.getD e.bidder.toNat dG).out=false):=by
 unfold jV at h
 by_cases h1:fE e≠0
 ·rw[ak h1] at h; exact absurd h h1
 rw[ah h1] at h
 by_cases h2:600<=S.cnt
 ·rw[ak h2] at h; cases h
 rw[ah h2] at h
 by_cases h3:dx e.kind S.ph=false
 ·rw[ak h3] at h; cases h
 rw[ah h3] at h
 by_cases h4:cE e.kind=true/\(S.s.bd.length:Int)<=e.bidder
 ·rw[ak h4] at h; cases h
 rw[ah h4] at h
 by_cases c:cE e.kind=true/\(S.bd.getD e.bidder.toNat dG).out=true
 ·rw[ak c] at h; cases h
 refine⟨by simpa using h1,by omega,by simpa using h3,λ b=>?_,λ b=>?_⟩
 ·rcases yH e.bidder S.s.bd.length with a|a
  ·exact a
  ·exact absurd ⟨b,a⟩ h4
 ·cases ho:(S.bd.getD e.bidder.toNat dG).out with
  | false=>rfl
  | true=>exact absurd ⟨b,ho⟩ c
def qX(h:qx S C e=0):jV S e=0/\cN S C e=0:=by
 unfold qx at h
 by_cases h1:jV S e=0
 ·rw[ah (λ g=>g h1)] at h; exact⟨h1,h⟩
 ·rw[ak h1] at h; exact absurd h h1
def JQ(a:BL S C)(h:qx S C e=0)(hi:e.In):BL (kr S C e) (QM S C e)/\(kr S C e).ph≠0:=by
 obtain⟨Y,v⟩:=qX h;obtain⟨h1,h2,h3,h4,h5⟩:=jP Y;have U:=eH h1 hi.d;have K:=tf h1;have hc:=a.cnt;have J:0<=((jo S.dig.toNat (bZ e):Nat):Int)/\((jo S.dig.toNat (bZ e):Nat):Int)<18446744073709551616:=⟨Nh _,by have:jo S.dig.toNat (bZ e)<18446744073709551616:=Oq _; omega⟩;have hlen:=Fz a.b8 C e
 suffices H:(0<=(bA S C e).ph/\(bA S C e).ph<=4/\(bA S C e).ph≠0)/\(cw S C e).Inv/\(cw S C e).s.er=(bA S C e).s.er/\(bA S C e).s.Ok/\∀ y∈(bA S C e).bd,y.has=true->fC y.x=0 by
  obtain⟨⟨p1,p2,P⟩,i1,i2,i3,i4⟩:=H;exact⟨⟨hlen,⟨p1,p2⟩,λ h=>absurd h P,λ _=>i1,λ _=>i2,λ _=>i3,⟨by show 0<=S.cnt+1; omega,by show S.cnt+1<=600; omega⟩,J,i4⟩,P⟩
 by_cases f:e.kind=1
 ·have w:cN S C e=lN S.o e.text:=by rw[cN,ak f]
  have p:bA S C e={ S with ph:=1,s:=pX e.text }:=by rw[bA,ak f]
  have m:cw S C e=kg (pX e.text) S.o:=by rw[cw,ak f]
  obtain⟨L,r⟩:=Pc (w▸v);rw[p,m];exact⟨⟨by show(0:Int)<=1; decide,by show(1:Int)<=4; decide,by show(1:Int)≠0; decide⟩,OV r L,rfl,r,a.x⟩
 have n0:S.ph≠0:=λ T=>f (Gm K (T▸h3));have hC:=a.c n0;have l:=a.cs n0;have r:=a.so n0;have i:=a.ph
 by_cases j:e.kind=2
 ·have w:cN S C e=gX C e.bidder.toNat (C.s.bd.getD e.bidder.toNat Hw) e.want:=by rw[cN,ah f,ak j]
  have p:bA S C e=S:=by rw[bA,ah f,ak j]
  have m:cw S C e=oK C e.bidder.toNat e.want:=by rw[cw,ah f,ak j]
  rw[p,m];exact⟨⟨i.1,i.2,n0⟩,NF hC (w▸v),l,r,a.x⟩
 by_cases q:e.kind=3
 ·have w:cN S C e=if C.ov then 10 else 0:=by rw[cN,ah f,ah j,ak (.inl q)]
  have p:bA S C e=(if eJ C then { S with ph:=2 } else S):=by rw[bA,ah f,ah j,ak q]
  have m:cw S C e=gZ C:=by rw[cw,ah f,ah j,ak q]
  have L:C.ov=false:=by
   cases hv:C.ov with
   | false=>rfl
   | true=>rw[w,hv] at v; cases v
  rw[p,m];refine⟨?_,HR hC L,?_,?_,?_⟩
  ·split
   ·exact⟨by show(0:Int)<=2; decide,by show(2:Int)<=4; decide,by show(2:Int)≠0; decide⟩
   ·exact⟨i.1,i.2,n0⟩
  ·split<;>exact l
  ·split<;>exact r
  ·split<;>exact a.x
 by_cases t:e.kind=4
 ·have p:bA S C e={ S with ph:=2 }:=by rw[bA,ah f,ah j,ah q,ak t]
  have m:cw S C e=sC C:=by rw[cw,ah f,ah j,ah q,ak t]
  rw[p,m];exact⟨⟨by show(0:Int)<=2; decide,by show(2:Int)<=4; decide,by show(2:Int)≠0; decide⟩,MR hC,l,r,a.x⟩
 have F : ¬ (e.kind=3\/e.kind=4):=λ h=>h.elim q t
 by_cases D:e.kind=5
 ·have w:cN S C e=fY S.s C e.bidder.toNat (S.s.bd.getD e.bidder.toNat Hw) e.text:=by rw[cN,ah f,ah j,ah F,ak D]
  have p:bA S C e=qy S e.bidder.toNat (bW S.s.ps e.text).1:=by rw[bA,ah f,ah j,ah q,ah t,ak D]
  have m:cw S C e=C:=by rw[cw,ah f,ah j,ah q,ah t,ah (by omega),ah (by omega)]
  rw[w] at v;have hp:(bW S.s.ps e.text).2=0:=by
   unfold fY at v
   by_cases g:(bW S.s.ps e.text).2=0
   ·exact g
   ·rw[ak g] at v; exact absurd v g
  rw[p,m];refine⟨⟨i.1,i.2,n0⟩,hC,l,r,λ y A u=>?_⟩;rcases lY A with A|rfl
  ·exact a.x y A u
  ·exact xq hp
 have E:∀ {X:Sx} {n:Nat},(∀ y∈X.bd,y.has=true->fC y.x=0)->∀ y∈(cG X n).bd,y.has=true->fC y.x=0:=λ h y A u=>by
  rcases tj A with h1|⟨_,h2⟩
  ·exact h y h1 u
  ·rw[h2] at u; cases u
 by_cases G:e.kind=6
 ·have p:bA S C e=cG S e.bidder.toNat:=by rw[bA,ah f,ah j,ah q,ah t,ah D,ak G]
  have m:cw S C e=C:=by rw[cw,ah f,ah j,ah q,ah t,ah (by omega),ah (by omega)]
  rw[p,m];exact⟨⟨i.1,i.2,n0⟩,hC,l,r,E a.x⟩
 by_cases B:e.kind=7
 ·have p:bA S C e=cG (jj S e.bidder.toNat) e.bidder.toNat:=by rw[bA,ah f,ah j,ah q,ah t,ah D,ah G,ak B]
  have m:cw S C e=jS C e.bidder.toNat:=by rw[cw,ah f,ah j,ah q,ah t,ak B]
  have V:=r.bd.l2;have hn:=h4 (by rw[cE,dT (Or.inr (Or.inr (Or.inr B)))]);rw[p,m];refine⟨⟨i.1,i.2,n0⟩,LG hC _,l,r,E λ y A u=>?_⟩;obtain⟨z,Z,Q,R⟩:=Km (by have:=a.b8; have:=U.b; omega) A;rw[Q]; exact a.x z Z (R▸u)
 by_cases I:e.kind=8
 ·have w:cN S C e=if cU C e.round then 4 else 0:=by rw[cN,ah f,ah j,ah F,ah D,ah G,ah B,ak I]
  have p:bA S C e={ dr S 8 with ph:=1 }:=by rw[bA,ah f,ah j,ah q,ah t,ah D,ah G,ah B,ak I]
  have m:cw S C e=e9 C e.round.toNat:=by rw[cw,ah f,ah j,ah q,ah t,ah B,ak I]
  have W:cU C e.round=false:=by
   cases hv:cU C e.round with
   | false=>rfl
   | true=>rw[w,hv] at v; cases v
  have N:∀ k,(dr S k).s=S.s:=λ k=>by
   induction k with
   | zero=>rfl
   | succ k ih=>exact ih
  have O:=N 8;have hm:∀ y∈(dr S 8).bd,y.has=true->fC y.x=0:=λ y A u=>by
   rcases uF 8 A with h1|⟨_,h2⟩
   ·exact a.x y h1 u
   ·rw[h2] at u; cases u
  have M:(e9 C e.round.toNat).s=C.s:=by unfold e9; split<;>rfl
  rw[p,m];refine⟨⟨by show(0:Int)<=1; decide,by show(1:Int)<=4; decide,by show(1:Int)≠0; decide⟩,IY hC W,?_,?_,hm⟩
  ·rw[M,l]; show S.s.er=(dr S 8).s.er; rw[O]
  ·show(dr S 8).s.Ok; rw[O]; exact r
 ·have p:bA S C e=mA S e:=by rw[bA,ah f,ah j,ah q,ah t,ah D,ah G,ah B,ah I]
  have m:cw S C e=C:=by rw[cw,ah f,ah j,ah q,ah t,ah B,ah I]
  rw[p,m];unfold mA
  split
  ·exact⟨⟨by show(0:Int)<=4; decide,by show(4:Int)<=4; decide,by show(4:Int)≠0; decide⟩,hC,l,r,a.x⟩
  ·exact⟨⟨by show(0:Int)<=3; decide,by show(3:Int)<=4; decide,by show(3:Int)≠0; decide⟩,hC,l,r,a.x⟩
end

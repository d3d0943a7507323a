import Derived.Test.YtmhhlijfepaphaaGreatDoorH18
set_option linter.all false
set_option maxRecDepth 100000
namespace Go.Proofs.YtmhhlijfepaphaaGreatDoor
open Go Go.Vc _root_.Go.Proofs.Tryz
def St.in2{w0 w:ah}{A B H M:bP}(s:St w0 w (star A (star B (star H M)))):St w0 w (star H (star A (star B M))):=(s.eqv (fF.right fF.sP)).sP
def St.ZJ{w0 w:ah}{A B H M:bP}(s:St w0 w (star H (star A (star B M)))):St w0 w (star H M):=s.sP.second.sP.second
section
variable {w0 w:ah} {C:Ck} {M:List bP}
def AN(s:St w0 w (Sep (held C.gi::M)))(f:C.dp.length<=1000):
  CP 146 #[.agg C.cells.toArray] w (λr b=>∃a:Ck,a.er=(mh C).er/\a.s=C.s/\r=.agg a.cells.toArray/\St w0 b (Sep (held a.gi::M))):=by
 refine bg (AD (St.pk (l:=[_]) s) f) ?_;rintro v b ⟨a,c,d,rfl,e⟩;exact⟨_,rfl,a,c,d,rfl,St.upk (l:=[_]) e⟩
def Qk(s:St w0 w (Sep (held C.gi::M)))(c:C.Ok):
  CP 81 #[.agg C.cells.toArray] w (λr b=>∃a:Ck,a.er=(if C.ov then C else xL C).er/\a.s=C.s/\(C.ov=true->a=C)/\r=.tuple #[.agg a.cells.toArray,iv (if C.ov then 10 else 0)]/\St w0 b (Sep (held a.gi::M))):=by
 refine aaW.2.1 ?_;have x:=c.s.bd.l2;have F:=c.dp;refine s.aY C.cells.toArray λm y o=>o.aY iX λn z b=>⟨_,b.aj 1 rfl 18,?_⟩
 cases hov:C.ov with
 |true=>exact cT rfl (Ex8<|Ex8<|⟨_,_,_,C.p,Ex8 ⟨_,_,b.cellsIn 1 rfl,b.aR 0 rfl C.cells rfl C.one λA d=>(Ex8<|Ex8<|⟨_,_,_,C.p,Ex8 ⟨_,_,d.cellsIn 0 rfl,C,rfl,rfl,λ_=>rfl,rfl,d.second.second⟩⟩)⟩⟩)
 |false=>
 let D:Ck:={C with ov:=true};refine cF rfl (b.cL 1 rfl (j:=18) (by show 18<19;decide) rfl λu q=>?_);have r:=q;have e:St w0 u (Sep (held D.gi::ay n iX 41::ay m D.cells.toArray 41::M)):=(St.in2 r).weak (dU.left (jY λw h=>(⟨h.ask,h.bd,h.dp,h.cl,h.i,h.k⟩:D.gi w)));refine Ex8<|Ex8<|⟨_,_,_,D.p,Ex8 ⟨_,_,e.cellsIn 2 rfl,bg (AN e (by show C.dp.length<=1000;omega)) ?_⟩⟩;rintro v B ⟨a,g,l,rfl,t⟩;refine Ex8<|Ex8<|⟨_,_,_,a.p,Ex8 ⟨_,_,rfl,t.aR 1 rfl a.cells rfl a.one λE f=>(Ex8<|Ex8<|⟨_,_,_,a.p,Ex8 ⟨_,_,f.cellsIn 1 rfl,a,g,l,λh=>(by cases h),rfl,St.ZJ f⟩⟩)⟩⟩
set_option maxHeartbeats 2000000 in
theorem P7(s:St w0 w (Sep (held C.gi::M)))(hk:C.Ok){n:Nat}(hn:n<C.s.bd.length):
  CP 84 #[.agg C.cells.toArray,iv n] w (λr b=>∃a:Ck,a.er=(if C.dp.getD n false then C else pe C n).er/\a.s=C.s/\(C.dp.getD n false=true->a=C)/\r=.tuple #[.agg a.cells.toArray,iv (if C.dp.getD n false then 10 else 0)]/\St w0 b (Sep (held a.gi::M))):=by
 refine aaW.2.2.1 ?_;have h8:=hk.s.bd.l2;have z1:=hk.dp;have z2:=hk.ask;have z3:=hk.bd;refine s.aY C.cells.toArray λc w1 s1=>s1.aY iX λd w2 u=>?_;have u:St w0 w2 (Sep (ay d iX 41::ay c C.cells.toArray 41::held C.gi::M)):=u;refine⟨λb L=>b=false/\L=w2,?_,dz (by omega) ⟨_,_,_,u.aj 1 rfl 17,dF (by omega),rfl⟩⟩;rintro L b ⟨rfl,rfl⟩-;have hr:C.gi L:=u.eu 2 rfl;have hx:C.dp[n]?=some (C.dp.getD n false):=by rw[au,gE (by omega)];rfl
 generalize C.dp.getD n false=x at hx;obtain⟨q,hq,O⟩:=hr.dp.at hx;refine cF rfl ⟨_,_,_,u.aj 1 rfl 17,av hq ⟨by omega,by omega,x,by rw[aq];exact O.1,?_⟩⟩
 cases x with
 |true=>exact cT rfl (Ex8<|Ex8<|⟨_,_,_,C.p,Ex8 ⟨_,_,u.cellsIn 1 rfl,u.aR 0 rfl C.cells rfl C.one λL s3=>(Ex8<|Ex8<|⟨_,_,_,C.p,Ex8 ⟨_,_,s3.cellsIn 0 rfl,C,rfl,rfl,λ_=>rfl,rfl,s3.second.second⟩⟩)⟩⟩)
 |false=>
 refine cF rfl (u.aY #[] λr3 w6 H=>⟨_,_,_,H.aj 2 rfl 17,?_⟩);have H:St w0 w6 (star (nX (qs r3) 0 []) (Sep (ay d iX 41::ay c C.cells.toArray 41::held C.gi::M))):=St.weak H (dU.left (ic (n:=0) (sz:=1) rfl (by decide)));have R:St w0 w6 (Sep (nX (qs r3) 0 []::ay d iX 41::ay c C.cells.toArray 41::held C.gi::M)):=H;have h6:C.gi w6:=R.eu 3 rfl;refine dW (l:=[]) (l2:=C.dp) yK iH A7 H h6.dp (by simp only[aT];omega) (by simp only[aT];omega) λza zc w7 K=>?_;rw[bZ] at K⊢;have K:St w0 w7 (Sep (nX za zc C.dp::ay d iX 41::ay c C.cells.toArray 41::held C.gi::M)):=K;refine K.cL 2 rfl (j:=17) (by show 17<19;decide) rfl λw8 s8=>s8.aY #[] λr4 w9 I=>⟨_,_,_,I.aj 3 rfl 15,?_⟩;let E:Ck:={C with za:=za,zc:=zc};have I:St w0 w9 (star (kO (qs r4) 0 []) (Sep (nX za zc C.dp::ay d iX 41::ay c E.cells.toArray 41::held C.gi::M))):=St.weak I (dU.left (ic (n:=0) (sz:=6) rfl (by decide)));have T:St w0 w9 (Sep (kO (qs r4) 0 []::nX za zc C.dp::ay d iX 41::ay c E.cells.toArray 41::held C.gi::M)):=I;have h9:C.gi w9:=T.eu 4 rfl;refine I7 I h9.ask (by omega) λxa xc U B=>?_;have B:St w0 U (Sep (kO xa xc C.ask::nX za zc C.dp::ay d iX 41::ay c E.cells.toArray 41::held C.gi::M)):=B;refine B.cL 3 rfl (j:=15) (by show 15<19;decide) rfl λw11 P=>P.aY #[] λr5 D o=>⟨_,_,_,o.aj 4 rfl 16,?_⟩;let y:Ck:={E with xa:=xa,xc:=xc};have o:St w0 D (star (nX (qs r5) 0 []) (Sep (kO xa xc C.ask::nX za zc C.dp::ay d iX 41::ay c y.cells.toArray 41::held C.gi::M))):=St.weak o (dU.left (ic (n:=0) (sz:=1) rfl (by decide)));have F:St w0 D (Sep (nX (qs r5) 0 []::kO xa xc C.ask::nX za zc C.dp::ay d iX 41::ay c y.cells.toArray 41::held C.gi::M)):=o;have N:C.gi D:=F.eu 5 rfl;refine dW (l:=[]) (l2:=C.bd) yK iH A7 o N.bd (by simp only[aT];omega) (by simp only[aT];omega) λya yc V e=>?_;rw[bZ] at e⊢;have e:St w0 V (Sep (nX ya yc C.bd::kO xa xc C.ask::nX za zc C.dp::ay d iX 41::ay c y.cells.toArray 41::held C.gi::M)):=e;obtain⟨f,rfl⟩:=(e.out 0 rfl).kN (by omega);obtain⟨g1,rfl⟩:=(e.out 1 rfl).kN (by omega);obtain⟨g2,rfl⟩:=(e.out 2 rfl).kN (by omega);let a:Ck:={pe C n with za:=qs g2,zc:=zc,xa:=qs g1,xc:=xc,ya:=qs f,yc:=yc};have e2:y.dp.length=C.dp.length:=rfl;refine e.cL 4 rfl (j:=16) (by show 16<19;decide) rfl λW r=>⟨_,_,_,r.aj 4 rfl 17,av rfl ⟨by omega,by omega,?_⟩⟩;have eC:({y with ya:=qs f,yc:=yc}:Ck).cells=a.cells:=by simp[a,y,E,pe,Ck.cells]
 have r:St w0 W (Sep (nX (qs f) yc C.bd::kO (qs g1) xc C.ask::nX (qs g2) zc C.dp::ay d iX 41::ay c ({y with ya:=qs f,yc:=yc}:Ck).cells.toArray 41::held C.gi::M)):=r;rw[eC] at r;rw[aq];refine St.kP (v:=.bool) (x:=true) rfl (r.out 2 rfl) (i:=n) (by omega) λX g=>?_;have g:=g.back (i:=2) (l:=nX (qs f) yc C.bd::kO (qs g1) xc C.ask::nX (qs g2) zc C.dp::ay d iX 41::ay c a.cells.toArray 41::held C.gi::M) (by simp);have g:St w0 X (Sep (nX (qs f) yc C.bd::kO (qs g1) xc C.ask::nX (qs g2) zc (C.dp.set n true)::ay d iX 41::ay c a.cells.toArray 41::held C.gi::M)):=g;refine⟨qs g1,C.ask.length,xc,(g.aj 4 rfl 15).trans (by simp[a,pe,Ck.cells,I6.on]),av rfl ⟨by omega,by omega,St.wh fU (x:=z6) z6.one (g.out 1 rfl) (i:=n) (by omega) λY m=>?_⟩⟩;have m:=m.back (i:=1) (l:=nX (qs f) yc C.bd::kO (qs g1) xc C.ask::nX (qs g2) zc (C.dp.set n true)::ay d iX 41::ay c a.cells.toArray 41::held C.gi::M) (by simp);have m:St w0 Y (Sep (nX (qs f) yc C.bd::kO (qs g1) xc (C.ask.set n z6)::nX (qs g2) zc (C.dp.set n true)::ay d iX 41::ay c a.cells.toArray 41::held C.gi::M)):=m;refine⟨qs f,C.bd.length,yc,(m.aj 4 rfl 16).trans (by simp[a,pe,Ck.cells,I6.on]),av rfl ⟨by omega,by omega,St.kP (v:=.bool) (x:=false) rfl (m.out 0 rfl) (i:=n) (by omega) λZ t=>?_⟩⟩;have t:St w0 Z (Sep (nX (qs f) yc (C.bd.set n false)::kO (qs g1) xc (C.ask.set n z6)::nX (qs g2) zc (C.dp.set n true)::ay d iX 41::ay c a.cells.toArray 41::held C.gi::M)):=t;refine Ex8<|Ex8<|⟨_,_,_,a.p,Ex8 ⟨_,_,t.cellsIn 4 rfl,t.aR 3 rfl a.cells rfl a.one λJ G=>(Ex8<|Ex8<|⟨_,_,_,a.p,Ex8 ⟨_,_,G.cellsIn 3 rfl,a,rfl,rfl,λh=>(by cases h),rfl,?_⟩⟩)⟩⟩;have Q:St w0 J (Sep (nX (qs f) yc (C.bd.set n false)::kO (qs g1) xc (C.ask.set n z6)::nX (qs g2) zc (C.dp.set n true)::ay d a.cells.toArray 41::ay c a.cells.toArray 41::held C.gi::M)):=G;have t1:=Q.kr (dS iH) (dS fU) (S:=λw=>iA 1 bl w (qs f) (C.bd.set n false)/\iA 6 I6.vs w (qs g1) (C.ask.set n z6)) λw z A=>⟨z,A⟩;have t2:=t1.kr (cV _) (dS iH) (S:=λw=>(iA 1 bl w (qs f) (C.bd.set n false)/\iA 6 I6.vs w (qs g1) (C.ask.set n z6))/\iA 1 bl w (qs g2) (C.dp.set n true)) λw z A=>⟨z,A⟩;have t3:St w0 J (Sep (held (λw=>(iA 1 bl w (qs f) (C.bd.set n false)/\iA 6 I6.vs w (qs g1) (C.ask.set n z6))/\iA 1 bl w (qs g2) (C.dp.set n true))::held C.gi::M)):=St.ZJ t2;exact t3.kr (cV _) (cV _) λw z A=>(⟨z.1.2,z.1.1,z.2,A.cl,A.i,A.k⟩:a.gi w)
set_option maxHeartbeats 2000000 in
theorem Mt(s:St w0 w (Sep (held C.gi::M)))(hk:C.Ok)(r:Int):
  CP 85 #[.agg C.cells.toArray,iv r] w (λv I=>∃a:Ck,a.er=(if gZ C r then C else jT C r.toNat).er/\a.s=C.s/\(gZ C r=true->a=C)/\v=.tuple #[.agg a.cells.toArray,iv (if gZ C r then 4 else 0)]/\St w0 I (Sep (held a.gi::M))):=by
 refine aaW.2.2.2.1 ?_;have h8:=hk.s.bd.l2;have z1:=hk.dp;have hl:=hk.cl;refine s.aY C.cells.toArray λf w1 s1=>s1.aY iX λm w2 c=>⟨λb K=>b=gZ C r/\K=w2,?_,?_⟩
 rotate_left
 .by_cases g1:r<0
  .exact di g1 ⟨by rw[gZ,dT g1];rfl,rfl⟩
  refine dz g1 ⟨_,_,_,c.aj 1 rfl 8,?_⟩
  by_cases g2:r>(C.cl.length:Int)
  .exact di g2 ⟨by rw[gZ,dT g2];simp,rfl⟩
  exact dz g2 ⟨_,_,_,c.aj 1 rfl 8,cBq (λd=>⟨_,c.aj 1 rfl 18,by rw[gZ,dF g1,dF g2,d];simp,rfl⟩) λd=>⟨by rw[gZ,dF g1,dF g2];simp;exact λh=>absurd h d,rfl⟩⟩
 rintro K b ⟨rfl,rfl⟩-
 cases he:gZ C r with
 |true=>exact cT rfl (Ex8<|Ex8<|⟨_,_,_,C.p,Ex8 ⟨_,_,c.cellsIn 1 rfl,c.aR 0 rfl C.cells rfl C.one λK N=>(Ex8<|Ex8<|⟨_,_,_,C.p,Ex8 ⟨_,_,N.cellsIn 0 rfl,C,rfl,rfl,λ_=>rfl,rfl,N.second.second⟩⟩)⟩⟩)
 |false=>
 have Q:0<=r/\r<=(C.cl.length:Int):=by
  simp only[gZ,cI,ct] at he;omega
 obtain⟨n,rfl⟩:=cZ Q.1;refine cF rfl ⟨λO=>∃D:Ck,(mh {D with ov:=false}).er=(jT C n).er/\D.s=C.s/\D.dp=C.dp/\St w0 O (Sep (ay m iX 41::ay f D.cells.toArray 41::held D.gi::M)),?_,_,_,_,c.aj 1 rfl 8,?_⟩
 .rintro O ⟨D,p,e,d,t⟩-;let E:Ck:={D with ov:=false};refine t.cL 1 rfl (j:=18) (by show 18<19;decide) rfl λy u=>?_;have g:St w0 y (Sep (held E.gi::ay m iX 41::ay f E.cells.toArray 41::M)):=(St.in2 u).weak (dU.left (jY λw h=>(⟨h.ask,h.bd,h.dp,h.cl,h.i,h.k⟩:E.gi w)));refine Ex8<|Ex8<|⟨_,_,_,E.p,Ex8 ⟨_,_,g.cellsIn 2 rfl,bg (AN g (by show D.dp.length<=1000;rw[d];omega)) ?_⟩⟩;rintro v z ⟨a,o,q,rfl,x⟩;exact Ex8<|Ex8<|⟨_,_,_,a.p,Ex8 ⟨_,_,rfl,x.aR 1 rfl a.cells rfl a.one λA B=>(Ex8<|Ex8<|⟨_,_,_,a.p,Ex8 ⟨_,_,B.cellsIn 1 rfl,a,o.trans p,q.trans e,λh=>(by cases h),rfl,St.ZJ B⟩⟩)⟩⟩
 by_cases v:(n:Int)<(C.cl.length:Int)
 rotate_left
 .have a:C.cl[n]?=none:=aJ (by omega);exact dz v ⟨C,by rw[jT,a];rfl,rfl,rfl,c⟩
 obtain⟨x,L⟩:=dX C.cl n (by omega);have W:=c.eu 2 rfl;obtain⟨q,V,F⟩:=W.cl.at L;obtain⟨x0,_⟩:=AL F;let o:Ck:={C with p:=x.p};refine di v ⟨_,_,_,c.aj 1 rfl 8,av V ⟨by omega,by omega,x.p,by rw[aq];exact x0,c.mA 1 9 rfl o.cells.toArray (show 15<=19 by decide) x.p.one rfl λw9 B=>B.aY #[] λZ z a=>?_⟩⟩;have a:=St.weak a (dU.left (ic (n:=0) (sz:=9) rfl (by decide)));have e:St w0 z (Sep (Is (qs Z) 0 []::ay m iX 41::ay f o.cells.toArray 41::held C.gi::M)):=a;have u:C.gi z:=e.eu 3 rfl;have U:=u.k;have el:(C.cl.take n).length=n:=by rw[aW];omega
 have P:o.kc=C.kc:=rfl;refine⟨_,_,_,e.aj 2 rfl 8,by omega,by omega,?_⟩;rw[YM,aq,fk,fk];have ap:=On (k:=C.kc) (l:=C.cl.take n) (R:=λt Y h I=>kB I ⟨f,8,none⟩ (.slice t Y h) λg=>∃D:Ck,(mh {D with ov:=false}).er=(jT C n).er/\D.s=C.s/\D.dp=C.dp/\St w0 g (Sep (ay m iX 41::ay f D.cells.toArray 41::held D.gi::M))) a (Dn.take u.cl n) (by omega) λt h J d=>?_
 .rw[el] at ap;exact ap
 have d:St w0 J (Sep (Is t h (C.cl.take n)::ay m iX 41::ay f o.cells.toArray 41::held C.gi::M)):=d;have G:(C.cl.take n).length<=h:=(xC (d.out 0 rfl).rowOf).1;let E:Ck:={o with cl:=C.cl.take n,ka:=t,kc:=h};refine d.cL 2 rfl (j:=8) (by show 8<19;decide) rfl λg H=>⟨E,by rw[jT,L];rfl,rfl,rfl,?_⟩;have t1:St w0 g (Sep (held C.gi::Is t h (C.cl.take n)::ay m iX 41::ay f E.cells.toArray 41::M)):=(H.eqv (fF.right (fF.right fF.sP))).eqv (fF.right fF.sP) |>.sP;have t2:=t1.kr (cV _) (dS Rn.len) (S:=E.gi) λw A T=>⟨A.ask,A.bd,A.dp,T,λy X=>A.i y (bC X),G⟩;exact(t2.sP).eqv (fF.right fF.sP)
end
end Go.Proofs.YtmhhlijfepaphaaGreatDoor
set_option maxHeartbeats 4000000
namespace Go.Proofs.YtmhhlijfepaphaaGreatDoor
open Go Go.Vc Go.Vt _root_.Go.Proofs.Tryz
def uQ:=many xP [en func28 [] [(107,[(10,.s .bool)]),(431,[(16,.s .bool)])],en func82 [] [(1018,[(12,.s (.int .i64))]),(32585,[(13,.s (.int .i64))]),(65170,[(75,.s .bool)])],en func83 [] []] (by conv=>lhs;reduce) (by kernel_rfl) λx=>by
 dsimp only[qq,qm,qk,qj,qy,qA,qB,GH,uv,en,FG,wrap,dc,dn,DH,gU,ID,U.I,U.B,U.S,U.N,U.A,U.O,U.W,U.V,U.L,U.U6,U.C,U.M,U.F,U.E,HV,HA,GM,zS,jU,gJ,vZ,vI,TJ,Nat.reduceSub,Nat.reduceAdd,Int.reduceOfNat,Int.reduceNeg,UInt8.reduceOfNat] at x
 exact x
def abM:=many xP [en func29 [] [(7,[(6,.s (.int .i64))]),(30079,[]),(30932982,[])]] (by conv=>lhs;reduce) (by kernel_rfl) λx=>by
 dsimp only[qq,qm,qk,qj,qy,qA,qB,GH,uv,en,FG,wrap,dc,dn,DH,gU,ID,U.I,U.B,U.S,U.N,U.A,U.O,U.W,U.V,U.L,U.U6,U.C,U.M,U.F,U.E,HV,HA,GM,zS,jU,gJ,vZ,vI,TJ,Nat.reduceSub,Nat.reduceAdd,Int.reduceOfNat,Int.reduceNeg,UInt8.reduceOfNat] at x
 exact x
def aaV:=many xP [en func11 [] [(63,[]),(126,[(39,.s .bool)])],en func9 [] [],en func150 [] [],en func93 [] [],en func39 [(0,.k (.s .blk))] [(250,[(3,.s .slice),(6,.s (.int .i64))])]] (by conv=>lhs;reduce) (by kernel_rfl) λx=>by
 dsimp only[qq,qm,qk,qj,qy,qA,qB,GH,uv,en,FG,wrap,dc,dn,DH,gU,ID,U.I,U.B,U.S,U.N,U.A,U.O,U.W,U.V,U.L,U.U6,U.C,U.M,U.F,U.E,HV,HA,GM,zS,jU,gJ,vZ,vI,TJ,Nat.reduceSub,Nat.reduceAdd,Int.reduceOfNat,Int.reduceNeg,UInt8.reduceOfNat] at x
 exact x
def abk:=many xP [en func14 [(0,.k (.s .blk))] [(30,[(68,.s .bool)]),(62,[(95,.s .bool)]),(506,[(8,.s (.int .i64))]),(8100,[(9,.s .bool)]),(32403,[(154,.s .bool)]),(2046,[(192,.s .bool)]),(16378,[(20,.s (.int .i64))])],en func3 [] [(506,[(7,.s (.int .i64))]),(16201,[(9,.s .blk),(10,.s (.int .i64))]),(64807,[(58,.s .bool)])]] (by conv=>lhs;reduce) (by kernel_rfl) λx=>by
 dsimp only[qq,qm,qk,qj,qy,qA,qB,GH,uv,en,FG,wrap,dc,dn,DH,gU,ID,U.I,U.B,U.S,U.N,U.A,U.O,U.W,U.V,U.L,U.U6,U.C,U.M,U.F,U.E,HV,HA,GM,zS,jU,gJ,vZ,vI,TJ,Nat.reduceSub,Nat.reduceAdd,Int.reduceOfNat,Int.reduceNeg,UInt8.reduceOfNat] at x
 exact x
def abu:=many xP [en func4 [] [(250,[(8,.s (.int .i64))]),(8008,[(39,.s .bool)])],en func5 [] [(6,[(17,.s .bool)]),(250,[(9,.s (.int .i64))]),(254,[(53,.s .bool)]),(2042,[(11,.s (.int .i64))])]] (by conv=>lhs;reduce) (by kernel_rfl) λx=>by
 dsimp only[qq,qm,qk,qj,qy,qA,qB,GH,uv,en,FG,wrap,dc,dn,DH,gU,ID,U.I,U.B,U.S,U.N,U.A,U.O,U.W,U.V,U.L,U.U6,U.C,U.M,U.F,U.E,HV,HA,GM,zS,jU,gJ,vZ,vI,TJ,Nat.reduceSub,Nat.reduceAdd,Int.reduceOfNat,Int.reduceNeg,UInt8.reduceOfNat] at x
 exact x
def Ib:=uQ.2.1
def P3:=uQ.2.2.1
def H8:=abM.1
def Ko:=aaV.1
def DM:=aaV.2.2.1
def Hu:=aaV.2.2.2.1
def D3:=abk.1
end Go.Proofs.YtmhhlijfepaphaaGreatDoor
namespace Go.Proofs.YtmhhlijfepaphaaGreatDoor
open Go Go.Vc _root_.Go.Proofs.Tryz
def Fs(w:ah)(k p:Int):CP 28 #[iv k,iv p] w (λr l=>r=.bool (iK k p)/\l=w):=by
 refine uQ.1 ?_
 by_cases d:k=1
 .exact gM d ⟨by rw[iK,ag d],rfl⟩
 refine iI d ⟨λb i=>b=decide (k=2\/k=3\/k=4)/\i=w,?_,?_⟩
 rotate_left
 .by_cases a:k=2
  .exact gM a ⟨by rw[dT (Or.inl a)];simpa using a,rfl⟩
  refine iI a (cBq (λc=>⟨by rw[dT (Or.inr (Or.inl c))];simpa using c,rfl⟩) λc=>⟨?_,rfl⟩)
  by_cases e:k=4
  .rw[dT (Or.inr (Or.inr e))];simpa using e
  rw[dF (by rintro(h|h|h);exact a h;exact c h;exact e h)];simpa using e
 rintro i b ⟨rfl,rfl⟩-
 by_cases a:k=2\/k=3\/k=4
 .exact di a ⟨by rw[iK,af d,ag a],rfl⟩
 refine dz a ⟨λb j=>b=decide (k=5\/k=6\/k=9)/\j=i,?_,?_⟩
 rotate_left
 .by_cases c:k=5
  .exact gM c ⟨by rw[dT (Or.inl c)];simpa using c,rfl⟩
  refine iI c (cBq (λe=>⟨by rw[dT (Or.inr (Or.inl e))];simpa using e,rfl⟩) λe=>⟨?_,rfl⟩)
  by_cases f:k=9
  .rw[dT (Or.inr (Or.inr f))];simpa using f
  rw[dF (by rintro(h|h|h);exact c h;exact e h;exact f h)];simpa using f
 rintro j b ⟨rfl,rfl⟩-
 by_cases c:k=5\/k=6\/k=9
 .exact di c ⟨by rw[iK,af d,af a,ag c],rfl⟩
 refine dz c ?_
 by_cases g:k=7
 .have e:iK k p=(decide (1<=p)&&decide (p<=3)):=by rw[iK,af d,af a,af c,ag g]
  exact gM g (cBq (λf=>⟨by rw[e,dT (f),aO],rfl⟩) λf=>⟨by rw[e,dF (f)];rfl,rfl⟩)
 refine iI g ?_
 by_cases h:k=8
 .have e:iK k p=(p==1||p==2):=by rw[iK,af d,af a,af c,af g,ag h]
  exact gM h (cBq (λf=>⟨by rw[e,f];rfl,rfl⟩) λf=>⟨by rw[e,aC.2 f,fO],rfl⟩)
 exact iI h ⟨by rw[iK,af d,af a,af c,af g,af h],rfl⟩
structure Rs where
 o:Po
 ph:Int
 s:Se
 C:Ck
 has:List Bool
 ex:List Xv
 out:List Bool
 dec:Int
 cnt:Int
 dig:Int
 ha:Option Addr
 hc:Nat
 ea:Option Addr
 ec:Nat
 oa:Option Addr
 oc:Nat
def Rs.cells(R:Rs):List Value:=R.o.cells++(iv R.ph::(R.s.arr.toList++(R.C.cells++[.slice R.ha R.has.length R.hc,.slice R.ea R.ex.length R.ec,.slice R.oa R.out.length R.oc,.int .u64 R.dec,iv R.cnt,.int .u64 R.dig])))
structure Rs.Q6 (R:Rs) (w:ah):Prop where
 s:R.s.In w
 C:R.C.gi w
 has:iA 1 bl w R.ha R.has
 ex:iA 9 Xv.cells w R.ea R.ex
 ei:y9 R.ex w
 out:iA 1 bl w R.oa R.out
def Rs.Q6.aK{R:Rs}{w a:ah}(h:R.Q6 w)(hc:aZ w a []):R.Q6 a:=⟨h.s.aK hc,h.C.aK hc,h.has.aK hc,h.ex.aK hc,λx b=>(h.ei x b).aK hc,h.out.aK hc⟩
structure Rs.kz (R:Rs) (w:ah):Prop where
 s:R.s.In w
 has:iA 1 bl w R.ha R.has
 ex:iA 9 Xv.cells w R.ea R.ex
 ei:y9 R.ex w
 out:iA 1 bl w R.oa R.out
def Rs.Q6.of{R:Rs}{w:ah}(h:R.C.gi w)(k:R.kz w):R.Q6 w:=⟨k.s,h,k.has,k.ex,k.ei,k.out⟩
def KE{w:ah}{R:Rs}{n:Nat}{y:Br}(K:R.Q6 w)(hC:R.C.Ok)(P:R.s.Ok)(hn:n<R.C.s.bd.length)(hy:R.s.bd[n]?=some y)(t:List UInt8):
  CP 82 #[.agg R.cells.toArray,iv n,sv t] w (λr U=>∃x:Xv,(kG R.s R.C n y t=0->x.er=(fV R.s.ps t).1)/\r=.tuple #[.agg x.cells.toArray,iv (kG R.s R.C n y t)]/\St w U (held x.In)):=by
 refine @Ib _ _ _ _ _ _ _ _ _ _ _ _ _ _ _ _ _ _ _ _ _ _ _ _ _ _ _ _ _ _ _ _ _ _ _ _ R.C.p _ _ _ _ _ _ _ _ _ _ _ _ _ _ _ _ _ _ _ _ _ _ _ _ _ _ ?_;have hn':=(ai.1 hy).1;have z2:=P.bd.l2;have hm:=sup_le P.ps;have hmq:=leq hm;have Y:=IC P.ps;refine bE R.cells.toArray λZ w1 s1=>s1.aY gj.cells.toArray λS w2 s2=>⟨_,_,_,s2.aj 1 rfl 5,bg (Ms (K.aK s2.aK).s.ps P.ps t) ?_⟩;rintro v X ⟨x,ex,rfl,k3⟩;have s3:St w X (Sep [held x.In,ay S gj.cells.toArray 73,ay Z R.cells.toArray 45,emp]):=s2.and k3;refine⟨_,x.u,Ex4 ⟨_,rfl,s3.aY gj.cells.toArray λr3 w4 s4=>s4.aR 0 rfl x.cells rfl x.one λw5 s5=>?_⟩⟩;have z:∀{k:Int} {U:ah} {m:List bP} {i:Nat},St w U (Sep m)->m[i]?=some (ay S gj.cells.toArray 73)->k≠0->kG R.s R.C n y t=k ->
   yY ⟨S,0,none⟩ 0 gj.cells U λX=>∃(f:Int) (h:I6) (g:Int) (b:OA) (d c:Nat),aU X ⟨S,0,none⟩ 0 (iv f::h.on [iv g,.slice b d c]) /\
    ∃x:Xv,(kG R.s R.C n y t=0->x.er=(fV R.s.ps t).1)/\Value.tuple #[.agg (iv f::h.on [iv g,.slice b d c]:List Value).toArray,iv k]=.tuple #[.agg x.cells.toArray,iv (kG R.s R.C n y t)]/\St w X (held x.In):=λ{k U m i} s e a Y=>
  s.aR i e gj.cells rfl (Xv.one _) λX s3=>⟨_,z6,_,_,_,_,s3.cellsIn (cs:=gj.cells.toArray) (T:=73) i (cN (kL e)),gj,λh=>absurd (Y.symm.trans h) a,by rw[Y];rfl,((St.start' s3.aK).one.oM wk).first⟩
 by_cases I:(fV R.s.ps t).2=0
 rotate_left
 .exact gM I (z s5 (i:=2) rfl I (by rw[kG,ag I]))
 have hx0:j4 x=0:=by rw[<-vz,ex];exact BC I
 have hz:=uM hx0;have H:kG R.s R.C n y t=if qQ x (dD R.s.ps)≠0 then qQ x (dD R.s.ps) else if HI R.s n y (qf x (dD R.s.ps))≠0 then HI R.s n y (qf x (dD R.s.ps)) else CE (p9 R.C n) (qf x (dD R.s.ps)):=by
  rw[kG,af (by simpa using I),<-ex,HR,HS]
 have s6:=s5.quiet (aZ.drew w5 []);refine iI I ⟨_,x.u,_,_,_,_,s6.cellsIn 0 rfl,_,_,_,s6.aj 3 rfl 5,s6.qu (rI (K.aK s6.aK).s.ps) λw7 s7=>⟨_,rfl,s7.cellsIn 0 rfl,bg (B5 hmq Y (by omega) (s7.eu 1 rfl)) ?_⟩⟩;rintro v w8 (⟨N,rfl,c8⟩|⟨N,hlen,a,c,rfl,k8⟩)
 .exact⟨_,_,_,_,rfl,gM N (z (s7.quiet c8) (i:=2) rfl N (by rw[H,ag N]))⟩
 rw[af (by simpa using N)] at H;generalize hl:qf x (dD R.s.ps)=l at *;let M:List bP:=[dB a c l,ay r3 x.cells.toArray 73,held x.In,ay S gj.cells.toArray 73,ay Z R.cells.toArray 45,emp];have s8:St w w8 (Sep M):=s7.and k8.single;obtain⟨_,q,hq,hcy⟩:=(K.aK s8.aK).s.bd n y hy;refine⟨_,_,_,_,rfl,cF rfl ⟨_,_,_,s8.aj 4 rfl 6,av hq ⟨by omega,by omega,_,by have:=bX hcy 2 _ rfl;rwa [az] at this,⟨λi s m=>∃k:Nat,i=k/\k<=l.length/\m=l.length-k/\(∀o∈l.take k,iO R.s n y o.want=0/\¬ (y.bud≠0/\y.bud<o.v))/\St w s (Sep M),⟨l.length,0,rfl,by omega,by omega,by simp,s8⟩,?_⟩⟩⟩⟩;rintro s m i ⟨k,rfl,hk,hm10,g,B⟩-
 by_cases L:(k:Int)<(l.length:Int)
 .obtain⟨o,A⟩:=dX l k (by omega);have D:=B.quiet (aZ.drew s []);obtain⟨q2,hq2,hc2⟩:=(St.rd Of.len (D.out 0 rfl)).at A;have J:=S6 g A;have Q:aU s.drew ⟨Z,5,none⟩ 0 R.s.arr.toList:=fm _ 0 λj v f=>by
   rw[gW,az,D.aj 4 rfl];have b:j<4:=(ai.1 f).1
   match j,b with
   |0,_|1,_|2,_|3,_=>exact f
  have E:aU s.drew (Addr.add (Addr.add q2 (((k:Nat):Int).toNat*8)) 1) 0 o.want.vs:=fm _ 0 λj v f=>by
   have b:j<6:=(ai.1 f).1;have:=bX hc2 (1+j) v (by
    match j,b,f with
    |0,_,f|1,_,f|2,_,f|3,_,f|4,_,f|5,_,f=>exact f)
   rw[az] at this⊢;rw[Addr.add_add];rw[Addr.add_add] at this⊢;rw[aq];exact this
  refine di L (Ex8<|Ex4<|⟨Q,av hq2 ⟨by omega,by omega,o.want,E,D.qu (sO (K.aK D.aK).s P hy o.want) λw11 F=>⟨_,rfl,λe V=>e=(if iO R.s n y o.want≠0 then iO R.s n y o.want else if y.bud≠0/\y.bud<o.v then 17 else 0)/\St w V (Sep M),?_,λb W=>b=decide (iO R.s n y o.want=0/\y.bud≠0/\y.bud<o.v)/\W=w11,?_,?_⟩⟩⟩)
  .rintro V e ⟨rfl,G⟩-
   by_cases d:iO R.s n y o.want=0
   .rw[af (λh=>h d)] at J;rw[af (λh=>h d)]
    by_cases r:y.bud≠0/\y.bud<o.v
    .rw[ag r] at J;rw[ag r];exact cT (by decide) (z G (i:=3) rfl (by decide) (by rw[H,J];rfl))
    rw[af r];refine cF (by decide) (mS (by omega) ⟨λo' O=>?_,G⟩);rw[bJ A] at O;rcases aB.1 O with h|h
    .exact g o' h
    rw[aI.1 h];exact⟨d,r⟩
   rw[ag d] at J⊢;exact gM d (z G (i:=3) rfl d (by rw[H,J,ag d]))
  .rintro W b ⟨rfl,rfl⟩-;refine cBq (λr=>⟨by rw[af (λh=>h r.1),ag r.2],F⟩) λr=>⟨?_,F⟩
   by_cases d:iO R.s n y o.want=0
   .rw[af (λh=>h d),af (λh=>r ⟨d,h⟩),d]
   rw[ag d]
  refine cBq (λd=>?_) λd=>⟨by rw[dF λh=>d h.1],rfl⟩
  by_cases r:y.bud=0
  .exact iI r ⟨by rw[dF λh=>h.2.1 r],rfl⟩
  obtain⟨q3,hq3,O⟩:=(St.rd Of.len (F.out 0 rfl)).at A;refine gM r (av hq3 ⟨by omega,by omega,o.v,by have:=bX O 7 _ rfl;rwa [az] at this,?_,rfl⟩)
  by_cases G:y.bud<o.v
  .rw[dT G,dT ⟨d,r,G⟩]
  rw[dF G,dF λh=>G h.2.2]
 obtain rfl:k=l.length:=by omega
 rw[aH] at g;have G:HI R.s n y l=0:=by rw[Al l l.length (by rw[aH];exact g),gH];rfl
 rw[G,af (by decide)] at H;have r:oA R.C n=p9 R.C n:=by
  unfold oA;rw[af (by omega)];rfl
 have h:aU s ⟨Z,9,none⟩ 0 R.C.cells:=fm _ 0 λj v f=>by
  rw[gW,az,B.aj 4 rfl];have b:j<19:=(ai.1 f).1
  match j,b with
  |0,_|1,_|2,_|3,_|4,_|5,_|6,_|7,_|8,_|9,_|10,_|11,_|12,_|13,_|14,_|15,_|16,_|17,_|18,_=>exact f
 refine dz L (Ex8<|Ex8<|⟨_,_,_,R.C.p,Ex8 ⟨_,_,h,bg (vM (K.aK B.aK).C hC n) ?_⟩⟩);rintro v D ⟨E,F,rfl,A⟩;have b:St w D (Sep (CG E F (oA R.C n)::M)):=B.and A;rw[r] at b⊢;exact⟨_,_,_,rfl,b.qu (Mm (St.rd Ch.len (b.out 0 rfl)) (by unfold p9;rw[bu];have:=hC.cl;omega) (FQ hC) (St.rd Of.len (b.out 1 rfl)) (by omega)) λJ d=>⟨_,_,rfl,_,x.u,_,_,_,_,d.cellsIn 2 rfl,d.aR 4 rfl x.cells rfl x.one λO e=>⟨_,x.u,_,_,_,_,e.cellsIn 4 rfl,x,λ_=>ex,by rw[H];rfl,(e.aM [3]).single⟩⟩⟩
def Lu(S:Se)(n:Nat)(y:Br)(u:I6)(v:Int):Prop:=(v<1\/v>1000000)\/iO S n y u≠0\/u=z6\/(y.bud≠0/\y.bud<v)
def TO{S:Se}{n:Nat}{y:Br}{l:List KV}{u:I6}{v:Int}(h:Lu S n y u v):pG S n y l u v=l:=by
 unfold pG;rw[ag];rcases h with h|h|h|h
 .exact .inl h
 .exact .inr (.inl h)
 .exact .inr (.inr (.inl h))
 exact .inr (.inr (.inr (.inl h)))
def zq{S:Se}{n:Nat}{y:Br}{l:List KV}{u:I6}{v:Int}(h:¬ Lu S n y u v):pG S n y l u v=if (jW l u).isSome=false/\40<=l.length then l else rW l u (if v>(jW l u).getD 0 then v else (jW l u).getD 0):=by
 unfold pG
 by_cases g:(jW l u).isSome=false/\40<=l.length
 .rw[ag g,ag (.inr (.inr (.inr (.inr g))))]
 rw[af g,af];rintro(k|k|k|k|k)
 .exact h (.inl k)
 .exact h (.inr (.inl k))
 .exact h (.inr (.inr (.inl k)))
 .exact h (.inr (.inr (.inr k)))
 exact g k
set_option maxHeartbeats 4000000 in
theorem TW{w0 w:ah}{R:Rs}{a:OA}{c n:Nat}{kv:List KV}{u:I6}{v:Int}{y:Br}{B:bP}(s:St w0 w (Sep [dB a c (qE n kv),B]))(hR:R.s.In w0)(hs:R.s.Ok)(hy:R.s.bd[n]?=some y)(hn:(kv.map (·.1)).Nodup)(hl:kv.length<=40):
  CP 98 #[.agg R.cells.toArray,.slice a (qE n kv).length c,.agg (⟨n,u,v⟩:Of).cells.toArray] w (λr m=>∃E F,r=.slice E (qE n (pG R.s n y kv u v)).length F/\St w0 m (Sep [dB E F (qE n (pG R.s n y kv u v)),B])):=by
 refine @P4 _ _ _ _ _ _ _ _ _ _ _ _ _ _ _ _ _ _ _ _ _ _ _ _ _ _ _ _ _ _ _ _ _ _ _ _ R.C.p _ _ _ _ _ _ _ _ _ _ _ _ _ _ _ _ _ _ _ _ _ _ _ _ _ _ u _ _ _ ?_;have z2:=hs.bd.l2;have hnb:=(ai.1 hy).1;have eL:=zT n kv;have hS:=Jb (i:=n) hn;have r:pG R.s n y kv u v=kv->∀m E F,St w0 m (Sep [dB E F (qE n kv),B])->∃a2 c2,Value.slice E (qE n kv).length F = .slice a2 (qE n (pG R.s n y kv u v)).length c2/\St w0 m (Sep [dB a2 c2 (qE n (pG R.s n y kv u v)),B]):=λe m E F Q=>by
  rw[e];exact⟨_,_,rfl,Q⟩
 have I:∀(j:Nat) (z:Of),(qE n kv)[j]?=some z->z.want=u->¬ Lu R.s n y u v->(qE n kv).set j {z with v:=if v>z.v then v else z.v}=qE n (pG R.s n y kv u v):=λj z d V l=>by
  have U:=((wM hn z).1 (ak d)).2;rw[V] at U;have e:pG R.s n y kv u v=rW kv u (if v>z.v then v else z.v):=by rw[zq l,U];exact af (by simp)
  rw[YH hn d,V,e]
 have H:∀(j:Nat),kv.length<40->¬ Lu R.s n y u v->(∀z∈(qE n kv).take j,IN z.want u=true)->(∀z,(qE n kv)[j]?=some z->IN u z.want=true)->(qE n kv).take j++⟨n,u,v⟩::(qE n kv).drop j=qE n (pG R.s n y kv u v):=λj o l U J=>by
  obtain⟨f,b⟩:=RJ (v:=v) hn U J;have g:1<=v:=by
   rcases kY v 1 with h|h
   .exact absurd (.inl (.inl h)) l
   exact h
  rw[f,zq l,af (λh=>by omega),b,Option.getD_none,ag (by omega)]
 have O:∀(j:Nat),40<=kv.length->¬ Lu R.s n y u v->(∀z∈(qE n kv).take j,IN z.want u=true)->(∀z,(qE n kv)[j]?=some z->IN u z.want=true)->pG R.s n y kv u v=kv:=λj o l U J=>by
  obtain⟨_,b⟩:=RJ (v:=v) hn U J;rw[zq l,ag ⟨by rw[b];rfl,o⟩]
 generalize qE n kv=L at *;refine s.aY R.cells.toArray λr1 w1 s1=>s1.aY _ λr2 w2 f=>?_;let X:Of:=⟨n,u,v⟩;let M:List bP:=[dB a c L,ay r2 X.cells.toArray 70,ay r1 R.cells.toArray 45,B];have f:=(f).aM [2,0,1,3];have out:∀{m},St w0 m (Sep M)->St w0 m (Sep [dB a c L,B]):=λQ=>Q.aM [0,3];obtain⟨q,P,hcq⟩:=((hR.aK f.aK).bd n y hy).2;have G:=bX hcq 2 (iv y.bud) rfl;rw[az] at G;refine⟨_,_,_,f.aj 2 rfl 6,(n:Int),f.aj 1 rfl 0,av P ⟨by omega,by omega,y.bud,by rw[aq];exact G,λb w3=>(b=true->Lu R.s n y u v)/\(b=false->¬ Lu R.s n y u v)/\St w0 w3 (Sep M),?_,_,f.aj 1 rfl 7,?_⟩⟩
 rotate_left
 .by_cases g1:v<1
  .exact di g1 ⟨λ_=>.inl (.inl g1),λh=>(by cases h),f⟩
  refine dz g1 ⟨_,f.aj 1 rfl 7,?_⟩
  by_cases g2:v>1000000
  .exact di g2 ⟨λ_=>.inl (.inr g2),λh=>(by cases h),f⟩
  refine dz g2 (Ex8<|Ex4<|⟨f.bA 2 5 rfl rfl,(n:Int),f.aj 1 rfl 0,u,f.bA 1 1 rfl rfl,f.qu (sO (hR.aK f.aK) hs hy u) λw3 D=>⟨_,rfl,?_⟩⟩)
  by_cases g:iO R.s n y u=0
  rotate_left
  .exact gM g ⟨λ_=>.inr (.inl g),λh=>(by cases h),D⟩
  refine cF (by rw[g];rfl) ⟨u,D.bA 1 1 rfl rfl,?_⟩;rw[I6.beq_eq];refine cBq (λt=>⟨λ_=>.inr (.inr (.inl t)),λh=>(by cases h),D⟩) λt=>?_
  by_cases A:y.bud=0
  .refine cF (by rw[A];rfl) ⟨λh=>(by cases h),λ_=>?_,D⟩;rintro((k|k)|k|k|k)
   .exact g1 k
   .exact g2 k
   .exact k g
   .exact t k
   exact k.1 A
  refine gM A ⟨_,D.aj 1 rfl 7,λh=>.inr (.inr (.inr ⟨A,dG h⟩)),λh=>?_,D⟩;rintro((k|k)|k|k|k)
  .exact g1 k
  .exact g2 k
  .exact k g
  .exact t k
  exact of_decide_eq_false h k.2
 rintro w3 b ⟨K,N,D⟩-
 cases b with
 |true=>exact cT rfl (r (TO (K rfl)) _ _ _ (out D))
 |false=>
 have l:=N rfl;refine cF rfl ⟨λi Z m5=>∃j:Nat,i=j/\j<=L.length/\m5=L.length-j/\(∀z∈L.take j,IN z.want u=true)/\St w0 Z (Sep M),⟨L.length,0,rfl,by omega,by omega,by simp,D⟩,?_⟩;rintro Z m5 i ⟨j,rfl,hj,hm5,W,s5⟩-;refine⟨λb w6=>(b=true->∃z,L[j]?=some z/\IN z.want u=true)/\(b=false->∀z,L[j]?=some z->IN z.want u=false)/\St w0 w6 (Sep M),?_,?_⟩
 rotate_left
 .by_cases g:(j:Int)<(L.length:Int)
  .obtain⟨z,d⟩:=dX L j (by omega);have S:=s5.quiet (aZ.drew Z []);obtain⟨q,P,k⟩:=(St.rd Of.len (S.out 0 rfl)).at d;exact di g (av P ⟨by omega,by omega,z.want,rU k,u,S.bA 1 1 rfl rfl,bF (AE _ z.want u) λw7 t=>⟨_,rfl,λh=>⟨z,d,h⟩,λh z' A=>by rw[d] at A;cases A;exact h,S.quiet t⟩⟩)
  exact dz g ⟨λh=>(by cases h),λ_ z d=>by have:=(ai.1 d).1;omega,s5.quiet (aZ.drew Z [])⟩
 rintro w6 b ⟨K,N,S⟩-
 cases b with
 |true=>
  obtain⟨z,d,Y⟩:=K rfl;have:=(ai.1 d).1;exact cT rfl (mS (by omega) ⟨λt T=>by
   rw[bJ d] at T;rcases aB.1 T with T|T
   .exact W t T
   rw[aI.1 T];exact Y,S⟩)
 |false=>
 have hB:=N rfl;refine cF rfl ⟨λb w7=>(b=true->∃z,L[j]?=some z/\z.want=u)/\(b=false->∀z,L[j]?=some z->z.want≠u)/\St w0 w7 (Sep M),?_,?_⟩
 rotate_left
 .by_cases g:(j:Int)<(L.length:Int)
  .obtain⟨z,d⟩:=dX L j (by omega);have T:=S.quiet (aZ.drew w6 []);obtain⟨q,P,k⟩:=(St.rd Of.len (T.out 0 rfl)).at d;refine di g (av P ⟨by omega,by omega,z.want,rU k,u,T.bA 1 1 rfl rfl,?_⟩);rw[I6.beq_eq];exact⟨λh=>⟨z,d,dG h⟩,λh z' A=>by rw[d] at A;cases A;exact of_decide_eq_false h,T⟩
  exact dz g ⟨λh=>(by cases h),λ_ z d=>by have:=(ai.1 d).1;omega,S.quiet (aZ.drew w6 [])⟩
 rintro w7 b ⟨hb3,hb4,T⟩-
 cases b with
 |true=>
  obtain⟨z,d,V⟩:=hb3 rfl;have hjl:=(ai.1 d).1;refine cT rfl (T.aY #[] λr5 w8 t=>?_);have t:St w0 w8 (star (dB (qs r5) 0 []) (Sep M)):=St.weak t (dU.left (ic (n:=0) (sz:=8) rfl (by decide)));refine dW (l2:=L) vO Of.len Of.one t (St.rd Of.len ((St.IS t).out 1 rfl)) (by simp only[aT];omega) (by simp only[aT];omega) λa9 c9 w9 Y=>?_;rw[bZ] at Y⊢;have Y:St w0 w9 (Sep (dB a9 c9 L::M)):=Y;refine⟨λm=>St w0 m (Sep [dB a9 c9 (qE n (pG R.s n y kv u v)),B]),λm Q _=>⟨_,_,by rw[<-I j z d V l,bf],Q⟩,?_⟩;have h:=Y.quiet (aZ.drew w9 []);obtain⟨g,hg⟩:=(h.out 0 rfl).kN (by omega:0<L.length);subst hg;obtain⟨q,P,k⟩:=(St.rd Of.len (h.out 0 rfl)).at d
  cases P
  have e:=I j z d V l;refine⟨_,h.aj 2 rfl 7,av rfl ⟨by omega,by omega,z.v,HQ k,?_⟩⟩
  by_cases A:v>z.v
  .rw[ag A] at e;refine di A ⟨_,h.aj 2 rfl 7,av rfl ⟨by omega,by omega,?_⟩⟩;rw[aq,wq,gW];refine St.OE (x':={z with v:=v}) (j:=7) Of.len d (by decide) rfl rfl (h.out 0 rfl) λw11 s11=>?_;rw[<-e];have s12:St w0 w11 (Sep (dB (qs g) c9 (L.set j {z with v:=v})::M)):=s11;exact s12.aM [0,4]
  rw[af A] at e;refine dz A ?_;rw[<-e,show L.set j {z with v:=z.v}=L from tC d];exact h.aM [0,4]
 |false=>
 have h:=hb4 rfl;have J:∀z,L[j]?=some z->IN u z.want=true:=λz d=>HJ (x:=X) (y:=z) (hB z d) λe=>h z d e.symm;refine cF rfl ?_
 by_cases o:(L.length:Int)>=40
 .exact di o (r (O j (by omega) l W J) _ _ _ (out T))
 have t:=T.quiet (aZ.drew w7 []);have g:=(St.nj (t.out 0 rfl)).1;exact dz o ⟨by omega,by omega,n,u,v,t.cellsIn 1 rfl,by omega,by omega,JI (x:=X) t hj (by omega) λE F m Q=>⟨E,F,by rw[H j (by omega) l W J],by rw[<-H j (by omega) l W J];exact Q.aM [0,4]⟩⟩
def Rs.Fx(R:Rs)(n:Nat)(x:Xv)(b:Bool)(ha:OA)(hc:Nat)(ea:OA)(ec:Nat):Rs:={R with has:=R.has.set n b,ex:=R.ex.set n x,ha:=ha,hc:=hc,ea:=ea,ec:=ec}
def Rs.one(R:Rs):∀v∈R.cells,v.oneCell'=true:=by
 intro v a;simp only[Rs.cells,Po.cells,aB,aP,dR,iS] at a;rcases a with h|rfl|h|h|h
 .rcases h with rfl|rfl|rfl|rfl<;>rfl
 .rfl
 .exact R.s.one v h
 .exact R.C.one v h
 rcases h with rfl|rfl|rfl|rfl|rfl|rfl<;>rfl
def Ep{w0 w:ah}{R:Rs}{x:Xv}{M:List bP}(s:St w0 w (Sep (held R.kz::held x.In::M))){n:Nat}{b:Bool}(Z:n<R.has.length)(N:n<R.ex.length)(d:R.has.length<=1000)(k:R.ex.length<=1000):
  CP 83 #[.agg R.cells.toArray,iv n,.agg x.cells.toArray,.bool b] w (λr a=>∃ha hc ea ec,r=.agg (R.Fx n x b ha hc ea ec).cells.toArray/\St w0 a (Sep (held (R.Fx n x b ha hc ea ec).kz::M))):=by
 refine @P3 _ _ _ _ _ _ _ _ _ _ _ _ _ _ _ _ _ _ _ _ _ _ _ _ _ _ _ _ _ _ _ _ _ _ _ _ R.C.p _ _ _ _ _ _ _ _ _ _ _ _ _ _ _ _ _ _ _ _ _ _ _ _ x.u _ _ _ _ _ _ _ (s.aY R.cells.toArray λr w1 P=>P.aY x.cells.toArray λt w2 Q=>Q.aY _ λz w3 S=>S.aY #[] λr4 w4 I=>⟨_,_,_,I.aj 3 rfl 28,?_⟩);have D:=I.eu 4 rfl;have t4:=St.weak I (dU.left (ic (n:=0) (sz:=1) rfl (by decide)));refine dW (l:=[]) (l2:=R.has) yK iH A7 t4 D.has (by simp only[aT];omega) (by simp only[aT];omega) λha hc X A=>?_;rw[bZ] at A⊢;have A:St w0 X (Sep (nX ha hc R.has::ay z _ 45::ay t x.cells.toArray 73::ay r R.cells.toArray 45::held R.kz::held x.In::M)):=A;let B:Rs:={R with ha:=ha,hc:=hc};refine A.cL 3 rfl (j:=28) (by show 28<34;decide) rfl λw6 T=>T.aY #[] λr5 w7 J=>⟨_,_,_,J.aj 4 rfl 29,?_⟩;have E:=J.eu 5 rfl;have t7:=St.weak J (dU.left (ic (n:=0) (sz:=9) rfl (by decide)));refine dW (l:=[]) (l2:=R.ex) QB Xv.len Xv.one t7 E.ex (by simp only[aT];omega) (by simp only[aT];omega) λea ec Y m=>?_;rw[bZ] at m⊢;have m:St w0 Y (Sep (Cd ea ec R.ex::nX ha hc R.has::ay z _ 45::ay t x.cells.toArray 73::ay r B.cells.toArray 45::held R.kz::held x.In::M)):=m;obtain⟨ge,rfl⟩:=(m.out 0 rfl).kN (by omega);obtain⟨f,rfl⟩:=(m.out 1 rfl).kN (by omega);let q:Rs:={B with ea:=qs ge,ec:=ec};refine m.cL 4 rfl (j:=29) (by show 29<34;decide) rfl λw9 K=>⟨qs f,R.has.length,hc,K.aj 4 rfl 28,av rfl ⟨by omega,by omega,?_⟩⟩;rw[aq];refine St.kP (v:=.bool) (x:=b) rfl (K.out 1 rfl) (i:=n) (by omega) λU a=>?_;have a:=a.back (i:=1) (l:=Cd (qs ge) ec R.ex::nX (qs f) hc R.has::ay z _ 45::ay t x.cells.toArray 73::ay r q.cells.toArray 45::held R.kz::held x.In::M) (by simp);refine⟨qs ge,R.ex.length,ec,a.aj 4 rfl 29,_,x.u,_,_,_,_,a.cellsIn 3 rfl,av rfl ⟨by omega,by omega,St.wh Xv.len (x:=x) (Xv.one _) (a.out 0 rfl) (i:=n) (by omega) λV c=>?_⟩⟩;have c:=c.back (i:=0) (l:=Cd (qs ge) ec R.ex::nX (qs f) hc (R.has.set n b)::ay z _ 45::ay t x.cells.toArray 73::ay r q.cells.toArray 45::held R.kz::held x.In::M) (by simp);let g:Rs:=R.Fx n x b (qs f) hc (qs ge) ec;have L:q.cells=g.cells:=by simp[g,q,B,Rs.Fx,Rs.cells]
 rw[L] at c;refine Ex8<|Ex8<|Ex8<|Ex8<|Ex4<|⟨R.C.p,Ex8<|Ex8<|Ex4<|⟨_,_,c.cellsIn 4 rfl,c.aR 2 rfl g.cells rfl g.one λW o=>(Ex8<|Ex8<|Ex8<|Ex8<|Ex4<|⟨R.C.p,Ex8<|Ex8<|Ex4<|⟨_,_,St.cellsIn (cs:=g.cells.toArray) o 2 rfl,qs f,hc,qs ge,ec,rfl,?_⟩⟩)⟩⟩;have F:=o.kr (dS Xv.len) (dS iH) λw d k=>(⟨d,k⟩:iA 9 Xv.cells w (qs ge) (R.ex.set n x)/\iA 1 bl w (qs f) (R.has.set n b));have G:=F.sP.second.sP.second.sP.second;have H:=St.kr (l:=held x.In::M) G (cV _) (cV _) λw d k=>(⟨d,k⟩:(iA 9 Xv.cells w (qs ge) (R.ex.set n x)/\iA 1 bl w (qs f) (R.has.set n b))/\R.kz w);exact H.kr (cV _) (cV _) λw d k=>(⟨d.2.s,d.1.2,d.1.1,λy O=>(cO O).elim (λh=>d.2.ei y h) (λe=>by rw[e];exact k),d.2.out⟩:g.kz w)
def opA(g:Option Nat):Option Addr:=g.map λg=>⟨g,0,none⟩
def Rs.U4(R:Rs)(n:Nat)(h e o:Option Nat)(bh be bo:Bool):Rs:=
 {R with has:=if bh then List.replicate n false else R.has,ha:=if bh then opA h else R.ha,hc:=if bh then n else R.hc,ex:=if be then List.replicate n gj else R.ex,ea:=if be then opA e else R.ea,ec:=if be then n else R.ec,out:=if bo then List.replicate n false else R.out,oa:=if bo then opA o else R.oa,oc:=if bo then n else R.oc}
def Yj(n:Nat):Option Nat->bP
 |some g=>nX (qs g) n (List.replicate n false)
 |none=>emp
def ab8(n:Nat):Option Nat->bP
 |some g=>Cd (qs g) n (List.replicate n gj)
 |none=>emp
def GK(w0:ah)(r1:Nat)(R:Rs)(n:Nat)(M:List bP)(h e o:Option Nat)(bh be bo:Bool)(w:ah):Prop:=
 St w0 w (Sep (ay r1 (R.U4 n h e o bh be bo).cells.toArray 45::Yj n h::ab8 n e::Yj n o::M))
section
variable {w0 w:ah} {r1 n:Nat} {R:Rs} {M:List bP} {h e o:Option Nat} {bh be bo:Bool}
def Iu{A:bP}{L:List bP}{i:Nat}(s:St w0 w (star A (Sep L)))(hi:L[i]?=some emp):St w0 w (Sep (L.set i A)):=by
 have a:=(ai.1 hi).1;have b:St w0 w (Sep (A::L)):=s;have c:St w0 w (star emp (star A (Sep (L.eraseIdx i)))):=(St.out b (i+1) (A:=emp) (by simpa using hi));have d:=c.second;exact d.back a
def L6(f:n<=1000)(s:GK w0 r1 R n M none e o false be bo w){K:Option Addr->Nat->Nat->ah->Prop}(k:∀g b,GK w0 r1 R n M (some g) e o false be bo b->K (qs g) n n b):
  kg prog (Instr.makeSlice 39 (iv n) (iv n)) w λe d=>∃a l c,e=.slice a l c/\K a l c d:=
 iD yK iH (x:=false) rfl s (by omega) (by omega) λg b _ a=>k g b (Iu (i:=1) a rfl)
def CA(f:n<=1000)(s:GK w0 r1 R n M h e none bh be false w){K:Option Addr->Nat->Nat->ah->Prop}(k:∀g b,GK w0 r1 R n M h e (some g) bh be false b->K (qs g) n n b):
  kg prog (Instr.makeSlice 39 (iv n) (iv n)) w λe d=>∃a l c,e=.slice a l c/\K a l c d:=
 iD yK iH (x:=false) rfl s (by omega) (by omega) λg b _ a=>k g b (Iu (i:=3) a rfl)
def Cz(f:n<=1000)(s:GK w0 r1 R n M h none o bh false bo w){K:Option Addr->Nat->Nat->ah->Prop}(k:∀g b,GK w0 r1 R n M h (some g) o bh false bo b->K (qs g) n n b):
  kg prog (Instr.makeSlice 42 (iv n) (iv n)) w λe d=>∃a l c,e=.slice a l c/\K a l c d:=
 iD QB Xv.len (x:=gj) rfl s (by omega) (by omega) λg b _ a=>k g b (Iu (i:=2) a rfl)
def AP{g:Nat}(s:GK w0 r1 R n M (some g) e o false be bo w){K:ah->Prop}(k:∀a,GK w0 r1 R n M (some g) e o true be bo a->K a):kB w ⟨r1,28,none⟩ (.slice (qs g) n n) K:=
 St.cL s 0 rfl (j:=28) (by show 28<34;decide) rfl λa c=>k a (by
  have b:(R.U4 n (some g) e o false be bo).cells.toArray.setIfInBounds 28 (.slice (qs g) n n)=(R.U4 n (some g) e o true be bo).cells.toArray:=by
   have:(List.replicate n false).length=n:=bS;simp[Rs.U4,Rs.cells,Po.cells,Se.arr,Ck.cells,I6.on,opA]
  unfold GK;rw[<-b];exact c)
def wz{g:Nat}(s:GK w0 r1 R n M h (some g) o bh false bo w){K:ah->Prop}(k:∀a,GK w0 r1 R n M h (some g) o bh true bo a->K a):kB w ⟨r1,29,none⟩ (.slice (qs g) n n) K:=
 St.cL s 0 rfl (j:=29) (by show 29<34;decide) rfl λa c=>k a (by
  have b:(R.U4 n h (some g) o bh false bo).cells.toArray.setIfInBounds 29 (.slice (qs g) n n)=(R.U4 n h (some g) o bh true bo).cells.toArray:=by
   simp[Rs.U4,Rs.cells,Po.cells,Se.arr,Ck.cells,I6.on,opA]
  unfold GK;rw[<-b];exact c)
def zC{g:Nat}(s:GK w0 r1 R n M h e (some g) bh be false w){K:ah->Prop}(k:∀a,GK w0 r1 R n M h e (some g) bh be true a->K a):kB w ⟨r1,30,none⟩ (.slice (qs g) n n) K:=
 St.cL s 0 rfl (j:=30) (by show 30<34;decide) rfl λa c=>k a (by
  have b:(R.U4 n h e (some g) bh be false).cells.toArray.setIfInBounds 30 (.slice (qs g) n n)=(R.U4 n h e (some g) bh be true).cells.toArray:=by
   simp[Rs.U4,Rs.cells,Po.cells,Se.arr,Ck.cells,I6.on,opA]
  unfold GK;rw[<-b];exact c)
end
def Rs.Fh(R:Rs)(i:Nat):Bd:=if i<R.out.length then ⟨R.ex.getD i gj,R.has.getD i false,R.out.getD i false⟩ else gR
def Rs.dV(R:Rs):Sx:={o:=R.o,ph:=R.ph,s:=R.s,k:=none,bd:=(List.range 8).map R.Fh,dec:=R.dec,cnt:=R.cnt,dig:=R.dig}
structure IV (R:Rs):Prop where
 so:tJ R.dV R.C
 n:R.ph≠0->R.out.length=R.s.bd.length
 n0:R.ph=0->R.out.length=0
 h:R.has.length=R.out.length
 e:R.ex.length=R.out.length
 cs:R.ph≠0->R.C.s=R.s
 ov:R.ph=1->R.C.ov=false
 dp:R.ph≠0->∀i,i<R.out.length->R.C.dp.getD i false=R.out.getD i false
def acM(w0:ah)(R:Rs)(v:Ev)(M:List bP):KP:=λr b=>∃a:Rs,r=.tuple #[.agg a.cells.toArray,iv (iq R.dV R.C v)]/\St w0 b (Sep (held a.C.gi::held a.kz::M))/\(iq R.dV R.C v=0->a.dV.er=(eU R.dV R.C v).er/\a.C.er=(gx R.dV R.C v).er/\a.has.length=a.out.length/\a.ex.length=a.out.length/\((v.kind=1/\a.out.length=a.s.bd.length/\a.C.s=a.s)\/(v.kind≠1/\a.out.length=R.out.length/\a.s=R.s/\a.C.s=R.C.s)))/\(iq R.dV R.C v≠0->a=R)
def ur{R:Rs}{i:Nat}(hi:i<8):R.dV.bd.getD i gR=R.Fh i:=by
 rw[au];show((((List.range 8).map R.Fh)[i]?).getD gR)=_;rw[lM _ hi];rfl
def St.in3{w0 w:ah}{A B D H M:bP}(s:St w0 w (star A (star B (star D (star H M))))):St w0 w (star H (star A (star B (star D M)))):=((s.eqv (fF.right (fF.right fF.sP))).eqv (fF.right fF.sP)).sP
def St.abY{w0 w:ah}{A B D H M:bP}(s:St w0 w (star H (star A (star B (star D M))))):St w0 w (star A (star B (star D (star H M)))):=(s.sP.eqv (fF.right fF.sP)).eqv (fF.right (fF.right fF.sP))
def Jk{w0 w:ah}{l:List bP}{r1:Nat}{R:Rs}{T:TypeId}(s:St w0 w (Sep l))(i:Nat)(e:l[i]?=some (ay r1 R.cells.toArray T)):aU w ⟨r1,9,none⟩ 0 R.C.cells:=fm _ 0 λj v b=>by
 rw[gW,az,s.aj i e];have a:=(ai.1 b).1
 match j,a with
 |0,_|1,_|2,_|3,_|4,_|5,_|6,_|7,_|8,_|9,_|10,_|11,_|12,_|13,_|14,_|15,_|16,_|17,_|18,_=>exact b
def nT{a:Type}{T:List a}{i k:Nat}{v d:a}(c:k<T.length):(T.set k v).getD i d=if i=k then v else T.getD i d:=by
 rw[au,bW]
 by_cases h:k=i
 .subst h;rw[ag rfl,ag rfl,ag c];rfl
 rw[af h,af (λb=>h b.symm),au]
def E1{R:Rs}{n:Nat}{x:Xv}{b:Bool}{ha:OA}{hc:Nat}{ea:OA}{ec:Nat}(h:R.has.length=R.out.length)(e:R.ex.length=R.out.length)(c:n<R.out.length):(R.Fx n x b ha hc ea ec).dV={R.dV with bd:=R.dV.bd.set n ⟨x,b,R.out.getD n false⟩}:=by
 unfold Rs.dV
 congr 1
 rw[uW];refine bq λi _=>?_;unfold Rs.Fh Rs.Fx;rw[nT (by omega),nT (by omega)]
 by_cases a:i=n
 .subst a;rw[ag c,ag rfl,ag rfl,ag rfl]
 rw[af a,af a,af a]
def XK{R:Rs}{n:Nat}{oa:OA}{oc:Nat}(b:n<R.out.length):({R with out:=R.out.set n true,oa:=oa,oc:=oc}:Rs).dV={R.dV with bd:=R.dV.bd.set n ⟨R.ex.getD n gj,R.has.getD n false,true⟩}:=by
 unfold Rs.dV
 congr 1
 rw[uW];refine bq λi _=>?_;unfold Rs.Fh;rw[bf,nT b]
 by_cases a:i=n
 .subst a;rw[ag b,ag rfl,ag rfl]
 rw[af a,af a]
def St.ZK{w0 w:ah}{A B D E H M:bP}(s:St w0 w (star H (star A (star B (star D (star E M)))))):St w0 w (star A (star B (star D (star E (star H M))))):=((s.sP.eqv (fF.right fF.sP)).eqv (fF.right (fF.right fF.sP))).eqv (fF.right (fF.right (fF.right fF.sP)))
def abB{w0 w:ah}{A:bP}{L:List bP}(h:St w0 w (Sep (A::L))):St w0 w (Sep (A::emp::emp::emp::L)):=by
 have s:St w0 w (Sep (emp::emp::emp::A::L)):=LM (LM (LM h));exact s.out 3 rfl
def St.xo{w0 w:ah}{m:List bP}(l:List bP)(is:List Nat)(h:St w0 w (Sep (l++m))):St w0 w (Sep (Vc.aM is l++m)):=St.cat ((h.split l).weak (dU.left (dU.pick is l)))
def Z8{w0 w:ah}{n:Nat}{R:Rs}{a:Se}{L:List bP}{g1 g2 c:Nat}(s:St w0 w (Sep ([nX (qs g1) n (List.replicate n false),Cd (qs g2) n (List.replicate n gj),nX (qs c) n (List.replicate n false),held a.In]++L)))(d:R.s=a)(e:R.has=List.replicate n false)(b:R.ex=List.replicate n gj)(f:R.out=List.replicate n false)(g:R.ha=qs g1)(h:R.ea=qs g2)(i:R.oa=qs c):
  St w0 w (Sep (held R.kz::L)):=
 (s.split _).weak (dU.left (((dS iH).cons ((dS Xv.len).cons ((dS iH).cons ((cV _).cons nY.nil)))).mono λw ⟨j,k,l,m,_⟩=>(⟨by rw[d];exact m,by rw[e,g];exact j,by rw[b,h];exact k,by rw[b];intro x o;rw[fZ o];exact wk w,by rw[f,i];exact l⟩:R.kz w)).weak)
def Xg{w0 w:ah}{n:Nat}{R R0:Rs}{L:List bP}{g1 g2:Nat}(s:St w0 w (Sep ([nX (qs g1) n (List.replicate n false),Cd (qs g2) n (List.replicate n gj),held R0.kz]++L)))(c:R.s=R0.s)(d:R.has=List.replicate n false)(a:R.ex=List.replicate n gj)(e:R.out=R0.out)(f:R.ha=qs g1)(g:R.ea=qs g2)(h:R.oa=R0.oa):
  St w0 w (Sep (held R.kz::L)):=
 (s.split _).weak (dU.left (((dS iH).cons ((dS Xv.len).cons ((cV _).cons nY.nil))).mono λw ⟨i,j,b,_⟩=>(⟨by rw[c];exact b.s,by rw[d,f];exact i,by rw[a,g];exact j,by rw[a];intro x k;rw[fZ k];exact wk w,by rw[e,h];exact b.out⟩:R.kz w)).weak)
def T8{a:Type}{n i:Nat}{x:a}:(List.replicate n x).getD i x=x:=by
 rw[au,cM];split<;>rfl
def Vn{R:Rs}{n:Nat}(a:R.ex=List.replicate n gj)(b:R.has=List.replicate n false)(c:R.out=List.replicate n false)(i:Nat):R.Fh i=gR:=by
 unfold Rs.Fh
 split
 .rw[a,b,c,T8,T8];rfl
 rfl
def I8{R:Rs}(h:R.out.length=0)(i:Nat):R.Fh i=gR:=af (by omega)
def Te{S a:Se}{o:Po}(e:a.er=S.er):(pT a o).er=(pT S o).er:=by
 have:∀S:Se,(pT S o).er=(pT S.er o).er:=λ_=>rfl;rw[this a,e,<-this]
def Xp(R:Rs):(jb R.dV 8).bd=(List.range 8).map λi=>FR (R.Fh i):=rfl
def Kz{w0 w:ah}{R:Rs}{v:Ev}{M:List bP}(s:St w0 w (Sep (held R.C.gi::held R.kz::M)))(f:IV R)(hv:pn R.dV v=0)(hi:v.In)(htx:v.text.length<=80000):
  CP 29 #[.agg R.cells.toArray,v.v] w ((acM w0 R v M)):=by
 refine @H8 _ _ _ _ _ _ _ _ _ _ _ _ _ _ _ _ _ _ _ _ _ _ _ _ _ _ _ _ _ _ _ _ _ _ _ _ R.C.p _ _ _ _ _ _ _ _ _ _ _ _ _ _ _ _ _ _ _ _ _ _ _ _ _ v.want _ _ _ _ (s.aY R.cells.toArray λy w1 s1=>s1.aY v.cells.toArray λr2 w2 s2=>s2.aY _ λz w3 F=>?_);obtain⟨Z,hZ,F⟩:∃Z:Array Value,Z.size=34/\St w0 w3 (Sep (ay z Z 45::ay r2 v.cells.toArray 52::ay y R.cells.toArray 45::held R.C.gi::held R.kz::M)):=⟨_,rfl,F⟩;refine⟨λe w4=>∃(J:Rs) (cs:Array Value),cs.size=34/\St w0 w4 (Sep (ay z cs 45::ay r2 v.cells.toArray 52::ay y J.cells.toArray 45::held J.C.gi::held J.kz::M))/\e=iq R.dV R.C v /\
   (e=0->J.dV.er=(eU R.dV R.C v).er/\J.C.er=(gx R.dV R.C v).er/\J.has.length=J.out.length/\J.ex.length=J.out.length/\((v.kind=1/\J.out.length=J.s.bd.length/\J.C.s=J.s)\/(v.kind≠1/\J.out.length=R.out.length/\J.s=R.s/\J.C.s=R.C.s)))/\(e≠0->J=R),?_,_,F.aj 1 rfl 0,?_⟩
 .rintro w4 e ⟨J,cs,N,a,he,h0,H⟩-;exact Ex8<|Ex8<|Ex8<|Ex8<|Ex4<|⟨J.C.p,Ex8<|Ex8<|Ex4<|⟨_,_,a.cellsIn 2 rfl,a.aR 0 rfl J.cells (by rw[N];rfl) J.one λw5 s5=>(Ex8<|Ex8<|Ex8<|Ex8<|Ex4<|⟨J.C.p,Ex8<|Ex8<|Ex4<|⟨_,_,St.cellsIn (cs:=J.cells.toArray) s5 0 rfl,J,by rw[he];rfl,s5.second.second.second,by rw[<-he];exact h0,by rw[<-he];exact H⟩⟩)⟩⟩
 have hkd:v.kind=1\/v.kind=2\/v.kind=3\/v.kind=4\/v.kind=5\/v.kind=6\/v.kind=7\/v.kind=8\/v.kind=9\/v.kind=10:=by
  obtain⟨H,_⟩:=tF hv;have a:=Ab H;have b:=(lK H hi.d).k;omega
 obtain⟨z1,z2,T,z4,z5⟩:=tF hv;let A:bP:=ay r2 v.cells.toArray 52;have put:∀{w':ah} {r:Ck} {cs:Array Value} {e:Int} {K:ah->Prop},St w0 w' (Sep (held r.gi::ay z cs 45::A::ay y R.cells.toArray 45::held R.kz::M))->(∀U,St w0 U (Sep (ay z cs 45::A::ay y ({R with C:=r}:Rs).cells.toArray 45::held r.gi::held ({R with C:=r}:Rs).kz::M))->K U) ->
   yY ⟨y,9,none⟩ 0 r.cells w' K:=λ{w' r cs e K} s k=>by
  exact s.mA 3 9 rfl ({R with C:=r}:Rs).cells.toArray (show 28<=34 by decide) r.one rfl λU Y=>k U (St.weak (St.abY Y) (dU.right (dU.right (dU.right (dU.right (dU.left (jY λw h=>(⟨h.s,h.has,h.ex,h.ei,h.out⟩:({R with C:=r}:Rs).kz w))))))))
 by_cases B:v.kind=1
 .refine gM B ?_;have P:iq R.dV R.C v=su R.o v.text:=by rw[iq,ag B];rfl
  have V:gx R.dV R.C v=pT (vL v.text) R.o:=by rw[gx,ag B];rfl
  have W:eU R.dV R.C v={R.dV with ph:=1,s:=vL v.text}:=by rw[eU,ag B]
  refine⟨_,_,_,_,F.bA (vs:=R.o.cells) 2 0 rfl rfl,bF (zu w3 R.o) λw6 c6=>?_⟩;have s6:St w0 w6 (Sep (ay z Z 45::A::ay y R.cells.toArray 45::held R.C.gi::held R.kz::M)):=F.quiet c6;refine⟨_,rfl,?_⟩
  by_cases H:pV R.o=0
  rotate_left
  .have G:iq R.dV R.C v=pV R.o:=by rw[P,su,ag H]
   exact gM H (Ex8<|Ex8<|Ex8<|Ex8<|Ex4<|⟨R.C.p,Ex8<|Ex8<|Ex4<|⟨_,_,s6.cellsIn 2 rfl,s6.aR 0 rfl R.cells (by rw[hZ];rfl) R.one λw5 s5=>(Ex8<|Ex8<|Ex8<|Ex8<|Ex4<|⟨R.C.p,Ex8<|Ex8<|Ex4<|⟨_,_,St.cellsIn (cs:=R.cells.toArray) s5 0 rfl,R,by rw[G];rfl,s5.second.second.second,λh=>absurd (G.symm.trans h) H,λ_=>rfl⟩⟩)⟩⟩)
  have e1:su R.o v.text=rV v.text:=by rw[su,af (λh=>h H)]
  refine iI H ⟨_,s6.aj 1 rfl 9,bg (Mr w6 v.text htx) ?_⟩;rintro _ w8 ⟨p,i,rfl,k8,hok8⟩;have s8:St w0 w8 (Sep (held p.In::ay z Z 45::A::ay y R.cells.toArray 45::held R.C.gi::held R.kz::M)):=s6.and k8;refine Ex8<|Ex4<|⟨_,_,rfl,s8.aY jt.arr λx w9 s9=>s9.aR 0 rfl p.arr.toList rfl (by simp[Se.arr,Value.oneCell']) λw10 q=>?_⟩;have q:St w0 w10 (Sep (ay x p.arr 34::held p.In::ay z Z 45::A::ay y R.cells.toArray 45::held R.C.gi::held R.kz::M)):=q
  by_cases O:rV v.text=0
  rotate_left
  .have G:iq R.dV R.C v=rV v.text:=by rw[P,e1]
   have t10:St w0 w10 (Sep (ay z Z 45::A::ay y R.cells.toArray 45::held R.C.gi::held R.kz::M)):=q.second.second;exact gM O (Ex8<|Ex8<|Ex8<|Ex8<|Ex4<|⟨R.C.p,Ex8<|Ex8<|Ex4<|⟨_,_,t10.cellsIn 2 rfl,t10.aR 0 rfl R.cells (by rw[hZ];rfl) R.one λw5 s5=>(Ex8<|Ex8<|Ex8<|Ex8<|Ex4<|⟨R.C.p,Ex8<|Ex8<|Ex4<|⟨_,_,St.cellsIn (cs:=R.cells.toArray) s5 0 rfl,R,by rw[G];rfl,s5.second.second.second,λh=>absurd (G.symm.trans h) O,λ_=>rfl⟩⟩)⟩⟩)
  obtain⟨S,hS⟩:=hok8 O;have G:iq R.dV R.C v=0:=by rw[P,e1,O]
  have hnE:Ec p R.o=0:=by
   have a:yX p=0:=by
    rw[MF S];have j:=O;unfold rV at j
    split at j
    .exact absurd j (by decide)
    split at j
    .rename_i g;exact absurd j g
    exact j
   rw[Ec,a,af (λh=>h rfl)];exact H
  have h8:p.bd.length<=8:=hS.bd.l2;refine iI O ⟨_,_,_,q.aj 0 rfl 1,Ex8<|Ex4<|⟨q.cellsIn (cs:=p.arr) 0 rfl,?_⟩⟩;let R1:Rs:={R with s:=p};refine q.mA 4 5 rfl (vs:=p.arr.toList) R1.cells.toArray (show 9<=34 by decide) (by simp[Se.arr,Value.oneCell']) rfl λw12 t=>?_;have t:St w0 w12 (Sep (ay x p.arr 34::held p.In::ay z Z 45::A::ay y R1.cells.toArray 45::held R.C.gi::held R.kz::M)):=t;refine Ex8<|Ex4<|⟨t.cellsIn (cs:=p.arr) 0 rfl,_,_,_,_,t.bA (vs:=R.o.cells) 4 0 rfl rfl,bg (TT (t.eu 1 rfl) R.o) ?_⟩;rintro _ w13 (⟨h0,_⟩|⟨_,_,ho,r,hC,hCs,rfl,k13⟩)
  .exact absurd hnE h0
  have s13:St w0 w13 (Sep (held r.gi::ay x p.arr 34::held p.In::ay z Z 45::A::ay y R1.cells.toArray 45::held R.C.gi::held R.kz::M)):=t.and k13;let L:Rs:={R with s:=p,C:=r};refine Ex8<|Ex8<|⟨_,_,_,r.p,Ex8 ⟨_,_,_,rfl,s13.mA 5 9 rfl L.cells.toArray (show 28<=34 by decide) r.one rfl λI s14=>?_⟩⟩;have s14:St w0 I (Sep (held r.gi::ay x p.arr 34::held p.In::ay z Z 45::A::ay y L.cells.toArray 45::held R.C.gi::held R.kz::M)):=s14;have t14:St w0 I.drew (Sep (held r.gi::ay x p.arr 34::held p.In::ay z Z 45::A::ay y L.cells.toArray 45::held R.C.gi::held R.kz::M)):=s14.quiet (aZ.drew I []);have u14:St w0 I.drew (Sep (ay y L.cells.toArray 45::held r.gi::ay x p.arr 34::held p.In::ay z Z 45::A::held R.C.gi::held R.kz::M)):=t14.out 5 rfl;let N1:List bP:=held r.gi::ay x p.arr 34::held p.In::ay z Z 45::A::held R.C.gi::held R.kz::M;have s:GK w0 y L p.bd.length N1 none none none false false false I.drew:=abB u14;have a:p.bd.length<=1000:=by omega
  refine⟨λw=>∃g1 g2 X,GK w0 y L p.bd.length N1 (some g1) (some g2) (some X) true true true w,?_,⟨L6 a s λg w s=>⟨Cz a s λg w s=>⟨CA a s λg w s=>AP s λw s=>wz s λw s=>zC s λw s=>⟨_,_,_,s⟩,AP s λw s=>⟨CA a s λg w s=>wz s λw s=>zC s λw s=>⟨_,_,_,s⟩,wz s λw s=>CA a s λg w s=>zC s λw s=>⟨_,_,_,s⟩⟩⟩,⟨CA a s λg w s=>⟨Cz a s λg w s=>AP s λw s=>wz s λw s=>zC s λw s=>⟨_,_,_,s⟩,AP s λw s=>Cz a s λg w s=>wz s λw s=>zC s λw s=>⟨_,_,_,s⟩⟩,AP s λw s=>⟨Cz a s λg w s=>⟨CA a s λg w s=>wz s λw s=>zC s λw s=>⟨_,_,_,s⟩,wz s λw s=>CA a s λg w s=>zC s λw s=>⟨_,_,_,s⟩⟩,CA a s λg w s=>Cz a s λg w s=>wz s λw s=>zC s λw s=>⟨_,_,_,s⟩⟩⟩⟩,⟨Cz a s λg w s=>⟨L6 a s λg w s=>⟨CA a s λg w s=>AP s λw s=>wz s λw s=>zC s λw s=>⟨_,_,_,s⟩,AP s λw s=>⟨CA a s λg w s=>wz s λw s=>zC s λw s=>⟨_,_,_,s⟩,wz s λw s=>CA a s λg w s=>zC s λw s=>⟨_,_,_,s⟩⟩⟩,CA a s λg w s=>L6 a s λg w s=>AP s λw s=>wz s λw s=>zC s λw s=>⟨_,_,_,s⟩⟩,CA a s λg w s=>⟨L6 a s λg w s=>⟨Cz a s λg w s=>AP s λw s=>wz s λw s=>zC s λw s=>⟨_,_,_,s⟩,AP s λw s=>Cz a s λg w s=>wz s λw s=>zC s λw s=>⟨_,_,_,s⟩⟩,Cz a s λg w s=>L6 a s λg w s=>AP s λw s=>wz s λw s=>zC s λw s=>⟨_,_,_,s⟩⟩⟩⟩⟩;rintro w15 ⟨g1,g2,X,s15⟩-;let E:Rs:={L with has:=List.replicate p.bd.length false,ex:=List.replicate p.bd.length gj,out:=List.replicate p.bd.length false,ha:=qs g1,hc:=p.bd.length,ea:=qs g2,ec:=p.bd.length,oa:=qs X,oc:=p.bd.length};have s15:St w0 w15 (Sep (ay y E.cells.toArray 45::nX (qs g1) p.bd.length (List.replicate p.bd.length false)::Cd (qs g2) p.bd.length (List.replicate p.bd.length gj)::nX (qs X) p.bd.length (List.replicate p.bd.length false)::held r.gi::ay x p.arr 34::held p.In::ay z Z 45::A::held R.C.gi::held R.kz::M)):=s15;refine s15.cL 0 rfl (j:=4) (by show 4<34;decide) rfl λw16 s16=>?_;let D:Rs:={E with ph:=1};have s16:St w0 w16 (Sep (ay y D.cells.toArray 45::nX (qs g1) p.bd.length (List.replicate p.bd.length false)::Cd (qs g2) p.bd.length (List.replicate p.bd.length gj)::nX (qs X) p.bd.length (List.replicate p.bd.length false)::held r.gi::ay x p.arr 34::held p.In::ay z Z 45::A::held R.C.gi::held R.kz::M)):=s16;have s17:=St.xo (m:=M) [ay y D.cells.toArray 45,nX (qs g1) p.bd.length (List.replicate p.bd.length false),Cd (qs g2) p.bd.length (List.replicate p.bd.length gj),nX (qs X) p.bd.length (List.replicate p.bd.length false),held r.gi,ay x p.arr 34,held p.In,ay z Z 45,A] [1,2,3,6,7,8,0,4] (St.xo (m:=M) [ay y D.cells.toArray 45,nX (qs g1) p.bd.length (List.replicate p.bd.length false),Cd (qs g2) p.bd.length (List.replicate p.bd.length gj),nX (qs X) p.bd.length (List.replicate p.bd.length false),held r.gi,ay x p.arr 34,held p.In,ay z Z 45,A,held R.C.gi,held R.kz] [0,1,2,3,4,5,6,7,8] s16);have s17:St w0 w16 (Sep (held D.kz::ay z Z 45::A::ay y D.cells.toArray 45::held r.gi::M)):=Z8 s17 rfl rfl rfl rfl rfl rfl rfl;have s18:St w0 w16 (Sep (ay z Z 45::A::ay y D.cells.toArray 45::held r.gi::held D.kz::M)):=St.xo (m:=M) [held D.kz,ay z Z 45,A,ay y D.cells.toArray 45,held r.gi] [1,2,3,4,0] s17;refine⟨D,Z,hZ,s18,by rw[H];exact G.symm,λ_=>⟨?_,?_,?_,?_,.inl ⟨B,?_,hCs⟩⟩,λh=>absurd H h⟩
  .rw[W];have a1:D.dV.bd=R.dV.bd:=bq λi _=>by
    rw[Vn (R:=D) (n:=p.bd.length) rfl rfl rfl i,I8 (R:=R)];exact f.n0 (by
     rw[B] at T;have:iK 1 R.ph=true:=T;simpa[iK] using this)
   show({D.dV with s:=p.er,k:=none,bd:=D.dV.bd.map Bd.er}:Sx)=_;rw[a1,S];rfl
  .rw[V];show r.er=_;rw[hC];exact Te S
  .show(List.replicate p.bd.length false).length=(List.replicate p.bd.length false).length;rfl
  .show(List.replicate p.bd.length gj).length=(List.replicate p.bd.length false).length;rw[bS,bS]
  show(List.replicate p.bd.length false).length=p.bd.length;rw[bS]
 refine iI B ?_
 by_cases I:v.kind=2
 .have hnm:gD v.kind=true:=by rw[I];rfl
  have t:R.ph≠0:=λh=>by
   rw[I] at T;have:R.dV.ph=0:=h;rw[this] at T;cases T
  have X:=z4 hnm;have hb0:=(lK z1 hi.d).b;obtain⟨n,a⟩:∃n:Nat,v.bidder=n:=⟨v.bidder.toNat,by omega⟩;have N:=f.cs t;have hnl:n<R.C.s.bd.length:=by
   rw[N];rw[a] at X;have X:(n:Int)<(R.s.bd.length:Int):=X;omega
  have hy:R.C.s.bd[n]?=some (R.C.s.bd.getD n zN):=by rw[au,gE hnl];rfl
  have G:iq R.dV R.C v=mb R.C n (R.C.s.bd.getD n zN) v.want:=by rw[iq,af B,ag I,a,aq]
  refine gM I (Ex8<|Ex8<|⟨_,_,_,R.C.p,Ex8 ⟨_,_,Jk F 2 rfl,_,F.aj 1 rfl 1,v.want,?_,?_⟩⟩)
  .exact fm _ 0 λj x p=>by
    have q:j<6:=(ai.1 p).1;rw[gW,az,F.aj 1 rfl]
    match j,q,p with
    |0,_,p|1,_,p|2,_,p|3,_,p|4,_,p|5,_,p=>simpa[Ev.cells,I6.on,I6.vs] using p
  rw[a];have t3:St w0 w3 (Sep (held R.C.gi::ay z Z 45::A::ay y R.cells.toArray 45::held R.kz::M)):=St.in3 F;refine bg (Ul t3 (f.so.c t).ok (λh=>by rw[N];exact(St.eu (Q:=R.kz) h 3 rfl).s) hy v.want) ?_;rintro _ L ⟨r,H,O,h3,rfl,p⟩;refine Ex8<|Ex8<|⟨_,_,_,r.p,Ex8 ⟨_,_,_,rfl,put (e:=0) p λP q=>⟨{R with C:=r},Z,hZ,q,G.symm,λh=>⟨?_,?_,f.h,f.e,.inr ⟨B,rfl,rfl,O⟩⟩,λh=>by rw[h3 h]⟩⟩⟩
  .show R.dV.er=_;rw[eU,af B,ag I]
  show r.er=_;rw[H,ag h,gx,af B,ag I,a,aq]
 refine iI I ?_;have phs:∀{w':ah} {R1:Rs} {p:Int} {K:ah->Prop},St w0 w' (Sep (ay z Z 45::A::ay y R1.cells.toArray 45::held R1.C.gi::held R1.kz::M))->(∀U,St w0 U (Sep (ay z Z 45::A::ay y ({R1 with ph:=p}:Rs).cells.toArray 45::held R1.C.gi::held ({R1 with ph:=p}:Rs).kz::M))->K U)->kB w' ⟨y,4,none⟩ (iv p) K:=λ{w' R1 p K} s k=>
  s.cL 2 rfl (j:=4) (by show 4<34;decide) rfl λU Y=>k U (St.weak Y (dU.right (dU.right (dU.right (dU.right (dU.left (jY λw h=>(⟨h.s,h.has,h.ex,h.ei,h.out⟩:({R1 with ph:=p}:Rs).kz w))))))))
 have t3:St w0 w3 (Sep (held R.C.gi::ay z Z 45::A::ay y R.cells.toArray 45::held R.kz::M)):=St.in3 F
 by_cases L:v.kind=3
 .have P:R.ph=1:=by
   rw[L] at T;have:iK 3 R.ph=true:=T;simpa[iK] using this
  have t:R.ph≠0:=by omega
  have q:=f.ov P;have N:=f.cs t;have G:iq R.dV R.C v=0:=by rw[iq,af B,af I,ag (.inl L),q];rfl
  refine gM L (Ex8<|Ex8<|⟨_,_,_,R.C.p,Ex8 ⟨_,_,Jk F 2 rfl,bg (MD t3 (f.so.c t).ok (λh=>by rw[N];exact(St.eu (Q:=R.kz) h 3 rfl).s) q) ?_⟩⟩);rintro _ w86 ⟨r,H,O,rfl,s86⟩;have S:r.ov=jG R.C:=by
   have h:=congrArg Ck.ov H;have h:r.ov=(mg R.C).ov:=h;rw[h];rfl
  have V:gx R.dV R.C v=mg R.C:=by rw[gx,af B,af I,ag L]
  have W:eU R.dV R.C v=if jG R.C then {R.dV with ph:=2} else R.dV:=by rw[eU,af B,af I,ag L]
  refine Ex8<|Ex8<|⟨_,_,_,r.p,Ex8 ⟨_,_,_,rfl,put (e:=0) s86 λw87 Y=>⟨_,Y.aj 2 rfl 27,?_⟩⟩⟩
  cases hl:jG R.C with
  |true=>
   refine cT (by rw[S,hl]) (phs (R1:={R with C:=r}) (p:=2) Y λw88 s88=>⟨{R with C:=r,ph:=2},Z,hZ,s88,G.symm,λ_=>⟨?_,?_,f.h,f.e,.inr ⟨B,rfl,rfl,O⟩⟩,λh=>absurd rfl h⟩)
   .rw[W,hl,ag rfl];rfl
   rw[V];exact H
  |false=>
   refine cF (by rw[S,hl]) ⟨{R with C:=r},Z,hZ,Y,G.symm,λ_=>⟨?_,?_,f.h,f.e,.inr ⟨B,rfl,rfl,O⟩⟩,λh=>absurd rfl h⟩
   .rw[W,hl,af (by decide)];rfl
   rw[V];exact H
 refine iI L ?_
 by_cases S:v.kind=4
 .have P:R.ph=1:=by
   rw[S] at T;have:iK 4 R.ph=true:=T;simpa[iK] using this
  have t:R.ph≠0:=by omega
  have q:=f.ov P;have G:iq R.dV R.C v=0:=by rw[iq,af B,af I,ag (.inr S),q];rfl
  refine gM S (Ex8<|Ex8<|⟨_,_,_,R.C.p,Ex8 ⟨_,_,Jk F 2 rfl,bg (Qk t3 (f.so.c t).ok) ?_⟩⟩);rintro _ w89 ⟨r,H,O,h3,rfl,Y⟩;have V:gx R.dV R.C v=xL R.C:=by rw[gx,af B,af I,af L,ag S]
  have W:eU R.dV R.C v={R.dV with ph:=2}:=by rw[eU,af B,af I,af L,ag S]
  refine Ex8<|Ex8<|⟨_,_,_,r.p,Ex8 ⟨_,_,_,rfl,put (e:=0) Y λw90 s90=>phs (R1:={R with C:=r}) (p:=2) s90 λw91 s91=>⟨{R with C:=r,ph:=2},Z,hZ,s91,G.symm,λ_=>⟨?_,?_,f.h,f.e,.inr ⟨B,rfl,rfl,O⟩⟩,λh=>absurd rfl h⟩⟩⟩
  .rw[W];rfl
  rw[V];show r.er=_;rw[H,q];rfl
 refine iI S ?_
 by_cases k5:v.kind=5
 .have hnm:gD v.kind=true:=by rw[k5];rfl
  have t:R.ph≠0:=λh=>by
   rw[k5] at T;have:R.dV.ph=0:=h;rw[this] at T;cases T
  have X:=z4 hnm;have hb0:=(lK z1 hi.d).b;obtain⟨n,a⟩:∃n:Nat,v.bidder=n:=⟨v.bidder.toNat,by omega⟩;have hnl:=f.n t;have P:n<R.out.length:=by
   rw[hnl];rw[a] at X;have X:(n:Int)<(R.s.bd.length:Int):=X;omega
  have hl:=f.h;have Y:=f.e;have h8:R.s.bd.length<=8:=(f.so.so t).bd.l2;have N:=f.cs t;have hg:R.dV.bd.getD n gR=⟨R.ex.getD n gj,R.has.getD n false,R.out.getD n false⟩:=by rw[ur (by omega),Rs.Fh,ag P]
  have hy:R.s.bd[n]?=some (R.s.bd.getD n zN):=by rw[au,gE (by omega)];rfl
  have G:iq R.dV R.C v=kG R.s R.C n (R.s.bd.getD n zN) v.text:=by rw[iq,af B,af I,af (by rintro(h|h);exact L h;exact S h),ag k5,a,aq];rfl
  have V:gx R.dV R.C v=R.C:=by rw[gx,af B,af I,af L,af S,af (by omega),af (by omega)]
  have W:eU R.dV R.C v=zb R.dV n (fV R.s.ps v.text).1:=by rw[eU,af B,af I,af L,af S,ag k5,a,aq];rfl
  have hR:R.Q6 w3:=Rs.Q6.of (F.eu 3 rfl) (F.eu 4 rfl);refine gM k5 (Ex8<|Ex8<|Ex8<|Ex8<|Ex4<|⟨R.C.p,Ex8<|Ex8<|Ex4<|⟨_,_,F.cellsIn 2 rfl,v.bidder,F.aj 1 rfl 1,_,F.aj 1 rfl 9,?_⟩⟩);rw[a];refine bg (KE hR (f.so.c t).ok (f.so.so t) (by rw[N];omega) hy v.text) ?_;rintro _ w92 ⟨x,ex,rfl,k92⟩;have s92:St w0 w92 (Sep (held x.In::ay z Z 45::A::ay y R.cells.toArray 45::held R.C.gi::held R.kz::M)):=F.and k92;refine⟨_,x.u,Ex4 ⟨_,rfl,s92.aY gj.cells.toArray λr5 w93 s93=>s93.aR 0 rfl x.cells rfl x.one λw94 q=>?_⟩⟩;have q:St w0 w94 (Sep (ay r5 x.cells.toArray 73::held x.In::ay z Z 45::A::ay y R.cells.toArray 45::held R.C.gi::held R.kz::M)):=q;rw[<-G] at ex;rw[<-G]
  by_cases he:iq R.dV R.C v=0
  rotate_left
  .exact gM he (Ex8<|Ex8<|Ex8<|Ex8<|Ex4<|⟨R.C.p,Ex8<|Ex8<|Ex4<|⟨_,_,q.cellsIn 4 rfl,q.aR 2 rfl R.cells (by rw[hZ];rfl) R.one λw5 s5=>(Ex8<|Ex8<|Ex8<|Ex8<|Ex4<|⟨R.C.p,Ex8<|Ex8<|Ex4<|⟨_,_,St.cellsIn (cs:=R.cells.toArray) s5 2 rfl,R,rfl,s5.second.second.second.second.second,λh=>absurd h he,λ_=>rfl⟩⟩)⟩⟩)
  have t5:St w0 w94 (Sep (held R.kz::held x.In::ay r5 x.cells.toArray 73::ay z Z 45::A::ay y R.cells.toArray 45::held R.C.gi::M)):=(q.out 6 rfl).eqv (fF.right fF.sP);refine iI he (Ex8<|Ex8<|Ex8<|Ex8<|Ex4<|⟨R.C.p,Ex8<|Ex8<|Ex4<|⟨_,_,q.cellsIn 4 rfl,v.bidder,q.aj 3 rfl 1,_,x.u,_,_,_,_,q.cellsIn 0 rfl,?_⟩⟩);rw[a];refine bg (Ep (x:=x) t5 (n:=n) (b:=true) (by omega) (by omega) (by omega) (by omega)) ?_;rintro _ w99 ⟨ha,hc',ea,ec,rfl,s99⟩;let E:Rs:=R.Fx n x true ha hc' ea ec;refine Ex8<|Ex8<|Ex8<|Ex8<|Ex4<|⟨R.C.p,Ex8<|Ex8<|Ex4<|⟨_,_,rfl,s99.aR 4 rfl E.cells rfl E.one λw100 s100=>⟨E,Z,hZ,St.ZK (St.second (St.sP s100)),he.symm,λ_=>⟨?_,?_,?_,?_,.inr ⟨B,rfl,rfl,rfl⟩⟩,λh=>absurd rfl h⟩⟩⟩
  .have hx:(fV R.s.ps v.text).1.er=x.er:=by rw[<-ex he,M1]
   rw[W,E1 hl Y P,zb,hg];have X:Bd.er ⟨x,true,R.out.getD n false⟩=Bd.er ⟨(fV R.s.ps v.text).1,true,R.out.getD n false⟩:=by
    show(⟨x.er,true,R.out.getD n false⟩:Bd)=⟨(fV R.s.ps v.text).1.er,true,R.out.getD n false⟩;rw[hx]
   unfold Sx.er;simp only[dO,X]
  .rw[V];rfl
  .show(R.has.set n true).length=_;rw[bf];exact hl
  show(R.ex.set n x).length=_;rw[bf];exact Y
 refine iI k5 ?_
 by_cases k6:v.kind=6
 .have hnm:gD v.kind=true:=by rw[k6];rfl
  have t:R.ph≠0:=λh=>by
   rw[k6] at T;have:R.dV.ph=0:=h;rw[this] at T;cases T
  have X:=z4 hnm;have hb0:=(lK z1 hi.d).b;obtain⟨n,a⟩:∃n:Nat,v.bidder=n:=⟨v.bidder.toNat,by omega⟩;have P:n<R.out.length:=by
   rw[f.n t];rw[a] at X;have X:(n:Int)<(R.s.bd.length:Int):=X;omega
  have hl:=f.h;have Y:=f.e;have hS:=(f.so.so t).bd.l2;have h8:R.s.bd.length<=8:=hS;have hnl:=f.n t;have hg:R.dV.bd.getD n gR=⟨R.ex.getD n gj,R.has.getD n false,R.out.getD n false⟩:=by rw[ur (by omega),Rs.Fh,ag P]
  have G:iq R.dV R.C v=if R.has.getD n false then 0 else 6:=by rw[iq,af B,af I,af (by rintro(h|h);exact L h;exact S h),af k5,ag k6,a,aq,hg]
  have V:gx R.dV R.C v=R.C:=by rw[gx,af B,af I,af L,af S,af (by omega),af (by omega)]
  have W:eU R.dV R.C v=gP R.dV n:=by rw[eU,af B,af I,af L,af S,af k5,ag k6,a,aq]
  have hr:R.kz w3:=F.eu 4 rfl;obtain⟨q,hq,hc⟩:=hr.has.at (i:=n) (x:=R.has.getD n false) (by rw[au,gE (by omega)];rfl);have hc0:w3.cell? (Addr.add q (((n:Nat):Int).toNat*1))=some (.bool (R.has.getD n false)):=by
   have:=bX hc 0 _ rfl;rw[Addr.add_add] at this;rw[aq];exact this
  refine gM k6 ⟨_,_,_,F.aj 2 rfl 28,v.bidder,F.aj 1 rfl 1,?_⟩;rw[a];refine av hq ⟨by omega,by omega,_,hc0,?_⟩
  cases hh:R.has.getD n false with
  |false=>
   rw[hh] at G;exact cT rfl (Ex8<|Ex8<|Ex8<|Ex8<|Ex4<|⟨R.C.p,Ex8<|Ex8<|Ex4<|⟨_,_,F.cellsIn 2 rfl,F.aR 0 rfl R.cells (by rw[hZ];rfl) R.one λw5 s5=>(Ex8<|Ex8<|Ex8<|Ex8<|Ex4<|⟨R.C.p,Ex8<|Ex8<|Ex4<|⟨_,_,St.cellsIn (cs:=R.cells.toArray) s5 0 rfl,R,by rw[G];rfl,s5.second.second.second,λh=>absurd (G.symm.trans h) (by decide),λ_=>rfl⟩⟩)⟩⟩)
  |true=>
   rw[hh,ag rfl] at G;have tz:=F.oM (Q:=gj.In) wk;have t5:St w0 w3 (Sep (held R.kz::held gj.In::ay z Z 45::A::ay y R.cells.toArray 45::held R.C.gi::M)):=tz.out 5 rfl;refine cF rfl (Ex8<|Ex8<|Ex8<|Ex8<|Ex4<|⟨R.C.p,Ex8<|Ex8<|Ex4<|⟨_,_,F.cellsIn 2 rfl,v.bidder,F.aj 1 rfl 1,?_⟩⟩);rw[a];refine bg (Ep (x:=gj) t5 (n:=n) (b:=false) (by omega) (by omega) (by omega) (by omega)) ?_;rintro _ w99 ⟨ha,hc',ea,ec,rfl,s99⟩;let E:Rs:=R.Fx n gj false ha hc' ea ec;refine Ex8<|Ex8<|Ex8<|Ex8<|Ex4<|⟨R.C.p,Ex8<|Ex8<|Ex4<|⟨_,_,rfl,s99.aR 3 rfl E.cells rfl E.one λw100 s100=>⟨E,Z,hZ,St.ZK s100,G.symm,λ_=>⟨?_,?_,?_,?_,.inr ⟨B,rfl,rfl,rfl⟩⟩,λh=>absurd rfl h⟩⟩⟩
   .rw[W,E1 hl Y P,gP,hg];rfl
   .rw[V];rfl
   .show(R.has.set n false).length=_;rw[bf];exact hl
   show(R.ex.set n gj).length=_;rw[bf];exact Y
 refine iI k6 ?_
 by_cases k7:v.kind=7
 .have hnm:gD v.kind=true:=by rw[k7];rfl
  have t:R.ph≠0:=λh=>by
   rw[k7] at T;have:R.dV.ph=0:=h;rw[this] at T;cases T
  have X:=z4 hnm;have hb0:=(lK z1 hi.d).b;obtain⟨n,a⟩:∃n:Nat,v.bidder=n:=⟨v.bidder.toNat,by omega⟩;have hnl:=f.n t;have P:n<R.out.length:=by
   rw[hnl];rw[a] at X;have X:(n:Int)<(R.s.bd.length:Int):=X;omega
  have hl:=f.h;have Y:=f.e;have h8:R.s.bd.length<=8:=(f.so.so t).bd.l2;have N:=f.cs t;have hg:R.dV.bd.getD n gR=⟨R.ex.getD n gj,R.has.getD n false,R.out.getD n false⟩:=by rw[ur (by omega),Rs.Fh,ag P]
  have hout:R.out.getD n false=false:=by
   have:=z5 hnm;rw[a,aq,hg] at this;exact this
  have hdp:R.C.dp.getD n false=false:=by rw[f.dp t n P];exact hout
  have G:iq R.dV R.C v=0:=by rw[iq,af B,af I,af (by rintro(h|h);exact L h;exact S h),af k5,af k6,ag k7,a,aq,hdp];rfl
  have V:gx R.dV R.C v=pe R.C n:=by rw[gx,af B,af I,af L,af S,ag k7,a,aq]
  have W:eU R.dV R.C v=gP (pU R.dV n) n:=by rw[eU,af B,af I,af L,af S,af k5,af k6,ag k7,a,aq]
  have t5:St w0 w3 (Sep (held R.kz::held gj.In::ay z Z 45::A::ay y R.cells.toArray 45::held R.C.gi::M)):=(F.oM (Q:=gj.In) wk).out 5 rfl;refine gM k7 (Ex8<|Ex8<|Ex8<|Ex8<|Ex4<|⟨R.C.p,Ex8<|Ex8<|Ex4<|⟨_,_,F.cellsIn 2 rfl,v.bidder,F.aj 1 rfl 1,?_⟩⟩);rw[a];refine bg (Ep (x:=gj) t5 (n:=n) (b:=false) (by omega) (by omega) (by omega) (by omega)) ?_;rintro _ w99 ⟨ha,hc',ea,ec,rfl,s99⟩;let E:Rs:=R.Fx n gj false ha hc' ea ec;refine Ex8<|Ex8<|Ex8<|Ex8<|Ex4<|⟨R.C.p,Ex8<|Ex8<|Ex4<|⟨_,_,rfl,s99.aR 3 rfl E.cells rfl E.one λw100 s100=>s100.aY #[] λr6 w103 s103=>⟨_,_,_,s103.aj 4 rfl 30,?_⟩⟩⟩;have s103:St w0 w103 (Sep (ay r6 #[] 4::held E.kz::ay z Z 45::A::ay y E.cells.toArray 45::held R.C.gi::M)):=s103;have t103:St w0 w103 (star (nX (qs r6) 0 []) (Sep (held E.kz::ay z Z 45::A::ay y E.cells.toArray 45::held R.C.gi::M))):=St.weak s103 (dU.left (ic (n:=0) (sz:=1) rfl (by decide)));have hr3:E.kz w103:=s103.eu 1 rfl;refine dW (l:=[]) (l2:=R.out) yK iH A7 t103 hr3.out (by simp only[aT];omega) (by simp only[aT];omega) λoa oc w104 s104=>?_;rw[bZ] at s104⊢;have s104:St w0 w104 (Sep (nX oa oc R.out::held E.kz::ay z Z 45::A::ay y E.cells.toArray 45::held R.C.gi::M)):=s104;obtain⟨go,rfl⟩:=(s104.out 0 rfl).kN (by omega);let D:Rs:={E with out:=R.out.set n true,oa:=qs go,oc:=oc};refine s104.cL 4 rfl (j:=30) (by show 30<34;decide) rfl λw105 q=>?_;have eC4:E.cells.toArray.setIfInBounds 30 (.slice (qs go) R.out.length oc)=D.cells.toArray:=by
   simp[D,E,Rs.Fx,Rs.cells,Po.cells,Se.arr,Ck.cells,I6.on]
  have q:St w0 w105 (Sep (nX (qs go) oc R.out::held E.kz::ay z Z 45::A::ay y (E.cells.toArray.setIfInBounds 30 (.slice (qs go) R.out.length oc)) 45::held R.C.gi::M)):=q;rw[eC4] at q;have c30:w105.cell? ⟨y,30,none⟩=some (.slice (qs go) R.out.length oc):=(q.aj 4 rfl 30).trans (by rw[<-eC4];rfl);refine⟨qs go,R.out.length,oc,c30,v.bidder,q.aj 3 rfl 1,?_⟩;rw[a];refine av rfl ⟨by omega,by omega,?_⟩;rw[aq];refine St.kP (v:=.bool) (x:=true) rfl (q.out 0 rfl) (i:=n) (by omega) λw106 s106=>?_;have s106:=s106.back (i:=0) (l:=nX (qs go) oc R.out::held E.kz::ay z Z 45::A::ay y D.cells.toArray 45::held R.C.gi::M) (by simp);have s106:St w0 w106 (Sep (nX (qs go) oc (R.out.set n true)::held E.kz::ay z Z 45::A::ay y D.cells.toArray 45::held R.C.gi::M)):=s106;have s107:=s106.kr (dS iH) (cV _) λw H O=>(⟨O.s,O.has,O.ex,O.ei,H⟩:D.kz w);have t107:St w0 w106 (Sep (held R.C.gi::held D.kz::ay z Z 45::A::ay y D.cells.toArray 45::M)):=s107.out 4 rfl;refine Ex8<|Ex8<|⟨_,_,_,R.C.p,Ex8 ⟨_,_,t107.bA 4 9 rfl rfl,v.bidder,t107.aj 3 rfl 1,?_⟩⟩;rw[a];refine bg (P7 t107 (f.so.c t).ok (n:=n) (by rw[N];omega)) ?_;rintro _ w107 ⟨r,H,O,h3,rfl,s108⟩;let R5:Rs:={D with C:=r};refine Ex8<|Ex8<|⟨_,_,_,r.p,Ex8 ⟨_,_,_,rfl,s108.mA 4 9 rfl R5.cells.toArray (show 28<=34 by decide) r.one rfl λw108 s109=>?_⟩⟩;have s110:St w0 w108 (Sep (ay z Z 45::A::ay y R5.cells.toArray 45::held r.gi::held D.kz::M)):=St.abY (St.ZK (St.sP s109));refine⟨R5,Z,hZ,St.weak s110 (dU.right (dU.right (dU.right (dU.right (dU.left (jY λw h=>(⟨h.s,h.has,h.ex,h.ei,h.out⟩:R5.kz w))))))),G.symm,λ_=>⟨?_,?_,?_,?_,.inr ⟨B,?_,rfl,O⟩⟩,λh=>absurd rfl h⟩
  .have e5:R5.dV=({E with out:=E.out.set n true,oa:=qs go,oc:=oc}:Rs).dV:=rfl;have a1:E.ex.getD n gj=gj:=by show(R.ex.set n gj).getD n gj=_;rw[nT (by omega),ag rfl]
   have a2:E.has.getD n false=false:=by show(R.has.set n false).getD n false=_;rw[nT (by omega),ag rfl]
   have lb:n<R.dV.bd.length:=by show n<((List.range 8).map R.Fh).length;simp;omega
   have a3:(R.dV.bd.set n (⟨R.ex.getD n gj,R.has.getD n false,true⟩:Bd)).getD n gR=⟨R.ex.getD n gj,R.has.getD n false,true⟩:=by rw[nT lb,ag rfl]
   rw[e5,XK (R:=E) P,E1 hl Y P,W,gP,pU,hg,a1,a2];simp only[kZ];rw[a3];rfl
  .rw[V];show r.er=_;rw[H,hdp];rfl
  .show(R.has.set n false).length=(R.out.set n true).length;rw[bf,bf];exact hl
  .show(R.ex.set n gj).length=(R.out.set n true).length;rw[bf,bf];exact Y
  show(R.out.set n true).length=_;rw[bf]
 refine iI k7 (cBq (λk8=>?_) λk8=>?_)
 .have t:R.ph≠0:=λh=>by
   rw[k8] at T;have:R.dV.ph=0:=h;rw[this] at T;cases T
  have h8:R.s.bd.length<=8:=(f.so.so t).bd.l2;have hnl:=f.n t;have a:R.out.length<=1000:=by omega
  have G:iq R.dV R.C v=if gZ R.C v.round then 4 else 0:=by rw[iq,af B,af I,af (by rintro(h|h);exact L h;exact S h),af k5,af k6,af k7,ag k8]
  have V:gx R.dV R.C v=jT R.C v.round.toNat:=by rw[gx,af B,af I,af L,af S,af k7,ag k8]
  have W:eU R.dV R.C v={jb R.dV 8 with ph:=1}:=by rw[eU,af B,af I,af L,af S,af k5,af k6,af k7,ag k8]
  refine Ex8<|Ex8<|⟨_,_,_,R.C.p,Ex8 ⟨_,_,Jk F 2 rfl,v.round,F.aj 1 rfl 2,bg (Mt t3 (f.so.c t).ok v.round) ?_⟩⟩;rintro _ n ⟨r,H,O,h3,rfl,s109⟩;refine Ex8<|Ex8<|⟨_,_,_,r.p,Ex8 ⟨_,_,_,rfl,put (e:=0) s109 λb s110=>?_⟩⟩;let R1:Rs:={R with C:=r}
  cases he:gZ R.C v.round with
  |true=>
   rw[he,ag rfl] at G;exact cF rfl ⟨R1,Z,hZ,s110,G.symm,λh=>absurd h (by decide),λ_=>by show({R with C:=r}:Rs)=R;rw[h3 he]⟩
  |false=>
  rw[he,af (by decide)] at G;rw[he,af (by decide)] at H;let N:List bP:=ay z Z 45::A::held r.gi::held R1.kz::M;have t110:St w0 b.drew (Sep (ay y R1.cells.toArray 45::N)):=St.out (s110.quiet (aZ.drew b [])) 2 rfl;have s:GK w0 y R1 R.out.length N none none none false false false b.drew:=abB t110;refine cT rfl ⟨λw=>∃g1 g2,GK w0 y R1 R.out.length N (some g1) (some g2) none true true false w,?_,_,_,_,t110.aj 0 rfl 30,_,_,_,t110.aj 0 rfl 30,⟨L6 a s λg w s=>⟨St.aj s 0 rfl 30,⟨Cz a s λg w s=>AP s λw s=>wz s λw s=>⟨_,_,s⟩,AP s λw s=>Cz a s λg w s=>wz s λw s=>⟨_,_,s⟩⟩⟩,Cz a s λg w s=>⟨St.aj s 0 rfl 30,L6 a s λg w s=>AP s λw s=>wz s λw s=>⟨_,_,s⟩⟩⟩⟩;rintro w15 ⟨g1,g2,s15⟩-;let E:Rs:={R1 with has:=List.replicate R.out.length false,ex:=List.replicate R.out.length gj,ha:=qs g1,hc:=R.out.length,ea:=qs g2,ec:=R.out.length};have s15:St w0 w15 (Sep (ay y E.cells.toArray 45::nX (qs g1) R.out.length (List.replicate R.out.length false)::Cd (qs g2) R.out.length (List.replicate R.out.length gj)::emp::N)):=s15;refine s15.cL 0 rfl (j:=4) (by show 4<34;decide) rfl λw16 s16=>?_;let D:Rs:={E with ph:=1};have s16:St w0 w16 (Sep ([ay y D.cells.toArray 45,nX (qs g1) R.out.length (List.replicate R.out.length false),Cd (qs g2) R.out.length (List.replicate R.out.length gj),emp,ay z Z 45,A,held r.gi,held R1.kz]++M)):=s16;have s17:=St.xo (m:=M) [ay y D.cells.toArray 45,nX (qs g1) R.out.length (List.replicate R.out.length false),Cd (qs g2) R.out.length (List.replicate R.out.length gj),emp,ay z Z 45,A,held r.gi,held R1.kz] [1,2,7,4,5,0,6] s16;have s17:St w0 w16 (Sep ([held D.kz,ay z Z 45,A,ay y D.cells.toArray 45,held r.gi]++M)):=Xg s17 rfl rfl rfl rfl rfl rfl rfl;have s18:St w0 w16 (Sep (ay z Z 45::A::ay y D.cells.toArray 45::held r.gi::held D.kz::M)):=St.xo (m:=M) [held D.kz,ay z Z 45,A,ay y D.cells.toArray 45,held r.gi] [1,2,3,4,0] s17;refine⟨D,Z,hZ,s18,G.symm,λ_=>⟨?_,?_,?_,?_,.inr ⟨B,rfl,rfl,O⟩⟩,λh=>absurd rfl h⟩
  .rw[W];have a1:D.dV.bd=(jb R.dV 8).bd:=by
    rw[Xp];refine bq λi _=>?_;unfold Rs.Fh;show(if i<R.out.length then (⟨(List.replicate R.out.length gj).getD i gj,(List.replicate R.out.length false).getD i false,R.out.getD i false⟩:Bd) else gR)=FR (if i<R.out.length then _ else gR);rw[T8,T8]
    split<;>rfl
   show({D.dV with s:=R.s.er,k:=none,bd:=D.dV.bd.map Bd.er}:Sx)=_;rw[a1];rfl
  .rw[V];exact H
  .show(List.replicate R.out.length false).length=R.out.length;rw[bS]
  show(List.replicate R.out.length gj).length=R.out.length;rw[bS]
 have G:iq R.dV R.C v=0:=by rw[iq,af B,af I,af (by rintro(h|h);exact L h;exact S h),af k5,af k6,af k7,af k8]
 have V:gx R.dV R.C v=R.C:=by rw[gx,af B,af I,af L,af S,af k7,af k8]
 have W:eU R.dV R.C v=tN R.dV v:=by rw[eU,af B,af I,af L,af S,af k5,af k6,af k7,af k8]
 by_cases i:v.kind=9
 .refine gM i (phs (R1:=R) (p:=3) F λb a=>⟨{R with ph:=3},Z,hZ,a,G.symm,λ_=>⟨?_,?_,f.h,f.e,.inr ⟨B,rfl,rfl,rfl⟩⟩,λh=>absurd rfl h⟩)
  .rw[W,tN,af (by omega)];rfl
  rw[V]
 refine iI i ⟨_,F.aj 1 rfl 10,F.cL 2 rfl (j:=31) (by show 31<34;decide) rfl λg a=>?_⟩;let R1:Rs:={R with dec:=v.digest};have a:St w0 g (Sep (ay z Z 45::A::ay y R1.cells.toArray 45::held R1.C.gi::held R1.kz::M)):=
  St.weak a (dU.right (dU.right (dU.right (dU.right (dU.left (jY λw h=>(⟨h.s,h.has,h.ex,h.ei,h.out⟩:R1.kz w)))))))
 refine phs (R1:=R1) (p:=4) a λn b=>⟨{R1 with ph:=4},Z,hZ,b,G.symm,λ_=>⟨?_,?_,f.h,f.e,.inr ⟨B,rfl,rfl,rfl⟩⟩,λh=>absurd rfl h⟩
 .rw[W,tN,ag (by omega)];rfl
 rw[V]
theorem Oc{S:Sx}{i:Nat}:∀{m:List Of} {l:List KV},(l.map (·.1)).Nodup->((m.foldl (oD S i) l).map (·.1)).Nodup
 |[],_,h=>h
 |x::m,l,h=>by
  refine Oc (m:=m) ?_;show((pG _ _ _ _ _ _).map (·.1)).Nodup;unfold pG
  split
  .exact h
  exact yo h _ _
def E0{R:Rs}{i:Nat}(h:i<R.out.length)(a:i<8):R.dV.bd.getD i gR=⟨R.ex.getD i gj,R.has.getD i false,R.out.getD i false⟩:=by
 rw[ur a,Rs.Fh,ag h]
def yd{a:Type}{l:List a}{i:Nat}{d:a}(h:i<l.length):l[i]?=some (l.getD i d):=by
 rw[au,gE h];rfl
def GV{w:ah}{a:OA}{l:List Bool}(h:iA 1 bl w a l){k:Nat}(b:k<l.length):∃q,a=some q/\w.cell? (Addr.add q (((k:Nat):Int).toNat*1))=some (.bool (l.getD k false)):=RI h (yd b)
set_option maxHeartbeats 4000000 in
theorem EA{w:ah}{R:Rs}(hR:R.Q6 w)(hok:IV R):
  CP 43 #[.agg R.cells.toArray] w (λr I=>∃a c,r=.slice a (dN R.dV R.C).length c/\St w I (Sep [dB a c (dN R.dV R.C),emp])):=by
 refine @Fp _ _ _ _ _ _ _ _ _ _ _ _ _ _ _ _ _ _ _ _ _ _ _ _ _ _ _ _ _ _ _ _ _ _ _ _ R.C.p _ _ _ _ _ _ _ _ _ _ _ _ _ _ _ _ _ _ _ _ _ _ _ _ ?_;have hph:R.ph=0\/R.ph≠0:=by by_cases h:R.ph=0;exact .inl h;exact .inr h
 have hn:R.ph≠0->R.out.length=R.s.bd.length:=hok.n;let L:List (List KV):=A4 R.dV R.C R.s.bd.length;have eo:dN R.dV R.C=oz L R.out.length:=by
  rcases hph with h|h
  .rw[dN,ag (show R.dV.ph=0 from h),hok.n0 h];rfl
  rw[dN,af (show ¬ R.dV.ph=0 from h),O0];show oz L L.length=_;rw[qV,hn h];rfl
 rw[eo];refine bE R.cells.toArray λr w1 s1=>?_;let M:Option Addr->Nat->List Of->List bP:=λa c l=>[dB a c l,ay r R.cells.toArray 45,emp];have s1:St w w1 (Sep (M none 0 [])):=St.gB s1;refine⟨λa l c n w2 m=>∃k:Nat,n=k/\k<=R.out.length/\m=R.out.length-k/\l=(oz L k).length/\St w w2 (Sep (M a c (oz L k))),⟨R.out.length,0,rfl,by omega,by omega,rfl,s1⟩,?_⟩;rintro w2 m a l c n ⟨k,rfl,hk,hm,rfl,B⟩-;refine⟨_,_,_,B.aj 1 rfl 30,?_⟩
 by_cases V:(k:Int)<(R.out.length:Int)
 rotate_left
 .obtain rfl:k=R.out.length:=by omega
  exact dz V ⟨_,_,rfl,B.aM [0,2]⟩
 have g:k<R.out.length:=by omega
 have J:R.ph≠0:=λh=>by have:=hok.n0 h;omega
 have hs:R.s.Ok:=hok.so.so J;have z2:=hs.bd.l2;have hnn:=hn J;have F:k<R.s.bd.length:=by omega
 have hk8:k<8:=by omega
 have hC:R.C.Ok:=(hok.so.c J).ok;have eCs:R.C.s=R.s:=hok.cs J;have hy:R.s.bd[k]?=some (R.s.bd.getD k zN):=yd F;have d:=E0 (R:=R) g hk8;have hm':=sup_le hs.ps;have hmq:(dD R.s.ps).l.all lX=true:=leq hm';have hp:=IC hs.ps;have eL:L.getD k []=BU R.dV R.C k:=by
  rw[au,wL (S:=R.dV) (C:=R.C) F,ag F];rfl
 have e1:oz L (k+1)=oz L k++qE k (BU R.dV R.C k):=by rw[oz,eL]
 have Q:∀j,(oz L j).length<=j*40:=zR λl hl=>GU l hl;have hal:=Q k;refine di V ⟨λa l c w3=>l=(oz L (k+1)).length/\St w w3 (Sep (M a c (oz L (k+1)))),?_,_,_,_,B.aj 1 rfl 30,?_⟩
 .rintro w3 a l c ⟨rfl,s3⟩-;exact mS (by omega) ⟨rfl,s3⟩
 obtain⟨q,hq,hcq⟩:=GV (hR.aK B.aK).out g;refine av hq ⟨by omega,by omega,_,hcq,?_⟩
 by_cases W:R.out.getD k false=true
 .refine cT W ⟨?_,?_⟩
  .rw[e1,BU,d,ag W];simp[qE,Q8]
  rw[e1,BU,d,ag W];show St w w2 (Sep (M a c (oz L k++[])));rw[fu];exact B
 have ho':R.out.getD k false=false:=by simpa using W
 refine cF ho' (Ex8<|Ex8<|⟨_,_,_,R.C.p,Ex8 ⟨_,_,Jk B 1 rfl,bg (vM (hR.aK B.aK).C hC k) ?_⟩⟩);rintro v w3 ⟨a3,c3,rfl,k3⟩;have hcw:oA R.C k=p9 R.C k:=by
  unfold oA;rw[af (by rw[eCs];omega)];rfl
 rw[hcw] at k3⊢;have rch:zO w3 a3 (p9 R.C k):=St.rd Ch.len k3.one;have hcl:=hC.cl;have hchl:(p9 R.C k).length<=30:=by unfold p9;rw[bu];omega
 have hcbl:=Nr (p9 R.C k);have s3:=B.quiet k3.aK;refine⟨_,_,_,rfl,bg (Eu rch (by omega) (FQ hC)) ?_⟩;rintro v w4 ⟨K,O,rfl,k4⟩;have s4:St w w4 (Sep (dB K O (Cq (p9 R.C k))::emp::M a c (oz L k))):=St.cat (l:=[dB K O (Cq (p9 R.C k)),emp]) (s3.and k4);have hx8:R.dV.bd[k]?=some (R.dV.bd.getD k gR):=yd (by show k<((List.range 8).map R.Fh).length;simp;omega);have P:(R.dV.bd.getD k gR).x=R.ex.getD k gj:=by rw[d]
 have D:(R.dV.bd.getD k gR).has=R.has.getD k false:=by rw[d]
 let T:List Of:=mK R.dV R.C k;have e2:BU R.dV R.C k=T.foldl (oD R.dV k) []:=by rw[BU,af (by rw[d];exact W)]
 refine⟨_,_,_,rfl,λy l9 z t=>l9=T.length/\T.length<=80/\St w t (Sep (dB y z T::M a c (oz L k))),?_,_,_,_,s4.aj 3 rfl 28,?_⟩
 .rintro t y l9 z ⟨rfl,h80,b⟩-;have bn:∀j,(((T.take j).foldl (oD R.dV k) []).map (·.1)).Nodup:=λj=>Oc List.Pairwise.nil;have N:∀j,((T.take j).foldl (oD R.dV k) []).length<=40:=λj=>Ej (by simp);refine⟨λa l c' n Z m=>∃j:Nat,n=j/\j<=T.length/\m=T.length-j/\l=(qE k ((T.take j).foldl (oD R.dV k) [])).length/\St w Z (Sep (dB a c' (qE k ((T.take j).foldl (oD R.dV k) []))::dB y z T::M _ _ (oz L k))),⟨T.length,0,rfl,by omega,by omega,rfl,St.gB b⟩,?_⟩;rintro Z m2 i l11 o n ⟨j,rfl,hj,hm2,rfl,e⟩-
  by_cases U:(j:Int)<(T.length:Int)
  .obtain⟨x,hx⟩:=dX T j (by omega);obtain⟨q,hq,E⟩:=(St.rd Of.len (e.out 1 rfl)).at hx;let X:Of:=⟨k,x.want,x.v⟩;refine di U (av hq ⟨by omega,by omega,_,x.want,_,E,e.aY vX.cells.toArray λr2 w12 A=>A.aR 0 rfl x.cells rfl x.one λw13 G=>G.cL 0 rfl (by show 0<8;decide) rfl λw14 H=>(Ex8<|Ex8<|Ex8<|Ex8<|Ex4<|⟨R.C.p,Ex8<|Ex8<|Ex4<|⟨_,_,H.cellsIn 4 rfl,_,x.want,_,H.cellsIn (cs:=X.cells.toArray) 0 rfl,?_⟩⟩)⟩);have s15:St w w14 (Sep [dB i o (qE k ((T.take j).foldl (oD R.dV k) [])),Sep (dB y z T::M a c (oz L k))]):=St.yW (show St w w14 (star (dB i o (qE k ((T.take j).foldl (oD R.dV k) []))) (Sep (dB y z T::M a c (oz L k)))) from H.aM [1,2,3,4,5]);refine bg (TW (u:=x.want) (v:=x.v) s15 hR.s hs hy (bn j) (N j)) ?_;rintro v w16 ⟨a',c',rfl,Y⟩;have e3:pG R.s k (R.s.bd.getD k zN) ((T.take j).foldl (oD R.dV k) []) x.want x.v=(T.take (j+1)).foldl (oD R.dV k) []:=by
    rw[mM (f:=oD R.dV k) (a:=[]) hx];rfl
   rw[e3] at Y⊢;exact⟨_,_,_,rfl,T.length-(j+1),by omega,j+1,gC (by omega),by omega,rfl,rfl,St.mT [_] Y⟩
  obtain rfl:j=T.length:=by omega
  rw[aH,<-e2] at e⊢;have hb40:(qE k (BU R.dV R.C k)).length<=40:=by rw[zT];exact Nj _ _ _
  refine dz U (dW vO Of.len Of.one (e.out 2 rfl) (St.rd Of.len (e.out 0 rfl)) (by omega) (by omega) λH Y w12 A=>⟨by rw[e1],?_⟩);have G:St w w12 (Sep (dB H Y (oz L k++qE k (BU R.dV R.C k))::dB i o (qE k (BU R.dV R.C k))::dB y z T::[ay r R.cells.toArray 45,emp])):=A;rw[e1];exact G.aM [0,3,4]
 obtain⟨qh,hqh,hch⟩:=GV (hR.aK s4.aK).has (k:=k) (by rw[hok.h];exact g);refine av hqh ⟨by omega,by rw[hok.h];omega,_,hch,?_⟩
 cases hh:R.has.getD k false with
 |false=>
  have e:T=Cq (p9 R.C k):=by show mK _ _ _=_;rw[mK,D,hh,af (by decide),fu]
  exact cF rfl ⟨by rw[e],by rw[e];omega,by rw[e];exact s4.aM [0,2,3,4]⟩
 |true=>
  have e:T=Cq (p9 R.C k)++(if qQ (R.ex.getD k gj) (dD R.s.ps)=0 then qf (R.ex.getD k gj) (dD R.s.ps) else []):=by show mK _ _ _=_;rw[mK,D,hh,ag rfl,P];rfl
  have U:=hok.so.x _ (ak hx8) (by rw[D,hh]);rw[P] at U;have hz:=uM U;have Z:=s4.quiet (aZ.drew w4 []);have hke:k<R.ex.length:=by rw[hok.e];exact g
  have Y:R.ex[k]?=some (R.ex.getD k gj):=yd hke;have fx:∀{I},aZ w I []->∃q,R.ea=some q/\aU I (Addr.add q (((k:Nat):Int).toNat*9)) 0 (R.ex.getD k gj).cells:=λh=>by rw[aq];exact(hR.aK h).ex.at Y
  obtain⟨qx,N,E⟩:=fx Z.aK;have hxi:∀{I},aZ w I []->(R.ex.getD k gj).In I:=λh=>(hR.aK h).ei _ (ak Y);refine cT rfl ⟨_,_,_,Z.aj 3 rfl 29,av N ⟨by omega,by omega,_,(R.ex.getD k gj).u,_,_,_,_,E,_,_,_,Z.aj 3 rfl 5,Z.qu (rI (hR.aK Z.aK).s.ps) λw6 s6=>?_⟩⟩;obtain⟨qx',A,H⟩:=fx s6.aK;rw[N] at A;cases A;refine⟨_,rfl,H,s6.aj 3 rfl 29,bg (B5 hmq hp (by omega) (hxi s6.aK)) ?_⟩;rintro v w7 (⟨hne,rfl,c7⟩|⟨J,hlen,a7,c7,rfl,k7⟩)
  .have s7:=s6.quiet c7;rw[af hne,fu] at e;refine⟨_,_,_,_,rfl,s7.aY #[] λr5 w8 o=>?_⟩;have o:St w w8 (star (dB (qs r5) 0 []) (Sep (dB K O (Cq (p9 R.C k))::emp::M a c (oz L k)))):=St.weak o (dU.left (ic (n:=0) (sz:=8) rfl (by decide)));refine dW (l2:=Cq (p9 R.C k)) vO Of.len Of.one o (St.rd Of.len ((St.IS o).out 1 rfl)) (by simp only[aT];omega) (by simp only[aT];omega) λy z w9 G=>?_;rw[bZ] at G⊢;refine dW vO Of.len Of.one G (l2:=[]) (λi x h=>by simp at h) (by simp only[aT];omega) (by simp only[aT];omega) λa10 c10 t b=>?_;rw[fu] at b⊢;exact⟨by rw[e],by rw[e];omega,by rw[e];exact(St.IS b).aM [0,3,4,5]⟩
  rw[ag J] at e;generalize qf (R.ex.getD k gj) (dD R.s.ps)=i at *;have s7:St w w7 (Sep (dB a7 c7 i::dB K O (Cq (p9 R.C k))::emp::M a c (oz L k))):=s6.and k7.single;refine⟨_,_,_,_,rfl,s7.aY #[] λr5 w8 o=>?_⟩;have o:St w w8 (star (dB (qs r5) 0 []) (Sep (dB a7 c7 i::dB K O (Cq (p9 R.C k))::emp::M a c (oz L k)))):=St.weak o (dU.left (ic (n:=0) (sz:=8) rfl (by decide)));refine dW (l2:=Cq (p9 R.C k)) vO Of.len Of.one o (St.rd Of.len ((St.IS o).out 2 rfl)) (by simp only[aT];omega) (by simp only[aT];omega) λy z w9 G=>?_;rw[bZ] at G⊢;exact dW vO Of.len Of.one G (l2:=i) (St.rd Of.len ((St.IS G).out 1 rfl)) (by omega) (by omega) λa10 c10 t b=>⟨by rw[e],by rw[e,aA];omega,by rw[e];exact(St.IS b).aM [0,4,5,6]⟩
def AF{w:ah}{a1 a2:OA}{c1 c2:Nat}{l:List Int}(e:iA 1 i1 w a1 l)(f:iA 1 i1 w a2 l)(v:l.length<=1000):
  CP 46 #[.slice a1 l.length c1,.slice a2 l.length c2] w (λr c=>r=iv 0/\aZ w c []):=by
 refine yS.1.1 ⟨λi j m=>∃k:Nat,i=k/\k<=l.length/\m=l.length-k/\aZ w j [],⟨l.length,0,rfl,by omega,by omega,aZ.refl _ _⟩,?_⟩;rintro j m i ⟨k,rfl,u,y,d1⟩-;refine⟨λb d=>b=decide (k<l.length)/\aZ w d [],?_,?_⟩
 rotate_left
 .by_cases g:k<l.length
  .exact di (by omega) ⟨by rw[dT g];exact dT (by omega),d1⟩
  exact dz (by omega) ⟨(dF g).symm,d1⟩
 rintro d b ⟨rfl,d1⟩-
 by_cases g:k<l.length
 rotate_left
 .exact dz g (dz (by omega) (dz (by omega) ⟨rfl,d1⟩))
 obtain⟨x,t⟩:=dX l k g;have d2:=d1.trans (aZ.drew d []) (by simp);have d3:=d2.trans (aZ.drew _ []) (by simp);have r:∀{c} {a},iA 1 i1 c a l->∃q,a=some q/\c.cell? (Addr.add q (((k:Nat):Int).toNat*1))=some (iv x):=λh=>by rw[aq];exact iW h t
 obtain⟨z,n,t1⟩:=r (e.aK d2);obtain⟨A,o,t2⟩:=r (f.aK d2);obtain⟨B,p,t3⟩:=r (e.aK d3);obtain⟨C,s,t4⟩:=r (f.aK d3);exact di g (av n ⟨by omega,by omega,x,t1,av o ⟨by omega,by omega,x,t2,dz (by omega) (av p ⟨by omega,by omega,x,t3,av s ⟨by omega,by omega,x,t4,dz (by omega) (mS (by omega) d3)⟩⟩)⟩⟩)
def sj{w:ah}{a:OA}{l:List Of}(h:Q5 w a l){k:Nat}{x:Of}(b:l[k]?=some x):∃q,a=some q/\aU w (Addr.add q (((k:Nat):Int).toNat*8)) 0 x.cells:=by
 rw[aq];exact h.at b
def Qi{w:ah}{u1 u2 u3:I6}{a1 a2 a3 a4:OA}{c1 c2 c3 c4:Nat}{l:List Int}{p:List Of}(q:iA 1 i1 w a1 l)(t:iA 1 i1 w a3 l)(y:l.length<=1000)(s:Q5 w a2 p)(u:Q5 w a4 p)(C:p.length<=1000):
  CP 45 #[.agg (xm u1 u2 u3 (.slice a1 l.length c1) (.slice a2 p.length c2)),.agg (xm u1 u2 u3 (.slice a3 l.length c3) (.slice a4 p.length c4))] w (λr a=>r=.bool true/\aZ w a []):=by
 refine yS.1.2.1 (bE _ λr F A=>A.aY _ λz G a=>?_);let M:List bP:=[ay z (xm u1 u2 u3 (.slice a3 l.length c3) (.slice a4 p.length c4)) 66,ay r (xm u1 u2 u3 (.slice a1 l.length c1) (.slice a2 p.length c2)) 66,emp];refine⟨λb f=>b=false/\St w f (Sep M),?_,u1,a.bA 1 0 rfl rfl,u1,a.bA 0 0 rfl rfl,cF (by simp[I6.beq]) ⟨u2,a.bA 1 6 rfl rfl,u2,a.bA 0 6 rfl rfl,cF (by simp[I6.beq]) ⟨u3,a.bA 1 12 rfl rfl,u3,a.bA 0 12 rfl rfl,cF (by simp[I6.beq]) ⟨_,_,_,a.aj 1 rfl 18,_,_,_,a.aj 0 rfl 18,bg (AF (q.aK a.aK) (t.aK a.aK) y) ?_⟩⟩⟩⟩
 rotate_left
 .rintro v f ⟨rfl,c3⟩;have c:=a.quiet c3;exact⟨_,rfl,cF rfl ⟨_,_,_,c.aj 1 rfl 19,_,_,_,c.aj 0 rfl 19,by simp,c⟩⟩
 rintro f b ⟨rfl,c⟩-;refine cF rfl ⟨λi h m=>∃k:Nat,i=k/\k<=p.length/\m=p.length-k/\St w h (Sep M),⟨p.length,0,rfl,by omega,by omega,c⟩,?_⟩;rintro h m i ⟨k,rfl,v,B,e⟩-;refine⟨_,_,_,e.aj 1 rfl 19,?_⟩
 by_cases g:(k:Int)<(p.length:Int)
 rotate_left
 .exact dz g ⟨rfl,e.aK⟩
 obtain⟨x,j⟩:=dX p k (by omega);have d:=e.quiet (aZ.drew h []);obtain⟨D,n,t1⟩:=sj (s.aK d.aK) j;obtain⟨E,o,t2⟩:=sj (u.aK d.aK) j;exact di g ⟨_,_,_,d.aj 1 rfl 19,av n ⟨by omega,by omega,x.b,x.want,x.v,t1,_,_,_,d.aj 0 rfl 19,av o ⟨by omega,by omega,x.b,x.want,x.v,t2,cF (by simp[I6.beq]) (mS (by omega) d)⟩⟩⟩
section
variable {w0 w:ah} {b:Nat} {S:Sx} {C:Ck} {B:bP}
def XG{S:Sx}(h:S.bd.length=8):S.cells.toArray[98]?=some (.int .u64 S.dec):=by
 obtain⟨o,n,s,k,m,dec,a,b⟩:=S;obtain⟨c,d,e,f,g,i,j,l,rfl⟩:=iU h;rfl
def VP(s:St w0 w (star (xH b S C) B))(c:tJ S C):CP 33 #[pt b] w (λr g=>r=.tuple #[.int .u64 (if S.ph=4 then S.dec else 0),.bool (decide (S.ph=4))]/\g=w):=by
 refine yS.1.2.2.1 ?_;obtain⟨a,i,rfl,rfl,j,d⟩:=mz s;have f:=(rX c).b8;refine⟨λx e=>x=decide (a.ph≠4)/\e=w,?_,_,(d.aj 0 rfl 4).trans rfl,by by_cases h:a.ph=4<;>simp[h],rfl⟩;rintro e x ⟨rfl,rfl⟩-
 by_cases h:a.ph=4
 .refine dz (by simpa using h) ⟨_,(d.aj 0 rfl 98).trans (XG f),?_,rfl⟩;rw[show a.er.ph=a.ph from rfl,ag h,dT h];rfl
 refine di h ⟨?_,rfl⟩;rw[show a.er.ph=a.ph from rfl,af h,dF h]
end

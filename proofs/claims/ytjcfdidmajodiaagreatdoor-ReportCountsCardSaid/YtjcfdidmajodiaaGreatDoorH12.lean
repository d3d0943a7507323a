import Derived.Lib.ItoaLen
import Derived.Test.YtjcfdidmajodiaaGreatDoorH11
set_option linter.unusedVariables false
set_option linter.defProp false
set_option maxRecDepth 100000
namespace Go.Proofs.YtjcfdidmajodiaaGreatDoor
open Go Go.Vc _root_.Go.Proofs.Tryz
def Kw(x:Xv)(m:I6):mX x.er m=mX x m:=by unfold mX; rw[uv,Us]
def Kx(x:Xv)(m:I6):mE x.er m=mE x m:=by unfold mE; rw[Us]
def xq{l:List Pr}{t:List UInt8}(h:(bW l t).2=0):fC (bW l t).1=0:=by
 unfold bW at h ⊢
 split at h
 ·rename_i g; exact absurd h g
 ·rename_i g; rw[ah g]
  split at h
  ·rename_i g2; exact absurd h g2
  ·rename_i g2; rw[ah g2]
   split at h
   ·rename_i g3; exact absurd h g3
   ·rename_i g3; rw[ah g3]; simpa using g3
def Fp{x:Xv}(h:fC x=0):bJ x<=40:=by
 unfold fC at h
 split at h
 ·cases h
 ·split at h
  ·cases h
  ·rename_i g; omega
def D7(S:Se)(n:Nat)(y:Br):List Of->Int
 | []=>0
 | o :: l=>if fP S n y o.want≠0 then fP S n y o.want else if y.bud≠0/\y.bud<o.v then 17 else D7 S n y l
theorem vO{S:Se}{n:Nat}{y:Br}:∀ (l:List Of) (k:Nat),(∀ o∈l.take k,fP S n y o.want=0/\¬ (y.bud≠0/\y.bud<o.v))->D7 S n y l=D7 S n y (l.drop k)
 | l,0,_=>rfl
 | [],k+1,_=>rfl
 | o :: l,k+1,h=>by
  obtain⟨h1,h2⟩:=h o (by simp);rw[D7,ah (by simpa using h1),ah h2,vO l k λ o a=>h o (by simp[a])]; rfl
def OK{S:Se}{n:Nat}{y:Br}{l:List Of}{k:Nat}{o:Of}(h:∀ o∈l.take k,fP S n y o.want=0/\¬ (y.bud≠0/\y.bud<o.v))(b:l[k]?=some o) :
  D7 S n y l=if fP S n y o.want≠0 then fP S n y o.want else if y.bud≠0/\y.bud<o.v then 17 else D7 S n y (l.drop (k+1)):=by
 obtain⟨a,rfl⟩:=aR.1 b;rw[vO l k h,jC a,D7]
def fY(S:Se)(C:Ck)(n:Nat)(y:Br)(t:List UInt8):Int :=
 if (bW S.ps t).2≠0 then (bW S.ps t).2 else if mX (bW S.ps t).1 (bI S.ps)≠0 then mX (bW S.ps t).1 (bI S.ps)
 else if D7 S n y (mE (bW S.ps t).1 (bI S.ps))≠0 then D7 S n y (mE (bW S.ps t).1 (bI S.ps)) else yy (sZ C n) (mE (bW S.ps t).1 (bI S.ps))
def Ql{l:List Pr}(h:dH l):pr (bI l).l<=1024:=by
 rw[Jd,zv h.l2]; exact h.lim
def MN{w:af}{b g n:Nat}{S:Sx}{C:Ck}{y:Br}(hb:aA w ⟨b,0,none⟩ 0 S.cells)(M:S.s.In w)(hk:S.k=qs g)(hK:C.Rd g w)(hC:C.Ok)(G:S.s.Ok)(hn:n<C.s.bd.length)(hy:S.s.bd[n]?=some y)(t:List UInt8) :
  CP 121 #[.pointer (qs b),iv n,sv t] w (λ r w'=>∃ x:Xv,(fY S.s C n y t=0->x.er=(bW S.s.ps t).1)/\r=.tuple #[.agg x.cells.toArray,iv (fY S.s C n y t)]/\St w w' (held x.In)):=by
 refine(p6 (p6 lM)).2.2.1 ?_;have hn':=(aR.1 hy).1;have z2:=G.bd.l2;have hm:=sup_le G.ps;have hp:=Ql G.ps;have J:∀ {w'},aC w w' []->∀ (j:Nat) (v:Value),S.cells[j]?=some v->w'.cell? ⟨b,j,none⟩=some v:=λ hc j v H=>by
  have:=aM (bB hc hb) j v H
  rwa [aL,om] at this
 refine aG cI.cells.toArray λ r1 w1 s1=>⟨_,_,_,J s1.av 5 _ rfl,au (SO (M.av s1.av).ps M.h1 G.ps t) ?_⟩;rintro v w2 ⟨x,ex,rfl,k2⟩;have s2:St w w2 (Sep [held x.In,aj r1 cI.cells.toArray 120,emp]):=s1.and k2;refine⟨_,x.u,Ex4 ⟨_,rfl,s2.aB cI.cells.toArray λ r2 Z V=>V.az 0 rfl x.cells rfl x.one λ w4 W=>?_⟩⟩;have W:St w w4 (Sep [aj r2 x.cells.toArray 120,held x.In,aj r1 cI.cells.toArray 120,emp]):=W;have bad:∀ {k:Int} {w':af} {m:List aI} {i:Nat},St w w' (Sep m)->m[i]?=some (aj r1 cI.cells.toArray 120)->k≠0->fY S.s C n y t=k ->
   uP ⟨r1,0,none⟩ 0 cI.cells w' λ Z=>∃ (n2:Int) (u1:I6) (n3:Int) (a2:OA) (l2 c2:Nat),aA Z ⟨r1,0,none⟩ 0 (iv n2 :: u1.on [iv n3,.slice a2 l2 c2]) /\
    ∃ x:Xv,(fY S.s C n y t=0->x.er=(bW S.s.ps t).1)/\Value.tuple #[.agg (iv n2 :: u1.on [iv n3,.slice a2 l2 c2]:List Value).toArray,iv k]=.tuple #[.agg x.cells.toArray,iv (fY S.s C n y t)]/\St w Z (held x.In):=λ {k w' m i} s e hk0 hp =>
  s.az i e cI.cells rfl (Xv.one _) λ Z V=>⟨_,z6,_,_,_,_,V.cellsIn (cs:=cI.cells.toArray) (T:=120) i (nK (gr e)),cI,λ h=>absurd (hp.symm.trans h) hk0,by rw[hp]; rfl,((St.start' V.av).one.jx sO).first⟩
 by_cases h1:(bW S.s.ps t).2=0
 ·have hx0:fC x=0:=by rw[<- uv,ex]; exact xq h1
  have hz:=Fp hx0;have F:fY S.s C n y t=if mX x (bI S.s.ps)≠0 then mX x (bI S.s.ps) else if D7 S.s n y (mE x (bI S.s.ps))≠0 then D7 S.s n y (mE x (bI S.s.ps)) else yy (sZ C n) (mE x (bI S.s.ps)):=by
   rw[fY,ah (by simpa using h1),<- ex,Kw,Kx]
  have X:=W.quiet (aC.drew w4 []);refine cF (by simpa using h1) ⟨_,x.u,_,_,_,_,X.cellsIn 0 rfl,_,_,_,J X.av 5 _ rfl,au (sD (M.av X.av).ps (by have:=G.ps.l2; omega)) ?_⟩;rintro v w6 ⟨rfl,c6⟩;have Y:=X.quiet c6;refine⟨_,rfl,Y.cellsIn 0 rfl,au (LK hm hp (by omega) (Y.bC 1 rfl)) ?_⟩;rintro v w7 (⟨O,rfl,c7⟩|⟨O,hlen,a,c,rfl,k7⟩)
  ·exact⟨_,_,_,_,rfl,cT (by simpa using O) (bad (Y.quiet c7) (i:=2) rfl O (by rw[F,ak O]))⟩
  rw[ah (by simpa using O)] at F;have s7:St w w7 (Sep [tR a c (mE x (bI S.s.ps)),aj r2 x.cells.toArray 120,held x.In,aj r1 cI.cells.toArray 120,emp]):=Y.and k7.single;generalize hl:mE x (bI S.s.ps)=l at *;obtain⟨_,q,hq,hcy⟩:=(M.av s7.av).bd n y hy;have K:w7.cell? (Addr.add (Addr.add q (((n:Nat):Int).toNat*4)) 2)=some (iv y.bud):=by
   have:=aM hcy 2 _ rfl
   rwa [aL] at this
  refine⟨_,_,_,_,rfl,cF rfl ⟨_,_,_,J s7.av 6 _ rfl,aq hq ⟨by omega,by omega,_,K,?_⟩⟩⟩;refine⟨λ i w8 m=>∃ k:Nat,i=k/\k<=l.length/\m=l.length-k/\(∀ o∈l.take k,fP S.s n y o.want=0/\¬ (y.bud≠0/\y.bud<o.v))/\St w w8 (Sep [tR a c l,aj r2 x.cells.toArray 120,held x.In,aj r1 cI.cells.toArray 120,emp]),⟨l.length,0,rfl,by omega,by omega,by simp,s7⟩,?_⟩;rintro w8 m i ⟨k,rfl,hk8,hm8,f,I⟩ -
  by_cases N:(k:Int)<(l.length:Int)
  ·obtain⟨o,D⟩:=bx l k (by omega);obtain⟨q2,hq2,hc2⟩:=(St.rd Of.len I).at D;have L:=OK f D;refine aP N (aq hq2 ⟨by omega,by omega,_,o.want,_,hc2,I.aB YL.cells.toArray λ r3 w9 s9=>s9.az 0 rfl o.cells rfl o.one λ E A=>?_⟩);have d:=A.quiet (aC.drew E []);have Q:aA E.drew ⟨b,5,none⟩ 0 S.s.arr.toList:=bM _ 0 λ j v hj=>by
    rw[bY,aL];refine J d.av (5+j) v ?_;have hj4:j<4:=(aR.1 hj).1
    match j,hj4 with
    | 0,_|1,_|2,_|3,_=>exact hj
   refine Ex8<|Ex4<|⟨Q,o.want,d.aQ 0 1 rfl rfl,au (BH (M.av d.av) G hy o.want) ?_⟩;rintro v w12 ⟨rfl,c12⟩;have B:=d.quiet c12;refine⟨_,rfl,?_⟩
   by_cases ha:fP S.s n y o.want=0
   ·rw[ah (by simpa using ha)] at L;refine cF (by simpa using ha) ⟨λ bb U=>bb=decide (y.bud≠0/\y.bud<o.v)/\St w U (Sep [tR a c l,aj r2 x.cells.toArray 120,held x.In,aj r1 cI.cells.toArray 120,emp]),?_,?_⟩
    ·rintro U bb ⟨rfl,R⟩ x2
     by_cases p:y.bud≠0/\y.bud<o.v
     ·rw[ak p] at L;exact aP p (bad R (i:=3) rfl (by decide) (by rw[F,L]; rfl))
     ·refine aU p (jZ (by omega) ⟨λ o' P=>?_,R⟩);rw[aH D] at P;rcases aV.1 P with h|h
      ·exact f o' h
      ·rw[bp.1 h]; exact⟨ha,p⟩
    ·by_cases z:y.bud=0
     ·exact cF (by simpa using z) ⟨by rw[dF λ h=>h.1 z],B.ay [1,2,3,4,5]⟩
     ·refine cT (by simpa using z) ⟨_,B.ag 0 rfl 7,?_,B.ay [1,2,3,4,5]⟩
      by_cases H:y.bud<o.v
      ·rw[dT H,dT ⟨z,H⟩]
      ·rw[dF H,dF λ h=>H h.2]
   ·rw[ak ha] at L;exact cT (by simpa using ha) (bad B (i:=4) rfl ha (by rw[F,L,ak ha]))
  ·obtain rfl:k=l.length:=by omega
   rw[br] at f;have e0:D7 S.s n y l=0:=by rw[vO l l.length (by rw[br]; exact f),pE]; rfl
   rw[e0,ah (by decide)] at F;refine aU N ⟨_,(J I.av 9 _ rfl).trans (by rw[hk]),au (BW (hK.av I.av) hC hn) ?_⟩;rintro v w9 ⟨a4,c4,rfl,k9⟩;have rl:=(St.rd Of.len I).av k9.av;have rch:xH w9 a4 (sZ C n):=St.rd Ch.len k9.one;have s9:=I.quiet k9.av;refine⟨_,_,_,rfl,au (IX rch (by unfold sZ; rw[dU]; have:=hC.cl; omega) (JY hC) rl (by omega)) ?_⟩;rintro v E ⟨⟨i,rfl⟩,c10⟩;have A:=s9.quiet c10;refine⟨_,_,rfl,_,x.u,_,_,_,_,A.cellsIn 1 rfl,A.az 3 rfl x.cells rfl x.one λ w11 d=>⟨_,x.u,_,_,_,_,d.cellsIn 3 rfl,x,λ _=>ex,by rw[F]; rfl,?_⟩⟩;exact(d.ay [2]).single
 ·exact cT (by simpa using h1) (bad W (i:=2) rfl h1 (by rw[fY,ak h1]))
def qy(S:Sx)(n:Nat)(x:Xv):Sx:={ S with bd:=S.bd.set n { S.bd.getD n dG with x:=x,has:=true } }
section
variable {w0 w:af} {b g n:Nat} {S:Sx} {C:Ck} {B:aI} {y:Br}
def Rx{k:List Nat}{l:List aI}(s:St w0 w (Sep l))(e:ay k l=jR g C):C.Rd g w:=(by have:=s.ay k; rw[e] at this; exact this:St w0 w (Sep (jR g C))).imp zX
def Wo{Q:af->Prop}(hQ:∀ w,Q w->S.s.In w)(s:St w0 w (Sep (iT b S g C++[held Q,B])))(h:S.bd.length=8)(L:S.k=qs g)(hC:C.Ok)(F:S.s.Ok){e:Ev}(he:e.bidder=n)(M:n<C.s.bd.length)(G:S.s.bd[n]?=some y) :
  CP 81 #[.pointer (qs b),e.v] w (λ r w'=>r=iv (fY S.s C n y e.text)/\(fY S.s C n y e.text≠0->St w0 w' (Sep (iT b S g C++[held Q,B])))/\(fY S.s C n y e.text=0->∃ x:Xv,x.er=(bW S.s.ps e.text).1/\St w0 w' (Sep (iT b (qy S n x) g C++[held Q,held x.In,B])))):=by
 refine @uQ _ _ _ _ e.want _ _ _ _ ?_;have N:=(aR.1 G).1;have z2:=F.bd.l2;have f:n<8:=by omega
 have t:S.bd[n]?=some (S.bd.getD n dG):=by rw[aJ,gE (by omega)]; rfl
 have p:S.cells.toArray.size=101:=by simpa using Sx.len h
 refine s.aB e.cells.toArray λ r1 A s1=>?_;have s1:St w0 A (Sep (aj r1 e.cells.toArray 45 :: aj b S.cells.toArray 125 :: (jR g C++[held Q,B]))):=s1;have c1:A.cell? ⟨r1,1,none⟩=some (iv n):=by rw[<- he]; exact s1.ag 0 rfl 1
 have z:C.Rd g A:=Rx (k:=[2,3,4,5,6,7]) s1 rfl;refine⟨_,c1,_,s1.ag 0 rfl 9,au (MN (s1.cellsIn 1 rfl) (hQ _ (s1.bC 8 rfl)) L z hC F M G e.text) ?_⟩;rintro v R ⟨x,ex,rfl,O⟩;have s2:St w0 R (Sep (held x.In :: aj r1 e.cells.toArray 45 :: aj b S.cells.toArray 125 :: (jR g C++[held Q,B]))):=s1.and O;refine⟨_,x.u,Ex4 ⟨_,rfl,s2.aB cI.cells.toArray λ r2 T P=>P.az 0 rfl x.cells rfl x.one λ D m=>?_⟩⟩;have m:St w0 D (Sep (aj r2 x.cells.toArray 120 :: held x.In :: aj r1 e.cells.toArray 45 :: aj b S.cells.toArray 125 :: (jR g C++[held Q,B]))):=m
 by_cases d:fY S.s C n y e.text=0
 ·refine⟨λ l=>St w0 l (Sep (iT b (qy S n x) g C++[held Q,held x.In,B])),λ l c _=>⟨rfl,λ h=>absurd d h,λ _=>⟨x,ex d,c⟩⟩,?_⟩;have c:=m.quiet (aC.drew D []);have c5:D.drew.cell? ⟨r1,1,none⟩=some (iv n):=by rw[<- he]; exact c.ag 2 rfl 1
  refine cT (by simpa using d) ⟨_,c5,_,c5,_,x.u,_,_,_,_,c.cellsIn 0 rfl,by omega,by omega,?_⟩;rw[Xi];let a:Sx:={ S with bd:=S.bd.set n { S.bd.getD n dG with x:=x } };refine c.jO 3 (10+n*11) rfl (vs:=x.cells) a.cells.toArray (by rw[p,Xv.len]; omega) (Xv.one _) (by rw[Xv.len]; exact congrArg List.toArray (K7 h f t x)) λ I o=>?_;have h1:a.bd.length=8:=by simpa[a] using h
  have q:a.bd[n]?=some { S.bd.getD n dG with x:=x }:=by
   show(S.bd.set n _)[n]?=_;rw[nK (by omega)]
  have i:a.cells.toArray.size=101:=by simpa using Sx.len h1
  have o:St w0 I (Sep (aj r2 x.cells.toArray 120 :: held x.In :: aj r1 e.cells.toArray 45 :: aj b a.cells.toArray 125 :: (jR g C++[held Q,B]))):=o;have J:I.cell? ⟨r1,1,none⟩=some (iv n):=by rw[<- he]; exact o.ag 2 rfl 1
  refine⟨J,by omega,by omega,?_⟩;rw[bY];refine o.aN 3 rfl (j:=10+n*11+9) (by rw[i]; omega) rfl λ U H=>?_;have E:=K6 h1 f q true;have K:({ a with bd:=a.bd.set n { ({ S.bd.getD n dG with x:=x }:Bd) with has:=true } }:Sx)=qy S n x:=by
   show({ S with bd:=(S.bd.set n _).set n _ }:Sx)=_;rw[Dj]; rfl
  rw[K] at E;rw[E] at H;exact H.ay [3,4,5,6,7,8,9,10,1,11]
 ·refine⟨λ l=>St w0 l (Sep (iT b S g C++[held Q,B])),λ l c _=>⟨rfl,λ _=>c,λ h=>absurd h d⟩,cF (by simpa using d) (m.ay [3,4,5,6,7,8,9,10,11])⟩
end
structure Ck.Inv (C:Ck):Prop where
 ok:C.Ok
 n30:C.ov=false->C.cl.length<30
section
variable {C C':Ck}
def Rn.Sz.er{x:Rn}{n:Nat}:x.er.Sz n<->x.Sz n:=⟨λ h=>⟨h.ask,h.got,h.bd⟩,λ h=>⟨h.ask,h.got,h.bd⟩⟩
def Ck.Inv.ZS(h:C.Inv):C.er.Inv:=by
 obtain⟨⟨s,o,cl,cz,cp,ca,cg,p,ask,bd,dp,asked⟩,n30⟩:=h;have mm:∀ {x:Rn},x∈C.er.cl->∃ y∈C.cl,y.er=x:=λ a=>bL.1 a;have c:C.er.cl.length=C.cl.length:=dU _;refine⟨⟨⟨s.ps,s.bd,s.cp,s.sa⟩,o,by rw[c]; exact cl,λ x a=>?_,λ x a=>?_,λ x a=>?_,λ x a=>?_,p,ask,bd,dp,asked⟩,λ h=>by rw[c]; exact n30 h⟩
 ·obtain⟨y,b,rfl⟩:=mm a; exact Rn.Sz.er.2 (cz y b)
 ·obtain⟨y,b,rfl⟩:=mm a; exact cp y b
 ·obtain⟨y,b,rfl⟩:=mm a; exact ca y b
 ·obtain⟨y,b,rfl⟩:=mm a; exact cg y b
def Ck.Inv.ZD(h:C.er.Inv):C.Inv:=by
 obtain⟨⟨s,o,cl,cz,cp,ca,cg,p,ask,bd,dp,asked⟩,n30⟩:=h;have mm:∀ {x:Rn},x∈C.cl->x.er∈C.er.cl:=λ a=>gP a;have b:C.er.cl.length=C.cl.length:=dU _;rw[b] at cl n30;exact⟨⟨⟨s.ps,s.bd,s.cp,s.sa⟩,o,cl,λ x a=>Rn.Sz.er.1 (cz _ (mm a)),λ x a=>cp x.er (mm a),λ x a=>ca x.er (mm a),λ x a=>cg x.er (mm a),p,ask,bd,dp,asked⟩,n30⟩
def Ck.Inv.er(h:C.Inv)(e:C'.er=C.er):C'.Inv:=Ck.Inv.ZD (e▸h.ZS)
def Ua(C:Ck)(n:Nat):sZ C.er n=sZ C n:=by
 show(C.cl.map Rn.er).map _=_;rw[eG]; rfl
def SS(C:Ck):jy C.er=jy C:=by
 show fZ C.dp 0 (((C.cl.map Rn.er).getLast?.map Rn.got).getD [])=_;rw[List.getLast?_map,Option.map_map]; rfl
def Ip(C:Ck):C.er.cl.length=C.cl.length:=dU _
def Ol(C:Ck):dJ C.er=dJ C:=by
 unfold dJ;rw[Ip,SS]; rfl
def N7(C:Ck):lG C.er=lG C:=by unfold lG; rw[Ol]; rfl
def O3(C:Ck):kz C.er=kz C:=by unfold kz; rw[N7]; rfl
def Kh(C:Ck):eJ C.er=eJ C:=by unfold eJ; rw[N7,O3,Ip]
def Yb(C:Ck):(ME C.er).er=(ME C).er:=by
 show({ p:=_,ask:=_,got:=dJ C.er,bd:=_,xa:=_,xc:=_,ga:=_,gc:=_,ba:=_,bc:=_ }:Rn)=_;rw[Ol]; rfl
def J6(C:Ck):C.er.er=C.er:=by
 show({ C.er with cl:=(C.cl.map Rn.er).map Rn.er }:Ck)=_;rw[eG]; rfl
def NN(C:Ck):(gZ C.er).er=(gZ C).er:=by
 have a:(gZ C.er).cl.map Rn.er=(gZ C).cl.map Rn.er:=by
  show((C.cl.map Rn.er)++[ME C.er]).map Rn.er=(C.cl++[ME C]).map Rn.er;rw[bP,bP,eG,cV,cV,Yb]; rfl
 show({ s:=_,o:=_,cl:=(gZ C.er).cl.map Rn.er,p:=if eJ C.er then C.p else (kz C.er).1,ask:=_,bd:=_,dp:=_,ov:=eJ C.er,ka:=_,kc:=_,xa:=_,xc:=_,ya:=_,yc:=_,za:=_,zc:=_ }:Ck)=_;rw[a,Kh,O3]; rfl
def TE(C:Ck):(sC C.er).er=(sC C).er:=by
 show({ s:=_,o:=_,cl:=(C.cl.map Rn.er).map Rn.er,p:=_,ask:=_,bd:=_,dp:=_,ov:=_,ka:=_,kc:=_,xa:=_,xc:=_,ya:=_,yc:=_,za:=_,zc:=_ }:Ck)=_;rw[eG]; rfl
def NW(C:Ck)(n:Nat):(jS C.er n).er=(jS C n).er:=by
 show({ s:=_,o:=_,cl:=(C.cl.map Rn.er).map Rn.er,p:=_,ask:=_,bd:=_,dp:=_,ov:=_,ka:=_,kc:=_,xa:=_,xc:=_,ya:=_,yc:=_,za:=_,zc:=_ }:Ck)=_;rw[eG]; rfl
def Re(C:Ck)(n:Nat)(u:I6):(oK C.er n u).er=(oK C n u).er:=by
 show({ s:=_,o:=_,cl:=(C.cl.map Rn.er).map Rn.er,p:=_,ask:=_,bd:=_,dp:=_,ov:=_,ka:=_,kc:=_,xa:=_,xc:=_,ya:=_,yc:=_,za:=_,zc:=_ }:Ck)=_;rw[eG]; rfl
def MC(C:Ck)(r:Int):cU C.er r=cU C r:=by unfold cU; rw[Ip]; rfl
def PN(C:Ck)(r:Nat):(e9 C.er r).er=(e9 C r).er:=by
 unfold e9;have e:C.er.cl[r]?=(C.cl[r]?).map Rn.er:=dD ..;rw[e]
 cases C.cl[r]? with
 | none =>
  show({ s:=_,o:=_,cl:=(C.cl.map Rn.er).map Rn.er,p:=_,ask:=_,bd:=_,dp:=_,ov:=_,ka:=_,kc:=_,xa:=_,xc:=_,ya:=_,yc:=_,za:=_,zc:=_ }:Ck)=_;rw[eG]; rfl
 | some x =>
  show({ s:=_,o:=_,cl:=(((C.cl.map Rn.er).take r).map Rn.er),p:=_,ask:=_,bd:=_,dp:=_,ov:=_,ka:=_,kc:=_,xa:=_,xc:=_,ya:=_,yc:=_,za:=_,zc:=_ }:Ck)=_;rw[<- List.map_take,eG]; rfl
def Rc(C:Ck)(n:Nat)(y:Br)(u:I6):gX C.er n y u=gX C n y u:=by
 unfold gX;rw[Ua]; rfl
def O6(S:Se)(C:Ck)(n:Nat)(y:Br)(t:List UInt8):fY S.er C.er n y t=fY S C n y t:=by
 unfold fY;rw[Ua];have:∀ l:List Of,D7 S.er n y l=D7 S n y l:=λ l=>by
  induction l with
  | nil=>rfl
  | cons o l a=>rw[D7,D7,a]; rfl
 rw[this]; rfl
def OV{S:Se}{o:Po}(b:S.Ok)(a:o.ok):(kg S o).Inv:=⟨SA b a,λ _=>by show([]:List Rn).length<30; decide⟩
def NF(h:C.Inv){n:Nat}{y:Br}{u:I6}(a:gX C n y u=0):(oK C n u).Inv:=by
 have hu:I6.Le u 4:=by
  unfold gX at a
  split at a
  ·cases a
  ·split at a
   ·rename_i h1; exact absurd a h1
   ·rename_i h1;have h2:fP C.s n y u=0:=by simpa using h1
    unfold fP at h2
    split at h2
    ·rename_i h3; exact Bl h3
    ·cases h2
 obtain⟨⟨s,o,cl,cz,cp,ca,cg,p,ask,bd,dp,asked⟩,n30⟩:=h;refine⟨⟨s,o,cl,cz,cp,ca,cg,p,by simpa[oK] using ask,by simpa[oK] using bd,dp,λ v b=>?_⟩,n30⟩;rcases lY b with b|rfl
 ·exact asked v b
 ·exact hu
def LG(h:C.Inv)(n:Nat):(jS C n).Inv:=by
 obtain⟨⟨s,o,cl,cz,cp,ca,cg,p,ask,bd,dp,asked⟩,n30⟩:=h;refine⟨⟨s,o,cl,cz,cp,ca,cg,p,by simpa[jS] using ask,by simpa[jS] using bd,by simpa[jS] using dp,λ v a=>?_⟩,n30⟩;rcases lY a with a|rfl
 ·exact asked v a
 ·exact Lm (by omega)
def Wb{n:Nat}:∀ u∈List.replicate n z6,I6.Le u 4:=λ u hu=>by rw[vl hu]; exact Lm (by omega)
def DI(h:C.Ok):(hJ C).Ok:=by
 obtain⟨s,o,cl,cz,cp,ca,cg,p,ask,bd,dp,asked⟩:=h;exact⟨s,o,cl,cz,cp,ca,cg,p,by simpa[hJ] using dp,by simpa[hJ] using dp,dp,Wb⟩
def MR(h:C.Inv):(sC C).Inv:=by
 obtain⟨s,o,cl,cz,cp,ca,cg,p,ask,bd,dp,asked⟩:=DI h.ok;exact⟨⟨s,o,cl,cz,cp,ca,cg,p,ask,bd,dp,asked⟩,λ h=>by cases h⟩
def IY(h:C.Inv){r:Int}(b:cU C r=false):(e9 C r.toNat).Inv:=by
 have c:0<=r/\r<=C.cl.length/\(r=C.cl.length->C.ov=false):=by
  unfold cU at b;simp only[oF,iY,pH,aS] at b;obtain⟨⟨h1,h2⟩,h3⟩:=b;refine⟨by omega,by omega,λ e=>?_⟩;rcases h3 with h3|h3
  ·exact absurd e h3
  ·exact h3
 have k:=DI h.ok;obtain⟨s,o,cl,cz,cp,ca,cg,p,ask,bd,dp,asked⟩:=k;have g:=h.ok.cl;unfold e9
 cases hx:C.cl[r.toNat]? with
 | some x =>
  have hm:=bf hx;have f:=(aR.1 hx).1;refine⟨⟨s,o,?_,λ y a=>cz y (eX a),λ y a=>cp y (eX a),λ y a=>ca y (eX a),λ y a=>cg y (eX a),cp x hm,ask,bd,dp,asked⟩,λ _=>?_⟩
  ·show(C.cl.take r.toNat).length<=30;rw[di]; omega
  ·show(C.cl.take r.toNat).length<30;rw[di]; omega
 | none =>
  have d:C.cl.length<=r.toNat:=List.getElem?_eq_none_iff.1 hx;have e:r=C.cl.length:=by omega
  exact⟨⟨s,o,cl,cz,cp,ca,cg,p,ask,bd,dp,asked⟩,λ _=>h.n30 (c.2.2 e)⟩
def Iw{o:Po}{p ex:I6}(hp:kA p=true)(h:(nU o p ex).2=0):kA (nU o p ex).1=true:=by
 unfold nU at h ⊢
 split
 ·rename_i g; rw[ak g] at h; cases h
 ·rename_i g;show kA (cj o p ex)=true
  by_cases e:cj o p ex=p
  ·rw[e]; exact hp
  ·cases hv:kA (cj o p ex) with
   | true=>rfl
   | false=>exact absurd ⟨e,hv⟩ g
def HR(h:C.Inv)(d:C.ov=false):(gZ C).Inv:=by
 have f:=h.n30 d;have e:=Ij h.ok;have b:=h.ok;obtain⟨s,o,cl,cz,cp,ca,cg,p,ask,bd,dp,asked⟩:=DI h.ok;have mm:∀ {Q:Rn->Prop},(∀ x∈C.cl,Q x)->Q (ME C)->∀ x∈(gZ C).cl,Q x:=λ h1 h2 x c=>by
  rcases aV.1 c with c|c
  ·exact h1 x c
  ·rw[bp.1 c]; exact h2
 refine⟨⟨s,o,?_,mm cz ⟨b.ask,e.1,b.bd⟩,mm cp b.p,mm ca b.asked,mm cg e.2,?_,ask,bd,dp,asked⟩,λ a=>?_⟩
 ·show(C.cl++[ME C]).length<=30;rw[aY,bS]; omega
 ·show kA (if eJ C then C.p else (kz C).1)=true
  split
  ·exact b.p
  ·rename_i a;refine Iw b.p ?_;have a:eJ C=false:=by simpa using a
   unfold eJ at a;simp only[oF] at a;have h2:(kz C).2=0:=by simpa using a.2.2
   exact h2
 ·have a:eJ C=false:=a;unfold eJ at a;simp only[oF,iY] at a;show(C.cl++[ME C]).length<30;rw[aY,bS]; omega
end
def St.pk{w0 w:af}{l m:List aI}(s:St w0 w (Sep (l++m))):St w0 w (Sep (l++[Sep m])):=(s.split l).open
def St.Y0{w0 w:af}{l m:List aI}(s:St w0 w (Sep (l++[Sep m]))):St w0 w (Sep (l++m)):=s.shut.cat
def Am(S:Se)(o:Po):Int:=if tv S≠0 then tv S else ki o
structure Lx where
 a:Option Addr
 c:Nat
 l:List Of
def Z1(S:Se)(C:Ck)(k:Nat)(l:List Of):Ck :=
 if gX C k (S.bd.getD k WZ) (Xw S k l C.p).1=0 then oK C k (Xw S k l C.p).1 else if gX C k (S.bd.getD k WZ) z6=0 then oK C k z6 else C
def YX(S:Se)(L:List Lx)(C:Ck):Nat->Ck
 | 0=>C
 | k+1=>Z1 S (YX S L C k) k ((L[k]?.map Lx.l).getD [])
section
variable {b:Nat} {C:Ck} {w0 w:af} {B:aI} {S:Se} {al:OA} {cl:Nat} {L:List Lx}
end
end Go.Proofs.YtjcfdidmajodiaaGreatDoor
namespace Go.Proofs.YtjcfdidmajodiaaGreatDoor
open Go Go.Vc Go.Sort Go.RowKit _root_.Go.Proofs.Tryz
def QL(w:af):Prop:=Lib.TabIs prog w "internal/strconv.uint64pow10" .u64 Lib.pow10Tab
def Fm(w:af)(k:Nat)(os:Array Obj):aC w (grow (w.drewN k) os) [] :=
 ⟨by simp[grow,World.drewN],λ i hi _=>Array.getElem?_append_left hi,⟨rfl,rfl,rfl⟩⟩
def LA{w w':af}(h:Below w.heap.size w w'):aC w w' []:=⟨h.size,λ i hi _=>h.block i hi,⟨h.os,h.tape,h.output⟩⟩
def QL.av{w w':af}(h:QL w)(hc:aC w w' []):QL w':=by
 unfold QL Lib.TabIs World.var? at h ⊢
 cases hg:prog.globalNamed "internal/strconv.uint64pow10" with
 | none=>simp[hg] at h
 | some g =>
  simp only[hg,Option.bind_some] at h ⊢;have b:g<w.heap.size:=by
   rcases bw g w.heap.size with a | a
   ·exact a
   ·simp[Dp a] at h
  rw[hc.same g b (by simp)];exact h
section
variable {w:af}
def uD(b:QL w){n:Int}(a:In n):CP 30 #[iv n] w (λ r w'=>r=sv (Lib.itoa n)/\aC w w' []) :=
 (Tryz.strconv_Itoa n a.1 a.2 w b).mono λ _ _ ⟨he,k,os,hw⟩=>⟨_,he,rfl,hw▸Fm w k os⟩
def Vo(b:QL w){n:Int}(a:In n):CP 31 #[iv n,iv 10] w (λ r w'=>r=sv (Lib.itoa n)/\aC w w' []) :=
 (Tryz.strconv_FormatInt_10 n a.1 a.2 w b).mono λ _ _ ⟨he,k,os,hw⟩=>⟨_,he,rfl,hw▸Fm w k os⟩
def Ul(xs:List (List UInt8)):List UInt8:=Lib.join xs [32]++[10]
end
end Go.Proofs.YtjcfdidmajodiaaGreatDoor
namespace Go.Proofs.YtjcfdidmajodiaaGreatDoor
open Go Go.Vc _root_.Go.Proofs.Tryz
abbrev sT (r:List UInt8):List Value:=[sv r]
def EE(r:List UInt8):(sT r).length=1:=rfl
def PZ(r:List UInt8):∀ v∈sT r,v.oneCell'=true:=by intro v a; simp at a; subst a; rfl
def Yx:j7 prog 108 9 (sv []) 1 16:=j7.mk' underlying108 (by kernel_rfl) rfl (by decide)
abbrev PY (a:OA) (c:Nat) (l:List (List UInt8)):aI:=dK 9 1 sT a c l
def Tj{w:af}{a:OA}{l:List (List UInt8)}(h:cP 1 sT w a l){i:Nat}{x:List UInt8}(c:l[i]?=some x):∃ q,a=some q/\w.cell? (Addr.add q (i*1))=some (sv x):=by
 obtain⟨q,b,hc⟩:=h.at c;exact⟨q,b,by have:=hc.1; rwa [Addr.add_add,wL] at this⟩
def dX(l:List UInt8):(bs l).size=l.length:=by simp[bs,ByteArray.size]
def Su{w:af}{b i:Nat}{v:Value}(h:w.cell? ⟨b,i,none⟩=some v):b<w.heap.size:=by
 rcases bw b w.heap.size with a | a
 ·exact a
 ·rw[mN,Dp a] at h;simp[R8] at h
def join_le:∀ {xs:List (List UInt8)} {sep:List UInt8} {m:Nat},(∀ y∈xs,y.length<=m)->(Lib.join xs sep).length<=xs.length*(m+sep.length)
 | [],_,_,_=>by simp[Lib.join_nil]
 | x :: r,sep,m,h=>by
  have c:=h x (by simp);have f:Lib.lens r<=r.length*m:=by
   clear c
   induction r with
   | nil=>simp[Lib.lens]
   | cons y r d =>
    have h1:=d λ z a=>h z (by rcases cJ.1 a with rfl|a; exact lA ..; exact jH _ (jH _ a));have h2:=h y (by simp);simp only[Lib.lens,jm,yQ,gm] at h1 ⊢;rw[Nat.succ_mul]; omega
  rw[Lib.join_length];have e:Lib.lens (x :: r)=x.length+Lib.lens r:=by simp[Lib.lens]
  have b:sep.length*r.length=r.length*sep.length:=Ds _ _;rw[e,gm,Nat.succ_mul,Nat.mul_add,b];omega
def nY{w:af}{s:Se}(h:s.In w):CP 136 #[.agg s.arr] w ((yb s.Ok (tv s) w)):=by
 refine vK.1 ?_;refine bg ?_;have s1:=(St.start w).one.fu #[.slice s.a1 s.ps.length s.c1,.slice s.a2 s.bd.length s.c2,.slice s.a3 s.cp.length s.c3,.slice s.a4 s.sa.length s.c4] 73;generalize hw1:w.alloc _=N at s1 ⊢;generalize hr1:w.heap.size=r1 at s1 ⊢;have u:∀ {w':af},aC N w' []->∀ (j:Nat) (v:Value),(#[.slice s.a1 s.ps.length s.c1,.slice s.a2 s.bd.length s.c2,.slice s.a3 s.cp.length s.c3,.slice s.a4 s.sa.length s.c4]:Array Value)[j]?=some v->w'.cell? ⟨r1,j,none⟩=some v:=λ hc j v hv=>dI (by rw[s1.ag 0 rfl]; exact hv) hc;have z1:aC N N []:=aC.refl _ _;refine⟨_,_,_,u z1 0 _ rfl,au (rU (h.av s1.av).ps) ?_⟩;rintro v D ⟨⟨rfl,e1⟩,d2⟩;generalize S:Bk s.ps=n1 at e1 ⊢;refine⟨_,rfl,λ n2 w3=>aC N w3 []/\((n2=0/\(Bk s.ps=0/\BS s.bd=0)/\dH s.ps/\zz s.bd)\/(n2≠0/\tv s=n2/\¬ s.Ok)),?_,?_⟩
 ·rintro w3 n2 ⟨d3,hn⟩ -;rcases hn with⟨rfl,⟨hz1,hz2⟩,hP,hB⟩|⟨h0,hse,hno⟩
  ·have hcE:∀ {e:Int},e≠0->Ht s.bd.length s.cp=e->tv s=e:=λ he h=>by rw[tv,ah (λ h=>h hz1),ah (λ h=>h hz2),h,ak he]
   refine cF rfl ⟨_,_,_,u d3 2 _ rfl,?_⟩;rcases bw 16 s.cp.length with h6|h6
   ·exact aP (by omega) (bq (by decide) (λ hp=>by have:=hp.cp.l1; omega) (s1.av.trans d3 (by simp)) (hcE (by decide) (by rw[Ht,ak h6])))
   refine aU (by omega) ⟨λ n D m=>∃ k:Nat,n=k/\k<=s.cp.length/\m=s.cp.length-k/\(∀ i p,i<k->s.cp[i]?=some p->BI s.bd.length s.cp i p)/\aC N D [],⟨s.cp.length,0,rfl,by omega,by omega,λ i p hi=>by omega,d3⟩,?_⟩;rintro D m n ⟨k,rfl,X,hm,ha,hc⟩ -;have A:aC w D []:=s1.av.trans hc (by simp);refine⟨_,_,_,u hc 2 _ rfl,?_⟩
   by_cases J:(k:Int)<(s.cp.length:Int)
   ·obtain⟨x,K⟩:=bx s.cp k (by omega);obtain⟨q,M,Q⟩:=(h.cp.av A) k x K;have bad : ¬ BI s.bd.length s.cp k x->¬ s.Ok:=λ hb hp=>hb (hp.cp.good k x K);have O:∀ {e:Int},e≠0->HT s.bd.length s.cp k x=e->tv s=e:=λ he h=>hcE he (by
     have:=jc (f:=HT s.bd.length s.cp) (n:=0) (λ i p hi hp=>by rw[aL]; exact vv (ha i p hi hp)) K (by rw[aL,h]; exact he);rw[aL,h] at this;rw[Ht,ah (by omega),this])
    have L:∀ {w':af},aC w w' []->∀ (j:Nat) (y:T3),s.cp[j]?=some y->w'.cell? (q.add (j*3))=some (iv y.a)/\w'.cell? ((q.add (j*3)).add 1)=some (iv y.b):=λ P j y C=>by
     obtain⟨q',G,r⟩:=(h.cp.av P) j y C;rw[M] at G; cases G;have:=r.1;exact⟨by rwa [Addr.add_add] at this,r.2.1⟩
    refine cT (by simpa using J) ⟨_,_,_,u hc 2 _ rfl,?_⟩;rw[M];refine⟨by omega,by omega,_,_,_,Q,bg ?_⟩;refine((St.start D).one.fu _ 138).az 0 rfl x.cells rfl x.one λ B U=>?_;generalize hr2:D.heap.size=r2 at U ⊢;have d4:aC N B []:=hc.trans U.av (by simp);have d:aC w B []:=s1.av.trans d4 (by simp);have g:∀ {w':af},aC B w' []->∀ (j:Nat) (v:Value),x.cells[j]?=some v->w'.cell? ⟨r2,j,none⟩=some v:=λ hc j v hv=>dI (by rw[U.ag 0 rfl]; simpa using hv) hc;have z4:aC B B []:=aC.refl _ _;refine⟨λ b z=>z=B/\b = !(decide (-1<=x.a)&&decide (x.a<(s.bd.length:Int))),?_,?_⟩
    ·rintro z b ⟨rfl,rfl⟩ -
     cases g0:(decide (-1<=x.a)&&decide (x.a<(s.bd.length:Int))) with
     | false=>exact cT rfl (bq (by decide) (bad λ F=>by have:=F.1; unfold vu at this; rw[g0] at this; cases this) d (O (by decide) (by rw[HT,ak g0])))
     | true =>
      have d45:aC z z []:=aC.refl _ _;refine cF rfl ⟨λ b V=>V=z/\b = !((decide (0<=x.b)&&decide (x.b<=4))&&(decide (0<=x.c)&&decide (x.c<=24))),?_,?_⟩
      ·rintro V b ⟨rfl,rfl⟩ -
       cases g1:((decide (0<=x.b)&&decide (x.b<=4))&&(decide (0<=x.c)&&decide (x.c<=24))) with
       | false=>exact cT rfl (bq (by decide) (bad λ F=>by have:=F.1; unfold vu at this; rw[g0,g1] at this; cases this) (d.trans d45 (by simp)) (O (by decide) (by rw[HT,g0,g1]; rfl)))
       | true =>
        refine cF rfl ⟨λ n E m=>∃ j:Nat,n=j/\j<=k/\m=k-j/\(s.cp.take j).any (λ p=>gj x p)=false/\aC V E [],⟨k,0,rfl,by omega,by omega,rfl,d45⟩,?_⟩;rintro E m7 n7 ⟨j,rfl,hj,hm7,o,Y⟩ -
        by_cases R:(j:Int)<(k:Int)
        ·obtain⟨y,C⟩:=bx s.cp j (by omega);have c8:aC V E.drew []:=Y.trans (aC.drew E []) (by simp);have W:aC w E.drew []:=d.trans c8 (by simp);have t:gj x y=true->((s.cp.take k).any λ q=>gj x q)=true:=λ H=>eZ (p:=λ q=>gj x q) (show(s.cp.take k)[j]?=some y by rw[gV,ak (by omega)]; exact C) H;have hit:gj x y=true->¬ s.Ok:=λ H=>bad λ F=>by have h1:=F.2; rw[t H] at h1; cases h1
         refine cT (by simpa using R) ⟨λ b w10=>w10=E.drew/\b=gj x y,?_,_,_,_,u (d4.trans c8 (by simp)) 2 _ rfl,?_⟩
         ·rintro w10 b ⟨rfl,rfl⟩ -
          cases H:gj x y with
          | true=>exact cT rfl (bq (by decide) (hit H) W (O (by decide) (by rw[HT,g0,g1,t H]; rfl)))
          | false=>exact cF rfl ⟨k-(j+1),by omega,j+1,by rw[cA (by omega)]; rfl,by omega,rfl,dY o C H,c8⟩
         ·rw[M];refine⟨by omega,by omega,_,(L W j y C).1,_,g c8 0 _ rfl,?_⟩
          by_cases I:y.a=x.a
          ·refine cT (by simpa using I) ⟨_,_,_,u (d4.trans c8 (by simp)) 2 _ rfl,?_⟩;rw[M];refine⟨by omega,by omega,_,(L W j y C).2,_,g c8 1 _ rfl,rfl,?_⟩;simp[gj,I]
          ·exact cF (by simpa using I) ⟨rfl,by simp[gj,I]⟩
        ·obtain rfl:j=k:=by omega
         refine cF (by simp) ⟨s.cp.length-(j+1),by omega,j+1,by rw[cA (by omega)]; rfl,by omega,rfl,λ i p hi hp=>?_,d4.trans Y (by simp)⟩;rcases bw i j with Z | Z
         ·exact ha i p Z hp
         ·obtain rfl:i=j:=by omega
          rw[K] at hp; cases hp;exact⟨by unfold vu; rw[g0,g1]; rfl,o⟩
      ·have no : ¬ (0<=x.b/\x.b<=4/\0<=x.c/\x.c<=24)->true = !((decide (0<=x.b)&&decide (x.b<=4))&&(decide (0<=x.c)&&decide (x.c<=24))):=λ hh=>by
        cases hr:((decide (0<=x.b)&&decide (x.b<=4))&&(decide (0<=x.c)&&decide (x.c<=24))) with
        | false=>rfl
        | true =>
         exfalso; apply hh
         simp only[aX,bN] at hr;omega
       refine⟨_,g z4 1 _ rfl,?_⟩
       by_cases g1:x.b<0
       ·exact aP g1 ⟨rfl,no (by omega)⟩
       refine aU g1 ⟨_,g z4 1 _ rfl,?_⟩
       by_cases g2:x.b>4
       ·exact aP g2 ⟨rfl,no (by omega)⟩
       refine aU g2 ⟨_,g z4 2 _ rfl,?_⟩
       by_cases g3:x.c<0
       ·exact aP g3 ⟨rfl,no (by omega)⟩
       refine aU g3 ⟨_,g z4 2 _ rfl,rfl,?_⟩
       by_cases g4:x.c>24
       ·rw[dT g4]; exact no (by omega)
       ·rw[dF g4,dT (show 0<=x.b by omega),dT (show x.b<=4 by omega),dT (show 0<=x.c by omega),dT (show x.c<=24 by omega)];rfl
    ·refine⟨_,g z4 0 _ rfl,?_⟩
     by_cases g1:x.a < -1
     ·exact aP g1 ⟨rfl,by rw[dF (show ¬ -1<=x.a by omega)]; rfl⟩
     ·refine aU g1 ⟨_,g z4 0 _ rfl,_,_,_,u d4 1 _ rfl,rfl,?_⟩;rw[dT (show -1<=x.a by omega),bt]
      by_cases g2:x.a<(s.bd.length:Int)
      ·rw[dT g2,dF (by omega)]; rfl
      ·rw[dF g2,dT (by omega)]; rfl
   ·obtain rfl:k=s.cp.length:=by omega
    have T:∀ {e:Int},MQ s.ps s.sa=e->tv s=e:=λ h=>by
     have:=fV (f:=HT s.bd.length s.cp) (n:=0) (l:=s.cp) λ i p hp=>by rw[aL]; exact vv (ha i p (aR.1 hp).1 hp)
     rw[tv,ah (λ h=>h hz1),ah (λ h=>h hz2),show Ht s.bd.length s.cp=0 by rw[Ht,ah (by omega),this],ah (by decide),h]
    have hC:zA s.bd.length s.cp:=⟨h6,λ i p hp=>ha i p (aR.1 hp).1 hp⟩;clear ha;refine cF (by simp) ⟨_,_,_,u hc 3 _ rfl,?_⟩;rcases bw 6 s.sa.length with h7|h7
    ·exact aP (by omega) (bq (by decide) (λ hp=>by have:=hp.sa.l1; omega) A (T (by rw[MQ,ak h7])))
    refine aU (by omega) ⟨λ n D m=>∃ k:Nat,n=k/\k<=s.sa.length/\m=s.sa.length-k/\(∀ i p,i<k->s.sa[i]?=some p->BG s.ps s.sa i p)/\aC N D [],⟨s.sa.length,0,rfl,by omega,by omega,λ i p hi=>by omega,hc⟩,?_⟩;clear A hc J hm X;rintro D m n ⟨k,rfl,X,hm,ha,hc⟩ -;have A:aC w D []:=s1.av.trans hc (by simp);refine⟨_,_,_,u hc 3 _ rfl,?_⟩
    by_cases J:(k:Int)<(s.sa.length:Int)
    ·obtain⟨x,K⟩:=bx s.sa k (by omega);obtain⟨q,M,Q⟩:=(h.sa.av A) k x K;have bad : ¬ BG s.ps s.sa k x->¬ s.Ok:=λ hb hp=>hb (hp.sa.good k x K);have O:∀ {e:Int},e≠0->KW s.ps s.sa k x=e->tv s=e:=λ he h=>T (by
      have:=jc (f:=KW s.ps s.sa) (n:=0) (λ i p hi hp=>by rw[aL]; exact wm (ha i p hi hp)) K (by rw[aL,h]; exact he);rw[aL,h] at this;rw[MQ,ah (by omega),this])
     have L:∀ {w':af},aC w w' []->∀ (j:Nat) (y:T3),s.sa[j]?=some y->w'.cell? (q.add (j*3))=some (iv y.a)/\w'.cell? ((q.add (j*3)).add 1)=some (iv y.b):=λ P j y C=>by
      obtain⟨q',G,r⟩:=(h.sa.av P) j y C;rw[M] at G; cases G;have:=r.1;exact⟨by rwa [Addr.add_add] at this,r.2.1⟩
     refine cT (by simpa using J) ⟨_,_,_,u hc 3 _ rfl,?_⟩;rw[M];refine⟨by omega,by omega,_,_,_,Q,bg ?_⟩;refine((St.start D).one.fu _ 141).az 0 rfl x.cells rfl x.one λ B U=>?_;generalize hr2:D.heap.size=r2 at U ⊢;have d4:aC N B []:=hc.trans U.av (by simp);have d:aC w B []:=s1.av.trans d4 (by simp);have g:∀ {w':af},aC B w' []->∀ (j:Nat) (v:Value),x.cells[j]?=some v->w'.cell? ⟨r2,j,none⟩=some v:=λ hc j v hv=>dI (by rw[U.ag 0 rfl]; simpa using hv) hc;have z4:aC B B []:=aC.refl _ _;refine⟨λ b z=>z=B/\b = !(decide (0<=x.a)&&decide (x.a<(s.ps.length:Int))),?_,?_⟩
     ·rintro z b ⟨rfl,rfl⟩ -
      cases g0:(decide (0<=x.a)&&decide (x.a<(s.ps.length:Int))) with
      | false=>exact cT rfl (bq (by decide) (bad λ F=>by have:=F.1; unfold zQ at this; rw[g0] at this; cases this) d (O (by decide) (by rw[KW,ak g0])))
      | true =>
       have d45:aC z z.drew []:=aC.drew z [];refine cF rfl ⟨λ b V=>V=z.drew/\b = !((decide (1<=x.b)&&decide (x.b<=4))&&(decide (1<=x.c)&&decide (x.c<=((s.ps[x.a.toNat]?.map Pr.sup).getD 0)))),?_,?_⟩
       ·rintro V b ⟨rfl,rfl⟩ -
        cases g1:((decide (1<=x.b)&&decide (x.b<=4))&&(decide (1<=x.c)&&decide (x.c<=((s.ps[x.a.toNat]?.map Pr.sup).getD 0)))) with
        | false=>exact cT rfl (bq (by decide) (bad λ F=>by have:=F.1; unfold zQ at this; rw[g0,g1] at this; cases this) (d.trans d45 (by simp)) (O (by decide) (by rw[KW,g0,g1]; rfl)))
        | true =>
         refine cF rfl ⟨λ n E m=>∃ j:Nat,n=j/\j<=k/\m=k-j/\(s.sa.take j).any (λ p=>sameAs x p)=false/\aC z E [],⟨k,0,rfl,by omega,by omega,rfl,d45⟩,?_⟩;rintro E m7 n7 ⟨j,rfl,hj,hm7,o,Y⟩ -
         by_cases R:(j:Int)<(k:Int)
         ·obtain⟨y,C⟩:=bx s.sa j (by omega);have c8:aC z E.drew []:=Y.trans (aC.drew E []) (by simp);have W:aC w E.drew []:=d.trans c8 (by simp);have t:sameAs x y=true->((s.sa.take k).any λ q=>sameAs x q)=true:=λ H=>eZ (p:=λ q=>sameAs x q) (show(s.sa.take k)[j]?=some y by rw[gV,ak (by omega)]; exact C) H;have hit:sameAs x y=true->¬ s.Ok:=λ H=>bad λ F=>by have h1:=F.2; rw[t H] at h1; cases h1
          refine cT (by simpa using R) ⟨_,_,_,u (d4.trans c8 (by simp)) 3 _ rfl,?_⟩;rw[M];refine⟨by omega,by omega,_,(L W j y C).1,_,g c8 0 _ rfl,?_⟩
          by_cases I:y.a=x.a
          ·exact cT (by simpa using I) (bq (by decide) (hit (by simpa[sameAs] using I)) W (O (by decide) (by rw[KW,g0,g1,t (by simpa[sameAs] using I)]; rfl)))
          ·exact cF (by simpa using I) ⟨k-(j+1),by omega,j+1,by rw[cA (by omega)]; rfl,by omega,rfl,dY o C (by simpa[sameAs] using I),c8⟩
         ·obtain rfl:j=k:=by omega
          refine cF (by simp) ⟨s.sa.length-(j+1),by omega,j+1,by rw[cA (by omega)]; rfl,by omega,rfl,λ i p hi hp=>?_,d4.trans Y (by simp)⟩;rcases bw i j with Z | Z
          ·exact ha i p Z hp
          ·obtain rfl:i=j:=by omega
           rw[K] at hp; cases hp;exact⟨by unfold zQ; rw[g0,g1]; rfl,o⟩
       ·simp only[aX,bN] at g0;obtain⟨y,hpx⟩:=bx s.ps x.a.toNat (by omega);rw[hpx,nL,nH];have no : ¬ (1<=x.b/\x.b<=4/\1<=x.c/\x.c<=y.sup)->true = !((decide (1<=x.b)&&decide (x.b<=4))&&(decide (1<=x.c)&&decide (x.c<=y.sup))):=λ hh=>by
         cases hr:((decide (1<=x.b)&&decide (x.b<=4))&&(decide (1<=x.c)&&decide (x.c<=y.sup))) with
         | false=>rfl
         | true =>
          exfalso; apply hh
          simp only[aX,bN] at hr;omega
        refine⟨_,g d45 1 _ rfl,?_⟩
        by_cases g1:x.b<1
        ·exact aP g1 ⟨rfl,no (by omega)⟩
        refine aU g1 ⟨_,g d45 1 _ rfl,?_⟩
        by_cases g2:x.b>4
        ·exact aP g2 ⟨rfl,no (by omega)⟩
        refine aU g2 ⟨_,g d45 2 _ rfl,?_⟩
        by_cases g3:x.c<1
        ·exact aP g3 ⟨rfl,no (by omega)⟩
        obtain⟨_,qp,hqp,hyc⟩:=(h.ps.av (d.trans d45 (by simp))) x.a.toNat y hpx;refine aU g3 ⟨_,g d45 2 _ rfl,_,_,_,u (d4.trans d45 (by simp)) 0 _ rfl,_,g d45 0 _ rfl,?_⟩;rw[hqp];refine⟨by omega,by omega,y.sup,hyc.2.1,rfl,?_⟩
        by_cases g4:x.c>y.sup
        ·rw[dT g4]; exact no (by omega)
        ·rw[dF g4,dT (show 1<=x.b by omega),dT (show x.b<=4 by omega),dT (show 1<=x.c by omega),dT (show x.c<=y.sup by omega)];rfl
     ·refine⟨_,g z4 0 _ rfl,?_⟩
      by_cases g1:x.a<0
      ·exact aP g1 ⟨rfl,by rw[dF (show ¬ 0<=x.a by omega)]; rfl⟩
      ·refine aU g1 ⟨_,g z4 0 _ rfl,_,_,_,u d4 0 _ rfl,rfl,?_⟩;rw[dT (show 0<=x.a by omega),bt]
       by_cases g2:x.a<(s.ps.length:Int)
       ·rw[dT g2,dF (by omega)]; rfl
       ·rw[dF g2,dT (by omega)]; rfl
    ·obtain rfl:k=s.sa.length:=by omega
     exact cF (by simp) (kK ⟨hP,hB,hC,h7,λ i p hp=>ha i p (aR.1 hp).1 hp⟩ A (T (by rw[MQ,ah (by omega),fV λ i p hp=>by rw[aL]; exact wm (ha i p (aR.1 hp).1 hp)])))
  ·exact cT (by simpa using h0) (bq h0 hno (s1.av.trans d3 (by simp)) hse)
 ·by_cases g1:n1=0
  ·refine cT (by simpa using g1) ⟨_,_,_,u d2 1 _ rfl,au (GD (h.av (s1.av.trans d2 (by simp))).bd) ?_⟩;rintro v w17 ⟨⟨rfl,e2⟩,d17⟩;generalize hn33:BS s.bd=n33 at e2 ⊢;refine⟨_,rfl,d2.trans d17 (by simp),?_⟩
   by_cases g2:n33=0
   ·exact .inl ⟨g2,⟨S.trans g1,g2⟩,e1.1 g1,e2.1 g2⟩
   ·exact .inr ⟨g2,by rw[tv,S,hn33,ah (λ h=>h g1),ak g2],λ X=>g2 (e2.2 X.bd)⟩
  ·exact cF (by simpa using g1) ⟨d2,.inr ⟨g1,by rw[tv,S,ak g1],λ X=>g1 (e1.2 X.ps)⟩⟩
structure Vw where
 ph:Int
 rd:Int
 pr:I6
 ex:I6
 own:List Ch
 oa:Option Addr
 oc:Nat
 dm:List I6
 da:Option Addr
 dc:Nat
 nm:List (List UInt8)
 na:Option Addr
 nc:Nat
section
variable {w0 w:af} {l:List aI} {r:Nat} {T:TypeId} {v:Vw}
end
def Oz{xs:List (List UInt8)}(h:∀ y∈xs,y.length<=100)(a:xs.length<=1000):(Lib.join xs [32]).length<=140737488355328:=by
 have:=join_le (sep:=[32]) h;simp only[bS] at this;omega
section
variable {ps:List Pr} {v:Vw}
end
def DD{w0 w:af}{L:List aI}(s:St w0 w (Sep L))(i:Nat){r:Nat}{cs:Array Value}(e:L[i]?=some (aj r cs 9)){xs:List (List UInt8)}(a:cs.toList=xs.flatMap sT)(b:xs.length<=1000) :
  St w0 w (star (PY (qs r) xs.length xs) (Sep (L.eraseIdx i))):=by
 have h1:cs.size=xs.length:=by
  rw[<- Dv,a];exact(gL EE xs).trans (gG _)
 have:=(s.out i e).weak (bz.left (UU h1 (by unfold maxLen; omega)));rw[a] at this;exact this
def dO{r:Nat}{cs:Array Value}{T:TypeId}{n sz:Nat}(a:cs.size=n*sz)(hm:n<=maxLen):bz (aj r cs T) (o7 T sz (.slice (qs r) n n) n cs.toList):=by
 rintro w F ⟨h,rfl⟩;refine⟨[r],⟨⟨by simp[a],.inr ⟨r,n,cs,rfl,jJ _,h,aO _,hm,a,?_⟩⟩,by simp[Value.ownBlock]⟩,by simp⟩;exact fN (by simp[a])
theorem KO{m u v:I6}:∀ {k:Nat},(∀ j,j<k->u.at' j=v.at' j)->fH m u k=fH m v k
 | 0,_=>rfl
 | k+1,h=>by simp only[fH]; rw[KO λ j a=>h j (by omega),h k (by omega)]
def NV{a b x y M:Int}(h:a*(M+1)+x=b*(M+1)+y)(c:0<=x/\x<=M)(d:0<=y/\y<=M):a=b/\x=y:=by
 rcases JG a b with h1|h1|h1
 ·have:=gR (show a+1<=b by omega) (show 0<=M+1 by omega);rw[jD] at this; omega
 ·subst h1; omega
 ·have:=gR (show b+1<=a by omega) (show 0<=M+1 by omega);rw[jD] at this; omega
theorem IZ{m u v:I6}(hu:kG m u)(b:kG m v):∀ {k:Nat},k<=6->fH m u k=fH m v k->∀ j,j<k->u.at' j=v.at' j
 | 0,_,_,j,c=>by omega
 | k+1,d,h,j,c=>by
  simp only[fH] at h;obtain⟨h1,h2⟩:=NV h (hu.u k (by omega)) (b.u k (by omega));rcases bw j k with a | a
  ·exact IZ hu b (by omega) h1 j a
  ·obtain rfl:j=k:=by omega
   exact h2
def TY(m:I6)(k:Nat)(l:List I6):Prop:=∀ (i:Nat) (u:I6),l[i]?=some u->kG m u/\(∀ j,k<=j->j<6->u.at' j=0)/\fH m u k=(i:Int)
def D9(m:I6):List I6:=if zY m=0 then [] else (List.range (aE m)).map (aK m)
def TY.done{m:I6}(hm:I6.Le m 4){l:List I6}(h:TY m 6 l)(b:(l.length:Int)=xT m 6):l=(List.range (aE m)).map (aK m):=by
 have c:l.length=aE m:=by have:=(gB hm).2.1; rw[oB] at this; omega
 apply iC;intro i
 by_cases hi:i<l.length
 ·have a:l[i]?=some (l[i]'hi):=gE hi;generalize l[i]'hi=u at a;obtain⟨h1,_,h3⟩:=h i u a;rw[a,dD,uY (by omega)];refine congrArg some (I6.ext' (IZ h1 (ct hm i) (by omega) ?_));rw[h3]; exact(iZ hm i (by omega)).symm
 ·rw[cr (by omega),cr (by simp; omega)]
def TY.snoc{m:I6}{k:Nat}(f:k<6){nx:List I6}(h:TY m (k+1) nx){b:I6}{j q:Nat}(d:kG m b)(o:∀ i,k<=i->i<6->b.at' i=0)(n:fH m b k=(j:Int))(p:(q:Int)<=m.at' k)(l:(nx.length:Int)=j*(m.at' k+1)+q):TY m (k+1) (nx++[b.put k q]):=λ i u hu=>by
 rcases bw i nx.length with c | c
 ·rw[lD c] at hu;exact h i u hu
 ·rw[kH c] at hu;have hi:i=nx.length:=by
   rcases C8 (i-nx.length) with g|g
   ·omega
   ·rw[cr (by simp; omega)] at hu; cases hu
  subst hi;rw[yR] at hu
  cases hu
  have a:∀ i,i<6->(b.put k (q:Int)).at' i=if i=k then (q:Int) else b.at' i:=λ i hi=>I6.ie _ _ _ _ f hi
  refine⟨⟨d.mm,λ i hi=>?_⟩,λ i h1 h2=>?_,?_⟩
  ·rw[a i hi];have:=d.u i hi
   split
   ·rename_i e; subst e; omega
   ·exact this
  ·rw[a i h2,ah (by omega)]; exact o i (by omega) h2
  ·simp only[fH];rw[KO (v:=b) λ i hi=>by rw[a i (by omega),ah (by omega)],a k f,ak rfl,n,l]
set_option maxHeartbeats 1000000 in
theorem Mr(w:af)(m:I6):CP 256 #[.agg m.vs.toArray] w (λ r w'=>∃ a c,r=.slice a (D9 m).length c/\St w w' (eV a c (D9 m))):=by
 refine(p6 oP).1 ?_;refine aG m.vs.toArray λ r1 w1 s1=>⟨m,s1.cellsIn 0 rfl,au (uI w1 m) ?_⟩;rintro v w2 ⟨rfl,c2⟩;have s2:=s1.quiet c2;refine⟨_,rfl,?_⟩
 by_cases g:zY m=0
 ·refine cT (by rw[g]; rfl) ⟨none,0,by rw[D9,ak g]; rfl,?_⟩;rw[D9,ak g];exact(St.dy s2).first
 refine cF (by simpa using g) (s2.aB z6.vs.toArray λ r2 w3 s3=>?_);obtain⟨hq,Q⟩:m.l.all iy=true/\pr m.l<=1024:=by
  unfold zY at g
  split at g
  ·assumption
  ·exact absurd rfl g
 have hm:=ID hq;have O:∀ k,k<=6->1<=xT m k/\xT m k<=15625:=λ k H=>by
  have h:=jN (wI hm) k H;refine⟨by omega,cM h.2.2 ?_⟩
  match k,H with
  | 0,_|1,_|2,_|3,_|4,_|5,_|6,_=>decide
 have B:St w w3 (Sep [eV (qs r2) 1 [z6],aj r1 m.vs.toArray 42,emp]):=St.weak s3 (bz.left (dO (n:=1) (sz:=6) rfl (by decide)));refine⟨λ a1 l1 c1 i T mm=>∃ (k:Nat) (l:List I6),i=k/\k<=6/\mm=6-k/\(l1=l.length/\(l.length:Int)=xT m k/\TY m k l)/\St w T (Sep [eV a1 c1 l,aj r1 m.vs.toArray 42,emp]),⟨6,0,[z6],rfl,by omega,by omega,⟨rfl,rfl,?_⟩,B⟩,?_⟩
 ·intro i u hu
  match i,hu with
  | 0,hu=>cases hu; exact⟨wI hm,λ j _ _=>jB j,rfl⟩
 rintro T mm a1 l1 c1 i ⟨k,l,rfl,H,Z,⟨rfl,hlen,N⟩,B⟩ -
 by_cases y:(k:Int)<6
 rotate_left
 ·obtain rfl:k=6:=by omega
  have L:=N.done hm hlen;refine aU y ⟨a1,c1,?_,?_⟩
  ·rw[D9,ah g,<- L]
  ·rw[D9,ah g,<- L]; exact B.first
 have d:k<6:=by omega
 have Y:=hm k d;obtain⟨M,hM⟩:∃ M:Nat,m.at' k=(M:Int):=⟨(m.at' k).toNat,by omega⟩;have hp:=O k (by omega);have hp1:=O (k+1) (by omega);refine aP y ⟨λ a2 l2 c2 j U m3=>∃ (n:Nat) (nx:List I6),j=n/\n<=l.length/\m3=l.length-n/\(l2=nx.length/\(nx.length:Int)=n*(m.at' k+1)/\TY m (k+1) nx)/\St w U (Sep [eV a2 c2 nx,eV a1 c1 l,aj r1 m.vs.toArray 42,emp]),⟨l.length,0,[],rfl,by omega,by omega,⟨rfl,by simp,λ i u hu=>by simp at hu⟩,B.dy⟩,?_⟩;rintro U m3 a2 l2 c2 j ⟨n,nx,rfl,hn,W,⟨rfl,I,s⟩,S⟩ -
 by_cases x:(n:Int)<(l.length:Int)
 rotate_left
 ·obtain rfl:n=l.length:=by omega
  exact aU x ⟨6-(k+1),by omega,k+1,nx,inc (by decide) d,by omega,rfl,⟨rfl,by rw[I,hlen,xT],s⟩,S.ay [0,2,3]⟩
 obtain⟨b,R⟩:=bx l n (by omega);obtain⟨D,E,F⟩:=N n b R;refine aP x ⟨λ a3 l3 c3 j V m5=>∃ (q:Nat) (f:List I6),j=q/\q<=M+1/\m5=M+1-q/\(l3=f.length/\(f.length:Int)=n*(m.at' k+1)+q/\TY m (k+1) f)/\St w V (Sep [eV a3 c3 f,eV a1 c1 l,aj r1 m.vs.toArray 42,emp]),⟨M+1,0,nx,rfl,by omega,by omega,⟨rfl,by omega,s⟩,S⟩,?_⟩;rintro V m5 a3 l3 c3 j ⟨q,f,rfl,hq1,X,⟨rfl,z,t⟩,C⟩ -;refine⟨by omega,by omega,m.at' k,by rw[dM,aF C 2 rfl d],?_⟩
 by_cases e:(q:Int)<=m.at' k
 rotate_left
 ·refine aU e ⟨l.length-(n+1),by omega,n+1,f,cA (by omega),by omega,rfl,⟨rfl,?_,t⟩,C⟩;rw[z,show((n+1:Nat):Int)=n+1 by omega,jD]; omega
 have P:(n:Int)*(m.at' k+1)<=15625*5:=Di (by omega) (by omega) (by omega) (by omega);obtain⟨p,J,G⟩:=(St.rd bE (C.out 1 rfl)).at R;refine aP e (aq J ⟨by omega,by omega,b,G,C.aB z6.vs.toArray λ r3 w7 s7=>s7.az 0 rfl b.vs rfl (I6.one _) λ w8 s8=>⟨by omega,by omega,?_⟩⟩);rw[dM];refine s8.aN 0 rfl d rfl λ w9 K=>?_;rw[I6.jf _ _ _ d] at K;refine⟨b.put k q,K.cellsIn 0 rfl,K.aB (b.put k q).vs.toArray λ r4 w10 A=>?_⟩;refine bQ (l2:=[b.put k q]) yB bE I6.one (A.out 2 rfl) (jK (A.cellsIn 0 rfl) rfl) (by simp; omega) (by simp; omega) λ a' c' w11 o=>?_;have o:=o.back (i:=2) (by show 2<6; decide);exact⟨M+1-(q+1),by omega,q+1,f++[b.put k q],cA (by omega),by omega,rfl,⟨rfl,by rw[aY]; simp; omega,t.snoc d D E F e z⟩,o.ay [2,3,4,5]⟩
def CA{w:af}{a:OA}{l:List Pr}(h:fS w a l){k:Nat}{p:Pr}(c:l[k]?=some p)(j:Nat)(v:Value)(b:p.cells[j]?=some v):∃ q,a=some q/\w.cell? (Addr.add (Addr.add q (((k:Nat):Int).toNat*5)) j)=some v:=by
 obtain⟨_,q,d,hc⟩:=h k p c;have:=aM hc j v b;exact⟨q,d,by rw[aD]; rwa [aL] at this⟩
def Ko{l:List Pr}:I6.mix l.length (bI l) z6=bI l:=I6.ext' λ j a=>by
 rw[I6.cX _ _ _ _ a]
 split
 ·rfl
 ·rw[jB,p9 _ _ a];simp only[aJ,dD];rw[cr (by omega)]; rfl
def rX{w:af}{a:OA}{c:Nat}{l:List Pr}(h:fS w a l) :
  CP 142 #[.slice a l.length c] w (λ r w'=>r=.agg (bI l).vs.toArray/\aC w w' []):=by
 refine(p6 oP).2.1 ?_;refine aG z6.vs.toArray λ r1 y s1=>s1.aB z6.vs.toArray λ r2 z s2=>?_;refine⟨λ n o m=>∃ k:Nat,n=k/\(k<=6/\k<=l.length)/\m=6-k/\St w o (Sep [aj r2 (I6.mix k (bI l) z6).vs.toArray 42,aj r1 z6.vs.toArray 42,emp]),⟨6,0,rfl,by omega,by omega,s2⟩,?_⟩;rintro o m n ⟨k,rfl,v,hm,j⟩ -;refine⟨λ b p=>b=decide (k<l.length/\k<6)/\St w p (Sep [aj r2 (I6.mix k (bI l) z6).vs.toArray 42,aj r1 z6.vs.toArray 42,emp]),?_,?_⟩
 ·rintro p b ⟨rfl,f⟩ -
  by_cases d:k<l.length/\k<6
  ·obtain⟨x,i⟩:=bx l k (by omega);obtain⟨q,t,hc⟩:=CA (h.av f.av) i 1 _ rfl;refine aP d (aq t ⟨by omega,by omega,x.sup,hc,by omega,by omega,?_⟩);rw[dM,show x.sup=(bI l).at' k by rw[p9 l k d.2]; simp[dD,i]];refine f.aN 0 rfl d.2 rfl λ u e=>⟨6-(k+1),by omega,k+1,inc (by decide) d.2,by omega,rfl,?_⟩;rw[I6.gD _ _ _ d.2] at e;exact e
  ·refine aU d ⟨_,f.cellsIn 0 rfl,f.az 1 rfl (I6.mix k (bI l) z6).vs rfl (I6.one _) λ u e=>⟨_,e.cellsIn 1 rfl,?_,e.av⟩⟩
   by_cases s:k=6
   ·rw[s,I6.mD]
   ·rw[show k=l.length by omega,Ko]
 ·by_cases g:k<l.length
  ·refine aP (by omega) ⟨?_,j⟩
   by_cases g2:k<6
   ·rw[dT (show(k:Int)<6 by omega),dT ⟨g,g2⟩]
   ·rw[dF (show ¬ (k:Int)<6 by omega),dF λ h=>g2 h.2]
  ·exact aU (by omega) ⟨by rw[dF λ h=>g h.1],j⟩
def ZW{l:List Pr}(a:dH l):∀ p∈l,0<=p.res/\p.res<=1000000:=λ p hp=>by
 obtain⟨i,hi,rfl⟩:=qQ.1 hp;have:=(a.good i _ (gE hi)).1;simp only[tQ,Bn,aX,bN] at this;omega
def zu{wt:Pr->Int}{l:List Pr}{u:I6}(hu:I6.Le u 4)(hw:∀ p∈l,0<=wt p/\wt p<=1000000){k:Nat}(a:k<6){x:Pr}(b:l[k]?=some x){q:Nat}(d:(q:Int)<=u.at' k):0<=nE wt l u k+q*wt x/\nE wt l u k+q*wt x<=28000000:=by
 have h1:=zq (l:=l) hu hw k (by omega);have h2:=hw x (bf b);have h3:=hu k a;have h4:0<=(q:Int)*wt x:=gS (by omega) h2.1;have c:(q:Int)*wt x<=4*1000000:=Di (by omega) h2.2 h2.1 (by omega);omega
def Ep(q:Nat)(x y:Int):x+((q+1:Nat):Int)*y=x+q*y+y:=by rw[show((q+1:Nat):Int)=q+1 by omega,jD]; omega
set_option maxHeartbeats 1000000 in
theorem xz{w:af}{a:OA}{c:Nat}{l:List Pr}(h:fS w a l)(ho:dH l){u:I6}(hq:u.l.all iy=true)(g:Int) :
  CP 26 #[.slice a l.length c,iv g,.agg u.vs.toArray] w (λ r w'=>r=.tuple #[iv (yw l u),iv (TG Pr.res l u),iv (Lf l g u)]/\aC w w' []):=by
 refine(p6 oP).2.2.1 ?_;have hu:=ID hq;have U:=ho.l2;have t:∀ p∈l,0<=(λ p:Pr=>if p.vM=g then (1:Int) else 0) p/\(λ p:Pr=>if p.vM=g then (1:Int) else 0) p<=1000000:=λ p _=>by
  show 0<=(if p.vM=g then (1:Int) else 0)/\(if p.vM=g then (1:Int) else 0)<=1000000
  split<;>omega
 refine aG u.vs.toArray λ r1 Z s1=>?_;have s1:St w Z (Sep [aj r1 u.vs.toArray 42,emp]):=s1;refine⟨λ b E=>b=false/\St w E (Sep [aj r1 u.vs.toArray 42,emp]),?_,au (rU (h.av s1.av)) ?_⟩
 rotate_left
 ·rintro v E ⟨⟨rfl,he⟩,c2⟩;have s2:=s1.quiet c2;refine⟨_,rfl,cF (by rw[he.2 ho]; rfl) ⟨u,s2.cellsIn 0 rfl,au (CJ E u) ?_⟩⟩;rintro v M ⟨rfl,c3⟩;exact⟨_,rfl,by rw[hq]; rfl,s2.quiet c3⟩
 rintro E b ⟨rfl,s2⟩ -;refine cF rfl ⟨λ x y z i M m=>∃ k:Nat,i=k/\k<=l.length/\m=l.length-k/\(x=nE Pr.pts l u k/\y=nE Pr.res l u k/\z=nE (λ p=>if p.vM=g then 1 else 0) l u k)/\St w M (Sep [aj r1 u.vs.toArray 42,emp]),⟨l.length,0,rfl,by omega,by omega,⟨rfl,rfl,rfl⟩,s2⟩,?_⟩;rintro M m x y z i ⟨k,rfl,hk,hm,⟨rfl,rfl,rfl⟩,P⟩ -
 by_cases s:(k:Int)<(l.length:Int)
 rotate_left
 ·obtain rfl:k=l.length:=by omega
  exact aU s ⟨rfl,P.av⟩
 obtain⟨x,n⟩:=bx l k (by omega);have d:k<6:=by omega
 have X:=hu k d;refine aP s ⟨λ n6 n7 O j Q mm=>∃ q:Nat,j=q/\(q:Int)<=u.at' k/\mm=(u.at' k).toNat-q/\(n6=nE Pr.pts l u k+q*x.pts/\n7=nE Pr.res l u k+q*x.res/\O=nE (λ p=>if p.vM=g then 1 else 0) l u k+q*(if x.vM=g then 1 else 0))/\St w Q (Sep [aj r1 u.vs.toArray 42,emp]),⟨(u.at' k).toNat,0,rfl,by omega,by omega,⟨by simp,by simp,by simp⟩,P⟩,?_⟩;rintro Q mm n6 n7 O j ⟨q,rfl,W,V,⟨rfl,rfl,rfl⟩,o⟩ -;refine⟨by omega,by omega,u.at' k,by rw[dM,aF o 0 rfl d],?_⟩
 by_cases f:(q:Int)<u.at' k
 ·obtain⟨q1,J,G⟩:=CA (h.av o.av) n 3 _ rfl;obtain⟨q2,K,H⟩:=CA (h.av o.av) n 2 _ rfl;obtain⟨q3,L,I⟩:=CA (h.av o.av) n 4 _ rfl;have S:=zu (wt:=Pr.pts) hu (wts ho) d n (q:=q+1) (by omega);have T:=zu (wt:=Pr.res) hu (ZW ho) d n (q:=q+1) (by omega);have F:=zu hu t d n (q:=q+1) (by omega);have N:=zu hu t d n (q:=q) (by omega);rw[Ep] at S T F;refine aP f ⟨λ A B C R=>(A=nE Pr.pts l u k+((q+1:Nat):Int)*x.pts/\B=nE Pr.res l u k+((q+1:Nat):Int)*x.res/\C=nE (λ p=>if p.vM=g then 1 else 0) l u k+((q+1:Nat):Int)*(if x.vM=g then 1 else 0))/\St w R (Sep [aj r1 u.vs.toArray 42,emp]),?_,?_⟩
  ·rintro R A B C ⟨⟨rfl,rfl,rfl⟩,Y⟩ -;exact⟨(u.at' k).toNat-(q+1),by omega,q+1,cA (by omega),by omega,rfl,⟨rfl,rfl,rfl⟩,Y⟩
  refine aq J ⟨by omega,by omega,x.pts,G,aq K ⟨by omega,by omega,x.res,H,aq L ⟨by omega,by omega,x.vM,I,?_⟩⟩⟩;rw[Ep,Ep,Ep]
  by_cases D:x.vM=g
  ·rw[ak D] at F N ⊢;exact cT (by simpa using D) ⟨⟨cA (by omega),cA (by omega),cA (by omega)⟩,o⟩
  ·rw[ah D] at F N ⊢;exact cF (by simpa using D) ⟨⟨cA (by omega),cA (by omega),by omega⟩,o⟩
 ·have e:(q:Int)=u.at' k:=by omega
  refine aU f (jZ (by omega) ⟨?_,o⟩);simp only[nE,n,nL,nH,e];exact⟨trivial,trivial,trivial⟩
theorem P6{ps:List Pr}{l:List T3}(hp:dH ps)(h:kW ps l):∀ (k:Nat),k<=l.length->∀ (j:Nat),j<6->0<=(oE ps l k).1.at' j/\((l.take k).any (λ x=>x.a.toNat==j)=false->(oE ps l k).1.at' j=(bI ps).at' j)
 | 0,_,j,f=>⟨(sup_le hp j f).1,λ _=>rfl⟩
 | k+1,t,j,f=>by
  have o:=P6 hp h k (by omega);obtain⟨x,d⟩:=bx l k (by omega);have hi:=Fa hp.l2 (Qk hp) h d;have p:(oE ps l (k+1)).1=(oE ps l k).1.put x.a.toNat ((oE ps l k).1.at' x.a.toNat-x.c):=by rw[oE,d]
  rw[p,I6.ie _ _ _ _ (by omega) f,aH d,List.any_append,Dh,List.any_nil,Bool.or_false];obtain⟨h1,h2⟩:=o j f
  by_cases e:j=x.a.toNat
  ·rw[ak e];have m:(l.take k).any (λ y=>y.a.toNat==x.a.toNat)=false:=by
    rw[tY];intro y n;have h3:=tY.1 (h.good k x d).2 y n;obtain⟨i,g⟩:=yS (eX n);have h4:=Fa hp.l2 (Qk hp) h g;simp only[sameAs,bH] at h3 ⊢;omega
   have q:=(o x.a.toNat (by omega)).2 m;have r:=(h.good k x d).1;simp only[zQ,aX,bN] at r;have s:(bI ps).at' x.a.toNat=(ps[x.a.toNat]?.map Pr.sup).getD 0:=by
    rw[p9 _ _ (by omega),aJ,dD]
   refine⟨by rw[q,s]; omega,λ b=>?_⟩;rw[<- e] at b;simp at b
  ·rw[ah e];refine⟨h1,λ b=>h2 ?_⟩;rw[oF] at b;exact b.1
def SH{ps:List Pr}{l:List T3}(hp:dH ps)(h:kW ps l)(j:Nat)(a:j<6):0<=(ML ps l).1.at' j:=(P6 hp h _ (aO _) j a).1
set_option maxHeartbeats 1000000 in
theorem Mv{w:af}{S:Se}(h:S.In w)(hs:S.Ok) :
  CP 179 #[.agg S.arr] w (λ r w'=>r=.tuple #[.agg (ML S.ps S.sa).1.vs.toArray,.agg (ML S.ps S.sa).2.vs.toArray]/\aC w w' []):=by
 refine(p6 oP).2.2.2.1 ?_;have T:=hs.sa.l1; have B:=hs.ps.l2;refine aG S.arr λ r1 V s1=>s1.aB z6.vs.toArray λ r2 W s2=>s2.aB z6.vs.toArray λ r3 X N=>N.aB z6.vs.toArray λ r4 Y O=>O.aB z6.vs.toArray λ r5 Z F=>?_;refine Ex8<|Ex4<|⟨F.cellsIn 4 rfl,au (nY (h.av F.av)) ?_⟩;rintro v w6 ⟨⟨rfl,he⟩,J⟩;have P:=F.quiet J;refine⟨_,rfl,cF (by rw[he.2 hs]; rfl) ?_⟩;refine⟨λ n I m=>∃ k:Nat,n=k/\k<=S.ps.length/\m=S.ps.length-k/\St w I (Sep [aj r5 z6.vs.toArray 42,aj r4 (I6.mix k (bI S.ps) z6).vs.toArray 42,aj r3 z6.vs.toArray 42,aj r2 z6.vs.toArray 42,aj r1 S.arr 73,emp]),⟨S.ps.length,0,rfl,by omega,by omega,P⟩,?_⟩;rintro I m n ⟨k,rfl,H,hm,t⟩ -;refine⟨_,_,_,t.ag 4 rfl 0,?_⟩
 by_cases f:(k:Int)<(S.ps.length:Int)
 ·have o:k<6:=by omega
  obtain⟨x,s⟩:=bx S.ps k (by omega);obtain⟨q,C,hc⟩:=CA (h.av t.av).ps s 1 _ rfl;refine aP f ⟨_,_,_,t.ag 4 rfl 0,aq C ⟨by omega,by omega,x.sup,hc,by omega,by omega,?_⟩⟩;rw[dM,show x.sup=(bI S.ps).at' k by rw[p9 _ k o]; simp[dD,s]];refine t.aN 1 rfl o rfl λ z l=>(jZ (by omega) ?_);rw[I6.gD _ _ _ o] at l;exact l
 obtain rfl:k=S.ps.length:=by omega
 rw[Ko] at t;refine aU f ⟨λ n z m=>∃ k:Nat,n=k/\k<=S.sa.length/\m=S.sa.length-k/\St w z (Sep [aj r5 (oE S.ps S.sa k).2.vs.toArray 42,aj r4 (oE S.ps S.sa k).1.vs.toArray 42,aj r3 z6.vs.toArray 42,aj r2 z6.vs.toArray 42,aj r1 S.arr 73,emp]),⟨S.sa.length,0,rfl,by omega,by omega,t⟩,?_⟩;clear f hm H;rintro z m n ⟨k,rfl,H,hm,l⟩ -;refine⟨_,_,_,l.ag 4 rfl 3,?_⟩
 by_cases f:(k:Int)<(S.sa.length:Int)
 ·obtain⟨x,s⟩:=bx S.sa k (by omega);obtain⟨q,C,A⟩:=(h.av l.av).sa k x s;have hi:=Fa B (Qk hs.ps) hs.sa s;obtain⟨i,g⟩:=vm hi.1;have e:i<6:=by omega
  refine aP f ⟨_,_,_,l.ag 4 rfl 3,aq C ⟨by omega,by omega,_,_,_,A,l.aB #[iv 0,iv 0,iv 0] λ U w9 u=>u.az 0 rfl x.cells rfl x.one λ y j=>?_⟩⟩;have d:=j.quiet (aC.drew y []);have bd:=Ja hs.ps hs.sa k i e;have M:oE S.ps S.sa (k+1)=((oE S.ps S.sa k).1.put i ((oE S.ps S.sa k).1.at' i-x.c),(oE S.ps S.sa k).2.put i x.b):=by
   rw[oE,s]; show((oE S.ps S.sa k).1.put x.a.toNat _,_)=_;rw[g,aD]
  refine⟨i,by rw[d.ag 0 rfl 0,<- g]; rfl,i,by rw[d.ag 0 rfl 0,<- g]; rfl,by omega,by omega,(oE S.ps S.sa k).1.at' i,by rw[dM]; exact aF d 2 rfl e,x.c,d.ag 0 rfl 2,by omega,by omega,?_⟩;rw[dM,cA (by omega)];refine d.aN 2 rfl e rfl λ R p=>⟨i,by rw[p.ag 0 rfl 0,<- g]; rfl,x.b,p.ag 0 rfl 1,by omega,by omega,?_⟩;rw[dM];refine p.aN 1 rfl e rfl λ G D=>(jZ (by omega) ?_);rw[M];have E:=D.ay [1,2,3,4,5,6];have K:=I6.jf (oE S.ps S.sa k).1 i ((oE S.ps S.sa k).1.at' i-x.c) e;have L:=I6.jf (oE S.ps S.sa k).2 i x.b e;show St w G (Sep [aj r5 (I6.put _ _ _).vs.toArray _,aj r4 (I6.put _ _ _).vs.toArray _,_,_,_,emp]);rw[<- K,<- L];exact E
 ·obtain rfl:S.sa.length=k:=by omega
  have u:=l.quiet (aC.drew z []);exact aU f ⟨_,u.cellsIn 1 rfl,_,u.cellsIn 0 rfl,u.az 3 rfl _ rfl (I6.one _) λ y j=>⟨j.cellsIn 0 rfl,j.az 2 rfl _ rfl (I6.one _) λ Q d=>⟨_,d.cellsIn 3 rfl,_,d.cellsIn 2 rfl,rfl,d.av⟩⟩⟩
def VR(b:Br)(sup op cls u:I6)(j:Nat):Bool:=decide (u.at' j<=sup.at' j)&&decide ((tO b cls u).at' j<=op.at' j)
def Kz{b:Br}{sup op cls u:I6}:(∀ j,j<6->VR b sup op cls u j=true)<->(within u sup&&within (tO b cls u) op)=true:=by
 rw[aX,within_iff,within_iff];simp only[VR,aX,bN];exact⟨λ h=>⟨λ k a=>(h k a).1,λ k a=>(h k a).2⟩,λ h k a=>⟨h.1 k a,h.2 k a⟩⟩
def VS{b:Br}{sup op cls u:I6}{j:Nat}(a:j<6)(c:0<=op.at' j):VR b sup op cls u j = !(decide (u.at' j>sup.at' j)||(decide (cls.at' j≠0)&&(decide (cls.at' j≠b.cls)&&decide (u.at' j>op.at' j)))):=by
 have e:(tO b cls u).at' j=if cls.at' j=0\/cls.at' j=b.cls then 0 else u.at' j:=I6.iG _ _ _ _ a
 rw[VR,e,Dm];simp only[aX,Dl,oF,pH,bN,iY]
 by_cases g:cls.at' j=0\/cls.at' j=b.cls
 ·rw[ak g]; omega
 ·rw[ah g]; omega
set_option maxHeartbeats 1000000 in
theorem v7{w:af}{S:Se}(h:S.In w)(hs:S.Ok){n:Nat}{b:Br}(hb:S.bd[n]?=some b)(u:I6) :
  CP 138 #[.agg S.arr,iv n,.agg u.vs.toArray] w (λ r w'=>r=iv (fP S n b u)/\aC w w' []):=by
 refine(p6 oP).2.2.2.2.1 ?_;have hn:=(aR.1 hb).1;have hpl:=hs.ps.l2; have hcl:=hs.cp.l1; have hbl:=hs.bd.l2;refine aG S.arr λ r1 w1 s1=>s1.aB u.vs.toArray λ r2 w2 s2=>(Ex8<|Ex4<|⟨s2.cellsIn 1 rfl,au (nY (h.av s2.av)) ?_⟩);rintro v w3 ⟨⟨rfl,he⟩,c3⟩;have Y:St w w3 (Sep [aj r2 u.vs.toArray 42,aj r1 S.arr 73,emp]):=s2.quiet c3;refine⟨_,rfl,cF (by rw[he.2 hs]; rfl) ⟨λ x V=>x=false/\St w V (Sep [aj r2 u.vs.toArray 42,aj r1 S.arr 73,emp]),?_,aU (by omega) ⟨_,_,_,Y.ag 1 rfl 1,dF (by omega),Y⟩⟩⟩;rintro V x ⟨rfl,Z⟩ -;refine cF rfl ⟨u,Z.cellsIn 0 rfl,au (CJ V u) ?_⟩;rintro v w5 ⟨rfl,c5⟩;have N:=Z.quiet c5;refine⟨_,rfl,?_⟩
 cases hq:u.l.all iy with
 | false=>exact cT rfl ⟨by rw[fP,hq]; rfl,N.av⟩
 | true =>
 refine cF rfl (Ex8<|Ex4<|⟨N.cellsIn 1 rfl,au (Mv (h.av N.av) hs) ?_⟩);rintro v w6 ⟨rfl,c6⟩;have I:=SH hs.ps hs.sa;refine⟨_,_,rfl,(N.quiet c6).aB z6.vs.toArray λ r3 w7 s7=>s7.aB z6.vs.toArray λ r4 w8 s8=>s8.az 1 rfl _ rfl (I6.one _) λ w9 s9=>s9.az 0 rfl _ rfl (I6.one _) λ w10 D=>?_⟩;refine⟨_,_,_,D.ag 3 rfl 0,au (rX (h.av D.av).ps) ?_⟩;rintro v w11 ⟨rfl,O⟩;refine⟨_,rfl,(D.quiet O).aB z6.vs.toArray λ r5 w12 R=>R.az 0 rfl _ rfl (I6.one _) λ T g=>?_⟩;generalize J:(ML S.ps S.sa).1=op at g I;generalize A:(ML S.ps S.sa).2=cls at g;generalize C:bI S.ps=sup at g;have g:St w T (Sep [aj r5 sup.vs.toArray 42,aj r4 cls.vs.toArray 42,aj r3 op.vs.toArray 42,aj r2 u.vs.toArray 42,aj r1 S.arr 73,emp]):=g;have ea:fP S n b u=if (within u sup&&within (tO b cls u) op&&!S.cp.any (j8 S.ps n u))=true then 0 else 14:=by rw[fP,ak hq,J,A,C]
 refine⟨λ i E m=>∃ k:Nat,i=k/\k<=6/\m=6-k/\(∀ j,j<k->VR b sup op cls u j=true)/\St w E (Sep [aj r5 sup.vs.toArray 42,aj r4 cls.vs.toArray 42,aj r3 op.vs.toArray 42,aj r2 u.vs.toArray 42,aj r1 S.arr 73,emp]),⟨6,0,rfl,by omega,by omega,λ j hj=>by omega,g⟩,?_⟩;rintro E m i ⟨k,rfl,hk,hm,ha,K⟩ -
 by_cases p:(k:Int)<6
 ·have e:k<6:=by omega
  have d:=K.quiet (aC.drew E []);have eo:=VS (b:=b) (sup:=sup) (cls:=cls) (u:=u) e (I k e);refine aP p ⟨λ x t=>x = !VR b sup op cls u k/\St w t (Sep [aj r5 sup.vs.toArray 42,aj r4 cls.vs.toArray 42,aj r3 op.vs.toArray 42,aj r2 u.vs.toArray 42,aj r1 S.arr 73,emp]),?_,by omega,by omega,u.at' k,by rw[dM,aF d 3 rfl e],by omega,by omega,sup.at' k,by rw[dM,aF d 0 rfl e],?_⟩
  ·rintro t x ⟨rfl,z⟩ -
   cases F:VR b sup op cls u k with
   | true =>
    refine cF rfl ⟨6-(k+1),by omega,k+1,inc (by decide) e,by omega,rfl,λ j hj=>?_,z⟩;rcases bw j k with W | W
    ·exact ha j W
    ·obtain rfl:j=k:=by omega
     exact F
   | false =>
    refine cT rfl ⟨?_,z.av⟩;rw[ea,ah];intro H;have:=Kz.2 (Bool.and_eq_true_iff.1 H).1 k e;rw[F] at this; cases this
  rw[eo,Bool.not_not]
  by_cases g1:u.at' k>sup.at' k
  ·exact aP g1 ⟨by rw[dT g1]; rfl,d⟩
  refine aU g1 ⟨by omega,by omega,cls.at' k,by rw[dM,aF d 1 rfl e],?_⟩;rw[dF g1,nJ]
  by_cases g2:cls.at' k=0
  ·exact cF (by simpa using g2) ⟨by rw[dF (λ H=>H g2)]; rfl,d⟩
  obtain⟨q,B,Q⟩:=BR (h.av d.av).bd hb 1 (iv b.cls) rfl;refine cT (by simpa using g2) ⟨by omega,by omega,cls.at' k,by rw[dM,aF d 1 rfl e],_,_,_,d.ag 4 rfl 1,aq B ⟨by omega,by omega,b.cls,by rw[aD]; exact Q,?_⟩⟩;rw[dT g2,bt]
  by_cases g3:cls.at' k=b.cls
  ·exact cF (by simpa using g3) ⟨by rw[dF (λ H=>H g3)]; rfl,d⟩
  exact cT (by simpa using g3) ⟨by omega,by omega,u.at' k,by rw[dM,aF d 3 rfl e],by omega,by omega,op.at' k,by rw[dM,aF d 2 rfl e],by rw[dT g3,bt],d⟩
 obtain rfl:k=6:=by omega
 have hw:=Kz.1 ha;rw[hw,bt] at ea;refine aU p ⟨λ i t m=>∃ k:Nat,i=k/\k<=S.cp.length/\m=S.cp.length-k/\(S.cp.take k).any (j8 S.ps n u)=false/\St w t (Sep [aj r2 u.vs.toArray 42,aj r1 S.arr 73,emp]),⟨S.cp.length,0,rfl,by omega,by omega,rfl,K.ay [3,4,5]⟩,?_⟩;rintro t m i ⟨k,rfl,hk,hm,o,d⟩ -;refine⟨_,_,_,d.ag 1 rfl 2,?_⟩
 by_cases p:(k:Int)<(S.cp.length:Int)
 ·obtain⟨x,F⟩:=bx S.cp k (by omega);obtain⟨q,B,G⟩:=(h.av d.av).cp k x F;refine aP p ⟨_,_,_,d.ag 1 rfl 2,aq B ⟨by omega,by omega,_,_,_,G,d.aB #[iv 0,iv 0,iv 0] λ X w16 z=>z.az 0 rfl x.cells rfl x.one λ w17 s=>?_⟩⟩;refine⟨_,_,_,s.ag 2 rfl 0,x.b,s.ag 0 rfl 1,u,s.cellsIn 1 rfl,au (xz (h.av s.av).ps hs.ps hq x.b) ?_⟩;rintro v U ⟨rfl,P⟩;have f:St w U (Sep [aj X x.cells.toArray 138,aj r2 u.vs.toArray 42,aj r1 S.arr 73,emp]):=s.quiet P;refine⟨_,_,_,rfl,λ y M=>y=j8 S.ps n u x/\St w M (Sep [aj X x.cells.toArray 138,aj r2 u.vs.toArray 42,aj r1 S.arr 73,emp]),?_,x.a,f.ag 0 rfl 0,?_⟩
  ·rintro M y ⟨rfl,L⟩ -
   cases hc:j8 S.ps n u x with
   | true =>
    refine cT rfl ⟨?_,L.av⟩;rw[ea,eZ F hc]; rfl
   | false=>exact cF rfl (jZ (by omega) ⟨dY o F hc,L.ay [1,2,3]⟩)
  by_cases g1:x.a=-1
  ·exact cT (by simpa using g1) ⟨x.c,f.ag 0 rfl 2,by rw[j8,dT g1,sU,bt],f⟩
  refine cF (by simpa using g1) ⟨x.a,f.ag 0 rfl 0,?_⟩
  by_cases g2:x.a=(n:Int)
  ·exact cT (by simpa using g2) ⟨x.c,f.ag 0 rfl 2,by rw[j8,dT g2,yT,bt],f⟩
  ·exact cF (by simpa using g2) ⟨by rw[j8,dF g1,dF g2]; rfl,f⟩
 ·obtain rfl:k=S.cp.length:=by omega
  rw[br] at o;exact aU p ⟨by rw[ea,o]; rfl,d.av⟩
def rT{w:af}{s:Se}(n:Int):CP 180 #[.agg s.arr,iv n] w (λ r w'=>r=.bool (decide (0<=n)&&decide (n<(s.bd.length:Int)))/\aC w w' []):=by
 refine(p6 oP).2.2.2.2.2.1 ?_;refine aG s.arr λ r1 a s1=>?_
 by_cases h:n>=0
 ·exact aP h ⟨_,_,_,s1.ag 0 rfl 1,by rw[dT (show 0<=n from h)]; rfl,s1.av⟩
 ·exact aU h ⟨by rw[dF (show ¬ 0<=n from h)]; rfl,s1.av⟩
def GB{w:af}{s:Se}(h:HI w s){n:Nat}{b:Br}(j:s.bd[n]?=some b){c:Ch}(hc:c.Ok) :
  CP 139 #[.agg s.arr,iv n,c.v] w (λ r w'=>r=iv (tJ b c)/\aC w w' []):=by
 refine XJ.1 ?_;have o:=(aR.1 j).1;refine aG s.arr λ r1 t s1=>s1.aB c.cells.toArray λ r2 u s2=>(Ex8<|Ex4<|⟨s2.cellsIn 1 rfl,au (rT (s:=s) n) ?_⟩);rintro v m ⟨rfl,c3⟩;have a:=(s2.quiet c3).quiet (aC.drew m []);obtain⟨q,k,d⟩:=BR ((h.av a.av).i.bd) j 2 _ rfl;refine⟨_,rfl,cF (by simp; omega) ⟨λ g l=>g=decide (b.bud≠0/\b.bud<cost c.p c.want)/\aC w l [],?_,_,_,_,a.ag 1 rfl 1,aq k ⟨by omega,by omega,_,by rw[aD]; exact d,?_⟩⟩⟩
 ·rintro l g ⟨rfl,c4⟩ -
  by_cases f:b.bud≠0/\b.bud<cost c.p c.want
  ·exact aP f ⟨by rw[tJ,ak f],c4⟩
  ·exact aU f ⟨by rw[tJ,ah f],c4⟩
 ·by_cases e:b.bud=0
  ·exact cF (by simp[e]) ⟨by simp[e],a.av⟩
  ·refine cT (by simpa using e) ⟨_,_,_,a.ag 1 rfl 1,aq k ⟨by omega,by omega,_,by rw[aD]; exact d,_,uu a 0 rfl,_,dV a 0 rfl,au (xy _ hc.p hc.w) ?_⟩⟩;rintro v x ⟨rfl,c5⟩;exact⟨_,rfl,by rw[aD]; exact dI d c5,(a.quiet c5).ag 1 rfl 1,by simp[e],(a.quiet c5).av⟩
def U2(p:I6):cost p z6=0:=by simp[cost,z6]
def X9(S:Se)(L:List (List Of))(C:Ck):Nat->Ck
 | 0=>C
 | k+1=>Z1 S (X9 S L C k) k (L[k]?.getD [])
def exP:List Pr:=[⟨[97],1,0,1,0⟩,⟨[98],1,0,1,0⟩]
def exB(b:Int):List Br:=[⟨[120],0,b,5⟩,⟨[121],0,0,5⟩]
def Uc(b:Int)(a1 a2:OA)(c:Nat):Se:=⟨exP,exB b,[],[],a1,c,a2,c,none,0,none,0⟩
theorem LD{l:List Ch}:jv l=true<->(∀ c∈l,c.Ok)/\∃ p,nu l.length (g1 (gF l)) p:=by
 rw[jv,aX,zO,bN];exact yU λ _=>F7
section
variable {S:Se} {n:Nat} {y:Br} {l:List Of} {p p' m:I6}
end
section
variable {S:Se} {L:List Lx} (hs:S.Ok) (hb:∀ y∈S.bd,y.bud=0)
include hs hb
end
def uT(l:List Ch):List I6:=z6 :: l.map Ch.want
def wQ(l:List Ch)(k:Nat):I6:=(uT l).getD k z6
def cQ(l:List Ch)(i k:Nat):Int:=cost (l.getD i nt).p (l.getD i nt).want-cost (l.getD i nt).p (wQ l k)
def hQ(l:List Ch)(i j:Nat):Bool:=decide (wQ l j=(l.getD i nt).want)
def NP(l:List Ch):Bool:=XB (cQ l) (hQ l) l.length (l.length+1)
def tH(l:List Ch){k:Nat}(a:k<l.length):wQ l (k+1)=(l.getD k nt).want:=by
 unfold wQ uT;simp[aJ,dD,gE a]
def Lj(l:List Ch):wQ l 0=z6:=rfl
theorem Ff(f:Nat->Int):∀ n,∃ B,∀ i,i<n->f i<=B
 | 0=>⟨0,λ i hi=>by omega⟩
 | n+1=>by
  obtain⟨B,b⟩:=Ff f n;refine⟨if B<f n then f n else B,λ i hi=>?_⟩;rcases bw i n with a | a
  ·have:=b i a; split<;>omega
  ·obtain rfl:i=n:=by omega
   split<;>omega
def Oe(l:List Ch):(∃ p,nu l.length (g1 (gF l)) p)<->∃ p,nu (l.length+1) (gQ (cQ l) (hQ l) l.length) p:=by
 constructor
 ·rintro⟨p,hp⟩;have g:∀ a b,a<l.length->b<l.length->p b<=p a+gF l a b:=λ a b ha f=>hp a b ha f _ (bp.2 rfl);have same:∀ a b,a<l.length->b<l.length->(l.getD a nt).want=(l.getD b nt).want->p a=p b:=λ a b ha f e=>by
   have h1:=g a b ha f;have h2:=g b a f ha;unfold gF rF at h1 h2;rw[e] at h1 h2;omega
  by_cases t:∃ i0,i0<l.length/\(l.getD i0 nt).want=z6
  ·obtain⟨i0,r,v⟩:=t;let d:Nat->Nat:=λ k=>if k=0 then i0 else k-1
   have j:∀ k,k<l.length+1->d k<l.length/\wQ l k=(l.getD (d k) nt).want:=λ k z=>by
    by_cases s:k=0
    ·subst s; exact⟨r,by rw[Lj]; exact v.symm⟩
    ·have e:d k=k-1:=ah s;rw[e];refine⟨by omega,?_⟩;have:=tH l (k:=k-1) (by omega)
     rwa [show k-1+1=k by omega] at this
   refine⟨λ k=>-(p (d k)),λ a b ha f x m=>?_⟩;obtain⟨i,hi,h,rfl⟩:=DZ m;obtain⟨ra,o⟩:=j a ha;obtain⟨y,q⟩:=j b f;have h:=iI h;have h1:=g i (d a) hi ra;have h2:=same (d b) i y hi (by rw[<- q]; exact h);unfold gF rF at h1;show -(p (d b))<=-(p (d a)) + -(cQ l i a);unfold cQ;rw[o];omega
  ·obtain⟨B,w⟩:=Ff (λ i=>-(p i)+cost (l.getD i nt).p (l.getD i nt).want) l.length;refine⟨λ k=>if k=0 then B else -(p (k-1)),λ a b ha f x m=>?_⟩;obtain⟨i,hi,h,rfl⟩:=DZ m;have h:=iI h;have u:b≠0:=λ e=>by subst e; exact t ⟨i,hi,by rw[<- h]; rfl⟩
   have q:=tH l (k:=b-1) (by omega);rw[show b-1+1=b by omega] at q;have h2:=same (b-1) i (by omega) hi (by rw[<- q]; exact h);show(if b=0 then B else -(p (b-1)))<=(if a=0 then B else -(p (a-1))) + -(cQ l i a);rw[ah u];unfold cQ
   by_cases a0:a=0
   ·subst a0;rw[ak rfl,Lj,U2];have:=w i hi;omega
   ·rw[ah a0];have o:=tH l (k:=a-1) (by omega);rw[show a-1+1=a by omega] at o;rw[o];have h1:=g i (a-1) hi (by omega);unfold gF rF at h1;omega
 ·rintro⟨p,hp⟩;refine⟨λ i=>-(p (i+1)),λ a b ha f x m=>?_⟩
  cases bp.1 m
  have h1:=hp (b+1) (a+1) (by omega) (by omega) _ (Ih (i:=a) (c:=cQ l) (hit:=hQ l) (n:=l.length) ha (dT (tH l ha)));unfold cQ at h1;rw[tH l f] at h1;show -(p (b+1))<=-(p (a+1))+gF l a b;unfold gF rF;omega
def NQ{l:List Ch}(h:∀ c∈l,c.Ok):NP l=jv l:=by
 rw[Dm,NP,NO (C7 _),LD,Oe];exact⟨λ a=>⟨h,a⟩,λ a=>a.2⟩
end Go.Proofs.YtjcfdidmajodiaaGreatDoor
namespace Go.Vc
open Go Go.RowKit
section
variable {α:Type} {P:Program} {t ty e:TypeId} {z:Value} {sz by_:Nat} {f:α->List Value} {w0 w:World} {B:aI} {a:OA} {c:Nat} {l:List α}
theorem wX(a:∀ x,(f x).length=sz):∀ (l:List α) (n:Nat),(l.flatMap f).take (n*sz)=(l.take n).flatMap f
 | _,0=>by simp
 | [],n+1=>by simp
 | x :: l,n+1=>by
  have b:(n+1)*sz=(f x).length+n*sz:=by rw[a x,gT]; omega
  rw[j5,b,Np,wX a l n,pF,j5]
end
end Go.Vc
namespace Go.Proofs.YtjcfdidmajodiaaGreatDoor
open Go Go.Vc _root_.Go.Proofs.Tryz
def ju(C:Ck)(n:Int):List Ch:=if n<0\/(C.s.bd.length:Int)<=n then [] else sZ C n.toNat
abbrev uL (a:OA) (c:Nat) (l:List Ch):aI:=dK 218 12 Ch.cells a c l
def NL(C:Ck)(n:Int):(ju C n).length<=C.cl.length:=by
 unfold ju sZ
 split<;>simp
def mO{w:af}{a:Addr}{c:Ch}(h:aA w a 0 c.cells):aA w (a.add 6) 0 c.want.vs :=
 bM _ 0 λ j v b=>by
  have d:j<6:=(aR.1 b).1;rw[Addr.add_add,aL];have:=aM h (6+j) v (by
   match j,d,b with
   | 0,_,b|1,_,b|2,_,b|3,_,b|4,_,b|5,_,b=>simpa[Ch.cells,I6.on,I6.vs] using b)
  rwa [aL] at this
def O5{w:af}{a:Addr}{o:Of}(h:aA w a 0 o.cells):aA w (a.add 1) 0 o.want.vs :=
 bM _ 0 λ j v b=>by
  have c:j<6:=(aR.1 b).1;rw[Addr.add_add,aL];have:=aM h (1+j) v (by
   match j,c,b with
   | 0,_,b|1,_,b|2,_,b|3,_,b|4,_,b|5,_,b=>simpa[Of.cells,I6.on,I6.vs] using b)
  rwa [aL] at this
def VQ{w:af}{a:Addr}{o:Of}(h:aA w a 0 o.cells):w.cell? (a.add 7)=some (iv o.v):=by
 have:=aM h 7 (iv o.v) rfl
 rwa [aL] at this
def IU(w:af){c:Ch}(h:c.Ok):CP 258 #[c.v] w (λ r w'=>r=.bool true/\aC w w' []):=by
 refine(p6 (p6 kE)).1 ?_;refine aG c.cells.toArray λ r1 a s1=>⟨c.want,dV s1 0 rfl,au (ig a c.want) ?_⟩;rintro v b ⟨rfl,c2⟩;have s2:=s1.quiet c2;refine⟨_,rfl,cT (by rw[leq h.w]; rfl) ⟨c.p,uu s2 0 rfl,au (GO b c.p) ?_⟩⟩;rintro v d ⟨rfl,c3⟩;exact⟨_,rfl,by rw[o4.2 h.p],(s2.quiet c3).av⟩
def GC{w:af}{a:OA}{c:Nat}{l:List Ch}(h:xH w a l)(n:l.length<=1000)(g:∀ c∈l,c.Ok):CP 196 #[.slice a l.length c] w (λ r w'=>r=.bool true/\aC w w' []):=by
 refine(p6 (p6 kE)).2.1 ?_;refine⟨λ i e m=>∃ k:Nat,i=k/\k<=l.length/\m=l.length-k/\aC w e [],⟨l.length,0,rfl,by omega,by omega,aC.refl _ _⟩,?_⟩;rintro e m i ⟨k,rfl,j,hm,d1⟩ -
 by_cases b:(k:Int)<(l.length:Int)
 ·obtain⟨y,f⟩:=bx l k (by omega);obtain⟨p,hp,d⟩:=(h.av d1).at f;refine aP b (aq hp ⟨by omega,by omega,y.p,y.want,d,au (IU e (g y (bf f))) ?_⟩);rintro v o ⟨rfl,c2⟩;exact⟨_,rfl,cF rfl (jZ (by omega) (d1.trans c2 (by simp)))⟩
 ·exact aU b ⟨rfl,d1⟩
def xx(w:af){c:Ch}{b:I6}(hp:I6.Le c.p 1000000)(a:I6.Le b 4):CP 260 #[c.v,.agg b.vs.toArray] w (λ r w'=>r=iv (cost c.p b)/\aC w w' []):=by
 refine(p6 (p6 kE)).2.2.1 ?_;refine aG c.cells.toArray λ r1 e s1=>s1.aB b.vs.toArray λ r2 d s2=>⟨c.p,uu s2 1 rfl,b,s2.cellsIn 0 rfl,au (Mk d hp a) ?_⟩;rintro v f ⟨rfl,c3⟩;exact⟨_,rfl,rfl,(s2.quiet c3).av⟩
def AH(w:af)(o:Of):CP 197 #[.agg o.cells.toArray] w (λ r w'=>r=.bool (nA o)/\aC w w' []):=by
 refine @Gy _ o.want _ _ _ ?_;refine aG o.cells.toArray λ r1 b s1=>⟨o.want,s1.aQ 0 1 rfl rfl,au (ig b o.want) ?_⟩;rintro v c ⟨rfl,c2⟩;have s2:=s1.quiet c2;refine⟨_,rfl,?_⟩
 cases hq:o.want.l.all iy with
 | false=>exact cF rfl ⟨by rw[nA,hq]; rfl,s2.av⟩
 | true =>
  have a:nA o=(decide (o.want≠z6)&&(decide (1<=o.v)&&decide (o.v<=1000000))):=by rw[nA,hq]; rfl
  refine cT rfl ⟨o.want,s2.aQ 0 1 rfl rfl,?_⟩;rw[I6.beq_eq]
  by_cases g:o.want=z6
  ·exact cF (by rw[dT g]; rfl) ⟨by rw[a,dF λ h=>h g]; rfl,s2.av⟩
  rw[dT g,bt] at a;refine cT (by rw[dF g]; rfl) ⟨_,s2.ag 0 rfl 7,?_⟩
  by_cases g1:o.v>=1
  ·rw[dT (show 1<=o.v from g1),bt] at a;exact aP g1 ⟨_,s2.ag 0 rfl 7,by rw[a],s2.av⟩
  ·exact aU g1 ⟨by rw[a,dF (show ¬ 1<=o.v from g1)]; rfl,s2.av⟩
set_option maxHeartbeats 1000000 in
theorem IK{w:af}{a1 a2:OA}{c1 c2:Nat}{l:List Ch}{bids:List Of}(hr:xH w a1 l)(hl:l.length<=1000)(ho:∀ c∈l,c.Ok)(hb:W6 w a2 bids)(hbl:bids.length<=100000)(hok:bids.all nA=true)(q:I6) :
  CP 259 #[.slice a1 l.length c1,.slice a2 bids.length c2,.agg q.vs.toArray] w (λ r w'=>r=iv (wW l bids q)/\aC w w' []):=by
 refine(p6 (p6 kE)).2.2.2.2.1 ?_;refine aG q.vs.toArray λ r1 K s1=>?_;let M:List aI:=[aj r1 q.vs.toArray 42,emp];refine⟨λ n i z m=>∃ k:Nat,i=k/\k<=l.length/\m=l.length-k/\n=(l.take k).foldl (oN q) 0/\St w z (Sep M),⟨l.length,0,rfl,by omega,by omega,rfl,s1⟩,?_⟩;rintro z m n i ⟨k,rfl,E,hm,rfl,s2⟩ -
 by_cases d:(k:Int)<(l.length:Int)
 ·obtain⟨y,g⟩:=bx l k (by omega);have s:=kL (f:=oN q) (a:=0) g;have e:=s2.quiet (aC.drew z []);have o:=e.quiet (aC.drew _ []);obtain⟨p,hp,j⟩:=(hr.av e.av).at g;obtain⟨p2,A,t⟩:=(hr.av o.av).at g;refine aP d ⟨λ n h=>n=(l.take (k+1)).foldl (oN q) 0/\St w h (Sep M),?_,aq hp ⟨by omega,by omega,y.want,mO j,q,e.cellsIn 0 rfl,?_⟩⟩
  ·rintro h n ⟨rfl,e⟩ -;exact jZ (by omega) ⟨rfl,e⟩
  rw[I6.beq_eq]
  by_cases hw:y.want=q
  ·have F:=ho y (bf g);refine aP hw (aq A ⟨by omega,by omega,y.p,y.want,t,q,o.cellsIn 0 rfl,au (xx _ (c:=y) F.p (by rw[<- hw]; exact F.w)) ?_⟩);rintro v N ⟨rfl,G⟩;exact⟨_,rfl,by rw[s,oN,ak hw],o.quiet G⟩
  ·exact aU hw ⟨by rw[s,oN,ah hw],e⟩
 ·obtain rfl:l.length=k:=by omega
  rw[br];refine aU d ⟨λ n i z m=>∃ k:Nat,i=k/\k<=bids.length/\m=bids.length-k/\n=(bids.take k).foldl (vD q) (l.foldl (oN q) 0)/\St w z (Sep M),⟨bids.length,0,rfl,by omega,by omega,rfl,s2⟩,?_⟩;clear hm E d s2;rintro H m n i ⟨k,rfl,E,hm,rfl,s2⟩ -
  by_cases d:(k:Int)<(bids.length:Int)
  ·obtain⟨y,g⟩:=bx bids k (by omega);have s:=kL (f:=vD q) (a:=l.foldl (oN q) 0) g;have e:=s2.quiet (aC.drew H []);obtain⟨p,hp,j⟩:=(hb.av e.av).at g;refine aP d ⟨λ n h=>n=(bids.take (k+1)).foldl (vD q) (l.foldl (oN q) 0)/\St w h (Sep M),?_,λ b h=>b=decide (y.want=q)/\St w h (Sep M),?_,aq hp ⟨by omega,by omega,_,y.want,_,j,au (AH _ y) ?_⟩⟩
   ·rintro h n ⟨rfl,e⟩ -;exact jZ (by omega) ⟨rfl,e⟩
   ·rintro h b ⟨rfl,D⟩ -;obtain⟨J,C,x⟩:=(hb.av D.av).at g
    by_cases hw:y.want=q
    ·exact aP hw (aq C ⟨by omega,by omega,y.v,VQ x,by rw[s,vD,ak hw],D⟩)
    ·exact aU hw ⟨by rw[s,vD,ah hw],D⟩
   rintro v L ⟨rfl,c4⟩;have o:=e.quiet c4;obtain⟨I,B,u⟩:=(hb.av o.av).at g;exact⟨_,rfl,cT (dS.1 hok y (bf g)) (aq B ⟨by omega,by omega,y.want,O5 u,q,o.cellsIn 0 rfl,by rw[I6.beq_eq],o⟩)⟩
  ·obtain rfl:bids.length=k:=by omega
   rw[br];exact aU d ⟨rfl,s2.av⟩
def O4{a:List Of}(h:a.all nA=true):∀ x∈a,I6.Le x.want 4/\x.v<=1000000:=λ x b=>by
 have:=dS.1 h x b;unfold nA at this;simp only[aX,bN] at this;exact⟨Bl this.1,this.2.2.2⟩
set_option maxHeartbeats 1000000 in
theorem Mt{w:af}{a1 a2:OA}{c1 c2:Nat}{l:List Ch}{bids:List Of}(hr:xH w a1 l)(hl:l.length<=1000)(ho:∀ c∈l,c.Ok)(hb:W6 w a2 bids)(hbl:bids.length<=100000)(hok:bids.all nA=true){b:I6}(hbb:I6.Le b 4) :
  CP 198 #[.slice a1 l.length c1,.slice a2 bids.length c2,.agg b.vs.toArray] w (λ r w'=>r=iv (OR (wW l bids) l b)/\aC w w' []):=by
 refine(p6 (p6 kE)).2.2.2.2.2.1 ?_;refine aG b.vs.toArray λ r1 I s1=>?_;let M:List aI:=[aj r1 b.vs.toArray 42,emp];have s1:St w I (Sep M):=s1;have G:∀ q,I6.Le q 4->0<=wW l bids q/\wW l bids q<=24000000:=λ q H=>J7 ho (λ x j=>(O4 hok x j).2) H;refine⟨λ x B=>x=false/\St w B (Sep M),?_,au (GC (hr.av s1.av) hl ho) ?_⟩
 rotate_left
 ·rintro v B ⟨rfl,c2⟩;have s2:=s1.quiet c2;refine⟨_,rfl,cF rfl ⟨b,s2.cellsIn 0 rfl,au (ig B b) ?_⟩⟩;rintro v h ⟨rfl,c3⟩;exact⟨_,rfl,by rw[leq hbb]; rfl,s2.quiet c3⟩
 rintro B x ⟨rfl,s2⟩ -;refine cF rfl ⟨λ n i h m=>∃ k:Nat,i=k/\k<=l.length/\m=l.length-k/\n=(l.take k).foldl (rJ (wW l bids) b) 1000000/\St w h (Sep M),⟨l.length,0,rfl,by omega,by omega,rfl,s2⟩,?_⟩;rintro h m n i ⟨k,rfl,K,hm,rfl,z⟩ -
 by_cases t:(k:Int)<(l.length:Int)
 rotate_left
 ·obtain rfl:l.length=k:=by omega
  rw[br];exact aU t ⟨rfl,z.av⟩
 obtain⟨y,j⟩:=bx l k (by omega);have g:=ho y (bf j);have E:=kL (f:=rJ (wW l bids) b) (a:=1000000) j;have A:=z.quiet (aC.drew h []);have u:=A.quiet (aC.drew _ []);obtain⟨p,hp,C⟩:=(hr.av A.av).at j;obtain⟨p2,e,d⟩:=(hr.av u.av).at j;refine aP t ⟨λ n h=>n=(l.take (k+1)).foldl (rJ (wW l bids) b) 1000000/\St w h (Sep M),?_,aq hp ⟨by omega,by omega,y.want,mO C,b,A.cellsIn 0 rfl,?_⟩⟩
 ·rintro h n ⟨rfl,z⟩ -;exact jZ (by omega) ⟨rfl,z⟩
 rw[I6.beq_eq]
 by_cases hw:y.want=b
 ·exact cF (by rw[dT hw]; rfl) ⟨by rw[E,rJ,ak hw],A⟩
 refine cT (by rw[dF hw]; rfl) (aq e ⟨by omega,by omega,y.want,mO d,aq e ⟨by omega,by omega,y.p,y.want,d,b,u.cellsIn 0 rfl,aq e ⟨by omega,by omega,y.p,y.want,d,aq e ⟨by omega,by omega,y.want,mO d,au (IK (hr.av u.av) hl ho (hb.av u.av) hbl hok y.want) ?_⟩⟩⟩⟩);rintro v L ⟨rfl,o⟩;have F:=u.quiet o;refine⟨_,rfl,bB o (mO d),bB o d,F.cellsIn 0 rfl,bB o d,au (xx _ (c:=y) g.p hbb) ?_⟩;rintro v J ⟨rfl,D⟩;have s:aC _ J []:=o.trans D (by simp);refine⟨_,rfl,bB s (mO d),bB s d,au (xx _ (c:=y) g.p g.w) ?_⟩;rintro v N ⟨rfl,c8⟩;have h1:=G y.want g.w;have h2:=ja g.p hbb;have h3:=ja g.p g.w;refine⟨_,rfl,?_,(F.quiet D).quiet c8⟩;rw[cW (n:=wW l bids y.want+cost y.p b) ⟨by omega,by omega⟩,cA (by omega),E,rJ,ah hw]
set_option maxHeartbeats 1000000 in
theorem IG{w:af}{a1 a2:OA}{c1 c2:Nat}{l:List Ch}{bids:List Of}(hr:xH w a1 l)(hl:l.length<=1000)(ho:∀ c∈l,c.Ok)(hb:W6 w a2 bids)(hbl:bids.length<=100000) :
  CP 148 #[.slice a1 l.length c1,.slice a2 bids.length c2] w (λ r w'=>r=.tuple #[iv (wk l bids),iv (yy l bids)]/\aC w w' []):=by
 refine XK.1 ?_;refine au (GC hr hl ho) ?_;rintro v u ⟨rfl,d1⟩;refine⟨_,rfl,cF rfl ⟨λ i n m=>∃ k:Nat,i=k/\k<=bids.length/\m=bids.length-k/\(bids.take k).all nA=true/\aC w n [],⟨bids.length,0,rfl,by omega,by omega,rfl,d1⟩,?_⟩⟩;rintro n m i ⟨k,rfl,q,hm,ha,d2⟩ -
 by_cases b:(k:Int)<(bids.length:Int)
 ·obtain⟨y,e⟩:=bx bids k (by omega);obtain⟨p,hp,d⟩:=(hb.av d2).at e;refine aP b (aq hp ⟨by omega,by omega,_,y.want,_,d,au (AH n y) ?_⟩);rintro v t ⟨rfl,c5⟩;have d5:aC w t []:=d2.trans c5 (by simp);refine⟨_,rfl,?_⟩
  cases hy:nA y with
  | false =>
   have:bids.all nA=false:=nG.2 ⟨y,bf e,by simp[hy]⟩;have g:wk l bids=k:=by
    rw[wk,this,ah (by decide)];refine vH ?_ e (by rw[hy]; rfl);rw[tY];intro z s;rw[dS.1 ha z s]; decide
   exact cT rfl ⟨by rw[g,yy,this]; rfl,d5⟩
  | true =>
   refine cF rfl (jZ (by omega) ⟨?_,d5⟩);rw[aH e,lZ,ha]; simp[hy]
 ·obtain rfl:bids.length=k:=by omega
  rw[br] at ha;have o:yy l bids=if bids.any (vW l bids) then 16 else 0:=by rw[yy,ak ha]
  refine aU b ⟨λ i h m=>∃ k:Nat,i=k/\k<=bids.length/\m=bids.length-k/\(bids.take k).any (vW l bids)=false/\aC w h [],⟨bids.length,0,rfl,by omega,by omega,rfl,d2⟩,?_⟩;clear b hm q d2;rintro h m i ⟨k,rfl,q,hm,a,d7⟩ -
  by_cases b:(k:Int)<(bids.length:Int)
  ·obtain⟨y,e⟩:=bx bids k (by omega);have d8:aC w h.drew []:=d7.trans (aC.drew h []) (by simp);obtain⟨p,hp,d⟩:=(hb.av d8).at e;refine aP b (aq hp ⟨by omega,by omega,y.v,VQ d,aq hp ⟨by omega,by omega,y.want,O5 d,au (Mt (hr.av d8) hl ho (hb.av d8) hbl ha (O4 ha y (bf e)).1) ?_⟩⟩);rintro v j ⟨rfl,f⟩;refine⟨_,rfl,dI (VQ d) f,?_⟩;have d10:aC w j []:=d8.trans f (by simp)
   cases ho:vW l bids y with
   | true =>
    have g:wk l bids=k:=by rw[wk,ak ha,eZ e ho,ak rfl]; exact vH a e ho
    exact cT ho ⟨by rw[g,o,eZ e ho]; rfl,d10⟩
   | false=>exact cF ho (jZ (by omega) ⟨dY a e ho,d10⟩)
  ·obtain rfl:bids.length=k:=by omega
   rw[br] at a;have g:wk l bids=0:=by rw[wk,ak ha,a]; rfl
   exact aU b ⟨by rw[g,o,a]; rfl,d7⟩
end Go.Proofs.YtjcfdidmajodiaaGreatDoor
set_option maxHeartbeats 4000000
namespace Go.Proofs.YtjcfdidmajodiaaGreatDoor
open Go Go.Vc Go.Vt _root_.Go.Proofs.Tryz
def rC:=many uj [en func182 [] [],en func183 [] [],en func184 [] [(122,[(7,.s (.int .i64)),(8,.s (.int .i64))])],en func185 [] [(58,[(3,.s .slice),(4,.s (.int .i64))]),(250,[(6,.s (.int .i64))]),(64074,[(7,.s .bool),(8,.s (.int .i64))]),(4100754,[(7,.s .bool),(9,.s (.int .i64))]),(524896550,[(7,.s .bool),(11,.s (.int .i64))]),(2099586201,[(7,.s .bool)]),(8398344804,[(99,.s .bool)])],en func140 [] [(6,[(17,.s .bool)]),(126,[(46,.s .bool)]),(254,[(57,.s .bool)])],en func241 [] [(58,[(4,.s (.int .i64))]),(3730,[(5,.s (.int .i64))])],en func186 [] [(58,[(10,.s (.int .i64))]),(1865,[(40,.s .bool)])],en func187 [] [(122,[(11,.s (.int .i64))]),(3912,[]),(15648,[(48,.s .bool)])],en func143 [] [(6,[(19,.s .bool)]),(14,[(29,.s .bool)]),(506,[(11,.s (.int .i64))]),(2042,[(13,.s (.int .i64))]),(8169,[])],en func137 [] [(58,[(4,.s (.int .i64))]),(232,[(12,.s .bool)])],en func189 [] [(15,[(6,.s (.int .i64))])]] (by conv=>lhs;reduce) (by kernel_rfl) λ x=>by
 dsimp only[fj,fh,ff,fe,fk,fm,fq,tF,iP,en,sV,wrap,dc,dn,qA,gU,tW,U.I,U.B,U.S,U.N,U.A,U.O,U.W,U.V,U.L,U.U6,U.C,U.M,U.F,U.E,tP,tN,tI,oo,jU,gJ,kr,jq,TJ,Nat.reduceSub,Nat.reduceAdd,Int.reduceOfNat,Int.reduceNeg,UInt8.reduceOfNat] at x
 exact x
def xM:=many uj [en func188 [] [(26,[(3,.s (.int .i64))]),(420,[(17,.s .bool)])],en func144 [] [(6,[(16,.s .bool)]),(58,[(8,.s (.int .i64))]),(233,[])],en func92 [] [(6,[(40,.s .bool)])],en func94 [] [(7,[(6,.s (.int .i64))])],en func141 [] [(58,[(5,.s .slice),(6,.s (.int .i64))]),(232,[(22,.s .bool)])],en func145 [] [],en func95 [] [(14,[(21,.s .bool)]),(127,[(8,.s (.int .i64))]),(255,[(8,.s (.int .i64))])],en func96 [] [(31,[(5,.s .slice)]),(63,[]),(4090,[(9,.s .bool),(10,.s (.int .i64))]),(16361,[(9,.s .bool)]),(1047114,[(11,.s (.int .i64)),(12,.s (.int .i64))]),(2047,[]),(4094,[(132,.s .bool)]),(4010,[(7,.s (.int .i64))]),(16041,[])]] (by conv=>lhs;reduce) (by kernel_rfl) λ x=>by
 dsimp only[fj,fh,ff,fe,fk,fm,fq,tF,iP,en,sV,wrap,dc,dn,qA,gU,tW,U.I,U.B,U.S,U.N,U.A,U.O,U.W,U.V,U.L,U.U6,U.C,U.M,U.F,U.E,tP,tN,tI,oo,jU,gJ,kr,jq,TJ,Nat.reduceSub,Nat.reduceAdd,Int.reduceOfNat,Int.reduceNeg,UInt8.reduceOfNat] at x
 exact x
end Go.Proofs.YtjcfdidmajodiaaGreatDoor
namespace Go.Proofs.YtjcfdidmajodiaaGreatDoor
open Go Go.Vc _root_.Go.Proofs.Tryz
def SX{N:Nat}{s:Qs}{x:Int}{h:Nat->Bool}{m:Nat}(hm:m<N)(hc:h m=true/\(qJ x h m s).v m<x):(hO (qJ x h m s).v N).set m x=hO (qJ x h (m+1) s).v N:=by
 have e:qJ x h (m+1) s=⟨oC (qJ x h m s).v m x,false⟩:=by show(if _ then _ else _)=_; rw[ak hc]
 rw[e]; exact zh _ _ _ _
def Jk(l:List Ch):(uT l).length=l.length+1:=by simp[uT]
def Jj(l:List Ch){k:Nat}(a:k<l.length+1):(uT l)[k]?=some (wQ l k):=by
 unfold wQ;rw[aJ,gE (by rw[Jk]; exact a)]; rfl
def QF{l:List Ch}(b:∀ c∈l,c.Ok){k:Nat}(a:k<l.length+1):I6.Le (wQ l k) 4:=by
 match k,a with
 | 0,_=>exact Lm (by omega)
 | k+1,a =>
  rw[tH l (by omega),aJ,gE (by omega)];exact(b _ (zJ _)).w
def Xx{l:List Ch}(a:∀ c∈l,c.Ok){i k:Nat}(hi:i<l.length)(b:k<l.length+1) : -24000000<=cQ l i k/\cQ l i k<=24000000:=by
 unfold cQ;have hc:(l.getD i nt).Ok:=by rw[aJ,gE hi]; exact a _ (zJ hi)
 have h1:=ja hc.p hc.w;have h2:=ja hc.p (QF a b);omega
set_option maxHeartbeats 2000000 in
theorem yx{w:af}{a:OA}{c:Nat}{l:List Ch}(hr:xH w a l)(hl:l.length<=100)(ho:∀ c∈l,c.Ok) :
  CP 185 #[.slice a l.length c] w (λ r w'=>r=.bool (jv l)/\aC w w' []):=by
 refine rC.2.2.2.1 ?_;rw[<- NQ ho];refine aG z6.vs.toArray λ r1 w1 s1=>?_;have s1:St w w1 (Sep [eV (qs r1) 1 [z6],emp]):=St.weak s1 (bz.left (dO (n:=1) (sz:=6) rfl (by decide)));refine⟨λ a2 l2 c2 i w2 m=>∃ k:Nat,i=k/\k<=l.length/\m=l.length-k/\l2=(z6 :: (l.take k).map Ch.want).length/\St w w2 (Sep [eV a2 c2 (z6 :: (l.take k).map Ch.want),emp]),⟨l.length,0,rfl,by omega,by omega,rfl,s1⟩,?_⟩;rintro w2 m a2 l2 c2 i ⟨k,rfl,W,hm,rfl,s2⟩ -
 by_cases X:(k:Int)<(l.length:Int)
 ·obtain⟨y,hx⟩:=bx l k (by omega);obtain⟨p,hp,u⟩:=(hr.av s2.av).at hx;refine aP X (aq hp ⟨by omega,by omega,y.want,mO u,s2.aB y.want.vs.toArray λ r2 w3 s3=>?_⟩);have hlen4:(z6 :: (l.take k).map Ch.want).length<=101:=by simp; omega
  refine bQ (l2:=[y.want]) yB bE I6.one (s3.out 1 rfl) (jK (s3.cellsIn 0 rfl) rfl) (by simp only[bS]; omega) (by simp only[bS]; omega) λ a' c' w9 G=>?_;have G:=G.back (i:=1) (by show 1<3; decide);have e1:(z6 :: (l.take k).map Ch.want)++[y.want]=z6 :: (l.take (k+1)).map Ch.want:=by rw[aH hx,bP]; rfl
  rw[e1] at G ⊢;exact jZ (by omega) ⟨rfl,G.ay [1,2]⟩
 obtain rfl:k=l.length:=by omega
 rw[br] at s2 ⊢;have s2:St w w2 (Sep [eV a2 c2 (uT l),emp]):=s2;have hN:(z6 :: l.map Ch.want).length=l.length+1:=by simp
 rw[hN];refine aU X (cZ (x:=0) G5 bV rfl s2 (n:=l.length+1) (by omega) (by omega) λ g w5 c5 s5=>?_);let M:Qs->List aI:=λ s=>[iA (qs g) (l.length+1) (hO s.v (l.length+1)),eV a2 c2 (uT l),emp];have s5:St w w5 (Sep (M ⟨λ _=>0,true⟩)):=by
  have e:List.replicate (l.length+1) (0:Int)=hO (λ _=>0) (l.length+1):=by
   apply iC;intro j
   by_cases o:j<l.length+1
   ·rw[vC _ o,mg,ak o]
   ·rw[cr (by simp; omega),cr (by rw[iu]; omega)]
  rw[e] at s5;exact s5
 have rdw:∀ {s:Qs} {w'},St w w' (Sep (M s))->∀ k,k<l.length+1->∃ q,a2=some q/\aA w' (Addr.add q (k*6)) 0 (wQ l k).vs:=λ s k W=>(St.rd bE (s.out 1 rfl)).at (Jj l W);have rdv:∀ {s:Qs} {w'},St w w' (Sep (M s))->∀ k,k<l.length+1->w'.cell? (Addr.add ⟨g,0,none⟩ (k*1))=some (iv (s.v k)):=λ s k W=>by
  obtain⟨q,O,hc⟩:=dA (St.rd bV (s.out 0 rfl)) (vC _ W)
  cases O; exact hc
 have rdl:∀ {w'},aC w w' []->∀ i,i<l.length->∃ q,a=some q/\aA w' (Addr.add q (i*12)) 0 (l.getD i nt).cells:=λ hc i hi=>by
  have hx:l[i]?=some (l.getD i nt):=by rw[aJ,gE hi]; rfl
  exact(hr.av hc).at hx
 have okl:∀ i,i<l.length->(l.getD i nt).Ok:=λ i hi=>by rw[aJ,gE hi]; exact ho _ (zJ hi)
 have Y:l.length*(l.length+1)<=10100:=cC (Nat.mul_le_mul hl (show l.length+1<=101 by omega)) (by decide);generalize hP:l.length*(l.length+1)=P at Y;let bd:Nat->Qs->Prop:=λ T s=>∀ j,j<l.length+1->0<=s.v j/\s.v j<=(T:Int)*24000000;refine⟨λ i w6 m=>∃ (r T:Nat) (s:Qs),i=r/\r<=l.length+2/\m=l.length+2-r/\(T=r*P/\bd T s/\NP l=qF (cQ l) (hQ l) l.length (l.length+1) (l.length+2-r) s)/\St w w6 (Sep (M s)),⟨l.length+2,0,0,⟨λ _=>0,true⟩,rfl,by omega,by omega,⟨by simp,λ j _=>⟨cq _,by simp⟩,rfl⟩,s5⟩,?_⟩;rintro w6 m3 i ⟨r,T,s,rfl,hrr,hm3,⟨hT,hbd,O⟩,s6⟩ -
 by_cases I:(r:Int)<=((l.length+1:Nat):Int)
 rotate_left
 ·obtain rfl:r=l.length+2:=by omega
  refine aU I ⟨?_,s6.av⟩;rw[O,yR]; rfl
 have hTb:T<=101*10100:=by rw[hT]; exact Nat.mul_le_mul (by omega) Y
 let t0:Qs:={ s with calm:=true };have s6:St w w6 (Sep (M t0)):=s6;refine aP I ⟨λ b i w7 m=>∃ (n S:Nat),i=n/\n<=l.length/\m=l.length-n/\(S=T+n*(l.length+1)/\bd S (qI (cQ l) (hQ l) (l.length+1) n t0)/\b=(qI (cQ l) (hQ l) (l.length+1) n t0).calm)/\St w w7 (Sep (M (qI (cQ l) (hQ l) (l.length+1) n t0))),⟨l.length,0,T,rfl,by omega,by omega,⟨by omega,hbd,rfl⟩,s6⟩,?_⟩;rintro w7 m5 b i ⟨n,S,rfl,hn,hm5,⟨U,z,rfl⟩,s7⟩ -
 by_cases J:(n:Int)<(l.length:Int)
 rotate_left
 ·obtain rfl:n=l.length:=by omega
  have eF:qF (cQ l) (hQ l) l.length (l.length+1) (l.length+2-r) s=if (qI (cQ l) (hQ l) (l.length+1) l.length t0).calm=true then true else qF (cQ l) (hQ l) l.length (l.length+1) (l.length+2-(r+1)) (qI (cQ l) (hQ l) (l.length+1) l.length t0):=by
   rw[show l.length+2-r=(l.length+2-(r+1))+1 by omega]; rfl
  refine aU J ?_;rw[eF] at O
  cases hc:(qI (cQ l) (hQ l) (l.length+1) l.length t0).calm with
  | true=>exact cT rfl ⟨by rw[O,ak hc],s7.av⟩
  | false =>
   rw[ah (by rw[hc]; decide)] at O;exact cF rfl ⟨l.length+2-(r+1),by omega,r+1,S,_,cA (by omega),by omega,rfl,⟨by rw[U,hT,hP,gT,Nat.one_mul],z,O⟩,s7⟩
 have E:n<l.length:=by omega
 have hnb:n*(l.length+1)+(l.length+1)<=P:=by
  rw[<- hP];have:=zG (l.length+1) (show n+1<=l.length by omega);rw[gT] at this; omega
 generalize ht1:qI (cQ l) (hQ l) (l.length+1) n t0=t1 at z s7;refine aP J ⟨λ b i w8 m=>∃ (k t:Nat),i=k/\k<=l.length+1/\m=l.length+1-k/\(t=S+k/\bd t (qK (cQ l) (hQ l) (l.length+1) n k t1)/\b=(qK (cQ l) (hQ l) (l.length+1) n k t1).calm)/\St w w8 (Sep (M (qK (cQ l) (hQ l) (l.length+1) n k t1))),⟨l.length+1,0,S,rfl,by omega,by omega,⟨by omega,z,rfl⟩,s7⟩,?_⟩;rintro w8 m7 b i ⟨k,t,rfl,W,hm7,⟨hT2,d,rfl⟩,s8⟩ -
 by_cases K:(k:Int)<((l.length+1:Nat):Int)
 rotate_left
 ·obtain rfl:k=l.length+1:=by omega
  have e:qK (cQ l) (hQ l) (l.length+1) n (l.length+1) t1=qI (cQ l) (hQ l) (l.length+1) (n+1) t0:=by rw[<- ht1]; rfl
  rw[e] at d s8 ⊢;exact aU K ⟨l.length-(n+1),by omega,n+1,t,cA (by omega),by omega,rfl,⟨by rw[hT2,U,gT]; omega,d,rfl⟩,s8⟩
 have f:k<l.length+1:=by omega
 have eK:qK (cQ l) (hQ l) (l.length+1) n (k+1) t1=qJ ((qK (cQ l) (hQ l) (l.length+1) n k t1).v k+cQ l n k) (hQ l n) (l.length+1) (qK (cQ l) (hQ l) (l.length+1) n k t1):=rfl;generalize qK (cQ l) (hQ l) (l.length+1) n k t1=t2 at d s8 eK;have G:St w w8.drew (Sep (M t2)):=s8.quiet (aC.drew w8 []);obtain⟨ql,Q,u⟩:=rdl G.av n E;obtain⟨qw,hqw,V⟩:=rdw G k f;have oc:=okl n E;have Z:=d k f;have hcb:=Xx ho E f;have A:∀ {w'} {q:Addr} {c:Ch},aA w' q 0 c.cells->aA w' q 0 c.p.vs:=λ {w' q c} h=>bM _ 0 λ j v o=>by
  have h6:j<6:=(aR.1 o).1;exact aM h j v (by
   match j,h6,o with
   | 0,_,o|1,_,o|2,_,o|3,_,o|4,_,o|5,_,o=>simpa[Ch.cells,I6.on,I6.vs] using o)
 have hT2b:t+1<=2000000:=by omega
 have hx0 : -24000000<=t2.v k+cQ l n k/\t2.v k+cQ l n k<=((t+1:Nat):Int)*24000000:=by
  obtain⟨v1,v2⟩:=Z;rw[show((t+1:Nat):Int)=(t:Int)+1 by omega,jD];omega
 refine aP K (aq rfl ⟨by omega,by omega,t2.v k,rdv G k f,aq Q ⟨by omega,by omega,(l.getD n nt).p,A u,aq Q ⟨by omega,by omega,(l.getD n nt).want,mO u,aq Q ⟨by omega,by omega,(l.getD n nt).p,A u,aq hqw ⟨by omega,by omega,wQ l k,V,au (xy _ oc.p oc.w) ?_⟩⟩⟩⟩⟩);rintro v w10 ⟨rfl,N⟩;have s10:St w w10 (Sep (M t2)):=G.quiet N;refine⟨_,rfl,bB N V,bB N (A u),rdv s10 k f,au (xy _ oc.p (QF ho f)) ?_⟩;rintro v w11 ⟨rfl,c11⟩;have s11:St w w11 (Sep (M t2)):=s10.quiet c11;have h1:=ja oc.p oc.w;have h2:=ja oc.p (QF ho f);have ex:IntKind.i64.wrap ((IntKind.i64.wrap (t2.v k+cost (l.getD n nt).p (l.getD n nt).want))-cost (l.getD n nt).p (wQ l k))=t2.v k+cQ l n k:=by
  obtain⟨v1,v2⟩:=Z;rw[cW (n:=t2.v k+cost (l.getD n nt).p (l.getD n nt).want) ⟨by omega,by omega⟩,cA (by omega)];unfold cQ; omega
 refine⟨_,rfl,rdv s11 k f,?_⟩;rw[ex];generalize hxx:t2.v k+cQ l n k=x at hx0 eK;refine⟨λ b i H m=>∃ j:Nat,i=j/\j<=l.length+1/\m=l.length+1-j/\b=(qJ x (hQ l n) j t2).calm/\St w H (Sep (M (qJ x (hQ l n) j t2))),⟨l.length+1,0,rfl,by omega,by omega,rfl,s11⟩,?_⟩;rintro H m9 b i ⟨j,rfl,o,hm9,rfl,R⟩ -
 by_cases L:(j:Int)<((l.length+1:Nat):Int)
 rotate_left
 ·obtain rfl:j=l.length+1:=by omega
  rw[<- eK] at R ⊢;refine aU L ⟨l.length+1-(k+1),by omega,k+1,t+1,cA (by omega),by omega,rfl,⟨by omega,λ j o=>?_,rfl⟩,R⟩;rw[eK,Pv];have h3:=d j o;have e3:((t+1:Nat):Int)*24000000=(t:Int)*24000000+24000000:=by rw[show((t+1:Nat):Int)=(t:Int)+1 by omega,jD]; omega
  split
  ·rename_i hg; omega
  ·omega
 have D:j<l.length+1:=by omega
 have B:St w H.drew (Sep (M (qJ x (hQ l n) j t2))):=R.quiet (aC.drew H []);obtain⟨q8,hq8,hc8⟩:=rdw B j D;obtain⟨q9,hq9,hc9⟩:=rdl B.av n E;have eS:qJ x (hQ l n) (j+1) t2=if hQ l n j=true/\(qJ x (hQ l n) j t2).v j<x then ⟨oC (qJ x (hQ l n) j t2).v j x,false⟩ else qJ x (hQ l n) j t2:=rfl
 refine aP L ⟨λ b C=>b=(qJ x (hQ l n) (j+1) t2).calm/\St w C (Sep (M (qJ x (hQ l n) (j+1) t2))),?_,λ b C=>b=decide (hQ l n j=true/\(qJ x (hQ l n) j t2).v j<x)/\St w C (Sep (M (qJ x (hQ l n) j t2))),?_,aq hq8 ⟨by omega,by omega,wQ l j,hc8,aq hq9 ⟨by omega,by omega,(l.getD n nt).want,mO hc9,?_⟩⟩⟩
 ·rintro C b ⟨rfl,F⟩ -;exact jZ (by omega) ⟨rfl,F⟩
 ·rintro C b ⟨rfl,F⟩ -
  by_cases hc:hQ l n j=true/\(qJ x (hQ l n) j t2).v j<x
  ·refine aP hc (aq rfl ⟨by omega,by omega,?_⟩);refine St.gu (v:=λ x=>iv x) rfl (x:=x) (St.out (l:=M (qJ x (hQ l n) j t2)) F 0 rfl) (i:=j) (by rw[iu]; exact D) λ w15 s15=>?_;rw[SX D hc] at s15;exact⟨by rw[eS,ak hc],s15⟩
  ·exact aU hc ⟨by rw[eS,ah hc],by rw[eS,ah hc]; exact F⟩
 rw[I6.beq_eq]
 by_cases hw:wQ l j=(l.getD n nt).want
 ·have hh:hQ l n j=true:=dT hw;refine aP hw (aq rfl ⟨by omega,by omega,_,rdv B j D,?_,B⟩)
  by_cases g2:(qJ x (hQ l n) j t2).v j<x
  ·rw[dT g2,dT ⟨hh,g2⟩]
  ·rw[dF g2,dF λ h=>g2 h.2]
 ·have hh:hQ l n j=false:=dF hw;exact aU hw ⟨(dF λ h=>by rw[hh] at h; cases h.1).symm,B⟩
def GH{w:af}{a:OA}{c:Nat}{l:List Ch}(h:xH w a l)(j:l.length<=1000):CP 182 #[.slice a l.length c] w (λ r w'=>r=.bool (uc l)/\aC w w' []):=by
 refine rC.1 ?_
 by_cases g:l.length=0
 ·have:l=[]:=zH g;subst this;exact cF (by simp) ⟨rfl,aC.refl _ _⟩
 ·obtain⟨y,d⟩:=bx l (l.length-1) (by omega);obtain⟨p,hp,b⟩:=h.at d;have e:(IntKind.i64.wrap ((l.length:Int)-(1:Int))).toNat=l.length-1:=by rw[cA (by omega)]; omega
  have i:IntKind.i64.wrap ((l.length:Int)-(1:Int))=(l.length:Int)-1:=cA (by omega);refine aP (by omega) (aq hp ⟨by omega,by omega,y.want,by rw[e]; exact mO b,?_,aC.refl _ _⟩);have f:l.getLast? = some y:=by rw[vj]; exact d
  rw[I6.beq_eq,uc,f]; rfl
def xU{w:af}{s:Se}(h:HI w s){u:I6}(hu:u.l.all iy=true):CP 183 #[.agg s.arr,.agg u.vs.toArray] w (λ r w'=>r=iv (yw s.ps u)/\aC w w' []):=by
 refine rC.2.1 ?_;refine aG s.arr λ r1 a s1=>s1.aB u.vs.toArray λ r2 b s2=>⟨_,_,_,s2.ag 1 rfl 0,u,s2.cellsIn 0 rfl,au (xz (h.av s2.av).i.ps h.o.ps hu 0) ?_⟩;rintro v c ⟨rfl,c3⟩;exact⟨_,_,_,rfl,rfl,(s2.quiet c3).av⟩
def Mm{w:af}{s:Se}(h:HI w s){n:Nat}{b:Br}(z:s.bd[n]?=some b){a:OA}{k:Nat}{l:List Ch}(E:xH w a l)(H:l.length<=1000)(C:∀ c∈l,c.Ok) :
  CP 184 #[.agg s.arr,iv n,.slice a l.length k] w (λ r w'=>r=iv (FA s b l)/\aC w w' []):=by
 refine rC.2.2.1 ?_;have I:=(aR.1 z).1;refine aG s.arr λ r1 J s1=>(Ex8<|Ex4<|⟨s1.cellsIn 0 rfl,au (rT (s:=s) n) ?_⟩);rintro v F ⟨rfl,c2⟩;have s2:St w F (Sep [aj r1 s.arr 73,emp]):=s1.quiet c2;obtain⟨q,D,g⟩:=BR ((h.av s2.av).i.bd) z 3 _ rfl;refine⟨_,rfl,cF (by simp; omega) ⟨_,_,_,s2.ag 0 rfl 1,aq D ⟨by omega,by omega,b.pts,by rw[aD]; exact g,?_⟩⟩⟩;let f:Int->Ch->Int:=λ m c=>if yw s.ps c.want<m then yw s.ps c.want else m
 refine⟨λ x i u m=>∃ j:Nat,i=j/\j<=l.length/\m=l.length-j/\x=(l.take j).foldl f b.pts/\St w u (Sep [aj r1 s.arr 73,emp]),⟨l.length,0,rfl,by omega,by omega,rfl,s2⟩,?_⟩;rintro u m x i ⟨j,rfl,G,hm,rfl,A⟩ -
 by_cases d:(j:Int)<(l.length:Int)
 ·obtain⟨y,t⟩:=bx l j (by omega);have B:=kL (f:=f) (a:=b.pts) t;have e:=A.quiet (aC.drew u []);obtain⟨p,hp,o⟩:=(E.av e.av).at t;refine aP d (Ex8<|Ex4<|⟨e.cellsIn 0 rfl,aq hp ⟨by omega,by omega,y.want,mO o,au (xU (h.av e.av) (leq (C y (bf t)).w)) ?_⟩⟩);rintro v K ⟨rfl,c5⟩;exact⟨_,rfl,l.length-(j+1),by omega,j+1,cA (by omega),by omega,rfl,by rw[B],e.quiet c5⟩
 ·obtain rfl:l.length=j:=by omega
  rw[br];exact aU d ⟨rfl,A.av⟩
section
variable {w0 w:af} {B:aI} {a:OA} {c:Nat} {l:List Ch}
def NI{r k:Nat}(s:St w0 w (star (uL (qs r) 0 []) B))(d:xH w a l)(g:l.length<=1000){R:Option Addr->Nat->Nat->af->Prop}(kk:∀ a' c' w',St w0 w' (star (uL a' c' l) B)->R a' l.length c' w') :
  gi prog (Builtin.append_ #[221,221] 221 #[.slice (qs r) 0 0,.slice a l.length k]) w λ e f=>∃ a l c,e=.slice a l c/\R a l c f :=
 bQ (l2:=l) Tw Ch.len Ch.one s d (by simp only[eY]; omega) (by simp only[eY]; omega) λ a' c' w' b=>by
  rw[lC] at b ⊢;exact kk a' c' w' b
def JW{r:Nat}{x:Ch}(s:St w0 w (star (uL a c l) B))(b:aA w ⟨r,0,none⟩ 0 x.cells)(f:l.length<=1000){R:Option Addr->Nat->Nat->af->Prop}(kk:∀ a' c' w',St w0 w' (star (uL a' c' (l++[x])) B)->R a' (l++[x]).length c' w') :
  gi prog (Builtin.append_ #[221,221] 221 #[.slice a l.length c,.slice (qs r) 1 1]) w λ e d=>∃ a l c,e=.slice a l c/\R a l c d :=
 bQ (l2:=[x]) Tw Ch.len Ch.one s (jK b rfl) (by simp only[bS]; omega) (by simp only[bS]; omega) kk
end
set_option maxHeartbeats 1000000 in
theorem GA{w:af}{s:Se}(h:HI w s){n:Nat}{b:Br}(hb:s.bd[n]?=some b){a:OA}{k:Nat}{l:List Ch}(hr:xH w a l)(hl:l.length+1<=100)(ho:∀ c∈l,c.Ok){c:Ch}(hc:c.Ok)(rule:Int) :
  CP 140 #[.agg s.arr,iv rule,iv n,.slice a l.length k,c.v] w (λ r w'=>r=iv (yf rule s b l c)/\aC w w' []):=by
 refine rC.2.2.2.2.1 ?_;have Y:=(aR.1 hb).1;have G:(l++[c]).length<=100:=by simp; omega
 have H:∀ x∈l++[c],x.Ok:=λ x u=>by
  rcases aV.1 u with u|u
  ·exact ho x u
  ·cases bp.1 u; exact hc
 refine aG s.arr λ r1 Z s1=>s1.aB c.cells.toArray λ r2 W s2=>?_;let M:List aI:=[aj r2 c.cells.toArray 218,aj r1 s.arr 73,emp];have s2:St w W (Sep M):=s2;refine⟨λ x S=>x=decide (¬ (1<=rule/\rule<=3))/\St w S (Sep M),?_,?_⟩
 rotate_left
 ·by_cases g:rule<1
  ·exact aP g ⟨(dT (by omega)).symm,s2⟩
  ·refine aU g ⟨?_,s2⟩
   by_cases g2:rule>3
   ·rw[dT g2,dT (show ¬ (1<=rule/\rule<=3) by omega)]
   ·rw[dF g2,dF (show ¬ ¬ (1<=rule/\rule<=3) by omega)]
 rintro S x ⟨rfl,K⟩ -
 by_cases j:1<=rule/\rule<=3
 rotate_left
 ·exact aP j ⟨by rw[yf,ah j],K.av⟩
 have f:yf rule s b l c=if (if uc l then decide (c.want=z6) else AP rule s b l c) then 0 else 15:=by rw[yf,ak j]
 refine aU (λ i=>i j) (Ex8<|Ex4<|⟨K.cellsIn 1 rfl,au (rT (s:=s) n) ?_⟩);rintro v T ⟨rfl,c4⟩;have Q:St w T (Sep M):=K.quiet c4;refine⟨_,rfl,cF (by simp; omega) ⟨c.want,dV Q 0 rfl,au (ig T c.want) ?_⟩⟩;rintro v X ⟨rfl,c5⟩;have R:St w X (Sep M):=Q.quiet c5;refine⟨_,rfl,cF (by rw[leq hc.w]; rfl) (au (GH (hr.av R.av) (by omega)) ?_)⟩;rintro v L ⟨rfl,U⟩;have C:St w L (Sep M):=R.quiet U;refine⟨_,rfl,?_⟩
 cases hex:uc l with
 | true =>
  rw[hex] at f;refine cT rfl ⟨c.want,dV C 0 rfl,?_⟩;rw[I6.beq_eq]
  by_cases g:c.want=z6
  ·exact aP g ⟨by rw[f,ak rfl,ak (dT g)],C.av⟩
  ·exact aU g ⟨by rw[f,ak rfl,ah (by rw[dF g]; decide)],C.av⟩
 | false =>
 rw[hex,ah (show ¬ false=true by decide)] at f;have q:St w L.drew (Sep M):=C.quiet (aC.drew L []);refine cF rfl ⟨λ x D=>x=(decide (rule≠2)&&xL s b l c)/\St w D (Sep M),?_,?_⟩
 rotate_left
 ·by_cases g:rule=2
  ·exact cF (by simpa using g) ⟨by rw[dF (λ i=>i g)]; rfl,q⟩
  ·refine cT (by simpa using g) (Ex8<|Ex4<|⟨q.cellsIn 1 rfl,c.want,dV q 0 rfl,Ex8<|Ex4<|⟨q.cellsIn 1 rfl,au (xU (h.av q.av) (leq hc.w)) ?_⟩⟩);rintro v E ⟨rfl,c8⟩;have o:St w E (Sep M):=q.quiet c8;refine⟨_,rfl,o.cellsIn 1 rfl,au (Mm (h.av o.av) hb (hr.av o.av) (by omega) ho) ?_⟩;rintro v w9 ⟨rfl,V⟩;exact⟨_,rfl,by rw[dT g,bt]; rfl,o.quiet V⟩
 rintro D x ⟨rfl,o⟩ -;have I:AP rule s b l c=((decide (rule≠2)&&xL s b l c)||(decide (rule≠1)&&jv (l++[c]))):=by
  unfold AP
  by_cases g1:rule=1
  ·rw[ak g1,dT (show rule≠2 by omega),dF (λ i=>i g1)]; simp
  ·rw[ah g1,dT g1,bt]
   by_cases g2:rule=2
   ·rw[ak g2,dF (λ i=>i g2)]; simp
   ·rw[ah g2,dT g2,bt]
 rw[I] at f
 cases hf:(decide (rule≠2)&&xL s b l c) with
 | true=>exact cT rfl ⟨by rw[f,hf]; rfl,o.av⟩
 | false =>
 rw[hf,nJ] at f;have t:St w D.drew (Sep M):=o.quiet (aC.drew D []);refine cF rfl ⟨λ x E=>x=(decide (rule≠1)&&jv (l++[c]))/\aC w E [],?_,?_⟩
 ·rintro E x ⟨rfl,c8⟩ -
  cases hg:(decide (rule≠1)&&jv (l++[c])) with
  | true=>exact cT rfl ⟨by rw[f,hg]; rfl,c8⟩
  | false=>exact cF rfl ⟨by rw[f,hg]; rfl,c8⟩
 by_cases g1:rule=1
 ·have F:false=(decide (rule≠1)&&jv (l++[c])):=by rw[dF (λ i=>i g1)]; rfl
  exact cF (by simpa using g1) ⟨⟨⟨F,t.av⟩,F,t.av⟩,F,t.av⟩
 have fin:∀ {a':OA} {c':Nat} {w':af} {B:aI},St w w' (star (uL a' c' (l++[c])) B)->CC 185 #[.slice a' (l++[c]).length c'] w' λ e y=>∃ b:Bool,e=.returned (.bool b)/\b=(decide (rule≠1)&&jv (l++[c]))/\aC w y []:=λ P =>
  au (yx (St.rd Ch.len P) G H) λ v y N=>⟨jv (l++[c]),by rw[N.1],by rw[dT g1,bt],P.av.trans N.2 (by simp)⟩
 refine cT (by simpa using g1) ⟨c.p,c.want,t.cellsIn 0 rfl,⟨?_,?_⟩⟩
 ·refine t.aB #[] λ r3 z t1=>⟨t1.cellsIn 1 rfl,⟨?_,?_⟩⟩
  ·have t2:St w z (star (uL (qs r3) 0 []) (Sep M)):=St.weak t1 (bz.left (dO (n:=0) (sz:=12) rfl (by decide)));refine NI t2 (hr.av t1.av) (by omega) λ a' c' d t3=>?_;have t3:St w d (Sep [uL a' c' l,aj r2 c.cells.toArray 218,aj r1 s.arr 73,emp]):=t3;refine⟨t3.cellsIn 1 rfl,t3.aB c.cells.toArray λ r4 m t4=>?_⟩;refine JW (x:=c) (t4.out 1 rfl) (t4.cellsIn 0 rfl) (by omega) λ a2 c2 A t5=>fin t5
  ·refine t1.aB c.cells.toArray λ r5 d t3=>?_;have t4:St w d (Sep [aj r3 #[] 218,aj r5 c.cells.toArray 218,emp]):=t3.ay [1,0,4];have t5:St w d (star (uL (qs r3) 0 []) (Sep [aj r5 c.cells.toArray 218,emp])):=St.weak t4 (bz.left (dO (n:=0) (sz:=12) rfl (by decide)));refine NI t5 (hr.av t5.av) (by omega) λ a' c' m t6=>?_;have t6:St w m (Sep [uL a' c' l,aj r5 c.cells.toArray 218,emp]):=t6;exact JW (x:=c) (t6.out 0 rfl) (t6.cellsIn 1 rfl) (by omega) λ a2 c2 A t7=>fin t7
 ·refine t.aB c.cells.toArray λ J z t1=>t1.aB #[] λ O d t3=>?_;have t4:St w d (Sep [aj O #[] 218,aj J c.cells.toArray 218,emp]):=t3.ay [0,1,4];have t5:St w d (star (uL (qs O) 0 []) (Sep [aj J c.cells.toArray 218,emp])):=St.weak t4 (bz.left (dO (n:=0) (sz:=12) rfl (by decide)));refine NI t5 (hr.av t5.av) (by omega) λ a' c' m t6=>?_;have t6:St w m (Sep [uL a' c' l,aj J c.cells.toArray 218,emp]):=t6;exact JW (x:=c) (t6.out 0 rfl) (t6.cellsIn 1 rfl) (by omega) λ a2 c2 A t7=>fin t7

import Derived.Lib.AtoiBound
import Derived.Maps.RangeRun
import Derived.Test.YtmhhlijfepaphaaGreatDoorH08
set_option linter.all false
set_option maxRecDepth 100000
set_option maxHeartbeats 4000000
namespace Go.Proofs.YtmhhlijfepaphaaGreatDoor
open Go Go.Vc Go.Vt _root_.Go.Proofs.Tryz
def qH:=zl (And.intro (many xP [en func124 [] [(122,[(17,.s (.int .i64))]),(979,[])],en func180 [(0,.k (.s .blk))] [(223,[])],en func113 [] [],en func256 [] [(431,[(8,.s .bool)])],en func257 [] [(7,[(8,.s (.int .i64)),(9,.s .bool)]),(58,[(11,.s .bool)])],en func258 [] [(58,[(4,.s .slice),(11,.s (.int .i64))])],en func174 [] [(6,[(20,.s .bool)]),(62,[(46,.s .bool)]),(506,[(50,.s (.int .i64))]),(32409,[(73,.s .bool)])],en func323 [] [(26,[(9,.s (.int .i64))]),(1689,[(21,.s .bool)]),(14,[(34,.s .bool)])],en func176 [] [(58,[(12,.s (.int .i64))])]] (by conv=>lhs;reduce) (by kernel_rfl) id) (many xP [en func253 [] [(26,[(10,.s (.int .i64))]),(211,[]),(1689,[(28,.s .bool)])],en func19 [] [(12,[(3,.s .bool)]),(51,[(14,.s .bool)]),(207,[(39,.s .bool)])],en func25 [] [],en func26 [] [],en func55 [] [(14,[(10,.s .bool)])],en func56 [] [(15,[]),(31,[]),(63,[]),(127,[]),(255,[])],en func58 [] [(15,[(4,.s .str)]),(31,[(4,.s .str)]),(63,[(4,.s .str)]),(127,[(4,.s .str)]),(255,[(4,.s .str)]),(2026,[(4,.s .str),(37,.s (.int .i64))])],en func71 [] [(58,[(3,.s (.int .u64)),(4,.s (.int .i64))])],en func72 [] [(58,[(11,.s (.int .i64))])],en func118 [] [(1727,[(10,.s .bool)])],en func119 [] [(28,[(0,.s (.int .u64)),(3,.s .slice)])],en func120 [] [],en func179 [] [],en func49 [] [(442,[(3,.s .slice),(13,.s (.int .i64))]),(3539,[(3,.s .slice)]),(453018,[(24,.s (.int .i64))])],en func105 [] [],en func107 [] [],en func104 [] [(122,[(5,.s (.int .i64)),(6,.s (.int .i64))]),(489,[(5,.s (.int .i64))])],en func164 [] [(26,[(8,.s (.int .i64))])]] (by conv=>lhs;reduce) (by kernel_rfl) id)) λx=>by
 dsimp only[qq,qm,qk,qj,qy,qA,qB,GH,uv,en,FG,wrap,dc,dn,DH,gU,ID,U.I,U.B,U.S,U.N,U.A,U.O,U.W,U.V,U.L,U.U6,U.C,U.M,U.F,U.E,HV,HA,GM,zS,jU,gJ,vZ,vI,TJ,Nat.reduceSub,Nat.reduceAdd,Int.reduceOfNat,Int.reduceNeg,UInt8.reduceOfNat] at x
 exact x
def wu:=(p6 (p6 qH.2)).2.2.1
def wv:=(p6 (p6 qH.2)).2.2.2.1
end Go.Proofs.YtmhhlijfepaphaaGreatDoor
namespace Go.Proofs.YtmhhlijfepaphaaGreatDoor
open Go Go.Vc _root_.Go.Proofs.Tryz
def vq(ps:List Pr)(l:List T3):Nat->I6×I6
 |0=>(dD ps,z6)
 |k+1=>match l[k]? with
  |none=>vq ps l k
  |some x=>((vq ps l k).1.put x.a.toNat ((vq ps l k).1.at' x.a.toNat-x.c),(vq ps l k).2.put x.a.toNat x.b)
def qS(ps:List Pr)(l:List T3):I6×I6:=vq ps l l.length
def I4{ps:List Pr}{l:List T3}(e:ps.length<=6)(b:∀p∈ps,p.sup<=4)(h:rj ps l){i:Nat}{x:T3}(d:l[i]?=some x):0<=x.a/\x.a<6/\1<=x.c/\x.c<=4:=by
 have:=(h.good i x d).1;simp only[Dw,aF,aV] at this;have f:(ps[x.a.toNat]?.map Pr.sup).getD 0<=4:=by
  cases hp:ps[x.a.toNat]? with
  |none=>show(0:Int)<=4;omega
  |some p=>exact b p (ak hp)
 omega
def UJ{ps:List Pr}(h:iu ps):∀p∈ps,p.sup<=4:=λp b=>by
 obtain⟨i,a⟩:=dQ b;have:=(h.good i p a).1;simp only[xq,EK,aF,aV] at this;omega
theorem MJ{ps:List Pr}{l:List T3}(c:iu ps)(h:rj ps l):∀(k:Nat) (j:Nat),j<6->-(4*(k:Int))<=(vq ps l k).1.at' j/\(vq ps l k).1.at' j<=4
 |0,j,b=>by have:=sup_le c j b;show _<=(dD ps).at' j/\(dD ps).at' j<=4;omega
 |k+1,j,b=>by
  have d:=MJ c h k;rw[vq]
  cases hx:l[k]? with
  |none=>have:=d j b;show _<=(vq ps l k).1.at' j/\(vq ps l k).1.at' j<=4;omega
  |some x=>
   have g:=I4 c.l2 (UJ c) h hx;rw[I6.mq _ _ _ _ (by omega) b];have e:=d j b;have f:=d x.a.toNat (by omega)
   split<;>omega
def KW{w:ah}{S:Se}(h:S.In w)(j:S.Ok):
  CP 176 #[.agg S.arr] w (λr d=>r=.tuple #[.agg (qS S.ps S.sa).1.vs.toArray,.agg (qS S.ps S.sa).2.vs.toArray]/\aZ w d []):=by
 refine(p6 qH.1).2.2.1 ?_;have R:=j.sa.l1;have s:=j.ps.l2;refine bE S.arr λU W L=>L.aY z6.vs.toArray λJ X M=>M.aY z6.vs.toArray λK Y y=>⟨_,_,_,y.aj 2 rfl 0,bF (tG (h.aK y.aK).ps (by omega)) λZ D=>⟨_,rfl,(y.quiet D).aR 1 rfl (dD S.ps).vs rfl (I6.one _) λw5 B=>⟨_,_,_,B.aj 2 rfl 3,⟨λn A m=>∃k:Nat,n=k/\k<=S.sa.length/\m=S.sa.length-k/\St w A (Sep [ay K (vq S.ps S.sa k).2.vs.toArray 50,ay J (vq S.ps S.sa k).1.vs.toArray 50,emp]),⟨S.sa.length,0,rfl,by omega,by omega,B.aM [0,1,3]⟩,?_⟩⟩⟩⟩;rintro A m n ⟨k,rfl,Q,T,z⟩-
 by_cases l:(k:Int)<(S.sa.length:Int)
 .obtain⟨x,t⟩:=dX S.sa k (by omega);obtain⟨q,I,r⟩:=(h.aK z.aK).sa k x t;have H:=I4 s (UJ j.ps) j.sa t;obtain⟨i,f⟩:=cZ H.1;have d:i<6:=by omega
  refine di l (av I ⟨by omega,by omega,_,_,_,r,z.aY #[iv 0,iv 0,iv 0] λV w7 o=>o.aR 0 rfl x.cells rfl x.one λC p=>?_⟩);have e:=p.quiet (aZ.drew C []);have P:=MJ j.ps j.sa k i d;have G:vq S.ps S.sa (k+1)=((vq S.ps S.sa k).1.put i ((vq S.ps S.sa k).1.at' i-x.c),(vq S.ps S.sa k).2.put i x.b):=by
   rw[vq,t];show((vq S.ps S.sa k).1.put x.a.toNat _,_)=_;rw[f,aq]
  refine⟨i,by rw[e.aj 0 rfl 0,<-f];rfl,by omega,by omega,(vq S.ps S.sa k).1.at' i,by rw[iC];exact br e 2 rfl d,x.c,e.aj 0 rfl 2,by omega,by omega,?_⟩;rw[iC,gC (by omega)];refine e.cL 2 rfl d rfl λO g=>⟨i,by rw[g.aj 0 rfl 0,<-f];rfl,x.b,g.aj 0 rfl 1,by omega,by omega,?_⟩;rw[iC];refine g.cL 1 rfl d rfl λN u=>(mS (by omega) ?_);rw[G];have v:=u.aM [1,2,3];have E:=I6.nW (vq S.ps S.sa k).1 i ((vq S.ps S.sa k).1.at' i-x.c) d;have F:=I6.nW (vq S.ps S.sa k).2 i x.b d;rw[<-E,<-F];exact v
 obtain rfl:S.sa.length=k:=by omega
 have o:=z.quiet (aZ.drew A []);exact dz l ⟨_,o.cellsIn 1 rfl,_,o.cellsIn 0 rfl,o.aR 1 rfl _ rfl (I6.one _) λC p=>⟨p.cellsIn 0 rfl,p.aR 0 rfl _ rfl (I6.one _) λO e=>⟨_,e.cellsIn 1 rfl,_,e.cellsIn 0 rfl,rfl,e.aK⟩⟩⟩
def yJ(b:Br)(cls u:I6):I6:=I6.zip (λc x=>if c=0\/c=b.cls then 0 else x) cls u
def PX{w:ah}{S:Se}(h:S.In w){n:Nat}{b:Br}(v:S.bd[n]?=some b)(cls u:I6):
  CP 253 #[.agg S.arr,.agg cls.vs.toArray,iv n,.agg u.vs.toArray] w (λr a=>r=.agg (yJ b cls u).vs.toArray/\aZ w a []):=by
 refine qH.2.1 ?_;have I:=(ai.1 v).1;refine bE S.arr λp K B=>B.aY cls.vs.toArray λr L C=>C.aY u.vs.toArray λs M D=>D.aY z6.vs.toArray λt N E=>⟨λn l m=>∃k:Nat,n=k/\k<=6/\m=6-k/\St w l (Sep [ay t z6.vs.toArray 50,ay s (I6.mix k (yJ b cls u) u).vs.toArray 50,ay r cls.vs.toArray 50,ay p S.arr 34,emp]),⟨6,0,rfl,by omega,by omega,E⟩,?_⟩;rintro F m J ⟨k,rfl,G,H,i⟩-
 by_cases o:(k:Int)<6
 .have a:k<6:=by omega
  have f:(yJ b cls u).at' k=if cls.at' k=0\/cls.at' k=b.cls then 0 else u.at' k:=by rw[yJ,I6.mU _ _ _ _ a]
  refine di o ⟨λl=>St w l (Sep [ay t z6.vs.toArray 50,ay s (I6.mix (k+1) (yJ b cls u) u).vs.toArray 50,ay r cls.vs.toArray 50,ay p S.arr 34,emp]),λl c _=>⟨6-(k+1),by omega,k+1,inc (by decide) a,by omega,rfl,c⟩,?_⟩;have c:=i.quiet (aZ.drew F []);have d:=br c 2 rfl a;refine⟨λx A=>x=decide (cls.at' k=0\/cls.at' k=b.cls)/\St w A (Sep [ay t z6.vs.toArray 50,ay s (I6.mix k (yJ b cls u) u).vs.toArray 50,ay r cls.vs.toArray 50,ay p S.arr 34,emp]),?_,by omega,by omega,_,by rw[iC];exact d,?_⟩
  .rintro A x ⟨rfl,z⟩-
   by_cases g:cls.at' k=0\/cls.at' k=b.cls
   .rw[ag g] at f;refine di g ⟨by omega,by omega,?_⟩;rw[iC];refine z.cL 1 rfl a rfl λj e=>?_;have:=I6.lE (yJ b cls u) u k a;rw[f] at this;rw[<-this];exact e
   rw[af g] at f;refine dz g ?_;have:I6.mix (k+1) (yJ b cls u) u=I6.mix k (yJ b cls u) u:=I6.ext' λj y=>by
    rw[I6.iy _ _ _ _ y,I6.iy _ _ _ _ y]
    by_cases e:j=k
    .subst e;rw[ag (by omega),af (by omega),f]
    by_cases q:j<k
    .rw[ag q,ag (by omega)]
    rw[af q,af (by omega)]
   rw[this];exact z
  by_cases g:cls.at' k=0
  .exact gM g ⟨by rw[dT (Or.inl g)],c⟩
  obtain⟨q,j,e⟩:=FL (h.aK c.aK).bd v 1 (iv b.cls) rfl;refine iI g ⟨by omega,by omega,_,by rw[iC];exact d,_,_,_,c.aj 3 rfl 1,av j ⟨by omega,by omega,b.cls,by rw[aq];exact e,?_,c⟩⟩
  by_cases g2:cls.at' k=b.cls
  .rw[dT (Or.inr g2)];simpa using g2
  rw[dF (by rintro(h|h);exact g h;exact g2 h)];simpa using g2
 obtain rfl:k=6:=by omega
 rw[I6.sM] at i;exact cF (by simp) ⟨_,i.cellsIn 1 rfl,i.aR 0 rfl _ rfl (I6.one _) λc a=>⟨_,a.cellsIn 0 rfl,rfl,a.aK⟩⟩
def pL(ps:List Pr)(n:Nat)(u:I6)(x:T3):Bool:=(decide (x.a=-1)||decide (x.a=(n:Int)))&&decide (UU ps x.b u>x.c)
def iO(S:Se)(n:Nat)(b:Br)(u:I6):Int:=
 if u.l.all lX then (if within u (dD S.ps)&&within (yJ b (qS S.ps S.sa).2 u) (qS S.ps S.sa).1&&!S.cp.any (pL S.ps n u) then 0 else 14) else 4
def O1{w:ah}{S:Se}(h:S.In w)(s:S.Ok){n:Nat}{b:Br}(K:S.bd[n]?=some b)(u:I6):
  CP 174 #[.agg S.arr,iv n,.agg u.vs.toArray] w (λr d=>r=iv (iO S n b u)/\aZ w d []):=by
 refine(p6 qH.1).1 ?_;have hn:=(ai.1 K).1;have O:=s.ps.l2;have N:=s.cp.l1;have M:=s.bd.l2;refine bE S.arr λC w1 Q=>Q.aY u.vs.toArray λD X G=>⟨λx I=>x=false/\I=X,?_,dz (by omega) ⟨_,_,_,G.aj 1 rfl 1,dF (by omega),rfl⟩⟩;rintro I x ⟨rfl,rfl⟩-;refine cF rfl ⟨u,G.cellsIn 0 rfl,G.qu (lI I u) λw4 v=>⟨_,rfl,?_⟩⟩
 cases hq:u.l.all lX with
 |false=>exact cT rfl ⟨by rw[iO,hq];rfl,v.aK⟩
 |true=>
 have P:=C9 hq;refine cF rfl (Ex8<|Ex4<|⟨v.cellsIn 1 rfl,bF (KW (h.aK v.aK) s) λw5 L=>⟨_,_,rfl,(v.quiet L).aY z6.vs.toArray λr3 w6 R=>R.aY z6.vs.toArray λr4 w7 T=>T.aR 1 rfl _ rfl (I6.one _) λw8 U=>U.aR 0 rfl _ rfl (I6.one _) λY V=>⟨λx r=>x = !(within u (dD S.ps)&&within (yJ b (qS S.ps S.sa).2 u) (qS S.ps S.sa).1)/\St w r (Sep [ay D u.vs.toArray 50,ay C S.arr 34,emp]),?_,?_⟩⟩⟩)
 .rintro r x ⟨rfl,e⟩-
  cases hw:(within u (dD S.ps)&&within (yJ b (qS S.ps S.sa).2 u) (qS S.ps S.sa).1) with
  |false=>exact cT rfl ⟨by rw[iO,ag hq,hw];rfl,e.aK⟩
  |true=>
   refine cF rfl ⟨_,_,_,e.aj 1 rfl 2,λi t m=>∃k:Nat,i=k/\k<=S.cp.length/\m=S.cp.length-k/\(S.cp.take k).any (pL S.ps n u)=false/\St w t (Sep [ay D u.vs.toArray 50,ay C S.arr 34,emp]),⟨S.cp.length,0,rfl,by omega,by omega,rfl,e⟩,?_⟩;rintro t m i ⟨k,rfl,Z,hm,z,j⟩-
   by_cases p:(k:Int)<(S.cp.length:Int)
   .obtain⟨x,B⟩:=dX S.cp k (by omega);obtain⟨q,A,o⟩:=(h.aK j.aK).cp k x B;refine di p (av A ⟨by omega,by omega,_,_,_,o,j.aY #[iv 0,iv 0,iv 0] λr5 W E=>E.aR 0 rfl x.cells rfl x.one λH F=>?_⟩);have d:=F.quiet (aZ.drew H []);refine⟨λy g=>y=pL S.ps n u x/\St w g (Sep [ay r5 x.cells.toArray 139,ay D u.vs.toArray 50,ay C S.arr 34,emp]),?_,?_⟩
    .rintro g y ⟨rfl,f⟩-
     cases hc:pL S.ps n u x with
     |true=>
      refine cT rfl ⟨?_,f.aK⟩;rw[iO,ag hq,hw,jQ B hc];rfl
     |false=>exact cF rfl (mS (by omega) ⟨jy z B hc,f.aM [1,2,3]⟩)
    refine⟨x.a,d.aj 0 rfl 0,?_⟩;have J:=XM (h.aK d.aK).ps h.h1 s.ps P x.b
    by_cases g1:x.a=-1
    .exact gM g1 ⟨_,_,_,d.aj 2 rfl 0,x.b,d.aj 0 rfl 1,u,d.cellsIn 1 rfl,x.c,d.aj 0 rfl 2,d.qu J λg f=>⟨_,rfl,f.aj 0 rfl 2,by rw[pL,dT g1,iY,aO],f⟩⟩
    exact iI g1 ⟨x.a,d.aj 0 rfl 0,cBq (λg2=>⟨_,_,_,d.aj 2 rfl 0,x.b,d.aj 0 rfl 1,u,d.cellsIn 1 rfl,x.c,d.aj 0 rfl 2,d.qu J λg f=>⟨_,rfl,f.aj 0 rfl 2,by rw[pL,dT g2,kX,aO],f⟩⟩) λg2=>⟨by rw[pL,dF g1,dF g2];rfl,d⟩⟩
   obtain rfl:S.cp.length=k:=by omega
   rw[aH] at z;exact dz p ⟨by rw[iO,ag hq,hw,z];rfl,j.aK⟩
 have e:=V.quiet (aZ.drew Y []);refine⟨_,e.cellsIn 2 rfl,_,_,_,e.aj 3 rfl 0,e.qu (tG (h.aK e.aK).ps (by omega)) λj f=>⟨_,rfl,f.cellsIn 2 rfl,f.qu (AZ _ u _) λk d=>⟨_,rfl,?_⟩⟩⟩
 cases hw:within u (dD S.ps) with
 |false=>exact cT rfl ⟨rfl,d.aM [2,3,4]⟩
 |true=>
  exact cF rfl (Ex8<|Ex4<|⟨d.cellsIn 3 rfl,_,d.cellsIn 0 rfl,_,d.cellsIn 2 rfl,_,d.cellsIn 1 rfl,d.qu (PX (h.aK d.aK) K _ _) λm g=>⟨_,rfl,g.cellsIn 1 rfl,bF (AZ _ _ _) λo i=>⟨_,rfl,by rw[aO],(g.quiet i).aM [2,3,4]⟩⟩⟩)
def xT{w:ah}{S:Se}(h:S.In w)(d:S.Ok){n:Nat}{b:Br}(i:S.bd[n]?=some b)(u:I6):
  CP 113 #[.agg S.arr,iv n,.agg u.vs.toArray] w (λr a=>r=iv (iO S n b u)/\aZ w a []):=by
 refine qH.1.2.2.1 (bE S.arr λl o k=>k.aY u.vs.toArray λm p c=>(Ex8<|Ex4<|⟨c.cellsIn 1 rfl,bg (xF (h.aK c.aK)) ?_⟩));rintro v q ⟨⟨e,rfl,j⟩,f⟩;obtain rfl:=j.2 d;have a:=c.quiet f;exact⟨_,rfl,cF rfl (Ex8<|Ex4<|⟨a.cellsIn 1 rfl,_,a.cellsIn 0 rfl,bF (O1 (h.aK a.aK) d i u) λr g=>⟨_,rfl,rfl,(a.quiet g).aK⟩⟩)⟩
section
variable {b:Nat} {C:Ck} {w0 w:ah} {B:bP}
def C8{p:I6}(h:rG p=true):I6.Le p 1000000:=vh.1 h
def FQ(a:C.Ok){n:Nat}:∀c∈p9 C n,c.Ok:=λc d=>by
 obtain⟨x,b,rfl⟩:=aN.1 d;exact⟨C8 (a.cp x b),CV (a.ca x b) (by omega) n⟩
def mb(C:Ck)(n:Nat)(y:Br)(u:I6):Int:=
 if C.ov||C.dp.getD n false then 10 else if iO C.s n y u≠0 then iO C.s n y u else if yB y ⟨C.p,u⟩≠0 then yB y ⟨C.p,u⟩ else Cm C.o.rule C.s y (p9 C n) ⟨C.p,u⟩
def uJ(C:Ck)(n:Nat)(u:I6):Ck:={C with ask:=C.ask.set n u,bd:=C.bd.set n true}
def Zl(s:St w0 w (Sep (rS b C++[B])))(f:C.Ok){n:Nat}{y:Br}(K:C.s.bd[n]?=some y)(u:I6):
  CP 126 #[.pointer (qs b),iv n,.agg u.vs.toArray] w (λr c=>r=iv (mb C n y u)/\(if mb C n y u=0 then St w0 c (Sep (rS b (uJ C n u)++[B])) else St w0 c (Sep (rS b C++[B])))):=by
 refine(p6 uR.1).2.2.2.2.2.1 ?_;have hn:=(ai.1 K).1;have z:=f.s.bd.l2;have z1:=f.dp;have z2:=f.ask;have z3:=f.bd;have z4:=f.cl;have d:∀{e:Int} {c:ah},e≠0->mb C n y u=e->St w0 c (Sep (rS b C++[B]))->(iv e=iv (mb C n y u)/\(if mb C n y u=0 then St w0 c (Sep (rS b (uJ C n u)++[B])) else St w0 c (Sep (rS b C++[B])))):=λhe hb J=>by
  rw[hb,af he];exact⟨rfl,J⟩
 refine s.aY u.vs.toArray λr1 w1 D=>⟨_,D.aj 1 rfl 18,?_⟩
 cases hov:C.ov with
 |true=>exact cT rfl (d (by decide) (by rw[mb,hov];rfl) D.second)
 |false=>
 have A:∀{c:ah} {L:List bP},St w0 c (Sep (L++(rS b C++[B])))->C.Rd b c:=λs=>((s.split _).second.split (rS b C)).first.imp BV;have l:=A (L:=[_]) D;refine cF rfl (bg (LX l n) ?_);rintro v w2 ⟨rfl,rfl⟩;refine⟨_,rfl,cF (by simp;omega) ?_⟩;obtain⟨x,Y⟩:=dX C.dp n (by omega);have t:C.dp.getD n false=x:=by rw[au,Y];rfl
 obtain⟨q,hq,P⟩:=l.dp.at Y;refine⟨_,_,_,l.cell 17 rfl,av hq ⟨by omega,by omega,x,P.1,?_⟩⟩
 cases x with
 |true=>exact cT rfl (d (by decide) (by rw[mb,t];simp) D.second)
 |false=>
 have g:mb C n y u=if iO C.s n y u≠0 then iO C.s n y u else if yB y ⟨C.p,u⟩≠0 then yB y ⟨C.p,u⟩ else Cm C.o.rule C.s y (p9 C n) ⟨C.p,u⟩:=by rw[mb,hov,t];rfl
 have T:=D.quiet (aZ.drew w2 []);refine cF rfl ⟨C.p,T.bA 1 9 rfl rfl,u,T.cellsIn 0 rfl,T.aY tI.cells.toArray λr2 w3 U=>⟨U.cellsIn 1 rfl,U.bA 2 9 rfl rfl,U.aR 0 rfl (Ch.mk C.p u).cells rfl (Ch.one _) λw4 s4=>?_⟩⟩;have M:=s4.quiet (aZ.drew w4 []);have k:∀{c:ah} {L:List bP} {i:Nat},St w0 c (Sep L)->L[i]?=some (held C.In)->C.In c:=λs e=>s.eu _ e;have i5:=(k M (i:=7) rfl).s;refine Ex8<|Ex4<|⟨M.bA 2 0 rfl rfl,u,M.cellsIn 1 rfl,bF (xT i5 f.s K u) λw5 c5=>?_⟩;have Z:=(M.quiet c5);refine⟨_,rfl,?_⟩
 by_cases j:iO C.s n y u=0
 .rw[af (by simpa using j)] at g;have hu:I6.Le u 4:=by
   unfold iO at j
   split at j
   .rename_i h;exact C9 h
   cases j
  have J:(Ch.mk C.p u).Ok:=⟨C8 f.p,hu⟩;have G:=Z.quiet (aZ.drew w5 []);have i7:Ll w5.drew C.s:=⟨(k G (i:=7) rfl).s,f.s⟩;have a7:=G.bA (vs:=C.s.arr.toList) 2 0 rfl rfl;have b7:=G.cellsIn 0 rfl;refine cF (by rw[j];rfl) (Ex8<|Ex4<|⟨a7,C.p,u,b7,?_⟩);have h7:=Ro i7 K J;refine bF h7 λw6 W=>?_;have H:=(G.quiet W).quiet (aZ.drew w6 []);refine⟨_,rfl,?_⟩
  by_cases m:yB y ⟨C.p,u⟩=0
  .rw[af (by simpa using m)] at g;have Q:=A (L:=[_,_]) H;refine cF (by rw[m];rfl) (Ex8<|Ex4<|⟨H.bA 2 0 rfl rfl,_,H.aj 2 rfl 7,C.p,u,H.cellsIn 0 rfl,bg (Bb Q f hn) ?_⟩);rintro v w7 ⟨a',c',rfl,k7⟩;have h:St w0 w7 (Sep (_::_)):=H.and k7;have r:(p9 C n).length<=c':=(St.nj h).1;have X:(p9 C n).length=C.cl.length:=by simp[p9]
   have i9:Ll w7 C.s:=⟨(k h (i:=8) rfl).s,f.s⟩;refine⟨_,_,_,rfl,h.cellsIn 1 rfl,h.aj 3 rfl 7,h.bA 3 0 rfl rfl,bF (Rk i9 K (St.rd Ch.len h) r (by omega) (FQ f) J C.o.rule) λw8 c8=>?_⟩;have E:=(h.quiet c8);refine⟨_,rfl,?_⟩
   by_cases I:Cm C.o.rule C.s y (p9 C n) ⟨C.p,u⟩=0
   .have a:=E.quiet (aZ.drew w8 []);obtain⟨g1,N⟩:=(a.out 4 rfl).kN (by omega);obtain⟨g2,O⟩:=(a.out 5 rfl).kN (by omega);refine cF (by rw[I];rfl) ⟨_,_,_,a.aj 3 rfl 15,_,_,_,a.aj 3 rfl 16,u,a.cellsIn 2 rfl,av N ⟨by omega,by omega,?_⟩⟩;rw[aq];have t1:=a.out 4 rfl;rw[N] at t1;refine St.wh fU (x:=u) u.one t1 (i:=n) (by omega) λw9 R=>av O ⟨by omega,by omega,?_⟩;have t2:=(R.back (show 4<10 by decide)).out 5 rfl;rw[O] at t2;refine St.kP (v:=.bool) (x:=true) rfl t2 (i:=n) (by omega) λV S=>?_;have F:=S.back (show 5<10 by decide);rw[<-N,<-O] at F;have eb:mb C n y u=0:=by rw[g,I]
    rw[eb];refine⟨rfl,?_⟩;rw[ag rfl];have eC:(uJ C n u).cells=C.cells:=by simp[uJ,Ck.cells]
    show St w0 V (Sep [ay b (uJ C n u).cells.toArray 116,_,_,_,_,_,B]);rw[eC];exact F.aM [3,4,5,6,7,8,9]
   exact gM I (d I g (E.aM [3,4,5,6,7,8,9]))
  rw[ag (by simpa using m)] at g;exact gM m (d m g ((G.quiet W).aM [2,3,4,5,6,7,8]))
 rw[ag (by simpa using j)] at g;exact gM j (d j g (Z.aM [2,3,4,5,6,7,8]))
end
structure Bd where
 x:Xv
 has:Bool
 out:Bool
def Bd.cells(b:Bd):List Value:=b.x.cells++[.bool b.has,.bool b.out]
def Bd.len(b:Bd):b.cells.length=11:=rfl
def gR:Bd:=⟨gj,false,false⟩
structure Sx where
 o:Po
 ph:Int
 s:Se
 k:Option Addr
 bd:List Bd
 dec:Int
 cnt:Int
 dig:Int
def Sx.cells(S:Sx):List Value:=S.o.cells++(iv S.ph::(S.s.arr.toList++(.pointer S.k::(S.bd.flatMap Bd.cells++[.int .u64 S.dec,iv S.cnt,.int .u64 S.dig]))))
def Sx.len{S:Sx}(h:S.bd.length=8):S.cells.length=101:=by
 unfold Sx.cells;simp only[aA,bN,aT,jB Bd.len,h];rfl
def iU{l:List Bd}(h:l.length=8):∃a b c d e f g i,l=[a,b,c,d,e,f,g,i]:=by
 match l,h with
 |[a,b,c,d,e,f,g,i],_=>exact⟨a,b,c,d,e,f,g,i,rfl⟩
def OI{S:Sx}(h:S.bd.length=8){i:Nat}(hi:i<8){y:Bd}(c:S.bd[i]?=some y)(x:Xv):
  S.cells.take (10+i*11)++x.cells++S.cells.drop (10+i*11+9)=({S with bd:=S.bd.set i {y with x:=x} }:Sx).cells:=by
 obtain⟨o,p,s,k,bd,dec,a,b⟩:=S;obtain⟨d,e,f,g,j,l,m,n,rfl⟩:=iU h
 match i,hi with
 |0,_|1,_|2,_|3,_|4,_|5,_|6,_|7,_=>cases c;rfl
def OH{S:Sx}(h:S.bd.length=8){i:Nat}(hi:i<8){y:Bd}(c:S.bd[i]?=some y)(v:Bool):
  S.cells.toArray.setIfInBounds (10+i*11+9) (.bool v)=({S with bd:=S.bd.set i {y with has:=v} }:Sx).cells.toArray:=by
 obtain⟨o,p,s,k,bd,dec,a,b⟩:=S;obtain⟨d,e,f,g,j,l,m,n,rfl⟩:=iU h
 match i,hi with
 |0,_|1,_|2,_|3,_|4,_|5,_|6,_|7,_=>cases c;rfl
def XH{S:Sx}(h:S.bd.length=8){i:Nat}(hi:i<8){y:Bd}(c:S.bd[i]?=some y)(v:Bool):
  S.cells.toArray.setIfInBounds (10+i*11+10) (.bool v)=({S with bd:=S.bd.set i {y with out:=v} }:Sx).cells.toArray:=by
 obtain⟨o,p,s,k,bd,dec,a,b⟩:=S;obtain⟨d,e,f,g,j,l,m,n,rfl⟩:=iU h
 match i,hi with
 |0,_|1,_|2,_|3,_|4,_|5,_|6,_|7,_=>cases c;rfl
def XV(b i:Nat):Addr.add ⟨b,10,none⟩ (((i:Nat):Int).toNat*11)=⟨b,10+i*11,none⟩:=by rw[gW,aq]
def FR(y:Bd):Bd:={y with x:=gj,has:=false}
def gP(S:Sx)(i:Nat):Sx:={S with bd:=S.bd.set i (FR (S.bd.getD i gR))}
def It{w0 w:ah}{b:Nat}{S:Sx}{m:List bP}(s:St w0 w (Sep (ay b S.cells.toArray 78::m)))(h:S.bd.length=8){i:Nat}(hi:i<8):
  CP 130 #[.pointer (qs b),iv i] w (λr a=>r=.tuple #[]/\St w0 a (Sep (ay b (gP S i).cells.toArray 78::m))):=by
 refine(p6 (p6 oC.1)).2.2.2.2.1 ?_;have f:S.bd[i]?=some (S.bd[i]'(by omega)):=gE (by omega);have hd:S.bd.getD i gR=S.bd[i]'(by omega):=by rw[au,f];rfl
 generalize S.bd[i]'(by omega)=y at f hd;have n:=s.quiet (aZ.drew w []);have d:S.cells.toArray.size=101:=by simpa using Sx.len h
 refine⟨by omega,by omega,?_⟩;rw[XV];refine n.mA 0 (10+i*11) rfl (vs:=gj.cells) ({S with bd:=S.bd.set i {y with x:=gj} }:Sx).cells.toArray (by rw[d,Xv.len];omega) (Xv.one _) (by rw[Xv.len];exact congrArg List.toArray (OI h hi f gj)) λq o=>⟨by omega,by omega,?_⟩;rw[gW];let a:Sx:={S with bd:=S.bd.set i {y with x:=gj} };have k:a.bd.length=8:=by simpa[a] using h
 have g:a.bd[i]?=some {y with x:=gj}:=by
  rw[cN (by omega)]
 have c:a.cells.toArray.size=101:=by simpa using Sx.len k
 refine o.cL 0 rfl (j:=10+i*11+9) (by show _<a.cells.toArray.size;rw[c];omega) rfl λr p=>⟨rfl,?_⟩;have e:=OH k hi g false;have l:({a with bd:=a.bd.set i {({y with x:=gj}:Bd) with has:=false} }:Sx)=gP S i:=by
  unfold gP;rw[hd];rw[kZ];rfl
 rw[l] at e;rw[<-e];exact p
def slB:ru prog 195 5 (.int .u8 0) 1 1:=ru.mk' underlying195 (by kernel_rfl) rfl (by decide)
def IG(n:Nat):IntKind.u8.wrap (n:Int)=((UInt8.ofNat (n%256)).toNat:Int):=by
 rw[IntKind.wrap_u8,ofNat_toNat];omega
def o6(a:Nat)(l:List UInt8):Nat:=JF (F0 8 a++F0 8 l.length++l)
def SL(l:List UInt8):JF l<18446744073709551616:=by
 unfold JF;have h:∀(l:List UInt8) (h:Nat),h<18446744073709551616->l.foldl pQ h<18446744073709551616:=by
  intro l
  induction l with
  |nil=>exact λh a=>a
  |cons b l c=>exact λh _=>c _ (wW h b)
 exact h l _ (by decide)
def UQ{n:Nat}(a:n<=9223372036854775807):IntKind.u64.wrap (n:Int)=(n:Int):=IntWalk.u64_in _ (by omega)
def X9(w:ah)(x k:Nat)(h:k<=8):CP 72 #[.int .u64 (x:Int),iv k] w (λr m=>r=sv (F0 k x)/\aZ w m []):=by
 refine(p6 qH.2).2.2.1 (S5 slB rfl x k h (A:=λb i c a=>kg prog (convert 195 9 (.slice b i c)) a λd n=>∃(j:ByteArray),d=(.string j)/\_) ?_);intro a g e f _;have own:=BB f (by rw[fM];omega);rw[fM] at own;exact Dh (l:=F0 k x) underlying195 underlying5 underlying9 (by rw[fM];exact own) ⟨_,rfl,rfl,e⟩
def Zf(w:ah)(l:List UInt8)(f:l.length<=9223372036854775807):CP 71 #[sv l] w (λr g=>r=.int .u64 (JF l:Nat)/\g=w):=by
 refine(p6 qH.2).2.1 ?_;refine⟨λc d e m=>∃i:Nat,d=(i:Int)/\i<=l.length/\m=l.length-i/\e=w/\c=(((l.take i).foldl pQ 14695981039346656037:Nat):Int)/\(l.take i).foldl pQ 14695981039346656037<18446744073709551616,⟨l.length,0,rfl,by omega,by omega,rfl,by rw[ji,fK];rfl,by rw[ji,fK];omega⟩,?_⟩
 rintro e m c d ⟨i,rfl,h,rfl,rfl,rfl,b⟩-;rw[jC]
 by_cases a:i<l.length
 .refine di (by omega) ⟨by omega,?_⟩;rw[aq,lJ,gE a];refine⟨l.length-(i+1),by omega,i+1,inc f a,by omega,rfl,rfl,?_,?_⟩
  .rw[BY _ b,eB (by omega),cG,bD,fK]
  rw[eB (by omega),cG,bD,fK];exact wW _ _
 refine dz (by omega) ⟨?_,rfl⟩;rw[bB (by omega)];rfl
def VI(w:ah)(x:Nat)(l:List UInt8)(g:l.length<=4611686018427387904):CP 26 #[.int .u64 (x:Int),sv l] w (λr d=>r=.int .u64 (o6 x l:Nat)/\aZ w d []):=by
 refine qH.2.2.2.2.1 ?_;have a:IntKind.i64.max=9223372036854775807:=rfl;refine bF (X9 w x 8 (by decide)) λe b=>⟨_,rfl,?_⟩;rw[jC,UQ (by omega)];refine bF (X9 e _ 8 (by decide)) λf c=>⟨_,rfl,by rw[jC,jC,fM,fM,a];omega,?_⟩;rw[mc,mc,jC,aA,fM,fM];exact⟨by rw[a];omega,kR (Zf f _ (by simp only[aA,fM];omega)) ⟨_,rfl,rfl,b.trans c (by simp)⟩⟩
def sC:Nat->Nat->List UInt8
 |0,x=>[UInt8.ofNat (x%256)]
 |k+1,x=>if x<128 then [UInt8.ofNat (x%256)] else UInt8.ofNat (x%128+128)::sC k (x / 128)
def xQ(x:Nat):List UInt8:=sC 9 x
theorem BO:∀(k x:Nat),(sC k x).length<=k+1
 |0,_=>aD _
 |k+1,x=>by
  have:=BO k (x / 128);unfold sC
  split<;>simp<;>omega
def qT(x:Nat):(xQ x).length<=10:=BO 9 x
def xO(l:List UInt8):List UInt8:=xQ l.length++l
def abW:∀a:Fin 256,orI .u8 ((a.val:Nat):Int) 128=((UInt8.ofNat (a.val%128+128)).toNat:Int):=by decide +kernel
def WS(x:Nat):orI .u8 (IntKind.u8.wrap (x:Int)) 128=((UInt8.ofNat (x%128+128)).toNat:Int):=by
 have h:=abW ⟨x%256,jE _ (by decide)⟩;simp only at h;rw[IntKind.wrap_u8,show(x:Int)%256=((x%256:Nat):Int) by omega,h,Nat.mod_mod_of_dvd _ (by decide)]
def Jf{n:Int}{b:UInt8}(h:n=(b.toNat:Int)):(Value.int .u8 n)=qg b:=by rw[h];rfl
def UT(w:ah)(x:Nat)(v:x<18446744073709551616):CP 119 #[.int .u64 (x:Int)] w (λr t=>r=sv (xQ x)/\aZ w t []):=by
 refine(p6 qH.2).2.2.2.2.1 ?_;refine⟨λn a l c p m=>∃(y:Nat) (b:List UInt8),n=(y:Int)/\y<128 ^ (m+1)/\m<=9/\b.length+m=9/\l=b.length/\b++sC m y=xQ x/\St w p (star (vN 5 1 (.slice a l c) b.length (b.map qg)) emp),⟨9,x,[],rfl,by omega,by omega,rfl,rfl,rfl,(((St.start w).Tj 5 1).swap)⟩,?_⟩
 rintro p m n a l c ⟨y,b,rfl,o,u,k,rfl,j,e⟩-
 by_cases i:128<=y
 .refine di (by omega) ?_;obtain⟨d,rfl⟩:∃d,m=d+1:=by
   cases m with
   |zero=>simp at o;omega
   |succ d=>exact⟨d,rfl⟩
  refine GR slB e (news:=[qg (UInt8.ofNat (y%128+128))]) rfl (by simp[qg,Value.oneCell']) (by omega) (by omega) (λg h q f=>⟨by decide,d,by omega,y / 128,b++[UInt8.ofNat (y%128+128)],?_,?_,by omega,by simp;omega,by simp,?_,by simpa using f⟩) (by rw[Jf (WS y)])
  .rw[show(2:Int) ^ (min (7:Int).toNat IntKind.u64.bits)=128 from rfl,Int.fdiv_eq_ediv_of_nonneg _ (by omega)];omega
  .rw[jN] at o;omega
  rw[<-j]
  conv=>rhs;unfold sC
  rw[af (by omega)]
  simp
 refine dz (by omega) ?_;have s:sC m y=[UInt8.ofNat (y%256)]:=by
  cases m with
  |zero=>rfl
  |succ d=>unfold sC;rw[ag (by omega)]
 refine GR slB e (news:=[qg (UInt8.ofNat (y%256))]) rfl (by simp[qg,Value.oneCell']) (by omega) (by omega) (λg h q f=>?_) (by rw[Jf (IG y)]);have d:St w q (star (vN 5 1 (.slice g (b.length+1) h) (xQ x).length ((xQ x).map qg)) emp):=by
  rw[<-j,s];simpa using f
 exact UN underlying195 underlying5 underlying9 d ⟨_,rfl,rfl,d.aK⟩
def AW(w:ah)(n:Int)(h:0<=n/\n<=9223372036854775807):CP 119 #[.int .u64 (IntKind.u64.wrap n)] w (λr a=>r=sv (xQ n.toNat)/\aZ w a []):=by
 have e:IntKind.u64.wrap n=((n.toNat:Nat):Int):=by rw[IntWalk.u64_in _ (by omega)];omega
 rw[e];exact UT w _ (by omega)
def aaF(w:ah)(l:List UInt8)(d:l.length<=4611686018427387904):CP 120 #[sv l] w (λr c=>r=sv (xO l)/\aZ w c []):=by
 refine(p6 qH.2).2.2.2.2.2.1 ?_;have b:IntKind.i64.max=9223372036854775807:=rfl;rw[jC];refine bF (AW w _ (by omega)) λe a=>?_;have:=qT l.length;refine⟨_,rfl,?_,?_,a⟩
 .rw[jC,b,aq];omega
 rw[mc];rfl
structure Ev where
 kind:Int
 bidder:Int
 round:Int
 want:I6
 text:List UInt8
 digest:Int
def Ev.cells(e:Ev):List Value:=iv e.kind::(iv e.bidder::(iv e.round::(e.want.on [sv e.text,.int .u64 e.digest])))
def Ev.v(e:Ev):Value:=.agg e.cells.toArray
structure Ev.In (e:Ev):Prop where
 d:0<=e.digest/\e.digest<18446744073709551616
def Ev.one(e:Ev):∀v∈e.cells,v.oneCell'=true:=by
 intro v a;simp only[Ev.cells,I6.on,aP,dR,iS] at a;rcases a with rfl|rfl|rfl|rfl|rfl|rfl|rfl|rfl|rfl|rfl|rfl<;>rfl
def zj(k:Int):Int:=if k=1 then 4 else if k=2 then 3 else if k=5 then 5 else if k=6\/k=7 then 1 else if k=8 then 8 else if k=10 then 16 else 0
def JA(w:ah)(n:Int):CP 118 #[iv n] w (λr i=>r=iv (zj n)/\i=w):=by
 refine(p6 qH.2).2.2.2.1 ?_
 by_cases d:n=1
 .exact gM d ⟨by simp[zj,d],rfl⟩
 refine iI d ?_
 by_cases e:n=2
 .exact gM e ⟨by simp[zj,e],rfl⟩
 refine iI e ?_
 by_cases f:n=5
 .exact gM f ⟨by simp[zj,f],rfl⟩
 refine iI f ⟨λb h=>h=w/\b=decide (n=6\/n=7),?_,?_⟩
 .rintro h b ⟨rfl,rfl⟩-
  by_cases a:n=6\/n=7
  .exact gM a ⟨by simp[zj,d,e,f,a],rfl⟩
  refine dz a ?_
  by_cases g:n=8
  .exact gM g ⟨by simp[zj,g],rfl⟩
  exact iI g (cBq (λc=>⟨by simp[zj,c],rfl⟩) λc=>⟨by simp[zj,d,e,f,a,g,c],rfl⟩)
 refine cBq (λa=>⟨rfl,by simp[a]⟩) λa=>⟨rfl,?_⟩
 by_cases c:n=7
 .simp[c]
 simp[a,c]
def fB(k:Int):Bool:=decide (k=2\/k=5\/k=6\/k=7)
def fW(k:Int):Bool:=decide (k=2)
def fT(k:Int):Bool:=decide (k=1\/k=5)
def fR(k:Int):Bool:=decide (k=8)
def fD(k:Int):Bool:=decide (k=10)
def JD(k:Int):(O2 .i64 (zj k) 1 !=0)=fB k/\(O2 .i64 (zj k) 2 !=0)=fW k/\(O2 .i64 (zj k) 4 !=0)=fT k/\(O2 .i64 (zj k) 8 !=0)=fR k/\(O2 .i64 (zj k) 16 !=0)=fD k:=by
 by_cases b:k=1
 .subst b;decide +kernel
 by_cases c:k=2
 .subst c;decide +kernel
 by_cases d:k=5
 .subst d;decide +kernel
 by_cases f:k=6
 .subst f;decide +kernel
 by_cases g:k=7
 .subst g;decide +kernel
 by_cases h:k=8
 .subst h;decide +kernel
 by_cases a:k=10
 .subst a;decide +kernel
 have e:zj k=0:=by simp[zj,b,c,d,f,g,h,a]
 rw[e];simp only[fB,fW,fT,fR,fD,b,c,d,f,g,h,a,or_self,decide_false]
 decide +kernel
def iF(e:Ev):Ev:=⟨e.kind,if fB e.kind then e.bidder else 0,if fR e.kind then e.round else 0,if fW e.kind then e.want else z6,if fT e.kind then e.text else [],if fD e.kind then e.digest else 0⟩
def YD(w:ah)(e:Ev):CP 56 #[e.v] w (λr i=>r=(iF e).v/\aZ w i []):=by
 refine qH.2.2.2.2.2.2.1 ?_;let z:Ev:=⟨0,0,0,z6,[],0⟩;refine bE e.cells.toArray λA E C=>C.aY z.cells.toArray λB s n=>⟨_,n.aj 1 rfl 0,bg (JA s e.kind) ?_⟩;rintro v H ⟨rfl,rfl⟩;refine⟨_,rfl,_,n.aj 1 rfl 0,n.aY z.cells.toArray λq I D=>D.aR 0 rfl ({z with kind:=e.kind}:Ev).cells rfl (Ev.one _) λJ o=>?_⟩;obtain⟨g1,g2,t,u,y⟩:=JD e.kind;rw[g1,g2,t,u,y];let P:Ev->ah->Prop:=λx i=>St w i (Sep [ay q x.cells.toArray 52,ay B z.cells.toArray 52,ay A e.cells.toArray 52,emp]);let a:Ev:={z with kind:=e.kind,bidder:=if fB e.kind then e.bidder else 0};let b:Ev:={a with want:=if fW e.kind then e.want else z6};let c:Ev:={b with text:=if fT e.kind then e.text else []};let f:Ev:={c with round:=if fR e.kind then e.round else 0};refine⟨P a,?_,?_⟩
 rotate_left
 .cases h:fB e.kind with
  |true=>
   refine cT rfl ⟨_,o.aj 2 rfl 1,o.cL 0 rfl (by show 1<11;decide) rfl λl d=>?_⟩;have:a={z with kind:=e.kind,bidder:=e.bidder}:=by simp[a,h]
   rw[this];exact d
  |false=>
   refine cF rfl ?_;have:a={z with kind:=e.kind}:=by simp[a,h,z]
   rw[this];exact o
 rintro l d -;refine⟨P b,?_,?_⟩
 rotate_left
 .cases h:fW e.kind with
  |true=>
   refine cT rfl ⟨e.want,?_,?_⟩
   .exact fm _ 0 λj v g=>by
     have k:=(ai.1 g).1;have m:=k;rw[gW,az,d.aj 2 rfl]
     match j,m,g with
     |0,_,g|1,_,g|2,_,g|3,_,g|4,_,g|5,_,g=>simpa[Ev.cells,I6.on,I6.vs] using g
   have j:∀{i:ah} {R:ah->Prop} {x:Ev},P x i->(∀g,P {x with want:=e.want} g->R g)->yY ⟨q,3,none⟩ 0 e.want.vs i R:=λ{i R x} p k=>by
    refine St.cL p 0 rfl (by show 3<11;decide) rfl λE t1=>t1.cL 0 rfl (by show 4<11;decide) rfl λs t2=>t2.cL 0 rfl (by show 5<11;decide) rfl λH t3=>t3.cL 0 rfl (by show 6<11;decide) rfl λI t4=>t4.cL 0 rfl (by show 7<11;decide) rfl λJ t5=>t5.cL 0 rfl (by show 8<11;decide) rfl λl t6=>k l t6
   refine j d λK m=>?_;have:b={a with want:=e.want}:=by simp[b,h]
   rw[this];exact m
  |false=>
   refine cF rfl ?_;have:b=a:=by simp[b,h,a,z]
   rw[this];exact d
 rintro K m -;refine⟨P c,?_,?_⟩
 rotate_left
 .cases h:fT e.kind with
  |true=>
   refine cT rfl ⟨_,St.aj m 2 rfl 9,St.cL m 0 rfl (by show 9<11;decide) rfl λl d=>?_⟩;have:c={b with text:=e.text}:=by simp[c,h]
   rw[this];exact d
  |false=>
   refine cF rfl ?_;have:c=b:=by simp[c,h,b,a,z]
   rw[this];exact m
 rintro L k -;refine⟨P f,?_,?_⟩
 rotate_left
 .cases h:fR e.kind with
  |true=>
   refine cT rfl ⟨_,St.aj k 2 rfl 2,St.cL k 0 rfl (by show 2<11;decide) rfl λl d=>?_⟩;have:f={c with round:=e.round}:=by simp[f,h]
   rw[this];exact d
  |false=>
   refine cF rfl ?_;have:f=c:=by simp[f,h,c,b,a,z]
   rw[this];exact k
 rintro M p -;refine⟨P (iF e),?_,?_⟩
 rotate_left
 .cases h:fD e.kind with
  |true=>
   refine cT rfl ⟨_,St.aj p 2 rfl 10,St.cL p 0 rfl (by show 10<11;decide) rfl λl d=>?_⟩;have:iF e={f with digest:=e.digest}:=by simp[iF,h,f,c,b,a]
   rw[this];exact d
  |false=>
   refine cF rfl ?_;have:iF e=f:=by simp[iF,h,f,c,b,a,z]
   rw[this];exact p
 rintro F g -;exact⟨_,_,_,(iF e).want,_,_,St.cellsIn g 0 rfl,St.aR g 1 rfl (iF e).cells rfl (Ev.one _) λG j=>⟨_,_,_,(iF e).want,_,_,j.cellsIn 1 rfl,rfl,j.aK⟩⟩
def names:List (List UInt8):=[[],[115,97,108,101],[100,101,109,97,110,100],[114,111,117,110,100],[115,116,111,112],[98,105,100],[119,105,116,104,100,114,97,119],[100,105,115,113,117,97,108,105,102,121],[114,101,114,117,110],[99,108,111,115,101],[100,101,99,105,100,101]]
def Ea(k:Int):List UInt8:=if 1<=k/\k<=10 then names.getD k.toNat [] else []
def Bw(k:Int):Ea k=[]<->¬ (1<=k/\k<=10):=by
 unfold Ea
 by_cases h:1<=k/\k<=10
 .rw[ag h];refine⟨λe=>?_,λe=>absurd h e⟩;obtain⟨j,rfl⟩:∃j:Nat,k=j:=⟨k.toNat,by omega⟩;rw[aq] at e;have:1<=j/\j<=10:=by omega
  match j,this with
  |1,_|2,_|3,_|4,_|5,_|6,_|7,_|8,_|9,_|10,_=>simp[names] at e
 rw[af h];simp[h]
def Zx(w:ah)(k:Int):CP 55 #[iv k] w (λr i=>r=sv (Ea k)/\aZ w i []):=by
 refine qH.2.2.2.2.2.1 (bE (List.replicate 11 (sv [])).toArray λm n g=>g.aR 0 rfl (names.map sv) rfl (by intro v f;obtain⟨x,_,rfl⟩:=aN.1 f;rfl) λl a=>⟨λb d=>d=l/\b=decide (¬ (1<=k/\k<=10)),?_,?_⟩)
 .rintro d b ⟨rfl,rfl⟩-
  by_cases h:1<=k/\k<=10
  .have c:k.toNat<11:=by omega
   have e:Ea k=names.getD k.toNat []:=by simp[Ea,h]
   refine cF (by simp;omega) ⟨by omega,by omega,bs (Ea k),?_,rfl,a.aK⟩;rw[gW,az,eZ,a.aj 0 rfl,e];generalize k.toNat=j at c
   match j,c with
   |0,_|1,_|2,_|3,_|4,_|5,_|6,_|7,_|8,_|9,_|10,_=>rfl
  exact di h ⟨by rw[(Bw k).2 h],a.aK⟩
 exact cBq (λh=>⟨rfl,by simp;omega⟩) λh=>⟨rfl,nI.2 (by omega)⟩
def nB(n:Int):List UInt8:=xQ n.toNat
def gq(e:Ev):List UInt8:=
 nB e.kind++(if fB e.kind then nB e.bidder else [])++(if fR e.kind then nB e.round else [])++(if fW e.kind then e.want.l.flatMap nB else [])++(if fT e.kind then xO e.text else [])++(if fD e.kind then nB e.digest else [])
structure Ev.Rng (e:Ev):Prop where
 k:0<=e.kind/\e.kind<=10
 b:0<=e.bidder/\e.bidder<8
 r:0<=e.round/\e.round<30
 w:I6.Le e.want 4
 t:e.text.length<=4000
 d:0<=e.digest/\e.digest<18446744073709551616
def vH(n:Int):(nB n).length<=10:=qT _
def Hx(l:List Int):(l.flatMap nB).length<=10*l.length:=by
 induction l with
 |nil=>simp
 |cons x l a=>have:=vH x;simp only[bQ,aA,bN];omega
def Np(w:ah){e:Ev}(h:e.Rng):CP 58 #[e.v] w (λr i=>r=sv (gq e)/\aZ w i []):=by
 refine(p6 qH.2).1 ?_;have R:=h.k;have Q:=h.b;have S:=h.r;have T:=h.t;have hd:=h.d;have g:IntKind.i64.max=9223372036854775807:=rfl;refine bE e.cells.toArray λB M y=>⟨_,y.aj 0 rfl 0,bg (JA M e.kind) ?_⟩;rintro v N ⟨rfl,rfl⟩;refine⟨_,rfl,_,y.aj 0 rfl 0,bF (AW N e.kind (by omega)) λO D=>?_⟩;obtain⟨g1,g2,E,F,G⟩:=JD e.kind;rw[g1,g2,E,F,G];have p:=y.quiet D;have K:=vH e.kind;let J:Nat->List UInt8->ByteArray->ah->Prop:=λn l s i=>s=bs l/\l.length<=n/\St w i (Sep [ay B e.cells.toArray 52,emp]);refine⟨_,rfl,J 20 (nB e.kind++(if fB e.kind then nB e.bidder else [])),?_,?_⟩
 rotate_left
 .cases hf:fB e.kind with
  |true=>
   refine cT rfl ⟨_,p.aj 0 rfl 1,bF (AW O e.bidder (by omega)) λC a=>?_⟩;have:=vH e.bidder;exact⟨_,rfl,by rw[jC,jC,g];unfold nB at *;omega,mc _ _,by simp only[aA,kD];omega,p.quiet a⟩
  |false=>exact cF rfl ⟨by simp;rfl,by simp;omega,p⟩
 rintro C s ⟨rfl,f,u⟩-;refine⟨J 30 (nB e.kind++(if fB e.kind then nB e.bidder else [])++(if fR e.kind then nB e.round else [])),?_,?_⟩
 rotate_left
 .generalize nB e.kind++(if fB e.kind then nB e.bidder else [])=l at *
  cases hf:fR e.kind with
  |true=>
   refine cT rfl ⟨_,u.aj 0 rfl 2,bF (AW C e.round (by omega)) λP a=>?_⟩;have:=vH e.round;exact⟨_,rfl,by rw[jC,jC,g];unfold nB at *;omega,mc _ _,by simp only[aA,kD];omega,u.quiet a⟩
  |false=>exact cF rfl ⟨by simp,by simp;omega,u⟩
 clear f u K p;rintro P s ⟨rfl,f,x⟩-;refine⟨J 90 (nB e.kind++(if fB e.kind then nB e.bidder else [])++(if fR e.kind then nB e.round else [])++(if fW e.kind then e.want.l.flatMap nB else [])),?_,?_⟩
 rotate_left
 .generalize nB e.kind++(if fB e.kind then nB e.bidder else [])++(if fR e.kind then nB e.round else [])=l at *
  cases hf:fW e.kind with
  |true=>
   refine cT rfl ⟨e.want,?_,λs n o m=>∃k:Nat,n=k/\k<=6/\m=6-k/\s=bs (l++(e.want.l.take k).flatMap nB)/\St w o (Sep [ay B e.cells.toArray 52,emp]),⟨6,0,rfl,by omega,by omega,by simp,x⟩,?_⟩
   .exact fm _ 0 λj v a=>by
     have c:=(ai.1 a).1;rw[gW,az,x.aj 0 rfl]
     match j,c,a with
     |0,_,a|1,_,a|2,_,a|3,_,a|4,_,a|5,_,a=>simpa[Ev.cells,I6.on,I6.vs] using a
   rintro o m s n ⟨k,rfl,H,I,rfl,c⟩-
   by_cases q:(k:Int)<6
   .have a:k<6:=by omega
    have U:=h.w k a;refine di q ⟨by omega,by omega,_,e.want.get k a,bF (AW o _ (by omega)) λz j=>?_⟩;have L:=Hx (e.want.l.take k);have A:(e.want.l.take k).length<=6:=by simp[I6.len];omega
    have V:=qT (e.want.at' k).toNat;refine⟨_,rfl,by rw[jC,jC,aA,g];omega,6-(k+1),by omega,k+1,inc (by decide) a,by omega,rfl,?_,c.quiet j⟩;rw[mc,bJ (e.want.vG k a),fH,<-dA];simp[nB]
   obtain rfl:k=6:=by omega
   have L:=Hx e.want.l;have A:e.want.l.length=6:=rfl;refine cF (by simp) ⟨rfl,?_,c⟩;simp only[aA,kD];omega
  |false=>exact cF rfl ⟨by simp,by simp;omega,x⟩
 clear f x;rintro o s ⟨rfl,f,c⟩-;refine⟨J 4100 (nB e.kind++(if fB e.kind then nB e.bidder else [])++(if fR e.kind then nB e.round else [])++(if fW e.kind then e.want.l.flatMap nB else [])++(if fT e.kind then xO e.text else [])),?_,?_⟩
 rotate_left
 .generalize nB e.kind++(if fB e.kind then nB e.bidder else [])++(if fR e.kind then nB e.round else [])++(if fW e.kind then e.want.l.flatMap nB else [])=l at *
  cases hf:fT e.kind with
  |true=>
   refine cT rfl ⟨_,c.aj 0 rfl 9,bF (aaF o e.text (by omega)) λz j=>?_⟩;have q:=qT e.text.length;have A:(xO e.text).length<=4010:=by unfold xO;rw[aA];omega
   exact⟨_,rfl,by rw[jC,jC,g];omega,mc _ _,by simp only[aA,kD];omega,c.quiet j⟩
  |false=>exact cF rfl ⟨by simp,by simp;omega,c⟩
 clear f c;rintro z s ⟨rfl,f,j⟩-;refine⟨λs i=>s=bs (gq e)/\aZ w i [],?_,?_⟩
 .rintro m s ⟨rfl,a⟩-;exact⟨rfl,a⟩
 unfold gq;generalize nB e.kind++(if fB e.kind then nB e.bidder else [])++(if fR e.kind then nB e.round else [])++(if fW e.kind then e.want.l.flatMap nB else [])++(if fT e.kind then xO e.text else [])=l at *
 cases hf:fD e.kind with
 |true=>
  have k:e.digest=((e.digest.toNat:Nat):Int):=by omega
  refine cT rfl ⟨_,j.aj 0 rfl 10,?_⟩;rw[k];refine bF (UT z e.digest.toNat (by omega)) λm a=>?_;have:=qT e.digest.toNat;exact⟨_,rfl,by rw[jC,jC,g];omega,mc _ _,(j.quiet a).aK⟩
 |false=>exact cF rfl ⟨by simp,j.aK⟩
def Ev.ext'{a b:Ev}(c:a.kind=b.kind)(d:a.bidder=b.bidder)(e:a.round=b.round)(f:a.want=b.want)(g:a.text=b.text)(h:a.digest=b.digest):a=b:=by
 cases a;cases b;simp_all
instance:DecidableEq Ev:=λa b=>
 if h:a.kind=b.kind/\a.bidder=b.bidder/\a.round=b.round/\a.want=b.want/\a.text=b.text/\a.digest=b.digest then .isTrue (Ev.ext' h.1 h.2.1 h.2.2.1 h.2.2.2.1 h.2.2.2.2.1 h.2.2.2.2.2)
 else .isFalse λe=>h (by subst e;exact⟨rfl,rfl,rfl,rfl,rfl,rfl⟩)
def kn(e:Ev):Int:=
 if ¬ (1<=e.kind/\e.kind<=10)\/e≠iF e then 2
 else if e.bidder<0\/8<=e.bidder\/e.round<0\/30<=e.round\/e.want.l.all lX=false then 4
 else if 4000<e.text.length\/4000<(gq e).length then 3 else 0
def lK{e:Ev}(h:kn e=0)(hd:0<=e.digest/\e.digest<18446744073709551616):e.Rng:=by
 unfold kn at h
 split at h
 .cases h
 rename_i c
 split at h
 .cases h
 rename_i a
 split at h
 .cases h
 rename_i d;have b:e.want.l.all lX=true:=by
  cases hq:e.want.l.all lX with
  |true=>rfl
  |false=>exact absurd (.inr (.inr (.inr (.inr hq)))) a
 exact⟨by omega,by omega,by omega,C9 b,by omega,hd⟩
def RM(a b:List UInt8):(bs a==bs b)=(a==b):=by
 show((bs a).data==(bs b).data)=_;simp[bs]
def FU(w:ah){e:Ev}(hi:e.In):CP 19 #[e.v] w (λr A=>r=iv (kn e)/\aZ w A []):=by
 refine qH.2.2.1 (bE e.cells.toArray λC i k=>?_);let q:Prop:=¬ (1<=e.kind/\e.kind<=10)\/e≠iF e;let s:Prop:=e.bidder<0\/8<=e.bidder\/e.round<0\/30<=e.round\/e.want.l.all lX=false;let t:Prop:=4000<e.text.length\/4000<(gq e).length;refine⟨λb o=>(b=true<->q)/\aZ i o [],?_,?_⟩
 .rintro o b ⟨c,f⟩-;have g:=k.quiet f
  cases b with
  |true=>exact cT rfl ⟨by unfold kn;rw[ag (c.1 rfl)],g.aK⟩
  |false=>
   have n:¬ q:=λh=>by have:=c.2 h;cases this
   refine cF rfl ⟨λb p=>(b=true<->s)/\aZ i p [],?_,?_⟩
   .rintro p b ⟨c,a⟩-;have m:=k.quiet a
    cases b with
    |true=>exact cT rfl ⟨by unfold kn;rw[af n,ag (c.1 rfl)],m.aK⟩
    |false=>
     have j:¬ s:=λh=>by have:=c.2 h;cases this
     refine cF rfl ⟨λb v=>(b=true<->t)/\aZ i v [],?_,_,m.aj 0 rfl 9,?_⟩
     .rintro v b ⟨c,x⟩-;have u:=k.quiet x
      cases b with
      |true=>exact cT rfl ⟨by unfold kn;rw[af n,af j,ag (c.1 rfl)],u.aK⟩
      |false=>
       have y:¬ t:=λh=>by have:=c.2 h;cases this
       exact cF rfl ⟨by unfold kn;rw[af n,af j,af y],u.aK⟩
     rw[jC]
     by_cases y:4000<e.text.length
     .exact di (by omega) ⟨⟨λ_=>.inl y,λ_=>rfl⟩,a⟩
     have z:e.want.l.all lX=true:=by
      cases hq:e.want.l.all lX with
      |true=>rfl
      |false=>exact absurd (.inr (.inr (.inr (.inr hq)))) j
     have x:e.Rng:=⟨by omega,by omega,by omega,C9 z,by omega,hi.d⟩;refine dz (by omega) ⟨_,_,_,e.want,_,_,m.cellsIn 0 rfl,bF (Np p x) λB u=>⟨_,rfl,?_,a.trans u (by simp)⟩⟩;rw[jC,aV];exact⟨λh=>.inr (by omega),λh=>by rcases h with h|h<;>omega⟩
   refine⟨_,g.aj 0 rfl 1,?_⟩
   by_cases g1:e.bidder<0
   .exact di g1 ⟨⟨λ_=>.inl g1,λ_=>rfl⟩,f⟩
   refine dz g1 ⟨_,g.aj 0 rfl 1,?_⟩
   by_cases g2:e.bidder>=8
   .exact di g2 ⟨⟨λ_=>.inr (.inl g2),λ_=>rfl⟩,f⟩
   refine dz g2 ⟨_,g.aj 0 rfl 2,?_⟩
   by_cases m:e.round<0
   .exact di m ⟨⟨λ_=>.inr (.inr (.inl m)),λ_=>rfl⟩,f⟩
   refine dz m ⟨_,g.aj 0 rfl 2,cBq (λu=>⟨⟨λ_=>.inr (.inr (.inr (.inl u))),λ_=>rfl⟩,f⟩) λu=>⟨e.want,?_,bg (lI o e.want) ?_⟩⟩
   .exact fm _ 0 λj v a=>by
     have x:=(ai.1 a).1;rw[gW,az,g.aj 0 rfl]
     match j,x,a with
     |0,_,a|1,_,a|2,_,a|3,_,a|4,_,a|5,_,a=>simpa[Ev.cells,I6.on,I6.vs] using a
   rintro v j ⟨rfl,a⟩;refine⟨_,rfl,?_,f.trans a (by simp)⟩
   cases hq:e.want.l.all lX with
   |true=>exact⟨λh=>by simp at h,λh=>by rcases h with h|h|h|h|h<;>first|omega|(rw[hq] at h;cases h)⟩
   |false=>exact⟨λ_=>.inr (.inr (.inr (.inr hq))),λ_=>by simp⟩
 have f:=k.quiet (aZ.drew i []);refine⟨_,f.aj 0 rfl 0,bF (Zx _ e.kind) λB m=>?_⟩;have j:=f.quiet m;have c:=(aZ.drew i []).trans m (by simp);refine⟨_,rfl,?_⟩
 by_cases g:1<=e.kind/\e.kind<=10
 .have a:Ea e.kind≠[]:=λh=>(Bw _).1 h g;refine cF (by rw[j9,j9];simpa using a) ⟨_,_,_,e.want,_,_,j.cellsIn 0 rfl,_,_,_,e.want,_,_,j.cellsIn 0 rfl,bF (YD B e) λD n=>⟨_,_,_,(iF e).want,_,_,rfl,(j.quiet n).cellsIn 0 rfl,?_,c.trans n (by simp)⟩⟩;simp only[I6.beq_eq,RM,jv,jP,eX,aC,ne_eq,ct];constructor
  .intro h;refine .inr λp=>?_;rcases h with h|h|h|h|h|h<;>apply h<;>rw[<-p]
  intro h;rcases h with h|h
  .exact absurd g h
  by_cases p:e.kind=(iF e).kind
  .by_cases u:e.bidder=(iF e).bidder
   .by_cases v:e.round=(iF e).round
    .by_cases x:e.want=(iF e).want
     .by_cases y:e.text=(iF e).text
      .by_cases z:e.digest=(iF e).digest
       .exact absurd (Ev.ext' p u v x y z) h
       exact .inr (.inr (.inr (.inr (.inr z))))
      exact .inr (.inr (.inr (.inr (.inl y))))
     exact .inr (.inr (.inr (.inl x)))
    exact .inr (.inr (.inl v))
   exact .inr (.inl u)
  exact .inl p
 have a:=(Bw _).2 g;exact cT (by rw[j9,j9,a];rfl) ⟨⟨λ_=>.inl g,λ_=>rfl⟩,c⟩
def Sk(w:ah){e:Ev}(hi:e.In):CP 25 #[e.v] w (λr h=>r=.tuple #[sv (if kn e=0 then gq e else []),iv (kn e)]/\aZ w h []):=by
 refine qH.2.2.2.1 (bE e.cells.toArray λk i c=>⟨_,_,_,e.want,_,_,c.cellsIn 0 rfl,bF (FU i hi) λj f=>⟨_,rfl,?_⟩⟩);have b:=c.quiet f;exact cBq (λa=>⟨by rw[af a],b.aK⟩) λa=>⟨_,_,_,e.want,_,_,b.cellsIn 0 rfl,bF (Np j (lK a hi.d)) λl g=>⟨_,rfl,by rw[ag a,a],(b.quiet g).aK⟩⟩
def K2{S:Sx}(h:S.bd.length=8)(x:Int):S.cells.toArray.setIfInBounds 4 (iv x)=({S with ph:=x}:Sx).cells.toArray:=by
 obtain⟨o,ph,s,k,m,dec,a,b⟩:=S;obtain⟨c,d,e,f,g,i,j,l,rfl⟩:=iU h;rfl
def aax{S:Sx}(h:S.bd.length=8)(x:Int):S.cells.toArray.setIfInBounds 98 (.int .u64 x)=({S with dec:=x}:Sx).cells.toArray:=by
 obtain⟨o,n,s,k,m,dec,a,b⟩:=S;obtain⟨c,d,e,f,g,i,j,l,rfl⟩:=iU h;rfl
def MP{S:Sx}(h:S.bd.length=8){i:Nat}(hi:i<8){y:Bd}(c:S.bd[i]?=some y):S.cells.toArray[10+i*11+9]?=some (.bool y.has):=by
 obtain⟨o,q,s,k,p,dec,a,b⟩:=S;obtain⟨d,e,f,g,j,l,m,n,rfl⟩:=iU h
 match i,hi with
 |0,_|1,_|2,_|3,_|4,_|5,_|6,_|7,_=>cases c;rfl
def nk{S:Sx}(h:S.bd.length=8):S.cells.toArray.size=101:=by simpa using Sx.len h
section
variable {w0 w:ah} {b:Nat} {S:Sx} {m:List bP}
def tN(S:Sx)(e:Ev):Sx:=if e.kind=10 then {S with ph:=4,dec:=e.digest} else {S with ph:=3}
def SC(s:St w0 w (Sep (ay b S.cells.toArray 78::m)))(h:S.bd.length=8)(e:Ev):
  CP 70 #[.pointer (qs b),e.v] w (λr a=>r=iv 0/\St w0 a (Sep (ay b (tN S e).cells.toArray 78::m))):=by
 refine @wB _ _ _ _ e.want _ _ _ _ (s.aY e.cells.toArray λn q o=>o.cL 1 rfl (j:=4) (by rw[nk h];omega) rfl λp c=>?_);rw[K2 h] at c;refine⟨λl=>St w0 l (Sep (ay n e.cells.toArray 52::ay b (tN S e).cells.toArray 78::m)),λl d _=>⟨rfl,d.second⟩,_,c.aj 0 rfl 0,?_⟩
 by_cases a:e.kind=10
 .have g:({S with ph:=3}:Sx).bd.length=8:=h;have i:({S with ph:=4}:Sx).bd.length=8:=h;have d:=c.quiet (aZ.drew p []);refine gM a ⟨_,d.aj 0 rfl 10,d.cL 1 rfl (j:=4) (by rw[nk g];omega) rfl λr f=>?_⟩;rw[K2 g] at f;refine⟨f.aj 0 rfl 10,f.cL 1 rfl (j:=98) (by rw[nk i];omega) rfl λt k=>?_⟩;rw[aax i] at k;rw[tN,ag a];exact k
 exact iI a (by rw[tN,af a];exact c)
def MY(s:St w0 w (Sep (ay b S.cells.toArray 78::m)))(h:S.bd.length=8){e:Ev}{i:Nat}(hi:i<8)(j:e.bidder=i):
  CP 67 #[.pointer (qs b),e.v] w (λr a=>((S.bd.getD i gR).has=false/\r=iv 6/\St w0 a (Sep (ay b S.cells.toArray 78::m)))\/((S.bd.getD i gR).has=true/\r=iv 0/\St w0 a (Sep (ay b (gP S i).cells.toArray 78::m)))):=by
 refine @vl _ _ _ _ e.want _ _ _ _ ?_;have f:S.bd[i]?=some (S.bd.getD i gR):=by rw[au,gE (by omega)];rfl
 generalize S.bd.getD i gR=y at f;refine s.aY e.cells.toArray λk c l=>?_;have a:=l.quiet (aZ.drew c []);have d:c.drew.cell? ⟨k,1,none⟩=some (iv i):=by rw[<-j];exact a.aj 0 rfl 1
 have g:c.drew.cell? (Addr.add (Addr.add ⟨b,10,none⟩ (((i:Nat):Int).toNat*11)) 9)=some (.bool y.has):=by
  rw[XV,gW,a.aj 1 rfl];exact MP h hi f
 refine⟨_,d,by omega,by omega,_,g,?_⟩
 cases hh:y.has with
 |false=>exact cT rfl (.inl ⟨rfl,rfl,a.second⟩)
 |true=>
  exact cF rfl ⟨_,d,bF (It (a.second) h hi) λo n=>⟨rfl,.inr ⟨rfl,rfl,n⟩⟩⟩
end
def OS:List UInt8:=[112,114,111,100,117,99,116]
def MU:List UInt8:=[98,105,100,100,101,114]
def QY:List UInt8:=[99,97,112]
def QW:List UInt8:=[97,115,105,100,101]
def rN(s:List UInt8):Int:=if s=OS then 6 else if s=MU then 5 else if s=QY\/s=QW then 4 else 0
def XQ(w:ah)(s:List UInt8):CP 256 #[sv s] w (λr g=>r=iv (rN s)/\g=w):=by
 refine qH.1.2.2.2.1 ?_;rw[j9,j9,j9,j9,j9]
 by_cases c:s=OS
 .exact cT (bL.2 c) ⟨by rw[rN,ag c],rfl⟩
 refine cF (aC.2 c) ?_
 by_cases d:s=MU
 .exact cT (bL.2 d) ⟨by rw[rN,af c,ag d],rfl⟩
 refine cF (aC.2 d) ⟨λb f=>b=decide (s=QY\/s=QW)/\f=w,?_,?_⟩
 .rintro f _ ⟨rfl,rfl⟩-;exact cBq (λa=>⟨by rw[rN,af c,af d,ag a],rfl⟩) λa=>⟨by rw[rN,af c,af d,af a],rfl⟩
 by_cases a:s=QY
 .exact cT (bL.2 a) ⟨by rw[dT (Or.inl a)];exact bL.2 a,rfl⟩
 refine cF (aC.2 a) ⟨?_,rfl⟩
 by_cases e:s=QW
 .rw[dT (Or.inr e)];exact bL.2 e
 rw[dF (by rintro(h|h);exact a h;exact e h)];exact aC.2 e
abbrev sF (x:List UInt8):List Value:=[sv x]
def xE(x:List UInt8):(sF x).length=1:=rfl
def aab(x:List UInt8):∀v∈sF x,v.oneCell'=true:=by intro v a;simp at a;subst a;rfl
def slS:ru prog 196 9 (.string (bs [])) 1 16:=ru.mk' underlying196 (by kernel_rfl) rfl (by decide)
def zA{w:ah}{a:OA}{l:List (List UInt8)}(h:iA 1 sF w a l){i:Nat}{x:List UInt8}(hi:l[i]?=some x):∃q,a=some q/\w.cell? (Addr.add q (i*1))=some (sv x):=by
 obtain⟨q,c,b⟩:=h.at hi;have:=bX b 0 _ rfl;rw[az,Addr.add_add,gX] at this;exact⟨q,c,this⟩
def fC(c:UInt8)(s:List UInt8):List (List UInt8):=(Lib.splitB (bs [c]) 0 (Lib.countB (bs s) (bs [c])) (bs s)).map λb=>b.data.toList
def vP(c:UInt8)(s:List UInt8):(fC c s).length=Lib.countB (bs s) (bs [c])+1:=by
 rw[fC,bu,Lib.splitB_all (bs [c]) (by rw[jC];exact aD 1) 0 _ _ rfl]
def yq(c:UInt8)(s:List UInt8):(fC c s).length<=s.length+1:=by
 rw[vP];have:=Lib.countB_le (bs [c]) (by rw[jC];exact aD 1) (bs s).size (bs s) (aD _);rw[jC] at this;omega
def OD(w:ah)(c:UInt8)(s:List UInt8)(t:s.length<=1000000):CP 179 #[sv s,sv [c]] w (λr d=>∃g,r=.slice (qs g) (fC c s).length (fC c s).length/\St w d (Sep [iQ 9 1 sF (qs g) (fC c s).length (fC c s)])):=by
 refine(p6 (p6 qH.2)).1 ?_;have f:1<=(bs [c]).size:=by rw[jC];exact aD 1
 have o:=Lib.countB_le (bs [c]) f (bs s).size (bs s) (aD _);have a:=Lib.splitB_all (bs [c]) f 0 _ (bs s) rfl;have u:=jC s;have n:=Tryz.strings_Count_one (bs s) c w;have k:=Any.strings_genSplit_core Tryz.Wz (by kernel_rfl) (bs s) (bs [c]) 0 (-1) (Lib.countB (bs s) (bs [c])+1) w (by omega) f (e9 _)
  (λx cs _=>(Tryz.strings_Index_one x c _).mono λe d ⟨b,i⟩=>⟨by rw[b];show _=Ending.returned (Value.int .i64 (Lib.index x.data.toList [c]));rw[Lib.index_one],i⟩) ?_ (by decide) (by decide) (by rw[ag (by decide)];omega)
 .rw[Nat.add_sub_cancel,a] at k;have j:Lib.cellsOf (Lib.splitB (bs [c]) 0 (Lib.countB (bs s) (bs [c])) (bs s)) (Lib.countB (bs s) (bs [c])+1)=((Lib.splitB (bs [c]) 0 (Lib.countB (bs s) (bs [c])) (bs s)).map Value.string).toArray:=by rw[<-a];exact Lib.cellsOf_full _
  rw[j] at k;refine Calls.mono k ?_;rintro e d ⟨rfl,rfl⟩;refine⟨_,_,_,rfl,w.heap.size,by rw[vP],?_⟩;have q:=(St.start w).one.jR ((Lib.splitB (bs [c]) 0 (Lib.countB (bs s) (bs [c])) (bs s)).map Value.string).toArray 9;have m:(((Lib.splitB (bs [c]) 0 (Lib.countB (bs s) (bs [c])) (bs s)).map Value.string).toArray:Array Value).toList=(fC c s).flatMap sF:=by
   rw[fC,List.flatMap_map]
   induction Lib.splitB (bs [c]) 0 (Lib.countB (bs s) (bs [c])) (bs s) with
   |nil=>rfl
   |cons b l h=>simp only[cD,bQ] at h⊢;rw[<-h,sF,sv,<-abn];rfl
  refine(q.aM [0]).weak (dU.left ?_);rintro d F ⟨h,b⟩;have p:(fC c s).length<=maxLen:=by rw[vP];unfold maxLen;omega
  exact⟨F,⟨Ax xE h m p,by rw[b];simp[Value.ownBlock]⟩,λ_ h=>h⟩
 refine Calls.mono n ?_;rintro e d ⟨rfl,i⟩;refine⟨?_,i⟩;show _=Ending.returned (Value.int .i64 ((Lib.count (bs s).data.toList [c]:Nat):Int));rw[Lib.count_one];rfl
def aZ.Wh(w:ah)(b o n:Nat):aZ w (w.freeze ⟨b,o,none⟩ n) [b]:=by
 unfold World.freeze
 split
 .exact aZ.refl _ _
 refine⟨by simp,λi _ a=>?_,⟨rfl,rfl,rfl⟩⟩;simp only[aI] at a;rw[gL,af (λh=>a h.symm)]
def O8(w:ah)(e:TypeId)(t:ByteArray):aZ w (Lib.bytesWorld w e t) []:=by
 unfold Lib.bytesWorld;have b:=aZ.drew w [];refine(b.trans (aZ.new _ _ []) (by simp)).trans (aZ.Wh _ _ _ _) ?_;intro i a;simp at a;subst a;exact .inr (aD _)
def y5(l:List UInt8):Bool:=l.all λc=>sg (un c)
def KR(l:List UInt8):Int:=(Lib.atoi l).getD 0
def jV(l:List UInt8):Int×Int:=if y5 l=false\/l=[]\/(l.head? = some 48/\1<l.length) then (0,2) else if 9<l.length then (0,4) else (KR l,0)
theorem BW:∀(l:List UInt8) (a:Nat),y5 l=true->∃n,Lib.decFrom a l=some n
 |[],a,_=>⟨a,rfl⟩
 |b::l,a,h=>by
  unfold y5 at h;rw[fz,aF] at h;have c:48<=b.toNat/\b.toNat<=57:=by
   have d:48<=un b/\un b<=57:=by simpa[sg] using h.1
   unfold un at d;omega
  rw[Lib.decFrom,Lib.digitVal,ag c];exact BW l _ h.2
def I5{l:List UInt8}(h:y5 l=true)(d:l≠[]):∃n,Lib.atoi l=some n:=by
 cases l with
 |nil=>exact absurd rfl d
 |cons b l=>
  obtain⟨n,f⟩:=BW (b::l) 0 h;unfold y5 at h;rw[fz,aF] at h;have c:48<=un b/\un b<=57:=by simpa[sg] using h.1
  have e:(b==45)=false:=by rw[aC];rintro rfl;revert c;decide
  have a:(b==43)=false:=by rw[aC];rintro rfl;revert c;decide
  have hd:Lib.decNat (b::l)=some n:=by rw[Lib.decNat];exact f
  rw[Lib.atoi,e,a,hd];exact⟨_,rfl⟩
def Xj{l:List UInt8}(a:l.length<=18):In (KR l):=by
 unfold KR
 cases h:Lib.atoi l with
 |none=>exact⟨by decide,by decide⟩
 |some n=>
  have:=Lib.atoi_bound h a;show In n;exact⟨by omega,by omega⟩
def QC(w:ah){l:List UInt8}(z:l.length<=1000000):CP 323 #[sv l] w (λr x=>r=.tuple #[iv (jV l).1,iv (jV l).2]/\aZ w x []):=by
 refine(p6 qH.1).2.1 ⟨λi v m=>∃k:Nat,i=k/\k<=l.length/\m=l.length-k/\y5 (l.take k)=true/\aZ w v [],⟨l.length,0,rfl,by omega,by omega,rfl,aZ.refl _ _⟩,?_⟩;rintro v m i ⟨k,rfl,y,A,f,g⟩-
 by_cases j:k<l.length
 .have e:=gE j;generalize l[k]'j=c at e;refine cT (by rw[jC];exact dT (by omega)) ⟨λb d=>b = !sg (un c)/\aZ w d [],?_,by omega,?_⟩
  .rintro d b ⟨rfl,a⟩-
   cases hd:sg (un c) with
   |false=>
    have:y5 l=false:=fA.2 ⟨c,ak e,by simp[hd]⟩;exact cT rfl ⟨by rw[jV,ag (.inl this)],a⟩
   |true=>
    refine cF rfl (mS (by omega) ⟨?_,a⟩);unfold y5 at f⊢;rw[bJ e,fq,f];simp[hd]
  rw[aq,lJ,e];have n:=c.toNat_lt;refine cBq (λo=>⟨by rw[sg,un,dF (by omega)];rfl,g⟩) λo=>⟨by omega,⟨?_,g⟩⟩
  by_cases h:(c.toNat:Int)>57
  .rw[dT h,sg,un,dT (show(48:Int)<=(c.toNat:Int) by omega),dF (show ¬ (c.toNat:Int)<=57 by omega)];rfl
  rw[dF h,sg,un,dT (show(48:Int)<=(c.toNat:Int) by omega),dT (show(c.toNat:Int)<=57 by omega)];rfl
 obtain rfl:k=l.length:=by omega
 rw[aH] at f;refine cF (by rw[jC];exact dF (by omega)) ⟨λb d=>b=decide (l=[]\/(l.head? = some 48/\1<l.length))/\aZ w d [],?_,?_⟩
 .rintro d b ⟨rfl,a⟩-;refine cBq (λp=>⟨by rw[jV,ag (.inr p)],a⟩) λp=>?_;have q:jV l=if 9<l.length then (0,4) else (KR l,0):=by
   rw[jV,af];rintro(h|h)
   .rw[f] at h;cases h
   exact p h
  by_cases s:9<l.length
  .exact cT (by rw[jC];exact dT (by omega)) ⟨by rw[q,ag s],a⟩
  rw[af s] at q;obtain⟨n,u⟩:=I5 f (λh=>p (.inl h));refine cF (by rw[jC];exact dF (by omega)) ((Tryz.strconv_Atoi (bs l) n (by rw[jC];omega) u d).mono ?_);rintro e B ⟨rfl,t,rfl⟩;refine⟨_,_,rfl,?_,a.trans (O8 _ _ _) (by simp)⟩;rw[q,KR,u];rfl
 cases l with
 |nil=>exact cT (by rw[j9];rfl) ⟨by decide,g⟩
 |cons c l=>
  refine cF (by rw[j9,j9];rfl) ⟨by decide,?_⟩;show cond ((c.toNat:Int)==48) _ _
  by_cases a:c=48
  .subst a;refine cT rfl ⟨?_,g⟩;rw[jC]
   by_cases o:1<(48::l:List UInt8).length
   .rw[dT (show(((48::l:List UInt8).length:Nat):Int)>1 by omega),dT (Or.inr ⟨rfl,o⟩)]
   rw[dF (show ¬ (((48::l:List UInt8).length:Nat):Int)>1 by omega),dF (by rintro(h|h);cases h;exact o h.2)]
  refine cF (aC.2 λh=>a (fP.1 (by show c.toNat=48;omega))) ⟨?_,g⟩;rw[dF];rintro(h|h)
  .cases h
  exact a (by simpa using h.1)
def tq:List (List UInt8)->Int
 |[]=>0
 |x::l=>if (jV x).2≠0 then (jV x).2 else tq l
theorem Ef:∀{l:List (List UInt8)} {k:Nat} {x:List UInt8},(∀y∈l.take k,(jV y).2=0)->l[k]?=some x->tq l=if (jV x).2≠0 then (jV x).2 else tq (l.drop (k+1))
 |y::l,0,x,_,a=>by cases a;rfl
 |y::l,k+1,x,h,a=>by
  rw[tq,af (by simpa using h y (by simp))];exact Ef (λz b=>h z (by simp[b])) (by simpa using a)
theorem BA:∀{l:List (List UInt8)},(∀y∈l,(jV y).2=0)->tq l=0
 |[],_=>rfl
 |y::l,h=>by rw[tq,af (by simpa using h y (by simp))];exact BA λz a=>h z (by simp[a])
def MK{w:ah}{a:OA}{c:Nat}{l:List (List UInt8)}(L:iA 1 sF w a l)(S:l.length<=100000)(M:∀x∈l,x.length<=1000000):
  CP 258 #[.slice a l.length c] w (λr A=>(tq l≠0/\r=.tuple #[.slice none 0 0,iv (tq l)]/\aZ w A [])\/(tq l=0/\∃o s,r=.tuple #[.slice o l.length s,iv 0]/\St w A (Sep [iQ 3 1 i1 o s (l.map λx=>(jV x).1)]))):=by
 refine qH.1.2.2.2.2.2.1 ⟨λp E r i B m=>∃k:Nat,i=k/\k<=l.length/\m=l.length-k/\E=k/\(∀y∈l.take k,(jV y).2=0)/\St w B (Sep [iQ 3 1 i1 p r ((l.take k).map λx=>(jV x).1)]),⟨l.length,0,rfl,by omega,by omega,rfl,by simp,(St.start w).gB⟩,?_⟩;rintro B m p E r i ⟨k,rfl,Q,J,v,j,n⟩-;have z:=v.symm;subst z
 by_cases g:(k:Int)<(l.length:Int)
 .obtain⟨x,b⟩:=dX l k (by omega);obtain⟨q,K,I⟩:=zA (L.aK n.aK) b;have u:=Ef j b;refine di g (av K ⟨by omega,by omega,_,I,bF (QC B (M x (ak b))) λT t=>?_⟩);have F:=n.quiet t;refine⟨_,_,rfl,?_⟩
  by_cases f:(jV x).2=0
  .refine iI f ?_;have H:(l.take (k+1)).map (λx=>(jV x).1)=(l.take k).map (λx=>(jV x).1)++[(jV x).1]:=by rw[bJ b,aS];rfl
   have d:((l.take k).map λx=>(jV x).1).length=k:=by rw[bu,aW];omega
   have:=iT (ty:=64) (x:=(jV x).1) (l:=(l.take k).map λx=>(jV x).1) U9 gm (wX _) F (by rw[d];omega) (by rw[d];omega) (R:=λG N t P=>∃D,D<l.length-k/\∃e:Nat,IntKind.i64.wrap ((k:Int)+1)=(e:Int)/\e<=l.length/\D=l.length-e/\N=e/\(∀y∈l.take e,(jV y).2=0)/\St w P (Sep [iQ 3 1 i1 G t ((l.take e).map λx=>(jV x).1)])) (λo s A O=>(mS (by omega) ⟨by rw[aA,d];rfl,λy C=>?_,by rw[H];exact O⟩)) rfl
   .rw[d] at this;rw[J];exact this
   rw[bJ b] at C;rcases aB.1 C with h|h
   .exact j y h
   rw[aI.1 h];exact f
  rw[ag f] at u;exact gM f (.inl ⟨by rw[u];exact f,by rw[u],F.aK⟩)
 obtain rfl:k=l.length:=by omega
 rw[aH] at j n;exact dz g (.inr ⟨BA j,p,r,rfl,n⟩)
def tY(l:List Br)(nm:List UInt8):Int×Bool:=(((l.findIdx? λp=>p.nm==nm).map λk=>(k:Int)).getD 0,l.any λp=>p.nm==nm)
def Uc{w:ah}{a:OA}{c:Nat}{l:List Br}(h:rQ w a l)(u:l.length<=100000)(nm:List UInt8):
  CP 222 #[.slice a l.length c,sv nm] w (λr b=>r=.tuple #[iv (tY l nm).1,.bool (tY l nm).2]/\aZ w b []):=by
 refine Gh ⟨λn r m=>∃k:Nat,n=k/\k<=l.length/\m=l.length-k/\(l.take k).any (λp=>p.nm==nm)=false/\aZ w r [],⟨l.length,0,rfl,by omega,by omega,rfl,aZ.refl _ _⟩,?_⟩;rintro r m n ⟨k,rfl,t,v,b,g⟩-
 by_cases d:(k:Int)<(l.length:Int)
 .obtain⟨x,f⟩:=dX l k (by omega);obtain⟨_,q,rfl,i⟩:=(h.aK g) k x f;refine gM d ⟨by omega,by omega,_,_,_,_,i,(St.start' g).one.aY _ λy z s=>s.aR 0 rfl x.cells rfl x.one λA j=>⟨_,by rw[j.aj 0 rfl];rfl,?_⟩⟩
  by_cases e:x.nm=nm
  .refine cT (by rw[e];simp) ⟨?_,j.aK⟩;have o:(λp:Br=>p.nm==nm) x=true:=by simpa using e
   rw[tY,rC f o b,jQ f o];rfl
  exact cF (by rw[j9,j9];simpa using e) ⟨l.length-(k+1),by omega,k+1,by rw[gC (by omega)];rfl,by omega,rfl,jy b f (by simpa using e),j.aK⟩
 refine iI d ⟨?_,g⟩;rw[bB (by omega)] at b;rw[tY,sJ b,b];rfl
def mj(S:Se)(h nm:List UInt8):Int×Int:=
 if h=OS\/h=MU then (0,if iz nm then 0 else 5)
 else if h=QY then (if nm=[42] then (-1,0) else if (tY S.bd nm).2 then ((tY S.bd nm).1,0) else (0,6))
 else if h=QW then (if (ig S.ps nm).2 then ((ig S.ps nm).1,0) else (0,6))
 else (-1,0)
def Uy{w:ah}{S:Se}(g:S.In w)(j:S.ps.length<=100000)(k:S.bd.length<=100000)(h nm:List UInt8):
  CP 257 #[.agg S.arr,sv h,sv nm] w (λr a=>r=.tuple #[iv (mj S h nm).1,iv (mj S h nm).2]/\aZ w a []):=by
 refine qH.1.2.2.2.2.1 (bE S.arr λo l a=>⟨λn b i=>((b=false/\mj S h nm=(0,6))\/(b=true/\mj S h nm=(n,0)))/\aZ w i [],?_,?_⟩)
 .rintro i n b ⟨(⟨rfl,e⟩|⟨rfl,e⟩),c⟩-
  .exact cT rfl ⟨by rw[e],c⟩
  exact cF rfl ⟨by rw[e],c⟩
 refine⟨λb f=>b=decide (h=OS\/h=MU)/\f=l,?_,?_⟩
 .rintro f b ⟨rfl,rfl⟩-
  by_cases g1:h=OS\/h=MU
  .have c:mj S h nm=(0,if iz nm then 0 else 5):=by rw[mj,ag g1]
   refine di g1 (kR (D0 f nm) ⟨_,rfl,?_⟩)
   cases hn:iz nm with
   |true=>exact cF rfl ⟨by rw[c,hn];rfl,a.aK⟩
   |false=>exact cT rfl ⟨by rw[c,hn];rfl,a.aK⟩
  refine dz g1 ?_;rw[j9,j9,j9,j9,j9]
  by_cases g2:h=QY
  .have c:mj S h nm=if nm=[42] then (-1,0) else if (tY S.bd nm).2 then ((tY S.bd nm).1,0) else (0,6):=by rw[mj,af g1,ag g2]
   refine cT (bL.2 g2) ?_
   by_cases d:nm=[42]
   .exact cF (by rw[d];rfl) ⟨.inr ⟨rfl,by rw[c,ag d]⟩,a.aK⟩
   rw[af d] at c;refine cT (by rw[aC.2 d];rfl) ⟨_,_,_,a.aj 0 rfl 1,bF (Uc (g.aK a.aK).bd k nm) λm e=>⟨_,_,rfl,?_,(a.quiet e).aK⟩⟩
   cases hf:(tY S.bd nm).2 with
   |true=>exact .inr ⟨rfl,by rw[c,hf];rfl⟩
   |false=>exact .inl ⟨rfl,by rw[c,hf];rfl⟩
  refine cF (aC.2 g2) ?_
  by_cases d:h=QW
  .have c:mj S h nm=if (ig S.ps nm).2 then (((ig S.ps nm).1:Int),0) else (0,6):=by rw[mj,af g1,af g2,ag d]
   refine cT (bL.2 d) ⟨_,_,_,a.aj 0 rfl 0,bF (ND (g.aK a.aK).ps j nm) λm e=>⟨_,_,rfl,?_,(a.quiet e).aK⟩⟩
   cases hf:(ig S.ps nm).2 with
   |true=>exact .inr ⟨rfl,by rw[c,hf];rfl⟩
   |false=>exact .inl ⟨rfl,by rw[c,hf];rfl⟩
  exact cF (aC.2 d) ⟨.inr ⟨rfl,by rw[mj,af g1,af g2,af d]⟩,a.aK⟩
 rw[j9,j9,j9]
 by_cases g1:h=OS
 .exact cT (bL.2 g1) ⟨by rw[dT (Or.inl g1)];exact bL.2 g1,rfl⟩
 refine cF (aC.2 g1) ⟨?_,rfl⟩
 by_cases g2:h=MU
 .rw[dT (Or.inr g2)];exact bL.2 g2
 rw[dF (by rintro(h|h);exact g1 h;exact g2 h)];exact aC.2 g2
end Go.Proofs.YtmhhlijfepaphaaGreatDoor
namespace Go.Vc
open Go
abbrev uy (u:I6):Value:=.agg u.vs.toArray
structure XT (P:Program) (t kt et:TypeId):Prop where
 u:P.underlying t=some (.map kt et)
 k:∃it,P.underlying kt=some (.array 6 it)
 z:(P.info? et).bind (·.zero)=some (iv 0)
 eq:∀u v:I6,V2 P 12 kt (uy u) (uy v)=some (I6.beq u v)
 ck:∀(b:Bool) (u:I6) (w:World),(Instr.checkKey b 10000 kt (uy u)).run P w=.ok () w
abbrev KV:=I6×Int
def kvs(a:List MapEntry):List (Value×Value):=a.map λe=>(e.key,e.val)
def LZ(l:List KV):List (Value×Value):=l.map λp=>(uy p.1,iv p.2)
structure GJ (es:List MapEntry) (cl:Nat) (l:List KV):Prop where
 kv:kvs es=LZ l
 nd:(es.map (·.born)).Nodup
 lt:∀e∈es,e.born<cl
 ky:(l.map (·.1)).Nodup
def mapA(r:Nat)(l:List KV):bP:=V4 λ(x:{p:Array MapEntry×Nat // GJ p.1.toList p.2 l})=>iZ r (.map x.1.1 x.1.2)
def jW(l:List KV)(u:I6):Option Int:=(l.find? λp=>p.1==u).map (·.2)
section
variable {P:Program} {t kt et:TypeId} {w0 w:World} {B:bP} {r:Nat} {l:List KV}
theorem RB(eq:∀u v:I6,V2 P 12 kt (uy u) (uy v)=some (I6.beq u v))(u:I6)(w:World):∀(a:List MapEntry) (l:List KV) (i:Nat),kvs a=LZ l ->
  (∃v j,jW l u=some v/\(Instr.findAsking kt (uy u) a i).run P w=.ok (some (i+j,iv v)) w/\∃e,a[j]?=some e/\e.key=uy u/\l[j]?=some (u,v)) \/
   (jW l u=none/\(Instr.findAsking kt (uy u) a i).run P w=.ok none w)
 |[],[],i,_=>.inr ⟨rfl,by simp[Instr.findAsking]⟩
 |e::a,p::l,i,h=>by
  simp only[kvs,LZ,cD,jc,jF] at h;obtain⟨⟨f,q⟩,o⟩:=h;have b:(Op.equal kt (uy u) e.key).run P w=.ok (I6.beq u p.1) w:=by rw[f];exact DL 12 kt _ _ _ Op.maxDepth (eq u p.1) (by decide)
  have x:I6.beq u p.1=(p.1==u):=by
   grind[I6.beq_eq]
  by_cases g:p.1=u
  .have c:I6.beq u p.1=true:=by grind
   rw[c] at b;refine .inl ⟨p.2,0,?_,?_,e,rfl,by rw[f,g],?_⟩
   .simp[jW,g]
   .rw[Instr.findAsking];simp[b,q]
   grind
  have d:I6.beq u p.1=false:=by grind
  rw[d] at b;have r:jW (p::l) u=jW l u:=by
   grind[jW]
  rcases RB eq u w a l (i+1) o with⟨v,j,m,c,k,s,n,t⟩|⟨m,c⟩
  .refine .inl ⟨v,j+1,by grind,?_,k,by grind,n,by grind⟩;rw[Instr.findAsking];simp[b,c];omega
  exact .inr ⟨by grind,by rw[Instr.findAsking];simp[b,c]⟩
 |[],_::_,_,h=>by simp[kvs,LZ] at h
 |_::_,[],_,h=>by simp[kvs,LZ] at h
def DP(c:XT P t kt et)(u:I6)(w:World){a:List MapEntry}(h:kvs a=LZ l):
  (∃v j,jW l u=some v/\(Instr.findKey kt (uy u) a).run P w=.ok (some (j,iv v)) w/\∃e,a[j]?=some e/\e.key=uy u/\l[j]?=some (u,v))\/(jW l u=none/\(Instr.findKey kt (uy u) a).run P w=.ok none w):=by
 obtain⟨it,d⟩:=c.k;have g:(Instr.findKey kt (uy u) a).run P w=(Instr.findAsking kt (uy u) a).run P w:=by
  cases a with
  |nil=>simp[Instr.findKey,cW d,Instr.findNow,Instr.findAsking]
  |cons e a=>simp[Instr.findKey,cW d,Instr.findNow,Instr.sameNow]
 rw[g];rcases RB c.eq u w a l 0 h with⟨v,j,b,e,f⟩|b
 .exact .inl ⟨v,j,b,by rw[e,az],f⟩
 exact .inr b
def J1(a:XT P t kt et)(s:St w0 w (star (mapA r l) B))(u:I6){R:Int->World->Prop}(h:R ((jW l u).getD 0) w):
  kg P (Instr.lookup t (.map (some r)) (uy u) false) w λe b=>∃n:Int,e=iv n/\R n b:=by
 obtain⟨⟨⟨g,cl⟩,d⟩,m⟩:=s.ex;have f:=m.obj;have k:(zeroValue et).run P w=.ok (iv 0) w:=by
  have:=a.z
  cases hi:P.info? et with
  |none=>simp[hi] at this
  |some i=>simp[hi] at this;simp[zeroValue,typeInfo,hi,this]
 have e:=a.ck g.isEmpty u w;rcases DP a u w d.kv with⟨v,j,b,c,_⟩|⟨b,c⟩
 .refine⟨iv v,w,?_,v,rfl,by rwa [b] at h⟩;simp[Instr.lookup,cW a.u,f,e,c,getObj,Sem.run]
 refine⟨iv 0,w,?_,0,rfl,by rwa [b] at h⟩;simp[Instr.lookup,cW a.u,f,e,c,k,getObj,Sem.run]
def rW(l:List KV)(u:I6)(v:Int):List KV:=if (jW l u).isSome then l.map λp=>if p.1=u then (u,v) else p else l++[(u,v)]
def Xr{l:List KV}(g:(l.map (·.1)).Nodup){u:I6}{v v0:Int}{j:Nat}(a:l[j]?=some (u,v0)):l.map (λp=>if p.1=u then (u,v) else p)=l.set j (u,v):=by
 have b:=(ai.1 a).1;refine aX λi=>?_;rw[aL,bW]
 by_cases e:j=i
 .grind
 rw[af e]
 cases hi:l[i]? with
 |none=>rfl
 |some p=>
  have c:p.1≠u:=λh=>by
   have d:(l.map (·.1))[j]?=some u:=by grind
   have f:(l.map (·.1))[i]?=some u:=by grind
   grind[List.getElem?_inj]
  grind
theorem BQ{l:List KV}{u:I6}(h:jW l u=none):∀p∈l,p.1≠u:=λp a e=>by
 grind[jW,Option.map_eq_none_iff]
def K4{l:List KV}(a:(l.map (·.1)).Nodup){p:KV}(b:p∈l):jW l p.1=some p.2:=by
 induction l with
 |nil=>cases b
 |cons q l d=>
  simp only[cD,gr] at a;unfold jW;rw[List.find?_cons];rcases aP.1 b with rfl|h
  .simp
  have c:q.1≠p.1:=λe=>(by grind);have:(q.1==p.1)=false:=by grind
  rw[this];exact d a.2 h
def yx{l:List KV}{u:I6}{v:Int}(h:jW l u=some v):(u,v)∈l:=by
 unfold jW at h;rw[Option.map_eq_some_iff] at h;grind
def E3(l:List KV)(u x:I6)(v:Int):jW (rW l u v) x=if x=u then some v else jW l x:=by
 unfold rW
 cases hs:jW l u with
 |none=>
  have a:=BQ hs;rw[af (by simp)];unfold jW;grind
 |some v0=>
  rw[ag (show(some v0).isSome=true from rfl)];have b:=yx hs;clear hs;unfold jW
  by_cases a:x=u
  .subst a;rw[ag rfl]
   induction l<;>grind
  rw[af a];clear b
  induction l<;>grind
def Qx(u:I6):Instr.sameBits 10000 (uy u) (uy u)=true:=by
 rw[show(10000:Nat)=9998+1+1 from rfl];simp[Instr.sameBits,I6.vs]
def Od(n:XT P t kt et)(s:St w0 w (star (mapA r l) B))(u:I6)(v:Int){R:World->Prop}(h:∀o,St w0 o (star (mapA r (rW l u v)) B)->R o):
  kg P (Instr.mapUpdate t (.map (some r)) (uy u) (iv v)) w λ_ o=>R o:=by
 obtain⟨⟨⟨d,cl⟩,c⟩,A⟩:=s.ex;have F:=A.obj;have E:=n.ck false u w;rcases DP n u w c.kv with⟨v0,j,C,q,m,D,G,I⟩|⟨C,q⟩
 .have J:=(ai.1 D).1;have b:d[j]?=some m:=by grind
  have z:=A.put (.map (d.modify j λe=>{e with key:=uy u,val:=iv v}) cl);have y:(Instr.mapUpdate t (.map (some r)) (uy u) (iv v)).run P w=.ok () {w with heap:=w.heap.setIfInBounds r (.map (d.modify j λe=>{e with key:=uy u,val:=iv v}) cl)}:=by
   simp[Instr.mapUpdate,cW n.u,F,E,q,b,G,Instr.keyThatStays,Qx,setObj,getObj,Sem.run]
  suffices H:GJ (d.modify j λe=>{e with key:=uy u,val:=iv v}).toList cl (rW l u v) from
   ⟨_,_,y,h _ (St.xe (f:=λ(x:{p:Array MapEntry×Nat // GJ p.1.toList p.2 (rW l u v)})=>iZ r (.map x.1.1 x.1.2)) ⟨(_,_),H⟩ z)⟩
  have k:rW l u v=l.set j (u,v):=by rw[rW,ag (by rw[C];rfl),Xr c.ky I]
  have em:(d.modify j λe=>{e with key:=uy u,val:=iv v}).toList=d.toList.set j {m with key:=uy u,val:=iv v}:=by
   rw[nt];refine aX λi=>?_;grind
  rw[em,k];have a:=c.kv;refine⟨?_,?_,?_,?_⟩
  .unfold kvs LZ at a⊢;rw[dO,dO,a]
  .rw[dO];have:(d.toList.map (·.born)).set j m.born=d.toList.map (·.born):=by
    refine aX λi=>?_;grind
   rw[this];exact c.nd
  .intro e g;rcases cO g with g|rfl
   .exact c.lt e g
   exact c.lt m (ak D)
  rw[dO];have:(l.map (·.1)).set j u=l.map (·.1):=by
   refine aX λi=>?_;grind
  rw[this];exact c.ky
 have z:=A.put (.map (d.push {key:=uy u,val:=iv v,born:=cl}) (cl+1));have y:(Instr.mapUpdate t (.map (some r)) (uy u) (iv v)).run P w=.ok () {w with heap:=w.heap.setIfInBounds r (.map (d.push {key:=uy u,val:=iv v,born:=cl}) (cl+1))}:=by
  simp[Instr.mapUpdate,cW n.u,F,E,q,setObj,getObj,Sem.run]
 suffices H:GJ (d.push {key:=uy u,val:=iv v,born:=cl}).toList (cl+1) (rW l u v) from
  ⟨_,_,y,h _ (St.xe (f:=λ(x:{p:Array MapEntry×Nat // GJ p.1.toList p.2 (rW l u v)})=>iZ r (.map x.1.1 x.1.2)) ⟨(_,_),H⟩ z)⟩
 have k:rW l u v=l++[(u,v)]:=by simp_all[rW]
 rw[k];have et:(d.push {key:=uy u,val:=iv v,born:=cl}).toList=d.toList++[{key:=uy u,val:=iv v,born:=cl}]:=by simp
 rw[et];refine⟨?_,?_,?_,?_⟩
 .have:=c.kv;unfold kvs LZ at this⊢;rw[aS,aS,this];rfl
 .rw[aS,dL];refine⟨c.nd,by simp,λa i b x=>?_⟩;obtain⟨e,g,rfl⟩:=aN.1 i;have:=c.lt e g;grind
 .intro e g;rcases aB.1 g with g|g
  .have:=c.lt e g;omega
  grind
 rw[aS,dL];refine⟨c.ky,by simp,λa i b x=>?_⟩;obtain⟨p,e,rfl⟩:=aN.1 i;grind[BQ]
end
theorem yV{a:Type}[BEq a][LawfulBEq a]:∀{l m:List a},l.Nodup->(∀x∈l,x∈m)->l.length<=m.length
 |[],_,_,_=>e9 _
 |x::l,m,hd,h=>by
  rw[gr] at hd;have b:=h x (by simp);have:=yV (l:=l) (m:=m.erase x) hd.2 λy c=>by
   refine(mW ?_).2 (h y (by simp[c]));rintro rfl;exact hd.1 c
  rw[ja b] at this;have:=lV b;simp only[bN];omega
def Wq{u v:I6}(h:uy u=uy v):u=v:=by
 cases u;cases v
 simp only[uy,I6.vs,Value.agg.injEq,Array.mk.injEq,jc,Value.int.injEq,true_and,and_true] at h;obtain⟨rfl,rfl,rfl,rfl,rfl,rfl⟩:=h;rfl
theorem born_inj:∀{f:List MapEntry},(f.map (·.born)).Nodup->∀{a b:MapEntry},a∈f->b∈f->a.born=b.born->a=b
 |e::f,g,a,b,l,k,h=>by
  rw[cD,gr] at g;rcases aP.1 l with j|d
  .rcases aP.1 k with i|c
   .rw[j,i]
   exact absurd (by rw[<-j,h];exact bV c) g.1
  rcases aP.1 k with i|c
  .exact absurd (by rw[<-i,<-h];exact bV d) g.1
  exact born_inj g.2 d c h
def LY{a:List MapEntry}{l:List KV}(h:kvs a=LZ l):a.length=l.length:=by
 have:=congrArg List.length h;simpa[kvs,LZ] using this
def X5{a:List MapEntry}{l:List KV}(h:kvs a=LZ l){e:MapEntry}(d:e∈a):∃p∈l,e.key=uy p.1/\e.val=iv p.2:=by
 have c:(e.key,e.val)∈kvs a:=bV (f:=λe:MapEntry=>(e.key,e.val)) d;rw[h] at c;obtain⟨p,g,b⟩:=aN.1 c;simp only[jF] at b;exact⟨p,g,b.1.symm,b.2.symm⟩
def abL{b:List MapEntry}{l:List KV}(h:kvs b=LZ l){p:KV}(g:p∈l):∃e∈b,e.key=uy p.1/\e.val=iv p.2:=by
 have c:(uy p.1,iv p.2)∈LZ l:=bV (f:=λp:KV=>(uy p.1,iv p.2)) g;rw[<-h] at c;obtain⟨e,d,a⟩:=aN.1 c;simp only[jF] at a;exact⟨e,d,a.1,a.2⟩
structure aa0 (es:List MapEntry) (seen:List Nat) (S:List KV) (vis:List MapEntry):Prop where
 sn:seen=vis.map (·.born)
 nd:seen.Nodup
 sub:∀e∈vis,e∈es
 kv:kvs vis=LZ S
structure ItX (l S:List KV) where
 es:Array MapEntry
 cl:Nat
 seen:Array Nat
 vis:List MapEntry
 ok:GJ es.toList cl l
 vk:aa0 es.toList seen.toList S vis
def Fm(r it:Nat)(l S:List KV):bP:=V4 λ(x:ItX l S)=>star (iZ it (.mapIter (some r) x.cl x.seen x.cl)) (iZ r (.map x.es x.cl))
section
variable {P:Program} {t kt et:TypeId} {w0 w:World} {B:bP} {r it:Nat} {l S:List KV}
def sW(g:XT P t kt et)(s:St w0 w (star (mapA r l) B)){R:Nat->World->Prop}(k:∀it a,St w0 a (star (Fm r it l []) B)->R it a):
  kg P (Instr.range t (.map (some r))) w λe a=>∃it:Nat,e=.pointer (some ⟨it,0,none⟩)/\R it a:=by
 obtain⟨⟨⟨c,cl⟩,b⟩,d⟩:=s.ex;have e:w.heap[r]?=some (.map c cl):=d.obj;have h:(Instr.range t (.map (some r))).run P w=.ok (.pointer (some ⟨w.heap.size,0,none⟩)) (w.alloc (.mapIter (some r) cl #[] cl)):=by
  simp[Instr.range,cW g.u,e,getObj,Sem.run]
 refine⟨_,_,h,_,rfl,k _ _ ?_⟩;have i:=(d.newObj (.mapIter (some r) cl #[] cl)).swap;exact St.xe (f:=λ(x:ItX l [])=>star (iZ w.heap.size (.mapIter (some r) x.cl x.seen x.cl)) (iZ r (.map x.es x.cl))) ⟨c,cl,#[],[],b,⟨rfl,by simp,by simp,rfl⟩⟩ (i.eqv fF.assoc')
def St.Bs(s:St w0 w (star (Fm r it l S) B)):St w0 w (star (mapA r l) B):=by
 obtain⟨x,a⟩:=s.ex;exact St.xe (f:=λ(x:{p:Array MapEntry×Nat // GJ p.1.toList p.2 l})=>iZ r (.map x.1.1 x.1.2)) ⟨(x.es,x.cl),x.ok⟩ (a.assoc.second)
def uZ{ty:TypeId}(s:St w0 w (star (Fm r it l S) B)){K:World->Prop}{F:I6->Int->World->Prop}(o:(∀p∈l,p∈S)->K w)(i:∀p∈l,S.length<l.length->∀t,St w0 t (star (Fm r it l (S++[p])) B)->F p.1 p.2 t):
  kg P (Instr.next (.pointer (some ⟨it,0,none⟩)) false ty) w λe t=>(e=.tuple #[.bool false]/\K t)\/∃v1 b:Value,e=.tuple #[.bool true,v1,b] /\
   kg P (Instr.entry (.pointer (some ⟨it,0,none⟩))) t λm a=>∃(u:I6) (n:Int),m = .tuple #[uy u,iv n]/\F u n a:=by
 obtain⟨x,A⟩:=s.ex;have M:w.heap[it]?=some (.mapIter (some r) x.cl x.seen x.cl):=A.assoc.obj;have N:w.heap[r]?=some (.map x.es x.cl):=A.assoc.sP.obj;have j:=x.ok.kv;have k:=x.vk.kv;rcases run_next_at (P:=P) w ty it r x.cl x.cl x.seen x.es x.cl M N x.ok.lt (aD _) with⟨L,v⟩|⟨e,h,C,G,v⟩
 .refine⟨_,w,v,.inl ⟨rfl,o λp E=>?_⟩⟩;obtain⟨e,h,u,z⟩:=abL j E;have d:e.born∈x.seen.toList:=by
   by_cases a:e.born∈x.seen.toList
   .exact a
   have:e∈leftOf x.es x.seen:=by
    unfold leftOf;simp only[Array.mem_filter,Array.mem_toList_iff] at *;exact⟨h,by simpa using a⟩
   rw[Array.eq_empty_of_size_eq_zero L] at this;simp at this
  rw[x.vk.sn] at d;obtain⟨m,g,c⟩:=aN.1 d;have n:=born_inj x.ok.nd (x.vk.sub m g) h c;subst n;obtain⟨q,D,a,b⟩:=X5 k g;have y:q.1=p.1:=Wq (a.symm.trans u);have I:q.2=p.2:=by
   have:=b.symm.trans z
   injection this
  have:q=p:=mG y I;rw[<-this];exact D
 have d:e∈x.es.toList/\e.born∉x.seen.toList:=by
  unfold leftOf at h;simp only[Array.toList_filter,cS] at h;exact⟨h.1,by simpa using h.2⟩
 obtain⟨p,E,u,z⟩:=X5 j d.1;have O:St w0 C (star (star (iZ it (.mapIter (some r) x.cl x.seen x.cl)) (iZ r (.map x.es x.cl))) B):=by
  rcases G with rfl|rfl
  .exact A
  exact A.quiet (aZ.drew w [])
 have H:St w0 (C.putObj it (.mapIter (some r) x.cl (x.seen.push e.born) x.cl)) (star (iZ it (.mapIter (some r) x.cl (x.seen.push e.born) x.cl)) (star (iZ r (.map x.es x.cl)) B)):=O.assoc.put _;have J:ChangeMaps.setBlock C it (.mapIter (some r) x.cl (x.seen.push e.born) x.cl)=C.putObj it (.mapIter (some r) x.cl (x.seen.push e.born) x.cl):=rfl;rw[J] at v;refine⟨_,_,v,.inr ⟨_,_,rfl,?_⟩⟩;have D:=run_entry_at (P:=P) _ it r x.cl x.seen x.es x.cl e H.obj H.sP.obj d.1 x.ok.nd;have q:(x.seen.toList++[e.born]).Nodup:=by
  rw[dL];refine⟨x.vk.nd,by simp,λa n b c=>?_⟩;simp at c;subst c;rintro rfl;exact d.2 n
 have n:S.length<l.length:=by
  have y:=LY k;have I:=LY j;have a:(x.seen.toList++[e.born]).length<=(x.es.toList.map (·.born)).length:=yV q λb c=>by
   rcases aB.1 c with c|c
   .rw[x.vk.sn] at c;obtain⟨m,g,rfl⟩:=aN.1 c;exact bV (x.vk.sub m g)
   rw[aI.1 c];exact bV d.1
  rw[aA,bu,x.vk.sn,bu,aG] at a;omega
 refine⟨_,_,D,p.1,p.2,by rw[u,z],i p E n _ ?_⟩;refine St.xe (f:=λ(x:ItX l (S++[p]))=>star (iZ it (.mapIter (some r) x.cl x.seen x.cl)) (iZ r (.map x.es x.cl))) ⟨x.es,x.cl,x.seen.push e.born,x.vis++[e],x.ok,⟨?_,?_,?_,?_⟩⟩ (H.eqv fF.assoc')
 .have:=x.vk.sn;rw[aS,<-this];simp
 .simpa using q
 .intro y a;rcases aB.1 a with a|a
  .exact x.vk.sub y a
  rw[aI.1 a];exact d.1
 have a:=k;unfold kvs LZ at a⊢;rw[aS,aS,a,bH,bH,u,z]
end
end Go.Vc
namespace Go.Proofs.YtmhhlijfepaphaaGreatDoor
open Go Go.Vc _root_.Go.Proofs.Tryz
theorem Xv.ind{P:Xv->Prop}(h:∀x,(∀y∈x.args,P y)->P x):∀x,P x
 |.mk op u v a c args=>h _ λy b=>Xv.ind h y
 termination_by x=>SizeOf.sizeOf x
 decreasing_by
  have:y∈args:=b;have:=List.sizeOf_lt_of_mem this
  simp_wf;omega
mutual
def fE:Xv->Nat
 |.mk _ _ _ _ _ args=>1+(Oz args).sum
def Oz:List Xv->List Nat
 |[]=>[]
 |x::l=>fE x::Oz l
end
mutual
def qc:Xv->Nat
 |.mk _ _ _ _ _ args=>(VR args).foldl Nat.max 0+1
def VR:List Xv->List Nat
 |[]=>[]
 |x::l=>qc x::VR l
end
theorem KY:∀l:List Xv,Oz l=l.map fE
 |[]=>rfl
 |x::l=>by rw[Oz,KY l];rfl
theorem NA:∀l:List Xv,VR l=l.map qc
 |[]=>rfl
 |x::l=>by rw[VR,NA l];rfl
def oS(x:Xv):fE x=1+(x.args.map fE).sum:=by cases x;rw[fE,KY];rfl
def vA(x:Xv):qc x=(x.args.map qc).foldl Nat.max 0+1:=by cases x;rw[qc,NA];rfl
theorem IB:∀{l:List Nat} {x:Nat},x∈l->x<=l.sum
 |y::l,x,h=>by
  rw[nE];rcases aP.1 h with rfl|h
  .omega
  have:=IB h;omega
def tD{x y:Xv}(h:y∈x.args):fE y<fE x:=by
 have:=IB (bV (f:=fE) h);rw[oS x];omega
def size_pos(x:Xv):1<=fE x:=by rw[oS];omega
def tg(x:Xv):x.args.length<fE x:=by
 rw[oS];have:∀l:List Xv,l.length<=(l.map fE).sum:=λl=>by
  induction l with
  |nil=>simp
  |cons y l a=>have:=size_pos y;simp only[bN,cD,nE];omega
 have:=this x.args;omega
theorem Ah{n:Nat}:∀{l:List Nat} {a:Nat},a<=n->(∀x∈l,x<=n)->l.foldl Nat.max a<=n
 |[],_,h,_=>h
 |x::l,a,h,k=>by
  rw[bD];exact Ah (Nat.max_le.2 ⟨h,k x (by simp)⟩) λy b=>k y (by simp[b])
def LI:∀x,qc x<=fE x:=Xv.ind λx b=>by
 rw[vA,oS];have:(x.args.map qc).foldl Nat.max 0<=(x.args.map fE).sum:=Ah (e9 _) λd hd=>by
  obtain⟨y,a,rfl⟩:=aN.1 hd;exact bp (b y a) (IB (bV a))
 omega
def xZ(x:Xv):x.er.args=x.args.map Xv.er:=by rw[Xv.pN];rfl
def Iv:∀x,fE x.er=fE x:=Xv.ind λx b=>by
 rw[oS,oS x,xZ,cE]
 congr 2
 exact bq λy a=>b y a
def YT:∀x,qc x.er=qc x:=Xv.ind λx b=>by
 rw[vA,vA x,xZ,cE]
 congr 2
 exact bq λy a=>b y a
mutual
def iP{S:Type}(step:S->Xv->S×Bool):Xv->S->S×Bool
 |.mk op u v a c args,s=>if (step s (.mk op u v a c args)).2 then K9 step args ((step s (.mk op u v a c args)).1,true) else ((step s (.mk op u v a c args)).1,false)
def K9{S:Type}(step:S->Xv->S×Bool):List Xv->S×Bool->S×Bool
 |[],r=>r
 |x::l,r=>K9 step l (if r.2 then iP step x r.1 else r)
end
def oT{S:Type}(step:S->Xv->S×Bool)(l:List Xv)(r:S×Bool):S×Bool:=l.foldl (λr y=>if r.2 then iP step y r.1 else r) r
theorem La{S:Type}(step:S->Xv->S×Bool):∀(l:List Xv) (r:S×Bool),K9 step l r=oT step l r
 |[],r=>by rw[K9];rfl
 |x::l,r=>by rw[K9,La step l];rfl
def tH{S:Type}(step:S->Xv->S×Bool)(x:Xv)(s:S):iP step x s=if (step s x).2 then oT step x.args ((step s x).1,true) else ((step s x).1,false):=by
 cases x
 rw[iP,La];rfl
def OU{S:Type}{step:S->Xv->S×Bool}(c:∀s x,step s x.er=step s x):∀(x:Xv) (s:S),iP step x.er s=iP step x s:=Xv.ind λx e s=>by
 rw[tH,tH step x,c,xZ]
 congr 1
 have:∀(l:List Xv) (r:S×Bool),(∀y∈l,∀s,iP step y.er s=iP step y s)->oT step (l.map Xv.er) r=oT step l r:=λl=>by
  induction l with
  |nil=>intro r _;rfl
  |cons y l a=>
   intro r b;unfold oT at a⊢;rw[cD,bD,bD,b y (by simp)];exact a _ λz d=>b z (by simp[d])
 exact this _ _ e
section
variable {w0:ah}
def VS:∀(x:Xv),fE x<=100000->∀w,x.In w->CP 237 #[.agg x.cells.toArray] w (λr z=>r=iv (qc x)/\aZ w z []):=Xv.ind λx t D w h=>by
 refine @Fk _ x.u _ _ _ _ _ _ ?_;have C:=tg x;refine bE x.cells.toArray λE G j=>⟨_,_,_,j.aj 0 rfl 8,⟨λn i l m=>∃k:Nat,i=k/\k<=x.args.length/\m=x.args.length-k/\n=(((x.args.take k).map qc).foldl Nat.max 0:Nat)/\aZ w l [],⟨x.args.length,0,rfl,by omega,by omega,rfl,j.aK⟩,?_⟩⟩;rintro l m n i ⟨k,rfl,B,b,rfl,c⟩-
 by_cases a:(k:Int)<(x.args.length:Int)
 .obtain⟨y,f⟩:=dX x.args k (by omega);have b:=ak f;obtain⟨q,p,e⟩:=(h.aK c).fl.at f;refine di a (av p ⟨by omega,by omega,_,y.u,_,_,_,_,e,(St.start' c).one.aY gj.cells.toArray λF H v=>v.aR 0 rfl y.cells rfl y.one λA g=>⟨_,y.u,_,_,_,_,g.cellsIn 0 rfl,?_⟩⟩);have s:=tD b;refine bF (t y b (by omega) A ((h.aK g.aK).sub y b)) λI o=>⟨_,rfl,x.args.length-(k+1),by omega,k+1,gC (by omega),by omega,rfl,?_,(g.quiet o).aK⟩;rw[bJ f,aS,cG];show _=((Nat.max _ (qc y):Nat):Int);generalize((x.args.take k).map qc).foldl Nat.max 0=d;have:Nat.max d (qc y)=if qc y>d then qc y else d:=by
   show max _ _=_;rw[Nat.max_def]
   split<;>split<;>omega
  rw[this]
  split<;>split<;>omega
 obtain rfl:k=x.args.length:=by omega
 have hd:=LI x;rw[vA] at hd;rw[aH];refine dz a ⟨?_,c⟩;rw[vA];generalize(x.args.map qc).foldl Nat.max 0=d at hd⊢;rw[gC (by omega),iR];rfl
variable {S:Type} {step:S->Xv->S×Bool} {A:S->bP} {v:Value}
def MV(P:∀(w:ah) (B:bP) (s:S) (y:Xv) (R:Ending->ah->Prop),St w0 w (star (A s) B)->y.In w->fE y<=100000->(∀b,St w0 b (star (A (step s y).1) B)->R (.returned (.bool (step s y).2)) b)->rZ prog v #[.agg y.cells.toArray] w R):
  ∀(x:Xv),fE x<=100000->(∀{b},aZ w0 b []->x.In b)->∀(w:ah) (B:bP) (s:S),St w0 w (star (A s) B) ->
  CP 239 #[.agg #[v],.agg x.cells.toArray] w (λr b=>r=.bool (iP step x s).2/\St w0 b (star (A (iP step x s).1) B)):=Xv.ind λx D Q t w B s h=>by
 refine @yF _ _ x.u _ _ _ _ _ _ ?_;have hl:=tg x;refine(h.yW).aY #[v] λT w1 V=>V.aY x.cells.toArray λU Y E=>?_;let M:S->List bP:=λs=>[A s,ay U x.cells.toArray 73,ay T #[v] 284,B];have I:=E.aM [2,0,1,3];have f:∀{b:ah} {s:S},St w0 b (Sep (M s))->St w0 b (star (A s) B):=λh=>(h.aM [0,3]).pair;refine⟨_,E.aj 1 rfl 0,_,x.u,_,_,_,_,E.cellsIn 0 rfl,P Y _ s x _ I (t I.aK) Q λZ n=>⟨_,rfl,?_⟩⟩;have n:St w0 Z (Sep (M (step s x).1)):=n;have g:=tH step x s
 cases hb:(step s x).2 with
 |false=>
  rw[af (by rw[hb];decide)] at g;exact cT rfl ⟨by rw[g],by rw[g];exact f n⟩
 |true=>
  rw[ag hb] at g;refine cF rfl ⟨_,_,_,n.aj 1 rfl 8,⟨λi K m=>∃(k:Nat) (c:S),i=k/\k<=x.args.length/\m=x.args.length-k/\oT step (x.args.drop k) (c,true)=iP step x s/\St w0 K (Sep (M c)),⟨x.args.length,0,_,rfl,by omega,by omega,g.symm,n⟩,?_⟩⟩;rintro K m i ⟨k,c,rfl,hk,o,a,F⟩-
  by_cases j:(k:Int)<(x.args.length:Int)
  .have d:k<x.args.length:=by omega
   have C:=gE d;rw[bO d] at a;generalize x.args[k]'d=y at C a;have o:=ak C;obtain⟨q,O,p⟩:=(t F.aK).fl.at C;refine di j (av O ⟨by omega,by omega,_,y.u,_,_,_,_,p,F.aY gj.cells.toArray λr3 w5 W=>W.aR 0 rfl y.cells rfl y.one λw6 G=>⟨_,G.cellsIn 3 rfl,_,y.u,_,_,_,_,G.cellsIn 0 rfl,?_⟩⟩);have X:=G.aM [1,2,3,4];refine bF (D y o (by have:=tD o;omega) (λN=>(t N).sub y o) w6 _ c X) λw7 J=>⟨_,rfl,?_⟩;rw[oT,bD,ag rfl] at a
   cases e:(iP step y c).2 with
   |true=>
    have H:iP step y c=((iP step y c).1,true):=by rw[<-e]
    rw[H] at a;exact cF rfl ⟨x.args.length-(k+1),by omega,k+1,_,gC (by omega),by omega,rfl,a,J⟩
   |false=>
    have H:iP step y c=((iP step y c).1,false):=by rw[<-e]
    have L:∀(l:List Xv) (r:S×Bool),r.2=false->l.foldl (λr y=>if r.2 then iP step y r.1 else r) r=r:=λl=>by
     induction l with
     |nil=>intro r _;rfl
     |cons z l D=>intro r e;rw[bD,af (by rw[e];decide),D r e]
    rw[L _ _ e] at a;exact cT rfl ⟨by rw[<-a,e],by rw[<-a];exact f J⟩
  obtain rfl:k=x.args.length:=by omega
  rw[gH] at a;exact dz j ⟨by rw[<-a];rfl,by rw[<-a];exact f F⟩
end
section
variable {w0:ah} {p:Nat} {B:bP}
def uu.yZ{w:ah}{l:List Tk}{e:Int}{b:bP}(h:uu w0 w p l e B)(k:dU B b):uu w0 w p l e b:=by
 obtain⟨a,c,d,f,s⟩:=h;exact⟨a,c,d,f,s.weak (dU.right (dU.right (dU.left k)))⟩
def uu.push{w:ah}{l:List Tk}{e:Int}{A:bP}{m:List bP}(h:uu w0 w p l e (star A (star (Sep m) B))):uu w0 w p l e (star (Sep (A::m)) B):=h.yZ fF.assoc'.weak
abbrev psV (a:OA) (c:Nat) (l:List Pr) (p:Nat):Array Value:=#[.slice a l.length c,pt p]
def XS(w0:ah)(p:Nat)(a:OA)(c:Nat)(l:List Pr)(f:Nat):Prop:=
 ∀(B:bP) (σ:Sc) (w:ah),σ.1.length<f->sY w0 w p σ B ->
  CP 276 #[.agg (psV a c l p)] w (λr b=>∃x:Xv,x.er=(kE l f σ).1/\r=.agg x.cells.toArray/\sY w0 b p (kE l f σ).2 (star (held x.In) B))
variable {a:OA} {c:Nat} {l:List Pr}
def XY{f:Nat}(H:XS w0 p a c l f){σ:Sc}{w:ah}(h:sY w0 w p σ B)(s:σ.2=0->σ.1.length<f):
  CP 336 #[.agg (psV a c l p)] w (λr b=>∃x:Xv,x.er=(j3 (kE l f) σ).1/\r=.agg x.cells.toArray/\sY w0 b p (j3 (kE l f) σ).2 (star (held x.In) B)):=by
 refine(p6 pP.1).2.2.2.2.2.1 (bE (psV a c l p) λA D r=>r.aY gj.cells.toArray λC o m=>?_);have j:=h.add m;refine⟨_,m.aj 1 rfl 1,bg (ET j) ?_⟩;rintro v o ⟨rfl,rfl⟩;refine⟨_,rfl,?_⟩
 by_cases d:σ.2=0
 .have g:j3 (kE l f) σ=kE l f σ:=by rw[j3,af (by simpa using d)]
  rw[g];refine iI d ⟨_,_,_,_,m.cellsIn 1 rfl,bg (H _ σ o (s d) j) ?_⟩;rintro v k ⟨x,ex,rfl,i⟩;obtain⟨q,n,b⟩:=i.push.out;exact⟨_,x.u,_,_,_,_,rfl,n.aR 1 rfl x.cells rfl (Xv.one _) λz e=>⟨_,x.u,_,_,_,_,e.cellsIn 1 rfl,x,ex,rfl,(b (m':=[held x.In,_,_,_]) e).yZ (fF.assoc.weak.trans (dU.right ((dU.left (dU.none _)).trans (fF.swap.trans (fF.unit' B)).weak)))⟩⟩
 have g:j3 (kE l f) σ=(gj,σ):=by rw[j3,ag d]
 rw[g];obtain⟨q,n,b⟩:=j.out;refine gM d (n.aR 0 rfl gj.cells rfl (Xv.one _) λz e=>⟨_,z6,_,_,_,_,e.cellsIn 0 rfl,gj,E9,rfl,?_⟩);have t:=e.oM (Q:=gj.In) λw=>.mk (λi y k=>by simp[gj,Xv.args] at k) (λy k=>by simp[gj,Xv.args] at k);exact(b (m':=[held gj.In,_,_,_]) t).yZ (fF.assoc.weak.trans (dU.right ((dU.left (dU.none _)).trans (fF.swap.trans (fF.unit' B)).weak)))
end
section
variable {w0:ah} {p:Nat} {B:bP} {a:OA} {c:Nat} {l:List Pr}
def Jr{A C:bP}{m:List bP}:dU (star (Sep (A::m)) C) (star A C):=fF.assoc.weak.trans (dU.right ((dU.left (dU.none _)).trans (fF.swap.trans (fF.unit' C)).weak))
def exM(x:Xv)(b:Tk)(r1 r2 r3 r4:Nat)(a:OA)(c:Nat)(l:List Pr)(p:Nat):List bP:=
 [ay r4 x.cells.toArray 73,Cd x.a x.c x.args,held (y9 x.args),ay r3 b.cells.toArray 350,ay r2 gj.cells.toArray 73,ay r1 (psV a c l p) 315,emp]
theorem Su(hr:∀{E},aZ w0 E []->kf E a l)(hc:l.length<=c)(ho:iu l):∀f,XS w0 p a c l f
 |0=>λ_ _ _ h _=>absurd h (gT _)
 |f+1=>λB o w hlen h=>by
  have H:=Su hr hc ho f;refine pP.1.2.2.2.1 (bE (psV a c l p) λW w1 s1=>s1.aY gj.cells.toArray λX w2 s2=>⟨_,s2.aj 1 rfl 1,?_⟩);have T:=h.add s2;refine s2.qu (yp T) λw3 s3=>?_;generalize J:dr o.1 o.2=d at *;refine⟨_,_,_,_,rfl,s3.aY qC.cells.toArray λY w4 s4=>s4.aR 0 rfl d.cells rfl (Tk.one _) λw5 s5=>?_⟩;let m0:List bP:=[ay Y d.cells.toArray 350,ay X gj.cells.toArray 73,ay W (psV a c l p) 315,emp];have h5:=h.add s5;have fr:∀{E:ah} {σ':Sc} {m:List bP},sY w0 E p σ' (star (Sep m) B)->St w0 E (Sep m):=λh=>h.frame.first;refine⟨λn w6=>n=jS d/\sY w0 w6 p o (star (Sep m0) B),?_,?_⟩
  .rintro w6 _ ⟨rfl,h6⟩-;refine⟨λw7=>sY w0 w7 p (zg o) (star (Sep m0) B),?_,?_⟩
   .rintro w7 h7 -;obtain⟨B',t7,O⟩:=h7.out;refine t7.aY gj.cells.toArray λM w8 s8=>s8.aR 0 rfl (Xv.mk (jS d) z6 0 none 0 []).cells rfl (Xv.one _) λw9 s9=>?_
    by_cases L:jS d=1
    ·
     have P:kE l (f+1) o=(.mk 1 (dI l (zg o)).1.1 (dI l (zg o)).1.2 none 0 [],(dI l (zg o)).2):=by rw[kE,J,ag L]
     have h9:=O (m':=ay M (Xv.mk (jS d) z6 0 none 0 []).cells.toArray 73::m0) s9;refine gM L ⟨_,_,_,_,s9.cellsIn 3 rfl,bF (Kn h9 hr hc ho) λv k=>?_⟩;obtain⟨B2,r,b⟩:=k.out;let x:Xv:=.mk (jS d) (dI l (zg o)).1.1 (dI l (zg o)).1.2 none 0 [];refine⟨_,_,rfl,r.mA 0 1 rfl (Xv.mk (jS d) (dI l (zg o)).1.1 0 none 0 []).cells.toArray (show 7<=9 by decide) (I6.one _) rfl λz s=>s.cL 0 rfl (j:=7) (show 7<9 by decide) rfl λA e=>⟨_,x.u,_,_,_,_,e.cellsIn 0 rfl,e.aR 2 rfl x.cells rfl (Xv.one _) λC g=>⟨_,x.u,_,_,_,_,g.cellsIn 2 rfl,x,?_,rfl,?_⟩⟩⟩
     .rw[P,Xv.pN];show Xv.mk (jS d) _ _ none 0 []=Xv.mk 1 _ _ none 0 [];rw[L];rfl
     rw[P];have t:=g.oM (Q:=x.In) λw=>.mk (λi y q=>by simp[x,Xv.args] at q) (λy q=>by simp[x,Xv.args] at q);exact(b (m':=[held x.In,_,_,_,_,_]) t).yZ Jr
    have P:kE l (f+1) o=Jx l (kE l f) (jS d) (j3 (kE l f) (wC o)).1 (j3 (kE l f) (wC o)).2:=by rw[kE,J,af L]
    have h1':jS (dr o.1 o.2)≠1:=by rw[J];exact L
    let x0:Xv:=.mk (jS d) z6 0 none 0 [];have t9:=(St.oM (l:=[_,_,_,_,_,_,_]) (s9.gB (e:=73) (sz:=9) (f:=Xv.cells)) (Q:=y9 []) (λw=>by simp[y9])).aM [2,1,0,3,4,5,6,7];let F:Xv->bP:=λx=>star (Sep (exM x d W X Y M a c l p)) B;have h9:sY w0 w9 p (zg o) (F x0):=O (m':=exM x0 d W X Y M a c l p) t9;have q:∀{E:ah} {σ':Sc} {x:Xv},sY w0 E p σ' (F x)->St w0 E (Sep (exM x d W X Y M a c l p)):=λh=>h.frame.first;have app:∀{E:ah} {σ':Sc} {x y:Xv} {R:ah->Prop},x.args.length<=5000->sY w0 E p σ' (star (held y.In) (F x)) ->
      (∀r s K,sY w0 K p σ' (F (.mk x.op x.u x.v r s (x.args++[y])))->R K) ->
      E.cell? ⟨M,8,none⟩=some (.slice x.a x.args.length x.c)/\gK E (.cells (iv y.op::(y.u.on [iv y.v,.slice y.a y.args.length y.c]):List Value).toArray 73) λr5 b=>b.cell? ⟨M,8,none⟩=some (.slice x.a x.args.length x.c) /\
       kg prog (Builtin.append_ #[42,42] 42 #[.slice x.a x.args.length x.c,.slice (qs r5) 1 1]) b λk v=>∃(r:OA) (g s:Nat),k=.slice r g s/\kB v ⟨M,8,none⟩ (.slice r g s) R:=by
     intro E σ' x y R D C k;obtain⟨B2,t,S⟩:=C.push.out;refine⟨t.aj 1 rfl 8,t.aY y.cells.toArray λr5 b t17=>⟨t17.aj 2 rfl 8,?_⟩⟩;have A:iA 9 Xv.cells b (qs r5) [y]:=λi z g=>by
      obtain⟨rfl,rfl⟩:i=0/\z=y:=by
       cases i with
       |zero=>simp at g;exact⟨rfl,g.symm⟩
       |succ i=>simp at g
      exact⟨_,_,rfl,by rw[gz,wq];exact t17.cellsIn 0 rfl,rfl,rfl⟩
     refine dW QB Xv.len Xv.one (t17.out 3 rfl) (a2:=qs r5) (c2:=1) (l2:=[y]) A (by simp;omega) (by simp;omega) λr s v t18=>?_;have t19:=t18.back (show 3<10 by decide);refine t19.cL 2 rfl (j:=8) (show 8<9 by decide) rfl λK t20=>k r s K ?_;have t21:=(t20.aM [1,4,2,3,5,6,7,8,9]).kr (cV _) (cV _) λw L T=>(show y9 (x.args++[y]) w from λz g=>(aB.1 g).elim (T z) λe=>by rw[aI.1 e];exact L);exact S (m':=exM (.mk x.op x.u x.v r s (x.args++[y])) d W X Y M a c l p) (t21.aM [1,2,0,3,4,5,6,7])
    refine iI L ⟨_,(q h9).aj 5 rfl 1,bF (Db h9) λw14 N=>?_⟩;have N:sY w0 w14 p (zg o).next (F x0):=N;refine⟨_,_,_,_,rfl,_,(q N).aj 5 rfl 1,bF (pg N [40]) λw15 C=>?_⟩;have C:sY w0 w15.drew p (wC o) (F x0):=C.quiet (aZ.drew w15 []);have h4000:(wC o).1.length<=4000:=by obtain⟨_,_,_,T,_⟩:=C;exact T
    refine⟨rfl,_,_,_,(q C).aj 0 rfl 8,_,_,_,_,(q C).cellsIn 5 rfl,bg (XY H C λV=>by have:=LP h1' V;omega) ?_⟩;rintro v w16 ⟨y,Z,rfl,h16⟩;have l3:(j3 (kE l f) (wC o)).2.1.length<=(wC o).1.length:=CN (Ho l f) _;generalize j3 (kE l f) (wC o)=g at P Z h16 l3;refine⟨_,y.u,_,_,_,_,rfl,app (x:=x0) (by show 0<=5000;omega) h16 λr s K h19=>⟨λw20=>∃(x:Xv) (τ:Sc),x.er=(kE l (f+1) o).1/\τ.exp [41]=(kE l (f+1) o).2/\sY w0 w20 p τ (F x),?_,?_⟩⟩
    .rintro w20 ⟨x,τ,ex,D,i⟩-;refine⟨_,(q i).aj 5 rfl 1,bF (pg i [41]) λA b=>?_⟩;have b:sY w0 A p (τ.exp [41]) (F x):=b;rw[D] at b;obtain⟨B2,t,S⟩:=b.out;refine⟨rfl,_,x.u,_,_,_,_,t.cellsIn 0 rfl,t.aR 4 rfl x.cells rfl (Xv.one _) λG t22=>⟨_,x.u,_,_,_,_,t22.cellsIn 4 rfl,x,ex,rfl,?_⟩⟩;have t23:=(t22.aM [1,2,0,3,4,5,6,7]).kr (dS Xv.len) (cV _) λw L T=>(Xv.In.mk L T:x.In w);exact(S (m':=[held x.In,_,_,_,_,_]) t23).yZ Jr
    refine⟨λb w23=>b=decide (jS d=2\/jS d=3)/\sY w0 w23 p g.2 (F (.mk (jS d) z6 0 r s [y])),?_,?_⟩
    .rintro w23 _ ⟨rfl,D⟩-
     by_cases A:jS d=2\/jS d=3
     .have G:kE l (f+1) o=(.mk (jS d) z6 0 none 0 (ng (kE l f) g.2.1.length [g.1] g.2).1,(ng (kE l f) g.2.1.length [g.1] g.2).2.exp [41]):=by rw[P,Jx,ag A]
      refine di A ⟨λw24 m=>∃(n:Nat) (i:List Xv) (a':OA) (c':Nat) (σ':Sc),m=σ'.1.length/\σ'.1.length<=n/\i.length+σ'.1.length<=4001/\σ'.1.length<=(wC o).1.length/\ng (kE l f) n (i.map Xv.er) σ'=ng (kE l f) g.2.1.length [g.1] g.2/\sY w0 w24 p σ' (F (.mk (jS d) z6 0 a' c' i)),⟨_,g.2.1.length,[y],r,s,g.2,rfl,aD _,by simp;omega,l3,by rw[bH,Z],D⟩,?_⟩;rintro w24 m ⟨n,i,a',c',σ',rfl,hn,hac,hl',V,h24⟩-;refine⟨_,(q h24).aj 5 rfl 1,bF (ym h24 [44]) λw25 I=>?_⟩;have I:sY w0 w25 p (σ'.acc [44]) (F (.mk (jS d) z6 0 a' c' i)):=I;refine⟨_,rfl,?_⟩
      cases hb:kA [44] σ'.1 σ'.2 with
      |true=>
       have hlen':=CM hb;obtain⟨n,rfl⟩:∃k,n=k+1:=⟨n-1,by omega⟩;rw[ng,ag hb] at V;have U:=I.quiet (aZ.drew w25 []);have Lf:=Hl o;refine cT rfl ⟨_,_,_,(q U).aj 0 rfl 8,_,_,_,_,(q U).cellsIn 5 rfl,bg (XY H U λ_=>by omega) ?_⟩;rintro v w26 ⟨z,ez,rfl,h27⟩;have l4:(j3 (kE l f) (σ'.acc [44])).2.1.length<=(σ'.acc [44]).1.length:=CN (Ho l f) _;refine⟨_,z.u,_,_,_,_,rfl,app (x:=.mk (jS d) z6 0 a' c' i) (by show i.length<=5000;omega) h27 λa9 c9 w29 h29=>⟨_,?_,n,i++[z],a9,c9,_,rfl,?_,?_,?_,?_,h29⟩⟩
       .omega
       .omega
       .rw[aA,aG];omega
       .omega
       rw[aS,bH,ez];exact V
      |false=>
       have k:=Dp hb;rw[k] at I;have z:ng (kE l f) n (i.map Xv.er) σ'=(i.map Xv.er,σ'):=by
        cases n with
        |zero=>rfl
        |succ n=>rw[ng,af (by rw[hb];decide)]
       rw[z] at V;refine cF rfl ⟨_,σ',?_,?_,I⟩
       .rw[G,<-V,Xv.pN];rfl
       rw[G,<-V]
     refine dz A ?_
     by_cases k:jS d=4
     .have G:kE l (f+1) o=(.mk (jS d) (dI l (g.2.exp [44])).1.1 (dI l (g.2.exp [44])).1.2 none 0 [g.1],(dI l (g.2.exp [44])).2.exp [41]):=by rw[P,Jx,af A,ag k]
      refine gM k ⟨_,(q D).aj 5 rfl 1,bF (pg D [44]) λI i=>?_⟩;have i:sY w0 I p (g.2.exp [44]) (F (.mk (jS d) z6 0 r s [y])):=i;refine⟨rfl,_,_,_,_,(q i).cellsIn 5 rfl,bF (Kn i hr hc ho) λU z=>?_⟩;obtain⟨B2,t,S⟩:=z.out;refine⟨_,_,rfl,t.mA 0 1 rfl (Xv.mk (jS d) (dI l (g.2.exp [44])).1.1 0 r s [y]).cells.toArray (show 7<=9 by decide) (I6.one _) rfl λw32 t32=>t32.cL 0 rfl (j:=7) (show 7<9 by decide) rfl λw33 t33=>⟨.mk (jS d) (dI l (g.2.exp [44])).1.1 (dI l (g.2.exp [44])).1.2 r s [y],(dI l (g.2.exp [44])).2,?_,by rw[G],S (m':=exM (.mk (jS d) (dI l (g.2.exp [44])).1.1 (dI l (g.2.exp [44])).1.2 r s [y]) d W X Y M a c l p) t33⟩⟩;rw[G,Xv.pN,<-Z];rfl
     refine iI k ?_
     by_cases z:jS d=5
     .have G:kE l (f+1) o=(.mk (jS d) z6 (nP 1000000 (g.2.exp [44]).1 (g.2.exp [44]).2) none 0 [g.1],((g.2.exp [44]).rz 1000000).exp [41]):=by rw[P,Jx,af A,af k,ag z]
      refine gM z ⟨_,(q D).aj 5 rfl 1,bF (pg D [44]) λU i=>?_⟩;have i:sY w0 U p (g.2.exp [44]) (F (.mk (jS d) z6 0 r s [y])):=i;refine⟨rfl,_,(q i).aj 5 rfl 1,bF (BL i 1000000) λw35 I=>?_⟩;obtain⟨B2,t,S⟩:=I.out;refine⟨_,rfl,t.cL 0 rfl (j:=7) (show 7<9 by decide) rfl λw36 t36=>⟨.mk (jS d) z6 (nP 1000000 (g.2.exp [44]).1 (g.2.exp [44]).2) r s [y],(g.2.exp [44]).rz 1000000,?_,by rw[G],S (m':=exM (.mk (jS d) z6 (nP 1000000 (g.2.exp [44]).1 (g.2.exp [44]).2) r s [y]) d W X Y M a c l p) t36⟩⟩;rw[G,Xv.pN,<-Z];rfl
     have G:kE l (f+1) o=(.mk (jS d) z6 0 none 0 [g.1],g.2.exp [41]):=by rw[P,Jx,af A,af k,af z]
     refine iI z ⟨_,g.2,?_,by rw[G],D⟩;rw[G,Xv.pN,<-Z];rfl
    refine cBq (λg2=>⟨by rw[dT (Or.inl g2)];simpa using g2,h19⟩) λg2=>⟨?_,h19⟩
    by_cases i:jS d=3
    .rw[dT (Or.inr i)];simpa using i
    rw[dF (by rintro(h|h);exact g2 h;exact i h)];simpa using i
   exact cBq (λb=>⟨_,(fr h6).aj 2 rfl 1,bF (sR h6 2) λg e=>⟨rfl,by rw[zg,J,ag b];exact e⟩⟩) λb=>by rw[zg,J,af b];exact h6
  exact⟨_,s5.aj 0 rfl 0,cBq (λe=>⟨_,s5.aj 0 rfl 1,bF (ZG w5 d.t) λg b=>⟨_,rfl,by rw[jS,ag e],h5.quiet b⟩⟩) λe=>⟨by rw[jS,af e],h5⟩⟩
end

import Derived.Test.YtmhhlijfepaphaaGreatDoorH14
set_option linter.all false
set_option maxRecDepth 100000
set_option maxHeartbeats 4000000
namespace Go.Proofs.YtmhhlijfepaphaaGreatDoor
open Go Go.Vc Go.Vt _root_.Go.Proofs.Tryz
def rE:=many xP [en func78 [] [(7,[(6,.s (.int .i64))])],en func95 [] [(58,[(5,.s .slice),(6,.s (.int .i64))]),(232,[(22,.s .bool)])],en func146 [] [],en func79 [] [(14,[(21,.s .bool)]),(127,[(8,.s (.int .i64))]),(255,[(8,.s (.int .i64))])]] (by conv=>lhs;reduce) (by kernel_rfl) λx=>by
 dsimp only[qq,qm,qk,qj,qy,qA,qB,GH,uv,en,FG,wrap,dc,dn,DH,gU,ID,U.I,U.B,U.S,U.N,U.A,U.O,U.W,U.V,U.L,U.U6,U.C,U.M,U.F,U.E,HV,HA,GM,zS,jU,gJ,vZ,vI,TJ,Nat.reduceSub,Nat.reduceAdd,Int.reduceOfNat,Int.reduceNeg,UInt8.reduceOfNat] at x
 exact x
def abK:=many xP [en func80 [] [(31,[(5,.s .slice)]),(63,[]),(4090,[(9,.s .bool),(10,.s (.int .i64))]),(16361,[(9,.s .bool)]),(1047114,[(11,.s (.int .i64)),(12,.s (.int .i64))]),(2047,[]),(4094,[(132,.s .bool)]),(4010,[(7,.s (.int .i64))]),(16041,[])]] (by conv=>lhs;reduce) (by kernel_rfl) λx=>by
 dsimp only[qq,qm,qk,qj,qy,qA,qB,GH,uv,en,FG,wrap,dc,dn,DH,gU,ID,U.I,U.B,U.S,U.N,U.A,U.O,U.W,U.V,U.L,U.U6,U.C,U.M,U.F,U.E,HV,HA,GM,zS,jU,gJ,vZ,vI,TJ,Nat.reduceSub,Nat.reduceAdd,Int.reduceOfNat,Int.reduceNeg,UInt8.reduceOfNat] at x
 exact x
def aaT:=many xP [en func38 [] [(58,[(5,.s (.int .i64))]),(1864,[(73,.s .bool)]),(7462,[(6,.s (.int .i64))]),(29848,[(101,.s .bool)]),(119396,[(158,.s .bool)])],en func133 [] [],en func73 [] [(7,[]),(15,[]),(122,[(15,.s .bool)])],en func134 [] [],en func75 [] [(7,[(3,.s .str)]),(15,[(3,.s .str)]),(122,[(18,.s .bool)]),(7866,[(3,.s .str),(4,.s (.int .i64))])]] (by conv=>lhs;reduce) (by kernel_rfl) λx=>by
 dsimp only[qq,qm,qk,qj,qy,qA,qB,GH,uv,en,FG,wrap,dc,dn,DH,gU,ID,U.I,U.B,U.S,U.N,U.A,U.O,U.W,U.V,U.L,U.U6,U.C,U.M,U.F,U.E,HV,HA,GM,zS,jU,gJ,vZ,vI,TJ,Nat.reduceSub,Nat.reduceAdd,Int.reduceOfNat,Int.reduceNeg,UInt8.reduceOfNat] at x
 exact x
def aaS:=many xP [en func27 [] [(6,[(16,.s .bool)]),(14,[(40,.s .bool)])],en func30 [] [],en func136 [] [],en func135 [] [],en func31 [] [],en func86 [] [(58,[(3,.s (.int .u64)),(4,.s (.int .i64))])],en func87 [] [(58,[(0,.s (.int .u64)),(5,.s .str),(6,.s (.int .i64))])]] (by conv=>lhs;reduce) (by kernel_rfl) λx=>by
 dsimp only[qq,qm,qk,qj,qy,qA,qB,GH,uv,en,FG,wrap,dc,dn,DH,gU,ID,U.I,U.B,U.S,U.N,U.A,U.O,U.W,U.V,U.L,U.U6,U.C,U.M,U.F,U.E,HV,HA,GM,zS,jU,gJ,vZ,vI,TJ,Nat.reduceSub,Nat.reduceAdd,Int.reduceOfNat,Int.reduceNeg,UInt8.reduceOfNat] at x
 exact x
def El:=aaS.2.2.1
end Go.Proofs.YtmhhlijfepaphaaGreatDoor
namespace Go.Proofs.YtmhhlijfepaphaaGreatDoor
open Go Go.Vc _root_.Go.Proofs.Tryz
structure Ck.gi (C:Ck) (w:ah):Prop where
 ask:iA 6 I6.vs w C.xa C.ask
 bd:iA 1 bl w C.ya C.bd
 dp:iA 1 bl w C.za C.dp
 cl:iA 9 Rn.cells w C.ka C.cl
 i:tW C.cl w
 k:C.cl.length<=C.kc
def Ck.gi.aK{C:Ck}{w a:ah}(h:C.gi w)(hc:aZ w a []):C.gi a:=⟨h.ask.aK hc,h.bd.aK hc,h.dp.aK hc,h.cl.aK hc,λx b=>(h.i x b).aK hc,h.k⟩
set_option maxHeartbeats 1000000 in
theorem vM{w:ah}{C:Ck}(h:C.gi w)(hk:C.Ok)(n:Int):
  CP 95 #[.agg C.cells.toArray,iv n] w (λr b=>∃a c,r=.slice a (oA C n).length c/\St w b (CG a c (oA C n))):=by
 refine rE.2.1 ?_;have hd:=hk.dp;have X:=hk.cl;refine bE C.cells.toArray λL w1 U=>?_;have R:=RT C n;refine⟨λa l c i N m=>∃k:Nat,i=k/\k<=(oA C n).length/\m=(oA C n).length-k/\l=((oA C n).take k).length/\St w N (Sep [CG a c ((oA C n).take k),ay L C.cells.toArray 41,emp]),⟨(oA C n).length,0,rfl,by omega,by omega,rfl,U.gB⟩,?_⟩;rintro N m a l c i ⟨k,rfl,S,Y,rfl,t⟩-;have inr:k<(oA C n).length->(0<=n/\n<(C.s.bd.length:Int))/\oA C n=p9 C n.toNat:=λF=>by
  unfold oA at F⊢
  split at F
  .simp at F
  rename_i g;rw[af g];exact⟨by omega,rfl⟩
 refine⟨λb z=>b=decide (k<(oA C n).length)/\St w z (Sep [CG a c ((oA C n).take k),ay L C.cells.toArray 41,emp]),?_,_,_,_,t.aj 1 rfl 8,?_⟩
 rotate_left
 .refine cBq (λg=>?_) λg=>⟨by rw[dF (by omega)],t⟩
  by_cases g1:n>=0
  .refine di g1 ⟨_,_,_,t.aj 1 rfl 17,?_,t⟩
   by_cases g2:n<(C.dp.length:Int)
   .have e:(oA C n).length=C.cl.length:=by unfold oA;rw[af (by omega)];simp[p9]
    rw[dT g2,dT (by omega)]
   have e:oA C n=[]:=by unfold oA;rw[ag (by omega)]
   rw[dF g2,e];rfl
  have e:oA C n=[]:=by unfold oA;rw[ag (by omega)]
  exact dz g1 ⟨by rw[e];rfl,t⟩
 rintro z b ⟨rfl,I⟩-
 by_cases e:k<(oA C n).length
 .obtain⟨Z,P⟩:=inr e;have o:k<C.cl.length:=by omega
  have A:=gE o;generalize C.cl[k]'o=x at A;have r:=ak A;have g:(oA C n)[k]?=some ⟨x.p,x.ask.getD n.toNat z6⟩:=by rw[P,p9,aL,A];rfl
  have Q:=(hk.cz x r).ask;have K:x.ask[n.toNat]?=some (x.ask.getD n.toNat z6):=by rw[au,gE (show n.toNat<x.ask.length by omega)];rfl
  generalize x.ask.getD n.toNat z6=u at g K;have y:=I.quiet (aZ.drew z []);obtain⟨q,J,f⟩:=(h.cl.aK y.aK).at A;obtain⟨q2,H,E⟩:=(((h.i x r).ask).aK y.aK).at K;have T:aU z.drew (Addr.add q (k*9)) 0 x.p.vs:=fm _ 0 λj v d=>by
   have B:j<6:=(ai.1 d).1;exact bX f j v (by
    match j,B,d with
    |0,_,d|1,_,d|2,_,d|3,_,d|4,_,d|5,_,d=>simpa[Rn.cells,I6.on,I6.vs] using d)
  have D:z.drew.cell? (Addr.add (Addr.add q (k*9)) 6)=some (.slice x.xa x.ask.length x.xc):=by
   have:=bX f 6 _ rfl
   rwa [az] at this
  have G:((oA C n).take k).length<=100:=by rw[aW];omega
  refine di e ⟨_,_,_,y.aj 1 rfl 8,av J ⟨by omega,by omega,x.p,T,_,_,_,y.aj 1 rfl 8,av J ⟨by omega,by omega,x.xa,x.ask.length,x.xc,D,av H ⟨by omega,by omega,u,E,y.aY (⟨x.p,u⟩:Ch).cells.toArray λr2 w5 M=>Nq (x:=⟨x.p,u⟩) (M.out 1 rfl) (M.cellsIn 0 rfl) (by omega) λV W w6 B=>?_⟩⟩⟩⟩;have B:=B.back (i:=1) (by show 1<4;decide);have O:(oA C n).take k++[⟨x.p,u⟩]=(oA C n).take (k+1):=by rw[bJ g]
  rw[O] at B⊢;exact mS (by omega) ⟨rfl,B.aM [1,2,3]⟩
 obtain rfl:k=(oA C n).length:=by omega
 rw[aH] at I⊢;exact dz e ⟨_,_,rfl,I.first⟩
def St.lN{w0 w:ah}{l:List bP}{B:bP}(i:Nat)(s:St w0 w (Sep l))(e:l[i]?=some B):St w0 w B:=(s.out i e).first
def iX:Array Value:=#[.slice none 0 0,.slice none 0 0,.slice none 0 0,.slice none 0 0,iv 0,iv 0,iv 0,iv 0,.slice none 0 0,iv 0,iv 0,iv 0,iv 0,iv 0,iv 0,.slice none 0 0,.slice none 0 0,.slice none 0 0,.bool false]
set_option maxHeartbeats 1000000 in
theorem AD{w0 w:ah}{B:bP}{C:Ck}(s:St w0 w (Sep [held C.gi,B]))(h8:C.dp.length<=1000):
  CP 146 #[.agg C.cells.toArray] w (λr b=>∃a:Ck,a.er=(mh C).er/\a.s=C.s/\r=.agg a.cells.toArray/\St w0 b (Sep [held a.gi,B])):=by
 refine rE.2.2.1 ?_;have d:∀{g1 g2:Nat},(((C.cells.toArray.setIfInBounds 15 (.slice (qs g1) C.dp.length C.dp.length)).setIfInBounds 16 (.slice (qs g2) C.dp.length C.dp.length))=({mh C with xa:=qs g1,xc:=C.dp.length,ya:=qs g2,yc:=C.dp.length}:Ck).cells.toArray):=by
  intro g1 g2;have b:(mh C).ask.length=C.dp.length:=by simp[mh]
  have c:(mh C).bd.length=C.dp.length:=by simp[mh]
  simp only[Ck.cells];rw[b,c];rfl
 refine s.aY C.cells.toArray λy A m=>m.aY iX λz D f=>⟨_,_,_,f.aj 1 rfl 17,iD (x:=z6) CH fU rfl f (n:=C.dp.length) (by omega) (by omega) λg1 E u o=>St.cL (l:=[_,_,_,_,_]) o 2 rfl (j:=15) (show 15<19 by decide) rfl λF g=>⟨_,_,_,g.aj 2 rfl 17,iD (x:=false) yK iH rfl g (n:=C.dp.length) (by omega) (by omega) λg2 G v q=>?_⟩⟩;refine St.cL (l:=[_,_,_,_,_,_]) q 3 rfl (j:=16) (show 16<19 by decide) rfl λH e=>?_;let a:Ck:={mh C with xa:=qs g1,xc:=C.dp.length,ya:=qs g2,yc:=C.dp.length};rw[d] at e;refine Ex8<|Ex8<|⟨_,_,_,a.p,Ex8 ⟨_,_,e.cellsIn 3 rfl,e.aR 2 rfl a.cells rfl a.one λI h=>(Ex8<|Ex8<|⟨_,_,_,a.p,Ex8 ⟨_,_,h.cellsIn 2 rfl,a,rfl,rfl,rfl,?_⟩⟩)⟩⟩;have r:=h.aM [0,1,4,5];have t:=St.kr r (dS iH) (dS fU) (S:=λw=>iA 1 bl w a.ya a.bd/\iA 6 I6.vs w a.xa a.ask) λw c b=>⟨c,b⟩;exact St.kr t (cV _) (cV _) λw c b=>(⟨c.2,c.1,b.dp,b.cl,b.i,b.k⟩:a.gi w)
set_option maxHeartbeats 4000000 in
theorem TS{w0 w:ah}{B:bP}{C:Ck}(s:St w0 w (Sep [held C.gi,B]))(hk:C.Ok)(hS:∀{U},St w0 U B->C.s.In U){n:Nat}{y:Br}(hy:C.s.bd[n]?=some y)(u:I6):
  CP 79 #[.agg C.cells.toArray,iv n,.agg u.vs.toArray] w (λr U=>∃g:Ck,g.er=(if mb C n y u=0 then uJ C n u else C).er/\g.s=C.s/\(mb C n y u≠0->g=C)/\r=.tuple #[.agg g.cells.toArray,iv (mb C n y u)]/\St w0 U (Sep [held g.gi,B])):=by
 refine rE.2.2.2.1 ?_;have hn:=(ai.1 hy).1;have hdl:=hk.dp;have hal:=hk.ask;have hbl:=hk.bd;have h30:=hk.cl;have h8:=hk.s.bd.l2;refine s.aY C.cells.toArray λO w1 s1=>s1.aY u.vs.toArray λP w2 s2=>s2.aY iX λQ w3 m=>⟨C.ov,m.aj 2 rfl 18,?_⟩
 by_cases r:C.ov=true
 .have e:mb C n y u=10:=by rw[mb,r];rfl
  exact cT r (Ex8<|Ex8<|⟨_,_,_,C.p,Ex8 ⟨_,_,m.cellsIn 2 rfl,m.aR 0 rfl C.cells rfl C.one λK t=>(Ex8<|Ex8<|⟨_,_,_,C.p,Ex8 ⟨_,_,t.cellsIn 0 rfl,C,by rw[e,af (by decide)],rfl,λ_=>rfl,by rw[e];rfl,t.aM [3,4]⟩⟩)⟩⟩)
 have r:C.ov=false:=by simpa using r
 refine cF r ⟨λb w5=>b=false/\w5=w3,?_,dz (by omega) ⟨_,_,_,m.aj 2 rfl 17,dF (by omega),rfl⟩⟩;rintro w5 b ⟨rfl,rfl⟩-;have hx:C.dp[n]?=some (C.dp[n]'(by omega)):=gE (by omega);have N:C.dp.getD n false=C.dp[n]'(by omega):=by rw[au,hx];rfl
 generalize C.dp[n]'(by omega)=x at hx N;have rv:∀{U:ah} {L:List bP} {i:Nat},St w0 U (Sep L)->L[i]?=some (held C.gi)->C.gi U:=λs e=>s.eu _ e;obtain⟨q,hq,hcq⟩:=((rv m (i:=3) rfl).dp).at hx;refine cF rfl ⟨_,_,_,m.aj 2 rfl 17,av hq ⟨by omega,by omega,x,hcq.1,?_⟩⟩
 cases x with
 |true=>
  have e:mb C n y u=10:=by rw[mb,N];simp
  exact cT rfl (Ex8<|Ex8<|⟨_,_,_,C.p,Ex8 ⟨_,_,m.cellsIn 2 rfl,m.aR 0 rfl C.cells rfl C.one λK t=>(Ex8<|Ex8<|⟨_,_,_,C.p,Ex8 ⟨_,_,t.cellsIn 0 rfl,C,by rw[e,af (by decide)],rfl,λ_=>rfl,by rw[e];rfl,t.aM [3,4]⟩⟩)⟩⟩)
 |false=>
 have e0:mb C n y u=if iO C.s n y u≠0 then iO C.s n y u else if yB y ⟨C.p,u⟩≠0 then yB y ⟨C.p,u⟩ else Cm C.o.rule C.s y (p9 C n) ⟨C.p,u⟩:=by rw[mb,r,N];rfl
 refine cF rfl (Ex8<|Ex4<|⟨m.bA 2 0 rfl rfl,u,m.cellsIn 1 rfl,m.qu (sO (hS (by first|exact St.lN 1 m rfl|exact St.lN 2 m rfl|exact St.lN 3 m rfl|exact St.lN 4 m rfl|exact St.lN 5 m rfl|exact St.lN 6 m rfl|exact St.lN 7 m rfl|exact St.lN 8 m rfl|exact St.lN 9 m rfl|exact St.lN 10 m rfl)) hk.s hy u) λw8 s8=>⟨_,rfl,C.p,s8.bA 2 9 rfl rfl,u,s8.cellsIn 1 rfl,s8.aY tI.cells.toArray λR w9 s9=>s9.aR 0 rfl (Ch.mk C.p u).cells rfl (Ch.one _) λw10 d=>?_⟩⟩);let M:List bP:=[ay R (Ch.mk C.p u).cells.toArray 158,ay Q iX 41,ay P u.vs.toArray 50,ay O C.cells.toArray 41,held C.gi,B];have hu:iO C.s n y u=0->I6.Le u 4:=λf=>by
  unfold iO at f
  split at f
  .rename_i h;exact C9 h
  cases f
 refine⟨λk H=>k=(if iO C.s n y u≠0 then iO C.s n y u else yB y ⟨C.p,u⟩)/\St w0 H (Sep M),?_,?_⟩
 rotate_left
 .by_cases f:iO C.s n y u=0
  .have F:(Ch.mk C.p u).Ok:=⟨C8 hk.p,hu f⟩;exact cT (by rw[f];rfl) (Ex8<|Ex4<|⟨d.bA 3 0 rfl rfl,C.p,u,d.cellsIn 0 rfl,bF (Kx (c:=⟨C.p,u⟩) ⟨(hS (by first|exact St.lN 1 d rfl|exact St.lN 2 d rfl|exact St.lN 3 d rfl|exact St.lN 4 d rfl|exact St.lN 5 d rfl|exact St.lN 6 d rfl|exact St.lN 7 d rfl|exact St.lN 8 d rfl|exact St.lN 9 d rfl|exact St.lN 10 d rfl)),hk.s⟩ hy F) λH a=>⟨_,rfl,by rw[af (by simpa using f)],d.quiet a⟩⟩)
  exact iI f ⟨by rw[ag f],d⟩
 rintro H k ⟨D,W⟩-;refine⟨λk2 Z=>k2=mb C n y u/\St w0 Z (Sep M),?_,?_⟩
 rotate_left
 .by_cases z:k=0
  .have f:iO C.s n y u=0:=by
    by_cases f:iO C.s n y u=0
    .exact f
    rw[ag f] at D;omega
   have J:yB y ⟨C.p,u⟩=0:=by rw[af (by simpa using f)] at D;omega
   have F:(Ch.mk C.p u).Ok:=⟨C8 hk.p,hu f⟩;have l:=W.quiet (aZ.drew H []);refine cT (by rw[z];rfl) (Ex8<|Ex4<|⟨l.bA 3 0 rfl rfl,C.o.rule,l.aj 3 rfl 7,Ex8<|Ex8<|⟨_,_,_,C.p,Ex8 ⟨_,_,l.cellsIn 3 rfl,C.p,u,l.cellsIn 0 rfl,bg (vM (rv l (i:=4) rfl) hk n) ?_⟩⟩⟩);rintro v G ⟨X,Y,rfl,A⟩;have T:oA C n=p9 C n:=by unfold oA;rw[af (by omega),aq]
   rw[T] at A⊢;have a:St w0 G (Sep (_::_)):=l.and A;have I:(p9 C n).length=C.cl.length:=by simp[p9]
   refine⟨_,_,_,rfl,a.cellsIn 1 rfl,a.aj 4 rfl 7,a.bA 4 0 rfl rfl,bF (Kw ⟨(hS (by first|exact St.lN 1 a rfl|exact St.lN 2 a rfl|exact St.lN 3 a rfl|exact St.lN 4 a rfl|exact St.lN 5 a rfl|exact St.lN 6 a rfl|exact St.lN 7 a rfl|exact St.lN 8 a rfl|exact St.lN 9 a rfl|exact St.lN 10 a rfl)),hk.s⟩ hy (St.rd Ch.len a) (by omega) (FQ hk) F C.o.rule) λV E=>⟨_,rfl,?_,(a.quiet E).aM [1,2,3,4,5,6]⟩⟩;rw[e0,af (by simpa using f),af (by simpa using J)]
  refine iI z ⟨?_,W⟩;rw[D,e0]
  by_cases f:iO C.s n y u=0
  .rw[af (by simpa using f),af (by simpa using f)];rw[af (by simpa using f)] at D;rw[ag (by rw[<-D];exact z)]
  rw[ag f,ag f]
 rintro Z k2 ⟨rfl,l⟩-
 by_cases V:mb C n y u=0
 rotate_left
 .have e:mb C n y u=mb C n y u:=rfl;exact gM V (Ex8<|Ex8<|⟨_,_,_,C.p,Ex8 ⟨_,_,l.cellsIn 3 rfl,l.aR 1 rfl C.cells rfl C.one λK t=>(Ex8<|Ex8<|⟨_,_,_,C.p,Ex8 ⟨_,_,t.cellsIn 1 rfl,C,by rw[af V],rfl,λ_=>rfl,rfl,t.aM [4,5]⟩⟩)⟩⟩)
 refine cF (by rw[V];rfl) (l.aY #[] λr5 w14 E=>⟨_,_,_,E.aj 4 rfl 15,?_⟩);have E:St w0 w14 (star (kO (qs r5) 0 []) (Sep M)):=St.weak E (dU.left (ic (n:=0) (sz:=6) rfl (by decide)));refine I7 E (rv (L:=_::M) E (i:=5) rfl).ask (by omega) λK a w15 T=>?_;have T:St w0 w15 (Sep (kO K a C.ask::M)):=T;refine T.cL 4 rfl (j:=15) (by show 15<19;decide) rfl λw16 s16=>s16.aY #[] λr6 w17 F=>⟨_,_,_,F.aj 5 rfl 16,?_⟩;have F:St w0 w17 (Sep [ay r6 #[] 4,kO K a C.ask,ay R (Ch.mk C.p u).cells.toArray 158,ay Q iX 41,ay P u.vs.toArray 50,ay O (C.cells.toArray.setIfInBounds 15 (.slice K C.ask.length a)) 41,held C.gi,B]):=F;have X:St w0 w17 (star (nX (qs r6) 0 []) (Sep [kO K a C.ask,ay R (Ch.mk C.p u).cells.toArray 158,ay Q iX 41,ay P u.vs.toArray 50,ay O (C.cells.toArray.setIfInBounds 15 (.slice K C.ask.length a)) 41,held C.gi,B])):=St.weak F (dU.left (ic (n:=0) (sz:=1) rfl (by decide)));refine dW (l2:=C.bd) yK iH A7 X (rv F (i:=6) rfl).bd (by simp only[aT];omega) (by simp only[aT];omega) λa2 I w18 t=>?_;rw[bZ] at t⊢;have t:St w0 w18 (Sep [nX a2 I C.bd,kO K a C.ask,ay R (Ch.mk C.p u).cells.toArray 158,ay Q iX 41,ay P u.vs.toArray 50,ay O (C.cells.toArray.setIfInBounds 15 (.slice K C.ask.length a)) 41,held C.gi,B]):=t;obtain⟨g1,rfl⟩:=(t.out 1 rfl).kN (by omega);obtain⟨g2,rfl⟩:=(t.out 0 rfl).kN (by omega);let g:Ck:={uJ C n u with xa:=qs g1,xc:=a,ya:=qs g2,yc:=I};have fin:((C.cells.toArray.setIfInBounds 15 (.slice (qs g1) C.ask.length a)).setIfInBounds 16 (.slice (qs g2) C.bd.length I))=g.cells.toArray:=by
  have z:g.ask.length=C.ask.length:=by show(C.ask.set n u).length=_;rw[bf]
  have A:g.bd.length=C.bd.length:=by show(C.bd.set n true).length=_;rw[bf]
  show _=(Ck.cells _).toArray;simp only[Ck.cells];rw[z,A];rfl
 refine t.cL 5 rfl (j:=16) (by show 16<19;decide) rfl λw19 z=>?_;have z:St w0 w19 (Sep [nX (qs g2) I C.bd,kO (qs g1) a C.ask,ay R (Ch.mk C.p u).cells.toArray 158,ay Q iX 41,ay P u.vs.toArray 50,ay O ((C.cells.toArray.setIfInBounds 15 (.slice (qs g1) C.ask.length a)).setIfInBounds 16 (.slice (qs g2) C.bd.length I)) 41,held C.gi,B]):=z;rw[fin] at z;have ea:g.ask.length=C.ask.length:=by show(C.ask.set n u).length=_;rw[bf]
 have eb:g.bd.length=C.bd.length:=by show(C.bd.set n true).length=_;rw[bf]
 refine⟨_,_,_,z.aj 5 rfl 15,u,z.cellsIn 4 rfl,av rfl ⟨by omega,by omega,?_⟩⟩;rw[aq];refine St.wh fU (x:=u) u.one (z.out 1 rfl) (i:=n) (by omega) λw20 A=>?_;have A:=A.back (i:=1) (by show 1<8;decide);have A:St w0 w20 (Sep [nX (qs g2) I C.bd,kO (qs g1) a (C.ask.set n u),ay R (Ch.mk C.p u).cells.toArray 158,ay Q iX 41,ay P u.vs.toArray 50,ay O g.cells.toArray 41,held C.gi,B]):=A;refine⟨_,_,_,A.aj 5 rfl 16,av rfl ⟨by omega,by omega,St.kP (v:=.bool) (x:=true) rfl (A.out 0 rfl) (i:=n) (by omega) λw21 G=>?_⟩⟩;have G:St w0 w21 (Sep [nX (qs g2) I (C.bd.set n true),kO (qs g1) a (C.ask.set n u),ay R (Ch.mk C.p u).cells.toArray 158,ay Q iX 41,ay P u.vs.toArray 50,ay O g.cells.toArray 41,held C.gi,B]):=G;refine Ex8<|Ex8<|⟨_,_,_,g.p,Ex8 ⟨_,_,G.cellsIn 5 rfl,G.aR 3 rfl g.cells rfl g.one λw22 Y=>(Ex8<|Ex8<|⟨_,_,_,g.p,Ex8 ⟨_,_,Y.cellsIn 3 rfl,g,?_,rfl,λh=>absurd V h,by rw[V];rfl,?_⟩⟩)⟩⟩
 .rw[ag V];rfl
 have s23:St w0 w22 (Sep [nX (qs g2) I (C.bd.set n true),kO (qs g1) a (C.ask.set n u),held C.gi,B]):=Y.aM [0,1,6,7];have s24:=St.kr s23 (dS iH) (dS fU) (S:=λw=>iA 1 bl w g.ya g.bd/\iA 6 I6.vs w g.xa g.ask) λw f J=>⟨f,J⟩;exact St.kr s24 (cV _) (cV _) λw f J=>(⟨f.2,f.1,J.dp,J.cl,J.i,J.k⟩:g.gi w)
def LM{w0 w:ah}{X:bP}(h:St w0 w X):St w0 w (star emp X):=(h.eqv (fF.unit X)).swap
def St.IS{w0 w:ah}{A:bP}{L:List bP}(h:St w0 w (star A (Sep L))):St w0 w (Sep (A::L)):=h
set_option maxHeartbeats 8000000 in
theorem TT{w:ah}{S:Se}(h:S.In w)(o:Po):
  CP 78 #[.agg S.arr,o.v] w (λr f=>(Ec S o≠0/\r=.tuple #[.agg iX,iv (Ec S o)]/\aZ w f [])\/(Ec S o=0/\S.Ok/\o.ok/\∃a:Ck,a.er=(pT S o).er/\a.s=S/\r=.tuple #[.agg a.cells.toArray,iv 0]/\St w f (held a.gi))):=by
 refine rE.1 (bE S.arr λB I E=>E.aY o.cells.toArray λC J F=>F.aY iX λD K p=>(Ex8<|Ex4<|⟨p.cellsIn 2 rfl,bg (rH (h.aK p.aK)) ?_⟩));rintro v H ⟨⟨rfl,A⟩,u⟩;have q:=p.quiet u;refine⟨_,rfl,λe k=>e=Ec S o/\St w k (Sep [ay D iX 41,ay C o.cells.toArray 23,ay B S.arr 34,emp]),?_,?_⟩
 rotate_left
 .by_cases g:yX S=0
  .exact cT (by rw[g];rfl) ⟨_,_,_,_,q.cellsIn 1 rfl,bF (zu H o) λk a=>⟨_,rfl,by rw[Ec,af (λh=>h g)],q.quiet a⟩⟩
  exact iI g ⟨by rw[Ec,ag g],q⟩
 rintro k e ⟨rfl,r⟩-
 by_cases d:Ec S o=0
 rotate_left
 .exact gM d (r.aR 0 rfl iX.toList rfl (by simp[iX,Value.oneCell']) λb a=>(Ex8<|Ex8<|⟨_,_,_,z6,Ex8 ⟨_,_,a.cellsIn 0 rfl,.inl ⟨d,rfl,a.aK⟩⟩⟩))
 have g:yX S=0:=by
  unfold Ec at d
  split at d
  .rename_i a;exact absurd d a
  rename_i a;exact Decidable.not_not.1 a
 have l:=A.1 g;have t:o.ok:=by
  rw[Ec,af (λh=>h g),pV] at d
  split at d
  .assumption
  exact absurd d (by decide)
 have z:=l.bd.l2;let CC (a b c:Nat):Ck:={pT S o with xa:=qs a,xc:=S.bd.length,ya:=qs b,yc:=S.bd.length,za:=qs c,zc:=S.bd.length};have y:∀(a b c:Nat),(CC a b c).cells=((.slice S.a1 S.ps.length S.c1)::((.slice S.a2 S.bd.length S.c2)::((.slice S.a3 S.cp.length S.c3)::((.slice S.a4 S.sa.length S.c4)::((iv o.step)::((iv o.pct)::((iv o.und)::((iv o.rule)::((.slice none 0 0)::((kQ S.ps).on [.slice (qs a) S.bd.length S.bd.length,.slice (qs b) S.bd.length S.bd.length,.slice (qs c) S.bd.length S.bd.length,.bool false]))))))))):List Value):=λa b c=>by
  simp only[CC,pT,Ck.cells,bS,aT]
 have i:∀{a b c:Nat} {f:ah},St w f (Sep [kO (qs a) S.bd.length (List.replicate S.bd.length z6),nX (qs b) S.bd.length (List.replicate S.bd.length false),nX (qs c) S.bd.length (List.replicate S.bd.length false)])->St w f (held (CC a b c).gi):=λ{a b c f} s=>
  (s.held ((dS fU).cons ((dS iH).cons ((dS iH).cons nY.nil)))).weak (jY λG ⟨i1,m,n,_⟩=>⟨i1,m,n,Dn.nil,λx j=>by simp[CC,pT] at j,aD 0⟩)
 refine cF (by rw[d];rfl) ⟨_,_,_,r.aj 2 rfl 1,?_⟩;have s:=St.IS (LM (St.IS (LM (St.IS (LM (r.quiet (aZ.drew k [])))))));refine Ex8<|Ex4<|⟨s.cellsIn 5 rfl,_,_,_,_,s.cellsIn 4 rfl,_,_,_,s.aj 5 rfl 0,?_⟩
 repeat' first
  |with_reducible refine And.intro ?_ ?_
  |((with_reducible refine bg (Mu (h.aK s.aK).ps) ?_);rintro v w ⟨rfl,c⟩;replace s:=s.quiet c;refine⟨_,rfl,?_⟩)
  |((with_reducible refine iD (x:=z6) CH fU ?_ s (n:=S.bd.length) ?_ ?_ λg w c m=>?_);rfl;omega;omega;replace s:=(St.IS m).aM [0,2,3,4,5,6,7])
  |((with_reducible refine iD (x:=false) yK iH ?_ s (n:=S.bd.length) ?_ ?_ λg w c m=>?_);rfl;omega;omega;replace s:=(St.IS m).aM [1,0,2,4,5,6,7])
  |(rw[<-y];first|exact s.aR 3 rfl _ rfl (CC _ _ _).one λG j=>(Ex8<|Ex8<|⟨_,_,_,kQ S.ps,Ex8 ⟨_,_,j.cellsIn 3 rfl,.inr ⟨d,l,t,CC _ _ _,rfl,rfl,rfl,i (j.aM [0,1,2])⟩⟩⟩)|exact s.aR 3 rfl _ rfl (CC _ _ _).one λG j=>(Ex8<|Ex8<|⟨_,_,_,kQ S.ps,Ex8 ⟨_,_,j.cellsIn 3 rfl,.inr ⟨d,l,t,CC _ _ _,rfl,rfl,rfl,i (j.aM [0,2,1])⟩⟩⟩))
  |exact s.aj 5 rfl 0
  |exact s.cellsIn 4 rfl
  |exact s.cellsIn 5 rfl
def Qa(w:ah)(l:List UInt8)(f:l.length<=9223372036854775807):CP 86 #[sv l] w (λr g=>r=.int .u64 (JF l:Nat)/\g=w):=by
 refine aaS.2.2.2.2.2.1 ?_;refine⟨λc d e m=>∃i:Nat,d=(i:Int)/\i<=l.length/\m=l.length-i/\e=w/\c=(((l.take i).foldl pQ 14695981039346656037:Nat):Int)/\(l.take i).foldl pQ 14695981039346656037<18446744073709551616,⟨l.length,0,rfl,by omega,by omega,rfl,by rw[ji,fK];rfl,by rw[ji,fK];omega⟩,?_⟩
 rintro e m c d ⟨i,rfl,h,rfl,rfl,rfl,b⟩-;rw[jC]
 by_cases a:i<l.length
 .refine di (by omega) ⟨by omega,?_⟩;rw[aq,lJ,gE a];refine⟨l.length-(i+1),by omega,i+1,inc f a,by omega,rfl,rfl,?_,?_⟩
  .rw[BY _ b,eB (by omega),cG,bD,fK]
  rw[eB (by omega),cG,bD,fK];exact wW _ _
 refine dz (by omega) ⟨?_,rfl⟩;rw[bB (by omega)];rfl
def Er(w:ah)(x k:Nat)(j:x<18446744073709551616)(o:k<=8):CP 87 #[.int .u64 (x:Int),iv k] w (λr l=>r=sv (F0 k x)/\aZ w l []):=by
 refine(p6 aaS).1 ?_;have h:IntKind.i64.max=9223372036854775807:=rfl;refine⟨λb s c d m=>∃i:Nat,c=(i:Int)/\i<=k/\m=k-i/\b=((x / 256 ^ i:Nat):Int)/\s=bs (F0 i x)/\aZ w d [],⟨k,0,rfl,by omega,by omega,by simp,rfl,aZ.refl _ _⟩,?_⟩;rintro d m b s c ⟨i,rfl,n,rfl,rfl,rfl,a⟩-
 by_cases g:i<k
 .have hd:x / 256 ^ i<18446744073709551616:=oe (Nat.div_le_self _ _) j;have e:IntKind.u8.wrap (Int.tmod ((x / 256 ^ i:Nat):Int) 256)=((UInt8.ofNat (x / 256 ^ i%256)).toNat:Int):=by
   rw[show Int.tmod ((x / 256 ^ i:Nat):Int) 256=((x / 256 ^ i%256:Nat):Int) from rfl,IG,Nat.mod_mod]
  refine di (by omega) ⟨by decide,dH (sV underlying195 underlying5 underlying9 e ⟨_,rfl,?_,by decide,k-(i+1),by omega,i+1,?_,by omega,rfl,?_,?_,?_⟩)⟩
  .have f:(⟨#[UInt8.ofNat (x / 256 ^ i%256)]⟩:ByteArray).size=1:=rfl;rw[jC,fM,f,h];omega
  .rw[IntWalk.i64_in _ (by omega)];omega
  .rw[jN,<-lW];generalize x / 256 ^ i=q at hd;rw[IntWalk.u64_quo _ _ (by omega)];omega
  .rw[JT];exact mc _ [_]
  exact a.trans (aZ.new _ _ []) (by simp)
 obtain rfl:i=k:=by omega
 exact dz (by omega) ⟨rfl,a⟩
def Mk(w:ah)(x:Nat)(d:x<18446744073709551616)(l:List UInt8)(h:l.length<=4611686018427387904):CP 31 #[.int .u64 (x:Int),sv l] w (λr e=>r=.int .u64 (o6 x l:Nat)/\aZ w e []):=by
 refine aaS.2.2.2.2.1 ?_;have a:IntKind.i64.max=9223372036854775807:=rfl;refine bF (Er w x 8 d (by decide)) λf b=>⟨_,rfl,?_⟩;rw[jC,UQ (by omega)];refine bF (Er f _ 8 (by omega) (by decide)) λg c=>⟨_,rfl,by rw[jC,jC,fM,fM,a];omega,?_⟩;rw[mc,mc,jC,aA,fM,fM];exact⟨by rw[a];omega,kR (Qa g _ (by simp only[aA,fM];omega)) ⟨_,rfl,rfl,b.trans c (by simp)⟩⟩
def T0:∀(k x:Nat) (w:ah),x<128 ^ (k+1)->x<18446744073709551616->k<=9->CP 136 #[.int .u64 (x:Int)] w (λr y=>r=sv (sC k x)/\aZ w y []):=by
 intro k
 induction k with
 |zero=>
  intro x w m u _;exact El (di (by omega) (dH (sV underlying195 underlying5 underlying9 (IG x) ⟨_,rfl,rfl,aZ.new _ _ _⟩)))
 |succ k v=>
  intro x w m u p;refine El ?_
  by_cases c:x<128
  .refine di (by omega) (dH (sV underlying195 underlying5 underlying9 (IG x) ⟨_,rfl,?_,aZ.new _ _ _⟩));unfold sC;rw[ag c];rfl
  have t:IntKind.u64.wrap (Int.tdiv (x:Int) (128:Int))=((x / 128:Nat):Int):=by
   rw[IntWalk.u64_quo _ _ (by omega)];omega
  have f:IntKind.u8.wrap (IntKind.u64.wrap ((Int.tmod (x:Int) (128:Int))+(128:Int)))=((UInt8.ofNat (x%128+128)).toNat:Int):=by
   rw[show Int.tmod (x:Int) 128=((x%128:Nat):Int) from rfl,IntWalk.u64_in _ (by omega),IntWalk.u8_in _ (by omega),mH];omega
  have s:x / 128<128 ^ (k+1):=by rw[jN] at m;omega
  have h:=λw=>v (x / 128) w s (by omega) (by omega);have o:sC (k+1) x=UInt8.ofNat (x%128+128)::sC k (x / 128):=by
   conv=>lhs;unfold sC
   rw[af c]
  have z:=BO k (x / 128);have q:IntKind.i64.max=9223372036854775807:=rfl;have n:(⟨#[UInt8.ofNat (x%128+128)]⟩:ByteArray).size=1:=rfl;have b:((((⟨#[UInt8.ofNat (x%128+128)]⟩:ByteArray).size+(bs (sC k (x / 128))).size:Nat)):Int)<=IntKind.i64.max:=by
   rw[q,n,jC];omega
  have i:Value.string ((⟨#[UInt8.ofNat (x%128+128)]⟩:ByteArray)++bs (sC k (x / 128)))=sv (sC (k+1) x):=by
   rw[o];exact congrArg Value.string (mc [_] _)
  rw[t];have hd:aZ w w.drew []:=aZ.drew _ _;refine dz (by omega) ⟨by decide,by decide,⟨dH ⟨?_,?_⟩,?_⟩,?_⟩
  .exact sV underlying195 underlying5 underlying9 f ⟨_,rfl,bF (h _) λj a=>⟨_,rfl,b,i,(hd.trans (aZ.new _ _ []) (by simp)).trans a (by simp)⟩⟩
  .refine bF (h _) λj a=>⟨_,rfl,?_⟩;have own:=(BB (w:=w.drew.alloc (.cells #[.int .u8 (IntKind.u8.wrap (IntKind.u64.wrap ((Int.tmod (x:Int) (128:Int))+(128:Int))))] 5)) (g:=w.drew.heap.size) (e:=5) (l:=[UInt8.ofNat (x%128+128)]) (by rw[pR,ag rfl,f];rfl) (by simp));have d:=B0 own a (by simp);exact Dh (l:=[UInt8.ofNat (x%128+128)]) underlying195 underlying5 underlying9 d ⟨_,rfl,b,i,(hd.trans (aZ.new _ _ []) (by simp)).trans a (by simp)⟩
  .exact bF (h _) λj a=>⟨_,rfl,dH (sV underlying195 underlying5 underlying9 f ⟨_,rfl,b,i,(hd.trans a (by simp)).trans (aZ.new _ _ []) (by simp)⟩)⟩
  exact bF (h _) λj a=>⟨_,rfl,dH (sV underlying195 underlying5 underlying9 f ⟨_,rfl,b,i,(hd.trans a (by simp)).trans (aZ.new _ _ []) (by simp)⟩)⟩
def Gs(w:ah)(x:Nat)(a:x<18446744073709551616):CP 136 #[.int .u64 (x:Int)] w (λr b=>r=sv (xQ x)/\aZ w b []):=
 T0 9 x w (by omega) a (by decide)
def EG(w:ah)(n:Int)(h:0<=n/\n<=9223372036854775807):CP 136 #[.int .u64 (IntKind.u64.wrap n)] w (λr a=>r=sv (xQ n.toNat)/\aZ w a []):=by
 have e:IntKind.u64.wrap n=((n.toNat:Nat):Int):=by rw[IntWalk.u64_in _ (by omega)];omega
 rw[e];exact Gs w _ (by omega)
def Ql(w:ah)(l:List UInt8)(d:l.length<=4611686018427387904):CP 135 #[sv l] w (λr c=>r=sv (xO l)/\aZ w c []):=by
 refine aaS.2.2.2.1 ?_;have b:IntKind.i64.max=9223372036854775807:=rfl;rw[jC];refine bF (EG w _ (by omega)) λe a=>?_;have:=qT l.length;refine⟨_,rfl,by rw[jC,b,aq];omega,?_,a⟩;rw[aq];exact congrArg Value.string (mc _ _)
def KD(w:ah)(k:Int):CP 133 #[iv k] w (λr e=>r=.bool (fB k)/\e=w):=by
 refine aaT.2.1 ?_
 by_cases a:k=2
 .exact cT (by simp[a]) ⟨by simp[fB,a],rfl⟩
 refine iI a ?_
 by_cases b:k=5
 .exact cT (by simp[b]) ⟨by simp[fB,b],rfl⟩
 refine iI b ?_
 by_cases c:k=6
 .exact cT (by simp[c]) ⟨by simp[fB,c],rfl⟩
 refine iI c ⟨?_,rfl⟩
 by_cases d:k=7<;>simp[fB,a,b,c,d]
def uj(w:ah)(n:Int)(h:0<=n/\n<=9223372036854775807):CP 134 #[iv n] w (λr b=>r=sv (nB n)/\aZ w b []):=by
 exact aaT.2.2.2.1 (bF (EG w n h) λc a=>⟨_,rfl,rfl,a⟩)
def No{e:Ev}(h:fT e.kind=true):gq e=(nB e.kind++if fB e.kind then nB e.bidder else [])++xO e.text:=by
 have a:e.kind=1\/e.kind=5:=by simpa[fT] using h
 unfold gq;rcases a with a |a <;> rw[a]<;>simp[fB,fR,fW,fT,fD]
def Vz{e:Ev}(h:e.kind=2):gq e=(nB e.kind++if fB e.kind then nB e.bidder else [])++e.want.l.flatMap nB:=by
 unfold gq;rw[h];simp[fB,fR,fW,fT,fD]
def Vy{e:Ev}(h:e.kind=8):gq e=(nB e.kind++if fB e.kind then nB e.bidder else [])++nB e.round:=by
 unfold gq;rw[h];simp[fB,fR,fW,fT,fD]
def Vx{e:Ev}(h:e.kind=10):gq e=(nB e.kind++if fB e.kind then nB e.bidder else [])++nB e.digest:=by
 unfold gq;rw[h];simp[fB,fR,fW,fT,fD]
def Vv{e:Ev}(b:fT e.kind=false)(c:e.kind≠2)(d:e.kind≠8)(a:e.kind≠10):gq e=nB e.kind++if fB e.kind then nB e.bidder else []:=by
 unfold gq;simp[fR,fW,fD,b,c,d,a]
def Gp(w:ah){e:Ev}(L:0<=e.kind/\e.kind<=10)(K:0<=e.bidder/\e.bidder<8)(M:0<=e.round/\e.round<30)(u:I6.Le e.want 4)(N:e.text.length<=1000000000000)(hd:0<=e.digest/\e.digest<18446744073709551616):
  CP 75 #[e.v] w (λr d=>r=sv (gq e)/\aZ w d []):=by
 refine aaT.2.2.2.2.1 ?_;have h:IntKind.i64.max=9223372036854775807:=rfl;have O:=vH e.kind;have G:=vH e.bidder;have P:=vH e.round;have Q:=vH e.digest;refine bE e.cells.toArray λx I y=>⟨_,y.aj 0 rfl 0,y.qu (uj I e.kind (by omega)) λJ o=>⟨_,rfl,λs d=>s=bs (nB e.kind++if fB e.kind then nB e.bidder else [])/\St w d (Sep [ay x e.cells.toArray 52,emp]),?_,_,o.aj 0 rfl 0,bg (KD J e.kind) ?_⟩⟩
 rotate_left
 .rintro v r ⟨rfl,rfl⟩;refine⟨_,rfl,?_⟩
  cases hf:fB e.kind with
  |true=>
   exact cT rfl ⟨_,o.aj 0 rfl 1,bF (uj r e.bidder (by omega)) λg f=>⟨_,rfl,by rw[jC,jC,h];omega,mc _ _,o.quiet f⟩⟩
  |false=>exact cF rfl ⟨by simp,o⟩
 rintro r s ⟨rfl,c⟩-;have R:(nB e.kind++if fB e.kind then nB e.bidder else []).length<=20:=by
  have a:(if fB e.kind then nB e.bidder else []).length<=10:=by
   split
   .exact G
   exact e9 _
  rw[aA];omega
 have C:=No (e:=e);have D:=Vz (e:=e);have B:=Vy (e:=e);have A:=Vx (e:=e);have z:=Vv (e:=e);generalize(nB e.kind++if fB e.kind then nB e.bidder else [])=l at *;refine⟨λs d=>s=bs (gq e)/\aZ w d [],?_,_,c.aj 0 rfl 0,λb d=>b=fT e.kind/\d=r,?_,?_⟩
 .rintro g s ⟨rfl,f⟩-;exact⟨rfl,f⟩
 rotate_left
 .by_cases a:e.kind=1
  .exact cT (by simp[a]) ⟨by simp[fT,a],rfl⟩
  refine iI a ⟨?_,rfl⟩
  by_cases f:e.kind=5<;>simp[fT,a,f]
 rintro t b ⟨rfl,rfl⟩-
 cases hf:fT e.kind with
 |true=>
  refine cT rfl ⟨_,c.aj 0 rfl 9,bF (Ql t e.text (by omega)) λf g=>?_⟩;have q:=qT e.text.length;have H:(xO e.text).length<=1000000000010:=by unfold xO;rw[aA];omega
  exact⟨_,rfl,by rw[jC,jC,h];omega,(mc _ _).trans (by rw[C hf]),(c.quiet g).aK⟩
 |false=>
 refine cF rfl ?_
 by_cases i:e.kind=2
 .refine cT (by simp[i]) ⟨λs n f m=>∃k:Nat,n=k/\k<=6/\m=6-k/\s=bs (l++(e.want.l.take k).flatMap nB)/\St w f (Sep [ay x e.cells.toArray 52,emp]),⟨6,0,rfl,by omega,by omega,by simp,c⟩,?_⟩;rintro f m s n ⟨k,rfl,E,F,rfl,p⟩-
  by_cases j:(k:Int)<6
  .have a:k<6:=by omega
   have u:=u k a;refine di j ⟨by omega,by omega,e.want.at' k,?_,bg (uj f _ (by omega)) ?_⟩
   .rw[gW,aq,eZ,p.aj 0 rfl]
    match k,a with
    |0,_|1,_|2,_|3,_|4,_|5,_=>rfl
   rintro v U ⟨rfl,q⟩;have S:=Hx (e.want.l.take k);have H:(e.want.l.take k).length<=6:=by simp[I6.len];omega
   have T:=vH (e.want.at' k);refine⟨_,rfl,by rw[jC,jC,aA,h];omega,6-(k+1),by omega,k+1,inc (by decide) a,by omega,rfl,?_,p.quiet q⟩;rw[mc,bJ (e.want.vG k a),fH,<-dA];simp
  obtain rfl:k=6:=by omega
  exact cF (by simp) ⟨by rw[D i];rfl,p.aK⟩
 refine iI i ?_
 by_cases j:e.kind=8
 .exact cT (by simp[j]) ⟨_,c.aj 0 rfl 2,bF (uj t e.round (by omega)) λf g=>⟨_,rfl,by rw[jC,jC,h];omega,(mc _ _).trans (by rw[B j]),(c.quiet g).aK⟩⟩
 refine iI j ?_
 by_cases a:e.kind=10
 .refine cT (by simp[a]) ⟨_,c.aj 0 rfl 10,?_⟩;have k:e.digest=((e.digest.toNat:Nat):Int):=by omega
  rw[k];refine bF (Gs t e.digest.toNat (by omega)) λf g=>?_;have:(xQ e.digest.toNat)=nB e.digest:=rfl;rw[this];exact⟨_,rfl,by rw[jC,jC,h];omega,(mc _ _).trans (by rw[A a]),(c.quiet g).aK⟩
 exact iI a ⟨by rw[z hf i j a],c.aK⟩
def P5(w:ah)(e:Ev):CP 73 #[e.v] w (λr g=>r=(iF e).v/\aZ w g []):=by
 refine aaT.2.2.1 ?_;let z:Ev:=⟨0,0,0,z6,[],0⟩;refine bE e.cells.toArray λt B y=>y.aY z.cells.toArray λu C p=>⟨_,p.aj 1 rfl 0,p.aY z.cells.toArray λo D A=>A.aR 0 rfl ({z with kind:=e.kind}:Ev).cells rfl (Ev.one _) λq m=>?_⟩;let P:Ev->ah->Prop:=λx g=>St w g (Sep [ay o x.cells.toArray 52,ay u z.cells.toArray 52,ay t e.cells.toArray 52,emp]);let a:Ev:={z with kind:=e.kind,bidder:=if fB e.kind then e.bidder else 0};refine⟨P a,?_,_,m.aj 2 rfl 0,bg (KD q e.kind) ?_⟩
 rotate_left
 .rintro v i ⟨rfl,rfl⟩;refine⟨_,rfl,?_⟩
  cases h:fB e.kind with
  |true=>
   refine cT rfl ⟨_,m.aj 2 rfl 1,m.cL 0 rfl (by show 1<11;decide) rfl λi c=>?_⟩;have:a={z with kind:=e.kind,bidder:=e.bidder}:=by simp[a,h]
   rw[this];exact c
  |false=>
   refine cF rfl ?_;have:a={z with kind:=e.kind}:=by simp[a,h,z]
   rw[this];exact m
 rintro i c -;refine⟨P (iF e),?_,_,St.aj c 2 rfl 0,λb g=>b=fT e.kind/\g=i,?_,?_⟩
 .rintro E f -;refine⟨_,_,_,(iF e).want,_,_,St.cellsIn f 0 rfl,St.aR f 1 rfl (iF e).cells rfl (Ev.one _) λn d=>⟨_,_,_,(iF e).want,_,_,d.cellsIn 1 rfl,rfl,d.aK⟩⟩
 rotate_left
 .by_cases f:e.kind=1
  .exact cT (by simp[f]) ⟨by simp[fT,f],rfl⟩
  refine iI f ⟨?_,rfl⟩
  by_cases j:e.kind=5<;>simp[fT,f,j]
 rintro E b ⟨rfl,rfl⟩-
 cases hf:fT e.kind with
 |true=>
  refine cT rfl ⟨_,St.aj c 2 rfl 9,St.cL c 0 rfl (by show 9<11;decide) rfl λn d=>?_⟩;have f:e.kind=1\/e.kind=5:=by simpa[fT] using hf
  have:iF e={a with text:=e.text}:=by unfold iF;rcases f with f |f <;> simp[a,z,f,fB,fR,fW,fT,fD]
  rw[this];exact d
 |false=>
 refine cF rfl ?_
 by_cases l:e.kind=2
 .refine cT (by simp[l]) ⟨e.want,?_,?_⟩
  .exact fm _ 0 λj v f=>by
    have k:=(ai.1 f).1;have s:=k;rw[gW,az,St.aj c 2 rfl]
    match j,s,f with
    |0,_,f|1,_,f|2,_,f|3,_,f|4,_,f|5,_,f=>simpa[Ev.cells,I6.on,I6.vs] using f
  have j:∀{g:ah} {R:ah->Prop} {x:Ev},P x g->(∀f,P {x with want:=e.want} f->R f)->yY ⟨o,3,none⟩ 0 e.want.vs g R:=λ{g R x} s k=>by
   refine St.cL s 0 rfl (by show 3<11;decide) rfl λB t1=>t1.cL 0 rfl (by show 4<11;decide) rfl λC t2=>t2.cL 0 rfl (by show 5<11;decide) rfl λv t3=>t3.cL 0 rfl (by show 6<11;decide) rfl λD t4=>t4.cL 0 rfl (by show 7<11;decide) rfl λq t5=>t5.cL 0 rfl (by show 8<11;decide) rfl λi t6=>k i t6
  refine j c λn d=>?_;have:iF e={a with want:=e.want}:=by unfold iF;simp[a,z,l,fB,fR,fW,fT,fD]
  rw[this];exact d
 refine iI l ?_
 by_cases j:e.kind=8
 .refine cT (by simp[j]) ⟨_,St.aj c 2 rfl 2,St.cL c 0 rfl (by show 2<11;decide) rfl λn d=>?_⟩;have:iF e={a with round:=e.round}:=by unfold iF;simp[a,z,j,fB,fR,fW,fT,fD]
  rw[this];exact d
 refine iI j ?_
 by_cases f:e.kind=10
 .refine cT (by simp[f]) ⟨_,St.aj c 2 rfl 10,St.cL c 0 rfl (by show 10<11;decide) rfl λn d=>?_⟩;have:iF e={a with digest:=e.digest}:=by unfold iF;simp[a,z,f,fB,fR,fW,fT,fD]
  rw[this];exact d
 refine iI f ?_;have:iF e=a:=by unfold iF;simp[a,z,l,j,f,hf,fR,fW,fD]
 rw[this];exact c
def Et(w:ah){e:Ev}(hi:e.In)(A:e.text.length<=1000000000000):CP 27 #[e.v] w (λr C=>r=iv (kn e)/\aZ w C []):=by
 refine aaS.1 (bE e.cells.toArray λE k n=>?_);let q:Prop:=¬ (1<=e.kind/\e.kind<=10)\/e≠iF e;let s:Prop:=e.bidder<0\/8<=e.bidder\/e.round<0\/30<=e.round\/e.want.l.all lX=false;let D:Prop:=4000<e.text.length\/4000<(gq e).length;refine⟨λb o=>(b=true<->q)/\aZ k o [],?_,?_⟩
 .rintro o b ⟨g,c⟩-;have f:=n.quiet c
  cases b with
  |true=>exact cT rfl ⟨by unfold kn;rw[ag (g.1 rfl)],f.aK⟩
  |false=>
   have i:¬ q:=λh=>by have:=g.2 h;cases this
   refine cF rfl ⟨λb p=>(b=true<->s)/\aZ k p [],?_,?_⟩
   .rintro p b ⟨g,x⟩-;have j:=n.quiet x
    cases b with
    |true=>exact cT rfl ⟨by unfold kn;rw[af i,ag (g.1 rfl)],j.aK⟩
    |false=>
     have v:¬ s:=λh=>by have:=g.2 h;cases this
     have B:e.want.l.all lX=true:=by
      cases hq:e.want.l.all lX with
      |true=>rfl
      |false=>exact absurd (.inr (.inr (.inr (.inr hq)))) v
     refine cF rfl ⟨_,_,_,e.want,_,_,j.cellsIn 0 rfl,bF (Gp p (e:=e) (by omega) (by omega) (by omega) (C9 B) A hi.d) λF t=>?_⟩;have u:=cq λh=>i (.inl h);have m:=cq λh=>i (.inr h);have z:4000<e.text.length->4000<(gq e).length:=λh=>by
      cases hf:fT e.kind with
      |true=>rw[No hf];unfold xO;simp only[aA];omega
      |false=>
       have:e.text=[]:=by
        have a:=congrArg Ev.text m;rw[a];simp[iF,hf]
       rw[this] at h;simp at h
     have y:(kn e:Int)=if 4000<(gq e).length then 3 else 0:=by
      unfold kn;rw[af i,af v]
      by_cases a:4000<(gq e).length
      .rw[ag (.inr a),ag a]
      rw[af (λh=>by rcases h with h|h;exact a (z h);exact a h),af a]
     refine⟨_,rfl,?_⟩;rw[jC,y]
     by_cases a:4000<(gq e).length
     .exact di (by omega) ⟨by rw[ag a],(j.quiet t).aK⟩
     exact dz (by omega) ⟨by rw[af a],(j.quiet t).aK⟩
   refine⟨_,f.aj 0 rfl 1,?_⟩
   by_cases g1:e.bidder<0
   .exact di g1 ⟨⟨λ_=>.inl g1,λ_=>rfl⟩,c⟩
   refine dz g1 ⟨_,f.aj 0 rfl 1,?_⟩
   by_cases g2:e.bidder>7
   .exact di g2 ⟨⟨λ_=>.inr (.inl (by omega)),λ_=>rfl⟩,c⟩
   refine dz g2 ⟨_,f.aj 0 rfl 2,?_⟩
   by_cases m:e.round<0
   .exact di m ⟨⟨λ_=>.inr (.inr (.inl m)),λ_=>rfl⟩,c⟩
   refine dz m ⟨_,f.aj 0 rfl 2,cBq (λt=>⟨⟨λ_=>.inr (.inr (.inr (.inl (by omega)))),λ_=>rfl⟩,c⟩) λt=>⟨e.want,?_,bg (mw o e.want) ?_⟩⟩
   .exact fm _ 0 λj v a=>by
     have x:=(ai.1 a).1;rw[gW,az,f.aj 0 rfl]
     match j,x,a with
     |0,_,a|1,_,a|2,_,a|3,_,a|4,_,a|5,_,a=>simpa[Ev.cells,I6.on,I6.vs] using a
   rintro v j ⟨rfl,a⟩;refine⟨_,rfl,?_,c.trans a (by simp)⟩
   cases hq:e.want.l.all lX with
   |true=>exact⟨λh=>by simp at h,λh=>by rcases h with h|h|h|h|h<;>first|omega|(rw[hq] at h;cases h)⟩
   |false=>exact⟨λ_=>.inr (.inr (.inr (.inr hq))),λ_=>by simp⟩
 have a:=n.quiet (aZ.drew k []);refine⟨_,a.aj 0 rfl 0,?_⟩;have c:=aZ.drew k []
 by_cases f:e.kind<1
 .exact di f ⟨⟨λ_=>.inl (by omega),λ_=>rfl⟩,c⟩
 refine dz f ⟨_,a.aj 0 rfl 0,cBq (λg=>⟨⟨λ_=>.inl (by omega),λ_=>rfl⟩,c⟩) λg=>⟨_,_,_,e.want,_,_,a.cellsIn 0 rfl,_,_,_,e.want,_,_,a.cellsIn 0 rfl,bF (P5 _ e) λy i=>?_⟩⟩;have u:1<=e.kind/\e.kind<=10:=by omega
 refine⟨_,_,_,(iF e).want,_,_,rfl,(a.quiet i).cellsIn 0 rfl,?_,c.trans i (by simp)⟩;simp only[I6.beq_eq,RM,jv,jP,eX,aC,ne_eq,ct];constructor
 .intro h;refine .inr λj=>?_;rcases h with h|h|h|h|h|h<;>apply h<;>rw[<-j]
 intro h;rcases h with h|h
 .exact absurd u h
 by_cases j:e.kind=(iF e).kind
 .by_cases m:e.bidder=(iF e).bidder
  .by_cases p:e.round=(iF e).round
   .by_cases t:e.want=(iF e).want
    .by_cases v:e.text=(iF e).text
     .by_cases x:e.digest=(iF e).digest
      .exact absurd (Ev.ext' j m p t v x) h
      exact .inr (.inr (.inr (.inr (.inr x))))
     exact .inr (.inr (.inr (.inr (.inl v))))
    exact .inr (.inr (.inr (.inl t)))
   exact .inr (.inr (.inl p))
  exact .inr (.inl m)
 exact .inl j
def KA(w:ah){e:Ev}(hi:e.In)(g:e.text.length<=1000000000000):CP 30 #[e.v] w (λr l=>r=.tuple #[sv (if kn e=0 then gq e else []),iv (kn e)]/\aZ w l []):=by
 refine aaS.2.1 (bE e.cells.toArray λo m h=>⟨_,_,_,e.want,_,_,h.cellsIn 0 rfl,bF (Et m hi g) λn i=>⟨_,rfl,?_⟩⟩);have f:=h.quiet i
 by_cases a:kn e=0
 .have c:=lK a hi.d;exact iI a ⟨_,_,_,e.want,_,_,f.cellsIn 0 rfl,bF (Gp n c.k c.b c.r c.w g c.d) λp j=>⟨_,rfl,by rw[ag a,a],(f.quiet j).aK⟩⟩
 exact gM a ⟨by rw[af a],f.aK⟩
theorem EW(c:UInt8)(s:List UInt8):fC c s=Lib.splitK [c] 0 (s.count c) s:=by
 have e:=Lib.splitB_data (bs [c]) 0 (Lib.countB (bs s) (bs [c])) (bs s);have a:(bs [c]).data.toList=[c]:=by simp[bs]
 have b:(bs s).data.toList=s:=by simp[bs]
 have d:Lib.countB (bs s) (bs [c])=s.count c:=by
  show Lib.count (bs s).data.toList (bs [c]).data.toList=_;rw[a,b,Lib.count_one]
 rw[a,b,d] at e;unfold fC;rw[d,e]
theorem QG{c:UInt8}{x:List UInt8}(h:c∉x):fC c x=[x]:=by rw[EW,nZ.2 h];rfl
theorem SN(c:UInt8):∀(x s:List UInt8),c∉x->Lib.index (x++c::s) [c]=x.length
 |[],s,_=>by simp[Lib.index,List.isPrefixOf]
 |b::x,s,h=>by
  have g:=SN c x s λa=>h (by simp[a]);have f:¬ c=b:=λe=>h (by simp[e]);show Lib.index (b::(x++c::s)) [c]=_;rw[Lib.index,g];have d:[c].isPrefixOf (b::(x++c::s))=false:=by simp[List.isPrefixOf,f]
  rw[d,af (by decide),af (by simp)]
  simp
theorem QF{c:UInt8}{x:List UInt8}(s:List UInt8)(h:c∉x):fC c (x++c::s)=x::fC c s:=by
 rw[EW,EW];have e:(x++c::s).count c=s.count c+1:=by rw[List.count_append,nZ.2 h,List.count_cons];simp
 rw[e,Lib.splitK,SN c x s h,af (by simp)]
 simp
section
variable {S:Se} (h:S.Ok)
include h
end

import Derived.Test.YtmhhlijfepaphaaGreatDoorH07
set_option linter.all false
set_option maxRecDepth 100000
set_option maxHeartbeats 4000000
namespace Go.Proofs.YtmhhlijfepaphaaGreatDoor
open Go Go.Vc Go.Vt _root_.Go.Proofs.Tryz
def uR:=zl (And.intro (many xP [en func36 [(0,.k (.s .blk))] [],en func50 [(0,.k (.s .blk))] [(6,[(15,.s .bool)]),(122,[(5,.s .slice),(21,.s (.int .i64))])],en func23 [(0,.k (.s .blk))] [],en func60 [(0,.k (.s .blk))] [],en func109 [(0,.k (.s .blk))] [],en func59 [] [],en func61 [] [],en func62 [] [],en func121 [] [(58,[(5,.s .slice),(10,.s (.int .i64))])],en func122 [] [],en func125 [] [(15,[(8,.s .ptr)])],en func126 [(0,.k (.s .blk))] [],en func127 [(0,.k (.s .blk))] [(31,[(5,.s .slice)]),(511,[(9,.s .blk),(10,.s (.int .i64))]),(2046,[(111,.s .bool)])],en func128 [(0,.k (.s .blk))] []] (by conv=>lhs;reduce) (by kernel_rfl) id) (many xP [en func131 [(0,.k (.s .blk))] [(12,[(5,.s .bool)])],en func132 [(0,.k (.s .blk))] [(51,[(9,.s .bool)]),(31,[])],en func182 [(0,.k (.s .blk))] [],en func186 [(0,.k (.s .blk))] [(58,[(25,.s (.int .i64))]),(467,[])],en func191 [] [],en func23 [(0,.c (.pointer none))] []] (by conv=>lhs;reduce) (by kernel_rfl) id)) λx=>by
 dsimp only[qq,qm,qk,qj,qy,qA,qB,GH,uv,en,FG,wrap,dc,dn,DH,gU,ID,U.I,U.B,U.S,U.N,U.A,U.O,U.W,U.V,U.L,U.U6,U.C,U.M,U.F,U.E,HV,HA,GM,zS,jU,gJ,vZ,vI,TJ,Nat.reduceSub,Nat.reduceAdd,Int.reduceOfNat,Int.reduceNeg,UInt8.reduceOfNat] at x
 exact x
end Go.Proofs.YtmhhlijfepaphaaGreatDoor
namespace Go.Proofs.YtmhhlijfepaphaaGreatDoor
open Go Go.Vc _root_.Go.Proofs.Tryz
def aao:ru prog 29 135 (.agg ({nm:=[],sup:=0,res:=0,pts:=0,Bn:=0}:Pr).cells.toArray) 5 48:=ru.mk' underlying29 (by kernel_rfl) rfl (by decide)
def aam:ru prog 30 137 (.agg ({nm:=[],cls:=0,bud:=0,pts:=0}:Br).cells.toArray) 4 40:=ru.mk' underlying30 (by kernel_rfl) rfl (by decide)
def aan:ru prog 31 139 (.agg (⟨0,0,0⟩:T3).cells.toArray) 3 24:=ru.mk' underlying31 (by kernel_rfl) rfl (by decide)
def aal:ru prog 32 141 (.agg (⟨0,0,0⟩:T3).cells.toArray) 3 24:=ru.mk' underlying32 (by kernel_rfl) rfl (by decide)
def Pr.len(p:Pr):p.cells.length=5:=rfl
def Br.len(p:Br):p.cells.length=4:=rfl
def T3.len(p:T3):p.cells.length=3:=rfl
def kf.fl{w:ah}{a:OA}{l:List Pr}(h:kf w a l):iA 5 Pr.cells w a l:=λ_ p b=>let ⟨_,q,hq,hc⟩:=h _ p b;⟨q,_,hq,hc,rfl,rfl⟩
def rQ.fl{w:ah}{a:OA}{l:List Br}(h:rQ w a l):iA 4 Br.cells w a l:=λ_ p b=>let ⟨_,q,hq,hc⟩:=h _ p b;⟨q,_,hq,hc,rfl,rfl⟩
def Dl.fl{w:ah}{a:OA}{l:List T3}(h:Dl w a l):iA 3 T3.cells w a l:=λ_ p b=>let ⟨q,hq,hc⟩:=h _ p b;⟨q,_,hq,hc,rfl,rfl⟩
def kf.of{w:ah}{a:OA}{l:List Pr}(h:iA 5 Pr.cells w a l)(k:∀p∈l,p.In):kf w a l:=λ_ p b=>let ⟨q,hq,hc⟩:=h.at b;⟨k p (ak b),q,hq,hc⟩
def rQ.of{w:ah}{a:OA}{l:List Br}(h:iA 4 Br.cells w a l)(k:∀p∈l,p.In):rQ w a l:=λ_ p b=>let ⟨q,hq,hc⟩:=h.at b;⟨k p (ak b),q,hq,hc⟩
def Dl.of{w:ah}{a:OA}{l:List T3}(h:iA 3 T3.cells w a l):Dl w a l:=λ_ _ b=>let ⟨q,hq,hc⟩:=h.at b;⟨q,hq,hc⟩
def kf.in{w:ah}{a:OA}{l:List Pr}(h:kf w a l):∀p∈l,p.In:=λp b=>let ⟨i,hi⟩:=dQ b;(h i p hi).1
def rQ.in{w:ah}{a:OA}{l:List Br}(h:rQ w a l):∀p∈l,p.In:=λp b=>let ⟨i,hi⟩:=dQ b;(h i p hi).1
def Bh{w:ah}{a:OA}{c:Nat}{l:List Pr}(h:iA 5 Pr.cells w a l)(g:l.length<=1000):
  CP 88 #[.slice a l.length c] w (λr e=>∃b d,r=.slice b l.length d/\St w e (iQ 135 5 Pr.cells b d l)):=by
 exact Cu.1 (wO (c:=c) (K:=λr e=>∃b d,r=.slice b l.length d/\St w e (iQ 135 5 Pr.cells b d l)) aao Pr.len Pr.one (St.start w) h (by omega) (by omega) λb d e f=>⟨b,d,rfl,f.first⟩)
def Be{w:ah}{a:OA}{c:Nat}{l:List Br}(h:iA 4 Br.cells w a l)(g:l.length<=1000):
  CP 89 #[.slice a l.length c] w (λr e=>∃b d,r=.slice b l.length d/\St w e (iQ 137 4 Br.cells b d l)):=by
 exact Cu.2.1 (wO (c:=c) (K:=λr e=>∃b d,r=.slice b l.length d/\St w e (iQ 137 4 Br.cells b d l)) aam Br.len Br.one (St.start w) h (by omega) (by omega) λb d e f=>⟨b,d,rfl,f.first⟩)
def Bg{w:ah}{a:OA}{c:Nat}{l:List T3}(h:iA 3 T3.cells w a l)(g:l.length<=1000):
  CP 90 #[.slice a l.length c] w (λr e=>∃b d,r=.slice b l.length d/\St w e (iQ 139 3 T3.cells b d l)):=by
 exact Cu.2.2.1 (wO (c:=c) (K:=λr e=>∃b d,r=.slice b l.length d/\St w e (iQ 139 3 T3.cells b d l)) aan T3.len T3.one (St.start w) h (by omega) (by omega) λb d e f=>⟨b,d,rfl,f.first⟩)
def Bc{w:ah}{a:OA}{c:Nat}{l:List T3}(h:iA 3 T3.cells w a l)(g:l.length<=1000):
  CP 91 #[.slice a l.length c] w (λr e=>∃b d,r=.slice b l.length d/\St w e (iQ 141 3 T3.cells b d l)):=by
 exact Cu.2.2.2.1 (wO (c:=c) (K:=λr e=>∃b d,r=.slice b l.length d/\St w e (iQ 141 3 T3.cells b d l)) aal T3.len T3.one (St.start w) h (by omega) (by omega) λb d e f=>⟨b,d,rfl,f.first⟩)
def Se.er(s:Se):Se:={s with a1:=none,c1:=0,a2:=none,c2:=0,a3:=none,c3:=0,a4:=none,c4:=0}
structure Se.Sz (s:Se):Prop where
 ps:s.ps.length<=100
 bd:s.bd.length<=100
 cp:s.cp.length<=100
 sa:s.sa.length<=100
def Se.Ok.sz{s:Se}(h:s.Ok):s.Sz:=⟨by have:=h.ps.l2;omega,by have:=h.bd.l2;omega,by have:=h.cp.l1;omega,by have:=h.sa.l1;omega⟩
def DD{w:ah}{S:Se}(h:S.In w)(i:S.Sz):
  CP 59 #[.agg S.arr] w (λr g=>∃a:Se,a.er=S.er/\r=.agg a.arr/\St w g (held a.In)):=by
 refine uR.1.2.2.2.2.2.1 ?_;obtain⟨I,J,K,L⟩:=i;refine bE S.arr λE G u=>u.aY #[.slice none 0 0,.slice none 0 0,.slice none 0 0,.slice none 0 0] λF z x=>?_;have b:=x.quiet (aZ.drew z []);refine⟨_,_,_,b.aj 1 rfl 0,_,_,_,b.aj 1 rfl 1,_,_,_,b.aj 1 rfl 2,_,_,_,b.aj 1 rfl 3,bg (Bh (h.aK b.aK).ps.fl (by omega)) ?_⟩;rintro v A ⟨a1,c1,rfl,m⟩;have d:St w A (Sep [_,_,_,_]):=b.and m;refine⟨_,_,_,rfl,d.aj 2 rfl 3,d.aj 2 rfl 2,d.aj 2 rfl 1,bg (Be (h.aK d.aK).bd.fl (by omega)) ?_⟩;rintro v B ⟨a2,c2,rfl,n⟩;have e:St w B (Sep [_,_,_,_,_]):=d.and n;refine⟨_,_,_,rfl,e.aj 3 rfl 3,e.aj 3 rfl 2,bg (Bg (h.aK e.aK).cp.fl (by omega)) ?_⟩;rintro v C ⟨a3,c3,rfl,o⟩;have f:St w C (Sep [_,_,_,_,_,_]):=e.and o;refine⟨_,_,_,rfl,f.aj 4 rfl 3,bg (Bc (h.aK f.aK).sa.fl (by omega)) ?_⟩;rintro v D ⟨a4,c4,rfl,p⟩;have y:St w D (Sep [_,_,_,_,_,_,_]):=f.and p;let a:Se:={S with a1:=a1,c1:=c1,a2:=a2,c2:=c2,a3:=a3,c3:=c3,a4:=a4,c4:=c4};refine⟨_,_,_,rfl,y.aR 4 rfl a.arr.toList rfl (by simp[a,Se.arr,Value.oneCell']) λH c=>(Ex8<|Ex4<|⟨c.cellsIn 4 rfl,a,rfl,rfl,?_⟩)⟩;have t:=St.nj (c.out 0 rfl);have s:=St.nj (c.out 1 rfl);have r:=St.nj (c.out 2 rfl);have q:=St.nj (c.out 3 rfl);exact((c.aM [0,1,2,3]).held ((dS T3.len).cons ((dS T3.len).cons ((dS Br.len).cons ((dS Pr.len).cons nY.nil))))).weak (jY λg ⟨l,k,j,i1,_⟩=>⟨kf.of i1 h.ps.in,rQ.of j h.bd.in,Dl.of k,Dl.of l,q.1,r.1,s.1,t.1⟩)
abbrev bl (b:Bool):List Value:=[.bool b]
def iH(b:Bool):(bl b).length=1:=rfl
def A7(b:Bool):∀v∈bl b,v.oneCell'=true:=by intro v a;simp at a;subst a;rfl
structure Rn where
 p:I6
 ask:List I6
 got:List I6
 bd:List Bool
 xa:Option Addr
 xc:Nat
 ga:Option Addr
 gc:Nat
 ba:Option Addr
 bc:Nat
def Rn.cells(x:Rn):List Value:=x.p.on [.slice x.xa x.ask.length x.xc,.slice x.ga x.got.length x.gc,.slice x.ba x.bd.length x.bc]
def Rn.len(x:Rn):x.cells.length=9:=rfl
def Rn.one(x:Rn):∀v∈x.cells,v.oneCell'=true:=by
 intro v a;simp[Rn.cells,I6.on] at a;rcases a with rfl|rfl|rfl|rfl|rfl|rfl|rfl|rfl|rfl<;>rfl
def Rn.er(x:Rn):Rn:={x with xa:=none,xc:=0,ga:=none,gc:=0,ba:=none,bc:=0}
def zRn:Rn:=⟨z6,[],[],[],none,0,none,0,none,0⟩
structure Rn.In (x:Rn) (w:ah):Prop where
 ask:iA 6 I6.vs w x.xa x.ask
 got:iA 6 I6.vs w x.ga x.got
 bd:iA 1 bl w x.ba x.bd
def Rn.In.aK{x:Rn}{w a:ah}(h:x.In w)(hc:aZ w a []):x.In a:=⟨h.ask.aK hc,h.got.aK hc,h.bd.aK hc⟩
structure Rn.Sz (n:Nat) (x:Rn):Prop where
 ask:x.ask.length=n
 got:x.got.length=n
 bd:x.bd.length=n
def yK:ru prog 39 4 (.bool false) 1 1:=ru.mk' underlying39 (by kernel_rfl) rfl (by decide)
def aap:ru prog 114 148 (.agg zRn.cells.toArray) 9 120:=ru.mk' underlying114 (by kernel_rfl) rfl (by decide)
abbrev nX (a:OA) (c:Nat) (l:List Bool):bP:=iQ 4 1 bl a c l
abbrev U8 (a:OA) (c:Nat) (l:List Rn):bP:=iQ 148 9 Rn.cells a c l
def uN{w:ah}{a:OA}{c:Nat}{l:List I6}(h:iA 6 I6.vs w a l)(e:l.length<=1000):
  CP 61 #[.slice a l.length c] w (λr b=>∃g,r=.slice (qs g) l.length l.length/\St w b (kO (qs g) l.length l)):=by
 exact(p6 uR.1).1 (Bi (c:=c) (x0:=z6) (K:=λr b=>∃g,r=.slice (qs g) l.length l.length/\St w b (kO (qs g) l.length l)) CH fU I6.one rfl (St.start w) h (by omega) (by omega) λg b d=>⟨g,rfl,d.first⟩)
def Bj{w:ah}{a:OA}{c:Nat}{l:List Bool}(h:iA 1 bl w a l)(e:l.length<=1000):
  CP 62 #[.slice a l.length c] w (λr b=>∃g,r=.slice (qs g) l.length l.length/\St w b (nX (qs g) l.length l)):=by
 exact(p6 uR.1).2.1 (Bi (c:=c) (x0:=false) (K:=λr b=>∃g,r=.slice (qs g) l.length l.length/\St w b (nX (qs g) l.length l)) yK iH A7 rfl (St.start w) h (by omega) (by omega) λg b d=>⟨g,rfl,d.first⟩)
def Pf{w:ah}{a:OA}{c:Nat}{l:List Rn}(h:iA 9 Rn.cells w a l)(e:l.length<=1000):
  CP 191 #[.slice a l.length c] w (λr b=>∃g,r=.slice (qs g) l.length l.length/\St w b (U8 (qs g) l.length l)):=by
 exact uR.2.2.2.2.2.1 (Bi (c:=c) (x0:=zRn) (K:=λr b=>∃g,r=.slice (qs g) l.length l.length/\St w b (U8 (qs g) l.length l)) aap Rn.len Rn.one rfl (St.start w) h (by omega) (by omega) λg b d=>⟨g,rfl,d.first⟩)
def Qo{w:ah}{x:Rn}{n:Nat}(h:x.In w)(e:x.Sz n)(G:n<=1000):
  CP 122 #[.agg x.cells.toArray] w (λr i=>∃a:Rn,a.er=x.er/\r=.agg a.cells.toArray/\St w i (held a.In)):=by
 refine(p6 uR.1).2.2.2.1 ?_;have O:=e.ask;have P:=e.got;have Q:=e.bd;refine bE x.cells.toArray λH J u=>u.aY zRn.cells.toArray λI C y=>?_;have c:=y.quiet (aZ.drew C []);refine⟨_,_,_,c.aj 1 rfl 6,_,_,_,c.aj 1 rfl 7,_,_,_,c.aj 1 rfl 8,bg (uN (h.aK c.aK).ask (by omega)) ?_⟩;rintro v D ⟨k,rfl,r⟩;have d:St w D (Sep [_,_,_,_]):=c.and r;refine⟨_,_,_,rfl,d.aj 2 rfl 8,d.aj 2 rfl 7,bg (uN (h.aK d.aK).got (by omega)) ?_⟩;rintro v E ⟨l,rfl,s⟩;have f:St w E (Sep [_,_,_,_,_]):=d.and s;refine⟨_,_,_,rfl,f.aj 3 rfl 8,bg (Bj (h.aK f.aK).bd (by omega)) ?_⟩;rintro v F ⟨m,rfl,t⟩;have z:St w F (Sep [_,_,_,_,_,_]):=f.and t;let a:Rn:={x with xa:=qs k,xc:=x.ask.length,ga:=qs l,gc:=x.got.length,ba:=qs m,bc:=x.bd.length};exact⟨_,_,_,rfl,z.cL 4 rfl (j:=6) (show 6<9 by decide) rfl λK A=>A.cL 4 rfl (j:=7) (show 7<9 by decide) rfl λL B=>B.cL 4 rfl (j:=8) (show 8<9 by decide) rfl λM g=>⟨x.p,Ex8 ⟨_,g.cellsIn 4 rfl,g.aR 3 rfl a.cells rfl a.one λN b=>⟨x.p,Ex8 ⟨_,b.cellsIn 3 rfl,a,rfl,rfl,((b.aM [0,1,2]).held ((dS iH).cons ((dS fU).cons ((dS fU).cons nY.nil)))).weak (jY λi ⟨q,o,i1,_⟩=>⟨i1,o,q⟩)⟩⟩⟩⟩⟩
def V3{l l':List Rn}{k:Nat}{x x':Rn}(h:l'.map Rn.er=(l.take k).map Rn.er)(a:l[k]?=some x)(e:x'.er=x.er):(l'++[x']).map Rn.er=(l.take (k+1)).map Rn.er:=by
 rw[bJ a,aS,aS,h,bH,bH,e]
abbrev tW (l:List Rn) (w:ah):Prop:=∀x∈l,x.In w
def YV{w:ah}{a:OA}{c:Nat}{l:List Rn}{n:Nat}(h:iA 9 Rn.cells w a l)(hi:tW l w)(L:∀x∈l,x.Sz n)(I:n<=1000)(U:l.length<=1000):
  CP 121 #[.slice a l.length c,.func (.func 122) #[] #[]] w (λr C=>∃b i o,b.map Rn.er=l.map Rn.er/\r=.slice i b.length o/\St w C (star (U8 i o b) (held (tW b)))):=by
 refine(p6 uR.1).2.2.1 ?_;refine⟨λj D r E F m=>∃(k:Nat) (b:List Rn),E=k/\k<=l.length/\m=l.length-k/\D=b.length/\b.length=k/\b.map Rn.er=(l.take k).map Rn.er/\St w F (Sep [U8 j r b,held (tW b),emp]),⟨l.length,0,[],rfl,by omega,by omega,rfl,rfl,rfl,((St.start w).one.oM (λ_=>by simp[tW])).gB⟩,?_⟩
 rintro F m j D r E ⟨k,b,rfl,T,u,rfl,d,t,A⟩-
 by_cases f:(k:Int)<(l.length:Int)
 .obtain⟨x,z⟩:=dX l k (by omega);have u:=ak z;obtain⟨q,J,s⟩:=(h.aK A.aK).at z;refine di f (av J ⟨by omega,by omega,x.p,Ex8 ⟨_,s,A.aY zRn.cells.toArray λV W N=>N.aR 0 rfl x.cells rfl x.one λX B=>⟨x.p,Ex8 ⟨_,B.cellsIn 0 rfl,iJ (by kernel_rfl) (bg (Qo ((hi x u).aK B.aK) (L x u) I) ?_)⟩⟩⟩⟩);rintro v S ⟨g,ex,rfl,M⟩;have O:St w S (Sep [held g.In,_,U8 j r b,held (tW b),emp]):=B.and M;refine⟨g.p,Ex8 ⟨_,rfl,iT aap Rn.len (x:=g) g.one (O.out 2 rfl) (by omega) (by omega) (λi o C P=>⟨l.length-(k+1),by omega,k+1,b++[g],gC (by omega),by omega,rfl,rfl,by simp[d],V3 t z ex,?_⟩) rfl⟩⟩;have Q:St w C (Sep [_,_,_,_,_]):=P;exact(((Q.aM [3,1,0,4]).kr (cV _) (cV _) λR G H y K=>(aB.1 K).elim (G y) λe=>by rw[aI.1 e];exact H).aM [1,0,2])
 obtain rfl:l.length=k:=by omega
 rw[aH] at t;exact dz f ⟨b,_,_,t,rfl,A.aM [0,1] |>.pair⟩
structure Ck where
 s:Se
 o:Po
 cl:List Rn
 p:I6
 ask:List I6
 bd:List Bool
 dp:List Bool
 ov:Bool
 ka:Option Addr
 kc:Nat
 xa:Option Addr
 xc:Nat
 ya:Option Addr
 yc:Nat
 za:Option Addr
 zc:Nat
def Ck.cells(C:Ck):List Value:=(.slice C.s.a1 C.s.ps.length C.s.c1)::((.slice C.s.a2 C.s.bd.length C.s.c2)::((.slice C.s.a3 C.s.cp.length C.s.c3)::((.slice C.s.a4 C.s.sa.length C.s.c4)::((iv C.o.step)::((iv C.o.pct)::((iv C.o.und)::((iv C.o.rule)::((.slice C.ka C.cl.length C.kc)::(C.p.on [.slice C.xa C.ask.length C.xc,.slice C.ya C.bd.length C.yc,.slice C.za C.dp.length C.zc,.bool C.ov])))))))))
def Ck.one(C:Ck):∀v∈C.cells,v.oneCell'=true:=by
 intro v a;simp[Ck.cells,I6.on] at a;rcases a with rfl|rfl|rfl|rfl|rfl|rfl|rfl|rfl|rfl|rfl|rfl|rfl|rfl|rfl|rfl|rfl|rfl|rfl|rfl<;>rfl
def Ck.er(C:Ck):Ck:={C with s:=C.s.er,cl:=C.cl.map Rn.er,ka:=none,kc:=0,xa:=none,xc:=0,ya:=none,yc:=0,za:=none,zc:=0}
structure Yu (S:Se) (cl:List Rn) (w:ah):Prop where
 s:S.In w
 cl:tW cl w
abbrev Ck.In (C:Ck):ah->Prop:=Yu C.s C.cl
def Yu.aK{S:Se}{cl:List Rn}{w a:ah}(h:Yu S cl w)(hc:aZ w a []):Yu S cl a:=⟨h.s.aK hc,λx b=>(h.cl x b).aK hc⟩
structure Ck.Rd (b:Nat) (C:Ck) (w:ah):Prop where
 me:aU w ⟨b,0,none⟩ 0 C.cells
 ask:iA 6 I6.vs w C.xa C.ask
 bd:iA 1 bl w C.ya C.bd
 dp:iA 1 bl w C.za C.dp
 cl:iA 9 Rn.cells w C.ka C.cl
 i:C.In w
def Ck.Rd.aK{b:Nat}{C:Ck}{w a:ah}(h:C.Rd b w)(hc:aZ w a []):C.Rd b a:=⟨ff hc h.me,h.ask.aK hc,h.bd.aK hc,h.dp.aK hc,h.cl.aK hc,h.i.aK hc⟩
def rS(b:Nat)(C:Ck):List bP:=[ay b C.cells.toArray 116,kO C.xa C.xc C.ask,nX C.ya C.yc C.bd,nX C.za C.zc C.dp,U8 C.ka C.kc C.cl,held C.In]
def Vu{r:Nat}{cs:Array Value}{T:TypeId}:nY (ay r cs T) λw=>aU w ⟨r,0,none⟩ 0 cs.toList:=λw F h=>by
 have s:=St.start w;obtain⟨a,rfl⟩:=h;refine fm _ 0 λj v b=>?_;rw[wq,az];simp only[World.cell?,a];simpa using b
def BV{b:Nat}{C:Ck}:nY (Sep (rS b C)) (C.Rd b):=
 nY.mono (Vu.cons ((dS fU).cons ((dS iH).cons ((dS iH).cons ((dS Rn.len).cons ((cV _).cons nY.nil)))))) λ_ ⟨a,c,d,e,f,g,_⟩=>⟨a,c,d,e,f,g⟩
structure Ck.Ok (C:Ck):Prop where
 s:C.s.Ok
 o:C.o.ok
 cl:C.cl.length<=30
 cz:∀x∈C.cl,x.Sz C.s.bd.length
 cp:∀x∈C.cl,rG x.p=true
 ca:∀x∈C.cl,∀u∈x.ask,I6.Le u 4
 cg:∀x∈C.cl,∀u∈x.got,I6.Le u 4
 p:rG C.p=true
 ask:C.ask.length=C.s.bd.length
 bd:C.bd.length=C.s.bd.length
 dp:C.dp.length=C.s.bd.length
 asked:∀u∈C.ask,I6.Le u 4
section
variable {b:Nat} {C:Ck} {w:ah}
def Ck.Rd.cell(h:C.Rd b w)(j:Nat){v:Value}(e:C.cells[j]?=some v):w.cell? ⟨b,j,none⟩=some v:=by
 have:=bX h.me j v e
 rwa [az,wq] at this
def Ck.Rd.bA(h:C.Rd b w)(j:Nat){vs:List Value}(f:(C.cells.drop j).take vs.length=vs):aU w ⟨b,j,none⟩ 0 vs:=
 fm _ 0 λk v c=>by
  have e:=(ai.1 c).1;have d:(⟨b,j,none⟩:Addr).add (0+k)=⟨b,j+k,none⟩:=by unfold Addr.add;split<;>simp_all
  have a:((C.cells.drop j).take vs.length)[k]?=vs[k]?:=by rw[f]
  rw[bz,ag e,cA,c] at a;rw[d];exact h.cell _ a
def LX(h:C.Rd b w)(n:Int):CP 109 #[.pointer (qs b),iv n] w (λr a=>r=.bool (decide (0<=n)&&decide (n<(C.dp.length:Int)))/\a=w):=by
 exact uR.1.2.2.2.2.1 (cBq (λg=>⟨_,_,_,h.cell 17 rfl,by rw[dT g];rfl,rfl⟩) λg=>⟨by rw[dF (by omega)];rfl,rfl⟩)
def Px(h:C.Rd b w):CP 36 #[.pointer (qs b)] w (λr d=>r=.agg C.p.vs.toArray/\aZ w d []):=by
 refine uR.1.1 (bE z6.vs.toArray λe f a=>⟨C.p,(h.aK a.aK).bA 9 rfl,a.aR 0 rfl C.p.vs rfl C.p.one λg c=>⟨C.p,c.cellsIn 0 rfl,rfl,c.aK⟩⟩)
def FZ(h:C.Rd b w)(f:C.Ok):CP 60 #[.pointer (qs b)] w (λr g=>∃a c d,a.map Rn.er=C.cl.map Rn.er/\r=.slice c a.length d/\St w g (star (U8 c d a) (held (tW a)))):=by
 refine uR.1.2.2.2.1 ⟨_,_,_,h.cell 8 rfl,bg (YV h.cl h.i.cl f.cz (by have:=f.s.bd.l2;omega) (by have:=f.cl;omega)) ?_⟩;rintro v j ⟨a,c,d,e,rfl,s⟩;exact⟨_,_,_,rfl,a,c,d,e,rfl,s⟩
def p9(C:Ck)(n:Nat):List Ch:=C.cl.map λx=>⟨x.p,x.ask.getD n z6⟩
def Bb(h:C.Rd b w)(u:C.Ok){n:Nat}(Q:n<C.s.bd.length):CP 50 #[.pointer (qs b),iv n] w (λr N=>∃j o,r=.slice j (p9 C n).length o/\St w N (iQ 158 12 Ch.cells j o (p9 C n))):=by
 refine uR.1.2.1 ?_;have hd:=u.dp;have P:=u.cl;refine⟨λb e=>b=false/\e=w,?_,bg (LX h n) ?_⟩
 .rintro e b ⟨rfl,rfl⟩-;refine cF rfl ⟨_,_,_,h.cell 8 rfl,λA E B F G m=>∃k:Nat,F=k/\k<=C.cl.length/\m=C.cl.length-k/\E=((p9 C n).take k).length/\St e G (star (iQ 158 12 Ch.cells A B ((p9 C n).take k)) emp),⟨C.cl.length,0,rfl,by omega,by omega,rfl,(St.start e).gB⟩,?_⟩;rintro G m A E B F ⟨k,rfl,H,v,rfl,f⟩-
  by_cases d:(k:Int)<(C.cl.length:Int)
  .obtain⟨x,z⟩:=dX C.cl k (by omega);have v:=ak z;have V:=(u.cz x v).ask;obtain⟨q,I,t⟩:=(h.cl.aK f.aK).at z;refine di d (av I ⟨by omega,by omega,x.p,Ex8 ⟨_,t,f.aY (l:=[_]) zRn.cells.toArray λS T K=>K.aR 0 rfl x.cells rfl x.one λO L=>?_⟩⟩);have g:=L.quiet (aZ.drew O []);have J:x.ask[n]?=some (x.ask.getD n z6):=by rw[au,gE (by omega)];rfl
   obtain⟨R,y,c⟩:=((h.i.cl x v).aK g.aK).ask.at J;refine⟨x.p,g.bA 0 0 rfl rfl,_,_,_,g.aj 0 rfl 6,av y ⟨by omega,by omega,_,c,?_⟩⟩;have a:(p9 C n)[k]?=some ⟨x.p,x.ask.getD n z6⟩:=by simp[p9,z]
   have D:((p9 C n).take k).length=k:=by simp[p9];omega
   refine iT Xt Ch.len (x:=⟨x.p,x.ask.getD n z6⟩) (Ch.one _) (g.out 1 rfl) (by omega) (by omega) (λj o U M=>mS (by omega) ⟨?_,?_⟩) rfl
   .rw[bJ a]
   rw[bJ a];exact M.first.one
  obtain rfl:C.cl.length=k:=by omega
  rw[bB (by simp[p9])] at f⊢;exact dz d ⟨_,_,rfl,f.first⟩
 rintro r e ⟨rfl,rfl⟩;exact⟨_,rfl,by simp;omega,rfl⟩
end
section
variable {b:Nat} {C:Ck} {w:ah}
def R8(h:C.Rd b w)(c:C.Ok):CP 23 #[.pointer (qs b)] w (λr V=>∃g a,a.er=C.er/\r=.pointer (qs g)/\St w V (Sep (rS g a))):=by
 refine uR.1.2.2.1 ?_;have z:=c.s.bd.l2;have z1:=c.ask;have z2:=c.bd;have z3:=c.dp;refine Ex8<|Ex8<|⟨_,_,_,C.p,Ex8 ⟨_,_,h.me,bE ⟨[.slice none 0 0,.slice none 0 0,.slice none 0 0,.slice none 0 0,iv 0,iv 0,iv 0,iv 0,.slice none 0 0,iv 0,iv 0,iv 0,iv 0,iv 0,iv 0,.slice none 0 0,.slice none 0 0,.slice none 0 0,.bool false]⟩ λQ w1 R=>R.aR 0 rfl C.cells rfl C.one λw2 q=>(Ex8<|Ex4<|⟨(h.aK q.aK).bA 0 rfl,bg (DD (h.aK q.aK).i.s c.s.sz) ?_⟩)⟩⟩;rintro v w3 ⟨u,H,rfl,L⟩;have y:=q.and L;refine Ex8<|Ex4<|⟨rfl,bg (FZ (h.aK y.aK) c) ?_⟩;rintro v Z ⟨P,E,F,G,rfl,M⟩;have S:St w Z (Sep [_,_,_,_,_]):=(y.and M).assoc;refine⟨_,_,_,rfl,S.mA 3 0 rfl ({C with s:=u}:Ck).cells.toArray (show 4<=19 by decide) (by simp[Value.oneCell']) rfl λw5 T=>T.cL 3 rfl (j:=8) (show 8<19 by decide) rfl λw6 U=>?_⟩;have A:=U.quiet (aZ.drew w6 []);have d:=h.aK A.aK;refine⟨_,_,_,d.cell 15 rfl,_,_,_,d.cell 16 rfl,_,_,_,d.cell 17 rfl,bg (uN d.ask (by omega)) ?_⟩;rintro v w8 ⟨g1,rfl,N⟩;have B:=A.and N;have e:=h.aK B.aK;refine⟨_,_,_,rfl,e.cell 17 rfl,e.cell 16 rfl,bg (Bj e.bd (by omega)) ?_⟩;rintro v w9 ⟨g2,rfl,O⟩;have D:=B.and O;have x:=h.aK D.aK;refine⟨_,_,_,rfl,x.cell 17 rfl,bg (Bj x.dp (by omega)) ?_⟩;rintro v t ⟨I,rfl,f⟩;have k:St w t (Sep [_,_,_,_,_,_,_,_]):=D.and f;refine⟨_,_,_,rfl,k.cL 6 rfl (j:=15) (show 15<19 by decide) rfl λW l=>l.cL 6 rfl (j:=16) (show 16<19 by decide) rfl λX m=>m.cL 6 rfl (j:=17) (show 17<19 by decide) rfl λY n=>?_⟩;let a:Ck:={C with s:=u,cl:=P,ka:=E,kc:=F,xa:=qs g1,xc:=C.ask.length,ya:=qs g2,yc:=C.bd.length,za:=qs I,zc:=C.dp.length};refine⟨Q,a,?_,rfl,?_⟩
 .simp only[Ck.er,a,H,G]
 have o:=n;exact((o.aM [5,4,6,2,1,0,3]).kr (cV _) (cV _) λ_ J K=>(⟨J,K⟩:a.In _)).aM [1,2,3,4,5,0]
end
section
variable {b:Nat} {C:Ck} {w0 w:ah} {B:bP}
def mh(C:Ck):Ck:={C with ask:=List.replicate C.dp.length z6,bd:=List.replicate C.dp.length false}
def G6(s:St w0 w (Sep [ay b C.cells.toArray 116,nX C.za C.zc C.dp,B]))(hd:C.dp.length<=100):
  CP 182 #[.pointer (qs b)] w (λr a=>∃xa xc ya yc,r=.tuple #[]/\St w0 a (Sep [ay b ({mh C with xa:=xa,xc:=xc,ya:=ya,yc:=yc}:Ck).cells.toArray 116,kO xa xc (mh C).ask,nX ya yc (mh C).bd,nX C.za C.zc C.dp,B])):=by
 refine uR.2.2.2.1 ?_;have g:=s.quiet (aZ.drew w []);have p:(mh C).ask.length=C.dp.length:=by simp[mh]
 have q:(mh C).bd.length=C.dp.length:=by simp[mh]
 have a:∀{g1 g2:Nat},(((C.cells.toArray.setIfInBounds 15 (.slice (qs g1) C.dp.length C.dp.length)).setIfInBounds 16 (.slice (qs g2) C.dp.length C.dp.length))=({mh C with xa:=qs g1,xc:=C.dp.length,ya:=qs g2,yc:=C.dp.length}:Ck).cells.toArray):=by
  intro g1 g2;simp only[Ck.cells];rw[p,q];rfl
 refine⟨_,_,_,g.aj 0 rfl 17,_,_,_,g.aj 0 rfl 17,⟨?_,?_⟩⟩
 .refine iD (x:=z6) CH fU rfl g (n:=C.dp.length) (by omega) (by omega) λg1 r o c=>⟨St.aj (l:=[_,_,_,_]) c 1 rfl 17,⟨?_,?_⟩⟩
  .refine iD (x:=false) yK iH rfl c (n:=C.dp.length) (by omega) (by omega) λg2 i h d=>St.cL (l:=[_,_,_,_,_]) d 2 rfl (j:=15) (show 15<19 by decide) rfl λk e=>e.cL 2 rfl (j:=16) (show 16<19 by decide) rfl λm f=>⟨qs g1,C.dp.length,qs g2,C.dp.length,rfl,?_⟩;rw[<-a];exact f.aM [2,1,0,3,4]
  refine St.cL (l:=[_,_,_,_]) c 1 rfl (j:=15) (show 15<19 by decide) rfl λk e=>iD (x:=false) yK iH rfl e (n:=C.dp.length) (by omega) (by omega) λg2 i h d=>St.cL (l:=[_,_,_,_,_]) d 2 rfl (j:=16) (show 16<19 by decide) rfl λm f=>⟨qs g1,C.dp.length,qs g2,C.dp.length,rfl,?_⟩;rw[<-a];exact f.aM [2,1,0,3,4]
 refine iD (x:=false) yK iH rfl g (n:=C.dp.length) (by omega) (by omega) λg1 r o c=>⟨St.aj (l:=[_,_,_,_]) c 1 rfl 17,iD (x:=z6) CH fU rfl c (n:=C.dp.length) (by omega) (by omega) λg2 i h d=>St.cL (l:=[_,_,_,_,_]) d 2 rfl (j:=15) (show 15<19 by decide) rfl λk e=>e.cL 2 rfl (j:=16) (show 16<19 by decide) rfl λm f=>⟨qs g2,C.dp.length,qs g1,C.dp.length,rfl,?_⟩⟩;rw[<-a];exact f.aM [2,0,1,3,4]
end
def Yw{p:I6}{q:Int->Bool}(h:∀k,k<6->q (p.at' k)=true):p.l.all q=true:=by
 have a:=h 0 (by decide);have b:=h 1 (by decide);have c:=h 2 (by decide);have d:=h 3 (by decide);have e:=h 4 (by decide);have f:=h 5 (by decide);show([p.at' 0,p.at' 1,p.at' 2,p.at' 3,p.at' 4,p.at' 5]:List Int).all q=true;simp[a,b,c,d,e,f]
def pT(S:Se)(o:Po):Ck:={s:=S,o:=o,cl:=[],p:=kQ S.ps,ask:=List.replicate S.bd.length z6,bd:=List.replicate S.bd.length false,dp:=List.replicate S.bd.length false,ov:=false,ka:=none,kc:=0,xa:=none,xc:=0,ya:=none,yc:=0,za:=none,zc:=0}
def WG{S:Se}{o:Po}(c:S.Ok)(d:o.ok):(pT S o).Ok:=by
 refine⟨c,d,by simp[pT],by simp[pT],by simp[pT],by simp[pT],by simp[pT],?_,by simp[pT],by simp[pT],by simp[pT],?_⟩
 .refine Yw λk a=>?_;show rz ((kQ S.ps).at' k)=true;rw[vj _ k a,au,aL]
  cases hx:S.ps[k]? with
  |none=>rfl
  |some x=>
   have b:=(c.ps.good k x hx).1;simp only[xq,EK,aF,aV] at b;simp only[rz,aF,aV];exact b.2.2.1
 intro u b;rw[fZ b];intro k a;match k,a with
 |0,_|1,_|2,_|3,_|4,_|5,_=>exact⟨by decide,by decide⟩
def abQ{w:ah}{S:Se}{o:Po}(h:S.In w)(q:S.Ok)(R:o.ok):
  CP 125 #[.agg S.arr,o.v] w (λr m=>∃g b,b.er=(pT S o).er/\r=.tuple #[.pointer (qs g),iv 0]/\St w m (Sep (rS g b))):=by
 refine(p6 uR.1).2.2.2.2.1 ?_;have z:=q.bd.l2;refine bE S.arr λV K H=>H.aY o.cells.toArray λW X y=>(Ex8<|Ex4<|⟨y.cellsIn 1 rfl,bg (xF (h.aK y.aK)) ?_⟩);rintro v T ⟨⟨e,rfl,Q⟩,N⟩;obtain rfl:=Q.2 q;have B:=y.quiet N;refine⟨_,rfl,cF rfl ⟨_,_,_,_,B.cellsIn 0 rfl,bF (BD T o) λU O=>?_⟩⟩;have t:=(B.quiet O).quiet (aZ.drew U []);refine⟨_,rfl,cF (by rw[pV,ag R];rfl) ?_⟩;have u:∀{m},aZ w m []->S.In m:=λP=>h.aK P;let i (a:Se) (g2:Nat):Ck:={pT S o with s:=a,ask:=[],bd:=[],za:=qs g2,zc:=S.bd.length};have E:∀(a:Se) (g2:Nat),(i a g2).cells.toArray=((.slice a.a1 a.ps.length a.c1)::((.slice a.a2 a.bd.length a.c2)::((.slice a.a3 a.cp.length a.c3)::((.slice a.a4 a.sa.length a.c4)::((iv o.step)::((iv o.pct)::((iv o.und)::((iv o.rule)::((.slice none 0 0)::((kQ S.ps).on [.slice none 0 0,.slice none 0 0,.slice (qs g2) S.bd.length S.bd.length,.bool false]))))))))):List Value).toArray:=by
  intro a g2;simp only[i,pT,Ck.cells,bS,aT]
 have F:∀{a:Se} {g g2:Nat} {m:ah},a.er=S.er->St w m (Sep [ay g (i a g2).cells.toArray 116,nX (qs g2) S.bd.length (List.replicate S.bd.length false),held a.In]) ->
   CC 182 #[.pointer (qs g)] m (wo λr c=>r=.tuple #[]/\∃b,b.er=(pT S o).er/\St w c (Sep (rS g b))):=by
  intro a g g2 m k s;refine bg (G6 (C:=i a g2) s (by simp[i,pT];omega)) ?_;rintro r K ⟨xa,xc,ya,yc,rfl,H⟩;refine⟨_,rfl,rfl,{mh (i a g2) with xa:=xa,xc:=xc,ya:=ya,yc:=yc},?_,?_⟩
  .simp only[i,mh,pT,Ck.er,k,bS]
  have y:St w K (Sep [_,_,_,_,_,_]):=H.gB (e:=148) (sz:=9) (f:=Rn.cells);have B:=((y.aM [5,1,2,3,4,0]).we ((cV _).mono λw h=>(⟨h,λx c=>by simp[i,mh,pT] at c⟩:({mh (i a g2) with xa:=xa,xc:=xc,ya:=ya,yc:=yc}:Ck).In w)));exact B.aM [1,2,3,4,5,0]
 refine⟨λp L=>∃(a:Se) (g g2:Nat),p=qs g/\a.er=S.er/\St w L (Sep [ay g (i a g2).cells.toArray 116,nX (qs g2) S.bd.length (List.replicate S.bd.length false),held a.In]),?_,?_⟩
 .rintro L p ⟨a,g,g2,rfl,k,c⟩-;refine bg (F k c) ?_;rintro r j ⟨rfl,b,e,d⟩;exact⟨rfl,g,b,e,rfl,d⟩
 refine Ex8<|Ex4<|⟨t.cellsIn 1 rfl,_,_,_,_,t.cellsIn 0 rfl,_,_,_,t.aj 1 rfl 0,_,_,_,t.aj 1 rfl 1,⟨?_,?_⟩⟩
 .refine bg (DD (u t.aK) q.sz) ?_;rintro v I ⟨a,k,rfl,G⟩;have d:St w I (Sep [_,_,_,_]):=t.and G;refine Ex8<|Ex4<|⟨rfl,d.aj 2 rfl 1,d.aj 2 rfl 0,d.cellsIn 1 rfl,⟨?_,?_⟩⟩
  .refine d.qu (Iz (u d.aK).ps q.ps.l2 h.h1) λM j=>⟨_,rfl,j.aj 2 rfl 1,j.cellsIn 1 rfl,iD (x:=false) yK iH rfl j (n:=S.bd.length) (by omega) (by omega) λg2 D J b=>⟨St.cellsIn (l:=[_,_,_,_,_]) b 2 rfl,St.aY (l:=[_,_,_,_,_]) b _ λr A c=>⟨a,r,g2,rfl,k,by rw[E];exact c.aM [0,1,2]⟩⟩⟩
  refine iD (x:=false) yK iH rfl d (n:=S.bd.length) (by omega) (by omega) λg2 D J b=>?_;have b:St w D (Sep [_,_,_,_,_]):=b;exact⟨b.aj 3 rfl 0,b.cellsIn 2 rfl,b.qu (Iz (u b.aK).ps q.ps.l2 h.h1) λM j=>⟨_,rfl,j.cellsIn 2 rfl,j.aY _ λr A c=>⟨a,r,g2,rfl,k,by rw[E];exact c.aM [0,1,2]⟩⟩⟩
 refine iD (x:=false) yK iH rfl t (n:=S.bd.length) (by omega) (by omega) λg2 D J b=>?_;have b:St w D (Sep [_,_,_,_]):=b;refine⟨b.aj 2 rfl 0,b.cellsIn 1 rfl,b.cellsIn 2 rfl,bg (DD (u b.aK) q.sz) ?_⟩;rintro v I ⟨a,k,rfl,G⟩;have d:St w I (Sep [_,_,_,_,_]):=b.and G;exact Ex8<|Ex4<|⟨rfl,d.aj 3 rfl 0,d.cellsIn 2 rfl,d.qu (Iz (u d.aK).ps q.ps.l2 h.h1) λM j=>⟨_,rfl,j.cellsIn 2 rfl,j.aY _ λr A c=>⟨a,r,g2,rfl,k,by rw[E];exact c.aM [0,2,1]⟩⟩⟩
section
variable {b:Nat} {C:Ck} {w0 w:ah} {B:bP}
def Jl(s:St w0 w (Sep (rS b C++[B])))(a:C.Ok):
  CP 182 #[.pointer (qs b)] w (λr c=>∃xa xc ya yc,r=.tuple #[]/\St w0 c (Sep (rS b {mh C with xa:=xa,xc:=xc,ya:=ya,yc:=yc}++[B]))):=by
 have z:=a.s.bd.l2;have e:=a.dp;refine bg (G6 (C:=C) (s.aM [0,3,4,5,6]).Ym (by omega)) ?_;rintro r d ⟨xa,xc,ya,yc,rfl,c⟩;exact⟨_,rfl,xa,xc,ya,yc,rfl,c.mT [_,_,_,_]⟩
def xL(C:Ck):Ck:={mh C with ov:=true}
def aav(s:St w0 w (Sep (rS b C++[B])))(d:C.Ok):
  CP 128 #[.pointer (qs b)] w (λr c=>(C.ov=true/\r=iv 10/\St w0 c (Sep (rS b C++[B])))\/(C.ov=false/\r=iv 0/\∃a,a.er=(xL C).er/\St w0 c (Sep (rS b a++[B])))):=by
 refine(p6 (p6 uR.1)).2.1 ⟨_,s.aj 0 rfl 18,?_⟩
 cases ho:C.ov with
 |true=>exact cT rfl (.inl ⟨rfl,rfl,s⟩)
 |false=>
  refine cF rfl (bg (Jl s d) ?_);rintro r e ⟨xa,xc,ya,yc,rfl,a⟩;exact⟨rfl,a.cL 0 rfl (j:=18) (show 18<19 by decide) rfl λf c=>.inr ⟨rfl,rfl,{xL C with xa:=xa,xc:=xc,ya:=ya,yc:=yc},rfl,c⟩⟩
def pe(C:Ck)(n:Nat):Ck:={C with dp:=C.dp.set n true,ask:=C.ask.set n z6,bd:=C.bd.set n false}
def YU(s:St w0 w (Sep (rS b C++[B])))(c:C.Ok){n:Nat}(E:n<C.s.bd.length):
  CP 131 #[.pointer (qs b),iv n] w (λr a=>(C.dp[n]?=some true/\r=iv 10/\St w0 a (Sep (rS b C++[B])))\/(C.dp[n]?=some false/\r=iv 0/\St w0 a (Sep (rS b (pe C n)++[B])))):=by
 refine uR.2.1 ?_;have z:=c.s.bd.l2;have H:=c.dp;have I:=c.ask;have J:=c.bd;have k:=(s.split (rS b C)).first.imp BV;refine⟨λb d=>b=false/\d=w,?_,bg (LX k n) ?_⟩
 .rintro d _ ⟨rfl,rfl⟩-;obtain⟨x,j⟩:=dX C.dp n (by omega);obtain⟨q,t,h⟩:=k.dp.at j;refine cF rfl ⟨_,_,_,k.cell 17 rfl,av t ⟨by omega,by omega,x,h.1,?_⟩⟩
  cases x with
  |true=>exact cT rfl (.inl ⟨j,rfl,s⟩)
  |false=>
   have a:=s.quiet (aZ.drew d []);obtain⟨g1,e⟩:=(a.out 3 rfl).kN (by omega);obtain⟨g2,f⟩:=(a.out 1 rfl).kN (by omega);obtain⟨D,g⟩:=(a.out 2 rfl).kN (by omega);refine cF rfl ⟨_,_,_,a.aj 0 rfl 17,_,_,_,a.aj 0 rfl 15,_,_,_,a.aj 0 rfl 16,av e ⟨by omega,by omega,?_⟩⟩;rw[aq];have t1:=a.out 3 rfl;rw[e] at t1;refine St.kP (v:=.bool) (x:=true) rfl t1 (i:=n) (by omega) λF m=>av f ⟨by omega,by omega,?_⟩;have m:=m.back (l:=rS b C++[B]) (i:=3) (show 3<7 by decide);have t2:=m.out 1 rfl;rw[f] at t2;refine St.wh fU (x:=z6) z6.one t2 (i:=n) (by omega) λG u=>av g ⟨by omega,by omega,?_⟩;have t3:=(u.back (show 1<7 by decide)).out 2 rfl;rw[g] at t3;refine St.kP (v:=.bool) (x:=false) rfl t3 (i:=n) (by omega) λA y=>.inr ⟨j,rfl,?_⟩;have o:=y.back (show 2<7 by decide);rw[<-e,<-f,<-g] at o;have p:(pe C n).cells=C.cells:=by simp[pe,Ck.cells]
   show St w0 A (Sep [ay b (pe C n).cells.toArray 116,_,_,_,_,_,B]);rw[p];exact o
 rintro r d ⟨rfl,rfl⟩;exact⟨_,rfl,by simp;omega,rfl⟩
def jT(C:Ck)(r:Nat):Ck:=match C.cl[r]? with
 |some x=>{mh C with p:=x.p,cl:=C.cl.take r,ov:=false}
 |none=>{mh C with ov:=false}
def gZ(C:Ck)(r:Int):Bool:=decide (r<0)||decide (r>(C.cl.length:Int))||(r==(C.cl.length:Int)&&C.ov)
def Xa(s:St w0 w (Sep (rS b C++[B])))(m:C.Ok)(r:Int):
  CP 132 #[.pointer (qs b),iv r] w (λv d=>(gZ C r=true/\v=iv 4/\St w0 d (Sep (rS b C++[B])))\/(gZ C r=false/\v=iv 0/\∃a,a.er=(jT C r.toNat).er/\St w0 d (Sep (rS b a++[B])))):=by
 refine uR.2.2.1 ?_;have N:=m.cl;refine⟨λx t=>x=gZ C r/\t=w,?_,?_⟩
 .rintro t _ ⟨rfl,rfl⟩-
  cases he:gZ C r with
  |true=>exact cT rfl (.inl ⟨rfl,rfl,s⟩)
  |false=>
   have A:0<=r/\r<=(C.cl.length:Int):=by
    simp only[gZ,cI,ct] at he;omega
   obtain⟨n,rfl⟩:=cZ A.1;refine cF rfl (bg (Jl s m) ?_);rintro v O ⟨xa,xc,ya,yc,rfl,f⟩;refine⟨rfl,λu=>∃a:Ck,({a with ov:=false}:Ck).er=(jT C n).er/\St w0 u (Sep (rS b a++[B])),?_,?_⟩
   .rintro u ⟨a,e,d⟩-;exact d.cL 0 rfl (j:=18) (show 18<19 by decide) rfl λh g=>.inr ⟨rfl,rfl,{a with ov:=false},e,g⟩
   refine⟨_,_,_,f.aj 0 rfl 8,?_⟩
   by_cases d:(n:Int)<(C.cl.length:Int)
   .obtain⟨x,o⟩:=dX C.cl n (by omega);have G:=(f.split (rS b _)).first.imp BV;obtain⟨q,D,i⟩:=G.cl.at o;refine di d ⟨_,_,_,f.aj 0 rfl 8,av D ⟨by omega,d,x.p,?_,?_⟩⟩
    .rw[aq];exact Ji i rfl
    refine f.mA 0 9 rfl ({mh C with xa:=xa,xc:=xc,ya:=ya,yc:=yc,p:=x.p}:Ck).cells.toArray (show 15<=19 by decide) x.p.one rfl λK e=>⟨_,_,_,e.aj 0 rfl 8,by omega,?_,?_⟩
    .have:C.cl.length<=C.kc:=(St.nj (e.out 4 rfl)).1;show(n:Int)<=(C.kc:Int);omega
    have k:iA 9 Rn.cells K C.ka C.cl:=St.rd Rn.len (e.out 4 rfl);have el:(C.cl.take n).length=n:=by rw[aW];omega
    rw[YM,aq,fk,fk];have l:=Pf (c:=C.kc) (Dn.take k n) (by omega);rw[el] at l;refine bg l ?_;rintro v L ⟨g,rfl,F⟩;have H:St w0 L (Sep (_::_)):=e.and F;refine⟨_,_,_,rfl,H.cL 1 rfl (j:=8) (show 8<19 by decide) rfl λM I=>⟨{mh C with xa:=xa,xc:=xc,ya:=ya,yc:=yc,p:=x.p,cl:=C.cl.take n,ka:=qs g,kc:=n},by rw[jT,o];rfl,?_⟩⟩;have J:=(I.aM [6,1,2,3,4,0,7]).we ((cV _).mono λw h=>(⟨h.s,λy E=>h.cl y (bC E)⟩:Yu C.s (C.cl.take n) w));have z:({mh C with xa:=xa,xc:=xc,ya:=ya,yc:=yc,p:=x.p,cl:=C.cl.take n,ka:=qs g,kc:=n}:Ck).cells.toArray=({mh C with xa:=xa,xc:=xc,ya:=ya,yc:=yc,p:=x.p}:Ck).cells.toArray.setIfInBounds 8 (.slice (qs g) n n):=by
     simp only[Ck.cells,mh,el];rfl
    show St w0 M (Sep [ay b (Ck.cells _).toArray 116,_,_,_,_,_,_]);rw[z];exact J.aM [1,2,3,4,5,0,6]
   have e:C.cl[n]?=none:=aJ (by omega);exact dz d ⟨_,by rw[jT,e];rfl,f⟩
 by_cases g1:r<0
 .exact di g1 ⟨by rw[gZ,dT g1];rfl,rfl⟩
 refine dz g1 ⟨_,_,_,s.aj 0 rfl 8,?_⟩
 by_cases g2:r>(C.cl.length:Int)
 .exact di g2 ⟨by rw[gZ,dT g2];simp,rfl⟩
 exact dz g2 ⟨_,_,_,s.aj 0 rfl 8,cBq (λa=>⟨_,s.aj 0 rfl 18,by rw[gZ,dF g1,dF g2,a];simp,rfl⟩) λa=>⟨by rw[gZ,dF g1,dF g2];simp;exact λh=>absurd h a,rfl⟩⟩
end
section
variable {b:Nat} {C:Ck} {w0 w:ah} {B:bP}
def kH(dp:List Bool):Nat->List I6->List I6
 |_,[]=>[]
 |k,u::l=>(if dp.getD k false then z6 else u)::kH dp (k+1) l
theorem yj(dp:List Bool):∀(l:List I6) (k:Nat),(kH dp k l).length=l.length
 |[],_=>rfl
 |_::l,k=>by simp[kH,yj dp l (k+1)]
theorem BE(dp:List Bool):∀(l:List I6) (k i:Nat),(kH dp k l)[i]?=l[i]?.map λu=>if dp.getD (k+i) false then z6 else u
 |[],_,_=>by simp[kH]
 |u::l,k,0=>by simp[kH]
 |u::l,k,i+1=>by
  rw[kH,iN,iN,BE dp l (k+1) i,show k+(i+1)=k+1+i by omega]
def oP(C:Ck):List I6:=kH C.dp 0 ((C.cl.getLast?.map Rn.got).getD [])
def Me(h:C.Rd b w)(l:C.Ok)(W:0<C.cl.length):
  CP 186 #[.pointer (qs b)] w (λr a=>∃g,r=.slice (qs g) (oP C).length (oP C).length/\St w a (kO (qs g) (oP C).length (oP C))):=by
 refine uR.2.2.2.2.1 ?_;have V:=l.cl;have z:=l.s.bd.l2;have Y:=l.dp;obtain⟨x,F⟩:=dX C.cl (C.cl.length-1) (by omega);have d:C.cl.getLast? = some x:=by rw[eH];exact F
 have I:=ak F;have Z:=(l.cz x I).got;have d0:aZ w w.drew []:=aZ.drew w [];have A:=h.aK d0;obtain⟨q,Q,B⟩:=A.cl.at F;have t:IntKind.i64.wrap ((C.cl.length:Int)-1)=((C.cl.length-1:Nat):Int):=by rw[gC (by omega)];omega
 have H:oP C=kH C.dp 0 x.got:=by rw[oP,d];rfl
 refine⟨_,_,_,A.cell 8 rfl,_,_,_,A.cell 8 rfl,av Q ⟨?_,?_,x.ga,x.got.length,x.gc,?_,?_⟩⟩
 .rw[t];omega
 .rw[t];omega
 .rw[t,aq];exact bX B 7 _ rfl
 refine bg (uN ((h.i.cl x I).aK d0).got (by omega)) ?_;rintro v U ⟨g,rfl,T⟩;have M:St w U (Sep [_]):=(St.start' d0).and T;have f:(kH C.dp 0 x.got).length=x.got.length:=yj _ _ _;let L:Nat->List I6:=tQ (kH C.dp 0 x.got) x.got;have e:∀k,k<=x.got.length->(L k).length=x.got.length:=λk l=>D9 f (by omega);refine⟨_,_,_,rfl,_,_,_,(h.aK M.aK).cell 17 rfl,λn N m=>∃k:Nat,n=k/\k<=C.dp.length/\m=C.dp.length-k/\St w N (Sep [kO (qs g) x.got.length (L k)]),⟨C.dp.length,0,rfl,by omega,by omega,?_⟩,?_⟩
 .rw[show L 0=x.got from Ga];exact M.aM [0]
 rintro N m n ⟨k,rfl,O,P,p⟩-
 by_cases o:(k:Int)<(C.dp.length:Int)
 .obtain⟨y,hd⟩:=dX C.dp k (by omega);have D:C.dp.getD k false=y:=by rw[au,hd];rfl
  obtain⟨X,E,j⟩:=(h.dp.aK p.aK).at hd;obtain⟨u,K⟩:=dX x.got k (by omega);have J:(kH C.dp 0 x.got)[k]?=some (if y then z6 else u):=by rw[BE,K,az,D];rfl
  have c:∀v,(kH C.dp 0 x.got)[k]?=some v->(L k).set k v=L (k+1):=λv R=>J9 f R;have a:y=false->L k=L (k+1):=λS=>F9 f (by omega) (by rw[J,K,S];rfl);refine di o ⟨λG=>St w G (Sep [kO (qs g) x.got.length (L (k+1))]),λG r _=>(mS (by omega) r),av E ⟨by omega,by omega,y,j.1,?_⟩⟩
  cases y with
  |true=>
   refine cT rfl (av rfl ⟨by omega,by omega,?_⟩);rw[aq];refine St.wh fU (x:=z6) z6.one p (i:=k) (by rw[e k (by omega)];omega) λG r=>?_;rw[c z6 J] at r;exact r
  |false=>exact cF rfl (by rw[<-a rfl];exact p)
 obtain rfl:C.dp.length=k:=by omega
 have a:L C.dp.length=oP C:=by
  show tQ _ _ _=_;rw[show C.dp.length=x.got.length by omega,F8 f,H]
 have c:(oP C).length=x.got.length:=by rw[H,f]
 rw[a] at p;rw[c];exact dz o ⟨g,rfl,p.single⟩
end
section
variable {b:Nat} {C:Ck} {w0 w:ah} {B:bP}
def sup_le{l:List Pr}(h:iu l):I6.Le (dD l) 4:=C9 (by rw[MN];exact OG h.good)
def vY{u:I6}{m n:Int}(h:I6.Le u m)(b:m<=n):I6.Le u n:=λk a=>by have:=h k a;omega
def OV{n:Int}(h:0<=n):I6.Le z6 n:=λk a=>by
 match k,a with
 |0,_|1,_|2,_|3,_|4,_|5,_=>exact⟨bR _,h⟩
theorem Km{dp:List Bool}{n:Int}(b:0<=n):∀(l:List I6) (k:Nat),(∀u∈l,I6.Le u n)->∀u∈kH dp k l,I6.Le u n
 |[],_,_,u,a=>by simp[kH] at a
 |x::l,k,h,u,a=>by
  rcases aP.1 a with rfl|a
  .split
   .exact OV b
   exact h x (by simp)
  exact Km b l (k+1) (λu a=>h u (by simp[a])) u a
def HZ(b:C.Ok)(f:0<C.cl.length):(oP C).length=C.s.bd.length/\∀u∈oP C,I6.Le u 4:=by
 obtain⟨x,d⟩:=dX C.cl (C.cl.length-1) (by omega);have a:C.cl.getLast? = some x:=by rw[eH];exact d
 have c:=ak d;have e:oP C=kH C.dp 0 x.got:=by rw[oP,a];rfl
 rw[e];exact⟨by rw[yj,(b.cz x c).got],Km (by omega) _ _ (b.cg x c)⟩
def jl(C:Ck):List I6:=if C.cl.length=0 then C.ask else Yr C.o.und (dD C.s.ps) (oP C) C.ask
def LV(a:C.Ok):(jl C).length=C.s.bd.length/\∀u∈jl C,I6.Le u 4:=by
 unfold jl
 split
 .exact⟨a.ask,a.asked⟩
 rename_i h;obtain⟨b,c⟩:=HZ a (by omega);have:=BP (p:=C.o.und) (sup:=dD C.s.ps) (by omega) c a.asked C.ask.length;exact⟨this.1.trans b,this.2⟩
def Qu(C:Ck):Rn:=⟨C.p,C.ask,jl C,C.bd,none,0,none,0,none,0⟩
def sH(C:Ck):I6:=Av (j6 (jl C)) (dD C.s.ps)
def qe(C:Ck):I6×Int:=uf C.o C.p (sH C)
def jG(C:Ck):Bool:=decide (sH C=z6)||(decide (C.cl.length+1>=30)||(qe C).2 !=0)
def mg(C:Ck):Ck:={mh C with cl:=C.cl++[Qu C],ov:=jG C,p:=if jG C then C.p else (qe C).1}
def VL(s:St w0 w (Sep (rS b C++[B])))(d:C.Ok):
  CP 127 #[.pointer (qs b)] w (λr R=>(C.ov=true/\r=.tuple #[.bool false,iv 10]/\St w0 R (Sep (rS b C++[B])))\/(C.ov=false/\r=.tuple #[.bool (jG C),iv 0]/\∃a,a.er=(mg C).er/\St w0 R (Sep (rS b a++[B])))):=by
 refine(p6 (p6 uR.1)).1 ?_;have hl:=d.cl;have z:=d.s.bd.l2;have z1:=d.ask;have z2:=d.bd;have z3:=d.dp;have hg:=LV d;have E:=sup_le d.s.ps;refine⟨_,s.aj 0 rfl 18,?_⟩
 cases hov:C.ov with
 |true=>exact cT rfl (.inl ⟨rfl,rfl,s⟩)
 |false=>
 have Y:∀{R:ah} {L:List bP} {i:Nat},St w0 R (Sep L)->L[i]?=some (held C.In)->C.In R:=λs e=>s.eu _ e;refine cF rfl ⟨_,_,_,s.aj 0 rfl 0,bF (tG (Y s (i:=5) rfl).s.ps (by have:=d.s.ps.l2;omega)) λw1 c1=>⟨_,rfl,(s.quiet c1).aY z6.vs.toArray λO w2 s2=>s2.aR 0 rfl (dD C.s.ps).vs rfl (I6.one _) λw3 s3=>⟨_,_,_,s3.aj 1 rfl 15,bg (uN (St.rd fU (s3.out 2 rfl)) (by omega)) ?_⟩⟩⟩;rintro v w4 ⟨g,rfl,k4⟩;have s4:St w0 w4 (Sep (kO _ _ _::ay O (dD C.s.ps).vs.toArray 50::(rS b C++[B]))):=s3.and k4;refine⟨_,_,_,rfl,λK l4 T w5=>l4=(jl C).length/\St w0 w5 (Sep (kO K T (jl C)::ay O (dD C.s.ps).vs.toArray 50::(rS b C++[B]))),?_,?_⟩
 .rintro w5 K l4 T ⟨rfl,G⟩-;have k:=G.quiet (aZ.drew w5 []);let x:Rn:={Qu C with xa:=C.xa,xc:=C.xc,ga:=K,gc:=T,ba:=C.ya,bc:=C.yc};refine⟨_,_,_,k.aj 2 rfl 8,C.p,k.bA 2 9 rfl rfl,_,_,_,k.aj 2 rfl 15,_,_,_,k.aj 2 rfl 16,k.aY x.cells.toArray λr2 w6 Q=>⟨Q.aj 3 rfl 8,?_⟩⟩;have X:iA 9 Rn.cells w6 (qs r2) [x]:=λi y N=>by
   obtain⟨rfl,rfl⟩:i=0/\y=x:=by
    cases i with
    |zero=>simp at N;exact⟨rfl,N.symm⟩
    |succ i=>simp at N
   exact⟨_,_,rfl,by rw[gz,wq];exact Q.cellsIn 0 rfl,rfl,rfl⟩
  refine dW aap Rn.len Rn.one (Q.out 7 rfl) (a2:=qs r2) (c2:=1) (l2:=[x]) X (by simp;omega) (by simp;omega) λa8 c8 w7 s8=>?_;have s9:=s8.back (show 7<10 by decide);refine s9.cL 3 rfl (j:=8) (show 8<19 by decide) rfl λw8 Z=>?_;let D:Ck:={C with cl:=C.cl++[x],ka:=a8,kc:=c8};refine bg (G6 (C:=D) (St.Ym (A:=ay b D.cells.toArray 116) (B:=nX D.za D.zc D.dp) (m:=[kO C.xa C.xc C.ask,kO K T (jl C),nX C.ya C.yc C.bd,held C.In,U8 a8 c8 (C.cl++[x]),ay O (dD C.s.ps).vs.toArray 50,B]) (Z.aM [3,6,4,1,5,8,7,2,9])) (by show C.dp.length<=100;omega)) ?_;rintro r w9 ⟨xa,xc,ya,yc,rfl,s11⟩;have s12:=s11.mT [_,_,_,_];let q:Ck:={mh D with xa:=xa,xc:=xc,ya:=ya,yc:=yc};have s13:=(((s12.aM [4,5,6,7,0,1,2,3,8,9,10]).kr (dS fU) (dS fU) λ_ H I=>And.intro H I).kr (cV _) (dS iH) λ_ H I=>(⟨H.1,H.2,I⟩:x.In _)).kr (cV _) (cV _) λw H I=>(⟨I.s,λy N=>(aB.1 N).elim (I.cl y) λe=>by rw[aI.1 e];exact H⟩:Yu C.s (C.cl++[x]) w);have F:St w0 w9 (Sep (rS b q++[ay O (dD C.s.ps).vs.toArray 50,B])):=s13.aM [1,2,3,4,5,0,6,7];refine⟨rfl,_,F.cellsIn 6 rfl,?_⟩;have W:Yu C.s (C.cl++[x]) w9:=F.eu 5 rfl;have V:U2 w9 K (jl C):=(W.cl x (by simp)).got;refine bF (Sq (dD C.s.ps) (vY E (by omega)) V (λu hu=>vY (hg.2 u hu) (by omega)) (by omega)) λw10 U=>⟨_,rfl,(F.quiet U).aY z6.vs.toArray λr3 w11 s15=>s15.aR 0 rfl (sH C).vs rfl (I6.one _) λw12 s16=>?_⟩;let J:ah->Nat->Prop:=λt P=>St w0 t (Sep (ay P (qe C).1.vs.toArray 37::ay r3 (sH C).vs.toArray 50::(rS b q++[ay O (dD C.s.ps).vs.toArray 50,B])));have M:∀{ov:Bool} {p:I6},({q with ov:=ov,p:=p}:Ck).er=({mh C with cl:=C.cl++[Qu C],ov:=ov,p:=p}:Ck).er:=by
   intro ov p;simp[q,D,mh,Ck.er,Rn.er,x,Qu]
  have lenD:(C.cl++[x]).length=C.cl.length+1:=by simp
  refine⟨λP n t=>n=(qe C).2/\J t P,?_,?_⟩
  .rintro t P n ⟨rfl,a⟩-;refine⟨λx S=>x=jG C/\J S P,?_,?_⟩
   .rintro S x ⟨rfl,c⟩-
    cases hla:jG C with
    |true=>
     refine cT rfl (St.cL c 2 rfl (j:=18) (show 18<19 by decide) rfl λw15 f=>.inr ⟨rfl,rfl,{q with ov:=true},?_,St.aM f [2,3,4,5,6,7,9]⟩);rw[mg,hla,ag rfl];exact M (ov:=true) (p:=C.p)
    |false=>
     refine cF rfl ⟨(qe C).1,c.cellsIn 0 rfl,c.mA 2 9 rfl ({q with p:=(qe C).1}:Ck).cells.toArray (show 15<=19 by decide) (I6.one _) rfl λw15 f=>.inr ⟨rfl,rfl,{q with p:=(qe C).1},?_,St.aM f [2,3,4,5,6,7,9]⟩⟩;rw[mg,hla,af (by decide)];have:=M (ov:=false) (p:=(qe C).1);rw[<-this];have e:∀o,o=C.ov->({q with p:=(qe C).1}:Ck)={q with ov:=o,p:=(qe C).1}:=λo h=>by subst h;rfl
     rw[e false hov.symm]
   refine⟨sH C,a.cellsIn 1 rfl,?_⟩;rw[I6.beq_eq];refine cBq (λg1=>⟨by rw[jG,dT g1,iY],a⟩) λg1=>⟨_,_,_,a.aj 2 rfl 8,?_⟩
   by_cases g2:C.cl.length+1>=30
   .exact di (by show(((C.cl++[x]).length:Nat):Int)>=30;omega) ⟨by rw[jG,dT g2,iY,kX],a⟩
   exact dz (by show ¬ (((C.cl++[x]).length:Nat):Int)>=30;omega) ⟨by rw[jG,dF g1,dF g2,fO,fO],a⟩
  have a:=s16.quiet (aZ.drew w12 []);refine⟨_,_,_,_,a.bA 1 4 rfl rfl,C.p,a.bA 1 9 rfl rfl,sH C,a.cellsIn 0 rfl,⟨?_,?_⟩⟩
  .exact bF (Tg _ d.o d.p (sH C)) λo h=>⟨_,_,rfl,(a.quiet h).aY z6.vs.toArray λr5 S c=>c.aR 0 rfl (qe C).1.vs rfl (I6.one _) λw20 f=>⟨rfl,f⟩⟩
  exact a.aY z6.vs.toArray λr5 S c=>⟨c.cellsIn 1 rfl,c.bA 2 9 rfl rfl,c.bA 2 4 rfl rfl,bF (Tg _ d.o d.p (sH C)) λo h=>⟨_,_,rfl,(c.quiet h).aR 0 rfl (qe C).1.vs rfl (I6.one _) λw20 f=>⟨rfl,f⟩⟩⟩
 refine⟨_,_,_,s4.aj 2 rfl 8,?_⟩
 by_cases p:(C.cl.length:Int)>0
 .have G:=s4.quiet (aZ.drew w4 []);have o:=(G.aM [2,3,4,5,6,7]).imp BV;obtain⟨f,n⟩:=HZ d (by omega);refine di p ⟨_,G.aj 2 rfl 6,_,G.cellsIn 1 rfl,_,_,_,G.aj 2 rfl 15,bg (Me o d (by omega)) ?_⟩;rintro v w6 ⟨g2,rfl,q⟩;have k:St w0 w6 (Sep (_::_)):=G.and q;refine⟨_,_,_,rfl,k.aj 3 rfl 15,k.cellsIn 2 rfl,k.aj 3 rfl 6,bg (UR k (by have:=d.o;unfold Po.ok at this;omega) E (St.rd fU (k.out 0 rfl)) (St.rd fU (k.out 4 rfl)) (by rw[f,z1]) (by omega) n d.asked) ?_⟩;rintro v w7 ⟨a,c,rfl,Q,-⟩;have h:jl C=Yr C.o.und (dD C.s.ps) (oP C) C.ask:=by rw[jl,af (by omega)]
  refine⟨_,_,_,_,rfl,cF rfl ⟨by rw[hg.1,f],?_⟩⟩;rw[h];exact St.aM (l:=_::_::_::_::_) Q [0,3,4,5,6,7,8,9,10]
 have h:jl C=C.ask:=by rw[jl,ag (by omega)]
 exact dz p ⟨by rw[h],by rw[h];exact s4⟩
end

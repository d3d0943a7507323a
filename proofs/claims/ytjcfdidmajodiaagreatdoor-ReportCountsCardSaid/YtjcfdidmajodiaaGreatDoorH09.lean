import Derived.Test.YtjcfdidmajodiaaGreatDoorH08
set_option linter.unusedVariables false
set_option linter.defProp false
set_option maxRecDepth 100000
set_option maxHeartbeats 4000000
namespace Go.Proofs.YtjcfdidmajodiaaGreatDoor
open Go Go.Vc Go.Vt _root_.Go.Proofs.Tryz
def oO:=many uj [en func164 [(0,.k (.s .blk))] [(6,[(15,.s .bool)]),(122,[(5,.s .slice),(21,.s (.int .i64))])],en func42 [(0,.k (.s .blk))] [],en func21 [(0,.k (.s .blk))] [],en func160 [(0,.k (.s .blk))] [],en func75 [] [],en func76 [] [],en func77 [] [],en func50 [] [(58,[(5,.s .slice),(10,.s (.int .i64))])],en func51 [] [],en func117 [] [(15,[(8,.s .ptr)])],en func118 [(0,.k (.s .blk))] [],en func119 [(0,.k (.s .blk))] [(31,[(5,.s .slice)]),(511,[(9,.s .blk),(10,.s (.int .i64))]),(2046,[(111,.s .bool)])],en func120 [(0,.k (.s .blk))] []] (by conv=>lhs;reduce) (by kernel_rfl) λ x=>by
 dsimp only[fj,fh,ff,fe,fk,fm,fq,tF,iP,en,sV,wrap,dc,dn,qA,gU,tW,U.I,U.B,U.S,U.N,U.A,U.O,U.W,U.V,U.L,U.U6,U.C,U.M,U.F,U.E,tP,tN,tI,oo,jU,gJ,kr,jq,TJ,Nat.reduceSub,Nat.reduceAdd,Int.reduceOfNat,Int.reduceNeg,UInt8.reduceOfNat] at x
 exact x
def Cc:=many uj [en func123 [(0,.k (.s .blk))] [(12,[(5,.s .bool)])],en func124 [(0,.k (.s .blk))] [(51,[(9,.s .bool)]),(31,[])],en func159 [(0,.k (.s .blk))] [],en func166 [(0,.k (.s .blk))] [(58,[(25,.s (.int .i64))]),(467,[])],en func172 [] [],en func42 [(0,.c (.pointer none))] []] (by conv=>lhs;reduce) (by kernel_rfl) λ x=>by
 dsimp only[fj,fh,ff,fe,fk,fm,fq,tF,iP,en,sV,wrap,dc,dn,qA,gU,tW,U.I,U.B,U.S,U.N,U.A,U.O,U.W,U.V,U.L,U.U6,U.C,U.M,U.F,U.E,tP,tN,tI,oo,jU,gJ,kr,jq,TJ,Nat.reduceSub,Nat.reduceAdd,Int.reduceOfNat,Int.reduceNeg,UInt8.reduceOfNat] at x
 exact x
end Go.Proofs.YtjcfdidmajodiaaGreatDoor
namespace Go.Proofs.YtjcfdidmajodiaaGreatDoor
open Go Go.Vc _root_.Go.Proofs.Tryz
def Wz:j7 prog 68 134 (.agg ({ nm:=[],sup:=0,res:=0,pts:=0,vM:=0 }:Pr).cells.toArray) 5 48:=j7.mk' underlying68 (by kernel_rfl) rfl (by decide)
def Wx:j7 prog 69 82 (.agg ({ nm:=[],cls:=0,bud:=0,pts:=0 }:Br).cells.toArray) 4 40:=j7.mk' underlying69 (by kernel_rfl) rfl (by decide)
def Wy:j7 prog 70 138 (.agg (⟨0,0,0⟩:T3).cells.toArray) 3 24:=j7.mk' underlying70 (by kernel_rfl) rfl (by decide)
def Ww:j7 prog 71 141 (.agg (⟨0,0,0⟩:T3).cells.toArray) 3 24:=j7.mk' underlying71 (by kernel_rfl) rfl (by decide)
def Pr.len(p:Pr):p.cells.length=5:=rfl
def Br.len(p:Br):p.cells.length=4:=rfl
def T3.len(p:T3):p.cells.length=3:=rfl
def fS.fl{w:af}{a:OA}{l:List Pr}(h:fS w a l):cP 5 Pr.cells w a l:=λ _ p hp=>let ⟨_,q,hq,hc⟩:=h _ p hp; ⟨q,_,hq,hc,rfl,rfl⟩
def mj.fl{w:af}{a:OA}{l:List Br}(h:mj w a l):cP 4 Br.cells w a l:=λ _ p hp=>let ⟨_,q,hq,hc⟩:=h _ p hp; ⟨q,_,hq,hc,rfl,rfl⟩
def Bp.fl{w:af}{a:OA}{l:List T3}(h:Bp w a l):cP 3 T3.cells w a l:=λ _ p hp=>let ⟨q,hq,hc⟩:=h _ p hp; ⟨q,_,hq,hc,rfl,rfl⟩
def fS.of{w:af}{a:OA}{l:List Pr}(h:cP 5 Pr.cells w a l)(k:∀ p∈l,p.In):fS w a l:=λ _ p hp=>let ⟨q,hq,hc⟩:=h.at hp; ⟨k p (bf hp),q,hq,hc⟩
def mj.of{w:af}{a:OA}{l:List Br}(h:cP 4 Br.cells w a l)(k:∀ p∈l,p.In):mj w a l:=λ _ p hp=>let ⟨q,hq,hc⟩:=h.at hp; ⟨k p (bf hp),q,hq,hc⟩
def Bp.of{w:af}{a:OA}{l:List T3}(h:cP 3 T3.cells w a l):Bp w a l:=λ _ _ hp=>let ⟨q,hq,hc⟩:=h.at hp; ⟨q,hq,hc⟩
def fS.in{w:af}{a:OA}{l:List Pr}(h:fS w a l):∀ p∈l,p.In:=λ p hp=>let ⟨i,hi⟩:=yS hp; (h i p hi).1
def mj.in{w:af}{a:OA}{l:List Br}(h:mj w a l):∀ p∈l,p.In:=λ p hp=>let ⟨i,hi⟩:=yS hp; (h i p hi).1
def B4{w:af}{a:OA}{c:Nat}{l:List Pr}(h:cP 5 Pr.cells w a l)(d:l.length<=1000) :
  CP 46 #[.slice a l.length c] w (λ r w'=>∃ a' c',r=.slice a' l.length c'/\St w w' (dK 134 5 Pr.cells a' c' l)):=by
 refine ym.1 ?_;exact rj (c:=c) (K:=λ r w'=>∃ a' c',r=.slice a' l.length c'/\St w w' (dK 134 5 Pr.cells a' c' l)) Wz Pr.len Pr.one (St.start w) h (by omega) (by omega) λ a' c' w' b=>⟨a',c',rfl,b.first⟩
def BY{w:af}{a:OA}{c:Nat}{l:List Br}(h:cP 4 Br.cells w a l)(d:l.length<=1000) :
  CP 47 #[.slice a l.length c] w (λ r w'=>∃ a' c',r=.slice a' l.length c'/\St w w' (dK 82 4 Br.cells a' c' l)):=by
 refine ym.2.1 ?_;exact rj (c:=c) (K:=λ r w'=>∃ a' c',r=.slice a' l.length c'/\St w w' (dK 82 4 Br.cells a' c' l)) Wx Br.len Br.one (St.start w) h (by omega) (by omega) λ a' c' w' b=>⟨a',c',rfl,b.first⟩
def BZ{w:af}{a:OA}{c:Nat}{l:List T3}(h:cP 3 T3.cells w a l)(d:l.length<=1000) :
  CP 48 #[.slice a l.length c] w (λ r w'=>∃ a' c',r=.slice a' l.length c'/\St w w' (dK 138 3 T3.cells a' c' l)):=by
 refine ym.2.2.1 ?_;exact rj (c:=c) (K:=λ r w'=>∃ a' c',r=.slice a' l.length c'/\St w w' (dK 138 3 T3.cells a' c' l)) Wy T3.len T3.one (St.start w) h (by omega) (by omega) λ a' c' w' b=>⟨a',c',rfl,b.first⟩
def BX{w:af}{a:OA}{c:Nat}{l:List T3}(h:cP 3 T3.cells w a l)(d:l.length<=1000) :
  CP 49 #[.slice a l.length c] w (λ r w'=>∃ a' c',r=.slice a' l.length c'/\St w w' (dK 141 3 T3.cells a' c' l)):=by
 refine ym.2.2.2.1 ?_;exact rj (c:=c) (K:=λ r w'=>∃ a' c',r=.slice a' l.length c'/\St w w' (dK 141 3 T3.cells a' c' l)) Ww T3.len T3.one (St.start w) h (by omega) (by omega) λ a' c' w' b=>⟨a',c',rfl,b.first⟩
def Se.er(s:Se):Se:={ s with a1:=none,c1:=0,a2:=none,c2:=0,a3:=none,c3:=0,a4:=none,c4:=0 }
structure Se.Sz (s:Se):Prop where
 ps:s.ps.length<=100
 bd:s.bd.length<=100
 cp:s.cp.length<=100
 sa:s.sa.length<=100
def Se.Ok.sz{s:Se}(h:s.Ok):s.Sz:=⟨by have:=h.ps.l2; omega,by have:=h.bd.l2; omega,by have:=h.cp.l1; omega,by have:=h.sa.l1; omega⟩
def zV{w:af}{S:Se}(h:S.In w)(g:S.Sz) :
  CP 75 #[.agg S.arr] w (λ r w'=>∃ a:Se,a.er=S.er/\r=.agg a.arr/\St w w' (held a.In)):=by
 refine oO.2.2.2.2.1 ?_;obtain⟨B,z2,z3,z4⟩:=g;refine aG S.arr λ r1 z s1=>s1.aB #[.slice none 0 0,.slice none 0 0,.slice none 0 0,.slice none 0 0] λ r2 s s2=>?_;have b:=s2.quiet (aC.drew s []);refine⟨_,_,_,b.ag 1 rfl 0,_,_,_,b.ag 1 rfl 1,_,_,_,b.ag 1 rfl 2,_,_,_,b.ag 1 rfl 3,au (B4 (h.av b.av).ps.fl (by omega)) ?_⟩;rintro v t ⟨a1,c1,rfl,i⟩;have d:St w t (Sep [_,_,_,_]):=b.and i;refine⟨_,_,_,rfl,d.ag 2 rfl 3,d.ag 2 rfl 2,d.ag 2 rfl 1,au (BY (h.av d.av).bd.fl (by omega)) ?_⟩;rintro v u ⟨a2,c2,rfl,j⟩;have e:St w u (Sep [_,_,_,_,_]):=d.and j;refine⟨_,_,_,rfl,e.ag 3 rfl 3,e.ag 3 rfl 2,au (BZ (h.av e.av).cp.fl (by omega)) ?_⟩;rintro v x ⟨a3,c3,rfl,k⟩;have f:St w x (Sep [_,_,_,_,_,_]):=e.and k;refine⟨_,_,_,rfl,f.ag 4 rfl 3,au (BX (h.av f.av).sa.fl (by omega)) ?_⟩;rintro v y ⟨a4,c4,rfl,l⟩;have q:St w y (Sep [_,_,_,_,_,_,_]):=f.and l;let a:Se:={ S with a1:=a1,c1:=c1,a2:=a2,c2:=c2,a3:=a3,c3:=c3,a4:=a4,c4:=c4 };refine⟨_,_,_,rfl,q.az 4 rfl a.arr.toList rfl (by simp[a,Se.arr,Value.oneCell']) λ A c=>(Ex8<|Ex4<|⟨c.cellsIn 4 rfl,a,rfl,rfl,?_⟩)⟩;have p:=St.lQ (c.out 0 rfl); have o:=St.lQ (c.out 1 rfl); have n:=St.lQ (c.out 2 rfl); have m:=St.lQ (c.out 3 rfl);exact((c.ay [0,1,2,3]).held ((bn T3.len).cons ((bn T3.len).cons ((bn Br.len).cons ((bn Pr.len).cons js.nil))))).weak (eI λ w' ⟨i4,i3,i2,i1,_⟩=>⟨fS.of i1 h.ps.in,mj.of i2 h.bd.in,Bp.of i3,Bp.of i4,m.1,n.1,o.1,p.1⟩)
abbrev bl (b:Bool):List Value:=[.bool b]
def dj(b:Bool):(bl b).length=1:=rfl
def wO(b:Bool):∀ v∈bl b,v.oneCell'=true:=by intro v a; simp at a; subst a; rfl
structure Rn where
 p:I6
 ask:List I6
 got:List I6
 bd:List Bool
 xa:Option Addr
 xc:Nat
 ga:Option Addr
 gc:Nat
 ba:Option Addr
 bc:Nat
def Rn.cells(x:Rn):List Value:=x.p.on [.slice x.xa x.ask.length x.xc,.slice x.ga x.got.length x.gc,.slice x.ba x.bd.length x.bc]
def Rn.len(x:Rn):x.cells.length=9:=rfl
def Rn.one(x:Rn):∀ v∈x.cells,v.oneCell'=true:=by
 intro v a; simp[Rn.cells,I6.on] at a; rcases a with rfl|rfl|rfl|rfl|rfl|rfl|rfl|rfl|rfl<;>rfl
def Rn.er(x:Rn):Rn:={ x with xa:=none,xc:=0,ga:=none,gc:=0,ba:=none,bc:=0 }
def UG:Rn:=⟨z6,[],[],[],none,0,none,0,none,0⟩
structure Rn.In (x:Rn) (w:af):Prop where
 ask:cP 6 I6.vs w x.xa x.ask
 got:cP 6 I6.vs w x.ga x.got
 bd:cP 1 bl w x.ba x.bd
def Rn.In.av{x:Rn}{w w':af}(h:x.In w)(hc:aC w w' []):x.In w':=⟨h.ask.av hc,h.got.av hc,h.bd.av hc⟩
structure Rn.Sz (n:Nat) (x:Rn):Prop where
 ask:x.ask.length=n
 got:x.got.length=n
 bd:x.bd.length=n
def tS:j7 prog 78 4 (.bool false) 1 1:=j7.mk' underlying78 (by kernel_rfl) rfl (by decide)
def WB:j7 prog 75 80 (.agg UG.cells.toArray) 9 120:=j7.mk' underlying75 (by kernel_rfl) rfl (by decide)
abbrev gO (a:OA) (c:Nat) (l:List Bool):aI:=dK 4 1 bl a c l
abbrev MG (a:OA) (c:Nat) (l:List Rn):aI:=dK 80 9 Rn.cells a c l
def oL{w:af}{a:OA}{c:Nat}{l:List I6}(h:cP 6 I6.vs w a l)(d:l.length<=1000) :
  CP 76 #[.slice a l.length c] w (λ r w'=>∃ g,r=.slice (qs g) l.length l.length/\St w w' (eV (qs g) l.length l)):=by
 refine oO.2.2.2.2.2.1 ?_;exact wU (c:=c) (x0:=z6) (K:=λ r w'=>∃ g,r=.slice (qs g) l.length l.length/\St w w' (eV (qs g) l.length l)) yB bE I6.one rfl (St.start w) h (by omega) (by omega) λ g w' b=>⟨g,rfl,b.first⟩
def wV{w:af}{a:OA}{c:Nat}{l:List Bool}(h:cP 1 bl w a l)(d:l.length<=1000) :
  CP 77 #[.slice a l.length c] w (λ r w'=>∃ g,r=.slice (qs g) l.length l.length/\St w w' (gO (qs g) l.length l)):=by
 refine(p6 oO).1 ?_;exact wU (c:=c) (x0:=false) (K:=λ r w'=>∃ g,r=.slice (qs g) l.length l.length/\St w w' (gO (qs g) l.length l)) tS dj wO rfl (St.start w) h (by omega) (by omega) λ g w' b=>⟨g,rfl,b.first⟩
def LF{w:af}{a:OA}{c:Nat}{l:List Rn}(h:cP 9 Rn.cells w a l)(d:l.length<=1000) :
  CP 172 #[.slice a l.length c] w (λ r w'=>∃ g,r=.slice (qs g) l.length l.length/\St w w' (MG (qs g) l.length l)):=by
 refine Cc.2.2.2.2.1 ?_;exact wU (c:=c) (x0:=UG) (K:=λ r w'=>∃ g,r=.slice (qs g) l.length l.length/\St w w' (MG (qs g) l.length l)) WB Rn.len Rn.one rfl (St.start w) h (by omega) (by omega) λ g w' b=>⟨g,rfl,b.first⟩
def MA{w:af}{x:Rn}{n:Nat}(h:x.In w)(e:x.Sz n)(z:n<=1000) :
  CP 51 #[.agg x.cells.toArray] w (λ r w'=>∃ a:Rn,a.er=x.er/\r=.agg a.cells.toArray/\St w w' (held a.In)):=by
 refine(p6 oO).2.2.1 ?_;have F:=e.ask; have z2:=e.got; have z3:=e.bd;refine aG x.cells.toArray λ r1 A s1=>s1.aB UG.cells.toArray λ r2 s s2=>?_;have c:=s2.quiet (aC.drew s []);refine⟨_,_,_,c.ag 1 rfl 6,_,_,_,c.ag 1 rfl 7,_,_,_,c.ag 1 rfl 8,au (oL (h.av c.av).ask (by omega)) ?_⟩;rintro v t ⟨a1,rfl,i⟩;have d:St w t (Sep [_,_,_,_]):=c.and i;refine⟨_,_,_,rfl,d.ag 2 rfl 8,d.ag 2 rfl 7,au (oL (h.av d.av).got (by omega)) ?_⟩;rintro v u ⟨a2,rfl,k⟩;have f:St w u (Sep [_,_,_,_,_]):=d.and k;refine⟨_,_,_,rfl,f.ag 3 rfl 8,au (wV (h.av f.av).bd (by omega)) ?_⟩;rintro v y ⟨a3,rfl,l⟩;have m:St w y (Sep [_,_,_,_,_,_]):=f.and l;let a:Rn:={ x with xa:=qs a1,xc:=x.ask.length,ga:=qs a2,gc:=x.got.length,ba:=qs a3,bc:=x.bd.length };refine⟨_,_,_,rfl,m.aN 4 rfl (j:=6) (show 6<9 by decide) rfl λ B o=>o.aN 4 rfl (j:=7) (show 7<9 by decide) rfl λ C q=>q.aN 4 rfl (j:=8) (show 8<9 by decide) rfl λ D g=>?_⟩;refine⟨x.p,Ex8 ⟨_,g.cellsIn 4 rfl,g.az 3 rfl a.cells rfl a.one λ E b=>⟨x.p,Ex8 ⟨_,b.cellsIn 3 rfl,a,rfl,rfl,?_⟩⟩⟩⟩;exact((b.ay [0,1,2]).held ((bn dj).cons ((bn bE).cons ((bn bE).cons js.nil)))).weak (eI λ w' ⟨i3,i2,i1,_⟩=>⟨i1,i2,i3⟩)
def RO{l a:List Rn}{k:Nat}{x b:Rn}(h:a.map Rn.er=(l.take k).map Rn.er)(c:l[k]?=some x)(e:b.er=x.er):(a++[b]).map Rn.er=(l.take (k+1)).map Rn.er:=by
 rw[aH c,bP,bP,h,cV,cV,e]
abbrev oH (l:List Rn) (w:af):Prop:=∀ x∈l,x.In w
def U7{w:af}{a:OA}{c:Nat}{l:List Rn}{n:Nat}(h:cP 9 Rn.cells w a l)(hi:oH l w)(z:∀ x∈l,x.Sz n)(s:n<=1000)(H:l.length<=1000) :
  CP 50 #[.slice a l.length c,.func (.func 51) #[] #[]] w (λ r w'=>∃ b a' c',b.map Rn.er=l.map Rn.er/\r=.slice a' b.length c'/\St w w' (star (MG a' c' b) (held (oH b)))):=by
 refine(p6 oO).2.1 ?_;refine⟨λ a2 l2 c2 n1 o m=>∃ (k:Nat) (b:List Rn),n1=k/\k<=l.length/\m=l.length-k/\l2=b.length/\b.length=k/\b.map Rn.er=(l.take k).map Rn.er/\St w o (Sep [MG a2 c2 b,held (oH b),emp]),⟨l.length,0,[],rfl,by omega,by omega,rfl,rfl,rfl,((St.start w).one.jx (λ _=>by simp[oH])).dy⟩,?_⟩
 rintro o m a2 l2 c2 n1 ⟨k,b,rfl,G,hm,rfl,hlen,he,s1⟩ -
 by_cases d:(k:Int)<(l.length:Int)
 ·obtain⟨x,i⟩:=bx l k (by omega);have hm:=bf i;obtain⟨q,t,g⟩:=(h.av s1.av).at i;refine aP d (aq t ⟨by omega,by omega,x.p,Ex8 ⟨_,g,s1.aB UG.cells.toArray λ r1 I s2=>s2.az 0 rfl x.cells rfl x.one λ J j=>⟨x.p,Ex8 ⟨_,j.cellsIn 0 rfl,?_⟩⟩⟩⟩);refine dZ (by kernel_rfl) (au (MA ((hi x hm).av j.av) (z x hm) s) ?_);rintro v F ⟨f,ex,rfl,A⟩;have B:St w F (Sep [held f.In,_,MG a2 c2 b,held (oH b),emp]):=j.and A;refine⟨f.p,Ex8 ⟨_,rfl,dw WB Rn.len (x:=f) f.one (B.out 2 rfl) (by omega) (by omega) (λ a' c' w' C=>?_) rfl⟩⟩;refine⟨l.length-(k+1),by omega,k+1,b++[f],cA (by omega),by omega,rfl,rfl,by simp[hlen],RO he i ex,?_⟩;have D:St w w' (Sep [_,_,_,_,_]):=C;exact(((D.ay [3,1,0,4]).fX (aW _) (aW _) λ E h1 h2 y u=>(aV.1 u).elim (h1 y) λ e=>by rw[bp.1 e]; exact h2).ay [1,0,2])
 ·obtain rfl:l.length=k:=by omega
  rw[br] at he;exact aU d ⟨b,_,_,he,rfl,s1.ay [0,1] |>.pair⟩
structure Ck where
 s:Se
 o:Po
 cl:List Rn
 p:I6
 ask:List I6
 bd:List Bool
 dp:List Bool
 ov:Bool
 ka:Option Addr
 kc:Nat
 xa:Option Addr
 xc:Nat
 ya:Option Addr
 yc:Nat
 za:Option Addr
 zc:Nat
def Ck.cells(C:Ck):List Value:=(.slice C.s.a1 C.s.ps.length C.s.c1) :: ((.slice C.s.a2 C.s.bd.length C.s.c2) :: ((.slice C.s.a3 C.s.cp.length C.s.c3) :: ((.slice C.s.a4 C.s.sa.length C.s.c4) :: ((iv C.o.step) :: ((iv C.o.pct) :: ((iv C.o.und) :: ((iv C.o.rule) :: ((.slice C.ka C.cl.length C.kc) :: (C.p.on [.slice C.xa C.ask.length C.xc,.slice C.ya C.bd.length C.yc,.slice C.za C.dp.length C.zc,.bool C.ov])))))))))
def Ck.one(C:Ck):∀ v∈C.cells,v.oneCell'=true:=by
 intro v a; simp[Ck.cells,I6.on] at a;rcases a with rfl|rfl|rfl|rfl|rfl|rfl|rfl|rfl|rfl|rfl|rfl|rfl|rfl|rfl|rfl|rfl|rfl|rfl|rfl<;>rfl
def Ck.er(C:Ck):Ck:={ C with s:=C.s.er,cl:=C.cl.map Rn.er,ka:=none,kc:=0,xa:=none,xc:=0,ya:=none,yc:=0,za:=none,zc:=0 }
structure UJ (S:Se) (cl:List Rn) (w:af):Prop where
 s:S.In w
 cl:oH cl w
abbrev Ck.In (C:Ck):af->Prop:=UJ C.s C.cl
def UJ.av{S:Se}{cl:List Rn}{w w':af}(h:UJ S cl w)(hc:aC w w' []):UJ S cl w':=⟨h.s.av hc,λ x a=>(h.cl x a).av hc⟩
structure Ck.Rd (b:Nat) (C:Ck) (w:af):Prop where
 me:aA w ⟨b,0,none⟩ 0 C.cells
 ask:cP 6 I6.vs w C.xa C.ask
 bd:cP 1 bl w C.ya C.bd
 dp:cP 1 bl w C.za C.dp
 cl:cP 9 Rn.cells w C.ka C.cl
 i:C.In w
def Ck.Rd.av{b:Nat}{C:Ck}{w w':af}(h:C.Rd b w)(hc:aC w w' []):C.Rd b w':=⟨bB hc h.me,h.ask.av hc,h.bd.av hc,h.dp.av hc,h.cl.av hc,h.i.av hc⟩
def jR(b:Nat)(C:Ck):List aI:=[aj b C.cells.toArray 144,eV C.xa C.xc C.ask,gO C.ya C.yc C.bd,gO C.za C.zc C.dp,MG C.ka C.kc C.cl,held C.In]
def Rg{r:Nat}{cs:Array Value}{T:TypeId}:js (aj r cs T) λ w=>aA w ⟨r,0,none⟩ 0 cs.toList:=λ w F h=>by
 have s:St w w (Sep []):=St.start w;obtain⟨h1,rfl⟩:=h;refine bM _ 0 λ j v a=>?_;rw[om,aL];simp only[World.cell?,h1];simpa using a
def zX{b:Nat}{C:Ck}:js (Sep (jR b C)) (C.Rd b) :=
 js.mono (Rg.cons ((bn bE).cons ((bn dj).cons ((bn dj).cons ((bn Rn.len).cons ((aW _).cons js.nil)))))) λ _ ⟨h1,h2,h3,h4,a,c,_⟩=>⟨h1,h2,h3,h4,a,c⟩
structure Ck.Ok (C:Ck):Prop where
 s:C.s.Ok
 o:C.o.ok
 cl:C.cl.length<=30
 cz:∀ x∈C.cl,x.Sz C.s.bd.length
 cp:∀ x∈C.cl,kA x.p=true
 ca:∀ x∈C.cl,∀ u∈x.ask,I6.Le u 4
 cg:∀ x∈C.cl,∀ u∈x.got,I6.Le u 4
 p:kA C.p=true
 ask:C.ask.length=C.s.bd.length
 bd:C.bd.length=C.s.bd.length
 dp:C.dp.length=C.s.bd.length
 asked:∀ u∈C.ask,I6.Le u 4
section
variable {b:Nat} {C:Ck} {w:af}
def Ck.Rd.cell(h:C.Rd b w)(j:Nat){v:Value}(e:C.cells[j]?=some v):w.cell? ⟨b,j,none⟩=some v:=by
 have:=aM h.me j v e
 rwa [aL,om] at this
def Ck.Rd.aQ(h:C.Rd b w)(j:Nat){vs:List Value}(d:(C.cells.drop j).take vs.length=vs):aA w ⟨b,j,none⟩ 0 vs :=
 bM _ 0 λ k v a=>by
  have c:k<vs.length:=(aR.1 a).1;have ha:(⟨b,j,none⟩:Addr).add (0+k)=⟨b,j+k,none⟩:=by unfold Addr.add; split<;>simp_all
  have h2:((C.cells.drop j).take vs.length)[k]?=vs[k]?:=by rw[d]
  rw[gV,ak c,lW,a] at h2;rw[ha]; exact h.cell _ h2
def Il(h:C.Rd b w)(n:Int):CP 160 #[.pointer (qs b),iv n] w (λ r w'=>r=.bool (decide (0<=n)&&decide (n<(C.dp.length:Int)))/\w'=w):=by
 refine oO.2.2.2.1 ?_
 by_cases g:n>=0
 ·exact aP g ⟨_,_,_,h.cell 17 rfl,by rw[dT g]; rfl,rfl⟩
 ·exact aU g ⟨by rw[dF (by omega)]; rfl,rfl⟩
def Ci(h:C.Rd b w)(c:C.Ok):CP 21 #[.pointer (qs b)] w (λ r w'=>∃ a a' c',a.map Rn.er=C.cl.map Rn.er/\r=.slice a' a.length c'/\St w w' (star (MG a' c' a) (held (oH a)))):=by
 refine oO.2.2.1 ?_;refine⟨_,_,_,h.cell 8 rfl,au (U7 h.cl h.i.cl c.cz (by have:=c.s.bd.l2; omega) (by have:=c.cl; omega)) ?_⟩;rintro v d ⟨a,a',c',e,rfl,s⟩;exact⟨_,_,_,rfl,a,a',c',e,rfl,s⟩
def sZ(C:Ck)(n:Nat):List Ch:=C.cl.map λ x=>⟨x.p,x.ask.getD n z6⟩
def BW(h:C.Rd b w)(j:C.Ok){n:Nat}(F:n<C.s.bd.length):CP 164 #[.pointer (qs b),iv n] w (λ r w'=>∃ a' c',r=.slice a' (sZ C n).length c'/\St w w' (dK 218 12 Ch.cells a' c' (sZ C n))):=by
 refine oO.1 ?_;have hd:=j.dp; have E:=j.cl;refine⟨λ b e=>b=false/\e=w,?_,au (Il h n) ?_⟩
 ·rintro e b ⟨rfl,rfl⟩ -;refine cF rfl ⟨_,_,_,h.cell 8 rfl,λ a2 l2 c2 n2 u m=>∃ k:Nat,n2=k/\k<=C.cl.length/\m=C.cl.length-k/\l2=((sZ C n).take k).length/\St e u (star (dK 218 12 Ch.cells a2 c2 ((sZ C n).take k)) emp),⟨C.cl.length,0,rfl,by omega,by omega,rfl,(St.start e).dy⟩,?_⟩;rintro u m a2 l2 c2 n2 ⟨k,rfl,v,hm,rfl,s2⟩ -
  by_cases d:(k:Int)<(C.cl.length:Int)
  ·obtain⟨x,t⟩:=bx C.cl k (by omega);have hm:=bf t;have za:=(j.cz x hm).ask;obtain⟨q,y,g⟩:=(h.cl.av s2.av).at t;refine aP d (aq y ⟨by omega,by omega,x.p,Ex8 ⟨_,g,s2.aB (l:=[_]) UG.cells.toArray λ r1 H z=>z.az 0 rfl x.cells rfl x.one λ D A=>?_⟩⟩);have f:=A.quiet (aC.drew D []);have hu:x.ask[n]?=some (x.ask.getD n z6):=by rw[aJ,gE (by omega)]; rfl
   obtain⟨G,o,c⟩:=((h.i.cl x hm).av f.av).ask.at hu;refine⟨x.p,f.aQ 0 0 rfl rfl,_,_,_,f.ag 0 rfl 6,aq o ⟨by omega,by omega,_,c,?_⟩⟩;have a:(sZ C n)[k]?=some ⟨x.p,x.ask.getD n z6⟩:=by simp[sZ,t]
   have hlen:((sZ C n).take k).length=k:=by simp[sZ]; omega
   refine dw Tw Ch.len (x:=⟨x.p,x.ask.getD n z6⟩) (Ch.one _) (f.out 1 rfl) (by omega) (by omega) (λ a' c' I B=>?_) rfl;refine jZ (by omega) ⟨?_,?_⟩
   ·rw[aH a]
   ·rw[aH a]; exact B.first.one
  ·obtain rfl:C.cl.length=k:=by omega
   rw[fN (by simp[sZ])] at s2 ⊢;exact aU d ⟨_,_,rfl,s2.first⟩
 ·rintro r e ⟨rfl,rfl⟩;exact⟨_,rfl,by simp; omega,rfl⟩
end
section
variable {b:Nat} {C:Ck} {w:af}
def NS(h:C.Rd b w)(c:C.Ok):CP 42 #[.pointer (qs b)] w (λ r w'=>∃ g a,a.er=C.er/\r=.pointer (qs g)/\St w w' (Sep (jR g a))):=by
 refine oO.2.1 ?_;have z:=c.s.bd.l2; have Y:=c.ask; have z2:=c.bd; have z3:=c.dp;refine Ex8<|Ex8<|⟨_,_,_,C.p,Ex8 ⟨_,_,h.me,aG ⟨[.slice none 0 0,.slice none 0 0,.slice none 0 0,.slice none 0 0,iv 0,iv 0,iv 0,iv 0,.slice none 0 0,iv 0,iv 0,iv 0,iv 0,iv 0,iv 0,.slice none 0 0,.slice none 0 0,.slice none 0 0,.bool false]⟩ λ r1 V s1=>s1.az 0 rfl C.cells rfl C.one λ W s2=>?_⟩⟩;refine Ex8<|Ex4<|⟨(h.av s2.av).aQ 0 rfl,au (zV (h.av s2.av).i.s c.s.sz) ?_⟩;rintro v Q ⟨e,G,rfl,H⟩;have A:St w Q (Sep [_,_,_]):=s2.and H;refine Ex8<|Ex4<|⟨rfl,au (Ci (h.av A.av) c) ?_⟩;rintro v R ⟨l,a4,c4,F,rfl,I⟩;have L:St w R (Sep [_,_,_,_,_]):=(A.and I).assoc;refine⟨_,_,_,rfl,L.jO 3 0 rfl ({ C with s:=e }:Ck).cells.toArray (show 4<=19 by decide) (by simp[Value.oneCell']) rfl λ X M=>M.aN 3 rfl (j:=8) (show 8<19 by decide) rfl λ S N=>?_⟩;have B:=N.quiet (aC.drew S []);have d:=h.av B.av;refine⟨_,_,_,d.cell 15 rfl,_,_,_,d.cell 16 rfl,_,_,_,d.cell 17 rfl,au (oL d.ask (by omega)) ?_⟩;rintro v T ⟨g1,rfl,J⟩;have D:St w T (Sep [_,_,_,_,_,_]):=B.and J;have f:=h.av D.av;refine⟨_,_,_,rfl,f.cell 17 rfl,f.cell 16 rfl,au (wV f.bd (by omega)) ?_⟩;rintro v U ⟨g2,rfl,K⟩;have E:St w U (Sep [_,_,_,_,_,_,_]):=D.and K;have y:=h.av E.av;refine⟨_,_,_,rfl,y.cell 17 rfl,au (wV y.dp (by omega)) ?_⟩;rintro v u ⟨g3,rfl,k⟩;have m:St w u (Sep [_,_,_,_,_,_,_,_]):=E.and k;refine⟨_,_,_,rfl,m.aN 6 rfl (j:=15) (show 15<19 by decide) rfl λ O n=>n.aN 6 rfl (j:=16) (show 16<19 by decide) rfl λ P o=>o.aN 6 rfl (j:=17) (show 17<19 by decide) rfl λ x q=>?_⟩;let a:Ck:={ C with s:=e,cl:=l,ka:=a4,kc:=c4,xa:=qs g1,xc:=C.ask.length,ya:=qs g2,yc:=C.bd.length,za:=qs g3,zc:=C.dp.length };refine⟨r1,a,?_,rfl,?_⟩
 ·simp only[Ck.er,a,G,F]
 ·have t:St w x (Sep [gO (qs g3) C.dp.length C.dp,gO (qs g2) C.bd.length C.bd,eV (qs g1) C.ask.length C.ask,MG a4 c4 l,held (oH l),held e.In,aj r1 a.cells.toArray 144,emp]):=q;exact((t.ay [5,4,6,2,1,0,3]).fX (aW _) (aW _) λ _ h1 h2=>(⟨h1,h2⟩:a.In _)).ay [1,2,3,4,5,0]
end
section
variable {b:Nat} {C:Ck} {w0 w:af} {B:aI}
def hJ(C:Ck):Ck:={ C with ask:=List.replicate C.dp.length z6,bd:=List.replicate C.dp.length false }
def DH(s:St w0 w (Sep [aj b C.cells.toArray 144,gO C.za C.zc C.dp,B]))(hd:C.dp.length<=100) :
  CP 159 #[.pointer (qs b)] w (λ r w'=>∃ xa xc ya yc,r=.tuple #[]/\St w0 w' (Sep [aj b ({ hJ C with xa:=xa,xc:=xc,ya:=ya,yc:=yc }:Ck).cells.toArray 144,eV xa xc (hJ C).ask,gO ya yc (hJ C).bd,gO C.za C.zc C.dp,B])):=by
 refine Cc.2.2.1 ?_;have s1:=s.quiet (aC.drew w []);have h:(hJ C).ask.length=C.dp.length:=by simp[hJ]
 have i:(hJ C).bd.length=C.dp.length:=by simp[hJ]
 have fin:∀ {g1 g2:Nat},(((C.cells.toArray.setIfInBounds 15 (.slice (qs g1) C.dp.length C.dp.length)).setIfInBounds 16 (.slice (qs g2) C.dp.length C.dp.length))=({ hJ C with xa:=qs g1,xc:=C.dp.length,ya:=qs g2,yc:=C.dp.length }:Ck).cells.toArray):=by
  intro g1 g2;show _=(Ck.cells _).toArray;simp only[Ck.cells];rw[h,i]; rfl
 refine⟨_,_,_,s1.ag 0 rfl 17,_,_,_,s1.ag 0 rfl 17,⟨?_,?_⟩⟩
 ·refine cZ (x:=z6) yB bE rfl s1 (n:=C.dp.length) (by omega) (by omega) λ g1 k c1 s2=>⟨St.ag (l:=[_,_,_,_]) s2 1 rfl 17,⟨?_,?_⟩⟩
  ·refine cZ (x:=false) tS dj rfl s2 (n:=C.dp.length) (by omega) (by omega) λ g2 e c2 a=>?_;refine St.aN (l:=[_,_,_,_,_]) a 2 rfl (j:=15) (show 15<19 by decide) rfl λ f c=>c.aN 2 rfl (j:=16) (show 16<19 by decide) rfl λ g d=>⟨qs g1,C.dp.length,qs g2,C.dp.length,rfl,?_⟩;rw[<- fin]; exact d.ay [2,1,0,3,4]
  ·refine St.aN (l:=[_,_,_,_]) s2 1 rfl (j:=15) (show 15<19 by decide) rfl λ f c=>?_;refine cZ (x:=false) tS dj rfl c (n:=C.dp.length) (by omega) (by omega) λ g2 e c2 a=>St.aN (l:=[_,_,_,_,_]) a 2 rfl (j:=16) (show 16<19 by decide) rfl λ g d=>⟨qs g1,C.dp.length,qs g2,C.dp.length,rfl,?_⟩;rw[<- fin]; exact d.ay [2,1,0,3,4]
 ·refine cZ (x:=false) tS dj rfl s1 (n:=C.dp.length) (by omega) (by omega) λ g1 k c1 s2=>⟨St.ag (l:=[_,_,_,_]) s2 1 rfl 17,?_⟩;refine cZ (x:=z6) yB bE rfl s2 (n:=C.dp.length) (by omega) (by omega) λ g2 e c2 a=>?_;refine St.aN (l:=[_,_,_,_,_]) a 2 rfl (j:=15) (show 15<19 by decide) rfl λ f c=>c.aN 2 rfl (j:=16) (show 16<19 by decide) rfl λ g d=>⟨qs g2,C.dp.length,qs g1,C.dp.length,rfl,?_⟩;rw[<- fin]; exact d.ay [2,0,1,3,4]
end
def UL{p:I6}{q:Int->Bool}(h:∀ k,k<6->q (p.at' k)=true):p.l.all q=true:=by
 have a:=h 0 (by decide); have h1:=h 1 (by decide); have h2:=h 2 (by decide); have h3:=h 3 (by decide); have h4:=h 4 (by decide); have b:=h 5 (by decide);show([p.at' 0,p.at' 1,p.at' 2,p.at' 3,p.at' 4,p.at' 5]:List Int).all q=true;simp[a,h1,h2,h3,h4,b]
def kg(S:Se)(o:Po):Ck:={ s:=S,o:=o,cl:=[],p:=gw S.ps,ask:=List.replicate S.bd.length z6,bd:=List.replicate S.bd.length false,dp:=List.replicate S.bd.length false,ov:=false,ka:=none,kc:=0,xa:=none,xc:=0,ya:=none,yc:=0,za:=none,zc:=0 }
def SA{S:Se}{o:Po}(b:S.Ok)(c:o.ok):(kg S o).Ok:=by
 refine⟨b,c,by simp[kg],by simp[kg],by simp[kg],by simp[kg],by simp[kg],?_,by simp[kg],by simp[kg],by simp[kg],?_⟩
 ·refine UL λ k a=>?_;show kJ ((gw S.ps).at' k)=true;rw[o9 _ k a,aJ,dD]
  cases hx:S.ps[k]? with
  | none=>rfl
  | some x =>
   have h1:=(b.ps.good k x hx).1;simp only[tQ,Bn,aX,bN] at h1;show kJ x.res=true;simp only[kJ,aX,bN];exact h1.2.2.1
 ·intro u hu;rw[vl hu];intro k a; match k,a with
  | 0,_|1,_|2,_|3,_|4,_|5,_=>exact⟨by decide,by decide⟩
def XW{w:af}{S:Se}{o:Po}(h:S.In w)(q:S.Ok)(L:o.ok) :
  CP 117 #[.agg S.arr,o.v] w (λ r w'=>∃ g m,m.er=(kg S o).er/\r=.tuple #[.pointer (qs g),iv 0]/\St w w' (Sep (jR g m))):=by
 refine(p6 oO).2.2.2.1 ?_;have z:=q.bd.l2;refine aG S.arr λ r1 I s1=>s1.aB o.cells.toArray λ r2 R s2=>(Ex8<|Ex4<|⟨s2.cellsIn 1 rfl,au (G0 (h.av s2.av)) ?_⟩);rintro v P ⟨⟨e,rfl,he⟩,c3⟩;obtain rfl:=he.2 q;have A:=s2.quiet c3;refine⟨_,rfl,cF rfl ⟨_,_,_,_,A.cellsIn 0 rfl,au (xu P o) ?_⟩⟩;rintro v Q ⟨rfl,c4⟩;have t:=(A.quiet c4).quiet (aC.drew Q []);refine⟨_,rfl,cF (by rw[ki,ak L]; rfl) ?_⟩;have u:∀ {w'},aC w w' []->S.In w':=λ hc=>h.av hc;let i (a:Se) (g2:Nat):Ck:={ kg S o with s:=a,ask:=[],bd:=[],za:=qs g2,zc:=S.bd.length };have D:∀ (a:Se) (g2:Nat),(i a g2).cells.toArray=((.slice a.a1 a.ps.length a.c1) :: ((.slice a.a2 a.bd.length a.c2) :: ((.slice a.a3 a.cp.length a.c3) :: ((.slice a.a4 a.sa.length a.c4) :: ((iv o.step) :: ((iv o.pct) :: ((iv o.und) :: ((iv o.rule) :: ((.slice none 0 0) :: ((gw S.ps).on [.slice none 0 0,.slice none 0 0,.slice (qs g2) S.bd.length S.bd.length,.bool false]))))))))):List Value).toArray:=by
  intro a g2; simp only[i,kg,Ck.cells,j6,eY]
 have fin:∀ {a:Se} {g g2:Nat} {w':af},a.er=S.er->St w w' (Sep [aj g (i a g2).cells.toArray 144,gO (qs g2) S.bd.length (List.replicate S.bd.length false),held a.In]) ->
   CC 159 #[.pointer (qs g)] w' (yd λ r F=>r=.tuple #[]/\∃ m,m.er=(kg S o).er/\St w F (Sep (jR g m))):=by
  intro a g g2 w' k s;refine au (DH (C:=i a g2) s (by simp[i,kg]; omega)) ?_;rintro r I ⟨xa,xc,ya,yc,rfl,s1⟩;refine⟨_,rfl,rfl,{ hJ (i a g2) with xa:=xa,xc:=xc,ya:=ya,yc:=yc },?_,?_⟩
  ·simp only[i,hJ,kg,Ck.er,k,j6]
  ·have s2:St w I (Sep [_,_,_,_,_,_]):=s1.dy (e:=80) (sz:=9) (f:=Rn.cells);have A:=((s2.ay [5,1,2,3,4,0]).qj ((aW _).mono λ w h=>(⟨h,λ x M=>by simp[i,hJ,kg] at M⟩:({ hJ (i a g2) with xa:=xa,xc:=xc,ya:=ya,yc:=yc }:Ck).In w)));exact A.ay [1,2,3,4,5,0]
 refine⟨λ p J=>∃ (a:Se) (g g2:Nat),p=qs g/\a.er=S.er/\St w J (Sep [aj g (i a g2).cells.toArray 144,gO (qs g2) S.bd.length (List.replicate S.bd.length false),held a.In]),?_,?_⟩
 ·rintro J p ⟨a,g,g2,rfl,k,N⟩ -;refine au (fin k N) ?_;rintro r T ⟨rfl,m,e,O⟩;exact⟨rfl,g,m,e,rfl,O⟩
 refine Ex8<|Ex4<|⟨t.cellsIn 1 rfl,_,_,_,_,t.cellsIn 0 rfl,_,_,_,t.ag 1 rfl 0,_,_,_,t.ag 1 rfl 1,⟨?_,?_⟩⟩
 ·refine au (zV (u t.av) q.sz) ?_;rintro v G ⟨a,k,rfl,E⟩;have d:St w G (Sep [_,_,_,_]):=t.and E;refine Ex8<|Ex4<|⟨rfl,d.ag 2 rfl 1,d.ag 2 rfl 0,d.cellsIn 1 rfl,⟨?_,?_⟩⟩
  ·refine au (EM (u d.av).ps q.ps.l2 h.h1) ?_;rintro v K ⟨rfl,c8⟩;have j:=d.quiet c8;refine⟨_,rfl,j.ag 2 rfl 1,j.cellsIn 1 rfl,cZ (x:=false) tS dj rfl j (n:=S.bd.length) (by omega) (by omega) λ g2 B H b=>?_⟩;refine⟨St.cellsIn (l:=[_,_,_,_,_]) b 2 rfl,St.aB (l:=[_,_,_,_,_]) b _ λ r3 y c=>⟨a,r3,g2,rfl,k,by rw[D]; exact c.ay [0,1,2]⟩⟩
  ·refine cZ (x:=false) tS dj rfl d (n:=S.bd.length) (by omega) (by omega) λ g2 B H b=>?_;have b:St w B (Sep [_,_,_,_,_]):=b;refine⟨b.ag 3 rfl 0,b.cellsIn 2 rfl,au (EM (u b.av).ps q.ps.l2 h.h1) ?_⟩;rintro v K ⟨rfl,c8⟩;have j:=b.quiet c8;exact⟨_,rfl,j.cellsIn 2 rfl,j.aB _ λ r3 y c=>⟨a,r3,g2,rfl,k,by rw[D]; exact c.ay [0,1,2]⟩⟩
 ·refine cZ (x:=false) tS dj rfl t (n:=S.bd.length) (by omega) (by omega) λ g2 B H b=>?_;have b:St w B (Sep [_,_,_,_]):=b;refine⟨b.ag 2 rfl 0,b.cellsIn 1 rfl,b.cellsIn 2 rfl,au (zV (u b.av) q.sz) ?_⟩;rintro v G ⟨a,k,rfl,E⟩;have d:St w G (Sep [_,_,_,_,_]):=b.and E;refine Ex8<|Ex4<|⟨rfl,d.ag 3 rfl 0,d.cellsIn 2 rfl,au (EM (u d.av).ps q.ps.l2 h.h1) ?_⟩;rintro v K ⟨rfl,c8⟩;have j:=d.quiet c8;exact⟨_,rfl,j.cellsIn 2 rfl,j.aB _ λ r3 y c=>⟨a,r3,g2,rfl,k,by rw[D]; exact c.ay [0,2,1]⟩⟩
section
variable {b:Nat} {C:Ck} {w0 w:af} {B:aI}
def Fq(s:St w0 w (Sep (jR b C++[B])))(a:C.Ok) :
  CP 159 #[.pointer (qs b)] w (λ r w'=>∃ xa xc ya yc,r=.tuple #[]/\St w0 w' (Sep (jR b { hJ C with xa:=xa,xc:=xc,ya:=ya,yc:=yc }++[B]))):=by
 have z:=a.s.bd.l2; have d:=a.dp;refine au (DH (C:=C) (s.ay [0,3,4,5,6]).Qr (by omega)) ?_;rintro r c ⟨xa,xc,ya,yc,rfl,s1⟩;exact⟨_,rfl,xa,xc,ya,yc,rfl,s1.iE [_,_,_,_]⟩
def sC(C:Ck):Ck:={ hJ C with ov:=true }
def WH(s:St w0 w (Sep (jR b C++[B])))(c:C.Ok) :
  CP 120 #[.pointer (qs b)] w (λ r w'=>(C.ov=true/\r=iv 10/\St w0 w' (Sep (jR b C++[B])))\/(C.ov=false/\r=iv 0/\∃ a,a.er=(sC C).er/\St w0 w' (Sep (jR b a++[B])))):=by
 refine(p6 (p6 oO)).1 ?_;refine⟨_,s.ag 0 rfl 18,?_⟩
 cases ho:C.ov with
 | true=>exact cT rfl (.inl ⟨rfl,rfl,s⟩)
 | false =>
  refine cF rfl (au (Fq s c) ?_);rintro r d ⟨xa,xc,ya,yc,rfl,s1⟩;exact⟨rfl,s1.aN 0 rfl (j:=18) (show 18<19 by decide) rfl λ e s2=>.inr ⟨rfl,rfl,{ sC C with xa:=xa,xc:=xc,ya:=ya,yc:=yc },rfl,s2⟩⟩
def jS(C:Ck)(n:Nat):Ck:={ C with dp:=C.dp.set n true,ask:=C.ask.set n z6,bd:=C.bd.set n false }
def U5(s:St w0 w (Sep (jR b C++[B])))(a:C.Ok){n:Nat}(u:n<C.s.bd.length) :
  CP 123 #[.pointer (qs b),iv n] w (λ r w'=>(C.dp[n]?=some true/\r=iv 10/\St w0 w' (Sep (jR b C++[B])))\/(C.dp[n]?=some false/\r=iv 0/\St w0 w' (Sep (jR b (jS C n)++[B])))):=by
 refine Cc.1 ?_;have z:=a.s.bd.l2; have D:=a.dp; have z2:=a.ask; have z3:=a.bd;have rd:=(s.split (jR b C)).first.imp zX;refine⟨λ b c=>b=false/\c=w,?_,au (Il rd n) ?_⟩
 ·rintro c _ ⟨rfl,rfl⟩ -;obtain⟨x,h⟩:=bx C.dp n (by omega);obtain⟨q,m,g⟩:=rd.dp.at h;refine cF rfl ⟨_,_,_,rd.cell 17 rfl,aq m ⟨by omega,by omega,x,g.1,?_⟩⟩
  cases x with
  | true=>exact cT rfl (.inl ⟨h,rfl,s⟩)
  | false =>
   have s1:=s.quiet (aC.drew c []);obtain⟨g1,d⟩:=(s1.out 3 rfl).iS (by omega);obtain⟨g2,e⟩:=(s1.out 1 rfl).iS (by omega);obtain⟨g3,f⟩:=(s1.out 2 rfl).iS (by omega);refine cF rfl ⟨_,_,_,s1.ag 0 rfl 17,_,_,_,s1.ag 0 rfl 15,_,_,_,s1.ag 0 rfl 16,aq d ⟨by omega,by omega,?_⟩⟩;rw[aD];have t1:=s1.out 3 rfl;rw[d] at t1;refine St.gu (v:=.bool) (x:=true) rfl t1 (i:=n) (by omega) λ y s2=>aq e ⟨by omega,by omega,?_⟩;have s2:=s2.back (l:=jR b C++[B]) (i:=3) (show 3<7 by decide);have t2:=s2.out 1 rfl;rw[e] at t2;refine St.su bE (x:=z6) z6.one t2 (i:=n) (by omega) λ A o=>aq f ⟨by omega,by omega,?_⟩;have t3:=(o.back (show 1<7 by decide)).out 2 rfl;rw[f] at t3;refine St.gu (v:=.bool) (x:=false) rfl t3 (i:=n) (by omega) λ t p=>.inr ⟨h,rfl,?_⟩;have j:=p.back (show 2<7 by decide);rw[<- d,<- e,<- f] at j;have k:(jS C n).cells=C.cells:=by simp[jS,Ck.cells]
   show St w0 t (Sep [aj b (jS C n).cells.toArray 144,_,_,_,_,_,B]);rw[k]; exact j
 ·rintro r c ⟨rfl,rfl⟩;exact⟨_,rfl,by simp; omega,rfl⟩
def e9(C:Ck)(r:Nat):Ck:=match C.cl[r]? with
 | some x=>{ hJ C with p:=x.p,cl:=C.cl.take r,ov:=false }
 | none=>{ hJ C with ov:=false }
def cU(C:Ck)(r:Int):Bool:=decide (r<0)||decide (r>(C.cl.length:Int))||(r==(C.cl.length:Int)&&C.ov)
def Ta(s:St w0 w (Sep (jR b C++[B])))(m:C.Ok)(r:Int) :
  CP 124 #[.pointer (qs b),iv r] w (λ v w'=>(cU C r=true/\v=iv 4/\St w0 w' (Sep (jR b C++[B])))\/(cU C r=false/\v=iv 0/\∃ a,a.er=(e9 C r.toNat).er/\St w0 w' (Sep (jR b a++[B])))):=by
 refine Cc.2.1 ?_;have P:=m.cl;refine⟨λ x t=>x=cU C r/\t=w,?_,?_⟩
 ·rintro t _ ⟨rfl,rfl⟩ -
  cases he:cU C r with
  | true=>exact cT rfl (.inl ⟨rfl,rfl,s⟩)
  | false =>
   have D:0<=r/\r<=(C.cl.length:Int):=by
    simp only[cU,oF,iY] at he; omega
   obtain⟨n,rfl⟩:=vm D.1;refine cF rfl (au (Fq s m) ?_);rintro v Q ⟨xa,xc,ya,yc,rfl,s2⟩;refine⟨rfl,λ u=>∃ a:Ck,({ a with ov:=false }:Ck).er=(e9 C n).er/\St w0 u (Sep (jR b a++[B])),?_,?_⟩
   ·rintro u ⟨a,e,I⟩ -;exact I.aN 0 rfl (j:=18) (show 18<19 by decide) rfl λ R J=>.inr ⟨rfl,rfl,{ a with ov:=false },e,J⟩
   refine⟨_,_,_,s2.ag 0 rfl 8,?_⟩
   by_cases d:(n:Int)<(C.cl.length:Int)
   ·obtain⟨x,o⟩:=bx C.cl n (by omega);have rd:=(s2.split (jR b _)).first.imp zX;obtain⟨q,F,i⟩:=rd.cl.at o;refine aP d ⟨_,_,_,s2.ag 0 rfl 8,aq F ⟨by omega,d,x.p,?_,?_⟩⟩
    ·rw[aD];exact xJ i rfl
    ·refine s2.jO 0 9 rfl ({ hJ C with xa:=xa,xc:=xc,ya:=ya,yc:=yc,p:=x.p }:Ck).cells.toArray (show 15<=19 by decide) x.p.one rfl λ z f=>⟨_,_,_,f.ag 0 rfl 8,by omega,?_,?_⟩
     ·have:C.cl.length<=C.kc:=(St.lQ (f.out 4 rfl)).1;show(n:Int)<=(C.kc:Int);omega
     ·show CC 172 #[.slice (if C.kc=0 then C.ka else Option.map (λ x=>Addr.add x (0*9)) C.ka) (((n:Nat):Int).toNat-0) (C.kc-0)] z _;have k:cP 9 Rn.cells z C.ka C.cl:=St.rd Rn.len (f.out 4 rfl);have el:(C.cl.take n).length=n:=by rw[di]; omega
      rw[UZ,aD,pI,pI];have l:=LF (c:=C.kc) (BM.take k n) (by omega);rw[el] at l;refine au l ?_;rintro v N ⟨g,rfl,H⟩;have K:St w0 N (Sep (_ :: _)):=f.and H;refine⟨_,_,_,rfl,K.aN 1 rfl (j:=8) (show 8<19 by decide) rfl λ O L=>⟨{ hJ C with xa:=xa,xc:=xc,ya:=ya,yc:=yc,p:=x.p,cl:=C.cl.take n,ka:=qs g,kc:=n },by rw[e9,o]; rfl,?_⟩⟩;have M:=(L.ay [6,1,2,3,4,0,7]).qj ((aW _).mono λ w h=>(⟨h.s,λ y G=>h.cl y (eX G)⟩:UJ C.s (C.cl.take n) w));have A:({ hJ C with xa:=xa,xc:=xc,ya:=ya,yc:=yc,p:=x.p,cl:=C.cl.take n,ka:=qs g,kc:=n }:Ck).cells.toArray=({ hJ C with xa:=xa,xc:=xc,ya:=ya,yc:=yc,p:=x.p }:Ck).cells.toArray.setIfInBounds 8 (.slice (qs g) n n):=by
       simp only[Ck.cells,hJ,el]; rfl
      show St w0 O (Sep [aj b (Ck.cells _).toArray 144,_,_,_,_,_,_]);rw[A];exact M.ay [1,2,3,4,5,0,6]
   ·have E:C.cl[n]?=none:=cr (by omega);exact aU d ⟨_,by rw[e9,E]; rfl,s2⟩
 ·by_cases g1:r<0
  ·exact aP g1 ⟨by rw[cU,dT g1]; rfl,rfl⟩
  refine aU g1 ⟨_,_,_,s.ag 0 rfl 8,?_⟩
  by_cases g2:r>(C.cl.length:Int)
  ·exact aP g2 ⟨by rw[cU,dT g2]; simp,rfl⟩
  refine aU g2 ⟨_,_,_,s.ag 0 rfl 8,?_⟩
  by_cases g3:r=(C.cl.length:Int)
  ·exact cT (by simpa using g3) ⟨_,s.ag 0 rfl 18,by rw[cU,dF g1,dF g2,g3]; simp,rfl⟩
  ·exact cF (by simpa using g3) ⟨by rw[cU,dF g1,dF g2]; simp; exact λ h=>absurd h g3,rfl⟩
end
section
variable {b:Nat} {C:Ck} {w0 w:af} {B:aI}
def fZ(dp:List Bool):Nat->List I6->List I6
 | _,[]=>[]
 | k,u :: l=>(if dp.getD k false then z6 else u) :: fZ dp (k+1) l
theorem tq(dp:List Bool):∀ (l:List I6) (k:Nat),(fZ dp k l).length=l.length
 | [],_=>rfl
 | _ :: l,k=>by simp[fZ,tq dp l (k+1)]
theorem xw(dp:List Bool):∀ (l:List I6) (k i:Nat),(fZ dp k l)[i]?=l[i]?.map λ u=>if dp.getD (k+i) false then z6 else u
 | [],_,_=>by simp[fZ]
 | u :: l,k,0=>by simp[fZ]
 | u :: l,k,i+1=>by
  rw[fZ,um,um,xw dp l (k+1) i,show k+(i+1)=k+1+i by omega]
def jy(C:Ck):List I6:=fZ C.dp 0 ((C.cl.getLast?.map Rn.got).getD [])
def IB(h:C.Rd b w)(l:C.Ok)(T:0<C.cl.length) :
  CP 166 #[.pointer (qs b)] w (λ r w'=>∃ g,r=.slice (qs g) (jy C).length (jy C).length/\St w w' (eV (qs g) (jy C).length (jy C))):=by
 refine Cc.2.2.2.1 ?_;have S:=l.cl; have z:=l.s.bd.l2; have V:=l.dp;obtain⟨x,E⟩:=bx C.cl (C.cl.length-1) (by omega);have d:C.cl.getLast? = some x:=by rw[vj]; exact E
 have hm:=bf E;have W:=(l.cz x hm).got;have d0:aC w w.drew []:=aC.drew w [];have h1:=h.av d0;obtain⟨q,N,A⟩:=h1.cl.at E;have t:IntKind.i64.wrap ((C.cl.length:Int)-1)=((C.cl.length-1:Nat):Int):=by rw[cA (by omega)]; omega
 have G:jy C=fZ C.dp 0 x.got:=by rw[jy,d]; rfl
 refine⟨_,_,_,h1.cell 8 rfl,_,_,_,h1.cell 8 rfl,aq N ⟨?_,?_,x.ga,x.got.length,x.gc,?_,?_⟩⟩
 ·rw[t]; omega
 ·rw[t]; omega
 ·rw[t,aD];exact aM A 7 _ rfl
 refine au (oL ((h.i.cl x hm).av d0).got (by omega)) ?_;rintro v R ⟨g,rfl,Q⟩;have s1:St w R (Sep [_]):=(St.start' d0).and Q;have f:(fZ C.dp 0 x.got).length=x.got.length:=tq _ _ _;let L:Nat->List I6:=mT (fZ C.dp 0 x.got) x.got;have e:∀ k,k<=x.got.length->(L k).length=x.got.length:=λ k l=>Ak f (by omega);refine⟨_,_,_,rfl,_,_,_,(h.av s1.av).cell 17 rfl,λ n H m=>∃ k:Nat,n=k/\k<=C.dp.length/\m=C.dp.length-k/\St w H (Sep [eV (qs g) x.got.length (L k)]),⟨C.dp.length,0,rfl,by omega,by omega,?_⟩,?_⟩
 ·rw[show L 0=x.got from Ct]; exact s1.ay [0]
 rintro H m n ⟨k,rfl,K,M,s2⟩ -
 by_cases o:(k:Int)<(C.dp.length:Int)
 ·obtain⟨y,hd⟩:=bx C.dp k (by omega);have B:C.dp.getD k false=y:=by rw[aJ,hd]; rfl
  obtain⟨U,D,j⟩:=(h.dp.av s2.av).at hd;obtain⟨u,hu⟩:=bx x.got k (by omega);have hp:(fZ C.dp 0 x.got)[k]?=some (if y then z6 else u):=by rw[xw,hu,aL,B]; rfl
  have c:∀ v,(fZ C.dp 0 x.got)[k]?=some v->(L k).set k v=L (k+1):=λ v O=>Gc f O;have a:y=false->L k=L (k+1):=λ P=>Cr f (by omega) (by rw[hp,hu,P]; rfl);refine aP o ⟨λ F=>St w F (Sep [eV (qs g) x.got.length (L (k+1))]),λ F p _=>(jZ (by omega) p),aq D ⟨by omega,by omega,y,j.1,?_⟩⟩
  cases y with
  | true =>
   refine cT rfl (aq rfl ⟨by omega,by omega,?_⟩);rw[aD];refine St.su bE (x:=z6) z6.one s2 (i:=k) (by rw[e k (by omega)]; omega) λ F p=>?_;rw[c z6 hp] at p; exact p
  | false=>exact cF rfl (by rw[<- a rfl]; exact s2)
 ·obtain rfl:C.dp.length=k:=by omega
  have I:L C.dp.length=jy C:=by
   show mT _ _ _=_;rw[show C.dp.length=x.got.length by omega,Cq f,G]
  have J:(jy C).length=x.got.length:=by rw[G,f]
  rw[I] at s2;rw[J];exact aU o ⟨g,rfl,s2.single⟩
end
section
variable {b:Nat} {C:Ck} {w0 w:af} {B:aI}
def sup_le{l:List Pr}(h:dH l):I6.Le (bI l) 4:=Bl (by rw[Jd]; exact K5 h.good)
def qg{u:I6}{m n:Int}(h:I6.Le u m)(b:m<=n):I6.Le u n:=λ k a=>by have:=h k a; omega
def Lm{n:Int}(h:0<=n):I6.Le z6 n:=λ k a=>by
 match k,a with
 | 0,_|1,_|2,_|3,_|4,_|5,_=>exact⟨cq _,h⟩
theorem Gp{dp:List Bool}{n:Int}(a:0<=n):∀ (l:List I6) (k:Nat),(∀ u∈l,I6.Le u n)->∀ u∈fZ dp k l,I6.Le u n
 | [],_,_,u,hu=>by simp[fZ] at hu
 | x :: l,k,h,u,hu=>by
  rcases cJ.1 hu with rfl|hu
  ·split
   ·exact Lm a
   ·exact h x (by simp)
  ·exact Gp a l (k+1) (λ u hu=>h u (by simp[hu])) u hu
def Eg(b:C.Ok)(e:0<C.cl.length):(jy C).length=C.s.bd.length/\∀ u∈jy C,I6.Le u 4:=by
 obtain⟨x,c⟩:=bx C.cl (C.cl.length-1) (by omega);have a:C.cl.getLast? = some x:=by rw[vj]; exact c
 have hm:=bf c;have d:jy C=fZ C.dp 0 x.got:=by rw[jy,a]; rfl
 rw[d];exact⟨by rw[tq,(b.cz x hm).got],Gp (by omega) _ _ (b.cg x hm)⟩
def dJ(C:Ck):List I6:=if C.cl.length=0 then C.ask else UF C.o.und (bI C.s.ps) (jy C) C.ask
def Ij(a:C.Ok):(dJ C).length=C.s.bd.length/\∀ u∈dJ C,I6.Le u 4:=by
 unfold dJ
 split
 ·exact⟨a.ask,a.asked⟩
 ·rename_i h;obtain⟨h1,h2⟩:=Eg a (by omega);have:=xG (p:=C.o.und) (sup:=bI C.s.ps) (by omega) h2 a.asked C.ask.length;exact⟨this.1.trans h1,this.2⟩
def ME(C:Ck):Rn:=⟨C.p,C.ask,dJ C,C.bd,none,0,none,0,none,0⟩
def lG(C:Ck):I6:=vV (fy (dJ C)) (bI C.s.ps)
def kz(C:Ck):I6×Int:=nU C.o C.p (lG C)
def eJ(C:Ck):Bool:=decide (lG C=z6)||(decide (C.cl.length+1>=30)||(kz C).2 !=0)
def gZ(C:Ck):Ck:={ hJ C with cl:=C.cl++[ME C],ov:=eJ C,p:=if eJ C then C.p else (kz C).1 }
def Ry(s:St w0 w (Sep (jR b C++[B])))(k:C.Ok) :
  CP 119 #[.pointer (qs b)] w (λ r w'=>(C.ov=true/\r=.tuple #[.bool false,iv 10]/\St w0 w' (Sep (jR b C++[B])))\/(C.ov=false/\r=.tuple #[.bool (eJ C),iv 0]/\∃ C',C'.er=(gZ C).er/\St w0 w' (Sep (jR b C'++[B])))):=by
 refine(p6 oO).2.2.2.2.2.1 ?_;have hl:=k.cl; have z:=k.s.bd.l2; have z1:=k.ask; have z2:=k.bd; have z3:=k.dp;have hg:=Ij k;have G:=sup_le k.s.ps;refine⟨_,s.ag 0 rfl 18,?_⟩
 cases hov:C.ov with
 | true=>exact cT rfl (.inl ⟨rfl,rfl,s⟩)
 | false =>
 have X:∀ {w':af} {L:List aI} {i:Nat},St w0 w' (Sep L)->L[i]?=some (held C.In)->C.In w':=λ s e=>s.bC _ e;refine cF rfl ⟨_,_,_,s.ag 0 rfl 0,au (sD (X s (i:=5) rfl).s.ps (by have:=k.s.ps.l2; omega)) ?_⟩;rintro v w1 ⟨rfl,c1⟩;refine⟨_,rfl,(s.quiet c1).aB z6.vs.toArray λ r1 w2 s2=>s2.az 0 rfl (bI C.s.ps).vs rfl (I6.one _) λ w3 s3=>?_⟩;refine⟨_,_,_,s3.ag 1 rfl 15,au (oL (St.rd bE (s3.out 2 rfl)) (by omega)) ?_⟩;rintro v w4 ⟨g,rfl,k4⟩;have s4:St w0 w4 (Sep (eV _ _ _ :: aj r1 (bI C.s.ps).vs.toArray 42 :: (jR b C++[B]))):=s3.and k4;refine⟨_,_,_,rfl,λ a4 l4 c4 w5=>l4=(dJ C).length/\St w0 w5 (Sep (eV a4 c4 (dJ C) :: aj r1 (bI C.s.ps).vs.toArray 42 :: (jR b C++[B]))),?_,?_⟩
 ·rintro w5 a4 l4 c4 ⟨rfl,K⟩ -;have t:=K.quiet (aC.drew w5 []);let x:Rn:={ ME C with xa:=C.xa,xc:=C.xc,ga:=a4,gc:=c4,ba:=C.ya,bc:=C.yc };refine⟨_,_,_,t.ag 2 rfl 8,C.p,t.aQ 2 9 rfl rfl,_,_,_,t.ag 2 rfl 15,_,_,_,t.ag 2 rfl 16,t.aB x.cells.toArray λ r2 w6 P=>⟨P.ag 3 rfl 8,?_⟩⟩;have W:cP 9 Rn.cells w6 (qs r2) [x]:=λ i y O=>by
   obtain⟨rfl,rfl⟩:i=0/\y=x:=by
    cases i with
    | zero=>simp at O; exact⟨rfl,O.symm⟩
    | succ i=>simp at O
   exact⟨_,_,rfl,by rw[wK,om]; exact P.cellsIn 0 rfl,rfl,rfl⟩
  refine bQ WB Rn.len Rn.one (P.out 7 rfl) (a2:=qs r2) (c2:=1) (l2:=[x]) W (by simp; omega) (by simp; omega) λ a8 c8 w7 s8=>?_;have s9:=s8.back (show 7<10 by decide);refine s9.aN 3 rfl (j:=8) (show 8<19 by decide) rfl λ w8 Z=>?_;let D:Ck:={ C with cl:=C.cl++[x],ka:=a8,kc:=c8 };refine au (DH (C:=D) (St.Qr (A:=aj b D.cells.toArray 144) (B:=gO D.za D.zc D.dp) (m:=[eV C.xa C.xc C.ask,eV a4 c4 (dJ C),gO C.ya C.yc C.bd,held C.In,MG a8 c8 (C.cl++[x]),aj r1 (bI C.s.ps).vs.toArray 42,B]) (Z.ay [3,6,4,1,5,8,7,2,9])) (by show C.dp.length<=100; omega)) ?_;rintro r w9 ⟨xa,xc,ya,yc,rfl,s11⟩;have s12:=s11.iE [_,_,_,_];let E:Ck:={ hJ D with xa:=xa,xc:=xc,ya:=ya,yc:=yc };have s13:=(((s12.ay [4,5,6,7,0,1,2,3,8,9,10]).fX (bn bE) (bn bE) λ _ h1 h2=>And.intro h1 h2).fX (aW _) (bn dj) λ _ h1 h2=>(⟨h1.1,h1.2,h2⟩:x.In _)).fX (aW _) (aW _) λ w h1 h2=>(⟨h2.s,λ y O=>(aV.1 O).elim (h2.cl y) λ e=>by rw[bp.1 e]; exact h1⟩:UJ C.s (C.cl++[x]) w);have I:St w0 w9 (Sep (jR b E++[aj r1 (bI C.s.ps).vs.toArray 42,B])):=s13.ay [1,2,3,4,5,0,6,7];refine⟨rfl,_,I.cellsIn 6 rfl,?_⟩;have U:UJ C.s (C.cl++[x]) w9:=I.bC 5 rfl;have T:Nq w9 a4 (dJ C):=(U.cl x (by simp)).got;refine au (N8 (bI C.s.ps) (qg G (by omega)) T (λ u hu=>qg (hg.2 u hu) (by omega)) (by omega)) ?_;rintro v w10 ⟨rfl,S⟩;refine⟨_,rfl,(I.quiet S).aB z6.vs.toArray λ r3 w11 s15=>s15.az 0 rfl (lG C).vs rfl (I6.one _) λ w12 s16=>?_⟩;let J:af->Nat->Prop:=λ F r4=>St w0 F (Sep (aj r4 (kz C).1.vs.toArray 57 :: aj r3 (lG C).vs.toArray 42 :: (jR b E++[aj r1 (bI C.s.ps).vs.toArray 42,B])));have M:∀ {ov:Bool} {p:I6},({ E with ov:=ov,p:=p }:Ck).er=({ hJ C with cl:=C.cl++[ME C],ov:=ov,p:=p }:Ck).er:=by
   intro ov p;simp[E,D,hJ,Ck.er,Rn.er,x,ME]
  have lenD:(C.cl++[x]).length=C.cl.length+1:=by simp
  refine⟨λ r4 n F=>n=(kz C).2/\J F r4,?_,?_⟩
  ·rintro F r4 n ⟨rfl,d⟩ -;refine⟨λ x Q=>x=eJ C/\J Q r4,?_,?_⟩
   ·rintro Q x ⟨rfl,f⟩ -
    cases hla:eJ C with
    | true =>
     refine cT rfl (St.aN f 2 rfl (j:=18) (show 18<19 by decide) rfl λ w15 q=>.inr ⟨rfl,rfl,{ E with ov:=true },?_,St.ay q [2,3,4,5,6,7,9]⟩);rw[gZ,hla,ak rfl];exact M (ov:=true) (p:=C.p)
    | false =>
     refine cF rfl ⟨(kz C).1,f.cellsIn 0 rfl,f.jO 2 9 rfl ({ E with p:=(kz C).1 }:Ck).cells.toArray (show 15<=19 by decide) (I6.one _) rfl λ w15 q=>.inr ⟨rfl,rfl,{ E with p:=(kz C).1 },?_,St.ay q [2,3,4,5,6,7,9]⟩⟩;rw[gZ,hla,ah (by decide)];have:=M (ov:=false) (p:=(kz C).1);rw[<- this];have e:∀ o,o=C.ov->({ E with p:=(kz C).1 }:Ck)={ E with ov:=o,p:=(kz C).1 }:=λ o h=>by subst h; rfl
     rw[e false hov.symm]
   ·refine⟨lG C,d.cellsIn 1 rfl,?_⟩;rw[I6.beq_eq]
    by_cases g1:lG C=z6
    ·exact aP g1 ⟨by rw[eJ,dT g1,sU],d⟩
    refine aU g1 ⟨_,_,_,d.ag 2 rfl 8,?_⟩
    by_cases g2:C.cl.length+1>=30
    ·exact aP (by show(((C.cl++[x]).length:Nat):Int)>=30; omega) ⟨by rw[eJ,dT g2,sU,yT],d⟩
    exact aU (by show ¬ (((C.cl++[x]).length:Nat):Int)>=30; omega) ⟨by rw[eJ,dF g1,dF g2,nJ,nJ],d⟩
  have d:=s16.quiet (aC.drew w12 []);refine⟨_,_,_,_,d.aQ 1 4 rfl rfl,C.p,d.aQ 1 9 rfl rfl,lG C,d.cellsIn 0 rfl,⟨?_,?_⟩⟩
  ·refine au (OX _ k.o k.p (lG C)) ?_;rintro v w18 ⟨rfl,H⟩;exact⟨_,_,rfl,(d.quiet H).aB z6.vs.toArray λ r5 w19 f=>f.az 0 rfl (kz C).1.vs rfl (I6.one _) λ w20 q=>⟨rfl,q⟩⟩
  ·refine d.aB z6.vs.toArray λ r5 w19 f=>⟨f.cellsIn 1 rfl,f.aQ 2 9 rfl rfl,f.aQ 2 4 rfl rfl,au (OX _ k.o k.p (lG C)) ?_⟩;rintro v w18 ⟨rfl,H⟩;exact⟨_,_,rfl,(f.quiet H).az 0 rfl (kz C).1.vs rfl (I6.one _) λ w20 q=>⟨rfl,q⟩⟩
 ·refine⟨_,_,_,s4.ag 2 rfl 8,?_⟩
  by_cases hn:(C.cl.length:Int)>0
  ·have K:=s4.quiet (aC.drew w4 []);have Y:C.Rd b w4.drew:=(K.ay [2,3,4,5,6,7]).imp zX;obtain⟨N,V⟩:=Eg k (by omega);refine aP hn ⟨_,K.ag 2 rfl 6,_,K.cellsIn 1 rfl,_,_,_,K.ag 2 rfl 15,au (IB Y k (by omega)) ?_⟩;rintro v w6 ⟨g2,rfl,k6⟩;have t:St w0 w6 (Sep (_ :: _)):=K.and k6;refine⟨_,_,_,rfl,t.ag 3 rfl 15,t.cellsIn 2 rfl,t.ag 3 rfl 6,au (Qz t (by have:=k.o; unfold Po.ok at this; omega) G (St.rd bE (t.out 0 rfl)) (St.rd bE (t.out 4 rfl)) (by rw[N,z1]) (by omega) V k.asked) ?_⟩;rintro v w7 ⟨a,c,rfl,P,-⟩;have R:dJ C=UF C.o.und (bI C.s.ps) (jy C) C.ask:=by rw[dJ,ah (by omega)]
   refine⟨_,_,_,_,rfl,cF rfl ⟨by rw[hg.1,N],?_⟩⟩;rw[R];exact St.ay (l:=_ :: _ :: _ :: _ :: _) P [0,3,4,5,6,7,8,9,10]
  ·have R:dJ C=C.ask:=by rw[dJ,ak (by omega)]
   exact aU hn ⟨by rw[R],by rw[R]; exact s4⟩
end
def Jn(s:Nat):IntKind.i64.wrap (IntKind.i64.wrap s+1)=IntKind.i64.wrap ((s+1:Nat):Int):=by
 simp only[IntKind.wrap,IntKind.signed,IntKind.bits]
 simp
 omega
def fJ(x:Xv):Bool :=
 if x.op=1 then x.args.length==0
 else if x.op=2\/x.op=3 then decide (1<=x.args.length)&&(decide (x.args.length<=8)&&(decide (x.u=z6)&&x.v==0))
 else if x.op=4 then x.args.length==1
 else if x.op=5 then x.args.length==1&&decide (x.u=z6)
 else false
def gy(x:Xv):Bool :=
 if x.op=2\/x.op=3 then true else if x.v<1\/x.v>1000000 then false
 else if x.op=5 then true else x.u.l.all iy&&decide (tot x.u>0)
def Vq(w:af)(x:Xv):CP 291 #[.agg x.cells.toArray] w (λ r w'=>r=.bool (fJ x)/\aC w w' []):=by
 refine @DX _ x.u _ _ _ _ _ _ ?_;refine aG x.cells.toArray λ r1 f s1=>⟨_,_,_,s1.ag 0 rfl 8,_,s1.ag 0 rfl 0,?_⟩;have c:∀ n m:Nat,(((n:Nat):Int)==(m:Int))=(n==m):=λ n m=>by
  by_cases h:n=m
  ·subst h; simp
  ·rw[aS.2 h,aS.2 (show(n:Int)≠m by omega)]
 by_cases h1:x.op=1
 ·exact cT (by simpa using h1) ⟨by rw[fJ,ak h1,<- c]; rfl,s1.av⟩
 refine cF (by simpa using h1) ⟨λ b e=>b=decide (x.op=2\/x.op=3)/\e=f,?_,?_⟩
 ·rintro e _ ⟨rfl,rfl⟩ -
  by_cases h2:x.op=2\/x.op=3
  ·have a:fJ x=(decide (1<=x.args.length)&&(decide (x.args.length<=8)&&(decide (x.u=z6)&&x.v==0))):=by rw[fJ,ah h1,ak h2]
   refine aP h2 ?_
   by_cases g1:1<=x.args.length
   ·rw[dT g1,bt] at a;refine aP (by omega) ?_
    by_cases g2:x.args.length<=8
    ·rw[dT g2,bt] at a;refine aP (by omega) ⟨x.u,s1.aQ 0 1 rfl rfl,?_⟩;rw[I6.beq_eq]
     by_cases g3:x.u=z6
     ·rw[dT g3,bt] at a;exact aP g3 ⟨_,s1.ag 0 rfl 7,by rw[a],s1.av⟩
     ·rw[dF g3] at a;exact aU g3 ⟨by rw[a]; rfl,s1.av⟩
    ·rw[dF g2] at a;exact aU (by omega) ⟨by rw[a]; rfl,s1.av⟩
   ·rw[dF g1] at a;exact aU (by omega) ⟨by rw[a]; rfl,s1.av⟩
  ·refine aU h2 ?_
   by_cases h4:x.op=4
   ·exact cT (by simpa using h4) ⟨by rw[fJ,ah h1,ah h2,ak h4,<- c]; rfl,s1.av⟩
   refine cF (by simpa using h4) ?_
   by_cases d:x.op=5
   ·have a:fJ x=(x.args.length==1&&decide (x.u=z6)):=by rw[fJ,ah h1,ah h2,ah h4,ak d]
    refine cT (by simpa using d) ?_
    by_cases g1:x.args.length=1
    ·refine cT (bH.2 (by omega)) ⟨x.u,s1.aQ 0 1 rfl rfl,?_,s1.av⟩;rw[a,g1,I6.beq_eq]; rfl
    ·refine cF (aS.2 (by omega)) ⟨?_,s1.av⟩;rw[a,aS.2 g1]; rfl
   ·exact cF (by simpa using d) ⟨by rw[fJ,ah h1,ah h2,ah h4,ah d],s1.av⟩
 ·by_cases g2:x.op=2
  ·exact cT (by simpa using g2) ⟨by rw[dT (Or.inl g2)]; simpa using g2,rfl⟩
  ·refine cF (by simpa using g2) ⟨?_,rfl⟩
   by_cases g3:x.op=3
   ·rw[dT (Or.inr g3)]; simpa using g3
   ·rw[dF (by rintro(h|h); exact g2 h; exact g3 h)]; simpa using g3
def PG(w:af)(x:Xv):CP 292 #[.agg x.cells.toArray] w (λ r w'=>r=.bool (gy x)/\aC w w' []):=by
 refine @Ab _ x.u _ _ _ _ _ _ ?_;refine aG x.cells.toArray λ r1 g s1=>⟨_,s1.ag 0 rfl 0,?_⟩;refine⟨λ b d=>b=decide (x.op=2\/x.op=3)/\d=g,?_,?_⟩
 ·rintro d _ ⟨rfl,rfl⟩ -
  by_cases h2:x.op=2\/x.op=3
  ·exact aP h2 ⟨by rw[gy,ak h2],s1.av⟩
  refine aU h2 ⟨λ b f=>b=decide (x.v<1\/x.v>1000000)/\f=d,?_,_,s1.ag 0 rfl 7,?_⟩
  ·rintro f _ ⟨rfl,rfl⟩ -
   by_cases h3:x.v<1\/x.v>1000000
   ·exact aP h3 ⟨by rw[gy,ah h2,ak h3],s1.av⟩
   refine aU h3 ⟨_,s1.ag 0 rfl 0,?_⟩
   by_cases a:x.op=5
   ·exact cT (by simpa using a) ⟨by rw[gy,ah h2,ah h3,ak a],s1.av⟩
   have e:gy x=(x.u.l.all iy&&decide (tot x.u>0)):=by rw[gy,ah h2,ah h3,ah a]
   refine cF (by simpa using a) ⟨x.u,s1.aQ 0 1 rfl rfl,au (iq _ x.u) ?_⟩;rintro v i ⟨rfl,c4⟩;have c:=s1.quiet c4;refine⟨_,rfl,?_⟩
   cases hq:x.u.l.all iy with
   | false=>exact cF rfl ⟨by rw[e,hq]; rfl,c.av⟩
   | true =>
    refine cT rfl ⟨x.u,c.aQ 0 1 rfl rfl,au (TO _ x.u (qg (Bl hq) (by omega))) ?_⟩;rintro v j ⟨rfl,c5⟩;exact⟨_,rfl,by rw[e,hq,bt],(c.quiet c5).av⟩
  ·by_cases g1:x.v<1
   ·exact aP g1 ⟨by rw[dT (Or.inl g1)],rfl⟩
   ·refine aU g1 ⟨_,s1.ag 0 rfl 7,?_,rfl⟩
    by_cases g2:x.v>1000000
    ·rw[dT g2,dT (Or.inr g2)]
    ·rw[dF g2,dF (by rintro(h|h); exact g1 h; exact g2 h)]
 ·by_cases g2:x.op=2
  ·exact cT (by simpa using g2) ⟨by rw[dT (Or.inl g2)]; simpa using g2,rfl⟩
  ·refine cF (by simpa using g2) ⟨?_,rfl⟩
   by_cases g3:x.op=3
   ·rw[dT (Or.inr g3)]; simpa using g3
   ·rw[dF (by rintro(h|h); exact g2 h; exact g3 h)]; simpa using g3
def LC(n:Nat)(_:Xv):Nat×Bool:=(n+1,true)
def U0:∀ (x:Xv) (n:Nat),dh LC x n=(n+bJ x,true):=Xv.ind λ x d n=>by
 rw[nq,ak (show(LC n x).2=true from rfl),jz];have:∀ (l:List Xv) (m:Nat),(∀ y∈l,∀ n,dh LC y n=(n+bJ y,true))->jA LC l (m,true)=(m+(l.map bJ).sum,true):=λ l=>by
  induction l with
  | nil=>intro m _; rfl
  | cons y l a =>
   intro m b;unfold jA at a ⊢;rw[fM,ak rfl,b y (by simp),a _ λ z c=>b z (by simp[c])];rw[jm,yQ,Nat.add_assoc]
 show jA LC x.args (n+1,true)=_;rw[this _ _ d]; congr 1; omega
def Wv{w:af}{x:Xv}(l:bJ x<=100000)(g:x.In w):CP 289 #[.agg x.cells.toArray] w (λ r w'=>r=iv (bJ x)/\aC w w' []):=by
 refine @DW _ x.u _ _ _ _ _ _ ?_;refine aG x.cells.toArray λ r1 C s1=>s1.aB #[iv 0] λ r2 D s2=>s2.aN 0 rfl (j:=0) (show 0<1 by decide) rfl λ E m=>m.aB #[.nilFunc] λ r3 F o=>o.aN 0 rfl (j:=0) (show 0<1 by decide) rfl λ t c=>?_;refine⟨_,c.cellsIn 0 rfl,_,x.u,_,_,_,_,c.cellsIn 2 rfl,?_⟩;have f:∀ (b:af) (B:aI) (s:Nat) (y:Xv) (R:Ending->af->Prop),St w b (star (aj r2 #[iv (IntKind.i64.wrap s)] 3) B)->y.In b->bJ y<=100000->(∀ w',St w w' (star (aj r2 #[iv (IntKind.i64.wrap ((s+1:Nat):Int))] 3) B)->R (.returned (.bool true)) w')->lK prog (.func (.func 328) #[] #[pt r2]) #[.agg y.cells.toArray] b R:=by
  intro b B s y R h z i k;refine dZ (by kernel_rfl) (au (K:=λ r w'=>r=.bool true/\St w w' (star (aj r2 #[iv (IntKind.i64.wrap ((s+1:Nat):Int))] 3) B)) (@Aa _ y.u _ _ _ _ _ _ _ ?_) ?_)
  ·skip
   refine(h.Cz).aB y.cells.toArray λ r4 v a=>⟨_,a.ag 1 rfl 0,a.aN 1 rfl (j:=0) (show 0<1 by decide) rfl λ G p=>⟨rfl,?_⟩⟩;have e:IntKind.i64.wrap (IntKind.i64.wrap s+1)=IntKind.i64.wrap ((s+1:Nat):Int):=Jn s;have q:=(p.ay [1,2]).pair;rw[<- e]; exact q
  ·rintro r w' ⟨rfl,d⟩; exact k w' d
 refine au (Ji (w0:=w) (step:=LC) (A:=λ n=>aj r2 #[iv (IntKind.i64.wrap (n:Int))] 3) f x l (λ hc=>g.av hc) t emp 0 (c.ay [1])) ?_;rintro r v ⟨rfl,a⟩;rw[U0] at a;refine⟨_,rfl,_,a.boxed 0,?_,a.av⟩;rw[aL,cA (by omega)]
def sN(_:Unit)(x:Xv):Unit×Bool:=((),decide (x.args.length<=8))
def mV(e:Int)(x:Xv):Int:=if fJ x then (if gy x then e else 4) else 2
def fI(e:Int)(x:Xv):Int×Bool:=(mV e x,mV e x==0)
def fC(x:Xv):Int:=if 6<ku x then 9 else if (dh sN x ()).2=false\/40<bJ x then 3 else (dh fI x 0).1
def TU(s:Unit)(x:Xv):sN s x.er=sN s x:=by
 unfold sN;rw[td,dU]
def RX(x:Xv):fJ x.er=fJ x:=by
 unfold fJ;rw[td,dU,Xv.mQ]; rfl
def S6(x:Xv):gy x.er=gy x:=by
 unfold gy;rw[Xv.mQ]; rfl
def VN(e:Int)(x:Xv):fI e x.er=fI e x:=by unfold fI mV; rw[RX,S6]
def uv(x:Xv):fC x.er=fC x:=by
 unfold fC;rw[U4,EJ,Ll TU,Ll VN]
def Ho{w:af}{x:Xv}(o:bJ x<=100000)(n:x.In w):CP 230 #[.agg x.cells.toArray] w (λ r w'=>r=iv (fC x)/\aC w w' []):=by
 refine @By _ x.u _ _ _ _ _ _ ?_;have hd:=HW x;refine aG x.cells.toArray λ r1 S s1=>⟨_,x.u,_,_,_,_,s1.cellsIn 0 rfl,au (RD x o S (n.av s1.av)) ?_⟩;rintro v H ⟨rfl,c2⟩;have s2:=s1.quiet c2;refine⟨_,rfl,?_⟩
 by_cases C:6<ku x
 ·exact aP (by omega) ⟨by rw[fC,ak C],s2.av⟩
 refine aU (by omega) (s2.aB #[.nilFunc] λ r2 V O=>O.aN 0 rfl (j:=0) (show 0<1 by decide) rfl λ T F=>?_);refine⟨λ b L=>b=decide ((dh sN x ()).2=false\/40<bJ x)/\St w L (Sep [aj r1 x.cells.toArray 120]),?_,_,F.cellsIn 0 rfl,_,x.u,_,_,_,_,F.cellsIn 1 rfl,?_⟩
 ·rintro L _ ⟨rfl,J⟩ -
  by_cases g:(dh sN x ()).2=false\/40<bJ x
  ·exact aP g ⟨by rw[fC,ah C,ak g],J.av⟩
  refine aU g (J.aB #[iv 0] λ r3 U q=>q.aN 0 rfl (j:=0) (show 0<1 by decide) rfl λ W P=>P.aB #[.nilFunc] λ r4 X Q=>Q.aN 0 rfl (j:=0) (show 0<1 by decide) rfl λ c G=>⟨_,G.cellsIn 0 rfl,_,x.u,_,_,_,_,G.cellsIn 2 rfl,?_⟩);have D:∀ (c:af) (B:aI) (s:Int) (y:Xv) (R:Ending->af->Prop),St w c (star (aj r3 #[iv s] 49) B)->y.In c->bJ y<=100000->(∀ w',St w w' (star (aj r3 #[iv (fI s y).1] 49) B)->R (.returned (.bool (fI s y).2)) w')->lK prog (.func (.func 290) #[] #[pt r3]) #[.agg y.cells.toArray] c R:=by
   intro c B s y R h N E k;refine dZ (by kernel_rfl) (au (K:=λ r w'=>r=.bool (mV s y==0)/\St w w' (star (aj r3 #[iv (mV s y)] 49) B)) (@yl _ y.u _ _ _ _ _ _ _ ?_) ?_)
   ·skip
    refine(h.Cz).aB y.cells.toArray λ r5 m t=>⟨λ H=>St w H (Sep [aj r5 y.cells.toArray 120,aj r3 #[iv (mV s y)] 49,B]),?_,_,y.u,_,_,_,_,t.cellsIn 0 rfl,au (Vq m y) ?_⟩
    ·rintro H t2 -;exact⟨_,t2.ag 1 rfl 0,rfl,(t2.ay [1,2]).pair⟩
    rintro v f ⟨rfl,z⟩;have t1:=t.quiet z;refine⟨_,rfl,?_⟩
    cases hf:fJ y with
    | false =>
     have e:mV s y=2:=by rw[mV,hf]; rfl
     exact cT rfl (t1.aN 1 rfl (j:=0) (show 0<1 by decide) rfl λ i t2=>by rw[e]; exact t2)
    | true =>
     refine cF rfl ⟨_,y.u,_,_,_,_,t1.cellsIn 0 rfl,au (PG f y) ?_⟩;rintro v i ⟨rfl,d⟩;have t2:=t1.quiet d;refine⟨_,rfl,?_⟩
     cases hg:gy y with
     | false =>
      have e:mV s y=4:=by rw[mV,hf,hg]; rfl
      exact cT rfl (t2.aN 1 rfl (j:=0) (show 0<1 by decide) rfl λ i t3=>by rw[e]; exact t3)
     | true =>
      have e:mV s y=s:=by rw[mV,hf,hg]; rfl
      exact cF rfl (by rw[e]; exact t2)
   ·rintro r w' ⟨rfl,M⟩; exact k w' M
  refine au (Ji (w0:=w) (step:=fI) (A:=λ e=>aj r3 #[iv e] 49) D x o (λ hc=>n.av hc) c emp 0 (G.ay [1])) ?_;rintro r m ⟨rfl,l⟩;exact⟨_,rfl,_,l.boxed 0,by rw[fC,ah C,ah g],l.av⟩
 ·have D:∀ (c:af) (B:aI) (s:Unit) (y:Xv) (R:Ending->af->Prop),St w c (star emp B)->y.In c->bJ y<=100000->(∀ w',St w w' (star emp B)->R (.returned (.bool (sN s y).2)) w')->lK prog (.func (.func 287) #[] #[]) #[.agg y.cells.toArray] c R:=by
   intro c B s y R h N E k;refine dZ (by kernel_rfl) (au (K:=λ r w'=>r=.bool (decide (y.args.length<=8))/\aC c w' []) (@yj _ y.u _ _ _ _ _ _ ?_) ?_)
   ·skip
    refine aG y.cells.toArray λ r4 U q=>⟨_,_,_,q.ag 0 rfl 8,?_,q.av⟩
    by_cases I:y.args.length<=8
    ·rw[dT I,dT (show((y.args.length:Nat):Int)<=8 by omega)]
    ·rw[dF I,dF (show ¬ ((y.args.length:Nat):Int)<=8 by omega)]
   ·rintro r w' ⟨rfl,hc⟩; exact k w' (h.quiet hc)
  refine au (Ji (w0:=w) (step:=sN) (A:=λ _=>emp) D x o (λ hc=>n.av hc) T (Sep [aj r1 x.cells.toArray 120]) () (F.ay [2,1])) ?_;rintro r f ⟨rfl,a⟩;have a:St w f (Sep [emp,aj r1 x.cells.toArray 120]):=a;refine⟨_,rfl,?_⟩
  cases hw:(dh sN x ()).2 with
  | false=>exact cT rfl ⟨by rw[dT (Or.inl rfl)],a.ay [1]⟩
  | true =>
   refine cF rfl ⟨_,x.u,_,_,_,_,a.cellsIn 1 rfl,au (Wv o (n.av a.av)) ?_⟩;rintro v i ⟨rfl,d⟩;refine⟨_,rfl,?_,(a.quiet d).ay [1]⟩
   by_cases g:40<bJ x
   ·rw[dT (p:=true=false\/40<bJ x) (Or.inr g)]; exact dT (by omega)
   ·rw[dF (p:=true=false\/40<bJ x) (by rintro(h|h); exact absurd h (by decide); exact g h)]; exact dF (by omega)
theorem Bg:bJ cI=1:=by rw[jz]; rfl
theorem size_mk(op:Int)(u:I6)(v:Int)(a:OA)(c:Nat)(l:List Xv):bJ (.mk op u v a c l)=1+(l.map bJ).sum:=by rw[jz]; rfl
section
variable {g:Sc->Xv×Sc} (hg:∀ σ,bJ (g σ).1+3*(g σ).2.1.length<=3*σ.1.length+2)
include hg
theorem JR(σ:Sc):bJ (fz g σ).1+3*(fz g σ).2.1.length<=3*σ.1.length+2:=by
 unfold fz; split
 ·show bJ cI+3*σ.1.length<=_; rw[Bg]; omega
 ·exact hg _
theorem E9:∀ (n:Nat) (acc:List Xv) (σ:Sc),((iL g n acc σ).1.map bJ).sum+3*(iL g n acc σ).2.1.length<=(acc.map bJ).sum+3*σ.1.length
 | 0,_,_=>aO _
 | n+1,acc,σ=>by
  rw[iL]
  split
  ·rename_i a;have h1:=E9 n (acc++[(fz g (σ.acc [44])).1]) (fz g (σ.acc [44])).2;have h2:=JR hg (σ.acc [44]);have h3:=yX a;rw[bP,List.sum_append,cV,vn] at h1;omega
  ·exact aO _
theorem Vj(ps:List Pr)(op:Int)(a1:Xv)(σ:Sc):bJ (FB ps g op a1 σ).1+3*(FB ps g op a1 σ).2.1.length<=1+bJ a1+3*σ.1.length:=by
 unfold FB
 split
 ·have h1:=E9 hg σ.1.length [a1] σ;have h2:=rz [41] (iL g σ.1.length [a1] σ).2;rw[cV,vn] at h1;show bJ (.mk _ _ _ _ _ _)+3*((iL g σ.1.length [a1] σ).2.exp [41]).1.length<=_;rw[size_mk]; omega
 ·split
  ·have h1:=oZ ps (σ.exp [44]);have h2:=rz [44] σ;have h3:=rz [41] (aZ ps (σ.exp [44])).2;show bJ (.mk _ _ _ _ _ _)+3*((aZ ps (σ.exp [44])).2.exp [41]).1.length<=_;rw[size_mk,cV,vn]; omega
  ·split
   ·have h1:((σ.exp [44]).kJ 1000000).1.length<=(σ.exp [44]).1.length:=wN _ _ _;have h2:=rz [44] σ;have h3:=rz [41] ((σ.exp [44]).kJ 1000000);show bJ (.mk _ _ _ _ _ _)+3*(((σ.exp [44]).kJ 1000000).exp [41]).1.length<=_;rw[size_mk,cV,vn]; omega
   ·have h3:=rz [41] σ;show bJ (.mk _ _ _ _ _ _)+3*(σ.exp [41]).1.length<=_;rw[size_mk,cV,vn]; omega
end
theorem DR(ps:List Pr):∀ (f:Nat) (σ:Sc),bJ (fU ps f σ).1+3*(fU ps f σ).2.1.length<=3*σ.1.length+2
 | 0,σ=>by show bJ cI+_<=_; rw[Bg]; show 1+3*σ.1.length<=_; omega
 | f+1,σ=>by
  rw[fU]
  split
  ·have h1:=oZ ps (tg σ);have h2:=H9 σ;show bJ (.mk _ _ _ _ _ _)+3*(aZ ps (tg σ)).2.1.length<=_;rw[size_mk]; simp only[yP,List.sum_nil]; omega
  ·rename_i h1;have a:=Vj (DR ps f) ps (dW (aT σ.1 σ.2)) (fz (fU ps f) (qG σ)).1 (fz (fU ps f) (qG σ)).2
   by_cases he:(qG σ).2=0
   ·have h2:=Ia h1 he;have h3:=JR (DR ps f) (qG σ);omega
   ·have h2:=DP σ;have h3:fz (fU ps f) (qG σ)=(cI,qG σ):=by rw[fz,ak he]
    rw[h3] at a ⊢;rw[Bg] at a;have h4:(cI,qG σ).2.1.length=(qG σ).1.length:=rfl;omega
def bW(ps:List Pr)(t:List UInt8):Xv×Int :=
 if (bR t).2≠0 then (cI,(bR t).2)
 else if pN (fU ps ((bR t).1.length+1) ((bR t).1,0)).2.1 (fU ps ((bR t).1.length+1) ((bR t).1,0)).2.2≠0 then (cI,pN (fU ps ((bR t).1.length+1) ((bR t).1,0)).2.1 (fU ps ((bR t).1.length+1) ((bR t).1,0)).2.2)
 else if fC (fU ps ((bR t).1.length+1) ((bR t).1,0)).1≠0 then (cI,fC (fU ps ((bR t).1.length+1) ((bR t).1,0)).1)
 else ((fU ps ((bR t).1.length+1) ((bR t).1,0)).1,0)
theorem A7(l:List UInt8):∀ (f n:Nat) (acc:List Tk),(qc l f n acc).1.length<=acc.length+f
 | 0,_,_=>aO _
 | f+1,n,acc=>by
  rw[qc]
  split
  ·simp
  ·split
   ·exact cC (A7 l f _ _) (by omega)
   ·split
    ·simp
    ·have:=A7 l f (n+(de l n ‹UInt8›).1.t.length) (acc++[(de l n ‹UInt8›).1]);simp only[aY,bS] at this;omega
theorem Ld(l:List UInt8):(bR l).1.length<=4000:=by
 unfold bR
 split
 ·simp
 ·have:=A7 l l.length 0 [];simp only[eY] at this;omega
theorem sO(w:af):cI.In w:=.mk (λ i y a=>by simp[cI,Xv.args] at a) (λ y a=>by simp[cI,Xv.args] at a)
theorem SO{w:af}{a:OA}{c:Nat}{l:List Pr}(F:fS w a l)(hc:l.length<=c)(E:dH l)(t:List UInt8) :
  CP 169 #[.slice a l.length c,sv t] w (λ r w'=>∃ x:Xv,x.er=(bW l t).1/\r=.tuple #[.agg x.cells.toArray,iv (bW l t).2]/\St w w' (held x.In)):=by
 refine ld.1 ?_;refine aG cI.cells.toArray λ r1 W s1=>au (zU (F.av s1.av) hc) ?_;rintro v X ⟨⟨e,rfl,o⟩,c2⟩;obtain rfl:=o.2 E;have s2:=s1.quiet c2;have bad:∀ {k:Int} {w':af} {m:List aI} {i:Nat} {cs:Array Value},St w w' (Sep m)->m[i]?=some (aj r1 cs 120)->cs.size=9->bW l t=(cI,k) ->
   uP ⟨r1,0,none⟩ 0 cI.cells w' λ D=>∃ (n2:Int) (u1:I6) (n3:Int) (a2:OA) (l2 c2:Nat),aA D ⟨r1,0,none⟩ 0 (iv n2 :: u1.on [iv n3,.slice a2 l2 c2]) /\
    ∃ x:Xv,x.er=(bW l t).1/\Value.tuple #[.agg (iv n2 :: u1.on [iv n3,.slice a2 l2 c2]:List Value).toArray,iv k]=.tuple #[.agg x.cells.toArray,iv (bW l t).2]/\St w D (held x.In):=λ {k w' m i cs} s e L hp =>
  s.az i e cI.cells (by rw[L]; rfl) (Xv.one _) λ D H=>⟨_,z6,_,_,_,_,H.cellsIn (cs:=cI.cells.toArray) (T:=120) i (nK (gr e)),cI,by rw[hp,Be],by rw[hp]; rfl,((St.start' H.av).one.jx sO).first⟩
 refine⟨_,rfl,cF rfl (au (Qu t) ?_)⟩;rintro v S ⟨a3,c3,rfl,M⟩;have B:St w S (Sep [_,_,_]):=s2.and M;have G:=Ld t;refine⟨_,_,_,_,rfl,?_⟩
 by_cases h1:(bR t).2=0
 ·have rd:=St.rd Tk.len B;refine cF (by simpa using h1) (au (L6 B rd G) ?_);rintro v U ⟨p,rfl,n⟩;have n:kR w U p ((bR t).1,0) (Sep [dK 338 4 Tk.cells a3 c3 (bR t).1,aj r1 cI.cells.toArray 120,emp]):=n;refine⟨_,rfl,aG #[.slice none 0 0,.pointer none] λ r2 Y N=>N.az 0 rfl [.slice a l.length c,pt p] rfl (by simp[Value.oneCell']) λ V I=>⟨_,_,_,_,I.cellsIn 0 rfl,?_⟩⟩;have J:=n.add I;refine au (Ob (λ hc=>F.av hc) hc E ((bR t).1.length+1) _ ((bR t).1,0) V (Nat.lt_succ_self _) J) ?_;have g:=DR l ((bR t).1.length+1) ((bR t).1,0);have b:bW l t=if pN (fU l ((bR t).1.length+1) ((bR t).1,0)).2.1 (fU l ((bR t).1.length+1) ((bR t).1,0)).2.2≠0 then (cI,pN (fU l ((bR t).1.length+1) ((bR t).1,0)).2.1 (fU l ((bR t).1.length+1) ((bR t).1,0)).2.2)
    else if fC (fU l ((bR t).1.length+1) ((bR t).1,0)).1≠0 then (cI,fC (fU l ((bR t).1.length+1) ((bR t).1,0)).1)
    else ((fU l ((bR t).1.length+1) ((bR t).1,0)).1,0):=by rw[bW,ah (by simpa using h1)]
  generalize fU l ((bR t).1.length+1) ((bR t).1,0)=R at g b ⊢;rintro v Z ⟨x,ex,rfl,K⟩;have y:bJ x<=100000:=by
   rw[<- EJ x,ex];have:(bR t).1.length<=4000:=G;simp only at g;omega
  refine⟨_,x.u,_,_,_,_,rfl,aG cI.cells.toArray λ r3 O z=>z.az 0 rfl x.cells rfl (Xv.one _) λ h A=>?_⟩;have f:kR w h p R.2 (star (Sep [aj r3 x.cells.toArray 120,emp]) (star (held x.In) (star (Sep [aj r2 #[.slice a l.length c,pt p] 301,emp]) (Sep [dK 338 4 Tk.cells a3 c3 (bR t).1,aj r1 cI.cells.toArray 120,emp])))):=K.add A;have fl:St w h (Sep [aj r3 x.cells.toArray 120,emp,held x.In,aj r2 #[.slice a l.length c,pt p] 301,emp,dK 338 4 Tk.cells a3 c3 (bR t).1,aj r1 cI.cells.toArray 120,emp]):=by
   have t1:=f.frame;exact t1.eqv ((bX.right (bX.right (bX.cat [_,_]))).trans (bX.cat (m:=held x.In :: _) [_,_]))
  refine⟨_,fl.ag 3 rfl 1,au (Wr f) ?_⟩;rintro v C ⟨rfl,rfl⟩;refine⟨_,rfl,?_⟩
  by_cases h2:pN R.2.1 R.2.2=0
  ·rw[ah (by simpa using h2)] at b;have q:x.In C:=fl.bC 2 rfl;refine cF (by simpa using h2) ⟨_,x.u,_,_,_,_,fl.cellsIn 0 rfl,au (Ho y q) ?_⟩;rintro v P ⟨rfl,j⟩;have t14:=fl.quiet j;have d:fC x=fC R.1:=by rw[<- ex,uv]
   refine⟨_,rfl,?_⟩
   by_cases h3:fC x=0
   ·rw[ah (by rw[<- d]; simpa using h3)] at b;exact cF (by simpa using h3) ⟨_,x.u,_,_,_,_,t14.cellsIn 0 rfl,t14.az 6 rfl x.cells rfl (Xv.one _) λ Q t16=>⟨_,x.u,_,_,_,_,t16.cellsIn 6 rfl,x,by rw[b,ex],by rw[b]; rfl,(t16.out 2 rfl).first⟩⟩
   ·rw[ak (by rw[<- d]; exact h3),<- d] at b;exact cT (by simpa using h3) (bad t14 (i:=6) rfl rfl b)
  ·rw[ak h2] at b;exact cT (by simpa using h2) (bad fl (i:=6) rfl rfl b)
 ·exact cT (by simpa using h1) (bad B (i:=1) rfl rfl (by rw[bW,ak h1]))
abbrev Wf:=I6->Int
def jL(v:Int):Int:=if 1000000<v then 1000000 else v
def nh(lim:I6)(f:Wf)(p:KV):Wf:=λ w=>if w=p.1/\jL p.2>f p.1/\within p.1 lim=true then jL p.2 else f w
def cS(lim:I6)(f:Wf)(Q:List KV):Wf:=Q.foldl (nh lim) f
def My{lim:I6}{f:Wf}{p:KV}{w:I6}{n:Int}:nh lim f p w<=n<->f w<=n/\(p.1=w->within w lim=true->jL p.2<=n):=by
 unfold nh
 split
 ·rename_i h;obtain⟨rfl,h1,h2⟩:=h;exact⟨λ h=>⟨by omega,λ _ _=>h⟩,λ h=>h.2 rfl h2⟩
 ·rename_i h;refine⟨λ a=>⟨a,λ e hw=>?_⟩,λ h=>h.1⟩;subst e
  by_cases hc:jL p.2>f p.1
  ·exact absurd ⟨rfl,hc,hw⟩ h
  ·omega
theorem eU{lim:I6}:∀ {Q:List KV} {f:Wf} {w:I6} {n:Int},cS lim f Q w<=n<->f w<=n/\∀ p∈Q,p.1=w->within w lim=true->jL p.2<=n
 | [],f,w,n=>by simp[cS]
 | p :: Q,f,w,n=>by
  show cS lim (nh lim f p) Q w<=n<->_;rw[eU,My];constructor
  ·rintro⟨⟨h1,h2⟩,h3⟩;refine⟨h1,λ q a=>?_⟩;rcases cJ.1 a with rfl|a
   ·exact h2
   ·exact h3 q a
  ·rintro⟨h1,h2⟩;exact⟨⟨h1,h2 p (by simp)⟩,λ q a=>h2 q (by simp[a])⟩
def jM{lim:I6}{f:Wf}{Q Q':List KV}(h:∀ p,p∈Q<->p∈Q'):cS lim f Q=cS lim f Q':=by
 funext w
 refine Int.le_antisymm (eU.2 ?_) (eU.2 ?_)
 ·have:=(eU (lim:=lim) (f:=f) (Q:=Q') (w:=w) (n:=cS lim f Q' w)).1 (cq _);exact⟨this.1,λ p hp=>this.2 p ((h p).1 hp)⟩
 ·have:=(eU (lim:=lim) (f:=f) (Q:=Q) (w:=w) (n:=cS lim f Q w)).1 (cq _);exact⟨this.1,λ p hp=>this.2 p ((h p).2 hp)⟩
def lf{lim:I6}{f:Wf}{Q:List KV}{p:KV}:nh lim (cS lim f Q) p=cS lim f (Q++[p]):=by
 rw[cS,cS,iJ]; rfl
def IW{lim:I6}{f:Wf}{Q R:List KV}:cS lim (cS lim f Q) R=cS lim f (Q++R):=by
 rw[cS,cS,cS,iJ]
structure gI (lim:I6) (l:List KV) (f:Wf):Prop where
 v:∀ u,nk l u=if 0<f u then some (f u) else none
 le:∀ u,f u<=1000000
 z:∀ u,0<=f u
 s:∀ u,0<f u->I6.Le u 4/\within u lim=true
def gI.nil(lim:I6):gI lim [] λ _=>0:=⟨λ u=>rfl,λ u=>by omega,λ u=>by omega,λ u h=>by omega⟩
def gI.get{lim:I6}{l:List KV}{f:Wf}(h:gI lim l f)(u:I6):(nk l u).getD 0=f u:=by
 rw[h.v]
 split
 ·rfl
 ·have:=h.z u; show 0=f u; omega
def gI.mem{lim:I6}{l:List KV}{f:Wf}(h:gI lim l f)(c:(l.map (·.1)).Nodup)(p:KV):p∈l<->0<f p.1/\p.2=f p.1:=by
 constructor
 ·intro hp;have h1:=QC c hp;rw[h.v] at h1
  split at h1
  ·rename_i h2; exact⟨h2,by injection h1 with h1; exact h1.symm⟩
  ·cases h1
 ·rintro⟨h1,h2⟩;have h3:=h.v p.1;rw[ak h1] at h3;have:=CY h3;obtain⟨a,b⟩:=p;simp only at h2 this;rw[h2]; exact this
def gI.raise{lim:I6}{l:List KV}{f:Wf}(h:gI lim l f)(b:I6.Le lim 4){p:KV}(hp:I6.Le p.1 1000000) :
  gI lim (if jL p.2>f p.1/\within p.1 lim=true then yA l p.1 (jL p.2) else l) (nh lim f p):=by
 by_cases g:jL p.2>f p.1/\within p.1 lim=true
 ·rw[ak g];have c:=h.z p.1;have e:∀ u,nh lim f p u=if u=p.1 then jL p.2 else f u:=λ u=>by
   unfold nh
   by_cases hu:u=p.1
   ·rw[ak ⟨hu,g⟩,ak hu]
   ·rw[ah (λ h=>hu h.1),ah hu]
  refine⟨λ u=>?_,λ u=>?_,λ u=>?_,λ u=>?_⟩
  ·rw[QD,e]
   by_cases hu:u=p.1
   ·rw[ak hu,ak hu,ak (by omega)]
   ·rw[ah hu,ah hu,h.v]
  ·rw[e]; split
   ·unfold jL; split<;>omega
   ·exact h.le u
  ·rw[e]; split
   ·omega
   ·exact h.z u
  ·rw[e]; split
   ·rename_i hu; subst hu; intro _;refine⟨λ k a=>?_,g.2⟩;have h1:=hp k a;have h2:=within_iff.1 g.2 k a;have h3:=b k a;omega
   ·exact h.s u
 ·rw[ah g];have e:nh lim f p=f:=by
   funext u
   unfold nh;rw[ah (λ h=>g h.2)]
  rw[e]; exact h
def Uj:Xe prog 348 42 2 where
 u:=underlying348
 k:=⟨_,underlying42⟩
 z:=by kernel_rfl
 eq u v:=by kernel_rfl
 ck b u w:=by
  obtain⟨i,hi,_,_,_⟩:=QV.i;have hc:(prog).cellsOf 3=1:=by kernel_rfl
  have d:∀ w,(Go.sizeOf 3).run prog w=.ok 1 w:=λ w=>by rw[run_sizeOf w hi,hc]
  have a:∀ (w:af) (j:Nat),j<6->(part 3 u.vs.toArray (j*1)).run prog w=.ok (iv (u.at' j)) w:=λ w j c=>by
   have:=u.get j c;simp only[gG] at this ⊢;simp[part,isAgg,bu underlying3,this]
  rw[show(10000:Nat)=9999+1 from rfl,Instr.checkKey];simp only[Sem.run_bind,run_underlying underlying42,Result.andThen_ok];simp only[T0,Std.Legacy.Range.size,pI,Nat.add_one_sub_one,Nat.div_one];have each:∀ j∈List.range' 0 6,j<6:=λ j c=>by simpa using c
  generalize List.range' 0 6=is at each
  induction is with
  | nil=>simp
  | cons j is f =>
   have p1:=a w j (each j (by simp));have p2:=pZ (P:=prog) underlying3 b 9998 (u.at' j) w;simp only[List.forIn_cons,Sem.run_bind,d,Result.andThen_ok,p1,p2,Sem.run_pure];exact f λ y e=>each y (by simp[e])
section
variable {w0 w:af} {B:aI} {r r2:Nat} {l l2:List KV} {lim:I6} {f g:Wf}
def rI(s:St w0 w (star (mapA r l) B)):(l.map (·.1)).Nodup:=by
 obtain⟨x,_⟩:=s.ex;exact x.2.ky
def gI.key(h:gI lim l f)(a:(l.map (·.1)).Nodup){p:KV}(hp:p∈l):I6.Le p.1 4/\0<p.2/\p.2<=1000000:=by
 have h1:=(h.mem a p).1 hp;have:=h.le p.1;exact⟨(h.s p.1 h1.1).1,by omega,by omega⟩
def pn(s:St w0 w (star (mapA r l) B))(h:gI lim l f)(k:I6.Le lim 4){b:I6}(j:I6.Le b 1000000)(v:Int) :
  CP 331 #[.map (some r),.agg lim.vs.toArray,.agg b.vs.toArray,iv v] w (λ x w'=>x=.tuple #[]/\∃ a,gI lim a (nh lim f (b,v))/\St w0 w' (star (mapA r a) B)):=by
 refine(p6 qi).2.2.2.1 ?_;refine(s.Cz).aB lim.vs.toArray λ r1 n s1=>s1.aB b.vs.toArray λ r2 o s2=>?_;have c:=h.raise k (p:=(b,v)) j;have back:∀ {w':af} {a:List KV},St w0 w' (Sep [aj r2 b.vs.toArray 42,aj r1 lim.vs.toArray 42,mapA r a,B])->St w0 w' (star (mapA r a) B):=λ s=>(s.ay [2,3]).pair;refine⟨λ x e=>x=decide (jL v>f b/\within b lim=true)/\St w0 e (Sep [aj r2 b.vs.toArray 42,aj r1 lim.vs.toArray 42,mapA r l,B]),?_,b,s2.cellsIn 0 rfl,?_⟩
 ·rintro e _ ⟨rfl,d⟩ -
  by_cases g:jL v>f b/\within b lim=true
  ·rw[ak g] at c;refine aP g ⟨b,d.cellsIn 0 rfl,SV Uj (d.out 2 rfl) b (jL v) λ q m=>⟨rfl,_,c,?_⟩⟩;exact back (m.back (show 2<4 by decide))
  ·rw[ah g] at c;exact aU g ⟨rfl,_,c,back d⟩
 ·refine F6 Uj (s2.out 2 rfl) b ?_;rw[h.get]
  by_cases g1:jL v>f b
  ·refine aP g1 ⟨b,s2.cellsIn 0 rfl,lim,s2.cellsIn 1 rfl,au (wE _ _ _) ?_⟩;rintro x t ⟨rfl,i⟩;refine⟨_,rfl,?_,s2.quiet i⟩
   cases hw:within b lim with
   | true=>rw[dT (p:=jL v>f b/\true=true) ⟨g1,rfl⟩]
   | false=>rw[dF (p:=jL v>f b/\false=true) (λ h=>by cases h.2)]
  ·exact aU g1 ⟨by rw[dF (λ h=>g1 h.1)],s2⟩
def wC(s:St w0 w (star (mapA r l) (star (mapA r2 l2) B)))(h:gI lim l f)(h2:gI lim l2 g)(y:I6.Le lim 4) :
  CP 332 #[.map (some r),.agg lim.vs.toArray,.map (some r2)] w (λ x w'=>x=.tuple #[]/\∃ a,gI lim a (cS lim f l2)/\St w0 w' (star (mapA r a) (star (mapA r2 l2) B))):=by
 refine(p6 qi).2.2.2.2.1 ?_;have d:=rI s.pY;refine(s.zy).aB lim.vs.toArray λ r1 G s1=>o6 Uj (s1.out 2 rfl) λ it E s2=>?_;have s2:St w0 E (Sep [Ag r2 it l2 [],aj r1 lim.vs.toArray 42,mapA r l,B]):=s2;refine⟨λ n m=>∃ (S a:List KV),m=l2.length-S.length/\(∀ p∈S,p∈l2)/\gI lim a (cS lim f S)/\St w0 n (Sep [Ag r2 it l2 S,aj r1 lim.vs.toArray 42,mapA r a,B]),⟨_,[],l,rfl,by simp,h,s2⟩,?_⟩;rintro n m ⟨S,a,rfl,o,t,u⟩ -;refine rM u (λ b=>⟨rfl,a,?_,?_⟩) (λ p hp hlen F j=>?_)
 ·rw[jM (Q:=l2) (Q':=S) λ p=>⟨b p,o p⟩]; exact t
 ·have z:St w0 n (Sep [mapA r2 l2,aj r1 lim.vs.toArray 42,mapA r a,B]):=St.Ah u;exact(z.ay [2,0,3]).triple
 ·have j:St w0 F (Sep [Ag r2 it l2 (S++[p]),aj r1 lim.vs.toArray 42,mapA r a,B]):=j;have v:=h2.key d hp;refine j.aB z6.vs.toArray λ r3 H A=>A.az 0 rfl p.1.vs rfl (I6.one _) λ I k=>⟨lim,k.cellsIn 2 rfl,p.1,k.cellsIn 0 rfl,au (pn (k.out 3 rfl) t y (qg v.1 (by omega)) p.2) ?_⟩;rintro x J ⟨rfl,i,e,C⟩;have D:=(C.back (show 3<5 by decide)).ay [1,2,3,4];refine⟨rfl,_,?_,S++[p],i,rfl,?_,?_,D⟩
  ·rw[aY,bS]; omega
  ·intro q c;rcases aV.1 c with c|c
   ·exact o q c
   ·rw[bp.1 c]; exact hp
  ·rw[<- lf]; exact e
end
section
variable {w0 w:af} {B:aI} {r r1 r2:Nat} {l l1 l2:List KV} {lim:I6} {f g:Wf}
def St.UD(s:St w0 w (star (dQ r (.map #[] 0)) B)):St w0 w (star (mapA r []) B) :=
 St.Al (f:=λ (x:{ p:Array MapEntry×Nat // E2 p.1.toList p.2 [] })=>dQ r (.map x.1.1 x.1.2)) ⟨(#[],0),rfl,by simp,by simp,by simp⟩ s
def yg(p q:KV):KV:=(p.1.zip (· + ·) q.1,p.2+q.2)
def CB(l1 l2:List KV):List KV:=l1.flatMap λ p=>l2.map (yg p)
def th{l1 l2:List KV}{x:KV}:x∈CB l1 l2<->∃ p∈l1,∃ q∈l2,yg p q=x:=by simp[CB]
def Q0{p q:KV}(hp:I6.Le p.1 4)(b:I6.Le q.1 4):I6.Le (yg p q).1 1000000:=λ k a=>by
 have h1:=hp k a; have h2:=b k a;show 0<=(p.1.zip (· + ·) q.1).at' k/\_;rw[I6.iG _ _ _ _ a];show 0<=p.1.at' k+q.1.at' k/\(p.1.zip (· + ·) q.1).at' k<=1000000;rw[I6.iG _ _ _ _ a];omega
def WW(s:St w0 w (star (mapA r1 l1) (star (mapA r2 l2) B)))(h1:gI lim l1 f)(h2:gI lim l2 g)(F:I6.Le lim 4) :
  CP 333 #[.agg lim.vs.toArray,.map (some r1),.map (some r2)] w (λ x w'=>∃ r3 l3,x=.map (some r3)/\gI lim l3 (cS lim (λ _=>0) (l1++(l2++CB l1 l2)))/\St w0 w' (star (mapA r3 l3) (star (mapA r1 l1) (star (mapA r2 l2) B)))):=by
 refine(p6 qi).2.2.2.2.2.1 ?_;have H:=rI s;have I:=rI s.pY;refine(s.zy).aB lim.vs.toArray λ c w1 s1=>xh s1 λ r3 w2 c2 s2=>?_;have s3:St w0 w2 (Sep [mapA r3 [],aj c lim.vs.toArray 42,mapA r1 l1,mapA r2 l2,B]):=St.UD s2;refine⟨lim,s3.cellsIn 1 rfl,au (wC (f:=λ _=>0) (g:=f) (s3.ay [0,2,1,3,4]) (gI.nil lim) h1 F) ?_⟩;rintro x w3 ⟨rfl,l4,K,D⟩;have D:St w0 w3 (Sep [mapA r3 l4,mapA r1 l1,aj c lim.vs.toArray 42,mapA r2 l2,B]):=D;refine⟨rfl,lim,D.cellsIn 2 rfl,au (wC (g:=g) (D.ay [0,3,1,2,4]) K h2 F) ?_⟩;rintro x w5 ⟨rfl,l5,u,U⟩;rw[IW] at u;have U:St w0 w5 (Sep [mapA r3 l5,mapA r2 l2,mapA r1 l1,aj c lim.vs.toArray 42,B]):=U;refine⟨rfl,o6 Uj (U.out 2 rfl) λ it w6 V=>?_⟩;have V:St w0 w6 (Sep [Ag r1 it l1 [],mapA r3 l5,mapA r2 l2,aj c lim.vs.toArray 42,B]):=V;refine⟨λ w7 m=>∃ (S a:List KV),m=l1.length-S.length/\(∀ p∈S,p∈l1)/\gI lim a (cS lim (λ _=>0) ((l1++l2)++CB S l2))/\St w0 w7 (Sep [Ag r1 it l1 S,mapA r3 a,mapA r2 l2,aj c lim.vs.toArray 42,B]),⟨_,[],l5,rfl,by simp,by simpa[CB] using u,V⟩,?_⟩;rintro w7 m ⟨S,a,rfl,hS,r,s7⟩ -;refine rM s7 (λ d=>⟨r3,a,rfl,?_,?_⟩) (λ p hp hlen w8 W=>?_)
 ·rw[jM (Q:=l1++(l2++CB l1 l2)) (Q':=(l1++l2)++CB S l2) λ x=>?_]; exact r;have:x∈CB l1 l2<->x∈CB S l2:=by
   rw[th,th];exact⟨λ ⟨p,h1,h2⟩=>⟨p,d p h1,h2⟩,λ ⟨p,h1,h2⟩=>⟨p,hS p h1,h2⟩⟩
  rw[aV,aV,aV,aV,this,or_assoc]
 ·have t:St w0 w7 (Sep [mapA r1 l1,mapA r3 a,mapA r2 l2,aj c lim.vs.toArray 42,B]):=St.Ah s7;exact(t.ay [1,0,2,4]).eqv (bX.right (bX.right (bX.right (bX.unit' _))))
 ·have W:St w0 w8 (Sep [Ag r1 it l1 (S++[p]),mapA r3 a,mapA r2 l2,aj c lim.vs.toArray 42,B]):=W;have hk:=h1.key H hp;refine W.aB z6.vs.toArray λ C w9 s9=>s9.az 0 rfl p.1.vs rfl (I6.one _) λ w10 M=>o6 Uj (M.out 3 rfl) λ i X j=>?_;have j:St w0 X (Sep [Ag r2 i l2 [],aj C p.1.vs.toArray 42,Ag r1 it l1 (S++[p]),mapA r3 a,aj c lim.vs.toArray 42,B]):=j;refine⟨λ l m=>∃ (T a:List KV),m=l2.length-T.length/\(∀ q∈T,q∈l2)/\gI lim a (cS lim (λ _=>0) (((l1++l2)++CB S l2)++T.map (yg p)))/\St w0 l (Sep [Ag r2 i l2 T,aj C p.1.vs.toArray 42,Ag r1 it l1 (S++[p]),mapA r3 a,aj c lim.vs.toArray 42,B]),⟨_,[],a,rfl,by simp,by simpa using r,j⟩,?_⟩;rintro l m ⟨T,a,rfl,hT,r,z⟩ -;refine rM z (λ d=>?_) (λ q h G Y k=>?_)
  ·have t:St w0 l (Sep [mapA r2 l2,aj C p.1.vs.toArray 42,Ag r1 it l1 (S++[p]),mapA r3 a,aj c lim.vs.toArray 42,B]):=St.Ah z;refine⟨_,?_,S++[p],a,rfl,?_,?_,t.ay [2,3,0,4,5]⟩
   ·rw[aY,bS]; omega
   ·intro q h;rcases aV.1 h with h|h
    ·exact hS q h
    ·rw[bp.1 h]; exact hp
   ·rw[jM (Q:=(l1++l2)++CB (S++[p]) l2) (Q':=((l1++l2)++CB S l2)++T.map (yg p)) λ x=>?_]; exact r;have e1:CB (S++[p]) l2=CB S l2++l2.map (yg p):=by simp[CB]
    have e2:x∈l2.map (yg p)<->x∈T.map (yg p):=by
     rw[bL,bL];exact⟨λ ⟨q,h1,h2⟩=>⟨q,d q h1,h2⟩,λ ⟨q,h1,h2⟩=>⟨q,hT q h1,h2⟩⟩
    rw[e1,<- mJ,aV,aV (t:=T.map (yg p)),e2]
  ·have k:St w0 Y (Sep [Ag r2 i l2 (T++[q]),aj C p.1.vs.toArray 42,Ag r1 it l1 (S++[p]),mapA r3 a,aj c lim.vs.toArray 42,B]):=k;have o:=h2.key I h;refine k.aB z6.vs.toArray λ b5 w15 N=>N.az 0 rfl q.1.vs rfl (I6.one _) λ Z O=>?_;have e:=O.quiet (aC.drew Z []);refine⟨lim,e.cellsIn 5 rfl,p.1,e.cellsIn 2 rfl,q.1,e.cellsIn 0 rfl,au (Xj _ p.1 q.1 (qg hk.1 (by omega)) (qg o.1 (by omega))) ?_⟩;rintro x w18 ⟨rfl,E⟩;have A:=e.quiet E;refine⟨_,rfl,A.cellsIn 5 rfl,?_⟩;rw[cW (n:=p.2+q.2) ⟨by omega,by omega⟩];refine au (pn (A.out 4 rfl) r F (b:=(yg p q).1) (Q0 hk.1 o.1) (yg p q).2) ?_;rintro x w19 ⟨rfl,L,J,P⟩;have R:=(P.back (show 4<7 by decide)).ay [1,2,3,4,5,6];refine⟨rfl,_,?_,T++[q],L,rfl,?_,?_,R⟩
   ·rw[aY,bS]; omega
   ·intro y v;rcases aV.1 v with v|v
    ·exact hT y v
    ·rw[bp.1 v]; exact h
   ·rw[bP,cV,<- mJ,<- lf]; exact J
end
def r5:List Int:=[0,1,2,3,4]
def xe{a:Int}(h:0<=a/\a<=4):a∈r5:=by
 have:a=0\/a=1\/a=2\/a=3\/a=4:=by omega
 simpa[r5] using this
def Ls:List I6:=r5.flatMap λ a=>r5.flatMap λ b=>r5.flatMap λ c=>r5.flatMap λ d=>r5.flatMap λ e=>r5.map λ f=>⟨a,b,c,d,e,f⟩
def F8{u:I6}(h:I6.Le u 4):u∈Ls:=by
 have a:=xe (h 0 (by decide)); have h1:=xe (h 1 (by decide)); have h2:=xe (h 2 (by decide));have h3:=xe (h 3 (by decide)); have h4:=xe (h 4 (by decide)); have b:=xe (h 5 (by decide));unfold Ls;exact iO.2 ⟨_,a,iO.2 ⟨_,h1,iO.2 ⟨_,h2,iO.2 ⟨_,h3,iO.2 ⟨_,h4,bL.2 ⟨_,b,rfl⟩⟩⟩⟩⟩⟩
def uW(f:Wf):List KV:=(Ls.filter λ u=>decide (0<f u)).map λ u=>(u,f u)
def gI.uW{lim:I6}{l:List KV}{f:Wf}(h:gI lim l f)(a:(l.map (·.1)).Nodup)(p:KV):p∈l<->p∈uW f:=by
 rw[h.mem a];constructor
 ·rintro⟨h1,h2⟩;exact bL.2 ⟨p.1,jI.2 ⟨F8 (h.s _ h1).1,dT h1⟩,vf rfl h2.symm⟩
 ·intro hp;obtain⟨u,hu,rfl⟩:=bL.1 hp;exact⟨iI (jI.1 hu).2,rfl⟩
def oS(k p:KV):KV:=(p.1.zip (λ x y=>if y>x then y else x) k.1,p.2+k.2)
def L1(v:Int)(p:KV):KV:=(p.1,if v<p.2 then v else p.2)
def zW:Wf:=λ _=>0
def yF(lim:I6)(f g:Wf):Wf:=cS lim f (uW g)
def Hv(lim:I6)(f g:Wf):Wf:=cS lim zW (uW f++(uW g++CB (uW f) (uW g)))
def HN(lim:I6)(k:KV)(g:Wf):Wf:=cS lim zW (uW g++([k]++(uW g).map (oS k)))
def Iq(lim:I6)(v:Int)(g:Wf):Wf:=cS lim zW ((uW g).map (L1 v))
mutual
def iM(lim:I6):Xv->Wf
 | .mk op u v _ _ args =>
  if op=1 then cS lim zW [(u,v)]
  else if op=2 then (Iy lim args).foldl (yF lim) zW
  else if op=3 then (Iy lim args).foldl (Hv lim) zW
  else if op=4 then HN lim (u,v) ((Iy lim args).headD zW)
  else if op=5 then Iq lim v ((Iy lim args).headD zW)
  else zW
def Iy(lim:I6):List Xv->List Wf
 | []=>[]
 | x :: l=>iM lim x :: Iy lim l
end
theorem Kv(lim:I6):∀ l:List Xv,Iy lim l=l.map (iM lim)
 | []=>rfl
 | x :: l=>by rw[Iy,Kv lim l]; rfl
def oA(lim:I6)(x:Xv):iM lim x=if x.op=1 then cS lim zW [(x.u,x.v)]
  else if x.op=2 then (x.args.map (iM lim)).foldl (yF lim) zW
  else if x.op=3 then (x.args.map (iM lim)).foldl (Hv lim) zW
  else if x.op=4 then HN lim (x.u,x.v) ((x.args.map (iM lim)).headD zW)
  else if x.op=5 then Iq lim x.v ((x.args.map (iM lim)).headD zW)
  else zW:=by cases x; rw[iM,Kv]; rfl
def Us(lim:I6):∀ x,iM lim x.er=iM lim x:=Xv.ind λ x b=>by
 rw[oA,oA lim x,td,eG];have:x.args.map (iM lim ∘ Xv.er)=x.args.map (iM lim):=dz λ y a=>b y a;rw[this,Xv.mQ]; rfl
inductive BJ:Xv->Prop where
 | mk {x:Xv} (f:fJ x=true) (r:gy x=true) (k:∀ y∈x.args,BJ y):BJ x
def SB{x:Xv}:mV 0 x=0<->fJ x=true/\gy x=true:=by
 unfold mV
 cases fJ x<;>cases gy x<;>simp
theorem Aq:∀ (l:List Xv) (r:Int×Bool),r.2=false->jA fI l r=r
 | [],_,_=>rfl
 | y :: l,r,h=>by
  unfold jA;rw[fM,ah (by rw[h]; decide)];exact Aq l r h
def SC:∀ (x:Xv),(dh fI x 0).2=((dh fI x 0).1==0):=Xv.ind λ x g=>by
 rw[nq]
 by_cases h:(fI 0 x).2=true
 ·rw[ak h];have e:(fI 0 x).1=0:=by simpa[fI] using h
  rw[e];have:∀ (l:List Xv),(∀ y∈l,(dh fI y 0).2=((dh fI y 0).1==0))->(jA fI l (0,true)).2=((jA fI l (0,true)).1==0):=λ l=>by
   induction l with
   | nil=>intro _; rfl
   | cons y l b =>
    intro c;have a:=c y (by simp);unfold jA;rw[fM,ak rfl]
    cases hb:(dh fI y 0).2 with
    | true =>
     have d:(dh fI y 0).1=0:=by rw[hb] at a; simpa using a.symm
     have:dh fI y 0=(0,true):=vf d hb;rw[this]; exact b λ z f=>c z (by simp[f])
    | false =>
     have:=Aq l (dh fI y 0) hb;unfold jA at this;rw[this]; exact a
  exact this x.args g
 ·rw[ah h];show false=((fI 0 x).1==0);have:(fI 0 x).2=false:=by simpa using h
  rw[<- this]; rfl
def Sa:∀ (x:Xv),(dh fI x 0).1=0->BJ x:=Xv.ind λ x n h=>by
 rw[nq] at h
 by_cases a:(fI 0 x).2=true
 ·rw[ak a] at h;have i:mV 0 x=0:=by simpa[fI] using a
  have e:(fI 0 x).1=0:=i;rw[e] at h;obtain⟨k,m⟩:=SB.1 i;refine .mk k m λ y b=>n y b ?_;have:∀ (l:List Xv),(jA fI l (0,true)).1=0->∀ y∈l,(dh fI y 0).1=0:=λ l=>by
   induction l with
   | nil=>intro _ y b; cases b
   | cons z l f =>
    intro c y b;unfold jA at c;rw[fM,ak rfl] at c;have d:=SC z
    cases a:(dh fI z 0).2 with
    | true =>
     have g:(dh fI z 0).1=0:=by rw[a] at d; simpa using d.symm
     have j:dh fI z 0=(0,true):=vf g a;rw[j] at c;rcases cJ.1 b with rfl|b
     ·exact g
     ·exact f c y b
    | false =>
     have:=Aq l (dh fI z 0) a;unfold jA at this;rw[this] at c;rw[c,a] at d; cases d
  exact this _ h y b
 ·rw[ah a] at h;exact absurd (show(fI 0 x).2=true by show(mV 0 x==0)=true; rw[show mV 0 x=0 from h]; rfl) a
def Oj{x:Xv}(h:fC x=0):BJ x:=by
 unfold fC at h
 split at h
 ·cases h
 ·split at h
  ·cases h
  ·exact Sa x h
section
variable {lim:I6}
def Y7(lim:I6)(x:Xv):Prop:=∀ (w0 w:af) (B:aI),(∀ {w'},aC w0 w' []->x.In w')->St w0 w B ->
 CP 293 #[.agg x.cells.toArray,.agg lim.vs.toArray] w (λ v w'=>∃ r l,v=.map (some r)/\gI lim l (iM lim x)/\St w0 w' (star (mapA r l) B))
def zk{w0 w:af}{L:List aI}{x y:Xv}{r1 r2:Nat}{i:Nat}(H:Y7 lim y)(c:∀ {w'},aC w0 w' []->x.In w')(s:St w0 w (Sep L)){j1 j2:Nat}(d:L[j1]?=some (aj r1 x.cells.toArray 120))(e:L[j2]?=some (aj r2 lim.vs.toArray 42))(b:x.args[i]?=some y) :
  CP 330 #[iv i,pt r1,pt r2] w (λ v w'=>∃ r l,v=.map (some r)/\gI lim l (iM lim y)/\St w0 w' (Sep (mapA r l :: L))):=by
 refine(p6 qi).2.2.1 ?_;have s1:=s.quiet (aC.drew w []);have hi:=(aR.1 b).1;obtain⟨q,f,a⟩:=(c s1.av).fl.at b;refine⟨_,_,_,s1.ag j1 d 8,aq f ⟨by omega,by omega,_,y.u,_,_,_,_,by rw[aD]; exact a,lim,s1.cellsIn j2 e,au (H w0 _ _ (λ hc=>(c hc).sub y (bf b)) s1) ?_⟩⟩;rintro v h ⟨r,l,rfl,g,s2⟩;exact⟨_,rfl,r,l,rfl,g,s2⟩
def kL{α β:Type}{f:α->β->α}{a:α}{l:List β}{k:Nat}{x:β}(h:l[k]?=some x):(l.take (k+1)).foldl f a=f ((l.take k).foldl f a) x:=by rw[aH h,iJ]; rfl
def ZE(U:I6.Le lim 4):∀ x,BJ x->bJ x<=100000->Y7 lim x:=Xv.ind λ x ih hg hz w0 w B hx s=>by
 refine @yE _ x.u _ _ _ _ _ _ _ ?_;have hlen:=qY x;obtain⟨hf,d,hk⟩:fJ x=true/\gy x=true/\∀ y∈x.args,BJ y:=by cases hg; exact⟨‹_›,‹_›,‹_›⟩
 have g:=oA lim x;have HY:∀ y∈x.args,Y7 lim y:=λ y n=>ih y n (hk y n) (by have:=sj n; omega);refine s.one.aB x.cells.toArray λ r1 w1 s1=>s1.aB lim.vs.toArray λ r2 w2 s2=>xh s2 λ r3 w3 c3 D=>?_;let M:List KV->List aI:=λ l=>[mapA r3 l,aj r2 lim.vs.toArray 42,aj r1 x.cells.toArray 120,B];have D:St w0 w3 (Sep (M [])):=St.UD D;have fin:∀ {w':af} {l:List KV},St w0 w' (Sep (M l))->St w0 w' (star (mapA r3 l) B):=λ s=>(s.ay [0,3]).pair;refine⟨λ m w4=>∃ r l,m=some r/\gI lim l (iM lim x)/\St w0 w4 (star (mapA r l) B),?_,_,D.ag 2 rfl 0,?_⟩
 ·rintro w4 m ⟨r,l,rfl,j,G⟩ -;exact⟨r,l,rfl,j,G⟩
 have hu:x.op≠2->x.op≠3->x.op≠5->I6.Le x.u 4:=λ h2 h3 R=>by
  unfold gy at d;rw[ah (by rintro(h|h); exact h2 h; exact h3 h)] at d
  split at d
  ·cases d
  ·first|rw[ah R] at d|skip
   rw[aX] at d;exact Bl d.1
 have hv:x.op≠2->x.op≠3->1<=x.v/\x.v<=1000000:=λ h2 h3=>by
  unfold gy at d;rw[ah (by rintro(h|h); exact h2 h; exact h3 h)] at d
  split at d
  ·cases d
  ·rename_i h; omega
 by_cases h1:x.op=1
 ·rw[ak h1] at g;refine cT (by simpa using h1) ⟨lim,D.cellsIn 1 rfl,x.u,D.aQ 2 1 rfl rfl,_,D.ag 2 rfl 7,au (pn D (gI.nil lim) U (qg (hu (by omega) (by omega) (by omega)) (by omega)) x.v) ?_⟩;rintro v w5 ⟨rfl,z,j,P⟩;exact⟨rfl,r3,z,rfl,by rw[g]; exact j,fin P⟩
 rw[ah h1] at g;refine cF (by simpa using h1) ?_
 by_cases h2:x.op=2
 ·rw[ak h2] at g;refine cT (by simpa using h2) ⟨_,_,_,D.ag 2 rfl 8,λ i w6 m=>∃ (k:Nat) (l:List KV),i=k/\k<=x.args.length/\m=x.args.length-k/\gI lim l (((x.args.take k).map (iM lim)).foldl (yF lim) zW)/\St w0 w6 (Sep (M l)),⟨x.args.length,0,[],rfl,by omega,by omega,gI.nil lim,D⟩,?_⟩;rintro w6 m i ⟨k,l,rfl,hk1,hm,j,O⟩ -
  by_cases I:(k:Int)<(x.args.length:Int)
  ·obtain⟨y,n⟩:=bx x.args k (by omega);have E:=O.quiet (aC.drew w6 []);refine aP I ⟨lim,E.cellsIn 1 rfl,au (zk (HY y (bf n)) hx E (j1:=2) (j2:=1) rfl rfl n) ?_⟩;rintro v w7 ⟨r4,l4,rfl,c,o⟩;have o:St w0 w7 (Sep [mapA r4 l4,mapA r3 l,aj r2 lim.vs.toArray 42,aj r1 x.cells.toArray 120,B]):=o;have f:=rI o;refine⟨_,rfl,o.cellsIn 2 rfl,au (wC (o.ay [1,0,2,3,4]) j c U) ?_⟩;rintro v w9 ⟨rfl,l5,K,A⟩;have A:St w0 w9 (Sep [mapA r3 l5,mapA r4 l4,aj r2 lim.vs.toArray 42,aj r1 x.cells.toArray 120,B]):=A;refine⟨rfl,x.args.length-(k+1),by omega,k+1,l5,cA (by omega),by omega,rfl,?_,A.ay [0,2,3,4]⟩;have e:((x.args.take (k+1)).map (iM lim)).foldl (yF lim) zW=yF lim (((x.args.take k).map (iM lim)).foldl (yF lim) zW) (iM lim y):=by
    rw[aH n,bP,iJ]; rfl
   rw[e,yF,<- jM (Q:=l4) λ p=>c.uW f p]; exact K
  ·obtain rfl:x.args.length=k:=by omega
   rw[br] at j;exact aU I ⟨r3,l,rfl,by rw[g]; exact j,fin O⟩
 rw[ah h2] at g;refine cF (by simpa using h2) ?_
 by_cases h3:x.op=3
 ·rw[ak h3] at g;let M3:Nat->List KV->List aI:=λ r l=>[mapA r l,aj r2 lim.vs.toArray 42,aj r1 x.cells.toArray 120,B];refine cT (by simpa using h3) ⟨_,_,_,D.ag 2 rfl 8,λ m i w6 k'=>∃ (k:Nat) (r:Nat) (l:List KV),m=some r/\i=k/\k<=x.args.length/\k'=x.args.length-k/\gI lim l (((x.args.take k).map (iM lim)).foldl (Hv lim) zW)/\St w0 w6 (Sep (M3 r l)),⟨x.args.length,0,r3,[],rfl,rfl,by omega,by omega,gI.nil lim,D⟩,?_⟩;rintro w6 k' m i ⟨k,r,l,rfl,rfl,hk1,hm,j,O⟩ -
  by_cases I:(k:Int)<(x.args.length:Int)
  ·obtain⟨y,n⟩:=bx x.args k (by omega);have E:=O.quiet (aC.drew w6 []);have hn:=rI E;refine aP I ⟨lim,E.cellsIn 1 rfl,au (zk (HY y (bf n)) hx E (j1:=2) (j2:=1) rfl rfl n) ?_⟩;rintro v w7 ⟨r4,l4,rfl,c,o⟩;have o:St w0 w7 (Sep [mapA r4 l4,mapA r l,aj r2 lim.vs.toArray 42,aj r1 x.cells.toArray 120,B]):=o;have f:=rI o;refine⟨_,rfl,o.cellsIn 2 rfl,au (WW (o.ay [1,0,2,3,4]) j c U) ?_⟩;rintro v w9 ⟨r5,l5,rfl,K,A⟩;have A:St w0 w9 (Sep [mapA r5 l5,mapA r l,mapA r4 l4,aj r2 lim.vs.toArray 42,aj r1 x.cells.toArray 120,B]):=A;refine⟨_,rfl,x.args.length-(k+1),by omega,k+1,r5,l5,rfl,cA (by omega),by omega,rfl,?_,A.ay [0,3,4,5]⟩;have e:((x.args.take (k+1)).map (iM lim)).foldl (Hv lim) zW=Hv lim (((x.args.take k).map (iM lim)).foldl (Hv lim) zW) (iM lim y):=by
    rw[aH n,bP,iJ]; rfl
   rw[e,Hv,<- jM (Q:=l++(l4++CB l l4)) λ p=>?_]; exact K;have e1:∀ p,p∈l<->p∈uW (((x.args.take k).map (iM lim)).foldl (Hv lim) zW):=λ p=>j.uW hn p;have N:∀ p,p∈l4<->p∈uW (iM lim y):=λ p=>c.uW f p;have e3:p∈CB l l4<->p∈CB (uW (((x.args.take k).map (iM lim)).foldl (Hv lim) zW)) (uW (iM lim y)):=by
    rw[th,th];exact⟨λ ⟨a,ha,b,hb,h⟩=>⟨a,(e1 a).1 ha,b,(N b).1 hb,h⟩,λ ⟨a,ha,b,hb,h⟩=>⟨a,(e1 a).2 ha,b,(N b).2 hb,h⟩⟩
   rw[aV,aV,aV,aV,e1,N,e3]
  ·obtain rfl:x.args.length=k:=by omega
   rw[br] at j;exact aU I ⟨r,l,rfl,by rw[g]; exact j,(O.ay [0,3]).pair⟩
 rw[ah h3] at g;refine cF (by simpa using h3) ?_;have one:x.op=4\/x.op=5->∃ y,x.args[0]?=some y/\(x.args.map (iM lim)).headD zW=iM lim y:=λ h=>by
  have h1':x.args.length=1:=by
   unfold fJ at hf;rw[ah h1,ah (by rintro(h|h); exact h2 h; exact h3 h)] at hf;rcases h with h|h
   ·rw[ak h] at hf; simpa using hf
   ·rw[ah (by omega),ak h,aX] at hf; simpa using hf.1
  cases ha:x.args with
  | nil=>rw[ha] at h1'; cases h1'
  | cons y l=>exact⟨y,rfl,rfl⟩
 have hv':=hv h2 h3
 by_cases h4:x.op=4
 ·rw[ak h4] at g;obtain⟨y,n,ey⟩:=one (.inl h4);rw[ey] at g;refine cT (by simpa using h4) (au (zk (i:=0) (HY y (bf n)) hx D (j1:=2) (j2:=1) rfl rfl n) ?_);rintro v w12 ⟨r4,l4,rfl,c,G⟩;have G:St w0 w12 (Sep [mapA r4 l4,mapA r3 [],aj r2 lim.vs.toArray 42,aj r1 x.cells.toArray 120,B]):=G;have f:=rI G;refine⟨_,rfl,lim,G.cellsIn 2 rfl,au (wC (G.ay [1,0,2,3,4]) (gI.nil lim) c U) ?_⟩;rintro v w13 ⟨rfl,l5,K,P⟩;have P:St w0 w13 (Sep [mapA r3 l5,mapA r4 l4,aj r2 lim.vs.toArray 42,aj r1 x.cells.toArray 120,B]):=P;have hxu:=hu (by omega) (by omega) (by omega);refine⟨rfl,lim,P.cellsIn 2 rfl,x.u,P.aQ 3 1 rfl rfl,_,P.ag 3 rfl 7,au (pn P K U (qg hxu (by omega)) x.v) ?_⟩;rintro v w14 ⟨rfl,l6,hr6,O⟩;rw[lf] at hr6;have O:St w0 w14 (Sep [mapA r3 l6,mapA r4 l4,aj r2 lim.vs.toArray 42,aj r1 x.cells.toArray 120,B]):=O;refine⟨rfl,o6 Uj (O.out 1 rfl) λ it w15 E=>?_⟩;have E:St w0 w15 (Sep [Ag r4 it l4 [],mapA r3 l6,aj r2 lim.vs.toArray 42,aj r1 x.cells.toArray 120,B]):=E;refine⟨λ C m=>∃ (S z:List KV),m=l4.length-S.length/\(∀ p∈S,p∈l4)/\gI lim z (cS lim zW ((l4++[(x.u,x.v)])++S.map (oS (x.u,x.v))))/\St w0 C (Sep [Ag r4 it l4 S,mapA r3 z,aj r2 lim.vs.toArray 42,aj r1 x.cells.toArray 120,B]),⟨_,[],l6,rfl,by simp,by rw[yP,zK]; exact hr6,E⟩,?_⟩;rintro C m ⟨S,z,rfl,hS,j,o⟩ -;refine rM o (λ H=>⟨r3,z,rfl,?_,?_⟩) (λ p hp V w18 A=>?_)
  ·rw[g,HN,<- jM (Q:=(l4++[(x.u,x.v)])++S.map (oS (x.u,x.v))) λ q=>?_]; exact j;have N:∀ q,q∈l4<->q∈uW (iM lim y):=λ q=>c.uW f q;have e3:q∈S.map (oS (x.u,x.v))<->q∈(uW (iM lim y)).map (oS (x.u,x.v)):=by
    rw[bL,bL];exact⟨λ ⟨a,ha,h⟩=>⟨a,(N a).1 (hS a ha),h⟩,λ ⟨a,ha,h⟩=>⟨a,H a ((N a).2 ha),h⟩⟩
   rw[aV,aV,aV,aV,N,e3,or_assoc]
  ·have t:St w0 C (Sep [mapA r4 l4,mapA r3 z,aj r2 lim.vs.toArray 42,aj r1 x.cells.toArray 120,B]):=St.Ah o;exact(t.ay [1,4]).pair
  ·have A:St w0 w18 (Sep [Ag r4 it l4 (S++[p]),mapA r3 z,aj r2 lim.vs.toArray 42,aj r1 x.cells.toArray 120,B]):=A;have T:=c.key f hp;refine A.aB z6.vs.toArray λ b4 w19 Y=>Y.az 0 rfl p.1.vs rfl (I6.one _) λ w20 F=>?_;have L:=F.quiet (aC.drew w20 []);refine⟨lim,L.cellsIn 3 rfl,p.1,L.cellsIn 0 rfl,x.u,L.aQ 4 1 rfl rfl,_,L.ag 4 rfl 7,au (VA _ p.1 x.u) ?_⟩;rintro v w21 ⟨rfl,c21⟩;have Z:=L.quiet c21;refine⟨_,rfl,Z.ag 4 rfl 7,Z.cellsIn 3 rfl,?_⟩;have hw:IntKind.i64.wrap (p.2+x.v)=p.2+x.v:=cA (by omega);show Calls _ _ #[_,_,_,iv (IntKind.i64.wrap (p.2+x.v))] _ _;rw[hw];have hj:I6.Le (oS (x.u,x.v) p).1 1000000:=λ k hk=>by
    have q1:=T.1 k hk; have q2:=hxu k hk;show 0<=(p.1.zip _ x.u).at' k/\(p.1.zip _ x.u).at' k<=1000000;rw[I6.iG _ _ _ _ hk]
    split<;>omega
   refine au (pn (Z.out 2 rfl) j U (b:=(oS (x.u,x.v) p).1) hj (oS (x.u,x.v) p).2) ?_;rintro v w22 ⟨rfl,X,W,s14⟩;have s15:=(s14.back (show 2<6 by decide)).ay [1,2,3,4,5];refine⟨rfl,_,?_,S++[p],X,rfl,?_,?_,s15⟩
   ·rw[aY,bS]; omega
   ·intro q J;rcases aV.1 J with J|J
    ·exact hS q J
    ·rw[bp.1 J]; exact hp
   ·rw[bP,cV,<- mJ,<- lf]; exact W
 rw[ah h4] at g;refine cF (by simpa using h4) ?_
 by_cases R:x.op=5
 ·rw[ak R] at g;obtain⟨y,n,ey⟩:=one (.inr R);rw[ey] at g;refine cT (by simpa using R) (au (zk (i:=0) (HY y (bf n)) hx D (j1:=2) (j2:=1) rfl rfl n) ?_);rintro v w12 ⟨r4,l4,rfl,c,G⟩;have G:St w0 w12 (Sep [mapA r4 l4,mapA r3 [],aj r2 lim.vs.toArray 42,aj r1 x.cells.toArray 120,B]):=G;have f:=rI G;refine⟨_,rfl,o6 Uj G λ it w15 E=>?_⟩;have E:St w0 w15 (Sep [Ag r4 it l4 [],mapA r3 [],aj r2 lim.vs.toArray 42,aj r1 x.cells.toArray 120,B]):=E;refine⟨λ C m=>∃ (S z:List KV),m=l4.length-S.length/\(∀ p∈S,p∈l4)/\gI lim z (cS lim zW (S.map (L1 x.v)))/\St w0 C (Sep [Ag r4 it l4 S,mapA r3 z,aj r2 lim.vs.toArray 42,aj r1 x.cells.toArray 120,B]),⟨_,[],[],rfl,by simp,gI.nil lim,E⟩,?_⟩;rintro C m ⟨S,z,rfl,hS,j,o⟩ -;refine rM o (λ H=>⟨r3,z,rfl,?_,?_⟩) (λ p hp V w18 A=>?_)
  ·rw[g,Iq,<- jM (Q:=S.map (L1 x.v)) λ q=>?_]; exact j;have N:∀ q,q∈l4<->q∈uW (iM lim y):=λ q=>c.uW f q;rw[bL,bL];exact⟨λ ⟨a,ha,h⟩=>⟨a,(N a).1 (hS a ha),h⟩,λ ⟨a,ha,h⟩=>⟨a,H a ((N a).2 ha),h⟩⟩
  ·have t:St w0 C (Sep [mapA r4 l4,mapA r3 z,aj r2 lim.vs.toArray 42,aj r1 x.cells.toArray 120,B]):=St.Ah o;exact(t.ay [1,4]).pair
  ·have A:St w0 w18 (Sep [Ag r4 it l4 (S++[p]),mapA r3 z,aj r2 lim.vs.toArray 42,aj r1 x.cells.toArray 120,B]):=A;have T:=c.key f hp;refine A.aB z6.vs.toArray λ b4 w19 Y=>Y.az 0 rfl p.1.vs rfl (I6.one _) λ w20 F=>?_;refine⟨lim,F.cellsIn 3 rfl,p.1,F.cellsIn 0 rfl,_,F.ag 4 rfl 7,au (pn (F.out 2 rfl) j U (b:=(L1 x.v p).1) (qg T.1 (by omega)) (L1 x.v p).2) ?_⟩;rintro v w22 ⟨rfl,X,W,s14⟩;have s15:=(s14.back (show 2<6 by decide)).ay [1,2,3,4,5];refine⟨rfl,_,?_,S++[p],X,rfl,?_,?_,s15⟩
   ·rw[aY,bS]; omega
   ·intro q J;rcases aV.1 J with J|J
    ·exact hS q J
    ·rw[bp.1 J]; exact hp
   ·rw[bP,cV,<- lf]; exact W
 ·rw[ah R] at g;exact cF (by simpa using R) ⟨r3,[],rfl,by rw[g]; exact gI.nil lim,fin D⟩
end
abbrev iA (a:OA) (c:Nat) (l:List Int):aI:=dK 2 1 i1 a c l
def UE(T:List Int)(i k:Nat):List Int:=T.set i (if T.getD k 0>T.getD i 0 then T.getD k 0 else T.getD i 0)
def TQ(T:List Int)(i k:Nat):(UE T i k).length=T.length:=by simp[UE]
section
variable {w0 w:af} {B:aI} {g r3 r5:Nat} {n:Nat} {T:List Int} {i k:Nat}
def UC(g r3 r5 n i:Nat)(T:List Int)(B:aI):List aI:=[iA (qs g) n T,aj r3 #[.slice (qs g) n n] 249,aj r5 #[iv i] 3,B]
def La(s:St w0 w (Sep (UC g r3 r5 n i T B)))(a:k<T.length):w.cell? (Addr.add ⟨g,0,none⟩ (((k:Nat):Int).toNat*1))=some (iv (T.getD k 0)):=by
 obtain⟨q,b,hc⟩:=dA (St.rd bV (s.out 0 rfl)) (i:=k) (x:=T.getD k 0) (by rw[aJ,gE a]; rfl)
 cases b; exact hc
def WN(s:St w0 w (Sep (UC g r3 r5 n i T B)))(b:T.length=n)(hi:i<n)(a:k<n) :
  CP 296 #[iv k,pt r3,pt r5] w (λ r w'=>r=.tuple #[]/\St w0 w' (Sep (UC g r3 r5 n i (UE T i k) B))):=by
 refine qi.2.2.2.2.1 ?_;have s1:=s.quiet (aC.drew w []);have c0:w.drew.cell? ⟨r3,0,none⟩=some (.slice (qs g) n n):=s1.ag 1 rfl 0;have c1:w.drew.cell? ⟨r5,0,none⟩=some (iv i):=s1.ag 2 rfl 0;refine⟨_,_,_,c0,_,c1,_,_,_,c0,_,c1,aq rfl ⟨by omega,by omega,_,La s1 (by omega),_,_,_,c0,aq rfl ⟨by omega,by omega,_,La s1 (by omega),aq rfl ⟨by omega,by omega,?_⟩⟩⟩⟩;rw[aD];exact St.gu (v:=iv) rfl (s1.out 0 rfl) (i:=i) (by omega) λ c s2=>⟨rfl,s2.back (show 0<4 by decide)⟩
def qM(m:I6):Nat->Int
 | 0=>1
 | j+1=>qM m j*(m.at' (5-j)+1)
theorem xE{m:I6}(h:I6.Le m 4):∀ j,j<=6->1<=qM m j/\qM m j<=5 ^ j
 | 0,_=>by show(1:Int)<=1/\(1:Int)<=5 ^ 0; decide
 | j+1,a=>by
  have b:=xE h j (by omega);have hm:=h (5-j) (by omega);have h1:qM m j*1<=qM m j*(m.at' (5-j)+1):=kQ (by omega) (by omega);have h2:qM m j*(m.at' (5-j)+1)<=qM m j*5:=kQ (by omega) (by omega);show 1<=qM m j*_/\qM m j*_<=5 ^ j*5;omega
def mw(m u:I6)(i:Nat):Nat->List Int->List Int
 | 0,T=>T
 | j+1,T=>if 0<u.at' (5-j) then UE (mw m u i j T) i (i-(qM m j).toNat) else mw m u i j T
theorem oJ(m u:I6)(i:Nat)(T:List Int):∀ j,(mw m u i j T).length=T.length
 | 0=>rfl
 | j+1=>by
  rw[mw]
  split
  ·rw[TQ,oJ m u i T j]
  ·exact oJ m u i T j
def Rb{m u:I6}(hm:I6.Le m 4)(s:St w0 w (Sep (UC g r3 r5 n i T B)))(A:T.length=n)(hi:i<n)(hu:∀ j,j<6->0<u.at' (5-j)->qM m j<=i)(F:n<=100000) :
  CP 295 #[.agg m.vs.toArray,.agg u.vs.toArray,iv i,.func (.func 296) #[] #[pt r3,pt r5]] w (λ r w'=>r=.tuple #[]/\St w0 w' (Sep (UC g r3 r5 n i (mw m u i 6 T) B))):=by
 refine qi.2.2.2.1 ?_;refine s.aB m.vs.toArray λ r1 J s1=>s1.aB u.vs.toArray λ r2 K s2=>?_;let M:List Int->List aI:=λ T=>aj r2 u.vs.toArray 42 :: aj r1 m.vs.toArray 42 :: UC g r3 r5 n i T B;refine⟨λ st k f x=>∃ j:Nat,st=qM m j/\k=5-(j:Int)/\j<=6/\x=6-j/\St w0 f (Sep (M (mw m u i j T))),⟨6,0,rfl,rfl,by omega,by omega,s2⟩,?_⟩;rintro f x st k ⟨j,rfl,rfl,y,I,b⟩ -;have G:=xE hm j y;have E:(5:Int) ^ j<=15625:=by
  have:j=0\/j=1\/j=2\/j=3\/j=4\/j=5\/j=6:=by omega
  rcases this with rfl|rfl|rfl|rfl|rfl|rfl|rfl<;>decide
 by_cases e:j<6
 ·have a:5-j<6:=by omega
  have p:(5:Int)-(j:Int)=((5-j:Nat):Int):=by omega
  rw[p];refine aP (by omega) ⟨λ h=>St w0 h (Sep (M (mw m u i (j+1) T))),?_,by omega,by omega,u.at' (5-j),by rw[dM]; exact aF b 0 rfl a,?_⟩
  ·rintro h c -;have z:=hm (5-j) a;have t:=xE hm (j+1) (by omega);have l:qM m (j+1)=qM m j*(m.at' (5-j)+1):=rfl;have q:(5:Int) ^ (j+1)<=15625:=by
    have:j=0\/j=1\/j=2\/j=3\/j=4\/j=5:=by omega
    rcases this with rfl|rfl|rfl|rfl|rfl|rfl<;>decide
   refine⟨by omega,by omega,m.at' (5-j),by rw[dM]; exact aF c 1 rfl a,6-(j+1),by omega,j+1,?_,?_,by omega,rfl,c⟩
   ·rw[cW (n:=m.at' (5-j)+1) ⟨by omega,by omega⟩,<- l,cA (by omega)]
   ·rw[cA (by omega)]; omega
  ·by_cases hp:0<u.at' (5-j)
   ·have H:=hu j e hp;have d:mw m u i (j+1) T=UE (mw m u i j T) i (i-(qM m j).toNat):=by rw[mw,ak hp]
    have o:IntKind.i64.wrap ((i:Int)-qM m j)=((i-(qM m j).toNat:Nat):Int):=by rw[cA (by omega)]; omega
    refine aP hp (dZ (by kernel_rfl) ?_);rw[o];have c:St w0 f (Sep (UC g r3 r5 n i (mw m u i j T) (Sep [B,aj r2 u.vs.toArray 42,aj r1 m.vs.toArray 42]))):=((b.ay [2,3,4,5,0,1]).split [_,_,_]).eqv (bX.right (bX.unit _)) |> St.cat;refine au (WN c (by rw[oJ,A]) hi (by omega)) ?_;rintro v L ⟨rfl,C⟩;refine⟨rfl,?_⟩;rw[d];have D:=C.iE [_,_,_];exact D.ay [4,5,0,1,2,3]
   ·have d:mw m u i (j+1) T=mw m u i j T:=by rw[mw,ah hp]
    exact aU hp (by rw[d]; exact b)
 ·obtain rfl:j=6:=by omega
  exact aU (by decide) ⟨rfl,b.ay [2,3,4,5]⟩
end

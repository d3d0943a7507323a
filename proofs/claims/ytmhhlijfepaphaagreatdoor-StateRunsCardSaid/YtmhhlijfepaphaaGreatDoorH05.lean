import Derived.Test.YtmhhlijfepaphaaGreatDoorH04
set_option linter.all false
set_option maxRecDepth 100000
set_option maxHeartbeats 4000000
namespace Go.Proofs.YtmhhlijfepaphaaGreatDoor
open Go Go.Vc Go.Vt _root_.Go.Proofs.Tryz
def nK:=zl (And.intro (many xP [en func187 [] [],en func270 [] [(58,[(7,.s (.int .i64))]),(467,[])],en func271 [] [(58,[(9,.s (.int .i64))]),(14950,[(13,.s (.int .i64))])],en func123 [] [(6,[(40,.s .bool)])],en func181 [] [(58,[(12,.s (.int .i64))])],en func183 [] [(29,[(28,.s .bool)])],en func184 [] [(15,[(12,.s .raw)]),(127,[(12,.s .raw)])],en func185 [] [(122,[(27,.s (.int .i64))]),(979,[]),(15667,[])],en func188 [] [(7,[(9,.s .raw),(10,.s .blk)]),(122,[(23,.s (.int .i64))]),(979,[]),(7833,[(32,.s .bool)]),(62,[(53,.s .bool)])],en func259 [] [],en func260 [] [],en func261 [] [(3,[(6,.s .bool)])],en func262 [] [],en func263 [] [],en func264 [] [],en func265 [] [(12,[(13,.s .bool)]),(51,[(20,.s .bool)]),(58,[(38,.s (.int .i64))]),(14950,[(43,.s (.int .i64))])],en func267 [] []] (by conv=>lhs;reduce) (by kernel_rfl) id) (And.intro (many xP [en func268 [] [(26,[(10,.s (.int .i64))]),(1689,[(36,.s .bool)])],en func269 [] [(26,[(10,.s (.int .i64))]),(211,[])],en func272 [] [],en func273 [] [(26,[(6,.s (.int .i64))])],en func324 [] [],en func325 [] [(122,[(8,.s (.int .i64)),(28,.s (.int .i64))])],en func326 [] [(506,[(6,.s (.int .i64)),(27,.s (.int .i64))]),(1018,[(6,.s (.int .i64)),(47,.s (.int .i64))]),(8147,[(6,.s (.int .i64))]),(2042,[(64,.s (.int .i64))])],en func327 [(1,.k (.s .blk))] [],en func328 [] [],en func163 [] [(506,[(5,.s (.int .i64)),(27,.s (.int .i64))])],en func223 [] [(26,[(7,.s (.int .i64))])],en func357 [] [(218,[(19,.s (.int .i64))]),(223,[(7,.s (.int .i64))]),(1786,[(7,.s (.int .i64)),(28,.s (.int .i64))]),(914634,[(7,.s (.int .i64)),(32,.s (.int .i64))]),(234146406,[(7,.s (.int .i64)),(37,.s (.int .i64))]),(1873171251,[(7,.s (.int .i64))])],en func358 [] [],en func224 [] [(6,[(24,.s .bool)]),(58,[(28,.s (.int .i64))]),(3737,[(39,.s .bool)]),(122,[(44,.s (.int .i64))]),(7833,[(53,.s .bool)])]] (by conv=>lhs;reduce) (by kernel_rfl) id) (many xP [en func225 [] [(58,[(16,.s (.int .i64))]),(7474,[(43,.s .bool)]),(29902,[(46,.s (.int .i64))])],en func226 [] [],en func307 [] [(26,[(7,.s (.int .i64))]),(1689,[(15,.s .bool)])],en func373 [] [(28,[(1,.s (.int .i64))]),(252,[(1,.s (.int .i64)),(6,.s .slice)]),(2042,[(41,.s (.int .i64))])]] (by conv=>lhs;reduce) (by kernel_rfl) id))) λx=>by
 dsimp only[qq,qm,qk,qj,qy,qA,qB,GH,uv,en,FG,wrap,dc,dn,DH,gU,ID,U.I,U.B,U.S,U.N,U.A,U.O,U.W,U.V,U.L,U.U6,U.C,U.M,U.F,U.E,HV,HA,GM,zS,jU,gJ,vZ,vI,TJ,Nat.reduceSub,Nat.reduceAdd,Int.reduceOfNat,Int.reduceNeg,UInt8.reduceOfNat] at x
 exact x
def rA:=nK.2.1.2.2.1
end Go.Proofs.YtmhhlijfepaphaaGreatDoor
namespace Go.Proofs.YtmhhlijfepaphaaGreatDoor
open Go Go.Vc _root_.Go.Proofs.Tryz
def I6.of(f:Nat->Int):I6:=⟨f 0,f 1,f 2,f 3,f 4,f 5⟩
def I6.sj(f:Nat->Int)(k:Nat)(a:k<6):(I6.of f).at' k=f k:=by
 match k,a with
 |0,_|1,_|2,_|3,_|4,_|5,_=>rfl
def yM(l:List I6)(k:Nat):Int:=l.foldl (λs u=>s+u.at' k) 0
def j6(l:List I6):I6:=I6.of (yM l)
def GF(l:List I6)(u:I6)(k:Nat):yM (l++[u]) k=yM l k+u.at' k:=by simp[yM]
def GD(l:List I6)(u:I6):j6 (l++[u])=(j6 l).zip (· + ·) u:=by
 refine I6.ext' λk a=>?_;rw[I6.mU _ _ _ _ a,j6,I6.sj _ _ a,j6,I6.sj _ _ a,GF]
def yw{B:Int}{l:List I6}(h:∀u∈l,I6.Le u B)(k:Nat)(b:k<6):0<=yM l k/\yM l k<=B*l.length:=by
 suffices H:∀(l:List I6) (s:Int),(∀u∈l,I6.Le u B)->s<=l.foldl (λs u=>s+u.at' k) s/\l.foldl (λs u=>s+u.at' k) s<=s+B*l.length by
  have:=H l 0 h;unfold yM;omega
 intro l
 induction l with
 |nil=>intro s _;simp
 |cons u l d=>
  intro s a;have e:=a u (by simp) k b;have f:=d (s+u.at' k) λv c=>a v (by simp[c]);simp only[bD,bN];rw[iR,Int.mul_add];omega
def Av(a b:I6):I6:=a.zip (λx y=>if x>y then x-y else 0) b
abbrev U2 (w:ah) (a:OA) (l:List I6):Prop:=iA 6 I6.vs w a l
def GG{w:ah}{a:OA}{c:Nat}{l:List I6}(h:U2 w a l)(s:∀u∈l,I6.Le u 1000000)(Q:l.length<=1000):
  CP 271 #[.slice a l.length c] w (λr b=>r=.agg (j6 l).vs.toArray/\aZ w b []):=by
 refine nK.1.2.2.1 (bE z6.vs.toArray λv V I=>I.aY z6.vs.toArray λy W J=>⟨λn A m=>∃k:Nat,n=k/\k<=l.length/\m=l.length-k/\St w A (Sep [ay y (j6 (l.take k)).vs.toArray 305,ay v z6.vs.toArray 305,emp]),⟨l.length,0,rfl,by omega,by omega,J⟩,?_⟩);rintro A m n ⟨k,rfl,P,R,e⟩-
 by_cases i:(k:Int)<(l.length:Int)
 .obtain⟨x,o⟩:=dX l k (by omega);have p:=s x (ak o);obtain⟨q,E,g⟩:=(h.aK e.aK).at o;refine gM i ?_;rw[E];refine⟨by omega,by omega,x,g,e.aY z6.vs.toArray λH X K=>K.aR 0 rfl x.vs rfl (I6.one _) λY L=>⟨λn C m=>∃j:Nat,n=j/\j<=6/\m=6-j/\St w C (Sep [ay H x.vs.toArray 50,ay y (I6.mix j ((j6 (l.take k)).zip (· + ·) x) (j6 (l.take k))).vs.toArray 305,ay v z6.vs.toArray 305,emp]),⟨6,0,rfl,by omega,by omega,L⟩,?_⟩⟩;rintro C T U ⟨j,rfl,O,D,z⟩-
  by_cases d:(j:Int)<6
  .have b:j<6:=by omega
   have r:=z.quiet (aZ.drew _ _);have S:=yw (l:=l.take k) (B:=1000000) (λu F=>s u (bC F)) j b;have G:=p j b;have t:(l.take k).length<=1000:=by simp;omega
   have N:(j6 (l.take k)).at' j=yM (l.take k) j:=I6.sj _ _ b;refine di d ⟨by omega,by omega,(j6 (l.take k)).at' j,?_,by omega,by omega,x.at' j,?_,by omega,by omega,?_⟩
   .rw[iC,br r 1 rfl b,I6.iy _ _ _ _ b,af (by omega)]
   .rw[iC,br r 0 rfl b]
   rw[iC,gC (by omega)];refine r.cL 1 rfl b rfl λM f=>⟨6-(j+1),by omega,j+1,inc (by decide) b,by omega,rfl,?_⟩;rw[show(j6 (l.take k)).at' j+x.at' j=((j6 (l.take k)).zip (· + ·) x).at' j by rw[I6.mU _ _ _ _ b],I6.lE _ _ _ b] at f;exact f
  obtain rfl:j=6:=by omega
  refine cF (by simp) (mS (by omega) ?_);rw[bJ o,GD];exact z.aM [1,2,3]
 obtain rfl:k=l.length:=by omega
 rw[aH] at e;exact cF (by simp) ⟨_,e.cellsIn 0 rfl,e.aR 1 rfl (j6 l).vs rfl (I6.one _) λM f=>⟨_,f.cellsIn 1 rfl,rfl,f.aK⟩⟩
def acn{w:ah}{a:OA}{c:Nat}{l:List I6}(h:U2 w a l)(f:∀u∈l,I6.Le u 1000000)(g:l.length<=1000):
  CP 267 #[.slice a l.length c] w (λr b=>r=.agg (j6 l).vs.toArray/\aZ w b []):=by
 exact(p6 (p6 nK.1)).2.2.2.2.1 (bE z6.vs.toArray λi j b=>bF (GG (h.aK b.aK) f g) λk e=>⟨_,rfl,(b.quiet e).aR 0 rfl (j6 l).vs rfl (I6.one _) λm d=>⟨_,d.cellsIn 0 rfl,rfl,d.aK⟩⟩)
def ZO(w:ah)(u v:I6)(q:I6.Le u 1000000000)(s:I6.Le v 1000000000):CP 270 #[.agg u.vs.toArray,.agg v.vs.toArray] w (λr i=>r=.agg (Av u v).vs.toArray/\aZ w i []):=by
 refine nK.1.2.1 (bE u.vs.toArray λt K A=>A.aY v.vs.toArray λx L B=>B.aY z6.vs.toArray λy M C=>C.aY z6.vs.toArray λz N D=>?_);let I:Nat->ah->Prop:=λk i=>St w i (Sep [ay z (I6.mix k (Av u v) z6).vs.toArray 50,ay y z6.vs.toArray 50,ay x v.vs.toArray 305,ay t u.vs.toArray 305,emp]);refine⟨λn p m=>∃k:Nat,n=k/\k<=6/\m=6-k/\I k p,⟨6,0,rfl,by omega,by omega,D⟩,?_⟩;rintro p m n ⟨k,rfl,H,J,f⟩-
 by_cases d:(k:Int)<6
 .have a:k<6:=by omega
  have b:=St.quiet f (aZ.drew _ _);have h:=b.quiet (aZ.drew _ _);have F:=q k a;have G:=s k a;have e:(Av u v).at' k=if u.at' k>v.at' k then u.at' k-v.at' k else 0:=I6.mU _ _ _ _ a
  refine di d ⟨I (k+1),?_,by omega,by omega,u.at' k,by rw[iC,br b 3 rfl a],by omega,by omega,v.at' k,by rw[iC,br b 2 rfl a],?_⟩
  .rintro c b -;exact⟨6-(k+1),by omega,k+1,inc (by decide) a,by omega,rfl,b⟩
  refine cBq (λg=>⟨by omega,by omega,u.at' k,by rw[iC,br h 3 rfl a],by omega,by omega,v.at' k,by rw[iC,br h 2 rfl a],by omega,by omega,?_⟩) λg=>?_
  .rw[iC,gC (by omega)];refine h.cL 0 rfl a rfl λE c=>?_;rw[ag g] at e;rw[<-e,I6.lE _ _ _ a] at c;exact c
  rw[af g] at e;have:I6.mix (k+1) (Av u v) z6=I6.mix k (Av u v) z6:=by
   refine I6.ext' λj o=>?_;rw[I6.iy _ _ _ _ o,I6.iy _ _ _ _ o,oU]
   by_cases l:j<k
   .rw[ag (by omega),ag l]
   rw[af l]
   split
   .obtain rfl:j=k:=by omega
    exact e
   rfl
  show I (k+1) _;simp only[I];rw[this];exact b
 obtain rfl:k=6:=by omega
 exact cF (by simp) ⟨_,St.cellsIn f 0 rfl,St.aR f 1 rfl (Av u v).vs rfl (I6.one _) λE c=>⟨_,c.cellsIn 1 rfl,rfl,c.aK⟩⟩
def XE{l:List I6}(h:∀u∈l,I6.Le u 1000000)(b:l.length<=1000):I6.Le (j6 l) 1000000000:=λk a=>by
 have:=yw h k a;rw[j6,I6.sj _ _ a];omega
def Sq{w:ah}{a:OA}{c:Nat}{l:List I6}(u:I6)(j:I6.Le u 1000000000)(h:U2 w a l)(d:∀u∈l,I6.Le u 1000000)(e:l.length<=1000):
  CP 187 #[.agg u.vs.toArray,.slice a l.length c] w (λr b=>r=.agg (Av (j6 l) u).vs.toArray/\aZ w b []):=by
 refine nK.1.1 (bE u.vs.toArray λo q k=>k.aY z6.vs.toArray λp r m=>?_);have b:=m.quiet (aZ.drew _ _);exact⟨_,b.cellsIn 1 rfl,b.qu (GG (h.aK b.aK) d e) λn f=>⟨_,rfl,f.cellsIn 1 rfl,bF (ZO n _ _ (XE d e) j) λs i=>⟨_,rfl,(f.quiet i).aR 0 rfl (Av (j6 l) u).vs rfl (I6.one _) λt g=>⟨_,g.cellsIn 0 rfl,rfl,g.aK⟩⟩⟩⟩
def rz(n:Int):Bool:=decide (0<=n)&&decide (n<=1000000)
def ac9(w:ah)(n:Int):CP 358 #[iv n] w (λr a=>r=.bool (rz n)/\a=w):=by
 exact(p6 (p6 nK.2.1)).1 (cBq (λh=>⟨by simp[rz,h],rfl⟩) λh=>⟨by simp[rz];omega,rfl⟩)
def Rm(w:ah)(n:Int):CP 328 #[iv n] w (λr a=>r=iv (if rz n then 0 else 4)/\a=w):=by
 refine(p6 nK.2.1).2.2.1 (kR (ac9 w n) ⟨_,rfl,?_⟩)
 cases h:rz n with
 |true=>exact cF rfl ⟨rfl,rfl⟩
 |false=>exact cT rfl ⟨rfl,rfl⟩
def rG(p:I6):Bool:=p.l.all rz
def II(w:ah)(p:I6):CP 273 #[.agg p.vs.toArray] w (λr f=>r=.bool (rG p)/\aZ w f []):=by
 refine nK.2.1.2.2.2.1 (bE p.vs.toArray λj g c=>⟨p,c.cellsIn 0 rfl,λn d m=>∃k:Nat,n=k/\k<=6/\m=6-k/\(p.l.take k).all rz=true/\d=g,⟨6,0,rfl,by omega,by omega,rfl,rfl⟩,?_⟩);rintro d m n ⟨k,rfl,h,i,e,rfl⟩-
 by_cases b:(k:Int)<6
 .have a:k<6:=by omega
  refine di b ⟨by omega,by omega,_,p.get k a,kR (Rm d _) ⟨_,rfl,?_⟩⟩
  cases hx:rz (p.at' k) with
  |true=>exact cF rfl ⟨6-(k+1),by omega,k+1,inc (by decide) a,by omega,rfl,qD e (p.vG k a) hx,rfl⟩
  |false=>exact cT rfl ⟨by rw[rG,td (p.vG k a) hx],c.aK⟩
 obtain rfl:k=6:=by omega
 refine cF (by simp) ⟨?_,c.aK⟩;rw[rG,show p.l.all rz=true from e]
def vh{p:I6}:rG p=true<->I6.Le p 1000000:=by
 constructor
 .intro h k a;have:=bw.1 h _ (ak (p.vG k a));simpa[rz] using this
 intro h;have a:=h 0 (by decide);have b:=h 1 (by decide);have c:=h 2 (by decide);have d:=h 3 (by decide);have e:=h 4 (by decide);have f:=h 5 (by decide);simp only[I6.at'] at a b c d e f;simp[rG,I6.l,rz,a,b,c,d,e,f]
structure Po where
 step:Int
 pct:Int
 und:Int
 rule:Int
def Po.cells(o:Po):List Value:=[iv o.step,iv o.pct,iv o.und,iv o.rule]
def Po.v(o:Po):Value:=.agg o.cells.toArray
def Po.ok(o:Po):Prop:=1<=o.step/\o.step<=1000000/\0<=o.pct/\o.pct<=100/\1<=o.und/\o.und<=3/\1<=o.rule/\o.rule<=3
instance (o:Po):Decidable o.ok:=by unfold Po.ok;infer_instance
def pV(o:Po):Int:=if o.ok then 0 else 4
def BD(w:ah)(o:Po):CP 123 #[o.v] w (λr k=>r=iv (pV o)/\aZ w k []):=by
 refine nK.1.2.2.2.1 (bE o.cells.toArray λm l c=>⟨λb i=>i=l/\(b=true<->¬ o.ok),?_,?_⟩)
 .rintro i b ⟨rfl,a⟩-
  by_cases h:o.ok
  .obtain rfl:b=false:=by
    cases b with
    |false=>rfl
    |true=>exact absurd h (a.1 rfl)
   exact cF rfl ⟨by rw[pV,ag h],c.aK⟩
  obtain rfl:=a.2 h;exact cT rfl ⟨by rw[pV,af h],c.aK⟩
 have a:¬ o.ok->(true=true<->¬ o.ok):=λh=>⟨λ_=>h,λ_=>rfl⟩;refine⟨_,c.aj 0 rfl 0,?_⟩
 by_cases g1:o.step<1
 .exact di g1 ⟨rfl,a λh=>by unfold Po.ok at h;omega⟩
 refine dz g1 ⟨_,c.aj 0 rfl 0,?_⟩
 by_cases g2:o.step>1000000
 .exact di g2 ⟨rfl,a λh=>by unfold Po.ok at h;omega⟩
 refine dz g2 ⟨_,c.aj 0 rfl 1,?_⟩
 by_cases d:o.pct<0
 .exact di d ⟨rfl,a λh=>by unfold Po.ok at h;omega⟩
 refine dz d ⟨_,c.aj 0 rfl 1,?_⟩
 by_cases e:o.pct>100
 .exact di e ⟨rfl,a λh=>by unfold Po.ok at h;omega⟩
 refine dz e ⟨_,c.aj 0 rfl 2,?_⟩
 by_cases f:o.und<1
 .exact di f ⟨rfl,a λh=>by unfold Po.ok at h;omega⟩
 refine dz f ⟨_,c.aj 0 rfl 2,?_⟩
 by_cases g:o.und>3
 .exact di g ⟨rfl,a λh=>by unfold Po.ok at h;omega⟩
 refine dz g ⟨_,c.aj 0 rfl 3,cBq (λj=>⟨rfl,a λh=>by unfold Po.ok at h;omega⟩) λj=>⟨_,c.aj 0 rfl 3,rfl,?_⟩⟩;rw[aV];unfold Po.ok;omega
def kQ(l:List Pr):I6:=I6.Ff (l.map Pr.res)
def vj(l:List Pr)(k:Nat)(a:k<6):(kQ l).at' k=(l.map Pr.res).getD k 0:=by
 match k,a with
 |0,_|1,_|2,_|3,_|4,_|5,_=>rfl
def Iz{w:ah}{a:OA}{c:Nat}{l:List Pr}(h:kf w a l)(A:l.length<=6)(hc:l.length<=c):
  CP 181 #[.slice a l.length c] w (λr b=>r=.agg (kQ l).vs.toArray/\aZ w b []):=by
 refine nK.1.2.2.2.2.1 ?_;have e:(if (6:Int)<((l.length:Nat):Int) then (6:Int) else ((l.length:Nat):Int))=(l.length:Int):=by rw[af (by omega)]
 rw[e,Ux,aq,fk];refine bE z6.vs.toArray λt C v=>v.aY z6.vs.toArray λu D y=>⟨by omega,by omega,⟨λn p m=>∃k:Nat,n=k/\k<=l.length/\m=l.length-k/\St w p (Sep [ay u (I6.mix k (kQ l) z6).vs.toArray 37,ay t z6.vs.toArray 37,emp]),⟨l.length,0,rfl,by omega,by omega,y⟩,?_⟩⟩;rintro p m n ⟨k,rfl,z,B,b⟩-
 by_cases g:(k:Int)<(l.length:Int)
 .obtain⟨x,i⟩:=dX l k (by omega);obtain⟨_,q,s,f⟩:=(h.aK b.aK) k x i;have d:k<6:=by omega
  refine gM g ?_;rw[s];refine⟨by omega,by omega,Ex4 ⟨_,f,dH ((b.jR _ 135).aR 0 rfl x.cells rfl x.one λE j=>⟨_,j.aj 0 rfl 2,by omega,by omega,?_⟩)⟩⟩;rw[iC];refine j.cL 1 rfl d rfl λF o=>(mS (by omega) ?_);have r:x.res=(kQ l).at' k:=by rw[vj l k d];simp[aL,i]
  rw[r,I6.lE _ _ _ d] at o;exact o.aM [1,2,3]
 obtain rfl:k=l.length:=by omega
 have d:I6.mix l.length (kQ l) z6=kQ l:=by
  refine I6.ext' λj f=>?_;rw[I6.iy _ _ _ _ f,oU]
  split
  .rfl
  rw[vj l j f,au,aJ (by simp;omega)];rfl
 rw[d] at b;exact cF (by simp) ⟨_,b.cellsIn 0 rfl,b.aR 1 rfl (kQ l).vs rfl (I6.one _) λi f=>⟨_,f.cellsIn 1 rfl,rfl,f.aK⟩⟩
def BK(o:Po)(p:Int):Int:=p+o.step+(p*o.pct+99) / 100
def W6{w0 w:ah}{l:List bP}{o:Po}(f:o.ok){p:Int}(a:0<=p/\p<=1000000){r:Nat}{T:TypeId}(s:St w0 w (Sep l))(i:Nat)(e:l[i]?=some (ay r o.cells.toArray T)):
  CP 327 #[iv p,.pointer (qs r)] w (λv b=>v=iv (BK o p)/\b=w):=by
 refine(p6 nK.2.1).2.1 ⟨_,s.aj i e 0,_,s.aj i e 1,by decide,?_,rfl⟩;obtain⟨g,h,b,c,_⟩:=f;have j:0<=p*o.pct:=dh a.1 b;have k:p*o.pct<=1000000*100:=bM (cw c a.1) (bt a.2 (by omega));have d:Int.tdiv (p*o.pct+99) 100=(p*o.pct+99) / 100:=iM (by omega);rw[fQ (n:=p+o.step) ⟨by omega,by omega⟩,fQ (n:=p*o.pct) ⟨by omega,by omega⟩,fQ (n:=p*o.pct+99) ⟨by omega,by omega⟩,d,fQ (n:=(p*o.pct+99) / 100) ⟨by omega,by omega⟩,gC (by omega)];rfl
def ij(o:Po)(p ex:I6):I6:=p.zip (λx n=>if n>0 then BK o x else x) ex
def uf(o:Po)(p ex:I6):I6×Int:=if ij o p ex≠p/\rG (ij o p ex)=false then (z6,4) else (ij o p ex,0)
def Tg(w:ah){o:Po}(B:o.ok){p:I6}(u:rG p=true)(ex:I6):CP 188 #[o.v,.agg p.vs.toArray,.agg ex.vs.toArray] w (λr e=>r=.tuple #[.agg (uf o p ex).1.vs.toArray,iv (uf o p ex).2]/\aZ w e []):=by
 refine(p6 nK.1).2.2.1 ?_;have s:=vh.1 u;refine bE o.cells.toArray λC P G=>G.aY p.vs.toArray λx Q H=>H.aY ex.vs.toArray λy R I=>I.aY z6.vs.toArray λz M D=>⟨_,_,_,_,D.cellsIn 3 rfl,D.qu (BD M o) λS J=>?_⟩;have l:=J.quiet (aZ.drew _ _);let L:Nat->Nat->I6->List bP:=λb r out=>[ay r out.vs.toArray 37,ay b o.cells.toArray 23,ay z z6.vs.toArray 37,ay y ex.vs.toArray 50,ay x p.vs.toArray 37,emp];refine⟨_,rfl,cF (by rw[pV,ag B];rfl) ⟨λv r e=>∃b,v=.func (.func 327) #[] #[.pointer (qs b)]/\St w e (Sep (L b r p)),?_,?_⟩⟩
 .rintro T v r5 ⟨b,rfl,E⟩-;refine⟨ex,E.cellsIn 3 rfl,λn q m=>∃k:Nat,n=k/\k<=6/\m=6-k/\St w q (Sep (L b r5 (I6.mix k (ij o p ex) p))),⟨6,0,rfl,by omega,by omega,E⟩,?_⟩;rintro q m n ⟨k,rfl,N,O,h⟩-
  by_cases t:(k:Int)<6
  .have a:k<6:=by omega
   have er:(ij o p ex).at' k=if ex.at' k>0 then BK o (p.at' k) else p.at' k:=I6.mU _ _ _ _ a
   refine di t ⟨λF=>St w F (Sep (L b r5 (I6.mix (k+1) (ij o p ex) p))),?_,by omega,by omega,_,ex.get k a,λg i=>g=decide (ex.at' k>0)/\St w i (Sep (L b r5 (I6.mix k (ij o p ex) p))),?_,?_⟩
   .rintro F c -;exact⟨6-(k+1),by omega,k+1,inc (by decide) a,by omega,rfl,c⟩
   .rintro i g ⟨rfl,d⟩-;refine cBq (λc=>⟨by omega,by omega,p.at' k,by rw[iC,br d 4 rfl a],iJ (by kernel_rfl) (kR (W6 B (s k a) d 1 rfl) ⟨_,rfl,by omega,by omega,?_⟩)⟩) λc=>?_
    .rw[iC];refine d.cL 0 rfl a rfl λj f=>?_;rw[ag c] at er;rw[<-er,I6.lE _ _ _ a] at f;exact f
    rw[af c] at er;have:I6.mix (k+1) (ij o p ex) p=I6.mix k (ij o p ex) p:=by
     refine I6.ext' λj A=>?_;rw[I6.iy _ _ _ _ A,I6.iy _ _ _ _ A]
     by_cases f:j<k
     .rw[ag (by omega),ag f]
     rw[af f]
     split
     .obtain rfl:j=k:=by omega
      exact er
     rfl
    rw[this];exact d
   exact cBq (λc=>⟨_,h.cellsIn 4 rfl,bF (II q p) λf d=>⟨_,rfl,by rw[u,dT c],h.quiet d⟩⟩) λc=>⟨by rw[dF c],h⟩
  obtain rfl:k=6:=by omega
  refine cF (by simp) ⟨λg f=>g=decide (ij o p ex≠p/\rG (ij o p ex)=false)/\St w f (Sep (L b r5 (ij o p ex))),?_,p,h.cellsIn 4 rfl,bg (II q p) ?_⟩
  .rintro f g ⟨rfl,d⟩-;refine cBq (λc=>d.aR 2 rfl z6.vs rfl (I6.one _) λi a=>⟨_,a.cellsIn 2 rfl,?_,a.aK⟩) λc=>⟨_,d.cellsIn 0 rfl,d.aR 2 rfl (ij o p ex).vs rfl (I6.one _) λi a=>⟨_,a.cellsIn 2 rfl,?_,a.aK⟩⟩
   .rw[uf,ag c]
   rw[uf,af c]
  rintro v j ⟨rfl,d⟩;have a:=h.quiet d;refine⟨_,rfl,cF (by rw[u];rfl) ⟨_,a.cellsIn 0 rfl,_,a.cellsIn 4 rfl,?_⟩⟩;rw[I6.sM,I6.beq_eq]
  by_cases c:ij o p ex=p
  .exact cF (by simp[c]) ⟨by simp[c],a⟩
  refine cT (by simp[c]) ⟨_,a.cellsIn 0 rfl,bF (II j _) λA i=>⟨_,rfl,?_,a.quiet i⟩⟩;rw[I6.sM]
  cases rG (ij o p ex)<;>simp[c]
 refine⟨_,_,_,_,l.cellsIn 3 rfl,p,l.cellsIn 2 rfl,?_,?_⟩
 .refine bg (K:=λv e=>∃b,v=.func (.func 327) #[] #[.pointer (qs b)]/\St w e (Sep (ay b o.cells.toArray 23::[ay z z6.vs.toArray 37,ay y ex.vs.toArray 50,ay x p.vs.toArray 37,ay C o.cells.toArray 23,emp]))) (rA ?_) ?_
  .exact l.aY o.cells.toArray λb e d=>⟨b,rfl,d⟩
  rintro v g ⟨b,rfl,a⟩;refine⟨_,rfl,a.cellsIn 3 rfl,a.aY z6.vs.toArray λj h c=>⟨c.cellsIn 4 rfl,c.aR 0 rfl p.vs rfl (I6.one _) λi f=>⟨b,rfl,f.aM [0,1,2,3,4,6]⟩⟩⟩
 refine l.aY z6.vs.toArray λf g a=>⟨a.cellsIn 3 rfl,a.cellsIn 4 rfl,bg (K:=λv e=>∃b,v=.func (.func 327) #[] #[.pointer (qs b)]/\St w e (Sep (ay b o.cells.toArray 23::[ay f z6.vs.toArray 37,ay z z6.vs.toArray 37,ay y ex.vs.toArray 50,ay x p.vs.toArray 37,ay C o.cells.toArray 23,emp]))) (rA ?_) ?_⟩
 .exact a.aY o.cells.toArray λb e d=>⟨b,rfl,d⟩
 rintro v h ⟨b,rfl,c⟩;exact⟨_,rfl,c.cellsIn 4 rfl,c.aR 1 rfl p.vs rfl (I6.one _) λi d=>⟨b,rfl,d.aM [1,0,2,3,4,6]⟩⟩

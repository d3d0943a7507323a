import Derived.Shelf.Strings.Builder1
import Derived.Shelf.Strings.Builder2
import Derived.Shelf.Strings.OnBuilder
import Derived.Shelf.Small.Utf8
import Derived.Shelf.Small.Strs
import Derived.Shelf.Strconv.Atoi
import Derived.Shelf.Strconv.Itoa0
import Derived.Shelf.Strconv.Itoa1
import Derived.Shelf.LaysM
import Derived.Shelf.Strconv.Itoa2
import Derived.Shelf.Strconv.Itoa3
import Derived.Shelf.Strconv.Itoa4
import Derived.Shelf.Strings.Search1
import Derived.Shelf.Strings.Search2
import Derived.Shelf.Strings.Search3
import Derived.Shelf.Strings.Count
import Derived.Shelf.Strings.Split
import Derived.Shelf.Strings.SplitShaped
import Derived.Shelf.Unicode.Decode
import Derived.Shelf.Strings.Runes
import Derived.Shelf.Strings.RuneCount
import Derived.Shelf.Strings.Explode
import Derived.WalkMore
import Derived.Outline
import Derived.RegionTactic
import Derived.Deep.RegionWith
import Derived.Scope
import Derived.DataElems
import Derived.Test.YtjcfdidmajodiaaGreatDoorH02
import Derived.Test.YtjcfdidmajodiaaGreatDoorH03
set_option linter.unusedVariables false
set_option linter.defProp false
set_option maxRecDepth 100000
set_option maxHeartbeats 4000000
namespace Go.Proofs.YtjcfdidmajodiaaGreatDoor
open Go Go.Vc Go.Vt _root_.Go.Proofs.Tryz
def BA:=many uj [en func301 [] [],en func300 [] [],en func302 [] [(58,[(4,.s (.int .i64))])],en func242 [] [(456,[(4,.s (.int .i64))]),(1824,[(32,.s .bool)]),(1848,[(4,.s (.int .i64))]),(7392,[(55,.s .bool)]),(1850,[(64,.s .bool)]),(59258,[(5,.s (.int .i64)),(6,.s (.int .i64))])],en func239 [] [(6,[(17,.s .bool)])],en func104 [] [(6,[(12,.s .bool)]),(58,[(3,.s (.int .i64))]),(932,[(4,.s .bool)]),(1865,[(52,.s .bool)])],en func61 [] [(26,[(3,.s (.int .i64))]),(420,[(17,.s .bool)])],en func60 [] [(122,[(3,.s (.int .i64))]),(31306,[(4,.s (.int .i64))]),(15655,[(84,.s .bool)]),(506,[(6,.s (.int .i64)),(7,.s (.int .i64))])],en func240 [] [(26,[(6,.s (.int .i64))])],en func178 [] [(122,[(3,.s (.int .i64))]),(7827,[(83,.s .bool)])]] (by conv=>lhs;reduce) (by kernel_rfl) λ x=>by
 dsimp only[fj,fh,ff,fe,fk,fm,fq,tF,iP,en,sV,wrap,dc,dn,qA,gU,tW,U.I,U.B,U.S,U.N,U.A,U.O,U.W,U.V,U.L,U.U6,U.C,U.M,U.F,U.E,tP,tN,tI,oo,jU,gJ,kr,jq,TJ,Nat.reduceSub,Nat.reduceAdd,Int.reduceOfNat,Int.reduceNeg,UInt8.reduceOfNat] at x
 exact x
def CE:=BA.2.2.2.1
def vK:=many uj [en func136 [] [(7,[(3,.s (.int .i64))]),(506,[(4,.s (.int .i64))]),(32402,[(47,.s .bool)]),(64806,[(65,.s .bool)]),(259230,[(6,.s (.int .i64))]),(4147684,[(90,.s .bool)]),(2042,[(7,.s (.int .i64))]),(130706,[(117,.s .bool)]),(261414,[(142,.s .bool)]),(1045662,[(9,.s (.int .i64))])],en func226 [] [(122,[(4,.s .slice),(5,.s (.int .i64))])],en func227 [] [],en func229 [(0,.k (.s .blk))] [(6,[(19,.s .bool)])],en func275 [] [(7,[])],en func276 [(0,.k (.s .blk))] [(6,[(19,.s .bool)])],en func278 [(0,.k (.s .blk))] [(1,[(12,.s .bool)])],en func280 [(0,.k (.s .blk))] [(7,[]),(14,[(22,.s .bool)])],en func281 [(0,.k (.s .blk))] [],en func283 [(0,.k (.s .blk))] [(13,[(16,.s .bool)])],en func284 [(0,.k (.s .blk))] [(115,[(14,.s .bool)])],en func285 [(0,.k (.s .blk))] [],en func324 [] [(12,[(6,.s .bool)]),(122,[(4,.s (.int .i64)),(21,.s (.int .i64))])],en func327 [(0,.k (.s .blk))] [(3,[])]] (by conv=>lhs;reduce) (by kernel_rfl) λ x=>by
 dsimp only[fj,fh,ff,fe,fk,fm,fq,tF,iP,en,sV,wrap,dc,dn,qA,gU,tW,U.I,U.B,U.S,U.N,U.A,U.O,U.W,U.V,U.L,U.U6,U.C,U.M,U.F,U.E,tP,tN,tI,oo,jU,gJ,kr,jq,TJ,Nat.reduceSub,Nat.reduceAdd,Int.reduceOfNat,Int.reduceNeg,UInt8.reduceOfNat] at x
 exact x
def XM:=many uj [en func367 [(0,.k (.s .blk))] [],en func325 [] []] (by conv=>lhs;reduce) (by kernel_rfl) λ x=>by
 dsimp only[fj,fh,ff,fe,fk,fm,fq,tF,iP,en,sV,wrap,dc,dn,qA,gU,tW,U.I,U.B,U.S,U.N,U.A,U.O,U.W,U.V,U.L,U.U6,U.C,U.M,U.F,U.E,tP,tN,tI,oo,jU,gJ,kr,jq,TJ,Nat.reduceSub,Nat.reduceAdd,Int.reduceOfNat,Int.reduceNeg,UInt8.reduceOfNat] at x
 exact x
end Go.Proofs.YtjcfdidmajodiaaGreatDoor
namespace Go.Proofs.YtjcfdidmajodiaaGreatDoor
open Go Go.Vc _root_.Go.Proofs.Tryz
def zg(n:Int):Bool:=decide (97<=n)&&decide (n<=122)
def lz(n:Int):Bool:=decide (48<=n)&&decide (n<=57)
def inr(n:Int):Bool:=zg n||(lz n||(n==95))
def un(c:UInt8):Int:=(c.toNat:Int)
def cY(l:List UInt8):Bool:=!l.isEmpty&&(decide (l.length<=12)&&((l.head?.map λ c=>zg (un c)).getD false&&l.all λ c=>inr (un c)))
def wrap32(c:UInt8):IntKind.i32.wrap (c.toNat:Int)=un c:=by
 have:=c.toNat_lt;simp only[IntKind.wrap,IntKind.signed,IntKind.bits,un]
 simp
 omega
def Ai(w:af)(n:Int):CP 173 #[.int .i32 n] w (λ r w'=>r=.bool (zg n)/\w'=w):=by
 refine uB.2.1 ?_
 by_cases h:97<=n
 ·exact cT (by simpa using h) ⟨by simp[zg,h],rfl⟩
 ·exact cF (by simpa using h) ⟨by simp[zg,h],rfl⟩
def DJ(w:af)(n:Int):CP 237 #[.int .i32 n] w (λ r w'=>r=.bool (lz n)/\w'=w):=by
 refine uB.1 ?_
 by_cases h:48<=n
 ·exact cT (by simpa using h) ⟨by simp[lz,h],rfl⟩
 ·exact cF (by simpa using h) ⟨by simp[lz,h],rfl⟩
def o5(w:af)(n:Int):CP 300 #[.int .u8 n] w (λ r w'=>r=.bool (zg n)/\w'=w):=by
 refine BA.2.1 ?_
 by_cases h:97<=n
 ·exact cT (by simpa using h) ⟨by simp[zg,h],rfl⟩
 ·exact cF (by simpa using h) ⟨by simp[zg,h],rfl⟩
def wh(w:af)(n:Int):CP 301 #[.int .u8 n] w (λ r w'=>r=.bool (lz n)/\w'=w):=by
 refine BA.1 ?_
 by_cases h:48<=n
 ·exact cT (by simpa using h) ⟨by simp[lz,h],rfl⟩
 ·exact cF (by simpa using h) ⟨by simp[lz,h],rfl⟩
def Ke(w:af)(n:Int):CP 175 #[.int .i32 n] w (λ r w'=>r=.bool (inr n)/\w'=w):=by
 refine uB.2.2.1 ?_;refine au (Ai w n) ?_;rintro v a ⟨rfl,rfl⟩;refine⟨_,rfl,?_⟩
 cases h1:zg n with
 | true=>exact cT rfl ⟨by simp[inr,h1],rfl⟩
 | false =>
  refine cF rfl (au (DJ a n) ?_);rintro v b ⟨rfl,rfl⟩;refine⟨_,rfl,?_⟩
  cases h2:lz n with
  | true=>exact cT rfl ⟨by simp[inr,h1,h2],rfl⟩
  | false=>exact cF rfl ⟨by simp[inr,h1,h2],rfl⟩
def Hf{l:List UInt8}{p:UInt8->Bool}{k:Nat}(h:(l.take k).all p=true)(b:k<=l.length)(he:k=l.length\/∃ c,l[k]?=some c/\p c=false):(l.take k==l)=l.all p:=by
 rcases he with rfl|⟨c,hc,hp⟩
 ·rw[br] at h ⊢; rw[h]; simp
 ·have a:=(aR.1 hc).1;have h1:l.all p=false:=by
   rw[nG];exact⟨c,bf hc,by simp[hp]⟩
  rw[h1];simp only[aS,ne_eq];intro e;have:=congrArg List.length e;rw[di] at this;omega
def qU{l:List UInt8}{p:UInt8->Bool}{k:Nat}{c:UInt8}(h:(l.take k).all p=true)(hc:l[k]?=some c)(hp:p c=true):(l.take (k+1)).all p=true:=by
 rw[aH hc,lZ,h]; simp[hp]
def Yf(w:af){l:List UInt8}(g:l.length<=9223372036854775806):CP 174 #[sv l,iv 0,.func (.func 175) #[] #[]] w (λ r w'=>∃ k,r=sv (l.take k)/\(l.take k==l)=(l.all λ c=>inr (un c))/\w'=w):=by
 refine Gk ?_;refine⟨λ n d m=>∃ k:Nat,n=k/\k<=l.length/\m=l.length-k/\(l.take k).all (λ c=>inr (un c))=true/\d=w,⟨l.length,0,rfl,by omega,by omega,by simp,rfl⟩,?_⟩;rintro d m n ⟨k,rfl,f,hm,ha,rfl⟩ -;refine⟨λ b e=>e=d/\((b=true/\∃ c,l[k]?=some c/\inr (un c)=true)\/(b=false/\(k=l.length\/∃ c,l[k]?=some c/\inr (un c)=false))),?_,?_⟩
 ·rintro e b ⟨rfl,h⟩ -;rcases h with⟨rfl,c,hc,hp⟩|⟨rfl,he⟩
  ·have a:=(aR.1 hc).1;exact cT rfl ⟨l.length-(k+1),by omega,k+1,by rw[cA (by omega)]; rfl,by omega,rfl,qU (p:=λ c=>inr (un c)) ha hc hp,rfl⟩
  ·refine cF rfl ⟨by omega,by rw[dX]; omega,by omega,by omega,k,?_,Hf ha f he,rfl⟩;show Value.string ((bs l).extract (0:Int).toNat ((k:Int)).toNat)=_;rw[show(0:Int).toNat=0 from rfl,aD,Fh]
 ·by_cases a:(k:Int)<(l.length:Int)
  ·obtain⟨c,hc⟩:=bx l k (by omega);refine cT (by rw[dX]; simpa using a) ⟨by omega,?_⟩;rw[aD,gK,hc]
   change lK prog (.func (.func 175) #[] #[]) #[.int .i32 (IntKind.i32.wrap (c.toNat:Int))] d _
   refine dZ (by kernel_rfl) ?_;rw[wrap32];refine au (Ke d (un c)) ?_;rintro v i ⟨rfl,rfl⟩;refine⟨_,rfl,rfl,?_⟩
   cases hp:inr (un c) with
   | true=>exact .inl ⟨rfl,c,rfl,hp⟩
   | false=>exact .inr ⟨rfl,.inr ⟨c,rfl,hp⟩⟩
  ·exact cF (by rw[dX]; simpa using a) ⟨rfl,.inr ⟨rfl,.inl (by omega)⟩⟩
def Af(w:af)(l:List UInt8):CP 125 #[sv l] w (λ r w'=>r=.bool (cY l)/\w'=w):=by
 refine uB.2.2.2.2.1 ?_
 cases l with
 | nil=>exact cF (by rw[fG]; rfl) ⟨rfl,rfl⟩
 | cons c l =>
  refine cT (by rw[fG,fG]; rfl) ?_
  by_cases a:(c :: l).length<=12
  ·refine cT (by rw[dX]; exact dT (by omega)) ⟨by omega,?_⟩;rw[show(0:Int).toNat=0 from rfl,gK];show bO (some c) _;rw[bO,wrap32];refine au (Ai w (un c)) ?_;rintro v d ⟨rfl,rfl⟩;refine⟨_,rfl,?_⟩
   cases h1:zg (un c) with
   | false=>exact cF rfl ⟨by simp[cY,h1],rfl⟩
   | true =>
    refine cT rfl (au (Yf d (by omega)) ?_);rintro v f ⟨k,rfl,b,rfl⟩;refine⟨_,rfl,?_,rfl⟩;rw[fG,fG,b];have e:cY (c :: l)=(c :: l).all λ c=>inr (un c):=by
     unfold cY;simp only[yI,yJ,bt,yK,nL,nH,h1];rw[dT a]; rfl
    rw[e]
  ·refine cF (by rw[dX]; exact dF (by omega)) ⟨?_,rfl⟩;simp only[cY,dF a]
   simp
theorem UB{p:UInt8->Bool}:∀ {l:List UInt8} {k:Nat},(l.take k).all p=true->k<=l.length->(k=l.length\/∃ c,l[k]?=some c/\p c=false)->l.take k=l.takeWhile p
 | [],k,_,a,_=>by simp
 | c :: l,0,_,_,he=>by
  rcases he with h|⟨d,hd,hp⟩
  ·simp at h
  ·simp at hd; subst hd; simp[hp]
 | c :: l,k+1,h,a,he=>by
  simp only[pF,og,aX] at h;rw[pF,vg,ak h.1,UB h.2 (by simpa using a) (he.imp (λ h=>by simpa using h) (λ h=>by simpa using h))]
def PW(w:af){l:List UInt8}(j:l.length<=9223372036854775806){v:Value}{p:UInt8->Bool}(g:∀ (w':af) (c:UInt8) (R:Ending->af->Prop),R (.returned (.bool (p c))) w'->lK prog v #[.int .i32 (un c)] w' R){n:Nat}(o:n<=l.length) :
  CP 174 #[sv l,iv n,v] w (λ r w'=>r=sv ((l.drop n).takeWhile p)/\w'=w):=by
 refine Gk ?_;refine⟨λ i d m=>∃ k:Nat,i=((n+k:Nat):Int)/\k<=(l.drop n).length/\m=(l.drop n).length-k/\((l.drop n).take k).all p=true/\d=w,⟨(l.drop n).length,0,rfl,by omega,by omega,by simp,rfl⟩,?_⟩;rintro d m i ⟨k,rfl,f,hm,ha,rfl⟩ -;have hd:(l.drop n).length=l.length-n:=gH;refine⟨λ b e=>e=d/\((b=true/\∃ c,(l.drop n)[k]?=some c/\p c=true)\/(b=false/\(k=(l.drop n).length\/∃ c,(l.drop n)[k]?=some c/\p c=false))),?_,?_⟩
 ·rintro e b ⟨rfl,h⟩ -;rcases h with⟨rfl,c,hc,hp⟩|⟨rfl,he⟩
  ·have a:=(aR.1 hc).1;exact cT rfl ⟨(l.drop n).length-(k+1),by omega,k+1,by rw[cA (by omega)]; omega,by omega,rfl,qU (p:=p) ha hc hp,rfl⟩
  ·refine cF rfl ⟨by omega,by rw[dX]; omega,by omega,by omega,?_,rfl⟩;show Value.string ((bs l).extract ((n:Int)).toNat (((n+k:Nat):Int)).toNat)=_;rw[aD,aD,zS,Jy,UB ha f he]
 ·by_cases a:k<(l.drop n).length
  ·have hc:(l.drop n)[k]?=some ((l.drop n)[k]'a):=gE a;generalize(l.drop n)[k]'a=c at hc;refine cT (by rw[dX]; exact dT (by omega)) ⟨by omega,?_⟩;rw[aD,gK,<- lW,hc];show bO (some c) _;rw[bO,wrap32];refine g _ _ _ ⟨_,rfl,rfl,?_⟩
   cases hp:p c with
   | true=>exact .inl ⟨rfl,c,rfl,hp⟩
   | false=>exact .inr ⟨rfl,.inr ⟨c,rfl,hp⟩⟩
  ·exact cF (by rw[dX]; exact dF (by omega)) ⟨rfl,.inr ⟨rfl,.inl (by omega)⟩⟩
def Sb(w':af)(c:UInt8)(R:Ending->af->Prop)(h:R (.returned (.bool (inr (un c)))) w'):lK prog (.func (.func 175) #[] #[]) #[.int .i32 (un c)] w' R:=by
 refine dZ (by kernel_rfl) (au (Ke w' (un c)) ?_);rintro v a ⟨rfl,rfl⟩; exact h
def RE(w':af)(c:UInt8)(R:Ending->af->Prop)(h:R (.returned (.bool (lz (un c)))) w'):lK prog (.func (.func 237) #[] #[]) #[.int .i32 (un c)] w' R:=by
 refine dZ (by kernel_rfl) (au (DJ w' (un c)) ?_);rintro v a ⟨rfl,rfl⟩; exact h
def xk(l:List UInt8):Int:=l.foldl (λ n c=>10*n+(un c-48)) 0
def xm(l:List UInt8)(c:UInt8):xk (l++[c])=10*xk l+(un c-48):=by simp[xk]
def Ku:∀ (k:Nat) (l:List UInt8),l.length<=k->(l.all λ c=>lz (un c))=true->0<=xk l/\xk l<10 ^ k:=by
 intro k
 induction k with
 | zero=>intro l a _; obtain rfl:=Da.1 (by omega:l.length=0); exact⟨by decide,by decide⟩
 | succ k b =>
  intro l a ha;rcases List.eq_nil_or_concat l with rfl|⟨d,c,rfl⟩
  ·refine⟨by decide,?_⟩;show(0:Int)<10 ^ (k+1);exact Int.pow_pos (by decide)
  ·rw[List.concat_eq_append] at a ha ⊢;rw[lZ,aX] at ha;rw[aY,bS] at a;have h1:=b d (by omega) ha.1;have h2:lz (un c)=true:=by simpa using ha.2
   simp only[lz,aX,bN] at h2;rw[xm,Db];omega
def oz(l:List UInt8):Int×Int:=if 1<l.length/\l.head? = some 48 then (0,2) else if 9<l.length then (0,4) else (xk l,0)
def O1(w:af){l:List UInt8}(hd:(l.all λ c=>lz (un c))=true)(s:l.length<=10000):CP 324 #[sv l] w (λ r w'=>r=.tuple #[iv (oz l).1,iv (oz l).2]/\w'=w):=by
 refine(p6 (p6 vK)).1 ?_;refine⟨λ b d=>b=decide (1<l.length/\l.head? = some 48)/\d=w,?_,?_⟩
 ·rintro d b ⟨rfl,rfl⟩ -
  by_cases h:1<l.length/\l.head? = some 48
  ·exact aP h ⟨by rw[oz,ak h],rfl⟩
  refine aU h ?_
  by_cases e:9<l.length
  ·exact cT (by rw[dX]; exact dT (by omega)) ⟨by rw[oz,ah h,ak e],rfl⟩
  refine cF (by rw[dX]; exact dF (by omega)) ?_;refine⟨λ n i g m=>∃ k:Nat,i=k/\k<=l.length/\m=l.length-k/\n=xk (l.take k)/\g=d,⟨l.length,0,rfl,by omega,by omega,rfl,rfl⟩,?_⟩;rintro g m n i ⟨k,rfl,q,hm,rfl,rfl⟩ -
  by_cases a:k<l.length
  ·have hc:l[k]?=some (l[k]'a):=gE a;generalize l[k]'a=c at hc;have h1:lz (un c)=true:=dS.1 hd c (bf hc);have h2:=Ku 9 (l.take k) (by rw[di]; omega) (by
    rw[dS] at hd ⊢;exact λ x o=>hd x (eX o))
   have h1:48<=un c/\un c<=57:=by simpa[lz] using h1
   unfold un at h1;have f:=c.toNat_lt;refine cT (by rw[dX]; exact dT (by omega)) ⟨by omega,?_⟩;rw[aD,gK,hc];refine jZ (by omega) ⟨?_,rfl⟩;have j:IntKind.u8.wrap ((c.toNat:Int)-48)=(c.toNat:Int)-48:=by
    simp only[IntKind.wrap,IntKind.signed,IntKind.bits]
    simp
    omega
   rw[j,aH hc,xm,un,cW (n:=10*xk (l.take k)) ⟨by omega,by omega⟩,cW (n:=(c.toNat:Int)-48) ⟨by omega,by omega⟩,cA (by omega)]
  ·obtain rfl:k=l.length:=by omega
   refine cF (by rw[dX]; exact dF (by omega)) ⟨?_,rfl⟩;rw[br,oz,ah h,ah e]
 ·cases l with
  | nil=>exact cF (by rw[dX]; rfl) ⟨rfl,rfl⟩
  | cons c l =>
   by_cases h1:1<(c :: l).length
   ·refine cT (by rw[dX]; exact dT (by omega)) ⟨by omega,?_⟩;rw[show(0:Int).toNat=0 from rfl,gK];refine⟨?_,rfl⟩
    by_cases h2:c=48
    ·subst h2; rw[dT (p:=1<(48 :: l).length/\(48 :: l).head? = some 48) ⟨h1,rfl⟩]; rfl
    ·rw[dF (λ h=>h2 (by simpa using h.2))];have:(c.toNat:Int)≠48:=λ h=>h2 (nI.1 (by have:(48:UInt8).toNat=48:=rfl; omega));simpa using this
   ·exact cF (by rw[dX]; exact dF (by omega)) ⟨by rw[dF (λ h=>h1 h.1)],rfl⟩
end Go.Proofs.YtjcfdidmajodiaaGreatDoor
namespace Go.Proofs
open Go.Shelf
def Tryz.FV:Go.Shelf.Ren:=⟨fun|221=>202|268=>261|138=>262|143=>263|195=>314|197=>315|218=>316|219=>317|260=>344|217=>345|225=>346|224=>347|267=>348|266=>358|314=>359|n=>n,fun|9=>9|3=>3|31=>108|4=>4|0=>0|105=>361|21=>21|5=>5|46=>197|119=>385|139=>388|138=>387|146=>389|51=>238|n=>n,fun|1=>1|3=>4|4=>5|n=>n⟩
def Tryz.Sq:Go.Proofs.Lays.n221 Tryz.prog Tryz.FV:={
 mixed:=by kernel_rfl
 f138:=Tryz.func262.trans (congrArg some (by kernel_rfl))
 f143:=Tryz.func263.trans (congrArg some (by kernel_rfl))
 f195:=Tryz.func314.trans (congrArg some (by kernel_rfl))
 f197:=Tryz.func315.trans (congrArg some (by kernel_rfl))
 f217:=Tryz.func345.trans (congrArg some (by kernel_rfl))
 f218:=Tryz.func316.trans (congrArg some (by kernel_rfl))
 f219:=Tryz.func317.trans (congrArg some (by kernel_rfl))
 f221:=Tryz.func202.trans (congrArg some (by kernel_rfl))
 f224:=Tryz.func347.trans (congrArg some (by kernel_rfl))
 f225:=Tryz.func346.trans (congrArg some (by kernel_rfl))
 f260:=Tryz.func344.trans (congrArg some (by kernel_rfl))
 f266:=Tryz.func358.trans (congrArg some (by kernel_rfl))
 f267:=Tryz.func348.trans (congrArg some (by kernel_rfl))
 f268:=Tryz.func261.trans (congrArg some (by kernel_rfl))
 f314:=Tryz.func359.trans (congrArg some (by kernel_rfl))
 t0:=Tryz.underlying0
 a0:=Tryz.isAgg0
 z0:=Tryz.sizeOf0
 v0:=Tryz.zeroValue0
 t3:=Tryz.underlying3
 a3:=Tryz.isAgg3
 z3:=Tryz.sizeOf3
 v3:=Tryz.zeroValue3
 t4:=Tryz.underlying4
 a4:=Tryz.isAgg4
 z4:=Tryz.sizeOf4
 v4:=Tryz.zeroValue4
 t5:=Tryz.underlying5
 a5:=Tryz.isAgg5
 z5:=Tryz.sizeOf5
 v5:=Tryz.zeroValue5
 t9:=Tryz.underlying9
 a9:=Tryz.isAgg9
 z9:=Tryz.sizeOf9
 v9:=Tryz.zeroValue9
 t21:=Tryz.underlying21
 a21:=Tryz.isAgg21
 z21:=Tryz.sizeOf21
 v21:=Tryz.zeroValue21
 t31:=Tryz.underlying108
 a31:=Tryz.isAgg108
 z31:=Tryz.sizeOf108
 v31:=Tryz.zeroValue108
 t46:=Tryz.underlying197
 a46:=Tryz.isAgg197
 z46:=Tryz.sizeOf197
 v46:=Tryz.zeroValue197
 t51:=Tryz.underlying238
 a51:=Tryz.isAgg238
 z51:=Tryz.sizeOf238
 v51:=Tryz.zeroValue238
 t105:=Tryz.underlying361
 a105:=Tryz.isAgg361
 z105:=Tryz.sizeOf361
 v105:=Tryz.zeroValue361
 t119:=Tryz.underlying385
 a119:=Tryz.isAgg385
 z119:=Tryz.sizeOf385
 t138:=Tryz.underlying387
 a138:=Tryz.isAgg387
 z138:=Tryz.sizeOf387
 v138:=Tryz.zeroValue387
 t139:=Tryz.underlying388
 a139:=Tryz.isAgg388
 z139:=Tryz.sizeOf388
 v139:=Tryz.zeroValue388
 t146:=Tryz.underlying389
 a146:=Tryz.isAgg389
 z146:=Tryz.sizeOf389
 v146:=Tryz.zeroValue389
 g1:=by kernel_rfl
 g3:=by kernel_rfl
 g4:=by kernel_rfl }
def Tryz.FU:Go.Shelf.Ren:=⟨fun|172=>318|244=>349|245=>350|247=>360|279=>361|280=>362|281=>363|282=>364|287=>368|316=>369|171=>30|205=>370|321=>371|322=>372|243=>64|246=>65|283=>107|284=>108|285=>109|286=>110|129=>151|317=>150|318=>152|319=>153|320=>154|337=>200|338=>201|n=>n,fun|9=>9|3=>3|75=>103|76=>104|4=>4|5=>5|167=>391|37=>99|0=>0|85=>392|2=>2|168=>394|53=>43|175=>398|46=>197|210=>401|127=>155|145=>406|143=>404|21=>21|171=>190|173=>193|212=>237|51=>238|20=>20|213=>239|232=>324|233=>325|80=>110|n=>n,fun|15=>6|16=>7|17=>0|18=>2|19=>3|n=>n⟩
def Tryz.Sp:Go.Proofs.Lays.n172 Tryz.prog Tryz.FU:={
 mixed:=by kernel_rfl
 f129:=Tryz.func151.trans (congrArg some (by kernel_rfl))
 f171:=Tryz.func30.trans (congrArg some (by kernel_rfl))
 f172:=Tryz.func318.trans (congrArg some (by kernel_rfl))
 f205:=Tryz.func370.trans (congrArg some (by kernel_rfl))
 f243:=Tryz.func64.trans (congrArg some (by kernel_rfl))
 f244:=Tryz.func349.trans (congrArg some (by kernel_rfl))
 f245:=Tryz.func350.trans (congrArg some (by kernel_rfl))
 f246:=Tryz.func65.trans (congrArg some (by kernel_rfl))
 f247:=Tryz.func360.trans (congrArg some (by kernel_rfl))
 f279:=Tryz.func361.trans (congrArg some (by kernel_rfl))
 f280:=Tryz.func362.trans (congrArg some (by kernel_rfl))
 f281:=Tryz.func363.trans (congrArg some (by kernel_rfl))
 f282:=Tryz.func364.trans (congrArg some (by kernel_rfl))
 f283:=Tryz.func107.trans (congrArg some (by kernel_rfl))
 f284:=Tryz.func108.trans (congrArg some (by kernel_rfl))
 f285:=Tryz.func109.trans (congrArg some (by kernel_rfl))
 f286:=Tryz.func110.trans (congrArg some (by kernel_rfl))
 f287:=Tryz.func368.trans (congrArg some (by kernel_rfl))
 f316:=Tryz.func369.trans (congrArg some (by kernel_rfl))
 f317:=Tryz.func150.trans (congrArg some (by kernel_rfl))
 f318:=Tryz.func152.trans (congrArg some (by kernel_rfl))
 f319:=Tryz.func153.trans (congrArg some (by kernel_rfl))
 f320:=Tryz.func154.trans (congrArg some (by kernel_rfl))
 f321:=Tryz.func371.trans (congrArg some (by kernel_rfl))
 f322:=Tryz.func372.trans (congrArg some (by kernel_rfl))
 f337:=Tryz.func200.trans (congrArg some (by kernel_rfl))
 f338:=Tryz.func201.trans (congrArg some (by kernel_rfl))
 t0:=Tryz.underlying0
 a0:=Tryz.isAgg0
 z0:=Tryz.sizeOf0
 v0:=Tryz.zeroValue0
 t2:=Tryz.underlying2
 a2:=Tryz.isAgg2
 z2:=Tryz.sizeOf2
 v2:=Tryz.zeroValue2
 t3:=Tryz.underlying3
 a3:=Tryz.isAgg3
 z3:=Tryz.sizeOf3
 v3:=Tryz.zeroValue3
 t4:=Tryz.underlying4
 a4:=Tryz.isAgg4
 z4:=Tryz.sizeOf4
 v4:=Tryz.zeroValue4
 t5:=Tryz.underlying5
 a5:=Tryz.isAgg5
 z5:=Tryz.sizeOf5
 v5:=Tryz.zeroValue5
 t9:=Tryz.underlying9
 a9:=Tryz.isAgg9
 z9:=Tryz.sizeOf9
 v9:=Tryz.zeroValue9
 t20:=Tryz.underlying20
 a20:=Tryz.isAgg20
 z20:=Tryz.sizeOf20
 v20:=Tryz.zeroValue20
 t21:=Tryz.underlying21
 a21:=Tryz.isAgg21
 z21:=Tryz.sizeOf21
 v21:=Tryz.zeroValue21
 t37:=Tryz.underlying99
 a37:=Tryz.isAgg99
 z37:=Tryz.sizeOf99
 v37:=Tryz.zeroValue99
 t46:=Tryz.underlying197
 a46:=Tryz.isAgg197
 z46:=Tryz.sizeOf197
 v46:=Tryz.zeroValue197
 t51:=Tryz.underlying238
 a51:=Tryz.isAgg238
 z51:=Tryz.sizeOf238
 v51:=Tryz.zeroValue238
 t53:=Tryz.underlying43
 a53:=Tryz.isAgg43
 z53:=Tryz.sizeOf43
 v53:=Tryz.zeroValue43
 t75:=Tryz.underlying103
 a75:=Tryz.isAgg103
 z75:=Tryz.sizeOf103
 v75:=Tryz.zeroValue103
 t76:=Tryz.underlying104
 a76:=Tryz.isAgg104
 z76:=Tryz.sizeOf104
 v76:=Tryz.zeroValue104
 t85:=Tryz.underlying392
 a85:=Tryz.isAgg392
 z85:=Tryz.sizeOf392
 v85:=Tryz.zeroValue392
 t127:=Tryz.underlying155
 a127:=Tryz.isAgg155
 z127:=Tryz.sizeOf155
 v127:=Tryz.zeroValue155
 t143:=Tryz.underlying404
 a143:=Tryz.isAgg404
 z143:=Tryz.sizeOf404
 v143:=Tryz.zeroValue404
 t145:=Tryz.underlying406
 a145:=Tryz.isAgg406
 z145:=Tryz.sizeOf406
 v145:=Tryz.zeroValue406
 t167:=Tryz.underlying391
 a167:=Tryz.isAgg391
 z167:=Tryz.sizeOf391
 v167:=Tryz.zeroValue391
 t168:=Tryz.underlying394
 a168:=Tryz.isAgg394
 z168:=Tryz.sizeOf394
 v168:=Tryz.zeroValue394
 t171:=Tryz.underlying190
 a171:=Tryz.isAgg190
 z171:=Tryz.sizeOf190
 v171:=Tryz.zeroValue190
 t173:=Tryz.underlying193
 a173:=Tryz.isAgg193
 z173:=Tryz.sizeOf193
 v173:=Tryz.zeroValue193
 t175:=Tryz.underlying398
 a175:=Tryz.isAgg398
 z175:=Tryz.sizeOf398
 v175:=Tryz.zeroValue398
 t210:=Tryz.underlying401
 a210:=Tryz.isAgg401
 z210:=Tryz.sizeOf401
 v210:=Tryz.zeroValue401
 t212:=Tryz.underlying237
 a212:=Tryz.isAgg237
 z212:=Tryz.sizeOf237
 v212:=Tryz.zeroValue237
 t213:=Tryz.underlying239
 a213:=Tryz.isAgg239
 z213:=Tryz.sizeOf239
 t232:=Tryz.underlying324
 a232:=Tryz.isAgg324
 z232:=Tryz.sizeOf324
 v232:=Tryz.zeroValue324
 t233:=Tryz.underlying325
 a233:=Tryz.isAgg325
 z233:=Tryz.sizeOf325
 v233:=Tryz.zeroValue325
 g15:=by kernel_rfl
 g16:=by kernel_rfl
 g17:=by kernel_rfl
 g18:=by kernel_rfl
 g19:=by kernel_rfl }
open Go.RowKit in
theorem Tryz.strconv_Atoi(s:ByteArray)(n:Int)(hl:s.size<=18)(h:Lib.atoi s.data.toList=some n)(w:World) :
  Calls Tryz.prog 318 #[.string s] w λ e w'=>e=.returned (.tuple #[.int .i64 n,.nilIface])/\∃ t,w'=Lib.bytesWorld w 5 t:=Any.strconv_Atoi Tryz.Sp s n hl h w
def Tryz.D3:Go.Shelf.Ren:=⟨fun|173=>31|246=>65|283=>107|284=>108|285=>109|286=>110|129=>151|317=>150|318=>152|319=>153|320=>154|337=>200|338=>201|n=>n,fun|2=>2|3=>3|9=>9|4=>4|171=>190|0=>0|53=>43|37=>99|5=>5|173=>193|212=>237|51=>238|20=>20|213=>239|46=>197|232=>324|233=>325|n=>n,fun|17=>0|18=>2|19=>3|n=>n⟩
def Tryz.OD:Go.Proofs.LaysM.n173 Tryz.prog Tryz.D3:={
 mixed:=by kernel_rfl
 f129:=Tryz.func151.trans (congrArg some (by kernel_rfl))
 f173:=Tryz.func31.trans (congrArg some (by kernel_rfl))
 f246:=Tryz.func65.trans (congrArg some (by kernel_rfl))
 f283:=Tryz.func107.trans (congrArg some (by kernel_rfl))
 f284:=Tryz.func108.trans (congrArg some (by kernel_rfl))
 f285:=Tryz.func109.trans (congrArg some (by kernel_rfl))
 f286:=Tryz.func110.trans (congrArg some (by kernel_rfl))
 f317:=Tryz.func150.trans (congrArg some (by kernel_rfl))
 f318:=Tryz.func152.trans (congrArg some (by kernel_rfl))
 f319:=Tryz.func153.trans (congrArg some (by kernel_rfl))
 f320:=Tryz.func154.trans (congrArg some (by kernel_rfl))
 f337:=Tryz.func200.trans (congrArg some (by kernel_rfl))
 f338:=Tryz.func201.trans (congrArg some (by kernel_rfl))
 t0:=Tryz.underlying0
 a0:=Tryz.isAgg0
 z0:=Tryz.sizeOf0
 v0:=Tryz.zeroValue0
 t2:=Tryz.underlying2
 a2:=Tryz.isAgg2
 z2:=Tryz.sizeOf2
 v2:=Tryz.zeroValue2
 t3:=Tryz.underlying3
 a3:=Tryz.isAgg3
 z3:=Tryz.sizeOf3
 v3:=Tryz.zeroValue3
 t4:=Tryz.underlying4
 a4:=Tryz.isAgg4
 z4:=Tryz.sizeOf4
 v4:=Tryz.zeroValue4
 t5:=Tryz.underlying5
 a5:=Tryz.isAgg5
 z5:=Tryz.sizeOf5
 v5:=Tryz.zeroValue5
 t9:=Tryz.underlying9
 a9:=Tryz.isAgg9
 z9:=Tryz.sizeOf9
 v9:=Tryz.zeroValue9
 t20:=Tryz.underlying20
 a20:=Tryz.isAgg20
 z20:=Tryz.sizeOf20
 v20:=Tryz.zeroValue20
 t37:=Tryz.underlying99
 a37:=Tryz.isAgg99
 z37:=Tryz.sizeOf99
 v37:=Tryz.zeroValue99
 t46:=Tryz.underlying197
 a46:=Tryz.isAgg197
 z46:=Tryz.sizeOf197
 v46:=Tryz.zeroValue197
 t51:=Tryz.underlying238
 a51:=Tryz.isAgg238
 z51:=Tryz.sizeOf238
 v51:=Tryz.zeroValue238
 t53:=Tryz.underlying43
 a53:=Tryz.isAgg43
 z53:=Tryz.sizeOf43
 v53:=Tryz.zeroValue43
 t171:=Tryz.underlying190
 a171:=Tryz.isAgg190
 z171:=Tryz.sizeOf190
 v171:=Tryz.zeroValue190
 t173:=Tryz.underlying193
 a173:=Tryz.isAgg193
 z173:=Tryz.sizeOf193
 v173:=Tryz.zeroValue193
 t212:=Tryz.underlying237
 a212:=Tryz.isAgg237
 z212:=Tryz.sizeOf237
 v212:=Tryz.zeroValue237
 t213:=Tryz.underlying239
 a213:=Tryz.isAgg239
 z213:=Tryz.sizeOf239
 t232:=Tryz.underlying324
 a232:=Tryz.isAgg324
 z232:=Tryz.sizeOf324
 v232:=Tryz.zeroValue324
 t233:=Tryz.underlying325
 a233:=Tryz.isAgg325
 z233:=Tryz.sizeOf325
 v233:=Tryz.zeroValue325
 g17:=by kernel_rfl
 g18:=by kernel_rfl
 g19:=by kernel_rfl
 i0:=by kernel_rfl
 i2:=by kernel_rfl
 i3:=by kernel_rfl
 i4:=by kernel_rfl
 i5:=by kernel_rfl
 i9:=by kernel_rfl
 i20:=by kernel_rfl
 i37:=by kernel_rfl
 i46:=by kernel_rfl
 i51:=by kernel_rfl
 i53:=by kernel_rfl
 i171:=by kernel_rfl
 i173:=by kernel_rfl
 i212:=by kernel_rfl
 i232:=by kernel_rfl
 i233:=by kernel_rfl
 m17:=by kernel_rfl
 m18:=by kernel_rfl
 m19:=by kernel_rfl }
open Go.RowKit Go.Sort Go.Lib in
theorem Tryz.strconv_FormatInt_10(n:Int)(h0 : -9223372036854775808<=n)(h1:n<=9223372036854775807)(w:World) (htab:Lib.TabIs Tryz.prog w "internal/strconv.uint64pow10" .u64 Lib.pow10Tab) :
  Calls Tryz.prog 31 #[.int .i64 n,.int .i64 10] w λ e w'=>e=.returned (.string ⟨(Lib.itoa n).toArray⟩)/\∃ k os,w'=grow (w.drewN k) os:=Any.strconv_FormatInt_10 Tryz.OD n h0 h1 w htab
def Tryz.D2:Go.Shelf.Ren:=⟨fun|171=>30|243=>64|246=>65|283=>107|284=>108|285=>109|286=>110|129=>151|317=>150|318=>152|319=>153|320=>154|337=>200|338=>201|n=>n,fun|3=>3|9=>9|2=>2|4=>4|171=>190|0=>0|53=>43|37=>99|5=>5|173=>193|212=>237|51=>238|20=>20|213=>239|46=>197|232=>324|233=>325|n=>n,fun|17=>0|18=>2|19=>3|n=>n⟩
def Tryz.OC:Go.Proofs.LaysM.n171 Tryz.prog Tryz.D2:={
 mixed:=by kernel_rfl
 f129:=Tryz.func151.trans (congrArg some (by kernel_rfl))
 f171:=Tryz.func30.trans (congrArg some (by kernel_rfl))
 f243:=Tryz.func64.trans (congrArg some (by kernel_rfl))
 f246:=Tryz.func65.trans (congrArg some (by kernel_rfl))
 f283:=Tryz.func107.trans (congrArg some (by kernel_rfl))
 f284:=Tryz.func108.trans (congrArg some (by kernel_rfl))
 f285:=Tryz.func109.trans (congrArg some (by kernel_rfl))
 f286:=Tryz.func110.trans (congrArg some (by kernel_rfl))
 f317:=Tryz.func150.trans (congrArg some (by kernel_rfl))
 f318:=Tryz.func152.trans (congrArg some (by kernel_rfl))
 f319:=Tryz.func153.trans (congrArg some (by kernel_rfl))
 f320:=Tryz.func154.trans (congrArg some (by kernel_rfl))
 f337:=Tryz.func200.trans (congrArg some (by kernel_rfl))
 f338:=Tryz.func201.trans (congrArg some (by kernel_rfl))
 t0:=Tryz.underlying0
 a0:=Tryz.isAgg0
 z0:=Tryz.sizeOf0
 v0:=Tryz.zeroValue0
 t2:=Tryz.underlying2
 a2:=Tryz.isAgg2
 z2:=Tryz.sizeOf2
 v2:=Tryz.zeroValue2
 t3:=Tryz.underlying3
 a3:=Tryz.isAgg3
 z3:=Tryz.sizeOf3
 v3:=Tryz.zeroValue3
 t4:=Tryz.underlying4
 a4:=Tryz.isAgg4
 z4:=Tryz.sizeOf4
 v4:=Tryz.zeroValue4
 t5:=Tryz.underlying5
 a5:=Tryz.isAgg5
 z5:=Tryz.sizeOf5
 v5:=Tryz.zeroValue5
 t9:=Tryz.underlying9
 a9:=Tryz.isAgg9
 z9:=Tryz.sizeOf9
 v9:=Tryz.zeroValue9
 t20:=Tryz.underlying20
 a20:=Tryz.isAgg20
 z20:=Tryz.sizeOf20
 v20:=Tryz.zeroValue20
 t37:=Tryz.underlying99
 a37:=Tryz.isAgg99
 z37:=Tryz.sizeOf99
 v37:=Tryz.zeroValue99
 t46:=Tryz.underlying197
 a46:=Tryz.isAgg197
 z46:=Tryz.sizeOf197
 v46:=Tryz.zeroValue197
 t51:=Tryz.underlying238
 a51:=Tryz.isAgg238
 z51:=Tryz.sizeOf238
 v51:=Tryz.zeroValue238
 t53:=Tryz.underlying43
 a53:=Tryz.isAgg43
 z53:=Tryz.sizeOf43
 v53:=Tryz.zeroValue43
 t171:=Tryz.underlying190
 a171:=Tryz.isAgg190
 z171:=Tryz.sizeOf190
 v171:=Tryz.zeroValue190
 t173:=Tryz.underlying193
 a173:=Tryz.isAgg193
 z173:=Tryz.sizeOf193
 v173:=Tryz.zeroValue193
 t212:=Tryz.underlying237
 a212:=Tryz.isAgg237
 z212:=Tryz.sizeOf237
 v212:=Tryz.zeroValue237
 t213:=Tryz.underlying239
 a213:=Tryz.isAgg239
 z213:=Tryz.sizeOf239
 t232:=Tryz.underlying324
 a232:=Tryz.isAgg324
 z232:=Tryz.sizeOf324
 v232:=Tryz.zeroValue324
 t233:=Tryz.underlying325
 a233:=Tryz.isAgg325
 z233:=Tryz.sizeOf325
 v233:=Tryz.zeroValue325
 g17:=by kernel_rfl
 g18:=by kernel_rfl
 g19:=by kernel_rfl
 i0:=by kernel_rfl
 i2:=by kernel_rfl
 i3:=by kernel_rfl
 i4:=by kernel_rfl
 i5:=by kernel_rfl
 i9:=by kernel_rfl
 i20:=by kernel_rfl
 i37:=by kernel_rfl
 i46:=by kernel_rfl
 i51:=by kernel_rfl
 i53:=by kernel_rfl
 i171:=by kernel_rfl
 i173:=by kernel_rfl
 i212:=by kernel_rfl
 i232:=by kernel_rfl
 i233:=by kernel_rfl
 m17:=by kernel_rfl
 m18:=by kernel_rfl
 m19:=by kernel_rfl }
open Go.RowKit Go.Sort Go.Lib in
theorem Tryz.strconv_Itoa(n:Int)(h0 : -9223372036854775808<=n)(h1:n<=9223372036854775807)(w:World) (htab:Lib.TabIs Tryz.prog w "internal/strconv.uint64pow10" .u64 Lib.pow10Tab) :
  Calls Tryz.prog 30 #[.int .i64 n] w λ e w'=>e=.returned (.string ⟨(Lib.itoa n).toArray⟩)/\∃ k os,w'=grow (w.drewN k) os:=Any.strconv_Itoa Tryz.OC n h0 h1 w htab
def Tryz.FT:Go.Shelf.Ren:=⟨fun|151=>325|152=>353|137=>365|119=>366|224=>347|225=>346|217=>345|266=>358|n=>n,fun|9=>9|21=>21|4=>4|3=>3|5=>5|0=>0|46=>197|n=>n,fun|n=>n⟩
def Tryz.So:Go.Proofs.Lays.n151 Tryz.prog Tryz.FT:={
 mixed:=by kernel_rfl
 f119:=Tryz.func366.trans (congrArg some (by kernel_rfl))
 f137:=Tryz.func365.trans (congrArg some (by kernel_rfl))
 f151:=Tryz.func325.trans (congrArg some (by kernel_rfl))
 f152:=Tryz.func353.trans (congrArg some (by kernel_rfl))
 f217:=Tryz.func345.trans (congrArg some (by kernel_rfl))
 f224:=Tryz.func347.trans (congrArg some (by kernel_rfl))
 f225:=Tryz.func346.trans (congrArg some (by kernel_rfl))
 f266:=Tryz.func358.trans (congrArg some (by kernel_rfl))
 t0:=Tryz.underlying0
 a0:=Tryz.isAgg0
 z0:=Tryz.sizeOf0
 v0:=Tryz.zeroValue0
 t3:=Tryz.underlying3
 a3:=Tryz.isAgg3
 z3:=Tryz.sizeOf3
 v3:=Tryz.zeroValue3
 t4:=Tryz.underlying4
 a4:=Tryz.isAgg4
 z4:=Tryz.sizeOf4
 v4:=Tryz.zeroValue4
 t5:=Tryz.underlying5
 a5:=Tryz.isAgg5
 z5:=Tryz.sizeOf5
 v5:=Tryz.zeroValue5
 t9:=Tryz.underlying9
 a9:=Tryz.isAgg9
 z9:=Tryz.sizeOf9
 v9:=Tryz.zeroValue9
 t21:=Tryz.underlying21
 a21:=Tryz.isAgg21
 z21:=Tryz.sizeOf21
 v21:=Tryz.zeroValue21
 t46:=Tryz.underlying197
 a46:=Tryz.isAgg197
 z46:=Tryz.sizeOf197
 v46:=Tryz.zeroValue197 }
open Go.RowKit Go.Lib in
theorem Tryz.strings_ContainsRune_ascii(s:ByteArray)(r:Int)(w:World)(h0:0<=r)(h1:r<128) :
  Calls Tryz.prog 325 #[.string s,.int .i32 r] w λ e w'=>e=.returned (.bool (decide (0<=Lib.indexByte s.data.toList r.toNat.toUInt8)))/\w'=w:=Any.strings_ContainsRune_ascii Tryz.So s r w h0 h1
def Tryz.FQ:Go.Shelf.Ren:=⟨fun|138=>262|195=>314|218=>316|143=>263|219=>317|217=>345|225=>346|224=>347|267=>348|266=>358|314=>359|n=>n,fun|9=>9|3=>3|4=>4|5=>5|0=>0|46=>197|146=>389|51=>238|n=>n,fun|1=>1|n=>n⟩
def Tryz.Sl:Go.Proofs.Lays.n138 Tryz.prog Tryz.FQ:={
 mixed:=by kernel_rfl
 f138:=Tryz.func262.trans (congrArg some (by kernel_rfl))
 f143:=Tryz.func263.trans (congrArg some (by kernel_rfl))
 f195:=Tryz.func314.trans (congrArg some (by kernel_rfl))
 f217:=Tryz.func345.trans (congrArg some (by kernel_rfl))
 f218:=Tryz.func316.trans (congrArg some (by kernel_rfl))
 f219:=Tryz.func317.trans (congrArg some (by kernel_rfl))
 f224:=Tryz.func347.trans (congrArg some (by kernel_rfl))
 f225:=Tryz.func346.trans (congrArg some (by kernel_rfl))
 f266:=Tryz.func358.trans (congrArg some (by kernel_rfl))
 f267:=Tryz.func348.trans (congrArg some (by kernel_rfl))
 f314:=Tryz.func359.trans (congrArg some (by kernel_rfl))
 t0:=Tryz.underlying0
 a0:=Tryz.isAgg0
 z0:=Tryz.sizeOf0
 v0:=Tryz.zeroValue0
 t3:=Tryz.underlying3
 a3:=Tryz.isAgg3
 z3:=Tryz.sizeOf3
 v3:=Tryz.zeroValue3
 t4:=Tryz.underlying4
 a4:=Tryz.isAgg4
 z4:=Tryz.sizeOf4
 v4:=Tryz.zeroValue4
 t5:=Tryz.underlying5
 a5:=Tryz.isAgg5
 z5:=Tryz.sizeOf5
 v5:=Tryz.zeroValue5
 t9:=Tryz.underlying9
 a9:=Tryz.isAgg9
 z9:=Tryz.sizeOf9
 v9:=Tryz.zeroValue9
 t46:=Tryz.underlying197
 a46:=Tryz.isAgg197
 z46:=Tryz.sizeOf197
 v46:=Tryz.zeroValue197
 t51:=Tryz.underlying238
 a51:=Tryz.isAgg238
 z51:=Tryz.sizeOf238
 v51:=Tryz.zeroValue238
 t146:=Tryz.underlying389
 a146:=Tryz.isAgg389
 z146:=Tryz.sizeOf389
 v146:=Tryz.zeroValue389
 g1:=by kernel_rfl }
open Go.RowKit Go.Lib in
theorem Tryz.strings_Count_one(s:ByteArray)(c:UInt8)(w:World) :
  Calls Tryz.prog 262 #[.string s,.string ⟨#[c]⟩] w λ e w'=>e=.returned (.int .i64 (Lib.countByte s.data.toList c))/\w'=w:=Any.strings_Count_one Tryz.Sl s c w
def Tryz.FP:Go.Shelf.Ren:=⟨fun|137=>365|217=>345|266=>358|n=>n,fun|9=>9|5=>5|3=>3|n=>n,fun|n=>n⟩
def Tryz.Sk:Go.Proofs.Lays.n137 Tryz.prog Tryz.FP:={
 mixed:=by kernel_rfl
 f137:=Tryz.func365.trans (congrArg some (by kernel_rfl))
 f217:=Tryz.func345.trans (congrArg some (by kernel_rfl))
 f266:=Tryz.func358.trans (congrArg some (by kernel_rfl))
 t3:=Tryz.underlying3
 a3:=Tryz.isAgg3
 z3:=Tryz.sizeOf3
 v3:=Tryz.zeroValue3
 t5:=Tryz.underlying5
 a5:=Tryz.isAgg5
 z5:=Tryz.sizeOf5
 v5:=Tryz.zeroValue5
 t9:=Tryz.underlying9
 a9:=Tryz.isAgg9
 z9:=Tryz.sizeOf9
 v9:=Tryz.zeroValue9 }
open Go.RowKit in
theorem Tryz.strings_IndexByte(s:ByteArray)(c:Int)(w:World) :
  Calls Tryz.prog 365 #[.string s,.int .u8 c] w λ e w'=>e=.returned (.int .i64 (Lib.indexByte s.data.toList c.toNat.toUInt8))/\w'=w:=Any.strings_IndexByte Tryz.Sk s c w
def Tryz.FR:Go.Shelf.Ren:=⟨fun|143=>263|219=>317|217=>345|225=>346|224=>347|267=>348|266=>358|314=>359|n=>n,fun|9=>9|3=>3|4=>4|5=>5|46=>197|146=>389|51=>238|n=>n,fun|1=>1|n=>n⟩
def Tryz.Sn:Go.Proofs.Lays.n143 Tryz.prog Tryz.FR:={
 mixed:=by kernel_rfl
 f143:=Tryz.func263.trans (congrArg some (by kernel_rfl))
 f217:=Tryz.func345.trans (congrArg some (by kernel_rfl))
 f219:=Tryz.func317.trans (congrArg some (by kernel_rfl))
 f224:=Tryz.func347.trans (congrArg some (by kernel_rfl))
 f225:=Tryz.func346.trans (congrArg some (by kernel_rfl))
 f266:=Tryz.func358.trans (congrArg some (by kernel_rfl))
 f267:=Tryz.func348.trans (congrArg some (by kernel_rfl))
 f314:=Tryz.func359.trans (congrArg some (by kernel_rfl))
 t3:=Tryz.underlying3
 a3:=Tryz.isAgg3
 z3:=Tryz.sizeOf3
 v3:=Tryz.zeroValue3
 t4:=Tryz.underlying4
 a4:=Tryz.isAgg4
 z4:=Tryz.sizeOf4
 v4:=Tryz.zeroValue4
 t5:=Tryz.underlying5
 a5:=Tryz.isAgg5
 z5:=Tryz.sizeOf5
 v5:=Tryz.zeroValue5
 t9:=Tryz.underlying9
 a9:=Tryz.isAgg9
 z9:=Tryz.sizeOf9
 v9:=Tryz.zeroValue9
 t46:=Tryz.underlying197
 a46:=Tryz.isAgg197
 z46:=Tryz.sizeOf197
 v46:=Tryz.zeroValue197
 t51:=Tryz.underlying238
 a51:=Tryz.isAgg238
 z51:=Tryz.sizeOf238
 v51:=Tryz.zeroValue238
 t146:=Tryz.underlying389
 a146:=Tryz.isAgg389
 z146:=Tryz.sizeOf389
 v146:=Tryz.zeroValue389
 g1:=by kernel_rfl }
open Go.RowKit Go.Lib in
theorem Tryz.strings_Index_one(s:ByteArray)(c:UInt8)(w:World) :
  Calls Tryz.prog 263 #[.string s,.string ⟨#[c]⟩] w λ e w'=>e=.returned (.int .i64 (Lib.indexByte s.data.toList c))/\w'=w:=Any.strings_Index_one Tryz.Sn s c w
def Tryz.nP:Go.Shelf.Ren:=⟨fun|156=>63|165=>106|166=>27|169=>32|240=>62|241=>149|276=>105|277=>199|n=>n,fun|31=>108|9=>9|3=>3|4=>4|0=>0|20=>20|72=>101|76=>104|70=>98|37=>99|75=>103|127=>155|164=>188|5=>5|80=>110|n=>n,fun|n=>n⟩
def Tryz.D1:Go.Proofs.Lays.n156 Tryz.prog Tryz.nP:={
 mixed:=by kernel_rfl
 f156:=Tryz.func63.trans (congrArg some (by kernel_rfl))
 f165:=Tryz.func106.trans (congrArg some (by kernel_rfl))
 f166:=Tryz.func27.trans (congrArg some (by kernel_rfl))
 f169:=Tryz.func32.trans (congrArg some (by kernel_rfl))
 f240:=Tryz.func62.trans (congrArg some (by kernel_rfl))
 f241:=Tryz.func149.trans (congrArg some (by kernel_rfl))
 f276:=Tryz.func105.trans (congrArg some (by kernel_rfl))
 f277:=Tryz.func199.trans (congrArg some (by kernel_rfl))
 t0:=Tryz.underlying0
 a0:=Tryz.isAgg0
 z0:=Tryz.sizeOf0
 v0:=Tryz.zeroValue0
 t3:=Tryz.underlying3
 a3:=Tryz.isAgg3
 z3:=Tryz.sizeOf3
 v3:=Tryz.zeroValue3
 t4:=Tryz.underlying4
 a4:=Tryz.isAgg4
 z4:=Tryz.sizeOf4
 v4:=Tryz.zeroValue4
 t9:=Tryz.underlying9
 a9:=Tryz.isAgg9
 z9:=Tryz.sizeOf9
 v9:=Tryz.zeroValue9
 t20:=Tryz.underlying20
 a20:=Tryz.isAgg20
 z20:=Tryz.sizeOf20
 v20:=Tryz.zeroValue20
 t31:=Tryz.underlying108
 a31:=Tryz.isAgg108
 z31:=Tryz.sizeOf108
 v31:=Tryz.zeroValue108
 t37:=Tryz.underlying99
 a37:=Tryz.isAgg99
 z37:=Tryz.sizeOf99
 v37:=Tryz.zeroValue99
 t70:=Tryz.underlying98
 a70:=Tryz.isAgg98
 z70:=Tryz.sizeOf98
 v70:=Tryz.zeroValue98
 t72:=Tryz.underlying101
 a72:=Tryz.isAgg101
 z72:=Tryz.sizeOf101
 v72:=Tryz.zeroValue101
 t75:=Tryz.underlying103
 a75:=Tryz.isAgg103
 z75:=Tryz.sizeOf103
 v75:=Tryz.zeroValue103
 t76:=Tryz.underlying104
 a76:=Tryz.isAgg104
 z76:=Tryz.sizeOf104
 v76:=Tryz.zeroValue104
 t127:=Tryz.underlying155
 a127:=Tryz.isAgg155
 z127:=Tryz.sizeOf155
 v127:=Tryz.zeroValue155
 t164:=Tryz.underlying188
 a164:=Tryz.isAgg188
 z164:=Tryz.sizeOf188
 v164:=Tryz.zeroValue188 }
def Tryz.j3:Builder.Extra Tryz.prog Tryz.nP:={
 sizeBuilder:=by kernel_rfl
 liesBuilder:=by kernel_rfl
 t5:=Tryz.underlying5
 a5:=Tryz.isAgg5
 z5:=Tryz.sizeOf5
 v5:=Tryz.zeroValue5
 infoByte:=by kernel_rfl
 cellsByte:=by kernel_rfl
 sizeByte:=by kernel_rfl
 neB5:=by decide }
open Go.RowKit in
theorem Tryz.strings_Join(bk o c:Nat)(xs:List ByteArray)(sep:ByteArray)(w:World)(hcells:∀ (j:Nat) x,xs[j]?=some x->w.cell? ⟨bk,o+j,none⟩=some (.string x))(hbk:bk<w.heap.size)(hN:xs.length<=140737488355328)(hcap:xs.length<=c)(hlen:(Lib.join (xs.map (·.data.toList)) sep.data.toList).length<=140737488355328) :
  Calls Tryz.prog 63 #[.slice (some ⟨bk,o,none⟩) xs.length c,.string sep] w λ e w'=>e=.returned (.string ⟨(Lib.join (xs.map (·.data.toList)) sep.data.toList).toArray⟩)/\Below w.heap.size w w':=Any.strings_Join Tryz.D1 Tryz.j3 bk o c xs sep w hcells hbk hN hcap hlen
def Tryz.FO:Go.Shelf.Ren:=⟨fun|119=>366|n=>n,fun|21=>21|4=>4|n=>n,fun|n=>n⟩
def Tryz.Sj:Go.Proofs.Lays.n119 Tryz.prog Tryz.FO:={
 mixed:=by kernel_rfl
 f119:=Tryz.func366.trans (congrArg some (by kernel_rfl))
 t4:=Tryz.underlying4
 a4:=Tryz.isAgg4
 z4:=Tryz.sizeOf4
 v4:=Tryz.zeroValue4
 t21:=Tryz.underlying21
 a21:=Tryz.isAgg21
 z21:=Tryz.sizeOf21
 v21:=Tryz.zeroValue21 }
def Tryz.utf8_ValidRune(r:Int)(w:World) :
  Calls Tryz.prog 366 #[.int .i32 r] w λ e w'=>e=.returned (.bool (Lib.validRune r))/\w'=w:=Any.utf8_ValidRune Tryz.Sj r w
end Go.Proofs
namespace Go.Proofs.YtjcfdidmajodiaaGreatDoor
open Go Go.Vc _root_.Go.Proofs.Tryz
def marks:List UInt8:=[123,125,40,41,44,58,64,43,45,61]
def Zn(c:UInt8)(h:128<=c.toNat):∃ a b:UInt8,Utf8.encode (un c)=bs [a,b]/\128<=b.toNat:=by
 have hc:=c.toNat_lt;refine⟨UInt8.ofNat (0xC0+c.toNat / 64),UInt8.ofNat (0x80+c.toNat%64),?_,?_⟩
 ·have d:Utf8.valid (un c)=true:=by
   unfold Utf8.valid un
   simp
   omega
  have h1:(un c).toNat=c.toNat:=by unfold un; exact aD _
  unfold Utf8.encode;simp only[d,pG,h1];rw[ah (by omega),ak (by omega)];rfl
 ·rw[HA];omega
open Go.Shelf Go.RowKit Go.Lib in
set_option maxHeartbeats 2000000 in
set_option maxRecDepth 1000000 in
theorem ir(w:af)(n:Int)(h0:0<=n)(h1 : ¬ n<128)(h2:n<256)(h3:(n==65533)=false)(a b:UInt8)(he:Utf8.encode n=⟨#[a,b]⟩)(hv:Lib.validRune n=true)(hb:128<=b.toNat) :
  Calls prog 353 #[.string ⟨#[123,125,40,41,44,58,64,43,45,61]⟩,.int .i32 n] w λ e w'=>e=.returned (.int .i64 (-1))/\aC w w' []:=by
 have e289:∀ args w,(callFunc 365 args).run prog w=.ok (.enter 365 args) w:=enters_of func365 (by kernel_rfl) rfl;have e290:∀ args w,(callFunc 366 args).run prog w=.ok (.enter 366 args) w:=enters_of func366 (by kernel_rfl) rfl
 go_enter func353,Tryz.ntmps353
 go_wp2_with (first
  | (go_at_fn 366; refine(Tryz.utf8_ValidRune _ _).mono ?_; rintro e w' ⟨rfl,hw⟩; rw[hw,hv])
  | (go_at_fn 365; refine(Tryz.strings_IndexByte _ _ _).mono ?_; rintro e w' ⟨rfl,hw⟩; rw[hw]))
 have hcv:∀ w,(convert 21 9 (.int .i32 n)).run prog w=.ok (.string ⟨#[a,b]⟩) w:=λ w=>by
  rw[<- he];simp[convert,bu (P:=prog) underlying21,bu (P:=prog) underlying9,Conv.intToString]
 go_step3
 go_wp2_with (first
  | (go_at_fn 365; refine(Tryz.strings_IndexByte _ _ _).mono ?_; rintro e w' ⟨rfl,hw⟩; rw[hw]))
 refine wp_loop_once ?_;have hb2:((125:Int) !=(b.toNat:Int))=true:=by rw[yL]; omega
 have hne:∀ x:UInt8,x.toNat<128->(x==b)=false:=λ x hx=>by rw[aS]; rintro rfl; omega
 go_wp2_with (first
  | (go_at_fn 365; refine(Tryz.strings_IndexByte _ _ _).mono ?_; rintro e w' ⟨rfl,hw⟩; rw[hw]))
 all_goals (try go_step3)
 go_wp2_with (first
  | (go_at_fn 365; refine(Tryz.strings_IndexByte _ _ _).mono ?_; rintro e w' ⟨rfl,hw⟩; rw[hw]))
 all_goals go_region
 all_goals go_wp2
 ·have hi:Lib.indexByte [40,41,44,58,64,43,45,61] ((⟨#[a,b]⟩:ByteArray)[1]'(by show 1<2; decide))=-1:=by
   show Lib.indexByte [40,41,44,58,64,43,45,61] b=-1;simp[Lib.indexByte,hne 40 (by decide),hne 41 (by decide),hne 44 (by decide),hne 58 (by decide),hne 64 (by decide),hne 43 (by decide),hne 45 (by decide),hne 61 (by decide)]
  have c2:aC w w.drew.drew []:=(aC.drew w []).trans (aC.drew _ []) (by simp)
  go_region_with (go_at_call 365; refine(Tryz.strings_IndexByte _ _ _).mono ?_; rintro e w' ⟨rfl,hw⟩; rw[hw])
  all_goals go_wp2
  all_goals (rw[Exit.noGoto_ret]; show bodyPost prog Tryz.f353 (λ e w'=>e=Ending.returned (Value.int IntKind.i64 (-1))/\aC w w' []) Exit.ret _ _; go_ret; exact⟨rfl,c2⟩)
 ·exfalso
  first
   | exact absurd hb2 (show ¬ ((125:Int) !=(b.toNat:Int))=true by assumption)
   | exact absurd hb2 (by rw[show((125:Int) !=(b.toNat:Int))=false by assumption]; decide)
   | exact absurd (show(125:Int)=(b.toNat:Int) by assumption) (by omega)
def FM(w:af)(c:UInt8)(h:128<=c.toNat):CP 353 #[sv marks,.int .i32 (un c)] w (λ r w'=>r=iv (-1)/\aC w w' []):=by
 obtain⟨a,b,he,d⟩:=Zn c h;have hc:=c.toNat_lt;have hu:un c=(c.toNat:Int):=rfl;refine Calls.mono (ir w (un c) (by omega) (by omega) (by omega) (by rw[aS]; omega) a b he (dT (.inl (by omega))) d) ?_;rintro e w' ⟨rfl,h⟩;exact⟨_,rfl,rfl,h⟩
def L0:∀ n:Nat,n<128->decide (0<=Lib.indexByte marks n.toUInt8)=marks.contains n.toUInt8:=by decide
def Ir{c:UInt8}(h:128<=c.toNat):marks.contains c=false:=by
 cases hm:marks.contains c with
 | false=>rfl
 | true =>
  have:c∈marks:=by simpa using hm
  simp only[marks,cJ,mb,mc] at this;rcases this with rfl|rfl|rfl|rfl|rfl|rfl|rfl|rfl|rfl|rfl<;>revert h<;>decide
def HS(w:af)(c:UInt8):CP 325 #[sv marks,.int .i32 (un c)] w (λ r w'=>r=.bool (marks.contains c)/\aC w w' []):=by
 rcases bw c.toNat 128 with h|h
 ·refine(Tryz.strings_ContainsRune_ascii (bs marks) (un c) w (by unfold un; omega) (by unfold un; omega)).mono ?_;rintro e d ⟨rfl,rfl⟩;refine⟨_,rfl,?_,aC.refl _ _⟩;have a:(un c).toNat.toUInt8=c:=by unfold un; rw[aD]; exact Jz
  have:=L0 c.toNat h;have b:c.toNat.toUInt8=c:=Jz;rw[b] at this;rw[a,<- this]; rfl
 ·refine XM.2.1 ?_;refine au (FM w c h) ?_;rintro v d ⟨rfl,c1⟩;exact⟨_,rfl,by rw[Ir h]; rfl,c1⟩
structure Tk where
 k:Int
 t:List UInt8
 v:Int
 a:Int
def Tk.cells(x:Tk):List Value:=[iv x.k,sv x.t,iv x.v,iv x.a]
def Tk.len(x:Tk):x.cells.length=4:=rfl
def Tk.one(x:Tk):∀ v∈x.cells,v.oneCell'=true:=by
 intro v a; simp[Tk.cells] at a; rcases a with rfl|rfl|rfl|rfl<;>rfl
def Tk.val(x:Tk):Value:=.agg x.cells.toArray
def kF:Tk:=⟨0,[],0,0⟩
def Yv:j7 prog 295 338 kF.val 4 40:=j7.mk' underlying295 (by kernel_rfl) rfl (by decide)
def digits(l:List UInt8):List UInt8:=l.takeWhile λ c=>lz (un c)
def word(l:List UInt8):List UInt8:=l.takeWhile λ c=>inr (un c)
def de(l:List UInt8)(n:Nat)(c:UInt8):Tk×Int :=
 if zg (un c) then (if 12<(word (l.drop n)).length then (kF,3) else (⟨1,word (l.drop n),0,n⟩,0))
 else if lz (un c) then (if (oz (digits (l.drop n))).2≠0 then (kF,(oz (digits (l.drop n))).2) else (⟨2,digits (l.drop n),(oz (digits (l.drop n))).1,n⟩,0))
 else if marks.contains c then (⟨3,[c],0,n⟩,0) else (kF,2)
theorem Qx{p:UInt8->Bool}:∀ (l:List UInt8),(l.takeWhile p).all p=true
 | []=>rfl
 | c :: l=>by
  rw[vg]
  split
  ·rename_i h; rw[og,h,Qx l]; rfl
  ·rfl
def VH(w:af){l:List UInt8}(E:l.length<=4000){n:Nat}{c:UInt8}(hc:l[n]?=some c) :
  CP 275 #[sv l,iv n] w (λ r w'=>r=.tuple #[(de l n c).1.val,iv (de l n c).2]/\aC w w' []):=by
 refine vK.2.2.2.2.1 ?_;have F:=(aR.1 hc).1;refine aG kF.cells.toArray λ r1 G s1=>s1.aB kF.cells.toArray λ r2 H s2=>s2.az 0 rfl (Tk.mk 0 [] 0 n).cells rfl (Tk.one _) λ C m=>?_;refine⟨λ u=>(de l n c).2=0/\St w u (Sep [aj r2 (de l n c).1.cells.toArray 338,aj r1 kF.cells.toArray 338,emp]),?_,by omega,?_⟩
 ·rintro u ⟨A,s⟩ -;exact⟨_,_,_,_,s.cellsIn 0 rfl,s.az 1 rfl (de l n c).1.cells rfl (Tk.one _) λ I t=>⟨_,_,_,_,t.cellsIn 1 rfl,by rw[A]; rfl,t.av⟩⟩
 rw[aD,gK,hc];show bO (some c) _;rw[bO,wrap32];refine au (Ai C (un c)) ?_;rintro v _ ⟨rfl,rfl⟩;refine⟨_,rfl,?_⟩;have fail:∀ {e:Int} {w':af},St w w' (Sep [aj r2 (Tk.mk 0 [] 0 n).cells.toArray 338,aj r1 kF.cells.toArray 338,emp])->True:=λ _=>trivial;clear fail
 cases h1:zg (un c) with
 | true =>
  have b:de l n c=if 12<(word (l.drop n)).length then (kF,3) else (⟨1,word (l.drop n),0,n⟩,0):=by rw[de,ak h1]
  refine cT rfl (au (PW _ (by omega) (p:=λ c=>inr (un c)) Sb (by omega)) ?_);rintro v D ⟨rfl,rfl⟩;refine⟨_,rfl,m.aN 0 rfl (j:=0) (show 0<4 by decide) rfl λ x i=>i.aN 0 rfl (j:=1) (show 1<4 by decide) rfl λ q d=>⟨_,d.ag 0 rfl 1,?_⟩⟩;show cond (decide ((((bs (word (l.drop n))).size:Nat):Int)>12)) _ _;rw[dX]
  by_cases g:12<(word (l.drop n)).length
  ·rw[ak g] at b;exact aP (by omega) (d.az 1 rfl kF.cells rfl (Tk.one _) λ f a=>⟨0,bs [],0,0,a.cellsIn 1 rfl,by rw[b]; rfl,a.av⟩)
  ·rw[ah g] at b;exact aU (by omega) ⟨by rw[b],by rw[b]; exact d⟩
 | false =>
 refine cF rfl (au (DJ _ (un c)) ?_);rintro v _ ⟨rfl,rfl⟩;refine⟨_,rfl,?_⟩
 cases h2:lz (un c) with
 | true =>
  have b:de l n c=if (oz (digits (l.drop n))).2≠0 then (kF,(oz (digits (l.drop n))).2) else (⟨2,digits (l.drop n),(oz (digits (l.drop n))).1,n⟩,0):=by rw[de,ah (by rw[h1]; decide),ak h2]
  refine cT rfl (au (PW _ (by omega) (p:=λ c=>lz (un c)) RE (by omega)) ?_);rintro v D ⟨rfl,rfl⟩;refine⟨_,rfl,m.aN 0 rfl (j:=0) (show 0<4 by decide) rfl λ x i=>i.aN 0 rfl (j:=1) (show 1<4 by decide) rfl λ q d=>⟨_,d.ag 0 rfl 1,?_⟩⟩;have B:(digits (l.drop n)).length<=4000:=cC (JA _).length_le (by rw[gH]; omega);refine au (O1 q (l:=digits (l.drop n)) (Qx _) (by omega)) ?_;rintro v _ ⟨rfl,rfl⟩;refine⟨_,_,rfl,?_⟩
  by_cases h3:(oz (digits (l.drop n))).2=0
  ·rw[ah (by simpa using h3)] at b;exact cF (by rw[h3]; rfl) (d.aN 0 rfl (j:=2) (show 2<4 by decide) rfl λ f a=>⟨by rw[b],by rw[b]; exact a⟩)
  ·rw[ak h3] at b;exact cT (by simpa using h3) (d.az 1 rfl kF.cells rfl (Tk.one _) λ f a=>⟨0,bs [],0,0,a.cellsIn 1 rfl,by rw[b]; rfl,a.av⟩)
 | false =>
 refine cF rfl (au (HS _ c) ?_);rintro v o ⟨rfl,k⟩;have h:=m.quiet k;refine⟨_,rfl,?_⟩
 cases h3:marks.contains c with
 | true =>
  have b:de l n c=(⟨3,[c],0,n⟩,0):=by rw[de,ah (by rw[h1]; decide),ah (by rw[h2]; decide),ak h3]
  have y:IntKind.i64.wrap ((n:Int)+1)=((n+1:Nat):Int):=by rw[cA (by omega)]; omega
  have z:(bs l).extract n (n+1)=bs [c]:=by
   rw[zS,Jy]
   congr 1
   rw[List.take_one,List.head?_drop,hc]; rfl
  rw[y,dX];simp only[aD];rw[z];refine cT rfl ⟨by omega,by omega,by omega,by omega,?_⟩;exact(h.quiet (aC.drew o [])).aN 0 rfl (j:=0) (show 0<4 by decide) rfl λ x i=>i.aN 0 rfl (j:=1) (show 1<4 by decide) rfl λ q d=>⟨by rw[b],by rw[b]; exact d⟩
 | false =>
  have b:de l n c=(kF,2):=by rw[de,ah (by rw[h1]; decide),ah (by rw[h2]; decide),ah (by rw[h3]; decide)]
  exact cF rfl (h.az 1 rfl kF.cells rfl (Tk.one _) λ f a=>⟨0,bs [],0,0,a.cellsIn 1 rfl,by rw[b]; rfl,a.av⟩)
def F5{l:List UInt8}{n:Nat}{c:UInt8}(hc:l[n]?=some c)(a:(de l n c).2=0):1<=(de l n c).1.t.length/\n+(de l n c).1.t.length<=l.length:=by
 have b:=(aR.1 hc).1;have hd:l.drop n=c :: l.drop (n+1):=by rw[jC b]; congr 1; exact qP ((gE b).symm.trans hc)
 have d:∀ {p:UInt8->Bool},p c=true->1<=((l.drop n).takeWhile p).length/\n+((l.drop n).takeWhile p).length<=l.length:=λ {p} hp=>by
  have h1:((l.drop n).takeWhile p).length<=(l.drop n).length:=(JA _).length_le;rw[gH] at h1;refine⟨?_,by omega⟩;rw[hd,vg,ak hp]; simp
 unfold de at a ⊢
 split
 ·rename_i h;rw[ak h] at a
  split
  ·rename_i h2; rw[ak h2] at a; cases a
  ·exact d (p:=λ c=>inr (un c)) (by simp[inr,h])
 ·rename_i h;rw[ah h] at a
  split
  ·rename_i h2;rw[ak h2] at a
   split
   ·rename_i h3; rw[ak h3] at a; exact absurd a h3
   ·exact d (p:=λ c=>lz (un c)) h2
  ·rename_i h2;rw[ah h2] at a
   split
   ·exact⟨aO _,by simp; omega⟩
   ·rename_i h3; rw[ah h3] at a; cases a
def qc(l:List UInt8):Nat->Nat->List Tk->List Tk×Int
 | 0,_,acc=>(acc,0)
 | f+1,n,acc=>match l[n]? with
  | none=>(acc,0)
  | some c=>if c=32 then qc l f (n+1) acc else if (de l n c).2≠0 then ([],(de l n c).2) else qc l f (n+(de l n c).1.t.length) (acc++[(de l n c).1])
def bR(l:List UInt8):List Tk×Int:=if 4000<l.length then ([],3) else qc l l.length 0 []
def Qu{w:af}(l:List UInt8) :
  CP 226 #[sv l] w (λ r w'=>∃ a c,r=.tuple #[.slice a (bR l).1.length c,iv (bR l).2]/\St w w' (dK 338 4 Tk.cells a c (bR l).1)):=by
 refine vK.2.1 ?_;rw[dX]
 by_cases s:4000<l.length
 ·refine aP (by omega) ⟨none,0,?_⟩;rw[bR,ak s];exact⟨rfl,(St.start w).dy.first⟩
 refine aU (by omega) ?_;have y:bR l=qc l l.length 0 []:=by rw[bR,ah s]
 refine⟨λ a l1 c n q m=>∃ (k:Nat) (acc:List Tk),n=k/\k<=l.length/\m=l.length-k/\l1=acc.length/\acc.length<=k/\(∃ f,l.length-k<=f/\qc l f k acc=bR l)/\St w q (star (dK 338 4 Tk.cells a c acc) emp),⟨l.length,0,[],rfl,by omega,by omega,rfl,by simp,⟨l.length,by omega,y.symm⟩,(St.start w).dy⟩,?_⟩;rintro q m a l1 c n ⟨k,acc,rfl,F,hm,rfl,z,⟨f,E,b⟩,s1⟩ -
 by_cases i:k<l.length
 ·have hc:l[k]?=some (l[k]'i):=gE i;generalize l[k]'i=x at hc;obtain⟨f,rfl⟩:∃ g,f=g+1:=⟨f-1,by omega⟩;rw[qc,hc] at b;simp only at b;refine aP (by omega) ⟨by omega,?_⟩;rw[aD,gK,hc];show cond ((x.toNat:Int)==32) _ _
  by_cases d:x=32
  ·rw[ak d] at b;exact cT (by rw[d]; rfl) ⟨l.length-(k+1),by omega,k+1,acc,cA (by omega),by omega,rfl,rfl,by omega,⟨f,by omega,b⟩,s1⟩
  rw[ah d] at b;have j:(x.toNat:Int)≠32:=λ h=>d (nI.1 (by have:(32:UInt8).toNat=32:=rfl; omega));refine cF (by simpa using j) (au (VH q (by omega) hc) ?_);rintro v C ⟨rfl,c2⟩;have s2:St w C (Sep [_]):=s1.quiet c2;refine Ex4 ⟨_,rfl,s2.aB kF.cells.toArray λ r1 G A=>A.az 0 rfl (de l k x).1.cells rfl (Tk.one _) λ H p=>?_⟩
  by_cases he:(de l k x).2=0
  ·rw[ah (by simpa using he)] at b;have o:=F5 hc he;refine cF (by rw[he]; rfl) ⟨_,_,_,_,p.cellsIn 0 rfl,dw Yv Tk.len (x:=(de l k x).1) (Tk.one _) (p.out 1 rfl) (by omega) (by omega) (λ a' c' D B=>?_) rfl⟩;have u:St w D (Sep [_,_]):=B;refine⟨_,u.ag 1 rfl 1,l.length-(k+(de l k x).1.t.length),by omega,k+(de l k x).1.t.length,acc++[(de l k x).1],?_,o.2,rfl,rfl,?_,⟨f,by omega,b⟩,u.ay [0]⟩
   ·rw[dX,cA (by omega)]; omega
   ·rw[aY,bS]; omega
  ·rw[ak he] at b;refine cT (by simpa using he) ⟨none,0,?_⟩;rw[<- b];exact⟨rfl,(St.start' p.av).dy.first⟩
 ·have hc:l[k]?=none:=cr (by omega);have e:qc l f k acc=(acc,0):=by
   cases f with
   | zero=>rfl
   | succ f=>rw[qc,hc]
  rw[e] at b;refine aU (by omega) ⟨a,c,?_⟩;rw[<- b];exact⟨rfl,s1.first⟩
def YY(b:Nat)(a:OA)(c:Nat)(l:List Tk)(e:Int):List aI:=[aj b #[.slice a l.length c,iv e] 342,held λ w=>cP 4 Tk.cells w a l]
def oh(w0 w:af)(b:Nat)(l:List Tk)(e:Int)(B:aI):Prop:=∃ a c,l.length<=c/\l.length<=4000/\St w0 w (Sep (YY b a c l e++[B]))
abbrev pt (b:Nat):Value:=.pointer (qs b)
section
variable {w0 w:af} {b:Nat} {l:List Tk} {e:Int} {B:aI}
def oh.quiet{w':af}(h:oh w0 w b l e B)(hc:aC w w' []):oh w0 w' b l e B:=let ⟨a,c,h1,h2,s⟩:=h; ⟨a,c,h1,h2,s.quiet hc⟩
def oh.av(h:oh w0 w b l e B):aC w0 w []:=let ⟨_,_,_,_,s⟩:=h; s.av
def oh.add(h:oh w0 w b l e B){w':af}{A:aI}(k:St w w' A):oh w0 w' b l e (star A B):=by
 obtain⟨a,c,h1,h2,s⟩:=h;have s1:St w0 w' (Sep [A,_,_,B]):=s.and k;exact⟨a,c,h1,h2,(s1.ay [1,2,0,3]).eqv (bX.right (bX.right bX.assoc'))⟩
def oh.drop{A:aI}(h:oh w0 w b l e (star A B)):oh w0 w b l e B:=by
 obtain⟨a,c,h1,h2,s⟩:=h;exact⟨a,c,h1,h2,s.weak (bz.right (bz.right (bz.left ((bz.left (bz.none A)).trans (bX.swap.trans (bX.unit' B)).weak))))⟩
def oh.out{m:List aI}(h:oh w0 w b l e (star (Sep m) B)):∃ d,St w0 w (Sep (m++[d]))/\∀ {w':af} {m':List aI},St w0 w' (Sep (m'++[d]))->oh w0 w' b l e (star (Sep m') B):=by
 obtain⟨a,c,h1,h2,s⟩:=h;refine⟨star (Sep (YY b a c l e)) B,St.open (((s.split (YY b a c l e)).eqv (bX.right (bX.unit' _))).pY),λ k=>⟨a,c,h1,h2,?_⟩⟩;exact St.cat ((k.shut.pY).eqv (bX.right (bX.unit _)))
def oh.frame(h:oh w0 w b l e B):St w0 w B:=by
 obtain⟨a,c,h1,h2,s⟩:=h;exact(s.split [_,_]).second.single
def aT(l:List Tk)(e:Int):Tk:=if e=0 then l.headD kF else kF
def eL(l:List Tk)(e:Int):List Tk:=if e=0 then l.tail else l
def cK(e k:Int):Int:=if e=0 then k else e
def gx(l:List Tk)(e:Int):Int:=cK e (if l.length=0 then 1 else 2)
def fO(m:List UInt8)(l:List Tk)(e:Int):Bool:=decide ((aT l e).k=3)&&(aT l e).t==m
def jX(m:List UInt8)(l:List Tk)(e:Int):List Tk:=if fO m l e then eL l e else l
def K9{w:af}{a:OA}{c:Nat}{l:List Tk}(h:cP 4 Tk.cells w a l)(hc:l.length<=c):cP 4 Tk.cells w (if c=1 then a else Option.map (λ x=>Addr.add x (1*4)) a) l.tail:=λ i x d=>by
 rw[List.getElem?_tail] at d;have hi:=(aR.1 d).1;obtain⟨q,e,b⟩:=h.at d;refine⟨q.add (1*4),_,by rw[ah (by omega),e]; rfl,?_,rfl,rfl⟩;rw[Addr.add_add,<- gT,vh 1 i]; exact b
def vB(m:List UInt8)(l:List Tk)(e:Int):Int:=if fO m l e then e else gx l e
def tA(h:oh w0 w b l e B):CP 276 #[pt b] w (λ r w'=>r=(aT l e).val/\aC w w' []):=by
 obtain⟨a,c,h1,h2,s⟩:=h;refine vK.2.2.2.2.2.1 ?_;have rd:cP 4 Tk.cells w a l:=s.bC 1 rfl;have g0:=s.ag 0 rfl 0; have g1:=s.ag 0 rfl 1;refine aG kF.cells.toArray λ r1 o s1=>?_;have g:=dI g0 s1.av; have n:=dI g1 s1.av;refine⟨λ x j=>x = !(decide (e=0)&&decide (l.length≠0))/\j=o,?_,_,n,?_⟩
 ·rintro j x ⟨rfl,rfl⟩ -
  by_cases he:e=0
  ·cases l with
   | nil=>exact cT (by simp) (s1.az 0 rfl kF.cells rfl (Tk.one _) λ k d=>⟨_,_,_,_,d.cellsIn 0 rfl,by rw[aT,ak he]; rfl,d.av⟩)
   | cons x l =>
    obtain⟨q,m,f⟩:=(rd.av s1.av).at (i:=0) (x:=x) rfl;refine cF (by simp[he]) ⟨_,_,_,g,aq m ⟨by omega,by simp,_,_,_,_,f,s1.az 0 rfl x.cells rfl (Tk.one _) λ k d=>⟨_,_,_,_,d.cellsIn 0 rfl,by rw[aT,ak he]; rfl,d.av⟩⟩⟩
  ·exact cT (by simp[he]) (s1.az 0 rfl kF.cells rfl (Tk.one _) λ k d=>⟨_,_,_,_,d.cellsIn 0 rfl,by rw[aT,ah he]; rfl,d.av⟩)
 ·by_cases he:e=0
  ·refine cF (by simp[he]) ⟨_,_,_,g,?_,rfl⟩;rw[dT he]
   cases l with
   | nil=>rfl
   | cons x l=>simp; omega
  ·exact cT (by simpa using he) ⟨by simp[he],rfl⟩
def mH(h:oh w0 w b l e B)(k:Int):CP 278 #[pt b,iv k] w (λ r w'=>r=.tuple #[]/\oh w0 w' b l (cK e k) B):=by
 obtain⟨a,c,h1,h2,s⟩:=h;refine(p6 vK).1 ?_;refine⟨λ x d=>x=(e==0)/\d=w,?_,_,s.ag 0 rfl 1,rfl,rfl⟩;rintro d x ⟨rfl,rfl⟩ -
 by_cases he:e=0
 ·exact cT (by simpa using he) (s.aN 0 rfl (j:=1) (show 1<2 by decide) rfl λ f s2=>⟨rfl,a,c,h1,h2,by rw[cK,ak he]; exact s2⟩)
 ·exact cF (by simpa using he) ⟨rfl,a,c,h1,h2,by rw[cK,ah he]; exact s⟩
def A5(h:oh w0 w b l e B):CP 327 #[pt b] w (λ r w'=>r=.tuple #[]/\oh w0 w' b l (gx l e) B):=by
 refine(p6 (p6 vK)).2.1 ?_;refine⟨λ f=>oh w0 f b l (if l.length=0 then cK e 1 else e) B,?_,?_⟩
 ·rintro f h1 -;refine au (mH h1 2) ?_;rintro v i ⟨rfl,h2⟩;refine⟨rfl,rfl,?_⟩;have:gx l e=cK (if l.length=0 then cK e 1 else e) 2:=by
   unfold gx cK
   split<;>split<;>simp_all
  rw[this]; exact h2
 ·have g:=h;obtain⟨a,c,h1,h2,s⟩:=g;refine⟨_,_,_,s.ag 0 rfl 0,?_⟩
  by_cases d:l.length=0
  ·refine cT (by simpa using d) (au (mH h 1) ?_);rintro v j ⟨rfl,h3⟩;exact⟨rfl,by rw[ak d]; exact h3⟩
  ·exact cF (by simpa using d) (by rw[ah d]; exact h)
def zo(h:oh w0 w b l e B):CP 280 #[pt b] w (λ r w'=>r=(aT l e).val/\oh w0 w' b (eL l e) e B):=by
 have o:=h;obtain⟨a,c,h1,h2,s⟩:=o;refine(p6 vK).2.1 ?_;refine s.aB kF.cells.toArray λ r1 z s1=>?_;refine au (tA (⟨a,c,h1,h2,s1.ay [1,2,3]⟩:oh w0 z b l e B)) ?_;rintro v D ⟨rfl,c2⟩;refine⟨_,_,_,_,rfl,(s1.quiet c2).aB kF.cells.toArray λ r2 E t=>t.az 0 rfl (aT l e).cells rfl (Tk.one _) λ A d=>?_⟩;refine⟨λ m=>∃ a' c',(eL l e).length<=c'/\St w0 m (Sep (aj r2 (aT l e).cells.toArray 338 :: aj r1 kF.cells.toArray 338 :: (YY b a' c' (eL l e) e++[B]))),?_,?_⟩
 ·rintro m ⟨a',c',f,i⟩ -;have hle:(eL l e).length<=4000:=by
   unfold eL; split
   ·rw[sR]; omega
   ·exact h2
  exact⟨_,_,_,_,i.cellsIn 0 rfl,i.az 1 rfl (aT l e).cells rfl (Tk.one _) λ F k=>⟨_,_,_,_,k.cellsIn 1 rfl,rfl,a',c',f,hle,k.ay [2,3,4]⟩⟩
 refine⟨λ x n=>x=(decide (e=0)&&decide (l.length≠0))/\n=A,?_,_,d.ag 2 rfl 1,?_⟩
 ·rintro n x ⟨rfl,rfl⟩ -
  by_cases g:e=0/\l.length≠0
  ·have en:eL l e=l.tail:=by rw[eL,ak g.1]
   refine cT (by simp[g.1]; intro h; exact g.2 (by rw[h]; rfl)) ⟨_,_,_,d.ag 2 rfl 0,by omega,by omega,?_⟩;refine d.aN 2 rfl (j:=0) (show 0<2 by decide) rfl λ C u=>⟨if c=1 then a else Option.map (λ x=>Addr.add x (1*4)) a,c-1,by rw[en,sR]; omega,?_⟩;have y:=(u.ay [3,0,1,2,4]).qj ((aW _).mono λ w q=>K9 q h1);rw[en];have el:l.tail.length=l.length-1:=sR;show St w0 C (Sep [_,_,aj b #[.slice (if c=1 then a else Option.map (λ x=>Addr.add x (1*4)) a) l.tail.length (c-1),iv e] _,_,_]);rw[el];exact y.ay [1,2,3,0,4]
  ·have en:eL l e=l:=by
    unfold eL
    split
    ·rename_i he
     cases l with
     | nil=>rfl
     | cons x l=>exact absurd ⟨he,by simp⟩ g
    ·rfl
   refine cF (by simp only[pH,iY]; by_cases he:e=0; exact .inr λ h=>g ⟨he,h⟩; exact .inl he) ⟨a,c,by rw[en]; exact h1,by rw[en]; exact d⟩
 ·by_cases he:e=0
  ·refine cT (by simpa using he) ⟨_,_,_,d.ag 2 rfl 0,?_,rfl⟩;rw[dT he,bt]
   by_cases p:l.length=0
   ·rw[dF (by omega),dF (by omega)]
   ·rw[dT (by omega),dT p]
  ·exact cF (by simpa using he) ⟨by rw[dF he]; rfl,rfl⟩
def tr(h:oh w0 w b l e B)(m:List UInt8):CP 283 #[pt b,sv m] w (λ r w'=>r=.bool (fO m l e)/\oh w0 w' b (jX m l e) e B):=by
 refine(p6 vK).2.2.2.1 ?_;refine au (tA h) ?_;rintro v i ⟨rfl,c1⟩;refine⟨_,_,_,_,rfl,aG kF.cells.toArray λ r1 j s2=>s2.az 0 rfl (aT l e).cells rfl (Tk.one _) λ g c=>?_⟩;have h3:=(h.quiet c1).quiet c.av;refine⟨λ x d=>x=(!fO m l e)/\d=g,?_,_,c.ag 0 rfl 0,?_⟩
 ·rintro d x ⟨rfl,rfl⟩ -
  cases ha:fO m l e with
  | false=>exact cT rfl ⟨rfl,by rw[jX,ha]; exact h3⟩
  | true =>
   refine cF rfl (au (zo h3) ?_);rintro v n ⟨rfl,f⟩;exact⟨_,_,_,_,rfl,rfl,by rw[jX,ha]; exact f⟩
 ·by_cases a:(aT l e).k=3
  ·refine cF (by simpa using a) ⟨_,c.ag 0 rfl 1,?_,rfl⟩;rw[fO,dT a,bt,fG,fG]
  ·exact cT (by simpa using a) ⟨by rw[fO,dF a]; rfl,rfl⟩
def jT(h:oh w0 w b l e B)(m:List UInt8):CP 281 #[pt b,sv m] w (λ r w'=>r=.tuple #[]/\oh w0 w' b (jX m l e) (vB m l e) B):=by
 refine(p6 vK).2.2.1 ?_;refine au (tr h m) ?_;rintro v a ⟨rfl,h1⟩;refine⟨_,rfl,?_⟩
 cases ha:fO m l e with
 | true=>exact cF rfl ⟨rfl,by rw[vB,ha]; exact h1⟩
 | false =>
  have el:jX m l e=l:=by rw[jX,ha]; rfl
  rw[el] at h1;refine cT rfl (au (A5 h1) ?_);rintro v c ⟨rfl,h2⟩;exact⟨rfl,rfl,by rw[el,vB,ha]; exact h2⟩
def fK(l:List Tk)(e:Int):List UInt8:=if (aT l e).k=1 then (aT l e).t else []
def lg(l:List Tk)(e:Int):List Tk:=if (aT l e).k=1 then eL l e else l
def nj(l:List Tk)(e:Int):Int:=if (aT l e).k=1 then e else gx l e
def Ty(h:oh w0 w b l e B):CP 367 #[pt b] w (λ r w'=>r=sv (fK l e)/\oh w0 w' b (lg l e) (nj l e) B):=by
 refine XM.1 ?_;refine au (tA h) ?_;rintro v j ⟨rfl,c1⟩;refine⟨_,_,_,_,rfl,aG kF.cells.toArray λ r1 g s2=>s2.az 0 rfl (aT l e).cells rfl (Tk.one _) λ m c=>⟨_,c.ag 0 rfl 0,?_⟩⟩;have h3:=(h.quiet c1).quiet c.av
 by_cases a:(aT l e).k=1
 ·have g1:=c.ag 0 rfl 1;refine cF (by simpa using a) (au (zo ((h.quiet c1).add c)) ?_);rintro v i ⟨rfl,d⟩;have f:St w0 i (Sep [aj r1 (aT l e).cells.toArray 338,emp]):=d.frame.first;exact⟨_,_,_,_,rfl,_,f.ag 0 rfl 1,by rw[fK,ak a],by rw[lg,ak a,nj,ak a]; exact d.drop⟩
 ·refine cT (by simpa using a) (au (A5 h3) ?_);rintro v g ⟨rfl,h2⟩;exact⟨rfl,by rw[fK,ah a],by rw[lg,ah a,nj,ah a]; exact h2⟩
def tK(m:Int)(t:Tk):Bool:=decide (t.v<0)||decide (t.v>m)
def gW(m:Int)(l:List Tk)(e:Int):Int:=if (aT l e).k=2/\tK m (aT l e)=false then (aT l e).v else 0
def qV(m:Int)(l:List Tk)(e:Int):List Tk:=if (aT l e).k=2/\tK m (aT l e)=false then eL l e else l
def nv(m:Int)(l:List Tk)(e:Int):Int:=if (aT l e).k=2 then (if tK m (aT l e) then cK e 4 else e) else gx l e
def xC(h:oh w0 w b l e B)(m:Int):CP 284 #[pt b,iv m] w (λ r w'=>r=iv (gW m l e)/\oh w0 w' b (qV m l e) (nv m l e) B):=by
 refine(p6 vK).2.2.2.2.1 ?_;refine au (tA h) ?_;rintro v p ⟨rfl,c1⟩;refine⟨_,_,_,_,rfl,aG kF.cells.toArray λ r1 q s2=>s2.az 0 rfl (aT l e).cells rfl (Tk.one _) λ n d=>⟨_,d.ag 0 rfl 0,?_⟩⟩;have h3:=(h.quiet c1).add d
 by_cases a:(aT l e).k=2
 ·refine cF (by simpa using a) ⟨λ x g=>x=tK m (aT l e)/\g=n,?_,_,d.ag 0 rfl 2,?_⟩
  ·rintro g x ⟨rfl,rfl⟩ -
   cases ha:tK m (aT l e) with
   | true =>
    refine cT rfl (au (mH h3 4) ?_);rintro v t ⟨rfl,i⟩;exact⟨rfl,by rw[gW,ah (by rw[ha]; simp)],by rw[qV,ah (by rw[ha]; simp),nv,ak a,ak ha]; exact i.drop⟩
   | false =>
    refine cF rfl (au (zo h3) ?_);rintro v o ⟨rfl,f⟩;have j:St w0 o (Sep [aj r1 (aT l e).cells.toArray 338,emp]):=f.frame.first;exact⟨_,_,_,_,rfl,_,j.ag 0 rfl 2,by rw[gW,ak ⟨a,ha⟩],by rw[qV,ak ⟨a,ha⟩,nv,ak a,ah (by rw[ha]; decide)]; exact f.drop⟩
  ·by_cases c:(aT l e).v<0
   ·exact aP c ⟨by rw[tK,dT c]; rfl,rfl⟩
   ·exact aU c ⟨_,d.ag 0 rfl 2,by rw[tK,dF c]; rfl,rfl⟩
 ·refine cT (by simpa using a) (au (A5 h3) ?_);rintro v s ⟨rfl,h4⟩;exact⟨rfl,by rw[gW,ah (λ h=>a h.1)],by rw[qV,ah (λ h=>a h.1),nv,ah a]; exact h4.drop⟩
def AW(h:oh w0 w b l e B):CP 285 #[pt b] w (λ r w'=>r=iv e/\w'=w):=by
 obtain⟨a,c,h1,h2,s⟩:=h;refine(p6 vK).2.2.2.2.2.1 ?_;exact⟨_,s.ag 0 rfl 1,rfl,rfl⟩
def pN(l:List Tk)(e:Int):Int:=if e=0/\0<l.length then 3 else e
def Wr(h:oh w0 w b l e B):CP 229 #[pt b] w (λ r w'=>r=iv (pN l e)/\w'=w):=by
 have i:=h;obtain⟨a,c,h1,h2,s⟩:=h;refine vK.2.2.2.1 ?_;refine⟨λ x f=>x=decide (e=0/\0<l.length)/\f=w,?_,_,s.ag 0 rfl 1,?_⟩
 ·rintro f x ⟨rfl,rfl⟩ -
  by_cases g:e=0/\0<l.length
  ·exact aP g ⟨by rw[pN,ak g],rfl⟩
  ·refine aU g (au (AW i) ?_);rintro v j ⟨rfl,rfl⟩;exact⟨_,rfl,by rw[pN,ah g],rfl⟩
 ·by_cases he:e=0
  ·refine cT (by simpa using he) ⟨_,_,_,s.ag 0 rfl 0,?_,rfl⟩
   by_cases d:0<l.length
   ·rw[dT (p:=e=0/\0<l.length) ⟨he,d⟩]; exact dT (by omega)
   ·rw[dF (p:=e=0/\0<l.length) (λ h=>d h.2)]; exact dF (by omega)
  ·exact cF (by simpa using he) ⟨by rw[dF (p:=e=0/\0<l.length) (λ h=>he h.1)],rfl⟩
def L6(s:St w0 w B){a:OA}{c:Nat}(f:cP 4 Tk.cells w a l)(e:l.length<=4000):CP 227 #[.slice a l.length c] w (λ r w'=>∃ b,r=pt b/\oh w0 w' b l 0 B):=by
 refine vK.2.2.1 ?_;refine bQ (c2:=c) Yv Tk.len Tk.one (l:=[]) s.dy f (by simp; omega) (by simp; omega) λ a' c' h s1=>?_;have s2:St w0 h (star (dK 338 4 Tk.cells a' c' l) B):=s1;have d:=s2.lQ.1;exact(s2.Cz).aB _ λ r1 i g=>⟨r1,rfl,a',c',d,e,(((g.ay [1,0,2]).qj (bn Tk.len)).ay [1,0,2])⟩
end
def KB(i:Nat)(c:UInt8):Bool:=zg (un c)||(decide (i≠0)&&inr (un c))
def L5{l:List UInt8}(h1:1<=l.length)(h2:l.length<=12)(h:∀ (i:Nat) (c:UInt8),l[i]?=some c->KB i c=true):cY l=true:=by
 cases l with
 | nil=>simp at h1
 | cons c l =>
  have a:zg (un c)=true:=by have:=h 0 c rfl; simpa[KB] using this
  unfold cY;simp only[yI,yJ,bt,yK,nL,nH,a];rw[dT h2,bt,dS];intro x b;obtain⟨i,hi,rfl⟩:=qQ.1 b;have:=h i _ (gE hi);simp only[KB,Bool.or_eq_true,aX] at this;rcases this with h|⟨_,h⟩
  ·simp[inr,h]
  ·exact h
def OS{l:List UInt8}(i:Nat)(c:UInt8)(hc:l[i]?=some c)(h:KB i c=false):cY l=false:=by
 cases hn:cY l with
 | false=>rfl
 | true =>
  cases l with
  | nil=>simp at hc
  | cons x l =>
   unfold cY at hn;simp only[yI,yJ,bt,yK,nL,nH,aX,dS] at hn;obtain⟨_,a,ha⟩:=hn;have hi:=ha c (bf hc);unfold KB at h;rw[hi,yM,oF] at h
   cases i with
   | zero=>simp at hc; subst hc; rw[a] at h; cases h.1
   | succ i=>simp at h
def Ae(w:af)(l:List UInt8):CP 104 #[sv l] w (λ r w'=>r=.bool (cY l)/\w'=w):=by
 refine BA.2.2.2.2.2.1 ?_;refine⟨λ b q=>q=w/\((b=true/\cY l=false)\/(b=false/\1<=l.length/\l.length<=12)),?_,?_⟩
 ·rintro q b ⟨rfl,h⟩ -;rcases h with⟨rfl,y⟩|⟨rfl,h1,h2⟩
  ·exact cT rfl ⟨by rw[y],rfl⟩
  ·refine cF rfl ⟨λ n s m=>∃ k:Nat,n=k/\k<=l.length/\m=l.length-k/\(∀ (i:Nat) (c:UInt8),i<k->l[i]?=some c->KB i c=true)/\s=q,⟨l.length,0,rfl,by omega,by omega,λ i c hi=>by omega,rfl⟩,?_⟩;rintro s m n ⟨k,rfl,z,hm,ha,rfl⟩ -
   by_cases j:(k:Int)<(l.length:Int)
   ·obtain⟨c,hc⟩:=bx l k (by omega);have get:∀ {R:UInt8->Prop},R c->bO ((bs l)[((k:Nat):Int).toNat]?) R:=λ {R} h=>by
     rw[aD,gK,hc]; exact h
    refine cT (by rw[dX]; simpa using j) ⟨λ b t=>t=s/\b=zg (un c),?_,by omega,get ?_⟩
    ·rintro t b ⟨rfl,rfl⟩ -;refine⟨λ b v=>v=t/\b = !KB k c,?_,?_⟩
     ·rintro v b ⟨rfl,rfl⟩ -
      cases ho:KB k c with
      | true =>
       refine cF rfl ⟨l.length-(k+1),by omega,k+1,by rw[cA (by omega)]; rfl,by omega,rfl,λ i x hi p=>?_,rfl⟩;rcases bw i k with u | u
       ·exact ha i x u p
       ·obtain rfl:i=k:=by omega
        rw[hc] at p; cases p; exact ho
      | false=>exact cT rfl ⟨by rw[OS k c hc ho],rfl⟩
     ·cases hL:zg (un c) with
      | true=>exact cF rfl ⟨rfl,by simp[KB,hL]⟩
      | false =>
       refine cT rfl ?_
       by_cases o:k=0
       ·subst o; exact cT rfl ⟨rfl,by simp[KB,hL]⟩
       ·refine cF (by simp; omega) ⟨by omega,get ?_⟩
        by_cases a:un c=95
        ·refine cF (by simp; exact a) ⟨rfl,by simp[KB,inr,a,o]⟩
        ·refine cT (by simp; exact a) ⟨by omega,get ?_⟩
         by_cases f:un c<48
         ·refine aP f ⟨rfl,?_⟩;have:lz (un c)=false:=by simp[lz]; omega
          simp[KB,hL,inr,this,a]
         ·refine aU f ⟨by omega,get ⟨rfl,?_⟩⟩
          by_cases g:un c>57
          ·have:lz (un c)=false:=by simp[lz]; omega
           rw[dT (show(c.toNat:Int)>57 from g)];simp[KB,hL,inr,this,a]
          ·have:lz (un c)=true:=by simp[lz]; omega
           rw[dF (show ¬ (c.toNat:Int)>57 from g)];simp[KB,hL,inr,this,o]
    ·by_cases d:un c>=97
     ·refine aP d ⟨by omega,get ⟨rfl,?_⟩⟩;have:decide (97<=un c)=true:=dT d;unfold zg; rw[this]; rfl
     ·refine aU d ⟨rfl,?_⟩;have:decide (97<=un c)=false:=dF d;unfold zg; rw[this]; rfl
   ·refine cF (by rw[dX]; simpa using j) ⟨?_,rfl⟩;rw[L5 h1 h2 λ i c hc=>ha i c (by have:=(aR.1 hc).1; omega) hc]
 ·by_cases h1:l.length<1
  ·refine cT (by rw[dX]; exact dT (by omega)) ⟨rfl,.inl ⟨rfl,?_⟩⟩;have:l=[]:=Da.1 (by omega);subst this; rfl
  ·refine cF (by rw[dX]; exact dF (by omega)) ⟨rfl,?_⟩
   by_cases e:l.length<=12
   ·exact .inr ⟨by rw[dX]; exact dF (by omega),by omega,e⟩
   ·refine .inl ⟨by rw[dX]; exact dT (by omega),?_⟩;simp[cY,dF e]
def X1(w:af){c0:UInt8}{t:List UInt8}(F:(c0 :: t).length<=12)(q:zg (un c0)=true) :
  CP 242 #[sv (c0 :: t)] w (λ r w'=>∃ k,r=.tuple #[.agg #[iv 1,sv ((c0 :: t).take k),iv 0,iv 0],iv 0]/\((c0 :: t).take k==(c0 :: t))=((c0 :: t).all λ c=>inr (un c))/\aC w w' []):=by
 refine CE ?_;refine bg ?_;have s1:=(St.start w).one.fu #[(.int .i64 (0:Int)),(.string (bs [])),(.int .i64 (0:Int)),(.int .i64 (0:Int))] 310;generalize B:w.alloc _=C at s1 ⊢;generalize A:w.heap.size=r1 at s1 ⊢;generalize i:c0 :: t=l at *;have j:l[0]?=some c0:=by rw[<- i]; rfl
 have hp:1<=l.length:=by rw[<- i]; simp
 have f:inr (un c0)=true:=by simp[inr,q]
 refine⟨by omega,?_⟩;rw[show(0:Int).toNat=0 from rfl,gK,j];refine au (o5 C (un c0)) ?_;rintro v D ⟨rfl,rfl⟩;refine⟨_,rfl,cT q ⟨λ n g m=>∃ k:Nat,n=k/\1<=k/\k<=l.length/\m=l.length-k/\(l.take k).all (λ c=>inr (un c))=true/\g=D,⟨l.length-1,1,rfl,by omega,by omega,rfl,?_,rfl⟩,?_⟩⟩
 ·rw[<- i]; simp[f]
 rintro g m n ⟨k,rfl,z,y,hm,ha,rfl⟩ -;refine⟨λ b x=>x=g/\((b=true/\∃ c,l[k]?=some c/\inr (un c)=true)\/(b=false/\(k=l.length\/∃ c,l[k]?=some c/\inr (un c)=false))),?_,?_⟩
 ·rintro x b ⟨rfl,h⟩ -;rcases h with⟨rfl,c,hc,o⟩|⟨rfl,he⟩
  ·have d:=(aR.1 hc).1;exact cT rfl ⟨l.length-(k+1),by omega,k+1,by rw[cA (by omega)]; rfl,by omega,by omega,rfl,qU (p:=λ c=>inr (un c)) ha hc o,rfl⟩
  ·refine cF rfl (cF (by simp; omega) ⟨by omega,by rw[dX]; omega,?_⟩);rw[aD,Fh];refine s1.az 0 rfl [iv 1,sv (l.take k),iv 0,iv 0] rfl (by intro v s; simp at s; rcases s with rfl|rfl|rfl<;>rfl) λ G u=>?_;exact⟨_,_,_,_,u.cellsIn 0 rfl,k,rfl,Hf ha y he,u.av⟩
 ·by_cases d:(k:Int)<(l.length:Int)
  ·obtain⟨c,hc⟩:=bx l k (by omega);have get:∀ {R:UInt8->Prop},R c->bO ((bs l)[((k:Nat):Int).toNat]?) R:=λ {R} h=>by
    rw[aD,gK,hc]; exact h
   refine cT (by rw[dX]; simpa using d) ⟨by omega,get (au (o5 g (un c)) ?_)⟩;rintro v E ⟨rfl,rfl⟩;refine⟨_,rfl,?_⟩
   cases h1:zg (un c) with
   | true=>exact cT rfl ⟨rfl,.inl ⟨rfl,c,hc,by simp[inr,h1]⟩⟩
   | false =>
    refine cF rfl ⟨by omega,get (au (wh E (un c)) ?_)⟩;rintro v H ⟨rfl,rfl⟩;refine⟨_,rfl,?_⟩
    cases h2:lz (un c) with
    | true=>exact cT rfl ⟨rfl,.inl ⟨rfl,c,hc,by simp[inr,h1,h2]⟩⟩
    | false =>
     refine cF rfl ⟨by omega,get ⟨rfl,?_⟩⟩;have e:inr (un c)=(un c==95):=by simp[inr,h1,h2]
     by_cases a:un c=95
     ·exact .inl ⟨by simp; exact a,c,hc,by rw[e,a]; rfl⟩
     ·exact .inr ⟨by simp; exact a,.inr ⟨c,hc,by rw[e]; simpa using a⟩⟩
  ·exact cF (by rw[dX]; simpa using d) ⟨rfl,.inr ⟨rfl,.inl (by omega)⟩⟩
def Ik(w:af)(l:List UInt8):CP 239 #[sv l] w (λ r w'=>r=.bool (cY l)/\aC w w' []):=by
 refine BA.2.2.2.2.1 ?_;refine⟨λ b d=>d=w/\((b=true/\cY l=false)\/(b=false/\∃ c t,l=c :: t/\l.length<=12/\zg (un c)=true)),?_,?_⟩
 ·rintro d b ⟨rfl,h⟩ -;rcases h with⟨rfl,g⟩|⟨rfl,c,t,rfl,a,hc⟩
  ·exact cT rfl ⟨by rw[g],aC.refl _ _⟩
  ·refine cF rfl (au (X1 d a hc) ?_);rintro v j ⟨k,rfl,i,c2⟩;refine Ex4 ⟨_,rfl,bg ?_⟩;refine((St.start' c2).one.fu _ 310).az 0 rfl [iv 1,sv ((c :: t).take k),iv 0,iv 0] rfl (by intro v e; simp at e; rcases e with rfl|rfl|rfl<;>rfl) λ m f=>?_;refine cT rfl ⟨_,by rw[f.ag 0 rfl]; rfl,?_,f.av⟩;rw[fG,fG,i];unfold cY;simp only[yI,yJ,bt,yK,nL,nH,hc];rw[dT a]; rfl
 ·cases l with
  | nil=>exact cT (by rw[fG]; rfl) ⟨rfl,.inl ⟨rfl,rfl⟩⟩
  | cons c t =>
   refine cF (by rw[fG,fG]; rfl) ?_
   by_cases a:(c :: t).length<=12
   ·refine cF (by rw[dX]; exact dF (by omega)) ⟨by omega,?_⟩;rw[show(0:Int).toNat=0 from rfl,gK]
    change bO (some c) _
    refine au (R:=_) (o5 w (un c)) ?_;rintro v n ⟨rfl,rfl⟩;refine⟨_,rfl,rfl,?_⟩
    cases h:zg (un c) with
    | true=>exact .inr ⟨rfl,c,t,rfl,a,h⟩
    | false=>exact .inl ⟨rfl,by simp[cY,h]⟩
   ·refine cT (by rw[dX]; exact dT (by omega)) ⟨rfl,.inl ⟨rfl,?_⟩⟩;simp only[cY,dF a]
    simp
def iy(n:Int):Bool:=decide (0<=n)&&decide (n<=4)
def pr(l:List Int):Int:=l.foldl (λ n s=>n*(s+1)) 1
def zl(l:List Int)(s:Int):pr (l++[s])=pr l*(s+1):=by simp[pr]
def kI{l:List Int}{p:Int->Bool}{k:Nat}{c:Int}(h:(l.take k).all p=true)(hc:l[k]?=some c)(hp:p c=true):(l.take (k+1)).all p=true:=by
 rw[aH hc,lZ,h]; simp[hp]
def mM{l:List Int}{p:Int->Bool}{k:Nat}{c:Int}(hc:l[k]?=some c)(hp:p c=false):l.all p=false:=by
 rw[nG]; exact⟨c,bf hc,by simp[hp]⟩
def iq(w:af)(u:I6):CP 73 #[.agg u.vs.toArray] w (λ r w'=>r=iv (if u.l.all iy then 0 else 4)/\aC w w' []):=by
 refine(p6 uB).1 ?_;refine bg ?_;have s1:=(St.start w).one.fu u.vs.toArray 42;generalize h:w.alloc _=i at s1 ⊢;generalize g:w.heap.size=r1 at s1 ⊢;refine⟨_,s1.cellsIn 0 rfl,λ n d m=>∃ k:Nat,n=k/\k<=6/\m=6-k/\(u.l.take k).all iy=true/\d=i,⟨6,0,rfl,by omega,by omega,rfl,rfl⟩,?_⟩;rintro d m n ⟨k,rfl,j,hm,ha,rfl⟩ -
 by_cases c:(k:Int)<6
 ·have a:k<6:=by omega
  have g1:=u.get k a;have g2:=u.pT k a;generalize u.at' k=x at g1 g2;refine cT (by simpa using c) ⟨by omega,by omega,x,g1,λ b f=>f=d/\b = !iy x,?_,?_⟩
  ·rintro f b ⟨rfl,rfl⟩ -
   cases hx:iy x with
   | true=>exact cF rfl ⟨6-(k+1),by omega,k+1,inc (by decide) a,by omega,rfl,kI ha g2 hx,rfl⟩
   | false=>exact cT rfl ⟨by rw[mM g2 hx]; rfl,s1.av⟩
  ·by_cases e:x<0
   ·exact cT (by simpa using e) ⟨rfl,by simp[iy]; omega⟩
   ·refine cF (by simpa using e) ⟨rfl,?_⟩;have:decide (0<=x)=true:=dT (by omega);unfold iy;rw[this,bt]
    by_cases h4:x<=4
    ·rw[dT h4,dF (by omega)]; rfl
    ·rw[dF h4,dT (by omega)]; rfl
 ·obtain rfl:k=6:=by omega
  refine cF (by simp) ⟨?_,s1.av⟩;rw[show u.l.all iy=true from ha]; rfl
def oY{l:List Int}(h:l.all iy=true):1<=pr l/\pr l<=5 ^ l.length:=by
 suffices H:∀ (l:List Int) (a:Int),l.all iy=true->1<=a->1<=l.foldl (λ n s=>n*(s+1)) a/\l.foldl (λ n s=>n*(s+1)) a<=a*5 ^ l.length by
  have:=H l 1 h (by omega);unfold pr; omega
 intro l
 induction l with
 | nil=>intro a _ h1; simp; exact h1
 | cons x l e =>
  intro a ha h1;simp only[og,aX] at ha;have d:=ha.1;simp only[iy,aX,bN] at d;have h2:1<=a*(x+1):=by
   have:a*1<=a*(x+1):=kQ (by omega) (by omega);omega
  obtain⟨h3,h4⟩:=e (a*(x+1)) ha.2 h2;refine⟨h3,?_⟩;simp only[fM,gm,Db];have b:a*(x+1)<=a*5:=kQ (by omega) (by omega);have f:(a*(x+1))*5 ^ l.length<=(a*5)*5 ^ l.length:=gR b (Int.pow_nonneg (by omega));have c:a*5*5 ^ l.length=a*(5 ^ l.length*5):=by rw[Dc,Dd 5 (5 ^ l.length)]
  rw[<- c];omega
def y4(w:af)(u:I6):CP 128 #[.agg u.vs.toArray] w (λ r w'=>r=iv (if u.l.all iy=true/\pr u.l<=1024 then pr u.l else 0)/\aC w w' []):=by
 refine uB.2.2.2.2.2.1 ?_;refine bg ?_;have s1:=(St.start w).one.fu u.vs.toArray 42;generalize s:w.alloc _=t at s1 ⊢;generalize q:w.heap.size=r1 at s1 ⊢;refine⟨_,s1.cellsIn 0 rfl,au (iq t u) ?_⟩;rintro v y ⟨rfl,c2⟩;refine⟨_,rfl,?_⟩;have s2:=s1.quiet c2
 by_cases a:u.l.all iy=true
 ·rw[ak a];refine cF rfl ⟨_,s2.cellsIn 0 rfl,λ p n g m=>∃ k:Nat,n=k/\k<=6/\m=6-k/\p=pr (u.l.take k)/\g=y,⟨6,0,rfl,by omega,by omega,rfl,rfl⟩,?_⟩;rintro g m p n ⟨k,rfl,i,hm,rfl,rfl⟩ -;have d:1<=pr (u.l.take k)/\pr (u.l.take k)<=15625:=by
   have h1:(u.l.take k).all iy=true:=by
    rw[dS] at a ⊢;exact λ x f=>a x (eX f)
   obtain⟨h2,h3⟩:=oY h1;refine⟨h2,cM h3 ?_⟩;have h4:(u.l.take k).length=k:=by simp[I6.len]; omega
   rw[h4]
   match k,i with
   | 0,_|1,_|2,_|3,_|4,_|5,_|6,_=>decide
  by_cases c:(k:Int)<6
  ·have b:k<6:=by omega
   have g1:=u.get k b;have g2:=u.pT k b;generalize u.at' k=x at g1 g2;have f:0<=x/\x<=4:=by
    have:=dS.1 a x (bf g2);simpa[iy] using this
   have o:pr (u.l.take k)*(x+1)<=15625*5:=cM (kQ (show x+1<=5 by omega) (by omega)) (gR d.2 (by omega));have j:0<=pr (u.l.take k)*(x+1):=gS (by omega) (by omega);refine cT (by simpa using c) ⟨by omega,by omega,x,g1,6-(k+1),by omega,k+1,inc (by decide) b,by omega,rfl,?_,rfl⟩;rw[cW (n:=x+1) ⟨by omega,by omega⟩,cA (by omega),aH g2,zl]
  ·obtain rfl:k=6:=by omega
   refine cF (by simp) ?_;have e:u.l.take 6=u.l:=rfl;rw[e] at d ⊢
   by_cases hp:pr u.l<=1024
   ·refine aU (by omega) ⟨?_,s2.av⟩;rw[ak ⟨a,hp⟩]
   ·refine aP (by omega) ⟨?_,s2.av⟩;rw[ah λ h=>hp h.2]
 ·rw[ah a];refine cT rfl ⟨?_,s2.av⟩;rw[ah λ h=>a h.1]
structure Pr where
 nm:List UInt8
 sup:Int
 res:Int
 pts:Int
 vM:Int
def Pr.cells(p:Pr):List Value:=[sv p.nm,iv p.sup,iv p.res,iv p.pts,iv p.vM]
def Pr.In(p:Pr):Prop:=Go.Vc.In p.sup/\Go.Vc.In p.res/\Go.Vc.In p.pts/\Go.Vc.In p.vM
def fS(w:af)(a:OA)(l:List Pr):Prop:=∀ (i:Nat) (p:Pr),l[i]?=some p->p.In/\∃ q,a=some q/\aA w (q.add (i*5)) 0 p.cells
def fS.av{w w':af}{a:OA}{l:List Pr}(h:fS w a l)(hc:aC w w' []):fS w' a l:=λ i p hp =>
 let ⟨h1,q,hq,h2⟩:=h i p hp
 ⟨h1,q,hq,bB hc h2⟩
def fS.take{w:af}{a:OA}{l:List Pr}(h:fS w a l)(n:Nat):fS w a (l.take n):=λ i p hp=>by
 rw[gV] at hp
 split at hp
 ·exact h i p hp
 ·cases hp
def Pr.one(p:Pr):∀ v∈p.cells,v.oneCell'=true:=by
 intro v a; simp[Pr.cells] at a; rcases a with rfl|rfl|rfl|rfl|rfl<;>rfl
def P9{a:OA}{c:Nat}:(if c=0 then a else Option.map (λ x=>Addr.add x (0*5)) a)=a:=by
 split
 ·rfl
 ·cases a<;>simp[Addr.add]
def dY{α:Type}{l:List α}{p:α->Bool}{k:Nat}{x:α}(h:(l.take k).any p=false)(a:l[k]?=some x)(hp:p x=false):(l.take (k+1)).any p=false:=by
 rw[aH a,List.any_append,h]; simp[hp]
def eZ{α:Type}{l:List α}{p:α->Bool}{k:Nat}{x:α}(a:l[k]?=some x)(hp:p x=true):l.any p=true:=yN.2 ⟨x,bf a,hp⟩
def Vn{w:af}{a:OA}{c:Nat}{l:List Pr}(h:fS w a l)(o:l.length<=1000)(nm:List UInt8) :
  CP 126 #[.slice a l.length c,sv nm] w (λ r w'=>(∃ k:Int,r=.tuple #[iv k,.bool (l.any λ p=>p.nm==nm)])/\aC w w' []):=by
 refine Cx ?_;refine⟨λ n i m=>∃ k:Nat,n=k/\k<=l.length/\m=l.length-k/\(l.take k).any (λ p=>p.nm==nm)=false/\aC w i [],⟨l.length,0,rfl,by omega,by omega,rfl,aC.refl _ _⟩,?_⟩;rintro i m n ⟨k,rfl,j,hm,ha,hc⟩ -
 by_cases b:(k:Int)<(l.length:Int)
 ·obtain⟨x,f⟩:=bx l k (by omega);obtain⟨_,q,rfl,e⟩:=(h.av hc) k x f;refine cT (by simpa using b) ⟨by omega,by omega,Ex4 ⟨_,e,bg ?_⟩⟩;refine((St.start' hc).one.fu _ 134).az 0 rfl x.cells rfl x.one λ s g=>?_;refine⟨_,by rw[g.ag 0 rfl]; rfl,?_⟩
  by_cases d:x.nm=nm
  ·exact cT (by rw[d]; simp) ⟨⟨k,by rw[eZ f (by simpa using d)]⟩,g.av⟩
  ·exact cF (by rw[fG,fG]; simpa using d) ⟨l.length-(k+1),by omega,k+1,by rw[cA (by omega)]; rfl,by omega,rfl,dY ha f (by simpa using d),g.av⟩
 ·refine cF (by simpa using b) ⟨⟨0,?_⟩,hc⟩;rw[fN (by omega)] at ha;rw[ha]
def sY(w:af)(n x y:Int):CP 127 #[iv n,iv x,iv y] w (λ r w'=>r=.bool (decide (x<=n)&&decide (n<=y))/\w'=w):=by
 refine(p6 uB).2.1 ?_
 by_cases h:n>=x
 ·exact aP h ⟨by rw[dT (show x<=n from h)]; rfl,rfl⟩
 ·exact aU h ⟨by rw[dF (show ¬ x<=n from h)]; rfl,rfl⟩
def BF(l:List Pr):List Int:=(l.map Pr.sup++List.replicate (6-l.length) 0).take 6
def bI(l:List Pr):I6:=I6.Bj (l.map Pr.sup)
def p9(l:List Pr)(k:Nat)(a:k<6):(bI l).at' k=(l.map Pr.sup).getD k 0:=by
 match k,a with
 | 0,_|1,_|2,_|3,_|4,_|5,_=>rfl
def Jd(l:List Pr):(bI l).l=BF l:=by
 apply iC;intro k;unfold BF
 by_cases a:k<6
 ·rw[I6.pT _ k a,p9 l k a,gV,ak a]
  by_cases b:k<l.length
  ·rw[lD (by simpa using b)];simp[b]
  ·rw[kH (by simp; omega),mg,ak (by simp; omega)];simp[b]
 ·rw[cr (by rw[I6.len]; omega),gV,ah a]
def sD{w:af}{a:OA}{c:Nat}{l:List Pr}(h:fS w a l)(F:l.length<=1000) :
  CP 129 #[.slice a l.length c] w (λ r w'=>r=.agg (bI l).vs.toArray/\aC w w' []):=by
 refine(p6 uB).2.2.2.1 ?_;refine bg (bg ?_);have s2:=((St.start w).one.fu z6.vs.toArray 42).fu z6.vs.toArray 42;generalize C:((w.alloc _).alloc _)=G at s2 ⊢;generalize A:w.heap.size=r1 at s2 ⊢;generalize B:(w.alloc _).heap.size=r2 at s2 ⊢;refine⟨λ n u m=>∃ k:Nat,n=k/\k<=l.length/\m=l.length-k/\St w u (Sep [aj r2 (I6.mix (min k 6) (bI l) z6).vs.toArray 42,aj r1 z6.vs.toArray 42,emp]),⟨l.length,0,rfl,by omega,by omega,s2⟩,?_⟩;rintro u m n ⟨k,rfl,E,hm,b⟩ -
 by_cases o:(k:Int)<(l.length:Int)
 ·obtain⟨x,p⟩:=bx l k (by omega);obtain⟨_,q,z,f⟩:=(h.av b.av) k x p;refine cT (by simpa using o) ⟨λ v=>St w v (Sep [aj r2 (I6.mix (min (k+1) 6) (bI l) z6).vs.toArray 42,aj r1 z6.vs.toArray 42,emp]),?_,?_⟩
  ·rintro v D -;exact jZ (by omega) D
  rw[z];refine⟨by omega,by omega,Ex4 ⟨_,f,bg ?_⟩⟩;refine(b.fu _ 134).az 0 rfl x.cells rfl x.one λ H d=>?_
  by_cases e:k<6
  ·refine aP (by omega) ⟨_,by rw[d.ag 0 rfl]; rfl,by omega,by omega,?_⟩;have ea:Addr.add ⟨r2,0,none⟩ (((k:Nat):Int).toNat*1)=⟨r2,k,none⟩:=by rw[bY]; simp
   rw[ea];refine d.aN 1 rfl (by rw[I6.size]; exact e) rfl λ I s=>?_;have y:x.sup=(bI l).at' k:=by rw[p9 l k e]; simp[dD,p]
   rw[wM (by omega),y,I6.gD _ _ _ e] at s;rw[wM (by omega)];exact s.ay [1,2,3]
  ·rw[Nat.min_eq_right (by omega)] at d ⊢;exact aU (by omega) (d.ay [1,2,3])
 ·obtain rfl:k=l.length:=by omega
  have g:I6.mix (min l.length 6) (bI l) z6=bI l:=by
   refine I6.ext' λ j i=>?_;rw[I6.cX _ _ _ _ i,p9 l j i]
   split
   ·rfl
   ·rw[aJ,cr (by simp; omega)]
    match j,i with
    | 0,_|1,_|2,_|3,_|4,_|5,_=>rfl
  rw[g] at b;refine cF (by simp) ⟨_,b.cellsIn 0 rfl,?_⟩;refine b.az 1 rfl (bI l).vs rfl (I6.one _) λ J t=>?_;exact⟨_,t.cellsIn 1 rfl,rfl,t.av⟩
def Bn(p:Pr):Bool:=(decide (1<=p.sup)&&decide (p.sup<=4))&&((decide (0<=p.res)&&decide (p.res<=1000000))&&((decide (0<=p.pts)&&decide (p.pts<=1000))&&(decide (0<=p.vM)&&decide (p.vM<=4))))
def tQ(p:Pr):Bool:=cY p.nm&&Bn p
def pz(l:List Pr)(i:Nat)(p:Pr):Prop:=tQ p=true/\((l.take i).any λ q=>q.nm==p.nm)=false
structure dH (l:List Pr):Prop where
 l1:1<=l.length
 l2:l.length<=6
 good:∀ i p,l[i]?=some p->pz l i p
 lim:pr (l.map Pr.sup)<=1024
theorem Gn(l:List Int):∀ n,pr (l++List.replicate n 0)=pr l
 | 0=>by simp
 | n+1=>by
  rw[List.replicate_succ',<- mJ,zl,Gn l n];omega
def zv{l:List Pr}(h:l.length<=6):pr (BF l)=pr (l.map Pr.sup):=by
 unfold BF;rw[fN (by simp; omega),Gn]
def K5{l:List Pr}(h:∀ i p,l[i]?=some p->pz l i p):(BF l).all iy=true:=by
 rw[dS];intro x a;have a:=eX a;rcases aV.1 a with a|a
 ·obtain⟨p,hp,rfl⟩:=bL.1 a;obtain⟨i,hi,rfl⟩:=qQ.1 hp;have:=(h i _ (gE hi)).1;simp only[tQ,Bn,aX,bN] at this;simp only[iy,aX,bN];omega
 ·obtain⟨_,rfl⟩:=List.mem_replicate.1 a
  decide
def UH(Q:Prop)(w:af):KP:=λ r w'=>(∃ e:Int,r=iv e/\(e=0<->Q))/\aC w w' []
def yb(Q:Prop)(k:Int)(w:af):KP:=λ r w'=>(r=iv k/\(k=0<->Q))/\aC w w' []
def bq{Q:Prop}{w w':af}{e k:Int}(he:e≠0)(h : ¬ Q)(hc:aC w w' [])(b:k=e):yb Q k w (iv e) w':=by subst b; exact⟨⟨rfl,λ a=>absurd a he,λ a=>absurd a h⟩,hc⟩
def kK{Q:Prop}{w w':af}{k:Int}(h:Q)(hc:aC w w' [])(a:k=0):yb Q k w (iv 0) w':=by subst a; exact⟨⟨rfl,λ _=>h,λ _=>rfl⟩,hc⟩
def yb.old{Q:Prop}{w w':af}{k:Int}{r:Value}(h:yb Q k w r w'):UH Q w r w':=⟨⟨k,h.1⟩,h.2⟩
def ke{α:Type}(f:Nat->α->Int):Nat->List α->Int
 | _,[]=>0
 | i,x :: l=>if f i x≠0 then f i x else ke f (i+1) l
theorem jc{α:Type}{f:Nat->α->Int}:∀ {l:List α} {n k:Nat} {x:α},(∀ i p,i<k->l[i]?=some p->f (n+i) p=0)->l[k]?=some x->f (n+k) x≠0->ke f n l=f (n+k) x
 | y :: l,n,0,x,_,a,h=>by cases a; rw[wL] at h ⊢; rw[ke,ak h]
 | y :: l,n,k+1,x,ha,a,h=>by
  rw[ke,ah (by simpa using ha 0 y (by omega) rfl),jc (l:=l) (k:=k) (x:=x) (λ i p hi hp=>by have:=ha (i+1) p (by omega) (by simpa using hp); rwa [show n+(i+1)=n+1+i by omega] at this) (by simpa using a) (by rwa [show n+1+k=n+(k+1) by omega])];rw[show n+1+k=n+(k+1) by omega]
theorem fV{α:Type}{f:Nat->α->Int}:∀ {l:List α} {n:Nat},(∀ i p,l[i]?=some p->f (n+i) p=0)->ke f n l=0
 | [],_,_=>rfl
 | y :: l,n,ha=>by
  rw[ke,ah (by simpa using ha 0 y rfl)];exact fV λ i p hp=>by have:=ha (i+1) p (by simpa using hp); rwa [show n+(i+1)=n+1+i by omega] at this
def E0(l:List Pr)(i:Nat)(p:Pr):Int:=if cY p.nm=false then 5 else if ((l.take i).any λ q=>q.nm==p.nm) then 7 else if Bn p=false then 4 else 0
def vZ{l:List Pr}{i:Nat}{p:Pr}(h:pz l i p):E0 l i p=0:=by
 obtain⟨h1,h2⟩:=h;unfold tQ at h1;rw[aX] at h1;rw[E0,h1.1,h2,h1.2]; rfl
def Bk(l:List Pr):Int:=if l.length=0 then 1 else if 6<l.length then 3 else if ke (E0 l) 0 l≠0 then ke (E0 l) 0 l else if pr (BF l)<=1024 then 0 else 12
def BU{w:af}{a:OA}{c:Nat}{l:List Pr}(h:fS w a l)(M:l.length<=c) :
  CP 88 #[.slice a l.length c] w ((yb (dH l) (Bk l) w)):=by
 refine(p6 uB).2.2.2.2.1 ?_
 by_cases s:l.length=0
 ·exact cT (by rw[s]; rfl) (bq (by decide) (λ hp=>by have:=hp.l1; omega) (aC.refl _ _) (by rw[Bk,ak s]))
 refine cF (by simpa using s) ?_;rcases bw 6 l.length with y|y
 ·exact aP (by omega) (bq (by decide) (λ hp=>by have:=hp.l2; omega) (aC.refl _ _) (by rw[Bk,ah s,ak y]))
 refine aU (by omega) ⟨λ n G m=>∃ k:Nat,n=k/\k<=l.length/\m=l.length-k/\(∀ i p,i<k->l[i]?=some p->pz l i p)/\aC w G [],⟨l.length,0,rfl,by omega,by omega,λ i p hi=>by omega,aC.refl _ _⟩,?_⟩;rintro G m n ⟨k,rfl,Q,hm,ha,hc⟩ -
 by_cases F:(k:Int)<(l.length:Int)
 ·obtain⟨x,z⟩:=bx l k (by omega);obtain⟨_,q,O,E⟩:=(h.av hc) k x z;have bad : ¬ pz l k x->¬ dH l:=λ L hp=>L (hp.good k x z);have D:∀ {e:Int},e≠0->E0 l k x=e->Bk l=e:=λ he h=>by
   have:=jc (f:=E0 l) (n:=0) (λ i p hi hp=>by rw[aL]; exact vZ (ha i p hi hp)) z (by rw[aL,h]; exact he);rw[aL,h] at this;rw[Bk,ah s,ah (by omega),this,ak he]
  refine cT (by simpa using F) ?_;rw[O];refine⟨by omega,by omega,Ex4 ⟨_,E,bg ?_⟩⟩;refine((St.start' hc).one.fu _ 134).az 0 rfl x.cells rfl x.one λ A t=>?_;generalize R:G.heap.size=r1 at t ⊢;have r:∀ {w':af},aC A w' []->∀ (j:Nat) (v:Value),x.cells[j]?=some v->w'.cell? ⟨r1,j,none⟩=some v:=λ hc j v S=>dI (by rw[t.ag 0 rfl]; simpa using S) hc;refine⟨_,r (aC.refl _ _) 0 _ rfl,au (Af A x.nm) ?_⟩;rintro v B ⟨rfl,rfl⟩;refine⟨_,rfl,?_⟩
  cases hn:cY x.nm with
  | false=>exact cT rfl (bq (by decide) (bad λ g=>by have:=g.1; simp[tQ,hn] at this) t.av (D (by decide) (by rw[E0,hn]; rfl)))
  | true =>
   have d4:aC B B.drew []:=aC.drew B [];refine cF rfl ⟨by omega,by omega,_,r d4 0 _ rfl,?_⟩;rw[<- O,P9];have N:=Vn (c:=c-0) ((h.av (t.av.trans d4 (by simp))).take k) (by rw[di]; omega) x.nm;rw[di,wM Q] at N;refine au N ?_;rintro v H ⟨⟨kk,rfl⟩,c5⟩;have d5:aC B H []:=d4.trans c5 (by simp);refine⟨_,_,rfl,?_⟩
   cases hany:((l.take k).any λ p=>p.nm==x.nm) with
   | true=>exact cT rfl (bq (by decide) (bad λ g=>by have:=g.2; rw[hany] at this; cases this) (t.av.trans d5 (by simp)) (D (by decide) (by rw[E0,hn,hany]; rfl)))
   | false =>
    refine cF rfl ⟨λ b C=>aC H C []/\b = !Bn x,?_,?_⟩
    ·rintro C b ⟨P,rfl⟩ -;have I:=t.av.trans (d5.trans P (by simp)) (by simp)
     cases hr:Bn x with
     | false=>exact cT rfl (bq (by decide) (bad λ g=>by have:=g.1; simp[tQ,hr] at this) I (D (by decide) (by rw[E0,hn,hany,hr]; rfl)))
     | true =>
      refine cF rfl ⟨l.length-(k+1),by omega,k+1,by rw[cA (by omega)]; rfl,by omega,rfl,λ i p hi hp=>?_,I⟩;rcases bw i k with K | K
      ·exact ha i p K hp
      ·obtain rfl:i=k:=by omega
       rw[z] at hp; cases hp;exact⟨by simp[tQ,hn,hr],hany⟩
    ·refine⟨_,r d5 1 _ rfl,au (sY H _ _ _) ?_⟩;rintro v C ⟨rfl,rfl⟩;refine⟨_,rfl,?_⟩
     cases g1:(decide (1<=x.sup)&&decide (x.sup<=4)) with
     | false=>exact cT rfl ⟨aC.refl _ _,by simp only[Bn,g1]; rfl⟩
     | true =>
      refine cF rfl ⟨_,r d5 2 _ rfl,au (sY C _ _ _) ?_⟩;rintro v U ⟨rfl,rfl⟩;refine⟨_,rfl,?_⟩
      cases g2:(decide (0<=x.res)&&decide (x.res<=1000000)) with
      | false=>exact cT rfl ⟨aC.refl _ _,by simp only[Bn,g1,g2]; rfl⟩
      | true =>
       refine cF rfl ⟨_,r d5 3 _ rfl,au (sY U _ _ _) ?_⟩;rintro v V ⟨rfl,rfl⟩;refine⟨_,rfl,?_⟩
       cases g3:(decide (0<=x.pts)&&decide (x.pts<=1000)) with
       | false=>exact cT rfl ⟨aC.refl _ _,by simp only[Bn,g1,g2,g3]; rfl⟩
       | true =>
        refine cF rfl ⟨_,r d5 4 _ rfl,au (sY V _ _ _) ?_⟩;rintro v W ⟨rfl,rfl⟩;exact⟨_,rfl,aC.refl _ _,by simp only[Bn,g1,g2,g3]; rfl⟩
 ·obtain rfl:k=l.length:=by omega
  have g:∀ i p,l[i]?=some p->pz l i p:=λ i p hp=>ha i p (aR.1 hp).1 hp;refine cF (by simp) (au (sD (h.av hc) (by omega)) ?_);rintro v T ⟨rfl,c2⟩;refine⟨_,rfl,au (y4 T _) ?_⟩;rintro v A ⟨rfl,c3⟩;have c4:aC w A []:=hc.trans (c2.trans c3 (by simp)) (by simp);refine⟨_,rfl,?_⟩;have o:=K5 g;have u:=zv y;rw[Jd];have L:=(oY o).1;have J:Bk l=if pr (BF l)<=1024 then 0 else 12:=by
   have:=fV (f:=E0 l) (n:=0) (l:=l) λ i p hp=>by rw[aL]; exact vZ (g i p hp)
   rw[Bk,ah s,ah (by omega),this,ah (by decide)]
  by_cases d:pr (BF l)<=1024
  ·rw[ak ⟨o,d⟩];exact cF (by simp; omega) (kK ⟨by omega,y,g,by rw[<- u]; exact d⟩ c4 (by rw[J,ak d]))
  ·rw[ah λ h=>d h.2];exact cT rfl (bq (by decide) (λ hp=>d (by rw[u]; exact hp.lim)) c4 (by rw[J,ah d]))
def zU{w:af}{a:OA}{c:Nat}{l:List Pr}(h:fS w a l)(b:l.length<=c) :
  CP 88 #[.slice a l.length c] w ((UH (dH l) w)):=au (BU h b) λ _ _ h=>⟨_,rfl,h.old⟩

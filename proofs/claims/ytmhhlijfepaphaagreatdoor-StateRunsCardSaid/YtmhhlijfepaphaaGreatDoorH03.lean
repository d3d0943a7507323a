import Derived.Shelf.SlLaysF0
import Derived.Shelf.SlGeneric
import Derived.Lib.Join
import Derived.Shelf.Small.Utf8
import Derived.Shelf.Small.Strs
import Derived.Shelf.Strconv.Atoi
import Derived.Shelf.Strconv.Itoa0
import Derived.Shelf.Strconv.Itoa1
import Derived.Shelf.LaysM
import Derived.Shelf.Strconv.Itoa2
import Derived.Shelf.Strconv.Itoa3
import Derived.Shelf.Strings.Search1
import Derived.Shelf.Strings.Search2
import Derived.Shelf.Strings.Search3
import Derived.Shelf.Strings.Count
import Derived.Shelf.Strings.Shaped
import Derived.Shelf.Strings.Split
import Derived.Shelf.Strings.SplitShaped
import Derived.Shelf.Unicode.Decode
import Derived.Shelf.Strings.Runes
import Derived.Shelf.Strings.RuneCount
import Derived.Shelf.Strings.Explode
import Derived.Shelf.Unicode.DecodeSlow
import Derived.WalkMore
import Derived.Outline
import Derived.RegionTactic
import Derived.Deep.RegionWith
import Derived.Scope
import Derived.DataElems
import Derived.Test.YtmhhlijfepaphaaGreatDoorH02
set_option linter.all false
set_option maxRecDepth 100000
set_option maxHeartbeats 4000000
namespace Go.Proofs.YtmhhlijfepaphaaGreatDoor
open Go Go.Vc Go.Vt _root_.Go.Proofs.Tryz
def rF:=zl (And.intro (many xP [en func342 [] [],en func341 [] [],en func343 [] [(58,[(4,.s (.int .i64))])],en func285 [] [(456,[(4,.s (.int .i64))]),(1824,[(32,.s .bool)]),(1848,[(4,.s (.int .i64))]),(7392,[(55,.s .bool)]),(1850,[(64,.s .bool)]),(59258,[(5,.s (.int .i64)),(6,.s (.int .i64))])],en func282 [] [(6,[(17,.s .bool)])],en func192 [] [(6,[(12,.s .bool)]),(58,[(3,.s (.int .i64))]),(932,[(4,.s .bool)]),(1865,[(52,.s .bool)])],en func156 [] [(26,[(3,.s (.int .i64))]),(420,[(17,.s .bool)])],en func195 [] [(122,[(3,.s (.int .i64))]),(31306,[(4,.s (.int .i64))]),(15655,[(84,.s .bool)]),(506,[(6,.s (.int .i64)),(7,.s (.int .i64))])],en func283 [] [(26,[(6,.s (.int .i64))])],en func196 [] [(122,[(3,.s (.int .i64))]),(7827,[(83,.s .bool)])]] (by conv=>lhs;reduce) (by kernel_rfl) id) (And.intro (many xP [en func139 [] [(7,[(3,.s (.int .i64))]),(506,[(4,.s (.int .i64))]),(32402,[(47,.s .bool)]),(64806,[(65,.s .bool)]),(259230,[(6,.s (.int .i64))]),(4147684,[(90,.s .bool)]),(2042,[(7,.s (.int .i64))]),(130706,[(117,.s .bool)]),(261414,[(142,.s .bool)]),(1045662,[(9,.s (.int .i64))])],en func274 [] [(122,[(4,.s .slice),(5,.s (.int .i64))])],en func275 [] [],en func277 [(0,.k (.s .blk))] [(6,[(19,.s .bool)])],en func329 [] [(7,[])],en func330 [(0,.k (.s .blk))] [(6,[(19,.s .bool)])],en func332 [(0,.k (.s .blk))] [(1,[(12,.s .bool)])],en func334 [(0,.k (.s .blk))] [(7,[]),(14,[(22,.s .bool)])],en func335 [(0,.k (.s .blk))] [],en func337 [(0,.k (.s .blk))] [(13,[(16,.s .bool)])],en func338 [(0,.k (.s .blk))] [(115,[(14,.s .bool)])],en func339 [(0,.k (.s .blk))] [],en func359 [] [(12,[(6,.s .bool)]),(122,[(4,.s (.int .i64)),(21,.s (.int .i64))])],en func362 [(0,.k (.s .blk))] [(3,[])]] (by conv=>lhs;reduce) (by kernel_rfl) id) (many xP [en func385 [(0,.k (.s .blk))] [],en func360 [] []] (by conv=>lhs;reduce) (by kernel_rfl) id))) λx=>by
 dsimp only[qq,qm,qk,qj,qy,qA,qB,GH,uv,en,FG,wrap,dc,dn,DH,gU,ID,U.I,U.B,U.S,U.N,U.A,U.O,U.W,U.V,U.L,U.U6,U.C,U.M,U.F,U.E,HV,HA,GM,zS,jU,gJ,vZ,vI,TJ,Nat.reduceSub,Nat.reduceAdd,Int.reduceOfNat,Int.reduceNeg,UInt8.reduceOfNat] at x
 exact x
def Gn:=rF.1.2.2.2.1
end Go.Proofs.YtmhhlijfepaphaaGreatDoor
namespace Go.Proofs.YtmhhlijfepaphaaGreatDoor
open Go Go.Vc _root_.Go.Proofs.Tryz
def CW(n:Int):Bool:=decide (97<=n)&&decide (n<=122)
def sg(n:Int):Bool:=decide (48<=n)&&decide (n<=57)
def inr(n:Int):Bool:=CW n||(sg n||(n==95))
def un(c:UInt8):Int:=(c.toNat:Int)
def iz(l:List UInt8):Bool:=!l.isEmpty&&(decide (l.length<=12)&&((l.head?.map λc=>CW (un c)).getD false&&l.all λc=>inr (un c)))
def wrap32(c:UInt8):IntKind.i32.wrap (c.toNat:Int)=un c:=by
 have:=c.toNat_lt;simp only[IntKind.wrap,IntKind.signed,IntKind.bits,un]
 simp
 omega
def D4(w:ah)(n:Int):CP 304 #[.int .i32 n] w (λr a=>r=.bool (CW n)/\a=w):=by
 exact(p6 (p6 (p6 oC.1))).1 (cBq (λh=>⟨by simp[CW,h],rfl⟩) λh=>⟨by simp[CW,h],rfl⟩)
def Hf(w:ah)(n:Int):CP 349 #[.int .i32 n] w (λr a=>r=.bool (sg n)/\a=w):=by
 exact(p6 (p6 oC.1)).2.2.2.2.2.1 (cBq (λh=>⟨by simp[sg,h],rfl⟩) λh=>⟨by simp[sg,h],rfl⟩)
def vi(w:ah)(n:Int):CP 341 #[.int .u8 n] w (λr a=>r=.bool (CW n)/\a=w):=by
 exact rF.1.2.1 (cBq (λh=>⟨by simp[CW,h],rfl⟩) λh=>⟨by simp[CW,h],rfl⟩)
def AG(w:ah)(n:Int):CP 342 #[.int .u8 n] w (λr a=>r=.bool (sg n)/\a=w):=by
 exact rF.1.1 (cBq (λh=>⟨by simp[sg,h],rfl⟩) λh=>⟨by simp[sg,h],rfl⟩)
def NJ(w:ah)(n:Int):CP 306 #[.int .i32 n] w (λr a=>r=.bool (inr n)/\a=w):=by
 refine oC.2.1 (bg (D4 w n) ?_);rintro v b ⟨rfl,rfl⟩;refine⟨_,rfl,?_⟩
 cases h1:CW n with
 |true=>exact cT rfl ⟨by simp[inr,h1],rfl⟩
 |false=>
  refine cF rfl (kR (Hf b n) ⟨_,rfl,?_⟩)
  cases h2:sg n with
  |true=>exact cT rfl ⟨by simp[inr,h1,h2],rfl⟩
  |false=>exact cF rfl ⟨by simp[inr,h1,h2],rfl⟩
def K3{l:List UInt8}{p:UInt8->Bool}{k:Nat}(h:(l.take k).all p=true)(i:k<=l.length)(d:k=l.length\/∃c,l[k]?=some c/\p c=false):(l.take k==l)=l.all p:=by
 rcases d with rfl|⟨c,a,g⟩
 .rw[aH] at h⊢;rw[h];simp
 have f:=(ai.1 a).1;have b:l.all p=false:=by
  rw[fA];exact⟨c,ak a,by simp[g]⟩
 rw[b];simp only[aC,ne_eq];intro e;have:=congrArg List.length e;rw[aW] at this;omega
def wH{l:List UInt8}{p:UInt8->Bool}{k:Nat}{c:UInt8}(h:(l.take k).all p=true)(hc:l[k]?=some c)(a:p c=true):(l.take (k+1)).all p=true:=by
 rw[bJ hc,fq,h];simp[a]
def acd(w:ah){l:List UInt8}(s:l.length<=9223372036854775806):CP 305 #[sv l,iv 0,.func (.func 306) #[] #[]] w (λr q=>∃k,r=sv (l.take k)/\(l.take k==l)=(l.all λc=>inr (un c))/\q=w):=by
 refine Kk ⟨λn d m=>∃k:Nat,n=k/\k<=l.length/\m=l.length-k/\(l.take k).all (λc=>inr (un c))=true/\d=w,⟨l.length,0,rfl,by omega,by omega,by simp,rfl⟩,?_⟩;rintro d m n ⟨k,rfl,o,t,g,rfl⟩-;refine⟨λb i=>i=d/\((b=true/\∃c,l[k]?=some c/\inr (un c)=true)\/(b=false/\(k=l.length\/∃c,l[k]?=some c/\inr (un c)=false))),?_,?_⟩
 .rintro i b ⟨rfl,h⟩-;rcases h with⟨rfl,c,e,f⟩|⟨rfl,j⟩
  .have a:=(ai.1 e).1;exact cT rfl ⟨l.length-(k+1),by omega,k+1,by rw[gC (by omega)];rfl,by omega,rfl,wH (p:=λc=>inr (un c)) g e f,rfl⟩
  refine cF rfl ⟨by omega,by rw[jC];omega,by omega,by omega,k,?_,K3 g o j,rfl⟩;rw[show(0:Int).toNat=0 from rfl,aq,Jd]
 by_cases a:(k:Int)<(l.length:Int)
 .obtain⟨c,e⟩:=dX l k (by omega);refine cT (by rw[jC];simpa using a) ⟨by omega,?_⟩;rw[aq,lJ,e]
  change rZ prog (.func (.func 306) #[] #[]) #[.int .i32 (IntKind.i32.wrap (c.toNat:Int))] d _
  refine iJ (by kernel_rfl) ?_;rw[wrap32];refine kR (NJ d (un c)) ⟨_,rfl,rfl,?_⟩
  cases f:inr (un c) with
  |true=>exact .inl ⟨rfl,c,rfl,f⟩
  |false=>exact .inr ⟨rfl,.inr ⟨c,rfl,f⟩⟩
 exact cF (by rw[jC];simpa using a) ⟨rfl,.inr ⟨rfl,.inl (by omega)⟩⟩
def D0(w:ah)(l:List UInt8):CP 219 #[sv l] w (λr d=>r=.bool (iz l)/\d=w):=by
 refine oC.2.2.2.1 ?_
 cases l with
 |nil=>exact cF (by rw[j9];rfl) ⟨rfl,rfl⟩
 |cons c l=>
  refine cT (by rw[j9,j9];rfl) ?_
  by_cases a:(c::l).length<=12
  .refine cT (by rw[jC];exact dT (by omega)) ⟨by omega,?_⟩;rw[show(0:Int).toNat=0 from rfl,lJ];show fN (some c) _;rw[fN,wrap32];refine bg (D4 w (un c)) ?_;rintro v f ⟨rfl,rfl⟩;refine⟨_,rfl,?_⟩
   cases h1:CW (un c) with
   |false=>exact cF rfl ⟨by simp[iz,h1],rfl⟩
   |true=>
    refine cT rfl (bg (acd f (by omega)) ?_);rintro v g ⟨k,rfl,b,rfl⟩;refine⟨_,rfl,?_,rfl⟩;rw[j9,j9,b];have e:iz (c::l)=(c::l).all λc=>inr (un c):=by
     unfold iz;simp only[jr,j7,aO,je,cU,fL,h1];rw[dT a];rfl
    rw[e]
  refine cF (by rw[jC];exact dF (by omega)) ⟨?_,rfl⟩;simp only[iz,dF a]
  simp
theorem Yn{p:UInt8->Bool}:∀{l:List UInt8} {k:Nat},(l.take k).all p=true->k<=l.length->(k=l.length\/∃c,l[k]?=some c/\p c=false)->l.take k=l.takeWhile p
 |[],k,_,b,_=>by simp
 |c::l,0,_,_,a=>by
  rcases a with h|⟨d,hd,e⟩
  .simp at h
  simp at hd;subst hd;simp[e]
 |c::l,k+1,h,b,a=>by
  simp only[fJ,fz,aF] at h;rw[fJ,gO,ag h.1,Yn h.2 (by simpa using b) (a.imp (λh=>by simpa using h) (λh=>by simpa using h))]
def Ui(w:ah){l:List UInt8}(t:l.length<=9223372036854775806){v:Value}{p:UInt8->Bool}(s:∀(f:ah) (c:UInt8) (R:Ending->ah->Prop),R (.returned (.bool (p c))) f->rZ prog v #[.int .i32 (un c)] f R){n:Nat}(x:n<=l.length):
  CP 305 #[sv l,iv n,v] w (λr f=>r=sv ((l.drop n).takeWhile p)/\f=w):=by
 refine Kk ⟨λi g m=>∃k:Nat,i=((n+k:Nat):Int)/\k<=(l.drop n).length/\m=(l.drop n).length-k/\((l.drop n).take k).all p=true/\g=w,⟨(l.drop n).length,0,rfl,by omega,by omega,by simp,rfl⟩,?_⟩;rintro g m i ⟨k,rfl,r,u,j,rfl⟩-;have hd:(l.drop n).length=l.length-n:=bG;refine⟨λb o=>o=g/\((b=true/\∃c,(l.drop n)[k]?=some c/\p c=true)\/(b=false/\(k=(l.drop n).length\/∃c,(l.drop n)[k]?=some c/\p c=false))),?_,?_⟩
 .rintro o b ⟨rfl,h⟩-;rcases h with⟨rfl,c,d,e⟩|⟨rfl,q⟩
  .have a:=(ai.1 d).1;exact cT rfl ⟨(l.drop n).length-(k+1),by omega,k+1,by rw[gC (by omega)];omega,by omega,rfl,wH (p:=p) j d e,rfl⟩
  refine cF rfl ⟨by omega,by rw[jC];omega,by omega,by omega,?_,rfl⟩;show Value.string ((bs l).extract ((n:Int)).toNat (((n+k:Nat):Int)).toNat)=_;rw[aq,aq,DA,jk,Yn j r q]
 by_cases a:k<(l.drop n).length
 .have d:(l.drop n)[k]?=some ((l.drop n)[k]'a):=gE a;generalize(l.drop n)[k]'a=c at d;refine cT (by rw[jC];exact dT (by omega)) ⟨by omega,?_⟩;rw[aq,lJ,<-cA,d];show fN (some c) _;rw[fN,wrap32];refine s _ _ _ ⟨_,rfl,rfl,?_⟩
  cases e:p c with
  |true=>exact .inl ⟨rfl,c,rfl,e⟩
  |false=>exact .inr ⟨rfl,.inr ⟨c,rfl,e⟩⟩
 exact cF (by rw[jC];exact dF (by omega)) ⟨rfl,.inr ⟨rfl,.inl (by omega)⟩⟩
def Wl(a:ah)(c:UInt8)(R:Ending->ah->Prop)(h:R (.returned (.bool (inr (un c)))) a):rZ prog (.func (.func 306) #[] #[]) #[.int .i32 (un c)] a R:=by
 refine iJ (by kernel_rfl) (bg (NJ a (un c)) ?_);rintro v b ⟨rfl,rfl⟩;exact h
def VU(a:ah)(c:UInt8)(R:Ending->ah->Prop)(h:R (.returned (.bool (sg (un c)))) a):rZ prog (.func (.func 349) #[] #[]) #[.int .i32 (un c)] a R:=by
 refine iJ (by kernel_rfl) (bg (Hf a (un c)) ?_);rintro v b ⟨rfl,rfl⟩;exact h
def By(l:List UInt8):Int:=l.foldl (λn c=>10*n+(un c-48)) 0
def Bz(l:List UInt8)(c:UInt8):By (l++[c])=10*By l+(un c-48):=by simp[By]
def N2:∀(k:Nat) (l:List UInt8),l.length<=k->(l.all λc=>sg (un c))=true->0<=By l/\By l<10 ^ k:=by
 intro k
 induction k with
 |zero=>intro l b _;obtain rfl:=jj.1 (by omega:l.length=0);exact⟨by decide,by decide⟩
 |succ k e=>
  intro l b a;rcases List.eq_nil_or_concat l with rfl|⟨f,c,rfl⟩
  .exact⟨by decide,Int.pow_pos (by decide)⟩
  rw[List.concat_eq_append] at b a⊢;rw[fq,aF] at a;rw[aA,aG] at b;have g:=e f (by omega) a.1;have d:sg (un c)=true:=by simpa using a.2
  simp only[sg,aF,aV] at d;rw[Bz,oo];omega
def uB(l:List UInt8):Int×Int:=if 1<l.length/\l.head? = some 48 then (0,2) else if 9<l.length then (0,4) else (By l,0)
def Tl(w:ah){l:List UInt8}(hd:(l.all λc=>sg (un c))=true)(v:l.length<=10000):CP 359 #[sv l] w (λr t=>r=.tuple #[iv (uB l).1,iv (uB l).2]/\t=w):=by
 refine(p6 (p6 rF.2.1)).1 ⟨λb g=>b=decide (1<l.length/\l.head? = some 48)/\g=w,?_,?_⟩
 .rintro g b ⟨rfl,rfl⟩-;refine cBq (λh=>⟨by rw[uB,ag h],rfl⟩) λh=>?_
  by_cases j:9<l.length
  .exact cT (by rw[jC];exact dT (by omega)) ⟨by rw[uB,af h,ag j],rfl⟩
  refine cF (by rw[jC];exact dF (by omega)) ⟨λn i q m=>∃k:Nat,i=k/\k<=l.length/\m=l.length-k/\n=By (l.take k)/\q=g,⟨l.length,0,rfl,by omega,by omega,rfl,rfl⟩,?_⟩;rintro q m n i ⟨k,rfl,u,y,rfl,rfl⟩-
  by_cases d:k<l.length
  .have f:=gE d;generalize l[k]'d=c at f;have a:=bw.1 hd c (ak f);have e:=N2 9 (l.take k) (by rw[aW];omega) (by
    rw[bw] at hd⊢;exact λx o=>hd x (bC o))
   have a:48<=un c/\un c<=57:=by simpa[sg] using a
   unfold un at a;have o:=c.toNat_lt;refine cT (by rw[jC];exact dT (by omega)) ⟨by omega,?_⟩;rw[aq,lJ,f];refine mS (by omega) ⟨?_,rfl⟩;have s:IntKind.u8.wrap ((c.toNat:Int)-48)=(c.toNat:Int)-48:=by
    simp only[IntKind.wrap,IntKind.signed,IntKind.bits]
    simp
    omega
   rw[s,bJ f,Bz,un,fQ (n:=10*By (l.take k)) ⟨by omega,by omega⟩,fQ (n:=(c.toNat:Int)-48) ⟨by omega,by omega⟩,gC (by omega)]
  obtain rfl:k=l.length:=by omega
  refine cF (by rw[jC];exact dF (by omega)) ⟨?_,rfl⟩;rw[aH,uB,af h,af j]
 cases l with
 |nil=>exact cF (by rw[jC];rfl) ⟨rfl,rfl⟩
 |cons c l=>
  by_cases a:1<(c::l).length
  .refine cT (by rw[jC];exact dT (by omega)) ⟨by omega,?_⟩;rw[show(0:Int).toNat=0 from rfl,lJ];refine⟨?_,rfl⟩
   by_cases e:c=48
   .subst e;rw[dT (p:=1<(48::l).length/\(48::l).head? = some 48) ⟨a,rfl⟩];rfl
   rw[dF (λh=>e (by simpa using h.2))];have:(c.toNat:Int)≠48:=λh=>e (fP.1 (by have:(48:UInt8).toNat=48:=rfl;omega));simpa using this
  exact cF (by rw[jC];exact dF (by omega)) ⟨by rw[dF (λh=>a h.1)],rfl⟩
end Go.Proofs.YtmhhlijfepaphaaGreatDoor
namespace Go.Proofs
open Go.Shelf
def Tryz.JS:Go.Shelf.Ren:=⟨fun|221=>255|268=>320|138=>321|143=>322|195=>351|197=>352|218=>353|219=>354|260=>365|217=>366|225=>367|224=>368|267=>369|266=>376|314=>377|n=>n,fun|9=>9|3=>3|31=>196|4=>4|0=>0|105=>363|21=>21|5=>5|46=>224|119=>382|139=>385|138=>384|146=>386|51=>279|n=>n,fun|1=>0|3=>1|4=>2|n=>n⟩
def Tryz.Wz:Go.Proofs.Lays.n221 Tryz.prog Tryz.JS:={
 mixed:=by kernel_rfl
 f138:=Tryz.func321.trans (congrArg some (by kernel_rfl))
 f143:=Tryz.func322.trans (congrArg some (by kernel_rfl))
 f195:=Tryz.func351.trans (congrArg some (by kernel_rfl))
 f197:=Tryz.func352.trans (congrArg some (by kernel_rfl))
 f217:=Tryz.func366.trans (congrArg some (by kernel_rfl))
 f218:=Tryz.func353.trans (congrArg some (by kernel_rfl))
 f219:=Tryz.func354.trans (congrArg some (by kernel_rfl))
 f221:=Tryz.func255.trans (congrArg some (by kernel_rfl))
 f224:=Tryz.func368.trans (congrArg some (by kernel_rfl))
 f225:=Tryz.func367.trans (congrArg some (by kernel_rfl))
 f260:=Tryz.func365.trans (congrArg some (by kernel_rfl))
 f266:=Tryz.func376.trans (congrArg some (by kernel_rfl))
 f267:=Tryz.func369.trans (congrArg some (by kernel_rfl))
 f268:=Tryz.func320.trans (congrArg some (by kernel_rfl))
 f314:=Tryz.func377.trans (congrArg some (by kernel_rfl))
 t0:=Tryz.underlying0
 a0:=Tryz.isAgg0
 z0:=Tryz.sizeOf0
 v0:=Tryz.zeroValue0
 t3:=Tryz.underlying3
 a3:=Tryz.isAgg3
 z3:=Tryz.sizeOf3
 v3:=Tryz.zeroValue3
 t4:=Tryz.underlying4
 a4:=Tryz.isAgg4
 z4:=Tryz.sizeOf4
 v4:=Tryz.zeroValue4
 t5:=Tryz.underlying5
 a5:=Tryz.isAgg5
 z5:=Tryz.sizeOf5
 v5:=Tryz.zeroValue5
 t9:=Tryz.underlying9
 a9:=Tryz.isAgg9
 z9:=Tryz.sizeOf9
 v9:=Tryz.zeroValue9
 t21:=Tryz.underlying21
 a21:=Tryz.isAgg21
 z21:=Tryz.sizeOf21
 v21:=Tryz.zeroValue21
 t31:=Tryz.underlying196
 a31:=Tryz.isAgg196
 z31:=Tryz.sizeOf196
 v31:=Tryz.zeroValue196
 t46:=Tryz.underlying224
 a46:=Tryz.isAgg224
 z46:=Tryz.sizeOf224
 v46:=Tryz.zeroValue224
 t51:=Tryz.underlying279
 a51:=Tryz.isAgg279
 z51:=Tryz.sizeOf279
 v51:=Tryz.zeroValue279
 t105:=Tryz.underlying363
 a105:=Tryz.isAgg363
 z105:=Tryz.sizeOf363
 v105:=Tryz.zeroValue363
 t119:=Tryz.underlying382
 a119:=Tryz.isAgg382
 z119:=Tryz.sizeOf382
 t138:=Tryz.underlying384
 a138:=Tryz.isAgg384
 z138:=Tryz.sizeOf384
 v138:=Tryz.zeroValue384
 t139:=Tryz.underlying385
 a139:=Tryz.isAgg385
 z139:=Tryz.sizeOf385
 v139:=Tryz.zeroValue385
 t146:=Tryz.underlying386
 a146:=Tryz.isAgg386
 z146:=Tryz.sizeOf386
 v146:=Tryz.zeroValue386
 g1:=by kernel_rfl
 g3:=by kernel_rfl
 g4:=by kernel_rfl}
def Tryz.JR:Go.Shelf.Ren:=⟨fun|172=>355|244=>370|245=>371|247=>378|279=>379|280=>380|281=>381|282=>382|287=>386|316=>387|171=>389|205=>388|321=>390|322=>391|243=>392|246=>393|283=>394|284=>395|285=>396|286=>397|129=>236|317=>398|318=>399|319=>400|320=>401|337=>402|338=>403|n=>n,fun|9=>9|3=>3|75=>367|76=>368|4=>4|5=>5|167=>388|37=>195|0=>0|85=>389|2=>2|168=>391|53=>43|175=>395|46=>224|210=>398|127=>401|145=>404|143=>402|21=>21|171=>406|173=>408|212=>411|51=>279|20=>20|213=>412|232=>413|233=>414|80=>329|n=>n,fun|15=>3|16=>4|17=>5|18=>6|19=>7|n=>n⟩
def Tryz.Wy:Go.Proofs.Lays.n172 Tryz.prog Tryz.JR:={
 mixed:=by kernel_rfl
 f129:=Tryz.func236.trans (congrArg some (by kernel_rfl))
 f171:=Tryz.func389.trans (congrArg some (by kernel_rfl))
 f172:=Tryz.func355.trans (congrArg some (by kernel_rfl))
 f205:=Tryz.func388.trans (congrArg some (by kernel_rfl))
 f243:=Tryz.func392.trans (congrArg some (by kernel_rfl))
 f244:=Tryz.func370.trans (congrArg some (by kernel_rfl))
 f245:=Tryz.func371.trans (congrArg some (by kernel_rfl))
 f246:=Tryz.func393.trans (congrArg some (by kernel_rfl))
 f247:=Tryz.func378.trans (congrArg some (by kernel_rfl))
 f279:=Tryz.func379.trans (congrArg some (by kernel_rfl))
 f280:=Tryz.func380.trans (congrArg some (by kernel_rfl))
 f281:=Tryz.func381.trans (congrArg some (by kernel_rfl))
 f282:=Tryz.func382.trans (congrArg some (by kernel_rfl))
 f283:=Tryz.func394.trans (congrArg some (by kernel_rfl))
 f284:=Tryz.func395.trans (congrArg some (by kernel_rfl))
 f285:=Tryz.func396.trans (congrArg some (by kernel_rfl))
 f286:=Tryz.func397.trans (congrArg some (by kernel_rfl))
 f287:=Tryz.func386.trans (congrArg some (by kernel_rfl))
 f316:=Tryz.func387.trans (congrArg some (by kernel_rfl))
 f317:=Tryz.func398.trans (congrArg some (by kernel_rfl))
 f318:=Tryz.func399.trans (congrArg some (by kernel_rfl))
 f319:=Tryz.func400.trans (congrArg some (by kernel_rfl))
 f320:=Tryz.func401.trans (congrArg some (by kernel_rfl))
 f321:=Tryz.func390.trans (congrArg some (by kernel_rfl))
 f322:=Tryz.func391.trans (congrArg some (by kernel_rfl))
 f337:=Tryz.func402.trans (congrArg some (by kernel_rfl))
 f338:=Tryz.func403.trans (congrArg some (by kernel_rfl))
 t0:=Tryz.underlying0
 a0:=Tryz.isAgg0
 z0:=Tryz.sizeOf0
 v0:=Tryz.zeroValue0
 t2:=Tryz.underlying2
 a2:=Tryz.isAgg2
 z2:=Tryz.sizeOf2
 v2:=Tryz.zeroValue2
 t3:=Tryz.underlying3
 a3:=Tryz.isAgg3
 z3:=Tryz.sizeOf3
 v3:=Tryz.zeroValue3
 t4:=Tryz.underlying4
 a4:=Tryz.isAgg4
 z4:=Tryz.sizeOf4
 v4:=Tryz.zeroValue4
 t5:=Tryz.underlying5
 a5:=Tryz.isAgg5
 z5:=Tryz.sizeOf5
 v5:=Tryz.zeroValue5
 t9:=Tryz.underlying9
 a9:=Tryz.isAgg9
 z9:=Tryz.sizeOf9
 v9:=Tryz.zeroValue9
 t20:=Tryz.underlying20
 a20:=Tryz.isAgg20
 z20:=Tryz.sizeOf20
 v20:=Tryz.zeroValue20
 t21:=Tryz.underlying21
 a21:=Tryz.isAgg21
 z21:=Tryz.sizeOf21
 v21:=Tryz.zeroValue21
 t37:=Tryz.underlying195
 a37:=Tryz.isAgg195
 z37:=Tryz.sizeOf195
 v37:=Tryz.zeroValue195
 t46:=Tryz.underlying224
 a46:=Tryz.isAgg224
 z46:=Tryz.sizeOf224
 v46:=Tryz.zeroValue224
 t51:=Tryz.underlying279
 a51:=Tryz.isAgg279
 z51:=Tryz.sizeOf279
 v51:=Tryz.zeroValue279
 t53:=Tryz.underlying43
 a53:=Tryz.isAgg43
 z53:=Tryz.sizeOf43
 v53:=Tryz.zeroValue43
 t75:=Tryz.underlying367
 a75:=Tryz.isAgg367
 z75:=Tryz.sizeOf367
 v75:=Tryz.zeroValue367
 t76:=Tryz.underlying368
 a76:=Tryz.isAgg368
 z76:=Tryz.sizeOf368
 v76:=Tryz.zeroValue368
 t85:=Tryz.underlying389
 a85:=Tryz.isAgg389
 z85:=Tryz.sizeOf389
 v85:=Tryz.zeroValue389
 t127:=Tryz.underlying401
 a127:=Tryz.isAgg401
 z127:=Tryz.sizeOf401
 v127:=Tryz.zeroValue401
 t143:=Tryz.underlying402
 a143:=Tryz.isAgg402
 z143:=Tryz.sizeOf402
 v143:=Tryz.zeroValue402
 t145:=Tryz.underlying404
 a145:=Tryz.isAgg404
 z145:=Tryz.sizeOf404
 v145:=Tryz.zeroValue404
 t167:=Tryz.underlying388
 a167:=Tryz.isAgg388
 z167:=Tryz.sizeOf388
 v167:=Tryz.zeroValue388
 t168:=Tryz.underlying391
 a168:=Tryz.isAgg391
 z168:=Tryz.sizeOf391
 v168:=Tryz.zeroValue391
 t171:=Tryz.underlying406
 a171:=Tryz.isAgg406
 z171:=Tryz.sizeOf406
 v171:=Tryz.zeroValue406
 t173:=Tryz.underlying408
 a173:=Tryz.isAgg408
 z173:=Tryz.sizeOf408
 v173:=Tryz.zeroValue408
 t175:=Tryz.underlying395
 a175:=Tryz.isAgg395
 z175:=Tryz.sizeOf395
 v175:=Tryz.zeroValue395
 t210:=Tryz.underlying398
 a210:=Tryz.isAgg398
 z210:=Tryz.sizeOf398
 v210:=Tryz.zeroValue398
 t212:=Tryz.underlying411
 a212:=Tryz.isAgg411
 z212:=Tryz.sizeOf411
 v212:=Tryz.zeroValue411
 t213:=Tryz.underlying412
 a213:=Tryz.isAgg412
 z213:=Tryz.sizeOf412
 t232:=Tryz.underlying413
 a232:=Tryz.isAgg413
 z232:=Tryz.sizeOf413
 v232:=Tryz.zeroValue413
 t233:=Tryz.underlying414
 a233:=Tryz.isAgg414
 z233:=Tryz.sizeOf414
 v233:=Tryz.zeroValue414
 g15:=by kernel_rfl
 g16:=by kernel_rfl
 g17:=by kernel_rfl
 g18:=by kernel_rfl
 g19:=by kernel_rfl}
open Go.RowKit in
theorem Tryz.strconv_Atoi(s:ByteArray)(n:Int)(hl:s.size<=18)(h:Lib.atoi s.data.toList=some n)(w:World):
  Calls Tryz.prog 355 #[.string s] w λe w'=>e=.returned (.tuple #[.int .i64 n,.nilIface])/\∃t,w'=Lib.bytesWorld w 5 t:=Any.strconv_Atoi Tryz.Wy s n hl h w
def Tryz.JQ:Go.Shelf.Ren:=⟨fun|151=>360|152=>374|137=>383|119=>384|224=>368|225=>367|217=>366|266=>376|n=>n,fun|9=>9|21=>21|4=>4|3=>3|5=>5|0=>0|46=>224|n=>n,fun|n=>n⟩
def Tryz.Wx:Go.Proofs.Lays.n151 Tryz.prog Tryz.JQ:={
 mixed:=by kernel_rfl
 f119:=Tryz.func384.trans (congrArg some (by kernel_rfl))
 f137:=Tryz.func383.trans (congrArg some (by kernel_rfl))
 f151:=Tryz.func360.trans (congrArg some (by kernel_rfl))
 f152:=Tryz.func374.trans (congrArg some (by kernel_rfl))
 f217:=Tryz.func366.trans (congrArg some (by kernel_rfl))
 f224:=Tryz.func368.trans (congrArg some (by kernel_rfl))
 f225:=Tryz.func367.trans (congrArg some (by kernel_rfl))
 f266:=Tryz.func376.trans (congrArg some (by kernel_rfl))
 t0:=Tryz.underlying0
 a0:=Tryz.isAgg0
 z0:=Tryz.sizeOf0
 v0:=Tryz.zeroValue0
 t3:=Tryz.underlying3
 a3:=Tryz.isAgg3
 z3:=Tryz.sizeOf3
 v3:=Tryz.zeroValue3
 t4:=Tryz.underlying4
 a4:=Tryz.isAgg4
 z4:=Tryz.sizeOf4
 v4:=Tryz.zeroValue4
 t5:=Tryz.underlying5
 a5:=Tryz.isAgg5
 z5:=Tryz.sizeOf5
 v5:=Tryz.zeroValue5
 t9:=Tryz.underlying9
 a9:=Tryz.isAgg9
 z9:=Tryz.sizeOf9
 v9:=Tryz.zeroValue9
 t21:=Tryz.underlying21
 a21:=Tryz.isAgg21
 z21:=Tryz.sizeOf21
 v21:=Tryz.zeroValue21
 t46:=Tryz.underlying224
 a46:=Tryz.isAgg224
 z46:=Tryz.sizeOf224
 v46:=Tryz.zeroValue224}
open Go.RowKit Go.Lib in
theorem Tryz.strings_ContainsRune_ascii(s:ByteArray)(r:Int)(w:World)(h0:0<=r)(h1:r<128):
  Calls Tryz.prog 360 #[.string s,.int .i32 r] w λe w'=>e=.returned (.bool (decide (0<=Lib.indexByte s.data.toList r.toNat.toUInt8)))/\w'=w:=Any.strings_ContainsRune_ascii Tryz.Wx s r w h0 h1
def Tryz.JO:Go.Shelf.Ren:=⟨fun|138=>321|195=>351|218=>353|143=>322|219=>354|217=>366|225=>367|224=>368|267=>369|266=>376|314=>377|n=>n,fun|9=>9|3=>3|4=>4|5=>5|0=>0|46=>224|146=>386|51=>279|n=>n,fun|1=>0|n=>n⟩
def Tryz.Wv:Go.Proofs.Lays.n138 Tryz.prog Tryz.JO:={
 mixed:=by kernel_rfl
 f138:=Tryz.func321.trans (congrArg some (by kernel_rfl))
 f143:=Tryz.func322.trans (congrArg some (by kernel_rfl))
 f195:=Tryz.func351.trans (congrArg some (by kernel_rfl))
 f217:=Tryz.func366.trans (congrArg some (by kernel_rfl))
 f218:=Tryz.func353.trans (congrArg some (by kernel_rfl))
 f219:=Tryz.func354.trans (congrArg some (by kernel_rfl))
 f224:=Tryz.func368.trans (congrArg some (by kernel_rfl))
 f225:=Tryz.func367.trans (congrArg some (by kernel_rfl))
 f266:=Tryz.func376.trans (congrArg some (by kernel_rfl))
 f267:=Tryz.func369.trans (congrArg some (by kernel_rfl))
 f314:=Tryz.func377.trans (congrArg some (by kernel_rfl))
 t0:=Tryz.underlying0
 a0:=Tryz.isAgg0
 z0:=Tryz.sizeOf0
 v0:=Tryz.zeroValue0
 t3:=Tryz.underlying3
 a3:=Tryz.isAgg3
 z3:=Tryz.sizeOf3
 v3:=Tryz.zeroValue3
 t4:=Tryz.underlying4
 a4:=Tryz.isAgg4
 z4:=Tryz.sizeOf4
 v4:=Tryz.zeroValue4
 t5:=Tryz.underlying5
 a5:=Tryz.isAgg5
 z5:=Tryz.sizeOf5
 v5:=Tryz.zeroValue5
 t9:=Tryz.underlying9
 a9:=Tryz.isAgg9
 z9:=Tryz.sizeOf9
 v9:=Tryz.zeroValue9
 t46:=Tryz.underlying224
 a46:=Tryz.isAgg224
 z46:=Tryz.sizeOf224
 v46:=Tryz.zeroValue224
 t51:=Tryz.underlying279
 a51:=Tryz.isAgg279
 z51:=Tryz.sizeOf279
 v51:=Tryz.zeroValue279
 t146:=Tryz.underlying386
 a146:=Tryz.isAgg386
 z146:=Tryz.sizeOf386
 v146:=Tryz.zeroValue386
 g1:=by kernel_rfl}
open Go.RowKit Go.Lib in
theorem Tryz.strings_Count_one(s:ByteArray)(c:UInt8)(w:World):
  Calls Tryz.prog 321 #[.string s,.string ⟨#[c]⟩] w λe w'=>e=.returned (.int .i64 (Lib.countByte s.data.toList c))/\w'=w:=Any.strings_Count_one Tryz.Wv s c w
def Tryz.JN:Go.Shelf.Ren:=⟨fun|137=>383|217=>366|266=>376|n=>n,fun|9=>9|5=>5|3=>3|n=>n,fun|n=>n⟩
def Tryz.Wu:Go.Proofs.Lays.n137 Tryz.prog Tryz.JN:={
 mixed:=by kernel_rfl
 f137:=Tryz.func383.trans (congrArg some (by kernel_rfl))
 f217:=Tryz.func366.trans (congrArg some (by kernel_rfl))
 f266:=Tryz.func376.trans (congrArg some (by kernel_rfl))
 t3:=Tryz.underlying3
 a3:=Tryz.isAgg3
 z3:=Tryz.sizeOf3
 v3:=Tryz.zeroValue3
 t5:=Tryz.underlying5
 a5:=Tryz.isAgg5
 z5:=Tryz.sizeOf5
 v5:=Tryz.zeroValue5
 t9:=Tryz.underlying9
 a9:=Tryz.isAgg9
 z9:=Tryz.sizeOf9
 v9:=Tryz.zeroValue9}
open Go.RowKit in
theorem Tryz.strings_IndexByte(s:ByteArray)(c:Int)(w:World):
  Calls Tryz.prog 383 #[.string s,.int .u8 c] w λe w'=>e=.returned (.int .i64 (Lib.indexByte s.data.toList c.toNat.toUInt8))/\w'=w:=Any.strings_IndexByte Tryz.Wu s c w
def Tryz.JP:Go.Shelf.Ren:=⟨fun|143=>322|219=>354|217=>366|225=>367|224=>368|267=>369|266=>376|314=>377|n=>n,fun|9=>9|3=>3|4=>4|5=>5|46=>224|146=>386|51=>279|n=>n,fun|1=>0|n=>n⟩
def Tryz.Ww:Go.Proofs.Lays.n143 Tryz.prog Tryz.JP:={
 mixed:=by kernel_rfl
 f143:=Tryz.func322.trans (congrArg some (by kernel_rfl))
 f217:=Tryz.func366.trans (congrArg some (by kernel_rfl))
 f219:=Tryz.func354.trans (congrArg some (by kernel_rfl))
 f224:=Tryz.func368.trans (congrArg some (by kernel_rfl))
 f225:=Tryz.func367.trans (congrArg some (by kernel_rfl))
 f266:=Tryz.func376.trans (congrArg some (by kernel_rfl))
 f267:=Tryz.func369.trans (congrArg some (by kernel_rfl))
 f314:=Tryz.func377.trans (congrArg some (by kernel_rfl))
 t3:=Tryz.underlying3
 a3:=Tryz.isAgg3
 z3:=Tryz.sizeOf3
 v3:=Tryz.zeroValue3
 t4:=Tryz.underlying4
 a4:=Tryz.isAgg4
 z4:=Tryz.sizeOf4
 v4:=Tryz.zeroValue4
 t5:=Tryz.underlying5
 a5:=Tryz.isAgg5
 z5:=Tryz.sizeOf5
 v5:=Tryz.zeroValue5
 t9:=Tryz.underlying9
 a9:=Tryz.isAgg9
 z9:=Tryz.sizeOf9
 v9:=Tryz.zeroValue9
 t46:=Tryz.underlying224
 a46:=Tryz.isAgg224
 z46:=Tryz.sizeOf224
 v46:=Tryz.zeroValue224
 t51:=Tryz.underlying279
 a51:=Tryz.isAgg279
 z51:=Tryz.sizeOf279
 v51:=Tryz.zeroValue279
 t146:=Tryz.underlying386
 a146:=Tryz.isAgg386
 z146:=Tryz.sizeOf386
 v146:=Tryz.zeroValue386
 g1:=by kernel_rfl}
open Go.RowKit Go.Lib in
theorem Tryz.strings_Index_one(s:ByteArray)(c:UInt8)(w:World):
  Calls Tryz.prog 322 #[.string s,.string ⟨#[c]⟩] w λe w'=>e=.returned (.int .i64 (Lib.indexByte s.data.toList c))/\w'=w:=Any.strings_Index_one Tryz.Ww s c w
def Tryz.JM:Go.Shelf.Ren:=⟨fun|119=>384|n=>n,fun|21=>21|4=>4|n=>n,fun|n=>n⟩
def Tryz.Wt:Go.Proofs.Lays.n119 Tryz.prog Tryz.JM:={
 mixed:=by kernel_rfl
 f119:=Tryz.func384.trans (congrArg some (by kernel_rfl))
 t4:=Tryz.underlying4
 a4:=Tryz.isAgg4
 z4:=Tryz.sizeOf4
 v4:=Tryz.zeroValue4
 t21:=Tryz.underlying21
 a21:=Tryz.isAgg21
 z21:=Tryz.sizeOf21
 v21:=Tryz.zeroValue21}
def Tryz.utf8_ValidRune(r:Int)(w:World):
  Calls Tryz.prog 384 #[.int .i32 r] w λe a=>e=.returned (.bool (Lib.validRune r))/\a=w:=Any.utf8_ValidRune Tryz.Wt r w
def Tryz.ML:Go.Shelf.Ren:=⟨fun|6=>106|15=>166|14=>165|28=>235|29=>236|20=>227|21=>228|22=>229|23=>230|24=>231|25=>232|26=>233|27=>234|46=>308|47=>309|48=>310|49=>311|50=>312|57=>350|n=>n,fun|22=>62|24=>70|25=>164|3=>3|39=>224|0=>0|53=>279|55=>43|4=>4|46=>273|45=>272|50=>176|5=>5|9=>9|66=>337|70=>340|76=>360|77=>361|n=>n,fun|n=>n⟩
def Tryz.Uz:Go.Proofs.SlLaysF0.n6 Tryz.prog Tryz.ML:={
 mixed:=by kernel_rfl
 f6:=⟨Tryz.f106.name,by decide,Tryz.func106.trans (congrArg some (by kernel_rfl))⟩
 f14:=⟨Tryz.f165.name,by decide,Tryz.func165.trans (congrArg some (by kernel_rfl))⟩
 f15:=Tryz.func166.trans (congrArg some (by kernel_rfl))
 f20:=⟨Tryz.f227.name,by decide,Tryz.func227.trans (congrArg some (by kernel_rfl))⟩
 f21:=⟨Tryz.f228.name,by decide,Tryz.func228.trans (congrArg some (by kernel_rfl))⟩
 f22:=⟨Tryz.f229.name,by decide,Tryz.func229.trans (congrArg some (by kernel_rfl))⟩
 f23:=⟨Tryz.f230.name,by decide,Tryz.func230.trans (congrArg some (by kernel_rfl))⟩
 f24:=⟨Tryz.f231.name,by decide,Tryz.func231.trans (congrArg some (by kernel_rfl))⟩
 f25:=⟨Tryz.f232.name,by decide,Tryz.func232.trans (congrArg some (by kernel_rfl))⟩
 f26:=⟨Tryz.f233.name,by decide,Tryz.func233.trans (congrArg some (by kernel_rfl))⟩
 f27:=⟨Tryz.f234.name,by decide,Tryz.func234.trans (congrArg some (by kernel_rfl))⟩
 f28:=Tryz.func235.trans (congrArg some (by kernel_rfl))
 f29:=Tryz.func236.trans (congrArg some (by kernel_rfl))
 f46:=⟨Tryz.f308.name,by decide,Tryz.func308.trans (congrArg some (by kernel_rfl))⟩
 f47:=Tryz.func309.trans (congrArg some (by kernel_rfl))
 f48:=Tryz.func310.trans (congrArg some (by kernel_rfl))
 f49:=⟨Tryz.f311.name,by decide,Tryz.func311.trans (congrArg some (by kernel_rfl))⟩
 f50:=⟨Tryz.f312.name,by decide,Tryz.func312.trans (congrArg some (by kernel_rfl))⟩
 f57:=⟨Tryz.f350.name,by decide,Tryz.func350.trans (congrArg some (by kernel_rfl))⟩
 t0:=Tryz.underlying0
 a0:=Tryz.isAgg0
 z0:=Tryz.sizeOf0
 v0:=Tryz.zeroValue0
 t3:=Tryz.underlying3
 a3:=Tryz.isAgg3
 z3:=Tryz.sizeOf3
 v3:=Tryz.zeroValue3
 t4:=Tryz.underlying4
 a4:=Tryz.isAgg4
 z4:=Tryz.sizeOf4
 v4:=Tryz.zeroValue4
 t5:=Tryz.underlying5
 a5:=Tryz.isAgg5
 z5:=Tryz.sizeOf5
 v5:=Tryz.zeroValue5
 t9:=Tryz.underlying9
 a9:=Tryz.isAgg9
 z9:=Tryz.sizeOf9
 v9:=Tryz.zeroValue9
 t22:=Tryz.underlying62
 a22:=Tryz.isAgg62
 z22:=Tryz.sizeOf62
 v22:=Tryz.zeroValue62
 t25:=Tryz.underlying164
 a25:=Tryz.isAgg164
 z25:=Tryz.sizeOf164
 v25:=Tryz.zeroValue164
 t39:=Tryz.underlying224
 a39:=Tryz.isAgg224
 z39:=Tryz.sizeOf224
 v39:=Tryz.zeroValue224
 t45:=Tryz.underlying272
 a45:=Tryz.isAgg272
 z45:=Tryz.sizeOf272
 v45:=Tryz.zeroValue272
 t46:=Tryz.underlying273
 a46:=Tryz.isAgg273
 z46:=Tryz.sizeOf273
 v46:=Tryz.zeroValue273
 t50:=Tryz.underlying176
 a50:=Tryz.isAgg176
 z50:=Tryz.sizeOf176
 v50:=Tryz.zeroValue176
 t53:=Tryz.underlying279
 a53:=Tryz.isAgg279
 z53:=Tryz.sizeOf279
 v53:=Tryz.zeroValue279
 t55:=Tryz.underlying43
 a55:=Tryz.isAgg43
 z55:=Tryz.sizeOf43
 v55:=Tryz.zeroValue43
 t66:=Tryz.underlying337
 a66:=Tryz.isAgg337
 z66:=Tryz.sizeOf337
 v66:=Tryz.zeroValue337
 t70:=Tryz.underlying340
 a70:=Tryz.isAgg340
 z70:=Tryz.sizeOf340
 v70:=Tryz.zeroValue340
 t76:=Tryz.underlying360
 a76:=Tryz.isAgg360
 z76:=Tryz.sizeOf360
 v76:=Tryz.zeroValue360
 t77:=Tryz.underlying361
 a77:=Tryz.isAgg361
 z77:=Tryz.sizeOf361
 v77:=Tryz.zeroValue361}
end Go.Proofs
namespace Go.Proofs.YtmhhlijfepaphaaGreatDoor
open Go Go.Vc _root_.Go.Proofs.Tryz
def marks:List UInt8:=[123,125,40,41,44,58,64,43,45,61]
def ac4(c:UInt8)(h:128<=c.toNat):∃a b:UInt8,Utf8.encode (un c)=bs [a,b]/\128<=b.toNat:=by
 have f:=c.toNat_lt;refine⟨UInt8.ofNat (0xC0+c.toNat / 64),UInt8.ofNat (0x80+c.toNat%64),?_,?_⟩
 .have e:Utf8.valid (un c)=true:=by
   unfold Utf8.valid un
   simp
   omega
  have d:(un c).toNat=c.toNat:=by unfold un;exact aq _
  unfold Utf8.encode;simp only[e,kD,d];rw[af (by omega),ag (by omega)];rfl
 rw[mH];omega
open Go.Shelf Go.RowKit Go.Lib in
set_option maxHeartbeats 2000000 in
set_option maxRecDepth 1000000 in
theorem ir(w:ah)(n:Int)(h0:0<=n)(h1:¬ n<128)(h2:n<256)(h3:(n==65533)=false)(a b:UInt8)(he:Utf8.encode n=⟨#[a,b]⟩)(hv:Lib.validRune n=true)(hb:128<=b.toNat):
  Calls prog 374 #[.string ⟨#[123,125,40,41,44,58,64,43,45,61]⟩,.int .i32 n] w λe w'=>e=.returned (.int .i64 (-1))/\aZ w w' []:=by
 have e289:∀args w,(callFunc 383 args).run prog w=.ok (.enter 383 args) w:=enters_of func383 (by kernel_rfl) rfl;have e290:∀args w,(callFunc 384 args).run prog w=.ok (.enter 384 args) w:=enters_of func384 (by kernel_rfl) rfl
 go_enter func374,Tryz.ntmps374
 go_wp2_with (first
  |(go_at_fn 384;refine(Tryz.utf8_ValidRune _ _).mono ?_;rintro e w' ⟨rfl,hw⟩;rw[hw,hv])
  |(go_at_fn 383;refine(Tryz.strings_IndexByte _ _ _).mono ?_;rintro e w' ⟨rfl,hw⟩;rw[hw]))
 have hcv:∀w,(convert 21 9 (.int .i32 n)).run prog w=.ok (.string ⟨#[a,b]⟩) w:=λw=>by
  rw[<-he];simp[convert,cW (P:=prog) underlying21,cW (P:=prog) underlying9,Conv.intToString]
 go_step3
 go_wp2_with (first
  |(go_at_fn 383;refine(Tryz.strings_IndexByte _ _ _).mono ?_;rintro e w' ⟨rfl,hw⟩;rw[hw]))
 refine wp_loop_once ?_;have hb2:((125:Int) !=(b.toNat:Int))=true:=by rw[pK];omega
 have hne:∀x:UInt8,x.toNat<128->(x==b)=false:=λx hx=>by rw[aC];rintro rfl;omega
 go_wp2_with (first
  |(go_at_fn 383;refine(Tryz.strings_IndexByte _ _ _).mono ?_;rintro e w' ⟨rfl,hw⟩;rw[hw]))
 all_goals (try go_step3)
 go_wp2_with (first
  |(go_at_fn 383;refine(Tryz.strings_IndexByte _ _ _).mono ?_;rintro e w' ⟨rfl,hw⟩;rw[hw]))
 all_goals go_region
 all_goals go_wp2
 .have hi:Lib.indexByte [40,41,44,58,64,43,45,61] ((⟨#[a,b]⟩:ByteArray)[1]'(by show 1<2;decide))=-1:=by
   show Lib.indexByte [40,41,44,58,64,43,45,61] b=-1;simp[Lib.indexByte,hne 40 (by decide),hne 41 (by decide),hne 44 (by decide),hne 58 (by decide),hne 64 (by decide),hne 43 (by decide),hne 45 (by decide),hne 61 (by decide)]
  have c2:aZ w w.drew.drew []:=(aZ.drew w []).trans (aZ.drew _ []) (by simp)
  go_region_with (go_at_call 383;refine(Tryz.strings_IndexByte _ _ _).mono ?_;rintro e w' ⟨rfl,hw⟩;rw[hw])
  all_goals go_wp2
  all_goals (rw[Exit.noGoto_ret];show bodyPost prog Tryz.f374 (λe w'=>e=Ending.returned (Value.int IntKind.i64 (-1))/\aZ w w' []) Exit.ret _ _;go_ret;exact⟨rfl,c2⟩)
 exfalso
 first
  |exact absurd hb2 (show ¬ ((125:Int) !=(b.toNat:Int))=true by assumption)
  |exact absurd hb2 (by rw[show((125:Int) !=(b.toNat:Int))=false by assumption];decide)
  |exact absurd (show(125:Int)=(b.toNat:Int) by assumption) (by omega)
def JH(w:ah)(c:UInt8)(h:128<=c.toNat):CP 374 #[sv marks,.int .i32 (un c)] w (λr d=>r=iv (-1)/\aZ w d []):=by
 obtain⟨a,b,g,f⟩:=ac4 c h;have i:=c.toNat_lt;have j:un c=(c.toNat:Int):=rfl;refine Calls.mono (ir w (un c) (by omega) (by omega) (by omega) (by rw[aC];omega) a b g (dT (.inl (by omega))) f) ?_;rintro e d ⟨rfl,h⟩;exact⟨_,rfl,rfl,h⟩
def PI:∀n:Nat,n<128->decide (0<=Lib.indexByte marks n.toUInt8)=marks.contains n.toUInt8:=by decide
def L4{c:UInt8}(h:128<=c.toNat):marks.contains c=false:=by
 cases hm:marks.contains c with
 |false=>rfl
 |true=>
  have:c∈marks:=by simpa using hm
  simp only[marks,aP,dR,iS] at this;rcases this with rfl|rfl|rfl|rfl|rfl|rfl|rfl|rfl|rfl|rfl<;>revert h<;>decide
def LB(w:ah)(c:UInt8):CP 360 #[sv marks,.int .i32 (un c)] w (λr d=>r=.bool (marks.contains c)/\aZ w d []):=by
 rcases aQ c.toNat 128 with h|h
 .refine(Tryz.strings_ContainsRune_ascii (bs marks) (un c) w (by unfold un;omega) (by unfold un;omega)).mono ?_;rintro e f ⟨rfl,rfl⟩;refine⟨_,rfl,?_,aZ.refl _ _⟩;have a:(un c).toNat.toUInt8=c:=by unfold un;rw[aq];exact oI
  have:=PI c.toNat h;have b:c.toNat.toUInt8=c:=oI;rw[b] at this;rw[a,<-this];rfl
 exact rF.2.2.2.1 (bF (JH w c h) λf a=>⟨_,rfl,by rw[L4 h];rfl,a⟩)
structure Tk where
 k:Int
 t:List UInt8
 v:Int
 a:Int
def Tk.cells(x:Tk):List Value:=[iv x.k,sv x.t,iv x.v,iv x.a]
def Tk.len(x:Tk):x.cells.length=4:=rfl
def Tk.one(x:Tk):∀v∈x.cells,v.oneCell'=true:=by
 intro v a;simp[Tk.cells] at a;rcases a with rfl|rfl|rfl|rfl<;>rfl
def Tk.val(x:Tk):Value:=.agg x.cells.toArray
def qC:Tk:=⟨0,[],0,0⟩
def aci:ru prog 309 350 qC.val 4 40:=ru.mk' underlying309 (by kernel_rfl) rfl (by decide)
def digits(l:List UInt8):List UInt8:=l.takeWhile λc=>sg (un c)
def word(l:List UInt8):List UInt8:=l.takeWhile λc=>inr (un c)
def iE(l:List UInt8)(n:Nat)(c:UInt8):Tk×Int:=
 if CW (un c) then (if 12<(word (l.drop n)).length then (qC,3) else (⟨1,word (l.drop n),0,n⟩,0))
 else if sg (un c) then (if (uB (digits (l.drop n))).2≠0 then (qC,(uB (digits (l.drop n))).2) else (⟨2,digits (l.drop n),(uB (digits (l.drop n))).1,n⟩,0))
 else if marks.contains c then (⟨3,[c],0,n⟩,0) else (qC,2)
theorem UP{p:UInt8->Bool}:∀(l:List UInt8),(l.takeWhile p).all p=true
 |[]=>rfl
 |c::l=>by
  rw[gO]
  split
  .rename_i h;rw[fz,h,UP l];rfl
  rfl
def Zq(w:ah){l:List UInt8}(D:l.length<=4000){n:Nat}{c:UInt8}(hc:l[n]?=some c):
  CP 329 #[sv l,iv n] w (λr o=>r=.tuple #[(iE l n c).1.val,iv (iE l n c).2]/\aZ w o []):=by
 refine rF.2.1.2.2.2.2.1 ?_;have E:=(ai.1 hc).1;refine bE qC.cells.toArray λs F A=>A.aY qC.cells.toArray λt G B=>B.aR 0 rfl (Tk.mk 0 [] 0 n).cells rfl (Tk.one _) λC m=>⟨λu=>(iE l n c).2=0/\St w u (Sep [ay t (iE l n c).1.cells.toArray 350,ay s qC.cells.toArray 350,emp]),?_,by omega,?_⟩
 .rintro u ⟨d,a⟩-;exact⟨_,_,_,_,a.cellsIn 0 rfl,a.aR 1 rfl (iE l n c).1.cells rfl (Tk.one _) λe b=>⟨_,_,_,_,b.cellsIn 1 rfl,by rw[d];rfl,b.aK⟩⟩
 rw[aq,lJ,hc];rw[fN,wrap32];refine bg (D4 C (un c)) ?_;rintro v _ ⟨rfl,rfl⟩;refine⟨_,rfl,?_⟩;have h:∀{e:Int} {o:ah},St w o (Sep [ay t (Tk.mk 0 [] 0 n).cells.toArray 350,ay s qC.cells.toArray 350,emp])->True:=λ_=>trivial;clear h
 cases h1:CW (un c) with
 |true=>
  have b:iE l n c=if 12<(word (l.drop n)).length then (qC,3) else (⟨1,word (l.drop n),0,n⟩,0):=by rw[iE,ag h1]
  refine cT rfl (kR (Ui _ (by omega) (p:=λc=>inr (un c)) Wl (by omega)) ⟨_,rfl,m.cL 0 rfl (j:=0) (show 0<4 by decide) rfl λx k=>k.cL 0 rfl (j:=1) (show 1<4 by decide) rfl λr d=>⟨_,d.aj 0 rfl 1,?_⟩⟩);show cond (decide ((((bs (word (l.drop n))).size:Nat):Int)>12)) _ _;rw[jC]
  by_cases f:12<(word (l.drop n)).length
  .rw[ag f] at b;exact di (by omega) (d.aR 1 rfl qC.cells rfl (Tk.one _) λg a=>⟨0,bs [],0,0,a.cellsIn 1 rfl,by rw[b];rfl,a.aK⟩)
  rw[af f] at b;exact dz (by omega) ⟨by rw[b],by rw[b];exact d⟩
 |false=>
 refine cF rfl (bg (Hf _ (un c)) ?_);rintro v _ ⟨rfl,rfl⟩;refine⟨_,rfl,?_⟩
 cases h2:sg (un c) with
 |true=>
  have b:iE l n c=if (uB (digits (l.drop n))).2≠0 then (qC,(uB (digits (l.drop n))).2) else (⟨2,digits (l.drop n),(uB (digits (l.drop n))).1,n⟩,0):=by rw[iE,af (by rw[h1];decide),ag h2]
  refine cT rfl (kR (Ui _ (by omega) (p:=λc=>sg (un c)) VU (by omega)) ⟨_,rfl,m.cL 0 rfl (j:=0) (show 0<4 by decide) rfl λx k=>k.cL 0 rfl (j:=1) (show 1<4 by decide) rfl λr d=>⟨_,d.aj 0 rfl 1,?_⟩⟩);have i:(digits (l.drop n)).length<=4000:=bp (mF _).length_le (by rw[bG];omega);refine bg (Tl r (l:=digits (l.drop n)) (UP _) (by omega)) ?_;rintro v _ ⟨rfl,rfl⟩;refine⟨_,_,rfl,?_⟩
  by_cases f:(uB (digits (l.drop n))).2=0
  .rw[af (by simpa using f)] at b;exact cF (by rw[f];rfl) (d.cL 0 rfl (j:=2) (show 2<4 by decide) rfl λg a=>⟨by rw[b],by rw[b];exact a⟩)
  rw[ag f] at b;exact gM f (d.aR 1 rfl qC.cells rfl (Tk.one _) λg a=>⟨0,bs [],0,0,a.cellsIn 1 rfl,by rw[b];rfl,a.aK⟩)
 |false=>
 refine cF rfl (m.qu (LB _ c) λq i=>⟨_,rfl,?_⟩)
 cases f:marks.contains c with
 |true=>
  have b:iE l n c=(⟨3,[c],0,n⟩,0):=by rw[iE,af (by rw[h1];decide),af (by rw[h2];decide),ag f]
  have y:IntKind.i64.wrap ((n:Int)+1)=((n+1:Nat):Int):=by rw[gC (by omega)];omega
  have z:(bs l).extract n (n+1)=bs [c]:=by
   rw[DA,jk]
   congr 1
   rw[List.take_one,List.head?_drop,hc];rfl
  rw[y,jC];simp only[aq];rw[z];exact cT rfl ⟨by omega,by omega,by omega,by omega,(i.quiet (aZ.drew q [])).cL 0 rfl (j:=0) (show 0<4 by decide) rfl λx k=>k.cL 0 rfl (j:=1) (show 1<4 by decide) rfl λr d=>⟨by rw[b],by rw[b];exact d⟩⟩
 |false=>
  have b:iE l n c=(qC,2):=by rw[iE,af (by rw[h1];decide),af (by rw[h2];decide),af (by rw[f];decide)]
  exact cF rfl (i.aR 1 rfl qC.cells rfl (Tk.one _) λg a=>⟨0,bs [],0,0,a.cellsIn 1 rfl,by rw[b];rfl,a.aK⟩)
def JZ{l:List UInt8}{n:Nat}{c:UInt8}(hc:l[n]?=some c)(a:(iE l n c).2=0):1<=(iE l n c).1.t.length/\n+(iE l n c).1.t.length<=l.length:=by
 have e:=(ai.1 hc).1;have hd:l.drop n=c::l.drop (n+1):=by rw[bO e];congr 1;exact dP ((gE e).symm.trans hc)
 have f:∀{p:UInt8->Bool},p c=true->1<=((l.drop n).takeWhile p).length/\n+((l.drop n).takeWhile p).length<=l.length:=λ{p} g=>by
  have b:((l.drop n).takeWhile p).length<=(l.drop n).length:=(mF _).length_le;rw[bG] at b;refine⟨?_,by omega⟩;rw[hd,gO,ag g];simp
 unfold iE at a⊢
 split
 .rename_i h;rw[ag h] at a
  split
  .rename_i b;rw[ag b] at a;cases a
  exact f (p:=λc=>inr (un c)) (by simp[inr,h])
 rename_i h;rw[af h] at a
 split
 .rename_i b;rw[ag b] at a
  split
  .rename_i d;rw[ag d] at a;exact absurd a d
  exact f (p:=λc=>sg (un c)) b
 rename_i b;rw[af b] at a
 split
 .exact⟨aD _,by simp;omega⟩
 rename_i d;rw[af d] at a;cases a
def vS(l:List UInt8):Nat->Nat->List Tk->List Tk×Int
 |0,_,a=>(a,0)
 |f+1,n,a=>match l[n]? with
  |none=>(a,0)
  |some c=>if c=32 then vS l f (n+1) a else if (iE l n c).2≠0 then ([],(iE l n c).2) else vS l f (n+(iE l n c).1.t.length) (a++[(iE l n c).1])
def fS(l:List UInt8):List Tk×Int:=if 4000<l.length then ([],3) else vS l l.length 0 []
def UM{w:ah}(l:List UInt8):
  CP 274 #[sv l] w (λr b=>∃a c,r=.tuple #[.slice a (fS l).1.length c,iv (fS l).2]/\St w b (iQ 350 4 Tk.cells a c (fS l).1)):=by
 refine rF.2.1.2.1 ?_;rw[jC]
 by_cases v:4000<l.length
 .refine di (by omega) ⟨none,0,?_⟩;rw[fS,ag v];exact⟨rfl,(St.start w).gB.first⟩
 refine dz (by omega) ?_;have B:fS l=vS l l.length 0 []:=by rw[fS,af v]
 refine⟨λa y c n u m=>∃(k:Nat) (b:List Tk),n=k/\k<=l.length/\m=l.length-k/\y=b.length/\b.length<=k/\(∃f,l.length-k<=f/\vS l f k b=fS l)/\St w u (star (iQ 350 4 Tk.cells a c b) emp),⟨l.length,0,[],rfl,by omega,by omega,rfl,by simp,⟨l.length,by omega,B.symm⟩,(St.start w).gB⟩,?_⟩;rintro u m a y c n ⟨k,b,rfl,L,M,rfl,C,⟨f,K,d⟩,r⟩-
 by_cases o:k<l.length
 .have i:=gE o;generalize l[k]'o=x at i;obtain⟨f,rfl⟩:∃g,f=g+1:=⟨f-1,by omega⟩;rw[vS,i] at d;simp only at d;refine di (by omega) ⟨by omega,?_⟩;rw[aq,lJ,i]
  by_cases e:x=32
  .rw[ag e] at d;exact cT (by rw[e];rfl) ⟨l.length-(k+1),by omega,k+1,b,gC (by omega),by omega,rfl,rfl,by omega,⟨f,by omega,d⟩,r⟩
  rw[af e] at d;have p:(x.toNat:Int)≠32:=λh=>e (fP.1 (by have:(32:UInt8).toNat=32:=rfl;omega));refine iI p (bF (Zq u (by omega) i) λG A=>?_);have D:St w G (Sep [_]):=r.quiet A;refine Ex4 ⟨_,rfl,D.aY qC.cells.toArray λN O E=>E.aR 0 rfl (iE l k x).1.cells rfl (Tk.one _) λP s=>?_⟩
  by_cases j:(iE l k x).2=0
  .rw[af (by simpa using j)] at d;have q:=JZ i j;refine cF (by rw[j];rfl) ⟨_,_,_,_,s.cellsIn 0 rfl,iT aci Tk.len (x:=(iE l k x).1) (Tk.one _) (s.out 1 rfl) (by omega) (by omega) (λI J H F=>?_) rfl⟩;have z:St w H (Sep [_,_]):=F;refine⟨_,z.aj 1 rfl 1,l.length-(k+(iE l k x).1.t.length),by omega,k+(iE l k x).1.t.length,b++[(iE l k x).1],?_,q.2,rfl,rfl,?_,⟨f,by omega,d⟩,z.aM [0]⟩
   .rw[jC,gC (by omega)];omega
   rw[aA,aG];omega
  rw[ag j] at d;refine gM j ⟨none,0,?_⟩;rw[<-d];exact⟨rfl,(St.start' s.aK).gB.first⟩
 have i:l[k]?=none:=aJ (by omega);have e:vS l f k b=(b,0):=by
  cases f with
  |zero=>rfl
  |succ f=>rw[vS,i]
 rw[e] at d;refine dz (by omega) ⟨a,c,?_⟩;rw[<-d];exact⟨rfl,r.first⟩
def scL(b:Nat)(a:OA)(c:Nat)(l:List Tk)(e:Int):List bP:=[ay b #[.slice a l.length c,iv e] 354,held λw=>iA 4 Tk.cells w a l]
def uu(w0 w:ah)(b:Nat)(l:List Tk)(e:Int)(B:bP):Prop:=∃a c,l.length<=c/\l.length<=4000/\St w0 w (Sep (scL b a c l e++[B]))
abbrev pt (b:Nat):Value:=.pointer (qs b)
section
variable {w0 w:ah} {b:Nat} {l:List Tk} {e:Int} {B:bP}
def uu.quiet{d:ah}(h:uu w0 w b l e B)(hc:aZ w d []):uu w0 d b l e B:=let ⟨a,c,h1,h2,s⟩:=h;⟨a,c,h1,h2,s.quiet hc⟩
def uu.aK(h:uu w0 w b l e B):aZ w0 w []:=let ⟨_,_,_,_,s⟩:=h;s.aK
theorem uu.add(h:uu w0 w b l e B){d:ah}{A:bP}(k:St w d A):uu w0 d b l e (star A B):=by
 obtain⟨a,c,f,g,s⟩:=h;have i:St w0 d (Sep [A,_,_,B]):=s.and k;exact⟨a,c,f,g,(i.aM [1,2,0,3]).eqv (fF.right (fF.right fF.assoc'))⟩
def uu.drop{A:bP}(h:uu w0 w b l e (star A B)):uu w0 w b l e B:=by
 obtain⟨a,c,d,f,s⟩:=h;exact⟨a,c,d,f,s.weak (dU.right (dU.right (dU.left ((dU.left (dU.none A)).trans (fF.swap.trans (fF.unit' B)).weak))))⟩
def uu.out{m:List bP}(h:uu w0 w b l e (star (Sep m) B)):∃d,St w0 w (Sep (m++[d]))/\∀{f:ah} {m':List bP},St w0 f (Sep (m'++[d]))->uu w0 f b l e (star (Sep m') B):=by
 obtain⟨a,c,g,i,s⟩:=h;exact⟨star (Sep (scL b a c l e)) B,St.open (((s.split (scL b a c l e)).eqv (fF.right (fF.unit' _))).sP),λk=>⟨a,c,g,i,St.cat ((k.shut.sP).eqv (fF.right (fF.unit _)))⟩⟩
def uu.frame(h:uu w0 w b l e B):St w0 w B:=by
 obtain⟨a,c,d,f,s⟩:=h;exact(s.split [_,_]).second.single
def dr(l:List Tk)(e:Int):Tk:=if e=0 then l.headD qC else qC
def jH(l:List Tk)(e:Int):List Tk:=if e=0 then l.tail else l
def iG(e k:Int):Int:=if e=0 then k else e
def mB(l:List Tk)(e:Int):Int:=iG e (if l.length=0 then 1 else 2)
def kA(m:List UInt8)(l:List Tk)(e:Int):Bool:=decide ((dr l e).k=3)&&(dr l e).t==m
def pz(m:List UInt8)(l:List Tk)(e:Int):List Tk:=if kA m l e then jH l e else l
def OL{w:ah}{a:OA}{c:Nat}{l:List Tk}(h:iA 4 Tk.cells w a l)(hc:l.length<=c):iA 4 Tk.cells w (if c=1 then a else Option.map (λx=>Addr.add x (1*4)) a) l.tail:=λi x d=>by
 rw[List.getElem?_tail] at d;have f:=(ai.1 d).1;obtain⟨q,e,b⟩:=h.at d;refine⟨q.add (1*4),_,by rw[af (by omega),e];rfl,?_,rfl,rfl⟩;rw[Addr.add_add,<-cH,jM 1 i];exact b
def Ac(m:List UInt8)(l:List Tk)(e:Int):Int:=if kA m l e then e else mB l e
def yp(h:uu w0 w b l e B):CP 330 #[pt b] w (λr v=>r=(dr l e).val/\aZ w v []):=by
 obtain⟨a,c,z,A,s⟩:=h;refine rF.2.1.2.2.2.2.2.1 ?_;have u:=s.eu 1 rfl;have o:=s.aj 0 rfl 0;have g1:=s.aj 0 rfl 1;refine bE qC.cells.toArray λC y g=>?_;have k:=iV o g.aK;have t:=iV g1 g.aK;refine⟨λx m=>x = !(decide (e=0)&&decide (l.length≠0))/\m=y,?_,_,t,?_⟩
 .rintro m x ⟨rfl,rfl⟩-
  by_cases d:e=0
  .cases l with
   |nil=>exact cT (by simp) (g.aR 0 rfl qC.cells rfl (Tk.one _) λn f=>⟨_,_,_,_,f.cellsIn 0 rfl,by rw[dr,ag d];rfl,f.aK⟩)
   |cons x l=>
    obtain⟨q,p,j⟩:=(u.aK g.aK).at (i:=0) (x:=x) rfl;refine cF (by simp[d]) ⟨_,_,_,k,av p ⟨by omega,by simp,_,_,_,_,j,g.aR 0 rfl x.cells rfl (Tk.one _) λn f=>⟨_,_,_,_,f.cellsIn 0 rfl,by rw[dr,ag d];rfl,f.aK⟩⟩⟩
  exact cT (by simp[d]) (g.aR 0 rfl qC.cells rfl (Tk.one _) λn f=>⟨_,_,_,_,f.cellsIn 0 rfl,by rw[dr,af d];rfl,f.aK⟩)
 by_cases d:e=0
 .refine cF (by simp[d]) ⟨_,_,_,k,?_,rfl⟩;rw[dT d]
  cases l with
  |nil=>rfl
  |cons x l=>simp;omega
 exact cT (by simpa using d) ⟨by simp[d],rfl⟩
def sR(h:uu w0 w b l e B)(k:Int):CP 332 #[pt b,iv k] w (λr n=>r=.tuple #[]/\uu w0 n b l (iG e k) B):=by
 obtain⟨a,c,f,g,s⟩:=h;refine(p6 rF.2.1).1 ⟨λx i=>x=(e==0)/\i=w,?_,_,s.aj 0 rfl 1,rfl,rfl⟩;rintro i x ⟨rfl,rfl⟩-
 by_cases d:e=0
 .exact cT (by simpa using d) (s.cL 0 rfl (j:=1) (show 1<2 by decide) rfl λo m=>⟨rfl,a,c,f,g,by rw[iG,ag d];exact m⟩)
 exact cF (by simpa using d) ⟨rfl,a,c,f,g,by rw[iG,af d];exact s⟩
def EZ(h:uu w0 w b l e B):CP 362 #[pt b] w (λr m=>r=.tuple #[]/\uu w0 m b l (mB l e) B):=by
 refine(p6 (p6 rF.2.1)).2.1 ⟨λi=>uu w0 i b l (if l.length=0 then iG e 1 else e) B,?_,?_⟩
 .rintro i f -;refine bF (sR f 2) λa g=>⟨rfl,rfl,?_⟩;have:mB l e=iG (if l.length=0 then iG e 1 else e) 2:=by
   unfold mB iG
   split<;>split<;>simp_all
  rw[this];exact g
 have j:=h;obtain⟨a,c,f,g,s⟩:=j;refine⟨_,_,_,s.aj 0 rfl 0,?_⟩
 by_cases d:l.length=0
 .exact cT (by simpa using d) (bF (sR h 1) λn k=>⟨rfl,by rw[ag d];exact k⟩)
 exact cF (by simpa using d) (by rw[af d];exact h)
def Db(h:uu w0 w b l e B):CP 334 #[pt b] w (λr D=>r=(dr l e).val/\uu w0 D b (jH l e) e B):=by
 have v:=h;obtain⟨a,c,m,n,s⟩:=v;refine(p6 rF.2.1).2.1 (s.aY qC.cells.toArray λy E o=>bF (yp (⟨a,c,m,n,o.aM [1,2,3]⟩:uu w0 E b l e B)) λH u=>⟨_,_,_,_,rfl,(o.quiet u).aY qC.cells.toArray λz I A=>A.aR 0 rfl (dr l e).cells rfl (Tk.one _) λF f=>⟨λt=>∃k i,(jH l e).length<=i/\St w0 t (Sep (ay z (dr l e).cells.toArray 350::ay y qC.cells.toArray 350::(scL b k i (jH l e) e++[B]))),?_,?_⟩⟩)
 .rintro t ⟨k,i,d,p⟩-;have g:(jH l e).length<=4000:=by
   unfold jH;split
   .rw[gI];omega
   exact n
  exact⟨_,_,_,_,p.cellsIn 0 rfl,p.aR 1 rfl (dr l e).cells rfl (Tk.one _) λx q=>⟨_,_,_,_,q.cellsIn 1 rfl,rfl,k,i,d,g,q.aM [2,3,4]⟩⟩
 refine⟨λx p=>x=(decide (e=0)&&decide (l.length≠0))/\p=F,?_,_,f.aj 2 rfl 1,?_⟩
 .rintro p x ⟨rfl,rfl⟩-
  by_cases g:e=0/\l.length≠0
  .have en:jH l e=l.tail:=by rw[jH,ag g.1]
   refine cT (by simp[g.1];intro h;exact g.2 (by rw[h];rfl)) ⟨_,_,_,f.aj 2 rfl 0,by omega,by omega,f.cL 2 rfl (j:=0) (show 0<2 by decide) rfl λG q=>⟨if c=1 then a else Option.map (λx=>Addr.add x (1*4)) a,c-1,by rw[en,gI];omega,?_⟩⟩;have C:=(q.aM [3,0,1,2,4]).we ((cV _).mono λw d=>OL d m);rw[en];have el:l.tail.length=l.length-1:=gI;show St w0 G (Sep [_,_,ay b #[.slice (if c=1 then a else Option.map (λx=>Addr.add x (1*4)) a) l.tail.length (c-1),iv e] _,_,_]);rw[el];exact C.aM [1,2,3,0,4]
  have en:jH l e=l:=by
   unfold jH
   split
   .rename_i d
    cases l with
    |nil=>rfl
    |cons x l=>exact absurd ⟨d,by simp⟩ g
   rfl
  refine cF (by simp only[eX,ct];by_cases d:e=0;exact .inr λh=>g ⟨d,h⟩;exact .inl d) ⟨a,c,by rw[en];exact m,by rw[en];exact f⟩
 by_cases d:e=0
 .refine cT (by simpa using d) ⟨_,_,_,f.aj 2 rfl 0,?_,rfl⟩;rw[dT d,aO]
  by_cases g:l.length=0
  .rw[dF (by omega),dF (by omega)]
  rw[dT (by omega),dT g]
 exact cF (by simpa using d) ⟨by rw[dF d];rfl,rfl⟩
def ym(h:uu w0 w b l e B)(m:List UInt8):CP 337 #[pt b,sv m] w (λr j=>r=.bool (kA m l e)/\uu w0 j b (pz m l e) e B):=by
 refine(p6 rF.2.1).2.2.2.1 (bF (yp h) λp g=>⟨_,_,_,_,rfl,bE qC.cells.toArray λo q i=>i.aR 0 rfl (dr l e).cells rfl (Tk.one _) λn c=>?_⟩);have d:=(h.quiet g).quiet c.aK;refine⟨λx f=>x=(!kA m l e)/\f=n,?_,_,c.aj 0 rfl 0,?_⟩
 .rintro f x ⟨rfl,rfl⟩-
  cases ha:kA m l e with
  |false=>exact cT rfl ⟨rfl,by rw[pz,ha];exact d⟩
  |true=>
   exact cF rfl (bF (Db d) λs a=>⟨_,_,_,_,rfl,rfl,by rw[pz,ha];exact a⟩)
 by_cases a:(dr l e).k=3
 .refine cF (by simpa using a) ⟨_,c.aj 0 rfl 1,?_,rfl⟩;rw[kA,dT a,aO,j9,j9]
 exact cT (by simpa using a) ⟨by rw[kA,dF a];rfl,rfl⟩
def pg(h:uu w0 w b l e B)(m:List UInt8):CP 335 #[pt b,sv m] w (λr d=>r=.tuple #[]/\uu w0 d b (pz m l e) (Ac m l e) B):=by
 refine(p6 rF.2.1).2.2.1 (bF (ym h m) λf a=>⟨_,rfl,?_⟩)
 cases ha:kA m l e with
 |true=>exact cF rfl ⟨rfl,by rw[Ac,ha];exact a⟩
 |false=>
  have el:pz m l e=l:=by rw[pz,ha];rfl
  rw[el] at a;exact cT rfl (bF (EZ a) λg c=>⟨rfl,rfl,by rw[el,Ac,ha];exact c⟩)
def kV(l:List Tk)(e:Int):List UInt8:=if (dr l e).k=1 then (dr l e).t else []
def rK(l:List Tk)(e:Int):List Tk:=if (dr l e).k=1 then jH l e else l
def tB(l:List Tk)(e:Int):Int:=if (dr l e).k=1 then e else mB l e
def Xw(h:uu w0 w b l e B):CP 385 #[pt b] w (λr m=>r=sv (kV l e)/\uu w0 m b (rK l e) (tB l e) B):=by
 refine rF.2.2.1 (bF (yp h) λp d=>⟨_,_,_,_,rfl,bE qC.cells.toArray λo n i=>i.aR 0 rfl (dr l e).cells rfl (Tk.one _) λq c=>⟨_,c.aj 0 rfl 0,?_⟩⟩);have g:=(h.quiet d).quiet c.aK
 by_cases a:(dr l e).k=1
 .have g1:=c.aj 0 rfl 1;refine cF (by simpa using a) (bF (Db ((h.quiet d).add c)) λs f=>?_);have j:=f.frame.first;exact⟨_,_,_,_,rfl,_,j.aj 0 rfl 1,by rw[kV,ag a],by rw[rK,ag a,tB,ag a];exact f.drop⟩
 exact cT (by simpa using a) (bF (EZ g) λn f=>⟨rfl,by rw[kV,af a],by rw[rK,af a,tB,af a];exact f⟩)
def yC(m:Int)(t:Tk):Bool:=decide (t.v<0)||decide (t.v>m)
def nP(m:Int)(l:List Tk)(e:Int):Int:=if (dr l e).k=2/\yC m (dr l e)=false then (dr l e).v else 0
def wI(m:Int)(l:List Tk)(e:Int):List Tk:=if (dr l e).k=2/\yC m (dr l e)=false then jH l e else l
def tM(m:Int)(l:List Tk)(e:Int):Int:=if (dr l e).k=2 then (if yC m (dr l e) then iG e 4 else e) else mB l e
def BL(h:uu w0 w b l e B)(m:Int):CP 338 #[pt b,iv m] w (λr o=>r=iv (nP m l e)/\uu w0 o b (wI m l e) (tM m l e) B):=by
 refine(p6 rF.2.1).2.2.2.2.1 (bF (yp h) λs i=>⟨_,_,_,_,rfl,bE qC.cells.toArray λq t j=>j.aR 0 rfl (dr l e).cells rfl (Tk.one _) λp c=>⟨_,c.aj 0 rfl 0,?_⟩⟩);have f:=(h.quiet i).add c
 by_cases a:(dr l e).k=2
 .refine cF (by simpa using a) ⟨λx g=>x=yC m (dr l e)/\g=p,?_,_,c.aj 0 rfl 2,?_⟩
  .rintro g x ⟨rfl,rfl⟩-
   cases ha:yC m (dr l e) with
   |true=>
    exact cT rfl (bF (sR f 4) λn d=>⟨rfl,by rw[nP,af (by rw[ha];simp)],by rw[wI,af (by rw[ha];simp),tM,ag a,ag ha];exact d.drop⟩)
   |false=>
    refine cF rfl (bF (Db f) λu d=>?_);have n:=d.frame.first;exact⟨_,_,_,_,rfl,_,n.aj 0 rfl 2,by rw[nP,ag ⟨a,ha⟩],by rw[wI,ag ⟨a,ha⟩,tM,ag a,af (by rw[ha];decide)];exact d.drop⟩
  exact cBq (λd=>⟨by rw[yC,dT d];rfl,rfl⟩) λd=>⟨_,c.aj 0 rfl 2,by rw[yC,dF d];rfl,rfl⟩
 exact cT (by simpa using a) (bF (EZ f) λg d=>⟨rfl,by rw[nP,af (λh=>a h.1)],by rw[wI,af (λh=>a h.1),tM,af a];exact d.drop⟩)
def ET(h:uu w0 w b l e B):CP 339 #[pt b] w (λr d=>r=iv e/\d=w):=by
 obtain⟨a,c,f,g,s⟩:=h;exact(p6 rF.2.1).2.2.2.2.2.1 ⟨_,s.aj 0 rfl 1,rfl,rfl⟩
def vB(l:List Tk)(e:Int):Int:=if e=0/\0<l.length then 3 else e
def aag(h:uu w0 w b l e B):CP 277 #[pt b] w (λr k=>r=iv (vB l e)/\k=w):=by
 have j:=h;obtain⟨a,c,m,n,s⟩:=h;refine rF.2.1.2.2.2.1 ⟨λx i=>x=decide (e=0/\0<l.length)/\i=w,?_,_,s.aj 0 rfl 1,?_⟩
 .rintro i x ⟨rfl,rfl⟩-;exact cBq (λg=>⟨by rw[vB,ag g],rfl⟩) λg=>kR (ET j) ⟨_,rfl,by rw[vB,af g],rfl⟩
 by_cases d:e=0
 .refine cT (by simpa using d) ⟨_,_,_,s.aj 0 rfl 0,?_,rfl⟩
  by_cases f:0<l.length
  .rw[dT (p:=e=0/\0<l.length) ⟨d,f⟩];exact dT (by omega)
  rw[dF (p:=e=0/\0<l.length) (λh=>f h.2)];exact dF (by omega)
 exact cF (by simpa using d) ⟨by rw[dF (p:=e=0/\0<l.length) (λh=>d h.1)],rfl⟩
def PR(s:St w0 w B){a:OA}{c:Nat}(i:iA 4 Tk.cells w a l)(h:l.length<=4000):CP 275 #[.slice a l.length c] w (λr n=>∃b,r=pt b/\uu w0 n b l 0 B):=by
 refine rF.2.1.2.2.1 (dW (c2:=c) aci Tk.len Tk.one (l:=[]) s.gB i (by simp;omega) (by simp;omega) λf g o k=>?_);have e:=k;have d:=e.nj.1;exact(e.yW).aY _ λj p m=>⟨j,rfl,f,g,d,h,(((m.aM [1,0,2]).we (dS Tk.len)).aM [1,0,2])⟩
end
def N6(i:Nat)(c:UInt8):Bool:=CW (un c)||(decide (i≠0)&&inr (un c))
def PN{l:List UInt8}(b:1<=l.length)(d:l.length<=12)(h:∀(i:Nat) (c:UInt8),l[i]?=some c->N6 i c=true):iz l=true:=by
 cases l with
 |nil=>simp at b
 |cons c l=>
  have a:CW (un c)=true:=by have:=h 0 c rfl;simpa[N6] using this
  unfold iz;simp only[jr,j7,aO,je,cU,fL,a];rw[dT d,aO,bw];intro x f;obtain⟨i,e,rfl⟩:=dY.1 f;have:=h i _ (gE e);simp only[N6,Bool.or_eq_true,aF] at this;rcases this with h|⟨_,h⟩
  .simp[inr,h]
  exact h
def Td{l:List UInt8}(i:Nat)(c:UInt8)(hc:l[i]?=some c)(h:N6 i c=false):iz l=false:=by
 cases hn:iz l with
 |false=>rfl
 |true=>
  cases l with
  |nil=>simp at hc
  |cons x l=>
   unfold iz at hn;simp only[jr,j7,aO,je,cU,fL,aF,bw] at hn;obtain⟨_,a,b⟩:=hn;have d:=b c (ak hc);unfold N6 at h;rw[d,jv,cI] at h
   cases i with
   |zero=>simp at hc;subst hc;rw[a] at h;cases h.1
   |succ i=>simp at h
def DZ(w:ah)(l:List UInt8):CP 192 #[sv l] w (λr A=>r=.bool (iz l)/\A=w):=by
 refine rF.1.2.2.2.2.2.1 ⟨λb o=>o=w/\((b=true/\iz l=false)\/(b=false/\1<=l.length/\l.length<=12)),?_,?_⟩
 .rintro o b ⟨rfl,h⟩-;rcases h with⟨rfl,y⟩|⟨rfl,s,v⟩
  .exact cT rfl ⟨by rw[y],rfl⟩
  refine cF rfl ⟨λn p m=>∃k:Nat,n=k/\k<=l.length/\m=l.length-k/\(∀(i:Nat) (c:UInt8),i<k->l[i]?=some c->N6 i c=true)/\p=o,⟨l.length,0,rfl,by omega,by omega,λi c z=>by omega,rfl⟩,?_⟩;rintro p m n ⟨k,rfl,B,C,t,rfl⟩-
  by_cases g:(k:Int)<(l.length:Int)
  .obtain⟨c,d⟩:=dX l k (by omega);have get:∀{R:UInt8->Prop},R c->fN ((bs l)[((k:Nat):Int).toNat]?) R:=λ{R} h=>by
    rw[aq,lJ,d];exact h
   refine cT (by rw[jC];simpa using g) ⟨λb q=>q=p/\b=CW (un c),?_,by omega,get ?_⟩
   .rintro q b ⟨rfl,rfl⟩-;refine⟨λb u=>u=q/\b = !N6 k c,?_,?_⟩
    .rintro u b ⟨rfl,rfl⟩-
     cases ho:N6 k c with
     |true=>
      refine cF rfl ⟨l.length-(k+1),by omega,k+1,by rw[gC (by omega)];rfl,by omega,rfl,λi x z a=>?_,rfl⟩;rcases aQ i k with e |e
      .exact t i x e a
      obtain rfl:i=k:=by omega
      rw[d] at a;cases a;exact ho
     |false=>exact cT rfl ⟨by rw[Td k c d ho],rfl⟩
    cases hL:CW (un c) with
    |true=>exact cF rfl ⟨rfl,by simp[N6,hL]⟩
    |false=>
     refine cT rfl ?_
     by_cases j:k=0
     .subst j;exact cT rfl ⟨rfl,by simp[N6,hL]⟩
     refine cF (by simp;omega) ⟨by omega,get ?_⟩
     by_cases a:un c=95
     .refine cF (by simp;exact a) ⟨rfl,by simp[N6,inr,a,j]⟩
     refine cT (by simp;exact a) ⟨by omega,get ?_⟩
     by_cases e:un c<48
     .refine di e ⟨rfl,?_⟩;have:sg (un c)=false:=by simp[sg];omega
      simp[N6,hL,inr,this,a]
     refine dz e ⟨by omega,get ⟨rfl,?_⟩⟩
     by_cases f:un c>57
     .have:sg (un c)=false:=by simp[sg];omega
      rw[dT (show(c.toNat:Int)>57 from f)];simp[N6,hL,inr,this,a]
     have:sg (un c)=true:=by simp[sg];omega
     rw[dF (show ¬ (c.toNat:Int)>57 from f)];simp[N6,hL,inr,this,j]
   refine cBq (λa=>⟨by omega,get ⟨rfl,?_⟩⟩) λa=>⟨rfl,?_⟩
   .have:decide (97<=un c)=true:=dT a;unfold CW;rw[this];rfl
   have:decide (97<=un c)=false:=dF a;unfold CW;rw[this];rfl
  refine cF (by rw[jC];simpa using g) ⟨?_,rfl⟩;rw[PN s v λi c d=>t i c (by have:=(ai.1 d).1;omega) d]
 by_cases s:l.length<1
 .refine cT (by rw[jC];exact dT (by omega)) ⟨rfl,.inl ⟨rfl,?_⟩⟩;have:l=[]:=jj.1 (by omega);subst this;rfl
 refine cF (by rw[jC];exact dF (by omega)) ⟨rfl,?_⟩
 by_cases a:l.length<=12
 .exact .inr ⟨by rw[jC];exact dF (by omega),by omega,a⟩
 refine .inl ⟨by rw[jC];exact dT (by omega),?_⟩;simp[iz,dF a]
def abV(w:ah){a:UInt8}{t:List UInt8}(G:(a::t).length<=12)(s:CW (un a)=true):
  CP 285 #[sv (a::t)] w (λr b=>∃k,r=.tuple #[.agg #[iv 1,sv ((a::t).take k),iv 0,iv 0],iv 0]/\((a::t).take k==(a::t))=((a::t).all λc=>inr (un c))/\aZ w b []):=by
 refine Gn (dH ?_);have r:=(St.start w).one.jR #[(.int .i64 (0:Int)),(.string (bs [])),(.int .i64 (0:Int)),(.int .i64 (0:Int))] 323;generalize D:w.alloc _=E at r⊢;generalize C:w.heap.size=J at r⊢;generalize o:a::t=l at *;have q:l[0]?=some a:=by rw[<-o];rfl
 have I:1<=l.length:=by rw[<-o];simp
 have i:inr (un a)=true:=by simp[inr,s]
 refine⟨by omega,?_⟩;rw[show(0:Int).toNat=0 from rfl,lJ,q];refine bg (vi E (un a)) ?_;rintro v F ⟨rfl,rfl⟩;refine⟨_,rfl,cT s ⟨λn j m=>∃k:Nat,n=k/\1<=k/\k<=l.length/\m=l.length-k/\(l.take k).all (λc=>inr (un c))=true/\j=F,⟨l.length-1,1,rfl,by omega,by omega,rfl,?_,rfl⟩,?_⟩⟩
 .rw[<-o];simp[i]
 rintro j m n ⟨k,rfl,B,A,H,u,rfl⟩-;refine⟨λb y=>y=j/\((b=true/\∃c,l[k]?=some c/\inr (un c)=true)\/(b=false/\(k=l.length\/∃c,l[k]?=some c/\inr (un c)=false))),?_,?_⟩
 .rintro y b ⟨rfl,h⟩-;rcases h with⟨rfl,c,f,d⟩|⟨rfl,z⟩
  .have g:=(ai.1 f).1;exact cT rfl ⟨l.length-(k+1),by omega,k+1,by rw[gC (by omega)];rfl,by omega,by omega,rfl,wH (p:=λc=>inr (un c)) u f d,rfl⟩
  refine cF rfl (cF (by simp;omega) ⟨by omega,by rw[jC];omega,?_⟩);rw[aq,Jd];exact r.aR 0 rfl [iv 1,sv (l.take k),iv 0,iv 0] rfl (by intro v e;simp at e;rcases e with rfl|rfl|rfl<;>rfl) λK x=>⟨_,_,_,_,x.cellsIn 0 rfl,k,rfl,K3 u A z,x.aK⟩
 by_cases g:(k:Int)<(l.length:Int)
 .obtain⟨c,f⟩:=dX l k (by omega);have get:∀{R:UInt8->Prop},R c->fN ((bs l)[((k:Nat):Int).toNat]?) R:=λ{R} h=>by
   rw[aq,lJ,f];exact h
  refine cT (by rw[jC];simpa using g) ⟨by omega,get (bg (vi j (un c)) ?_)⟩;rintro v x ⟨rfl,rfl⟩;refine⟨_,rfl,?_⟩
  cases h1:CW (un c) with
  |true=>exact cT rfl ⟨rfl,.inl ⟨rfl,c,f,by simp[inr,h1]⟩⟩
  |false=>
   refine cF rfl ⟨by omega,get (kR (AG x (un c)) ⟨_,rfl,?_⟩)⟩
   cases h2:sg (un c) with
   |true=>exact cT rfl ⟨rfl,.inl ⟨rfl,c,f,by simp[inr,h1,h2]⟩⟩
   |false=>
    refine cF rfl ⟨by omega,get ⟨rfl,?_⟩⟩;have e:inr (un c)=(un c==95):=by simp[inr,h1,h2]
    by_cases d:un c=95
    .exact .inl ⟨by simp;exact d,c,f,by rw[e,d];rfl⟩
    exact .inr ⟨by simp;exact d,.inr ⟨c,f,by rw[e];simpa using d⟩⟩
 exact cF (by rw[jC];simpa using g) ⟨rfl,.inr ⟨rfl,.inl (by omega)⟩⟩
def LW(w:ah)(l:List UInt8):CP 282 #[sv l] w (λr n=>r=.bool (iz l)/\aZ w n []):=by
 refine rF.1.2.2.2.2.1 ⟨λb d=>d=w/\((b=true/\iz l=false)\/(b=false/\∃c t,l=c::t/\l.length<=12/\CW (un c)=true)),?_,?_⟩
 .rintro d b ⟨rfl,h⟩-;rcases h with⟨rfl,j⟩|⟨rfl,c,t,rfl,a,e⟩
  .exact cT rfl ⟨by rw[j],aZ.refl _ _⟩
  refine cF rfl (bg (abV d a e) ?_);rintro v o ⟨k,rfl,m,i⟩;refine Ex4 ⟨_,rfl,dH (((St.start' i).one.jR _ 323).aR 0 rfl [iv 1,sv ((c::t).take k),iv 0,iv 0] rfl (by intro v f;simp at f;rcases f with rfl|rfl|rfl<;>rfl) λp g=>cT rfl ⟨_,by rw[g.aj 0 rfl];rfl,?_,g.aK⟩)⟩;rw[j9,j9,m];unfold iz;simp only[jr,j7,aO,je,cU,fL,e];rw[dT a];rfl
 cases l with
 |nil=>exact cT (by rw[j9];rfl) ⟨rfl,.inl ⟨rfl,rfl⟩⟩
 |cons c t=>
  refine cF (by rw[j9,j9];rfl) ?_
  by_cases a:(c::t).length<=12
  .refine cF (by rw[jC];exact dF (by omega)) ⟨by omega,?_⟩;rw[show(0:Int).toNat=0 from rfl,lJ]
   change fN (some c) _
   refine bg (R:=_) (vi w (un c)) ?_;rintro v e ⟨rfl,rfl⟩;refine⟨_,rfl,rfl,?_⟩
   cases h:CW (un c) with
   |true=>exact .inr ⟨rfl,c,t,rfl,a,h⟩
   |false=>exact .inl ⟨rfl,by simp[iz,h]⟩
  refine cT (by rw[jC];exact dT (by omega)) ⟨rfl,.inl ⟨rfl,?_⟩⟩;simp only[iz,dF a]
  simp
def lX(n:Int):Bool:=decide (0<=n)&&decide (n<=4)
def pr(l:List Int):Int:=l.foldl (λn s=>n*(s+1)) 1
def C6(l:List Int)(s:Int):pr (l++[s])=pr l*(s+1):=by simp[pr]
def qD{l:List Int}{p:Int->Bool}{k:Nat}{c:Int}(h:(l.take k).all p=true)(hc:l[k]?=some c)(a:p c=true):(l.take (k+1)).all p=true:=by
 rw[bJ hc,fq,h];simp[a]
def td{l:List Int}{p:Int->Bool}{k:Nat}{c:Int}(hc:l[k]?=some c)(a:p c=false):l.all p=false:=by
 rw[fA];exact⟨c,ak hc,by simp[a]⟩
def lI(w:ah)(u:I6):CP 57 #[.agg u.vs.toArray] w (λr p=>r=iv (if u.l.all lX then 0 else 4)/\aZ w p []):=by
 refine oC.2.2.2.2.2.1 (dH ?_);have c:=(St.start w).one.jR u.vs.toArray 50;generalize o:w.alloc _=q at c⊢;generalize j:w.heap.size=v at c⊢;refine⟨_,c.cellsIn 0 rfl,λn e m=>∃k:Nat,n=k/\k<=6/\m=6-k/\(u.l.take k).all lX=true/\e=q,⟨6,0,rfl,by omega,by omega,rfl,rfl⟩,?_⟩;rintro e m n ⟨k,rfl,s,t,g,rfl⟩-
 by_cases d:(k:Int)<6
 .have a:k<6:=by omega
  have g1:=u.get k a;have g2:=u.vG k a;generalize u.at' k=x at g1 g2;refine gM d ⟨by omega,by omega,x,g1,λb h=>h=e/\b = !lX x,?_,?_⟩
  .rintro h b ⟨rfl,rfl⟩-
   cases hx:lX x with
   |true=>exact cF rfl ⟨6-(k+1),by omega,k+1,inc (by decide) a,by omega,rfl,qD g g2 hx,rfl⟩
   |false=>exact cT rfl ⟨by rw[td g2 hx];rfl,c.aK⟩
  refine cBq (λi=>⟨rfl,by simp[lX];omega⟩) λi=>⟨rfl,?_⟩;have:decide (0<=x)=true:=dT (by omega);unfold lX;rw[this,aO]
  by_cases f:x<=4
  .rw[dT f,dF (by omega)];rfl
  rw[dF f,dT (by omega)];rfl
 obtain rfl:k=6:=by omega
 refine cF (by simp) ⟨?_,c.aK⟩;rw[show u.l.all lX=true from g];rfl
def vf{l:List Int}(h:l.all lX=true):1<=pr l/\pr l<=5 ^ l.length:=by
 suffices H:∀(l:List Int) (a:Int),l.all lX=true->1<=a->1<=l.foldl (λn s=>n*(s+1)) a/\l.foldl (λn s=>n*(s+1)) a<=a*5 ^ l.length by
  have:=H l 1 h (by omega);unfold pr;omega
 intro l
 induction l with
 |nil=>intro a _ c;simp;exact c
 |cons x l j=>
  intro a b c;simp only[fz,aF] at b;have i:=b.1;simp only[lX,aF,aV] at i;have d:1<=a*(x+1):=by
   have:a*1<=a*(x+1):=cw (by omega) (by omega);omega
  obtain⟨e,k⟩:=j (a*(x+1)) b.2 d;refine⟨e,?_⟩;simp only[bD,bN,oo];have f:a*(x+1)<=a*5:=cw (by omega) (by omega);have m:(a*(x+1))*5 ^ l.length<=(a*5)*5 ^ l.length:=bt f (Int.pow_nonneg (by omega));have g:a*5*5 ^ l.length=a*(5 ^ l.length*5):=by rw[nu,om 5 (5 ^ l.length)]
  rw[<-g];omega
def CQ(w:ah)(u:I6):CP 168 #[.agg u.vs.toArray] w (λr v=>r=iv (if u.l.all lX=true/\pr u.l<=1024 then pr u.l else 0)/\aZ w v []):=by
 refine oC.2.2.2.2.1 (dH ?_);have c:=(St.start w).one.jR u.vs.toArray 50;generalize t:w.alloc _=y at c⊢;generalize s:w.heap.size=B at c⊢;refine⟨_,c.cellsIn 0 rfl,bF (lI y u) λz j=>⟨_,rfl,?_⟩⟩;have d:=c.quiet j
 by_cases a:u.l.all lX=true
 .rw[ag a];refine cF rfl ⟨_,d.cellsIn 0 rfl,λp n i m=>∃k:Nat,n=k/\k<=6/\m=6-k/\p=pr (u.l.take k)/\i=z,⟨6,0,rfl,by omega,by omega,rfl,rfl⟩,?_⟩;rintro i m p n ⟨k,rfl,q,A,rfl,rfl⟩-;have g:1<=pr (u.l.take k)/\pr (u.l.take k)<=15625:=by
   have b:(u.l.take k).all lX=true:=by
    rw[bw] at a⊢;exact λx e=>a x (bC e)
   obtain⟨f,h⟩:=vf b;refine⟨f,bM h ?_⟩;have o:(u.l.take k).length=k:=by simp[I6.len];omega
   rw[o]
   match k,q with
   |0,_|1,_|2,_|3,_|4,_|5,_|6,_=>decide
  by_cases f:(k:Int)<6
  .have b:k<6:=by omega
   have g1:=u.get k b;have g2:=u.vG k b;generalize u.at' k=x at g1 g2;have e:0<=x/\x<=4:=by
    have:=bw.1 a x (ak g2);simpa[lX] using this
   have o:=bM (cw (show x+1<=5 by omega) (by omega)) (bt g.2 (by omega));have h:0<=pr (u.l.take k)*(x+1):=dh (by omega) (by omega);refine gM f ⟨by omega,by omega,x,g1,6-(k+1),by omega,k+1,inc (by decide) b,by omega,rfl,?_,rfl⟩;rw[fQ (n:=x+1) ⟨by omega,by omega⟩,gC (by omega),bJ g2,C6]
  obtain rfl:k=6:=by omega
  refine cF (by simp) ?_;have e:u.l.take 6=u.l:=rfl;rw[e] at g⊢
  by_cases b:pr u.l<=1024
  .refine dz (by omega) ⟨?_,d.aK⟩;rw[ag ⟨a,b⟩]
  refine di (by omega) ⟨?_,d.aK⟩;rw[af λh=>b h.2]
 rw[af a];refine cT rfl ⟨?_,d.aK⟩;rw[af λh=>a h.1]
structure Pr where
 nm:List UInt8
 sup:Int
 res:Int
 pts:Int
 Bn:Int
def Pr.cells(p:Pr):List Value:=[sv p.nm,iv p.sup,iv p.res,iv p.pts,iv p.Bn]
def Pr.In(p:Pr):Prop:=Go.Vc.In p.sup/\Go.Vc.In p.res/\Go.Vc.In p.pts/\Go.Vc.In p.Bn
def kf(w:ah)(a:OA)(l:List Pr):Prop:=∀(i:Nat) (p:Pr),l[i]?=some p->p.In/\∃q,a=some q/\aU w (q.add (i*5)) 0 p.cells
def kf.aK{w b:ah}{a:OA}{l:List Pr}(h:kf w a l)(hc:aZ w b []):kf b a l:=λi p c=>
 let ⟨h1,q,hq,h2⟩:=h i p c
 ⟨h1,q,hq,ff hc h2⟩
def kf.take{w:ah}{a:OA}{l:List Pr}(h:kf w a l)(n:Nat):kf w a (l.take n):=λi p b=>by
 rw[bz] at b
 split at b
 .exact h i p b
 cases b
def Pr.one(p:Pr):∀v∈p.cells,v.oneCell'=true:=by
 intro v a;simp[Pr.cells] at a;rcases a with rfl|rfl|rfl|rfl|rfl<;>rfl
def Ux{a:OA}{c:Nat}:(if c=0 then a else Option.map (λx=>Addr.add x (0*5)) a)=a:=by
 split
 .rfl
 cases a<;>simp[Addr.add]
def jy{a:Type}{l:List a}{p:a->Bool}{k:Nat}{x:a}(h:(l.take k).any p=false)(c:l[k]?=some x)(b:p x=false):(l.take (k+1)).any p=false:=by
 rw[bJ c,List.any_append,h];simp[b]
def jQ{a:Type}{l:List a}{p:a->Bool}{k:Nat}{x:a}(c:l[k]?=some x)(b:p x=true):l.any p=true:=gG.2 ⟨x,ak c,b⟩
def Y8{w:ah}{a:OA}{c:Nat}{l:List Pr}(h:kf w a l)(s:l.length<=1000)(nm:List UInt8):
  CP 220 #[.slice a l.length c,sv nm] w (λr b=>(∃k:Int,r=.tuple #[iv k,.bool (l.any λp=>p.nm==nm)])/\aZ w b []):=by
 refine Gg ⟨λn o m=>∃k:Nat,n=k/\k<=l.length/\m=l.length-k/\(l.take k).any (λp=>p.nm==nm)=false/\aZ w o [],⟨l.length,0,rfl,by omega,by omega,rfl,aZ.refl _ _⟩,?_⟩;rintro o m n ⟨k,rfl,r,t,e,f⟩-
 by_cases b:(k:Int)<(l.length:Int)
 .obtain⟨x,i⟩:=dX l k (by omega);obtain⟨_,q,rfl,g⟩:=(h.aK f) k x i;refine gM b ⟨by omega,by omega,Ex4 ⟨_,g,dH (((St.start' f).one.jR _ 135).aR 0 rfl x.cells rfl x.one λu j=>⟨_,by rw[j.aj 0 rfl];rfl,?_⟩)⟩⟩
  by_cases d:x.nm=nm
  .exact cT (by rw[d];simp) ⟨⟨k,by rw[jQ i (by simpa using d)]⟩,j.aK⟩
  exact cF (by rw[j9,j9];simpa using d) ⟨l.length-(k+1),by omega,k+1,by rw[gC (by omega)];rfl,by omega,rfl,jy e i (by simpa using d),j.aK⟩
 refine iI b ⟨⟨0,?_⟩,f⟩;rw[bB (by omega)] at e;rw[e]
def xX(w:ah)(n x y:Int):CP 221 #[iv n,iv x,iv y] w (λr a=>r=.bool (decide (x<=n)&&decide (n<=y))/\a=w):=by
 exact oC.2.2.2.2.2.2.1 (cBq (λh=>⟨by rw[dT (h)];rfl,rfl⟩) λh=>⟨by rw[dF (h)];rfl,rfl⟩)
def Fy(l:List Pr):List Int:=(l.map Pr.sup++List.replicate (6-l.length) 0).take 6
def dD(l:List Pr):I6:=I6.Ff (l.map Pr.sup)
def vR(l:List Pr)(k:Nat)(a:k<6):(dD l).at' k=(l.map Pr.sup).getD k 0:=by
 match k,a with
 |0,_|1,_|2,_|3,_|4,_|5,_=>rfl
def MN(l:List Pr):(dD l).l=Fy l:=by
 apply aX;intro k;unfold Fy
 by_cases a:k<6
 .rw[I6.vG _ k a,vR l k a,bz,ag a]
  by_cases b:k<l.length
  .rw[dK (by simpa using b)];simp[b]
  rw[dJ (by simp;omega),cM,ag (by simp;omega)];simp[b]
 rw[aJ (by rw[I6.len];omega),bz,af a]
def tG{w:ah}{a:OA}{c:Nat}{l:List Pr}(h:kf w a l)(D:l.length<=1000):
  CP 48 #[.slice a l.length c] w (λr b=>r=.agg (dD l).vs.toArray/\aZ w b []):=by
 refine(p6 oC.2).2.1 (dH (dH ?_));have e:=((St.start w).one.jR z6.vs.toArray 50).jR z6.vs.toArray 50;generalize B:((w.alloc _).alloc _)=F at e⊢;generalize z:w.heap.size=p at e⊢;generalize A:(w.alloc _).heap.size=d at e⊢;refine⟨λn s m=>∃k:Nat,n=k/\k<=l.length/\m=l.length-k/\St w s (Sep [ay d (I6.mix (min k 6) (dD l) z6).vs.toArray 50,ay p z6.vs.toArray 50,emp]),⟨l.length,0,rfl,by omega,by omega,e⟩,?_⟩;rintro s m n ⟨k,rfl,C,E,b⟩-
 by_cases o:(k:Int)<(l.length:Int)
 .obtain⟨x,j⟩:=dX l k (by omega);obtain⟨_,q,y,i⟩:=(h.aK b.aK) k x j;refine gM o ⟨λt=>St w t (Sep [ay d (I6.mix (min (k+1) 6) (dD l) z6).vs.toArray 50,ay p z6.vs.toArray 50,emp]),?_,?_⟩
  .rintro t f -;exact mS (by omega) f
  rw[y];refine⟨by omega,by omega,Ex4 ⟨_,i,dH ((b.jR _ 135).aR 0 rfl x.cells rfl x.one λG f=>?_)⟩⟩
  by_cases g:k<6
  .refine di (by omega) ⟨_,by rw[f.aj 0 rfl];rfl,by omega,by omega,?_⟩;have v:Addr.add ⟨d,0,none⟩ (((k:Nat):Int).toNat*1)=⟨d,k,none⟩:=by rw[gW];simp
   rw[v];refine f.cL 1 rfl (by rw[I6.size];exact g) rfl λH r=>?_;have u:x.sup=(dD l).at' k:=by rw[vR l k g];simp[aL,j]
   rw[gu (by omega),u,I6.lE _ _ _ g] at r;rw[gu (by omega)];exact r.aM [1,2,3]
  rw[Nat.min_eq_right (by omega)] at f⊢;exact dz (by omega) (f.aM [1,2,3])
 obtain rfl:k=l.length:=by omega
 have f:I6.mix (min l.length 6) (dD l) z6=dD l:=by
  refine I6.ext' λj g=>?_;rw[I6.iy _ _ _ _ g,vR l j g]
  split
  .rfl
  rw[au,aJ (by simp;omega)]
  match j,g with
  |0,_|1,_|2,_|3,_|4,_|5,_=>rfl
 rw[f] at b;exact cF (by simp) ⟨_,b.cellsIn 0 rfl,b.aR 1 rfl (dD l).vs rfl (I6.one _) λi g=>⟨_,g.cellsIn 1 rfl,rfl,g.aK⟩⟩
def EK(p:Pr):Bool:=(decide (1<=p.sup)&&decide (p.sup<=4))&&((decide (0<=p.res)&&decide (p.res<=1000000))&&((decide (0<=p.pts)&&decide (p.pts<=1000))&&(decide (0<=p.Bn)&&decide (p.Bn<=4))))
def xq(p:Pr):Bool:=iz p.nm&&EK p
def vr(l:List Pr)(i:Nat)(p:Pr):Prop:=xq p=true/\((l.take i).any λq=>q.nm==p.nm)=false
structure iu (l:List Pr):Prop where
 l1:1<=l.length
 l2:l.length<=6
 good:∀i p,l[i]?=some p->vr l i p
 lim:pr (l.map Pr.sup)<=1024
theorem Kl(l:List Int):∀n,pr (l++List.replicate n 0)=pr l
 |0=>by simp
 |n+1=>by
  rw[lG,<-dA,C6,Kl l n];omega
def Dg{l:List Pr}(h:l.length<=6):pr (Fy l)=pr (l.map Pr.sup):=by
 unfold Fy;rw[bB (by simp;omega),Kl]
def OG{l:List Pr}(h:∀i p,l[i]?=some p->vr l i p):(Fy l).all lX=true:=by
 rw[bw];intro x a;have a:=bC a;rcases aB.1 a with a|a
 .obtain⟨p,c,rfl⟩:=aN.1 a;obtain⟨i,b,rfl⟩:=dY.1 c;have:=(h i _ (gE b)).1;simp only[xq,EK,aF,aV] at this;simp only[lX,aF,aV];omega
 obtain⟨_,rfl⟩:=List.mem_replicate.1 a
 decide
def Va(Q:Prop)(w:ah):KP:=λr a=>(∃e:Int,r=iv e/\(e=0<->Q))/\aZ w a []
def Cj(Q:Prop)(k:Int)(w:ah):KP:=λr a=>(r=iv k/\(k=0<->Q))/\aZ w a []
def dM{Q:Prop}{w b:ah}{e k:Int}(c:e≠0)(h:¬ Q)(hc:aZ w b [])(d:k=e):Cj Q k w (iv e) b:=by subst d;exact⟨⟨rfl,λa=>absurd a c,λa=>absurd a h⟩,hc⟩
def qG{Q:Prop}{w a:ah}{k:Int}(h:Q)(hc:aZ w a [])(b:k=0):Cj Q k w (iv 0) a:=by subst b;exact⟨⟨rfl,λ_=>h,λ_=>rfl⟩,hc⟩
def Cj.old{Q:Prop}{w a:ah}{k:Int}{r:Value}(h:Cj Q k w r a):Va Q w r a:=⟨⟨k,h.1⟩,h.2⟩
def pO{a:Type}(f:Nat->a->Int):Nat->List a->Int
 |_,[]=>0
 |i,x::l=>if f i x≠0 then f i x else pO f (i+1) l
theorem nS{b:Type}{f:Nat->b->Int}:∀{l:List b} {n k:Nat} {x:b},(∀i p,i<k->l[i]?=some p->f (n+i) p=0)->l[k]?=some x->f (n+k) x≠0->pO f n l=f (n+k) x
 |y::l,n,0,x,_,a,h=>by cases a;rw[gX] at h⊢;rw[pO,ag h]
 |y::l,n,k+1,x,c,a,h=>by
  rw[pO,af (by simpa using c 0 y (by omega) rfl),nS (l:=l) (k:=k) (x:=x) (λi p e d=>by have:=c (i+1) p (by omega) (by simpa using d);rwa [show n+(i+1)=n+1+i by omega] at this) (by simpa using a) (by rwa [show n+1+k=n+(k+1) by omega])];rw[show n+1+k=n+(k+1) by omega]
theorem kF{b:Type}{f:Nat->b->Int}:∀{l:List b} {n:Nat},(∀i p,l[i]?=some p->f (n+i) p=0)->pO f n l=0
 |[],_,_=>rfl
 |y::l,n,a=>by
  rw[pO,af (by simpa using a 0 y rfl)];exact kF λi p c=>by have:=a (i+1) p (by simpa using c);rwa [show n+(i+1)=n+1+i by omega] at this
def IQ(l:List Pr)(i:Nat)(p:Pr):Int:=if iz p.nm=false then 5 else if ((l.take i).any λq=>q.nm==p.nm) then 7 else if EK p=false then 4 else 0
def Az{l:List Pr}{i:Nat}{p:Pr}(h:vr l i p):IQ l i p=0:=by
 obtain⟨a,b⟩:=h;unfold xq at a;rw[aF] at a;rw[IQ,a.1,b,a.2];rfl
def Fg(l:List Pr):Int:=if l.length=0 then 1 else if 6<l.length then 3 else if pO (IQ l) 0 l≠0 then pO (IQ l) 0 l else if pr (Fy l)<=1024 then 0 else 12
def FO{w:ah}{a:OA}{c:Nat}{l:List Pr}(h:kf w a l)(L:l.length<=c):
  CP 159 #[.slice a l.length c] w ((Cj (iu l) (Fg l) w)):=by
 refine(p6 oC.2).2.2.1 ?_
 by_cases s:l.length=0
 .exact cT (by rw[s];rfl) (dM (by decide) (λd=>by have:=d.l1;omega) (aZ.refl _ _) (by rw[Fg,ag s]))
 refine cF (by simpa using s) ?_;rcases aQ 6 l.length with y|y
 .exact di (by omega) (dM (by decide) (λd=>by have:=d.l2;omega) (aZ.refl _ _) (by rw[Fg,af s,ag y]))
 refine dz (by omega) ⟨λn G m=>∃k:Nat,n=k/\k<=l.length/\m=l.length-k/\(∀i p,i<k->l[i]?=some p->vr l i p)/\aZ w G [],⟨l.length,0,rfl,by omega,by omega,λi p E=>by omega,aZ.refl _ _⟩,?_⟩;rintro G m n ⟨k,rfl,T,Y,C,t⟩-
 by_cases F:(k:Int)<(l.length:Int)
 .obtain⟨x,z⟩:=dX l k (by omega);obtain⟨_,q,O,D⟩:=(h.aK t) k x z;have o:¬ vr l k x->¬ iu l:=λK d=>K (d.good k x z);have B:∀{e:Int},e≠0->IQ l k x=e->Fg l=e:=λM h=>by
   have:=nS (f:=IQ l) (n:=0) (λi p E d=>by rw[az];exact Az (C i p E d)) z (by rw[az,h];exact M);rw[az,h] at this;rw[Fg,af s,af (by omega),this,ag M]
  refine cT (by simpa using F) ?_;rw[O];refine⟨by omega,by omega,Ex4 ⟨_,D,dH (((St.start' t).one.jR _ 135).aR 0 rfl x.cells rfl x.one λH u=>?_)⟩⟩;generalize U:G.heap.size=W at u⊢;have r:∀{P:ah},aZ H P []->∀(j:Nat) (v:Value),x.cells[j]?=some v->P.cell? ⟨W,j,none⟩=some v:=λt j v V=>iV (by rw[u.aj 0 rfl];simpa using V) t;refine⟨_,r (aZ.refl _ _) 0 _ rfl,bg (D0 H x.nm) ?_⟩;rintro v X ⟨rfl,rfl⟩;refine⟨_,rfl,?_⟩
  cases hn:iz x.nm with
  |false=>exact cT rfl (dM (by decide) (o λg=>by have:=g.1;simp[xq,hn] at this) u.aK (B (by decide) (by rw[IQ,hn];rfl)))
  |true=>
   have d4:=aZ.drew X [];refine cF rfl ⟨by omega,by omega,_,r d4 0 _ rfl,?_⟩;rw[<-O,Ux];have N:=Y8 (c:=c-0) ((h.aK (u.aK.trans d4 (by simp))).take k) (by rw[aW];omega) x.nm;rw[aW,gu T] at N;refine bg N ?_;rintro v Q ⟨⟨kk,rfl⟩,R⟩;have d5:=d4.trans R (by simp);refine⟨_,_,rfl,?_⟩
   cases hany:((l.take k).any λp=>p.nm==x.nm) with
   |true=>exact cT rfl (dM (by decide) (o λg=>by have:=g.2;rw[hany] at this;cases this) (u.aK.trans d5 (by simp)) (B (by decide) (by rw[IQ,hn,hany];rfl)))
   |false=>
    refine cF rfl ⟨λb A=>aZ Q A []/\b = !EK x,?_,?_⟩
    .rintro A b ⟨S,rfl⟩-;have I:=u.aK.trans (d5.trans S (by simp)) (by simp)
     cases hr:EK x with
     |false=>exact cT rfl (dM (by decide) (o λg=>by have:=g.1;simp[xq,hr] at this) I (B (by decide) (by rw[IQ,hn,hany,hr];rfl)))
     |true=>
      refine cF rfl ⟨l.length-(k+1),by omega,k+1,by rw[gC (by omega)];rfl,by omega,rfl,λi p E d=>?_,I⟩;rcases aQ i k with J |J
      .exact C i p J d
      obtain rfl:i=k:=by omega
      rw[z] at d;cases d;exact⟨by simp[xq,hn,hr],hany⟩
    refine⟨_,r d5 1 _ rfl,bg (xX Q _ _ _) ?_⟩;rintro v A ⟨rfl,rfl⟩;refine⟨_,rfl,?_⟩
    cases g1:(decide (1<=x.sup)&&decide (x.sup<=4)) with
    |false=>exact cT rfl ⟨aZ.refl _ _,by simp only[EK,g1];rfl⟩
    |true=>
     refine cF rfl ⟨_,r d5 2 _ rfl,bg (xX A _ _ _) ?_⟩;rintro v I ⟨rfl,rfl⟩;refine⟨_,rfl,?_⟩
     cases g2:(decide (0<=x.res)&&decide (x.res<=1000000)) with
     |false=>exact cT rfl ⟨aZ.refl _ _,by simp only[EK,g1,g2];rfl⟩
     |true=>
      refine cF rfl ⟨_,r d5 3 _ rfl,bg (xX I _ _ _) ?_⟩;rintro v J ⟨rfl,rfl⟩;refine⟨_,rfl,?_⟩
      cases g3:(decide (0<=x.pts)&&decide (x.pts<=1000)) with
      |false=>exact cT rfl ⟨aZ.refl _ _,by simp only[EK,g1,g2,g3];rfl⟩
      |true=>
       exact cF rfl ⟨_,r d5 4 _ rfl,kR (xX J _ _ _) ⟨_,rfl,aZ.refl _ _,by simp only[EK,g1,g2,g3];rfl⟩⟩
 obtain rfl:k=l.length:=by omega
 have g:∀i p,l[i]?=some p->vr l i p:=λi p d=>C i p (ai.1 d).1 d;refine cF (by simp) (bF (tG (h.aK t) (by omega)) λv r=>⟨_,rfl,bF (CQ v _) λH u=>?_⟩);have o:=t.trans (r.trans u (by simp)) (by simp);refine⟨_,rfl,?_⟩;have e:=OG g;have j:=Dg y;rw[MN];have K:=(vf e).1;have q:Fg l=if pr (Fy l)<=1024 then 0 else 12:=by
  have:=kF (f:=IQ l) (n:=0) (l:=l) λi p d=>by rw[az];exact Az (g i p d)
  rw[Fg,af s,af (by omega),this,af (by decide)]
 by_cases b:pr (Fy l)<=1024
 .rw[ag ⟨e,b⟩];exact cF (by simp;omega) (qG ⟨by omega,y,g,by rw[<-j];exact b⟩ o (by rw[q,ag b]))
 rw[af λh=>b h.2];exact cT rfl (dM (by decide) (λd=>b (by rw[j];exact d.lim)) o (by rw[q,af b]))
def DC{w:ah}{a:OA}{c:Nat}{l:List Pr}(h:kf w a l)(b:l.length<=c):
  CP 159 #[.slice a l.length c] w ((Va (iu l) w)):=bg (FO h b) λ_ _ h=>⟨_,rfl,h.old⟩

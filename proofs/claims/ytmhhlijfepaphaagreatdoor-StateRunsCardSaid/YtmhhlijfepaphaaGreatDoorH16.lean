import Derived.Test.YtmhhlijfepaphaaGreatDoorH15
set_option linter.all false
set_option maxRecDepth 100000
set_option maxHeartbeats 4000000
namespace Go.Proofs.YtmhhlijfepaphaaGreatDoor
open Go Go.Vc Go.Vt _root_.Go.Proofs.Tryz
def si:=many xP [en func137 [] [(58,[(5,.s .slice),(6,.s (.int .i64))]),(233,[(5,.s .slice)])],en func281 [] [(6,[(18,.s .bool)]),(58,[(4,.s (.int .i64))]),(932,[(34,.s .bool)]),(506,[(5,.s (.int .i64)),(6,.s (.int .i64))])],en func194 [] [(58,[(6,.s .slice),(7,.s (.int .i64))])]] (by conv=>lhs;reduce) (by kernel_rfl) λx=>by
 dsimp only[qq,qm,qk,qj,qy,qA,qB,GH,uv,en,FG,wrap,dc,dn,DH,gU,ID,U.I,U.B,U.S,U.N,U.A,U.O,U.W,U.V,U.L,U.U6,U.C,U.M,U.F,U.E,HV,HA,GM,zS,jU,gJ,vZ,vI,TJ,Nat.reduceSub,Nat.reduceAdd,Int.reduceOfNat,Int.reduceNeg,UInt8.reduceOfNat] at x
 exact x
def aa1:=many xP [en func138 [] [(7,[(6,.s (.int .i64))]),(63,[(7,.s (.int .i64))]),(511,[]),(506,[(32,.s .bool)]),(64882,[(7,.s (.int .i64)),(8,.s (.int .i64))]),(259528,[(51,.s .bool)]),(259529,[(7,.s (.int .i64))]),(16221,[(72,.s .bool)]),(943,[(21,.s .bool)])],en func77 [] [(250,[(7,.s (.int .i64))]),(1001,[]),(8009,[(8,.s .blk),(9,.s (.int .i64))])]] (by conv=>lhs;reduce) (by kernel_rfl) λx=>by
 dsimp only[qq,qm,qk,qj,qy,qA,qB,GH,uv,en,FG,wrap,dc,dn,DH,gU,ID,U.I,U.B,U.S,U.N,U.A,U.O,U.W,U.V,U.L,U.U6,U.C,U.M,U.F,U.E,HV,HA,GM,zS,jU,gJ,vZ,vI,TJ,Nat.reduceSub,Nat.reduceAdd,Int.reduceOfNat,Int.reduceNeg,UInt8.reduceOfNat] at x
 exact x
def aaR:=many xP [en func193 [] [(26,[(6,.s (.int .i64))])],en func286 [(0,.k (.s .blk))] [(6,[(15,.s .bool)])],en func346 [(0,.k (.s .blk))] [(7,[]),(14,[(18,.s .bool)])],en func289 [(0,.k (.s .blk))] [],en func345 [(0,.k (.s .blk))] [(1,[])],en func291 [(0,.k (.s .blk))] [(14,[(16,.s .bool)])],en func290 [(0,.k (.s .blk))] [],en func288 [(0,.k (.s .blk))] [],en func292 [(0,.k (.s .blk))] [(30,[(21,.s .bool)])],en func209 [(0,.k (.s .blk))] [(6,[(15,.s .bool)])],en func207 [] [(124,[(4,.s .slice),(5,.s (.int .i64))])]] (by conv=>lhs;reduce) (by kernel_rfl) λx=>by
 dsimp only[qq,qm,qk,qj,qy,qA,qB,GH,uv,en,FG,wrap,dc,dn,DH,gU,ID,U.I,U.B,U.S,U.N,U.A,U.O,U.W,U.V,U.L,U.U6,U.C,U.M,U.F,U.E,HV,HA,GM,zS,jU,gJ,vZ,vI,TJ,Nat.reduceSub,Nat.reduceAdd,Int.reduceOfNat,Int.reduceNeg,UInt8.reduceOfNat] at x
 exact x
end Go.Proofs.YtmhhlijfepaphaaGreatDoor
namespace Go.Proofs.YtmhhlijfepaphaaGreatDoor
open Go Go.Vc _root_.Go.Proofs.Tryz
def Gq{w:ah}{a:OA}{c:Nat}{l:List Pr}(h:kf w a l)(s:l.length<=100000)(nm:List UInt8):
  CP 193 #[.slice a l.length c,sv nm] w (λr b=>r=.tuple #[iv (ig l nm).1,.bool (ig l nm).2]/\b=w):=by
 refine aaR.1 ⟨λn j m=>∃k:Nat,n=k/\k<=l.length/\m=l.length-k/\(l.take k).any (λp=>p.nm==nm)=false/\j=w,⟨l.length,0,rfl,by omega,by omega,rfl,rfl⟩,?_⟩;rintro j m n ⟨k,rfl,r,t,b,rfl⟩-
 by_cases d:(k:Int)<(l.length:Int)
 .obtain⟨x,f⟩:=dX l k (by omega);obtain⟨_,q,o,g⟩:=h k x f;refine gM d (av o ⟨by omega,by omega,bs x.nm,by have:=g.1;rwa [Addr.add_add] at this,?_⟩)
  by_cases e:x.nm=nm
  .refine cT (by rw[e];simp) ⟨?_,rfl⟩;have i:(λp:Pr=>p.nm==nm) x=true:=by simpa using e
   rw[ig,rC f i b,jQ f i];rfl
  exact cF (by rw[j9,j9];simpa using e) ⟨l.length-(k+1),by omega,k+1,by rw[gC (by omega)];rfl,by omega,rfl,jy b f (by simpa using e),rfl⟩
 refine iI d ⟨?_,rfl⟩;rw[bB (by omega)] at b;rw[ig,sJ b,b];rfl
def Ur{a:Type}(l:List a)(x y:a):(l++[x]).set l.length y=l++[y]:=by simp
def ac8{s:List UInt8}{i:Nat}{b:UInt8}(h:s[i]?=some b):(bs s).extract i (i+1)=bs [b]:=by
 apply ByteArray.ext;obtain⟨a,rfl⟩:=ai.1 h;simp only[ByteArray.data_extract,bs];apply Array.ext';simp only[Array.toList_extract];rw[List.extract_eq_take_drop,bO a,show i+1-i=1 by omega];rfl
def zz(w:ah)(b:UInt8)(s:List UInt8)(K:s.length<=1000000):
  CP 137 #[sv s,.int .u8 (b.toNat:Int)] w (λr q=>∃g c,r=.slice (qs g) (fC b s).length c/\St w q (Sep [iQ 9 1 sF (qs g) c (fC b s)])):=by
 refine si.1 ?_;have l:IntKind.i64.max=9223372036854775807:=rfl;refine dH ?_;have I:St w (w.alloc (.cells #[sv []] 9)) (Sep [iQ 9 1 sF (qs w.heap.size) 1 [[]]]):=by
  have o:=(St.start w).one.jR #[sv []] 9;refine(o.aM [0]).weak (dU.left ?_);rintro q F ⟨h,a⟩;exact⟨F,⟨Ax xE h rfl (by decide),by rw[a];simp[Value.ownBlock]⟩,λ_ h=>h⟩
 refine⟨λa n c i u m=>∃(k g:Nat) (d:List (List UInt8)) (x:List UInt8),i=(k:Int)/\k<=s.length/\m=s.length-k/\a=qs g/\n=(d++[x]).length/\b∉x/\x.length<=k/\d.length<=k/\d++fC b (x++s.drop k)=fC b s/\St w u (Sep [iQ 9 1 sF a c (d++[x])]),⟨s.length,0,_,[],[],rfl,by omega,by omega,rfl,rfl,by simp,by simp,by simp,by simp,I⟩,?_⟩
 rintro u m a n c i ⟨k,g,d,x,rfl,J,rfl,rfl,rfl,f,H,F,p,o⟩-;rw[jC]
 by_cases j:k<s.length
 .have t:=gE j;have hd:=bO j;generalize s[k]'j=y at t hd;refine di (by omega) ⟨λa n c B=>∃(g:Nat) (d:List (List UInt8)) (x:List UInt8),a=qs g/\n=(d++[x]).length/\b∉x/\x.length<=k+1/\d.length<=k+1/\d++fC b (x++s.drop (k+1))=fC b s/\St w B (Sep [iQ 9 1 sF a c (d++[x])]),?_,by omega,?_⟩
  .rintro B a n c ⟨g,d,x,rfl,rfl,e,r,z,A,C⟩-;exact⟨s.length-(k+1),by omega,k+1,g,d,x,by rw[gC (by omega)];rfl,by omega,rfl,rfl,rfl,e,r,z,A,C⟩
  rw[aq,lJ,t];have e:(d++[x]).length=d.length+1:=by simp
  by_cases r:y=b
  .refine cT (by rw[r];simp) (iT (x:=([]:List UInt8)) slS xE (aab _) o (by rw[e];omega) (by rw[e];omega) (λD E q z=>?_) rfl);obtain⟨A,C⟩:=z.kN (by simp);refine⟨A,d++[x],[],C,rfl,by simp,by simp,by simp;omega,?_,z⟩;rw[<-p,hd,r,QF _ f];simp
  refine cF (aC.2 λh=>r (fP.1 (by omega))) ?_;have z:=o.quiet (aZ.drew u []);have C:IntKind.i64.wrap ((((d++[x]).length:Nat):Int)-1)=((d.length:Nat):Int):=by rw[fQ ⟨by rw[e];omega,by rw[e];omega⟩,e];omega
  have D:IntKind.i64.wrap ((k:Int)+1)=((k+1:Nat):Int):=by rw[gC (by omega)];rfl
  rw[C,D,aq,aq,ac8 t,e];obtain⟨q,G,E⟩:=zA (St.rd xE z) (i:=d.length) (x:=x) (by simp)
  cases G
  refine av rfl ⟨by omega,by omega,_,E,by omega,by omega,by omega,by omega,by rw[jC,jC,l];simp;omega,av rfl ⟨by omega,by omega,?_⟩⟩;rw[mc];refine St.kP (v:=sv) (x:=x++[y]) rfl z (i:=d.length) (by rw[e];omega) λL A=>?_;rw[Ur] at A;refine⟨g,d,x++[y],rfl,by simp,?_,by simp;omega,by omega,?_,A⟩
  .intro h;rcases aB.1 h with h|h
   .exact f h
   exact r (aI.1 h).symm
  rw[<-p,hd];simp
 obtain rfl:k=s.length:=by omega
 refine dz (by omega) ?_;rw[gH,fu,QG f] at p;rw[<-p];exact⟨g,c,rfl,o⟩
def wP(l:List UInt8):Nat:=l.foldl (λn c=>10*n+(c.toNat-48)) 0
def LG(l:List UInt8)(c:UInt8):wP (l++[c])=10*wP l+(c.toNat-48):=by simp[wP]
def R9{l:List UInt8}(h:∀c∈l,48<=c.toNat/\c.toNat<=57):wP l<10 ^ l.length:=by
 suffices H:∀(l:List UInt8) (a k:Nat),(∀c∈l,48<=c.toNat/\c.toNat<=57)->a<10 ^ k->l.foldl (λn c=>10*n+(c.toNat-48)) a<10 ^ (k+l.length) by
  have:=H l 0 0 h (by decide);rwa [az] at this
 intro l
 induction l with
 |nil=>exact λ_ _ _ h=>h
 |cons c l e=>
  intro a k b f;have g:=b c (by simp);have:=e (10*a+(c.toNat-48)) (k+1) (λd hd=>b d (by simp[hd])) (by rw[jN];omega);rw[bN,show k+(l.length+1)=k+1+l.length by omega];exact this
theorem zY:∀(l:List UInt8) (a:Nat),y5 l=true->Lib.decFrom a l=some (l.foldl (λn c=>10*n+(c.toNat-48)) a)
 |[],a,_=>rfl
 |b::l,a,h=>by
  unfold y5 at h;rw[fz,aF] at h;have d:48<=b.toNat/\b.toNat<=57:=by
   have e:48<=un b/\un b<=57:=by simpa[sg] using h.1
   unfold un at e;omega
  rw[Lib.decFrom,Lib.digitVal,ag d];show Lib.decFrom _ l=_;rw[zY l _ h.2,bD,lq a 10]
def Qw{l:List UInt8}(h:y5 l=true)(d:l≠[]):KR l=((wP l:Nat):Int):=by
 cases l with
 |nil=>exact absurd rfl d
 |cons b l=>
  have f:=zY (b::l) 0 h;unfold y5 at h;rw[fz,aF] at h;have c:48<=un b/\un b<=57:=by simpa[sg] using h.1
  have e:(b==45)=false:=by rw[aC];rintro rfl;revert c;decide
  have a:(b==43)=false:=by rw[aC];rintro rfl;revert c;decide
  have hd:Lib.decNat (b::l)=some (wP (b::l)):=by rw[Lib.decNat];exact f
  rw[KR,Lib.atoi,e,a,hd];rfl
def Ig(w:ah){l:List UInt8}(B:l.length<=1000000):CP 281 #[sv l] w (λr A=>r=.tuple #[iv (jV l).1,iv (jV l).2]/\A=w):=by
 refine si.2.1 ⟨λb j=>b=decide (l=[]\/(l.head? = some 48/\1<l.length))/\j=w,?_,?_⟩
 .rintro j b ⟨rfl,rfl⟩-
  by_cases g:l=[]\/(l.head? = some 48/\1<l.length)
  .exact di g ⟨by rw[jV,ag (.inr g)],rfl⟩
  refine dz g ⟨λi t m=>∃k:Nat,i=k/\k<=l.length/\m=l.length-k/\y5 (l.take k)=true/\t=j,⟨l.length,0,rfl,by omega,by omega,rfl,rfl⟩,?_⟩;rintro t m i ⟨k,rfl,y,z,f,rfl⟩-
  by_cases a:k<l.length
  .have d:=gE a;generalize l[k]'a=c at d;refine cT (by rw[jC];exact dT (by omega)) ⟨λb j=>b = !sg (un c)/\j=t,?_,by omega,?_⟩
   .rintro j b ⟨rfl,rfl⟩-
    cases hd:sg (un c) with
    |false=>
     have:y5 l=false:=fA.2 ⟨c,ak d,by simp[hd]⟩;exact cT rfl ⟨by rw[jV,ag (.inl this)],rfl⟩
    |true=>
     refine cF rfl (mS (by omega) ⟨?_,rfl⟩);unfold y5 at f⊢;rw[bJ d,fq,f];simp[hd]
   rw[aq,lJ,d];have e:=c.toNat_lt;refine cBq (λo=>⟨by rw[sg,un,dF (by omega)];rfl,rfl⟩) λo=>⟨by omega,?_,rfl⟩
   by_cases q:(c.toNat:Int)>57
   .rw[dT q,sg,un,dT (show(48:Int)<=(c.toNat:Int) by omega),dF (show ¬ (c.toNat:Int)<=57 by omega)];rfl
   rw[dF q,sg,un,dT (show(48:Int)<=(c.toNat:Int) by omega),dT (show(c.toNat:Int)<=57 by omega)];rfl
  obtain rfl:k=l.length:=by omega
  rw[aH] at f;have u:jV l=if 9<l.length then (0,4) else (KR l,0):=by
   rw[jV,af];rintro(h|h)
   .rw[f] at h;cases h
   exact g h
  refine cF (by rw[jC];exact dF (by omega)) ?_
  by_cases x:9<l.length
  .exact cT (by rw[jC];exact dT (by omega)) ⟨by rw[u,ag x],rfl⟩
  rw[af x] at u;obtain⟨n,C⟩:=I5 f (λh=>g (.inl h));have e:∀c∈l,48<=c.toNat/\c.toNat<=57:=λc s=>by
   have q:48<=un c/\un c<=57:=by simpa[sg] using bw.1 f c s
   unfold un at q;omega
  refine cF (by rw[jC];exact dF (by omega)) ⟨λn i v m=>∃k:Nat,i=k/\k<=l.length/\m=l.length-k/\n=((wP (l.take k):Nat):Int)/\v=t,⟨l.length,0,rfl,by omega,by omega,by simp[wP],rfl⟩,?_⟩;rintro E m n i ⟨k,rfl,y,z,rfl,rfl⟩-;have q:=R9 (l:=l.take k) (λc s=>e c (bC s))
  by_cases a:k<l.length
  .have d:=gE a;generalize l[k]'a=c at d;have s:=e c (ak d);have D:wP (l.take k)<1000000000:=jg q (bp (Nat.pow_le_pow_right (by decide) (show(l.take k).length<=9 by rw[aW];omega)) (by decide));refine cT (by rw[jC];exact dT (by omega)) ⟨by omega,?_⟩;rw[aq,lJ,d];refine mS (by omega) ⟨?_,rfl⟩;have g1:IntKind.i64.wrap (10*((wP (l.take k):Nat):Int))=10*((wP (l.take k):Nat):Int):=gC (by omega);have g2:IntKind.i64.wrap ((c.toNat:Int)-48)=(c.toNat:Int)-48:=gC (by omega);rw[IntWalk.u8_in _ (by omega),g1,g2,gC (by omega),bJ d,LG];omega
  obtain rfl:k=l.length:=by omega
  rw[aH] at *;refine cF (by rw[jC];exact dF (by omega)) ⟨?_,rfl⟩;rw[u,Qw f (λh=>g (.inl h))]
 cases l with
 |nil=>exact cT (by rw[j9];rfl) ⟨by decide,rfl⟩
 |cons c l=>
  refine cF (by rw[j9,j9];rfl) ?_;rw[jC]
  by_cases o:1<(c::l:List UInt8).length
  .refine di (by omega) ⟨by decide,⟨?_,rfl⟩⟩
   by_cases a:c=48
   .subst a;rw[dT (Or.inr ⟨rfl,o⟩)];rfl
   rw[dF (p:=(c::l:List UInt8)=[]\/_) (by rintro(h|h);cases h;exact a (by simpa using h.1))];show((c.toNat:Int)==48)=false;exact aC.2 λh=>a (fP.1 (by show c.toNat=48;omega))
  exact dz (by omega) ⟨by rw[dF];rintro(h|h);cases h;exact o h.2,rfl⟩
def Ih{w:ah}{a:OA}{c:Nat}{ws l:List (List UInt8)}(M:iA 1 sF w a ws)(C:ws.drop 2=l)(U:ws.length<=100000)(S:2<=ws.length)(N:∀x∈ws,x.length<=1000000):
  CP 194 #[.slice a ws.length c,iv 2] w (λr A=>(tq l≠0/\r=.tuple #[.slice none 0 0,iv (tq l)]/\aZ w A [])\/(tq l=0/\∃p s,r=.tuple #[.slice p l.length s,iv 0]/\St w A (Sep [iQ 2 1 i1 p s (l.map λx=>(jV x).1)]))):=by
 refine si.2.2.1 ?_;have J:l.length+2=ws.length:=by rw[<-C,bG];omega
 refine⟨λr E t i B m=>∃k:Nat,i=((k+2:Nat):Int)/\k<=l.length/\m=l.length-k/\E=k/\(∀y∈l.take k,(jV y).2=0)/\St w B (Sep [iQ 2 1 i1 r t ((l.take k).map λx=>(jV x).1)]),⟨l.length,0,rfl,by omega,by omega,rfl,by simp,(St.start w).gB⟩,?_⟩;rintro B m r E t i ⟨k,rfl,T,K,v,o,n⟩-;have z:=v.symm;subst z
 by_cases h:k<l.length
 .have b:=gE h;generalize l[k]'h=x at b;have j:ws[k+2]?=some x:=by rw[<-C,cA,jM] at b;exact b
  obtain⟨q,L,I⟩:=zA (M.aK n.aK) j;have u:=Ef o b;refine di (by omega) (av L ⟨by omega,by omega,_,I,kR (Ig B (N x (ak j))) ⟨_,_,rfl,?_⟩⟩)
  by_cases g:(jV x).2=0
  .refine iI g ?_;have H:(l.take (k+1)).map (λx=>(jV x).1)=(l.take k).map (λx=>(jV x).1)++[(jV x).1]:=by rw[bJ b,aS];rfl
   have d:((l.take k).map λx=>(jV x).1).length=k:=by rw[bu,aW];omega
   have:=iT (ty:=165) (x:=(jV x).1) (l:=(l.take k).map λx=>(jV x).1) KZ gm (wX _) n (by rw[d];omega) (by rw[d];omega) (R:=λF O G Q=>∃D,D<l.length-k/\∃f:Nat,IntKind.i64.wrap (((k+2:Nat):Int)+1)=((f+2:Nat):Int)/\f<=l.length/\D=l.length-f/\O=f/\(∀y∈l.take f,(jV y).2=0)/\St w Q (Sep [iQ 2 1 i1 F G ((l.take f).map λx=>(jV x).1)])) (λp s A P=>⟨l.length-(k+1),by omega,k+1,(gC (by omega)).trans (by omega),by omega,rfl,by rw[aA,d];rfl,λy e=>?_,by rw[H];exact P⟩) rfl
   .rw[d] at this;rw[K];exact this
   rw[bJ b] at e;rcases aB.1 e with e|e
   .exact o y e
   rw[aI.1 e];exact g
  rw[ag g] at u;refine gM g (.inl ⟨by rw[u];exact g,by rw[u],n.aK⟩)
 obtain rfl:k=l.length:=by omega
 rw[aH] at o n;exact dz (by omega) (.inr ⟨BA o,r,t,rfl,n⟩)
abbrev Fe (S:Se) (M:List bP):List bP:=iQ 135 5 Pr.cells S.a1 S.c1 S.ps::iQ 137 4 Br.cells S.a2 S.c2 S.bd::iQ 139 3 T3.cells S.a3 S.c3 S.cp::iQ 141 3 T3.cells S.a4 S.c4 S.sa::M
def SV{w0 w:ah}{n:Nat}{S:Se}{M:List bP}(s:St w0 w (Sep (Fe S M)))(h:wF S n):S.In w:=
 ⟨kf.of (St.rd Pr.len (s.out 0 rfl)) h.ps,rQ.of (St.rd Br.len (s.out 1 rfl)) h.bd,Dl.of (St.rd T3.len (s.out 2 rfl)),Dl.of (St.rd T3.len (s.out 3 rfl)),(St.nj (s.out 0 rfl)).1,(St.nj (s.out 1 rfl)).1,(St.nj (s.out 2 rfl)).1,(St.nj (s.out 3 rfl)).1⟩
def GI{h:List UInt8}(k:rN h≠0):h=OS\/h=MU\/h=QY\/h=QW:=by
 unfold rN at k
 split at k
 .exact .inl ‹_›
 split at k
 .exact .inr (.inl ‹_›)
 split at k
 .rename_i h;rcases h with h|h
  .exact .inr (.inr (.inl h))
  exact .inr (.inr (.inr h))
 exact absurd rfl k
def Se.one(S:Se):∀v∈S.arr.toList,v.oneCell'=true:=by intro v a;simp[Se.arr] at a;rcases a with rfl|rfl|rfl|rfl<;>rfl
def Qc{w0 w:ah}{n c:Nat}{S:Se}{M:List bP}{B:bP}{a:OA}{ws:List (List UInt8)}(s:St w0 w (Sep (Fe S (B::M))))(hB:nY B λw=>iA 1 sF w a ws)(h1:1<=ws.length)(hl:ws.length<=100000)(L:∀x∈ws,x.length<=1000000)(hg:wF S n)(A:n<=90000)(hst:∀p∈S.bd,p.nm≠[42]):
  CP 138 #[.agg S.arr,.slice a ws.length c] w (λr y=>∃d:Se,r=.tuple #[.agg d.arr,iv (xB S ws)]/\d.er=(if xB S ws=0 then wD S ws else S).er/\St w0 y (Sep (Fe d (B::M)))):=by
 refine aa1.1 (s.aY S.arr λr1 w1 s1=>s1.aY jt.arr λU w2 R=>?_);have ret:∀{k:Int} {y:ah} {d:Se},St w0 y (Sep (ay U jt.arr 34::ay r1 d.arr 34::Fe d (B::M)))->xB S ws=k->d.er=(if k=0 then wD S ws else S).er ->
   ∃(a6:OA) (m Z:Nat) (b:OA) (o f:Nat) (I:OA) (q J:Nat) (e:OA) (r g:Nat),aU y ⟨r1,0,none⟩ 0 [.slice a6 m Z,.slice b o f,.slice I q J,.slice e r g] /\
   yY ⟨U,0,none⟩ 0 [.slice a6 m Z,.slice b o f,.slice I q J,.slice e r g] y λN=>∃(a1:OA) (h c1:Nat) (a2:OA) (l2 c2:Nat) (a3:OA) (i c3:Nat) (a4:OA) (j c4:Nat),aU N ⟨U,0,none⟩ 0 [.slice a1 h c1,.slice a2 l2 c2,.slice a3 i c3,.slice a4 j c4] /\
    ∃d:Se,Value.tuple #[.agg #[.slice a1 h c1,.slice a2 l2 c2,.slice a3 i c3,.slice a4 j c4],iv k]=.tuple #[.agg d.arr,iv (xB S ws)]/\d.er=(if xB S ws=0 then wD S ws else S).er/\St w0 N (Sep (Fe d (B::M))):=λ{k y d} t Q e2=>
  (Ex8<|Ex4<|⟨t.cellsIn 1 rfl,t.aR 0 rfl d.arr.toList rfl d.one λN t3=>(Ex8<|Ex4<|⟨t3.cellsIn 0 rfl,d,by rw[Q];rfl,by rw[Q];exact e2,t3.second.second⟩)⟩)
 have wc:∀{y:ah} {l:List bP} {i:Nat},St w0 y (Sep l)->l[i]?=some B->∀(j:Nat),j<ws.length->∃q,a=some q/\y.cell? (Addr.add q (j*1))=some (sv (ws.getD j [])):=λs e j hj=>
  zA ((s.out _ e).first.imp hB) (by rw[au,gE hj];rfl)
 obtain⟨q,K,c0⟩:=wc R (i:=6) rfl 0 (by omega);have E:∀{y:ah} {l:List bP} {i:Nat},St w0 y (Sep l)->l[i]?=some B->∀(j:Nat),j<ws.length->y.cell? (Addr.add q (j*1))=some (sv (ws.getD j [])):=λs e j hj=>by
  obtain⟨q',G,h⟩:=wc s e j hj;rw[K] at G;cases G;exact h
 have z1:=hg.l1;have z2:=hg.l2;have z3:=hg.l3;have z4:=hg.l4;refine⟨λk N=>k=rN (ws.getD 0 [])/\k≠0/\N=w2,?_,av K ⟨by omega,by omega,_,c0,?_⟩⟩
 rotate_left
 .rw[j9,j9,j9,j9,j9]
  by_cases g1:ws.getD 0 []=OS
  .exact cT (bL.2 g1) ⟨by rw[rN,ag g1],by decide,rfl⟩
  refine cF (aC.2 g1) ?_
  by_cases g2:ws.getD 0 []=MU
  .exact cT (bL.2 g2) ⟨by rw[rN,af g1,ag g2],by decide,rfl⟩
  refine cF (aC.2 g2) ⟨λb N=>b=decide (ws.getD 0 []=QY\/ws.getD 0 []=QW)/\N=w2,?_,?_⟩
  .rintro N b ⟨rfl,rfl⟩-;refine cBq (λo=>⟨by rw[rN,af g1,af g2,ag o],by decide,rfl⟩) λo=>ret R (k:=22) ?_ rfl;rw[xB,ag];rw[rN,af g1,af g2,af o]
  by_cases o:ws.getD 0 []=QY
  .exact cT (bL.2 o) ⟨by rw[dT (Or.inl o)];exact bL.2 o,rfl⟩
  refine cF (aC.2 o) ⟨?_,rfl⟩
  by_cases F:ws.getD 0 []=QW
  .rw[dT (Or.inr F)];exact bL.2 F
  rw[dF (by rintro(h|h);exact o h;exact F h)];exact aC.2 F
 rintro N k ⟨rfl,T,rfl⟩-
 by_cases z:rN (ws.getD 0 [])=(ws.length:Int)
 rotate_left
 .exact cT (pK.2 λh=>z h.symm) (ret R (k:=2) (by rw[xB,af T,ag z]) rfl)
 have hw4:4<=ws.length:=by
  unfold rN at T z
  split at z
  .omega
  rename_i g1
  split at z
  .omega
  rename_i g2
  split at z
  .omega
  rename_i o;rw[af g1,af g2,af o] at T;exact absurd rfl T
 have Q:xB S ws=if (mj S (ws.getD 0 []) (ws.getD 1 [])).2≠0 then (mj S (ws.getD 0 []) (ws.getD 1 [])).2 else tq (ws.drop 2):=by rw[xB,af T,af (λh=>h z)]
 have H:∀{k:Int} {y:ah},St w0 y (Sep (ay U jt.arr 34::ay r1 S.arr 34::Fe S (B::M)))->(mj S (ws.getD 0 []) (ws.getD 1 [])).2=k->k≠0->_:=λ{k y} t e P=>ret t (k:=k) (by rw[Q,e,ag P]) (by rw[af P]);refine cF (by rw[z];simp) ⟨λk Y=>(mj S (ws.getD 0 []) (ws.getD 1 [])).2=0/\(ws.getD 0 []=QY\/ws.getD 0 []=QW->(mj S (ws.getD 0 []) (ws.getD 1 [])).1=k)/\St w0 Y (Sep (ay U jt.arr 34::ay r1 S.arr 34::Fe S (B::M))),?_,av K ⟨by omega,by omega,_,c0,λb y=>b=decide (ws.getD 0 []=OS\/ws.getD 0 []=MU)/\y=N,?_,?_⟩⟩
 rotate_left
 .rintro Y b ⟨rfl,rfl⟩-;rw[j9,j9,j9,j9]
  by_cases g1:ws.getD 0 []=OS\/ws.getD 0 []=MU
  .have en:mj S (ws.getD 0 []) (ws.getD 1 [])=(0,if iz (ws.getD 1 []) then 0 else 5):=by rw[mj,ag g1]
   refine di g1 (av K ⟨by omega,by omega,_,E R (i:=6) rfl 1 (by omega),kR (DZ Y _) ⟨_,rfl,?_⟩⟩)
   cases A:iz (ws.getD 1 []) with
   |true=>exact cF rfl ⟨by rw[en,A];rfl,λh=>(by rcases g1 with g|g<;>rcases h with h|h<;>rw[g] at h<;>cases h),R⟩
   |false=>exact cT rfl (H R (k:=5) (by rw[en,A];rfl) (by decide))
  refine dz g1 ?_
  by_cases o:ws.getD 0 []=QY
  .have en:mj S (ws.getD 0 []) (ws.getD 1 [])=if ws.getD 1 []=[42] then (-1,0) else if (tY S.bd (ws.getD 1 [])).2 then ((tY S.bd (ws.getD 1 [])).1,0) else (0,6):=by rw[mj,af g1,ag o]
   refine cT (bL.2 o) ?_;generalize X:ws.getD 1 []=g at *;refine⟨λf n16 V m=>∃i:Nat,n16=i/\i<=S.bd.length/\m=S.bd.length-i/\aZ Y V []/\((f=-1/\(S.bd.take i).any (λp=>p.nm==g)=false)\/∃(j:Nat) (x:Br),f=j/\S.bd[j]?=some x/\x.nm=g/\(S.bd.take j).any (λp=>p.nm==g)=false),⟨S.bd.length,0,rfl,by omega,by omega,aZ.refl _ _,.inl ⟨rfl,rfl⟩⟩,?_⟩
   rintro V m f n16 ⟨i,rfl,hi,hm,cc,P⟩-;have D:=R.quiet cc;refine⟨λb C=>b=(decide (i<S.bd.length)&&decide (f<0))/\C=V,?_,_,_,_,D.aj 1 rfl 1,?_⟩
   rotate_left
   .by_cases v:i<S.bd.length
    .exact di (by omega) ⟨by rw[dT v];rfl,rfl⟩
    exact dz (by omega) ⟨by rw[dF v];rfl,rfl⟩
   rintro C b ⟨rfl,rfl⟩-
   by_cases v:i<S.bd.length/\f<0
   .have L:S.bd[i]?=some (S.bd[i]'v.1):=gE v.1;generalize S.bd[i]'v.1=x at L;obtain⟨r,O⟩:f=-1/\(S.bd.take i).any (λp=>p.nm==g)=false:=by
     rcases P with P|⟨j,x,hj,_⟩
     .exact P
     omega
    subst r;have u:=D.quiet (aZ.drew C []);have c26:aZ Y C.drew []:=cc.trans (aZ.drew C []) (by simp);obtain⟨_,q2,hq2,hcl⟩:=(SV u.second.second hg).bd i x L;refine cT (by rw[dT v.1];rfl) ⟨λW w27=>w27=C.drew/\W=if x.nm=g then (i:Int) else -1,?_,_,_,_,u.aj 1 rfl 1,av hq2 ⟨by omega,by omega,bs x.nm,by have:=hcl.1;rwa [Addr.add_add] at this,av K ⟨by omega,by omega,bs g,by rw[<-X];exact E u (i:=6) rfl 1 (by omega),?_⟩⟩⟩
    .rintro w27 W ⟨rfl,rfl⟩-;refine mS (by omega) ⟨c26,?_⟩
     by_cases A:x.nm=g
     .exact .inr ⟨i,x,by rw[ag A],L,A,O⟩
     exact .inl ⟨by rw[af A],jy O L (by simpa using A)⟩
    rw[j9,j9]
    by_cases A:x.nm=g
    .exact cT (bL.2 A) ⟨rfl,by rw[ag A]⟩
    exact cF (aC.2 A) ⟨rfl,by rw[af A]⟩
   refine cF (by rw[eX,ct,ct];omega) ⟨λb w28=>b=(decide (f<0)&&!(g==[42]))/\w28=C,?_,?_⟩
   .rintro w28 b ⟨rfl,rfl⟩-
    by_cases r:f<0
    .have O:S.bd.any (λp=>p.nm==g)=false:=by
      rcases P with⟨_,O⟩|⟨j,x,hj,_⟩
      .rw[bB (by omega)] at O;exact O
      omega
     by_cases u:g=[42]
     .refine cF (by rw[u];simp) ⟨by rw[en,ag u],λ_=>?_,D⟩;rw[en,ag u];rcases P with⟨h,_⟩|⟨j,x,hj,_⟩
      .exact h.symm
      omega
     have W:(tY S.bd g).2=false:=O;refine cT (by rw[dT r,aC.2 u];rfl) (H D (k:=6) (by rw[en,af u,W];rfl) (by decide))
    obtain⟨j,x,rfl,L,A,O⟩:∃(j:Nat) (x:Br),f=j/\S.bd[j]?=some x/\x.nm=g/\(S.bd.take j).any (λp=>p.nm==g)=false:=by
     rcases P with⟨h,_⟩|h
     .omega
     exact h
    have u:g≠[42]:=λh=>hst x (ak L) (A.trans h);have hp:(λp:Br=>p.nm==g) x=true:=by simpa using A
    have e2:tY S.bd g=((j:Int),true):=by rw[tY,rC L hp O,jQ L hp];rfl
    refine cF (by rw[dF r];rfl) ⟨by rw[en,af u,e2];rfl,λ_=>by rw[en,af u,e2];rfl,D⟩
   refine cBq (λr=>av K ⟨by omega,by omega,bs g,by rw[<-X];exact E D (i:=6) rfl 1 (by omega),?_,rfl⟩) λr=>⟨by rw[dF r];rfl,rfl⟩;rw[j9,dT r,aO]
  refine cF (aC.2 o) ?_;have F:ws.getD 0 []=QW:=by
   rcases GI T with h|h|h|h
   .exact absurd (.inl h) g1
   .exact absurd (.inr h) g1
   .exact absurd h o
   exact h
  have en:mj S (ws.getD 0 []) (ws.getD 1 [])=if (ig S.ps (ws.getD 1 [])).2 then (((ig S.ps (ws.getD 1 [])).1:Int),0) else (0,6):=by rw[mj,af g1,af o,ag F]
  have f:=R.quiet (aZ.drew Y []);refine cT (bL.2 F) ⟨_,_,_,f.aj 1 rfl 0,av K ⟨by omega,by omega,_,E f (i:=6) rfl 1 (by omega),kR (Gq (SV f.second.second hg).ps (by omega) _) ⟨_,_,rfl,?_⟩⟩⟩
  cases W:(ig S.ps (ws.getD 1 [])).2 with
  |true=>exact cF rfl ⟨by rw[en,W];rfl,λ_=>by rw[en,W];rfl,f⟩
  |false=>exact cT rfl (H f (k:=6) (by rw[en,W];rfl) (by decide))
 .rw[j9,j9,j9]
  by_cases g1:ws.getD 0 []=OS
  .exact cT (bL.2 g1) ⟨by rw[dT (Or.inl g1)];exact bL.2 g1,rfl⟩
  refine cF (aC.2 g1) ⟨?_,rfl⟩
  by_cases g2:ws.getD 0 []=MU
  .rw[dT (Or.inr g2)];exact bL.2 g2
  rw[dF (by rintro(h|h);exact g1 h;exact g2 h)];exact aC.2 g2
 rintro Y ix ⟨h3,hix,s5⟩-;rw[h3,af (λh=>h rfl)] at Q;refine bg (Ih (c:=c) ((s5.out 6 rfl).first.imp hB) rfl hl (by omega) L) ?_;rintro v w6 (⟨hne,rfl,Z⟩|⟨he,a6,Z,rfl,k6⟩)
 .exact⟨_,_,_,_,rfl,gM hne (ret (s5.quiet Z) Q (by rw[af hne]))⟩
 rw[he] at Q;have s6:St w0 w6 (Sep (iQ 2 1 i1 a6 Z ((ws.drop 2).map λx=>(jV x).1)::ay U jt.arr 34::ay r1 S.arr 34::Fe S (B::M))):=s5.and k6.single;refine⟨_,_,_,_,rfl,cF rfl ⟨λw8=>∃d:Se,d.er=(wD S ws).er/\St w0 w8 (Sep (ay U jt.arr 34::ay r1 d.arr 34::Fe d (B::M))),λw8 h _=>?_,av K ⟨by omega,by omega,_,E s6 (i:=7) rfl 0 (by omega),?_⟩⟩⟩
 .obtain⟨d,h,f⟩:=h;exact ret f Q h
 have D:=s6.quiet (aZ.drew w6 []);obtain⟨q6,g,_⟩:=iW (St.rd gm D) (HM (ws:=ws) (i:=0) (by omega));have C:∀i,i+2<ws.length->w6.drew.cell? (Addr.add q6 (i*1))=some (iv (nV ws i)):=λi hi=>by
  obtain⟨q',G,f⟩:=iW (St.rd gm D) (HM (ws:=ws) hi);rw[g] at G;cases G;exact f
 have w1c:=E D (i:=7) rfl 1 (by omega);have ln:((ws.drop 2).map λx=>(jV x).1).length=ws.length-2:=by rw[bu,bG]
 have ln':(ws.drop 2).length=ws.length-2:=bG ..;rw[j9,j9,j9,j9]
 by_cases g1:ws.getD 0 []=OS
 .have O:ws.length=6:=by unfold rN at z;rw[ag g1] at z;omega
  let d:Se:={S with ps:=S.ps++[⟨ws.getD 1 [],nV ws 0,nV ws 1,nV ws 2,nV ws 3⟩]};have G:wD S ws=d:=by rw[wD,ag g1]
  refine cT (bL.2 g1) ⟨_,_,_,D.aj 2 rfl 0,av K ⟨by omega,by omega,_,w1c,av g ⟨by omega,by omega,_,C 0 (by omega),av g ⟨by omega,by omega,_,C 1 (by omega),av g ⟨by omega,by omega,_,C 2 (by omega),av g ⟨by omega,by omega,_,C 3 (by omega),D.aY (⟨ws.getD 1 [],nV ws 0,nV ws 1,nV ws 2,nV ws 3⟩:Pr).cells.toArray λr3 V f=>⟨f.aj 3 rfl 0,dW (l2:=[(⟨ws.getD 1 [],nV ws 0,nV ws 1,nV ws 2,nV ws 3⟩:Pr)]) aao Pr.len Pr.one (f.out 4 rfl) (nJ (f.cellsIn 0 rfl) rfl) (by simp;omega) (by simp;omega) λI J W m=>?_⟩⟩⟩⟩⟩⟩⟩;have r:=m.back (i:=4) (by show 4<M.length+9;omega);exact r.cL 3 rfl (j:=0) (by show 0<4;decide) rfl λX u=>⟨{d with a1:=I,c1:=J},by rw[G];rfl,St.second (St.second u)⟩
 refine cF (aC.2 g1) ?_
 by_cases g2:ws.getD 0 []=MU
 .have O:ws.length=5:=by unfold rN at z;rw[af g1,ag g2] at z;omega
  let d:Se:={S with bd:=S.bd++[⟨ws.getD 1 [],nV ws 0,nV ws 1,nV ws 2⟩]};have G:wD S ws=d:=by rw[wD,af g1,ag g2]
  refine cT (bL.2 g2) ⟨_,_,_,D.aj 2 rfl 1,av K ⟨by omega,by omega,_,w1c,av g ⟨by omega,by omega,_,C 0 (by omega),av g ⟨by omega,by omega,_,C 1 (by omega),av g ⟨by omega,by omega,_,C 2 (by omega),D.aY (⟨ws.getD 1 [],nV ws 0,nV ws 1,nV ws 2⟩:Br).cells.toArray λr3 V f=>⟨f.aj 3 rfl 1,dW (l2:=[(⟨ws.getD 1 [],nV ws 0,nV ws 1,nV ws 2⟩:Br)]) aam Br.len Br.one (f.out 5 rfl) (nJ (f.cellsIn 0 rfl) rfl) (by simp;omega) (by simp;omega) λI J W m=>?_⟩⟩⟩⟩⟩⟩;have r:=m.back (i:=5) (by show 5<M.length+9;omega);exact r.cL 3 rfl (j:=1) (by show 1<4;decide) rfl λX u=>⟨{d with a2:=I,c2:=J},by rw[G];rfl,St.second (St.second u)⟩
 refine cF (aC.2 g2) ?_
 by_cases o:ws.getD 0 []=QY
 .have O:ws.length=4:=by unfold rN at z;rw[af g1,af g2,ag (.inl o)] at z;omega
  have ei:=hix (.inl o);let d:Se:={S with cp:=S.cp++[⟨ix,nV ws 0,nV ws 1⟩]};have G:wD S ws=d:=by rw[wD,af g1,af g2,ag o,ei]
  refine cT (bL.2 o) ⟨_,_,_,D.aj 2 rfl 2,av g ⟨by omega,by omega,_,C 0 (by omega),av g ⟨by omega,by omega,_,C 1 (by omega),D.aY (⟨ix,nV ws 0,nV ws 1⟩:T3).cells.toArray λr3 V f=>⟨f.aj 3 rfl 2,dW (l2:=[(⟨ix,nV ws 0,nV ws 1⟩:T3)]) aan T3.len T3.one (f.out 6 rfl) (nJ (f.cellsIn 0 rfl) rfl) (by simp;omega) (by simp;omega) λI J W m=>?_⟩⟩⟩⟩;have r:=m.back (i:=6) (by show 6<M.length+9;omega);exact r.cL 3 rfl (j:=2) (by show 2<4;decide) rfl λX u=>⟨{d with a3:=I,c3:=J},by rw[G];rfl,St.second (St.second u)⟩
 refine cF (aC.2 o) ?_;have F:ws.getD 0 []=QW:=by
  rcases GI T with h|h|h|h
  .exact absurd h g1
  .exact absurd h g2
  .exact absurd h o
  exact h
 have O:ws.length=4:=by unfold rN at z;rw[af g1,af g2,ag (.inr F)] at z;omega
 have ei:=hix (.inr F);let d:Se:={S with sa:=S.sa++[⟨ix,nV ws 0,nV ws 1⟩]};have G:wD S ws=d:=by rw[wD,af g1,af g2,af o,ag F,ei]
 refine⟨_,_,_,D.aj 2 rfl 3,av g ⟨by omega,by omega,_,C 0 (by omega),av g ⟨by omega,by omega,_,C 1 (by omega),D.aY (⟨ix,nV ws 0,nV ws 1⟩:T3).cells.toArray λr3 V f=>⟨f.aj 3 rfl 3,dW (l2:=[(⟨ix,nV ws 0,nV ws 1⟩:T3)]) aal T3.len T3.one (f.out 7 rfl) (nJ (f.cellsIn 0 rfl) rfl) (by simp;omega) (by simp;omega) λI J W m=>?_⟩⟩⟩⟩;have r:=m.back (i:=7) (by show 7<M.length+9;omega);exact r.cL 3 rfl (j:=3) (by show 3<4;decide) rfl λX u=>⟨{d with a4:=I,c4:=J},by rw[G];rfl,St.second (St.second u)⟩
def T6{S:Se}{ws:List (List UInt8)}(h:xB S ws=0)(b:∀p∈S.bd,p.nm≠[42]):∀p∈(wD S ws).bd,p.nm≠[42]:=by
 unfold wD
 split
 .exact b
 split
 .rename_i g1 g2;intro p a;rcases aB.1 a with a|a
  .exact b p a
  rw[aI.1 a];intro (h42:ws.getD 1 []=[42]);have c:mj S MU [42]=(0,5):=by rw[mj,ag (.inr rfl),show iz [42]=false by decide];rfl
  unfold xB at h;rw[g2,h42,c] at h
  split at h
  .cases h
  split at h
  .cases h
  rw[ag (by decide)] at h
  cases h
 split
 .exact b
 split
 .exact b
 exact b
def XB{S a:Se}(e:a.er=S.er)(h:∀p∈S.bd,p.nm≠[42]):∀p∈a.bd,p.nm≠[42]:=by
 have b:a.bd=S.bd:=show a.er.bd=S.er.bd from congrArg Se.bd e;rw[b];exact h
def Zp{S:Se}{n:Nat}(h:wF S n):nY (Sep (Fe S [])) S.In:=
 nY.mono (nY.cons (nY.and (dS Pr.len) xD) (nY.cons (nY.and (dS Br.len) xD) (nY.cons (nY.and (dS T3.len) xD) (nY.cons (nY.and (dS T3.len) xD) nY.nil))))
  λ_ ⟨a,b,c,d,_⟩=>⟨kf.of a.1 h.ps,rQ.of b.1 h.bd,Dl.of c.1,Dl.of d.1,a.2,b.2,c.2,d.2⟩
def Mr(w:ah)(t:List UInt8)(ht:t.length<=80000):CP 77 #[sv t] w (λr f=>∃(a:Se) (i:Int),r=.tuple #[.agg a.arr,iv i,iv (rV t)]/\St w f (held a.In)/\(rV t=0->a.er=(vL t).er/\a.Ok)):=by
 refine aa1.2.1 (bE jt.arr λb w1 s1=>?_);have C:∀{k i:Int} {f:ah} {m:List bP} {j:Nat},St w f (Sep m)->m[j]?=some (ay b jt.arr 34)->k≠0->rV t=k ->
   yY ⟨b,0,none⟩ 0 jt.arr.toList f λV=>∃(c:OA) (v o:Nat) (d:OA) (x n:Nat) (g:OA) (y p:Nat) (h:OA) (z q:Nat),aU V ⟨b,0,none⟩ 0 [.slice c v o,.slice d x n,.slice g y p,.slice h z q] /\
    ∃(a:Se) (A:Int),Value.tuple #[.agg #[.slice c v o,.slice d x n,.slice g y p,.slice h z q],iv i,iv k]=.tuple #[.agg a.arr,iv A,iv (rV t)]/\St w V (held a.In)/\(rV t=0->a.er=(vL t).er/\a.Ok):=λ{k i f m j} s e hk u=>
  s.aR j e jt.arr.toList rfl (by simp[jt,Se.arr,Value.oneCell']) λV Z=>(Ex8<|Ex4<|⟨Z.cellsIn (cs:=jt.arr) (T:=34) j (cN (kL e)),jt,i,by rw[u];rfl,((St.start' Z.aK).one.oM M5).first,λh=>absurd (u.symm.trans h) hk⟩)
 by_cases h4:4000<t.length
 .exact cT (by rw[jC];exact dT (by omega)) (C s1 (j:=0) rfl (by decide) (by rw[rV,ag h4]))
 refine cF (by rw[jC];exact dF (by omega)) (s1.aY jt.arr λd V Z=>bg (zz V 10 t (by omega)) ?_);rintro v w4 ⟨g,c,rfl,k4⟩;have Y:rV t=if (kW jt (fC 10 t)).2≠0 then (kW jt (fC 10 t)).2 else yX (kW jt (fC 10 t)).1:=by rw[rV,af h4]
 have hll:=yq 10 t;have hls:∀x∈fC 10 t,x.length<=4000:=λx M=>by have:=yu M;omega
 generalize hL:fC 10 t=L at *;let R:bP:=iQ 9 1 sF (qs g) c L;have s4:St w w4 (Sep [R,ay d jt.arr 34,ay b jt.arr 34,emp]):=Z.and k4.single;have s5:St w w4 (Sep (ay d jt.arr 34::ay b jt.arr 34::Fe jt [R])):=by
  have A:St w w4 (Sep [iQ 135 5 Pr.cells none 0 [],iQ 137 4 Br.cells none 0 [],iQ 139 3 T3.cells none 0 [],iQ 141 3 T3.cells none 0 [],R,ay d jt.arr 34,ay b jt.arr 34,emp]):=(((s4.gB).gB).gB).gB;exact A.aM [5,6,0,1,2,3,4]
 have rdL:nY R λw=>iA 1 sF w (qs g) L:=dS xE;refine⟨_,_,_,rfl,λi w5 m=>∃(k:Nat) (S:Se),i=k/\k<=L.length/\m=L.length-k/\wF S k/\(∀p∈S.bd,p.nm≠[42])/\(kW S (L.drop k)).1.er=(kW jt L).1.er/\(kW S (L.drop k)).2=(kW jt L).2/\St w w5 (Sep (ay d S.arr 34::ay b jt.arr 34::Fe S [R])),⟨L.length,0,jt,rfl,by omega,by omega,⟨by simp[jt],by simp[jt],by simp[jt],by simp[jt],by simp[jt],by simp[jt]⟩,by simp[jt],rfl,rfl,s5⟩,?_⟩;rintro w5 m i ⟨k,S,rfl,hk,hm,J,F,p1,p2,H⟩-
 by_cases K:(k:Int)<(L.length:Int)
 .have M:L[k]?=some (L[k]'(by omega)):=gE (by omega);have o:L.drop k=L[k]'(by omega)::L.drop (k+1):=bO (by omega);generalize L[k]'(by omega)=x at M o;rw[o,kW] at p1 p2;have E:∀{f:ah} {l:List bP} {i:Nat},St w f (Sep l)->l[i]?=some R->f.cell? (Addr.add ⟨g,0,none⟩ (k*1))=some (sv x):=λs e=>by
   obtain⟨q,y,u⟩:=zA ((s.out _ e).first.imp rdL) M
   cases y;exact u
  refine di K ⟨λw6=>∃a:Se,wF a (k+1)/\(∀p∈a.bd,p.nm≠[42])/\(kW a (L.drop (k+1))).1.er=(kW jt L).1.er/\(kW a (L.drop (k+1))).2=(kW jt L).2/\St w w6 (Sep (ay d a.arr 34::ay b jt.arr 34::Fe a [R])),?_,av rfl ⟨by omega,by omega,_,E H (i:=6) rfl,?_⟩⟩
  .rintro w6 ⟨a,A,q,y,z,u⟩-;exact⟨L.length-(k+1),by omega,k+1,a,gC (by omega),by omega,rfl,A,q,y,z,u⟩
  by_cases z:x=[]
  .rw[ag z] at p1 p2;exact cT (by rw[z,j9];rfl) ⟨S,J.up (by omega),F,p1,p2,H⟩
  rw[af z] at p1 p2;have hxl:=hls x (ak M);have hwl:=yq 32 x;have hwp:=EX 32 x;have hws:∀y∈fC 32 x,y.length<=1000000:=λy hy=>by have:=yu hy;omega
  generalize hW:fC 32 x=W at *;have B:=H.quiet (aZ.drew w5 []);refine cF (by rw[j9,j9];exact aC.2 z) ⟨λr3 n2 w7=>∃a:Se,n2=xB S W/\a.er=(if xB S W=0 then wD S W else S).er/\St w w7 (Sep (ay r3 a.arr 34::ay d S.arr 34::ay b jt.arr 34::Fe a [R])),?_,?_⟩
  .rintro w7 r3 n2 ⟨a,rfl,D,u⟩-
   by_cases q:xB S W=0
   .rw[af (λh=>h q)] at p1 p2;rw[ag q] at D;have A:=C7 (l:=L.drop (k+1)) D;refine iI q (Ex8<|Ex4<|⟨u.cellsIn 0 rfl,u.aR 1 rfl a.arr.toList rfl a.one λG I=>⟨a,(T5 J _).er D,XB D (T6 q F),A.1.trans p1,A.2.trans p2,I.second⟩⟩)
   rw[ag q] at p1 p2;have p2:xB S W=(kW jt L).2:=p2;exact gM q (C u (j:=2) rfl q (by rw[Y,ag (by rw[<-p2];exact q),<-p2]))
  have ln:∀{f:ah} {X:bP} {g2 n:Nat},St w f (Sep (iQ 9 1 sF (qs g2) n W::X::ay d S.arr 34::ay b jt.arr 34::Fe S [R])) ->
    CC 138 #[.agg S.arr,.slice (qs g2) W.length n] f (wo λr q=>∃a:Se,r=.tuple #[.agg a.arr,iv (xB S W)]/\a.er=(if xB S W=0 then wD S W else S).er/\St w q (Sep (X::ay d S.arr 34::ay b jt.arr 34::Fe a [R]))):=λ{f X g2 n} u=>by
   have N:St w f (Sep (Fe S (iQ 9 1 sF (qs g2) n W::[R,X,ay d S.arr 34,ay b jt.arr 34]))):=u.aM [4,5,6,7,0,8,1,2,3];refine(Qc N (dS xE) hwp (by omega) hws J (by omega) F).mono ?_;rintro e q ⟨r,rfl,a,A,D,I⟩;exact⟨r,rfl,a,A,D,I.aM [6,7,8,0,1,2,3,5]⟩
  have s0:St w w5.drew (Sep (Vc.held (λ_=>True)::ay d S.arr 34::ay b jt.arr 34::Fe S [R])):=B.oM λ_=>trivial;refine Ex8<|Ex4<|⟨B.cellsIn 0 rfl,av rfl ⟨by omega,by omega,_,E B (i:=6) rfl,⟨?_,?_⟩⟩⟩
  .refine bg (zz _ 32 x (by omega)) ?_;rw[hW];rintro v O ⟨g2,n,rfl,k10⟩;have G:St w O (Sep (iQ 9 1 sF (qs g2) n W::Vc.held (λ_=>True)::ay d S.arr 34::ay b jt.arr 34::Fe S [R])):=s0.and k10.single;refine⟨_,_,_,rfl,G.cellsIn 2 rfl,⟨bg (ln G) ?_,?_⟩⟩
   .rintro v P ⟨a,rfl,D,q⟩;refine Ex8<|Ex4<|⟨_,rfl,q.second.aY jt.arr λr4 Q A=>A.aR 0 rfl a.arr.toList rfl a.one λU u=>⟨a,rfl,D,u⟩⟩
   refine G.aY jt.arr λr5 w14 A=>⟨A.cellsIn 3 rfl,?_⟩;have A:St w w14 (Sep (iQ 9 1 sF (qs g2) n W::ay r5 jt.arr 34::ay d S.arr 34::ay b jt.arr 34::Fe S [R])):=A.aM [1,0,3,4,5,6,7,8,9];refine bg (ln A) ?_;rintro v P ⟨a,rfl,D,q⟩;exact Ex8<|Ex4<|⟨_,rfl,q.aR 0 rfl a.arr.toList rfl a.one λU u=>⟨a,rfl,D,u⟩⟩
  refine B.aY jt.arr λr6 w17 A=>⟨E A (i:=7) rfl,A.cellsIn 1 rfl,bg (zz _ 32 x (by omega)) ?_⟩;rw[hW];rintro v w18 ⟨g2,n,rfl,k18⟩;have G:St w w18 (Sep (iQ 9 1 sF (qs g2) n W::ay r6 jt.arr 34::ay d S.arr 34::ay b jt.arr 34::Fe S [R])):=A.and k18.single;refine⟨_,_,_,rfl,G.cellsIn 2 rfl,bg (ln G) ?_⟩;rintro v P ⟨a,rfl,D,q⟩;exact Ex8<|Ex4<|⟨_,rfl,q.aR 0 rfl a.arr.toList rfl a.one λU u=>⟨a,rfl,D,u⟩⟩
 obtain rfl:k=L.length:=by omega
 rw[gH,kW] at p1 p2;have p1:S.er=(kW jt L).1.er:=p1;have p2:(0:Int)=(kW jt L).2:=p2;rw[af (λh=>h p2.symm),<-MF p1] at Y;refine dz K (Ex8<|Ex4<|⟨H.cellsIn 0 rfl,bg (rH (SV H.second.second J)) ?_⟩);rintro v O ⟨⟨rfl,o⟩,n⟩;have N:=H.quiet n;exact⟨_,rfl,cBq (λe=>C N (j:=1) rfl e Y) λe=>(Ex8<|Ex4<|⟨N.cellsIn 0 rfl,N.aR 1 rfl S.arr.toList rfl S.one λQ I=>(Ex8<|Ex4<|⟨I.cellsIn (cs:=S.arr) 1 rfl,S,0,by rw[Y,e];rfl,((show St w Q (Sep (Fe S [])) from I.aM [2,3,4,5]).held (Zp J)),λ_=>⟨by rw[vL,hL];exact p1,o.1 e⟩⟩)⟩)⟩
def Xl(b:Nat)(a:OA)(c:Nat)(l:List Tk)(e:Int):List bP:=[ay b #[.slice a l.length c,iv e] 259,held λw=>iA 4 Tk.cells w a l]
def pI(w0 w:ah)(b:Nat)(l:List Tk)(e:Int)(B:bP):Prop:=∃a c,l.length<=c/\l.length<=4000/\St w0 w (Sep (Xl b a c l e++[B]))
section
variable {w0 w:ah} {b:Nat} {l:List Tk} {e:Int} {B:bP}
def pI.quiet{d:ah}(h:pI w0 w b l e B)(hc:aZ w d []):pI w0 d b l e B:=let ⟨a,c,h1,h2,s⟩:=h;⟨a,c,h1,h2,s.quiet hc⟩
def pI.aK(h:pI w0 w b l e B):aZ w0 w []:=let ⟨_,_,_,_,s⟩:=h;s.aK
theorem pI.add(h:pI w0 w b l e B){d:ah}{A:bP}(k:St w d A):pI w0 d b l e (star A B):=by
 obtain⟨a,c,f,g,s⟩:=h;have i:St w0 d (Sep [A,_,_,B]):=s.and k;exact⟨a,c,f,g,(i.aM [1,2,0,3]).eqv (fF.right (fF.right fF.assoc'))⟩
def pI.drop{A:bP}(h:pI w0 w b l e (star A B)):pI w0 w b l e B:=by
 obtain⟨a,c,d,f,s⟩:=h;exact⟨a,c,d,f,s.weak (dU.right (dU.right (dU.left ((dU.left (dU.none A)).trans (fF.swap.trans (fF.unit' B)).weak))))⟩
def pI.out{m:List bP}(h:pI w0 w b l e (star (Sep m) B)):∃d,St w0 w (Sep (m++[d]))/\∀{f:ah} {m':List bP},St w0 f (Sep (m'++[d]))->pI w0 f b l e (star (Sep m') B):=by
 obtain⟨a,c,g,i,s⟩:=h;exact⟨star (Sep (Xl b a c l e)) B,St.open (((s.split (Xl b a c l e)).eqv (fF.right (fF.unit' _))).sP),λk=>⟨a,c,g,i,St.cat ((k.shut.sP).eqv (fF.right (fF.unit _)))⟩⟩
def pI.frame(h:pI w0 w b l e B):St w0 w B:=by
 obtain⟨a,c,d,f,s⟩:=h;exact(s.split [_,_]).second.single
def xA(h:pI w0 w b l e B):CP 286 #[pt b] w (λr v=>r=(dr l e).val/\aZ w v []):=by
 obtain⟨a,c,z,A,s⟩:=h;refine aaR.2.1 ?_;have u:=s.eu 1 rfl;have o:=s.aj 0 rfl 0;have g1:=s.aj 0 rfl 1;refine bE qC.cells.toArray λC y g=>?_;have k:=iV o g.aK;have t:=iV g1 g.aK;refine⟨λx m=>x = !(decide (e=0)&&decide (l.length≠0))/\m=y,?_,_,t,?_⟩
 .rintro m x ⟨rfl,rfl⟩-
  by_cases d:e=0
  .cases l with
   |nil=>exact cT (by simp) (g.aR 0 rfl qC.cells rfl (Tk.one _) λn f=>⟨_,_,_,_,f.cellsIn 0 rfl,by rw[dr,ag d];rfl,f.aK⟩)
   |cons x l=>
    obtain⟨q,p,j⟩:=(u.aK g.aK).at (i:=0) (x:=x) rfl;refine cF (by simp[d]) ⟨_,_,_,k,av p ⟨by omega,by simp,_,_,_,_,j,g.aR 0 rfl x.cells rfl (Tk.one _) λn f=>⟨_,_,_,_,f.cellsIn 0 rfl,by rw[dr,ag d];rfl,f.aK⟩⟩⟩
  exact cT (by simp[d]) (g.aR 0 rfl qC.cells rfl (Tk.one _) λn f=>⟨_,_,_,_,f.cellsIn 0 rfl,by rw[dr,af d];rfl,f.aK⟩)
 by_cases d:e=0
 .refine cF (by simp[d]) ⟨_,_,_,k,?_,rfl⟩;rw[dT d]
  cases l with
  |nil=>rfl
  |cons x l=>simp;omega
 exact cT (by simpa using d) ⟨by simp[d],rfl⟩
def xz(h:pI w0 w b l e B)(k:Int):CP 289 #[pt b,iv k] w (λr m=>r=.tuple #[]/\pI w0 m b l (iG e k) B):=by
 obtain⟨a,c,f,g,s⟩:=h;refine aaR.2.2.2.1 ⟨_,s.aj 0 rfl 1,?_⟩
 by_cases d:e=0
 .exact cT (by simpa using d) (s.cL 0 rfl (j:=1) (show 1<2 by decide) rfl λn i=>⟨rfl,a,c,f,g,by rw[iG,ag d];exact i⟩)
 exact cF (by simpa using d) ⟨rfl,a,c,f,g,by rw[iG,af d];exact s⟩
def BI(h:pI w0 w b l e B):CP 345 #[pt b] w (λr m=>r=.tuple #[]/\pI w0 m b l (mB l e) B):=by
 refine aaR.2.2.2.2.1 ⟨λi=>pI w0 i b l (if l.length=0 then iG e 1 else e) B,?_,?_⟩
 .rintro i f -;refine bF (xz f 2) λa g=>⟨rfl,rfl,?_⟩;have:mB l e=iG (if l.length=0 then iG e 1 else e) 2:=by
   unfold mB iG
   split<;>split<;>simp_all
  rw[this];exact g
 have j:=h;obtain⟨a,c,f,g,s⟩:=j;refine⟨_,_,_,s.aj 0 rfl 0,?_⟩
 by_cases d:l.length=0
 .exact cT (by simpa using d) (bF (xz h 1) λn k=>⟨rfl,by rw[ag d];exact k⟩)
 exact cF (by simpa using d) (by rw[af d];exact h)
def EF(h:pI w0 w b l e B):CP 346 #[pt b] w (λr D=>r=(dr l e).val/\pI w0 D b (jH l e) e B):=by
 have v:=h;obtain⟨a,c,m,n,s⟩:=v;refine aaR.2.2.1 (s.aY qC.cells.toArray λy E o=>bF (xA (⟨a,c,m,n,o.aM [1,2,3]⟩:pI w0 E b l e B)) λH u=>⟨_,_,_,_,rfl,(o.quiet u).aY qC.cells.toArray λz I A=>A.aR 0 rfl (dr l e).cells rfl (Tk.one _) λF f=>⟨λt=>∃k i,(jH l e).length<=i/\St w0 t (Sep (ay z (dr l e).cells.toArray 323::ay y qC.cells.toArray 323::(Xl b k i (jH l e) e++[B]))),?_,?_⟩⟩)
 .rintro t ⟨k,i,d,p⟩-;have g:(jH l e).length<=4000:=by
   unfold jH;split
   .rw[gI];omega
   exact n
  exact⟨_,_,_,_,p.cellsIn 0 rfl,p.aR 1 rfl (dr l e).cells rfl (Tk.one _) λx q=>⟨_,_,_,_,q.cellsIn 1 rfl,rfl,k,i,d,g,q.aM [2,3,4]⟩⟩
 refine⟨λx p=>x=(decide (e=0)&&decide (l.length≠0))/\p=F,?_,_,f.aj 2 rfl 1,?_⟩
 .rintro p x ⟨rfl,rfl⟩-
  by_cases g:e=0/\l.length≠0
  .have en:jH l e=l.tail:=by rw[jH,ag g.1]
   refine cT (by simp[g.1];intro h;exact g.2 (by rw[h];rfl)) ⟨_,_,_,f.aj 2 rfl 0,by omega,by omega,f.cL 2 rfl (j:=0) (show 0<2 by decide) rfl λG q=>⟨if c=1 then a else Option.map (λx=>Addr.add x (1*4)) a,c-1,by rw[en,gI];omega,?_⟩⟩;have C:=(q.aM [3,0,1,2,4]).we ((cV _).mono λw d=>OL d m);rw[en];have el:l.tail.length=l.length-1:=gI;show St w0 G (Sep [_,_,ay b #[.slice (if c=1 then a else Option.map (λx=>Addr.add x (1*4)) a) l.tail.length (c-1),iv e] _,_,_]);rw[el];exact C.aM [1,2,3,0,4]
  have en:jH l e=l:=by
   unfold jH
   split
   .rename_i d
    cases l with
    |nil=>rfl
    |cons x l=>exact absurd ⟨d,by simp⟩ g
   rfl
  refine cF (by simp only[eX,ct];by_cases d:e=0;exact .inr λh=>g ⟨d,h⟩;exact .inl d) ⟨a,c,by rw[en];exact m,by rw[en];exact f⟩
 by_cases d:e=0
 .refine cT (by simpa using d) ⟨_,_,_,f.aj 2 rfl 0,?_,rfl⟩;rw[dT d,aO]
  by_cases g:l.length=0
  .rw[dF (by omega),dF (by omega)]
  rw[dT (by omega),dT g]
 exact cF (by simpa using d) ⟨by rw[dF d];rfl,rfl⟩
def ED(h:pI w0 w b l e B)(m:List UInt8):CP 291 #[pt b,sv m] w (λr j=>r=.bool (kA m l e)/\pI w0 j b (pz m l e) e B):=by
 refine aaR.2.2.2.2.2.1 (bF (xA h) λp g=>⟨_,_,_,_,rfl,bE qC.cells.toArray λo q i=>i.aR 0 rfl (dr l e).cells rfl (Tk.one _) λn c=>?_⟩);have d:=(h.quiet g).quiet c.aK;refine⟨λx f=>x=(!kA m l e)/\f=n,?_,_,c.aj 0 rfl 0,?_⟩
 .rintro f x ⟨rfl,rfl⟩-
  cases ha:kA m l e with
  |false=>exact cT rfl ⟨rfl,by rw[pz,ha];exact d⟩
  |true=>
   exact cF rfl (bF (EF d) λs a=>⟨_,_,_,_,rfl,rfl,by rw[pz,ha];exact a⟩)
 by_cases a:(dr l e).k=3
 .refine cF (by simpa using a) ⟨_,c.aj 0 rfl 1,?_,rfl⟩;rw[kA,dT a,aO,j9,j9]
 exact cT (by simpa using a) ⟨by rw[kA,dF a];rfl,rfl⟩
def tr(h:pI w0 w b l e B)(m:List UInt8):CP 290 #[pt b,sv m] w (λr d=>r=.tuple #[]/\pI w0 d b (pz m l e) (Ac m l e) B):=by
 refine(p6 aaR).1 (bF (ED h m) λf a=>⟨_,rfl,?_⟩)
 cases ha:kA m l e with
 |true=>exact cF rfl ⟨rfl,by rw[Ac,ha];exact a⟩
 |false=>
  have el:pz m l e=l:=by rw[pz,ha];rfl
  rw[el] at a;exact cT rfl (bF (BI a) λg c=>⟨rfl,rfl,by rw[el,Ac,ha];exact c⟩)
def TX(h:pI w0 w b l e B):CP 288 #[pt b] w (λr m=>r=sv (kV l e)/\pI w0 m b (rK l e) (tB l e) B):=by
 refine(p6 aaR).2.1 (bF (xA h) λp d=>⟨_,_,_,_,rfl,bE qC.cells.toArray λo n i=>i.aR 0 rfl (dr l e).cells rfl (Tk.one _) λq c=>⟨_,c.aj 0 rfl 0,?_⟩⟩);have g:=(h.quiet d).quiet c.aK
 by_cases a:(dr l e).k=1
 .have g1:=c.aj 0 rfl 1;refine cF (by simpa using a) (bF (EF ((h.quiet d).add c)) λs f=>?_);have j:=f.frame.first;exact⟨_,_,_,_,rfl,_,j.aj 0 rfl 1,by rw[kV,ag a],by rw[rK,ag a,tB,ag a];exact f.drop⟩
 exact cT (by simpa using a) (bF (BI g) λn f=>⟨rfl,by rw[kV,af a],by rw[rK,af a,tB,af a];exact f⟩)
def EE(h:pI w0 w b l e B)(m:Int):CP 292 #[pt b,iv m] w (λr o=>r=iv (nP m l e)/\pI w0 o b (wI m l e) (tM m l e) B):=by
 refine(p6 aaR).2.2.1 (bF (xA h) λs i=>⟨_,_,_,_,rfl,bE qC.cells.toArray λq t j=>j.aR 0 rfl (dr l e).cells rfl (Tk.one _) λp c=>⟨_,c.aj 0 rfl 0,?_⟩⟩);have f:=(h.quiet i).add c
 by_cases a:(dr l e).k=2
 .refine cF (by simpa using a) ⟨λx g=>x=yC m (dr l e)/\g=p,?_,_,c.aj 0 rfl 2,?_⟩
  .rintro g x ⟨rfl,rfl⟩-
   cases ha:yC m (dr l e) with
   |true=>
    exact cT rfl (bF (xz f 4) λn d=>⟨rfl,by rw[nP,af (by rw[ha];simp)],by rw[wI,af (by rw[ha];simp),tM,ag a,ag ha];exact d.drop⟩)
   |false=>
    refine cF rfl (bF (EF f) λu d=>?_);have n:=d.frame.first;exact⟨_,_,_,_,rfl,_,n.aj 0 rfl 2,by rw[nP,ag ⟨a,ha⟩],by rw[wI,ag ⟨a,ha⟩,tM,ag a,af (by rw[ha];decide)];exact d.drop⟩
  exact cBq (λd=>⟨by rw[yC,dT d];rfl,rfl⟩) λd=>⟨_,c.aj 0 rfl 2,by rw[yC,dF d];rfl,rfl⟩
 exact cT (by simpa using a) (bF (BI f) λg d=>⟨rfl,by rw[nP,af (λh=>a h.1)],by rw[wI,af (λh=>a h.1),tM,af a];exact d.drop⟩)
def W5(h:pI w0 w b l e B):CP 209 #[pt b] w (λr j=>r=iv (vB l e)/\j=w):=by
 have k:=h;obtain⟨a,c,m,n,s⟩:=h;refine(p6 aaR).2.2.2.1 ⟨λx i=>x=decide (e=0/\0<l.length)/\i=w,?_,_,s.aj 0 rfl 1,?_⟩
 .rintro i x ⟨rfl,rfl⟩-;exact cBq (λg=>⟨by rw[vB,ag g],rfl⟩) λg=>⟨_,s.aj 0 rfl 1,by rw[vB,af g],rfl⟩
 by_cases d:e=0
 .refine cT (by simpa using d) ⟨_,_,_,s.aj 0 rfl 0,?_,rfl⟩
  by_cases f:0<l.length
  .rw[dT (p:=e=0/\0<l.length) ⟨d,f⟩];exact dT (by omega)
  rw[dF (p:=e=0/\0<l.length) (λh=>f h.2)];exact dF (by omega)
 exact cF (by simpa using d) ⟨by rw[dF (p:=e=0/\0<l.length) (λh=>d h.1)],rfl⟩
end
def Qe(w:ah)(c:UInt8):CP 343 #[.int .u8 (un c)] w (λr l=>r=.bool (marks.contains c)/\l=w):=by
 refine rF.1.2.2.1 ?_;let L:List UInt8:=[123,125,40,41,58,44,64,43,45,61];have f:marks.contains c=L.contains c:=by
  rw[lY];simp only[marks,L,List.contains_eq_mem,aP,dR,iS,aV];constructor<;>(intro h;rcases h with h|h|h|h|h|h|h|h|h|h<;>simp[h])
 refine⟨λn g m=>∃k:Nat,n=k/\k<=10/\m=10-k/\(L.take k).any (λx=>x==c)=false/\g=w,⟨10,0,rfl,by omega,by omega,rfl,rfl⟩,?_⟩;rintro g m n ⟨k,rfl,o,j,e,rfl⟩-;rw[jC]
 by_cases a:k<10
 .have b:L[k]?=some (L[k]'a):=gE a;generalize L[k]'a=x at b;refine di (by show(k:Int)<10;omega) ⟨by omega,?_⟩;rw[aq,lJ,b]
  by_cases h:x=c
  .refine cT (by rw[h];simp[un]) ⟨?_,rfl⟩;rw[f,List.contains_eq_any_beq,jQ (p:=λx=>c==x) b (by simp[h])]
  have d:(x.toNat:Int)≠un c:=λi=>h (fP.1 (by unfold un at i;omega));exact cF (aC.2 d) (mS (by omega) ⟨jy e b (by simpa using h),rfl⟩)
 obtain rfl:k=10:=by omega
 refine cF (by rfl) ⟨?_,rfl⟩;have b:=e;rw[f]
 cases hc:L.contains c with
 |false=>rfl
 |true=>
  rw[jJ] at hc;rw[eG] at b;exact absurd (nH c) (b c hc)
theorem IF{p:UInt8->Bool}:∀{l:List UInt8} {k:Nat},k<=l.length->(l.take k).all p=true->(k=l.length\/∃c,l[k]?=some c/\p c=false)->l.takeWhile p=l.take k
 |[],k,_,_,_=>by simp
 |x::l,0,_,_,h=>by
  rcases h with h|⟨c,b,d⟩
  .simp at h
  have:x=c:=by simpa using b
  rw[gO,this,d];rfl
 |x::l,k+1,e,a,h=>by
  rw[fJ,fz,aF] at a;rw[gO,ag a.1,fJ,IF (by simpa using e) a.2 (by
   rcases h with h|⟨c,b,d⟩
   .exact .inl (by simpa using h)
   exact .inr ⟨c,by simpa using b,d⟩)]
def TU(w:ah){l:List UInt8}{a:UInt8}(Z:l.length<=4000)(o:l[0]?=some a):
  CP 285 #[sv l] w (λr D=>r=.tuple #[(iE l 0 a).1.val,iv (iE l 0 a).2]/\aZ w D []):=by
 refine Gn ?_;have hp:=(ai.1 o).1;refine bE qC.cells.toArray λN P W=>?_;have ret:∀{D:ah} (x:Tk) (k:Int),D=P->iE l 0 a=(x,k)->yY ⟨N,0,none⟩ 0 x.cells D λC=>∃(K:Int) (O:ByteArray) (L M:Int),aU C ⟨N,0,none⟩ 0 [(iv K),(.string O),(iv L),(iv M)] /\
   Value.tuple #[(.agg #[(iv K),(.string O),(iv L),(iv M)]),iv k]=.tuple #[(iE l 0 a).1.val,iv (iE l 0 a).2]/\aZ w C []:=λx k y e=>by
  subst y;refine W.aR 0 rfl x.cells rfl (Tk.one _) λC b=>⟨_,_,_,_,b.cellsIn 0 rfl,by rw[e];rfl,b.aK⟩
 have get:∀{k:Nat} {c:UInt8} {R:UInt8->Prop},l[k]?=some c->R c->fN ((bs l)[((k:Nat):Int).toNat]?) R:=λd h=>by
  rw[aq,lJ,d];exact h
 have g:∀{R:UInt8->Prop},R a->fN ((bs l)[(0:Int).toNat]?) R:=λh=>get (k:=0) o h;refine⟨by omega,g (bg (vi P (un a)) ?_)⟩;rintro v Q ⟨rfl,rfl⟩;refine⟨_,rfl,?_⟩
 cases q:CW (un a) with
 |true=>
  have s:iE l 0 a=if 12<(word l).length then (qC,3) else (⟨1,word l,0,0⟩,0):=by rw[iE,ag q];rfl
  refine cT rfl ⟨λn t m=>∃k:Nat,n=k/\1<=k/\k<=l.length/\m=l.length-k/\(l.take k).all (λc=>inr (un c))=true/\t=Q,⟨l.length-1,1,rfl,by omega,by omega,rfl,?_,rfl⟩,?_⟩
  .rw[bJ (i:=0) o];simp[inr,q]
  rintro t m n ⟨k,rfl,H,G,U,u,rfl⟩-;refine⟨λb B=>B=t/\((b=true/\∃c,l[k]?=some c/\inr (un c)=true)\/(b=false/\(k=l.length\/∃c,l[k]?=some c/\inr (un c)=false))),?_,?_⟩
  .rintro B b ⟨rfl,h⟩-;rcases h with⟨rfl,c,d,z⟩|⟨rfl,F⟩
   .have f:=(ai.1 d).1;exact cT rfl ⟨l.length-(k+1),by omega,k+1,by rw[gC (by omega)];rfl,by omega,by omega,rfl,wH (p:=λc=>inr (un c)) u d z,rfl⟩
   have y:word l=l.take k:=IF G u F;have A:(word l).length=k:=by rw[y,aW];omega
   by_cases j:12<k
   .exact cF rfl (cT (by simp;omega) (ret qC 3 rfl (by rw[s,ag (by omega)])))
   refine cF rfl (cF (by simp;omega) ⟨by omega,by rw[jC];omega,?_⟩);rw[aq,Jd,<-y];exact ret ⟨1,word l,0,0⟩ 0 rfl (by rw[s,af (by omega)])
  by_cases f:(k:Int)<(l.length:Int)
  .obtain⟨c,d⟩:=dX l k (by omega);refine cT (by rw[jC];simpa using f) ⟨by omega,get d (bg (vi t (un c)) ?_)⟩;rintro v E ⟨rfl,rfl⟩;refine⟨_,rfl,?_⟩
   cases q:CW (un c) with
   |true=>exact cT rfl ⟨rfl,.inl ⟨rfl,c,d,by simp[inr,q]⟩⟩
   |false=>
    refine cF rfl ⟨by omega,get d (kR (AG E (un c)) ⟨_,rfl,?_⟩)⟩
    cases r:sg (un c) with
    |true=>exact cT rfl ⟨rfl,.inl ⟨rfl,c,d,by simp[inr,q,r]⟩⟩
    |false=>
     refine cF rfl ⟨by omega,get d ⟨rfl,?_⟩⟩;have e:inr (un c)=(un c==95):=by simp[inr,q,r]
     by_cases j:un c=95
     .exact .inl ⟨by simp;exact j,c,d,by rw[e,j];rfl⟩
     exact .inr ⟨by simp;exact j,.inr ⟨c,d,by rw[e];simpa using j⟩⟩
  exact cF (by rw[jC];simpa using f) ⟨rfl,.inr ⟨rfl,.inl (by omega)⟩⟩
 |false=>
 refine cF rfl ⟨by omega,g (bg (AG Q (un a)) ?_)⟩;rintro v S ⟨rfl,rfl⟩;refine⟨_,rfl,?_⟩
 cases r:sg (un a) with
 |true=>
  have s:iE l 0 a=if (uB (digits l)).2≠0 then (qC,(uB (digits l)).2) else (⟨2,digits l,(uB (digits l)).1,0⟩,0):=by rw[iE,af (by rw[q];decide),ag r];rfl
  refine cT rfl ⟨λn t m=>∃k:Nat,n=k/\1<=k/\k<=l.length/\m=l.length-k/\(l.take k).all (λc=>sg (un c))=true/\t=S,⟨l.length-1,1,rfl,by omega,by omega,rfl,?_,rfl⟩,?_⟩
  .rw[bJ (i:=0) o];simp[r]
  rintro t m n ⟨k,rfl,H,G,U,u,rfl⟩-;refine⟨λb B=>B=t/\((b=true/\∃c,l[k]?=some c/\sg (un c)=true)\/(b=false/\(k=l.length\/∃c,l[k]?=some c/\sg (un c)=false))),?_,?_⟩
  .rintro B b ⟨rfl,h⟩-;rcases h with⟨rfl,c,d,z⟩|⟨rfl,F⟩
   .have f:=(ai.1 d).1;exact cT rfl ⟨l.length-(k+1),by omega,k+1,by rw[gC (by omega)];rfl,by omega,by omega,rfl,wH (p:=λc=>sg (un c)) u d z,rfl⟩
   have y:digits l=l.take k:=IF G u F;have A:(digits l).length=k:=by rw[y,aW];omega
   have T:(digits l).head? = some a:=by rw[y,List.head?_take,af (by omega)];rw[List.head?_eq_getElem?];exact o
   refine cF rfl ⟨λb I=>b=decide (1<(digits l).length/\(digits l).head? = some 48)/\I=B,?_,?_⟩
   .rintro I b ⟨rfl,rfl⟩-
    by_cases e:1<(digits l).length/\(digits l).head? = some 48
    .have en:uB (digits l)=(0,2):=by rw[uB,ag e]
     exact di e (ret qC 2 rfl (by rw[s,en];rfl))
    refine dz e ?_
    by_cases X:9<k
    .have en:uB (digits l)=(0,4):=by rw[uB,af e,ag (by omega)]
     exact di (by omega) (ret qC 4 rfl (by rw[s,en];rfl))
    have en:uB (digits l)=(By (digits l),0):=by rw[uB,af e,af (by omega)]
    refine dz (by omega) ⟨λn i C m=>∃j:Nat,i=j/\j<=k/\m=k-j/\n=By (l.take j)/\C=I,⟨k,0,rfl,by omega,by omega,rfl,rfl⟩,?_⟩;rintro C m n i ⟨j,rfl,Y,V,rfl,rfl⟩-
    by_cases f:j<k
    .obtain⟨c,d⟩:=dX l j (by omega);have E:=ak (i:=j) (by rw[bz,ag f];exact d);have q:=bw.1 u c E;have r:=N2 9 (l.take j) (by rw[aW];omega) (by
      rw[bw] at u⊢;exact λx J=>u x (by
       have:l.take j=(l.take k).take j:=by rw[jh,gu (by omega)]
       rw[this] at J;exact bC J))
     have q:48<=un c/\un c<=57:=by simpa[sg] using q
     unfold un at q;refine di (by omega) ⟨by omega,get d (mS (by omega) ⟨?_,rfl⟩)⟩;have g1:IntKind.i64.wrap (By (l.take j)*10)=By (l.take j)*10:=gC (by omega);have g2:IntKind.i64.wrap ((c.toNat:Int)-48)=(c.toNat:Int)-48:=gC (by omega);rw[IntWalk.u8_in _ (by omega),g1,g2,gC (by omega),bJ d,Bz];unfold un;omega
    obtain rfl:j=k:=by omega
    refine dz (by omega) ⟨by omega,by rw[jC];omega,?_⟩;rw[aq,Jd,<-y];exact ret ⟨2,digits l,By (digits l),0⟩ 0 rfl (by rw[s,en];rfl)
   by_cases j:1<k
   .refine di (by omega) ⟨by omega,g ⟨?_,rfl⟩⟩;rw[A,T]
    by_cases e:a=48
    .subst e;rw[dT (show 1<k/\(some 48:Option UInt8)=some 48 from⟨j,rfl⟩)];rfl
    rw[dF (p:=1<k/\(some a:Option UInt8)=some 48) (λh=>e (dP h.2))];exact aC.2 λh=>e (fP.1 (by show a.toNat=48;omega))
   exact dz (by omega) ⟨by rw[A,dF (λh=>j h.1)],rfl⟩
  by_cases f:(k:Int)<(l.length:Int)
  .obtain⟨c,d⟩:=dX l k (by omega);refine cT (by rw[jC];simpa using f) ⟨by omega,get d (kR (AG t (un c)) ⟨_,rfl,rfl,?_⟩)⟩
   cases r:sg (un c) with
   |true=>exact .inl ⟨rfl,c,d,r⟩
   |false=>exact .inr ⟨rfl,.inr ⟨c,d,r⟩⟩
  exact cF (by rw[jC];simpa using f) ⟨rfl,.inr ⟨rfl,.inl (by omega)⟩⟩
 |false=>
 have s:iE l 0 a=if marks.contains a then (⟨3,[a],0,0⟩,0) else (qC,2):=by rw[iE,af (by rw[q];decide),af (by rw[r];decide)];rfl
 refine cF rfl ⟨by omega,g (kR (Qe S a) ⟨_,rfl,?_⟩)⟩
 cases h3:marks.contains a with
 |true=>
  refine cT rfl ⟨by omega,by rw[jC];omega,?_⟩;have b:l.take 1=[a]:=by rw[bJ (i:=0) o];rfl
  rw[show((1:Int)).toNat=1 from rfl,Jd,b];exact ret ⟨3,[a],0,0⟩ 0 rfl (by rw[s,h3];rfl)
 |false=>exact cF rfl (ret qC 2 rfl (by rw[s,h3];rfl))
def Tu(l:List UInt8)(n:Nat)(c:UInt8):(iE l n c).2=(iE (l.drop n) 0 c).2/\((iE l n c).2=0->(iE l n c).1={(iE (l.drop n) 0 c).1 with a:=n})/\(iE l n c).1.t=(iE (l.drop n) 0 c).1.t:=by
 unfold iE;rw[j8]
 split
 .split
  .exact⟨rfl,λh=>(by cases h),rfl⟩
  exact⟨rfl,λ_=>rfl,rfl⟩
 split
 .split
  .rename_i h;exact⟨rfl,λb=>absurd b h,rfl⟩
  exact⟨rfl,λ_=>rfl,rfl⟩
 split
 .exact⟨rfl,λ_=>rfl,rfl⟩
 exact⟨rfl,λh=>(by cases h),rfl⟩
def acj:ru prog 254 323 qC.val 4 40:=ru.mk' underlying254 (by kernel_rfl) rfl (by decide)
def KL{w:ah}(l:List UInt8):
  CP 207 #[sv l] w (λr b=>∃a c,r=.tuple #[.slice a (fS l).1.length c,iv (fS l).2]/\St w b (iQ 323 4 Tk.cells a c (fS l).1)):=by
 refine(p6 aaR).2.2.2.2.1 ?_;rw[jC]
 by_cases B:4000<l.length
 .refine di (by omega) ⟨none,0,?_⟩;rw[fS,ag B];exact⟨rfl,(St.start w).gB.first⟩
 refine dz (by omega) ?_;have F:fS l=vS l l.length 0 []:=by rw[fS,af B]
 refine⟨λa C c n A m=>∃(k:Nat) (b:List Tk),n=k/\k<=l.length/\m=l.length-k/\C=b.length/\b.length<=k/\(∃f,l.length-k<=f/\vS l f k b=fS l)/\St w A (star (iQ 323 4 Tk.cells a c b) emp),⟨l.length,0,[],rfl,by omega,by omega,rfl,by simp,⟨l.length,by omega,F.symm⟩,(St.start w).gB⟩,?_⟩;rintro A m a C c n ⟨k,b,rfl,S,T,rfl,H,⟨f,R,d⟩,z⟩-
 by_cases p:k<l.length
 .have i:=gE p;generalize l[k]'p=x at i;obtain⟨f,rfl⟩:∃g,f=g+1:=⟨f-1,by omega⟩;rw[vS,i] at d;simp only at d;refine di (by omega) ⟨by omega,?_⟩;rw[aq,lJ,i]
  by_cases e:x=32
  .rw[ag e] at d;exact cT (by rw[e];rfl) ⟨l.length-(k+1),by omega,k+1,b,gC (by omega),by omega,rfl,rfl,by omega,⟨f,by omega,d⟩,z⟩
  rw[af e] at d;have v:(x.toNat:Int)≠32:=λh=>e (fP.1 (by have:(32:UInt8).toNat=32:=rfl;omega));have s:(l.drop k)[0]?=some x:=by rw[cA];exact i
  have u:(bs l).extract k l.length=bs (l.drop k):=by rw[DA,bB (by rw[bG];omega)]
  rw[u];obtain⟨d1,d2,d3⟩:=Tu l k x;refine iI v ⟨by omega,by omega,bF (TU A (by rw[bG];omega) s) λM E=>?_⟩;have K:St w M (Sep [_]):=z.quiet E;refine Ex4 ⟨_,rfl,K.aY qC.cells.toArray λJ U L=>L.aR 0 rfl (iE (l.drop k) 0 x).1.cells rfl (Tk.one _) λV D=>?_⟩;rw[<-d1]
  by_cases o:(iE l k x).2=0
  .rw[af (by simpa using o)] at d;have y:=JZ i o;have I:=d2 o;refine cF (by rw[o];rfl) (D.cL 0 rfl (j:=3) (by show 3<4;decide) rfl λN q=>?_);have G:((iE (l.drop k) 0 x).1.cells.toArray.setIfInBounds 3 (iv k))=(iE l k x).1.cells.toArray:=by rw[I];rfl
   have q:St w N (Sep [ay J (iE l k x).1.cells.toArray 323,iQ 323 4 Tk.cells a c b]):=by rw[<-G];exact q
   refine⟨_,_,_,_,q.cellsIn 0 rfl,iT acj Tk.len (x:=(iE l k x).1) (Tk.one _) (q.out 1 rfl) (by omega) (by omega) (λP Q O r=>?_) rfl⟩;have r:St w O (Sep [_,_]):=r;refine⟨_,r.aj 1 rfl 1,l.length-(k+(iE l k x).1.t.length),by omega,k+(iE l k x).1.t.length,b++[(iE l k x).1],?_,y.2,rfl,rfl,?_,⟨f,by omega,d⟩,r.aM [0]⟩
   .rw[jC,gC (by omega)];omega
   rw[aA,aG];omega
  rw[ag o] at d;refine gM o ⟨none,0,?_⟩;rw[<-d];exact⟨rfl,(St.start' D.aK).gB.first⟩
 have i:l[k]?=none:=aJ (by omega);have e:vS l f k b=(b,0):=by
  cases f with
  |zero=>rfl
  |succ f=>rw[vS,i]
 rw[e] at d;refine dz (by omega) ⟨a,c,?_⟩;rw[<-d];exact⟨rfl,z.first⟩

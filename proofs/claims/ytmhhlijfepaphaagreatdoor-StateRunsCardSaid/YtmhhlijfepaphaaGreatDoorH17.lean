import Derived.Test.YtmhhlijfepaphaaGreatDoorH16
set_option linter.all false
set_option maxRecDepth 100000
set_option maxHeartbeats 4000000
namespace Go.Proofs.YtmhhlijfepaphaaGreatDoor
open Go Go.Vc Go.Vt _root_.Go.Proofs.Tryz
def v8:=many xP [en func363 [] [],en func364 [] [],en func344 [] [(126,[(8,.s (.int .i64))]),(2016,[(33,.s .bool)]),(64574,[(79,.s .bool)]),(129150,[(100,.s .bool)])],en func287 [(1,.k (.s .blk))] []] (by conv=>lhs;reduce) (by kernel_rfl) λx=>by
 dsimp only[qq,qm,qk,qj,qy,qA,qB,GH,uv,en,FG,wrap,dc,dn,DH,gU,ID,U.I,U.B,U.S,U.N,U.A,U.O,U.W,U.V,U.L,U.U6,U.C,U.M,U.F,U.E,HV,HA,GM,zS,jU,gJ,vZ,vI,TJ,Nat.reduceSub,Nat.reduceAdd,Int.reduceOfNat,Int.reduceNeg,UInt8.reduceOfNat] at x
 exact x
def aaU:=many xP [en func208 [(1,.k (.s .blk))] [(14,[(20,.s .bool)]),(31,[]),(255,[]),(2042,[(62,.s .bool)]),(16340,[])],en func147 [] [],en func293 [] [(58,[(3,.s (.int .i64)),(4,.s (.int .i64))])],en func294 [] [(58,[(3,.s .slice),(4,.s (.int .i64))])],en func295 [] [(491,[(14,.s .bool)])]] (by conv=>lhs;reduce) (by kernel_rfl) λx=>by
 dsimp only[qq,qm,qk,qj,qy,qA,qB,GH,uv,en,FG,wrap,dc,dn,DH,gU,ID,U.I,U.B,U.S,U.N,U.A,U.O,U.W,U.V,U.L,U.U6,U.C,U.M,U.F,U.E,HV,HA,GM,zS,jU,gJ,vZ,vI,TJ,Nat.reduceSub,Nat.reduceAdd,Int.reduceOfNat,Int.reduceNeg,UInt8.reduceOfNat] at x
 exact x
def aaX:=many xP [en func296 [] [(6,[(10,.s .bool)]),(14,[(18,.s .bool)])],en func210 [] [(250,[(4,.s (.int .i64))]),(506,[(5,.s (.int .i64))])],en func347 [] [(58,[(3,.s (.int .i64)),(4,.s (.int .i64))])]] (by conv=>lhs;reduce) (by kernel_rfl) λx=>by
 dsimp only[qq,qm,qk,qj,qy,qA,qB,GH,uv,en,FG,wrap,dc,dn,DH,gU,ID,U.I,U.B,U.S,U.N,U.A,U.O,U.W,U.V,U.L,U.U6,U.C,U.M,U.F,U.E,HV,HA,GM,zS,jU,gJ,vZ,vI,TJ,Nat.reduceSub,Nat.reduceAdd,Int.reduceOfNat,Int.reduceNeg,UInt8.reduceOfNat] at x
 exact x
def Kq:=aaU.2.2.1
def Ek:=aaU.2.2.2.1
def H9:=aaU.2.2.2.2.1
def Ic:=aaX.1
def Kp:=aaX.2.1
end Go.Proofs.YtmhhlijfepaphaaGreatDoor
namespace Go.Proofs.YtmhhlijfepaphaaGreatDoor
open Go Go.Vc _root_.Go.Proofs.Tryz
abbrev Kd (l:List Tk):Prop:=∀x∈l,x.k≠0
def IM(l:List Tk)(i:Nat)(m:List UInt8):Bool:=kA m (l.drop i) 0
def sN(l:List Tk)(i:Nat):dr (l.drop i) 0=(l[i]?).getD qC:=by
 rw[dr,ag rfl]
 by_cases h:i<l.length
 .rw[bO h,gE h];rfl
 rw[List.drop_eq_nil_of_le (by omega),aJ (by omega)];rfl
def HO(l:List Tk)(i:Nat):jH (l.drop i) 0=l.drop (i+1):=by rw[jH,ag rfl,List.tail_drop]
def Ak{l:List Tk}{i:Nat}{m:List UInt8}{x:Tk}(h:l[i]?=some x):IM l i m=(decide (x.k=3)&&x.t==m):=by rw[IM,kA,sN,h];rfl
def JJ{l:List Tk}{i:Nat}{m:List UInt8}(h:l.length<=i):IM l i m=false:=by rw[IM,kA,sN,aJ h];rfl
def DY{l:List Tk}{i:Nat}{m:List UInt8}(h:IM l i m=true):i<l.length:=by
 rcases aQ i l.length with a |a
 .exact a
 rw[JJ a] at h;cases h
def Lm{l:List Tk}{i:Nat}{m:List UInt8}(h:IM l i m=true):pz m (l.drop i) 0=l.drop (i+1):=by
 have a:kA m (l.drop i) 0=true:=h;rw[pz,a,ag rfl,HO]
def QZ(l:List Tk)(i:Nat):Int:=if l.length<=i then 1 else 2
def E8(l:List Tk)(i:Nat):mB (l.drop i) 0=QZ l i:=by
 rw[mB,iG,ag rfl,bG,QZ]
 by_cases h:l.length<=i
 .rw[ag (by omega),ag h]
 rw[af (by omega),af h]
def uF(l:List Tk)(i:Nat):QZ l i≠0:=by unfold QZ;split<;>decide
def uG{m:List UInt8}{l:List Tk}{e:Int}(h:e≠0):kA m l e=false:=by rw[kA,dr,af h];rfl
def zJ{l:List Tk}{e:Int}(h:e≠0):mB l e=e:=by rw[mB,iG,af h]
def nR{m:List UInt8}{σ:Sc}(h:σ.2≠0):σ.exp m=σ:=by
 show(pz m σ.1 σ.2,Ac m σ.1 σ.2)=σ;rw[pz,Ac,uG h,zJ h];rfl
def qU{n:Int}{σ:Sc}(h:σ.2≠0):σ.rz n=σ/\nP n σ.1 σ.2=0:=by
 have a:¬ (dr σ.1 σ.2).k=2:=by rw[dr,af h];decide
 refine⟨?_,by rw[nP,af (λh=>a h.1)]⟩;show(wI n σ.1 σ.2,tM n σ.1 σ.2)=σ;rw[wI,tM,af (λh=>a h.1),af a,zJ h]
def Ht{l:List Tk}{i:Nat}{m:List UInt8}(h:IM l i m=true):Sc.exp m (l.drop i,0)=(l.drop (i+1),0):=by
 have a:kA m (l.drop i) 0=true:=h;show(pz m (l.drop i) 0,Ac m (l.drop i) 0)=_;rw[Lm h,Ac,a,ag rfl]
def Ss{l:List Tk}{i:Nat}{m:List UInt8}(h:IM l i m=false):(Sc.exp m (l.drop i,0)).2=QZ l i:=by
 have a:kA m (l.drop i) 0=false:=h;show Ac m (l.drop i) 0=_;rw[Ac,a,<-E8];rfl
section
variable {ps:List Pr} {b:I6} {t:List Tk} {k f:Nat}
def Qz{σ:Sc}(h:σ.2≠0):sw ps f b σ=(b,σ):=by
 cases f with
 |zero=>rfl
 |succ f=>rw[sw,uG h];rfl
abbrev Ny (ps:List Pr) (f:Nat) (b:I6) (σ:Sc):I6×Sc:=uk (sw ps f (jA ps b σ).1 (jA ps b σ).2)
def R6{σ:Sc}{e:Int}(h:(jA ps b σ).2.2=e)(c:e≠0):(Ny ps f b σ).2.2=e:=by
 have a:(jA ps b σ).2.2≠0:=by rw[h];exact c
 show(uk _).2.2=e;rw[Qz a,uk];rw[nR (σ:=(jA ps b σ).2) a,ag a,h]
def VX{σ:Sc}(h:σ.2≠0):(IL σ).2=σ.2:=by
 obtain⟨a,b⟩:=qU (n:=4) h;rw[IL,ag b,a];show iG σ.2 4=σ.2;rw[iG,af h]
def VZ(h:((t[k]?).getD qC).k≠1):(jA ps b (t.drop k,0)).2.2=QZ t k:=by
 have a:(Sc.name (t.drop k,0)).2=QZ t k:=by
  show tB (t.drop k) 0=_;rw[tB,sN,af h,E8]
 rw[jA,ag (by rw[a];exact uF _ _)];exact a
def DK{x:Tk}(e:t[k]?=some x)(h:x.k=1):jA ps b (t.drop k,0)=(b.put (ig ps x.t).1 (nP 4 (DJ ps b x.t (t.drop (k+1),0)).1 (DJ ps b x.t (t.drop (k+1),0)).2),IL (DJ ps b x.t (t.drop (k+1),0))):=by
 have a:dr (t.drop k) 0=x:=by rw[sN,e];rfl
 have c:Sc.name (t.drop k,0)=(t.drop (k+1),0):=by
  show(rK (t.drop k) 0,tB (t.drop k) 0)=_;rw[rK,tB,a,ag h,ag h,HO]
 have d:kV (t.drop k) 0=x.t:=by rw[kV,a,ag h]
 rw[jA,c,af (λh=>h rfl)];rw[d]
def Hj{x:Tk}{e:Int}(d:t[k]?=some x)(h:x.k=1)(a:(DJ ps b x.t (t.drop (k+1),0)).2=e)(c:e≠0):(jA ps b (t.drop k,0)).2.2=e:=by
 rw[DK d h];rw[VX (by rw[a];exact c),a]
def abz{nm:List UInt8}(h:(ig ps nm).2=false):(DJ ps b nm (t,0)).2=6:=by
 have a:Lf ps b nm (t,0)=(t,6):=by rw[Lf,h];rfl
 rw[DJ,a,nR (by show(6:Int)≠0;decide)]
def abA{nm:List UInt8}(h:(ig ps nm).2=true)(c:b.at' (ig ps nm).1≠0):(DJ ps b nm (t,0)).2=7:=by
 have a:Lf ps b nm (t,0)=(t,7):=by rw[Lf,h,ag rfl,ag c];rfl
 rw[DJ,a,nR (by show(7:Int)≠0;decide)]
def Si{nm:List UInt8}(h:(ig ps nm).2=true)(c:b.at' (ig ps nm).1=0):DJ ps b nm (t,0)=Sc.exp [58] (t,0):=by
 have a:Lf ps b nm (t,0)=(t,0):=by rw[Lf,h,ag rfl,af (λh=>h c)]
 rw[DJ,a]
def YZ(h:((t[k]?).getD qC).k≠2):(IL (t.drop k,0)).2=QZ t k:=by
 have a:¬ (dr (t.drop k) 0).k=2:=by rw[sN];exact h
 have b:nP 4 (t.drop k) 0=0:=by rw[nP,af (λh=>a h.1)]
 have c:tM 4 (t.drop k) 0=QZ t k:=by rw[tM,af a,E8]
 rw[IL];rw[ag b];show iG (tM 4 (t.drop k) 0) 4=_;rw[c,iG,af (uF _ _)]
def VY{x:Tk}(f:t[k]?=some x)(h:x.k=2)(g:x.v<1\/4<x.v):(IL (t.drop k,0)).2=4:=by
 have b:dr (t.drop k) 0=x:=by rw[sN,f];rfl
 by_cases a:yC 4 x=false
 .have e:x.v=0:=by
   simp only[yC,cI,ct] at a;omega
  have c:nP 4 (t.drop k) 0=0:=by rw[nP,b,ag ⟨h,a⟩,e]
  have d:tM 4 (t.drop k) 0=0:=by rw[tM,b,ag h,a];rfl
  rw[IL];rw[ag c];show iG (tM 4 (t.drop k) 0) 4=_;rw[d];rfl
 have c:nP 4 (t.drop k) 0=0:=by rw[nP,b,af (λh=>a h.2)]
 have d:tM 4 (t.drop k) 0=4:=by rw[tM,b,ag h,show yC 4 x=true by simpa using a];rfl
 rw[IL];rw[ag c];show iG (tM 4 (t.drop k) 0) 4=_;rw[d];rfl
def Y0{x:Tk}(d:t[k]?=some x)(h:x.k=2)(e:1<=x.v/\x.v<=4):IL (t.drop k,0)=(t.drop (k+1),0)/\nP 4 (t.drop k) 0=x.v:=by
 have c:dr (t.drop k) 0=x:=by rw[sN,d];rfl
 have a:yC 4 x=false:=by simp only[yC,cI,ct];omega
 have b:nP 4 (t.drop k) 0=x.v:=by rw[nP,c,ag ⟨h,a⟩]
 refine⟨?_,b⟩;rw[IL];rw[af (by rw[b];omega)];show(wI 4 (t.drop k) 0,tM 4 (t.drop k) 0)=_;rw[wI,tM,c,ag ⟨h,a⟩,ag h,a,HO];rfl
def V0{x y:Tk}(j:t[k]?=some x)(h:x.k=1)(g:(ig ps x.t).2=true)(f:b.at' (ig ps x.t).1=0)(hc:IM t (k+1) [58]=true)(l:t[k+2]?=some y)(e:y.k=2)(i:1<=y.v/\y.v<=4):
  jA ps b (t.drop k,0)=(b.put (ig ps x.t).1 y.v,(t.drop (k+3),0)):=by
 have a:DJ ps b x.t (t.drop (k+1),0)=(t.drop (k+2),0):=by rw[Si g f,Ht hc]
 obtain⟨c,d⟩:=Y0 l e i;rw[DK j h,a];rw[c,d]
end
section
variable {w:ah} {a:OA} {c:Nat} {t:List Tk}
def UL(h:iA 4 Tk.cells w a t){i:Nat}{x:Tk}(d:t[i]?=some x):∃q,a=some q/\w.cell? (Addr.add q (i*4))=some (iv x.k)/\w.cell? (Addr.add (Addr.add q (i*4)) 1)=some (sv x.t)/\w.cell? (Addr.add (Addr.add q (i*4)) 2)=some (iv x.v):=by
 obtain⟨q,c,b⟩:=h.at d;exact⟨q,c,by have:=bX b 0 _ rfl;rw[Addr.add_add] at this;exact this,bX b 1 _ rfl,bX b 2 _ rfl⟩
def AH(h:iA 4 Tk.cells w a t)(l:t.length<=4000)(i:Nat)(m:List UInt8):CP 363 #[.slice a t.length c,iv i,sv m] w (λr k=>r=.bool (IM t i m)/\k=w):=by
 refine v8.1 ?_
 by_cases b:i<t.length
 .have e:=gE b;generalize t[i]'b=x at e;obtain⟨q,f,g,j,_⟩:=UL h e;rw[Ak e];refine di (by omega) (av f ⟨by omega,by omega,_,g,cBq (λd=>av f ⟨by omega,by omega,_,j,?_,rfl⟩) λd=>⟨by rw[dF d];rfl,rfl⟩⟩);rw[j9,j9,dT d,aO]
 exact dz (by omega) ⟨by rw[JJ (by omega)],rfl⟩
def tv(w:ah)(a:OA)(c:Nat)(t:List Tk)(i:Nat):CP 364 #[.slice a t.length c,iv i] w (λr b=>r=iv (QZ t i)/\b=w):=by
 refine v8.2.1 ?_
 by_cases h:t.length<=i
 .exact di (by omega) ⟨by rw[QZ,ag h],rfl⟩
 exact dz (by omega) ⟨by rw[QZ,af h],rfl⟩
end
def KM{w:ah}{a a2:OA}{c c2:Nat}{ps:List Pr}{t:List Tk}(hr:kf w a ps)(ho:iu ps)(ht:iA 4 Tk.cells w a2 t)(V:t.length<=4000)(hk:Kd t):
  CP 344 #[.slice a ps.length c,.slice a2 t.length c2] w (λr K=>∃(u:I6) (n f:Int),r=.tuple #[.agg u.vs.toArray,iv n,iv f]/\(f≠0->(j5 ps (zo (t,0))).2.2=f)/\(f=0->∃k:Nat,n=k/\k<=t.length/\j5 ps (zo (t,0))=(u,(t.drop k,0)))/\aZ w K []):=by
 refine v8.2.2.1 ?_;have h6:=ho.l2;refine bE z6.vs.toArray λX w1 s1=>s1.aY z6.vs.toArray λr2 w2 Q=>?_;have out:∀{b u:I6} {K:ah} {n f:Int},St w K (Sep [ay r2 b.vs.toArray 50,ay X z6.vs.toArray 50,emp])->(f≠0->(j5 ps (zo (t,0))).2.2=f)->(f=0->∃k:Nat,n=k/\k<=t.length/\j5 ps (zo (t,0))=(u,(t.drop k,0))) ->
   yY ⟨X,0,none⟩ 0 u.vs K λe=>∃i:I6,aU e ⟨X,0,none⟩ 0 i.vs/\∃(h:I6) (g d:Int),Value.tuple #[.agg i.vs.toArray,iv n,iv f]=.tuple #[.agg h.vs.toArray,iv g,iv d]/\(d≠0->(j5 ps (zo (t,0))).2.2=d)/\(d=0->∃k:Nat,g=k/\k<=t.length/\j5 ps (zo (t,0))=(h,(t.drop k,0)))/\aZ w e []:=λ{b u K n f} s S h2=>
  s.aR 1 rfl u.vs rfl (I6.one _) λe d=>⟨u,d.cellsIn 1 rfl,u,n,f,rfl,S,h2,d.aK⟩
 have Z:j5 ps (t,0)=if kA [125] (Sc.exp [123] (t,0)).1 (Sc.exp [123] (t,0)).2 then (z6,(Sc.exp [123] (t,0)).acc [125]) else Ce ps (Sc.exp [123] (t,0)):=by rw[j5,af (λh=>h rfl)]
 refine bg (AH (ht.aK Q.aK) V 0 [123]) ?_;rintro v w2 ⟨rfl,rfl⟩;refine⟨_,rfl,?_⟩
 cases hi0:IM t 0 [123] with
 |false=>
  refine cT rfl (kR (tv w2 a2 c2 t 0) ⟨_,rfl,out Q (λ_=>?_) (λh=>absurd h (uF _ _))⟩);have H:(zo (t,0)).2=QZ t 0:=by
   have d:=sN t 0;rw[j8] at d;rw[zo]
   cases t with
   |nil=>rfl
   |cons x t=>
    have j:dr (x::t) 0=x:=d;rw[j,af (hk x (by simp))];rw[Ak (x:=x) rfl] at hi0;rw[ag]
    .rfl
    by_cases e:x.k=3
    .rw[dT e,aO] at hi0;exact .inr (by simpa using hi0)
    exact .inl e
  rw[j5,ag (by rw[H];exact uF _ _)];exact H
 |true=>
 have l:=DY hi0;have H:zo (t,0)=(t,0):=by
  have j:=gE l;have d:=sN t 0;generalize t[0]'l=x at j;rw[j8,j] at d;have d:dr t 0=x:=d;rw[Ak j,aF] at hi0;rw[zo];show(if (dr t 0).k=0 then _ else if (dr t 0).k≠3\/(dr t 0).t≠[123] then _ else _:Sc)=_;have e:x.k=3:=dG hi0.1;have g:x.t=[123]:=by simpa using hi0.2
  rw[d,af (by omega),af (by rintro(h|h);exact h e;exact h g)]
 have ex:Sc.exp [123] (t,0)=(t.drop 1,0):=by have:=Ht hi0;rwa [j8] at this
 rw[H] at out⊢;rw[ex] at Z;refine cF rfl (kR (AH (ht.aK Q.aK) V 1 [125]) ⟨_,rfl,?_⟩)
 cases hi1:IM t 1 [125] with
 |true=>
  have d:=DY hi1;refine cT rfl ⟨z6,Q.cellsIn 0 rfl,out Q (λh=>absurd rfl h) (λ_=>⟨2,rfl,by omega,?_⟩)⟩;have L:kA [125] (t.drop 1) 0=true:=hi1;rw[Z];show(if kA [125] (t.drop 1) 0=true then (z6,(pz [125] (t.drop 1) 0,(0:Int))) else _)=_;rw[ag L,Lm hi1]
 |false=>
 have e1:j5 ps (t,0)=Ny ps (jA ps z6 (t.drop 1,0)).2.1.length z6 (t.drop 1,0):=by
  have L:kA [125] (t.drop 1) 0=false:=hi1;rw[Z];show(if kA [125] (t.drop 1) 0=true then _ else Ce ps (t.drop 1,0))=_;rw[L,af (by decide),Ce]
 clear Z;generalize hR:j5 ps (t,0)=R at *;refine cF rfl ⟨λn w8 m=>∃(k f:Nat) (b:I6),n=k/\k<=t.length/\m=t.length-k/\(jA ps b (t.drop k,0)).2.1.length<=f/\R=Ny ps f b (t.drop k,0)/\St w w8 (Sep [ay r2 b.vs.toArray 50,ay X z6.vs.toArray 50,emp]),⟨t.length-1,1,_,z6,rfl,by omega,rfl,aD _,e1,Q⟩,?_⟩;rintro w8 m n ⟨k,f,b,rfl,hkl,rfl,hf,hc,E⟩-;have C:=ht.aK E.aK;have p:∀{b':I6} {K:ah} {e:Int},St w K (Sep [ay r2 b'.vs.toArray 50,ay X z6.vs.toArray 50,emp])->(jA ps b (t.drop k,0)).2.2=e->e≠0->_:=λ{b' K e} s h he=>out (u:=z6) (n:=0) (f:=e) s (λ_=>by rw[hc];exact R6 h he) (λh=>absurd h he);refine⟨λx P=>P=w8/\x = !decide (((t[k]?).getD qC).k=1),?_,?_⟩
 rotate_left
 .by_cases l:k<t.length
  .have j:=gE l;generalize t[k]'l=x at j;obtain⟨q,hq,S,_,_⟩:=UL C j;refine dz (by omega) (av hq ⟨by omega,by omega,_,S,rfl,?_⟩);rw[j];rfl
  refine di (by omega) ⟨rfl,?_⟩;rw[aJ (by omega)];rfl
 rintro P x ⟨rfl,rfl⟩-
 by_cases d:((t[k]?).getD qC).k=1
 rotate_left
 .exact cT (by rw[dF d];rfl) (kR (tv P a2 c2 t k) ⟨_,rfl,p E (VZ d) (uF _ _)⟩)
 have l:k<t.length:=by
  rcases aQ k t.length with h|h
  .exact h
  rw[aJ h] at d;cases d
 have j:=gE l;generalize t[k]'l=x at j;rw[j] at d;have d:x.k=1:=d;obtain⟨q,hq,_,S,_⟩:=UL C j;refine cF (by rw[j];show(!decide (x.k=1))=false;rw[dT d];rfl) (av hq ⟨by omega,by omega,_,S,bg (Gq (hr.aK E.aK) (by omega) x.t) ?_⟩);rintro v P ⟨rfl,rfl⟩;refine⟨_,_,rfl,?_⟩
 cases hfm:(ig ps x.t).2 with
 |false=>exact cT rfl (p E (Hj j d (abz hfm) (by decide)) (by decide))
 |true=>
 have hix:=JB hfm;have M:(ig ps x.t).1<6:=by omega
 generalize F:(ig ps x.t).1=ix at *;refine cF rfl ⟨by omega,by omega,_,by rw[iC];exact br E 0 rfl M,?_⟩
 by_cases A:b.at' ix=0
 rotate_left
 .exact gM A (p E (Hj j d (abA hfm (by rw[F];exact A)) (by decide)) (by decide))
 have e3:=Si (t:=t.drop (k+1)) hfm (show b.at' (ig ps x.t).1=0 by rw[F];exact A);have i1:IntKind.i64.wrap ((k:Int)+1)=((k+1:Nat):Int):=gC (by omega);have i2:IntKind.i64.wrap ((k:Int)+2)=((k+2:Nat):Int):=gC (by omega);have i3:IntKind.i64.wrap ((k:Int)+3)=((k+3:Nat):Int):=gC (by omega);have i4:IntKind.i64.wrap ((k:Int)+4)=((k+4:Nat):Int):=gC (by omega);rw[i1,i2,i3,i4];refine iI A (bg (AH C V (k+1) [58]) ?_);rintro v P ⟨rfl,rfl⟩;refine⟨_,rfl,?_⟩
 cases hi58:IM t (k+1) [58] with
 |false=>
  exact cT rfl (kR (tv P a2 c2 t (k+1)) ⟨_,rfl,p E (Hj j d (by rw[e3];exact Ss hi58) (uF _ _)) (uF _ _)⟩)
 |true=>
 have e3':DJ ps b x.t (t.drop (k+1),0)=(t.drop (k+2),0):=by rw[e3,Ht hi58]
 have ey:(jA ps b (t.drop k,0)).2=IL (t.drop (k+2),0):=by rw[DK j d,e3']
 refine cF rfl ⟨λz I=>I=P/\z = !decide (((t[k+2]?).getD qC).k=2),?_,?_⟩
 rotate_left
 .by_cases o:k+2<t.length
  .have D:=gE o;generalize t[k+2]'o=y at D;obtain⟨q',B,g,_,_⟩:=UL C D;refine dz (by omega) (av B ⟨by omega,by omega,_,g,rfl,?_⟩);rw[D];rfl
  refine di (by omega) ⟨rfl,?_⟩;rw[aJ (by omega)];rfl
 rintro I z ⟨rfl,rfl⟩-
 by_cases i:((t[k+2]?).getD qC).k=2
 rotate_left
 .exact cT (by rw[dF i];rfl) (kR (tv I a2 c2 t (k+2)) ⟨_,rfl,p E (by rw[ey];exact YZ i) (uF _ _)⟩)
 have o:k+2<t.length:=by
  rcases aQ (k+2) t.length with h|h
  .exact h
  rw[aJ h] at i;cases i
 have D:=gE o;generalize t[k+2]'o=y at D;rw[D] at i;have i:y.k=2:=i;obtain⟨q',B,_,_,N⟩:=UL C D;refine cF (by rw[D];show(!decide (y.k=2))=false;rw[dT i];rfl) ⟨λz Y=>Y=I/\z=decide (y.v<1\/4<y.v),?_,av B ⟨by omega,by omega,_,N,?_⟩⟩
 rotate_left
 .exact cBq (λg=>⟨rfl,(dT (.inl g)).symm⟩) λg=>av B ⟨by omega,by omega,_,N,rfl,nI.2 (by omega)⟩
 rintro Y z ⟨rfl,rfl⟩-
 by_cases hv:y.v<1\/4<y.v
 .exact di hv (p E (by rw[ey];exact VY D i hv) (by decide))
 have eo:=V0 j d hfm (show b.at' (ig ps x.t).1=0 by rw[F];exact A) hi58 D i (by omega);rw[F] at eo;refine dz hv (av B ⟨by omega,by omega,_,N,by omega,by omega,?_⟩);rw[iC];refine E.cL 0 rfl M rfl λO r=>?_;rw[I6.nW _ _ _ M] at r;have T:R=uk (sw ps f (b.put ix y.v) (t.drop (k+3),0)):=by rw[hc,Ny,eo]
 have J:=ht.aK r.aK;refine bg (AH J V (k+3) [125]) ?_;rintro v O ⟨rfl,rfl⟩;refine⟨_,rfl,?_⟩;have U:(t.drop (k+3)).length<=f:=by rw[eo] at hf;exact hf
 have e44:∀{m:List UInt8},m≠[44]->IM t (k+3) m=true->IM t (k+3) [44]=false:=λ{m} hm h=>by
  have G:=DY h;have g:=gE G;generalize t[k+3]'G=z at g;rw[Ak g] at h⊢;rw[aF] at h;have:z.t=m:=by simpa using h.2
  rw[this,aC.2 hm,Bool.and_false]
 have W:IM t (k+3) [44]=false->R=uk (b.put ix y.v,(t.drop (k+3),0)):=λh=>by
  have L:kA [44] (t.drop (k+3)) 0=false:=h;rw[T]
  cases f with
  |zero=>rfl
  |succ f=>rw[sw];show uk (if kA [44] (t.drop (k+3)) 0=true then _ else _)=_;rw[L,af (by decide)]
 cases hi125:IM t (k+3) [125] with
 |true=>
  have G:=DY hi125;refine cT rfl ⟨_,r.cellsIn 0 rfl,out r (λh=>absurd rfl h) (λ_=>⟨k+4,rfl,by omega,?_⟩)⟩;rw[W (e44 (by decide) hi125),uk];rw[Ht hi125];rfl
 |false=>
 refine cF rfl (bg (AH J V (k+3) [44]) ?_);rintro v O ⟨rfl,rfl⟩;refine⟨_,rfl,?_⟩
 cases hi44:IM t (k+3) [44] with
 |false=>
  refine cT rfl (kR (tv O a2 c2 t (k+3)) ⟨_,rfl,out r (λ_=>?_) (λh=>absurd h (uF _ _))⟩);rw[W hi44,uk];have g:=Ss hi125;rw[ag (by rw[g];exact uF _ _)];exact g
 |true=>
  have G:=DY hi44;obtain⟨f,rfl⟩:∃g,f=g+1:=⟨f-1,by rw[bG] at U;omega⟩;have L:kA [44] (t.drop (k+3)) 0=true:=hi44;refine cF rfl ⟨t.length-(k+4),by omega,k+4,f,b.put ix y.v,rfl,by omega,rfl,?_,?_,r⟩
  .have:=CS ps (b.put ix y.v) (t.drop (k+4),0);have h2:((t.drop (k+4),(0:Int)):Sc).1.length=t.length-(k+4):=bG ..;rw[bG] at U;omega
  rw[T,sw];show uk (if kA [44] (t.drop (k+3)) 0=true then sw ps f (jA ps (b.put ix y.v) (pz [44] (t.drop (k+3)) 0,0)).1 (jA ps (b.put ix y.v) (pz [44] (t.drop (k+3)) 0,0)).2 else _)=_;rw[ag L,Lm hi44]
abbrev yA (w0 w:ah) (b:Nat) (σ:Sc) (B:bP):Prop:=pI w0 w b σ.1 σ.2 B
def Rl(σ' σ:Sc):Prop:=σ'.2=σ.2/\(σ.2=0->σ'=σ)
def Rl.refl(σ:Sc):Rl σ σ:=⟨rfl,λ_=>rfl⟩
def Rl.trans{a b c:Sc}(h:Rl a b)(k:Rl b c):Rl a c:=⟨h.1.trans k.1,λe=>(h.2 (k.1.trans e)).trans (k.2 e)⟩
def Rl.err{a b:Sc}(h:a.2=b.2)(c:b.2≠0):Rl a b:=⟨h,λe=>absurd e c⟩
def Rl.cases{a b:Sc}(h:Rl a b):a=b\/(b.2≠0/\a.2≠0/\a.2=b.2):=by
 by_cases e:b.2=0
 .exact .inl (h.2 e)
 exact .inr ⟨e,by rw[h.1];exact e,h.1⟩
def Rl.exp{a b:Sc}(h:Rl a b)(m:List UInt8):Rl (a.exp m) (b.exp m):=by
 rcases h.cases with rfl|⟨c,d,e⟩
 .exact Rl.refl _
 rw[nR c,nR d];exact Rl.err e c
def M9{m:List UInt8}{σ:Sc}(h:σ.2≠0):σ.acc m=σ:=Dp (uG h)
def Rl.acc{a b:Sc}(h:Rl a b)(m:List UInt8):Rl (a.acc m) (b.acc m)/\kA m a.1 a.2=kA m b.1 b.2:=by
 rcases h.cases with rfl|⟨c,d,e⟩
 .exact⟨Rl.refl _,rfl⟩
 rw[M9 c,M9 d,uG c,uG d];exact⟨Rl.err e c,rfl⟩
def Rl.rz{a b:Sc}(h:Rl a b)(n:Int):Rl (a.rz n) (b.rz n)/\nP n a.1 a.2=nP n b.1 b.2:=by
 rcases h.cases with rfl|⟨c,d,e⟩
 .exact⟨Rl.refl _,rfl⟩
 rw[(qU c).1,(qU d).1,(qU c).2,(qU d).2];exact⟨Rl.err e c,rfl⟩
def WU{σ:Sc}(h:σ.2≠0):zo σ=σ:=by
 rw[zo,show(dr σ.1 σ.2).k=0 by rw[dr,af h];rfl,ag rfl];show(σ.1,iG σ.2 1)=σ;rw[iG,af h]
def vK{ps:List Pr}{σ:Sc}(h:σ.2≠0):dI ps σ=((z6,0),σ):=by
 have a:j5 ps (zo σ)=(z6,σ):=by rw[WU h,j5,ag h]
 have b:Re ps σ=σ:=by rw[Re,a];exact nR h
 rw[dI,a,b,(qU h).1,(qU h).2]
def Rl.ZU{a b:Sc}(h:Rl a b)(ps:List Pr):Rl (dI ps a).2 (dI ps b).2/\(dI ps a).1=(dI ps b).1:=by
 rcases h.cases with rfl|⟨c,d,e⟩
 .exact⟨Rl.refl _,rfl⟩
 rw[vK c,vK d];exact⟨Rl.err e c,rfl⟩
def Kd.sub{l l':List Tk}(h:Kd l)(k:∀x∈l',x∈l):Kd l':=λx a=>h x (k x a)
def Ed{l:List Tk}{e:Int}:∀x∈jH l e,x∈l:=by
 unfold jH;split
 .exact λx a=>List.mem_of_mem_tail a
 exact λx a=>a
def zP{m:List UInt8}{l:List Tk}{e:Int}:∀x∈pz m l e,x∈l:=by
 unfold pz;split
 .exact Ed
 exact λx a=>a
def Nd{m:Int}{l:List Tk}{e:Int}:∀x∈wI m l e,x∈l:=by
 unfold wI;split
 .exact Ed
 exact λx a=>a
def Kb{l:List Tk}{e:Int}:∀x∈rK l e,x∈l:=by
 unfold rK;split
 .exact Ed
 exact λx a=>a
def VV{w:ah}{a:OA}{c k:Nat}{l:List Tk}(h:iA 4 Tk.cells w a l)(hc:l.length<=c):iA 4 Tk.cells w (if c=k then a else Option.map (λx=>Addr.add x (k*4)) a) (l.drop k):=λi x d=>by
 rw[cA] at d;have f:=(ai.1 d).1;obtain⟨q,e,b⟩:=h.at d;refine⟨q.add (k*4),_,by rw[af (by omega),e];rfl,?_,rfl,rfl⟩;rw[Addr.add_add,<-cH];exact b
def Ca{w0 w:ah}{p:Nat}{σ:Sc}{B:bP}{a:OA}{c:Nat}{ps:List Pr}(h:yA w0 w p σ B)(K:∀{b},aZ w0 b []->kf b a ps)(Z:iu ps)(D:Kd σ.1):
  CP 287 #[.slice a ps.length c,pt p] w (λr b=>∃(u:I6) (v:Int) (σ':Sc),r=.tuple #[.agg u.vs.toArray,iv v]/\yA w0 b p σ' B/\Kd σ'.1/\(∀x∈σ'.1,x∈σ.1)/\σ'.1.length<=σ.1.length/\Rl σ' (dI ps σ).2/\(σ'.2=0->(u,v)=(dI ps σ).1)):=by
 refine v8.2.2.2.1 (bE z6.vs.toArray λd w1 s1=>?_);have g:=h.add s1;have V:∀{b:ah} {σ':Sc} {cs:Array Value},yA w0 b p σ' (star (Sep [ay d cs 50,emp]) B)->St w0 b (Sep [ay d cs 50,emp]):=λh=>h.frame.first;have zero:∀{b:ah} {σ':Sc} {u:I6} {v:Int},yA w0 b p σ' (star (Sep [ay d z6.vs.toArray 50,emp]) B)->Kd σ'.1->(∀x∈σ'.1,x∈σ.1)->σ'.1.length<=σ.1.length->Rl σ' (dI ps σ).2->(σ'.2=0->(u,v)=(dI ps σ).1) ->
   yY ⟨d,0,none⟩ 0 u.vs b λi=>∃k:I6,aU i ⟨d,0,none⟩ 0 k.vs/\∃(e:I6) (l:Int) (σ':Sc),Value.tuple #[.agg k.vs.toArray,iv v]=.tuple #[.agg e.vs.toArray,iv l]/\yA w0 i p σ' B/\Kd σ'.1/\(∀x∈σ'.1,x∈σ.1)/\σ'.1.length<=σ.1.length/\Rl σ' (dI ps σ).2/\(σ'.2=0->(e,l)=(dI ps σ).1):=λ{b σ' u v} m y E f n o=>by
  obtain⟨k,t,e⟩:=m.out;exact t.aR 0 rfl u.vs rfl (I6.one _) λi t2=>⟨u,t2.cellsIn 0 rfl,u,v,σ',rfl,(e (m':=[_,_]) t2).drop,y,E,f,n,o⟩
 obtain⟨S,T,I,r,F⟩:=g;have g:yA w0 w1 p σ (star (Sep [ay d z6.vs.toArray 50,emp]) B):=⟨S,T,I,r,F⟩;refine⟨_,F.aj 0 rfl 1,?_⟩
 by_cases l:σ.2=0
 rotate_left
 .have f:=vK (ps:=ps) l;exact gM l (zero g D (λx s=>s) (aD _) (by rw[f];exact Rl.refl _) (λh=>absurd h l))
 have G:σ=(σ.1,0):=by rw[<-l]
 refine iI l ⟨_,_,_,F.aj 0 rfl 0,bg (KM (K g.aK) Z (F.eu 1 rfl) r D) ?_⟩;rintro v w3 ⟨u,n,f,rfl,y,E,U⟩;rw[<-G] at y E;have W:=g.quiet U;obtain⟨B3,t3,i⟩:=pI.out W;refine⟨_,_,_,rfl,t3.aY z6.vs.toArray λz w4 t4=>t4.aR 0 rfl u.vs rfl (I6.one _) λw5 t5=>?_⟩;have L:yA w0 w5 p σ (star (Sep [ay z u.vs.toArray 50,ay d z6.vs.toArray 50,emp]) B):=i (m':=[ay z u.vs.toArray 50,ay d z6.vs.toArray 50,emp]) t5;have off:∀{b:ah} {σ':Sc} {cs:Array Value},yA w0 b p σ' (star (Sep [ay z cs 50,ay d z6.vs.toArray 50,emp]) B)->yA w0 b p σ' (star (Sep [ay d z6.vs.toArray 50,emp]) B):=λh=>by
  obtain⟨k,t,e⟩:=pI.out h;exact e (m':=[_,_]) (t.aM [1,2,3])
 by_cases e:f=0
 rotate_left
 .refine gM e (bF (xz L f) λt o=>?_);have q:iG σ.2 f=f:=by rw[iG,ag l]
  rw[q] at o;have m:(j5 ps (zo σ)).2.2≠0:=by rw[y e];exact e
  have C:Re ps σ=(j5 ps (zo σ)).2:=nR m;have k:(dI ps σ).2.2=f:=by rw[dI,C,(qU m).1,y e]
  exact⟨rfl,zero (σ':=(σ.1,f)) (off o) D (λx s=>s) (aD _) (Rl.err k.symm (by rw[k];exact e)) (λh=>absurd h e)⟩
 obtain⟨k,rfl,X,m⟩:=E e;obtain⟨t,A,J,Y,O⟩:=L;refine iI e ⟨_,_,_,O.aj 0 rfl 0,by omega,by omega,?_⟩;rw[aq];refine O.cL 0 rfl (j:=0) (show 0<2 by decide) rfl λP s8=>?_;have M:yA w0 P p (σ.1.drop k,σ.2) (star (Sep [ay z u.vs.toArray 50,ay d z6.vs.toArray 50,emp]) B):=by
  have o:=(s8.aM [1,0,2]).we ((cV _).mono λw K=>VV (k:=k) K J);refine⟨if A=k then t else Option.map (λx=>Addr.add x (k*4)) t,A-k,?_,?_,?_⟩
  .rw[bG];omega
  .rw[bG];omega
  show St w0 P (Sep [ay p #[.slice (if A=k then t else Option.map (λx=>Addr.add x (k*4)) t) (σ.1.drop k).length (A-k),iv σ.2] _,_,_]);rw[bG];exact o.aM [1,0,2]
 rw[l] at M;refine bF (tr M [64]) λQ H=>?_;have C:Re ps σ=Sc.exp [64] (σ.1.drop k,0):=by rw[Re,m]
 have H:yA w0 Q p (Re ps σ) (star (Sep [ay z u.vs.toArray 50,ay d z6.vs.toArray 50,emp]) B):=by rw[C];exact H
 have q:=pI.quiet H (aZ.drew Q []);obtain⟨B9,t9,_⟩:=pI.out q;refine⟨rfl,u,t9.cellsIn 0 rfl,bF (EE q 1000000) λw10 o=>?_⟩;obtain⟨R,t10,_⟩:=pI.out o;have N:∀x∈(dI ps σ).2.1,x∈σ.1:=λx s=>by
  have g:=Nd x s;rw[C] at g;exact mX (zP x g)
 refine⟨_,rfl,t10.cellsIn 0 rfl,zero (σ':=(dI ps σ).2) (off o) (D.sub N) N (vg ps σ) (Rl.refl _) (λ_=>?_)⟩;rw[dI,m]
section
variable {w0:ah} {p:Nat} {B:bP}
def pI.yZ{w:ah}{l:List Tk}{e:Int}{b:bP}(h:pI w0 w p l e B)(k:dU B b):pI w0 w p l e b:=by
 obtain⟨a,c,d,f,s⟩:=h;exact⟨a,c,d,f,s.weak (dU.right (dU.right (dU.left k)))⟩
def pI.push{w:ah}{l:List Tk}{e:Int}{A:bP}{m:List bP}(h:pI w0 w p l e (star A (star (Sep m) B))):pI w0 w p l e (star (Sep (A::m)) B):=h.yZ fF.assoc'.weak
def Rf(w0:ah)(p:Nat)(a:OA)(c:Nat)(l:List Pr)(f:Nat):Prop:=
 ∀(B:bP) (σ:Sc) (w:ah),Kd σ.1->(σ.2=0->σ.1.length<f)->yA w0 w p σ B ->
  CP 208 #[.slice a l.length c,pt p] w (λr d=>∃(x:Xv) (b:Sc),r=.agg x.cells.toArray/\yA w0 d p b (star (held x.In) B)/\(∀y∈b.1,y∈σ.1)/\b.1.length<=σ.1.length/\Rl b (j3 (kE l f) σ).2/\(b.2=0->x.er=(j3 (kE l f) σ).1))
def NP{op:Int}{u:I6}{v:Int}{a:OA}{c:Nat}(w:ah):(Xv.mk op u v a c []).In w:=.mk (λi y b=>by simp[Xv.args] at b) (λy b=>by simp[Xv.args] at b)
def ZX(x:Xv)(b:Tk)(r1 r2 r4:Nat):List bP:=
 [ay r4 x.cells.toArray 73,Cd x.a x.c x.args,held (y9 x.args),ay r2 b.cells.toArray 323,ay r1 gj.cells.toArray 73,emp]
def PV:BZ []=0:=by decide
def WQ(nm:List UInt8):BZ nm=if nm=[120,111,114] then 2 else if nm=[111,114] then 3 else if nm=[98,111,110,117,115] then 4 else if nm=[108,105,109,105,116] then 5 else 0:=by
 rw[BZ,Tx,PU,PU,PU,PU,PU];simp only[eq_comm]
def Mf{ps:List Pr}{σ:Sc}{e:Int}(h:(zo σ).2=e)(d:e≠0):(dI ps σ).2.2=e:=by
 have a:(zo σ).2≠0:=by rw[h];exact d
 have b:j5 ps (zo σ)=(z6,zo σ):=by rw[j5,ag a]
 have c:Re ps σ=zo σ:=by rw[Re,b];exact nR a
 rw[dI,c,(qU a).1,h]
def V6{ps:List Pr}{g:Sc->Xv×Sc}{a1:Xv}{σ:Sc}(h:σ.2≠0):(Jx ps g 0 a1 σ).2=σ:=by
 rw[Jx,af (by decide),af (by decide),af (by decide)];exact nR h
variable {a:OA} {c:Nat} {l:List Pr}
def Kc{σ:Sc}(h:(dr σ.1 σ.2).k≠1):σ.name=(σ.1,mB σ.1 σ.2)/\kV σ.1 σ.2=[]:=by
 refine⟨?_,by rw[kV,af h]⟩;show(rK σ.1 σ.2,tB σ.1 σ.2)=_;rw[rK,tB,af h,af h]
def Ke{σ:Sc}(h:(dr σ.1 σ.2).k=1):σ.name=σ.next/\kV σ.1 σ.2=(dr σ.1 σ.2).t:=by
 refine⟨?_,by rw[kV,ag h]⟩;show(rK σ.1 σ.2,tB σ.1 σ.2)=(jH σ.1 σ.2,σ.2);rw[rK,tB,ag h,ag h]
def Y6{f:Nat}{σ:Sc}(q:Kd σ.1)(j:¬ ((dr σ.1 σ.2).k=3/\(dr σ.1 σ.2).t=[123]))(o:BZ (kV σ.1 σ.2)=0)(r:σ.2=0->∃g,f=g+1):(j3 (kE l f) σ).2.2=iG σ.name.2 2/\iG σ.name.2 2≠0:=by
 by_cases a:σ.2=0
 rotate_left
 .have b:(dr σ.1 σ.2).k≠1:=by rw[dr,af a];decide
  have c:σ.name.2=σ.2:=by rw[(Kc b).1];exact zJ a
  rw[j3,ag a,c,iG,af a];exact⟨rfl,a⟩
 obtain⟨g,rfl⟩:=r a;rw[j3,af (λh=>h a)]
 by_cases b:(dr σ.1 σ.2).k=1
 .obtain⟨c,m⟩:=Ke b;rw[m] at o;have d:jS (dr σ.1 σ.2)=0:=by rw[jS,ag b];exact o
  have e:zg σ=(σ.1,2):=by rw[zg,ag d];show(σ.1,iG σ.2 2)=_;rw[iG,ag a]
  have i:wC σ=(σ.1,2):=by
   rw[wC,e];have:Sc.next (σ.1,2)=(σ.1,2):=by show(jH σ.1 2,(2:Int))=_;rw[jH,af (by decide)]
   rw[this];exact nR (by show(2:Int)≠0;decide)
  have n:(kE l (g+1) σ).2.2=2:=by
   rw[kE,d,af (by decide),i];have:j3 (kE l g) (σ.1,2)=(gj,(σ.1,2)):=by rw[j3,ag (by show(2:Int)≠0;decide)]
   rw[this,V6 (by show(2:Int)≠0;decide)]
  have p:iG σ.name.2 2=2:=by rw[c];show iG σ.2 2=2;rw[iG,ag a]
  rw[n,p];exact⟨rfl,by decide⟩
 obtain⟨c,_⟩:=Kc b;have d:jS (dr σ.1 σ.2)=1:=by rw[jS,af b]
 have e:zg σ=σ:=by rw[zg,d,af (by decide)]
 have n:mB σ.1 σ.2≠0:=by rw[mB,iG,ag a];split<;>decide
 have i:(zo σ).2=mB σ.1 σ.2:=by
  have m:dr σ.1 σ.2=σ.1.headD qC:=by rw[dr,ag a]
  rw[zo,mB]
  cases hl:σ.1 with
  |nil=>
   have:(dr σ.1 σ.2).k=0:=by rw[m,hl];rfl
   rw[hl] at this;rw[ag this];rfl
  |cons x t=>
   rw[hl] at m j q;have s:dr (x::t) σ.2=x:=m;rw[s] at j⊢;rw[af (q x (by simp)),ag (by by_cases p:x.k=3;exact .inr λh=>j ⟨p,h⟩;exact .inl p)];rfl
 rw[kE,d,ag rfl];rw[e,c];rw[iG,af n];exact⟨Mf i n,n⟩
def Ex(hr:∀{G},aZ w0 G []->kf G a l)(ho:iu l){f:Nat}(H:∀g,f=g+1->Rf w0 p a c l g):Rf w0 p a c l f:=by
 intro B σ w hk hlen h;have hf:σ.2=0->∃g,f=g+1:=λe=>⟨f-1,by have:=hlen e;omega⟩;refine aaU.1 (bE gj.cells.toArray λP w1 s1=>?_);have h1:=h.add s1;refine bF (xA h1) λw2 c2=>?_;have s2:=s1.quiet c2;generalize q:dr σ.1 σ.2=o at *;refine⟨_,_,_,_,rfl,s2.aY qC.cells.toArray λr2 w3 s3=>s3.aR 0 rfl o.cells rfl (Tk.one _) λw4 s4=>?_⟩;let V:List bP:=[ay r2 o.cells.toArray 323,ay P gj.cells.toArray 73,emp];have h4:yA w0 w4 p σ (star (Sep V) B):=h.add s4;have none_:∀{G:ah} {σ':Sc} {C:Nat},yA w0 G p σ' (star (Sep (ay C gj.cells.toArray 73::V)) B)->(∀y∈σ'.1,y∈σ.1)->σ'.1.length<=σ.1.length->Rl σ' (j3 (kE l f) σ).2->σ'.2≠0\/(j3 (kE l f) σ).1=gj ->
   ∃(k:Int) (t:I6) (m:Int) (a9:OA) (z c9:Nat),aU G ⟨C,0,none⟩ 0 ((iv k)::(t.on [(iv m),(.slice a9 z c9)]))/\yY ⟨P,0,none⟩ 0 ((iv k)::(t.on [(iv m),(.slice a9 z c9)])) G λv=>
    ∃(n:Int) (u:I6) (s:Int) (b:OA) (i d:Nat),aU v ⟨P,0,none⟩ 0 ((iv n)::(u.on [(iv s),(.slice b i d)])) /\
    ∃(x:Xv) (σ':Sc),Value.agg ((iv n)::(u.on [(iv s),(.slice b i d)]):List Value).toArray=.agg x.cells.toArray/\yA w0 v p σ' (star (held x.In) B)/\(∀y∈σ'.1,y∈σ.1)/\σ'.1.length<=σ.1.length/\Rl σ' (j3 (kE l f) σ).2/\(σ'.2=0->x.er=(j3 (kE l f) σ).1):=λ{G σ' C} h k1 k2 k3 k4=>by
  obtain⟨B',t,d⟩:=pI.out h;refine⟨_,z6,_,_,_,_,t.cellsIn 0 rfl,t.aR 2 rfl gj.cells rfl (Xv.one _) λn t6=>⟨_,z6,_,_,_,_,t6.cellsIn 2 rfl,gj,σ',rfl,?_,k1,k2,k3,λe=>?_⟩⟩
  .have k:=t6.oM (Q:=gj.In) λw=>NP w;exact(d (m':=[held gj.In,_,_,_,_]) k).yZ Jr
  rcases k4 with k4|k4
  .exact absurd e k4
  rw[k4,E9]
 refine⟨λb w5=>b=decide (o.k=3/\o.t=[123])/\w5=w4,?_,_,s4.aj 0 rfl 0,?_⟩
 rotate_left
 .refine cBq (λh3=>⟨_,s4.aj 0 rfl 1,?_,rfl⟩) λh3=>⟨by rw[dF (p:=o.k=3/\o.t=[123]) (λh=>h3 h.1)],rfl⟩;rw[j9,j9]
  by_cases h4:o.t=[123]
  .rw[dT (p:=o.k=3/\o.t=[123]) ⟨h3,h4⟩];exact bL.2 h4
  rw[dF (p:=o.k=3/\o.t=[123]) (λh=>h4 h.2)];exact aC.2 h4
 rintro w5 b ⟨rfl,rfl⟩-
 by_cases hb:o.k=3/\o.t=[123]
 ·
  have U:σ.2=0:=cq λU=>by
   rw[dr,af U] at q;rw[<-q] at hb;cases hb.1
  obtain⟨g,rfl⟩:=hf U;have e3:jS o=1:=by rw[jS,af (by omega)]
  have i:zg σ=σ:=by rw[zg,q,e3,af (by decide)]
  have eF:j3 (kE l (g+1)) σ=(.mk 1 (dI l σ).1.1 (dI l σ).1.2 none 0 [],(dI l σ).2):=by rw[j3,af (λh=>h U),kE,q,ag e3,i]
  refine di hb (bg (Ca h4 hr ho hk) ?_);rintro v n ⟨u,v,σ',rfl,m,k1,k2,k2',k3,k4⟩;obtain⟨B',t,d⟩:=pI.out m;let x:Xv:=.mk 1 u v none 0 [];refine⟨u,v,rfl,t.aY z6.vs.toArray λs z t7=>t7.aR 0 rfl u.vs rfl (I6.one _) λA t8=>⟨u,t8.cellsIn 0 rfl,t8.aR 2 rfl x.cells rfl (Xv.one _) λD t9=>⟨_,u,_,_,_,_,t9.cellsIn 2 rfl,x,σ',rfl,?_,k2,k2',by rw[eF];exact k3,λe=>?_⟩⟩⟩
  .have k:=t9.oM (Q:=x.In) λw=>NP w;exact(d (m':=[held x.In,_,_,_,_]) k).yZ Jr
  rw[eF,Xv.pN];show Xv.mk 1 u v none 0 []=Xv.mk 1 (dI l σ).1.1 (dI l σ).1.2 none 0 [];rw[<-k4 e]
 refine dz hb ?_;obtain⟨B',t4,back4⟩:=pI.out h4;refine t4.aY gj.cells.toArray λC w10 t10=>t10.aR 0 rfl gj.cells rfl (Xv.one _) λw11 t11=>?_;have h11:yA w0 w11 p σ (star (Sep (ay C gj.cells.toArray 73::V)) B):=back4 (m':=_::V) t11;refine⟨λw12=>∃op:Int,BZ (kV σ.1 σ.2)=op/\(op=2\/op=3\/op=4\/op=5)/\yA w0 w12 p σ.name (star (Sep (ay C (Xv.mk op z6 0 none 0 []).cells.toArray 73::V)) B),?_,bg (TX h11) ?_⟩
 rotate_left
 .rintro v n ⟨rfl,k⟩;have k:yA w0 n p σ.name (star (Sep (ay C gj.cells.toArray 73::V)) B):=k;have i:=WQ (kV σ.1 σ.2);obtain⟨D,t36,d⟩:=pI.out k;refine⟨_,rfl,?_⟩;rw[j9,j9,j9,j9,j9]
  by_cases g2:kV σ.1 σ.2=[120,111,114]
  .rw[ag g2] at i;exact cT (bL.2 g2) (t36.cL 0 rfl (j:=0) (show 0<9 by decide) rfl λm t37=>⟨2,i,.inl rfl,d (m':=_::V) t37⟩)
  rw[af g2] at i;refine cF (aC.2 g2) ?_
  by_cases s:kV σ.1 σ.2=[111,114]
  .rw[ag s] at i;exact cT (bL.2 s) (t36.cL 0 rfl (j:=0) (show 0<9 by decide) rfl λm t37=>⟨3,i,.inr (.inl rfl),d (m':=_::V) t37⟩)
  rw[af s] at i;refine cF (aC.2 s) ?_
  by_cases X:kV σ.1 σ.2=[98,111,110,117,115]
  .rw[ag X] at i;exact cT (bL.2 X) (t36.cL 0 rfl (j:=0) (show 0<9 by decide) rfl λm t37=>⟨4,i,.inr (.inr (.inl rfl)),d (m':=_::V) t37⟩)
  rw[af X] at i;refine cF (aC.2 X) ?_
  by_cases g5:kV σ.1 σ.2=[108,105,109,105,116]
  .rw[ag g5] at i;exact cT (bL.2 g5) (t36.cL 0 rfl (j:=0) (show 0<9 by decide) rfl λm t37=>⟨5,i,.inr (.inr (.inr rfl)),d (m':=_::V) t37⟩)
  rw[af g5] at i;obtain⟨z,A⟩:=Y6 (f:=f) hk (by rw[q];exact hb) i hf;exact cF (aC.2 g5) (bF (xz k 2) λE m=>⟨rfl,none_ (σ':=(σ.name.1,iG σ.name.2 2)) m Kb (Ao _ _) (Rl.err z.symm (by rw[z];exact A)) (.inl A)⟩)
 rintro w12 ⟨op,hop,hop4,h12⟩-;have O:o.k=1:=cq λh1=>by
  rw[kV,q,af h1,PV] at hop;omega
 have U:σ.2=0:=cq λU=>by
  rw[dr,af U] at q;rw[<-q] at O;cases O
 obtain⟨g,rfl⟩:=hf U;have hlg:=hlen U;have hnm:kV σ.1 σ.2=o.t:=by rw[kV,q,ag O]
 rw[hnm] at hop;have e3:jS (dr σ.1 σ.2)=op:=by rw[q,jS,ag O];exact hop
 have ex1e:zg σ=σ:=by rw[zg,e3,af (by omega)]
 have ex2e:wC σ=σ.name.exp [40]:=by rw[wC,ex1e,(Ke (by rw[q];exact O)).1]
 have eF:j3 (kE l (g+1)) σ=Jx l (kE l g) op (j3 (kE l g) (wC σ)).1 (j3 (kE l g) (wC σ)).2:=by rw[j3,af (λh=>h U),kE,e3,af (by omega)]
 have hlt2:(wC σ).2=0->(wC σ).1.length<g:=λh=>by
  have:=LP (σ:=σ) (by rw[e3];omega) h;omega
 have hle2:=Hl σ;have hm2:∀y∈(wC σ).1,y∈σ.1:=λy A=>by
  rw[ex2e] at A;exact Kb y (zP y A)
 clear hf;let x0:Xv:=.mk op z6 0 none 0 [];let F:Xv->bP:=λx=>star (Sep (ZX x o P r2 C)) B;have frF:∀{G:ah} {σ':Sc} {x:Xv},yA w0 G p σ' (F x)->St w0 G (Sep (ZX x o P r2 C)):=λh=>pI.frame h |>.first;have h12:yA w0 w12 p σ.name (F x0):=by
  obtain⟨D,t,d⟩:=pI.out h12;exact d (m':=ZX x0 o P r2 C) ((St.oM (l:=[_,_,_,_,_,_]) (t.gB (e:=73) (sz:=9) (f:=Xv.cells)) (Q:=y9 []) (λw=>by simp[y9])).aM [2,1,0,3,4,5,6])
 have app:∀{G:ah} {σ':Sc} {x y:Xv} {R:ah->Prop},x.args.length<=5000->yA w0 G p σ' (star (held y.In) (F x)) ->
   (∀d n m,yA w0 m p σ' (F (.mk x.op x.u x.v d n (x.args++[y])))->R m) ->
   G.cell? ⟨C,8,none⟩=some (.slice x.a x.args.length x.c)/\gK G (.cells (iv y.op::(y.u.on [iv y.v,.slice y.a y.args.length y.c]):List Value).toArray 73) λr5 I=>I.cell? ⟨C,8,none⟩=some (.slice x.a x.args.length x.c) /\
    kg prog (Builtin.append_ #[42,42] 42 #[.slice x.a x.args.length x.c,.slice (qs r5) 1 1]) I λk D=>∃(d:OA) (i n:Nat),k=.slice d i n/\kB D ⟨C,8,none⟩ (.slice d i n) R:=by
  intro G σ' x y R M K k;obtain⟨B2,t,bk⟩:=pI.out K.push;refine⟨t.aj 1 rfl 8,t.aY y.cells.toArray λr5 I t17=>⟨t17.aj 2 rfl 8,?_⟩⟩;have J:iA 9 Xv.cells I (qs r5) [y]:=λi z E=>by
   obtain⟨rfl,rfl⟩:i=0/\z=y:=by
    cases i with
    |zero=>simp at E;exact⟨rfl,E.symm⟩
    |succ i=>simp at E
   exact⟨_,_,rfl,by rw[gz,wq];exact t17.cellsIn 0 rfl,rfl,rfl⟩
  refine dW QB Xv.len Xv.one (t17.out 3 rfl) (a2:=qs r5) (c2:=1) (l2:=[y]) J (by simp;omega) (by simp;omega) λd n D t18=>?_;have t19:=t18.back (show 3<9 by decide);refine t19.cL 2 rfl (j:=8) (show 8<9 by decide) rfl λm t20=>k d n m ?_;have t21:=(t20.aM [1,4,2,3,5,6,7,8]).kr (cV _) (cV _) λw h1 L=>(show y9 (x.args++[y]) w from λz E=>(aB.1 E).elim (L z) λe=>by rw[aI.1 e];exact h1);exact bk (m':=ZX (.mk x.op x.u x.v d n (x.args++[y])) o P r2 C) (t21.aM [1,2,0,3,4,5,6])
 refine bF (tr h12 [40]) λw13 Y=>?_;have Y:yA w0 w13 p (wC σ) (F x0):=by rw[ex2e];exact Y
 have h4000:(wC σ).1.length<=4000:=by obtain⟨_,_,_,L,_⟩:=Y;exact L
 refine⟨rfl,bg (H g rfl (F x0) (wC σ) w13 (hk.sub hm2) hlt2 Y) ?_⟩;rintro v w14 ⟨y,d,rfl,h14,m1,l1,rl1,ey⟩;generalize j3 (kE l g) (wC σ)=i at eF ey rl1;obtain⟨B7,t14,back7⟩:=pI.out h14.push;refine⟨_,y.u,_,_,_,_,rfl,t14.aY y.cells.toArray λr5 w15 t15=>t15.cL 2 rfl (j:=8) (show 8<9 by decide) rfl λw16 t16=>?_⟩;have Z:yA w0 w16 p d (F (.mk op z6 0 (qs r5) 1 [y])):=by
  have t17:St w0 w16 (star (Cd (qs r5) 1 [y]) _):=St.weak t16 (dU.left (by
   have:=ic (r:=r5) (cs:=y.cells.toArray) (T:=73) (n:=1) (sz:=9) rfl (by decide);have e:y.cells.toArray.toList=[y].flatMap Xv.cells:=by simp
   rw[e] at this;exact this))
  have t18:St w0 w16 (Sep [Cd (qs r5) 1 [y],held y.In,ay C (Xv.mk op z6 0 (qs r5) 1 [y]).cells.toArray 73,Cd none 0 [],held (y9 []),ay r2 o.cells.toArray 323,ay P gj.cells.toArray 73,emp,B7]):=t17;have t19:=(t18.aM [1,0,2,5,6,7,8]).we ((cV _).mono λw A=>(show y9 [y] w from λz E=>by rw[aI.1 E];exact A));exact back7 (m':=ZX (.mk op z6 0 (qs r5) 1 [y]) o P r2 C) (t19.aM [2,1,0,3,4,5,6])
 generalize hR:j3 (kE l (g+1)) σ=R at *;refine⟨λI=>∃(x:Xv) (J:Sc),yA w0 I p J (F x)/\(∀y∈J.1,y∈σ.1)/\J.1.length<=σ.1.length/\Rl (J.exp [41]) R.2/\((J.exp [41]).2=0->x.er=R.1),?_,op,(frF Z).aj 0 rfl 0,?_⟩
 .rintro I ⟨x,J,K,N,l2,M,ex⟩-;refine bF (tr K [41]) λD E=>?_;have E:yA w0 D p (J.exp [41]) (F x):=E;obtain⟨B2,t,bk⟩:=pI.out E;refine⟨rfl,_,x.u,_,_,_,_,t.cellsIn 0 rfl,t.aR 4 rfl x.cells rfl (Xv.one _) λm t22=>⟨_,x.u,_,_,_,_,t22.cellsIn 4 rfl,x,J.exp [41],rfl,?_,λy A=>N y (zP y A),bp (wS _ _) l2,M,ex⟩⟩;have t23:=(t22.aM [1,2,0,3,4,5,6]).kr (dS Xv.len) (cV _) λw h1 L=>(Xv.In.mk h1 L:x.In w);exact(bk (m':=[held x.In,_,_,_,_]) t23).yZ Jr
 have okz:∀{J:Sc},(J.exp [41]).2=0->J.2=0:=λ{J} h=>cq λh'=>by rw[nR h'] at h;exact h' h
 have m1':∀y∈d.1,y∈σ.1:=λy A=>hm2 y (m1 y A);refine⟨λb w20=>b=decide (op=2\/op=3)/\w20=w16,?_,?_⟩
 rotate_left
 .refine cBq (λg2=>⟨by rw[dT (Or.inl g2)];simpa using g2,rfl⟩) λg2=>⟨?_,rfl⟩
  by_cases s:op=3
  .rw[dT (Or.inr s)];simpa using s
  rw[dF (by rintro(h|h);exact g2 h;exact s h)];simpa using s
 rintro w20 b ⟨rfl,rfl⟩-
 by_cases K:op=2\/op=3
 .have W:R=(.mk op z6 0 none 0 (ng (kE l g) i.2.1.length [i.1] i.2).1,(ng (kE l g) i.2.1.length [i.1] i.2).2.exp [41]):=by rw[eF,Jx,ag K]
  generalize hT:ng (kE l g) i.2.1.length [i.1] i.2=T at W;refine di K ⟨λw21 m=>∃(n:Nat) (s D:List Xv) (a':OA) (c':Nat) (σ' E:Sc),m=σ'.1.length/\(σ'.2=0->σ'.1.length<=n)/\s.length+σ'.1.length<=4001/\σ'.1.length<=(wC σ).1.length/\(∀y∈σ'.1,y∈σ.1)/\ng (kE l g) n D E=T/\Rl σ' E/\(σ'.2=0->s.map Xv.er=D)/\yA w0 w21 p σ' (F (.mk op z6 0 a' c' s)),⟨_,i.2.1.length,[y],[i.1],qs r5,1,d,i.2,rfl,λe=>?_,by simp;omega,l1,m1',hT,rl1,λe=>by rw[bH,ey e],Z⟩,?_⟩
  .rcases rl1.cases with h|⟨_,h,_⟩
   .rw[h];exact aD _
   exact absurd e h
  rintro w21 m ⟨n,s,D,a',c',σ',E,rfl,hn,hac,hl',hm',N,rl',ea,h21⟩-;refine bF (ED h21 [44]) λw22 M=>?_;have M:yA w0 w22 p (σ'.acc [44]) (F (.mk op z6 0 a' c' s)):=M;refine⟨_,rfl,?_⟩
  cases hb':kA [44] σ'.1 σ'.2 with
  |true=>
   have he':σ'.2=0:=cq λh=>by rw[uG h] at hb';cases hb'
   obtain rfl:σ'=E:=by
    rcases rl'.cases with h|⟨_,h,_⟩
    .exact h
    exact absurd he' h
   have hlen':=CM hb';have hn':=hn he';obtain⟨n,rfl⟩:∃k,n=k+1:=⟨n-1,by omega⟩;rw[ng,ag hb'] at N;have h23:=pI.quiet M (aZ.drew w22 []);have hmA:∀y∈(σ'.acc [44]).1,y∈σ.1:=λy A=>hm' y (zP y A);refine cT rfl ⟨_,_,_,(frF h23).aj 0 rfl 8,bg (H g rfl (F (.mk op z6 0 a' c' s)) (σ'.acc [44]) _ (hk.sub hmA) (λ_=>by omega) h23) ?_⟩;rintro v w23 ⟨z,S,rfl,h24,m3,l3,rl3,ez⟩;refine⟨_,z.u,_,_,_,_,rfl,app (x:=.mk op z6 0 a' c' s) (by show s.length<=5000;omega) h24 λa9 c9 w29 h29=>⟨S.1.length,by omega,n,s++[z],_,a9,c9,S,_,rfl,λ_=>by omega,?_,by omega,λy A=>hmA y (m3 y A),N,rl3,λe=>?_,h29⟩⟩
   .rw[aA,aG];omega
   rw[aS,bH,ez e,ea he']
  |false=>
   rw[Dp hb'] at M;have k:kA [44] E.1 E.2=false:=by rw[<-(rl'.acc [44]).2];exact hb'
   have z:ng (kE l g) n D E=(D,E):=by
    cases n with
    |zero=>rfl
    |succ n=>rw[ng,af (by rw[k];decide)]
   rw[z] at N;refine cF rfl ⟨_,σ',M,hm',by omega,?_,λe=>?_⟩
   .rw[W,<-N];exact rl'.exp _
   rw[W,<-N,<-ea (okz e),Xv.pN];rfl
 refine dz K ?_;have s:Rl (d.exp [44]) (i.2.exp [44]):=rl1.exp _;have M:∀y∈(d.exp [44]).1,y∈σ.1:=λy A=>m1' y (zP y A);have l4:=wS [44] d
 by_cases X:op=4
 .have W:R=(.mk op (dI l (i.2.exp [44])).1.1 (dI l (i.2.exp [44])).1.2 none 0 [i.1],(dI l (i.2.exp [44])).2.exp [41]):=by rw[eF,Jx,af K,ag X]
  refine gM X (bF (tr Z [44]) λN k=>?_);have k:yA w0 N p (d.exp [44]) (F (.mk op z6 0 (qs r5) 1 [y])):=k;refine⟨rfl,bg (Ca k hr ho (hk.sub M)) ?_⟩;rintro v w28 ⟨u,m,S,rfl,E,k1,k2,k2',k3,k4⟩;obtain⟨B2,t,bk⟩:=pI.out E;have z:=s.ZU l;refine⟨u,_,rfl,t.aY z6.vs.toArray λr7 w29 t29=>t29.aR 0 rfl u.vs rfl (I6.one _) λw30 t30=>⟨u,t30.cellsIn 0 rfl,t30.mA 1 1 rfl (Xv.mk op u 0 (qs r5) 1 [y]).cells.toArray (show 7<=9 by decide) (I6.one _) rfl λw31 t31=>t31.cL 1 rfl (j:=7) (show 7<9 by decide) rfl λw32 t32=>⟨.mk op u m (qs r5) 1 [y],S,bk (m':=ZX (.mk op u m (qs r5) 1 [y]) o P r2 C) (St.second t32),λy A=>M y (k2 y A),by omega,?_,λe=>?_⟩⟩⟩
  .rw[W];exact(k3.trans z.1).exp _
  have n:=okz e;have T:=(k4 n).trans z.2;have D:d.2=0:=cq λh=>by
   have L:(d.exp [44]).2≠0:=by rw[nR h];exact h
   have h3:S.2=(d.exp [44]).2:=by rw[k3.1,vK L]
   rw[h3] at n;exact L n
  rw[W,Xv.pN,<-ey D,<-T];rfl
 have g5:op=5:=by omega
 have W:R=(.mk op z6 (nP 1000000 (i.2.exp [44]).1 (i.2.exp [44]).2) none 0 [i.1],((i.2.exp [44]).rz 1000000).exp [41]):=by rw[eF,Jx,af K,af X,ag g5]
 refine iI X (bF (tr Z [44]) λu k=>?_);have k:yA w0 u p (d.exp [44]) (F (.mk op z6 0 (qs r5) 1 [y])):=k;refine⟨rfl,bF (EE k 1000000) λE m=>?_⟩;have m:yA w0 E p ((d.exp [44]).rz 1000000) (F (.mk op z6 0 (qs r5) 1 [y])):=m;obtain⟨B2,t,bk⟩:=pI.out m;have z:=s.rz 1000000;have S:((d.exp [44]).rz 1000000).1.length<=(d.exp [44]).1.length:=A5 _ _ _;refine⟨_,rfl,t.cL 0 rfl (j:=7) (show 7<9 by decide) rfl λN t35=>⟨.mk op z6 (nP 1000000 (d.exp [44]).1 (d.exp [44]).2) (qs r5) 1 [y],(d.exp [44]).rz 1000000,bk (m':=ZX (.mk op z6 (nP 1000000 (d.exp [44]).1 (d.exp [44]).2) (qs r5) 1 [y]) o P r2 C) t35,λy A=>M y (Nd y A),by omega,?_,λe=>?_⟩⟩
 .rw[W];exact z.1.exp _
 have n:=okz e;have D:d.2=0:=cq λh=>by
  have L:(d.exp [44]).2≠0:=by rw[nR h];exact h
  rw[(qU L).1] at n;exact L n
 rw[W,Xv.pN,<-ey D,<-z.2];rfl
def W2(e:∀{h},aZ w0 h []->kf h a l)(d:iu l):∀f,Rf w0 p a c l f:=by
 intro f
 induction f with
 |zero=>exact Ex e d λg b=>by omega
 |succ f i=>exact Ex e d λg b=>by cases b;exact i
end
mutual
def pW:Xv->List Xv
 |.mk op u v a c args=>.mk op u v a c args::WW args
def WW:List Xv->List Xv
 |[]=>[]
 |x::l=>pW x++WW l
end
theorem Oa:∀l:List Xv,WW l=l.flatMap pW
 |[]=>rfl
 |x::l=>by rw[WW,Oa l];rfl
def vJ(x:Xv):pW x=x::x.args.flatMap pW:=by cases x;rw[pW,Oa];rfl
def Ob:∀x,(pW x).length=fE x:=Xv.ind λx a=>by
 rw[vJ,oS,bN,List.length_flatMap,jM]
 congr 2
 exact bq a
def ZT:∀(x:Xv) (w:ah),x.In w->∀y∈pW x,y.In w:=Xv.ind λx d w b y a=>by
 rw[vJ] at a;rcases aP.1 a with rfl|a
 .exact b
 obtain⟨z,c,a⟩:=dx.1 a;exact d z c w (b.sub z c) y a
def yb{a b:Type}(f:a->List b)(l:List a)(k:Nat):((l.take k).flatMap f).length<=(l.flatMap f).length:=by
 conv=>rhs;rw[<-iB k l,fH,aA]
 omega
section
variable {S:Type}
def sQ(step:S->Xv->S×Bool):List Xv->S->S×Bool
 |[],s=>(s,true)
 |y::l,s=>if (step s y).2 then sQ step l (step s y).1 else ((step s y).1,false)
theorem Iq(step:S->Xv->S×Bool):∀(l m:List Xv) (s:S),sQ step (l++m) s=if (sQ step l s).2 then sQ step m (sQ step l s).1 else sQ step l s
 |[],m,s=>by rw[sQ,ag rfl];rfl
 |y::l,m,s=>by
  rw[List.cons_append,sQ,sQ]
  split
  .exact Iq step l m _
  rfl
def AY(step:S->Xv->S×Bool):∀(x:Xv) (s:S),iP step x s=sQ step (pW x) s:=Xv.ind λx f s=>by
 rw[tH,vJ,sQ]
 split
 .have H:∀(l:List Xv) (r:S×Bool),(∀y∈l,∀s,iP step y s=sQ step (pW y) s)->oT step l r=if r.2 then sQ step (l.flatMap pW) r.1 else r:=λl=>by
   induction l with
   |nil=>
    intro r _;show r=_
    split
    .rename_i h;rw[List.flatMap_nil,sQ,<-h]
    rfl
   |cons y l b=>
    intro r c;have e:=b (if r.2 then iP step y r.1 else r) λz d=>c z (by simp[d]);unfold oT at e⊢;rw[bD,e,bQ]
    by_cases a:r.2=true
    .rw[ag a,ag a,c y (by simp),Iq]
    rw[af a,af a,af a]
  rw[H _ _ f,ag rfl]
 rfl
end
theorem EN:∀(l:List Xv) (s:Unit),(sQ y4 l s).2=l.all λy=>decide (y.args.length<=8)
 |[],_=>rfl
 |y::l,s=>by
  rw[sQ,fz];show(if decide (y.args.length<=8)=true then _ else _:Unit×Bool).2=_
  cases h:decide (y.args.length<=8) with
  |true=>rw[ag rfl,EN l];rfl
  |false=>rw[af (by decide)];rfl
abbrev U7 (y:Xv):Prop:=kq y=true/\kU y=true
theorem MC:∀(l:List Xv),(∀y∈l,U7 y)->sQ kM l 0=(0,true)
 |[],_=>rfl
 |y::l,h=>by
  obtain⟨a,b⟩:=h y (by simp);have e:kM 0 y=(0,true):=by unfold kM tR;rw[a,b];rfl
  rw[sQ,e,ag rfl];exact MC l λz c=>h z (by simp[c])
def Ir{l:List Xv}{k:Nat}{y:Xv}{e:Int}(h:∀z∈l.take k,U7 z)(c:l[k]?=some y)(a:tR 0 y=e)(g:e≠0):(sQ kM l 0).1=e:=by
 have b:=(ai.1 c).1;have d:l=l.take k++y::l.drop (k+1):=by
  conv=>lhs;rw[<-iB k l,bO b]
  congr 2
  exact dP ((gE b).symm.trans c)
 rw[d,Iq,MC _ h,ag rfl,sQ];have f:(kM 0 y).2=false:=by unfold kM;rw[a];exact aC.2 g
 rw[f,af (by decide)];exact a
def Mw(w:ah)(u:I6)(i:I6.Le u 1000000):CP 347 #[.agg u.vs.toArray] w (λr j=>r=iv (tot u)/\aZ w j []):=by
 refine aaX.2.2.1 ?_;let c:I6:=⟨1,1,1,1,1,1⟩;have h:∀k,k<6->c.at' k=1:=λk d=>by
  match k,d with
  |0,_|1,_|2,_|3,_|4,_|5,_=>rfl
 refine bE u.vs.toArray λv l f=>⟨λp n g m=>∃k:Nat,n=k/\k<=6/\m=6-k/\p=Fi c u k/\0<=p/\p<=(k:Int)*1000000/\g=l,⟨6,0,rfl,by omega,by omega,rfl,by simp,by simp,rfl⟩,?_⟩;rintro g m p n ⟨k,rfl,d,t,e,o,q,rfl⟩-
 by_cases b:(k:Int)<6
 .have a:k<6:=by omega
  have s:=i k a;refine di b ⟨by omega,by omega,u.at' k,by rw[iC,br f 0 rfl a],6-(k+1),by omega,k+1,inc (by decide) a,by omega,rfl,?_,?_,?_,rfl⟩
  .rw[gC (by omega),uO,h k a,e];omega
  .rw[gC (by omega)];omega
  rw[gC (by omega)];omega
 obtain rfl:k=6:=by omega
 refine cF (by simp) ⟨?_,f.aK⟩;rw[e,zZ];simp[cost,tot,c]
def Mo:∀(x:Xv),fE x<=100000->∀w,x.In w->CP 293 #[.agg x.cells.toArray] w (λr v=>r=iv (qc x)/\aZ w v []):=Xv.ind λx s C w j=>by
 refine @Kq _ x.u _ _ _ _ _ _ ?_;have B:=tg x;refine bE x.cells.toArray λD z t=>⟨λn i g m=>∃k:Nat,i=k/\k<=x.args.length/\m=x.args.length-k/\n=(((x.args.take k).map qc).foldl Nat.max 0:Nat)/\aZ z g [],⟨x.args.length,0,rfl,by omega,by omega,rfl,aZ.refl _ _⟩,?_⟩;rintro g m n i ⟨k,rfl,A,c,rfl,h⟩-;have b:=t.quiet h;refine⟨_,_,_,b.aj 0 rfl 8,?_⟩
 by_cases a:(k:Int)<(x.args.length:Int)
 .obtain⟨y,f⟩:=dX x.args k (by omega);have c:=ak f;obtain⟨q,o,e⟩:=(j.aK b.aK).fl.at f;have p:=tD c;refine di a ⟨_,_,_,b.aj 0 rfl 8,av o ⟨by omega,by omega,_,y.u,_,_,_,_,e,bF (s y c (by omega) g ((j.aK b.aK).sub y c)) λE l=>⟨_,rfl,x.args.length-(k+1),by omega,k+1,gC (by omega),by omega,rfl,?_,h.trans l (by simp)⟩⟩⟩;rw[bJ f,aS,cG];show _=((Nat.max _ (qc y):Nat):Int);generalize((x.args.take k).map qc).foldl Nat.max 0=d;have:Nat.max d (qc y)=if qc y>d then qc y else d:=by
   show max _ _=_;rw[Nat.max_def]
   split<;>split<;>omega
  rw[this]
  split<;>split<;>omega
 obtain rfl:k=x.args.length:=by omega
 have hd:=LI x;rw[vA] at hd;rw[aH];refine dz a ⟨?_,b.aK⟩;rw[vA];generalize(x.args.map qc).foldl Nat.max 0=d at hd⊢;rw[gC (by omega),iR];rfl
def TV:∀(x:Xv),fE x<=100000->∀w,x.In w->CP 294 #[.agg x.cells.toArray] w (λr M=>∃a c,r=.slice a (pW x).length c/\St w M (Sep [Cd a c (pW x)])):=Xv.ind λx J V w z=>by
 refine @Ek _ x.u _ _ _ _ _ _ ?_;have S:=tg x;have l:=Ob x;rw[vJ,bN] at l;refine bE x.cells.toArray λp W C=>⟨_,x.u,_,_,_,_,C.cellsIn 0 rfl,C.aY x.cells.toArray λB N s=>?_⟩;have s:St w N (Sep [Cd (qs B) 1 [x],ay p x.cells.toArray 73,emp]):=by
  have t17:=St.weak s (dU.left (by
   have:=ic (r:=B) (cs:=x.cells.toArray) (T:=73) (n:=1) (sz:=9) rfl (by decide);have e:x.cells.toArray.toList=[x].flatMap Xv.cells:=by simp
   rw[e] at this;exact this))
  exact t17
 refine⟨λf A g i t m=>∃k:Nat,i=k/\k<=x.args.length/\m=x.args.length-k/\A=(x::(x.args.take k).flatMap pW).length/\St w t (Sep [Cd f g (x::(x.args.take k).flatMap pW),ay p x.cells.toArray 73,emp]),⟨x.args.length,0,rfl,by omega,by omega,rfl,s⟩,?_⟩;rintro t m f A g i ⟨k,rfl,R,U,rfl,d⟩-;refine⟨_,_,_,d.aj 1 rfl 8,?_⟩
 by_cases e:(k:Int)<(x.args.length:Int)
 .obtain⟨y,o⟩:=dX x.args k (by omega);have b:=ak o;obtain⟨q,H,j⟩:=(z.aK d.aK).fl.at o;have I:=tD b;refine di e ⟨_,_,_,d.aj 1 rfl 8,av H ⟨by omega,by omega,_,y.u,_,_,_,_,j,bg (J y b (by omega) t ((z.aK d.aK).sub y b)) ?_⟩⟩;rintro v O ⟨E,F,rfl,K⟩;have D:St w O (Sep [Cd E F (pW y),Cd f g (x::(x.args.take k).flatMap pW),ay p x.cells.toArray 73,emp]):=d.and K.single;have h:(x.args.take (k+1)).flatMap pW=(x.args.take k).flatMap pW++pW y:=by rw[bJ o,fH];simp
  have G:=yb pW x.args (k+1);rw[h,aA] at G;refine⟨_,_,_,rfl,dW QB Xv.len Xv.one (D.out 1 rfl) (St.rd Xv.len (D.out 0 rfl)) (by rw[bN];omega) (by rw[bN];omega) λP Q X L=>mS (by omega) ⟨by rw[h];rfl,?_⟩⟩;rw[h];exact(L.back (i:=1) (by show 1<4;decide)).aM [1,2,3]
 obtain rfl:k=x.args.length:=by omega
 rw[aH,<-vJ] at d⊢;exact dz e ⟨f,g,rfl,d.aM [0]⟩
def abh(n m:Nat):(((n:Nat):Int)==(m:Int))=(n==m):=by
 by_cases h:n=m
 .subst h;simp
 rw[aC.2 h,aC.2 (show(n:Int)≠m by omega)]
def KC(w:ah)(x:Xv):CP 295 #[.agg x.cells.toArray] w (λr k=>r=.bool (kq x)/\aZ w k []):=by
 refine @H9 _ x.u _ _ _ _ _ _ (bE x.cells.toArray λm o i=>⟨_,_,_,i.aj 0 rfl 8,i.aY z6.vs.toArray λn l a=>⟨_,a.aj 1 rfl 0,?_⟩⟩)
 by_cases e:x.op=1
 .exact gM e ⟨by rw[kq,ag e,<-abh];rfl,a.aK⟩
 refine iI e ⟨λb j=>b=decide (x.op=2\/x.op=3)/\j=l,?_,?_⟩
 .rintro j _ ⟨rfl,rfl⟩-
  by_cases f:x.op=2\/x.op=3
  .have c:kq x=(decide (1<=x.args.length)&&(decide (x.args.length<=8)&&(decide (x.u=z6)&&x.v==0))):=by rw[kq,af e,ag f]
   refine di f ?_
   by_cases g1:1<=x.args.length
   .rw[dT g1,aO] at c;refine di (by omega) ?_
    by_cases g2:x.args.length<=8
    .rw[dT g2,aO] at c;refine di (by omega) ⟨x.u,a.bA 1 1 rfl rfl,z6,a.cellsIn 0 rfl,?_⟩;rw[I6.beq_eq]
     by_cases d:x.u=z6
     .rw[dT d,aO] at c;exact di d ⟨_,a.aj 1 rfl 7,by rw[c],a.aK⟩
     rw[dF d] at c;exact dz d ⟨by rw[c];rfl,a.aK⟩
    rw[dF g2] at c;exact dz (by omega) ⟨by rw[c];rfl,a.aK⟩
   rw[dF g1] at c;exact dz (by omega) ⟨by rw[c];rfl,a.aK⟩
  refine dz f (cBq (λg=>⟨by rw[kq,af e,af f,ag g,<-abh];rfl,a.aK⟩) λg=>?_)
  by_cases h:x.op=5
  .have c:kq x=(x.args.length==1&&decide (x.u=z6)):=by rw[kq,af e,af f,af g,ag h]
   refine gM h ?_
   by_cases g1:x.args.length=1
   .refine cT (bL.2 (by omega)) ⟨x.u,a.bA 1 1 rfl rfl,z6,a.cellsIn 0 rfl,?_,a.aK⟩;rw[c,g1,I6.beq_eq];rfl
   refine cF (aC.2 (by omega)) ⟨?_,a.aK⟩;rw[c,aC.2 g1];rfl
  exact iI h ⟨by rw[kq,af e,af f,af g,af h],a.aK⟩
 refine cBq (λg2=>⟨by rw[dT (Or.inl g2)];simpa using g2,rfl⟩) λg2=>⟨?_,rfl⟩
 by_cases d:x.op=3
 .rw[dT (Or.inr d)];simpa using d
 rw[dF (by rintro(h|h);exact g2 h;exact d h)];simpa using d
def KJ(w:ah)(x:Xv):CP 296 #[.agg x.cells.toArray] w (λr k=>r=.bool (kU x)/\aZ w k []):=by
 refine @Ic _ x.u _ _ _ _ _ _ (bE x.cells.toArray λn m a=>⟨λb g=>b=decide (x.op=2\/x.op=3)/\g=m,?_,_,a.aj 0 rfl 0,?_⟩)
 .rintro g _ ⟨rfl,rfl⟩-
  by_cases c:x.op=2\/x.op=3
  .exact di c ⟨by rw[kU,ag c],a.aK⟩
  refine dz c ⟨λb i=>b=decide (x.v<1\/x.v>1000000)/\i=g,?_,_,a.aj 0 rfl 7,?_⟩
  .rintro i _ ⟨rfl,rfl⟩-;refine cBq (λd=>⟨by rw[kU,af c,ag d],a.aK⟩) λd=>⟨_,a.aj 0 rfl 0,?_⟩
   by_cases e:x.op=5
   .exact gM e ⟨by rw[kU,af c,af d,ag e],a.aK⟩
   have h:kU x=(x.u.l.all lX&&decide (tot x.u>0)):=by rw[kU,af c,af d,af e]
   refine iI e ⟨x.u,a.bA 0 1 rfl rfl,a.qu (mw _ x.u) λo f=>⟨_,rfl,?_⟩⟩
   cases hq:x.u.l.all lX with
   |false=>exact cF rfl ⟨by rw[h,hq];rfl,f.aK⟩
   |true=>
    refine cT rfl ⟨x.u,f.bA 0 1 rfl rfl,bF (Mw _ x.u (vY (C9 hq) (by omega))) λp j=>⟨_,rfl,?_,(f.quiet j).aK⟩⟩;rw[h,hq,aO]
    congr 1
  refine cBq (λg1=>⟨by rw[dT (Or.inl g1)],rfl⟩) λg1=>⟨_,a.aj 0 rfl 7,?_,rfl⟩
  by_cases g2:x.v>1000000
  .rw[dT g2,dT (Or.inr g2)]
  rw[dF g2,dF (by rintro(h|h);exact g1 h;exact g2 h)]
 refine cBq (λg2=>⟨by rw[dT (Or.inl g2)],rfl⟩) λg2=>⟨_,a.aj 0 rfl 0,?_,rfl⟩
 by_cases c:x.op=3
 .rw[dT (Or.inr c)];simpa using c
 rw[dF (by rintro(h|h);exact g2 h;exact c h)];simpa using c
def Es{w:ah}{x:Xv}(c:fE x<=100000)(E:x.In w):CP 210 #[.agg x.cells.toArray] w (λr A=>r=iv (j4 x)/\aZ w A []):=by
 refine @Kp _ x.u _ _ _ _ _ _ (bE x.cells.toArray λT U F=>⟨_,x.u,_,_,_,_,F.cellsIn 0 rfl,F.qu (Mo x c U (E.aK F.aK)) λV s=>⟨_,rfl,?_⟩⟩)
 by_cases hd:6<qc x
 .exact di (by omega) ⟨by rw[j4,ag hd],s.aK⟩
 have d:j4 x=if (sQ y4 (pW x) ()).2=false\/40<(pW x).length then 3 else (sQ kM (pW x) 0).1:=by rw[j4,af hd,AY,AY,Ob]
 refine dz (by omega) ⟨_,x.u,_,_,_,_,s.cellsIn 0 rfl,bg (TV x c V (E.aK s.aK)) ?_⟩;rintro v H ⟨K,N,rfl,S⟩;have t:St w H (Sep [Cd K N (pW x),ay T x.cells.toArray 73,emp]):=s.and S.single;have P:=λ(A:ah) (O:aZ w A [])=>ZT x A (E.aK O);rw[EN] at d;have g:iA 9 Xv.cells H K (pW x):=St.rd Xv.len (t.out 0 rfl);generalize X:pW x=L at *;refine⟨_,_,_,rfl,?_⟩
 by_cases j:40<L.length
 .exact di (by omega) ⟨by rw[d,ag (.inr j)],t.aK⟩
 refine dz (by omega) ⟨λi I m=>∃k:Nat,i=k/\k<=L.length/\m=L.length-k/\(L.take k).all (λy=>decide (y.args.length<=8))=true/\I=H,⟨L.length,0,rfl,by omega,by omega,rfl,rfl⟩,?_⟩;rintro I m i ⟨k,rfl,Q,R,B,rfl⟩-
 by_cases a:k<L.length
 .have b:=gE a;generalize L[k]'a=y at b;obtain⟨q,C,f⟩:=g.at b;refine di (by omega) (av C ⟨by omega,by omega,_,_,_,bX f 8 _ rfl,?_⟩)
  by_cases h:y.args.length<=8
  .refine dz (by omega) (mS (by omega) ⟨?_,rfl⟩);rw[bJ b,fq,B];simp[h]
  refine di (by omega) ⟨?_,t.aK⟩;rw[d,ag (.inl (fA.2 ⟨y,ak b,by simpa using h⟩))]
 obtain rfl:k=L.length:=by omega
 rw[aH] at B;rw[B,af (by rintro(h|h);cases h;exact j h)] at d;refine dz (by omega) ⟨λi J m=>∃k:Nat,i=k/\k<=L.length/\m=L.length-k/\(∀y∈L.take k,U7 y)/\aZ I J [],⟨L.length,0,rfl,by omega,by omega,by simp,aZ.refl _ _⟩,?_⟩;rintro J m i ⟨k,rfl,Q,R,n,o⟩-;have G:=t.quiet o
 by_cases a:k<L.length
 .have b:=gE a;generalize L[k]'a=y at b;obtain⟨q,C,f⟩:=(g.aK o).at b;refine di (by omega) (av C ⟨by omega,by omega,_,y.u,_,_,_,_,f,bF (KC J y) λW p=>⟨_,rfl,?_⟩⟩)
  cases hf:kq y with
  |false=>exact cT rfl ⟨by rw[d,Ir n b (e:=2) (by unfold tR;rw[hf];rfl) (by decide)],(G.quiet p).aK⟩
  |true=>
   obtain⟨Y,D,l⟩:=(g.aK (o.trans p (by simp))).at b;refine cF rfl (av D ⟨by omega,by omega,_,y.u,_,_,_,_,l,bF (KJ W y) λZ M=>⟨_,rfl,?_⟩⟩)
   cases hg:kU y with
   |false=>exact cT rfl ⟨by rw[d,Ir n b (e:=4) (by unfold tR;rw[hf,hg];rfl) (by decide)],((G.quiet p).quiet M).aK⟩
   |true=>
    refine cF rfl (mS (by omega) ⟨λz c=>?_,(o.trans p (by simp)).trans M (by simp)⟩);rw[bJ b] at c;rcases aB.1 c with c|c
    .exact n z c
    rw[aI.1 c];exact⟨hf,hg⟩
 obtain rfl:k=L.length:=by omega
 rw[aH] at n;exact dz (by omega) ⟨by rw[d,MC _ n],G.aK⟩
def Tv{l:List UInt8}{n:Nat}{c:UInt8}(h:(iE l n c).2=0):(iE l n c).1.k≠0:=by
 unfold iE at h⊢
 split
 .rename_i d;rw[ag d] at h
  split
  .rename_i a;rw[ag a] at h;cases h
  exact(by decide:(1:Int)≠0)
 rename_i d;rw[af d] at h
 split
 .rename_i a;rw[ag a] at h
  split
  .rename_i b;rw[ag b] at h;exact absurd h b
  exact(by decide:(2:Int)≠0)
 rename_i a;rw[af a] at h
 split
 .exact(by decide:(3:Int)≠0)
 rename_i b;rw[af b] at h;cases h
theorem IE(l:List UInt8):∀(f n:Nat) (a:List Tk),Kd a->Kd (vS l f n a).1
 |0,_,_,h=>h
 |f+1,n,a,h=>by
  rw[vS]
  cases hc:l[n]? with
  |none=>exact h
  |some c=>
   show Kd (if c=32 then vS l f (n+1) a else if (iE l n c).2≠0 then ([],(iE l n c).2) else vS l f (n+(iE l n c).1.t.length) (a++[(iE l n c).1])).1
   split
   .exact IE l f _ _ h
   split
   .exact λx b=>by simp at b
   rename_i d;refine IE l f _ _ λx b=>?_;rcases aB.1 b with b|b
   .exact h x b
   rw[aI.1 b];exact Tv (cq d)
def aaI(l:List UInt8):Kd (fS l).1:=by
 unfold fS;split
 .exact λx a=>by simp at a
 exact IE l _ _ _ λx a=>by simp at a
def Y2{a b:Sc}(h:Rl a b):vB a.1 a.2=vB b.1 b.2:=by
 rcases h.cases with rfl|⟨c,d,e⟩
 .rfl
 rw[vB,vB,af (λh=>d h.1),af (λh=>c h.1),e]
def Ms{w:ah}{a:OA}{c:Nat}{l:List Pr}(J:kf w a l)(I:iu l)(t:List UInt8):
  CP 147 #[.slice a l.length c,sv t] w (λr p=>∃x:Xv,x.er=(fV l t).1/\r=.tuple #[.agg x.cells.toArray,iv (fV l t).2]/\St w p (held x.In)):=by
 refine aaU.2.1 (bE gj.cells.toArray λj w1 M=>bg (xx (J.aK M.aK)) ?_);rintro v w2 ⟨⟨rfl,g⟩,q⟩;have g:=g.2 I;rw[g];have X:=M.quiet q;have f:∀{k:Int} {p:ah} {m:List bP} {i:Nat} {cs:Array Value},St w p (Sep m)->m[i]?=some (ay j cs 73)->cs.size=9->fV l t=(gj,k) ->
   yY ⟨j,0,none⟩ 0 gj.cells p λb=>∃(o:Int) (y:I6) (r:Int) (d:OA) (n q:Nat),aU b ⟨j,0,none⟩ 0 (iv o::y.on [iv r,.slice d n q]) /\
    ∃x:Xv,x.er=(fV l t).1/\Value.tuple #[.agg (iv o::y.on [iv r,.slice d n q]:List Value).toArray,iv k]=.tuple #[.agg x.cells.toArray,iv (fV l t).2]/\St w b (held x.In):=λ{k p m i cs} s e z h=>
  s.aR i e gj.cells (by rw[z];rfl) (Xv.one _) λb d=>⟨_,z6,_,_,_,_,d.cellsIn (cs:=gj.cells.toArray) (T:=73) i (cN (kL e)),gj,by rw[h,E9],by rw[h];rfl,((St.start' d.aK).one.oM wk).first⟩
 refine⟨_,rfl,cF rfl (bg (KL t) ?_)⟩;rintro v w4 ⟨z,A,rfl,U⟩;have F:St w w4 (Sep [iQ 323 4 Tk.cells z A (fS t).1,ay j gj.cells.toArray 73,emp]):=X.and U;have K:=OP t;have D:=aaI t;refine⟨_,_,_,_,rfl,?_⟩
 by_cases s:(fS t).2=0
 rotate_left
 .exact gM s (f F (i:=1) rfl rfl (by rw[fV,ag s]))
 have n:=(St.nj F).1;refine iI s (F.aY #[.slice z (fS t).1.length A,iv 0] λV N Y=>?_);have P:yA w N V ((fS t).1,0) (Sep [ay j gj.cells.toArray 73,emp]):=
  ⟨z,A,n,K,((((Y.aM [1,0,2,3]).we (dS Tk.len)).aM [1,0,2,3]).split [_,_] |>.eqv (fF.right (fF.unit _)) |> St.cat)⟩
 refine bg (W2 (c:=c) (λS=>J.aK S) I ((fS t).1.length+1) _ ((fS t).1,0) N D (λ_=>Nat.lt_succ_self _) P) ?_;have o:=Hp l ((fS t).1.length+1) ((fS t).1,0);have H:j3 (kE l ((fS t).1.length+1)) ((fS t).1,0)=kE l ((fS t).1.length+1) ((fS t).1,0):=by rw[j3,af (λh=>h rfl)]
 rw[H];have b:fV l t=if vB (kE l ((fS t).1.length+1) ((fS t).1,0)).2.1 (kE l ((fS t).1.length+1) ((fS t).1,0)).2.2≠0 then (gj,vB (kE l ((fS t).1.length+1) ((fS t).1,0)).2.1 (kE l ((fS t).1.length+1) ((fS t).1,0)).2.2)
   else if j4 (kE l ((fS t).1.length+1) ((fS t).1,0)).1≠0 then (gj,j4 (kE l ((fS t).1.length+1) ((fS t).1,0)).1)
   else ((kE l ((fS t).1.length+1) ((fS t).1,0)).1,0):=by rw[fV,af (by simpa using s)]
 clear H;generalize kE l ((fS t).1.length+1) ((fS t).1,0)=R at o b⊢;rintro v w7 ⟨x,σ',rfl,Q,_,_,L,ex⟩;have O:=Y2 L;refine⟨_,x.u,_,_,_,_,rfl,bE gj.cells.toArray λW w8 Z=>Z.aR 0 rfl x.cells rfl (Xv.one _) λw9 s9=>?_⟩;have G:=pI.add Q s9;have r:St w w9 (Sep [ay W x.cells.toArray 73,emp,held x.In,ay j gj.cells.toArray 73,emp]):=by
  have t1:=pI.frame G;exact t1.eqv (fF.cat (m:=held x.In::_) [_,_])
 refine kR (W5 G) ⟨_,rfl,?_⟩;rw[O]
 by_cases d:vB R.2.1 R.2.2=0
 rotate_left
 .rw[ag d] at b;exact gM d (f r (i:=3) rfl rfl b)
 rw[af (by simpa using d)] at b;have B:R.2.2=0:=by
  unfold vB at d
  split at d
  .cases d
  exact d
 have ex:=ex (by rw[L.1];exact B);have E:fE x<=100000:=by
  rw[<-Iv x,ex];have:(fS t).1.length<=4000:=K;simp only at o;omega
 have C:=r.eu 2 rfl;refine iI d ⟨_,x.u,_,_,_,_,r.cellsIn 0 rfl,r.qu (Es E C) λw14 t14=>?_⟩;have e:j4 x=j4 R.1:=by rw[<-ex,vz]
 refine⟨_,rfl,?_⟩
 by_cases y:j4 x=0
 .rw[af (by rw[<-e];simpa using y)] at b;exact iI y ⟨_,x.u,_,_,_,_,t14.cellsIn 0 rfl,t14.aR 3 rfl x.cells rfl (Xv.one _) λw16 t16=>⟨_,x.u,_,_,_,_,t16.cellsIn 3 rfl,x,by rw[b,ex],by rw[b];rfl,(t16.out 2 rfl).first⟩⟩
 rw[ag (by rw[<-e];exact y),<-e] at b;exact gM y (f t14 (i:=3) rfl rfl b)

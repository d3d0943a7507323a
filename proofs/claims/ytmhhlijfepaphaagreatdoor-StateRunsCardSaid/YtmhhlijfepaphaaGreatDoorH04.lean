import Derived.Test.YtmhhlijfepaphaaGreatDoorH03
set_option linter.all false
set_option maxRecDepth 100000
set_option maxHeartbeats 4000000
namespace Go.Proofs.YtmhhlijfepaphaaGreatDoor
open Go Go.Vc Go.Vt _root_.Go.Proofs.Tryz
def DV:=many xP [en func108 [] [(26,[(6,.s (.int .i64))])],en func103 [] [(58,[(5,.s (.int .i64)),(9,.s (.int .i64))])],en func252 [] [],en func170 [] [],en func318 [] [(26,[(6,.s (.int .i64))])],en func314 [] [(58,[(3,.s (.int .i64)),(7,.s (.int .i64))])],en func248 [] [(26,[(6,.s (.int .i64))])],en func250 [] [],en func251 [] [(6,[(22,.s .bool)]),(122,[(6,.s (.int .i64)),(24,.s (.int .i64))])],en func315 [] [(26,[(6,.s (.int .i64))])],en func317 [] [(26,[(5,.s (.int .i64))])]] (by conv=>lhs;reduce) (by kernel_rfl) λx=>by
 dsimp only[qq,qm,qk,qj,qy,qA,qB,GH,uv,en,FG,wrap,dc,dn,DH,gU,ID,U.I,U.B,U.S,U.N,U.A,U.O,U.W,U.V,U.L,U.U6,U.C,U.M,U.F,U.E,HV,HA,GM,zS,jU,gJ,vZ,vI,TJ,Nat.reduceSub,Nat.reduceAdd,Int.reduceOfNat,Int.reduceNeg,UInt8.reduceOfNat] at x
 exact x
def yO(a b:Nat)(w:ah)(K:KP):=gK w (.cells z6.vs.toArray 50) λc d=>yY (qd c 0) 0 z6.vs d λd=>∃e:qN,(∃f,e d f)/\∀d f,e d f->∀g:qv,∃g:I6,aU d (qd c 0) 0 g.vs/\vu prog a #[.agg g.vs.toArray] d λa d=>∃g,.returned (.bool a)=Ending.returned (.bool g)/\cond g (∃a:I6,aU d (qd c 0) 0 a.vs/\∃g:I6,aU d (qd b 0) 0 g.vs/\CC 317 #[.agg a.vs.toArray,.agg g.vs.toArray] d λa b=>∃g:I6,a=.returned (.agg g.vs.toArray)/\yY (qd c 0) 0 g.vs b λa=>∃b:I6,aU a (qd c 0) 0 b.vs/\cond (I6.beq b z6) (K (.tuple #[]) a) (∃b,b<f/\e a b)) (K (.tuple #[]) d)
def Ba{l1 a w K}(h:yO l1 a w K):CP 316 #[.func (.yield l1) #[] #[],.pointer (some ⟨a,0,none⟩)] w K:=uK (Dt [(6,[])]) func316 (by kernel_rfl) (by kernel_rfl) h
end Go.Proofs.YtmhhlijfepaphaaGreatDoor
namespace Go.Proofs.YtmhhlijfepaphaaGreatDoor
open Go Go.Vc _root_.Go.Proofs.Tryz
def iC(r k:Nat):Addr.add ⟨r,0,none⟩ (((k:Nat):Int).toNat*1)=⟨r,k,none⟩:=by rw[gW];simp
def br{w0 w:ah}{l:List bP}{r:Nat}{u:I6}{T:TypeId}(h:St w0 w (Sep l))(i:Nat)(e:l[i]?=some (ay r u.vs.toArray T)){k:Nat}(a:k<6):w.cell? ⟨r,k,none⟩=some (iv (u.at' k)):=by
 rw[h.aj i e];simpa using u.get k a
def Fi(p u:I6)(k:Nat):Int:=(List.range k).foldl (λs j=>s+p.at' j*u.at' j) 0
def uO(p u:I6)(k:Nat):Fi p u (k+1)=Fi p u k+p.at' k*u.at' k:=by simp[Fi,List.range_succ]
def cost(p u:I6):Int:=p.a*u.a+p.b*u.b+p.c*u.c+p.d*u.d+p.e*u.e+p.f*u.f
def zZ(p u:I6):Fi p u 6=cost p u:=by simp[Fi,cost,List.range_succ,I6.at']
def tot(u:I6):Int:=u.a+u.b+u.c+u.d+u.e+u.f
def I6.Le(u:I6)(n:Int):Prop:=∀k,k<6->0<=u.at' k/\u.at' k<=n
def C9{u:I6}(h:u.l.all lX=true):I6.Le u 4:=λk a=>by
 have:=bw.1 h _ (ak (u.vG k a));simpa[lX] using this
def leq{u:I6}(h:I6.Le u 4):u.l.all lX=true:=by
 have a:=h 0 (by decide);have b:=h 1 (by decide);have c:=h 2 (by decide);have d:=h 3 (by decide);have e:=h 4 (by decide);have f:=h 5 (by decide);simp only[I6.at'] at a b c d e f;simp[I6.l,lX,a,b,c,d,e,f]
def aa2(w:ah)(u v:I6)(l:I6.Le u 1000000)(o:I6.Le v 1000000):CP 315 #[.agg u.vs.toArray,.agg v.vs.toArray] w (λr x=>r=.agg (u.zip (· + ·) v).vs.toArray/\aZ w x []):=by
 refine(p6 DV).2.2.2.1 (dH (dH (dH ?_)));have b:=(((St.start w).one.jR u.vs.toArray 50).jR v.vs.toArray 50).jR z6.vs.toArray 50;generalize p:World.alloc _ _=C at b⊢;generalize h:w.heap.size=q at b⊢;generalize i:(w.alloc _).heap.size=s at b⊢;generalize j:((w.alloc _).alloc _).heap.size=t at b⊢;refine⟨λn g m=>∃k:Nat,n=k/\k<=6/\m=6-k/\St w g (Sep [ay t z6.vs.toArray 50,ay s v.vs.toArray 50,ay q (I6.mix k (u.zip (· + ·) v) u).vs.toArray 50,emp]),⟨6,0,rfl,by omega,by omega,b⟩,?_⟩;rintro g m n ⟨k,rfl,A,B,d⟩-
 by_cases c:(k:Int)<6
 .have a:k<6:=by omega
  have e:=d.quiet (aZ.drew _ _);have y:=l k a;have z:=o k a;refine di c ⟨by omega,by omega,u.at' k,?_,by omega,by omega,v.at' k,?_,by omega,by omega,?_⟩
  .rw[iC,br e 2 rfl a,I6.iy _ _ _ _ a,af (by omega)]
  .rw[iC,br e 1 rfl a]
  rw[iC,gC (by omega)];refine e.cL 2 rfl a rfl λD f=>⟨6-(k+1),by omega,k+1,inc (by decide) a,by omega,rfl,?_⟩;rw[show u.at' k+v.at' k=(u.zip (· + ·) v).at' k by rw[I6.mU _ _ _ _ a],I6.lE _ _ _ a] at f;exact f
 obtain rfl:k=6:=by omega
 exact cF (by simp) ⟨_,d.cellsIn 2 rfl,d.aR 0 rfl (u.zip (· + ·) v).vs rfl (I6.one _) λe a=>⟨_,a.cellsIn 0 rfl,rfl,a.aK⟩⟩
def Zk(w:ah)(u v:I6):CP 248 #[.agg u.vs.toArray,.agg v.vs.toArray] w (λr s=>r=.agg (u.zip (λx y=>if y>x then y else x) v).vs.toArray/\aZ w s []):=by
 refine(p6 DV).1 (dH (dH (dH ?_)));have b:=(((St.start w).one.jR u.vs.toArray 50).jR v.vs.toArray 50).jR z6.vs.toArray 50;generalize l:World.alloc _ _=A at b⊢;generalize h:w.heap.size=o at b⊢;generalize i:(w.alloc _).heap.size=p at b⊢;generalize j:((w.alloc _).alloc _).heap.size=q at b⊢;refine⟨λn g m=>∃k:Nat,n=k/\k<=6/\m=6-k/\St w g (Sep [ay q z6.vs.toArray 50,ay p v.vs.toArray 50,ay o (I6.mix k (u.zip (λx y=>if y>x then y else x) v) u).vs.toArray 50,emp]),⟨6,0,rfl,by omega,by omega,b⟩,?_⟩;rintro g m n ⟨k,rfl,t,z,d⟩-
 by_cases c:(k:Int)<6
 .have a:k<6:=by omega
  have e:=d.quiet (aZ.drew _ _);refine di c ⟨by omega,by omega,u.at' k,?_,by omega,by omega,v.at' k,?_,by omega,by omega,?_⟩
  .rw[iC,br e 2 rfl a,I6.iy _ _ _ _ a,af (by omega)]
  .rw[iC,br e 1 rfl a]
  rw[iC];refine e.cL 2 rfl a rfl λB f=>⟨6-(k+1),by omega,k+1,inc (by decide) a,by omega,rfl,?_⟩;rw[show(if v.at' k>u.at' k then v.at' k else u.at' k)=(u.zip (λx y=>if y>x then y else x) v).at' k by rw[I6.mU _ _ _ _ a],I6.lE _ _ _ a] at f;exact f
 obtain rfl:k=6:=by omega
 exact cF (by simp) ⟨_,d.cellsIn 2 rfl,d.aR 0 rfl (u.zip (λx y=>if y>x then y else x) v).vs rfl (I6.one _) λe a=>⟨_,a.cellsIn 0 rfl,rfl,a.aK⟩⟩
def Zt(w:ah)(u v:I6):CP 318 #[.agg u.vs.toArray,.agg v.vs.toArray] w (λr s=>r=.agg (u.zip (λx y=>if y<x then y else x) v).vs.toArray/\aZ w s []):=by
 refine DV.2.2.2.2.1 (dH (dH (dH ?_)));have b:=(((St.start w).one.jR u.vs.toArray 50).jR v.vs.toArray 50).jR z6.vs.toArray 50;generalize l:World.alloc _ _=A at b⊢;generalize h:w.heap.size=o at b⊢;generalize i:(w.alloc _).heap.size=p at b⊢;generalize j:((w.alloc _).alloc _).heap.size=q at b⊢;refine⟨λn g m=>∃k:Nat,n=k/\k<=6/\m=6-k/\St w g (Sep [ay q z6.vs.toArray 50,ay p v.vs.toArray 50,ay o (I6.mix k (u.zip (λx y=>if y<x then y else x) v) u).vs.toArray 50,emp]),⟨6,0,rfl,by omega,by omega,b⟩,?_⟩;rintro g m n ⟨k,rfl,t,z,d⟩-
 by_cases c:(k:Int)<6
 .have a:k<6:=by omega
  have e:=d.quiet (aZ.drew _ _);refine di c ⟨by omega,by omega,u.at' k,?_,by omega,by omega,v.at' k,?_,by omega,by omega,?_⟩
  .rw[iC,br e 2 rfl a,I6.iy _ _ _ _ a,af (by omega)]
  .rw[iC,br e 1 rfl a]
  rw[iC];refine e.cL 2 rfl a rfl λB f=>⟨6-(k+1),by omega,k+1,inc (by decide) a,by omega,rfl,?_⟩;rw[show(if v.at' k<u.at' k then v.at' k else u.at' k)=(u.zip (λx y=>if y<x then y else x) v).at' k by rw[I6.mU _ _ _ _ a],I6.lE _ _ _ a] at f;exact f
 obtain rfl:k=6:=by omega
 exact cF (by simp) ⟨_,d.cellsIn 2 rfl,d.aR 0 rfl (u.zip (λx y=>if y<x then y else x) v).vs rfl (I6.one _) λe a=>⟨_,a.cellsIn 0 rfl,rfl,a.aK⟩⟩
def within(u v:I6):Bool:=decide (u.a<=v.a)&&(decide (u.b<=v.b)&&(decide (u.c<=v.c)&&(decide (u.d<=v.d)&&(decide (u.e<=v.e)&&decide (u.f<=v.f)))))
def within_iff{u v:I6}:within u v=true<->∀k,k<6->u.at' k<=v.at' k:=by
 simp only[within,aF,aV];constructor
 .rintro⟨a,b,c,d,e,f⟩ k g
  match k,g with
  |0,_=>exact a
  |1,_=>exact b
  |2,_=>exact c
  |3,_=>exact d
  |4,_=>exact e
  |5,_=>exact f
 exact λh=>⟨h 0 (by decide),h 1 (by decide),h 2 (by decide),h 3 (by decide),h 4 (by decide),h 5 (by decide)⟩
def AZ(w:ah)(u v:I6):CP 252 #[.agg u.vs.toArray,.agg v.vs.toArray] w (λr c=>r=.bool (within u v)/\aZ w c []):=by
 refine DV.2.2.1 (dH (dH ?_));have a:=(((St.start w).one.jR u.vs.toArray 50).jR v.vs.toArray 50).quiet (aZ.drew _ _);refine⟨_,a.cellsIn 1 rfl,_,a.cellsIn 0 rfl,_,a.cellsIn 1 rfl,bF (Zt _ u v) λd b=>⟨_,rfl,ff b (a.cellsIn 1 rfl),?_,(a.quiet b).aK⟩⟩;have m:∀x y:Int,((if y<x then y else x)==x)=decide (x<=y):=λx y=>by
  by_cases h:y<x
  .rw[ag h,dF (by omega)];simp;omega
  rw[af h,dT (by omega)];simp
 simp only[I6.beq,I6.zip,within,m,jv]
def XL(w:ah)(u:I6)(j:I6.Le u 1000000):CP 314 #[.agg u.vs.toArray] w (λr o=>r=iv (tot u)/\aZ w o []):=by
 refine DV.2.2.2.2.2.1 (dH ?_);have b:=(St.start w).one.jR u.vs.toArray 50;generalize l:World.alloc _ _=q at b⊢;generalize i:w.heap.size=y at b⊢;let d:I6:=⟨1,1,1,1,1,1⟩;have h:∀k,k<6->d.at' k=1:=λk e=>by
  match k,e with
  |0,_|1,_|2,_|3,_|4,_|5,_=>rfl
 refine⟨u,b.cellsIn 0 rfl,λp n g m=>∃k:Nat,n=k/\k<=6/\m=6-k/\p=Fi d u k/\0<=p/\p<=(k:Int)*1000000/\g=q,⟨6,0,rfl,by omega,by omega,rfl,by simp,by simp,rfl⟩,?_⟩;rintro g m p n ⟨k,rfl,e,x,f,s,t,rfl⟩-
 by_cases c:(k:Int)<6
 .have a:k<6:=by omega
  have v:=j k a;refine di c ⟨by omega,by omega,u.at' k,u.get k a,6-(k+1),by omega,k+1,inc (by decide) a,by omega,rfl,?_,?_,?_,rfl⟩
  .rw[gC (by omega),uO,h k a,f];omega
  .rw[gC (by omega)];omega
  rw[gC (by omega)];omega
 obtain rfl:k=6:=by omega
 refine cF (by simp) ⟨?_,b.aK⟩;rw[f,zZ];simp[cost,tot,d]
def YP(w:ah)(p u:I6)(B:Int)(C:B<=1000000000000)(g:∀k,k<6->-B<=p.at' k/\p.at' k<=B)(x:I6.Le u 4):CP 103 #[.agg p.vs.toArray,.agg u.vs.toArray] w (λr z=>r=iv (cost p u)/\aZ w z []):=by
 refine DV.2.1 (dH (dH ?_));have b:=((St.start w).one.jR p.vs.toArray 37).jR u.vs.toArray 50;generalize y:World.alloc _ _=A at b⊢;generalize t:w.heap.size=E at b⊢;generalize v:(w.alloc _).heap.size=F at b⊢;have l:∀k,k<6->-(4*B)<=p.at' k*u.at' k/\p.at' k*u.at' k<=4*B:=λk c=>by
  have o:=g k c;have e:=x k c;have q:0<=B:=by omega
  obtain⟨j,a⟩:∃j:Nat,u.at' k=(j:Int):=⟨(u.at' k).toNat,by omega⟩;rw[a] at e⊢;have f:j<=4:=by omega
  match j,f with
  |0,_|1,_|2,_|3,_|4,_=>omega
 refine⟨u,b.cellsIn 0 rfl,λs n i m=>∃k:Nat,n=k/\k<=6/\m=6-k/\s=Fi p u k/\-((k:Int)*(4*B))<=s/\s<=(k:Int)*(4*B)/\i=A,⟨6,0,rfl,by omega,by omega,rfl,by simp,by simp,rfl⟩,?_⟩;rintro i m s n ⟨k,rfl,c,D,h,j,o,rfl⟩-
 by_cases d:(k:Int)<6
 .have a:k<6:=by omega
  have e:=l k a;have q:((k+1:Nat):Int)*(4*B)=(k:Int)*(4*B)+4*B:=by rw[iR,eY];omega
  have f:(k:Int)*(4*B)<=5*(4*B)/\0<=(k:Int)*(4*B):=by
   have j:0<=B:=by have:=g k a;omega
   exact⟨bt (by omega) (by omega),dh (by omega) (by omega)⟩
  refine di d ⟨by omega,by omega,u.at' k,u.get k a,by omega,by omega,p.at' k,?_,6-(k+1),by omega,k+1,inc (by decide) a,by omega,rfl,?_,?_,?_,rfl⟩
  .rw[iC,br b 1 rfl a]
  .rw[fQ (n:=p.at' k*u.at' k) ⟨by omega,by omega⟩,gC (by omega),uO,h]
  .rw[fQ (n:=p.at' k*u.at' k) ⟨by omega,by omega⟩,gC (by omega)];omega
  rw[fQ (n:=p.at' k*u.at' k) ⟨by omega,by omega⟩,gC (by omega)];omega
 obtain rfl:k=6:=by omega
 refine cF (by simp) ⟨?_,b.aK⟩;rw[h,zZ]
def ku(m u:I6):Nat->Int
 |0=>0
 |k+1=>ku m u k*(m.at' k+1)+u.at' k
def CB(m:I6):Nat->Int
 |0=>1
 |k+1=>CB m k*(m.at' k+1)
abbrev rk (m u:I6):Int:=ku m u 6
theorem TL(m:I6):∀k,k<=6->pr (m.l.take k)=CB m k
 |0,_=>rfl
 |k+1,h=>by rw[bJ (m.vG k (by omega)),C6,TL m k (by omega)];rfl
def uE(m:I6):pr m.l=CB m 6:=TL m 6 (by omega)
structure rP (m u:I6):Prop where
 mm:I6.Le m 4
 u:∀k,k<6->0<=u.at' k/\u.at' k<=m.at' k
def rP.le{m u:I6}(h:rP m u):I6.Le u 4:=λk a=>by have:=h.mm k a;have:=h.u k a;omega
theorem o8{m u:I6}(h:rP m u):∀k,k<=6->0<=ku m u k/\ku m u k+1<=CB m k/\CB m k<=5 ^ k
 |0,_=>⟨by simp[ku],by simp[ku,CB],by simp[CB]⟩
 |k+1,f=>by
  obtain⟨b,c,d⟩:=o8 h k (by omega);have g:=h.mm k (by omega);have i:=h.u k (by omega);simp only[ku,CB];refine⟨?_,?_,?_⟩
  .have:=dh b (show(0:Int)<=m.at' k+1 by omega);omega
  .have a:(ku m u k+1)*(m.at' k+1)<=CB m k*(m.at' k+1):=bt c (by omega);rw[eY] at a;omega
  have a:CB m k*(m.at' k+1)<=5 ^ k*(m.at' k+1):=bt d (by omega);have e:(5:Int) ^ k*(m.at' k+1)<=5 ^ k*5:=cw (by omega) (Int.pow_nonneg (by omega));rw[oo];omega
def ZZ(w:ah)(m u:I6):CP 251 #[.agg m.vs.toArray,.agg u.vs.toArray] w (λr C=>(∃n e:Int,r=.tuple #[iv n,iv e]/\(e=0<->(pr m.l<=1024/\rP m u))/\(e=0->n=rk m u))/\aZ w C []):=by
 refine(p6 DV).2.2.1 (dH (dH ?_));have d:=((St.start w).one.jR m.vs.toArray 50).jR u.vs.toArray 50;generalize B:World.alloc _ _=s at d⊢;generalize z:w.heap.size=J at d⊢;generalize A:(w.alloc _).heap.size=K at d⊢;refine⟨λb j=>aZ s j []/\(b=false<->(pr m.l<=1024/\rP m u)),?_,_,d.cellsIn 1 rfl,bg (CQ s m) ?_⟩
 .rintro j b ⟨q,o⟩-
  cases b with
  |true=>exact cT rfl ⟨⟨0,4,rfl,⟨λh=>(by cases h),λh=>(by cases o.2 h)⟩,λh=>(by cases h)⟩,(d.quiet q).aK⟩
  |false=>
   obtain⟨y,c⟩:=o.1 rfl;have i:=d.quiet q;refine cF rfl ⟨m,i.cellsIn 1 rfl,λp n t x=>∃k:Nat,n=k/\k<=6/\x=6-k/\p=ku m u k/\t=j,⟨6,0,rfl,by omega,by omega,rfl,rfl⟩,?_⟩;rintro t x p n ⟨k,rfl,f,I,rfl,rfl⟩-
   by_cases g:(k:Int)<6
   .have a:k<6:=by omega
    have v:=o8 c k f;have D:=o8 c (k+1) a;have G:=c.mm k a;have H:=c.u k a;have E:(5:Int) ^ (k+1)<=15625:=by
     match k,a with
     |0,_|1,_|2,_|3,_|4,_|5,_=>decide
    refine di g ⟨by omega,by omega,m.at' k,m.get k a,by omega,by omega,u.at' k,by rw[iC,br i 0 rfl a],6-(k+1),by omega,k+1,inc (by decide) a,by omega,rfl,?_,rfl⟩;have e:ku m u (k+1)=ku m u k*(m.at' k+1)+u.at' k:=rfl;have F:0<=ku m u k*(m.at' k+1):=dh v.1 (by omega);rw[fQ (n:=m.at' k+1) ⟨by omega,by omega⟩,fQ (n:=ku m u k*(m.at' k+1)) ⟨by omega,by omega⟩,gC (by omega),e]
   obtain rfl:k=6:=by omega
   exact cF (by simp) ⟨⟨_,0,rfl,⟨λ_=>⟨y,c⟩,λ_=>rfl⟩,λ_=>rfl⟩,i.aK⟩
 rintro v t ⟨rfl,c⟩;refine⟨_,rfl,?_⟩
 by_cases g1:m.l.all lX=true/\pr m.l<=1024
 .rw[ag g1];have p:=(vf g1.1).1;refine cF (by simp;omega) ⟨_,(d.quiet c).cellsIn 0 rfl,bF (lI t u) λx i=>⟨_,rfl,?_⟩⟩;have a:=c.trans i (by simp)
  by_cases g2:u.l.all lX=true
  .rw[ag g2];have g:=d.quiet a;refine cF rfl ⟨_,g.cellsIn 0 rfl,_,g.cellsIn 1 rfl,bF (AZ x u m) λy o=>⟨_,rfl,a.trans o (by simp),?_⟩⟩;have q:=C9 g2
   cases g3:within u m with
   |true=>exact⟨λ_=>⟨g1.2,C9 g1.1,λk f=>⟨(q k f).1,within_iff.1 g3 k f⟩⟩,λ_=>rfl⟩
   |false=>exact⟨λh=>(by cases h),λh=>(by rw[within_iff.2 λk f=>(h.2.u k f).2] at g3;cases g3)⟩
  rw[af g2];exact cT rfl ⟨a,λh=>(by cases h),λh=>absurd (leq h.2.le) g2⟩
 rw[af g1];exact cT rfl ⟨c,λh=>(by cases h),λh=>absurd ⟨leq h.2.mm,h.1⟩ g1⟩
def wg(u m:I6):Nat->I6
 |0=>z6
 |k+1=>if u.at' k<m.at' k then (I6.mix (k+1) u z6).put k (u.at' k+1) else wg u m k
abbrev ue (u m:I6):I6:=wg u m 6
def oU(k:Nat):z6.at' k=0:=by
 match k with
 |0|1|2|3|4|5=>rfl
 |n+6=>rfl
def JE(w:ah){u m:I6}(h:rP m u):CP 317 #[.agg u.vs.toArray,.agg m.vs.toArray] w (λr G=>r=.agg (ue u m).vs.toArray/\aZ w G []):=by
 refine(p6 DV).2.2.2.2.1 (dH (dH (dH ?_)));have c:=(((St.start w).one.jR u.vs.toArray 50).jR m.vs.toArray 50).jR z6.vs.toArray 50;generalize D:World.alloc _ _=N at c⊢;generalize A:w.heap.size=z at c⊢;generalize B:(w.alloc _).heap.size=E at c⊢;generalize C:((w.alloc _).alloc _).heap.size=F at c⊢;refine⟨λn s x=>∃k:Nat,n=(k:Int)-1/\k<=6/\x=k/\ue u m=wg u m k/\St w s (Sep [ay F z6.vs.toArray 50,ay E m.vs.toArray 50,ay z (I6.mix k u z6).vs.toArray 50,emp]),⟨6,6,rfl,by omega,rfl,rfl,c⟩,?_⟩;rintro s x n ⟨k,rfl,J,M,p,q⟩-
 by_cases o:(0:Int)<=(k:Int)-1
 .obtain⟨j,rfl⟩:∃j,k=j+1:=⟨k-1,by omega⟩;have a:j<6:=by omega
  rw[show((j+1:Nat):Int)-1=(j:Int) by omega] at *;have f:=q.quiet (aZ.drew _ _);have L:=h.u j a;have K:=h.mm j a;have t:s.drew.cell? (Addr.add ⟨z,0,none⟩ ((j:Int).toNat*1))=some (iv (u.at' j)):=by
   rw[iC,br f 2 rfl a,I6.iy _ _ _ _ a,ag (by omega)]
  refine di (show(j:Int)>=0 by omega) ⟨by omega,by omega,u.at' j,t,by omega,by omega,m.at' j,by rw[iC,br f 1 rfl a],cBq (λg=>⟨by omega,by omega,u.at' j,t,by omega,by omega,?_⟩) λg=>⟨by omega,by omega,?_⟩⟩
  .rw[iC,gC (by omega)];refine f.cL 2 rfl a rfl λH b=>?_;rw[I6.nW _ _ _ a] at b;have e:ue u m=(I6.mix (j+1) u z6).put j (u.at' j+1):=by rw[p];unfold wg;rw[ag g]
   rw[<-e] at b;exact⟨_,b.cellsIn 2 rfl,b.aR 0 rfl (ue u m).vs rfl (I6.one _) λI d=>⟨_,d.cellsIn 0 rfl,rfl,d.aK⟩⟩
  rw[iC];refine f.cL 2 rfl a rfl λH b=>⟨j,by omega,j,gC (by omega),by omega,rfl,?_,?_⟩
  .rw[p];conv=>lhs;unfold wg
   rw[af g]
  have e:(I6.mix (j+1) u z6).put j 0=I6.mix j u z6:=by
   refine I6.ext' λi l=>?_;rw[I6.mq _ _ _ _ a l,I6.iy _ _ _ _ l,I6.iy _ _ _ _ l,oU]
   by_cases v:i=j
   .rw[ag v,af (by omega)]
   rw[af v]
   by_cases y:i<j
   .rw[ag (by omega),ag y]
   rw[af (by omega),af y]
  rw[I6.nW _ _ _ a,e] at b;exact b
 obtain rfl:k=0:=by omega
 have e:ue u m=z6:=p;refine dz o ⟨_,q.cellsIn 2 rfl,?_⟩;rw[I6.Ta] at *;exact q.aR 0 rfl z6.vs rfl (I6.one _) λI d=>⟨_,d.cellsIn 0 rfl,by rw[e],d.aK⟩
theorem Ot(m:I6):∀k,ku m z6 k=0
 |0=>rfl
 |k+1=>by simp[ku,Ot m k,oU]
def N0{u m:I6}(h:rP m u):rP m (ue u m):=by
 suffices H:∀k,k<=6->∀j,j<6->0<=(wg u m k).at' j/\(wg u m k).at' j<=m.at' j from⟨h.mm,H 6 (by omega)⟩
 intro k
 induction k with
 |zero=>intro _ j a;have:=h.mm j a;simp only[wg,oU];omega
 |succ k b=>
  intro c j a;unfold wg;have d:=h.u j a
  split
  .rename_i g;rw[I6.mq _ _ _ _ (by omega) a]
   split
   .rename_i e;subst e;have:=h.u j a;omega
   rw[I6.iy _ _ _ _ a,oU]
   split<;>omega
  exact b (by omega) j a
def HP{u m:I6}(h:rP m u):(ue u m=z6/\∀k,k<6->u.at' k=m.at' k)\/(rk m (ue u m)=rk m u+1):=by
 suffices H:∀k,k<=6->(∀j,k<=j->j<6->u.at' j=m.at' j)->(wg u m k=z6/\∀j,j<6->u.at' j=m.at' j)\/(rk m (wg u m k)=rk m u+1) from H 6 (by omega) λj l c=>by omega
 intro k
 induction k with
 |zero=>exact λ_ e=>.inl ⟨rfl,λj f=>e j (by omega) f⟩
 |succ k n=>
  intro o e;unfold wg
  by_cases g:u.at' k<m.at' k
  .rw[ag g];refine .inr ?_;have a:∀j,j<6->((I6.mix (k+1) u z6).put k (u.at' k+1)).at' j=if j=k then u.at' k+1 else if j<k then u.at' j else 0:=λj f=>by
    rw[I6.mq _ _ _ _ (by omega) f]
    split
    .rfl
    rw[I6.iy _ _ _ _ f,oU]
    by_cases c:j<k
    .rw[ag (by omega),ag c]
    rw[af (by omega),af c]
   have low:∀i,i<=k->ku m ((I6.mix (k+1) u z6).put k (u.at' k+1)) i=ku m u i:=by
    intro i
    induction i with
    |zero=>intro _;rfl
    |succ i b=>
     intro d;simp only[ku];rw[b (by omega),a i (by omega),af (by omega),ag (by omega)]
   have high:∀d,k+1+d<=6->ku m ((I6.mix (k+1) u z6).put k (u.at' k+1)) (k+1+d)=ku m u (k+1+d)+1:=by
    intro d
    induction d with
    |zero=>
     intro _;simp only[ku];rw[low k (by omega),a k (by omega),ag rfl];omega
    |succ d b=>
     intro hd;show ku m _ (k+1+d+1)=ku m u (k+1+d+1)+1;simp only[ku];rw[b (by omega),a _ (by omega),af (by omega),af (by omega),e (k+1+d) (by omega) (by omega),eY];omega
   have:=high (6-(k+1)) (by omega);rw[show k+1+(6-(k+1))=6 by omega] at this;exact this
  rw[af g];refine n (by omega) λj l c=>?_;rcases aQ k j with a|a
  .exact e j (by omega) c
  obtain rfl:j=k:=by omega
  have:=h.u j c;omega
def cK(m:I6):Nat->I6
 |0=>z6
 |i+1=>ue (cK m i) m
def bI(m:I6):Nat:=(pr m.l).toNat
theorem HX(m:I6)(h:I6.Le m 4):∀k,k<=6->ku m m k+1=CB m k
 |0,_=>rfl
 |k+1,a=>by
  simp only[ku,CB];rw[<-HX m h k (by omega),eY];omega
def A3{m:I6}(h:I6.Le m 4):rP m z6:=⟨h,λk a=>by have:=h k a;rw[oU];omega⟩
theorem gw{m:I6}(h:I6.Le m 4):∀i,rP m (cK m i)
 |0=>A3 h
 |i+1=>N0 (gw h i)
def lC{m:I6}(h:I6.Le m 4):0<bI m/\(bI m:Int)=pr m.l/\bI m<=15625:=by
 have a:=vf (leq h);have b:m.l.length=6:=rfl;rw[b] at a;have c:(5:Int) ^ 6=15625:=by decide
 unfold bI;omega
theorem nQ{m:I6}(h:I6.Le m 4):∀i,i<bI m->rk m (cK m i)=i
 |0,_=>Ot m 6
 |i+1,g=>by
  have a:=nQ h i (by omega);rcases HP (gw h i) with⟨_,b⟩|b
  .exfalso
   have c:=I6.ext' b;rw[c] at a;have e:=HX m h 6 (by omega);have d:=(lC h).2.1;rw[uE] at d;have f:ku m m 6=(i:Int):=a;omega
  show rk m (ue (cK m i) m)=_;rw[b,a];omega
def Je{m:I6}(h:I6.Le m 4){i:Nat}(hi:i<bI m):ue (cK m i) m=z6<->i+1=bI m:=by
 have b:=nQ h i hi;have f:=(lC h).2.1;have g:=HX m h 6 (by omega);rw[uE] at f;constructor
 .intro e;rcases HP (gw h i) with⟨_,a⟩|a
  .have d:=I6.ext' a;rw[d] at b;have c:ku m m 6=(i:Int):=b;omega
  rw[e] at a;have c:ku m z6 6=rk m (cK m i)+1:=a;rw[Ot,b] at c;omega
 intro e;rcases HP (gw h i) with⟨a,_⟩|a
 .exact a
 exfalso
 have d:=o8 (N0 (gw h i)) 6 (by omega);have c:ku m (ue (cK m i) m) 6=rk m (cK m i)+1:=a;rw[b] at c;omega
def NB{w0 w:ah}{b l:Nat}{m:I6}(f:I6.Le m 4){R:Nat->bP}{B:bP}(F:∀(i:Nat) (v:ah) (Fr:bP),i<bI m->St w0 v (star (R i) Fr)->vu prog l #[.agg (cK m i).vs.toArray] v λg A=>g=true/\St w0 A (star (R (i+1)) Fr))(h:St w0 w (star (R 0) (star (ay b m.vs.toArray 50) B))):
  CP 316 #[.func (.yield l) #[] #[],.pointer (qs b)] w (λr a=>r=.tuple #[]/\St w0 a (star (R (bI m)) (star (ay b m.vs.toArray 50) B))):=by
 refine Ba ?_;unfold yO;refine dH ?_;obtain⟨q,_,_⟩:=lC f;have s:St w0 (w.alloc (.cells z6.vs.toArray 50)) (Sep [ay w.heap.size z6.vs.toArray 50,R 0,ay b m.vs.toArray 50,B]):=h.sU.jR _ _;generalize World.alloc _ _=v at s⊢;generalize w.heap.size=k at s⊢;refine s.aR 0 rfl z6.vs rfl (I6.one _) λA J=>⟨λn x=>∃i,i<bI m/\x=bI m-i/\St w0 n (Sep [ay k (cK m i).vs.toArray 50,R i,ay b m.vs.toArray 50,B]),⟨bI m,0,q,by omega,J⟩,?_⟩;rintro n x ⟨i,r,rfl,y⟩-;refine⟨_,y.cellsIn 0 rfl,?_⟩;have t:St w0 n (star (R i) (Sep [ay k (cK m i).vs.toArray 50,ay b m.vs.toArray 50,B])):=y.out 1 rfl;have I:=F i n _ r t;obtain⟨fn,d,o,p,a,E⟩:=I;refine⟨fn,d,o,p,a,E.mono λe C ⟨g,G,H,K⟩=>⟨g,G,g,rfl,?_⟩⟩;subst H;have u:St w0 C (Sep [R (i+1),ay k (cK m i).vs.toArray 50,ay b m.vs.toArray 50,B]):=K;refine cT rfl ⟨_,u.cellsIn 1 rfl,_,u.cellsIn 2 rfl,bF (JE C (gw f i)) λM D=>⟨_,rfl,(u.quiet D).aR 1 rfl _ rfl (I6.one _) λL z=>⟨_,z.cellsIn 1 rfl,?_⟩⟩⟩;have c:St w0 L (Sep [R (i+1),ay k (ue (cK m i) m).vs.toArray 50,ay b m.vs.toArray 50,B]):=z
 by_cases j:ue (cK m i) m=z6
 .have e:=(Je f r).1 j;rw[<-e];exact cT (by rw[j];rfl) ⟨rfl,(c.aM [0,2,3]).triple⟩
 refine cF (by rw[I6.beq_eq];exact dF j) ⟨bI m-(i+1),by omega,i+1,?_,rfl,c.aM [1,0,2,3]⟩;have:i+1≠bI m:=λe=>j ((Je f r).2 e);omega
def XW{w0 w:ah}{A:bP}(s:St w0 w A)(m:I6)(d:I6.Le m 4)(g:pr m.l<=1024):CP 170 #[.agg m.vs.toArray] w (λr c=>∃b,r=.func (.func 316) #[] #[.pointer (qs b)]/\St w0 c (star (ay b m.vs.toArray 50) A)):=by
 refine DV.2.2.2.1 (dH ?_);have a:=s.one.jR m.vs.toArray 50;generalize World.alloc _ _=i at a⊢;generalize w.heap.size=k at a⊢;refine⟨_,a.cellsIn 0 rfl,bF (CQ i m) λn f=>⟨_,rfl,?_⟩⟩;have j:=(vf (leq d)).1;rw[ag ⟨leq d,g⟩];have e:=a.quiet f;refine cF (by simp;omega) ⟨_,e.cellsIn 0 rfl,bg (K:=λr c=>∃b,r=.func (.func 316) #[] #[.pointer (qs b)]/\St w0 c (star (ay b m.vs.toArray 50) A)) ((p6 DV).2.1 ?_) ?_⟩
 .skip
  exact dH ⟨_,rfl,((e.aM [1]).jR m.vs.toArray 50).pair⟩
 exact λv c h=>⟨v,rfl,h⟩

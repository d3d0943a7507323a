import Derived.Test.YtjcfdidmajodiaaGreatDoorH04
set_option linter.unusedVariables false
set_option linter.defProp false
set_option maxRecDepth 100000
set_option maxHeartbeats 4000000
namespace Go.Proofs.YtjcfdidmajodiaaGreatDoor
open Go Go.Vc Go.Vt _root_.Go.Proofs.Tryz
def BB:=many uj [en func211 [] [(58,[(5,.s (.int .i64)),(9,.s (.int .i64))])],en func267 [] [],en func294 [] [],en func319 [] [(26,[(6,.s (.int .i64))])],en func329 [] [(58,[(3,.s (.int .i64)),(7,.s (.int .i64))])],en func334 [] [(26,[(6,.s (.int .i64))])],en func336 [] [],en func337 [] [(6,[(22,.s .bool)]),(122,[(6,.s (.int .i64)),(24,.s (.int .i64))])],en func355 [] [(26,[(6,.s (.int .i64))])],en func357 [] [(26,[(5,.s (.int .i64))])]] (by conv=>lhs;reduce) (by kernel_rfl) λ x=>by
 dsimp only[fj,fh,ff,fe,fk,fm,fq,tF,iP,en,sV,wrap,dc,dn,qA,gU,tW,U.I,U.B,U.S,U.N,U.A,U.O,U.W,U.V,U.L,U.U6,U.C,U.M,U.F,U.E,tP,tN,tI,oo,jU,gJ,kr,jq,TJ,Nat.reduceSub,Nat.reduceAdd,Int.reduceOfNat,Int.reduceNeg,UInt8.reduceOfNat] at x
 exact x
def tZ(a b:Nat)(w:af)(K:KP):=cR w (.cells z6.vs.toArray 42) λ c d=>uP (qd c 0) 0 z6.vs d λ d=>∃ e:qN,(∃ f,e d f)/\∀ d f,e d f->∀ g:qv,∃ g:I6,aA d (qd c 0) 0 g.vs/\pK prog a #[.agg g.vs.toArray] d λ a d=>∃ g,.returned (.bool a)=Ending.returned (.bool g)/\cond g (∃ a:I6,aA d (qd c 0) 0 a.vs/\∃ g:I6,aA d (qd b 0) 0 g.vs/\CC 357 #[.agg a.vs.toArray,.agg g.vs.toArray] d λ a b=>∃ g:I6,a=.returned (.agg g.vs.toArray)/\uP (qd c 0) 0 g.vs b λ a=>∃ b:I6,aA a (qd c 0) 0 b.vs/\cond (I6.beq b z6) (K (.tuple #[]) a) (∃ b,b<f/\e a b)) (K (.tuple #[]) d)
def wS{l1 a w K}(h:tZ l1 a w K):CP 356 #[.func (.yield l1) #[] #[],.pointer (some ⟨a,0,none⟩)] w K:=qZ (Bq [(6,[])]) func356 (by kernel_rfl) (by kernel_rfl) h
end Go.Proofs.YtjcfdidmajodiaaGreatDoor
namespace Go.Proofs.YtjcfdidmajodiaaGreatDoor
open Go Go.Vc _root_.Go.Proofs.Tryz
def dM(r k:Nat):Addr.add ⟨r,0,none⟩ (((k:Nat):Int).toNat*1)=⟨r,k,none⟩:=by rw[bY]; simp
def aF{w0 w:af}{l:List aI}{r:Nat}{u:I6}{T:TypeId}(h:St w0 w (Sep l))(i:Nat)(e:l[i]?=some (aj r u.vs.toArray T)){k:Nat}(a:k<6):w.cell? ⟨r,k,none⟩=some (iv (u.at' k)):=by
 rw[h.ag i e]; simpa using u.get k a
def Bw(p u:I6)(k:Nat):Int:=(List.range k).foldl (λ s j=>s+p.at' j*u.at' j) 0
def oM(p u:I6)(k:Nat):Bw p u (k+1)=Bw p u k+p.at' k*u.at' k:=by simp[Bw,yO]
def cost(p u:I6):Int:=p.a*u.a+p.b*u.b+p.c*u.c+p.d*u.d+p.e*u.e+p.f*u.f
def vz(p u:I6):Bw p u 6=cost p u:=by simp[Bw,cost,yO,I6.at']
def tot(u:I6):Int:=u.a+u.b+u.c+u.d+u.e+u.f
def I6.Le(u:I6)(n:Int):Prop:=∀ k,k<6->0<=u.at' k/\u.at' k<=n
def Bl{u:I6}(h:u.l.all iy=true):I6.Le u 4:=λ k a=>by
 have:=dS.1 h _ (bf (u.pT k a));simpa[iy] using this
def leq{u:I6}(h:I6.Le u 4):u.l.all iy=true:=by
 have a:=h 0 (by decide); have h1:=h 1 (by decide); have h2:=h 2 (by decide); have h3:=h 3 (by decide); have h4:=h 4 (by decide); have b:=h 5 (by decide);simp only[I6.at'] at a h1 h2 h3 h4 b;simp[I6.l,iy,a,h1,h2,h3,h4,b]
def Xj(w:af)(u v:I6)(hu:I6.Le u 1000000)(o:I6.Le v 1000000):CP 355 #[.agg u.vs.toArray,.agg v.vs.toArray] w (λ r w'=>r=.agg (u.zip (· + ·) v).vs.toArray/\aC w w' []):=by
 refine(p6 BB).2.2.1 ?_;refine bg (bg (bg ?_));have b:=(((St.start w).one.fu u.vs.toArray 42).fu v.vs.toArray 42).fu z6.vs.toArray 42;generalize p:World.alloc _ _=s at b ⊢;generalize i:w.heap.size=r1 at b ⊢;generalize j:(w.alloc _).heap.size=r2 at b ⊢;generalize l:((w.alloc _).alloc _).heap.size=r3 at b ⊢;refine⟨λ n h m=>∃ k:Nat,n=k/\k<=6/\m=6-k/\St w h (Sep [aj r3 z6.vs.toArray 42,aj r2 v.vs.toArray 42,aj r1 (I6.mix k (u.zip (· + ·) v) u).vs.toArray 42,emp]),⟨6,0,rfl,by omega,by omega,b⟩,?_⟩;rintro h m n ⟨k,rfl,q,hm,d⟩ -
 by_cases c:(k:Int)<6
 ·have a:k<6:=by omega
  have e:=d.quiet (aC.drew _ _);have h1:=hu k a;have h2:=o k a;refine aP c ⟨by omega,by omega,u.at' k,?_,by omega,by omega,v.at' k,?_,by omega,by omega,?_⟩
  ·rw[dM,aF e 2 rfl a,I6.cX _ _ _ _ a,ah (by omega)]
  ·rw[dM,aF e 1 rfl a]
  ·rw[dM,cA (by omega)];refine e.aN 2 rfl a rfl λ t f=>⟨6-(k+1),by omega,k+1,inc (by decide) a,by omega,rfl,?_⟩;rw[show u.at' k+v.at' k=(u.zip (· + ·) v).at' k by rw[I6.iG _ _ _ _ a],I6.gD _ _ _ a] at f;exact f
 ·obtain rfl:k=6:=by omega
  refine cF (by simp) ⟨_,d.cellsIn 2 rfl,?_⟩;exact d.az 0 rfl (u.zip (· + ·) v).vs rfl (I6.one _) λ x g=>⟨_,g.cellsIn 0 rfl,rfl,g.av⟩
def VA(w:af)(u v:I6):CP 334 #[.agg u.vs.toArray,.agg v.vs.toArray] w (λ r w'=>r=.agg (u.zip (λ x y=>if y>x then y else x) v).vs.toArray/\aC w w' []):=by
 refine BB.2.2.2.2.2.1 ?_;refine bg (bg (bg ?_));have b:=(((St.start w).one.fu u.vs.toArray 42).fu v.vs.toArray 42).fu z6.vs.toArray 42;generalize o:World.alloc _ _=q at b ⊢;generalize i:w.heap.size=r1 at b ⊢;generalize j:(w.alloc _).heap.size=r2 at b ⊢;generalize l:((w.alloc _).alloc _).heap.size=r3 at b ⊢;refine⟨λ n h m=>∃ k:Nat,n=k/\k<=6/\m=6-k/\St w h (Sep [aj r3 z6.vs.toArray 42,aj r2 v.vs.toArray 42,aj r1 (I6.mix k (u.zip (λ x y=>if y>x then y else x) v) u).vs.toArray 42,emp]),⟨6,0,rfl,by omega,by omega,b⟩,?_⟩;rintro h m n ⟨k,rfl,p,hm,d⟩ -
 by_cases c:(k:Int)<6
 ·have a:k<6:=by omega
  have e:=d.quiet (aC.drew _ _);refine aP c ⟨by omega,by omega,u.at' k,?_,by omega,by omega,v.at' k,?_,by omega,by omega,?_⟩
  ·rw[dM,aF e 2 rfl a,I6.cX _ _ _ _ a,ah (by omega)]
  ·rw[dM,aF e 1 rfl a]
  ·rw[dM];refine e.aN 2 rfl a rfl λ s f=>⟨6-(k+1),by omega,k+1,inc (by decide) a,by omega,rfl,?_⟩;rw[show(if v.at' k>u.at' k then v.at' k else u.at' k)=(u.zip (λ x y=>if y>x then y else x) v).at' k by rw[I6.iG _ _ _ _ a],I6.gD _ _ _ a] at f;exact f
 ·obtain rfl:k=6:=by omega
  refine cF (by simp) ⟨_,d.cellsIn 2 rfl,?_⟩;exact d.az 0 rfl (u.zip (λ x y=>if y>x then y else x) v).vs rfl (I6.one _) λ t g=>⟨_,g.cellsIn 0 rfl,rfl,g.av⟩
def VK(w:af)(u v:I6):CP 319 #[.agg u.vs.toArray,.agg v.vs.toArray] w (λ r w'=>r=.agg (u.zip (λ x y=>if y<x then y else x) v).vs.toArray/\aC w w' []):=by
 refine BB.2.2.2.1 ?_;refine bg (bg (bg ?_));have b:=(((St.start w).one.fu u.vs.toArray 42).fu v.vs.toArray 42).fu z6.vs.toArray 42;generalize o:World.alloc _ _=q at b ⊢;generalize i:w.heap.size=r1 at b ⊢;generalize j:(w.alloc _).heap.size=r2 at b ⊢;generalize l:((w.alloc _).alloc _).heap.size=r3 at b ⊢;refine⟨λ n h m=>∃ k:Nat,n=k/\k<=6/\m=6-k/\St w h (Sep [aj r3 z6.vs.toArray 42,aj r2 v.vs.toArray 42,aj r1 (I6.mix k (u.zip (λ x y=>if y<x then y else x) v) u).vs.toArray 42,emp]),⟨6,0,rfl,by omega,by omega,b⟩,?_⟩;rintro h m n ⟨k,rfl,p,hm,d⟩ -
 by_cases c:(k:Int)<6
 ·have a:k<6:=by omega
  have e:=d.quiet (aC.drew _ _);refine aP c ⟨by omega,by omega,u.at' k,?_,by omega,by omega,v.at' k,?_,by omega,by omega,?_⟩
  ·rw[dM,aF e 2 rfl a,I6.cX _ _ _ _ a,ah (by omega)]
  ·rw[dM,aF e 1 rfl a]
  ·rw[dM];refine e.aN 2 rfl a rfl λ s f=>⟨6-(k+1),by omega,k+1,inc (by decide) a,by omega,rfl,?_⟩;rw[show(if v.at' k<u.at' k then v.at' k else u.at' k)=(u.zip (λ x y=>if y<x then y else x) v).at' k by rw[I6.iG _ _ _ _ a],I6.gD _ _ _ a] at f;exact f
 ·obtain rfl:k=6:=by omega
  refine cF (by simp) ⟨_,d.cellsIn 2 rfl,?_⟩;exact d.az 0 rfl (u.zip (λ x y=>if y<x then y else x) v).vs rfl (I6.one _) λ t g=>⟨_,g.cellsIn 0 rfl,rfl,g.av⟩
def within(u v:I6):Bool:=decide (u.a<=v.a)&&(decide (u.b<=v.b)&&(decide (u.c<=v.c)&&(decide (u.d<=v.d)&&(decide (u.e<=v.e)&&decide (u.f<=v.f)))))
def within_iff{u v:I6}:within u v=true<->∀ k,k<6->u.at' k<=v.at' k:=by
 simp only[within,aX,bN];constructor
 ·rintro⟨a,h1,h2,h3,h4,b⟩ k c
  match k,c with
  | 0,_=>exact a
  | 1,_=>exact h1
  | 2,_=>exact h2
  | 3,_=>exact h3
  | 4,_=>exact h4
  | 5,_=>exact b
 ·exact λ h=>⟨h 0 (by decide),h 1 (by decide),h 2 (by decide),h 3 (by decide),h 4 (by decide),h 5 (by decide)⟩
def wE(w:af)(u v:I6):CP 267 #[.agg u.vs.toArray,.agg v.vs.toArray] w (λ r w'=>r=.bool (within u v)/\aC w w' []):=by
 refine BB.2.1 ?_;refine bg (bg ?_);have s2:=(((St.start w).one.fu u.vs.toArray 42).fu v.vs.toArray 42).quiet (aC.drew _ _);refine⟨_,s2.cellsIn 1 rfl,_,s2.cellsIn 0 rfl,_,s2.cellsIn 1 rfl,au (VK _ u v) ?_⟩;rintro r a ⟨rfl,c3⟩;refine⟨_,rfl,bB c3 (s2.cellsIn 1 rfl),?_,(s2.quiet c3).av⟩;have m:∀ x y:Int,((if y<x then y else x)==x)=decide (x<=y):=λ x y=>by
  by_cases h:y<x
  ·rw[ak h,dF (by omega)]; simp; omega
  ·rw[ah h,dT (by omega)]; simp
 simp only[I6.beq,I6.zip,within,m,yM]
def TO(w:af)(u:I6)(hu:I6.Le u 1000000):CP 329 #[.agg u.vs.toArray] w (λ r w'=>r=iv (tot u)/\aC w w' []):=by
 refine BB.2.2.2.2.1 ?_;refine bg ?_;have s1:=(St.start w).one.fu u.vs.toArray 42;generalize h:World.alloc _ _=i at s1 ⊢;generalize g:w.heap.size=r1 at s1 ⊢;let c:I6:=⟨1,1,1,1,1,1⟩;have f:∀ k,k<6->c.at' k=1:=λ k d=>by
  match k,d with
  | 0,_|1,_|2,_|3,_|4,_|5,_=>rfl
 refine⟨u,s1.cellsIn 0 rfl,λ p n e m=>∃ k:Nat,n=k/\k<=6/\m=6-k/\p=Bw c u k/\0<=p/\p<=(k:Int)*1000000/\e=i,⟨6,0,rfl,by omega,by omega,rfl,by simp,by simp,rfl⟩,?_⟩;rintro e m p n ⟨k,rfl,d,hm,hp,j,h1,rfl⟩ -
 by_cases b:(k:Int)<6
 ·have a:k<6:=by omega
  have h2:=hu k a;refine aP b ⟨by omega,by omega,u.at' k,u.get k a,6-(k+1),by omega,k+1,inc (by decide) a,by omega,rfl,?_,?_,?_,rfl⟩
  ·rw[cA (by omega),oM,f k a,hp]; omega
  ·rw[cA (by omega)]; omega
  ·rw[cA (by omega)]; omega
 ·obtain rfl:k=6:=by omega
  refine cF (by simp) ⟨?_,s1.av⟩;rw[hp,vz]; simp[cost,tot,c]
def U1(w:af)(p u:I6)(B:Int)(t:B<=1000000000000)(hp:∀ k,k<6->-B<=p.at' k/\p.at' k<=B)(hu:I6.Le u 4):CP 211 #[.agg p.vs.toArray,.agg u.vs.toArray] w (λ r w'=>r=iv (cost p u)/\aC w w' []):=by
 refine BB.1 ?_;refine bg (bg ?_);have s2:=((St.start w).one.fu p.vs.toArray 57).fu u.vs.toArray 42;generalize o:World.alloc _ _=q at s2 ⊢;generalize i:w.heap.size=r1 at s2 ⊢;generalize l:(w.alloc _).heap.size=r2 at s2 ⊢;have f:∀ k,k<6->-(4*B)<=p.at' k*u.at' k/\p.at' k*u.at' k<=4*B:=λ k b=>by
  have h1:=hp k b;have h2:=hu k b;have h3:0<=B:=by omega
  obtain⟨j,h⟩:∃ j:Nat,u.at' k=(j:Int):=⟨(u.at' k).toNat,by omega⟩;rw[h] at h2 ⊢;have h4:j<=4:=by omega
  match j,h4 with
  | 0,_|1,_|2,_|3,_|4,_=>omega
 refine⟨u,s2.cellsIn 0 rfl,λ s n e m=>∃ k:Nat,n=k/\k<=6/\m=6-k/\s=Bw p u k/\-((k:Int)*(4*B))<=s/\s<=(k:Int)*(4*B)/\e=q,⟨6,0,rfl,by omega,by omega,rfl,by simp,by simp,rfl⟩,?_⟩;rintro e m s n ⟨k,rfl,b,hm,d,g,h1,rfl⟩ -
 by_cases c:(k:Int)<6
 ·have a:k<6:=by omega
  have h2:=f k a;have h3:((k+1:Nat):Int)*(4*B)=(k:Int)*(4*B)+4*B:=by rw[vi,jD]; omega
  have h4:(k:Int)*(4*B)<=5*(4*B)/\0<=(k:Int)*(4*B):=by
   have g:0<=B:=by have:=hp k a; omega
   exact⟨gR (by omega) (by omega),gS (by omega) (by omega)⟩
  refine aP c ⟨by omega,by omega,u.at' k,u.get k a,by omega,by omega,p.at' k,?_,6-(k+1),by omega,k+1,inc (by decide) a,by omega,rfl,?_,?_,?_,rfl⟩
  ·rw[dM,aF s2 1 rfl a]
  ·rw[cW (n:=p.at' k*u.at' k) ⟨by omega,by omega⟩,cA (by omega),oM,d]
  ·rw[cW (n:=p.at' k*u.at' k) ⟨by omega,by omega⟩,cA (by omega)]; omega
  ·rw[cW (n:=p.at' k*u.at' k) ⟨by omega,by omega⟩,cA (by omega)]; omega
 ·obtain rfl:k=6:=by omega
  refine cF (by simp) ⟨?_,s2.av⟩;rw[d,vz]
def fH(m u:I6):Nat->Int
 | 0=>0
 | k+1=>fH m u k*(m.at' k+1)+u.at' k
def xT(m:I6):Nat->Int
 | 0=>1
 | k+1=>xT m k*(m.at' k+1)
abbrev rk (m u:I6):Int:=fH m u 6
theorem Pu(m:I6):∀ k,k<=6->pr (m.l.take k)=xT m k
 | 0,_=>rfl
 | k+1,h=>by rw[aH (m.pT k (by omega)),zl,Pu m k (by omega)]; rfl
def oB(m:I6):pr m.l=xT m 6:=Pu m 6 (by omega)
structure kG (m u:I6):Prop where
 mm:I6.Le m 4
 u:∀ k,k<6->0<=u.at' k/\u.at' k<=m.at' k
def kG.le{m u:I6}(h:kG m u):I6.Le u 4:=λ k a=>by have:=h.mm k a; have:=h.u k a; omega
theorem jN{m u:I6}(h:kG m u):∀ k,k<=6->0<=fH m u k/\fH m u k+1<=xT m k/\xT m k<=5 ^ k
 | 0,_=>⟨by simp[fH],by simp[fH,xT],by simp[xT]⟩
 | k+1,b=>by
  obtain⟨h1,h2,h3⟩:=jN h k (by omega);have hm:=h.mm k (by omega);have hu:=h.u k (by omega);simp only[fH,xT];refine⟨?_,?_,?_⟩
  ·have:=gS h1 (show(0:Int)<=m.at' k+1 by omega); omega
  ·have h4:(fH m u k+1)*(m.at' k+1)<=xT m k*(m.at' k+1):=gR h2 (by omega);rw[jD] at h4; omega
  ·have h4:xT m k*(m.at' k+1)<=5 ^ k*(m.at' k+1):=gR h3 (by omega);have a:(5:Int) ^ k*(m.at' k+1)<=5 ^ k*5:=kQ (by omega) (Int.pow_nonneg (by omega));rw[Db]; omega
def V6(w:af)(m u:I6):CP 337 #[.agg m.vs.toArray,.agg u.vs.toArray] w (λ r w'=>(∃ n e:Int,r=.tuple #[iv n,iv e]/\(e=0<->(pr m.l<=1024/\kG m u))/\(e=0->n=rk m u))/\aC w w' []):=by
 refine(p6 BB).2.1 ?_;refine bg (bg ?_);have s2:=((St.start w).one.fu m.vs.toArray 42).fu u.vs.toArray 42;generalize F:World.alloc _ _=s at s2 ⊢;generalize D:w.heap.size=r1 at s2 ⊢;generalize E:(w.alloc _).heap.size=r2 at s2 ⊢;refine⟨λ b j=>aC s j []/\(b=false<->(pr m.l<=1024/\kG m u)),?_,_,s2.cellsIn 1 rfl,au (y4 s m) ?_⟩
 ·rintro j b ⟨hc,o⟩ -
  cases b with
  | true=>exact cT rfl ⟨⟨0,4,rfl,⟨λ h=>(by cases h),λ h=>(by cases o.2 h)⟩,λ h=>(by cases h)⟩,(s2.quiet hc).av⟩
  | false =>
   obtain⟨hp,c⟩:=o.1 rfl;have i:=s2.quiet hc;refine cF rfl ⟨m,i.cellsIn 1 rfl,λ p n t x=>∃ k:Nat,n=k/\k<=6/\x=6-k/\p=fH m u k/\t=j,⟨6,0,rfl,by omega,by omega,rfl,rfl⟩,?_⟩;rintro t x p n ⟨k,rfl,f,L,rfl,rfl⟩ -
   by_cases g:(k:Int)<6
   ·have a:k<6:=by omega
    have y:=jN c k f;have I:=jN c (k+1) a;have hm:=c.mm k a;have hu:=c.u k a;have J:(5:Int) ^ (k+1)<=15625:=by
     match k,a with
     | 0,_|1,_|2,_|3,_|4,_|5,_=>decide
    refine aP g ⟨by omega,by omega,m.at' k,m.get k a,by omega,by omega,u.at' k,by rw[dM,aF i 0 rfl a],6-(k+1),by omega,k+1,inc (by decide) a,by omega,rfl,?_,rfl⟩;have e:fH m u (k+1)=fH m u k*(m.at' k+1)+u.at' k:=rfl;have K:0<=fH m u k*(m.at' k+1):=gS y.1 (by omega);rw[cW (n:=m.at' k+1) ⟨by omega,by omega⟩,cW (n:=fH m u k*(m.at' k+1)) ⟨by omega,by omega⟩,cA (by omega),e]
   ·obtain rfl:k=6:=by omega
    exact cF (by simp) ⟨⟨_,0,rfl,⟨λ _=>⟨hp,c⟩,λ _=>rfl⟩,λ _=>rfl⟩,i.av⟩
 ·rintro v G ⟨rfl,c5⟩;refine⟨_,rfl,?_⟩
  by_cases g1:m.l.all iy=true/\pr m.l<=1024
  ·rw[ak g1];have B:=(oY g1.1).1;refine cF (by simp; omega) ⟨_,(s2.quiet c5).cellsIn 0 rfl,au (iq G u) ?_⟩;rintro v H ⟨rfl,z⟩;refine⟨_,rfl,?_⟩;have d:=c5.trans z (by simp)
   by_cases g2:u.l.all iy=true
   ·rw[ak g2];have q:=s2.quiet d;refine cF rfl ⟨_,q.cellsIn 0 rfl,_,q.cellsIn 1 rfl,au (wE H u m) ?_⟩;rintro v M ⟨rfl,A⟩;refine⟨_,rfl,d.trans A (by simp),?_⟩;have C:=Bl g2
    cases g3:within u m with
    | true=>exact⟨λ _=>⟨g1.2,Bl g1.1,λ k f=>⟨(C k f).1,within_iff.1 g3 k f⟩⟩,λ _=>rfl⟩
    | false=>exact⟨λ h=>(by cases h),λ h=>(by rw[within_iff.2 λ k f=>(h.2.u k f).2] at g3; cases g3)⟩
   ·rw[ah g2];exact cT rfl ⟨d,λ h=>(by cases h),λ h=>absurd (leq h.2.le) g2⟩
  ·rw[ah g1];exact cT rfl ⟨c5,λ h=>(by cases h),λ h=>absurd ⟨leq h.2.mm,h.1⟩ g1⟩
def qk(u m:I6):Nat->I6
 | 0=>z6
 | k+1=>if u.at' k<m.at' k then (I6.mix (k+1) u z6).put k (u.at' k+1) else qk u m k
abbrev nT (u m:I6):I6:=qk u m 6
def jB(k:Nat):z6.at' k=0:=by
 match k with
 | 0|1|2|3|4|5=>rfl
 | n+6=>rfl
def FI(w:af){u m:I6}(h:kG m u):CP 357 #[.agg u.vs.toArray,.agg m.vs.toArray] w (λ r w'=>r=.agg (nT u m).vs.toArray/\aC w w' []):=by
 refine(p6 BB).2.2.2.1 ?_;refine bg (bg (bg ?_));have c:=(((St.start w).one.fu u.vs.toArray 42).fu m.vs.toArray 42).fu z6.vs.toArray 42;generalize y:World.alloc _ _=D at c ⊢;generalize s:w.heap.size=r1 at c ⊢;generalize t:(w.alloc _).heap.size=r2 at c ⊢;generalize v:((w.alloc _).alloc _).heap.size=r3 at c ⊢;refine⟨λ n q x=>∃ k:Nat,n=(k:Int)-1/\k<=6/\x=k/\nT u m=qk u m k/\St w q (Sep [aj r3 z6.vs.toArray 42,aj r2 m.vs.toArray 42,aj r1 (I6.mix k u z6).vs.toArray 42,emp]),⟨6,6,rfl,by omega,rfl,rfl,c⟩,?_⟩;rintro q x n ⟨k,rfl,B,C,o,p⟩ -
 by_cases l:(0:Int)<=(k:Int)-1
 ·obtain⟨j,rfl⟩:∃ j,k=j+1:=⟨k-1,by omega⟩;have a:j<6:=by omega
  rw[show((j+1:Nat):Int)-1=(j:Int) by omega] at *;have f:=p.quiet (aC.drew _ _);have hu:=h.u j a;have hm:=h.mm j a;have cu:q.drew.cell? (Addr.add ⟨r1,0,none⟩ ((j:Int).toNat*1))=some (iv (u.at' j)):=by
   rw[dM,aF f 2 rfl a,I6.cX _ _ _ _ a,ak (by omega)]
  refine aP (show(j:Int)>=0 by omega) ⟨by omega,by omega,u.at' j,cu,by omega,by omega,m.at' j,by rw[dM,aF f 1 rfl a],?_⟩
  by_cases g:u.at' j<m.at' j
  ·refine aP g ⟨by omega,by omega,u.at' j,cu,by omega,by omega,?_⟩;rw[dM,cA (by omega)];refine f.aN 2 rfl a rfl λ z b=>?_;rw[I6.jf _ _ _ a] at b;have e:nT u m=(I6.mix (j+1) u z6).put j (u.at' j+1):=by rw[o]; unfold qk; rw[ak g]
   rw[<- e] at b;exact⟨_,b.cellsIn 2 rfl,b.az 0 rfl (nT u m).vs rfl (I6.one _) λ A d=>⟨_,d.cellsIn 0 rfl,rfl,d.av⟩⟩
  ·refine aU g ⟨by omega,by omega,?_⟩;rw[dM];refine f.aN 2 rfl a rfl λ z b=>⟨j,by omega,j,cA (by omega),by omega,rfl,?_,?_⟩
   ·rw[o]; conv=>lhs; unfold qk
    rw[ah g]
   ·have e:(I6.mix (j+1) u z6).put j 0=I6.mix j u z6:=by
     refine I6.ext' λ i hi=>?_;rw[I6.ie _ _ _ _ a hi,I6.cX _ _ _ _ hi,I6.cX _ _ _ _ hi,jB]
     by_cases h1:i=j
     ·rw[ak h1,ah (by omega)]
     ·rw[ah h1]
      by_cases h2:i<j
      ·rw[ak (by omega),ak h2]
      ·rw[ah (by omega),ah h2]
    rw[I6.jf _ _ _ a,e] at b;exact b
 ·obtain rfl:k=0:=by omega
  have e:nT u m=z6:=o;refine aU l ⟨_,p.cellsIn 2 rfl,?_⟩;rw[I6.OP] at *;exact p.az 0 rfl z6.vs rfl (I6.one _) λ A d=>⟨_,d.cellsIn 0 rfl,by rw[e],d.av⟩
theorem KR(m:I6):∀ k,fH m z6 k=0
 | 0=>rfl
 | k+1=>by simp[fH,KR m k,jB]
def Kt{u m:I6}(h:kG m u):kG m (nT u m):=by
 suffices H:∀ k,k<=6->∀ j,j<6->0<=(qk u m k).at' j/\(qk u m k).at' j<=m.at' j from⟨h.mm,H 6 (by omega)⟩
 intro k
 induction k with
 | zero=>intro _ j a; have:=h.mm j a; simp only[qk,jB]; omega
 | succ k b =>
  intro c j a;unfold qk;have hu:=h.u j a
  split
  ·rename_i g;rw[I6.ie _ _ _ _ (by omega) a]
   split
   ·rename_i e; subst e; have:=h.u j a; omega
   ·rw[I6.cX _ _ _ _ a,jB]
    split<;>omega
  ·exact b (by omega) j a
def Ec{u m:I6}(h:kG m u):(nT u m=z6/\∀ k,k<6->u.at' k=m.at' k)\/(rk m (nT u m)=rk m u+1):=by
 suffices H:∀ k,k<=6->(∀ j,k<=j->j<6->u.at' j=m.at' j)->(qk u m k=z6/\∀ j,j<6->u.at' j=m.at' j)\/(rk m (qk u m k)=rk m u+1) from H 6 (by omega) λ j h1 h2=>by omega
 intro k
 induction k with
 | zero=>exact λ _ ha=>.inl ⟨rfl,λ j c=>ha j (by omega) c⟩
 | succ k e =>
  intro f ha;unfold qk
  by_cases g:u.at' k<m.at' k
  ·rw[ak g];refine .inr ?_;have a:∀ j,j<6->((I6.mix (k+1) u z6).put k (u.at' k+1)).at' j=if j=k then u.at' k+1 else if j<k then u.at' j else 0:=λ j c=>by
    rw[I6.ie _ _ _ _ (by omega) c]
    split
    ·rfl
    ·rw[I6.cX _ _ _ _ c,jB]
     by_cases h2:j<k
     ·rw[ak (by omega),ak h2]
     ·rw[ah (by omega),ah h2]
   have low:∀ i,i<=k->fH m ((I6.mix (k+1) u z6).put k (u.at' k+1)) i=fH m u i:=by
    intro i
    induction i with
    | zero=>intro _; rfl
    | succ i b =>
     intro hi;simp only[fH];rw[b (by omega),a i (by omega),ah (by omega),ak (by omega)]
   have high:∀ d,k+1+d<=6->fH m ((I6.mix (k+1) u z6).put k (u.at' k+1)) (k+1+d)=fH m u (k+1+d)+1:=by
    intro d
    induction d with
    | zero =>
     intro _;show fH m _ (k+1)=fH m u (k+1)+1;simp only[fH];rw[low k (by omega),a k (by omega),ak rfl];omega
    | succ d b =>
     intro hd;show fH m _ (k+1+d+1)=fH m u (k+1+d+1)+1;simp only[fH];rw[b (by omega),a _ (by omega),ah (by omega),ah (by omega),ha (k+1+d) (by omega) (by omega),jD];omega
   have:=high (6-(k+1)) (by omega);rw[show k+1+(6-(k+1))=6 by omega] at this;exact this
  ·rw[ah g];refine e (by omega) λ j h1 h2=>?_;rcases bw k j with h3|h3
   ·exact ha j (by omega) h2
   ·obtain rfl:j=k:=by omega
    have:=h.u j h2;omega
def aK(m:I6):Nat->I6
 | 0=>z6
 | i+1=>nT (aK m i) m
def aE(m:I6):Nat:=(pr m.l).toNat
theorem Ef(m:I6)(h:I6.Le m 4):∀ k,k<=6->fH m m k+1=xT m k
 | 0,_=>rfl
 | k+1,a=>by
  simp only[fH,xT];rw[<- Ef m h k (by omega),jD];omega
def wI{m:I6}(h:I6.Le m 4):kG m z6:=⟨h,λ k a=>by have:=h k a; rw[jB]; omega⟩
theorem ct{m:I6}(h:I6.Le m 4):∀ i,kG m (aK m i)
 | 0=>wI h
 | i+1=>Kt (ct h i)
def gB{m:I6}(h:I6.Le m 4):0<aE m/\(aE m:Int)=pr m.l/\aE m<=15625:=by
 have h1:=oY (leq h);have h2:m.l.length=6:=rfl;rw[h2] at h1;have h3:(5:Int) ^ 6=15625:=by decide
 unfold aE;omega
theorem iZ{m:I6}(h:I6.Le m 4):∀ i,i<aE m->rk m (aK m i)=i
 | 0,_=>KR m 6
 | i+1,hi=>by
  have h1:=iZ h i (by omega);rcases Ec (ct h i) with⟨_,h2⟩|h2
  ·exfalso
   have h3:aK m i=m:=I6.ext' h2;rw[h3] at h1;have h4:=Ef m h 6 (by omega);have a:=(gB h).2.1;rw[oB] at a;have b:fH m m 6=(i:Int):=h1;omega
  ·show rk m (nT (aK m i) m)=_;rw[h2,h1]; omega
def Fi{m:I6}(h:I6.Le m 4){i:Nat}(hi:i<aE m):nT (aK m i) m=z6<->i+1=aE m:=by
 have h1:=iZ h i hi;have b:=(gB h).2.1;have h4:=Ef m h 6 (by omega);rw[oB] at b;constructor
 ·intro e;rcases Ec (ct h i) with⟨_,h2⟩|h2
  ·have h3:aK m i=m:=I6.ext' h2;rw[h3] at h1;have a:fH m m 6=(i:Int):=h1;omega
  ·rw[e] at h2;have a:fH m z6 6=rk m (aK m i)+1:=h2;rw[KR,h1] at a;omega
 ·intro e;rcases Ec (ct h i) with⟨h2,_⟩|h2
  ·exact h2
  ·exfalso
   have c:=jN (Kt (ct h i)) 6 (by omega);have a:fH m (nT (aK m i) m) 6=rk m (aK m i)+1:=h2;rw[h1] at a;omega
def J5{w0 w:af}{b l:Nat}{m:I6}(hm:I6.Le m 4){R:Nat->aI}{B:aI}(A:∀ (i:Nat) (q:af) (Fr:aI),i<aE m->St w0 q (star (R i) Fr)->pK prog l #[.agg (aK m i).vs.toArray] q λ g u=>g=true/\St w0 u (star (R (i+1)) Fr))(h:St w0 w (star (R 0) (star (aj b m.vs.toArray 42) B))) :
  CP 356 #[.func (.yield l) #[] #[],.pointer (qs b)] w (λ r w'=>r=.tuple #[]/\St w0 w' (star (R (aE m)) (star (aj b m.vs.toArray 42) B))):=by
 refine wS ?_;unfold tZ;refine bg ?_;obtain⟨n,_,_⟩:=gB hm;have s1:St w0 (w.alloc (.cells z6.vs.toArray 42)) (Sep [aj w.heap.size z6.vs.toArray 42,R 0,aj b m.vs.toArray 42,B]):=h.zy.fu _ _;generalize World.alloc _ _=q at s1 ⊢;generalize w.heap.size=r1 at s1 ⊢;refine s1.az 0 rfl z6.vs rfl (I6.one _) λ u s2=>?_;refine⟨λ f x=>∃ i,i<aE m/\x=aE m-i/\St w0 f (Sep [aj r1 (aK m i).vs.toArray 42,R i,aj b m.vs.toArray 42,B]),⟨aE m,0,n,by omega,s2⟩,?_⟩;rintro f x ⟨i,hi,rfl,s⟩ -;refine⟨_,s.cellsIn 0 rfl,?_⟩;have o:St w0 f (star (R i) (Sep [aj r1 (aK m i).vs.toArray 42,aj b m.vs.toArray 42,B])):=s.out 1 rfl;have D:=A i f _ hi o;obtain⟨fn,tmps,j,k,a,z⟩:=D;refine⟨fn,tmps,j,k,a,z.mono λ e y ⟨g,he,C,E⟩=>⟨g,he,g,rfl,?_⟩⟩;subst C;have p:St w0 y (Sep [R (i+1),aj r1 (aK m i).vs.toArray 42,aj b m.vs.toArray 42,B]):=E;refine cT rfl ⟨_,p.cellsIn 1 rfl,_,p.cellsIn 2 rfl,au (FI y (ct hm i)) ?_⟩;rintro v G ⟨rfl,c5⟩;refine⟨_,rfl,(p.quiet c5).az 1 rfl _ rfl (I6.one _) λ F t=>⟨_,t.cellsIn 1 rfl,?_⟩⟩;have c:St w0 F (Sep [R (i+1),aj r1 (nT (aK m i) m).vs.toArray 42,aj b m.vs.toArray 42,B]):=t
 by_cases d:nT (aK m i) m=z6
 ·have e:=(Fi hm hi).1 d;rw[<- e];exact cT (by rw[d]; rfl) ⟨rfl,(c.ay [0,2,3]).triple⟩
 ·refine cF (by rw[I6.beq_eq]; exact dF d) ⟨aE m-(i+1),by omega,i+1,?_,rfl,c.ay [1,0,2,3]⟩;have:i+1≠aE m:=λ e=>d ((Fi hm hi).2 e);omega
def T5{w0 w:af}{A:aI}(s:St w0 w A)(m:I6)(hm:I6.Le m 4)(hp:pr m.l<=1024):CP 294 #[.agg m.vs.toArray] w (λ r w'=>∃ b,r=.func (.func 356) #[] #[.pointer (qs b)]/\St w0 w' (star (aj b m.vs.toArray 42) A)):=by
 refine BB.2.2.1 ?_;refine bg ?_;have s1:=s.one.fu m.vs.toArray 42;generalize World.alloc _ _=a at s1 ⊢;generalize w.heap.size=r1 at s1 ⊢;refine⟨_,s1.cellsIn 0 rfl,au (y4 a m) ?_⟩;rintro v c ⟨rfl,c2⟩;refine⟨_,rfl,?_⟩;have h1:=(oY (leq hm)).1;rw[ak ⟨leq hm,hp⟩];have s2:=s1.quiet c2;refine cF (by simp; omega) ⟨_,s2.cellsIn 0 rfl,?_⟩;refine au (K:=λ r w'=>∃ b,r=.func (.func 356) #[] #[.pointer (qs b)]/\St w0 w' (star (aj b m.vs.toArray 42) A)) ((p6 BB).1 ?_) ?_
 ·skip
  exact bg ⟨_,rfl,((s2.ay [1]).fu m.vs.toArray 42).pair⟩
 ·exact λ v w' h=>⟨v,rfl,h⟩

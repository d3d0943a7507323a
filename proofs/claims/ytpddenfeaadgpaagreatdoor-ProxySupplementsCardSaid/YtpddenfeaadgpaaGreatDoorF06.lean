import Derived.Test.YtpddenfeaadgpaaGreatDoorF05
set_option linter.unusedVariables false
set_option maxRecDepth 100000
namespace Go.Proofs.YtpddenfeaadgpaaGreatDoor
open Go Go.Vc _root_.Go.Proofs.Tryz
theorem Cx(w:World)(p:I6):CP 35 #[.agg p.vs.toArray] w (λ r w'=>r=iv (if bw p then 0 else 4)/\ax w w' []):=by
 refine kC ?_;unfold gO;refine(St.start w).one.av p.vs.toArray λ r1 w1 s1=>⟨p,s1.cellsIn 0 rfl,λ n w2 m=>∃ k:Nat,n=k/\k<=6/\m=6-k/\(p.l.take k).all fy=true/\w2=w1,⟨6,0,rfl,by omega,by omega,rfl,rfl⟩,?_⟩;rintro w2 m n ⟨k,rfl,hk,hm,ha,rfl⟩ -
 by_cases hlt:(k:Int)<6
 ·have hk' : k<6:=by omega
  refine cT (dT hlt) ⟨by omega,by omega,_,p.get k hk',λ b w3=>b = !(fy (p.at' k))/\w3=w2,?_,?_⟩
  ·rintro w3 b ⟨rfl,rfl⟩ -
   cases hx:fy (p.at' k) with
   | true=>exact cF rfl ⟨6-(k+1),by omega,k+1,inc (by decide) hk',by omega,rfl,cN ha (p.ia k hk') hx,rfl⟩
   | false=>exact cT rfl ⟨by rw[bw,dO (p.ia k hk') hx]; rfl,s1.an⟩
  ·by_cases g:p.at' k<0
   ·exact cT (dT g) ⟨by simp[fy]; omega,rfl⟩
   ·refine cF (dF g) ⟨?_,rfl⟩
    by_cases g2:p.at' k>1000000
    ·rw[dT g2]; simp[fy]; omega
    ·rw[dF g2]; simp[fy]; omega
 ·obtain rfl:k=6:=by omega
  refine cF (by simp) ⟨?_,s1.an⟩;rw[bw,show p.l.all fy=true from ha]; rfl
theorem D5(w:World)(p:I6):CP 72 #[.agg p.vs.toArray] w (λ r w'=>r=.bool (bw p)/\ax w w' []):=by
 refine mT ?_;unfold ju;refine(St.start w).one.av p.vs.toArray λ r1 w1 s1=>⟨p,s1.cellsIn 0 rfl,λ n w2 m=>∃ k:Nat,n=k/\k<=6/\m=6-k/\(p.l.take k).all fy=true/\w2=w1,⟨6,0,rfl,by omega,by omega,rfl,rfl⟩,?_⟩;rintro w2 m n ⟨k,rfl,hk,hm,ha,rfl⟩ -
 by_cases hlt:(k:Int)<6
 ·have hk' : k<6:=by omega
  refine cT (dT hlt) ⟨by omega,by omega,_,p.get k hk',λ b w3=>b = !(fy (p.at' k))/\w3=w2,?_,?_⟩
  ·rintro w3 b ⟨rfl,rfl⟩ -
   cases hx:fy (p.at' k) with
   | true=>exact cF rfl ⟨6-(k+1),by omega,k+1,inc (by decide) hk',by omega,rfl,cN ha (p.ia k hk') hx,rfl⟩
   | false=>exact cT rfl ⟨by rw[bw,dO (p.ia k hk') hx],s1.an⟩
  ·by_cases g:p.at' k<0
   ·exact cT (dT g) ⟨by simp[fy]; omega,rfl⟩
   ·refine cF (dF g) ⟨?_,rfl⟩
    by_cases g2:p.at' k>1000000
    ·rw[dT g2]; simp[fy]; omega
    ·rw[dF g2]; simp[fy]; omega
 ·obtain rfl:k=6:=by omega
  refine cF (by simp) ⟨?_,s1.an⟩;rw[bw,show p.l.all fy=true from ha]
def qX(b:I6)(v:Int)(x:Of):Int:=if x.v>v/\within x.want b=true then x.v else v
def jk(l:List Of)(b:I6):Int:=l.foldl (qX b) 0
theorem Hp{w:World}{a:OA}{c:Nat}{l:List Of}(hr:iQ w a l)(hl:l.length<=1000000)(b:I6) :
  CP 122 #[.slice a l.length c,.agg b.vs.toArray] w (λ r w'=>r=iv (jk l b)/\ax w w' []):=by
 refine o9 ?_;unfold mh;refine(St.start w).one.av b.vs.toArray λ r1 w1 s1=>?_;let M:List aJ:=[ah r1 b.vs.toArray 35,emp];refine⟨λ n i w2 m=>∃ k:Nat,i=k/\k<=l.length/\m=l.length-k/\n=(l.take k).foldl (qX b) 0/\St w w2 (Sep M),⟨l.length,0,rfl,by omega,by omega,rfl,s1⟩,?_⟩;rintro w2 m n i ⟨k,rfl,hk,hm,rfl,s2⟩ -
 by_cases hlt:(k:Int)<(l.length:Int)
 ·have hx:l[k]?=some (l[k]'(by omega)):=gE (by omega);generalize l[k]'(by omega)=y at hx;obtain⟨p,hp,hcl⟩:=(hr.an s2.an).at hx;have ef:=dK (f:=qX b) (a:=0) hx;generalize(l.take k).foldl (qX b) 0=v0 at ef;refine cT (dT hlt) ⟨λ n w3=>n=(l.take (k+1)).foldl (qX b) 0/\St w w3 (Sep M),?_,ai hp ⟨by omega,by omega,_,y.want,_,hcl,s2.av FQ.cells.toArray λ r2 w4 s4=>s4.az 0 rfl y.cells rfl y.one λ w5 s5=>?_⟩⟩
  ·rintro w3 n ⟨rfl,s3⟩ -;exact⟨l.length-(k+1),by omega,k+1,ay ⟨by omega,by omega⟩,by omega,rfl,rfl,s3⟩
  have s5:St w w5 (Sep (ah r2 y.cells.toArray 81 :: M)):=s5;refine⟨λ t w6=>t=decide (y.v>v0/\within y.want b=true)/\St w w6 (Sep (ah r2 y.cells.toArray 81 :: M)),?_,_,s5.ag 0 rfl 7,?_⟩
  ·rintro w6 t ⟨rfl,s6⟩ -
   by_cases hb:y.v>v0/\within y.want b=true
   ·exact cT (dT hb) ⟨_,s6.ag 0 rfl 7,by rw[ef,qX,if_pos hb],s6.aA [1,2]⟩
   ·exact cF (dF hb) ⟨by rw[ef,qX,if_neg hb],s6.aA [1,2]⟩
  by_cases g:y.v>v0
  ·refine cT (dT g) ⟨y.want,s5.aF 0 1 rfl rfl,b,s5.cellsIn 1 rfl,aq (tq w5 y.want b) ?_⟩;rintro v w6 ⟨rfl,c6⟩;refine⟨_,rfl,?_,s5.quiet c6⟩
   cases hw:within y.want b with
   | true=>exact(dT (p:=y.v>v0/\true=true) ⟨g,rfl⟩).symm
   | false=>exact(dF (p:=y.v>v0/\false=true) λ h=>by cases h.2).symm
  ·exact cF (dF g) ⟨(dF λ h=>g h.1).symm,s5⟩
 ·obtain rfl:l.length=k:=by omega
  rw[List.take_length];exact cF (dF hlt) ⟨rfl,s2.an⟩
def cJ(x:Of):Bool:=x.want.l.all dD&&(decide (1<=x.v)&&decide (x.v<=1000000))
def tD(l:List Of):List Of:=l.filter cJ
theorem DU(l:List Of):(tD l).length<=l.length:=List.length_filter_le _ _
theorem CB{α:Type}{f:α->Bool}{l:List α}{k:Nat}{y:α}(hx:l[k]?=some y):(l.take (k+1)).filter f=if f y=true then (l.take k).filter f++[y] else (l.take k).filter f:=by
 rw[aQ hx,List.filter_append]
 cases h:f y<;>simp[h]
theorem JJ:gW prog 130 81 (.agg FQ.cells.toArray) 8 64:=gW.mk' underlying130 (by kernel_rfl) rfl (by decide)
theorem zN{w:World}{a:OA}{c:Nat}{l:List Of}(hr:iQ w a l)(hl:l.length<=100000) :
  CP 75 #[.slice a l.length c] w (λ r w'=>∃ a' c',r=.slice a' (tD l).length c'/\St w w' (cw a' c' (tD l))):=by
 refine jI ?_;unfold fQ;refine⟨λ a' n c' i w2 m=>∃ k:Nat,i=k/\k<=l.length/\m=l.length-k/\n=((l.take k).filter cJ).length/\St w w2 (Sep [cw a' c' ((l.take k).filter cJ),emp]),⟨l.length,0,rfl,by omega,by omega,rfl,(St.start w).one.gU (e:=81) (sz:=8) (f:=Of.cells)⟩,?_⟩;rintro w2 m a2 l2 c2 i ⟨k,rfl,hk,hm,rfl,s2⟩ -
 by_cases hlt:(k:Int)<(l.length:Int)
 ·have hx:l[k]?=some (l[k]'(by omega)):=gE (by omega);generalize l[k]'(by omega)=y at hx;obtain⟨p,hp,hcl⟩:=(hr.an s2.an).at hx;have ef:=CB (f:=cJ) hx;have hlen:((l.take k).filter cJ).length<=100000:=Nat.le_trans (List.length_filter_le _ _) (by rw[List.length_take]; omega);generalize(l.take k).filter cJ=o0 at ef s2 hlen;refine cT (dT hlt) ⟨λ a' n c' w3=>n=((l.take (k+1)).filter cJ).length/\St w w3 (Sep [cw a' c' ((l.take (k+1)).filter cJ),emp]),?_,ai hp ⟨by omega,by omega,_,y.want,_,hcl,s2.av FQ.cells.toArray λ r2 w4 s4=>s4.az 0 rfl y.cells rfl y.one λ w5 s5=>?_⟩⟩
  ·rintro w3 a3 n c3 ⟨rfl,s3⟩ -;exact⟨l.length-(k+1),by omega,k+1,ay ⟨by omega,by omega⟩,by omega,rfl,rfl,s3⟩
  have s5:St w w5 (Sep [ah r2 y.cells.toArray 81,cw a2 c2 o0,emp]):=s5;refine⟨λ t w6=>t=cJ y/\St w w6 (Sep [ah r2 y.cells.toArray 81,cw a2 c2 o0,emp]),?_,y.want,s5.aF 0 1 rfl rfl,aq (dr w5 y.want) ?_⟩
  ·rintro w6 t ⟨rfl,s6⟩ -
   cases hb:cJ y with
   | true =>
    rw[if_pos hb] at ef;refine cT rfl ⟨_,y.want,_,s6.cellsIn 0 rfl,s6.av y.cells.toArray λ r9 w8 s8=>?_⟩;refine aY (l2:=[y]) JJ Of.len Of.one (s8.out 2 rfl) (cH (s8.cellsIn 0 rfl) rfl) (by simp; omega) (by simp; omega) λ a' c' w9 s9=>?_;have s9:=s9.back (i:=2) (by show 2<4; decide);exact⟨by rw[ef],by rw[ef]; exact s9.aA [2,3]⟩
   | false =>
    rw[if_neg (by rw[hb]; decide)] at ef;exact cF rfl ⟨by rw[ef],by rw[ef]; exact s6.aA [1,2]⟩
  rintro v w6 ⟨rfl,c6⟩;have s6:=s5.quiet c6;refine⟨_,rfl,?_⟩
  cases hq:y.want.l.all dD with
  | false=>exact cF rfl ⟨by rw[cJ,hq]; rfl,s6⟩
  | true =>
   have e1:cJ y=(decide (1<=y.v)&&decide (y.v<=1000000)):=by rw[cJ,hq]; rfl
   refine cT rfl ⟨_,s6.ag 0 rfl 7,?_⟩
   by_cases g1:1<=y.v
   ·rw[dT g1,Bool.true_and] at e1;exact cT (dT g1) ⟨_,s6.ag 0 rfl 7,e1.symm,s6⟩
   ·exact cF (dF g1) ⟨by rw[e1,dF g1]; rfl,s6⟩
 ·obtain rfl:l.length=k:=by omega
  rw[List.take_length] at s2 ⊢;exact cF (dF hlt) ⟨_,_,rfl,s2.first⟩
theorem th{l:List Of}{b:I6}(h:∀ x∈l,x.v<=1000000):0<=jk l b/\jk l b<=1000000:=by
 unfold jk
 suffices H:∀ (l:List Of) (v:Int),(∀ x∈l,x.v<=1000000)->0<=v->v<=1000000->0<=l.foldl (qX b) v/\l.foldl (qX b) v<=1000000 from H l 0 h (by omega) (by omega)
 intro l
 induction l with
 | nil=>intro v _ h1 h2; exact⟨h1,h2⟩
 | cons x l ih =>
  intro v hx h1 h2;refine ih _ (λ y hy=>hx y (List.mem_cons_of_mem _ hy)) ?_ ?_<;>unfold qX<;>split<;>first|omega|(have:=hx x (List.mem_cons_self ..); omega)
theorem zM{l:List Of}:∀ x∈tD l,x.v<=1000000:=λ x hx=>by
 have:=(List.mem_filter.1 hx).2;simp only[cJ,Bool.and_eq_true,decide_eq_true_eq] at this;exact this.2.2
theorem xE{p u:I6}(hp:I6.Le p 1000000)(hu:I6.Le u 4):0<=cost p u/\cost p u<=24000000:=by
 have key:∀ k,k<6->0<=p.at' k*u.at' k/\p.at' k*u.at' k<=4000000:=λ k hk=>by
  obtain⟨a1,a2⟩:=hp k hk; obtain⟨b1,b2⟩:=hu k hk;refine⟨Int.mul_nonneg a1 b1,?_⟩;have:=Int.mul_le_mul a2 b2 b1 (by omega);omega
 have h0:=key 0 (by decide); have h1:=key 1 (by decide); have h2:=key 2 (by decide); have h3:=key 3 (by decide); have h4:=key 4 (by decide); have h5:=key 5 (by decide);simp only[I6.at'] at h0 h1 h2 h3 h4 h5;unfold cost;omega
def bG(l:List Of)(p b:I6):Int:=if bw p=true/\b.l.all dD=true then jk (tD l) b-cost p b else 0
theorem Ah{w:World}{a:OA}{c:Nat}{l:List Of}(hr:iQ w a l)(hl:l.length<=1000000)(hv:∀ x∈l,x.v<=1000000){p b:I6}(hp:I6.Le p 1000000)(hb:I6.Le b 4) :
  CP 74 #[.slice a l.length c,.agg p.vs.toArray,.agg b.vs.toArray] w (λ r w'=>r=iv (jk l b-cost p b)/\ax w w' []):=by
 refine fA ?_;unfold dw;refine(St.start w).one.av p.vs.toArray λ r1 w1 s1=>s1.av b.vs.toArray λ r2 w2 s2=>?_;have s3:=s2.quiet (ax.drew w2 []);refine⟨b,s3.cellsIn 0 rfl,p,s3.cellsIn 1 rfl,b,s3.cellsIn 0 rfl,aq (Hp (hr.an s3.an) hl b) ?_⟩;rintro v w4 ⟨rfl,c4⟩;have s4:=s3.quiet c4;refine⟨_,rfl,s4.cellsIn 0 rfl,s4.cellsIn 1 rfl,aq (eV w4 hp hb) ?_⟩;rintro v w5 ⟨rfl,c5⟩;have h1:=th (b:=b) hv;have h2:=xE hp hb;exact⟨_,rfl,by rw[ay ⟨by omega,by omega⟩],(s4.quiet c5).an⟩
theorem ni{b:I6}(h:b.l.all dD=true):I6.Le b 4:=λ k hk=>by
 have:=List.all_eq_true.1 h _ (List.mem_of_getElem? (b.ia k hk));simpa[dD] using this
theorem vn{w:World}{a:OA}{c:Nat}{l:List Of}(hr:iQ w a l)(hl:l.length<=100000)(p b:I6) :
  CP 39 #[.slice a l.length c,.agg p.vs.toArray,.agg b.vs.toArray] w (λ r w'=>r=iv (bG l p b)/\ax w w' []):=by
 refine j8 ?_;unfold gD;refine(St.start w).one.av p.vs.toArray λ r1 w1 s1=>s1.av b.vs.toArray λ r2 w2 s2=>?_;have s2:St w w2 (Sep [ah r2 b.vs.toArray 35,ah r1 p.vs.toArray 30,emp]):=s2;refine⟨λ t w3=>t = !(bw p&&b.l.all dD)/\St w w3 (Sep [ah r2 b.vs.toArray 35,ah r1 p.vs.toArray 30,emp]),?_,p,s2.cellsIn 1 rfl,aq (D5 w2 p) ?_⟩
 ·rintro w3 t ⟨rfl,s3⟩ -
  cases hg:(bw p&&b.l.all dD) with
  | false =>
   refine cT rfl ⟨?_,s3.an⟩;rw[bG,if_neg];rintro⟨h1,h2⟩;rw[h1,h2] at hg; cases hg
  | true =>
   obtain⟨h1,h2⟩:=Bool.and_eq_true_iff.1 hg;have s4:=s3.quiet (ax.drew w3 []);refine cF rfl ⟨p,s4.cellsIn 1 rfl,b,s4.cellsIn 0 rfl,aq (zN (hr.an s4.an) hl) ?_⟩;rintro v w5 ⟨a',c',rfl,s5⟩;have s6:=s4.and s5;have s6:St w w5 (Sep [_,_,_,_]):=s6;have hrd:iQ w5 a' (tD l):=St.rd Of.len (s6.out 0 rfl);refine⟨_,_,_,rfl,s6.cellsIn 1 rfl,s6.cellsIn 2 rfl,aq (Ah (c:=c') hrd (Nat.le_trans (DU l) (by omega)) zM (eY.1 h1) (ni h2)) ?_⟩;rintro v w7 ⟨rfl,c7⟩;exact⟨_,rfl,by rw[bG,if_pos ⟨h1,h2⟩],(s6.quiet c7).an⟩
 rintro v w3 ⟨rfl,c3⟩;have s3:=s2.quiet c3;refine⟨_,rfl,?_⟩
 cases hp:bw p with
 | false=>exact cT rfl ⟨rfl,s3⟩
 | true =>
  refine cF rfl ⟨b,s3.cellsIn 0 rfl,aq (dr w3 b) ?_⟩;rintro v w4 ⟨rfl,c4⟩;refine⟨_,rfl,?_,s3.quiet c4⟩
  cases hq:b.l.all dD<;>rfl
def mE(a:OA)(b c:Nat)(d:OA)(e f:Nat)(g:OA)(h i:Nat)(j:OA)(k l:Nat)(m:Int)(n:I6)(w:World)(K:KP):=au w (.cells #[.slice a b c,.slice d e f,.slice g h i,.slice j k l] 27) λ a b=>au b (.cells n.vs.toArray 35) λ b c=>∃ d e f g h i j k l n o p,af c (qd a 0) 0 [.slice d e f,.slice g h i,.slice j k l,.slice n o p]/\CC 34 #[.agg #[.slice d e f,.slice g h i,.slice j k l,.slice n o p]] c λ c d=>∃ e,c=.returned (iv e)/\cond (e !=0) (K (iv e) d) (∃ c e f g h i j k l n o p,af d (qd a 0) 0 [.slice c e f,.slice g h i,.slice j k l,.slice n o p]/\∃ a:I6,af d (qd b 0) 0 a.vs/\CC 69 #[.agg #[.slice c e f,.slice g h i,.slice j k l,.slice n o p],iv m,.agg a.vs.toArray] d λ a b=>∃ c,a=.returned (iv c)/\K (iv c) b)
theorem pS{a1 l1 c1 a2 l2 c2 a3 l3 c3 a4 l4 c4 n1 u1 w K}(h:mE a1 l1 c1 a2 l2 c2 a3 l3 c3 a4 l4 c4 n1 u1 w K):CP 37 #[.agg #[.slice a1 l1 c1,.slice a2 l2 c2,.slice a3 l3 c3,.slice a4 l4 c4],iv n1,.agg u1.vs.toArray] w K:=aj (aC []) func37 (by kernel_rfl) (by kernel_rfl) h
def mF(a:OA)(b c:Nat)(d:OA)(e f:Nat)(g:OA)(h i:Nat)(j:OA)(k l:Nat)(m:Int)(n:I6)(w:World)(K:KP):=au w (.cells #[.slice a b c,.slice d e f,.slice g h i,.slice j k l] 27) λ a b=>au b (.cells n.vs.toArray 35) λ b c=>∃ d:Bool->qW,(∀ e f,d f e->∀ g:qv,cond f (K (iv 6) e) (∃ f:I6,af e (qd b 0) 0 f.vs/\CC 73 #[.agg f.vs.toArray] e λ e f=>∃ g,e=.returned (iv g)/\cond (g !=0) (K (iv g) f) (∃ e g h i j k l n o p q r,af f (qd a 0) 0 [.slice e g h,.slice i j k,.slice l n o,.slice p q r]/\CC 118 #[.agg #[.slice e g h,.slice i j k,.slice l n o,.slice p q r]] f λ e f=>∃ g h:I6,e=.returned (.tuple #[.agg g.vs.toArray,.agg h.vs.toArray])/\au f (.cells z6.vs.toArray 35) λ e f=>au f (.cells z6.vs.toArray 35) λ f i=>aN (qd e 0) 0 g.vs i λ g=>aN (qd f 0) 0 h.vs g λ g=>∃ h:Bool->qW,(∀ i j,h j i->∀ k:qv,cond j (K (iv 14) i) (∃ j k l,i.cell? (qd a 2)=some (.slice j k l)/\∃ l:Int->qN,(∃ n,l 0 i n)/\∀ i n o,l o i n->∀ p:qv,cond (decide (o<(k:Int))) (ak j λ j=>0<=o/\o<(k:Int)/\∃ k p q,af i (Addr.add j ((o).toNat*3)) 0 [iv k,iv p,iv q]/\au i (.cells #[qz,qz,qz] 113) λ j r=>aN (qd j 0) 0 [iv k,iv p,iv q] r λ k=>∃ p:Bool->qW,(∀ q r,p r q->∀ s:qv,cond r (K (iv 14) q) (∃ r,r<n/\l (IntKind.i64.wrap (o+1)) q r))/\∃ l,k.drew.cell? (qd j 0)=some (iv l)/\cond (l==(-1:Int)) (∃ l n o,k.drew.cell? (qd a 0)=some (.slice l n o)/\∃ q,k.drew.cell? (qd j 1)=some (iv q)/\∃ r:I6,af k.drew (qd b 0) 0 r.vs/\∃ s,k.drew.cell? (qd j 2)=some (iv s)/\CC 121 #[.slice l n o,iv q,.agg r.vs.toArray] k.drew λ l n=>∃ o,l=.returned (iv o)/\n.cell? (qd j 2)=some (iv s)/\p (decide (o>s)) n) (∃ l,k.drew.cell? (qd j 0)=some (iv l)/\cond (l==m) (∃ l n o,k.drew.cell? (qd a 0)=some (.slice l n o)/\∃ q,k.drew.cell? (qd j 1)=some (iv q)/\∃ r:I6,af k.drew (qd b 0) 0 r.vs/\∃ s,k.drew.cell? (qd j 2)=some (iv s)/\CC 121 #[.slice l n o,iv q,.agg r.vs.toArray] k.drew λ l n=>∃ o,l=.returned (iv o)/\n.cell? (qd j 2)=some (iv s)/\p (decide (o>s)) n) (p false k.drew))) (K qz i)))/\∃ i:I6,af g.drew (qd b 0) 0 i.vs/\∃ j k l,g.drew.cell? (qd a 0)=some (.slice j k l)/\CC 41 #[.slice j k l] g.drew λ g j=>∃ k:I6,g=.returned (.agg k.vs.toArray)/\af j (qd b 0) 0 i.vs/\CC 119 #[.agg i.vs.toArray,.agg k.vs.toArray] j λ g i=>∃ j,g=.returned (.bool j)/\cond (!j) (h true i) (∃ g j k l n o p q r s t u,af i (qd a 0) 0 [.slice g j k,.slice l n o,.slice p q r,.slice s t u]/\∃ v:I6,af i (qd f 0) 0 v.vs/\∃ f:I6,af i (qd b 0) 0 f.vs/\∃ b:I6,af i (qd e 0) 0 b.vs/\CC 120 #[.agg #[.slice g j k,.slice l n o,.slice p q r,.slice s t u],.agg v.vs.toArray,iv m,.agg f.vs.toArray] i λ f g=>∃ i:I6,f=.returned (.agg i.vs.toArray)/\af g (qd e 0) 0 b.vs/\CC 119 #[.agg i.vs.toArray,.agg b.vs.toArray] g λ b e=>∃ f,b=.returned (.bool f)/\h (!f) e))))/\cond (decide (m<0)) (d true c) (∃ b e f,c.cell? (qd a 1)=some (.slice b e f)/\d (decide (m>=(e:Int))) c)
theorem pT{a1 l1 c1 a2 l2 c2 a3 l3 c3 a4 l4 c4 n1 u1 w K}(h:mF a1 l1 c1 a2 l2 c2 a3 l3 c3 a4 l4 c4 n1 u1 w K):CP 69 #[.agg #[.slice a1 l1 c1,.slice a2 l2 c2,.slice a3 l3 c3,.slice a4 l4 c4],iv n1,.agg u1.vs.toArray] w K:=aj (aC [(6,[(20,.s .bool)]),(62,[(46,.s .bool)]),(506,[(50,.s (.int .i64))]),(32409,[(73,.s .bool)])]) func69 (by kernel_rfl) (by kernel_rfl) h
def oK(a:OA)(b c:Nat)(d:OA)(e f:Nat)(g:OA)(h i:Nat)(j:OA)(k l:Nat)(w:World)(K:KP):=au w (.cells #[.slice a b c,.slice d e f,.slice g h i,.slice j k l] 27) λ a b=>au b (.cells z6.vs.toArray 35) λ b c=>au c (.cells z6.vs.toArray 35) λ c d=>∃ e f g,d.cell? (qd a 0)=some (.slice e f g)/\CC 41 #[.slice e f g] d λ d e=>∃ f:I6,d=.returned (.agg f.vs.toArray)/\aN (qd b 0) 0 f.vs e λ d=>∃ e f g,d.cell? (qd a 3)=some (.slice e f g)/\∃ a:Int->qN,(∃ g,a 0 d g)/\∀ d g h,a h d g->∀ i:qv,cond (decide (h<(f:Int))) (ak e λ e=>0<=h/\h<(f:Int)/\∃ f i j,af d (Addr.add e ((h).toNat*3)) 0 [iv f,iv i,iv j]/\au d (.cells #[qz,qz,qz] 115) λ e k=>aN (qd e 0) 0 [iv f,iv i,iv j] k λ f=>∃ i,f.drew.cell? (qd e 0)=some (iv i)/\0<=i/\i<6/\∃ j,f.drew.cell? (Addr.add (qd b 0) ((i).toNat*1))=some (iv j)/\∃ k,f.drew.cell? (qd e 2)=some (iv k)/\0<=i/\i<6/\dW f.drew (Addr.add (qd b 0) ((i).toNat*1)) (iv (IntKind.i64.wrap (j-k))) λ f=>∃ i,f.cell? (qd e 0)=some (iv i)/\∃ j,f.cell? (qd e 1)=some (iv j)/\0<=i/\i<6/\dW f (Addr.add (qd c 0) ((i).toNat*1)) (iv j) λ e=>∃ f,f<g/\a (IntKind.i64.wrap (h+1)) e f) (∃ a:I6,af d.drew (qd b 0) 0 a.vs/\∃ e:I6,af d.drew (qd c 0) 0 e.vs/\aN (qd b 0) 0 a.vs d.drew λ a=>af a (qd c 0) 0 e.vs/\aN (qd c 0) 0 e.vs a λ a=>∃ d:I6,af a (qd b 0) 0 d.vs/\∃ b:I6,af a (qd c 0) 0 b.vs/\K (.tuple #[.agg d.vs.toArray,.agg b.vs.toArray]) a)
theorem qT{a1 l1 c1 a2 l2 c2 a3 l3 c3 a4 l4 c4 w K}(h:oK a1 l1 c1 a2 l2 c2 a3 l3 c3 a4 l4 c4 w K):CP 118 #[.agg #[.slice a1 l1 c1,.slice a2 l2 c2,.slice a3 l3 c3,.slice a4 l4 c4]] w K:=aj (aC [(58,[(12,.s (.int .i64))])]) func118 (by kernel_rfl) (by kernel_rfl) h
def mG(a:OA)(b c:Nat)(d:OA)(e f:Nat)(g:OA)(h i:Nat)(j:OA)(k l:Nat)(m:I6)(n:Int)(o:I6)(w:World)(K:KP):=au w (.cells #[.slice a b c,.slice d e f,.slice g h i,.slice j k l] 27) λ a b=>au b (.cells m.vs.toArray 35) λ b c=>au c (.cells o.vs.toArray 35) λ c d=>au d (.cells z6.vs.toArray 35) λ d e=>∃ f:Int->qN,(∃ g,f 0 e g)/\∀ e g h,f h e g->∀ i:qv,cond (decide (h<6)) (∃ i:qW,(∀ j,i j->∀ k:qv,∃ k,k<g/\f (IntKind.i64.wrap (h+1)) j k)/\∃ f:Bool->qW,(∀ g j,f j g->∀ k:qv,cond j (0<=h/\h<6/\dW g (Addr.add (qd c 0) ((h).toNat*1)) qz λ j=>i j) (i g))/\0<=h/\h<6/\∃ g,e.drew.cell? (Addr.add (qd b 0) ((h).toNat*1))=some (iv g)/\cond (g==0) (f true e.drew) (0<=h/\h<6/\∃ g,e.drew.cell? (Addr.add (qd b 0) ((h).toNat*1))=some (iv g)/\∃ b h i,e.drew.cell? (qd a 1)=some (.slice b h i)/\ak b λ a=>0<=n/\n<(h:Int)/\∃ b,e.drew.cell? (Addr.add (Addr.add a ((n).toNat*4)) 1)=some (iv b)/\f (g==b) e.drew)) (∃ a:I6,af e (qd c 0) 0 a.vs/\aN (qd d 0) 0 a.vs e λ a=>∃ b:I6,af a (qd d 0) 0 b.vs/\K (.agg b.vs.toArray) a)
theorem pU{a1 l1 c1 a2 l2 c2 a3 l3 c3 a4 l4 c4 u1 n1 u2 w K}(h:mG a1 l1 c1 a2 l2 c2 a3 l3 c3 a4 l4 c4 u1 n1 u2 w K):CP 120 #[.agg #[.slice a1 l1 c1,.slice a2 l2 c2,.slice a3 l3 c3,.slice a4 l4 c4],.agg u1.vs.toArray,iv n1,.agg u2.vs.toArray] w K:=aj (aC [(26,[(10,.s (.int .i64))]),(211,[]),(1689,[(28,.s .bool)])]) func120 (by kernel_rfl) (by kernel_rfl) h
def ie(ps:List Pr)(l:List T3):Nat->I6×I6
 | 0=>(aG ps,z6)
 | k+1=>match l[k]? with
  | none=>ie ps l k
  | some x=>((ie ps l k).1.put x.a.toNat ((ie ps l k).1.at' x.a.toNat-x.c),(ie ps l k).2.put x.a.toNat x.b)
def zG(ps:List Pr)(l:List T3):I6×I6:=ie ps l l.length
theorem xo{ps:List Pr}{l:List T3}(h2:ps.length<=6)(hg:∀ p∈ps,p.sup<=4)(h:fG ps l){i:Nat}{x:T3}(hx:l[i]?=some x):0<=x.a/\x.a<6/\1<=x.c/\x.c<=4:=by
 have:=(h.good i x hx).1;simp only[rJ,Bool.and_eq_true,decide_eq_true_eq] at this;have h3:(ps[x.a.toNat]?.map Pr.sup).getD 0<=4:=by
  cases hp:ps[x.a.toNat]? with
  | none=>show(0:Int)<=4; omega
  | some p=>exact hg p (List.mem_of_getElem? hp)
 omega
theorem FD{ps:List Pr}(h:bZ ps):∀ p∈ps,p.sup<=4:=λ p hp=>by
 obtain⟨i,hi⟩:=List.getElem?_of_mem hp;have:=(h.good i p hi).1;simp only[jK,rA,Bool.and_eq_true,decide_eq_true_eq] at this;omega
theorem AR{ps:List Pr}{l:List T3}(hp:bZ ps)(h:fG ps l):∀ (k:Nat) (j:Nat),j<6->-(4*(k:Int))<=(ie ps l k).1.at' j/\(ie ps l k).1.at' j<=4
 | 0,j,hj=>by have:=sup_le hp j hj; show _<=(aG ps).at' j/\(aG ps).at' j<=4; omega
 | k+1,j,hj=>by
  have ih:=AR hp h k;rw[ie]
  cases hx:l[k]? with
  | none=>have:=ih j hj; show _<=(ie ps l k).1.at' j/\(ie ps l k).1.at' j<=4; omega
  | some x =>
   have hi:=xo hp.l2 (FD hp) h hx;show _<=((ie ps l k).1.put x.a.toNat _).at' j/\((ie ps l k).1.put x.a.toNat _).at' j<=4;rw[I6.fc _ _ _ _ (by omega) hj];have h1:=ih j hj;have h2:=ih x.a.toNat (by omega)
   split<;>omega
theorem Fu{w:World}{S:Se}(h:S.In w)(hs:S.Ok) :
  CP 118 #[.agg S.arr] w (λ r w'=>r=.tuple #[.agg (zG S.ps S.sa).1.vs.toArray,.agg (zG S.ps S.sa).2.vs.toArray]/\ax w w' []):=by
 refine qT ?_;unfold oK;have hl:=hs.sa.l1; have hpl:=hs.ps.l2;refine(St.start w).one.av S.arr λ r1 w1 s1=>s1.av z6.vs.toArray λ r2 w2 s2=>s2.av z6.vs.toArray λ r3 w3 s3=>?_;refine⟨_,_,_,s3.ag 2 rfl 0,aq (kR (h.an s3.an).ps (by omega)) ?_⟩;rintro v w4 ⟨rfl,c4⟩;refine⟨_,rfl,(s3.quiet c4).az 1 rfl (aG S.ps).vs rfl (I6.one _) λ w5 s5=>⟨_,_,_,s5.ag 2 rfl 3,?_⟩⟩;refine⟨λ n w6 m=>∃ k:Nat,n=k/\k<=S.sa.length/\m=S.sa.length-k/\St w w6 (Sep [ah r3 (ie S.ps S.sa k).2.vs.toArray 35,ah r2 (ie S.ps S.sa k).1.vs.toArray 35,emp]),⟨S.sa.length,0,rfl,by omega,by omega,s5.aA [0,1,3]⟩,?_⟩;rintro w6 m n ⟨k,rfl,hk,hm,s6⟩ -
 by_cases hlt:(k:Int)<(S.sa.length:Int)
 ·have hx:S.sa[k]?=some (S.sa[k]'(by omega)):=gE (by omega);generalize S.sa[k]'(by omega)=x at hx;obtain⟨q,hq,hcl⟩:=(h.an s6.an).sa k x hx;have hi:=xo hpl (FD hs.ps) hs.sa hx;obtain⟨i,hai⟩:=Int.eq_ofNat_of_zero_le hi.1;have hi6:i<6:=by omega
  refine cT (dT hlt) (ai hq ⟨by omega,by omega,_,_,_,hcl,s6.av #[iv 0,iv 0,iv 0] λ r4 w7 s7=>s7.az 0 rfl x.cells rfl x.one λ w8 s8=>?_⟩);have s9:=s8.quiet (ax.drew w8 []);have bd:=AR hs.ps hs.sa k i hi6;have eF:ie S.ps S.sa (k+1)=((ie S.ps S.sa k).1.put i ((ie S.ps S.sa k).1.at' i-x.c),(ie S.ps S.sa k).2.put i x.b):=by
   rw[ie,hx]; show((ie S.ps S.sa k).1.put x.a.toNat _,_)=_;rw[hai,Int.toNat_natCast]
  refine⟨i,by rw[s9.ag 0 rfl 0,<- hai]; rfl,by omega,by omega,(ie S.ps S.sa k).1.at' i,by rw[bV]; exact aB s9 2 rfl hi6,x.c,s9.ag 0 rfl 2,by omega,by omega,?_⟩;rw[bV,ay ⟨by omega,by omega⟩];refine s9.bL 2 rfl hi6 rfl λ w9 s10=>⟨i,by rw[s10.ag 0 rfl 0,<- hai]; rfl,x.b,s10.ag 0 rfl 1,by omega,by omega,?_⟩;rw[bV];refine s10.bL 1 rfl hi6 rfl λ w10 s11=>⟨S.sa.length-(k+1),by omega,k+1,ay ⟨by omega,by omega⟩,by omega,rfl,?_⟩;rw[eF];have s12:=s11.aA [1,2,3];have e1:=I6.gP (ie S.ps S.sa k).1 i ((ie S.ps S.sa k).1.at' i-x.c) hi6;have e2:=I6.gP (ie S.ps S.sa k).2 i x.b hi6;show St w w10 (Sep [ah r3 (I6.put _ _ _).vs.toArray _,ah r2 (I6.put _ _ _).vs.toArray _,emp]);rw[<- e1,<- e2];exact s12
 ·obtain rfl:S.sa.length=k:=by omega
  have s7:=s6.quiet (ax.drew w6 []);exact cF (dF hlt) ⟨_,s7.cellsIn 1 rfl,_,s7.cellsIn 0 rfl,s7.az 1 rfl _ rfl (I6.one _) λ w8 s8=>⟨s8.cellsIn 0 rfl,s8.az 0 rfl _ rfl (I6.one _) λ w9 s9=>⟨_,s9.cellsIn 1 rfl,_,s9.cellsIn 0 rfl,rfl,s9.an⟩⟩⟩
def kr(b:Br)(cls u:I6):I6:=I6.zip (λ c x=>if c=0\/c=b.cls then 0 else x) cls u
theorem CU{w:World}{S:Se}(h:S.In w){n:Nat}{b:Br}(hb:S.bd[n]?=some b)(cls u:I6) :
  CP 120 #[.agg S.arr,.agg cls.vs.toArray,iv n,.agg u.vs.toArray] w (λ r w'=>r=.agg (kr b cls u).vs.toArray/\ax w w' []):=by
 refine pU ?_;unfold mG;have hn:=(List.getElem?_eq_some_iff.1 hb).1;refine(St.start w).one.av S.arr λ r1 w1 s1=>s1.av cls.vs.toArray λ r2 w2 s2=>s2.av u.vs.toArray λ r3 w3 s3=>s3.av z6.vs.toArray λ r4 w4 s4=>?_;refine⟨λ n w6 m=>∃ k:Nat,n=k/\k<=6/\m=6-k/\St w w6 (Sep [ah r4 z6.vs.toArray 35,ah r3 (I6.mix k (kr b cls u) u).vs.toArray 35,ah r2 cls.vs.toArray 35,ah r1 S.arr 27,emp]),⟨6,0,rfl,by omega,by omega,s4⟩,?_⟩;rintro w5 m n2 ⟨k,rfl,hk,hm,s5⟩ -
 by_cases hlt:(k:Int)<6
 ·have hk' : k<6:=by omega
  have eo:(kr b cls u).at' k=if cls.at' k=0\/cls.at' k=b.cls then 0 else u.at' k:=by rw[kr,I6.fY _ _ _ _ hk']
  refine cT (dT hlt) ⟨λ w6=>St w w6 (Sep [ah r4 z6.vs.toArray 35,ah r3 (I6.mix (k+1) (kr b cls u) u).vs.toArray 35,ah r2 cls.vs.toArray 35,ah r1 S.arr 27,emp]),λ w6 s6 _=>⟨6-(k+1),by omega,k+1,inc (by decide) hk',by omega,rfl,s6⟩,?_⟩;have s6:=s5.quiet (ax.drew w5 []);have cl2:=aB s6 2 rfl hk';refine⟨λ x w7=>x=decide (cls.at' k=0\/cls.at' k=b.cls)/\St w w7 (Sep [ah r4 z6.vs.toArray 35,ah r3 (I6.mix k (kr b cls u) u).vs.toArray 35,ah r2 cls.vs.toArray 35,ah r1 S.arr 27,emp]),?_,by omega,by omega,_,by rw[bV]; exact cl2,?_⟩
  ·rintro w7 x ⟨rfl,s7⟩ -
   by_cases g:cls.at' k=0\/cls.at' k=b.cls
   ·rw[if_pos g] at eo;refine cT (dT g) ⟨by omega,by omega,?_⟩;rw[bV];refine s7.bL 1 rfl hk' rfl λ w8 s8=>?_;have:=I6.cE (kr b cls u) u k hk';rw[eo] at this;rw[<- this]; exact s8
   ·rw[if_neg g] at eo;refine cF (dF g) ?_;have:I6.mix (k+1) (kr b cls u) u=I6.mix k (kr b cls u) u:=I6.ext' λ j hj=>by
     rw[I6.bh _ _ _ _ hj,I6.bh _ _ _ _ hj]
     by_cases e:j=k
     ·subst e; rw[if_pos (by omega),if_neg (by omega),eo]
     ·by_cases e2:j<k
      ·rw[if_pos e2,if_pos (by omega)]
      ·rw[if_neg e2,if_neg (by omega)]
    rw[this]; exact s7
  ·by_cases g:cls.at' k=0
   ·exact cT (by simpa using g) ⟨by rw[dT (Or.inl g)],s6⟩
   ·obtain⟨q,hq,hc⟩:=nL (h.an s6.an).bd hb 1 (iv b.cls) rfl;refine cF (by simpa using g) ⟨by omega,by omega,_,by rw[bV]; exact cl2,_,_,_,s6.ag 3 rfl 1,ai hq ⟨by omega,by omega,b.cls,by rw[Int.toNat_natCast]; exact hc,?_,s6⟩⟩
    by_cases g2:cls.at' k=b.cls
    ·rw[dT (Or.inr g2)]; simpa using g2
    ·rw[dF (by rintro(h|h); exact g h; exact g2 h)]; simpa using g2
 ·obtain rfl:k=6:=by omega
  rw[I6.fD] at s5;exact cF (by simp) ⟨_,s5.cellsIn 1 rfl,s5.az 0 rfl _ rfl (I6.one _) λ w9 s9=>⟨_,s9.cellsIn 0 rfl,rfl,s9.an⟩⟩
def cZ(ps:List Pr)(n:Nat)(u:I6)(x:T3):Bool:=(decide (x.a=-1)||decide (x.a=(n:Int)))&&decide (zw ps x.b u>x.c)
def cP(S:Se)(n:Nat)(b:Br)(u:I6):Int :=
 if u.l.all dD then (if within u (aG S.ps)&&within (kr b (zG S.ps S.sa).2 u) (zG S.ps S.sa).1&&!S.cp.any (cZ S.ps n u) then 0 else 14) else 4
theorem Cl{w:World}{S:Se}(h:S.In w)(hs:S.Ok){n:Nat}{b:Br}(hb:S.bd[n]?=some b)(u:I6) :
  CP 69 #[.agg S.arr,iv n,.agg u.vs.toArray] w (λ r w'=>r=iv (cP S n b u)/\ax w w' []):=by
 refine pT ?_;unfold mF;have hn:=(List.getElem?_eq_some_iff.1 hb).1;have hpl:=hs.ps.l2; have hcl:=hs.cp.l1; have hbl:=hs.bd.l2;refine(St.start w).one.av S.arr λ r1 w1 s1=>s1.av u.vs.toArray λ r2 w2 s2=>?_;refine⟨λ x w3=>x=false/\w3=w2,?_,cF (dF (by omega)) ⟨_,_,_,s2.ag 1 rfl 1,dF (by omega),rfl⟩⟩;rintro w3 x ⟨rfl,rfl⟩ -;refine cF rfl ⟨u,s2.cellsIn 0 rfl,aq (dr w3 u) ?_⟩;rintro v w4 ⟨rfl,c4⟩;have s4:=s2.quiet c4;refine⟨_,rfl,?_⟩
 cases hq:u.l.all dD with
 | false=>exact cT rfl ⟨by rw[cP,hq]; rfl,s4.an⟩
 | true =>
 have hu:=HK hq;refine cF rfl ⟨_,_,_,_,_,_,_,_,_,_,_,_,s4.cellsIn 1 rfl,aq (Fu (h.an s4.an) hs) ?_⟩;rintro v w5 ⟨rfl,c5⟩;refine⟨_,_,rfl,(s4.quiet c5).av z6.vs.toArray λ r3 w6 s6=>s6.av z6.vs.toArray λ r4 w7 s7=>s7.az 1 rfl _ rfl (I6.one _) λ w8 s8=>s8.az 0 rfl _ rfl (I6.one _) λ w9 s9=>?_⟩;refine⟨λ x w10=>x = !(within u (aG S.ps)&&within (kr b (zG S.ps S.sa).2 u) (zG S.ps S.sa).1)/\St w w10 (Sep [ah r2 u.vs.toArray 35,ah r1 S.arr 27,emp]),?_,?_⟩
 ·rintro w10 x ⟨rfl,s10⟩ -
  cases hw:(within u (aG S.ps)&&within (kr b (zG S.ps S.sa).2 u) (zG S.ps S.sa).1) with
  | false=>exact cT rfl ⟨by rw[cP,if_pos hq,hw]; rfl,s10.an⟩
  | true =>
   refine cF rfl ⟨_,_,_,s10.ag 1 rfl 2,λ i w11 m=>∃ k:Nat,i=k/\k<=S.cp.length/\m=S.cp.length-k/\(S.cp.take k).any (cZ S.ps n u)=false/\St w w11 (Sep [ah r2 u.vs.toArray 35,ah r1 S.arr 27,emp]),⟨S.cp.length,0,rfl,by omega,by omega,rfl,s10⟩,?_⟩;rintro w11 m i ⟨k,rfl,hk,hm,ha,s11⟩ -
   by_cases hlt:(k:Int)<(S.cp.length:Int)
   ·have hx:S.cp[k]?=some (S.cp[k]'(by omega)):=gE (by omega);generalize S.cp[k]'(by omega)=x at hx;obtain⟨q,hq2,hcl2⟩:=(h.an s11.an).cp k x hx;refine cT (dT hlt) (ai hq2 ⟨by omega,by omega,_,_,_,hcl2,s11.av #[iv 0,iv 0,iv 0] λ r5 w12 s12=>s12.az 0 rfl x.cells rfl x.one λ w13 s13=>?_⟩);have s14:=s13.quiet (ax.drew w13 []);refine⟨λ y w15=>y=cZ S.ps n u x/\St w w15 (Sep [ah r5 x.cells.toArray 113,ah r2 u.vs.toArray 35,ah r1 S.arr 27,emp]),?_,?_⟩
    ·rintro w15 y ⟨rfl,s15⟩ -
     cases hc:cZ S.ps n u x with
     | true =>
      refine cT rfl ⟨?_,s15.an⟩;rw[cP,if_pos hq,hw,cC hx hc]; rfl
     | false=>exact cF rfl ⟨S.cp.length-(k+1),by omega,k+1,ay ⟨by omega,by omega⟩,by omega,rfl,ck ha hx hc,s15.aA [1,2,3]⟩
    ·refine⟨x.a,s14.ag 0 rfl 0,?_⟩;have cu:CP 121 #[.slice S.a1 S.ps.length S.c1,iv x.b,.agg u.vs.toArray] w13.drew (λ r w'=>r=iv (zw S.ps x.b u)/\ax w13.drew w' []):=Ho (h.an s14.an).ps h.h1 hs.ps hu x.b
     by_cases g1:x.a=-1
     ·refine cT (by simpa using g1) ⟨_,_,_,s14.ag 2 rfl 0,x.b,s14.ag 0 rfl 1,u,s14.cellsIn 1 rfl,x.c,s14.ag 0 rfl 2,aq cu ?_⟩;rintro v w15 ⟨rfl,c15⟩;have s15:=s14.quiet c15;exact⟨_,rfl,s15.ag 0 rfl 2,by rw[cZ,dT g1,Bool.true_or,Bool.true_and],s15⟩
     refine cF (by simpa using g1) ⟨x.a,s14.ag 0 rfl 0,?_⟩
     by_cases g2:x.a=(n:Int)
     ·refine cT (by simpa using g2) ⟨_,_,_,s14.ag 2 rfl 0,x.b,s14.ag 0 rfl 1,u,s14.cellsIn 1 rfl,x.c,s14.ag 0 rfl 2,aq cu ?_⟩;rintro v w15 ⟨rfl,c15⟩;have s15:=s14.quiet c15;exact⟨_,rfl,s15.ag 0 rfl 2,by rw[cZ,dT g2,Bool.or_true,Bool.true_and],s15⟩
     ·exact cF (by simpa using g2) ⟨by rw[cZ,dF g1,dF g2]; rfl,s14⟩
   ·obtain rfl:S.cp.length=k:=by omega
    rw[List.take_length] at ha;exact cF (dF hlt) ⟨by rw[cP,if_pos hq,hw,ha]; rfl,s11.an⟩
 ·have s10:=s9.quiet (ax.drew w9 []);refine⟨_,s10.cellsIn 2 rfl,_,_,_,s10.ag 3 rfl 0,aq (kR (h.an s10.an).ps (by omega)) ?_⟩;rintro v w17 ⟨rfl,c17⟩;have s17:=s10.quiet c17;refine⟨_,rfl,s17.cellsIn 2 rfl,aq (tq _ u _) ?_⟩;rintro v w18 ⟨rfl,c18⟩;have s18:=s17.quiet c18;refine⟨_,rfl,?_⟩
  cases hw:within u (aG S.ps) with
  | false=>exact cT rfl ⟨rfl,s18.aA [2,3,4]⟩
  | true =>
   refine cF rfl ⟨_,_,_,_,_,_,_,_,_,_,_,_,s18.cellsIn 3 rfl,_,s18.cellsIn 0 rfl,_,s18.cellsIn 2 rfl,_,s18.cellsIn 1 rfl,aq (CU (h.an s18.an) hb _ _) ?_⟩;rintro v w19 ⟨rfl,c19⟩;have s19:=s18.quiet c19;refine⟨_,rfl,s19.cellsIn 1 rfl,aq (tq _ _ _) ?_⟩;rintro v w20 ⟨rfl,c20⟩;exact⟨_,rfl,by rw[Bool.true_and],(s19.quiet c20).aA [2,3,4]⟩
theorem tW{w:World}{S:Se}(h:S.In w)(hs:S.Ok){n:Nat}{b:Br}(hb:S.bd[n]?=some b)(u:I6) :
  CP 37 #[.agg S.arr,iv n,.agg u.vs.toArray] w (λ r w'=>r=iv (cP S n b u)/\ax w w' []):=by
 refine pS ?_;unfold mE;refine(St.start w).one.av S.arr λ r1 w1 s1=>s1.av u.vs.toArray λ r2 w2 s2=>⟨_,_,_,_,_,_,_,_,_,_,_,_,s2.cellsIn 1 rfl,aq (zn (h.an s2.an)) ?_⟩;rintro v w3 ⟨⟨e,rfl,he⟩,c3⟩;obtain rfl:=he.2 hs;have s3:=s2.quiet c3;refine⟨_,rfl,cF rfl ⟨_,_,_,_,_,_,_,_,_,_,_,_,s3.cellsIn 1 rfl,_,s3.cellsIn 0 rfl,aq (Cl (h.an s3.an) hs hb u) ?_⟩⟩;rintro v w4 ⟨rfl,c4⟩;exact⟨_,rfl,rfl,(s3.quiet c4).an⟩
section
variable {b:Nat} {C:Ck} {w0 w:World} {B:aJ}
theorem eM{p:I6}(h:bw p=true):I6.Le p 1000000:=eY.1 h
theorem DQ(hk:C.Ok){n:Nat}:∀ c∈fz C n,c.Ok:=λ c hc=>by
 obtain⟨x,hx,rfl⟩:=List.mem_map.1 hc;exact⟨eM (hk.cp x hx),q7 (hk.ca x hx) (by omega) n⟩
def bK(C:Ck)(n:Nat)(y:Br)(u:I6):Int :=
 if C.ov||C.dp.getD n false then 10 else if cP C.s n y u≠0 then cP C.s n y u else if gY y ⟨C.p,u⟩≠0 then gY y ⟨C.p,u⟩ else mJ C.o.rule C.s y (fz C n) ⟨C.p,u⟩
def gZ(C:Ck)(n:Nat)(u:I6):Ck:={ C with ask:=C.ask.set n u,bd:=C.bd.set n true }
theorem Eo(s:St w0 w (Sep (eu b C++[B])))(hk:C.Ok){n:Nat}{y:Br}(hy:C.s.bd[n]?=some y)(u:I6) :
  CP 91 #[.pointer (some ⟨b,0,none⟩),iv n,.agg u.vs.toArray] w (λ r w'=>r=iv (bK C n y u)/\(if bK C n y u=0 then St w0 w' (Sep (eu b (gZ C n u)++[B])) else St w0 w' (Sep (eu b C++[B])))):=by
 refine mP ?_;unfold jr;have hn:=(List.getElem?_eq_some_iff.1 hy).1;have z:=hk.s.bd.l2; have z1:=hk.dp; have z2:=hk.ask; have z3:=hk.bd; have z4:=hk.cl;have bad:∀ {e:Int} {w' : World},e≠0->bK C n y u=e->St w0 w' (Sep (eu b C++[B]))->(iv e=iv (bK C n y u)/\(if bK C n y u=0 then St w0 w' (Sep (eu b (gZ C n u)++[B])) else St w0 w' (Sep (eu b C++[B])))):=λ he hb hc=>by
  rw[hb,if_neg he]; exact⟨rfl,hc⟩
 refine s.av u.vs.toArray λ r1 w1 s1=>?_;refine⟨_,s1.ag 1 rfl 18,?_⟩
 cases hov:C.ov with
 | true=>exact cT rfl (bad (by decide) (by rw[bK,hov]; rfl) s1.second)
 | false =>
 have rdO:∀ {w' : World} {L:List aJ},St w0 w' (Sep (L++(eu b C++[B])))->C.Rd b w':=λ s=>((s.split _).second.split (eu b C)).first.imp nO;have rd1:C.Rd b w1:=rdO (L:=[_]) s1;refine cF rfl (aq (Aa rd1 n) ?_);rintro v w2 ⟨rfl,rfl⟩;refine⟨_,rfl,cF (by simp; omega) ?_⟩;have hx:C.dp[n]?=some (C.dp[n]'(by omega)):=gE (by omega);generalize C.dp[n]'(by omega)=x at hx;have hgx:C.dp.getD n false=x:=by rw[List.getD_eq_getElem?_getD,hx]; rfl
 obtain⟨q,hq,hcl⟩:=rd1.dp.at hx;refine⟨_,_,_,rd1.cell 17 rfl,ai hq ⟨by omega,by omega,x,hcl.1,?_⟩⟩
 cases x with
 | true=>exact cT rfl (bad (by decide) (by rw[bK,hgx]; simp) s1.second)
 | false =>
 have e0:bK C n y u=if cP C.s n y u≠0 then cP C.s n y u else if gY y ⟨C.p,u⟩≠0 then gY y ⟨C.p,u⟩ else mJ C.o.rule C.s y (fz C n) ⟨C.p,u⟩:=by rw[bK,hov,hgx]; rfl
 have s2:=s1.quiet (ax.drew w2 []);refine cF rfl ⟨C.p,s2.aF 1 9 rfl rfl,u,s2.cellsIn 0 rfl,s2.av dj.cells.toArray λ r2 w3 s3=>⟨s3.cellsIn 1 rfl,s3.aF 2 9 rfl rfl,s3.az 0 rfl (Ch.mk C.p u).cells rfl (Ch.one _) λ w4 s4=>?_⟩⟩;have s5:=s4.quiet (ax.drew w4 []);have inC:∀ {w' : World} {L:List aJ} {i:Nat},St w0 w' (Sep L)->L[i]?=some (held C.In)->C.In w':=λ s e=>s.jc _ e;have i5:=(inC s5 (i:=7) rfl).s;refine⟨_,_,_,_,_,_,_,_,_,_,_,_,s5.aF 2 0 rfl rfl,u,s5.cellsIn 1 rfl,aq (tW i5 hk.s hy u) ?_⟩;rintro v w5 ⟨rfl,c5⟩;have s6:=(s5.quiet c5);refine⟨_,rfl,?_⟩
 by_cases h1:cP C.s n y u=0
 ·rw[if_neg (by simpa using h1)] at e0;have hu:I6.Le u 4:=by
   unfold cP at h1
   split at h1
   ·rename_i h; exact HK h
   ·cases h1
  have hc:(Ch.mk C.p u).Ok:=⟨eM hk.p,hu⟩;have s7:=s6.quiet (ax.drew w5 []);have i7:xe w5.drew C.s:=⟨(inC s7 (i:=7) rfl).s,hk.s⟩;have a7:=s7.aF (vs:=C.s.arr.toList) 2 0 rfl rfl;have b7:af w5.drew ⟨r2,0,none⟩ 0 (C.p.on u.vs):=s7.cellsIn 0 rfl;refine cF (by rw[h1]; rfl) ⟨_,_,_,_,_,_,_,_,_,_,_,_,a7,C.p,u,b7,?_⟩;have h7:=xg i7 hy hc;refine aq h7 ?_;rintro v w6 ⟨rfl,c6⟩;have s8:=(s7.quiet c6).quiet (ax.drew w6 []);refine⟨_,rfl,?_⟩
  by_cases h2:gY y ⟨C.p,u⟩=0
  ·rw[if_neg (by simpa using h2)] at e0;have rd8:C.Rd b w6.drew:=rdO (L:=[_,_]) s8;refine cF (by rw[h2]; rfl) ⟨_,_,_,_,_,_,_,_,_,_,_,_,s8.aF 2 0 rfl rfl,_,s8.ag 2 rfl 7,C.p,u,s8.cellsIn 0 rfl,aq (uh rd8 hk hn) ?_⟩;rintro v w7 ⟨a',c',rfl,k7⟩;have s9:St w0 w7 (Sep (_ :: _)):=s8.and k7;have hcap:(fz C n).length<=c':=(St.sU s9).1;have hlen:(fz C n).length=C.cl.length:=by simp[fz]
   have i9:xe w7 C.s:=⟨(inC s9 (i:=8) rfl).s,hk.s⟩;refine⟨_,_,_,rfl,s9.cellsIn 1 rfl,s9.ag 3 rfl 7,s9.aF 3 0 rfl rfl,aq (DD i9 hy (St.rd Ch.len s9) hcap (by omega) (DQ hk) hc C.o.rule) ?_⟩;rintro v w8 ⟨rfl,c8⟩;have s10:=(s9.quiet c8);refine⟨_,rfl,?_⟩
   by_cases h3:mJ C.o.rule C.s y (fz C n) ⟨C.p,u⟩=0
   ·have s11:=s10.quiet (ax.drew w8 []);obtain⟨g1,e1⟩:=(s11.out 4 rfl).kO (by omega);obtain⟨g2,e2⟩:=(s11.out 5 rfl).kO (by omega);refine cF (by rw[h3]; rfl) ⟨_,_,_,s11.ag 3 rfl 15,_,_,_,s11.ag 3 rfl 16,u,s11.cellsIn 2 rfl,ai e1 ⟨by omega,by omega,?_⟩⟩;rw[Int.toNat_natCast];have t1:=s11.out 4 rfl;rw[e1] at t1;refine St.tc aM (x:=u) u.one t1 (i:=n) (by omega) λ w9 s12=>ai e2 ⟨by omega,by omega,?_⟩;have t2:=(s12.back (show 4<10 by decide)).out 5 rfl;rw[e2] at t2;refine St.kQ (v:=.bool) (x:=true) rfl t2 (i:=n) (by omega) λ w10 s13=>?_;have s14:=s13.back (show 5<10 by decide);rw[<- e1,<- e2] at s14;have eb:bK C n y u=0:=by rw[e0,h3]
    rw[eb];refine⟨rfl,?_⟩;rw[if_pos rfl];have eC:(gZ C n u).cells=C.cells:=by simp[gZ,Ck.cells]
    show St w0 w10 (Sep [ah b (gZ C n u).cells.toArray 103,_,_,_,_,_,B]);rw[eC]; exact s14.aA [3,4,5,6,7,8,9]
   ·exact cT (by simpa using h3) (bad h3 e0 (s10.aA [3,4,5,6,7,8,9]))
  ·rw[if_pos (by simpa using h2)] at e0;exact cT (by simpa using h2) (bad h2 e0 ((s7.quiet c6).aA [2,3,4,5,6,7,8]))
 ·rw[if_pos (by simpa using h1)] at e0;exact cT (by simpa using h1) (bad h1 e0 (s6.aA [2,3,4,5,6,7,8]))
end
def cK(S:Se)(n:Nat)(y:Br)(p u:I6):Bool:=decide (cP S n y u=0)&&decide (gY y ⟨p,u⟩=0)
theorem EP{w:World}{S:Se}(h:xe w S){n:Nat}{y:Br}(hy:S.bd[n]?=some y){p u:I6}(hp:I6.Le p 1000000)(hu:I6.Le u 4){b1 b2 b3:Nat}(e1:af w ⟨b1,0,none⟩ 0 S.arr.toList)(e2:w.cell? ⟨b2,0,none⟩=some (iv n))(e3:af w ⟨b3,0,none⟩ 0 p.vs) :
  CP 36 #[.agg u.vs.toArray,pt b1,pt b2,pt b3] w (λ r w'=>r=.bool (cK S n y p u)/\ax w w' []):=by
 refine qG ?_;unfold oq;refine(St.start w).one.av u.vs.toArray λ r1 w1 s1=>⟨_,_,_,_,_,_,_,_,_,_,_,_,aK s1.an e1,_,br e2 s1.an,u,s1.cellsIn 0 rfl,aq (tW (h.i.an s1.an) h.o hy u) ?_⟩;rintro v w2 ⟨rfl,c2⟩;have s2:=s1.quiet c2;refine⟨_,rfl,?_⟩
 by_cases g:cP S n y u=0
 ·refine cT (by rw[g]; rfl) ⟨_,_,_,_,_,_,_,_,_,_,_,_,aK s2.an e1,_,br e2 s2.an,p,aK s2.an e3,u,s2.cellsIn 0 rfl,aq (xg (h.an s2.an) hy (c:=⟨p,u⟩) ⟨hp,hu⟩) ?_⟩;rintro v w3 ⟨rfl,c3⟩;refine⟨_,rfl,?_,(s2.quiet c3).an⟩;rw[cK,dT g]; rfl
 ·exact cF (by simpa using g) ⟨by rw[cK,dF g]; rfl,s2.an⟩
def bM(S:Se)(n:Nat)(y:Br)(l:List Of)(p:I6)(σ:I6×Int)(u:I6):I6×Int:=if bG l p u>σ.2/\cK S n y p u=true then (u,bG l p u) else σ
def aZ(S:Se)(n:Nat)(y:Br)(l:List Of)(p m:I6):Nat->I6×Int
 | 0=>(z6,bG l p z6)
 | i+1=>bM S n y l p (aZ S n y l p m i) (bx m i)
def zK(S:Se)(n:Nat)(y:Br)(l:List Of)(p:I6):I6:=(aZ S n y l p (aG S.ps) (cR (aG S.ps))).1
section
variable {w0 w:World} {B:aJ} {m:I6} {l D:Nat} {lp:Loop}
def HY(S:Se)(n:Nat)(l:List Of)(p:I6)(r1 r2 r3 r4 r6 r7 r8:Nat)(al:OA)(cl:Nat)(B:aJ)(f:Value)(σ:I6×Int):List aJ :=
 [ah r7 σ.1.vs.toArray 35,ah r8 #[iv σ.2] 2,ah r3 #[.slice al l.length cl] 28,ah r4 p.vs.toArray 30,ah r1 S.arr 27,ah r2 #[iv n] 3,ah r6 #[f] 91,B]
theorem zJ{S:Se}{n:Nat}{y:Br}(hy:S.bd[n]?=some y)(ho:S.Ok){ofs:List Of}{p:I6}(hp:I6.Le p 1000000)(hS:∀ {w'},ax w0 w' []->S.In w'){al:OA}{cl:Nat}(hl:∀ {w'},ax w0 w' []->iQ w' al ofs)(hlen:ofs.length<=100000)(hm:I6.Le m 4){i:Nat}(hi:i<cR m){Fr:aJ}{a1:OA}{l1:Nat}{c1:Nat}{a2:OA}{l2:Nat}{c2:Nat}{a3:OA}{l3:Nat}{c3:Nat}{a4:OA}{l4:Nat}{c4:Nat}{n1:Int}{a5:OA}{l5:Nat}{c5:Nat}{u1:I6}{r1:Nat}{r2:Nat}{r3:Nat}{r4:Nat}{r5:Nat}{a6:OA}{l6:Nat}{c6:Nat}{a7:OA}{l7:Nat}{c7:Nat}{a8:OA}{l8:Nat}{c8:Nat}{a9:OA}{l9:Nat}{c9:Nat}{n2:Int}{b1:Bool}{x1:Nat->Value}{u4:I6}{n3:Int}{r6:Nat}{r7:Nat}{a10:OA}{l10:Nat}{c10:Nat}{u6:I6}{u7:I6}{n4:Int}{r8:Nat}{a11:OA}{l11:Nat}{c11:Nat}{u8:I6}{v1:Value}(hT:lp.tmps=(cL a1 l1 c1 a2 l2 c2 a3 l3 c3 a4 l4 c4 n1 a5 l5 c5 u1 r1 r2 r3 r4 r5 a6 l6 c6 a7 l7 c7 a8 l8 c8 a9 l9 c9 n2 b1 x1 u4 n3 r6 r7 a10 l10 c10 u6 u7 n4 r8 a11 l11 c11 u8 v1).toArray)(hP:lp.params=II (fL Tryz.f10) 2042)(hA:lp.assign=IF (fL Tryz.f10) 2042)(hB:lp.body=IG (fL Tryz.f10) 2042)(hst:lp.state=.ready)(hpd:lp.pending=none)(h:St w0 w (star (Sep (dU l (.loop lp) :: HY S n ofs p r1 r2 r3 r4 r6 r7 r8 al cl B (.func (.func 36) #[] #[pt r1,pt r2,pt r4]) (aZ S n y ofs p m i))) Fr)) :
  mI prog l #[.agg (bx m i).vs.toArray] w λ b w2=>b=true/\St w0 w2 (star (Sep (dU l (.loop lp) :: HY S n ofs p r1 r2 r3 r4 r6 r7 r8 al cl B (.func (.func 36) #[] #[pt r1,pt r2,pt r4]) (aZ S n y ofs p m (i+1)))) Fr):=by
 have hu:=eI hm i;have hle:I6.Le (bx m i) 4:=hu.le;generalize hσ:aZ S n y ofs p m i=σ at h;have eσ:aZ S n y ofs p m (i+1)=bM S n y ofs p σ (bx m i):=by rw[aZ,hσ]
 generalize aZ S n y ofs p m (i+1)=σ' at eσ;have s:St w0 w (Sep (dU l (.loop lp) :: HY S n ofs p r1 r2 r3 r4 r6 r7 r8 al cl B (.func (.func 36) #[] #[pt r1,pt r2,pt r4]) σ++[Fr])):=h.open;refine kA (s.uD 0 rfl) hT hP hA hB ?_;unfold gM;have hpd2:({ ({ lp with state:=.busy }:Loop) with state:=.ready,pending:=none }:Loop)=lp:=by cases lp; simp_all
 generalize bx m i=u at *;let L:Loop->I6×Int->Nat->List aJ:=λ lp σ r9=>ah r9 u.vs.toArray 35 :: dU l (.loop lp) :: HY S n ofs p r1 r2 r3 r4 r6 r7 r8 al cl B (.func (.func 36) #[] #[pt r1,pt r2,pt r4]) σ++[Fr];refine s.av z6.vs.toArray λ r9 w1 s1=>s1.az 0 rfl u.vs rfl (I6.one _) λ w2 s2=>?_;have s2:St w0 w2 (Sep (L lp σ r9)):=s2;refine⟨lp,s2.uD 1 rfl,hst,?_⟩;have s3:St w0 _ (Sep (L { lp with state:=.busy } σ r9)):=s2.putAt 1 rfl (.loop { lp with state:=.busy });refine⟨_,_,_,s3.ag 4 rfl 0,p,s3.cellsIn 5 rfl,u,s3.cellsIn 0 rfl,aq (vn (hl s3.an) hlen p u) ?_⟩;rintro v w4 ⟨rfl,c4⟩;have s4:=s3.quiet c4;refine⟨_,rfl,λ b w5=>b=decide (bG ofs p u>σ.2/\cK S n y p u=true)/\St w0 w5 (Sep (L { lp with state:=.busy } σ r9)),?_,_,s4.ag 3 rfl 0,?_⟩
 ·rintro w5 b ⟨rfl,s5⟩ -
  by_cases hb:bG ofs p u>σ.2/\cK S n y p u=true
  ·rw[bM,if_pos hb] at eσ;subst eσ;refine cT (dT hb) ⟨u,s5.cellsIn 0 rfl,s5.az 2 rfl u.vs rfl (I6.one _) λ w6 s6=>s6.bL 3 rfl (by show 0<1; decide) rfl λ w7 s7=>⟨_,s7.uD 1 rfl,rfl,?_⟩⟩;have s8:=s7.putAt 1 rfl (.loop lp);rw[hpd2];exact(s8.aA [1,2,3,4,5,6,7,8,9,10]).shut
  ·rw[bM,if_neg hb] at eσ;subst eσ;refine cF (dF hb) ⟨_,s5.uD 1 rfl,rfl,?_⟩;have s8:=s5.putAt 1 rfl (.loop lp);rw[hpd2];exact(s8.aA [1,2,3,4,5,6,7,8,9,10]).shut
 ·by_cases g:bG ofs p u>σ.2
  ·refine cT (dT g) ⟨_,s4.ag 8 rfl 0,u,s4.cellsIn 0 rfl,cI (by kernel_rfl) (aq (EP ⟨hS s4.an,ho⟩ hy hp hle (s4.cellsIn 6 rfl) (s4.ag 7 rfl 0) (s4.cellsIn 5 rfl)) ?_)⟩;rintro v w5 ⟨rfl,c5⟩;refine⟨_,rfl,?_,s4.quiet c5⟩
   cases hw:cK S n y p u with
   | true=>exact(dT (p:=bG ofs p u>σ.2/\true=true) ⟨g,rfl⟩).symm
   | false=>exact(dF (p:=bG ofs p u>σ.2/\false=true) λ h=>by cases h.2).symm
  ·exact cF (dF g) ⟨(dF λ h=>g h.1).symm,s4⟩
end
theorem HO{l:List Pr}(h:bZ l):pr (aG l).l<=1024:=by
 rw[AT,rC h.l2]; exact h.lim
def eH : Br:=⟨[],0,0,0⟩
def cG(S:Se)(n:Int)(l:List Of)(p:I6):I6×Int:=if jP S≠0 then (z6,jP S) else if n<0\/n>=(S.bd.length:Int) then (z6,6) else if bw p=false then (z6,4) else (zK S n.toNat (S.bd.getD n.toNat eH) l p,0)
set_option maxHeartbeats 1000000 in
theorem mM{w:World}{S:Se}(h:S.In w){a:OA}{c:Nat}{l:List Of}(hl:iQ w a l)(hlen:l.length<=100000)(n:Int)(p:I6) :
  CP 10 #[.agg S.arr,iv n,.slice a l.length c,.agg p.vs.toArray] w (λ r w'=>r=.tuple #[.agg (cG S n l p).1.vs.toArray,iv (cG S n l p).2]/\ax w w' []):=by
 refine tI ?_;unfold sy;refine(St.start w).one.av S.arr λ r1 w1 s1=>s1.av #[iv n] λ r2 w2 s2=>s2.av #[.slice a l.length c] λ r3 w3 s3=>s3.av p.vs.toArray λ r4 w4 s4=>s4.av z6.vs.toArray λ r5 w5 s5=>?_;let M:List aJ:=[ah r5 z6.vs.toArray 35,ah r4 p.vs.toArray 30,ah r3 #[.slice a l.length c] 28,ah r2 #[iv n] 3,ah r1 S.arr 27,emp];have s5:St w w5 (Sep M):=s5;refine⟨_,_,_,_,_,_,_,_,_,_,_,_,s5.cellsIn 4 rfl,aq (lB (h.an s5.an)) ?_⟩;rintro v w6 ⟨⟨rfl,he⟩,c6⟩;have s6:St w w6 (Sep M):=s5.quiet c6;refine⟨_,rfl,?_⟩;have bad:∀ {k:Int} {w' : World},St w w' (Sep M)->cG S n l p=(z6,k)->aN ⟨r5,0,none⟩ 0 z6.vs w' λ w7=>∃ u2:I6,af w7 ⟨r5,0,none⟩ 0 u2.vs/\(.tuple #[.agg u2.vs.toArray,iv k]:Value)=.tuple #[.agg (cG S n l p).1.vs.toArray,iv (cG S n l p).2]/\ax w w7 []:=λ {k w'} s hk =>
  s.az 0 rfl z6.vs rfl (I6.one _) λ w7 s7=>⟨z6,s7.cellsIn 0 rfl,by rw[hk],s7.an⟩
 by_cases g:jP S=0
 rotate_left
 ·exact cT (by simpa using g) (bad s6 (by rw[cG,if_pos g]))
 have hok:S.Ok:=he.1 g;have e1:cG S n l p=if n<0\/n>=(S.bd.length:Int) then (z6,6) else if bw p=false then (z6,4) else (zK S n.toNat (S.bd.getD n.toNat eH) l p,0):=by rw[cG,if_neg (λ h=>h g)]
 refine cF (by rw[g]; rfl) ⟨λ b w8=>b=decide (n<0\/n>=(S.bd.length:Int))/\St w w8 (Sep M),?_,?_⟩
 rotate_left
 ·refine⟨_,s6.ag 3 rfl 0,?_⟩
  by_cases g1:n<0
  ·exact cT (dT g1) ⟨(dT (.inl g1)).symm,s6⟩
  ·refine cF (dF g1) ⟨_,s6.ag 3 rfl 0,_,_,_,s6.ag 4 rfl 1,?_,s6⟩
   by_cases g2:n>=(S.bd.length:Int)
   ·rw[dT g2,dT (.inr g2)]
   ·rw[dF g2,dF (λ h=>h.elim g1 g2)]
 rintro w8 b ⟨rfl,s8⟩ -
 by_cases g1:n<0\/n>=(S.bd.length:Int)
 ·exact cT (dT g1) (bad s8 (by rw[e1,if_pos g1]))
 rw[if_neg g1] at e1;refine cF (dF g1) ⟨p,s8.cellsIn 1 rfl,aq (Cx w8 p) ?_⟩;rintro v w9 ⟨rfl,c9⟩;have s9:St w w9 (Sep M):=s8.quiet c9;refine⟨_,rfl,?_⟩
 cases hp:bw p with
 | false=>exact cT rfl (bad s9 (by rw[e1,if_pos hp]; rfl))
 | true =>
 rw[if_neg (by rw[hp]; decide)] at e1;have hp6:=eY.1 hp;obtain⟨k,rfl⟩:=Int.eq_ofNat_of_zero_le (show 0<=n by omega);have hy:S.bd[k]?=some (S.bd[k]'(by omega)):=gE (by omega);rw[show((k:Int).toNat)=k from Int.toNat_natCast k,List.getD_eq_getElem?_getD,hy,Option.getD_some] at e1;generalize S.bd[k]'(by omega)=y at hy e1;have hsl:=sup_le hok.ps;have hspr:=HO hok.ps;refine cF rfl (s9.av #[.nilFunc] λ r6 w10 s10=>s10.bL 0 rfl (by decide) rfl λ w11 s11=>s11.av z6.vs.toArray λ r7 w12 s12=>⟨_,_,_,s12.ag 4 rfl 0,p,s12.cellsIn 3 rfl,z6,s12.cellsIn 0 rfl,aq (vn (hl.an s12.an) hlen p z6) ?_⟩);rintro v w13 ⟨rfl,c13⟩;have s13:=s12.quiet c13;refine⟨_,rfl,s13.av #[iv 0] λ r8 w14 s14=>s14.bL 0 rfl (by decide) rfl λ w15 s15=>⟨_,_,_,s15.ag 7 rfl 0,aq (kR (h.an s15.an).ps (by have:=hok.ps.l2; omega)) ?_⟩⟩;rintro v w16 ⟨rfl,c16⟩;have s16:=s15.quiet c16;refine⟨_,rfl,aq (I4 s16 (aG S.ps) hsl hspr) ?_⟩;rintro v w17 ⟨b,rfl,s17⟩;have s17:St w w17 (Sep [ah b (aG S.ps).vs.toArray 35,ah r8 #[iv (bG l p z6)] 2,ah r7 z6.vs.toArray 35,ah r6 #[.func (.func 36) #[] #[pt r1,pt r2,pt r4]] 91,ah r5 z6.vs.toArray 35,ah r4 p.vs.toArray 30,ah r3 #[.slice a l.length c] 28,ah r2 #[iv k] 3,ah r1 S.arr 27,emp]):=s17;refine⟨_,rfl,Dh (by kernel_rfl) ?_⟩;refine Dg s17 (λ _ _=>⟨rfl,rfl⟩) λ fn lo w18 s18=>?_;have s18' : St w w18 (Sep ((dU lo (.loop _) :: HY S k l p r1 r2 r3 r4 r6 r7 r8 a c (dU w17.heap.size (.deferred (some []))) (.func (.func 36) #[] #[pt r1,pt r2,pt r4]) (aZ S k y l p (aG S.ps) 0))++[ah b (aG S.ps).vs.toArray 35,ah r5 z6.vs.toArray 35,emp])):=s18.aA [0,4,3,8,7,10,9,5,1,2,6,11];have s19:=s18'.split _;refine aq (Gu hsl (R:=λ i=>Sep (dU lo (.loop _) :: HY S k l p r1 r2 r3 r4 r6 r7 r8 a c (dU w17.heap.size (.deferred (some []))) (.func (.func 36) #[] #[pt r1,pt r2,pt r4]) (aZ S k y l p (aG S.ps) i)))
  (λ i w1 Fr hi hh=>zJ hy hok hp6 (λ hc=>h.an hc) (λ hc=>hl.an hc) hlen hsl hi rfl rfl rfl rfl rfl rfl hh) s19) ?_
 rintro v w20 ⟨rfl,s20⟩;have s20':=St.cat (l:=dU lo (.loop _) :: HY S k l p r1 r2 r3 r4 r6 r7 r8 a c _ _ _) (m:=[ah b (aG S.ps).vs.toArray 35,ah r5 z6.vs.toArray 35,emp]) s20;refine⟨_,rfl,_,s20',λ w21 s21=>?_⟩;have s21:St w w21 (Sep [ah r7 (aZ S k y l p (aG S.ps) (cR (aG S.ps))).1.vs.toArray 35,ah r8 #[iv (aZ S k y l p (aG S.ps) (cR (aG S.ps))).2] 2,ah r3 #[.slice a l.length c] 28,ah r4 p.vs.toArray 30,ah r1 S.arr 27,ah r2 #[iv k] 3,ah r6 #[.func (.func 36) #[] #[pt r1,pt r2,pt r4]] 91,dU w17.heap.size (.deferred (some [])),ah b (aG S.ps).vs.toArray 35,ah r5 z6.vs.toArray 35,emp]):=s21;refine⟨_,s21.cellsIn 0 rfl,s21.az 9 rfl _ rfl (I6.one _) λ w22 s22=>⟨s22.uD 7 rfl,?_⟩⟩;have s23:=s22.putAt 7 rfl (.deferred none);exact⟨_,s23.cellsIn 9 rfl,by rw[e1]; rfl,s23.an⟩
def yu(a:I6)(w:World)(K:KP):=au w (.cells a.vs.toArray 35) λ a b=>∃ c:Int->qN,(∃ d,c 0 b d)/\∀ b d e,c e b d->∀ f:qv,cond (decide (e<6)) (∃ f:Bool->qW,(∀ g h,f h g->∀ i:qv,cond h (K (iv 4) g) (∃ h,h<d/\c (IntKind.i64.wrap (e+1)) g h))/\0<=e/\e<6/\∃ c,b.cell? (Addr.add (qd a 0) ((e).toNat*1))=some (iv c)/\cond (decide (c<0)) (f true b) (0<=e/\e<6/\∃ c,b.cell? (Addr.add (qd a 0) ((e).toNat*1))=some (iv c)/\f (decide (c>4)) b)) (K qz b)
theorem yw{u1 w K}(h:yu u1 w K):CP 84 #[.agg u1.vs.toArray] w K:=aj (aC [(26,[(3,.s (.int .i64))]),(420,[(17,.s .bool)])]) func84 (by kernel_rfl) (by kernel_rfl) h
def yJ(a:I6)(w:World)(K:KP):=au w (.cells a.vs.toArray 35) λ a b=>∃ c:I6,af b (qd a 0) 0 c.vs/\CC 84 #[.agg c.vs.toArray] b λ b c=>∃ d,b=.returned (iv d)/\cond (d !=0) (K qz c) (∃ b:Int->Int->qN,(∃ d,b 1 (0:Int) c d)/\∀ c d e f,b e f c d->∀ g:qv,cond (decide (f<6)) (0<=f/\f<6/\∃ g,c.cell? (Addr.add (qd a 0) ((f).toNat*1))=some (iv g)/\∃ a,a<d/\b (IntKind.i64.wrap (e*(IntKind.i64.wrap (g+1)))) (IntKind.i64.wrap (f+1)) c a) (cond (decide (e>1024)) (K qz c) (K (iv e) c)))
theorem yK{u1 w K}(h:yJ u1 w K):CP 64 #[.agg u1.vs.toArray] w K:=aj (aC [(122,[(3,.s (.int .i64)),(4,.s (.int .i64))])]) func64 (by kernel_rfl) (by kernel_rfl) h
def uU(a:I6)(w:World)(K:KP):=au w (.cells a.vs.toArray 30) λ a b=>∃ c:Int->qN,(∃ d,c 0 b d)/\∀ b d e,c e b d->∀ f:qv,cond (decide (e<6)) (∃ f:Bool->qW,(∀ g h,f h g->∀ i:qv,cond h (K (.bool false) g) (∃ h,h<d/\c (IntKind.i64.wrap (e+1)) g h))/\0<=e/\e<6/\∃ c,b.cell? (Addr.add (qd a 0) ((e).toNat*1))=some (iv c)/\cond (decide (c<0)) (f true b) (0<=e/\e<6/\∃ c,b.cell? (Addr.add (qd a 0) ((e).toNat*1))=some (iv c)/\f (decide (c>1000000)) b)) (K (.bool true) b)
theorem wq{u1 w K}(h:uU u1 w K):CP 42 #[.agg u1.vs.toArray] w K:=aj (aC [(26,[(3,.s (.int .i64))]),(420,[(17,.s .bool)])]) func42 (by kernel_rfl) (by kernel_rfl) h
def uX(a b:I6)(w:World)(K:KP):=au w (.cells a.vs.toArray 35) λ a c=>au c (.cells b.vs.toArray 35) λ b c=>∃ d:Int->qN,(∃ e,d 0 c e)/\∀ c e f,d f c e->∀ g:qv,cond (decide (f<6)) (0<=f/\f<6/\∃ g,c.drew.cell? (Addr.add (qd a 0) ((f).toNat*1))=some (iv g)/\0<=f/\f<6/\∃ a,c.drew.cell? (Addr.add (qd b 0) ((f).toNat*1))=some (iv a)/\cond (decide (g>a)) (K (.bool false) c.drew) (∃ a,a<e/\d (IntKind.i64.wrap (f+1)) c.drew a)) (K (.bool true) c)
theorem wz{u1 u2 w K}(h:uX u1 u2 w K):CP 125 #[.agg u1.vs.toArray,.agg u2.vs.toArray] w K:=aj (aC [(26,[(5,.s (.int .i64))])]) func125 (by kernel_rfl) (by kernel_rfl) h
def BJ(a b:I6)(w:World)(K:KP):=au w (.cells a.vs.toArray 30) λ a c=>au c (.cells b.vs.toArray 35) λ b c=>∃ d:Int->Int->qN,(∃ e,d 0 (0:Int) c e)/\∀ c e f g,d f g c e->∀ h:qv,cond (decide (g<6)) (0<=g/\g<6/\∃ h,c.drew.cell? (Addr.add (qd a 0) ((g).toNat*1))=some (iv h)/\0<=g/\g<6/\∃ a,c.drew.cell? (Addr.add (qd b 0) ((g).toNat*1))=some (iv a)/\∃ b,b<e/\d (IntKind.i64.wrap (f+(IntKind.i64.wrap (h*a)))) (IntKind.i64.wrap (g+1)) c.drew b) (K (iv f) c)
theorem At{u1 u2 w K}(h:BJ u1 u2 w K):CP 86 #[.agg u1.vs.toArray,.agg u2.vs.toArray] w K:=aj (aC [(58,[(5,.s (.int .i64)),(6,.s (.int .i64))])]) func86 (by kernel_rfl) (by kernel_rfl) h
def BS(a:I6)(w:World)(K:KP):=au w (.cells a.vs.toArray 35) λ a b=>∃ c:I6,af b (qd a 0) 0 c.vs/\CC 64 #[.agg c.vs.toArray] b λ b c=>∃ d,b=.returned (iv d)/\cond (d==0) (K qn c) (au c (.cells z6.vs.toArray 35) λ b c=>∃ d:OA->Nat->Nat->Int->qN,(∃ e,d (some (qd b 0)) 1 1 0 c e)/\∀ b e c f g h,d c f g h b e->∀ i:qv,cond (decide (h<6)) (∃ i:OA->Nat->Nat->Int->qN,(∃ j,i none 0 0 0 b j)/\∀ k j l m n o,i l m n o k j->∀ p:qv,cond (decide (o<(f:Int))) (∃ p:OA->Nat->Nat->Int->qN,(∃ q,p l m n 0 k q)/\∀ r q s t u v,p s t u v r q->∀ x:qv,0<=h/\h<6/\∃ x,r.cell? (Addr.add (qd a 0) ((h).toNat*1))=some (iv x)/\cond (decide (v<=x)) (ak c λ a=>0<=o/\o<(f:Int)/\∃ x:I6,af r (Addr.add a ((o).toNat*6)) 0 x.vs/\au r (.cells z6.vs.toArray 35) λ a y=>aN (qd a 0) 0 x.vs y λ x=>0<=h/\h<6/\dW x (Addr.add (qd a 0) ((h).toNat*1)) (iv v) λ x=>∃ y:I6,af x (qd a 0) 0 y.vs/\au x (.cells y.vs.toArray 35) λ a x=>aW prog (Builtin.append_ #[46,46] 46 #[.slice s t u,.slice (some (qd a 0)) 1 1]) x λ a x=>∃ y z A,a=(.slice y z A)/\∃ a,a<q/\p y z A (IntKind.i64.wrap (v+1)) x a) (∃ a,a<j/\i s t u (IntKind.i64.wrap (o+1)) r a)) (∃ a,a<e/\d l m n (IntKind.i64.wrap (h+1)) k a)) (K (.slice c f g) b))
theorem Ax{u1 w K}(h:BS u1 w K):CP 29 #[.agg u1.vs.toArray] w K:=aj (aC [(122,[(3,.s .slice),(4,.s (.int .i64))]),(31306,[(5,.s .slice),(6,.s (.int .i64))]),(2003602,[(5,.s .slice),(7,.s (.int .i64))])]) func29 (by kernel_rfl) (by kernel_rfl) h
def uW(a:OA)(b c:Nat)(w:World)(K:KP):=au w (.cells z6.vs.toArray 35) λ c d=>au d (.cells z6.vs.toArray 35) λ d e=>∃ f:Int->qN,(∃ g,f 0 e g)/\∀ e g h,f h e g->∀ i:qv,∃ i:Bool->qW,(∀ j k,i k j->∀ l:qv,cond k (ak a λ a=>0<=h/\h<(b:Int)/\∃ k,j.cell? (Addr.add (Addr.add a ((h).toNat*5)) 1)=some (iv k)/\0<=h/\h<6/\dW j (Addr.add (qd d 0) ((h).toNat*1)) (iv k) λ a=>∃ k,k<g/\f (IntKind.i64.wrap (h+1)) a k) (∃ a:I6,af j (qd d 0) 0 a.vs/\aN (qd c 0) 0 a.vs j λ a=>∃ d:I6,af a (qd c 0) 0 d.vs/\K (.agg d.vs.toArray) a))/\cond (decide (h<(b:Int))) (i (decide (h<6)) e) (i false e)
theorem wv{a1 l1 c1 w K}(h:uW a1 l1 c1 w K):CP 30 #[.slice a1 l1 c1] w K:=aj (aC [(58,[(4,.s (.int .i64))]),(232,[(12,.s .bool)])]) func30 (by kernel_rfl) (by kernel_rfl) h
def BY(a:OA)(b c:Nat)(d:Int)(e:I6)(w:World)(K:KP):=au w (.cells e.vs.toArray 35) λ e f=>∃ g:Bool->qW,(∀ h i,g i h->∀ j:qv,cond i (K (.tuple #[qz,qz,qz]) h) (∃ i:Int->Int->Int->Int->qN,(∃ j,i 0 (0:Int) (0:Int) (0:Int) h j)/\∀ h j k l m n,i k l m n h j->∀ o:qv,cond (decide (n<(b:Int))) (∃ o:Int->Int->Int->Int->qN,(∃ p,o k l m 0 h p)/\∀ q p r s t u,o r s t u q p->∀ v:qv,0<=n/\n<6/\∃ v,q.cell? (Addr.add (qd e 0) ((n).toNat*1))=some (iv v)/\cond (decide (u<v)) (∃ v:Int->Int->Int->qW,(∀ x y z A,v y z A x->∀ B:qv,∃ B,B<p/\o y z A (IntKind.i64.wrap (u+1)) x B)/\ak a λ o=>0<=n/\n<(b:Int)/\∃ p,q.cell? (Addr.add (Addr.add o ((n).toNat*5)) 3)=some (iv p)/\ak a λ o=>0<=n/\n<(b:Int)/\∃ u,q.cell? (Addr.add (Addr.add o ((n).toNat*5)) 2)=some (iv u)/\ak a λ o=>0<=n/\n<(b:Int)/\∃ x,q.cell? (Addr.add (Addr.add o ((n).toNat*5)) 4)=some (iv x)/\cond (x==d) (v (IntKind.i64.wrap (r+p)) (IntKind.i64.wrap (s+u)) (IntKind.i64.wrap (t+1)) q) (v (IntKind.i64.wrap (r+p)) (IntKind.i64.wrap (s+u)) t q)) (∃ d,d<j/\i r s t (IntKind.i64.wrap (n+1)) q d)) (K (.tuple #[iv k,iv l,iv m]) h)))/\CC 55 #[.slice a b c] f λ a b=>∃ c,a=.returned (iv c)/\cond (c !=0) (g true b) (∃ a:I6,af b (qd e 0) 0 a.vs/\CC 79 #[.agg a.vs.toArray] b λ a b=>∃ c,a=.returned (.bool c)/\g (!c) b)
theorem AD{a1 l1 c1 n1 u1 w K}(h:BY a1 l1 c1 n1 u1 w K):CP 81 #[.slice a1 l1 c1,iv n1,.agg u1.vs.toArray] w K:=aj (aC [(14,[(21,.s .bool)]),(122,[(9,.s (.int .i64)),(10,.s (.int .i64)),(11,.s (.int .i64)),(12,.s (.int .i64))]),(7826,[(9,.s (.int .i64)),(10,.s (.int .i64)),(11,.s (.int .i64)),(13,.s (.int .i64))]),(31305,[(9,.s (.int .i64)),(10,.s (.int .i64)),(11,.s (.int .i64))])]) func81 (by kernel_rfl) (by kernel_rfl) h
def BW(a:OA)(b c:Nat)(d:OA)(e f:Nat)(g:OA)(h i:Nat)(j:OA)(k l:Nat)(w:World)(K:KP):=au w (.cells #[.slice a b c,.slice d e f,.slice g h i,.slice j k l] 27) λ a b=>au b (.cells z6.vs.toArray 35) λ b c=>au c (.cells z6.vs.toArray 35) λ c d=>au d (.cells z6.vs.toArray 35) λ d e=>au e (.cells z6.vs.toArray 35) λ e f=>∃ g h i j k l m n o p q r,af f (qd a 0) 0 [.slice g h i,.slice j k l,.slice m n o,.slice p q r]/\CC 22 #[.agg #[.slice g h i,.slice j k l,.slice m n o,.slice p q r]] f λ f g=>∃ h,f=.returned (iv h)/\cond (h !=0) (∃ f:I6,af g.drew (qd d 0) 0 f.vs/\∃ h:I6,af g.drew (qd e 0) 0 h.vs/\aN (qd b 0) 0 f.vs g.drew λ f=>af f (qd e 0) 0 h.vs/\aN (qd c 0) 0 h.vs f λ f=>∃ h:I6,af f (qd b 0) 0 h.vs/\∃ i:I6,af f (qd c 0) 0 i.vs/\K (.tuple #[.agg h.vs.toArray,.agg i.vs.toArray]) f) (∃ f:Int->qN,(∃ h,f 0 g h)/\∀ g h i,f i g h->∀ j:qv,∃ j k l,g.cell? (qd a 0)=some (.slice j k l)/\cond (decide (i<(k:Int))) (∃ j k l,g.cell? (qd a 0)=some (.slice j k l)/\ak j λ j=>0<=i/\i<(k:Int)/\∃ k,g.cell? (Addr.add (Addr.add j ((i).toNat*5)) 1)=some (iv k)/\0<=i/\i<6/\dW g (Addr.add (qd d 0) ((i).toNat*1)) (iv k) λ j=>∃ k,k<h/\f (IntKind.i64.wrap (i+1)) j k) (∃ f:Int->qN,(∃ h,f 0 g h)/\∀ g h i,f i g h->∀ j:qv,∃ j k l,g.cell? (qd a 3)=some (.slice j k l)/\cond (decide (i<(k:Int))) (∃ j k l,g.cell? (qd a 3)=some (.slice j k l)/\ak j λ a=>0<=i/\i<(k:Int)/\∃ j k l,af g (Addr.add a ((i).toNat*3)) 0 [iv j,iv k,iv l]/\au g (.cells #[qz,qz,qz] 115) λ a m=>aN (qd a 0) 0 [iv j,iv k,iv l] m λ j=>∃ k,j.drew.cell? (qd a 0)=some (iv k)/\∃ l,j.drew.cell? (qd a 0)=some (iv l)/\0<=l/\l<6/\∃ m,j.drew.cell? (Addr.add (qd d 0) ((l).toNat*1))=some (iv m)/\∃ l,j.drew.cell? (qd a 2)=some (iv l)/\0<=k/\k<6/\dW j.drew (Addr.add (qd d 0) ((k).toNat*1)) (iv (IntKind.i64.wrap (m-l))) λ j=>∃ k,j.cell? (qd a 0)=some (iv k)/\∃ l,j.cell? (qd a 1)=some (iv l)/\0<=k/\k<6/\dW j (Addr.add (qd e 0) ((k).toNat*1)) (iv l) λ a=>∃ j,j<h/\f (IntKind.i64.wrap (i+1)) a j) (∃ a:I6,af g.drew (qd d 0) 0 a.vs/\∃ d:I6,af g.drew (qd e 0) 0 d.vs/\aN (qd b 0) 0 a.vs g.drew λ a=>af a (qd e 0) 0 d.vs/\aN (qd c 0) 0 d.vs a λ a=>∃ d:I6,af a (qd b 0) 0 d.vs/\∃ b:I6,af a (qd c 0) 0 b.vs/\K (.tuple #[.agg d.vs.toArray,.agg b.vs.toArray]) a)))
theorem AA{a1 l1 c1 a2 l2 c2 a3 l3 c3 a4 l4 c4 w K}(h:BW a1 l1 c1 a2 l2 c2 a3 l3 c3 a4 l4 c4 w K):CP 80 #[.agg #[.slice a1 l1 c1,.slice a2 l2 c2,.slice a3 l3 c3,.slice a4 l4 c4]] w K:=aj (aC [(122,[(6,.s (.int .i64))]),(250,[(7,.s (.int .i64))])]) func80 (by kernel_rfl) (by kernel_rfl) h
def sC(a:OA)(b c:Nat)(d:OA)(e f:Nat)(g:OA)(h i:Nat)(j:OA)(k l:Nat)(m:Int)(n:I6)(w:World)(K:KP):=au w (.cells #[.slice a b c,.slice d e f,.slice g h i,.slice j k l] 27) λ a b=>au b (.cells n.vs.toArray 35) λ b c=>∃ d e f g h i j k l n o p,af c (qd a 0) 0 [.slice d e f,.slice g h i,.slice j k l,.slice n o p]/\CC 22 #[.agg #[.slice d e f,.slice g h i,.slice j k l,.slice n o p]] c λ c d=>∃ e,c=.returned (iv e)/\cond (e !=0) (K (iv e) d) (∃ c:Bool->qW,(∀ e f,c f e->∀ g:qv,cond f (K (iv 6) e) (∃ f:I6,af e (qd b 0) 0 f.vs/\CC 79 #[.agg f.vs.toArray] e λ e f=>∃ g,e=.returned (.bool g)/\cond (!g) (K (iv 4) f) (∃ e g h i j k l n o p q r,af f (qd a 0) 0 [.slice e g h,.slice i j k,.slice l n o,.slice p q r]/\CC 80 #[.agg #[.slice e g h,.slice i j k,.slice l n o,.slice p q r]] f λ e f=>∃ g h:I6,e=.returned (.tuple #[.agg g.vs.toArray,.agg h.vs.toArray])/\au f (.cells z6.vs.toArray 35) λ e f=>au f (.cells z6.vs.toArray 35) λ f i=>aN (qd e 0) 0 g.vs i λ g=>aN (qd f 0) 0 h.vs g λ g=>∃ h i j,g.cell? (qd a 0)=some (.slice h i j)/\CC 30 #[.slice h i j] g λ g h=>∃ i:I6,g=.returned (.agg i.vs.toArray)/\au h (.cells z6.vs.toArray 35) λ g h=>aN (qd g 0) 0 i.vs h λ h=>∃ i:Int->qN,(∃ j,i 0 h j)/\∀ h j k,i k h j->∀ l:qv,cond (decide (k<6)) (∃ l:Bool->qW,(∀ n o,l o n->∀ p:qv,cond o (K (iv 14) n) (∃ o,o<j/\i (IntKind.i64.wrap (k+1)) n o))/\0<=k/\k<6/\∃ i,h.drew.cell? (Addr.add (qd b 0) ((k).toNat*1))=some (iv i)/\0<=k/\k<6/\∃ j,h.drew.cell? (Addr.add (qd g 0) ((k).toNat*1))=some (iv j)/\cond (decide (i>j)) (l true h.drew) (0<=k/\k<6/\∃ g,h.drew.cell? (Addr.add (qd f 0) ((k).toNat*1))=some (iv g)/\cond (g !=0) (0<=k/\k<6/\∃ g,h.drew.cell? (Addr.add (qd f 0) ((k).toNat*1))=some (iv g)/\∃ f i j,h.drew.cell? (qd a 1)=some (.slice f i j)/\ak f λ f=>0<=m/\m<(i:Int)/\∃ i,h.drew.cell? (Addr.add (Addr.add f ((m).toNat*4)) 1)=some (iv i)/\cond (g !=i) (0<=k/\k<6/\∃ f,h.drew.cell? (Addr.add (qd b 0) ((k).toNat*1))=some (iv f)/\0<=k/\k<6/\∃ g,h.drew.cell? (Addr.add (qd e 0) ((k).toNat*1))=some (iv g)/\l (decide (f>g)) h.drew) (l false h.drew)) (l false h.drew))) (∃ e:Int->qN,(∃ f,e 0 h f)/\∀ g f h,e h g f->∀ i:qv,∃ i j k,g.cell? (qd a 2)=some (.slice i j k)/\cond (decide (h<(j:Int))) (∃ i j k,g.cell? (qd a 2)=some (.slice i j k)/\ak i λ i=>0<=h/\h<(j:Int)/\∃ j k l,af g (Addr.add i ((h).toNat*3)) 0 [iv j,iv k,iv l]/\au g (.cells #[qz,qz,qz] 113) λ i n=>aN (qd i 0) 0 [iv j,iv k,iv l] n λ j=>∃ k l n,j.cell? (qd a 0)=some (.slice k l n)/\∃ o,j.cell? (qd i 1)=some (iv o)/\∃ p:I6,af j (qd b 0) 0 p.vs/\CC 81 #[.slice k l n,iv o,.agg p.vs.toArray] j λ b j=>∃ k l n,b=.returned (.tuple #[iv k,iv l,iv n])/\∃ b:Bool->qW,(∀ k l,b l k->∀ o:qv,cond l (K (iv 14) k) (∃ l,l<f/\e (IntKind.i64.wrap (h+1)) k l))/\∃ e,j.cell? (qd i 0)=some (iv e)/\cond (e==(-1:Int)) (∃ e,j.cell? (qd i 2)=some (iv e)/\b (decide (n>e)) j) (∃ e,j.cell? (qd i 0)=some (iv e)/\cond (e==m) (∃ e,j.cell? (qd i 2)=some (iv e)/\b (decide (n>e)) j) (b false j))) (K qz g)))))/\cond (decide (m<0)) (c true d) (∃ b e f,d.cell? (qd a 1)=some (.slice b e f)/\c (decide (m>=(e:Int))) d))
theorem tK{a1 l1 c1 a2 l2 c2 a3 l3 c3 a4 l4 c4 n1 u1 w K}(h:sC a1 l1 c1 a2 l2 c2 a3 l3 c3 a4 l4 c4 n1 u1 w K):CP 43 #[.agg #[.slice a1 l1 c1,.slice a2 l2 c2,.slice a3 l3 c3,.slice a4 l4 c4],iv n1,.agg u1.vs.toArray] w K:=aj (aC [(30,[(30,.s .bool)]),(2042,[(11,.s (.int .i64))]),(32676,[(79,.s .bool)]),(4090,[(12,.s (.int .i64))]),(261779,[(116,.s .bool)])]) func43 (by kernel_rfl) (by kernel_rfl) h
def uJ(a:OA)(b c:Nat)(d:OA)(e f:Nat)(g:OA)(h i:Nat)(j:OA)(k l:Nat)(m:Int)(w:World)(K:KP):=au w (.cells #[.slice a b c,.slice d e f,.slice g h i,.slice j k l] 27) λ a b=>cond (decide (m>=0)) (∃ c d e,b.cell? (qd a 1)=some (.slice c d e)/\K (.bool (decide (m<(d:Int)))) b) (K (.bool false) b)
theorem vY{a1 l1 c1 a2 l2 c2 a3 l3 c3 a4 l4 c4 n1 w K}(h:uJ a1 l1 c1 a2 l2 c2 a3 l3 c3 a4 l4 c4 n1 w K):CP 82 #[.agg #[.slice a1 l1 c1,.slice a2 l2 c2,.slice a3 l3 c3,.slice a4 l4 c4],iv n1] w K:=aj (aC []) func82 (by kernel_rfl) (by kernel_rfl) h
def BL(a b:I6)(w:World)(K:KP):=au w (.cells a.vs.toArray 30) λ a c=>au c (.cells b.vs.toArray 35) λ b c=>∃ d:Int->Int->qN,(∃ e,d 0 (0:Int) c e)/\∀ c e f g,d f g c e->∀ h:qv,cond (decide (g<6)) (0<=g/\g<6/\∃ h,c.drew.cell? (Addr.add (qd a 0) ((g).toNat*1))=some (iv h)/\0<=g/\g<6/\∃ a,c.drew.cell? (Addr.add (qd b 0) ((g).toNat*1))=some (iv a)/\∃ b,b<e/\d (IntKind.i64.wrap (f+(IntKind.i64.wrap (h*a)))) (IntKind.i64.wrap (g+1)) c.drew b) (K (iv f) c)
theorem Av{u1 u2 w K}(h:BL u1 u2 w K):CP 83 #[.agg u1.vs.toArray,.agg u2.vs.toArray] w K:=aj (aC [(58,[(5,.s (.int .i64)),(6,.s (.int .i64))])]) func83 (by kernel_rfl) (by kernel_rfl) h
def mq(a:OA)(b c:Nat)(d:OA)(e f:Nat)(g:OA)(h i:Nat)(j:OA)(k l:Nat)(m:Int)(n o:I6)(w:World)(K:KP):=au w (.cells #[.slice a b c,.slice d e f,.slice g h i,.slice j k l] 27) λ a b=>au b (.cells (n.on (o.vs):List Value).toArray 90) λ b c=>∃ d e f g h i j k l n o p,af c (qd a 0) 0 [.slice d e f,.slice g h i,.slice j k l,.slice n o p]/\CC 82 #[.agg #[.slice d e f,.slice g h i,.slice j k l,.slice n o p],iv m] c λ c d=>∃ e,c=.returned (.bool e)/\cond (!e) (K (iv 6) d) (∃ c:Bool->qW,(∀ e f,c f e->∀ g:qv,cond f (K (iv 17) e) (K qz e))/\∃ e f g,d.drew.cell? (qd a 1)=some (.slice e f g)/\ak e λ e=>0<=m/\m<(f:Int)/\∃ f,d.drew.cell? (Addr.add (Addr.add e ((m).toNat*4)) 2)=some (iv f)/\cond (f !=0) (∃ e f g,d.drew.cell? (qd a 1)=some (.slice e f g)/\ak e λ h=>0<=m/\m<(f:Int)/\∃ i,d.drew.cell? (Addr.add (Addr.add h ((m).toNat*4)) 2)=some (iv i)/\∃ j:I6,af d.drew (qd b 0) 0 j.vs/\∃ k:I6,af d.drew (qd b 6) 0 k.vs/\CC 83 #[.agg j.vs.toArray,.agg k.vs.toArray] d.drew λ b j=>∃ k,b=.returned (iv k)/\j.cell? (Addr.add (Addr.add h ((m).toNat*4)) 2)=some (iv i)/\j.cell? (qd a 1)=some (.slice e f g)/\c (decide (i<k)) j) (c false d.drew))
theorem pI{a1 l1 c1 a2 l2 c2 a3 l3 c3 a4 l4 c4 n1 u1 u2 w K}(h:mq a1 l1 c1 a2 l2 c2 a3 l3 c3 a4 l4 c4 n1 u1 u2 w K):CP 44 #[.agg #[.slice a1 l1 c1,.slice a2 l2 c2,.slice a3 l3 c3,.slice a4 l4 c4],iv n1,.agg (u1.on (u2.vs):List Value).toArray] w K:=aj (aC [(14,[(31,.s .bool)])]) func44 (by kernel_rfl) (by kernel_rfl) h
def y4(a:OA)(b c:Nat)(d:I6)(w:World)(K:KP):=au w (.cells d.vs.toArray 35) λ c d=>∃ e:Int->Int->qN,(∃ f,e 0 (0:Int) d f)/\∀ d f g h,e g h d f->∀ i:qv,cond (decide (h<(b:Int))) (∃ i:Int->qW,(∀ j k,i k j->∀ l:qv,∃ l,l<f/\e k (IntKind.i64.wrap (h+1)) j l)/\ak a λ a=>0<=h/\h<(b:Int)/\∃ b,∃ e:I6,∃ f,af d (Addr.add a ((h).toNat*8)) 0 (iv b :: e.on [iv f])/\au d (.cells #[qz,qz,qz,qz,qz,qz,qz,qz] 81) λ a h=>aN (qd a 0) 0 (iv b :: e.on [iv f]) h λ b=>∃ e:Bool->qW,(∀ f h,e h f->∀ j:qv,cond h (∃ h,f.cell? (qd a 7)=some (iv h)/\i h f) (i g f))/\∃ f:I6,af b (qd a 1) 0 f.vs/\CC 84 #[.agg f.vs.toArray] b λ b f=>∃ h,b=.returned (iv h)/\cond (h==0) (∃ b,f.cell? (qd a 7)=some (iv b)/\cond (decide (b>=1)) (∃ b,f.cell? (qd a 7)=some (iv b)/\cond (decide (b<=1000000)) (∃ b:I6,af f (qd a 1) 0 b.vs/\∃ h:I6,af f (qd c 0) 0 h.vs/\CC 125 #[.agg b.vs.toArray,.agg h.vs.toArray] f λ b c=>∃ h,b=.returned (.bool h)/\cond h (∃ b,c.cell? (qd a 7)=some (iv b)/\e (decide (b>g)) c) (e false c)) (e false f)) (e false f)) (e false f)) (K (iv g) d)
theorem y5{a1 l1 c1 u1 w K}(h:y4 a1 l1 c1 u1 w K):CP 85 #[.slice a1 l1 c1,.agg u1.vs.toArray] w K:=aj (aC [(58,[(5,.s (.int .i64)),(6,.s (.int .i64))]),(233,[(5,.s (.int .i64))]),(1865,[(43,.s .bool)])]) func85 (by kernel_rfl) (by kernel_rfl) h
def sI(a:OA)(b c:Nat)(d e:I6)(w:World)(K:KP):=au w (.cells d.vs.toArray 30) λ d f=>au f (.cells e.vs.toArray 35) λ e f=>∃ g:Bool->qW,(∀ h i,g i h->∀ j:qv,cond i (K qz h) (∃ i:I6,af h.drew (qd e 0) 0 i.vs/\∃ j:I6,af h.drew (qd d 0) 0 j.vs/\∃ k:I6,af h.drew (qd e 0) 0 k.vs/\CC 85 #[.slice a b c,.agg i.vs.toArray] h.drew λ a b=>∃ c,a=.returned (iv c)/\af b (qd e 0) 0 k.vs/\af b (qd d 0) 0 j.vs/\CC 86 #[.agg j.vs.toArray,.agg k.vs.toArray] b λ a b=>∃ h,a=.returned (iv h)/\K (iv (IntKind.i64.wrap (c-h))) b))/\∃ a:I6,af f (qd e 0) 0 a.vs/\CC 84 #[.agg a.vs.toArray] f λ a b=>∃ c,a=.returned (iv c)/\cond (c !=0) (g true b) (∃ a:I6,af b (qd d 0) 0 a.vs/\CC 42 #[.agg a.vs.toArray] b λ a b=>∃ c,a=.returned (.bool c)/\g (!c) b)
theorem tP{a1 l1 c1 u1 u2 w K}(h:sI a1 l1 c1 u1 u2 w K):CP 45 #[.slice a1 l1 c1,.agg u1.vs.toArray,.agg u2.vs.toArray] w K:=aj (aC [(6,[(14,.s .bool)])]) func45 (by kernel_rfl) (by kernel_rfl) h
def E0(a:OA)(b c:Nat)(d:OA)(e f:Nat)(g:OA)(h i:Nat)(j:OA)(k l:Nat)(m:OA)(n o:Nat)(w:World)(K:KP):=au w (.cells #[.slice a b c,.slice d e f,.slice g h i,.slice j k l] 27) λ a b=>∃ c:Bool->qW,(∀ d e,c e d->∀ f:qv,cond e (K (.bool false) d) (∃ e:Int->qN,(∃ f,e 0 d f)/\∀ d f g,e g d f->∀ h:qv,cond (decide (g<(n:Int))) (ak m λ h=>0<=g/\g<(n:Int)/\∃ i j k,d.cell? (Addr.add h ((g).toNat*1))=some (.slice i j k)/\cond (decide ((j:Int)>(10:Int))) (K (.bool false) d) (∃ h,h<f/\e (IntKind.i64.wrap (g+1)) d h)) (K (.bool true) d)))/\∃ d e f,b.cell? (qd a 0)=some (.slice d e f)/\cond (decide ((e:Int)>(3:Int))) (c true b) (∃ d e f,b.cell? (qd a 1)=some (.slice d e f)/\cond (decide ((e:Int)>(4:Int))) (c true b) (∃ d e f,b.cell? (qd a 2)=some (.slice d e f)/\cond (decide ((e:Int)>(10:Int))) (c true b) (∃ d e f,b.cell? (qd a 3)=some (.slice d e f)/\cond (decide ((e:Int)>(6:Int))) (c true b) (cond (decide ((n:Int)>(6:Int))) (c true b) (∃ d e f,b.cell? (qd a 0)=some (.slice d e f)/\CC 30 #[.slice d e f] b λ a b=>∃ d:I6,a=.returned (.agg d.vs.toArray)/\CC 29 #[.agg d.vs.toArray] b λ a b=>∃ d e f,a=.returned (.slice d e f)/\c (decide ((e:Int)>(30:Int))) b)))))
theorem CZ{a1 l1 c1 a2 l2 c2 a3 l3 c3 a4 l4 c4 a5 l5 c5 w K}(h:E0 a1 l1 c1 a2 l2 c2 a3 l3 c3 a4 l4 c4 a5 l5 c5 w K):CP 8 #[.agg #[.slice a1 l1 c1,.slice a2 l2 c2,.slice a3 l3 c3,.slice a4 l4 c4],.slice a5 l5 c5] w K:=aj (aC [(6,[(40,.s .bool)]),(58,[(5,.s (.int .i64))])]) func8 (by kernel_rfl) (by kernel_rfl) h
def BI(a:OA)(b c:Nat)(d:OA)(e f:Nat)(g:OA)(h i:Nat)(j:OA)(k l:Nat)(m:Int)(n:OA)(o p:Nat)(q:I6)(w:World)(K:KP):=au w (.cells #[.slice a b c,.slice d e f,.slice g h i,.slice j k l] 27) λ a b=>au b (.cells q.vs.toArray 30) λ b c=>au c (.cells z6.vs.toArray 35) λ c d=>∃ e f g h i j k l q r s t,af d (qd a 0) 0 [.slice e f g,.slice h i j,.slice k l q,.slice r s t]/\CC 22 #[.agg #[.slice e f g,.slice h i j,.slice k l q,.slice r s t]] d λ d e=>∃ f,d=.returned (iv f)/\cond (f !=0) (aN (qd c 0) 0 z6.vs e λ d=>∃ g:I6,af d (qd c 0) 0 g.vs/\K (.tuple #[.agg g.vs.toArray,iv f]) d) (∃ d:Bool->qW,(∀ f g,d g f->∀ h:qv,cond g (aN (qd c 0) 0 z6.vs f λ g=>∃ h:I6,af g (qd c 0) 0 h.vs/\K (.tuple #[.agg h.vs.toArray,iv 6]) g) (∃ g:I6,af f (qd b 0) 0 g.vs/\CC 42 #[.agg g.vs.toArray] f λ f g=>∃ h,f=.returned (.bool h)/\cond (!h) (aN (qd c 0) 0 z6.vs g λ f=>∃ h:I6,af f (qd c 0) 0 h.vs/\K (.tuple #[.agg h.vs.toArray,iv 4]) f) (au g (.cells z6.vs.toArray 35) λ f g=>aN (qd f 0) 0 z6.vs g λ g=>∃ h i j,g.cell? (qd a 0)=some (.slice h i j)/\CC 30 #[.slice h i j] g λ g h=>∃ i:I6,g=.returned (.agg i.vs.toArray)/\CC 29 #[.agg i.vs.toArray] h λ g h=>∃ i j k,g=.returned (.slice i j k)/\∃ g:Int->Int->qN,(∃ k,g 0 (0:Int) h k)/\∀ h k l q,g l q h k->∀ r:qv,cond (decide (q<(j:Int))) (∃ r:Int->qW,(∀ s t,r t s->∀ u:qv,∃ u,u<k/\g t (IntKind.i64.wrap (q+1)) s u)/\∃ g:Bool->qW,(∀ k s,g s k->∀ t:qv,cond s (r l k) (∃ s:I6,af k.drew (qd b 0) 0 s.vs/\ak i λ t=>0<=q/\q<(j:Int)/\∃ u:I6,af k.drew (Addr.add t ((q).toNat*6)) 0 u.vs/\CC 45 #[.slice n o p,.agg s.vs.toArray,.agg u.vs.toArray] k.drew λ k n=>∃ o,k=.returned (iv o)/\cond (decide (o>l)) (ak i λ k=>0<=q/\q<(j:Int)/\∃ p:I6,af n (Addr.add k ((q).toNat*6)) 0 p.vs/\aN (qd f 0) 0 p.vs n λ k=>r o k) (r l n)))/\∃ k l n o p r s t u v x y,af h.drew (qd a 0) 0 [.slice k l n,.slice o p r,.slice s t u,.slice v x y]/\ak i λ z=>0<=q/\q<(j:Int)/\∃ A:I6,af h.drew (Addr.add z ((q).toNat*6)) 0 A.vs/\CC 43 #[.agg #[.slice k l n,.slice o p r,.slice s t u,.slice v x y],iv m,.agg A.vs.toArray] h.drew λ k l=>∃ n,k=.returned (iv n)/\cond (n !=0) (g true l) (∃ k n o p r s t u v x y z,af l (qd a 0) 0 [.slice k n o,.slice p r s,.slice t u v,.slice x y z]/\∃ A:I6,af l (qd b 0) 0 A.vs/\ak i λ b=>0<=q/\q<(j:Int)/\∃ i:I6,af l (Addr.add b ((q).toNat*6)) 0 i.vs/\CC 44 #[.agg #[.slice k n o,.slice p r s,.slice t u v,.slice x y z],iv m,.agg (A.on (i.vs):List Value).toArray] l λ b i=>∃ j,b=.returned (iv j)/\g (j !=0) i)) (∃ b:I6,af h (qd f 0) 0 b.vs/\aN (qd c 0) 0 b.vs h λ b=>∃ f:I6,af b (qd c 0) 0 f.vs/\K (.tuple #[.agg f.vs.toArray,qz]) b))))/\cond (decide (m<0)) (d true e) (∃ b c f,e.cell? (qd a 1)=some (.slice b c f)/\d (decide (m>=(c:Int))) e))
theorem As{a1 l1 c1 a2 l2 c2 a3 l3 c3 a4 l4 c4 n1 a5 l5 c5 u1 w K}(h:BI a1 l1 c1 a2 l2 c2 a3 l3 c3 a4 l4 c4 n1 a5 l5 c5 u1 w K):CP 11 #[.agg #[.slice a1 l1 c1,.slice a2 l2 c2,.slice a3 l3 c3,.slice a4 l4 c4],iv n1,.slice a5 l5 c5,.agg u1.vs.toArray] w K:=aj (aC [(14,[(30,.s .bool)]),(1018,[(12,.s (.int .i64)),(14,.s (.int .i64))]),(4073,[(12,.s (.int .i64))]),(32584,[(66,.s .bool)])]) func11 (by kernel_rfl) (by kernel_rfl) h
theorem u9(w:World)(u:I6):CP 79 #[.agg u.vs.toArray] w (λ r w'=>r=.bool (u.l.all dD)/\ax w w' []):=by
 refine yX ?_;unfold yW;refine(St.start w).one.av u.vs.toArray λ r1 w1 s1=>?_;refine⟨λ n w2 m=>∃ k:Nat,n=k/\k<=6/\m=6-k/\(u.l.take k).all dD=true/\w2=w1,⟨6,0,rfl,by omega,by omega,rfl,rfl⟩,?_⟩;rintro w2 m n ⟨k,rfl,hk,hm,ha,rfl⟩ -
 by_cases hlt:(k:Int)<6
 ·have hk' : k<6:=by omega
  have g2:=u.ia k hk';refine cT (dT hlt) ⟨λ b w3=>b = !dD (u.at' k)/\w3=w2,?_,by omega,by omega,u.at' k,by rw[bV,aB s1 0 rfl hk'],?_⟩
  ·rintro w3 b ⟨rfl,rfl⟩ -
   cases hx:dD (u.at' k) with
   | true=>exact cF rfl ⟨6-(k+1),by omega,k+1,inc (by decide) hk',by omega,rfl,cN ha g2 hx,rfl⟩
   | false=>exact cT rfl ⟨by rw[dO g2 hx],s1.an⟩
  ·by_cases h0:u.at' k<0
   ·exact cT (dT h0) ⟨by simp[dD]; omega,rfl⟩
   ·refine cF (dF h0) ⟨by omega,by omega,u.at' k,by rw[bV,aB s1 0 rfl hk'],?_,rfl⟩;unfold dD;rw[dT (show 0<=u.at' k by omega),Bool.true_and]
    by_cases h4:u.at' k<=4
    ·rw[dT h4,dF (by omega)]; rfl
    ·rw[dF h4,dT (by omega)]; rfl
 ·obtain rfl:k=6:=by omega
  refine cF (dF hlt) ⟨?_,s1.an⟩;rw[show u.l.all dD=true from ha]
theorem cM(w:World)(u:I6):CP 84 #[.agg u.vs.toArray] w (λ r w'=>r=iv (if u.l.all dD then 0 else 4)/\ax w w' []):=by
 refine yw ?_;unfold yu;refine(St.start w).one.av u.vs.toArray λ r1 w1 s1=>?_;refine⟨λ n w2 m=>∃ k:Nat,n=k/\k<=6/\m=6-k/\(u.l.take k).all dD=true/\w2=w1,⟨6,0,rfl,by omega,by omega,rfl,rfl⟩,?_⟩;rintro w2 m n ⟨k,rfl,hk,hm,ha,rfl⟩ -
 by_cases hlt:(k:Int)<6
 ·have hk' : k<6:=by omega
  have g2:=u.ia k hk';refine cT (dT hlt) ⟨λ b w3=>b = !dD (u.at' k)/\w3=w2,?_,by omega,by omega,u.at' k,by rw[bV,aB s1 0 rfl hk'],?_⟩
  ·rintro w3 b ⟨rfl,rfl⟩ -
   cases hx:dD (u.at' k) with
   | true=>exact cF rfl ⟨6-(k+1),by omega,k+1,inc (by decide) hk',by omega,rfl,cN ha g2 hx,rfl⟩
   | false=>exact cT rfl ⟨by rw[dO g2 hx]; rfl,s1.an⟩
  ·by_cases h0:u.at' k<0
   ·exact cT (dT h0) ⟨by simp[dD]; omega,rfl⟩
   ·refine cF (dF h0) ⟨by omega,by omega,u.at' k,by rw[bV,aB s1 0 rfl hk'],?_,rfl⟩;unfold dD;rw[dT (show 0<=u.at' k by omega),Bool.true_and]
    by_cases h4:u.at' k<=4
    ·rw[dT h4,dF (by omega)]; rfl
    ·rw[dF h4,dT (by omega)]; rfl
 ·obtain rfl:k=6:=by omega
  refine cF (dF hlt) ⟨?_,s1.an⟩;rw[show u.l.all dD=true from ha]; rfl
theorem kG(w:World)(p:I6):CP 42 #[.agg p.vs.toArray] w (λ r w'=>r=.bool (bw p)/\ax w w' []):=by
 refine wq ?_;unfold uU;refine(St.start w).one.av p.vs.toArray λ r1 w1 s1=>?_;refine⟨λ n w2 m=>∃ k:Nat,n=k/\k<=6/\m=6-k/\(p.l.take k).all fy=true/\w2=w1,⟨6,0,rfl,by omega,by omega,rfl,rfl⟩,?_⟩;rintro w2 m n ⟨k,rfl,hk,hm,ha,rfl⟩ -
 by_cases hlt:(k:Int)<6
 ·have hk' : k<6:=by omega
  refine cT (dT hlt) ⟨λ b w3=>b = !fy (p.at' k)/\w3=w2,?_,by omega,by omega,p.at' k,by rw[bV,aB s1 0 rfl hk'],?_⟩
  ·rintro w3 b ⟨rfl,rfl⟩ -
   cases hx:fy (p.at' k) with
   | true=>exact cF rfl ⟨6-(k+1),by omega,k+1,inc (by decide) hk',by omega,rfl,cN ha (p.ia k hk') hx,rfl⟩
   | false=>exact cT rfl ⟨by rw[bw,dO (p.ia k hk') hx],s1.an⟩
  ·by_cases g:p.at' k<0
   ·exact cT (dT g) ⟨by simp[fy]; omega,rfl⟩
   ·refine cF (dF g) ⟨by omega,by omega,p.at' k,by rw[bV,aB s1 0 rfl hk'],?_,rfl⟩
    by_cases g2:p.at' k>1000000
    ·rw[dT g2]; simp[fy]; omega
    ·rw[dF g2]; simp[fy]; omega
 ·obtain rfl:k=6:=by omega
  refine cF (by simp) ⟨?_,s1.an⟩;rw[bw,show p.l.all fy=true from ha]
theorem zj(w:World)(u v:I6):CP 125 #[.agg u.vs.toArray,.agg v.vs.toArray] w (λ r w'=>r=.bool (within u v)/\ax w w' []):=by
 refine wz ?_;unfold uX;refine(St.start w).one.av u.vs.toArray λ r1 w1 s1=>s1.av v.vs.toArray λ r2 w2 s2=>?_;refine⟨λ n w3 m=>∃ k:Nat,n=k/\k<=6/\m=6-k/\(∀ j,j<k->u.at' j<=v.at' j)/\St w w3 (Sep [ah r2 v.vs.toArray 35,ah r1 u.vs.toArray 35,emp]),⟨6,0,rfl,by omega,by omega,λ j hj=>by omega,s2⟩,?_⟩;rintro w3 m n ⟨k,rfl,hk,hm,ha,s3⟩ -
 by_cases hlt:(k:Int)<6
 ·have hk' : k<6:=by omega
  have s4:=s3.quiet (ax.drew w3 []);refine cT (dT hlt) ⟨by omega,by omega,u.at' k,by rw[bV,aB s4 1 rfl hk'],by omega,by omega,v.at' k,by rw[bV,aB s4 0 rfl hk'],?_⟩
  by_cases g:u.at' k>v.at' k
  ·refine cT (dT g) ⟨?_,s4.an⟩
   cases hw:within u v with
   | false=>rfl
   | true=>have:=within_iff.1 hw k hk'; omega
  ·refine cF (dF g) ⟨6-(k+1),by omega,k+1,inc (by decide) hk',by omega,rfl,λ j hj=>?_,s4⟩;rcases Nat.lt_or_ge j k with h' | h'
   ·exact ha j h'
   ·obtain rfl:j=k:=by omega
    omega
 ·obtain rfl:k=6:=by omega
  exact cF (by simp) ⟨by rw[within_iff.2 ha],s3.an⟩
theorem xG{p u:I6}(hp:I6.Le p 1000000)(hu:I6.Le u 4){k:Nat}(hk:k<6):0<=p.at' k*u.at' k/\p.at' k*u.at' k<=4000000:=by
 obtain⟨a1,a2⟩:=hp k hk; obtain⟨b1,b2⟩:=hu k hk;refine⟨Int.mul_nonneg a1 b1,?_⟩;have:=Int.mul_le_mul a2 b2 b1 (by omega);omega
theorem uZ(w:World){p u:I6}(hp:I6.Le p 1000000)(hu:I6.Le u 4):CP 86 #[.agg p.vs.toArray,.agg u.vs.toArray] w (λ r w'=>r=iv (cost p u)/\ax w w' []):=by
 refine At ?_;unfold BJ;refine(St.start w).one.av p.vs.toArray λ r1 w1 s1=>s1.av u.vs.toArray λ r2 w2 s2=>?_;refine⟨λ s n w3 m=>∃ k:Nat,n=k/\k<=6/\m=6-k/\(s=xF p u k/\0<=s/\s<=(k:Int)*4000000)/\St w w3 (Sep [ah r2 u.vs.toArray 35,ah r1 p.vs.toArray 30,emp]),⟨6,0,rfl,by omega,by omega,⟨rfl,by simp,by simp⟩,s2⟩,?_⟩;rintro w3 m s n ⟨k,rfl,hk,hm,⟨hs,h0,h1⟩,s3⟩ -
 by_cases hlt:(k:Int)<6
 ·have hk' : k<6:=by omega
  have s4:=s3.quiet (ax.drew w3 []);have h2:=xG hp hu hk';refine cT (dT hlt) ⟨by omega,by omega,p.at' k,by rw[bV,aB s4 1 rfl hk'],by omega,by omega,u.at' k,by rw[bV,aB s4 0 rfl hk'],6-(k+1),by omega,k+1,inc (by decide) hk',by omega,rfl,?_,s4⟩;rw[ay (n:=p.at' k*u.at' k) ⟨by omega,by omega⟩,ay ⟨by omega,by omega⟩,oZ,hs];rw[hs] at h0 h1;refine⟨rfl,by omega,by omega⟩
 ·obtain rfl:k=6:=by omega
  exact cF (by simp) ⟨by rw[hs,vz],s3.an⟩
theorem pO(w:World){p u:I6}(hp:I6.Le p 1000000)(hu:I6.Le u 4):CP 83 #[.agg p.vs.toArray,.agg u.vs.toArray] w (λ r w'=>r=iv (cost p u)/\ax w w' []):=by
 refine Av ?_;unfold BL;refine(St.start w).one.av p.vs.toArray λ r1 w1 s1=>s1.av u.vs.toArray λ r2 w2 s2=>?_;refine⟨λ s n w3 m=>∃ k:Nat,n=k/\k<=6/\m=6-k/\(s=xF p u k/\0<=s/\s<=(k:Int)*4000000)/\St w w3 (Sep [ah r2 u.vs.toArray 35,ah r1 p.vs.toArray 30,emp]),⟨6,0,rfl,by omega,by omega,⟨rfl,by simp,by simp⟩,s2⟩,?_⟩;rintro w3 m s n ⟨k,rfl,hk,hm,⟨hs,h0,h1⟩,s3⟩ -
 by_cases hlt:(k:Int)<6
 ·have hk' : k<6:=by omega
  have s4:=s3.quiet (ax.drew w3 []);have h2:=xG hp hu hk';refine cT (dT hlt) ⟨by omega,by omega,p.at' k,by rw[bV,aB s4 1 rfl hk'],by omega,by omega,u.at' k,by rw[bV,aB s4 0 rfl hk'],6-(k+1),by omega,k+1,inc (by decide) hk',by omega,rfl,?_,s4⟩;rw[ay (n:=p.at' k*u.at' k) ⟨by omega,by omega⟩,ay ⟨by omega,by omega⟩,oZ,hs];rw[hs] at h0 h1;refine⟨rfl,by omega,by omega⟩
 ·obtain rfl:k=6:=by omega
  exact cF (by simp) ⟨by rw[hs,vz],s3.an⟩
def vw(m:I6):Int:=if m.l.all dD=true/\pr m.l<=1024 then pr m.l else 0
theorem AI(w:World)(m:I6):CP 64 #[.agg m.vs.toArray] w (λ r w'=>r=iv (vw m)/\ax w w' []):=by
 refine yK ?_;unfold yJ;refine(St.start w).one.av m.vs.toArray λ r1 w1 s1=>⟨m,s1.cellsIn 0 rfl,aq (cM w1 m) ?_⟩;rintro v w2 ⟨rfl,c2⟩;have s2:=s1.quiet c2;refine⟨_,rfl,?_⟩
 cases hq:m.l.all dD with
 | false=>exact cT rfl ⟨by rw[vw,if_neg (by rw[hq]; simp)],s2.an⟩
 | true =>
  have hm:=ni hq;have hb:∀ k,k<=6->1<=tw m k/\tw m k<=15625:=λ k hk=>by
   have h:=wI (Cd hm) k hk;refine⟨by omega,Int.le_trans h.2.2 ?_⟩
   match k,hk with
   | 0,_|1,_|2,_|3,_|4,_|5,_|6,_=>decide
  refine cF rfl ⟨λ n i w3 mm=>∃ k:Nat,i=k/\k<=6/\mm=6-k/\n=tw m k/\w3=w2,⟨6,0,rfl,by omega,by omega,rfl,rfl⟩,?_⟩;rintro w3 mm n i ⟨k,rfl,hk,hmm,rfl,rfl⟩ -
  by_cases hlt:(k:Int)<6
  ·have hk' : k<6:=by omega
   have h1:=hm k hk';have h2:=hb k hk;have h3:=hb (k+1) (by omega);refine cT (dT hlt) ⟨by omega,by omega,m.at' k,by rw[bV,aB s2 0 rfl hk'],6-(k+1),by omega,k+1,inc (by decide) hk',by omega,rfl,?_,rfl⟩;rw[tw] at h3 ⊢;rw[ay (n:=m.at' k+1) ⟨by omega,by omega⟩,ay ⟨by omega,by omega⟩]
  ·obtain rfl:k=6:=by omega
   refine cF (by simp) ?_
   by_cases g:tw m 6>1024
   ·exact cT (dT g) ⟨by rw[vw,if_neg (by rw[pF]; omega)],s2.an⟩
   ·exact cF (dF g) ⟨by rw[vw,if_pos ⟨hq,by rw[pF]; omega⟩,pF],s2.an⟩
theorem Dv(l:List Of)(b:I6)(x:Of)(v:Int):(if cJ x=true then [x] else []).foldl (qX b) v=if cJ x=true/\x.v>v/\within x.want b=true then x.v else v:=by
 by_cases h:cJ x=true
 ·simp[h,qX]
 ·simp[h]
theorem AL{w:World}{a:OA}{c:Nat}{l:List Of}(hr:iQ w a l)(hl:l.length<=100000)(b:I6) :
  CP 85 #[.slice a l.length c,.agg b.vs.toArray] w (λ r w'=>r=iv (jk (tD l) b)/\ax w w' []):=by
 refine y5 ?_;unfold y4;refine(St.start w).one.av b.vs.toArray λ r1 w1 s1=>?_;let M:List aJ:=[ah r1 b.vs.toArray 35,emp];refine⟨λ n i w2 m=>∃ k:Nat,i=k/\k<=l.length/\m=l.length-k/\n=jk ((l.take k).filter cJ) b/\St w w2 (Sep M),⟨l.length,0,rfl,by omega,by omega,rfl,s1⟩,?_⟩;rintro w2 m n i ⟨k,rfl,hk,hm,rfl,s2⟩ -
 by_cases hlt:(k:Int)<(l.length:Int)
 ·have hx:l[k]?=some (l[k]'(by omega)):=gE (by omega);generalize l[k]'(by omega)=y at hx;obtain⟨p,hp,hcl⟩:=(hr.an s2.an).at hx;have ef:jk ((l.take (k+1)).filter cJ) b=if cJ y=true/\y.v>jk ((l.take k).filter cJ) b/\within y.want b=true then y.v else jk ((l.take k).filter cJ) b:=by
   have:=Dv l b y (jk ((l.take k).filter cJ) b);rw[<- this,aQ hx,List.filter_append,jk,List.foldl_append]
   by_cases h:cJ y=true<;>simp[h,jk]
  generalize jk ((l.take k).filter cJ) b=v0 at ef;refine cT (dT hlt) ⟨λ n w3=>n=jk ((l.take (k+1)).filter cJ) b/\St w w3 (Sep M),?_,ai hp ⟨by omega,by omega,_,y.want,_,hcl,s2.av FQ.cells.toArray λ r2 w4 s4=>s4.az 0 rfl y.cells rfl y.one λ w5 s5=>?_⟩⟩
  ·rintro w3 n ⟨rfl,s3⟩ -;exact⟨l.length-(k+1),by omega,k+1,ay ⟨by omega,by omega⟩,by omega,rfl,rfl,s3⟩
  have s5:St w w5 (Sep (ah r2 y.cells.toArray 81 :: M)):=s5;refine⟨λ t w6=>t=decide (cJ y=true/\y.v>v0/\within y.want b=true)/\St w w6 (Sep (ah r2 y.cells.toArray 81 :: M)),?_,y.want,s5.aF 0 1 rfl rfl,aq (cM w5 y.want) ?_⟩
  ·rintro w6 t ⟨rfl,s6⟩ -
   by_cases hb:cJ y=true/\y.v>v0/\within y.want b=true
   ·exact cT (dT hb) ⟨_,s6.ag 0 rfl 7,by rw[ef,if_pos hb],s6.aA [1,2]⟩
   ·exact cF (dF hb) ⟨by rw[ef,if_neg hb],s6.aA [1,2]⟩
  rintro v w6 ⟨rfl,c6⟩;have s6:=s5.quiet c6;refine⟨_,rfl,?_⟩;have no:cJ y=false->false=decide (cJ y=true/\y.v>v0/\within y.want b=true):=λ h=>(dF λ hh=>by rw[h] at hh; cases hh.1).symm
  cases hq:y.want.l.all dD with
  | false=>exact cF rfl ⟨no (by rw[cJ,hq]; rfl),s6⟩
  | true =>
  refine cT rfl ⟨_,s6.ag 0 rfl 7,?_⟩
  by_cases g1:y.v>=1
  rotate_left
  ·exact cF (dF g1) ⟨no (by rw[cJ,hq,dF (show ¬ 1<=y.v from g1)]; rfl),s6⟩
  refine cT (dT g1) ⟨_,s6.ag 0 rfl 7,?_⟩
  by_cases g2:y.v<=1000000
  rotate_left
  ·exact cF (dF g2) ⟨no (by rw[cJ,hq,dF g2,Bool.and_false]; rfl),s6⟩
  have hK:cJ y=true:=by rw[cJ,hq,dT (show 1<=y.v from g1),dT g2]; rfl
  refine cT (dT g2) ⟨y.want,s6.aF 0 1 rfl rfl,b,s6.cellsIn 1 rfl,aq (zj w6 y.want b) ?_⟩;rintro v w7 ⟨rfl,c7⟩;have s7:=s6.quiet c7;refine⟨_,rfl,?_⟩
  cases hw:within y.want b with
  | false=>exact cF rfl ⟨(dF λ hh=>by cases hh.2.2).symm,s7⟩
  | true =>
  refine cT rfl ⟨_,s7.ag 0 rfl 7,?_,s7⟩
  by_cases g3:y.v>v0
  ·rw[dT g3]; exact(dT (p:=_/\_/\true=true) ⟨hK,g3,rfl⟩).symm
  ·rw[dF g3]; exact(dF (p:=_/\_/\true=true) λ hh=>g3 hh.2.1).symm
 ·obtain rfl:l.length=k:=by omega
  rw[List.take_length];exact cF (dF hlt) ⟨rfl,s2.an⟩
theorem wE{w:World}{a:OA}{c:Nat}{l:List Of}(hr:iQ w a l)(hl:l.length<=100000)(p b:I6) :
  CP 45 #[.slice a l.length c,.agg p.vs.toArray,.agg b.vs.toArray] w (λ r w'=>r=iv (bG l p b)/\ax w w' []):=by
 refine tP ?_;unfold sI;refine(St.start w).one.av p.vs.toArray λ r1 w1 s1=>s1.av b.vs.toArray λ r2 w2 s2=>?_;have s2:St w w2 (Sep [ah r2 b.vs.toArray 35,ah r1 p.vs.toArray 30,emp]):=s2;refine⟨λ t w3=>t = !(bw p&&b.l.all dD)/\St w w3 (Sep [ah r2 b.vs.toArray 35,ah r1 p.vs.toArray 30,emp]),?_,b,s2.cellsIn 0 rfl,aq (cM w2 b) ?_⟩
 ·rintro w3 t ⟨rfl,s3⟩ -
  cases hg:(bw p&&b.l.all dD) with
  | false =>
   refine cT rfl ⟨?_,s3.an⟩;rw[bG,if_neg];rintro⟨h1,h2⟩;rw[h1,h2] at hg; cases hg
  | true =>
   obtain⟨h1,h2⟩:=Bool.and_eq_true_iff.1 hg;have s4:=s3.quiet (ax.drew w3 []);refine cF rfl ⟨b,s4.cellsIn 0 rfl,p,s4.cellsIn 1 rfl,b,s4.cellsIn 0 rfl,aq (AL (hr.an s4.an) hl b) ?_⟩;rintro v w5 ⟨rfl,c5⟩;have s5:=s4.quiet c5;refine⟨_,rfl,s5.cellsIn 0 rfl,s5.cellsIn 1 rfl,aq (uZ w5 (eM h1) (ni h2)) ?_⟩;rintro v w6 ⟨rfl,c6⟩;have e1:=th (b:=b) (zM (l:=l));have e2:=xE (eM h1) (ni h2);exact⟨_,rfl,by rw[ay ⟨by omega,by omega⟩,bG,if_pos ⟨h1,h2⟩],(s5.quiet c6).an⟩
 ·rintro v w6 ⟨rfl,c6⟩;have s6:=s2.quiet c6;refine⟨_,rfl,?_⟩
  cases hq:b.l.all dD with
  | false=>exact cT rfl ⟨by rw[Bool.and_false]; rfl,s6⟩
  | true =>
   refine cF rfl ⟨p,s6.cellsIn 1 rfl,aq (kG w6 p) ?_⟩;rintro v w7 ⟨rfl,c7⟩;exact⟨_,rfl,by rw[Bool.and_true],s6.quiet c7⟩
def iw(a:Nat)(w:World)(K:KP):=∃ b,w.cell? (qd a 18)=some (.bool b)/\K (.bool b) w
theorem lK{b1 w K}(h:iw b1 w K):CP 14 #[.pointer (some ⟨b1,0,none⟩)] w K:=aj (aC []) func14 (by kernel_rfl) (by kernel_rfl) h
def qf(a:Nat)(b:OA)(c d:Nat)(e:OA)(f g:Nat)(h:OA)(i j:Nat)(k:OA)(l m:Nat)(n:OA)(o p:Nat)(w:World)(K:KP):=au w (.cells #[.slice b c d,.slice e f g,.slice h i j,.slice k l m] 27) λ b c=>∃ d:Int->qN,(∃ e,d 0 c e)/\∀ c e f,d f c e->∀ g:qv,cond (decide (f<(o:Int))) (∃ g:qW,(∀ h,g h->∀ i:qv,∃ i,i<e/\d (IntKind.i64.wrap (f+1)) h i)/\ak n λ d=>0<=f/\f<(o:Int)/\∃ e h i,c.cell? (Addr.add d ((f).toNat*1))=some (.slice e h i)/\∃ d:Nat->qW,(∀ j k,d k j->∀ l:qv,∃ l:I6,af j (qd k 0) 0 l.vs/\CC 91 #[qp a,iv f,.agg l.vs.toArray] j λ j k=>∃ l,j=.returned (iv l)/\cond (l !=0) (CC 91 #[qp a,iv f,.agg z6.vs.toArray] k λ j l=>∃ m,j=.returned (iv m)/\g l) (g k))/\∃ g j k l m n o p q r s t,af c.drew (qd b 0) 0 [.slice g j k,.slice l m n,.slice o p q,.slice r s t]/\(CC 15 #[qp a] c.drew λ u v=>∃ x:I6,u=.returned (.agg x.vs.toArray)/\af v (qd b 0) 0 [.slice g j k,.slice l m n,.slice o p q,.slice r s t]/\(CC 10 #[.agg #[.slice g j k,.slice l m n,.slice o p q,.slice r s t],iv f,.slice e h i,.agg x.vs.toArray] v λ u y=>∃ z:I6,∃ A,u=.returned (.tuple #[.agg z.vs.toArray,iv A])/\au y (.cells z6.vs.toArray 35) λ u y=>aN (qd u 0) 0 z.vs y λ y=>d u y)/\au v (.cells z6.vs.toArray 35) λ u v=>af v (qd b 0) 0 [.slice g j k,.slice l m n,.slice o p q,.slice r s t]/\CC 10 #[.agg #[.slice g j k,.slice l m n,.slice o p q,.slice r s t],iv f,.slice e h i,.agg x.vs.toArray] v λ v x=>∃ y:I6,∃ z,v=.returned (.tuple #[.agg y.vs.toArray,iv z])/\aN (qd u 0) 0 y.vs x λ v=>d u v)/\au c.drew (.cells z6.vs.toArray 35) λ u v=>af v (qd b 0) 0 [.slice g j k,.slice l m n,.slice o p q,.slice r s t]/\CC 15 #[qp a] v λ v x=>∃ y:I6,v=.returned (.agg y.vs.toArray)/\af x (qd b 0) 0 [.slice g j k,.slice l m n,.slice o p q,.slice r s t]/\CC 10 #[.agg #[.slice g j k,.slice l m n,.slice o p q,.slice r s t],iv f,.slice e h i,.agg y.vs.toArray] x λ b e=>∃ f:I6,∃ g,b=.returned (.tuple #[.agg f.vs.toArray,iv g])/\aN (qd u 0) 0 f.vs e λ b=>d u b) (CC 92 #[qp a] c λ a b=>∃ c d,a=.returned (.tuple #[.bool c,iv d])/\K (.tuple #[]) b)
theorem sA{b1 a1 l1 c1 a2 l2 c2 a3 l3 c3 a4 l4 c4 a5 l5 c5 w K}(h:qf b1 a1 l1 c1 a2 l2 c2 a3 l3 c3 a4 l4 c4 a5 l5 c5 w K):CP 47 #[.pointer (some ⟨b1,0,none⟩),.agg #[.slice a1 l1 c1,.slice a2 l2 c2,.slice a3 l3 c3,.slice a4 l4 c4],.slice a5 l5 c5] w K:=aj (aC [(26,[(12,.s (.int .i64))]),(211,[]),(1689,[(8,.s (.blk))])]) func47 (by kernel_rfl) (by kernel_rfl) h
def uG(a:OA)(b c:Nat)(d:OA)(e f:Nat)(g:OA)(h i:Nat)(j:OA)(k l:Nat)(m n o p:Int)(q:OA)(r s:Nat)(w:World)(K:KP):=au w (.cells #[.slice a b c,.slice d e f,.slice g h i,.slice j k l] 27) λ a b=>au b (.cells #[iv m,iv n,iv o,iv p] 41) λ b c=>∃ d e f g h i j k l m n o,af c (qd a 0) 0 [.slice d e f,.slice g h i,.slice j k l,.slice m n o]/\∃ p t u v,af c (qd b 0) 0 [iv p,iv t,iv u,iv v]/\CC 46 #[.agg #[.slice d e f,.slice g h i,.slice j k l,.slice m n o],.agg #[iv p,iv t,iv u,iv v]] c λ b c=>∃ d e,b=.returned (.tuple #[.pointer d,iv e])/\cond (e !=0) (K (.tuple #[.pointer none,iv e]) c) (∃ b e f,c.cell? (qd a 1)=some (.slice b e f)/\cond ((r:Int) !=(e:Int)) (K (.tuple #[.pointer none,iv 3]) c) (∃ b:qN,(∃ e,b c e)/\∀ c e,b c e->∀ f:qv,CC 14 #[.pointer d] c λ c f=>∃ g,c=.returned (.bool g)/\cond (!g) (∃ c g h i j k l m n o p t,af f (qd a 0) 0 [.slice c g h,.slice i j k,.slice l m n,.slice o p t]/\CC 47 #[.pointer d,.agg #[.slice c g h,.slice i j k,.slice l m n,.slice o p t],.slice q r s] f λ a c=>a=.returned (.tuple #[])/\∃ a,a<e/\b c a) (K (.tuple #[.pointer d,qz]) f)))
theorem vV{a1 l1 c1 a2 l2 c2 a3 l3 c3 a4 l4 c4 n1 n2 n3 n4 a5 l5 c5 w K}(h:uG a1 l1 c1 a2 l2 c2 a3 l3 c3 a4 l4 c4 n1 n2 n3 n4 a5 l5 c5 w K):CP 12 #[.agg #[.slice a1 l1 c1,.slice a2 l2 c2,.slice a3 l3 c3,.slice a4 l4 c4],.agg #[iv n1,iv n2,iv n3,iv n4],.slice a5 l5 c5] w K:=aj (aC [(124,[])]) func12 (by kernel_rfl) (by kernel_rfl) h
structure Bd where
 x:Xv
 has:Bool
 out:Bool
structure Sx where
 o:Po
 ph:Int
 s:Se
 k:Option Addr
 bd:List Bd
 dec:Int
 cnt:Int
 dig:Int
structure Ev where
 kind:Int
 bidder:Int
 round:Int
 want:I6
 text:List UInt8
 digest:Int
def Ev.cells(e:Ev):List Value:=iv e.kind :: (iv e.bidder :: (iv e.round :: (e.want.on [sv e.text,.int .u64 e.digest])))
theorem Ev.one(e:Ev):∀ v∈e.cells,v.oneCell' = true:=by
 intro v hv;simp only[Ev.cells,I6.on,List.mem_cons,List.mem_nil_iff,or_false] at hv;rcases hv with rfl|rfl|rfl|rfl|rfl|rfl|rfl|rfl|rfl|rfl|rfl<;>rfl
theorem Ev.ext'{a b:Ev}(h1:a.kind=b.kind)(h2:a.bidder=b.bidder)(h3:a.round=b.round)(h4:a.want=b.want)(h5:a.text=b.text)(h6:a.digest=b.digest):a=b:=by
 cases a; cases b; simp_all
instance:DecidableEq Ev:=λ a b =>
 if h:a.kind=b.kind/\a.bidder=b.bidder/\a.round=b.round/\a.want=b.want/\a.text=b.text/\a.digest=b.digest then .isTrue (Ev.ext' h.1 h.2.1 h.2.2.1 h.2.2.2.1 h.2.2.2.2.1 h.2.2.2.2.2)
 else .isFalse λ e=>h (by subst e; exact⟨rfl,rfl,rfl,rfl,rfl,rfl⟩)
def J5:List UInt8:=[112,114,111,100,117,99,116]
def J3:List UInt8:=[98,105,100,100,101,114]
def J4:List UInt8:=[99,97,112]
def J2:List UInt8:=[97,115,105,100,101]
def kn(F:I6->Int)(b:I6)(v:Int)(c:Ch):Int:=if c.want=b then v else if F c.want+cost c.p b-cost c.p c.want<v then F c.want+cost c.p b-cost c.p c.want else v
def EA(F:I6->Int)(l:List Ch)(b:I6):Int:=l.foldl (kn F b) 1000000
theorem GA{l:List Ch}(h:∀ c∈l,c.Ok){q:I6}(hq:I6.Le q 4):∀ {v:Int},0<=v/\v<=24000000->0<=l.foldl (hJ q) v/\l.foldl (hJ q) v<=24000000:=by
 induction l with
 | nil=>intro v hv; exact hv
 | cons c l ih =>
  intro v hv;rw[List.foldl_cons];refine ih (λ c hc=>h c (by simp[hc])) ?_;have:=cS (h c (by simp)).p hq;unfold hJ
  split
  ·split<;>omega
  ·exact hv
theorem Gz{l:List Of}(h:∀ x∈l,x.v<=1000000){q:I6}:∀ {v:Int},0<=v/\v<=24000000->0<=l.foldl (nU q) v/\l.foldl (nU q) v<=24000000:=by
 induction l with
 | nil=>intro v hv; exact hv
 | cons c l ih =>
  intro v hv;rw[List.foldl_cons];refine ih (λ c hc=>h c (by simp[hc])) ?_;have:=h c (by simp);unfold nU
  split
  ·split<;>omega
  ·exact hv
theorem Bf{l:List Ch}{bids:List Of}(h:∀ c∈l,c.Ok)(hb:∀ x∈bids,x.v<=1000000){q:I6}(hq:I6.Le q 4):0<=jJ l bids q/\jJ l bids q<=24000000:=Gz hb (GA h hq (by decide))
theorem It{w:World}{a:OA}{c:Nat}{l:List Ch}(hr:nG w a l)(hl:l.length<=1000)(ho:∀ c∈l,c.Ok){F:I6->Int}(hF:∀ q,I6.Le q 4->0<=F q/\F q<=24000000){v:Value}(hv:∀ (w' : World) (q:I6) (R:Ending->World->Prop),ax w w' []->I6.Le q 4->(∀ w'',ax w' w'' []->R (.returned (iv (F q))) w'')->gw prog v #[.agg q.vs.toArray] w' R){b:I6}(hb:I6.Le b 4) :
  CP 62 #[.slice a l.length c,v,.agg b.vs.toArray] w (λ r w'=>r=iv (EA F l b)/\ax w w' []):=by
 refine sP ?_;unfold qq;refine(St.start w).one.av b.vs.toArray λ r1 w1 s1=>?_;let M:List aJ:=[ah r1 b.vs.toArray 35,emp];refine⟨λ n i w2 m=>∃ k:Nat,i=k/\k<=l.length/\m=l.length-k/\n=(l.take k).foldl (kn F b) 1000000/\St w w2 (Sep M),⟨l.length,0,rfl,by omega,by omega,rfl,s1⟩,?_⟩;rintro w2 m n i ⟨k,rfl,hk,hm,rfl,s2⟩ -
 by_cases hlt:(k:Int)<(l.length:Int)
 ·have hx:l[k]?=some (l[k]'(by omega)):=gE (by omega);generalize l[k]'(by omega)=y at hx;obtain⟨p,hp,hcl⟩:=(hr.an s2.an).at hx;have oy:=ho y (List.mem_of_getElem? hx);have ef:=dK (f:=kn F b) (a:=1000000) hx;refine cT (dT hlt) ⟨λ n w3=>n=(l.take (k+1)).foldl (kn F b) 1000000/\St w w3 (Sep M),?_,ai hp ⟨by omega,by omega,y.p,y.want,hcl,s2.av dj.cells.toArray λ r2 w4 s4=>s4.az 0 rfl y.cells rfl y.one λ w5 s5=>⟨y.want,bz s5 0 rfl,b,s5.cellsIn 1 rfl,?_⟩⟩⟩
  ·rintro w3 n ⟨rfl,s3⟩ -;exact⟨l.length-(k+1),by omega,k+1,ay ⟨by omega,by omega⟩,by omega,rfl,rfl,s3⟩
  rw[I6.beq_eq]
  by_cases hw:y.want=b
  ·exact cF (by rw[dT hw]; rfl) ⟨by rw[ef,kn,if_pos hw],s5.aA [1,2]⟩
  ·have s6:=s5.quiet (ax.drew w5 []);refine cT (by rw[dF hw]; rfl) ⟨y.want,bz s6 0 rfl,y.p,mO s6 0 rfl,b,s6.cellsIn 1 rfl,y.p,mO s6 0 rfl,y.want,bz s6 0 rfl,hv _ y.want _ s6.an oy.w λ w7 c7=>?_⟩;have s7:=s6.quiet c7;refine⟨_,rfl,bz s7 0 rfl,mO s7 0 rfl,s7.cellsIn 1 rfl,mO s7 0 rfl,aq (eV w7 oy.p hb) ?_⟩;rintro x w8 ⟨rfl,c8⟩;have s8:=s7.quiet c8;refine⟨_,rfl,bz s8 0 rfl,mO s8 0 rfl,aq (eV w8 oy.p oy.w) ?_⟩;rintro x w9 ⟨rfl,c9⟩;have h1:=hF y.want oy.w;have h2:=cS oy.p hb;have h3:=cS oy.p oy.w;refine⟨_,rfl,?_,(s8.quiet c9).aA [1,2]⟩;rw[ef,kn,if_neg hw,ay (n:=F y.want+cost y.p b) ⟨by omega,by omega⟩,ay ⟨by omega,by omega⟩]
 ·obtain rfl:l.length=k:=by omega
  rw[List.take_length];exact cF (dF hlt) ⟨rfl,s2.an⟩

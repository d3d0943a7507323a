import Derived.Test.YtjcfdidmajodiaaGreatDoorH14
set_option linter.unusedVariables false
set_option linter.defProp false
set_option maxRecDepth 100000
set_option maxHeartbeats 4000000
namespace Go.Proofs.YtjcfdidmajodiaaGreatDoor
open Go Go.Vc Go.Vt _root_.Go.Proofs.Tryz
def rD:=many uj [en func311 [] [],en func307 [] [(58,[(3,.s (.int .i64)),(4,.s (.int .i64))])],en func310 [] [(58,[(1,.s (.int .i64)),(6,.s (.int .i64))])],en func343 [] [(58,[(5,.s (.int .i64)),(6,.s (.int .i64))])],en func309 [] [(26,[(5,.s (.int .i64))])],en func308 [] [(250,[(10,.s (.int .i64))]),(506,[(11,.s (.int .i64))]),(64806,[(13,.s (.int .i64))]),(259225,[]),(66361658,[(16,.s (.int .i64))])],en func255 [] [(122,[(6,.s .slice),(7,.s (.int .i64))]),(489,[(6,.s .slice)]),(7826,[(35,.s .bool)]),(31310,[(9,.s (.int .i64))]),(250,[(10,.s (.int .i64))]),(4004,[]),(8009,[]),(8008,[(77,.s .bool)])],en func194 [] [],en func195 [] [(122,[(7,.s (.int .i64))]),(1956,[(55,.s .bool)]),(1018,[(8,.s .slice),(10,.s (.int .i64))]),(4073,[(8,.s .slice)]),(260682,[(11,.s .bool),(12,.s (.int .i64))]),(1042729,[(11,.s .bool)]),(4170916,[(92,.s .bool)])],en func147 [] [],en func97 [] []] (by conv=>lhs;reduce) (by kernel_rfl) λ x=>by
 dsimp only[fj,fh,ff,fe,fk,fm,fq,tF,iP,en,sV,wrap,dc,dn,qA,gU,tW,U.I,U.B,U.S,U.N,U.A,U.O,U.W,U.V,U.L,U.U6,U.C,U.M,U.F,U.E,tP,tN,tI,oo,jU,gJ,kr,jq,TJ,Nat.reduceSub,Nat.reduceAdd,Int.reduceOfNat,Int.reduceNeg,UInt8.reduceOfNat] at x
 exact x
def Mh:=(p6 rD).1
def Gz:=(p6 rD).2.1
def Ek:=(p6 rD).2.2.2.1
def Uf:=many uj [en func100 [] [(6,[(14,.s .bool)])],en func101 [] [(6,[(25,.s .bool)]),(7,[])]] (by conv=>lhs;reduce) (by kernel_rfl) λ x=>by
 dsimp only[fj,fh,ff,fe,fk,fm,fq,tF,iP,en,sV,wrap,dc,dn,qA,gU,tW,U.I,U.B,U.S,U.N,U.A,U.O,U.W,U.V,U.L,U.U6,U.C,U.M,U.F,U.E,tP,tN,tI,oo,jU,gJ,kr,jq,TJ,Nat.reduceSub,Nat.reduceAdd,Int.reduceOfNat,Int.reduceNeg,UInt8.reduceOfNat] at x
 exact x
end Go.Proofs.YtjcfdidmajodiaaGreatDoor
namespace Go.Proofs.YtjcfdidmajodiaaGreatDoor
open Go Go.Vc _root_.Go.Proofs.Tryz
def Mp(w:af)(v:Int):CP 311 #[iv v] w (λ r w'=>r=iv (jL v)/\w'=w):=by
 refine rD.1 ?_
 by_cases h:v>1000000
 ·exact aP h ⟨by rw[jL,ak h],rfl⟩
 ·exact aU h ⟨by rw[jL,ah h],rfl⟩
def Ee{m:I6}(hm:I6.Le m 4):∀ k,k<=6->1<=xT m k/\xT m k<=15625:=λ k a=>by
 have h:=jN (wI hm) k a;refine⟨by omega,cM h.2.2 ?_⟩
 match k,a with
 | 0,_|1,_|2,_|3,_|4,_|5,_|6,_=>decide
def AD(w:af){m:I6}(hm:I6.Le m 4):CP 307 #[.agg m.vs.toArray] w (λ r w'=>r=iv (aE m:Int)/\aC w w' []):=by
 refine rD.2.1 ?_;refine aG m.vs.toArray λ r1 e s1=>?_;refine⟨λ n i c mm=>∃ k:Nat,i=k/\k<=6/\mm=6-k/\n=xT m k/\c=e,⟨6,0,rfl,by omega,by omega,rfl,rfl⟩,?_⟩;rintro c mm n i ⟨k,rfl,f,d,rfl,rfl⟩ -
 by_cases b:(k:Int)<6
 ·have a:k<6:=by omega
  have h1:=hm k a;have h3:=Ee hm (k+1) (by omega);refine aP b ⟨by omega,by omega,m.at' k,by rw[dM,aF s1 0 rfl a],6-(k+1),by omega,k+1,inc (by decide) a,by omega,rfl,?_,rfl⟩;rw[xT] at h3 ⊢;rw[cW (n:=m.at' k+1) ⟨by omega,by omega⟩,cA (by omega)]
 ·obtain rfl:k=6:=by omega
  refine cF (by simp) ⟨?_,s1.av⟩;have:=(gB hm).2.1;rw[oB] at this;rw[this]
def IL(w:af){m u:I6}(hu:kG m u):CP 343 #[.agg m.vs.toArray,.agg u.vs.toArray] w (λ r w'=>r=iv (rk m u)/\aC w w' []):=by
 refine rD.2.2.2.1 ?_;refine aG m.vs.toArray λ r1 l s1=>s1.aB u.vs.toArray λ r2 o s2=>?_;refine⟨λ s n d x=>∃ k:Nat,n=k/\k<=6/\x=6-k/\s=fH m u k/\St w d (Sep [aj r2 u.vs.toArray 42,aj r1 m.vs.toArray 42,emp]),⟨6,0,rfl,by omega,by omega,rfl,s2⟩,?_⟩;rintro d x s n ⟨k,rfl,i,j,rfl,e⟩ -
 by_cases b:(k:Int)<6
 ·have a:k<6:=by omega
  have c:=e.quiet (aC.drew d []);have h1:=hu.mm k a; have h2:=hu.u k a;have g:=jN hu (k+1) (by omega);have h:=Ee hu.mm (k+1) (by omega);have f:=jN hu k (by omega);rw[fH] at g;have h3:0<=fH m u k*(m.at' k+1):=gS f.1 (by omega);refine aP b ⟨by omega,by omega,m.at' k,by rw[dM,aF c 1 rfl a],by omega,by omega,u.at' k,by rw[dM,aF c 0 rfl a],6-(k+1),by omega,k+1,inc (by decide) a,by omega,rfl,?_,c⟩;rw[cW (n:=m.at' k+1) ⟨by omega,by omega⟩,cW (n:=fH m u k*(m.at' k+1)) ⟨by omega,by omega⟩,cA (by omega),fH]
 ·obtain rfl:k=6:=by omega
  exact cF (by simp) ⟨rfl,e.av⟩
def xX(w:af)(u v:I6):CP 309 #[.agg u.vs.toArray,.agg v.vs.toArray] w (λ r w'=>r=.bool (within u v)/\aC w w' []):=by
 refine rD.2.2.2.2.1 ?_;refine aG u.vs.toArray λ r1 l s1=>s1.aB v.vs.toArray λ r2 o s2=>?_;refine⟨λ n d m=>∃ k:Nat,n=k/\k<=6/\m=6-k/\(∀ j,j<k->u.at' j<=v.at' j)/\St w d (Sep [aj r2 v.vs.toArray 42,aj r1 u.vs.toArray 42,emp]),⟨6,0,rfl,by omega,by omega,λ j h=>by omega,s2⟩,?_⟩;rintro d m n ⟨k,rfl,i,hm,ha,f⟩ -
 by_cases c:(k:Int)<6
 ·have a:k<6:=by omega
  have b:=f.quiet (aC.drew d []);refine aP c ⟨by omega,by omega,u.at' k,by rw[dM,aF b 1 rfl a],by omega,by omega,v.at' k,by rw[dM,aF b 0 rfl a],?_⟩
  by_cases g:u.at' k>v.at' k
  ·refine aP g ⟨?_,b.av⟩
   cases hw:within u v with
   | false=>rfl
   | true=>have:=within_iff.1 hw k a; omega
  ·refine aU g ⟨6-(k+1),by omega,k+1,inc (by decide) a,by omega,rfl,λ j h=>?_,b⟩;rcases bw j k with e | e
   ·exact ha j e
   ·obtain rfl:j=k:=by omega
    omega
 ·obtain rfl:k=6:=by omega
  exact cF (by simp) ⟨by rw[within_iff.2 ha],f.av⟩
def KM(w:af){m u:I6}(hu:kG m u):CP 310 #[.agg m.vs.toArray,iv (rk m u)] w (λ r w'=>r=.agg u.vs.toArray/\aC w w' []):=by
 refine rD.2.2.1 ?_;refine aG m.vs.toArray λ r1 F s1=>s1.aB z6.vs.toArray λ r2 G s2=>s2.aB z6.vs.toArray λ r3 H A=>?_;refine⟨λ s n p x=>∃ (k:Nat) (b:I6),n=(k:Int)-1/\k<=6/\x=k/\s=fH m u k/\(∀ j,j<6->k<=j->b.at' j=u.at' j)/\St w p (Sep [aj r3 b.vs.toArray 42,aj r2 z6.vs.toArray 42,aj r1 m.vs.toArray 42,emp]),⟨6,6,z6,rfl,by omega,rfl,rfl,λ j h1 h2=>by omega,A⟩,?_⟩;rintro p x s n ⟨k,b,rfl,D,E,rfl,l,d⟩ -
 cases k with
 | zero =>
  have e:b=u:=I6.ext' λ j c=>l j c (by omega);subst e;exact cF (by rfl) ⟨b,d.cellsIn 0 rfl,d.az 1 rfl b.vs rfl (I6.one _) λ J o=>⟨b,o.cellsIn 1 rfl,rfl,o.av⟩⟩
 | succ k =>
  have a:k<6:=by omega
  have h1:=hu.mm k a; have h2:=hu.u k a;have B:=jN hu k (by omega);have g:=jN hu (k+1) (by omega);have C:=Ee hu.mm (k+1) (by omega);have q:((k+1:Nat):Int)-1=(k:Int):=by omega
  have i:IntKind.i64.wrap (m.at' k+1)=m.at' k+1:=cA (by omega);have t:Int.tmod (fH m u (k+1)) (m.at' k+1)=u.at' k:=by
   rw[JH g.1,fH,Int.add_comm,Int.add_mul_emod_self_right,Int.emod_eq_of_lt h2.1 (by omega)]
  have v:Int.tdiv (fH m u (k+1)) (m.at' k+1)=fH m u k:=by
   rw[De g.1,fH,Int.add_comm,Int.add_mul_ediv_right _ _ (by omega),Int.ediv_eq_zero_of_lt h2.1 (by omega)]; omega
  have y:IntKind.i64.wrap (fH m u k)=fH m u k:=by
   have:=Ee hu.mm k (by omega);exact cA (by omega)
  rw[q];refine aP (by omega) ⟨by omega,by omega,m.at' k,by rw[dM,aF d 2 rfl a],?_⟩;rw[i,t];refine⟨by omega,by omega,by omega,?_⟩;rw[dM];refine d.aN 0 rfl a rfl λ I f=>?_;rw[I6.jf _ _ _ a] at f;refine⟨by omega,by omega,m.at' k,by rw[dM,aF f 2 rfl a],?_⟩;rw[i,v];refine⟨by omega,k,by omega,k,b.put k (u.at' k),cA (by omega),by omega,rfl,y,λ j c z=>?_,f⟩;rw[I6.ie _ _ _ _ a c]
  split
  ·rename_i h; subst h; rfl
  ·exact l j c (by omega)
def nD(c d:I6):I6:=c.zip (· - ·) d
def wu{c d:I6}{k:Nat}(a:k<6):(nD c d).at' k=c.at' k-d.at' k:=I6.iG _ _ _ _ a
def EN{m c d:I6}(hc:kG m c)(hd:kG m d)(hw:within d c=true):kG m (nD c d):=⟨hc.mm,λ k a=>by
 have h1:=within_iff.1 hw k a; have h2:=hd.u k a; have h3:=hc.u k a;rw[wu a]; omega⟩
def mY(m:I6)(T U:List Int)(i:Nat):Nat->Int
 | 0=>0
 | j+1=>if within (aK m j) (aK m i)=true then (if T.getD j 0+U.getD (rk m (nD (aK m i) (aK m j))).toNat 0>mY m T U i j then T.getD j 0+U.getD (rk m (nD (aK m i) (aK m j))).toNat 0 else mY m T U i j) else mY m T U i j
def M9(m:I6)(T U:List Int):List Int:=(List.range (aE m)).map λ i=>mY m T U i (i+1)
def gM{α:Type}(f:Nat->α){n k:Nat}(h:k<n):((List.range n).map f)[k]?=some (f k):=by
 rw[dD,uY h]; rfl
def oU{α:Type}(f:Nat->α)(n k:Nat)(v:α):((List.range n).map f).set k v=(List.range n).map λ i=>if i=k then v else f i:=by
 apply iC;intro i;rw[iW]
 by_cases hi:i<n
 ·rw[gM _ hi,gM _ hi]
  by_cases h:k=i
  ·subst h; rw[ak rfl,ak rfl]; simp[hi]
  ·rw[ah h,ah (λ a=>h a.symm)]
 ·rw[cr (by simp; omega),cr (by simp; omega)]
  split
  ·split
   ·rename_i h; simp at h; omega
   ·rfl
  ·rfl
def CM{α:Type}(x:α)(n:Nat):List.replicate n x=(List.range n).map λ _=>x:=by
 apply iC;intro i
 by_cases hi:i<n
 ·rw[gM _ hi,mg,ak hi]
 ·rw[cr (by simp; omega),cr (by simp; omega)]
def gC{T:List Int}{b:Int}(a:0<=b)(h:∀ t∈T,0<=t/\t<=b)(i:Nat):0<=T.getD i 0/\T.getD i 0<=b:=by
 rw[aJ]
 cases hi:T[i]? with
 | none=>exact⟨cq _,a⟩
 | some t=>exact h t (bf hi)
theorem Pf{m:I6}{T U:List Int}{b c:Int}(d:0<=b)(hc:0<=c)(h:∀ t∈T,0<=t/\t<=b)(a:∀ t∈U,0<=t/\t<=c)(i:Nat):∀ j,0<=mY m T U i j/\mY m T U i j<=b+c
 | 0=>by show(0:Int)<=0/\(0:Int)<=_; omega
 | j+1=>by
  have e:=Pf d hc h a i j (m:=m);have h1:=gC d h j;have h2:=gC hc a (rk m (nD (aK m i) (aK m j))).toNat;rw[mY]
  split
  ·split
   ·omega
   ·exact e
  ·exact e
def getD_some{T:List Int}{i:Nat}(h:i<T.length):T[i]?=some (T.getD i 0):=by
 rw[aJ,gE h]; rfl
def SZ{w:af}{m:I6}(hm:I6.Le m 4){a1 a2:OA}{c1 c2:Nat}{T U:List Int}(hT:cP 1 i1 w a1 T)(hU:cP 1 i1 w a2 U)(lT:T.length=aE m)(lU:U.length=aE m)(bT:∀ t∈T,0<=t/\t<=1000000000000)(bU:∀ t∈U,0<=t/\t<=1000000000000) :
  CP 308 #[.agg m.vs.toArray,.slice a1 T.length c1,.slice a2 U.length c2] w (λ r w'=>∃ g,r=.slice (qs g) (M9 m T U).length (aE m)/\St w w' (Sep [iA (qs g) (aE m) (M9 m T U)])):=by
 refine rD.2.2.2.2.2.1 ?_;obtain⟨hp,hp2,hp3⟩:=gB hm;have B:=λ {i:Nat} (hi:i<aE m)=>iZ hm i hi;have p:=λ i=>ct hm i;refine aG m.vs.toArray λ r1 w1 s1=>⟨m,s1.cellsIn 0 rfl,au (AD w1 hm) ?_⟩;rintro v w2 ⟨rfl,c2'⟩;have s2:=s1.quiet c2';refine⟨_,rfl,?_⟩;refine cZ G5 bV (x:=0) rfl s2 (n:=aE m) (by omega) (by omega) λ g w3 c3 s3=>?_;refine cZ (x:=z6) yB bE rfl s3 (n:=aE m) (by omega) (by omega) λ Z w4 c4 s4=>?_;let F:Nat->Nat->aI:=λ i j=>iA (qs g) (aE m) ((List.range (aE m)).map λ k=>if k<i then mY m T U k (k+1) else if k=i then mY m T U i j else 0);let Pt:Nat->aI:=λ k=>eV (qs Z) (aE m) ((List.range (aE m)).map λ i=>if i<k then aK m i else z6);have lF:∀ (f:Nat->Int),((List.range (aE m)).map f).length=aE m:=λ f=>by simp
 have lP:∀ (f:Nat->I6),((List.range (aE m)).map f).length=aE m:=λ f=>by simp
 have s4:St w w4 (Sep [Pt 0,F 0 0,aj r1 m.vs.toArray 42,emp]):=by
  have e1:List.replicate (aE m) (0:Int)=(List.range (aE m)).map λ k=>if k<0 then mY m T U k (k+1) else if k=0 then mY m T U 0 0 else 0:=by
   rw[CM]; exact dz λ k _=>by rw[ah (by omega)]; split<;>rfl
  have e2:List.replicate (aE m) z6=(List.range (aE m)).map λ i=>if i<0 then aK m i else z6:=by
   rw[CM]; exact dz λ k _=>by rw[ah (by omega)]
  rw[e1,e2] at s4; exact s4
 refine⟨λ n Y x=>∃ k:Nat,n=k/\k<=aE m/\x=aE m-k/\St w Y (Sep [Pt k,F 0 0,aj r1 m.vs.toArray 42,emp]),⟨aE m,0,rfl,by omega,by omega,s4⟩,?_⟩;rintro Y x n ⟨k,rfl,Q,hx,I⟩ -
 by_cases d:k<aE m
 ·refine aP (by omega) ⟨m,I.cellsIn 2 rfl,?_⟩;rw[<- B d];refine au (KM Y (p k)) ?_;rintro v w6 ⟨rfl,c6⟩;have s6:=I.quiet c6;refine⟨aK m k,rfl,aq rfl ⟨by rw[B d]; omega,by rw[B d]; omega,?_⟩⟩;rw[B d,aD];refine St.su bE (x:=aK m k) (I6.one _) (s6.out 0 rfl) (i:=k) (by rw[lP]; omega) λ w7 s7=>?_;have s7:=s7.back (i:=0) (by show 0<4; decide);refine jZ (by omega) ?_;have e:((List.range (aE m)).map λ i=>if i<k then aK m i else z6).set k (aK m k)=(List.range (aE m)).map λ i=>if i<k+1 then aK m i else z6:=by
   rw[oU];refine dz λ i _=>?_
   by_cases h:i=k
   ·subst h; rw[ak rfl,ak (by omega)]
   ·rw[ah h]
    by_cases A:i<k
    ·rw[ak A,ak (by omega)]
    ·rw[ah A,ah (by omega)]
  rw[e] at s7; exact s7
 obtain rfl:k=aE m:=by omega
 let P:aI:=eV (qs Z) (aE m) ((List.range (aE m)).map (aK m));have I:St w Y (Sep [P,F 0 0,aj r1 m.vs.toArray 42,emp]):=by
  have e:((List.range (aE m)).map λ i=>if i<aE m then aK m i else z6)=(List.range (aE m)).map (aK m):=dz λ i hi=>by rw[ak (iH.1 hi)]
  have I:St w Y (Sep [eV (qs Z) (aE m) ((List.range (aE m)).map λ i=>if i<aE m then aK m i else z6),F 0 0,aj r1 m.vs.toArray 42,emp]):=I;rw[e] at I; exact I
 have part:∀ {w':af} {l:List aI} {i:Nat},St w w' (Sep l)->l[i]?=some P->∀ {k:Nat},k<aE m->aA w' (Addr.add ⟨Z,0,none⟩ (((k:Nat):Int).toNat*6)) 0 (aK m k).vs:=λ s e k Q=>by
  obtain⟨q,G,hc⟩:=(St.rd bE (s.out _ e)).at (gM (aK m) Q)
  cases G; rw[aD]; exact hc
 refine aU (by omega) ⟨λ n w8 x=>∃ i:Nat,n=i/\i<=aE m/\x=aE m-i/\St w w8 (Sep [P,F i 0,aj r1 m.vs.toArray 42,emp]),⟨aE m,0,rfl,by omega,by omega,I⟩,?_⟩;rintro w8 x n ⟨i,rfl,hi,hx,s8⟩ -
 by_cases d:i<aE m
 rotate_left
 ·obtain rfl:i=aE m:=by omega
  have e:((List.range (aE m)).map λ k=>if k<aE m then mY m T U k (k+1) else if k=aE m then mY m T U (aE m) 0 else 0)=M9 m T U:=dz λ k Q=>by rw[ak (iH.1 Q)]
  have N:=s8.ay [1];have N:St w w8 (Sep [iA (qs g) (aE m) ((List.range (aE m)).map λ k=>if k<aE m then mY m T U k (k+1) else if k=aE m then mY m T U (aE m) 0 else 0)]):=N;rw[e] at N;refine aU (by omega) ⟨g,?_,N⟩;rw[M9,lF]
 refine aP (by omega) (aq rfl ⟨by omega,by omega,aK m i,part s8 (i:=0) rfl d,s8.aB z6.vs.toArray λ r2 w9 N=>N.az 0 rfl (aK m i).vs rfl (I6.one _) λ w10 s10=>?_⟩);refine⟨λ n M x=>∃ j:Nat,n=j/\j<=i+1/\x=i+1-j/\St w M (Sep [aj r2 (aK m i).vs.toArray 42,P,F i j,aj r1 m.vs.toArray 42,emp]),⟨i+1,0,rfl,by omega,by omega,s10⟩,?_⟩;rintro M y n ⟨j,rfl,hj,hy,J⟩ -
 by_cases hji:j<=i
 rotate_left
 ·obtain rfl:j=i+1:=by omega
  refine aU (by omega) (jZ (by omega) ?_);have e:((List.range (aE m)).map λ k=>if k<i then mY m T U k (k+1) else if k=i then mY m T U i (i+1) else 0)=(List.range (aE m)).map λ k=>if k<i+1 then mY m T U k (k+1) else if k=i+1 then mY m T U (i+1) 0 else 0:=by
   refine dz λ k _=>?_
   by_cases h:k<i
   ·rw[ak h,ak (by omega)]
   ·rw[ah h]
    by_cases A:k=i
    ·subst A; rw[ak rfl,ak (by omega)]
    ·rw[ah A,ah (by omega)]; split<;>rfl
  have C:=J.second;have C:St w M (Sep [P,iA (qs g) (aE m) ((List.range (aE m)).map λ k=>if k<i then mY m T U k (k+1) else if k=i then mY m T U i (i+1) else 0),aj r1 m.vs.toArray 42,emp]):=C;rw[e] at C; exact C
 have hjn:j<aE m:=by omega
 refine aP (by omega) ⟨λ X=>St w X (Sep [aj r2 (aK m i).vs.toArray 42,P,F i (j+1),aj r1 m.vs.toArray 42,emp]),λ X h _=>(jZ (by omega) h),aq rfl ⟨by omega,by omega,aK m j,part J (i:=1) rfl hjn,J.aB z6.vs.toArray λ r3 w13 s13=>s13.az 0 rfl (aK m j).vs rfl (I6.one _) λ w14 K=>⟨aK m j,K.cellsIn 0 rfl,aK m i,K.cellsIn 1 rfl,au (xX w14 _ _) ?_⟩⟩⟩;rintro v w15 ⟨rfl,c15⟩;have L:=K.quiet c15;refine⟨_,rfl,?_⟩
 cases hw:within (aK m j) (aK m i) with
 | false =>
  refine cT rfl ?_;have e:mY m T U i (j+1)=mY m T U i j:=by rw[mY,hw,ah (by decide)]
  show St w w15 (Sep [_,_,iA (qs g) (aE m) ((List.range (aE m)).map λ k=>if k<i then mY m T U k (k+1) else if k=i then mY m T U i (j+1) else 0),_,_]);rw[e]; exact L.second
 | true =>
 have V:=EN (p i) (p j) hw;refine cF rfl ⟨aK m i,L.cellsIn 1 rfl,L.aB z6.vs.toArray λ r4 w16 s16=>s16.az 0 rfl (aK m i).vs rfl (I6.one _) λ w17 s17=>?_⟩;refine⟨λ n E x=>∃ (k:Nat) (b:I6),n=k/\k<=6/\x=6-k/\(∀ q,q<6->b.at' q=if q<k then (nD (aK m i) (aK m j)).at' q else (aK m i).at' q)/\St w E (Sep [aj r4 b.vs.toArray 42,aj r3 (aK m j).vs.toArray 42,aj r2 (aK m i).vs.toArray 42,P,F i j,aj r1 m.vs.toArray 42,emp]),⟨6,0,aK m i,rfl,by omega,by omega,λ q _=>by rw[ah (by omega)],s17⟩,?_⟩;rintro E z n ⟨k,b,rfl,Q,hz,hb,s18⟩ -;have a:=s18.quiet (aC.drew E [])
 by_cases c:k<6
 ·have h1:=(p i).u k c; have h2:=(p j).u k c; have h3:=hm k c;refine aP (by omega) ⟨by omega,by omega,(aK m i).at' k,by rw[dM,aF a 2 rfl c],by omega,by omega,(aK m j).at' k,by rw[dM,aF a 1 rfl c],by omega,by omega,?_⟩;rw[dM,cA (by omega)];refine a.aN 0 rfl c rfl λ w19 W=>?_;rw[I6.jf _ _ _ c] at W;refine⟨6-(k+1),by omega,k+1,b.put k ((aK m i).at' k-(aK m j).at' k),inc (by decide) c,by omega,rfl,λ q G=>?_,W⟩;rw[I6.ie _ _ _ _ c G]
  by_cases h:q=k
  ·subst h; rw[ak (by first|rfl|omega),ak (by omega),wu G]
  ·rw[ah (by first|exact h|exact λ A=>h A.symm),hb q G]
   by_cases A:q<k
   ·rw[ak A,ak (by omega)]
   ·rw[ah A,ah (by omega)]
 ·obtain rfl:k=6:=by omega
  obtain rfl:b=nD (aK m i) (aK m j):=I6.ext' λ q G=>by rw[hb q G,ak G]
  have O:cP 1 i1 E.drew a1 T:=hT.av a.av;obtain⟨qo,hqo,ho⟩:=dA (St.rd bV (a.out 4 rfl)) (gM (λ k=>if k<i then mY m T U k (k+1) else if k=i then mY m T U i j else 0) d)
  cases hqo
  obtain⟨qt,S,ht⟩:=dA O (getD_some (T:=T) (i:=j) (by omega));have hr:=jN V 6 (by omega);rw[<- oB] at hr;have hrn:(rk m (nD (aK m i) (aK m j))).toNat<aE m:=by show(fH m _ 6).toNat<_; omega
  refine cF (by rfl) (aq rfl ⟨by omega,by omega,_,by rw[aD]; exact ho,aq S ⟨by omega,by omega,_,by rw[aD]; exact ht,m,a.cellsIn 5 rfl,nD (aK m i) (aK m j),a.cellsIn 0 rfl,au (IL _ V) ?_⟩⟩);rintro v w20 ⟨rfl,c20⟩;have D:=a.quiet c20;obtain⟨qo',R,ho'⟩:=dA (St.rd bV (D.out 4 rfl)) (gM (λ k=>if k<i then mY m T U k (k+1) else if k=i then mY m T U i j else 0) d)
  cases R
  obtain⟨qt',H,ht'⟩:=dA (hT.av D.av) (getD_some (T:=T) (i:=j) (by omega));rw[S] at H; cases H;obtain⟨qu,hqu,hu⟩:=dA (hU.av D.av) (getD_some (T:=U) (i:=(rk m (nD (aK m i) (aK m j))).toNat) (by omega));have b1:=gC (by decide) bT j;have b2:=gC (by decide) bU (rk m (nD (aK m i) (aK m j))).toNat;refine⟨_,rfl,by rw[aD]; exact ht',by rw[aD]; exact ho',aq hqu ⟨hr.1,by omega,_,hu,aq rfl ⟨by omega,by omega,?_⟩⟩⟩;rw[cW (n:=T.getD j 0+U.getD (rk m (nD (aK m i) (aK m j))).toNat 0) ⟨by omega,by omega⟩,aD,ah (show ¬ i<i by omega),ak rfl];refine St.gu (v:=iv) rfl (D.out 4 rfl) (i:=i) (by rw[lF]; omega) λ w21 o=>?_;have o:=(o.back (i:=4) (by show 4<7; decide)).ay [2,3,4,5,6];have e:((List.range (aE m)).map λ k=>if k<i then mY m T U k (k+1) else if k=i then mY m T U i j else 0).set i (if T.getD j 0+U.getD (rk m (nD (aK m i) (aK m j))).toNat 0>mY m T U i j then T.getD j 0+U.getD (rk m (nD (aK m i) (aK m j))).toNat 0 else mY m T U i j)=(List.range (aE m)).map λ k=>if k<i then mY m T U k (k+1) else if k=i then mY m T U i (j+1) else 0:=by
   rw[oU];refine dz λ k _=>?_
   by_cases h:k=i
   ·subst h; rw[ak rfl,ah (show ¬ k<k by omega),ak rfl,mY,hw,ak rfl]
   ·rw[ah h,ah h,ah h]
  have o:St w w21 (Sep [aj r2 (aK m i).vs.toArray 42,P,iA (qs g) (aE m) (((List.range (aE m)).map λ k=>if k<i then mY m T U k (k+1) else if k=i then mY m T U i j else 0).set i (if T.getD j 0+U.getD (rk m (nD (aK m i) (aK m j))).toNat 0>mY m T U i j then T.getD j 0+U.getD (rk m (nD (aK m i) (aK m j))).toNat 0 else mY m T U i j)),aj r1 m.vs.toArray 42,emp]):=o;rw[e] at o;exact o
def QS(m:I6)(T U:List Int):List Int:=(List.range (aE m)).map λ k=>if U.getD k 0>T.getD k 0 then U.getD k 0 else T.getD k 0
def dP(m:I6)(op:Int)(a:List (List Int)):Nat->List Int
 | 0=>List.replicate (aE m) 0
 | k+1=>if op=3/\0<k then M9 m (dP m op a k) (a.getD k []) else QS m (dP m op a k) (a.getD k [])
def pO(op:Int)(u:I6)(v:Int)(c:I6)(t:Int):Int:=if (op=1\/op=4)/\within u c=true then t+v else t
def tM(op v t:Int):Int:=if op=5 then (if v<t then v else t) else t
def Ie(m:I6)(op:Int)(u:I6)(v:Int)(T:List Int):List Int:=(List.range (aE m)).map λ i=>jL (tM op v (pO op u v (aK m i) (T.getD i 0)))
mutual
def allM(m:I6):Xv->List Int
 | .mk op u v _ _ args=>Ie m op u v (dP m op (JO m args) args.length)
def JO(m:I6):List Xv->List (List Int)
 | []=>[]
 | x :: l=>allM m x :: JO m l
end
theorem E4(m:I6):∀ l:List Xv,JO m l=l.map (allM m)
 | []=>rfl
 | x :: l=>by rw[JO,E4 m l]; rfl
def vp(m:I6)(x:Xv):allM m x=Ie m x.op x.u x.v (dP m x.op (x.args.map (allM m)) x.args.length):=by cases x; rw[allM,E4]; rfl
def Gx(x:Xv):Prop:=∀ y∈kj x,Ky y/\y.args.length<=8
def Gx.self{x:Xv}(h:Gx x):Ky x/\x.args.length<=8:=h x (by rw[pV]; simp)
def Gx.sub{x:Xv}(h:Gx x):∀ y∈x.args,Gx y:=λ y a z b=>h z (by rw[pV]; exact jH _ (iO.2 ⟨y,a,b⟩))
def xd{x:Xv}(h:Ky x)(a:x.op≠2/\x.op≠3):1<=x.v/\x.v<=1000000:=by
 have h2:=h.2;unfold gy at h2;rw[ah (by rintro(h|h); exact a.1 h; exact a.2 h)] at h2
 split at h2
 ·cases h2
 ·omega
abbrev Bt (b:Int) (T:List Int):Prop:=∀ t∈T,0<=t/\t<=b
def DE{b:Int}{f:Nat->Int}{n:Nat}(h:∀ i,0<=f i/\f i<=b):Bt b ((List.range n).map f):=λ t a=>by
 obtain⟨i,_,rfl⟩:=bL.1 a; exact h i
def Rm{v:Int}(h:0<=v):0<=jL v/\jL v<=1000000:=by unfold jL; split<;>omega
def Og{x:Xv}(h:Ky x){t:Int}{c:I6}(b:0<=t):0<=tM x.op x.v (pO x.op x.u x.v c t):=by
 have h1:0<=pO x.op x.u x.v c t:=by
  unfold pO; split
  ·rename_i a;have:=xd h (by omega); omega
  ·exact b
 unfold tM; split
 ·rename_i a;have:=xd h (by omega)
  split<;>omega
 ·exact h1
def RV{m:I6}{x:Xv}(h:Ky x){T:List Int}{b:Int}(c:0<=b)(a:Bt b T):Bt 1000000 (Ie m x.op x.u x.v T) :=
 DE λ i=>Rm (Og h (gC c a i).1)
theorem vF{m:I6}{op:Int}{a:List (List Int)}(h:∀ t∈a,Bt 1000000 t):∀ k:Nat,Bt ((k:Int)*1000000) (dP m op a k)
 | 0=>λ t b=>by have:=vl b; subst this; simp
 | k+1=>by
  have d:=vF (m:=m) (op:=op) h k;have c:Bt 1000000 (a.getD k []):=by
   rw[aJ]
   cases hk:a[k]? with
   | none=>exact λ t b=>by simp at b
   | some t=>exact h t (bf hk)
  have e:((k+1:Nat):Int)*1000000=(k:Int)*1000000+1000000:=by omega
  rw[dP,e]
  split
  ·exact DE λ i=>Pf (by omega) (by decide) d c i (i+1)
  ·refine DE λ i=>?_;have h1:=gC (by omega) d i;have h2:=gC (by decide) c i
   split<;>omega
def LL(m:I6)(op:Int)(a:List (List Int)):∀ k,(dP m op a k).length=aE m
 | 0=>j6
 | k+1=>by rw[dP]; split<;>simp[M9,QS]
def qT(m:I6)(x:Xv):(allM m x).length=aE m:=by rw[vp]; simp[Ie]
def mq{m:I6}:∀ x,Gx x->Bt 1000000 (allM m x):=Xv.ind λ x d h=>by
 rw[vp];refine RV h.self.1 (b:=(x.args.length:Int)*1000000) (by omega) (vF (λ t c=>?_) _);obtain⟨y,a,rfl⟩:=bL.1 c;exact d y a (h.sub y a)
def Pw{m:I6}(hm:I6.Le m 4):∀ (x:Xv),Gx x->∀ w,x.In w->CP 255 #[.agg x.cells.toArray,.agg m.vs.toArray] w (λ r w'=>∃ g,r=.slice (qs g) (allM m x).length (aE m)/\St w w' (Sep [iA (qs g) (aE m) (allM m x)])):=Xv.ind λ x ih hg w hx=>by
 refine @Mh _ x.u _ _ _ _ _ _ _ ?_;obtain⟨hp,hp2,hp3⟩:=gB hm;obtain⟨hok,h8⟩:=hg.self;have hrk:=λ {i:Nat} (hi:i<aE m)=>iZ hm i hi;refine aG x.cells.toArray λ r1 w1 s1=>s1.aB m.vs.toArray λ r2 w2 s2=>⟨m,s2.cellsIn 0 rfl,au (AD w2 hm) ?_⟩;rintro v w3 ⟨rfl,c3⟩;have s3:=s2.quiet c3;refine⟨_,rfl,cZ G5 bV (x:=0) rfl s3 (n:=aE m) (by omega) (by omega) λ g w4 c4 s4=>?_⟩;let l:=x.args.map (allM m);have hts:∀ t∈l,Bt 1000000 t:=λ t ht=>by
  obtain⟨y,hy,rfl⟩:=bL.1 ht;exact mq y (hg.sub y hy)
 have lF:∀ (f:Nat->Int),((List.range (aE m)).map f).length=aE m:=λ f=>by simp
 refine⟨λ a3 l3 c3 n w5 z=>∃ (k g:Nat),n=k/\k<=x.args.length/\z=x.args.length-k/\a3=qs g/\l3=aE m/\c3=aE m/\St w w5 (Sep [iA (qs g) (aE m) (dP m x.op l k),aj r2 m.vs.toArray 42,aj r1 x.cells.toArray 120,emp]),⟨x.args.length,0,g,rfl,by omega,by omega,rfl,rfl,rfl,s4⟩,?_⟩;rintro w5 z a3 l3 c3' n ⟨k,g,rfl,hk,hz,rfl,rfl,rfl,s5⟩ -;refine⟨_,_,_,s5.ag 2 rfl 8,?_⟩;have lT:=LL m x.op l k;have bT:=vF (m:=m) (op:=x.op) hts k
 by_cases P:k<x.args.length
 ·have hy:x.args[k]?=some (x.args[k]'P):=gE P;generalize x.args[k]'P=y at hy;have I:=bf hy;have D:=s5.quiet (aC.drew w5 []);obtain⟨q,hq,hcl⟩:=(hx.av D.av).fl.at hy;have ety:l.getD k []=allM m y:=by rw[aJ,dD,hy]; rfl
  refine aP (by omega) ⟨λ a5 l5 c5 w6=>∃ g,a5=qs g/\l5=aE m/\c5=aE m/\St w w6 (Sep [iA (qs g) (aE m) (dP m x.op l (k+1)),aj r2 m.vs.toArray 42,aj r1 x.cells.toArray 120,emp]),?_,_,_,_,D.ag 2 rfl 8,aq hq ⟨by omega,by omega,_,y.u,_,_,_,_,hcl,m,D.cellsIn 1 rfl,au (ih y I (hg.sub y I) w5.drew ((hx.av D.av).sub y I)) ?_⟩⟩
  ·rintro w6 a5 l5 c5 ⟨g,rfl,rfl,rfl,s6⟩ -;exact⟨x.args.length-(k+1),by omega,k+1,g,cA (by omega),by omega,rfl,rfl,rfl,rfl,s6⟩
  rintro v w7 ⟨g8,rfl,k7⟩;have N:St w w7 (Sep [iA (qs g8) (aE m) (allM m y),iA (qs g) (aE m) (dP m x.op l k),aj r2 m.vs.toArray 42,aj r1 x.cells.toArray 120,emp]):=D.and k7.single;have lU:=qT m y;have bU:=mq (m:=m) y (hg.sub y I);refine⟨_,_,_,rfl,λ b w8=>b=decide (x.op=3/\0<k)/\w8=w7,?_,_,N.ag 3 rfl 0,?_⟩
  rotate_left
  ·by_cases h3:x.op=3
   ·refine cT (by simpa using h3) ⟨?_,rfl⟩
    by_cases h0:0<k
    ·rw[dT (p:=x.op=3/\0<k) ⟨h3,h0⟩]; exact dT (by omega)
    ·rw[dF (p:=x.op=3/\0<k) (λ h=>h0 h.2)]; exact dF (by omega)
   ·exact cF (by simpa using h3) ⟨by rw[dF (p:=x.op=3/\0<k) (λ h=>h3 h.1)],rfl⟩
  rintro w8 b ⟨rfl,rfl⟩ -
  by_cases h3:x.op=3/\0<k
  ·have e:dP m x.op l (k+1)=M9 m (dP m x.op l k) (allM m y):=by rw[dP,ak h3,ety]
   have hk8:(k:Int)<=8:=by omega
   have call:=SZ (w:=w8) hm (c1:=aE m) (c2:=aE m) (St.rd bV (N.out 1 rfl)) (St.rd bV (N.out 0 rfl)) lT lU (λ t ht=>by have:=bT t ht; omega) (λ t ht=>by have:=bU t ht; omega);rw[lT] at call;refine aP h3 ⟨m,N.cellsIn 2 rfl,au call ?_⟩;rintro v w9 ⟨g9,rfl,k9⟩;have s9:St w w9 (Sep [iA (qs g9) (aE m) (M9 m (dP m x.op l k) (allM m y)),iA (qs g8) (aE m) (allM m y),iA (qs g) (aE m) (dP m x.op l k),aj r2 m.vs.toArray 42,aj r1 x.cells.toArray 120,emp]):=N.and k9.single;exact⟨_,_,_,rfl,g9,rfl,by simp[M9],rfl,by rw[e]; exact s9.ay [0,3,4,5]⟩
  ·have e:dP m x.op l (k+1)=QS m (dP m x.op l k) (allM m y):=by rw[dP,ah h3,ety]
   generalize dP m x.op l k=T at *;generalize allM m y=U at *;let d:Nat->List Int:=λ j=>(List.range (aE m)).map λ i=>if i<j then (if U.getD i 0>T.getD i 0 then U.getD i 0 else T.getD i 0) else T.getD i 0
   have eT:T=d 0:=by
    apply iC;intro i
    by_cases hi:i<aE m
    ·rw[gM _ hi,ah (by omega),getD_some (by omega)]
    ·rw[cr (by omega),cr (by rw[lF]; omega)]
   have N:St w w8 (Sep [iA (qs g8) (aE m) U,iA (qs g) (aE m) (d 0),aj r2 m.vs.toArray 42,aj r1 x.cells.toArray 120,emp]):=by rw[<- eT]; exact N
   refine aU h3 ⟨λ n Y z=>∃ j:Nat,n=j/\j<=aE m/\z=aE m-j/\St w Y (Sep [iA (qs g8) (aE m) U,iA (qs g) (aE m) (d j),aj r2 m.vs.toArray 42,aj r1 x.cells.toArray 120,emp]),⟨aE m,0,rfl,by omega,by omega,N⟩,?_⟩;rintro Y z' n ⟨j,rfl,hj,hz',S⟩ -
   by_cases H:j<aE m
   ·have V:=S.quiet (aC.drew Y []);obtain⟨q1,Q,g1⟩:=dA (St.rd bV (V.out 1 rfl)) (gM (λ i=>if i<j then (if U.getD i 0>T.getD i 0 then U.getD i 0 else T.getD i 0) else T.getD i 0) H)
    cases Q
    rw[ah (show ¬ j<j by omega)] at g1;obtain⟨q2,hq2,g2⟩:=dA (St.rd bV (V.out 0 rfl)) (getD_some (T:=U) (i:=j) (by omega))
    cases hq2
    refine aP (by omega) (aq rfl ⟨by omega,by omega,_,by rw[aD]; exact g1,aq rfl ⟨by omega,by omega,_,by rw[aD]; exact g2,aq rfl ⟨by omega,by omega,?_⟩⟩⟩);rw[aD];refine St.gu (v:=iv) rfl (V.out 1 rfl) (i:=j) (by rw[lF]; omega) λ o c=>?_;have c:=c.back (i:=1) (by show 1<5; decide);refine jZ (by omega) ?_;have G:(d j).set j (if U.getD j 0>T.getD j 0 then U.getD j 0 else T.getD j 0)=d (j+1):=by
     show((List.range (aE m)).map _).set j _=_;rw[oU];refine dz λ i _=>?_
     by_cases h:i=j
     ·subst h; rw[ak rfl,ak (show i<i+1 by omega)]
     ·rw[ah h]
      by_cases h':i<j
      ·rw[ak h',ak (show i<j+1 by omega)]
      ·rw[ah h',ah (show ¬ i<j+1 by omega)]
    have c:St w o (Sep [iA (qs g8) (aE m) U,iA (qs g) (aE m) ((d j).set j (if U.getD j 0>T.getD j 0 then U.getD j 0 else T.getD j 0)),aj r2 m.vs.toArray 42,aj r1 x.cells.toArray 120,emp]):=c;rw[G] at c; exact c
   ·obtain rfl:j=aE m:=by omega
    have G:d (aE m)=QS m T U:=dz λ i hi=>by rw[ak (iH.1 hi)]
    rw[G] at S;exact aU (by omega) ⟨g,rfl,rfl,rfl,by rw[e]; exact S.second⟩
 ·obtain rfl:k=x.args.length:=by omega
  have eA:allM m x=Ie m x.op x.u x.v (dP m x.op l x.args.length):=vp m x;generalize dP m x.op l x.args.length=T at *;let fi:Nat->Int:=λ i=>jL (tM x.op x.v (pO x.op x.u x.v (aK m i) (T.getD i 0)));let d:Nat->List Int:=λ j=>(List.range (aE m)).map λ i=>if i<j then fi i else T.getD i 0
  let A:Nat->Int->List Int:=λ j v=>(List.range (aE m)).map λ i=>if i<j then fi i else if i=j then v else T.getD i 0
  have eT:T=d 0:=by
   apply iC;intro i
   by_cases hi:i<aE m
   ·rw[gM _ hi,ah (by omega),getD_some (by omega)]
   ·rw[cr (by omega),cr (by rw[lF]; omega)]
  have eF:∀ j,d j=A j (T.getD j 0):=λ j=>dz λ i _=>by
   by_cases h:i<j
   ·rw[ak h,ak h]
   ·rw[ah h,ah h]; split
    ·rename_i h; rw[h]
    ·rfl
  have eS:∀ j v v',(A j v).set j v'=A j v':=λ j v v'=>by
   show((List.range (aE m)).map _).set j _=_;rw[oU];refine dz λ i _=>?_
   by_cases h:i=j
   ·subst h; rw[ak rfl,ah (by omega),ak rfl]
   ·rw[ah h,ah h,ah h]
  have eN:∀ j,A j (fi j)=d (j+1):=λ j=>dz λ i _=>by
   by_cases h:i<j
   ·rw[ak h,ak (by omega)]
   ·rw[ah h]
    by_cases h':i=j
    ·subst h'; rw[ak rfl,ak (by omega)]
    ·rw[ah h',ah (by omega)]
  let M:List Int->List aI:=λ T=>[iA (qs g) (aE m) T,aj r2 m.vs.toArray 42,aj r1 x.cells.toArray 120,emp];have s5:St w w5 (Sep (M (d 0))):=by rw[<- eT]; exact s5
  refine aU (by omega) ⟨λ n o z=>∃ j:Nat,n=j/\j<=aE m/\z=aE m-j/\St w o (Sep (M (d j))),⟨aE m,0,rfl,by omega,by omega,s5⟩,?_⟩;rintro o z' n ⟨j,rfl,hj,hz',c⟩ -
  by_cases H:j<aE m
  rotate_left
  ·obtain rfl:j=aE m:=by omega
   have G:d (aE m)=allM m x:=by rw[eA]; exact dz λ i hi=>by rw[ak (iH.1 hi)]
   rw[G] at c;exact aU (by omega) ⟨g,by rw[qT],c.ay [0]⟩
  rw[eF] at c;have t0:=(gC (by omega) bT j).1;have t1:T.getD j 0<=8000000:=by have:=(gC (by omega) bT j).2; omega
  have rdv:∀ {w':af} {v:Int},St w w' (Sep (M (A j v)))->w'.cell? (Addr.add ⟨g,0,none⟩ (((j:Nat):Int).toNat*1))=some (iv v):=λ {w' v} s=>by
   obtain⟨q1,Q,g1⟩:=dA (St.rd bV (s.out 0 rfl)) (gM (λ i=>if i<j then fi i else if i=j then v else T.getD i 0) H)
   cases Q
   rw[ah (show ¬ j<j by omega),ak rfl] at g1;rw[aD]; exact g1
  have wrv:∀ {w':af} {v v':Int} {K:af->Prop},St w w' (Sep (M (A j v)))->(∀ E,St w E (Sep (M (A j v')))->K E)->fL w' (Addr.add ⟨g,0,none⟩ (((j:Nat):Int).toNat*1)) (iv v') K:=λ {w' v v' K} s k=>by
   rw[aD];refine St.gu (v:=iv) rfl (s.out 0 rfl) (i:=j) (by rw[lF]; omega) λ E B=>k E ?_;have B:=B.back (i:=0) (by show 0<4; decide);have B:St w E (Sep (M ((A j v).set j v'))):=B;rw[eS] at B; exact B
  let v1:=pO x.op x.u x.v (aK m j) (T.getD j 0);let v2:=tM x.op x.v v1;have hv2:0<=v2:=Og hok t0;have O:∀ {w':af},St w w' (Sep (M (A j v2)))->bO (some (⟨g,0,none⟩:Addr)) λ q5=>0<=(j:Int)/\(j:Int)<((aE m:Nat):Int)/\∃ n12:Int,w'.cell? (Addr.add q5 (((j:Nat):Int).toNat*1))=some (iv n12) /\
    CC 311 #[iv n12] w' λ e5 w15=>∃ n13:Int,e5=.returned (iv n13)/\bO (some (⟨g,0,none⟩:Addr)) λ q6=>0<=(j:Int)/\(j:Int)<((aE m:Nat):Int)/\fL w15 (Addr.add q6 (((j:Nat):Int).toNat*1)) (iv n13) λ w16 =>
     ∃ m6,m6<z'/\∃ j':Nat,IntKind.i64.wrap ((j:Int)+1)=(j':Int)/\j'<=aE m/\m6=aE m-j'/\St w w16 (Sep (M (d j'))):=λ {w'} s=>by
   refine aq rfl ⟨by omega,by omega,_,rdv s,au (Mp w' _) ?_⟩;rintro v w15 ⟨rfl,rfl⟩;refine⟨_,rfl,aq rfl ⟨by omega,by omega,wrv (v':=jL v2) s λ w16 s16=>(jZ (by omega) ?_)⟩⟩;rw[<- eN]; exact s16
  have a:=c.quiet (aC.drew o []);refine aP (by omega) ⟨λ Z=>St w Z (Sep (M (A j v1))),?_,λ b L=>b=decide ((x.op=1\/x.op=4)/\within x.u (aK m j)=true)/\St w L (Sep (M (A j (T.getD j 0)))),?_,_,a.ag 2 rfl 0,?_⟩
  ·rintro Z W -;refine⟨λ w14=>St w w14 (Sep (M (A j v2))),λ w14 C _=>O C,_,St.ag W 2 rfl 0,?_⟩
   by_cases h5:x.op=5
   ·have C:=St.quiet W (aC.drew Z []);have G:v2=if x.v<v1 then x.v else v1:=by show tM x.op x.v v1=_; rw[tM,ak h5]
    refine cT (by simpa using h5) (aq rfl ⟨by omega,by omega,_,rdv C,_,St.ag C 2 rfl 7,aq rfl ⟨by omega,by omega,wrv C λ w17 s17=>?_⟩⟩);rw[G]; exact s17
   ·have G:v2=v1:=by show tM x.op x.v v1=_; rw[tM,ah h5]
    exact cF (by simpa using h5) (by rw[G]; exact W)
  ·rintro L b ⟨rfl,s18⟩ -
   by_cases hc:(x.op=1\/x.op=4)/\within x.u (aK m j)=true
   ·have hv:=xd hok (by omega);have e1:v1=T.getD j 0+x.v:=by show pO x.op x.u x.v (aK m j) (T.getD j 0)=_; rw[pO,ak hc]
    have X:=s18.quiet (aC.drew L []);refine aP hc (aq rfl ⟨by omega,by omega,_,rdv X,_,X.ag 2 rfl 7,aq rfl ⟨by omega,by omega,?_⟩⟩);show fL L.drew _ (iv (IntKind.i64.wrap (T.getD j 0+x.v))) _;rw[cA (by omega)];exact wrv X λ F J=>by rw[e1]; exact J
   ·have e1:v1=T.getD j 0:=by show pO x.op x.u x.v (aK m j) (T.getD j 0)=_; rw[pO,ah hc]
    exact aU hc (by rw[e1]; exact s18)
  ·have hat:=KM (w:=o.drew) (ct hm j);rw[hrk H] at hat;have fin:∀ {R:Bool->af->Prop},(x.op=1\/x.op=4)->(∀ w',St w w' (Sep (M (A j (T.getD j 0))))->R (decide ((x.op=1\/x.op=4)/\within x.u (aK m j)=true)) w') ->
     CC 310 #[.agg m.vs.toArray,iv j] o.drew λ e6 F=>∃ u9:I6,e6=.returned (.agg u9.vs.toArray)/\aA F ⟨r1,1,none⟩ 0 x.u.vs/\CC 309 #[.agg x.u.vs.toArray,.agg u9.vs.toArray] F λ e7 w21=>∃ b3:Bool,e7=.returned (.bool b3)/\R b3 w21:=λ {R} ho k=>by
    refine au hat ?_;rintro v F ⟨rfl,c20⟩;have J:=a.quiet c20;refine⟨_,rfl,J.aQ 2 1 rfl rfl,au (xX F _ _) ?_⟩;rintro v w21 ⟨rfl,c21⟩;refine⟨_,rfl,?_⟩;have:=k w21 (J.quiet c21)
    cases hw:within x.u (aK m j) with
    | true=>rw[hw,dT (p:=(x.op=1\/x.op=4)/\true=true) ⟨ho,rfl⟩] at this; exact this
    | false=>rw[hw,dF (p:=(x.op=1\/x.op=4)/\false=true) (λ h=>by cases h.2)] at this; exact this
   by_cases h1:x.op=1
   ·exact cT (by simpa using h1) ⟨x.u,a.aQ 2 1 rfl rfl,m,a.cellsIn 1 rfl,fin (.inl h1) λ w' s=>⟨rfl,s⟩⟩
   refine cF (by simpa using h1) ⟨_,a.ag 2 rfl 0,?_⟩
   by_cases h4:x.op=4
   ·exact cT (by simpa using h4) ⟨x.u,a.aQ 2 1 rfl rfl,m,a.cellsIn 1 rfl,fin (.inr h4) λ w' s=>⟨rfl,s⟩⟩
   ·exact cF (by simpa using h4) ⟨by rw[dF (p:=(x.op=1\/x.op=4)/\within x.u (aK m j)=true) (by rintro⟨h|h,_⟩; exact h1 h; exact h4 h)],a⟩
section
variable {m:I6}
def zT(hm:I6.Le m 4){u:I6}(hu:kG m u):∃ i,i<aE m/\aK m i=u/\(rk m u).toNat=i:=by
 have a:=jN hu 6 (by omega);rw[<- oB] at a;have hp:=(gB hm).2.1;have hi:(rk m u).toNat<aE m:=by show(fH m u 6).toNat<_; omega
 refine⟨_,hi,I6.ext' (IZ (ct hm _) hu (aO 6) ?_),rfl⟩;have:=iZ hm (rk m u).toNat hi;show rk m _=rk m u;rw[this];have b:0<=rk m u:=a.1;omega
theorem KQ{u v:I6}(hu:kG m u)(a:kG m v)(h:within u v=true):∀ k,k<=6->fH m u k<=fH m v k
 | 0,_=>cq _
 | k+1,c=>by
  have b:=KQ hu a h k (by omega);have h1:=within_iff.1 h k (by omega);have h2:=hu.mm k (by omega);have h3:fH m u k*(m.at' k+1)<=fH m v k*(m.at' k+1):=gR b (by omega);rw[fH,fH]; omega
def lu(u:I6):within u u=true:=within_iff.2 λ _ _=>cq _
def wF{a b c:I6}(h:within a b=true)(k:within b c=true):within a c=true:=within_iff.2 λ i hi=>cM (within_iff.1 h i hi) (within_iff.1 k i hi)
def uC{u w:I6}(hu:kG m u)(b:I6.Le w 4)(hw:within w u=true):kG m w:=⟨hu.mm,λ k a=>⟨(b k a).1,cM (within_iff.1 hw k a) (hu.u k a).2⟩⟩
def pR{w:I6}(h:kG m w):within w m=true:=within_iff.2 λ k a=>(h.u k a).2
def gA{v n:Int}(h:n<1000000):jL v<=n<->v<=n:=by unfold jL; split<;>omega
def Rt(m:I6)(T:List Int)(f:Wf):Prop:=∀ i,i<aE m->∀ n:Int,0<=n->n<1000000->(T.getD i 0<=n<->∀ w,kG m w->within w (aK m i)=true->f w<=n)
abbrev Nn (f:Wf):Prop:=∀ w,0<=f w
def oW{lim:I6}{f:Wf}{Q:List KV}(h:Nn f):Nn (cS lim f Q):=λ w=>iK λ a=>by
 have h1:=((eU (lim:=lim) (f:=f) (Q:=Q) (w:=w) (n:=-1)).1 (by omega)).1;have:=h w; omega
def uf:Nn zW:=λ _=>cq _
def nR{f:Wf}{p:KV}(hp:I6.Le p.1 4):p∈uW f<->0<f p.1/\p.2=f p.1:=by
 constructor
 ·intro h;obtain⟨u,hu,rfl⟩:=bL.1 h;exact⟨iI (jI.1 hu).2,rfl⟩
 ·rintro⟨h1,h2⟩;exact bL.2 ⟨p.1,jI.2 ⟨F8 hp,dT h1⟩,vf rfl h2.symm⟩
def mz{f:Wf}{p:KV}(h:p∈uW f):0<f p.1/\p.2=f p.1/\p.1∈Ls:=by
 obtain⟨u,hu,rfl⟩:=bL.1 h;exact⟨iI (jI.1 hu).2,rfl,(jI.1 hu).1⟩
def Dy{u:I6}(h:u∈Ls):I6.Le u 4:=by
 have r:∀ {a:Int},a∈r5->0<=a/\a<=4:=λ {a} h=>by simp[r5] at h; omega
 unfold Ls at h;obtain⟨a,ha,h⟩:=iO.1 h;obtain⟨b,g,h⟩:=iO.1 h;obtain⟨c,hc,h⟩:=iO.1 h;obtain⟨d,hd,h⟩:=iO.1 h;obtain⟨e,he,h⟩:=iO.1 h;obtain⟨f,i,rfl⟩:=bL.1 h;intro k j
 match k,j with
 | 0,_=>exact r ha
 | 1,_=>exact r g
 | 2,_=>exact r hc
 | 3,_=>exact r hd
 | 4,_=>exact r he
 | 5,_=>exact r i
def Rt.hit{T:List Int}{f:Wf}(hm:I6.Le m 4)(h:Rt m T f)(d:Nn f){i:Nat}(hi:i<aE m)(g:0<=T.getD i 0){n:Int}(k:n<1000000)(j:T.getD i 0<=n):∃ w,kG m w/\within w (aK m i)=true/\T.getD i 0<=f w:=by
 by_cases e:T.getD i 0=0
 ·exact⟨aK m i,ct hm i,lu _,by rw[e]; exact d _⟩
 ·refine Classical.byContradiction λ a=>?_;have h1:=(h i hi (T.getD i 0-1) (by omega) (by omega)).2 λ w hw b=>by
   have : ¬ T.getD i 0<=f w:=λ c=>a ⟨w,hw,b,c⟩;omega
  omega
def Rt.le{T:List Int}{f:Wf}(h:Rt m T f){i:Nat}(hi:i<aE m)(b:0<=T.getD i 0){n:Int}(d:n<1000000)(c:T.getD i 0<=n){w:I6}(hw:kG m w)(a:within w (aK m i)=true):f w<=T.getD i 0 :=
 (h i hi (T.getD i 0) b (by omega)).1 (cq _) w hw a
def KS:Rt m (List.replicate (aE m) 0) zW:=λ i hi n a _=>by
 rw[aJ,mg,ak hi];exact⟨λ _ _ _ _=>a,λ _=>a⟩
def kN{f:Nat->Int}{n i:Nat}(h:i<n):((List.range n).map f).getD i 0=f i:=by rw[aJ,gM _ h]; rfl
def Jq{f g:Wf}{w:I6}{n:Int}(hw:kG m w)(c:0<=n)(a:n<1000000):yF m f g w<=n<->f w<=n/\g w<=n:=by
 rw[yF,eU];refine yU λ _=>⟨λ h=>?_,λ h p hp e _=>?_⟩
 ·by_cases b:0<g w
  ·exact(gA a).1 (h (w,g w) ((nR hw.le).2 ⟨b,rfl⟩) rfl (pR hw))
  ·omega
 ·rw[gA a,(mz hp).2.1,e]; exact h
def Wg{T U:List Int}{f g:Wf}(h:Rt m T f)(k:Rt m U g):Rt m (QS m T U) (yF m f g):=λ i hi n d j=>by
 rw[QS,kN hi];have h1:=h i hi n d j; have h2:=k i hi n d j;have e:(if U.getD i 0>T.getD i 0 then U.getD i 0 else T.getD i 0)<=n<->T.getD i 0<=n/\U.getD i 0<=n:=by split<;>omega
 rw[e,h1,h2];constructor
 ·rintro⟨a,b⟩ w hw c; exact(Jq hw d j).2 ⟨a w hw c,b w hw c⟩
 ·intro a; exact⟨λ w hw c=>((Jq hw d j).1 (a w hw c)).1,λ w hw c=>((Jq hw d j).1 (a w hw c)).2⟩
def HK(c d:I6):I6:=c.zip (· + ·) d
def jE{c d:I6}{k:Nat}(a:k<6):(HK c d).at' k=c.at' k+d.at' k:=I6.iG _ _ _ _ a
def Uu{f g:Wf}(y:Nn f)(z:Nn g){u:I6}(hu:kG m u){n:Int}(D:0<=n)(r:n<1000000):(∀ w,kG m w->within w u=true->Hv m f g w<=n)<->∀ a b,kG m a->kG m b->within (HK a b) u=true->f a+g b<=n:=by
 have A:kG m z6:=wI hu.mm;have one:∀ {w:I6},(Hv m f g w<=n<->∀ p∈uW f++(uW g++CB (uW f) (uW g)),p.1=w->within w m=true->jL p.2<=n):=λ {w}=>by
  rw[Hv,eU]; exact⟨λ h=>h.2,λ h=>⟨D,h⟩⟩
 constructor
 ·intro h a b ha i d;have s:within a u=true:=within_iff.2 λ k c=>by have:=within_iff.1 d k c; rw[jE c] at this; have:=(i.u k c).1; omega
  have t:within b u=true:=within_iff.2 λ k c=>by have:=within_iff.1 d k c; rw[jE c] at this; have:=(ha.u k c).1; omega
  have G:=y a; have H:=z b
  by_cases h1:0<f a
  ·by_cases h2:0<g b
   ·have l:kG m (HK a b):=⟨hu.mm,λ k c=>⟨by rw[jE c]; have:=(ha.u k c).1; have:=(i.u k c).1; omega,cM (within_iff.1 d k c) (hu.u k c).2⟩⟩;have h3:=one.1 (h _ l d) (yg (a,f a) (b,g b)) (jl _ (jl _ (th.2 ⟨_,(nR ha.le).2 ⟨h1,rfl⟩,_,(nR i.le).2 ⟨h2,rfl⟩,rfl⟩))) rfl (pR l);exact(gA r).1 h3
   ·have h3:=one.1 (h a ha s) (a,f a) (iN _ ((nR ha.le).2 ⟨h1,rfl⟩)) rfl (pR ha);have:=(gA r).1 h3;show f a+g b<=n; simp only at this; omega
  ·by_cases h2:0<g b
   ·have h3:=one.1 (h b i t) (b,g b) (jl _ (iN _ ((nR i.le).2 ⟨h2,rfl⟩))) rfl (pR i);have:=(gA r).1 h3;simp only at this; omega
   ·omega
 ·intro h w hw j;have v:∀ {a:I6},HK a z6=a:=λ {a}=>I6.ext' λ k c=>by rw[jE c,jB]; omega
  have o:∀ {a:I6},HK z6 a=a:=λ {a}=>I6.ext' λ k c=>by rw[jE c,jB]; omega
  refine one.2 λ p hp e _=>(gA r).2 ?_;rcases aV.1 hp with hp|hp
  ·obtain⟨_,h2,_⟩:=mz hp;have:=h w z6 hw A (by rw[v]; exact j);have q:=z z6;rw[h2,e]; omega
  ·rcases aV.1 hp with hp|hp
   ·obtain⟨_,h2,_⟩:=mz hp;have:=h z6 w A hw (by rw[o]; exact j);have q:=y z6;rw[h2,e]; omega
   ·obtain⟨a,ha,b,i,rfl⟩:=th.1 hp;obtain⟨_,a2,a3⟩:=mz ha;obtain⟨_,B,C⟩:=mz i;have a4:=Dy a3; have x:=Dy C;have d:within (HK a.1 b.1) u=true:=by
     have:HK a.1 b.1=w:=e;rw[this]; exact j
    have E:kG m a.1:=uC hu a4 (within_iff.2 λ k c=>by have:=within_iff.1 d k c; rw[jE c] at this; have:=(x k c).1; omega);have F:kG m b.1:=uC hu x (within_iff.2 λ k c=>by have:=within_iff.1 d k c; rw[jE c] at this; have:=(a4 k c).1; omega);have:=h a.1 b.1 E F d;show a.2+b.2<=n;rw[a2,B]; exact this
theorem Pg{T U:List Int}{i:Nat}{n:Int}(d:0<=n):∀ j,mY m T U i j<=n<->∀ k,k<j->within (aK m k) (aK m i)=true->T.getD k 0+U.getD (rk m (nD (aK m i) (aK m k))).toNat 0<=n
 | 0=>⟨λ _ k c=>by omega,λ _=>d⟩
 | j+1=>by
  have f:=Pg (T:=T) (U:=U) (i:=i) d j;rw[mY]
  by_cases hw:within (aK m j) (aK m i)=true
  ·rw[ak hw];have e:(if T.getD j 0+U.getD (rk m (nD (aK m i) (aK m j))).toNat 0>mY m T U i j then T.getD j 0+U.getD (rk m (nD (aK m i) (aK m j))).toNat 0 else mY m T U i j)<=n<->mY m T U i j<=n/\T.getD j 0+U.getD (rk m (nD (aK m i) (aK m j))).toNat 0<=n:=by split<;>omega
   rw[e,f];constructor
   ·rintro⟨a,b⟩ k c;rcases bw k j with h|h
    ·exact a k h
    ·obtain rfl:k=j:=by omega
     exact λ _=>b
   ·intro a; exact⟨λ k c=>a k (by omega),a j (by omega) hw⟩
  ·rw[ah hw,f];constructor
   ·intro a k c;rcases bw k j with h|h
    ·exact a k h
    ·obtain rfl:k=j:=by omega
     exact λ h=>absurd h hw
   ·intro a k c; exact a k (by omega)
def Ye(hm:I6.Le m 4){T U:List Int}{f g:Wf}(A:Nn f)(B:Nn g)(bT:∀ i,0<=T.getD i 0)(E:∀ i,0<=U.getD i 0)(h:Rt m T f)(k:Rt m U g):Rt m (M9 m T U) (Hv m f g):=λ i hi n v d=>by
 rw[M9,kN hi,Pg v,Uu A B (ct hm i) v d];constructor
 ·intro H a b ha p s;obtain⟨j,C,rfl,_⟩:=zT hm ha;have hw:within (aK m j) (aK m i)=true:=within_iff.2 λ q c=>by have:=within_iff.1 s q c; rw[jE c] at this; have:=(p.u q c).1; omega
  have D:j<i+1:=by
   have h1:=KQ (ct hm j) (ct hm i) hw 6 (by omega);have h2:rk m (aK m j)=j:=iZ hm j C;have h3:rk m (aK m i)=i:=iZ hm i hi;have h1:rk m (aK m j)<=rk m (aK m i):=h1;omega
  have J:=H j D hw;obtain⟨r,x,e,l⟩:=zT hm (EN (ct hm i) (ct hm j) hw);rw[l] at J;have t1:=bT j; have t2:=E r;have h1:=h.le C t1 (n:=n) d (by omega) ha (lu _);have h2:=k.le x t2 (n:=n) d (by omega) p (by
   rw[e]; exact within_iff.2 λ q c=>by have:=within_iff.1 s q c; rw[jE c] at this; rw[wu c]; omega)
  omega
 ·intro H j C hw;have t:j<aE m:=by omega
  obtain⟨r,x,e,l⟩:=zT hm (EN (ct hm i) (ct hm j) hw);rw[l];have t1:=bT j; have t2:=E r;have fa:∀ a b,kG m a->kG m b->within a (aK m j)=true->within b (aK m r)=true->f a+g b<=n:=λ a b ha p h1 h2=>H a b ha p (within_iff.2 λ q c=>by
   have K:=within_iff.1 h1 q c; have F:=within_iff.1 h2 q c;rw[e,wu c] at F;rw[jE c]; omega)
  have u1:T.getD j 0<=n:=(h j t n v d).2 λ w hw o=>by
   have:=fa w z6 hw (wI hm) o (within_iff.2 λ q c=>by rw[jB]; exact((ct hm r).u q c).1);have:=B z6; omega
  have u2:U.getD r 0<=n:=(k r x n v d).2 λ w hw o=>by
   have:=fa z6 w (wI hm) hw (within_iff.2 λ q c=>by rw[jB]; exact((ct hm j).u q c).1) o;have:=A z6; omega
  obtain⟨a,ha,y,G⟩:=h.hit hm A t t1 d u1;obtain⟨b,p,z,I⟩:=k.hit hm B x t2 d u2;have:=fa a b ha p y z;omega
end
section
variable {m:I6}
def ZC{U:List Int}{i:Nat}(hi:i<aE m)(h:0<=U.getD i 0):(QS m (List.replicate (aE m) 0) U).getD i 0=U.getD i 0:=by
 have e:(List.replicate (aE m) (0:Int)).getD i 0=0:=by rw[aJ,mg,ak hi]; rfl
 rw[QS,kN hi,e]
 split<;>omega
def Wh(hm:I6.Le m 4){U:List Int}{g:Wf}(r:Nn g)(o:∀ i,0<=U.getD i 0)(k:Rt m U g):Rt m (QS m (List.replicate (aE m) 0) U) (Hv m zW g):=λ i hi n j l=>by
 rw[ZC hi (o i),k i hi n j l,Uu uf r (ct hm i) j l];constructor
 ·intro h a b ha p d;have:=h b p (within_iff.2 λ q c=>by have:=within_iff.1 d q c; rw[jE c] at this; have:=(ha.u q c).1; omega);show 0+g b<=n; omega
 ·intro h w hw f;have:=h z6 w (wI hm) hw (within_iff.2 λ q c=>by rw[jE c,jB]; have:=within_iff.1 f q c; omega);have e:zW z6=0:=rfl;omega
def UT{g:Wf}(t:Nn g){u c:I6}(hu:kG m u)(s:I6.Le c 4){v n:Int}(y:1<=v)(l:0<=n)(j:n<1000000):(∀ w,kG m w->within w u=true->HN m (c,v) g w<=n)<->if within c u=true then ∀ w,kG m w->within w u=true->g w+v<=n else ∀ w,kG m w->within w u=true->g w<=n:=by
 have one:∀ {w:I6},(HN m (c,v) g w<=n<->∀ p∈uW g++([(c,v)]++(uW g).map (oS (c,v))),p.1=w->within w m=true->jL p.2<=n):=λ {w}=>by
  rw[HN,eU]; exact⟨λ h=>h.2,λ h=>⟨l,h⟩⟩
 have jn:∀ {p:KV} {q:Nat},q<6->(oS (c,v) p).1.at' q=if c.at' q>p.1.at' q then c.at' q else p.1.at' q:=λ {p q} d=>I6.iG _ _ _ _ d
 by_cases b:within c u=true
 ·rw[ak b];have i:kG m c:=uC hu s b;constructor
  ·intro h w hw a
   by_cases hp:0<g w
   ·have f:within (oS (c,v) (w,g w)).1 u=true:=within_iff.2 λ q d=>by
     rw[jn d]; have:=within_iff.1 b q d; have:=within_iff.1 a q d; split<;>assumption
    have hle:I6.Le (oS (c,v) (w,g w)).1 4:=λ q d=>by
     rw[jn d]; split
     ·exact s q d
     ·exact hw.le q d
    have h1:=one.1 (h _ (uC hu hle f) f) (oS (c,v) (w,g w)) (jl _ (jl _ (gP ((nR hw.le).2 ⟨hp,rfl⟩)))) rfl (pR (uC hu hle f));exact(gA j).1 h1
   ·have h1:=one.1 (h c i b) (c,v) (jl _ (iN _ (by simp))) rfl (pR i);have:=(gA j).1 h1;have:=t w;simp only at *; omega
  ·intro h w hw a;refine one.2 λ p hp e _=>(gA j).2 ?_;rcases aV.1 hp with hp|hp
   ·have:=h w hw a;rw[(mz hp).2.1,e]; omega
   ·rcases aV.1 hp with hp|hp
    ·rw[bp.1 hp];have:=h w hw a;have:=t w;show v<=n; omega
    ·obtain⟨r,o,rfl⟩:=bL.1 hp;obtain⟨_,p2,x⟩:=mz o;have k:within r.1 u=true:=within_iff.2 λ q d=>by
      have h1:=within_iff.1 a q d;rw[<- e,jn d] at h1
      split at h1<;>omega
     have:=h r.1 (uC hu (Dy x) k) k;show r.2+v<=n;rw[p2]; exact this
 ·rw[ah b];constructor
  ·intro h w hw a
   by_cases hp:0<g w
   ·exact(gA j).1 (one.1 (h w hw a) (w,g w) (iN _ ((nR hw.le).2 ⟨hp,rfl⟩)) rfl (pR hw))
   ·omega
  ·intro h w hw a;refine one.2 λ p hp e _=>(gA j).2 ?_;rcases aV.1 hp with hp|hp
   ·rw[(mz hp).2.1,e]; exact h w hw a
   ·rcases aV.1 hp with hp|hp
    ·rw[bp.1 hp] at e;have e:c=w:=e;rw[e] at b; exact absurd a b
    ·obtain⟨p,hp,rfl⟩:=bL.1 hp;refine absurd (within_iff.2 λ q d=>?_) b;have h1:=within_iff.1 a q d;rw[<- e,jn d] at h1
     split at h1<;>omega
def VD{g:Wf}{u:I6}{v n:Int}(b:0<=n)(f:n<1000000):(∀ w,kG m w->within w u=true->Iq m v g w<=n)<->v<=n\/∀ w,kG m w->within w u=true->g w<=n:=by
 have one:∀ {w:I6},kG m w->(Iq m v g w<=n<->v<=n\/g w<=n):=λ {w} hw=>by
  rw[Iq,eU];constructor
  ·intro h
   by_cases hp:0<g w
   ·have h1:=(gA f).1 (h.2 (L1 v (w,g w)) (gP ((nR hw.le).2 ⟨hp,rfl⟩)) rfl (pR hw));have h1:(if v<g w then v else g w)<=n:=h1
    split at h1
    ·exact .inl h1
    ·exact .inr h1
   ·exact .inr (by omega)
  ·intro h;refine⟨b,λ p hp e _=>(gA f).2 ?_⟩;obtain⟨d,c,rfl⟩:=bL.1 hp;have e:d.1=w:=e;show(if v<d.2 then v else d.2)<=n;rw[(mz c).2.1,e]
   split<;>omega
 constructor
 ·intro h
  by_cases i:v<=n
  ·exact .inl i
  ·exact .inr λ w hw a=>by
    rcases(one hw).1 (h w hw a) with h|h
    ·exact absurd h i
    ·exact h
 ·intro h w hw a;refine(one hw).2 ?_;rcases h with h|h
  ·exact .inl h
  ·exact .inr (h w hw a)
theorem vR{op:Wf->Wf->Wf}(h:∀ f g,Nn f->Nn (op f g)):∀ (l:List Wf) (f:Wf),Nn f->Nn (l.foldl op f)
 | [],_,a=>a
 | g :: l,f,a=>vR h l _ (h f g a)
def Cv(x:Xv):Nn (iM m x):=by
 rw[oA]
 split
 ·exact oW uf
 split
 ·exact vR (λ f g a=>oW a) _ _ uf
 split
 ·exact vR (λ f g _=>oW uf) _ _ uf
 split
 ·exact oW uf
 split
 ·exact oW uf
 ·exact uf
def Dz{x:Xv}(h:Gx x)(i:Nat):0<=(allM m x).getD i 0:=(gC (by decide) (mq x h) i).1
def LM{x:Xv}(h:fJ x=true):(x.op=1/\x.args=[])\/x.op=2\/x.op=3\/(x.op=4/\∃ y,x.args=[y])\/(x.op=5/\∃ y,x.args=[y]):=by
 have one:x.args.length=1->∃ y,x.args=[y]:=λ h=>List.length_eq_one_iff.1 h;unfold fJ at h
 split at h
 ·rename_i h1; exact .inl ⟨h1,Da.1 (by simpa using h)⟩
 ·split at h
  ·rename_i h2; rcases h2 with h2|h2
   ·exact .inr (.inl h2)
   ·exact .inr (.inr (.inl h2))
  ·split at h
   ·rename_i h4; exact .inr (.inr (.inr (.inl ⟨h4,one (by simpa using h)⟩)))
   ·split at h
    ·rename_i a;rw[aX] at h;exact .inr (.inr (.inr (.inr ⟨a,one (by simpa using h.1)⟩)))
    ·cases h
def Ac{α β:Type}(f:β->α->β)(b:β){l:List α}{k:Nat}{x:α}(h:l[k]?=some x):(l.take (k+1)).foldl f b=f ((l.take k).foldl f b) x:=by rw[aH h,iJ]; rfl
def PV(hm:I6.Le m 4):∀ x,Gx x->Rt m (allM m x) (iM m x):=Xv.ind λ x R s=>by
 obtain⟨r,S⟩:=s.self;have o:=λ y b=>R y b (s.sub y b);have E:∀ t∈x.args.map (allM m),Bt 1000000 t:=λ t Q=>by
  obtain⟨y,b,rfl⟩:=bL.1 Q;exact mq y (s.sub y b)
 have F:∀ k i,0<=(dP m x.op (x.args.map (allM m)) k).getD i 0:=λ k i=>(gC (by omega) (vF E k) i).1;have val:∀ {i:Nat},i<aE m->∀ {n:Int},n<1000000->((allM m x).getD i 0<=n<->tM x.op x.v (pO x.op x.u x.v (aK m i) ((dP m x.op (x.args.map (allM m)) x.args.length).getD i 0))<=n):=λ {i} hi {n} j=>by
  rw[vp,Ie,kN hi,gA j]
 have C:∀ {k:Nat} {y:Xv},x.args[k]?=some y->(x.args.map (allM m)).getD k []=allM m y:=λ {k y} h=>by rw[aJ,dD,h]; rfl
 have L:x.op≠2->x.op≠3->x.op≠5->I6.Le x.u 4:=λ h2 h3 N=>by
  have h:=r.2;unfold gy at h;rw[ah (by rintro(h|h); exact h2 h; exact h3 h)] at h
  split at h
  ·cases h
  ·first|(rw[ah N,aX] at h; exact Bl h.1)|(rw[aX] at h; exact Bl h.1)
 intro i hi n q j;rw[val hi j];rcases LM r.1 with⟨d,ha⟩|d|d|⟨d,y,ha⟩|⟨d,y,ha⟩
 ·have K:=xd r (by omega);have J:=L (by omega) (by omega) (by omega);have e:iM m x=cS m zW [(x.u,x.v)]:=by rw[oA,ak d]
  have B:(dP m x.op (x.args.map (allM m)) x.args.length).getD i 0=0:=by
   rw[ha]; show(List.replicate (aE m) (0:Int)).getD i 0=0;rw[aJ,mg,ak hi]; rfl
  rw[B,e,tM,ah (by omega),pO]
  by_cases hw:within x.u (aK m i)=true
  ·rw[ak ⟨.inl d,hw⟩];have D:=uC (ct hm i) J hw;constructor
   ·intro h w _ _;rw[eU];refine⟨q,λ p hp _ _=>?_⟩;rw[bp.1 hp,gA j]; show x.v<=n; omega
   ·intro h;have:=((eU).1 (h x.u D hw)).2 (x.u,x.v) (by simp) rfl (pR D);have:=(gA j).1 this;simp only at this; omega
  ·rw[ah (λ h=>hw h.2)];refine⟨λ _ w _ l=>?_,λ _=>q⟩;rw[eU];refine⟨q,λ p hp e _=>?_⟩;rw[bp.1 hp] at e;have e:x.u=w:=e;rw[e] at hw; exact absurd l hw
 ·have e:iM m x=(x.args.map (iM m)).foldl (yF m) zW:=by rw[oA,ah (by omega),ak d]
  have H:∀ k,k<=x.args.length->Rt m (dP m x.op (x.args.map (allM m)) k) (((x.args.map (iM m)).take k).foldl (yF m) zW):=λ k=>by
   induction k with
   | zero=>exact λ _=>KS
   | succ k A =>
    intro O;obtain⟨y,b⟩:=bx x.args k (by omega);have z:(x.args.map (iM m))[k]?=some (iM m y):=by rw[dD,b]; rfl
    rw[Ac _ _ z,dP,ah (by omega),C b];exact Wg (A (by omega)) (o y (bf b))
  have:=H _ (aO _) i hi n q j;rw[fN (by simp)] at this;rw[e,tM,ah (by omega),pO,ah (by rintro⟨h|h,_⟩<;>omega)];exact this
 ·have e:iM m x=(x.args.map (iM m)).foldl (Hv m) zW:=by rw[oA,ah (by omega),ah (by omega),ak d]
  have H:∀ k,k<=x.args.length->Rt m (dP m x.op (x.args.map (allM m)) k) (((x.args.map (iM m)).take k).foldl (Hv m) zW):=λ k=>by
   induction k with
   | zero=>exact λ _=>KS
   | succ k A =>
    intro O;obtain⟨y,b⟩:=bx x.args k (by omega);have a:=bf b;have z:(x.args.map (iM m))[k]?=some (iM m y):=by rw[dD,b]; rfl
    rw[Ac _ _ z,dP,C b]
    by_cases I:0<k
    ·rw[ak ⟨d,I⟩];exact Ye hm (vR (λ f g _=>oW uf) _ _ uf) (Cv y) (F k) (Dz (s.sub y a)) (A (by omega)) (o y a)
    ·obtain rfl:k=0:=by omega
     rw[ah (by omega)];exact Wh hm (Cv y) (Dz (s.sub y a)) (o y a)
  have:=H _ (aO _) i hi n q j;rw[fN (by simp)] at this;rw[e,tM,ah (by omega),pO,ah (by rintro⟨h|h,_⟩<;>omega)];exact this
 ·have K:=xd r (by omega);have J:=L (by omega) (by omega) (by omega);have a:y∈x.args:=by rw[ha]; simp
  have e:iM m x=HN m (x.u,x.v) (iM m y):=by rw[oA,ah (by omega),ah (by omega),ah (by omega),ak d,ha]; rfl
  have G:=Dz (m:=m) (s.sub y a) i;have B:(dP m x.op (x.args.map (allM m)) x.args.length).getD i 0=(allM m y).getD i 0:=by
   rw[ha]; show(dP m x.op [allM m y] 1).getD i 0=_;rw[dP,ah (by omega)];exact ZC hi G
  rw[B,e,tM,ah (by omega),pO,UT (Cv y) (ct hm i) J K.1 q j];have b:=o y a
  by_cases hw:within x.u (aK m i)=true
  ·rw[ak ⟨.inr d,hw⟩,ak hw]
   by_cases P:x.v<=n
   ·have:=b i hi (n-x.v) (by omega) (by omega);constructor
    ·intro h w hw l; have:=this.1 (by omega) w hw l; omega
    ·intro h; have:=this.2 λ w hw l=>by have:=h w hw l; omega
     omega
   ·refine⟨λ h=>absurd h (by omega),λ h=>?_⟩;have:=h (aK m i) (ct hm i) (lu _);have:=Cv (m:=m) y (aK m i);omega
  ·rw[ah (λ h=>hw h.2),ah hw]; exact b i hi n q j
 ·have a:y∈x.args:=by rw[ha]; simp
  have e:iM m x=Iq m x.v (iM m y):=by rw[oA,ah (by omega),ah (by omega),ah (by omega),ah (by omega),ak d,ha]; rfl
  have G:=Dz (m:=m) (s.sub y a) i;have B:(dP m x.op (x.args.map (allM m)) x.args.length).getD i 0=(allM m y).getD i 0:=by
   rw[ha]; show(dP m x.op [allM m y] 1).getD i 0=_;rw[dP,ah (by omega)];exact ZC hi G
  have M:∀ c t,pO x.op x.u x.v c t=t:=λ c t=>by rw[pO,ah (by rintro⟨h|h,_⟩<;>omega)]
  rw[B,e,M,tM,ak d,VD q j,<- o y a i hi n q j]
  split<;>omega
end
section
variable {m:I6}
theorem CO{u v:I6}:∀ {k:Nat},(∀ q,q<k->u.at' q=v.at' q)->fH m u k=fH m v k
 | 0,_=>rfl
 | k+1,h=>by rw[fH,fH,CO λ q a=>h q (by omega),h k (by omega)]
theorem PR{u v:I6}:∀ {j:Nat},j<=6->(∀ q,q<6->6-j<=q->u.at' q=v.at' q)->rk m u-rk m v=(fH m u (6-j)-fH m v (6-j))*qM m j
 | 0,_,_=>by show _=_*(1:Int); rw[yG]
 | j+1,l,h=>by
  have k:=PR (u:=u) (v:=v) (j:=j) (by omega) λ q g i=>h q g (by omega);have e:6-j=(6-(j+1))+1:=by omega
  have f:5-j=6-(j+1):=by omega
  rw[k,e,fH,fH,h (6-(j+1)) (by omega) (aO _),qM,f];generalize fH m u (6-(j+1))=a;generalize fH m v (6-(j+1))=b;generalize m.at' (6-(j+1))+1=c;generalize v.at' (6-(j+1))=d;have:a*c+d-(b*c+d)=(a-b)*c:=by rw[Int.sub_mul]; omega
  rw[this,Dc,Dd c]
def Tf{u:I6}{j:Nat}(c:j<6):rk m u-rk m (ud m u (5-j))=qM m j:=by
 have a:5-j<6:=by omega
 have hp:∀ q,q<6->(ud m u (5-j)).at' q=if q=5-j then u.at' (5-j)-1 else u.at' q:=λ q h=>by
  unfold ud; rw[I6.ie _ _ _ _ a h]
 rw[PR (j:=j) (by omega) λ q h1 h2=>by rw[hp q h1,ah (by omega)]];have e:6-j=(5-j)+1:=by omega
 rw[e,fH,fH,CO (u:=u) (v:=ud m u (5-j)) λ q b=>by rw[hp q (by omega),ah (by omega)],hp _ a,ak rfl];have:fH m (ud m u (5-j)) (5-j)*(m.at' (5-j)+1)+u.at' (5-j)-(fH m (ud m u (5-j)) (5-j)*(m.at' (5-j)+1)+(u.at' (5-j)-1))=1:=by omega
 rw[this,Int.one_mul]
def xI{u w:I6}(hw:∀ q,q<6->0<=w.at' q)(h:within w u=true):w=u\/∃ q,q<6/\u.at' q≠0/\within w (ud m u q)=true:=by
 by_cases b:∃ q,q<6/\w.at' q<u.at' q
 ·obtain⟨q,a,c⟩:=b;have:=hw q a;refine .inr ⟨q,a,by omega,within_iff.2 λ i hi=>?_⟩;unfold ud;rw[I6.ie _ _ _ _ a hi]
  split
  ·rename_i e; subst e; omega
  ·exact within_iff.1 h i hi
 ·refine .inl (I6.ext' λ q a=>?_);have h1:=within_iff.1 h q a;have : ¬ w.at' q<u.at' q:=λ h=>b ⟨q,a,h⟩;omega
def rS{u:I6}{q:Nat}(a:q<6):within (ud m u q) u=true:=within_iff.2 λ i hi=>by
 unfold ud;rw[I6.ie _ _ _ _ a hi]
 split
 ·rename_i e; subst e; omega
 ·exact cq _
def oR{T:List Int}{i k:Nat}{v:Int}(b:k<T.length):(T.set k v).getD i 0=if i=k then v else T.getD i 0:=by
 rw[aJ,iW]
 by_cases h:k=i
 ·subst h; rw[ak rfl,ak rfl,ak b]; rfl
 ·rw[ah h,ah (λ a=>h a.symm),aJ]
theorem yZ{u:I6}{i k:Nat}{T:List Int}(hi:i<T.length)(h:k≠i):∀ j,(mw m u i j T).getD k 0=T.getD k 0
 | 0=>rfl
 | j+1=>by
  rw[mw]
  split
  ·rw[UE,oR (by rw[oJ]; exact hi),ah h,yZ hi h j]
  ·exact yZ hi h j
theorem JS{u:I6}{i:Nat}{T:List Int}(hi:i<T.length)(l:∀ j,j<6->0<u.at' (5-j)->i-(qM m j).toNat≠i){n:Int}:∀ j,j<=6->((mw m u i j T).getD i 0<=n<->T.getD i 0<=n/\∀ d,d<j->0<u.at' (5-d)->T.getD (i-(qM m d).toNat) 0<=n)
 | 0,_=>⟨λ h=>⟨h,λ d f=>by omega⟩,λ h=>h.1⟩
 | j+1,p=>by
  have o:=JS hi l (n:=n) j (by omega);rw[mw]
  by_cases k:0<u.at' (5-j)
  ·rw[ak k,UE,oR (by rw[oJ]; exact hi),ak rfl,yZ hi (l j (by omega) k)];have e:(if T.getD (i-(qM m j).toNat) 0>(mw m u i j T).getD i 0 then T.getD (i-(qM m j).toNat) 0 else (mw m u i j T).getD i 0)<=n<->(mw m u i j T).getD i 0<=n/\T.getD (i-(qM m j).toNat) 0<=n:=by split<;>omega
   rw[e,o];constructor
   ·rintro⟨⟨a,b⟩,c⟩;refine⟨a,λ d f h=>?_⟩;rcases bw d j with g | g
    ·exact b d g h
    ·obtain rfl:d=j:=by omega
     exact c
   ·rintro⟨a,b⟩;exact⟨⟨a,λ d f h=>b d (by omega) h⟩,b j (by omega) k⟩
  ·rw[ah k,o];refine yU λ _=>⟨λ b d f h=>?_,λ b d f h=>b d (by omega) h⟩;rcases bw d j with g | g
   ·exact b d g h
   ·obtain rfl:d=j:=by omega
    exact absurd h k
def Au(hm:I6.Le m 4){i:Nat}(hi:i<aE m){j:Nat}(c:j<6)(e:0<(aK m i).at' (5-j)):∃ p,p<i/\p=i-(qM m j).toNat/\aK m p=ud m (aK m i) (5-j):=by
 have b:=Ic (ct hm i) (k:=5-j) (by omega) (by omega);obtain⟨p,hp,a,d⟩:=zT hm b;have h1:=Tf (m:=m) (u:=aK m i) c;have h2:rk m (aK m i)=i:=iZ hm i hi;have h3:rk m (aK m p)=p:=iZ hm p hp;rw[a] at h3;have h4:=(xE hm j (by omega)).1;exact⟨p,by omega,by omega,a⟩
theorem K8(hm:I6.Le m 4){F:Wf}(y:Nn F):∀ k,k<=aE m->∀ i,i<k->∀ n:Int,0<=n->((tV m F k).getD i 0<=n<->∀ w,kG m w->within w (aK m i)=true->F w<=n)
 | 0,_,i,hi=>by omega
 | k+1,A,i,hi=>by
  intro n g;have v:=K8 hm y k (by omega);have B:=sG m F k;have e:k<((tV m F k).set k (F (aK m k))).length:=by rw[dN]; omega
  rw[tV]
  by_cases d:i=k
  ·subst d;rw[JS e (λ j l h=>by obtain⟨p,h1,h2,_⟩:=Au hm (by omega) l h; omega) 6 (aO _),oR (by omega),ak rfl];constructor
   ·rintro⟨a,b⟩ w hw r;rcases xI (m:=m) (λ q o=>(hw.u q o).1) r with rfl|⟨q,o,z,t⟩
    ·exact a
    ·have f:5-(5-q)=q:=by omega
     have c:0<(aK m i).at' (5-(5-q)):=by rw[f]; have:=((ct hm i).u q o).1; omega
     obtain⟨p,p1,p2,x⟩:=Au hm (by omega) (j:=5-q) (by omega) c;have:=b (5-q) (by omega) c;rw[<- p2,oR (by omega),ah (by omega)] at this;refine(v p p1 n g).1 this w hw ?_;rw[x,f]; exact t
   ·intro h;refine⟨h _ (ct hm i) (lu _),λ j l c=>?_⟩;obtain⟨p,p1,p2,x⟩:=Au hm (by omega) l c;rw[<- p2,oR (by omega),ah (by omega)];refine(v p p1 n g).2 λ w hw s=>h w hw (wF s ?_);rw[x]; exact rS (by omega)
  ·rw[yZ e d,oR (by omega),ah d];exact v i (by omega) n g
def VP(x:Xv)(w:I6):iM m x w<=1000000:=by
 have c:∀ v:Int,jL v<=1000000:=λ v=>by unfold jL; split<;>omega
 have r:∀ {f:Wf} {Q:List KV},f w<=1000000->cS m f Q w<=1000000:=λ h=>eU.2 ⟨h,λ p _ _ _=>c _⟩;have z:zW w<=1000000:=by show(0:Int)<=_; decide
 have a:∀ {op:Wf->Wf->Wf},(∀ f g,f w<=1000000->op f g w<=1000000)->∀ (l:List Wf) (f:Wf),f w<=1000000->l.foldl op f w<=1000000:=λ {op} h l=>by
  induction l with
  | nil=>exact λ f h=>h
  | cons g l d=>exact λ f b=>d _ (h f g b)
 rw[oA]
 split
 ·exact r z
 split
 ·exact a (λ f g h=>r h) _ _ z
 split
 ·exact a (λ f g _=>r z) _ _ z
 split
 ·exact r z
 split
 ·exact r z
 ·exact z
def WO(hm:I6.Le m 4){x:Xv}(d:Gx x):allM m x=wv m (iM m x):=by
 have l1:=qT m x;have l2:(wv m (iM m x)).length=aE m:=sG m _ _;apply iC;intro i
 by_cases hi:i<aE m
 ·rw[getD_some (by omega),getD_some (T:=wv m (iM m x)) (by omega)]
  congr 1
  have h1:=PV hm x d i hi;have h2:=K8 hm (Cv (m:=m) x) (aE m) (aO _) i hi;have a:=gC (by decide) (mq (m:=m) x d) i;have c:0<=(wv m (iM m x)).getD i 0:=iK λ h=>by
   have h3:=(h2 0 (cq _)).1 (by show(wv m (iM m x)).getD i 0<=0; omega);rcases Classical.em ((wv m (iM m x)).getD i 0<0) with h4|h4
   ·have key:∀ k,∀ i,0<=(tV m (iM m x) k).getD i 0:=λ k=>by
     induction k with
     | zero =>
      intro i;rw[tV,aJ,mg]
      split<;>exact cq _
     | succ k g =>
      intro i;have up:∀ j i,0<=(mw m (aK m k) k j ((tV m (iM m x) k).set k (iM m x (aK m k)))).getD i 0:=λ j=>by
       induction j with
       | zero =>
        intro i;show 0<=((tV m (iM m x) k).set k (iM m x (aK m k))).getD i 0;rw[aJ,iW]
        split
        ·split
         ·exact Cv x _
         ·exact cq _
        ·rw[<- aJ]; exact g i
       | succ j b =>
        intro i;rw[mw]
        split
        ·rw[UE,aJ,iW]
         split
         ·split
          ·show 0<=(if _>_ then _ else _:Int)
           split
           ·exact b _
           ·exact b _
          ·exact cq _
         ·rw[<- aJ]; exact b i
        ·exact b i
      rw[tV]; exact up 6 i
    have:=key (aE m) i;have:0<=(wv m (iM m x)).getD i 0:=this;omega
   ·omega
  have l:(wv m (iM m x)).getD i 0<=1000000:=(h2 1000000 (by decide)).2 λ w _ _=>VP x w;generalize o:(allM m x).getD i 0=A at *;generalize e:(wv m (iM m x)).getD i 0=C at *;have h2:∀ n:Int,0<=n->(C<=n<->∀ w,kG m w->within w (aK m i)=true->iM m x w<=n):=λ n f=>by rw[<- e]; exact h2 n f
  rcases JG A C with h|h|h
  ·have:=(h2 A a.1).2 ((h1 A a.1 (by omega)).1 (cq _)); omega
  ·exact h
  ·have:=(h1 C c (by omega)).2 ((h2 C c).1 (cq _)); omega
 ·rw[cr (by omega),cr (by omega)]
end
theorem KT:∀ (l:List Xv),(mG fI l 0).1=0->∀ y∈l,Ky y
 | [],_,y,c=>by simp at c
 | x :: l,h,y,c=>by
  have a:mV 0 x=0:=iK λ b=>b (by
   have:=ED (l:=x :: l) (k:=0) (y:=x) (λ z d=>by simp at d) rfl rfl b;rw[this] at h; exact h)
  have f:Ky x:=by
   unfold mV at a
   split at a
   ·rename_i h1; split at a
    ·rename_i h2; exact⟨h1,h2⟩
    ·cases a
   ·cases a
  rcases cJ.1 c with rfl|c
  ·exact f
  ·have e:fI 0 x=(0,true):=by unfold fI; rw[a]; rfl
   rw[mG,e,ak rfl] at h;exact KT l h y c
def NK{x:Xv}(h:fC x=0):Gx x:=by
 unfold fC at h
 split at h
 ·cases h
 ·split at h
  ·cases h
  ·rename_i h2;rw[wD] at h;rw[wD,AR] at h2;have hw:(kj x).all (λ y=>decide (y.args.length<=8))=true:=by
    cases hq:(kj x).all (λ y=>decide (y.args.length<=8)) with
    | true=>rfl
    | false=>exact absurd (.inl hq) h2
   exact λ y a=>⟨KT _ h y a,iI (dS.1 hw y a)⟩
section
variable {m:I6}
def WU:tot z6=0:=rfl
def Xm(hm:I6.Le m 4):∀ x,Gx x->(allM m x).getD 0 0=0:=Xv.ind λ x r j=>by
 obtain⟨c,_⟩:=j.self;have hp:=(gB hm).1;have g:aK m 0=z6:=rfl;have H:∀ k,(dP m x.op (x.args.map (allM m)) k).getD 0 0=0:=λ k=>by
  induction k with
  | zero=>show(List.replicate (aE m) (0:Int)).getD 0 0=0; rw[aJ,mg,ak hp]; rfl
  | succ k d =>
   have i:((x.args.map (allM m)).getD k []).getD 0 0=0:=by
    rw[aJ (l:=x.args.map (allM m)),dD]
    cases hk:x.args[k]? with
    | none=>rfl
    | some y=>exact r y (bf hk) (j.sub y (bf hk))
   rw[dP]
   split
   ·rw[M9,kN hp,mY,g,ak (lu _)];have e:(rk m (nD z6 z6)).toNat=0:=by
     have:nD z6 z6=z6:=I6.ext' λ q f=>by rw[wu f,jB]; omega
     rw[this];have o:rk m z6=0:=KR m 6;rw[o]; rfl
    rw[e,d,i]; rfl
   ·rw[QS,kN hp,d,i]; rfl
 rw[vp,Ie,kN hp,H,g];have n:pO x.op x.u x.v z6 0=0:=by
  unfold pO
  split
  ·rename_i h
   exfalso
   have h2:=c.2;unfold gy at h2;rw[ah (by omega)] at h2
   split at h2
   ·cases h2
   ·have h3:(x.u.l.all iy&&decide (tot x.u>0))=true:=by
     split at h2
     ·omega
     ·exact h2
    rw[aX] at h3;have p:=Bl h3.1;have:x.u=z6:=I6.ext' λ q f=>by
     have a:=within_iff.1 h.2 q f;have b:=(p q f).1;rw[jB] at a ⊢; omega
    have h4:=iI h3.2;rw[this,WU] at h4; omega
  ·rfl
 rw[n];unfold tM
 split
 ·rename_i h;have:=xd c (by omega);rw[ah (by omega)]; rfl
 ·rfl
def Nu(hm:I6.Le m 4){x:Xv}(c:Gx x){p q:Nat}(hp:p<aE m)(g:q<aE m)(h:within (aK m p) (aK m q)=true):(allM m x).getD p 0<=(allM m x).getD q 0:=by
 have f:=PV hm x c;have a:=gC (by decide) (mq (m:=m) x c) p;have b:=gC (by decide) (mq (m:=m) x c) q
 by_cases e:(allM m x).getD q 0<1000000
 ·have h1:=(f q g _ b.1 e).1 (cq _);exact(f p hp _ b.1 e).2 λ w hw d=>h1 w hw (wF d h)
 ·omega
def Xh(m:I6)(T:List Int)(i:Nat):Bool:=decide (∀ p,p<aE m->p≠i->¬ (T.getD p 0>=T.getD i 0/\within (aK m p) (aK m i)=true))
def jW(m:I6)(T:List Int):Nat->List Of
 | 0=>[]
 | i+1=>if 0<i/\Xh m T i=true then jW m T i++[⟨0,aK m i,T.getD i 0⟩] else jW m T i
def P5{T:List Int}{i:Nat}{v:Int}(h:T.getD i 0=v)(hi:i<T.length):T.set i v=T:=by
 apply iC;intro k;rw[iW]
 by_cases a:i=k
 ·subst a; rw[ak rfl,ak hi,getD_some hi,h]
 ·rw[ah a]
theorem Ib{u:I6}{T:List Int}{n:Int}:∀ k,k<=6->(y8 m u T k<n<->-1<n/\∀ q,q<k->u.at' q≠0->T.getD (rk m (ud m u q)).toNat 0<n)
 | 0,_=>⟨λ h=>⟨h,λ q g=>by omega⟩,λ h=>h.1⟩
 | k+1,j=>by
  have i:=Ib (u:=u) (T:=T) (n:=n) k (by omega);rw[y8]
  by_cases f:u.at' k=0
  ·rw[ak f,i];refine yU λ _=>⟨λ b q g h=>?_,λ b q g h=>b q (by omega) h⟩;rcases bw q k with d | d
   ·exact b q d h
   ·obtain rfl:q=k:=by omega
    exact absurd f h
  ·rw[ah f];have e:(if T.getD (rk m (ud m u k)).toNat 0>y8 m u T k then T.getD (rk m (ud m u k)).toNat 0 else y8 m u T k)<n<->y8 m u T k<n/\T.getD (rk m (ud m u k)).toNat 0<n:=by split<;>omega
   rw[e,i];constructor
   ·rintro⟨⟨a,b⟩,c⟩;refine⟨a,λ q g h=>?_⟩;rcases bw q k with d | d
    ·exact b q d h
    ·obtain rfl:q=k:=by omega
     exact c
   ·rintro⟨a,b⟩;exact⟨⟨a,λ q g h=>b q (by omega) h⟩,b k (by omega) f⟩
theorem Kn(hm:I6.Le m 4){x:Xv}(n:Gx x):∀ i,i<=aE m->ow m (allM m x) i=jW m (allM m x) i/\lH m (allM m x) i=allM m x
 | 0,_=>⟨by rw[ow,jW],by rw[lH]⟩
 | i+1,hi=>by
  obtain⟨h1,h2⟩:=Kn hm n i (by omega);have A:=qT m x;have mono:=λ {p q:Nat} hp a h=>Nu (x:=x) hm n (p:=p) (q:=q) hp a h;have b:=gC (by decide) (mq (m:=m) x n) i;have pr:∀ q,q<6->(aK m i).at' q≠0->∃ p,p<aE m/\p≠i/\aK m p=ud m (aK m i) q/\(rk m (ud m (aK m i) q)).toNat=p:=λ q a f=>by
   obtain⟨p,hp,g,o⟩:=zT hm (Ic (ct hm i) a f);refine⟨p,hp,λ e=>?_,g,o⟩;subst e;have:(ud m (aK m p) q).at' q=(aK m p).at' q-1:=by unfold ud; rw[I6.ie _ _ _ _ a a,ak rfl]
   rw[<- g] at this; omega
  have key:(allM m x).getD i 0>y8 m (aK m i) (allM m x) 6<->Xh m (allM m x) i=true:=by
   rw[Xh,bN];show y8 m (aK m i) (allM m x) 6<_<->_;rw[Ib 6 (aO _)];constructor
   ·rintro⟨_,h⟩ p hp y ⟨w,hw⟩;rcases xI (m:=m) (λ q a=>((ct hm p).u q a).1) hw with e|⟨q,a,j,t⟩
    ·have v:=iZ hm p hp; have z:=iZ hm i (by omega);rw[e] at v; omega
    ·obtain⟨r,k,_,c,d⟩:=pr q a j;have:=h q a j;rw[d] at this;have:=mono hp k (by rw[c]; exact t);omega
   ·intro h;refine⟨by omega,λ q a f=>?_⟩;obtain⟨r,k,s,c,d⟩:=pr q a f;rw[d];have:=h r k s;have hw:within (aK m r) (aK m i)=true:=by rw[c]; exact rS a
    exact iK λ B=>this ⟨by omega,hw⟩
  have l : ¬ y8 m (aK m i) (allM m x) 6>(allM m x).getD i 0:=λ h=>by
   have:y8 m (aK m i) (allM m x) 6<(allM m x).getD i 0+1:=(Ib 6 (aO _)).2 ⟨by omega,λ q a f=>by
    obtain⟨r,k,_,c,d⟩:=pr q a f;rw[d];have:=mono k (q:=i) (by omega) (by rw[c]; exact rS a);omega⟩
   omega
  refine⟨?_,?_⟩
  ·rw[ow,jW,h1,h2];simp only[key]
  ·rw[lH,h2,ah l,P5 rfl (by omega)]
def SD(hm:I6.Le m 4){x:Xv}(a:Gx x):mE x m=jW m (allM m x) (aE m):=by
 rw[mE,<- WO hm a,yp,(Kn hm a _ (aO _)).1]
end
def IS{w:af}{x:Xv}{m:I6}(hm:m.l.all iy=true)(hp:pr m.l<=1024)(i:bJ x<=100000)(f:x.In w) :
  CP 194 #[.agg x.cells.toArray,.agg m.vs.toArray] w (λ r w'=>(fC x≠0/\r=.tuple #[.slice none 0 0,iv (fC x)]/\aC w w' [])\/(fC x=0/\∃ g,r=.tuple #[.slice (qs g) (allM m x).length (aE m),iv 0]/\St w w' (Sep [iA (qs g) (aE m) (allM m x)]))):=by
 refine @Gz _ x.u _ _ _ _ _ _ _ ?_;have c:=Bl hm;refine aG x.cells.toArray λ r1 p s1=>s1.aB m.vs.toArray λ r2 q s2=>⟨_,x.u,_,_,_,_,s2.cellsIn 1 rfl,au (AA i (f.av s2.av)) ?_⟩;rintro v k ⟨rfl,c3⟩;have d:=s2.quiet c3;refine⟨_,rfl,?_⟩
 by_cases a:fC x=0
 rotate_left
 ·exact cT (by simpa using a) (.inl ⟨a,rfl,d.av⟩)
 refine cF (by simpa using a) ⟨m,d.cellsIn 0 rfl,au (ig k m) ?_⟩;rintro v n ⟨rfl,c4⟩;have h:=d.quiet c4;rw[hm,ak rfl];refine⟨_,rfl,cF rfl ⟨m,h.cellsIn 0 rfl,au (uI n m) ?_⟩⟩;rintro v o ⟨rfl,c5⟩;have b:=h.quiet c5;have hc:zY m=(aE m:Int):=by rw[zY,ak ⟨hm,hp⟩,(gB c).2.1]
 have e:=(gB c).1;rw[hc];refine⟨_,rfl,cF (aS.2 (by omega)) ⟨_,x.u,_,_,_,_,b.cellsIn 1 rfl,m,b.cellsIn 0 rfl,au (Pw c x (NK a) o (f.av b.av)) ?_⟩⟩;rintro v s ⟨g,rfl,j⟩;exact⟨_,_,_,rfl,.inr ⟨a,g,rfl,AZ b.av j⟩⟩
theorem E3(m:I6)(T:List Int):∀ i,(jW m T i).length<=i
 | 0=>aO _
 | i+1=>by
  have:=E3 m T i;rw[jW]; split
  ·rw[aY,bS]; omega
  ·omega
def AF{w:af}{m:I6}{a:OA}{c:Nat}{T:List Int}(hm:m.l.all iy=true)(hp:pr m.l<=1024)(hT:cP 1 i1 w a T)(lT:T.length=aE m)(bT:Bt 1000000 T)(t0:T.getD 0 0=0) :
  CP 195 #[.slice a T.length c,.agg m.vs.toArray] w (λ r w'=>(40<(jW m T (aE m)).length/\r=.tuple #[.slice none 0 0,iv 3]/\aC w w' [])\/((jW m T (aE m)).length<=40/\∃ a c,r=.tuple #[.slice a (jW m T (aE m)).length c,iv 0]/\St w w' (Sep [tR a c (jW m T (aE m))]))):=by
 refine(p6 rD).2.2.1 ?_;have hl:=Bl hm;obtain⟨Z,Q,hp3⟩:=gB hl;have hc:zY m=(aE m:Int):=by rw[zY,ak ⟨hm,hp⟩,Q]
 have O:D9 m=(List.range (aE m)).map (aK m):=by rw[D9,ah (by omega)]
 refine aG m.vs.toArray λ r1 w1 s1=>⟨m,s1.cellsIn 0 rfl,au (uI w1 m) ?_⟩;rintro v w2 ⟨rfl,c2⟩;have s2:=s1.quiet c2;rw[hc];refine⟨_,rfl,cF (aS.2 (by omega)) (aU (by omega) (aU (by omega) ?_))⟩;have H:∀ {w':af},aC w w' []->∀ {i:Nat},i<aE m->∃ q,a=some q/\w'.cell? (Addr.add q (((i:Nat):Int).toNat*1))=some (iv (T.getD i 0)):=λ hc i hi=>by
  obtain⟨q,d,h⟩:=dA (hT.av hc) (getD_some (T:=T) (i:=i) (by omega));exact⟨q,d,by rw[aD]; exact h⟩
 refine⟨λ n I x=>∃ i:Nat,n=i/\i<=aE m/\x=aE m-i/\I=w2,⟨aE m,0,rfl,by omega,by omega,rfl⟩,?_⟩;rintro I x n ⟨i,rfl,hi,hx,rfl⟩ -
 by_cases g:i<aE m
 ·obtain⟨q,d,f⟩:=H s2.av g;have b:=gC (by decide) bT i;refine aP (by omega) ⟨λ b w4=>b=false/\w4=I,?_,aq d ⟨by omega,by omega,_,f,aU (by omega) (aq d ⟨by omega,by omega,_,f,aU (by omega) ?_⟩)⟩⟩
  ·rintro w4 b ⟨rfl,rfl⟩ -;exact cF rfl (jZ (by omega) rfl)
  ·by_cases N:i=0
   ·subst N;exact cT (by rfl) (aq d ⟨by omega,by omega,_,f,by rw[t0]; rfl,rfl⟩)
   ·exact cF (aS.2 (by omega)) ⟨rfl,rfl⟩
 obtain rfl:i=aE m:=by omega
 refine aU (by omega) ⟨m,s2.cellsIn 0 rfl,au (Mr I m) ?_⟩;rintro v w5 ⟨al,cl,rfl,k5⟩;have s5:St w w5 (Sep [eV al cl (D9 m),aj r1 m.vs.toArray 42,emp]):=s2.and k5;rw[O] at s5 ⊢;have lB:((List.range (aE m)).map (aK m)).length=aE m:=by simp
 rw[lB];have bc:∀ {w':af} {l:List aI} {j:Nat},St w w' (Sep l)->l[j]?=some (eV al cl ((List.range (aE m)).map (aK m)))->∀ {i:Nat},i<aE m->∃ q,al=some q/\aA w' (Addr.add q (((i:Nat):Int).toNat*6)) 0 (aK m i).vs:=λ s e i hi=>by
  obtain⟨q,d,hc⟩:=(St.rd bE (s.out _ e)).at (gM (aK m) hi);exact⟨q,d,by rw[aD]; exact hc⟩
 let B:aI:=eV al cl ((List.range (aE m)).map (aK m));refine⟨_,_,_,rfl,λ a3 l3 c3 n w6 x=>∃ i:Nat,n=i/\1<=i/\i<=aE m/\x=aE m-i/\l3=(jW m T i).length/\St w w6 (Sep [tR a3 c3 (jW m T i),B,aj r1 m.vs.toArray 42,emp]),⟨aE m-1,1,rfl,aO _,by omega,rfl,by rw[jW,ah (by omega),jW]; rfl,?_⟩,?_⟩
 ·rw[jW,ah (by omega),jW]; exact s5.dy
 rintro w6 x a3 l3 c3 n ⟨i,rfl,h1i,hi,hx,rfl,U⟩ -
 by_cases g:i<aE m
 rotate_left
 ·obtain rfl:i=aE m:=by omega
  refine aU (by omega) ?_
  by_cases L:40<(jW m T (aE m)).length
  ·exact aP (by omega) (.inl ⟨L,rfl,U.av⟩)
  ·exact aU (by omega) (.inr ⟨by omega,a3,c3,rfl,U.ay [0]⟩)
 have hal:=E3 m T i;refine aP (by omega) ⟨λ a4 l4 c4 w7=>l4=(jW m T (i+1)).length/\St w w7 (Sep [tR a4 c4 (jW m T (i+1)),B,aj r1 m.vs.toArray 42,emp]),?_,?_⟩
 ·rintro w7 a4 l4 c4 ⟨rfl,s7⟩ -;exact⟨aE m-(i+1),by omega,i+1,cA (by omega),by omega,by omega,rfl,rfl,s7⟩
 let bad:Nat->Prop:=λ p=>p≠i/\(T.getD p 0>=T.getD i 0/\within (aK m p) (aK m i)=true);refine⟨λ b n V x=>∃ p:Nat,n=p/\p<=aE m/\x=aE m-p/\(b=true<->∀ q,q<p->¬ bad q)/\St w V (Sep [tR a3 c3 (jW m T i),B,aj r1 m.vs.toArray 42,emp]),⟨aE m,0,rfl,by omega,by omega,⟨λ _ q d=>by omega,λ _=>rfl⟩,U⟩,?_⟩;rintro V x b n ⟨p,rfl,hp',hx',Y,s8⟩ -;have k:=s8.quiet (aC.drew V [])
 by_cases D:p<aE m
 ·refine aP (by omega) ⟨λ W w9=>(W=true<->∀ q,q<p+1->¬ bad q)/\St w w9 (Sep [tR a3 c3 (jW m T i),B,aj r1 m.vs.toArray 42,emp]),?_,λ J F=>(J=true<->bad p)/\St w F (Sep [tR a3 c3 (jW m T i),B,aj r1 m.vs.toArray 42,emp]),?_,?_⟩
  ·rintro w9 W ⟨M,k⟩ -;exact jZ (by omega) ⟨M,k⟩
  ·rintro F J ⟨h4,E⟩ -
   cases J with
   | true=>exact cT rfl ⟨⟨λ h=>(by cases h),λ h=>absurd (h4.1 rfl) (h p (by omega))⟩,E⟩
   | false =>
    have P : ¬ bad p:=λ h=>by have:=h4.2 h; cases this
    refine cF rfl ⟨Y.trans ⟨λ h q d=>?_,λ h q d=>h q (by omega)⟩,E⟩;rcases bw q p with X | X
    ·exact h q X
    ·obtain rfl:q=p:=by omega
     exact P
  ·by_cases u:p=i
   ·exact cF (by rw[u]; simp) ⟨⟨λ h=>(by cases h),λ h=>absurd u h.1⟩,k⟩
   refine cT (yL.2 (by omega)) ?_;obtain⟨q,d,R⟩:=H k.av D;obtain⟨q',f,o⟩:=H k.av g;refine aq d ⟨by omega,by omega,_,R,aq f ⟨by omega,by omega,_,o,?_⟩⟩
   by_cases t:T.getD p 0>=T.getD i 0
   ·obtain⟨z,hz,S⟩:=bc k (j:=1) rfl D;obtain⟨z',y,A⟩:=bc k (j:=1) rfl g;refine aP t (aq hz ⟨by omega,by omega,_,S,aq y ⟨by omega,by omega,_,A,au (GV _ _ _) ?_⟩⟩);rintro v w11 ⟨rfl,K⟩;exact⟨_,rfl,⟨λ h=>⟨u,t,h⟩,λ h=>h.2.2⟩,k.quiet K⟩
   ·exact aU t ⟨⟨λ h=>(by cases h),λ h=>absurd h.2.1 t⟩,k⟩
 obtain rfl:p=aE m:=by omega
 have C:b=true<->Xh m T i=true:=by
  rw[Y,Xh,bN];exact⟨λ h q d o G=>h q d ⟨o,G⟩,λ h q d G=>h q d G.1 G.2⟩
 refine aU (by omega) ?_
 cases hbb:b with
 | true =>
  have e:jW m T (i+1)=jW m T i++[⟨0,aK m i,T.getD i 0⟩]:=by rw[jW,ak ⟨by omega,C.1 hbb⟩]
  obtain⟨z',y,A⟩:=bc k (j:=1) rfl g;obtain⟨q',f,o⟩:=H k.av g;refine cT rfl (aq y ⟨by omega,by omega,_,A,aq f ⟨by omega,by omega,_,o,?_⟩⟩);rw[e];exact dw Yt Of.len (x:=(⟨0,aK m i,T.getD i 0⟩:Of)) (Of.one _) (k.out 0 rfl) (by omega) (by omega) (λ a' c' w' s'=>⟨rfl,s'⟩) rfl
 | false =>
  have e:jW m T (i+1)=jW m T i:=by rw[jW,ah (λ h=>by have:=C.2 h.2; rw[hbb] at this; cases this)]
  rw[e];exact cF rfl ⟨rfl,s8⟩
def GK{w:af}{x:Xv}{m:I6}(hm:m.l.all iy=true)(hp:pr m.l<=1024)(o:bJ x<=100000)(n:x.In w) :
  CP 147 #[.agg x.cells.toArray,.agg m.vs.toArray] w (λ r w'=>(mX x m≠0/\r=.tuple #[.slice none 0 0,iv (mX x m)]/\aC w w' [])\/(mX x m=0/\(mE x m).length<=40/\∃ a c,r=.tuple #[.slice a (mE x m).length c,iv 0]/\St w w' (Sep [tR a c (mE x m)]))):=by
 refine @Ek _ x.u _ _ _ _ _ _ _ ?_;have j:=Bl hm;refine aG x.cells.toArray λ r1 t s1=>s1.aB m.vs.toArray λ r2 y s2=>⟨_,x.u,_,_,_,_,s2.cellsIn 1 rfl,m,s2.cellsIn 0 rfl,au (IS hm hp o (n.av s2.av)) ?_⟩;rintro v s (⟨d,rfl,c3⟩|⟨d,g,rfl,p⟩)
 ·refine⟨_,_,_,_,rfl,cT (by simpa using d) (.inl ⟨?_,?_,(s2.quiet c3).av⟩)⟩
  ·rw[mX,ak d]; exact d
  ·rw[mX,ak d]
 ·have i:=NK d;have e:St w s (Sep [iA (qs g) (aE m) (allM m x),aj r2 m.vs.toArray 42,aj r1 x.cells.toArray 120,emp]):=s2.and p.single;have k:=SD j i;have f:mX x m=if 40<(mE x m).length then 3 else 0:=by rw[mX,ah (λ h=>h d)]; rfl
  refine⟨_,_,_,_,rfl,cF rfl ⟨m,e.cellsIn 1 rfl,au (AF hm hp (St.rd bV (e.out 0 rfl)) (qT m x) (mq x i) (Xm j x i)) ?_⟩⟩;rw[<- k];rintro v z (⟨b,rfl,c5⟩|⟨b,a,c,rfl,q⟩)
  ·exact⟨_,_,_,_,rfl,.inl ⟨by rw[f,ak b]; decide,by rw[f,ak b],e.av.trans c5 (by simp)⟩⟩
  ·exact⟨_,_,_,_,rfl,.inr ⟨by rw[f,ah (by omega)],b,a,c,rfl,AZ e.av q⟩⟩
def PS{w:af}{q:Addr}{x:Rn}(h:aA w q 0 x.cells):aA w q 0 x.p.vs/\w.cell? (q.add 6)=some (.slice x.xa x.ask.length x.xc)/\w.cell? (q.add 7)=some (.slice x.ga x.got.length x.gc)/\w.cell? (q.add 8)=some (.slice x.ba x.bd.length x.bc):=by
 have g:∀ (j:Nat) (v:Value),x.cells[j]?=some v->w.cell? (q.add j)=some v:=λ j v a=>by
  have:=aM h j v a
  rwa [aL] at this
 refine⟨bM _ 0 λ j v a=>?_,g 6 _ rfl,g 7 _ rfl,g 8 _ rfl⟩;have b:j<6:=(aR.1 a).1;exact aM h j v (by
  match j,b,a with
  | 0,_,a|1,_,a|2,_,a|3,_,a|4,_,a|5,_,a=>simpa[Rn.cells,I6.on,I6.vs] using a)
def EK:j7 prog 85 97 (.agg UG.cells.toArray) 9 120:=j7.mk' underlying85 (by kernel_rfl) rfl (by decide)
abbrev Bo (a:OA) (c:Nat) (l:List Rn):aI:=dK 97 9 Rn.cells a c l
section
variable {w0 w:af} {B:aI} {a:OA} {c:Nat} {l:List Rn}
def KN{r k:Nat}(s:St w0 w (star (Bo (qs r) 0 []) B))(d:cP 9 Rn.cells w a l)(g:l.length<=1000){R:Option Addr->Nat->Nat->af->Prop}(kk:∀ a' c' w',St w0 w' (star (Bo a' c' l) B)->R a' l.length c' w') :
  gi prog (Builtin.append_ #[85,85] 85 #[.slice (qs r) 0 0,.slice a l.length k]) w λ e f=>∃ a l c,e=.slice a l c/\R a l c f :=
 bQ (l2:=l) EK Rn.len Rn.one s d (by simp only[eY]; omega) (by simp only[eY]; omega) λ a' c' w' b=>by
  rw[lC] at b ⊢;exact kk a' c' w' b
end
def Gd{e:I6}{k:Nat}(b:k<6)(h:e.at' k=0):I6.mix (k+1) e z6=I6.mix k e z6:=by
 refine I6.ext' λ j a=>?_;rw[I6.cX _ _ _ _ a,I6.cX _ _ _ _ a,jB]
 by_cases h3:j<k
 ·rw[ak (by omega),ak h3]
 ·rw[ah h3]
  split
  ·obtain rfl:j=k:=by omega
   exact h
  ·rfl
def OO{e:I6}{k:Nat}(b:k<6)(h:e.at' k≠0):I6.mix (k+1) e z6≠z6:=λ a=>by
 have h1:(I6.mix (k+1) e z6).at' k=z6.at' k:=by rw[a]
 rw[I6.cX _ _ _ _ b,ak (by omega),jB] at h1;exact h h1
set_option maxHeartbeats 8000000 in
theorem II{w0 w:af}{B:aI}{C:Ck}(s:St w0 w (Sep [held C.bF,B]))(A:C.Ok)(hS:∀ {w'},St w0 w' B->C.s.In w')(hov:C.ov=false) :
  CP 96 #[.agg C.cells.toArray] w (λ r w'=>∃ J:Ck,J.er=(gZ C).er/\J.s=C.s/\r=.tuple #[.agg J.cells.toArray,iv 0]/\St w0 w' (Sep [held J.bF,B])):=by
 refine(p6 xM).2.1 ?_;have hl:=A.cl; have z:=A.s.bd.l2; have z1:=A.ask; have z2:=A.bd; have z3:=A.dp;have hg:=Ij A;have V:=sup_le A.s.ps;refine s.aB C.cells.toArray λ r1 w1 s1=>s1.aB cH λ r2 w2 s2=>?_;have s2:St w0 w2 (Sep [aj r2 cH 87,aj r1 C.cells.toArray 87,held C.bF,B]):=s2;have rv:∀ {w':af} {L:List aI} {i:Nat},St w0 w' (Sep L)->L[i]?=some (held C.bF)->C.bF w':=λ s e=>s.bC _ e;refine⟨C.ov,s2.ag 1 rfl 18,cF hov ⟨_,_,_,s2.ag 1 rfl 0,au (rX (hS (by first|exact St.gN 1 s2 rfl|exact St.gN 2 s2 rfl|exact St.gN 3 s2 rfl|exact St.gN 4 s2 rfl|exact St.gN 5 s2 rfl|exact St.gN 6 s2 rfl|exact St.gN 7 s2 rfl|exact St.gN 8 s2 rfl|exact St.gN 9 s2 rfl|exact St.gN 10 s2 rfl)).ps) ?_⟩⟩;rintro v w3 ⟨rfl,c3⟩;have s3:=s2.quiet c3;refine⟨_,rfl,s3.aB z6.vs.toArray λ r3 w4 s4=>s4.az 0 rfl (bI C.s.ps).vs rfl (I6.one _) λ w5 s5=>s5.aB #[] λ r4 w6 s6=>?_⟩;have s6:St w0 w6 (star (eV (qs r4) 0 []) (Sep [aj r3 (bI C.s.ps).vs.toArray 42,aj r2 cH 87,aj r1 C.cells.toArray 87,held C.bF,B])):=St.weak s6 (bz.left (dO (n:=0) (sz:=6) rfl (by decide)));have s6':St w0 w6 (Sep [eV (qs r4) 0 [],aj r3 (bI C.s.ps).vs.toArray 42,aj r2 cH 87,aj r1 C.cells.toArray 87,held C.bF,B]):=s6;have h6:C.bF w6:=rv s6' (i:=4) rfl;refine⟨_,_,_,s6'.ag 3 rfl 15,Fc s6 h6.ask (by omega) λ K M w8 s8=>?_⟩;have s8:St w0 w8 (Sep [eV K M C.ask,aj r3 (bI C.s.ps).vs.toArray 42,aj r2 cH 87,aj r1 C.cells.toArray 87,held C.bF,B]):=s8;refine⟨λ a l c w9=>l=(dJ C).length/\St w0 w9 (Sep [eV a c (dJ C),aj r3 (bI C.s.ps).vs.toArray 42,aj r2 cH 87,aj r1 C.cells.toArray 87,held C.bF,B]),?_,?_⟩
 rotate_left
 ·refine⟨_,_,_,s8.ag 3 rfl 8,?_⟩
  by_cases hn:(C.cl.length:Int)>0
  rotate_left
  ·have eg:dJ C=C.ask:=by rw[dJ,ak (by omega)]
   exact aU hn ⟨by rw[eg],by rw[eg]; exact s8⟩
  obtain⟨x,hx⟩:=bx C.cl (C.cl.length-1) (by omega);have hlast:C.cl.getLast? = some x:=by rw[vj]; exact hx
  have hm:=bf hx;have zx:=(A.cz x hm).got;have e1:IntKind.i64.wrap ((C.cl.length:Int)-1)=((C.cl.length-1:Nat):Int):=by rw[cA (by omega)]; omega
  have ep:jy C=fZ C.dp 0 x.got:=by rw[jy,hlast]; rfl
  refine aP hn (s8.aB #[] λ r12 w39 t1=>?_);have t1:St w0 w39 (star (eV (qs r12) 0 []) (Sep [eV K M C.ask,aj r3 (bI C.s.ps).vs.toArray 42,aj r2 cH 87,aj r1 C.cells.toArray 87,held C.bF,B])):=St.weak t1 (bz.left (dO (n:=0) (sz:=6) rfl (by decide)));have h:St w0 w39 (Sep [eV (qs r12) 0 [],eV K M C.ask,aj r3 (bI C.s.ps).vs.toArray 42,aj r2 cH 87,aj r1 C.cells.toArray 87,held C.bF,B]):=t1;have h1:C.bF w39:=rv h (i:=5) rfl;obtain⟨q,hq,hcl⟩:=h1.cl.at hx;have hL:(fZ C.dp 0 x.got).length=x.got.length:=tq _ _ _;have T:∀ k,k<=x.got.length->(mT (fZ C.dp 0 x.got) x.got k).length=x.got.length:=λ k A=>Ak hL (by omega);refine⟨_,_,_,h.ag 4 rfl 8,_,_,_,h.ag 4 rfl 8,aq hq ⟨?_,?_,x.ga,x.got.length,x.gc,?_,Fc t1 (h1.i x hm).got (by omega) λ a67 c67 w40 t2=>?_⟩⟩
  ·rw[e1]; omega
  ·rw[e1]; omega
  ·rw[e1,aD];have:=aM hcl 7 _ rfl
   rwa [aL] at this
  refine⟨λ n w41 m=>∃ k:Nat,n=k/\k<=x.got.length/\m=x.got.length-k/\St w0 w41 (Sep [eV a67 c67 (mT (fZ C.dp 0 x.got) x.got k),eV K M C.ask,aj r3 (bI C.s.ps).vs.toArray 42,aj r2 cH 87,aj r1 C.cells.toArray 87,held C.bF,B]),⟨x.got.length,0,rfl,by omega,by omega,?_⟩,?_⟩
  ·rw[Ct]; exact t2
  rintro w41 m n ⟨k,rfl,hk1,hm1,t3⟩ -
  by_cases O:(k:Int)<(x.got.length:Int)
  ·obtain⟨y,hd⟩:=bx C.dp k (by omega);have hgy:C.dp.getD k false=y:=by rw[aJ,hd]; rfl
   obtain⟨q2,hq2,hcl2⟩:=((rv t3 (i:=5) rfl).dp).at hd;obtain⟨u,hu⟩:=bx x.got k (by omega);have hp:(fZ C.dp 0 x.got)[k]?=some (if y then z6 else u):=by rw[xw,hu,aL,hgy]; rfl
   have Z:∀ v,(fZ C.dp 0 x.got)[k]?=some v->(mT (fZ C.dp 0 x.got) x.got k).set k v=mT (fZ C.dp 0 x.got) x.got (k+1):=λ v hv=>Gc hL hv;have Y:y=false->mT (fZ C.dp 0 x.got) x.got k=mT (fZ C.dp 0 x.got) x.got (k+1):=λ hy=>Cr hL (by omega) (by rw[hp,hu,hy]; rfl);refine aP O ⟨λ w42=>St w0 w42 (Sep [eV a67 c67 (mT (fZ C.dp 0 x.got) x.got (k+1)),eV K M C.ask,aj r3 (bI C.s.ps).vs.toArray 42,aj r2 cH 87,aj r1 C.cells.toArray 87,held C.bF,B]),λ w42 t4 _=>(jZ (by omega) t4),_,_,_,t3.ag 4 rfl 17,aq hq2 ⟨by omega,by omega,y,by rw[aD]; exact hcl2.1,?_⟩⟩
   cases y with
   | true =>
    obtain⟨g,rfl⟩:=St.iS (t3.out 0 rfl) (by rw[T k (by omega)]; omega);refine cT rfl (aq rfl ⟨by omega,by omega,?_⟩);rw[aD];refine St.su bE (x:=z6) z6.one (t3.out 0 rfl) (i:=k) (by rw[T k (by omega)]; omega) λ w43 t4=>?_;rw[Z z6 hp] at t4; exact t4
   | false=>exact cF rfl (by rw[<- Y rfl]; exact t3)
  obtain rfl:x.got.length=k:=by omega
  have e2:mT (fZ C.dp 0 x.got) x.got x.got.length=jy C:=by rw[Cq hL,ep]
  have e3:(jy C).length=x.got.length:=by rw[ep,hL]
  rw[e2] at t3;obtain⟨hp1,hp2⟩:=Eg A (by omega);have eg:dJ C=UF C.o.und (bI C.s.ps) (jy C) C.ask:=by rw[dJ,ah (by omega)]
  rw[<- e3];refine aU (by rw[e3]; exact O) ⟨_,t3.ag 4 rfl 6,_,t3.cellsIn 2 rfl,_,_,_,t3.ag 4 rfl 15,au (IE (by have:=A.o; unfold Po.ok at this; omega) V (St.rd bE (t3.out 0 rfl)) (rv t3 (i:=5) rfl).ask (by rw[hp1,z1]) (by omega) hp2 A.asked) ?_⟩;rintro v w44 ⟨a,c,rfl,k4⟩;have t4:=t3.and k4;refine⟨_,_,_,_,rfl,by rw[eg],?_⟩;rw[eg];exact St.ay (l:=[_,_,_,_,_,_,_,_]) t4 [0,3,4,5,6,7]
 rintro w9 a28 l28 d ⟨rfl,s9⟩ -;let x:Rn:={ ME C with xa:=C.xa,xc:=C.xc,ga:=a28,gc:=d,ba:=C.ya,bc:=C.yc };have hxl:(C.cl++[x]).length=C.cl.length+1:=by simp
 refine⟨λ w10=>∃ I c8,St w0 w10 (Sep [Bo I c8 (C.cl++[x]),aj r1 ({ C with cl:=C.cl++[x],ka:=I,kc:=c8 }:Ck).cells.toArray 87,eV a28 d (dJ C),aj r3 (bI C.s.ps).vs.toArray 42,aj r2 cH 87,held C.bF,B]),?_,?_⟩
 rotate_left
 ·have t:=s9.quiet (aC.drew w9 []);refine⟨_,_,_,t.ag 3 rfl 8,C.p,t.aQ 3 9 rfl rfl,_,_,_,t.ag 3 rfl 15,_,_,_,t.ag 3 rfl 16,⟨?_,?_⟩⟩
  ·refine t.aB #[] λ r7 w25 t1=>?_;have t1:St w0 w25 (star (Bo (qs r7) 0 []) (Sep [eV a28 d (dJ C),aj r3 (bI C.s.ps).vs.toArray 42,aj r2 cH 87,aj r1 C.cells.toArray 87,held C.bF,B])):=St.weak t1 (bz.left (dO (n:=0) (sz:=9) rfl (by decide)));have h:St w0 w25 (Sep [Bo (qs r7) 0 [],eV a28 d (dJ C),aj r3 (bI C.s.ps).vs.toArray 42,aj r2 cH 87,aj r1 C.cells.toArray 87,held C.bF,B]):=t1;refine⟨h.ag 4 rfl 16,h.ag 4 rfl 15,h.aQ 4 9 rfl rfl,h.ag 4 rfl 8,⟨?_,?_⟩⟩
   ·refine KN t1 (rv h (i:=5) rfl).cl (by omega) λ a57 c57 w26 t2=>?_;have t2:St w0 w26 (Sep [Bo a57 c57 C.cl,eV a28 d (dJ C),aj r3 (bI C.s.ps).vs.toArray 42,aj r2 cH 87,aj r1 C.cells.toArray 87,held C.bF,B]):=t2;refine⟨t2.ag 4 rfl 16,t2.ag 4 rfl 15,t2.aQ 4 9 rfl rfl,t2.aB x.cells.toArray λ r8 w27 t3=>?_⟩;refine bQ (l:=C.cl) (l2:=[x]) EK Rn.len Rn.one (t3.out 1 rfl) (jK (t3.cellsIn 0 rfl) rfl) (by simp only[bS]; omega) (by simp only[bS]; omega) λ a58 c58 w28 t4=>?_;have t4:=t4.back (i:=1) (by show 1<8; decide);refine St.aN (l:=[_,_,_,_,_,_,_,_]) t4 5 rfl (j:=8) (show 8<19 by decide) rfl λ w29 t5=>⟨a58,c58,?_⟩;exact St.ay (l:=[_,_,_,_,_,_,_,_]) t5 [1,5,2,3,4,6,7]
   ·refine h.aB x.cells.toArray λ r9 w30 t3=>⟨t3.ag 5 rfl 8,?_⟩;refine KN (t3.out 1 rfl) (rv t3 (i:=6) rfl).cl (by omega) λ a59 c59 w31 t4=>?_;have t4:St w0 w31 (Sep [Bo a59 c59 C.cl,aj r9 x.cells.toArray 97,eV a28 d (dJ C),aj r3 (bI C.s.ps).vs.toArray 42,aj r2 cH 87,aj r1 C.cells.toArray 87,held C.bF,B]):=t4;refine bQ (l:=C.cl) (l2:=[x]) EK Rn.len Rn.one t4 (jK (t4.cellsIn 1 rfl) rfl) (by simp only[bS]; omega) (by simp only[bS]; omega) λ W X w32 t5=>?_;refine St.aN (l:=[_,_,_,_,_,_,_,_]) t5 5 rfl (j:=8) (show 8<19 by decide) rfl λ w33 t6=>⟨W,X,?_⟩;exact St.ay (l:=[_,_,_,_,_,_,_,_]) t6 [0,5,2,3,4,6,7]
  ·refine t.aB x.cells.toArray λ r10 w34 t1=>⟨t1.ag 4 rfl 8,t1.aB #[] λ r11 w35 t2=>?_⟩;have t2:St w0 w35 (star (Bo (qs r11) 0 []) (Sep [aj r10 x.cells.toArray 97,eV a28 d (dJ C),aj r3 (bI C.s.ps).vs.toArray 42,aj r2 cH 87,aj r1 C.cells.toArray 87,held C.bF,B])):=St.weak t2 (bz.left (dO (n:=0) (sz:=9) rfl (by decide)));have t2':St w0 w35 (Sep [Bo (qs r11) 0 [],aj r10 x.cells.toArray 97,eV a28 d (dJ C),aj r3 (bI C.s.ps).vs.toArray 42,aj r2 cH 87,aj r1 C.cells.toArray 87,held C.bF,B]):=t2;refine⟨t2'.ag 5 rfl 8,KN t2 (rv t2' (i:=6) rfl).cl (by omega) λ a61 c61 w36 t4=>?_⟩;have t4:St w0 w36 (Sep [Bo a61 c61 C.cl,aj r10 x.cells.toArray 97,eV a28 d (dJ C),aj r3 (bI C.s.ps).vs.toArray 42,aj r2 cH 87,aj r1 C.cells.toArray 87,held C.bF,B]):=t4;refine bQ (l:=C.cl) (l2:=[x]) EK Rn.len Rn.one t4 (jK (t4.cellsIn 1 rfl) rfl) (by simp only[bS]; omega) (by simp only[bS]; omega) λ W X w37 t5=>?_;refine St.aN (l:=[_,_,_,_,_,_,_,_]) t5 5 rfl (j:=8) (show 8<19 by decide) rfl λ w38 t6=>⟨W,X,?_⟩;exact St.ay (l:=[_,_,_,_,_,_,_,_]) t6 [0,5,2,3,4,6,7]
 rintro w10 ⟨I,c8,P⟩ -;have hk8:(C.cl++[x]).length<=c8:=(o8 (P.out 0 rfl).rowOf).1;let D:Ck:={ C with cl:=C.cl++[x],ka:=I,kc:=c8 };have P:St w0 w10 (Sep [Bo I c8 (C.cl++[x]),aj r1 D.cells.toArray 87,eV a28 d (dJ C),aj r3 (bI C.s.ps).vs.toArray 42,aj r2 cH 87,held C.bF,B]):=P;refine P.aB z6.vs.toArray λ r5 w11 s11=>?_;have hmx:I6.mix 0 (lG C) z6=z6:=rfl;refine⟨λ b n w12 m=>∃ k:Nat,n=k/\k<=6/\m=6-k/\b=decide (I6.mix k (lG C) z6≠z6)/\St w0 w12 (Sep [aj r5 (I6.mix k (lG C) z6).vs.toArray 42,Bo I c8 (C.cl++[x]),aj r1 D.cells.toArray 87,eV a28 d (dJ C),aj r3 (bI C.s.ps).vs.toArray 42,aj r2 cH 87,held C.bF,B]),⟨6,0,rfl,by omega,by omega,by rw[hmx]; simp,s11⟩,?_⟩;rintro w12 m1 b n ⟨k,rfl,hk6,hm1,rfl,F⟩ -
 by_cases O:(k:Int)<6
 ·have f:k<6:=by omega
  have N:(lG C).at' k=if tU (dJ C) k>(bI C.s.ps).at' k then tU (dJ C) k-(bI C.s.ps).at' k else 0:=by
   have:(lG C).at' k=if (fy (dJ C)).at' k>(bI C.s.ps).at' k then (fy (dJ C)).at' k-(bI C.s.ps).at' k else 0:=I6.iG _ _ _ _ f
   rw[this,fy,I6.rP _ _ f]
  have hsk:=V k f;refine aP O ⟨λ b w13=>b=decide (I6.mix (k+1) (lG C) z6≠z6)/\St w0 w13 (Sep [aj r5 (I6.mix (k+1) (lG C) z6).vs.toArray 42,Bo I c8 (C.cl++[x]),aj r1 D.cells.toArray 87,eV a28 d (dJ C),aj r3 (bI C.s.ps).vs.toArray 42,aj r2 cH 87,held C.bF,B]),?_,?_⟩
  ·rintro w13 b ⟨rfl,s13⟩ -;exact⟨6-(k+1),by omega,k+1,inc (by decide) f,by omega,rfl,rfl,s13⟩
  have bd:∀ j,0<=tU ((dJ C).take j) k/\tU ((dJ C).take j) k<=4000:=λ j=>by
   have:=tD (B:=4) (l:=(dJ C).take j) (λ u hu=>hg.2 u (eX hu)) k f;have h2:((dJ C).take j).length<=1000:=by rw[di]; omega
   omega
  refine⟨λ acc n w14 m=>∃ j:Nat,n=j/\j<=(dJ C).length/\m=(dJ C).length-j/\acc=tU ((dJ C).take j) k/\St w0 w14 (Sep [aj r5 (I6.mix k (lG C) z6).vs.toArray 42,Bo I c8 (C.cl++[x]),aj r1 D.cells.toArray 87,eV a28 d (dJ C),aj r3 (bI C.s.ps).vs.toArray 42,aj r2 cH 87,held C.bF,B]),⟨(dJ C).length,0,rfl,by omega,by omega,rfl,F⟩,?_⟩;rintro w14 m3 acc n ⟨j,rfl,hj,hm3,rfl,G⟩ -
  by_cases U:(j:Int)<((dJ C).length:Int)
  ·obtain⟨y,hy⟩:=bx ((dJ C)) j (by omega);obtain⟨q,hq,hc⟩:=H6 (St.rd bE (G.out 3 rfl)) hy (aC.refl _ _) k f;have hy4:=hg.2 y (bf hy) k f;have b1:=bd j;have e1:tU ((dJ C).take (j+1)) k=tU ((dJ C).take j) k+y.at' k:=by rw[aH hy,CV]
   refine aP U (aq hq ⟨by omega,by omega,by omega,by omega,_,hc,(dJ C).length-(j+1),by omega,j+1,cA (by omega),by omega,rfl,?_,G⟩);rw[e1,cA (by omega)]
  obtain rfl:j=(dJ C).length:=by omega
  have b1:=bd (dJ C).length;rw[br] at b1 ⊢;refine aU U ⟨by omega,by omega,(bI C.s.ps).at' k,by rw[dM,aF G 4 rfl f],?_⟩
  by_cases g:tU (dJ C) k>(bI C.s.ps).at' k
  ·refine aP g ⟨by omega,by omega,(bI C.s.ps).at' k,by rw[dM,aF G 4 rfl f],by omega,by omega,?_⟩;rw[ak g] at N;rw[dM,cA (by omega),<- N];refine G.aN 0 rfl f rfl λ w15 s15=>⟨(dT (OO f (by omega))).symm,?_⟩;rw[I6.gD _ _ _ f] at s15;exact s15
  ·rw[ah g] at N;refine aU g ⟨by rw[Gd f N],?_⟩;rw[Gd f N]; exact G
 obtain rfl:k=6:=by omega
 rw[I6.mD] at F ⊢;refine cF (by simp) ⟨_,_,_,_,F.aQ 2 4 rfl rfl,C.p,F.aQ 2 9 rfl rfl,lG C,F.cellsIn 0 rfl,au (Mu _ A.o A.p (lG C)) ?_⟩;rintro v w16 ⟨rfl,c16⟩;have s16:=F.quiet c16;refine⟨(kz C).1,(kz C).2,rfl,s16.aB z6.vs.toArray λ r6 w17 s17=>s17.az 0 rfl (kz C).1.vs rfl (I6.one _) λ w18 Q=>?_⟩;let E:Ck:={ D with ov:=eJ C,p:=if eJ C then C.p else (kz C).1 };refine⟨λ R=>St w0 R (Sep [aj r6 (kz C).1.vs.toArray 57,aj r5 (lG C).vs.toArray 42,Bo I c8 (C.cl++[x]),aj r1 E.cells.toArray 87,eV a28 d (dJ C),aj r3 (bI C.s.ps).vs.toArray 42,aj r2 cH 87,held C.bF,B]),?_,?_⟩
 ·rintro R s19 -;have s20:St w0 R (Sep [Bo I c8 (C.cl++[x]),eV a28 d (dJ C),held C.bF,aj r1 E.cells.toArray 87,aj r2 cH 87,B]):=s19.ay [2,4,7,3,6,8];have s21:=St.fX s20 (bn Rn.len) (bn bE) (S:=λ w=>cP 9 Rn.cells w I (C.cl++[x])/\cP 6 I6.vs w a28 (dJ C)) λ w h1 h2=>⟨h1,h2⟩;have H:St w0 R (Sep [held E.bF,aj r1 E.cells.toArray 87,aj r2 cH 87,B]):=St.fX s21 (aW _) (aW _) λ w h1 h2=>(⟨h2.ask,h2.bd,h2.dp,h1.1,λ y hy=>(aV.1 hy).elim (h2.i y) λ e=>by rw[bp.1 e]; exact⟨h2.ask,h1.2,h2.bd⟩,hk8⟩:E.bF w);refine Ex8<|Ex8<|⟨_,_,_,E.p,Ex8 ⟨_,_,H.cellsIn 1 rfl,au (wg (St.pk (l:=[_]) H) (by show C.dp.length<=1000; omega)) ?_⟩⟩;rintro v w20 ⟨J,eC,eS,rfl,s23⟩;have s24:St w0 w20 (Sep [held J.bF,aj r1 E.cells.toArray 87,aj r2 cH 87,B]):=St.Y0 (l:=[_]) s23;refine Ex8<|Ex8<|⟨_,_,_,J.p,Ex8 ⟨_,_,rfl,s24.az 2 rfl J.cells rfl J.one λ w21 s25=>(Ex8<|Ex8<|⟨_,_,_,J.p,Ex8 ⟨_,_,s25.cellsIn 2 rfl,J,?_,eS,rfl,s25.ay [0,3]⟩⟩)⟩⟩;rw[eC];simp[E,D,gZ,hJ,Ck.er,Rn.er,x,ME]
 refine⟨λ b w22=>b=eJ C/\St w0 w22 (Sep [aj r6 (kz C).1.vs.toArray 57,aj r5 (lG C).vs.toArray 42,Bo I c8 (C.cl++[x]),aj r1 D.cells.toArray 87,eV a28 d (dJ C),aj r3 (bI C.s.ps).vs.toArray 42,aj r2 cH 87,held C.bF,B]),?_,?_⟩
 ·rintro w22 b ⟨rfl,H⟩ -
  cases hla:eJ C with
  | true =>
   refine cT rfl (St.aN H 3 rfl (j:=18) (show 18<19 by decide) rfl λ w23 s23=>?_);have N:E.cells.toArray=({ D with ov:=true }:Ck).cells.toArray:=by simp only[E,hla,pG]; rfl
   rw[N]; exact s23
  | false =>
   refine cF rfl ⟨(kz C).1,H.cellsIn 0 rfl,H.jO 3 9 rfl ({ D with p:=(kz C).1 }:Ck).cells.toArray (show 15<=19 by decide) (I6.one _) rfl λ w24 s24=>?_⟩;have N:E.cells.toArray=({ D with p:=(kz C).1 }:Ck).cells.toArray:=by
    have h1:E={ D with p:=(kz C).1 }:=by
     simp only[E,hla];simp[D,hov]
    rw[h1]
   rw[N]; exact s24
 by_cases g1:lG C=z6
 ·exact cT (by simp[g1]) ⟨by rw[eJ,dT g1,sU],Q⟩
 refine cF (by simp[g1]) ⟨_,_,_,Q.ag 3 rfl 8,?_⟩
 by_cases g2:C.cl.length+1>=30
 ·exact aP (by show(((C.cl++[x]).length:Nat):Int)>=30; omega) ⟨by rw[eJ,dT g2,sU,yT],Q⟩
 exact aU (by show ¬ (((C.cl++[x]).length:Nat):Int)>=30; omega) ⟨by rw[eJ,dF g1,dF g2,nJ,nJ],Q⟩
section
variable {w0 w:af} {S:Se} {o:Po} {D:Ck} {B:aI}
def P1{M:List aI}(s:St w0 w (Sep (held D.bF :: M)))(d:D.Ok)(c:∀ {w'},St w0 w' (Sep M)->D.s.In w'){k:Nat}{y:Br}(e:D.s.bd[k]?=some y)(u:I6) :
  CP 95 #[.agg D.cells.toArray,iv k,.agg u.vs.toArray] w (λ r w'=>∃ a:Ck,a.er=(if gX D k y u=0 then oK D k u else D).er/\a.s=D.s/\(gX D k y u≠0->a=D)/\r=.tuple #[.agg a.cells.toArray,iv (gX D k y u)]/\St w0 w' (Sep (held a.bF :: M))):=by
 refine au (Px (St.pk (l:=[_]) s) d c e u) ?_;rintro v w' ⟨a,h1,h2,h3,rfl,b⟩;exact⟨_,rfl,a,h1,h2,h3,rfl,St.Y0 (l:=[_]) b⟩
def I4{M:List aI}(s:St w0 w (Sep (held D.bF :: M)))(e:D.Ok)(d:∀ {w'},St w0 w' (Sep M)->D.s.In w')(b:D.ov=false) :
  CP 96 #[.agg D.cells.toArray] w (λ r w'=>∃ a:Ck,a.er=(gZ D).er/\a.s=D.s/\r=.tuple #[.agg a.cells.toArray,iv 0]/\St w0 w' (Sep (held a.bF :: M))):=by
 refine au (II (St.pk (l:=[_]) s) e d b) ?_;rintro v w' ⟨a,h1,h2,rfl,c⟩;exact⟨_,rfl,a,h1,h2,rfl,St.Y0 (l:=[_]) c⟩
end

import Derived.Test.YtmhhlijfepaphaaGreatDoorH13
set_option linter.all false
set_option maxRecDepth 100000
set_option maxHeartbeats 4000000
namespace Go.Proofs.YtmhhlijfepaphaaGreatDoor
open Go Go.Vc Go.Vt _root_.Go.Proofs.Tryz
def tZ:=zl (And.intro (many xP [en func199 [] [],en func200 [] [],en func201 [] [(122,[(7,.s (.int .i64)),(8,.s (.int .i64))])],en func202 [] [(58,[(3,.s .slice),(4,.s (.int .i64))]),(250,[(6,.s (.int .i64))]),(64074,[(7,.s .bool),(8,.s (.int .i64))]),(4100754,[(7,.s .bool),(9,.s (.int .i64))]),(524896550,[(7,.s .bool),(11,.s (.int .i64))]),(2099586201,[(7,.s .bool)]),(8398344804,[(99,.s .bool)])],en func143 [] [(6,[(17,.s .bool)]),(126,[(46,.s .bool)]),(254,[(57,.s .bool)])],en func284 [] [(58,[(4,.s (.int .i64))]),(3730,[(5,.s (.int .i64))])],en func203 [] [(58,[(10,.s (.int .i64))]),(1865,[(40,.s .bool)])],en func204 [] [(122,[(11,.s (.int .i64))]),(3912,[]),(15648,[(48,.s .bool)])],en func144 [] [(6,[(19,.s .bool)]),(14,[(29,.s .bool)]),(506,[(11,.s (.int .i64))]),(2042,[(13,.s (.int .i64))]),(8169,[])],en func140 [] [(58,[(4,.s (.int .i64))]),(232,[(12,.s .bool)])],en func206 [] [(15,[(6,.s (.int .i64))])]] (by conv=>lhs;reduce) (by kernel_rfl) id) (many xP [en func205 [] [(26,[(3,.s (.int .i64))]),(420,[(17,.s .bool)])],en func145 [] [(6,[(16,.s .bool)]),(58,[(8,.s (.int .i64))]),(233,[])],en func76 [] [(6,[(40,.s .bool)])]] (by conv=>lhs;reduce) (by kernel_rfl) id)) λx=>by
 dsimp only[qq,qm,qk,qj,qy,qA,qB,GH,uv,en,FG,wrap,dc,dn,DH,gU,ID,U.I,U.B,U.S,U.N,U.A,U.O,U.W,U.V,U.L,U.U6,U.C,U.M,U.F,U.E,HV,HA,GM,zS,jU,gJ,vZ,vI,TJ,Nat.reduceSub,Nat.reduceAdd,Int.reduceOfNat,Int.reduceNeg,UInt8.reduceOfNat] at x
 exact x
end Go.Proofs.YtmhhlijfepaphaaGreatDoor
namespace Go.Proofs.YtmhhlijfepaphaaGreatDoor
open Go Go.Vc _root_.Go.Proofs.Tryz
def W1{N:Nat}{s:Qs}{x:Int}{h:Nat->Bool}{m:Nat}(a:m<N)(hc:h m=true/\(qJ x h m s).v m<x):(nq (qJ x h m s).v N).set m x=nq (qJ x h (m+1) s).v N:=by
 have e:qJ x h (m+1) s=⟨vT (qJ x h m s).v m x,false⟩:=by show(if _ then _ else _)=_;rw[ag hc]
 rw[e];exact CX _ _ _ _
def MX(l:List Ch):(zH l).length=l.length+1:=by simp[zH]
def MW(l:List Ch){k:Nat}(a:k<l.length+1):(zH l)[k]?=some (wQ l k):=by
 unfold wQ;rw[au,gE (by rw[MX];exact a)];rfl
def UX{l:List Ch}(b:∀c∈l,c.Ok){k:Nat}(a:k<l.length+1):I6.Le (wQ l k) 4:=by
 match k,a with
 |0,_=>exact OV (by omega)
 |k+1,a=>
  rw[yz l (by omega),au,gE (by omega)];exact(b _ (jD _)).w
def abp{l:List Ch}(b:∀c∈l,c.Ok){i k:Nat}(hi:i<l.length)(d:k<l.length+1):-24000000<=cQ l i k/\cQ l i k<=24000000:=by
 unfold cQ;have a:(l.getD i tI).Ok:=by rw[au,gE hi];exact b _ (jD hi)
 have e:=nh a.p a.w;have f:=nh a.p (UX b d);omega
set_option maxHeartbeats 2000000 in
theorem CD{w:ah}{a:OA}{c:Nat}{l:List Ch}(hr:zO w a l)(hl:l.length<=100)(ho:∀c∈l,c.Ok):
  CP 202 #[.slice a l.length c] w (λr o=>r=.bool (oK l)/\aZ w o []):=by
 refine tZ.1.2.2.2.1 ?_;rw[<-RZ ho];refine bE z6.vs.toArray λr1 w1 s1=>?_;have s1:St w w1 (Sep [kO (qs r1) 1 [z6],emp]):=St.weak s1 (dU.left (ic (n:=1) (sz:=6) rfl (by decide)));refine⟨λW l2 c2 i w2 m=>∃k:Nat,i=k/\k<=l.length/\m=l.length-k/\l2=(z6::(l.take k).map Ch.want).length/\St w w2 (Sep [kO W c2 (z6::(l.take k).map Ch.want),emp]),⟨l.length,0,rfl,by omega,by omega,rfl,s1⟩,?_⟩;rintro w2 m W l2 c2 i ⟨k,rfl,Z,hm,rfl,V⟩-
 by_cases hlt:(k:Int)<(l.length:Int)
 .obtain⟨y,b⟩:=dX l k (by omega);obtain⟨p,g,t⟩:=(hr.aK V.aK).at b;refine di hlt (av g ⟨by omega,by omega,y.want,rR t,V.aY y.want.vs.toArray λq s e=>?_⟩);have d:(z6::(l.take k).map Ch.want).length<=101:=by simp;omega
  refine dW (l2:=[y.want]) CH fU I6.one (e.out 1 rfl) (nJ (e.cellsIn 0 rfl) rfl) (by simp only[aG];omega) (by simp only[aG];omega) λh j u G=>?_;have G:=G.back (i:=1) (by show 1<3;decide);have f:(z6::(l.take k).map Ch.want)++[y.want]=z6::(l.take (k+1)).map Ch.want:=by rw[bJ b,aS];rfl
  rw[f] at G⊢;exact mS (by omega) ⟨rfl,G.aM [1,2]⟩
 obtain rfl:k=l.length:=by omega
 rw[aH] at V⊢;have V:St w w2 (Sep [kO W c2 (zH l),emp]):=V;have hN:(z6::l.map Ch.want).length=l.length+1:=by simp
 rw[hN];refine dz hlt (iD (x:=0) KZ gm rfl V (n:=l.length+1) (by omega) (by omega) λg w5 c5 s5=>?_);let M:Qs->List bP:=λs=>[oQ (qs g) (l.length+1) (nq s.v (l.length+1)),kO W c2 (zH l),emp];have s5:St w w5 (Sep (M ⟨λ_=>0,true⟩)):=by
  have e:List.replicate (l.length+1) (0:Int)=nq (λ_=>0) (l.length+1):=by
   apply aX;intro j
   by_cases f:j<l.length+1
   .rw[Ad _ f,cM,ag f]
   rw[aJ (by simp;omega),aJ (by rw[mJ];omega)]
  rw[e] at s5;exact s5
 have rdw:∀{s:Qs} {o},St w o (Sep (M s))->∀k,k<l.length+1->∃q,W=some q/\aU o (Addr.add q (k*6)) 0 (wQ l k).vs:=λs k Z=>(St.rd fU (s.out 1 rfl)).at (MW l Z);have E:∀{s:Qs} {o},St w o (Sep (M s))->∀k,k<l.length+1->o.cell? (Addr.add ⟨g,0,none⟩ (k*1))=some (iv (s.v k)):=λs k Z=>by
  obtain⟨q,O,u⟩:=iW (St.rd gm (s.out 0 rfl)) (Ad _ Z)
  cases O;exact u
 have rdl:∀{o},aZ w o []->∀i,i<l.length->∃q,a=some q/\aU o (Addr.add q (i*12)) 0 (l.getD i tI).cells:=λu i hi=>by
  have b:l[i]?=some (l.getD i tI):=by rw[au,gE hi];rfl
  exact(hr.aK u).at b
 have okl:∀i,i<l.length->(l.getD i tI).Ok:=λi hi=>by rw[au,gE hi];exact ho _ (jD hi)
 have hnN:l.length*(l.length+1)<=10100:=bp (Nat.mul_le_mul hl (show l.length+1<=101 by omega)) (by decide);generalize hP:l.length*(l.length+1)=P at hnN;let bd:Nat->Qs->Prop:=λT s=>∀j,j<l.length+1->0<=s.v j/\s.v j<=(T:Int)*24000000;refine⟨λi w6 m=>∃(r T:Nat) (s:Qs),i=r/\r<=l.length+2/\m=l.length+2-r/\(T=r*P/\bd T s/\RY l=qF (cQ l) (hQ l) l.length (l.length+1) (l.length+2-r) s)/\St w w6 (Sep (M s)),⟨l.length+2,0,0,⟨λ_=>0,true⟩,rfl,by omega,by omega,⟨by simp,λj _=>⟨bR _,by simp⟩,rfl⟩,s5⟩,?_⟩;rintro w6 m3 i ⟨r,T,s,rfl,hrr,hm3,⟨hT,hbd,O⟩,s6⟩-
 by_cases I:(r:Int)<=((l.length+1:Nat):Int)
 rotate_left
 .obtain rfl:r=l.length+2:=by omega
  refine dz I ⟨?_,s6.aK⟩;rw[O,ot];rfl
 have hTb:T<=101*10100:=by rw[hT];exact Nat.mul_le_mul (by omega) hnN
 let t0:Qs:={s with calm:=true};have s6:St w w6 (Sep (M t0)):=s6;refine di I ⟨λb i w7 m=>∃(n S:Nat),i=n/\n<=l.length/\m=l.length-n/\(S=T+n*(l.length+1)/\bd S (qI (cQ l) (hQ l) (l.length+1) n t0)/\b=(qI (cQ l) (hQ l) (l.length+1) n t0).calm)/\St w w7 (Sep (M (qI (cQ l) (hQ l) (l.length+1) n t0))),⟨l.length,0,T,rfl,by omega,by omega,⟨by omega,hbd,rfl⟩,s6⟩,?_⟩;rintro w7 m5 b i ⟨n,S,rfl,hn,hm5,⟨X,y,rfl⟩,s7⟩-
 by_cases J:(n:Int)<(l.length:Int)
 rotate_left
 .obtain rfl:n=l.length:=by omega
  have d:qF (cQ l) (hQ l) l.length (l.length+1) (l.length+2-r) s=if (qI (cQ l) (hQ l) (l.length+1) l.length t0).calm=true then true else qF (cQ l) (hQ l) l.length (l.length+1) (l.length+2-(r+1)) (qI (cQ l) (hQ l) (l.length+1) l.length t0):=by
   rw[show l.length+2-r=(l.length+2-(r+1))+1 by omega];rfl
  refine dz J ?_;rw[d] at O
  cases u:(qI (cQ l) (hQ l) (l.length+1) l.length t0).calm with
  |true=>exact cT rfl ⟨by rw[O,ag u],s7.aK⟩
  |false=>
   rw[af (by rw[u];decide)] at O;exact cF rfl ⟨l.length+2-(r+1),by omega,r+1,S,_,gC (by omega),by omega,rfl,⟨by rw[X,hT,hP,cH,Nat.one_mul],y,O⟩,s7⟩
 have D:n<l.length:=by omega
 have hnb:n*(l.length+1)+(l.length+1)<=P:=by
  rw[<-hP];have:=dZ (l.length+1) (show n+1<=l.length by omega);rw[cH] at this;omega
 generalize ht1:qI (cQ l) (hQ l) (l.length+1) n t0=t1 at y s7;refine di J ⟨λb i w8 m=>∃(k p:Nat),i=k/\k<=l.length+1/\m=l.length+1-k/\(p=S+k/\bd p (qK (cQ l) (hQ l) (l.length+1) n k t1)/\b=(qK (cQ l) (hQ l) (l.length+1) n k t1).calm)/\St w w8 (Sep (M (qK (cQ l) (hQ l) (l.length+1) n k t1))),⟨l.length+1,0,S,rfl,by omega,by omega,⟨by omega,y,rfl⟩,s7⟩,?_⟩;rintro w8 m7 b i ⟨k,p,rfl,Z,hm7,⟨hT2,d,rfl⟩,s8⟩-
 by_cases K:(k:Int)<((l.length+1:Nat):Int)
 rotate_left
 .obtain rfl:k=l.length+1:=by omega
  have e:qK (cQ l) (hQ l) (l.length+1) n (l.length+1) t1=qI (cQ l) (hQ l) (l.length+1) (n+1) t0:=by rw[<-ht1];rfl
  rw[e] at d s8⊢;exact dz K ⟨l.length-(n+1),by omega,n+1,p,gC (by omega),by omega,rfl,⟨by rw[hT2,X,cH];omega,d,rfl⟩,s8⟩
 have e:k<l.length+1:=by omega
 have eK:qK (cQ l) (hQ l) (l.length+1) n (k+1) t1=qJ ((qK (cQ l) (hQ l) (l.length+1) n k t1).v k+cQ l n k) (hQ l n) (l.length+1) (qK (cQ l) (hQ l) (l.length+1) n k t1):=rfl;generalize qK (cQ l) (hQ l) (l.length+1) n k t1=t2 at d s8 eK;have G:St w w8.drew (Sep (M t2)):=s8.quiet (aZ.drew w8 []);obtain⟨ql,Q,t⟩:=rdl G.aK n D;obtain⟨qw,hqw,Y⟩:=rdw G k e;have U:=okl n D;have hvk:=d k e;have hcb:=abp ho D e;have z:∀{o} {q:Addr} {c:Ch},aU o q 0 c.cells->aU o q 0 c.p.vs:=λ{o q c} h=>fm _ 0 λj v f=>by
  have A:j<6:=(ai.1 f).1;exact bX h j v (by
   match j,A,f with
   |0,_,f|1,_,f|2,_,f|3,_,f|4,_,f|5,_,f=>simpa[Ch.cells,I6.on,I6.vs] using f)
 have hT2b:p+1<=2000000:=by omega
 have hx0:-24000000<=t2.v k+cQ l n k/\t2.v k+cQ l n k<=((p+1:Nat):Int)*24000000:=by
  obtain⟨v1,A⟩:=hvk;rw[show((p+1:Nat):Int)=(p:Int)+1 by omega,eY];omega
 refine di K (av rfl ⟨by omega,by omega,t2.v k,E G k e,av Q ⟨by omega,by omega,(l.getD n tI).p,z t,av Q ⟨by omega,by omega,(l.getD n tI).want,rR t,av Q ⟨by omega,by omega,(l.getD n tI).p,z t,av hqw ⟨by omega,by omega,wQ l k,Y,bF (BG _ U.p U.w) λw10 N=>?_⟩⟩⟩⟩⟩);have s10:St w w10 (Sep (M t2)):=G.quiet N;refine⟨_,rfl,ff N Y,ff N (z t),E s10 k e,bF (BG _ U.p (UX ho e)) λw11 c11=>?_⟩;have s11:St w w11 (Sep (M t2)):=s10.quiet c11;have h1:=nh U.p U.w;have h2:=nh U.p (UX ho e);have ex:IntKind.i64.wrap ((IntKind.i64.wrap (t2.v k+cost (l.getD n tI).p (l.getD n tI).want))-cost (l.getD n tI).p (wQ l k))=t2.v k+cQ l n k:=by
  obtain⟨v1,A⟩:=hvk;rw[fQ (n:=t2.v k+cost (l.getD n tI).p (l.getD n tI).want) ⟨by omega,by omega⟩,gC (by omega)];unfold cQ;omega
 refine⟨_,rfl,E s11 k e,?_⟩;rw[ex];generalize hxx:t2.v k+cQ l n k=x at hx0 eK;refine⟨λb i H m=>∃j:Nat,i=j/\j<=l.length+1/\m=l.length+1-j/\b=(qJ x (hQ l n) j t2).calm/\St w H (Sep (M (qJ x (hQ l n) j t2))),⟨l.length+1,0,rfl,by omega,by omega,rfl,s11⟩,?_⟩;rintro H m9 b i ⟨j,rfl,f,hm9,rfl,R⟩-
 by_cases L:(j:Int)<((l.length+1:Nat):Int)
 rotate_left
 .obtain rfl:j=l.length+1:=by omega
  rw[<-eK] at R⊢;refine dz L ⟨l.length+1-(k+1),by omega,k+1,p+1,gC (by omega),by omega,rfl,⟨by omega,λj f=>?_,rfl⟩,R⟩;rw[eK,TQ];have B:=d j f;have A:((p+1:Nat):Int)*24000000=(p:Int)*24000000+24000000:=by rw[show((p+1:Nat):Int)=(p:Int)+1 by omega,eY];omega
  split
  .rename_i C;omega
  omega
 have C:j<l.length+1:=by omega
 have A:St w H.drew (Sep (M (qJ x (hQ l n) j t2))):=R.quiet (aZ.drew H []);obtain⟨q8,hq8,hc8⟩:=rdw A j C;obtain⟨q9,hq9,hc9⟩:=rdl A.aK n D;have eS:qJ x (hQ l n) (j+1) t2=if hQ l n j=true/\(qJ x (hQ l n) j t2).v j<x then ⟨vT (qJ x (hQ l n) j t2).v j x,false⟩ else qJ x (hQ l n) j t2:=rfl
 refine di L ⟨λb B=>b=(qJ x (hQ l n) (j+1) t2).calm/\St w B (Sep (M (qJ x (hQ l n) (j+1) t2))),?_,λb B=>b=decide (hQ l n j=true/\(qJ x (hQ l n) j t2).v j<x)/\St w B (Sep (M (qJ x (hQ l n) j t2))),?_,av hq8 ⟨by omega,by omega,wQ l j,hc8,av hq9 ⟨by omega,by omega,(l.getD n tI).want,rR hc9,?_⟩⟩⟩
 .rintro B b ⟨rfl,F⟩-;exact mS (by omega) ⟨rfl,F⟩
 .rintro B b ⟨rfl,F⟩-;refine cBq (λu=>av rfl ⟨by omega,by omega,St.kP (v:=λx=>iv x) rfl (x:=x) (St.out (l:=M (qJ x (hQ l n) j t2)) F 0 rfl) (i:=j) (by rw[mJ];exact C) λw15 s15=>?_⟩) λu=>⟨by rw[eS,af u],by rw[eS,af u];exact F⟩;rw[W1 C u] at s15;exact⟨by rw[eS,ag u],s15⟩
 rw[I6.beq_eq]
 by_cases F:wQ l j=(l.getD n tI).want
 .have hh:hQ l n j=true:=dT F;refine di F (av rfl ⟨by omega,by omega,_,E A j C,?_,A⟩)
  by_cases g2:(qJ x (hQ l n) j t2).v j<x
  .rw[dT g2,dT ⟨hh,g2⟩]
  rw[dF g2,dF λh=>g2 h.2]
 have hh:hQ l n j=false:=dF F;exact dz F ⟨(dF λh=>by rw[hh] at h;cases h.1).symm,A⟩
def KB{w:ah}{a:OA}{c:Nat}{l:List Ch}(h:zO w a l)(m:l.length<=1000):CP 199 #[.slice a l.length c] w (λr j=>r=.bool (yQ l)/\aZ w j []):=by
 refine tZ.1.1 ?_
 by_cases g:l.length=0
 .have:l=[]:=fh g;subst this;exact cF (by simp) ⟨rfl,aZ.refl _ _⟩
 obtain⟨y,d⟩:=dX l (l.length-1) (by omega);obtain⟨p,i,b⟩:=h.at d;have e:(IntKind.i64.wrap ((l.length:Int)-(1:Int))).toNat=l.length-1:=by rw[gC (by omega)];omega
 have k:IntKind.i64.wrap ((l.length:Int)-(1:Int))=(l.length:Int)-1:=gC (by omega);refine di (by omega) (av i ⟨by omega,by omega,y.want,by rw[e];exact rR b,?_,aZ.refl _ _⟩);have f:l.getLast? = some y:=by rw[eH];exact d
 rw[I6.beq_eq,yQ,f];rfl
def B8{w:ah}{s:Se}(h:Ll w s){u:I6}(c:u.l.all lX=true):CP 200 #[.agg s.arr,.agg u.vs.toArray] w (λr e=>r=iv (H6 s.ps u)/\aZ w e []):=by
 exact tZ.1.2.1 (bE s.arr λf j d=>d.aY u.vs.toArray λg k a=>⟨_,_,_,a.aj 1 rfl 0,u,a.cellsIn 0 rfl,bF (BH (h.aK a.aK).i.ps h.o.ps c 0) λm b=>⟨_,_,_,rfl,rfl,(a.quiet b).aK⟩⟩)
def P8{w:ah}{s:Se}(h:Ll w s){n:Nat}{b:Br}(v:s.bd[n]?=some b){a:OA}{k:Nat}{l:List Ch}(G:zO w a l)(J:l.length<=1000)(D:∀c∈l,c.Ok):
  CP 201 #[.agg s.arr,iv n,.slice a l.length k] w (λr d=>r=iv (Jv s b l)/\aZ w d []):=by
 refine tZ.1.2.2.1 ?_;have L:=(ai.1 v).1;refine bE s.arr λH M z=>(Ex8<|Ex4<|⟨z.cellsIn 0 rfl,z.qu (xw (s:=s) n) λN t=>?_⟩);obtain⟨q,F,g⟩:=FL ((h.aK t.aK).i.bd) v 3 _ rfl;refine⟨_,rfl,cF (by simp;omega) ⟨_,_,_,t.aj 0 rfl 1,av F ⟨by omega,by omega,b.pts,by rw[aq];exact g,?_⟩⟩⟩;let f:Int->Ch->Int:=λm c=>if H6 s.ps c.want<m then H6 s.ps c.want else m
 refine⟨λx i u m=>∃j:Nat,i=j/\j<=l.length/\m=l.length-j/\x=(l.take j).foldl f b.pts/\St w u (Sep [ay H s.arr 34,emp]),⟨l.length,0,rfl,by omega,by omega,rfl,t⟩,?_⟩;rintro u m x i ⟨j,rfl,I,K,rfl,A⟩-
 by_cases d:(j:Int)<(l.length:Int)
 .obtain⟨y,r⟩:=dX l j (by omega);have C:=mM (f:=f) (a:=b.pts) r;have e:=A.quiet (aZ.drew u []);obtain⟨p,E,o⟩:=(G.aK e.aK).at r;exact di d (Ex8<|Ex4<|⟨e.cellsIn 0 rfl,av E ⟨by omega,by omega,y.want,rR o,bF (B8 (h.aK e.aK) (leq (D y (ak r)).w)) λO B=>⟨_,rfl,l.length-(j+1),by omega,j+1,gC (by omega),by omega,rfl,by rw[C],e.quiet B⟩⟩⟩)
 obtain rfl:l.length=j:=by omega
 rw[aH];exact dz d ⟨rfl,A.aK⟩
section
variable {w0 w:ah} {B:bP} {a:OA} {c:Nat} {l:List Ch}
def RN{r k:Nat}(s:St w0 w (star (CG (qs r) 0 []) B))(g:zO w a l)(i:l.length<=1000){R:Option Addr->Nat->Nat->ah->Prop}(kk:∀b d f,St w0 f (star (CG b d l) B)->R b l.length d f):
  kg prog (Builtin.append_ #[104,104] 104 #[.slice (qs r) 0 0,.slice a l.length k]) w λe h=>∃a l c,e=.slice a l c/\R a l c h:=
 dW (l2:=l) Xt Ch.len Ch.one s g (by simp only[aT];omega) (by simp only[aT];omega) λb d f e=>by
  rw[bZ] at e⊢;exact kk b d f e
def Nq{r:Nat}{x:Ch}(s:St w0 w (star (CG a c l) B))(g:aU w ⟨r,0,none⟩ 0 x.cells)(i:l.length<=1000){R:Option Addr->Nat->Nat->ah->Prop}(kk:∀b d f,St w0 f (star (CG b d (l++[x])) B)->R b (l++[x]).length d f):
  kg prog (Builtin.append_ #[104,104] 104 #[.slice a l.length c,.slice (qs r) 1 1]) w λe h=>∃a l c,e=.slice a l c/\R a l c h:=
 dW (l2:=[x]) Xt Ch.len Ch.one s (nJ g rfl) (by simp only[aG];omega) (by simp only[aG];omega) kk
end
set_option maxHeartbeats 1000000 in
theorem Kw{w:ah}{s:Se}(h:Ll w s){n:Nat}{b:Br}(hb:s.bd[n]?=some b){a:OA}{k:Nat}{l:List Ch}(hr:zO w a l)(hl:l.length+1<=100)(ho:∀c∈l,c.Ok){c:Ch}(hc:c.Ok)(rule:Int):
  CP 143 #[.agg s.arr,iv rule,iv n,.slice a l.length k,c.v] w (λr C=>r=iv (Cm rule s b l c)/\aZ w C []):=by
 refine tZ.1.2.2.2.2.1 ?_;have Y:=(ai.1 hb).1;have D:(l++[c]).length<=100:=by simp;omega
 have E:∀x∈l++[c],x.Ok:=λx y=>by
  rcases aB.1 y with y|y
  .exact ho x y
  cases aI.1 y;exact hc
 refine bE s.arr λN w1 V=>V.aY c.cells.toArray λO w2 Q=>?_;let M:List bP:=[ay O c.cells.toArray 158,ay N s.arr 34,emp];refine⟨λx T=>x=decide (¬ (1<=rule/\rule<=3))/\St w T (Sep M),?_,?_⟩
 rotate_left
 .refine cBq (λg=>⟨(dT (by omega)).symm,Q⟩) λg=>⟨?_,Q⟩
  by_cases g2:rule>3
  .rw[dT g2,dT (show ¬ (1<=rule/\rule<=3) by omega)]
  rw[dF g2,dF (show ¬ ¬ (1<=rule/\rule<=3) by omega)]
 rintro T x ⟨rfl,G⟩-
 by_cases i:1<=rule/\rule<=3
 rotate_left
 .exact di i ⟨by rw[Cm,af i],G.aK⟩
 have d:Cm rule s b l c=if (if yQ l then decide (c.want=z6) else EL rule s b l c) then 0 else 15:=by rw[Cm,ag i]
 refine dz (λf=>f i) (Ex8<|Ex4<|⟨G.cellsIn 1 rfl,G.qu (xw (s:=s) n) λW R=>⟨_,rfl,cF (by simp;omega) ⟨c.want,iL R 0 rfl,R.qu (mw W c.want) λw5 S=>⟨_,rfl,cF (by rw[leq hc.w];rfl) (S.qu (KB (hr.aK S.aK) (by omega)) λX A=>⟨_,rfl,?_⟩)⟩⟩⟩⟩)
 cases hex:yQ l with
 |true=>
  rw[hex] at d;refine cT rfl ⟨c.want,iL A 0 rfl,?_⟩;rw[I6.beq_eq];exact cBq (λg=>⟨by rw[d,ag rfl,ag (dT g)],A.aK⟩) λg=>⟨by rw[d,ag rfl,af (by rw[dF g];decide)],A.aK⟩
 |false=>
 rw[hex,af (show ¬ false=true by decide)] at d;have t:=A.quiet (aZ.drew X []);refine cF rfl ⟨λx I=>x=(decide (rule≠2)&&BX s b l c)/\St w I (Sep M),?_,?_⟩
 rotate_left
 .exact cBq (λg=>(Ex8<|Ex4<|⟨t.cellsIn 1 rfl,c.want,iL t 0 rfl,Ex8<|Ex4<|⟨t.cellsIn 1 rfl,t.qu (B8 (h.aK t.aK) (leq hc.w)) λJ q=>⟨_,rfl,q.cellsIn 1 rfl,bF (P8 (h.aK q.aK) hb (hr.aK q.aK) (by omega) ho) λj e=>⟨_,rfl,by rw[dT g,aO];rfl,q.quiet e⟩⟩⟩⟩)) λg=>⟨by rw[dF (λf=>f g)];rfl,t⟩
 rintro I x ⟨rfl,q⟩-;have F:EL rule s b l c=((decide (rule≠2)&&BX s b l c)||(decide (rule≠1)&&oK (l++[c]))):=by
  unfold EL
  by_cases g1:rule=1
  .rw[ag g1,dT (show rule≠2 by omega),dF (λf=>f g1)];simp
  rw[af g1,dT g1,aO]
  by_cases g2:rule=2
  .rw[ag g2,dF (λf=>f g2)];simp
  rw[af g2,dT g2,aO]
 rw[F] at d
 cases hf:(decide (rule≠2)&&BX s b l c) with
 |true=>exact cT rfl ⟨by rw[d,hf];rfl,q.aK⟩
 |false=>
 rw[hf,fO] at d;have u:=q.quiet (aZ.drew I []);refine cF rfl ⟨λx J=>x=(decide (rule≠1)&&oK (l++[c]))/\aZ w J [],?_,?_⟩
 .rintro J x ⟨rfl,e⟩-
  cases hg:(decide (rule≠1)&&oK (l++[c])) with
  |true=>exact cT rfl ⟨by rw[d,hg];rfl,e⟩
  |false=>exact cF rfl ⟨by rw[d,hg];rfl,e⟩
 by_cases g1:rule=1
 .have e:false=(decide (rule≠1)&&oK (l++[c])):=by rw[dF (λf=>f g1)];rfl
  exact iI g1 ⟨⟨⟨e,u.aK⟩,e,u.aK⟩,e,u.aK⟩
 have o:∀{j:OA} {m:Nat} {C:ah} {B:bP},St w C (star (CG j m (l++[c])) B)->CC 202 #[.slice j (l++[c]).length m] C λe z=>∃b:Bool,e=.returned (.bool b)/\b=(decide (rule≠1)&&oK (l++[c]))/\aZ w z []:=λP=>
  bg (CD (St.rd Ch.len P) D E) λv z g=>⟨oK (l++[c]),by rw[g.1],by rw[dT g1,aO],P.aK.trans g.2 (by simp)⟩
 refine gM g1 ⟨c.p,c.want,u.cellsIn 0 rfl,⟨?_,?_⟩⟩
 .refine u.aY #[] λU H t1=>⟨t1.cellsIn 1 rfl,⟨?_,?_⟩⟩
  .have t2:=St.weak t1 (dU.left (ic (n:=0) (sz:=12) rfl (by decide)));refine RN t2 (hr.aK t1.aK) (by omega) λj m r t3=>?_;have t3:St w r (Sep [CG j m l,ay O c.cells.toArray 158,ay N s.arr 34,emp]):=t3;refine⟨t3.cellsIn 1 rfl,t3.aY c.cells.toArray λZ g t4=>Nq (x:=c) (t4.out 1 rfl) (t4.cellsIn 0 rfl) (by omega) λK L v t5=>o t5⟩
  refine t1.aY c.cells.toArray λr5 r t3=>?_;have t4:=t3.aM [1,0,4];have t5:=St.weak t4 (dU.left (ic (n:=0) (sz:=12) rfl (by decide)));refine RN t5 (hr.aK t5.aK) (by omega) λj m g t6=>?_;have t6:St w g (Sep [CG j m l,ay r5 c.cells.toArray 158,emp]):=t6;exact Nq (x:=c) (t6.out 0 rfl) (t6.cellsIn 1 rfl) (by omega) λK L v t7=>o t7
 refine u.aY c.cells.toArray λU H t1=>t1.aY #[] λZ r t3=>?_;have t4:=t3.aM [0,1,4];have t5:=St.weak t4 (dU.left (ic (n:=0) (sz:=12) rfl (by decide)));refine RN t5 (hr.aK t5.aK) (by omega) λj m g t6=>?_;have t6:St w g (Sep [CG j m l,ay U c.cells.toArray 158,emp]):=t6;exact Nq (x:=c) (t6.out 0 rfl) (t6.cellsIn 1 rfl) (by omega) λK L v t7=>o t7
def zu(w:ah)(o:Po):CP 76 #[o.v] w (λr n=>r=iv (pV o)/\aZ w n []):=by
 refine tZ.2.2.2.1 (bE o.cells.toArray λp e a=>⟨λb l=>b=decide (¬ o.ok)/\l=e,?_,o.step,a.aj 0 rfl 0,?_⟩)
 .rintro l b ⟨rfl,rfl⟩-
  by_cases h:o.ok
  .exact cF (dF λd=>d h) ⟨by rw[pV,ag h],a.aK⟩
  exact di h ⟨by rw[pV,af h],a.aK⟩
 have no:¬ o.ok->true=decide (¬ o.ok)/\e=e:=λh=>⟨(dT h).symm,rfl⟩
 by_cases g1:o.step<1
 .exact di g1 (no λh=>by obtain⟨c,_⟩:=h;omega)
 refine dz g1 ⟨o.step,a.aj 0 rfl 0,?_⟩
 by_cases g2:o.step>1000000
 .exact di g2 (no λh=>by obtain⟨_,c,_⟩:=h;omega)
 refine dz g2 ⟨o.pct,a.aj 0 rfl 1,?_⟩
 by_cases f:o.pct<0
 .exact di f (no λh=>by obtain⟨_,_,c,_⟩:=h;omega)
 refine dz f ⟨o.pct,a.aj 0 rfl 1,?_⟩
 by_cases g:o.pct>100
 .exact di g (no λh=>by obtain⟨_,_,_,c,_⟩:=h;omega)
 refine dz g ⟨o.und,a.aj 0 rfl 2,?_⟩
 by_cases i:o.und<1
 .exact di i (no λh=>by obtain⟨_,_,_,_,c,_⟩:=h;omega)
 refine dz i ⟨o.und,a.aj 0 rfl 2,?_⟩
 by_cases j:o.und>3
 .exact di j (no λh=>by obtain⟨_,_,_,_,_,c,_⟩:=h;omega)
 refine dz j ⟨o.rule,a.aj 0 rfl 3,cBq (λm=>no λh=>by obtain⟨_,_,_,_,_,_,c,_⟩:=h;omega) λm=>⟨o.rule,a.aj 0 rfl 3,?_,rfl⟩⟩
 by_cases k:o.rule>3
 .rw[dT k];exact(no λh=>by obtain⟨_,_,_,_,_,_,_,c⟩:=h;omega).1
 rw[dF k];exact(dF λd=>d ⟨by omega,by omega,by omega,by omega,by omega,by omega,by omega,by omega⟩).symm
def PM{l:List Pr}:I6.mix l.length (kQ l) z6=kQ l:=I6.ext' λj a=>by
 rw[I6.iy _ _ _ _ a]
 split
 .rfl
 rw[oU,vj _ _ a];simp only[au,aL];rw[aJ (by omega)];rfl
def Mu{w:ah}{a:OA}{c:Nat}{l:List Pr}(h:kf w a l):
  CP 140 #[.slice a l.length c] w (λr b=>r=.agg (kQ l).vs.toArray/\aZ w b []):=by
 refine(p6 tZ.1).2.2.2.1 (bE z6.vs.toArray λi B u=>u.aY z6.vs.toArray λj C v=>⟨λn p m=>∃k:Nat,n=k/\(k<=6/\k<=l.length)/\m=6-k/\St w p (Sep [ay j (I6.mix k (kQ l) z6).vs.toArray 37,ay i z6.vs.toArray 37,emp]),⟨6,0,rfl,by omega,by omega,v⟩,?_⟩);rintro p m n ⟨k,rfl,z,A,o⟩-;refine⟨λb r=>b=decide (k<l.length/\k<6)/\St w r (Sep [ay j (I6.mix k (kQ l) z6).vs.toArray 37,ay i z6.vs.toArray 37,emp]),?_,?_⟩
 .rintro r b ⟨rfl,f⟩-
  by_cases d:k<l.length/\k<6
  .obtain⟨x,g⟩:=dX l k (by omega);obtain⟨q,t,s⟩:=Gj (h.aK f.aK) g 2 _ rfl;refine di d (av t ⟨by omega,by omega,x.res,s,by omega,by omega,?_⟩);rw[iC,show x.res=(kQ l).at' k by rw[vj l k d.2];simp[aL,g]];refine f.cL 0 rfl d.2 rfl λy e=>⟨6-(k+1),by omega,k+1,inc (by decide) d.2,by omega,rfl,?_⟩;rw[I6.lE _ _ _ d.2] at e;exact e
  refine dz d ⟨_,f.cellsIn 0 rfl,f.aR 1 rfl (I6.mix k (kQ l) z6).vs rfl (I6.one _) λy e=>⟨_,e.cellsIn 1 rfl,?_,e.aK⟩⟩
  by_cases g:k=6
  .rw[g,I6.sM]
  rw[show k=l.length by omega,PM]
 by_cases g:k<l.length
 .refine di (by omega) ⟨?_,o⟩
  by_cases g2:k<6
  .rw[dT (show(k:Int)<6 by omega),dT ⟨g,g2⟩]
  rw[dF (show ¬ (k:Int)<6 by omega),dF λh=>g2 h.2]
 exact dz (by omega) ⟨by rw[dF λh=>g h.1],o⟩
def AB(w:ah)(p:I6):CP 205 #[.agg p.vs.toArray] w (λr i=>r=.bool (rG p)/\aZ w i []):=by
 refine tZ.2.1 (bE p.vs.toArray λs j c=>⟨λn e m=>∃k:Nat,n=k/\k<=6/\m=6-k/\(p.l.take k).all rz=true/\e=j,⟨6,0,rfl,by omega,by omega,rfl,rfl⟩,?_⟩);rintro e m n ⟨k,rfl,o,q,f,rfl⟩-
 by_cases d:(k:Int)<6
 .have a:k<6:=by omega
  refine di d ⟨λb h=>b = !rz (p.at' k)/\h=e,?_,by omega,by omega,p.at' k,by rw[iC,br c 0 rfl a],?_⟩
  .rintro h b ⟨rfl,rfl⟩-
   cases hx:rz (p.at' k) with
   |true=>exact cF rfl ⟨6-(k+1),by omega,k+1,inc (by decide) a,by omega,rfl,qD f (p.vG k a) hx,rfl⟩
   |false=>exact cT rfl ⟨by rw[rG,td (p.vG k a) hx],c.aK⟩
  refine cBq (λg=>⟨by simp[rz];omega,rfl⟩) λg=>⟨by omega,by omega,p.at' k,by rw[iC,br c 0 rfl a],?_,rfl⟩
  by_cases g2:p.at' k>1000000
  .rw[dT g2];simp[rz];omega
  rw[dF g2];simp[rz];omega
 obtain rfl:k=6:=by omega
 refine cF (by simp) ⟨?_,c.aK⟩;rw[rG,show p.l.all rz=true from f]
def KI(w:ah){o:Po}(k:o.ok){p:Int}(a:0<=p/\p<=1000000):CP 206 #[o.v,iv p] w (λr l=>r=iv (BK o p)/\aZ w l []):=by
 refine(p6 tZ.1).2.2.2.2.1 ?_;obtain⟨q,s,i,j,_⟩:=k;have c:0<=p*o.pct:=dh a.1 i;have t:p*o.pct<=1000000*100:=bM (cw j a.1) (bt a.2 (by omega));have e:IntKind.i64.wrap (p*o.pct)=p*o.pct:=gC (by omega);have f:Int.tdiv (p*o.pct) 100=p*o.pct / 100:=iM c;have h:Int.tmod (p*o.pct) 100=p*o.pct%100:=kj c;refine bE o.cells.toArray λu m b=>⟨o.pct,b.aj 0 rfl 1,by decide,λn d=>n=(p*o.pct+99) / 100/\d=m,?_,by decide,?_⟩
 .rintro d n ⟨rfl,rfl⟩-;refine⟨o.step,b.aj 0 rfl 0,?_,b.aK⟩;rw[fQ (n:=p+o.step) ⟨by omega,by omega⟩,gC (by omega)];rfl
 rw[e,f,h];refine cBq (λg=>⟨?_,rfl⟩) λg=>⟨?_,rfl⟩
 .rw[fQ (n:=p*o.pct / 100) ⟨by omega,by omega⟩,gC (by omega)];omega
 rw[gC (by omega)];omega
set_option maxHeartbeats 1000000 in
theorem Qg(w:ah){o:Po}(ho:o.ok){p:I6}(hp:rG p=true)(ex:I6):CP 145 #[o.v,.agg p.vs.toArray,.agg ex.vs.toArray] w (λr H=>r=.tuple #[.agg (uf o p ex).1.vs.toArray,iv (uf o p ex).2]/\aZ w H []):=by
 refine tZ.2.2.1 ?_;have t:=vh.1 hp;refine bE o.cells.toArray λA L E=>E.aY p.vs.toArray λB N F=>F.aY ex.vs.toArray λC O G=>G.aY z6.vs.toArray λD I y=>?_;let M:I6->List bP:=λq=>[ay D z6.vs.toArray 37,ay C ex.vs.toArray 50,ay B q.vs.toArray 37,ay A o.cells.toArray 23,emp];refine⟨λb l=>b=false/\St w l (Sep (M p)),?_,_,_,_,_,y.cellsIn 3 rfl,bg (zu I o) ?_⟩
 rotate_left
 .rintro v l ⟨rfl,a⟩;have s:St w l (Sep (M p)):=y.quiet a;exact⟨_,rfl,cF (by rw[pV,ag ho];rfl) ⟨p,s.cellsIn 2 rfl,bF (AB l p) λn c=>⟨_,rfl,by rw[hp];rfl,s.quiet c⟩⟩⟩
 rintro l b ⟨rfl,s⟩-;refine cF rfl ⟨λi n m=>∃k:Nat,i=k/\k<=6/\m=6-k/\St w n (Sep (M (I6.mix k (ij o p ex) p))),⟨6,0,rfl,by omega,by omega,s⟩,?_⟩;rintro n m i ⟨k,rfl,J,K,f⟩-
 by_cases h:(k:Int)<6
 .have a:k<6:=by omega
  have er:(ij o p ex).at' k=if ex.at' k>0 then BK o (p.at' k) else p.at' k:=I6.mU _ _ _ _ a
  refine di h ⟨λu=>St w u (Sep (M (I6.mix (k+1) (ij o p ex) p))),?_,by omega,by omega,ex.at' k,by rw[iC,br f 1 rfl a],?_⟩
  .rintro u c -;exact⟨6-(k+1),by omega,k+1,inc (by decide) a,by omega,rfl,c⟩
  by_cases g:ex.at' k>0
  .have c:=f.quiet (aZ.drew n []);refine di g ⟨_,_,_,_,c.cellsIn 3 rfl,by omega,by omega,p.at' k,by rw[iC,br c 2 rfl a,I6.iy _ _ _ _ a,af (by omega)],c.qu (KI _ ho (t k a)) λz d=>⟨_,rfl,by omega,by omega,?_⟩⟩;rw[iC,show BK o (p.at' k)=(ij o p ex).at' k by rw[er,ag g]];refine d.cL 2 rfl a rfl λj e=>?_;rw[I6.lE _ _ _ a] at e;exact e
  refine dz g ?_;have:I6.mix (k+1) (ij o p ex) p=I6.mix k (ij o p ex) p:=I6.ext' λj x=>by
   rw[I6.iy _ _ _ _ x,I6.iy _ _ _ _ x]
   by_cases e:j=k
   .subst e;rw[ag (by omega),af (by omega),er,af g]
   by_cases v:j<k
   .rw[ag v,ag (by omega)]
   rw[af v,af (by omega)]
  rw[this];exact f
 obtain rfl:k=6:=by omega
 rw[I6.sM] at f;refine dz h ⟨_,f.cellsIn 2 rfl,f.qu (AB n _) λu c=>⟨_,rfl,?_⟩⟩
 cases hv:rG (ij o p ex) with
 |false=>
  have g:ij o p ex≠p:=λe=>by rw[e,hp] at hv;cases hv
  have a:uf o p ex=(z6,4):=by rw[uf,ag ⟨g,hv⟩]
  rw[a];exact cT rfl (c.aR 0 rfl z6.vs rfl (I6.one _) λz d=>⟨z6,d.cellsIn 0 rfl,rfl,d.aK⟩)
 |true=>
  have a:uf o p ex=(ij o p ex,0):=by rw[uf,af (by rw[hv];simp)]
  rw[a];exact cF rfl ⟨_,c.cellsIn 2 rfl,c.aR 0 rfl _ rfl (I6.one _) λz d=>⟨_,d.cellsIn 0 rfl,rfl,d.aK⟩⟩
theorem UW(u:I6){k:Nat}(a:k<6):u.vs[k]?=some (iv (u.at' k)):=by
 have:=u.get k a;simpa using this
set_option maxHeartbeats 1000000 in
theorem KK{w:ah}{a:OA}{c:Nat}{l:List I6}(hr:iA 6 I6.vs w a l)(hl:l.length<=1000)(hb:∀u∈l,I6.Le u 1000000):
  CP 284 #[.slice a l.length c] w (λr b=>r=.agg (j6 l).vs.toArray/\aZ w b []):=by
 refine tZ.1.2.2.2.2.2.1 (bE z6.vs.toArray λA P H=>H.aY z6.vs.toArray λC Q I=>⟨λi E m=>∃k:Nat,i=k/\k<=l.length/\m=l.length-k/\St w E (Sep [ay C (j6 (l.take k)).vs.toArray 50,ay A z6.vs.toArray 50,emp]),⟨l.length,0,rfl,by omega,by omega,I⟩,?_⟩);rintro E m i ⟨k,rfl,L,M,h⟩-
 by_cases g:(k:Int)<(l.length:Int)
 .obtain⟨y,hx⟩:=dX l k (by omega);have s:=hb y (ak hx);have x:j6 (l.take (k+1))=(j6 (l.take k)).zip (· + ·) y:=by rw[bJ hx,GD]
  have v:∀j,j<6->0<=(j6 (l.take k)).at' j/\(j6 (l.take k)).at' j<=1000000000:=λj z=>by
   have:=yw (B:=1000000) (l:=l.take k) (λu b=>hb u (bC b)) j z;rw[j6,I6.sj _ _ z];have d:(l.take k).length<=1000:=by rw[aW];omega
   omega
  generalize j6 (l.take k)=o at h x v;refine di g ⟨λi q m=>∃n:Nat,i=n/\n<=6/\m=6-n/\St w q (Sep [ay C (I6.mix n (j6 (l.take (k+1))) o).vs.toArray 50,ay A z6.vs.toArray 50,emp]),⟨6,0,rfl,by omega,by omega,h⟩,?_⟩;rintro q O i ⟨n,rfl,N,F,f⟩-
  by_cases e:(n:Int)<6
  .have b:n<6:=by omega
   have t:=f.quiet (aZ.drew q []);obtain⟨p,G,r⟩:=(hr.aK t.aK).at hx;have d:=bX r n _ (UW y b);rw[az] at d;have J:=v n b;have K:=s n b;refine di e ⟨by omega,by omega,o.at' n,by rw[iC,br t 0 rfl b,I6.iy _ _ _ _ b,af (by omega)],av G ⟨by omega,by omega,by omega,by omega,y.at' n,?_,by omega,by omega,?_⟩⟩
   .rw[aq,aq,eZ];exact d
   rw[iC,fQ (n:=o.at' n+y.at' n) ⟨by omega,by omega⟩,show o.at' n+y.at' n=(j6 (l.take (k+1))).at' n by rw[x,I6.mU _ _ _ _ b]];refine t.cL 0 rfl b rfl λR D=>⟨6-(n+1),by omega,n+1,inc (by decide) b,by omega,rfl,?_⟩;rw[I6.lE _ _ _ b] at D;exact D
  obtain rfl:n=6:=by omega
  rw[I6.sM] at f;exact dz e (mS (by omega) f)
 obtain rfl:k=l.length:=by omega
 rw[aH] at h;exact dz g ⟨_,h.cellsIn 0 rfl,h.aR 1 rfl _ rfl (I6.one _) λq f=>⟨_,f.cellsIn 1 rfl,rfl,f.aK⟩⟩
section
variable {w:ah} {a:OA} {c:Nat} {l:List I6} (hr:iA 6 I6.vs w a l) (hl:l.length<=1000) (hb:∀u∈l,I6.Le u 4) {i:Nat} {x:I6} (hx:l[i]?=some x) {sup ask:I6} (hs:I6.Le sup 4) (ha:I6.Le ask 4)
include hb in
theorem K1(hl:l.length<=1000)(j:Nat)(a:j<6):0<=(j6 l).at' j/\(j6 l).at' j<=4000:=by
 have:=yw (B:=4) (l:=l) hb j a;rw[j6,I6.sj _ _ a];omega
include hr hx in
theorem LL{c:ah}(hc:aZ w c [])(j:Nat)(d:j<6):∃q,a=some q/\c.cell? (Addr.add (Addr.add q (((i:Nat):Int).toNat*6)) (((j:Nat):Int).toNat*1))=some (iv (x.at' j)):=by
 obtain⟨p,e,b⟩:=(hr.aK hc).at hx;have:=bX b j _ (UW x d);rw[az] at this;exact⟨p,e,by rw[aq,aq,eZ];exact this⟩
include hr hl hb hx hs ha in
theorem Ij:CP 203 #[.agg sup.vs.toArray,.slice a l.length c,iv i,.agg ask.vs.toArray] w (λr N=>r=.bool (mL sup (j6 l) x ask)/\aZ w N []):=by
 refine(p6 tZ.1).1 ?_;have S:=(ai.1 hx).1;have t:=hb x (ak hx);refine bE sup.vs.toArray λG V J=>J.aY ask.vs.toArray λH W z=>bF (KK (hr.aK z.aK) hl (λu F=>vY (hb u F) (by omega))) λX D=>?_;have h:=K1 hb hl;generalize j6 l=tot at h;refine⟨_,rfl,(z.quiet D).aY z6.vs.toArray λI Y K=>K.aR 0 rfl tot.vs rfl (I6.one _) λZ L=>?_⟩;let M:List bP:=[ay I tot.vs.toArray 50,ay H ask.vs.toArray 50,ay G sup.vs.toArray 50,emp];refine⟨λj y m=>∃k:Nat,j=k/\k<=6/\m=6-k/\(∀j,j<k->EI sup tot x ask j=false)/\St w y (Sep M),⟨6,0,rfl,by omega,by omega,λj s=>by omega,L⟩,?_⟩;rintro y m j ⟨k,rfl,T,U,e,A⟩-
 by_cases f:(k:Int)<6
 .have d:k<6:=by omega
  have v:=A.quiet (aZ.drew y []);have o:=v.quiet (aZ.drew _ []);obtain⟨q,E,p⟩:=LL hr hx v.aK k d;have O:=t k d;have P:=ha k d;have Q:=h k d;have R:=hs k d;refine di f (av E ⟨by omega,by omega,by omega,by omega,x.at' k,p,by omega,by omega,ask.at' k,by rw[iC,br v 1 rfl d],λb C=>b=EI sup tot x ask k/\St w C (Sep M),?_,?_⟩)
  .rintro C b ⟨rfl,B⟩-
   cases hrf:EI sup tot x ask k with
   |true=>exact cT rfl ⟨by rw[mL,gG.2 ⟨k,eV.2 d,hrf⟩],B.aK⟩
   |false=>
    refine cF rfl ⟨6-(k+1),by omega,k+1,inc (by decide) d,by omega,rfl,λj s=>?_,B⟩;rcases aQ j k with g |g
    .exact e j g
    obtain rfl:j=k:=by omega
    exact hrf
  rw[fQ (n:=x.at' k-ask.at' k) ⟨by omega,by omega⟩];refine cBq (λg=>⟨by omega,by omega,tot.at' k,by rw[iC,br o 0 rfl d],by omega,by omega,sup.at' k,by rw[iC,br o 2 rfl d],?_,o⟩) λg=>⟨by rw[EI,dF (show ¬ ask.at' k<x.at' k by omega),mO],o⟩;rw[gC (by omega),EI,dT (show ask.at' k<x.at' k by omega),aO]
  by_cases g2:tot.at' k-x.at' k+ask.at' k<sup.at' k
  .rw[dT g2,dT (by omega)]
  rw[dF g2,dF (by omega)]
 obtain rfl:k=6:=by omega
 refine dz f ⟨?_,A.aK⟩;have:mL sup tot x ask=false:=by
  rw[mL,eG];intro j s;rw[e j (eV.1 s)];simp
 rw[this]
theorem Mc{s t n a v:Int}(c:a<=v)(b:v<=ve s t n a):(v<n/\t-(n-v)<s)<->v<ve s t n a:=by
 unfold ve at b⊢
 by_cases g:a<n
 .rw[ag g] at b⊢
  by_cases g1:0>t-s
  .rw[ag g1] at b⊢
   split at b
   .rename_i g2;rw[ag g2];omega
   rename_i g2;rw[af g2];omega
  rw[af g1] at b⊢
  split at b
  .rename_i g2;rw[ag g2];omega
  rename_i g2;rw[af g2];omega
 rw[af g] at b⊢;omega
theorem TF{s t n a:Int}:a<=ve s t n a:=by
 unfold ve
 split
 .split<;>split<;>omega
 omega
include hr hl hb hx hs ha in
set_option maxHeartbeats 1000000 in
theorem KG:CP 204 #[.agg sup.vs.toArray,.slice a l.length c,iv i,.agg ask.vs.toArray] w (λr w'=>r=.agg (uh sup (j6 l) x ask).vs.toArray/\aZ w w' []):=by
 refine(p6 tZ.1).2.1 ?_;have hi:=(ai.1 hx).1;have F:=hb x (ak hx);refine bE sup.vs.toArray λX w1 s1=>s1.aY ask.vs.toArray λY w2 s2=>s2.aY z6.vs.toArray λZ w3 K=>bF (KK (hr.aK K.aK) hl (λu V=>vY (hb u V) (by omega))) λw4 R=>?_;have C:=K1 hb hl;generalize j6 l=tot at C;refine⟨_,rfl,(K.quiet R).aY z6.vs.toArray λr4 w5 s5=>s5.aR 0 rfl tot.vs rfl (I6.one _) λw6 L=>⟨ask,L.cellsIn 2 rfl,L.aY z6.vs.toArray λr5 w7 s7=>s7.aR 0 rfl ask.vs rfl (I6.one _) λw8 s8=>?_⟩⟩;let M:I6->List bP:=λu=>[ay r5 u.vs.toArray 50,ay r4 tot.vs.toArray 50,ay Z z6.vs.toArray 50,ay Y ask.vs.toArray 50,ay X sup.vs.toArray 50,emp];generalize T:uh sup tot x ask=P;have S:∀k,k<6->P.at' k=ve (sup.at' k) (tot.at' k) (x.at' k) (ask.at' k):=λk I=>by rw[<-T,uh,I6.sj _ _ I]
 refine⟨λj N m=>∃k:Nat,j=k/\k<=6/\m=6-k/\St w N (Sep (M (I6.mix k P ask))),⟨6,0,rfl,by omega,by omega,s8⟩,?_⟩;rintro N m j ⟨k,rfl,I,hm,E⟩-
 by_cases B:(k:Int)<6
 .have d:k<6:=by omega
  have O:=F k d;have Q:=ha k d;have b3:=C k d;have b4:=hs k d;have p1:=TF (s:=sup.at' k) (t:=tot.at' k) (n:=x.at' k) (a:=ask.at' k);have p2:=Eg (s:=sup.at' k) (t:=tot.at' k) O Q;have H:=S k d;refine di B ⟨λy m=>∃v:Int,ask.at' k<=v/\v<=P.at' k/\m=(P.at' k-v).toNat/\St w y (Sep (M ((I6.mix k P ask).put k v))),⟨_,ask.at' k,by omega,by omega,rfl,?_⟩,?_⟩
  .have:(I6.mix k P ask).put k (ask.at' k)=I6.mix k P ask:=I6.ext' λj g=>by
    rw[I6.mq _ _ _ _ d g]
    split
    .rename_i e;subst e;rw[I6.iy _ _ _ _ g,af (by omega)]
    rfl
   rw[this];exact E
  rintro y m3 ⟨v,v1,v2,U,p⟩-;have o:=Mc (s:=sup.at' k) (t:=tot.at' k) (n:=x.at' k) v1 (by rw[<-H];exact v2);have G:∀{u:I6},(u.put k v).at' k=v:=λ{u}=>by rw[I6.mq _ _ _ _ d d,ag rfl]
  have f:=p.quiet (aZ.drew y []);obtain⟨q,J,A⟩:=LL hr hx f.aK k d;refine⟨λb D=>b=decide (v<P.at' k)/\St w D (Sep (M ((I6.mix k P ask).put k v))),?_,by omega,by omega,v,by rw[iC,br f 0 rfl d,G],av J ⟨by omega,by omega,by omega,by omega,x.at' k,A,?_⟩⟩
  .rintro D b ⟨rfl,h⟩-;refine cBq (λW=>⟨by omega,by omega,v,by rw[iC,br h 0 rfl d,G],by omega,by omega,?_⟩) λW=>⟨6-(k+1),by omega,k+1,inc (by decide) d,by omega,rfl,?_⟩
   .rw[iC,gC (by omega)];refine h.cL 0 rfl d rfl λw13 z=>⟨(P.at' k-(v+1)).toNat,by omega,v+1,by omega,by omega,rfl,?_⟩;rw[I6.nW _ _ _ d] at z;have:((I6.mix k P ask).put k v).put k (v+1)=(I6.mix k P ask).put k (v+1):=I6.ext' λj g=>by
     rw[I6.mq _ _ _ _ d g,I6.mq _ _ _ _ d g,I6.mq _ _ _ _ d g]
     split<;>rfl
    rw[this] at z;exact z
   have:(I6.mix k P ask).put k v=I6.mix (k+1) P ask:=I6.ext' λj g=>by
    rw[I6.mq _ _ _ _ d g,I6.iy _ _ _ _ g,I6.iy _ _ _ _ g]
    by_cases e:j=k
    .subst e;rw[ag rfl,ag (by omega)];omega
    rw[af e]
    by_cases z:j<k
    .rw[ag z,ag (by omega)]
    rw[af z,af (by omega)]
   rw[this] at h;exact h
  rw[<-H] at o;refine cBq (λg=>⟨by omega,by omega,tot.at' k,by rw[iC,br f 1 rfl d],av J ⟨by omega,by omega,by omega,by omega,x.at' k,A,by omega,by omega,v,by rw[iC,br f 0 rfl d,G],by omega,by omega,sup.at' k,by rw[iC,br f 4 rfl d],?_,f⟩⟩) λg=>⟨(dF λh=>g (o.2 h).1).symm,f⟩;rw[fQ (n:=x.at' k-v) ⟨by omega,by omega⟩,gC (by omega)]
  by_cases g2:tot.at' k-(x.at' k-v)<sup.at' k
  .rw[dT g2,dT (o.1 ⟨g,g2⟩)]
  rw[dF g2,dF λh=>g2 (o.2 h).2]
 obtain rfl:k=6:=by omega
 rw[I6.sM] at E;exact dz B ⟨_,E.cellsIn 0 rfl,E.aR 2 rfl _ rfl (I6.one _) λy p=>⟨_,p.cellsIn 2 rfl,rfl,p.aK⟩⟩
end
section
variable {w0 w:ah} {B:bP} {a:OA} {c:Nat} {l:List I6}
def I7{r k:Nat}(s:St w0 w (star (kO (qs r) 0 []) B))(g:iA 6 I6.vs w a l)(i:l.length<=1000){R:Option Addr->Nat->Nat->ah->Prop}(kk:∀b d f,St w0 f (star (kO b d l) B)->R b l.length d f):
  kg prog (Builtin.append_ #[38,38] 38 #[.slice (qs r) 0 0,.slice a l.length k]) w λe h=>∃a l c,e=.slice a l c/\R a l c h:=
 dW (l2:=l) CH fU I6.one s g (by simp only[aT];omega) (by simp only[aT];omega) λb d f e=>by
  rw[bZ] at e⊢;exact kk b d f e
end
set_option maxHeartbeats 1000000 in
theorem Mh{w:ah}{p:Int}(hp:1<=p/\p<=3){sup:I6}(hs:I6.Le sup 4){a1 a2:OA}{c1 c2:Nat}{l1 l2:List I6}(h1:iA 6 I6.vs w a1 l1)(h2:iA 6 I6.vs w a2 l2)(hl:l2.length=l1.length)(h8:l1.length<=8)(b1:∀u∈l1,I6.Le u 4)(b2:∀u∈l2,I6.Le u 4):
  CP 144 #[iv p,.agg sup.vs.toArray,.slice a1 l1.length c1,.slice a2 l2.length c2] w (λr j=>∃a c,r=.tuple #[.slice a (Yr p sup l1 l2).length c,iv 0]/\St w j (kO a c (Yr p sup l1 l2))):=by
 refine(p6 tZ.1).2.2.1 (bE sup.vs.toArray λH w1 s1=>⟨λb w2=>b=false/\w2=w1,?_,dz (by omega) ⟨dF (by omega),rfl⟩⟩);rintro w2 b ⟨rfl,rfl⟩-;refine cF rfl ⟨λb w3=>b=false/\w3=w2,?_,cF (by rw[hl];simp) ⟨dF (by omega),rfl⟩⟩;rintro w3 b ⟨rfl,rfl⟩-;refine cF rfl ⟨sup,s1.cellsIn 0 rfl,s1.aY sup.vs.toArray λr2 w4 R=>?_⟩;have R:=St.weak R (dU.left (ic (n:=1) (sz:=6) rfl (by decide)));refine dW (l:=[sup]) (l2:=l1) CH fU I6.one R (h1.aK R.aK) (by simp only[aG];omega) (by simp only[aG];omega) λa3 c3 w5 s5=>dW (l:=[sup]++l1) (l2:=l2) CH fU I6.one s5 (h2.aK s5.aK) (by rw[aA];simp only[aG];omega) (by rw[aA];simp only[aG];omega) λa4 c4 w6 s6=>?_;have C:∀u∈[sup]++l1++l2,I6.Le u 4:=λu s=>by
  rcases aB.1 s with s|s
  .rcases aB.1 s with s|s
   .cases aI.1 s;exact hs
   exact b1 u s
  exact b2 u s
 have K:([sup]++l1++l2).length<=100:=by simp only[aA,aG];omega
 generalize[sup]++l1++l2=all at s6 C K;refine⟨λi w7 m=>∃k:Nat,i=k/\k<=all.length/\m=all.length-k/\St w w7 (Sep [kO a4 c4 all,ay H sup.vs.toArray 50,emp]),⟨all.length,0,rfl,by omega,by omega,s6⟩,?_⟩;rintro w7 m i ⟨k,rfl,hk,hm,S⟩-
 by_cases f:(k:Int)<(all.length:Int)
 .obtain⟨y,e⟩:=dX all k (by omega);obtain⟨q,G,d⟩:=(St.rd fU (S.out 0 rfl)).at e;exact di f (av G ⟨by omega,by omega,y,d,bF (mw w7 y) λh g=>⟨_,rfl,cF (by rw[leq (C y (ak e))];rfl) (mS (by omega) (S.quiet g))⟩⟩)
 refine dz f ((S.aM [1,2]).aY #[] λr3 w9 T=>?_);have T:=St.weak T (dU.left (ic (n:=0) (sz:=6) rfl (by decide)));refine I7 T (h1.aK T.aK) (by omega) λa5 F w10 O=>?_;have len:∀k,(yN p sup l1 l2 k).length=l1.length:=λk=>(BP (B:=4) (by omega) b1 b2 k).1;have X:∀k,∀u∈yN p sup l1 l2 k,I6.Le u 4:=λk=>(BP (B:=4) (by omega) b1 b2 k).2;refine⟨λi E m=>∃k:Nat,i=k/\k<=l1.length/\m=l1.length-k/\St w E (Sep [kO a5 F (yN p sup l1 l2 k),ay H sup.vs.toArray 50,emp]),⟨l1.length,0,rfl,by omega,by omega,O⟩,?_⟩;clear f hm hk S O;rintro E m i ⟨k,rfl,hk,hm,h⟩-
 by_cases f:(k:Int)<(l1.length:Int)
 rotate_left
 .obtain rfl:k=l1.length:=by omega
  have d:Yr p sup l1 l2=yN p sup l1 l2 l1.length:=by rw[Yr,hl]
  refine dz f ⟨a5,F,by rw[d,len],?_⟩;rw[d];exact h.first
 have v:l2[k]?=some (l2[k]'(by omega)):=gE (by omega);have I:yN p sup l1 l2 (k+1)=o9 p sup (yN p sup l1 l2 k) k (l2.getD k z6):=rfl;rw[show l2.getD k z6=l2[k]'(by omega) by rw[au,v];rfl] at I;generalize l2[k]'(by omega)=y at v I;have N:=b2 y (ak v);have lk:=len k;have W:=X k;generalize hUk:yN p sup l1 l2 k=U at h I lk W;have A:U[k]?=some (U[k]'(by omega)):=gE (by omega);have r:U.getD k z6=U[k]'(by omega):=by rw[au,A];rfl
 generalize U[k]'(by omega)=x at A r;obtain⟨g,rfl⟩:=St.kN (h.out 0 rfl) (by omega);have st:∀{j:ah} {z:I6},St w j (Sep [kO (qs g) F U,ay H sup.vs.toArray 50,emp])->o9 p sup U k y=U.set k z->yY (Addr.add ⟨g,0,none⟩ (((k:Nat):Int).toNat*6)) 0 z.vs j λQ=>St w Q (Sep [kO (qs g) F (yN p sup l1 l2 (k+1)),ay H sup.vs.toArray 50,emp]):=λ{j z} t e=>by
  rw[aq];refine St.wh fU (I6.one z) (t.out 0 rfl) (by omega) λQ t13=>?_;rw[I,e];exact t13
 refine di f ⟨λP=>St w P (Sep [kO (qs g) F (yN p sup l1 l2 (k+1)),ay H sup.vs.toArray 50,emp]),?_,?_⟩
 .rintro P d -;exact mS (by omega) d
 rw[<-lk];have L:U.length<=1000:=by omega
 have Y:∀{j},aZ w j []->∃q,a2=some q/\aU j (Addr.add q (((k:Nat):Int).toNat*6)) 0 y.vs:=λhc=>by rw[aq];exact(h2.aK hc).at v
 by_cases p1:p=1
 .obtain⟨q,G,o⟩:=Y h.aK;exact gM p1 (av G ⟨by omega,by omega,y,o,av rfl ⟨by omega,by omega,st h (by rw[o9,af (by omega),af (by omega)])⟩⟩)
 refine iI p1 ?_;have d:=h.quiet (aZ.drew E []);obtain⟨q,G,o⟩:=Y d.aK;have M:∀{j},St w j (Sep [kO (qs g) F U,ay H sup.vs.toArray 50,emp])->iA 6 I6.vs j (qs g) U:=λt=>St.rd fU (t.out 0 rfl)
 by_cases p2:p=2
 .refine gM p2 ⟨sup,d.cellsIn 1 rfl,av G ⟨by omega,by omega,y,o,d.qu (Ij (M d) L W A hs N) λZ D=>?_⟩⟩;obtain⟨q2,V,J⟩:=Y D.aK;refine⟨_,rfl,?_⟩
  cases hrf:mL sup (j6 U) x y with
  |true=>
   refine cF rfl ?_;rw[I,o9,ag p2,r,ag hrf];exact D
  |false=>exact cT rfl (av V ⟨by omega,by omega,y,J,av rfl ⟨by omega,by omega,st D (by rw[o9,ag p2,r,af (by rw[hrf];decide)])⟩⟩)
 have J:p=3:=by omega
 exact iI p2 (gM J ⟨sup,d.cellsIn 1 rfl,av G ⟨by omega,by omega,y,o,bF (KG (M d) L W A hs N) λZ D=>⟨_,rfl,av rfl ⟨by omega,by omega,st (d.quiet D) (by rw[o9,af p2,ag J,r])⟩⟩⟩⟩)

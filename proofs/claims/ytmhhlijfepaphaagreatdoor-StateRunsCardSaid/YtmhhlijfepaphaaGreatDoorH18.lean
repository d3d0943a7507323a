import Derived.Test.YtmhhlijfepaphaaGreatDoorH17
set_option linter.all false
set_option maxRecDepth 100000
set_option maxHeartbeats 4000000
namespace Go.Proofs.YtmhhlijfepaphaaGreatDoor
open Go Go.Vc Go.Vt _root_.Go.Proofs.Tryz
def uP:=many xP [en func303 [] [],en func299 [] [(58,[(3,.s (.int .i64)),(4,.s (.int .i64))])],en func302 [] [(58,[(1,.s (.int .i64)),(6,.s (.int .i64))])],en func348 [] [(58,[(5,.s (.int .i64)),(6,.s (.int .i64))])],en func301 [] [(26,[(5,.s (.int .i64))])],en func300 [] [(250,[(10,.s (.int .i64))]),(506,[(11,.s (.int .i64))]),(64806,[(13,.s (.int .i64))]),(259225,[]),(66361658,[(16,.s (.int .i64))])]] (by conv=>lhs;reduce) (by kernel_rfl) λx=>by
 dsimp only[qq,qm,qk,qj,qy,qA,qB,GH,uv,en,FG,wrap,dc,dn,DH,gU,ID,U.I,U.B,U.S,U.N,U.A,U.O,U.W,U.V,U.L,U.U6,U.C,U.M,U.F,U.E,HV,HA,GM,zS,jU,gJ,vZ,vI,TJ,Nat.reduceSub,Nat.reduceAdd,Int.reduceOfNat,Int.reduceNeg,UInt8.reduceOfNat] at x
 exact x
def aaY:=many xP [en func216 [] [(122,[(6,.s .slice),(7,.s (.int .i64))]),(489,[(6,.s .slice)]),(7826,[(35,.s .bool)]),(31310,[(9,.s (.int .i64))]),(250,[(10,.s (.int .i64))]),(4004,[]),(8009,[]),(8008,[(77,.s .bool)])],en func154 [] [],en func155 [] [(122,[(7,.s (.int .i64))]),(1956,[(55,.s .bool)]),(1018,[(8,.s .slice),(10,.s (.int .i64))]),(4073,[(8,.s .slice)]),(260682,[(11,.s .bool),(12,.s (.int .i64))]),(1042729,[(11,.s .bool)]),(4170916,[(92,.s .bool)])]] (by conv=>lhs;reduce) (by kernel_rfl) λx=>by
 dsimp only[qq,qm,qk,qj,qy,qA,qB,GH,uv,en,FG,wrap,dc,dn,DH,gU,ID,U.I,U.B,U.S,U.N,U.A,U.O,U.W,U.V,U.L,U.U6,U.C,U.M,U.F,U.E,HV,HA,GM,zS,jU,gJ,vZ,vI,TJ,Nat.reduceSub,Nat.reduceAdd,Int.reduceOfNat,Int.reduceNeg,UInt8.reduceOfNat] at x
 exact x
def aaW:=many xP [en func96 [] [],en func81 [] [],en func84 [] [(6,[(14,.s .bool)])],en func85 [] [(6,[(25,.s .bool)]),(7,[])]] (by conv=>lhs;reduce) (by kernel_rfl) λx=>by
 dsimp only[qq,qm,qk,qj,qy,qA,qB,GH,uv,en,FG,wrap,dc,dn,DH,gU,ID,U.I,U.B,U.S,U.N,U.A,U.O,U.W,U.V,U.L,U.U6,U.C,U.M,U.F,U.E,HV,HA,GM,zS,jU,gJ,vZ,vI,TJ,Nat.reduceSub,Nat.reduceAdd,Int.reduceOfNat,Int.reduceNeg,UInt8.reduceOfNat] at x
 exact x
def P0:=aaY.1
def Kv:=aaY.2.1
def Ia:=aaW.1
end Go.Proofs.YtmhhlijfepaphaaGreatDoor
namespace Go.Proofs.YtmhhlijfepaphaaGreatDoor
open Go Go.Vc _root_.Go.Proofs.Tryz
def Qb(w:ah)(v:Int):CP 303 #[iv v] w (λr a=>r=iv (pE v)/\a=w):=by
 exact uP.1 (cBq (λh=>⟨by rw[pE,ag h],rfl⟩) λh=>⟨by rw[pE,af h],rfl⟩)
def HW{m:I6}(b:I6.Le m 4):∀k,k<=6->1<=CB m k/\CB m k<=15625:=λk a=>by
 have h:=o8 (A3 b) k a;refine⟨by omega,bM h.2.2 ?_⟩
 match k,a with
 |0,_|1,_|2,_|3,_|4,_|5,_|6,_=>decide
def Ew(w:ah){m:I6}(c:I6.Le m 4):CP 299 #[.agg m.vs.toArray] w (λr h=>r=iv (bI m:Int)/\aZ w h []):=by
 refine uP.2.1 (bE m.vs.toArray λp j d=>⟨λn i e mm=>∃k:Nat,i=k/\k<=6/\mm=6-k/\n=CB m k/\e=j,⟨6,0,rfl,by omega,by omega,rfl,rfl⟩,?_⟩);rintro e mm n i ⟨k,rfl,o,g,rfl,rfl⟩-
 by_cases b:(k:Int)<6
 .have a:k<6:=by omega
  have l:=c k a;have f:=HW c (k+1) (by omega);refine di b ⟨by omega,by omega,m.at' k,by rw[iC,br d 0 rfl a],6-(k+1),by omega,k+1,inc (by decide) a,by omega,rfl,?_,rfl⟩;rw[CB] at f⊢;rw[fQ (n:=m.at' k+1) ⟨by omega,by omega⟩,gC (by omega)]
 obtain rfl:k=6:=by omega
 refine cF (by simp) ⟨?_,d.aK⟩;have:=(lC c).2.1;rw[uE] at this;rw[this]
def Mp(w:ah){m u:I6}(b:rP m u):CP 348 #[.agg m.vs.toArray,.agg u.vs.toArray] w (λr p=>r=iv (rk m u)/\aZ w p []):=by
 refine uP.2.2.2.1 (bE m.vs.toArray λi B l=>l.aY u.vs.toArray λj C o=>⟨λs n e x=>∃k:Nat,n=k/\k<=6/\x=6-k/\s=ku m u k/\St w e (Sep [ay j u.vs.toArray 50,ay i m.vs.toArray 50,emp]),⟨6,0,rfl,by omega,by omega,rfl,o⟩,?_⟩);rintro e x s n ⟨k,rfl,z,A,rfl,f⟩-
 by_cases c:(k:Int)<6
 .have a:k<6:=by omega
  have d:=f.quiet (aZ.drew e []);have t:=b.mm k a;have v:=b.u k a;have h:=o8 b (k+1) (by omega);have q:=HW b.mm (k+1) (by omega);have g:=o8 b k (by omega);rw[ku] at h;have y:0<=ku m u k*(m.at' k+1):=dh g.1 (by omega);refine di c ⟨by omega,by omega,m.at' k,by rw[iC,br d 1 rfl a],by omega,by omega,u.at' k,by rw[iC,br d 0 rfl a],6-(k+1),by omega,k+1,inc (by decide) a,by omega,rfl,?_,d⟩;rw[fQ (n:=m.at' k+1) ⟨by omega,by omega⟩,fQ (n:=ku m u k*(m.at' k+1)) ⟨by omega,by omega⟩,gC (by omega),ku]
 obtain rfl:k=6:=by omega
 exact cF (by simp) ⟨rfl,f.aK⟩
def Cc(w:ah)(u v:I6):CP 301 #[.agg u.vs.toArray,.agg v.vs.toArray] w (λr s=>r=.bool (within u v)/\aZ w s []):=by
 refine uP.2.2.2.2.1 (bE u.vs.toArray λl y p=>p.aY v.vs.toArray λo z q=>⟨λn d m=>∃k:Nat,n=k/\k<=6/\m=6-k/\(∀j,j<k->u.at' j<=v.at' j)/\St w d (Sep [ay o v.vs.toArray 50,ay l u.vs.toArray 50,emp]),⟨6,0,rfl,by omega,by omega,λj i=>by omega,q⟩,?_⟩);rintro d m n ⟨k,rfl,t,x,f,h⟩-
 by_cases c:(k:Int)<6
 .have a:k<6:=by omega
  have b:=h.quiet (aZ.drew d []);refine di c ⟨by omega,by omega,u.at' k,by rw[iC,br b 1 rfl a],by omega,by omega,v.at' k,by rw[iC,br b 0 rfl a],cBq (λg=>⟨?_,b.aK⟩) λg=>⟨6-(k+1),by omega,k+1,inc (by decide) a,by omega,rfl,λj i=>?_,b⟩⟩
  .cases hw:within u v with
   |false=>rfl
   |true=>have:=within_iff.1 hw k a;omega
  rcases aQ j k with e |e
  .exact f j e
  obtain rfl:j=k:=by omega
  omega
 obtain rfl:k=6:=by omega
 exact cF (by simp) ⟨by rw[within_iff.2 f],h.aK⟩
def Om(w:ah){m u:I6}(c:rP m u):CP 302 #[.agg m.vs.toArray,iv (rk m u)] w (λr H=>r=.agg u.vs.toArray/\aZ w H []):=by
 refine uP.2.2.1 (bE m.vs.toArray λB M E=>E.aY z6.vs.toArray λC N F=>F.aY z6.vs.toArray λD O G=>⟨λs n p x=>∃(k:Nat) (b:I6),n=(k:Int)-1/\k<=6/\x=k/\s=ku m u k/\(∀j,j<6->k<=j->b.at' j=u.at' j)/\St w p (Sep [ay D b.vs.toArray 50,ay C z6.vs.toArray 50,ay B m.vs.toArray 50,emp]),⟨6,6,z6,rfl,by omega,rfl,rfl,λj z g=>by omega,G⟩,?_⟩);rintro p x s n ⟨k,b,rfl,K,L,rfl,o,f⟩-
 cases k with
 |zero=>
  have e:=I6.ext' λj d=>o j d (by omega);subst e;exact cF (by rfl) ⟨b,f.cellsIn 0 rfl,f.aR 1 rfl b.vs rfl (I6.one _) λh a=>⟨b,a.cellsIn 1 rfl,rfl,a.aK⟩⟩
 |succ k=>
  have a:k<6:=by omega
  have z:=c.mm k a;have g:=c.u k a;have I:=o8 c k (by omega);have i:=o8 c (k+1) (by omega);have J:=HW c.mm (k+1) (by omega);have q:((k+1:Nat):Int)-1=(k:Int):=by omega
  have l:IntKind.i64.wrap (m.at' k+1)=m.at' k+1:=gC (by omega);have t:Int.tmod (ku m u (k+1)) (m.at' k+1)=u.at' k:=by
   rw[kj i.1,ku,Int.add_comm,Int.add_mul_emod_self_right,Int.emod_eq_of_lt g.1 (by omega)]
  have v:Int.tdiv (ku m u (k+1)) (m.at' k+1)=ku m u k:=by
   rw[iM i.1,ku,Int.add_comm,Int.add_mul_ediv_right _ _ (by omega),Int.ediv_eq_zero_of_lt g.1 (by omega)];omega
  have y:IntKind.i64.wrap (ku m u k)=ku m u k:=by
   have:=HW c.mm k (by omega);exact gC (by omega)
  rw[q];refine di (by omega) ⟨by omega,by omega,m.at' k,by rw[iC,br f 2 rfl a],?_⟩;rw[l,t];refine⟨by omega,by omega,by omega,?_⟩;rw[iC];refine f.cL 0 rfl a rfl λP e=>?_;rw[I6.nW _ _ _ a] at e;refine⟨by omega,by omega,m.at' k,by rw[iC,br e 2 rfl a],?_⟩;rw[l,v];refine⟨by omega,k,by omega,k,b.put k (u.at' k),gC (by omega),by omega,rfl,y,λj d A=>?_,e⟩;rw[I6.mq _ _ _ _ a d]
  split
  .rename_i h;subst h;rfl
  exact o j d (by omega)
def vm(c d:I6):I6:=c.zip (· - ·) d
def AR{c d:I6}{k:Nat}(a:k<6):(vm c d).at' k=c.at' k-d.at' k:=I6.mU _ _ _ _ a
def IA{m c d:I6}(hc:rP m c)(hd:rP m d)(b:within d c=true):rP m (vm c d):=⟨hc.mm,λk a=>by
 have e:=within_iff.1 b k a;have f:=hd.u k a;have g:=hc.u k a;rw[AR a];omega⟩
def uD(m:I6)(T U:List Int)(i:Nat):Nat->Int
 |0=>0
 |j+1=>if within (cK m j) (cK m i)=true then (if T.getD j 0+U.getD (rk m (vm (cK m i) (cK m j))).toNat 0>uD m T U i j then T.getD j 0+U.getD (rk m (vm (cK m i) (cK m j))).toNat 0 else uD m T U i j) else uD m T U i j
def Rc(m:I6)(T U:List Int):List Int:=(List.range (bI m)).map λi=>uD m T U i (i+1)
def lM{a:Type}(f:Nat->a){n k:Nat}(h:k<n):((List.range n).map f)[k]?=some (f k):=by
 rw[aL,jx h];rfl
def uW{b:Type}(f:Nat->b)(n k:Nat)(v:b):((List.range n).map f).set k v=(List.range n).map λi=>if i=k then v else f i:=by
 apply aX;intro i;rw[bW]
 by_cases a:i<n
 .rw[lM _ a,lM _ a]
  by_cases h:k=i
  .subst h;rw[ag rfl,ag rfl];simp[a]
  rw[af h,af (λc=>h c.symm)]
 rw[aJ (by simp;omega),aJ (by simp;omega)]
 split
 .split
  .rename_i h;simp at h;omega
  rfl
 rfl
def Gv{b:Type}(x:b)(n:Nat):List.replicate n x=(List.range n).map λ_=>x:=by
 apply aX;intro i
 by_cases a:i<n
 .rw[lM _ a,cM,ag a]
 rw[aJ (by simp;omega),aJ (by simp;omega)]
def lD{T:List Int}{b:Int}(a:0<=b)(h:∀t∈T,0<=t/\t<=b)(i:Nat):0<=T.getD i 0/\T.getD i 0<=b:=by
 rw[au]
 cases hi:T[i]? with
 |none=>exact⟨bR _,a⟩
 |some t=>exact h t (ak hi)
theorem TA{m:I6}{T U:List Int}{b c:Int}(d:0<=b)(hc:0<=c)(h:∀t∈T,0<=t/\t<=b)(a:∀t∈U,0<=t/\t<=c)(i:Nat):∀j,0<=uD m T U i j/\uD m T U i j<=b+c
 |0=>by show(0:Int)<=0/\(0:Int)<=_;omega
 |j+1=>by
  have e:=TA d hc h a i j (m:=m);have f:=lD d h j;have g:=lD hc a (rk m (vm (cK m i) (cK m j))).toNat;rw[uD]
  split
  .split
   .omega
   exact e
  exact e
def getD_some{T:List Int}{i:Nat}(h:i<T.length):T[i]?=some (T.getD i 0):=by
 rw[au,gE h];rfl
def W4{w:ah}{m:I6}(O:I6.Le m 4){a1 a2:OA}{c1 c2:Nat}{T U:List Int}(hT:iA 1 i1 w a1 T)(hU:iA 1 i1 w a2 U)(lT:T.length=bI m)(lU:U.length=bI m)(bT:∀t∈T,0<=t/\t<=1000000000000)(bU:∀t∈U,0<=t/\t<=1000000000000):
  CP 300 #[.agg m.vs.toArray,.slice a1 T.length c1,.slice a2 U.length c2] w (λr w'=>∃g,r=.slice (qs g) (Rc m T U).length (bI m)/\St w w' (Sep [oQ (qs g) (bI m) (Rc m T U)])):=by
 refine uP.2.2.2.2.2.1 ?_;obtain⟨hp,hp2,hp3⟩:=lC O;have r:=λ{i:Nat} (Y:i<bI m)=>nQ O i Y;have o:=λi=>gw O i;refine bE m.vs.toArray λA w1 s1=>⟨m,s1.cellsIn 0 rfl,s1.qu (Ew w1 O) λw2 s2=>⟨_,rfl,iD KZ gm (x:=0) rfl s2 (n:=bI m) (by omega) (by omega) λg w3 c3 s3=>iD (x:=z6) CH fU rfl s3 (n:=bI m) (by omega) (by omega) λX w4 c4 Z=>?_⟩⟩;let F:Nat->Nat->bP:=λi j=>oQ (qs g) (bI m) ((List.range (bI m)).map λk=>if k<i then uD m T U k (k+1) else if k=i then uD m T U i j else 0);let Pt:Nat->bP:=λk=>kO (qs X) (bI m) ((List.range (bI m)).map λi=>if i<k then cK m i else z6);have lF:∀(f:Nat->Int),((List.range (bI m)).map f).length=bI m:=λf=>by simp
 have lP:∀(f:Nat->I6),((List.range (bI m)).map f).length=bI m:=λf=>by simp
 have Z:St w w4 (Sep [Pt 0,F 0 0,ay A m.vs.toArray 50,emp]):=by
  have a:List.replicate (bI m) (0:Int)=(List.range (bI m)).map λk=>if k<0 then uD m T U k (k+1) else if k=0 then uD m T U 0 0 else 0:=by
   rw[Gv];exact bq λk _=>by rw[af (by omega)];split<;>rfl
  have b:List.replicate (bI m) z6=(List.range (bI m)).map λi=>if i<0 then cK m i else z6:=by
   rw[Gv];exact bq λk _=>by rw[af (by omega)]
  rw[a,b] at Z;exact Z
 refine⟨λn W x=>∃k:Nat,n=k/\k<=bI m/\x=bI m-k/\St w W (Sep [Pt k,F 0 0,ay A m.vs.toArray 50,emp]),⟨bI m,0,rfl,by omega,by omega,Z⟩,?_⟩;rintro W x n ⟨k,rfl,N,hx,E⟩-
 by_cases d:k<bI m
 .refine di (by omega) ⟨m,E.cellsIn 2 rfl,?_⟩;rw[<-r d];refine E.qu (Om W (o k)) λc b=>⟨cK m k,rfl,av rfl ⟨by rw[r d];omega,by rw[r d];omega,?_⟩⟩;rw[r d,aq];refine St.wh fU (x:=cK m k) (I6.one _) (b.out 0 rfl) (i:=k) (by rw[lP];omega) λq a=>?_;have a:=a.back (i:=0) (by show 0<4;decide);refine mS (by omega) ?_;have e:((List.range (bI m)).map λi=>if i<k then cK m i else z6).set k (cK m k)=(List.range (bI m)).map λi=>if i<k+1 then cK m i else z6:=by
   rw[uW];refine bq λi _=>?_
   by_cases h:i=k
   .subst h;rw[ag rfl,ag (by omega)]
   rw[af h]
   by_cases p:i<k
   .rw[ag p,ag (by omega)]
   rw[af p,af (by omega)]
  rw[e] at a;exact a
 obtain rfl:k=bI m:=by omega
 let P:bP:=kO (qs X) (bI m) ((List.range (bI m)).map (cK m));have E:St w W (Sep [P,F 0 0,ay A m.vs.toArray 50,emp]):=by
  have e:((List.range (bI m)).map λi=>if i<bI m then cK m i else z6)=(List.range (bI m)).map (cK m):=bq λi Y=>by rw[ag (eV.1 Y)]
  have E:St w W (Sep [kO (qs X) (bI m) ((List.range (bI m)).map λi=>if i<bI m then cK m i else z6),F 0 0,ay A m.vs.toArray 50,emp]):=E;rw[e] at E;exact E
 have part:∀{w':ah} {l:List bP} {i:Nat},St w w' (Sep l)->l[i]?=some P->∀{k:Nat},k<bI m->aU w' (Addr.add ⟨X,0,none⟩ (((k:Nat):Int).toNat*6)) 0 (cK m k).vs:=λs e k N=>by
  obtain⟨q,C,a⟩:=(St.rd fU (s.out _ e)).at (lM (cK m) N)
  cases C;rw[aq];exact a
 refine dz (by omega) ⟨λn w8 x=>∃i:Nat,n=i/\i<=bI m/\x=bI m-i/\St w w8 (Sep [P,F i 0,ay A m.vs.toArray 50,emp]),⟨bI m,0,rfl,by omega,by omega,E⟩,?_⟩;rintro w8 x n ⟨i,rfl,Y,hx,s8⟩-
 by_cases d:i<bI m
 rotate_left
 .obtain rfl:i=bI m:=by omega
  have e:((List.range (bI m)).map λk=>if k<bI m then uD m T U k (k+1) else if k=bI m then uD m T U (bI m) 0 else 0)=Rc m T U:=bq λk N=>by rw[ag (eV.1 N)]
  have L:=s8.aM [1];have L:St w w8 (Sep [oQ (qs g) (bI m) ((List.range (bI m)).map λk=>if k<bI m then uD m T U k (k+1) else if k=bI m then uD m T U (bI m) 0 else 0)]):=L;rw[e] at L;refine dz (by omega) ⟨g,?_,L⟩;rw[Rc,lF]
 refine di (by omega) (av rfl ⟨by omega,by omega,cK m i,part s8 (i:=0) rfl d,s8.aY z6.vs.toArray λr2 w9 L=>L.aR 0 rfl (cK m i).vs rfl (I6.one _) λw10 s10=>⟨λn J x=>∃j:Nat,n=j/\j<=i+1/\x=i+1-j/\St w J (Sep [ay r2 (cK m i).vs.toArray 50,P,F i j,ay A m.vs.toArray 50,emp]),⟨i+1,0,rfl,by omega,by omega,s10⟩,?_⟩⟩);rintro J y n ⟨j,rfl,hj,hy,G⟩-
 by_cases hji:j<=i
 rotate_left
 .obtain rfl:j=i+1:=by omega
  refine dz (by omega) (mS (by omega) ?_);have e:((List.range (bI m)).map λk=>if k<i then uD m T U k (k+1) else if k=i then uD m T U i (i+1) else 0)=(List.range (bI m)).map λk=>if k<i+1 then uD m T U k (k+1) else if k=i+1 then uD m T U (i+1) 0 else 0:=by
   refine bq λk _=>?_
   by_cases h:k<i
   .rw[ag h,ag (by omega)]
   rw[af h]
   by_cases p:k=i
   .subst p;rw[ag rfl,ag (by omega)]
   rw[af p,af (by omega)];split<;>rfl
  have a:=G.second;have a:St w J (Sep [P,oQ (qs g) (bI m) ((List.range (bI m)).map λk=>if k<i then uD m T U k (k+1) else if k=i then uD m T U i (i+1) else 0),ay A m.vs.toArray 50,emp]):=a;rw[e] at a;exact a
 have hjn:j<bI m:=by omega
 refine di (by omega) ⟨λV=>St w V (Sep [ay r2 (cK m i).vs.toArray 50,P,F i (j+1),ay A m.vs.toArray 50,emp]),λV h _=>(mS (by omega) h),av rfl ⟨by omega,by omega,cK m j,part G (i:=1) rfl hjn,G.aY z6.vs.toArray λr3 w13 s13=>s13.aR 0 rfl (cK m j).vs rfl (I6.one _) λw14 H=>⟨cK m j,H.cellsIn 0 rfl,cK m i,H.cellsIn 1 rfl,H.qu (Cc w14 _ _) λw15 I=>⟨_,rfl,?_⟩⟩⟩⟩
 cases hw:within (cK m j) (cK m i) with
 |false=>
  refine cT rfl ?_;have e:uD m T U i (j+1)=uD m T U i j:=by rw[uD,hw,af (by decide)]
  show St w w15 (Sep [_,_,oQ (qs g) (bI m) ((List.range (bI m)).map λk=>if k<i then uD m T U k (k+1) else if k=i then uD m T U i (j+1) else 0),_,_]);rw[e];exact I.second
 |true=>
 have S:=IA (o i) (o j) hw;refine cF rfl ⟨cK m i,I.cellsIn 1 rfl,I.aY z6.vs.toArray λr4 w16 s16=>s16.aR 0 rfl (cK m i).vs rfl (I6.one _) λw17 s17=>⟨λn K x=>∃(k:Nat) (b:I6),n=k/\k<=6/\x=6-k/\(∀q,q<6->b.at' q=if q<k then (vm (cK m i) (cK m j)).at' q else (cK m i).at' q)/\St w K (Sep [ay r4 b.vs.toArray 50,ay r3 (cK m j).vs.toArray 50,ay r2 (cK m i).vs.toArray 50,P,F i j,ay A m.vs.toArray 50,emp]),⟨6,0,cK m i,rfl,by omega,by omega,λq _=>by rw[af (by omega)],s17⟩,?_⟩⟩;rintro K z n ⟨k,b,rfl,N,hz,hb,s18⟩-;have a:=s18.quiet (aZ.drew K [])
 by_cases c:k<6
 .have M:=(o i).u k c;have Q:=(o j).u k c;have R:=O k c;refine di (by omega) ⟨by omega,by omega,(cK m i).at' k,by rw[iC,br a 2 rfl c],by omega,by omega,(cK m j).at' k,by rw[iC,br a 1 rfl c],by omega,by omega,?_⟩;rw[iC,gC (by omega)];refine a.cL 0 rfl c rfl λD B=>?_;rw[I6.nW _ _ _ c] at B;refine⟨6-(k+1),by omega,k+1,b.put k ((cK m i).at' k-(cK m j).at' k),inc (by decide) c,by omega,rfl,λq C=>?_,B⟩;rw[I6.mq _ _ _ _ c C]
  by_cases h:q=k
  .subst h;rw[ag (by first|rfl|omega),ag (by omega),AR C]
  rw[af (by first|exact h|exact λp=>h p.symm),hb q C]
  by_cases p:q<k
  .rw[ag p,ag (by omega)]
  rw[af p,af (by omega)]
 obtain rfl:k=6:=by omega
 obtain rfl:b=vm (cK m i) (cK m j):=I6.ext' λq C=>by rw[hb q C,ag C]
 have M:=hT.aK a.aK;obtain⟨qo,hqo,ho⟩:=iW (St.rd gm (a.out 4 rfl)) (lM (λk=>if k<i then uD m T U k (k+1) else if k=i then uD m T U i j else 0) d)
 cases hqo
 obtain⟨qt,R,ht⟩:=iW M (getD_some (T:=T) (i:=j) (by omega));have hr:=o8 S 6 (by omega);rw[<-uE] at hr;have hrn:(rk m (vm (cK m i) (cK m j))).toNat<bI m:=by show(ku m _ 6).toNat<_;omega
 refine cF (by rfl) (av rfl ⟨by omega,by omega,_,by rw[aq];exact ho,av R ⟨by omega,by omega,_,by rw[aq];exact ht,m,a.cellsIn 5 rfl,vm (cK m i) (cK m j),a.cellsIn 0 rfl,a.qu (Mp _ S) λw20 p=>?_⟩⟩);obtain⟨qo',Q,ho'⟩:=iW (St.rd gm (p.out 4 rfl)) (lM (λk=>if k<i then uD m T U k (k+1) else if k=i then uD m T U i j else 0) d)
 cases Q
 obtain⟨qt',D,ht'⟩:=iW (hT.aK p.aK) (getD_some (T:=T) (i:=j) (by omega));rw[R] at D;cases D;obtain⟨qu,hqu,hu⟩:=iW (hU.aK p.aK) (getD_some (T:=U) (i:=(rk m (vm (cK m i) (cK m j))).toNat) (by omega));have b1:=lD (by decide) bT j;have b2:=lD (by decide) bU (rk m (vm (cK m i) (cK m j))).toNat;refine⟨_,rfl,by rw[aq];exact ht',by rw[aq];exact ho',av hqu ⟨hr.1,by omega,_,hu,av rfl ⟨by omega,by omega,?_⟩⟩⟩;rw[fQ (n:=T.getD j 0+U.getD (rk m (vm (cK m i) (cK m j))).toNat 0) ⟨by omega,by omega⟩,aq,af (show ¬ i<i by omega),ag rfl];refine St.kP (v:=iv) rfl (p.out 4 rfl) (i:=i) (by rw[lF];omega) λw21 B=>?_;have B:=(B.back (i:=4) (by show 4<7;decide)).aM [2,3,4,5,6];have e:((List.range (bI m)).map λk=>if k<i then uD m T U k (k+1) else if k=i then uD m T U i j else 0).set i (if T.getD j 0+U.getD (rk m (vm (cK m i) (cK m j))).toNat 0>uD m T U i j then T.getD j 0+U.getD (rk m (vm (cK m i) (cK m j))).toNat 0 else uD m T U i j)=(List.range (bI m)).map λk=>if k<i then uD m T U k (k+1) else if k=i then uD m T U i (j+1) else 0:=by
  rw[uW];refine bq λk _=>?_
  by_cases h:k=i
  .subst h;rw[ag rfl,af (show ¬ k<k by omega),ag rfl,uD,hw,ag rfl]
  rw[af h,af h,af h]
 rw[e] at B;exact B
def U5(m:I6)(T U:List Int):List Int:=(List.range (bI m)).map λk=>if U.getD k 0>T.getD k 0 then U.getD k 0 else T.getD k 0
def jm(m:I6)(op:Int)(a:List (List Int)):Nat->List Int
 |0=>List.replicate (bI m) 0
 |k+1=>if op=3/\0<k then Rc m (jm m op a k) (a.getD k []) else U5 m (jm m op a k) (a.getD k [])
def vC(op:Int)(u:I6)(v:Int)(c:I6)(t:Int):Int:=if (op=1\/op=4)/\within u c=true then t+v else t
def yG(op v t:Int):Int:=if op=5 then (if v<t then v else t) else t
def Pj(m:I6)(op:Int)(u:I6)(v:Int)(T:List Int):List Int:=(List.range (bI m)).map λi=>pE (yG op v (vC op u v (cK m i) (T.getD i 0)))
mutual
def allM(m:I6):Xv->List Int
 |.mk op u v _ _ args=>Pj m op u v (jm m op (Nb m args) args.length)
def Nb(m:I6):List Xv->List (List Int)
 |[]=>[]
 |x::l=>allM m x::Nb m l
end
theorem IX(m:I6):∀l:List Xv,Nb m l=l.map (allM m)
 |[]=>rfl
 |x::l=>by rw[Nb,IX m l];rfl
def zQ(m:I6)(x:Xv):allM m x=Pj m x.op x.u x.v (jm m x.op (x.args.map (allM m)) x.args.length):=by cases x;rw[allM,IX];rfl
def Gx(x:Xv):Prop:=∀y∈pW x,U7 y/\y.args.length<=8
def Gx.self{x:Xv}(h:Gx x):U7 x/\x.args.length<=8:=h x (by rw[vJ];simp)
def Gx.sub{x:Xv}(h:Gx x):∀y∈x.args,Gx y:=λy a z b=>h z (by rw[vJ];exact cR _ (dx.2 ⟨y,a,b⟩))
def Bo{x:Xv}(h:U7 x)(b:x.op≠2/\x.op≠3):1<=x.v/\x.v<=1000000:=by
 have a:=h.2;unfold kU at a;rw[af (by rintro(h|h);exact b.1 h;exact b.2 h)] at a
 split at a
 .cases a
 omega
abbrev Bt (b:Int) (T:List Int):Prop:=∀t∈T,0<=t/\t<=b
def GX{b:Int}{f:Nat->Int}{n:Nat}(h:∀i,0<=f i/\f i<=b):Bt b ((List.range n).map f):=λt a=>by
 obtain⟨i,_,rfl⟩:=aN.1 a;exact h i
def VA{v:Int}(h:0<=v):0<=pE v/\pE v<=1000000:=by unfold pE;split<;>omega
def SB{x:Xv}(h:U7 x){t:Int}{c:I6}(d:0<=t):0<=yG x.op x.v (vC x.op x.u x.v c t):=by
 have b:0<=vC x.op x.u x.v c t:=by
  unfold vC;split
  .rename_i a;have:=Bo h (by omega);omega
  exact d
 unfold yG;split
 .rename_i a;have:=Bo h (by omega)
  split<;>omega
 exact b
def Wc{m:I6}{x:Xv}(h:U7 x){T:List Int}{b:Int}(c:0<=b)(a:Bt b T):Bt 1000000 (Pj m x.op x.u x.v T):=
 GX λi=>VA (SB h (lD c a i).1)
theorem Ag{m:I6}{op:Int}{a:List (List Int)}(h:∀t∈a,Bt 1000000 t):∀k:Nat,Bt ((k:Int)*1000000) (jm m op a k)
 |0=>λt b=>by have:=fZ b;subst this;simp
 |k+1=>by
  have d:=Ag (m:=m) (op:=op) h k;have c:Bt 1000000 (a.getD k []):=by
   rw[au]
   cases hk:a[k]? with
   |none=>exact λt b=>by simp at b
   |some t=>exact h t (ak hk)
  have e:((k+1:Nat):Int)*1000000=(k:Int)*1000000+1000000:=by omega
  rw[jm,e]
  split
  .exact GX λi=>TA (by omega) (by decide) d c i (i+1)
  refine GX λi=>?_;have f:=lD (by omega) d i;have g:=lD (by decide) c i
  split<;>omega
def Pk(m:I6)(op:Int)(a:List (List Int)):∀k,(jm m op a k).length=bI m
 |0=>bS
 |k+1=>by rw[jm];split<;>simp[Rc,U5]
def wG(m:I6)(x:Xv):(allM m x).length=bI m:=by rw[zQ];simp[Pj]
def sD{m:I6}:∀x,Gx x->Bt 1000000 (allM m x):=Xv.ind λx d h=>by
 rw[zQ];refine Wc h.self.1 (b:=(x.args.length:Int)*1000000) (by omega) (Ag (λt c=>?_) _);obtain⟨y,a,rfl⟩:=aN.1 c;exact d y a (h.sub y a)
def TR{m:I6}(V:I6.Le m 4):∀(x:Xv),Gx x->∀w,x.In w->CP 216 #[.agg x.cells.toArray,.agg m.vs.toArray] w (λr c=>∃g,r=.slice (qs g) (allM m x).length (bI m)/\St w c (Sep [oQ (qs g) (bI m) (allM m x)])):=Xv.ind λx ih hg w hx=>by
 refine @P0 _ x.u _ _ _ _ _ _ _ ?_;obtain⟨hp,hp2,hp3⟩:=lC V;obtain⟨W,h8⟩:=hg.self;have hrk:=λ{i:Nat} (C:i<bI m)=>nQ V i C;refine bE x.cells.toArray λF w1 s1=>s1.aY m.vs.toArray λI w2 s2=>⟨m,s2.cellsIn 0 rfl,bF (Ew w2 V) λw3 c3=>?_⟩;have s3:=s2.quiet c3;refine⟨_,rfl,iD KZ gm (x:=0) rfl s3 (n:=bI m) (by omega) (by omega) λg w4 c4 s4=>?_⟩;let o:=x.args.map (allM m);have hts:∀t∈o,Bt 1000000 t:=λt X=>by
  obtain⟨y,M,rfl⟩:=aN.1 X;exact sD y (hg.sub y M)
 have lF:∀(f:Nat->Int),((List.range (bI m)).map f).length=bI m:=λf=>by simp
 refine⟨λa3 l3 c3 n w5 z=>∃(k g:Nat),n=k/\k<=x.args.length/\z=x.args.length-k/\a3=qs g/\l3=bI m/\c3=bI m/\St w w5 (Sep [oQ (qs g) (bI m) (jm m x.op o k),ay I m.vs.toArray 50,ay F x.cells.toArray 73,emp]),⟨x.args.length,0,g,rfl,by omega,by omega,rfl,rfl,rfl,s4⟩,?_⟩;rintro w5 z a3 l3 c3' n ⟨k,g,rfl,hk,hz,rfl,rfl,rfl,Z⟩-;refine⟨_,_,_,Z.aj 2 rfl 8,?_⟩;have lT:=Pk m x.op o k;have bT:=Ag (m:=m) (op:=x.op) hts k
 by_cases S:k<x.args.length
 .have M:=gE S;generalize x.args[k]'S=y at M;have s:=ak M;have a:=Z.quiet (aZ.drew w5 []);obtain⟨q,hq,R⟩:=(hx.aK a.aK).fl.at M;have N:o.getD k []=allM m y:=by rw[au,aL,M];rfl
  refine di (by omega) ⟨λa5 l5 c5 w6=>∃g,a5=qs g/\l5=bI m/\c5=bI m/\St w w6 (Sep [oQ (qs g) (bI m) (jm m x.op o (k+1)),ay I m.vs.toArray 50,ay F x.cells.toArray 73,emp]),?_,_,_,_,a.aj 2 rfl 8,av hq ⟨by omega,by omega,_,y.u,_,_,_,_,R,m,a.cellsIn 1 rfl,bg (ih y s (hg.sub y s) w5.drew ((hx.aK a.aK).sub y s)) ?_⟩⟩
  .rintro w6 a5 l5 c5 ⟨g,rfl,rfl,rfl,b⟩-;exact⟨x.args.length-(k+1),by omega,k+1,g,gC (by omega),by omega,rfl,rfl,rfl,rfl,b⟩
  rintro v w7 ⟨P,rfl,k7⟩;have G:St w w7 (Sep [oQ (qs P) (bI m) (allM m y),oQ (qs g) (bI m) (jm m x.op o k),ay I m.vs.toArray 50,ay F x.cells.toArray 73,emp]):=a.and k7.single;have lU:=wG m y;have bU:=sD (m:=m) y (hg.sub y s);refine⟨_,_,_,rfl,λb Q=>b=decide (x.op=3/\0<k)/\Q=w7,?_,_,G.aj 3 rfl 0,?_⟩
  rotate_left
  .refine cBq (λE=>⟨?_,rfl⟩) λE=>⟨by rw[dF (p:=x.op=3/\0<k) (λh=>E h.1)],rfl⟩
   by_cases d:0<k
   .rw[dT (p:=x.op=3/\0<k) ⟨E,d⟩];exact dT (by omega)
   rw[dF (p:=x.op=3/\0<k) (λh=>d h.2)];exact dF (by omega)
  rintro Q b ⟨rfl,rfl⟩-
  by_cases E:x.op=3/\0<k
  .have e:jm m x.op o (k+1)=Rc m (jm m x.op o k) (allM m y):=by rw[jm,ag E,N]
   have j:(k:Int)<=8:=by omega
   have call:=W4 (w:=Q) V (c1:=bI m) (c2:=bI m) (St.rd gm (G.out 1 rfl)) (St.rd gm (G.out 0 rfl)) lT lU (λt X=>by have:=bT t X;omega) (λt X=>by have:=bU t X;omega);rw[lT] at call;refine di E ⟨m,G.cellsIn 2 rfl,bg call ?_⟩;rintro v B ⟨d,rfl,l⟩;have A:St w B (Sep [oQ (qs d) (bI m) (Rc m (jm m x.op o k) (allM m y)),oQ (qs P) (bI m) (allM m y),oQ (qs g) (bI m) (jm m x.op o k),ay I m.vs.toArray 50,ay F x.cells.toArray 73,emp]):=G.and l.single;exact⟨_,_,_,rfl,d,rfl,by simp[Rc],rfl,by rw[e];exact A.aM [0,3,4,5]⟩
  have e:jm m x.op o (k+1)=U5 m (jm m x.op o k) (allM m y):=by rw[jm,af E,N]
  generalize jm m x.op o k=T at *;generalize allM m y=U at *;let l:Nat->List Int:=λj=>(List.range (bI m)).map λi=>if i<j then (if U.getD i 0>T.getD i 0 then U.getD i 0 else T.getD i 0) else T.getD i 0
  have eT:T=l 0:=by
   apply aX;intro i
   by_cases C:i<bI m
   .rw[lM _ C,af (by omega),getD_some (by omega)]
   rw[aJ (by omega),aJ (by rw[lF];omega)]
  have G:St w Q (Sep [oQ (qs P) (bI m) U,oQ (qs g) (bI m) (l 0),ay I m.vs.toArray 50,ay F x.cells.toArray 73,emp]):=by rw[<-eT];exact G
  refine dz E ⟨λn L z=>∃j:Nat,n=j/\j<=bI m/\z=bI m-j/\St w L (Sep [oQ (qs P) (bI m) U,oQ (qs g) (bI m) (l j),ay I m.vs.toArray 50,ay F x.cells.toArray 73,emp]),⟨bI m,0,rfl,by omega,by omega,G⟩,?_⟩;rintro L z' n ⟨j,rfl,hj,hz',J⟩-
  by_cases D:j<bI m
  .have K:=J.quiet (aZ.drew L []);obtain⟨q1,H,g1⟩:=iW (St.rd gm (K.out 1 rfl)) (lM (λi=>if i<j then (if U.getD i 0>T.getD i 0 then U.getD i 0 else T.getD i 0) else T.getD i 0) D)
   cases H
   rw[af (show ¬ j<j by omega)] at g1;obtain⟨q2,Y,g2⟩:=iW (St.rd gm (K.out 0 rfl)) (getD_some (T:=U) (i:=j) (by omega))
   cases Y
   refine di (by omega) (av rfl ⟨by omega,by omega,_,by rw[aq];exact g1,av rfl ⟨by omega,by omega,_,by rw[aq];exact g2,av rfl ⟨by omega,by omega,?_⟩⟩⟩);rw[aq];refine St.kP (v:=iv) rfl (K.out 1 rfl) (i:=j) (by rw[lF];omega) λA d=>?_;have d:=d.back (i:=1) (by show 1<5;decide);refine mS (by omega) ?_;have B:(l j).set j (if U.getD j 0>T.getD j 0 then U.getD j 0 else T.getD j 0)=l (j+1):=by
    rw[uW];refine bq λi _=>?_
    by_cases h:i=j
    .subst h;rw[ag rfl,ag (show i<i+1 by omega)]
    rw[af h]
    by_cases O:i<j
    .rw[ag O,ag (show i<j+1 by omega)]
    rw[af O,af (show ¬ i<j+1 by omega)]
   rw[B] at d;exact d
  obtain rfl:j=bI m:=by omega
  have B:l (bI m)=U5 m T U:=bq λi C=>by rw[ag (eV.1 C)]
  rw[B] at J;exact dz (by omega) ⟨g,rfl,rfl,rfl,by rw[e];exact J.second⟩
 obtain rfl:k=x.args.length:=by omega
 have eA:=zQ m x;generalize jm m x.op o x.args.length=T at *;let fi:Nat->Int:=λi=>pE (yG x.op x.v (vC x.op x.u x.v (cK m i) (T.getD i 0)));let l:Nat->List Int:=λj=>(List.range (bI m)).map λi=>if i<j then fi i else T.getD i 0
 let e:Nat->Int->List Int:=λj v=>(List.range (bI m)).map λi=>if i<j then fi i else if i=j then v else T.getD i 0
 have eT:T=l 0:=by
  apply aX;intro i
  by_cases C:i<bI m
  .rw[lM _ C,af (by omega),getD_some (by omega)]
  rw[aJ (by omega),aJ (by rw[lF];omega)]
 have eF:∀j,l j=e j (T.getD j 0):=λj=>bq λi _=>by
  by_cases h:i<j
  .rw[ag h,ag h]
  rw[af h,af h];split
  .rename_i h;rw[h]
  rfl
 have eS:∀j v v',(e j v).set j v'=e j v':=λj v v'=>by
  rw[uW];refine bq λi _=>?_
  by_cases h:i=j
  .subst h;rw[ag rfl,af (by omega),ag rfl]
  rw[af h,af h,af h]
 have eN:∀j,e j (fi j)=l (j+1):=λj=>bq λi _=>by
  by_cases h:i<j
  .rw[ag h,ag (by omega)]
  rw[af h]
  by_cases O:i=j
  .subst O;rw[ag rfl,ag (by omega)]
  rw[af O,af (by omega)]
 let M:List Int->List bP:=λT=>[oQ (qs g) (bI m) T,ay I m.vs.toArray 50,ay F x.cells.toArray 73,emp];have Z:St w w5 (Sep (M (l 0))):=by rw[<-eT];exact Z
 refine dz (by omega) ⟨λn A z=>∃j:Nat,n=j/\j<=bI m/\z=bI m-j/\St w A (Sep (M (l j))),⟨bI m,0,rfl,by omega,by omega,Z⟩,?_⟩;rintro A z' n ⟨j,rfl,hj,hz',d⟩-
 by_cases D:j<bI m
 rotate_left
 .obtain rfl:j=bI m:=by omega
  have B:l (bI m)=allM m x:=by rw[eA];exact bq λi C=>by rw[ag (eV.1 C)]
  rw[B] at d;exact dz (by omega) ⟨g,by rw[wG],d.aM [0]⟩
 rw[eF] at d;have t0:=(lD (by omega) bT j).1;have t1:T.getD j 0<=8000000:=by have:=(lD (by omega) bT j).2;omega
 have G:∀{c:ah} {v:Int},St w c (Sep (M (e j v)))->c.cell? (Addr.add ⟨g,0,none⟩ (((j:Nat):Int).toNat*1))=some (iv v):=λ{c v} s=>by
  obtain⟨q1,H,g1⟩:=iW (St.rd gm (s.out 0 rfl)) (lM (λi=>if i<j then fi i else if i=j then v else T.getD i 0) D)
  cases H
  rw[af (show ¬ j<j by omega),ag rfl] at g1;rw[aq];exact g1
 have N:∀{c:ah} {v v':Int} {K:ah->Prop},St w c (Sep (M (e j v)))->(∀y,St w y (Sep (M (e j v')))->K y)->kB c (Addr.add ⟨g,0,none⟩ (((j:Nat):Int).toNat*1)) (iv v') K:=λ{c v v' K} s k=>by
  rw[aq];refine St.kP (v:=iv) rfl (s.out 0 rfl) (i:=j) (by rw[lF];omega) λy a=>k y ?_;have a:=a.back (i:=0) (by show 0<4;decide);have a:St w y (Sep (M ((e j v).set j v'))):=a;rw[eS] at a;exact a
 let v1:=vC x.op x.u x.v (cK m j) (T.getD j 0);let O:=yG x.op x.v v1;have hv2:0<=O:=SB W t0;have E:∀{c:ah},St w c (Sep (M (e j O)))->fN (some (⟨g,0,none⟩:Addr)) λq5=>0<=(j:Int)/\(j:Int)<((bI m:Nat):Int)/\∃Y:Int,c.cell? (Addr.add q5 (((j:Nat):Int).toNat*1))=some (iv Y) /\
   CC 303 #[iv Y] c λP J=>∃a:Int,P=.returned (iv a)/\fN (some (⟨g,0,none⟩:Addr)) λQ=>0<=(j:Int)/\(j:Int)<((bI m:Nat):Int)/\kB J (Addr.add Q (((j:Nat):Int).toNat*1)) (iv a) λq=>
    ∃L,L<z'/\∃H:Nat,IntKind.i64.wrap ((j:Int)+1)=(H:Int)/\H<=bI m/\L=bI m-H/\St w q (Sep (M (l H))):=λ{c} s=>by
  refine av rfl ⟨by omega,by omega,_,G s,kR (Qb c _) ⟨_,rfl,av rfl ⟨by omega,by omega,N (v':=pE O) s λq a=>(mS (by omega) ?_)⟩⟩⟩;rw[<-eN];exact a
 have a:=d.quiet (aZ.drew A []);refine di (by omega) ⟨λJ=>St w J (Sep (M (e j v1))),?_,λb L=>b=decide ((x.op=1\/x.op=4)/\within x.u (cK m j)=true)/\St w L (Sep (M (e j (T.getD j 0)))),?_,_,a.aj 2 rfl 0,?_⟩
 .rintro J H -;refine⟨λP=>St w P (Sep (M (e j O))),λP q _=>E q,_,St.aj H 2 rfl 0,?_⟩
  by_cases Q:x.op=5
  .have q:=St.quiet H (aZ.drew J []);have B:O=if x.v<v1 then x.v else v1:=by show yG x.op x.v v1=_;rw[yG,ag Q]
   refine gM Q (av rfl ⟨by omega,by omega,_,G q,_,St.aj q 2 rfl 7,av rfl ⟨by omega,by omega,N q λw17 R=>?_⟩⟩);rw[B];exact R
  have B:O=v1:=by show yG x.op x.v v1=_;rw[yG,af Q]
  exact iI Q (by rw[B];exact H)
 .rintro L b ⟨rfl,P⟩-
  by_cases Q:(x.op=1\/x.op=4)/\within x.u (cK m j)=true
  .have hv:=Bo W (by omega);have R:v1=T.getD j 0+x.v:=by show vC x.op x.u x.v (cK m j) (T.getD j 0)=_;rw[vC,ag Q]
   have H:=P.quiet (aZ.drew L []);refine di Q (av rfl ⟨by omega,by omega,_,G H,_,H.aj 2 rfl 7,av rfl ⟨by omega,by omega,?_⟩⟩);rw[gC (by omega)];exact N H λq B=>by rw[R];exact B
  have R:v1=T.getD j 0:=by show vC x.op x.u x.v (cK m j) (T.getD j 0)=_;rw[vC,af Q]
  exact dz Q (by rw[R];exact P)
 have Q:=Om (w:=A.drew) (gw V j);rw[hrk D] at Q;have P:∀{R:Bool->ah->Prop},(x.op=1\/x.op=4)->(∀c,St w c (Sep (M (e j (T.getD j 0))))->R (decide ((x.op=1\/x.op=4)/\within x.u (cK m j)=true)) c) ->
   CC 302 #[.agg m.vs.toArray,iv j] A.drew λe6 q=>∃u9:I6,e6=.returned (.agg u9.vs.toArray)/\aU q ⟨F,1,none⟩ 0 x.u.vs/\CC 301 #[.agg x.u.vs.toArray,.agg u9.vs.toArray] q λe7 H=>∃b3:Bool,e7=.returned (.bool b3)/\R b3 H:=λ{R} ho k=>by
  refine a.qu Q λq B=>⟨_,rfl,B.bA 2 1 rfl rfl,bF (Cc q _ _) λH c21=>⟨_,rfl,?_⟩⟩;have:=k H (B.quiet c21)
  cases hw:within x.u (cK m j) with
  |true=>rw[hw,dT (p:=(x.op=1\/x.op=4)/\true=true) ⟨ho,rfl⟩] at this;exact this
  |false=>rw[hw,dF (p:=(x.op=1\/x.op=4)/\false=true) (λh=>by cases h.2)] at this;exact this
 by_cases q:x.op=1
 .exact gM q ⟨x.u,a.bA 2 1 rfl rfl,m,a.cellsIn 1 rfl,P (.inl q) λc s=>⟨rfl,s⟩⟩
 exact iI q ⟨_,a.aj 2 rfl 0,cBq (λB=>⟨x.u,a.bA 2 1 rfl rfl,m,a.cellsIn 1 rfl,P (.inr B) λc s=>⟨rfl,s⟩⟩) λB=>⟨by rw[dF (p:=(x.op=1\/x.op=4)/\within x.u (cK m j)=true) (by rintro⟨h|h,_⟩;exact q h;exact B h)],a⟩⟩
section
variable {m:I6}
def DB(a:I6.Le m 4){u:I6}(d:rP m u):∃i,i<bI m/\cK m i=u/\(rk m u).toNat=i:=by
 have c:=o8 d 6 (by omega);rw[<-uE] at c;have f:=(lC a).2.1;have b:(rk m u).toNat<bI m:=by show(ku m u 6).toNat<_;omega
 refine⟨_,b,I6.ext' (MB (gw a _) d (aD 6) ?_),rfl⟩;have:=nQ a (rk m u).toNat b;show rk m _=rk m u;rw[this];have e:0<=rk m u:=c.1;omega
theorem Oq{u v:I6}(a:rP m u)(b:rP m v)(h:within u v=true):∀k,k<=6->ku m u k<=ku m v k
 |0,_=>bR _
 |k+1,g=>by
  have c:=Oq a b h k (by omega);have d:=within_iff.1 h k (by omega);have e:=a.mm k (by omega);have f:ku m u k*(m.at' k+1)<=ku m v k*(m.at' k+1):=bt c (by omega);rw[ku,ku];omega
def rO(u:I6):within u u=true:=within_iff.2 λ_ _=>bR _
def A0{a b c:I6}(h:within a b=true)(k:within b c=true):within a c=true:=within_iff.2 λi d=>bM (within_iff.1 h i d) (within_iff.1 k i d)
def zk{u w:I6}(b:rP m u)(c:I6.Le w 4)(d:within w u=true):rP m w:=⟨b.mm,λk a=>⟨(c k a).1,bM (within_iff.1 d k a) (b.u k a).2⟩⟩
def vE{w:I6}(h:rP m w):within w m=true:=within_iff.2 λk a=>(h.u k a).2
def lz{v n:Int}(h:n<1000000):pE v<=n<->v<=n:=by unfold pE;split<;>omega
def Rt(m:I6)(T:List Int)(f:Wf):Prop:=∀i,i<bI m->∀n:Int,0<=n->n<1000000->(T.getD i 0<=n<->∀w,rP m w->within w (cK m i)=true->f w<=n)
abbrev Nn (f:Wf):Prop:=∀w,0<=f w
def u7{lim:I6}{f:Wf}{Q:List KV}(h:Nn f):Nn (gY lim f Q):=λw=>cq λa=>by
 have b:=((jI (lim:=lim) (f:=f) (Q:=Q) (w:=w) (n:=-1)).1 (by omega)).1;have:=h w;omega
def yU:Nn zW:=λ_=>bR _
def uc{f:Wf}{p:KV}(c:I6.Le p.1 4):p∈zL f<->0<f p.1/\p.2=f p.1:=by
 constructor
 .intro h;obtain⟨u,a,rfl⟩:=aN.1 h;exact⟨dG (cS.1 a).2,rfl⟩
 rintro⟨a,b⟩;exact aN.2 ⟨p.1,cS.2 ⟨J6 c,dT a⟩,mG rfl b.symm⟩
def sG{f:Wf}{p:KV}(h:p∈zL f):0<f p.1/\p.2=f p.1/\p.1∈OZ:=by
 obtain⟨u,a,rfl⟩:=aN.1 h;exact⟨dG (cS.1 a).2,rfl,(cS.1 a).1⟩
def GO{u:I6}(h:u∈OZ):I6.Le u 4:=by
 have r:∀{a:Int},a∈r5->0<=a/\a<=4:=λ{a} h=>by simp[r5] at h;omega
 unfold OZ at h;obtain⟨a,g,h⟩:=dx.1 h;obtain⟨b,i,h⟩:=dx.1 h;obtain⟨c,j,h⟩:=dx.1 h;obtain⟨d,hd,h⟩:=dx.1 h;obtain⟨e,l,h⟩:=dx.1 h;obtain⟨f,m,rfl⟩:=aN.1 h;intro k n
 match k,n with
 |0,_=>exact r g
 |1,_=>exact r i
 |2,_=>exact r j
 |3,_=>exact r hd
 |4,_=>exact r l
 |5,_=>exact r m
def Rt.hit{T:List Int}{f:Wf}(e:I6.Le m 4)(h:Rt m T f)(d:Nn f){i:Nat}(hi:i<bI m)(k:0<=T.getD i 0){n:Int}(p:n<1000000)(o:T.getD i 0<=n):∃w,rP m w/\within w (cK m i)=true/\T.getD i 0<=f w:=by
 by_cases j:T.getD i 0=0
 .exact⟨cK m i,gw e i,rO _,by rw[j];exact d _⟩
 refine Classical.byContradiction λa=>?_;have l:=(h i hi (T.getD i 0-1) (by omega) (by omega)).2 λw g b=>by
  have:¬ T.getD i 0<=f w:=λc=>a ⟨w,g,b,c⟩;omega
 omega
def Rt.le{T:List Int}{f:Wf}(h:Rt m T f){i:Nat}(hi:i<bI m)(b:0<=T.getD i 0){n:Int}(e:n<1000000)(d:T.getD i 0<=n){w:I6}(c:rP m w)(a:within w (cK m i)=true):f w<=T.getD i 0:=
 (h i hi (T.getD i 0) b (by omega)).1 (bR _) w c a
def Ov:Rt m (List.replicate (bI m) 0) zW:=λi b n a _=>by
 rw[au,cM,ag b];exact⟨λ_ _ _ _=>a,λ_=>a⟩
def qM{f:Nat->Int}{n i:Nat}(h:i<n):((List.range n).map f).getD i 0=f i:=by rw[au,lM _ h];rfl
def M4{f g:Wf}{w:I6}{n:Int}(b:rP m w)(i:0<=n)(a:n<1000000):CL m f g w<=n<->f w<=n/\g w<=n:=by
 rw[CL,jI];refine lu λ_=>⟨λh=>?_,λh p d e _=>?_⟩
 .by_cases c:0<g w
  .exact(lz a).1 (h (w,g w) ((uc b.le).2 ⟨c,rfl⟩) rfl (vE b))
  omega
 rw[lz a,(sG d).2.1,e];exact h
def Z9{T U:List Int}{f g:Wf}(h:Rt m T f)(k:Rt m U g):Rt m (U5 m T U) (CL m f g):=λi o n j l=>by
 rw[U5,qM o];have p:=h i o n j l;have q:=k i o n j l;have e:(if U.getD i 0>T.getD i 0 then U.getD i 0 else T.getD i 0)<=n<->T.getD i 0<=n/\U.getD i 0<=n:=by split<;>omega
 rw[e,p,q];constructor
 .rintro⟨a,b⟩ w d c;exact(M4 d j l).2 ⟨a w d c,b w d c⟩
 intro a;exact⟨λw d c=>((M4 d j l).1 (a w d c)).1,λw d c=>((M4 d j l).1 (a w d c)).2⟩
def Ln(c d:I6):I6:=c.zip (· + ·) d
def oV{c d:I6}{k:Nat}(a:k<6):(Ln c d).at' k=c.at' k+d.at' k:=I6.mU _ _ _ _ a
def Ye{f g:Wf}(y:Nn f)(z:Nn g){u:I6}(s:rP m u){n:Int}(G:0<=n)(v:n<1000000):(∀w,rP m w->within w u=true->Lh m f g w<=n)<->∀a b,rP m a->rP m b->within (Ln a b) u=true->f a+g b<=n:=by
 have B:=A3 s.mm;have one:∀{w:I6},(Lh m f g w<=n<->∀p∈zL f++(zL g++Gk (zL f) (zL g)),p.1=w->within w m=true->pE p.2<=n):=λ{w}=>by
  rw[Lh,jI];exact⟨λh=>h.2,λh=>⟨G,h⟩⟩
 constructor
 .intro h a b j l d;have q:within a u=true:=within_iff.2 λk c=>by have:=within_iff.1 d k c;rw[oV c] at this;have:=(l.u k c).1;omega
  have r:within b u=true:=within_iff.2 λk c=>by have:=within_iff.1 d k c;rw[oV c] at this;have:=(j.u k c).1;omega
  have x:=y a;have A:=z b
  by_cases t:0<f a
  .by_cases o:0<g b
   .have i:rP m (Ln a b):=⟨s.mm,λk c=>⟨by rw[oV c];have:=(j.u k c).1;have:=(l.u k c).1;omega,bM (within_iff.1 d k c) (s.u k c).2⟩⟩;have e:=one.1 (h _ i d) (Co (a,f a) (b,g b)) (cC _ (cC _ (yf.2 ⟨_,(uc j.le).2 ⟨t,rfl⟩,_,(uc l.le).2 ⟨o,rfl⟩,rfl⟩))) rfl (vE i);exact(lz v).1 e
   have e:=one.1 (h a j q) (a,f a) (cr _ ((uc j.le).2 ⟨t,rfl⟩)) rfl (vE j);have:=(lz v).1 e;simp only at this;omega
  by_cases o:0<g b
  .have e:=one.1 (h b l r) (b,g b) (cC _ (cr _ ((uc l.le).2 ⟨o,rfl⟩))) rfl (vE l);have:=(lz v).1 e;simp only at this;omega
  omega
 intro h w A r;have x:∀{a:I6},Ln a z6=a:=λ{a}=>I6.ext' λk c=>by rw[oV c,oU];omega
 have t:∀{a:I6},Ln z6 a=a:=λ{a}=>I6.ext' λk c=>by rw[oV c,oU];omega
 refine one.2 λp i e _=>(lz v).2 ?_;rcases aB.1 i with i|i
 .obtain⟨_,o,_⟩:=sG i;have:=h w z6 A B (by rw[x];exact r);have q:=z z6;rw[o,e];omega
 rcases aB.1 i with i|i
 .obtain⟨_,o,_⟩:=sG i;have:=h z6 w B A (by rw[t];exact r);have q:=y z6;rw[o,e];omega
 obtain⟨a,j,b,l,rfl⟩:=yf.1 i;obtain⟨_,C,D⟩:=sG j;obtain⟨_,E,F⟩:=sG l;have o:=GO D;have q:=GO F;have d:within (Ln a.1 b.1) u=true:=by
  have:Ln a.1 b.1=w:=e;rw[this];exact r
 have H:=zk s o (within_iff.2 λk c=>by have:=within_iff.1 d k c;rw[oV c] at this;have:=(q k c).1;omega);have I:=zk s q (within_iff.2 λk c=>by have:=within_iff.1 d k c;rw[oV c] at this;have:=(o k c).1;omega);have:=h a.1 b.1 H I d;show a.2+b.2<=n;rw[C,E];exact this
theorem TB{T U:List Int}{i:Nat}{n:Int}(f:0<=n):∀j,uD m T U i j<=n<->∀k,k<j->within (cK m k) (cK m i)=true->T.getD k 0+U.getD (rk m (vm (cK m i) (cK m k))).toNat 0<=n
 |0=>⟨λ_ k c=>by omega,λ_=>f⟩
 |j+1=>by
  have g:=TB (T:=T) (U:=U) (i:=i) f j;rw[uD]
  by_cases d:within (cK m j) (cK m i)=true
  .rw[ag d];have e:(if T.getD j 0+U.getD (rk m (vm (cK m i) (cK m j))).toNat 0>uD m T U i j then T.getD j 0+U.getD (rk m (vm (cK m i) (cK m j))).toNat 0 else uD m T U i j)<=n<->uD m T U i j<=n/\T.getD j 0+U.getD (rk m (vm (cK m i) (cK m j))).toNat 0<=n:=by split<;>omega
   rw[e,g];constructor
   .rintro⟨a,b⟩ k c;rcases aQ k j with h|h
    .exact a k h
    obtain rfl:k=j:=by omega
    exact λ_=>b
   intro a;exact⟨λk c=>a k (by omega),a j (by omega) d⟩
  rw[af d,g];constructor
  .intro a k c;rcases aQ k j with h|h
   .exact a k h
   obtain rfl:k=j:=by omega
   exact λh=>absurd h d
  intro a k c;exact a k (by omega)
def ab9(c:I6.Le m 4){T U:List Int}{f g:Wf}(E:Nn f)(F:Nn g)(bT:∀i,0<=T.getD i 0)(I:∀i,0<=U.getD i 0)(h:Rt m T f)(k:Rt m U g):Rt m (Rc m T U) (Lh m f g):=λi J n z l=>by
 rw[Rc,qM J,TB z,Ye E F (gw c i) z l];constructor
 .intro H a b t v s;obtain⟨j,G,rfl,_⟩:=DB c t;have e:within (cK m j) (cK m i)=true:=within_iff.2 λq d=>by have:=within_iff.1 s q d;rw[oV d] at this;have:=(v.u q d).1;omega
  have w:j<i+1:=by
   have x:=Oq (gw c j) (gw c i) e 6 (by omega);have B:=nQ c j G;have o:=nQ c i J;have x:rk m (cK m j)<=rk m (cK m i):=x;omega
  have y:=H j w e;obtain⟨r,A,o,p⟩:=DB c (IA (gw c i) (gw c j) e);rw[p] at y;have t1:=bT j;have t2:=I r;have x:=h.le G t1 (n:=n) l (by omega) t (rO _);have B:=k.le A t2 (n:=n) l (by omega) v (by
   rw[o];exact within_iff.2 λq d=>by have:=within_iff.1 s q d;rw[oV d] at this;rw[AR d];omega)
  omega
 intro H j G e;have y:j<bI m:=by omega
 obtain⟨r,A,o,p⟩:=DB c (IA (gw c i) (gw c j) e);rw[p];have t1:=bT j;have t2:=I r;have fa:∀a b,rP m a->rP m b->within a (cK m j)=true->within b (cK m r)=true->f a+g b<=n:=λa b t v x B=>H a b t v (within_iff.2 λq d=>by
  have w:=within_iff.1 x q d;have s:=within_iff.1 B q d;rw[o,AR d] at s;rw[oV d];omega)
 have M:=(h j y n z l).2 λw e s=>by
  have:=fa w z6 e (A3 c) s (within_iff.2 λq d=>by rw[oU];exact((gw c r).u q d).1);have:=F z6;omega
 have N:=(k r A n z l).2 λw e s=>by
  have:=fa z6 w (A3 c) e (within_iff.2 λq d=>by rw[oU];exact((gw c j).u q d).1) s;have:=E z6;omega
 obtain⟨a,t,C,K⟩:=h.hit c E y t1 l M;obtain⟨b,v,D,L⟩:=k.hit c F A t2 l N;have:=fa a b t v C D;omega
end
section
variable {m:I6}
def mx0{U:List Int}{i:Nat}(hi:i<bI m)(h:0<=U.getD i 0):(U5 m (List.replicate (bI m) 0) U).getD i 0=U.getD i 0:=by
 have e:(List.replicate (bI m) (0:Int)).getD i 0=0:=by rw[au,cM,ag hi];rfl
 rw[U5,qM hi,e]
 split<;>omega
def aaa(l:I6.Le m 4){U:List Int}{g:Wf}(s:Nn g)(p:∀i,0<=U.getD i 0)(k:Rt m U g):Rt m (U5 m (List.replicate (bI m) 0) U) (Lh m zW g):=λi j n f o=>by
 rw[mx0 j (p i),k i j n f o,Ye yU s (gw l i) f o];constructor
 .intro h a b e r d;have:=h b r (within_iff.2 λq c=>by have:=within_iff.1 d q c;rw[oV c] at this;have:=(e.u q c).1;omega);show 0+g b<=n;omega
 intro h w b a;have:=h z6 w (A3 l) b (within_iff.2 λq c=>by rw[oV c,oU];have:=within_iff.1 a q c;omega);have e:zW z6=0:=rfl;omega
def YI{g:Wf}(z:Nn g){u d:I6}(r:rP m u)(y:I6.Le d 4){v n:Int}(B:1<=v)(s:0<=n)(o:n<1000000):(∀w,rP m w->within w u=true->Lv m (d,v) g w<=n)<->if within d u=true then ∀w,rP m w->within w u=true->g w+v<=n else ∀w,rP m w->within w u=true->g w<=n:=by
 have one:∀{w:I6},(Lv m (d,v) g w<=n<->∀p∈zL g++([(d,v)]++(zL g).map (uU (d,v))),p.1=w->within w m=true->pE p.2<=n):=λ{w}=>by
  rw[Lv,jI];exact⟨λh=>h.2,λh=>⟨s,h⟩⟩
 have jn:∀{p:KV} {q:Nat},q<6->(uU (d,v) p).1.at' q=if d.at' q>p.1.at' q then d.at' q else p.1.at' q:=λ{p q} f=>I6.mU _ _ _ _ f
 by_cases c:within d u=true
 .rw[ag c];have k:=zk r y c;constructor
  .intro h w i b
   by_cases a:0<g w
   .have e:within (uU (d,v) (w,g w)).1 u=true:=within_iff.2 λq f=>by
     rw[jn f];have:=within_iff.1 c q f;have:=within_iff.1 b q f;split<;>assumption
    have l:I6.Le (uU (d,v) (w,g w)).1 4:=λq f=>by
     rw[jn f];split
     .exact y q f
     exact i.le q f
    have j:=one.1 (h _ (zk r l e) e) (uU (d,v) (w,g w)) (cC _ (cC _ (bV ((uc i.le).2 ⟨a,rfl⟩)))) rfl (vE (zk r l e));exact(lz o).1 j
   have j:=one.1 (h d k c) (d,v) (cC _ (cr _ (by simp))) rfl (vE k);have:=(lz o).1 j;have:=z w;simp only at *;omega
  intro h w i b;refine one.2 λp a e _=>(lz o).2 ?_;rcases aB.1 a with a|a
  .have:=h w i b;rw[(sG a).2.1,e];omega
  rcases aB.1 a with a|a
  .rw[aI.1 a];have:=h w i b;have:=z w;omega
  obtain⟨x,t,rfl⟩:=aN.1 a;obtain⟨_,p2,A⟩:=sG t;have l:within x.1 u=true:=within_iff.2 λq f=>by
   have j:=within_iff.1 b q f;rw[<-e,jn f] at j
   split at j<;>omega
  have:=h x.1 (zk r (GO A) l) l;show x.2+v<=n;rw[p2];exact this
 rw[af c];constructor
 .intro h w i b
  by_cases a:0<g w
  .exact(lz o).1 (one.1 (h w i b) (w,g w) (cr _ ((uc i.le).2 ⟨a,rfl⟩)) rfl (vE i))
  omega
 intro h w i b;refine one.2 λp a e _=>(lz o).2 ?_;rcases aB.1 a with a|a
 .rw[(sG a).2.1,e];exact h w i b
 rcases aB.1 a with a|a
 .rw[aI.1 a] at e;have e:d=w:=e;rw[e] at c;exact absurd b c
 obtain⟨p,a,rfl⟩:=aN.1 a;refine absurd (within_iff.2 λq f=>?_) c;have j:=within_iff.1 b q f;rw[<-e,jn f] at j
 split at j<;>omega
def Zn{g:Wf}{u:I6}{v n:Int}(c:0<=n)(i:n<1000000):(∀w,rP m w->within w u=true->L2 m v g w<=n)<->v<=n\/∀w,rP m w->within w u=true->g w<=n:=by
 have one:∀{w:I6},rP m w->(L2 m v g w<=n<->v<=n\/g w<=n):=λ{w} a=>by
  rw[L2,jI];constructor
  .intro h
   by_cases d:0<g w
   .have b:=(lz i).1 (h.2 (PJ v (w,g w)) (bV ((uc a.le).2 ⟨d,rfl⟩)) rfl (vE a));have b:(if v<g w then v else g w)<=n:=b
    split at b
    .exact .inl b
    exact .inr b
   exact .inr (by omega)
  intro h;refine⟨c,λp d e _=>(lz i).2 ?_⟩;obtain⟨f,b,rfl⟩:=aN.1 d;have e:f.1=w:=e;show(if v<f.2 then v else f.2)<=n;rw[(sG b).2.1,e]
  split<;>omega
 constructor
 .intro h
  by_cases d:v<=n
  .exact .inl d
  exact .inr λw a b=>by
   rcases(one a).1 (h w a b) with h|h
   .exact absurd h d
   exact h
 intro h w a b;refine(one a).2 ?_;rcases h with h|h
 .exact .inl h
 exact .inr (h w a b)
theorem Ap{op:Wf->Wf->Wf}(h:∀f g,Nn f->Nn (op f g)):∀(l:List Wf) (f:Wf),Nn f->Nn (l.foldl op f)
 |[],_,a=>a
 |g::l,f,a=>Ap h l _ (h f g a)
def Gd(x:Xv):Nn (nr m x):=by
 rw[uC]
 split
 .exact u7 yU
 split
 .exact Ap (λf g a=>u7 a) _ _ yU
 split
 .exact Ap (λf g _=>u7 yU) _ _ yU
 split
 .exact u7 yU
 split
 .exact u7 yU
 exact yU
def GP{x:Xv}(h:Gx x)(i:Nat):0<=(allM m x).getD i 0:=(lD (by decide) (sD x h) i).1
def Pm{x:Xv}(h:kq x=true):(x.op=1/\x.args=[])\/x.op=2\/x.op=3\/(x.op=4/\∃y,x.args=[y])\/(x.op=5/\∃y,x.args=[y]):=by
 have one:x.args.length=1->∃y,x.args=[y]:=λh=>List.length_eq_one_iff.1 h;unfold kq at h
 split at h
 .rename_i a;exact .inl ⟨a,jj.1 (by simpa using h)⟩
 split at h
 .rename_i a;rcases a with a|a
  .exact .inr (.inl a)
  exact .inr (.inr (.inl a))
 split at h
 .rename_i a;exact .inr (.inr (.inr (.inl ⟨a,one (by simpa using h)⟩)))
 split at h
 .rename_i a;rw[aF] at h;exact .inr (.inr (.inr (.inr ⟨a,one (by simpa using h.1)⟩)))
 cases h
def DT{a c:Type}(f:c->a->c)(b:c){l:List a}{k:Nat}{x:a}(h:l[k]?=some x):(l.take (k+1)).foldl f b=f ((l.take k).foldl f b) x:=by rw[bJ h,cG];rfl
def Uh(E:I6.Le m 4):∀x,Gx x->Rt m (allM m x) (nr m x):=Xv.ind λx R A=>by
 obtain⟨z,S⟩:=A.self;have q:=λy d=>R y d (A.sub y d);have F:∀t∈x.args.map (allM m),Bt 1000000 t:=λt Q=>by
  obtain⟨y,d,rfl⟩:=aN.1 Q;exact sD y (A.sub y d)
 have G:∀k i,0<=(jm m x.op (x.args.map (allM m)) k).getD i 0:=λk i=>(lD (by omega) (Ag F k) i).1;have val:∀{i:Nat},i<bI m->∀{n:Int},n<1000000->((allM m x).getD i 0<=n<->yG x.op x.v (vC x.op x.u x.v (cK m i) ((jm m x.op (x.args.map (allM m)) x.args.length).getD i 0))<=n):=λ{i} l {n} o=>by
  rw[zQ,Pj,qM l,lz o]
 have D:∀{k:Nat} {y:Xv},x.args[k]?=some y->(x.args.map (allM m)).getD k []=allM m y:=λ{k y} h=>by rw[au,aL,h];rfl
 have L:x.op≠2->x.op≠3->x.op≠5->I6.Le x.u 4:=λM N O=>by
  have h:=z.2;unfold kU at h;rw[af (by rintro(h|h);exact M h;exact N h)] at h
  split at h
  .cases h
  first|(rw[af O,aF] at h;exact C9 h.1)|(rw[aF] at h;exact C9 h.1)
 intro i l n r o;rw[val l o];rcases Pm z.1 with⟨j,s⟩|j|j|⟨j,y,s⟩|⟨j,y,s⟩
 .have K:=Bo z (by omega);have J:=L (by omega) (by omega) (by omega);have e:nr m x=gY m zW [(x.u,x.v)]:=by rw[uC,ag j]
  have C:(jm m x.op (x.args.map (allM m)) x.args.length).getD i 0=0:=by
   rw[s];show(List.replicate (bI m) (0:Int)).getD i 0=0;rw[au,cM,ag l];rfl
  rw[C,e,yG,af (by omega),vC]
  by_cases b:within x.u (cK m i)=true
  .rw[ag ⟨.inl j,b⟩];have a:=zk (gw E i) J b;constructor
   .intro h w _ _;rw[jI];refine⟨r,λp f _ _=>?_⟩;rw[aI.1 f,lz o];show x.v<=n;omega
   intro h;have:=((jI).1 (h x.u a b)).2 (x.u,x.v) (by simp) rfl (vE a);have:=(lz o).1 this;simp only at this;omega
  rw[af (λh=>b h.2)];refine⟨λ_ w _ c=>?_,λ_=>r⟩;rw[jI];refine⟨r,λp f e _=>?_⟩;rw[aI.1 f] at e;have e:x.u=w:=e;rw[e] at b;exact absurd c b
 .have e:nr m x=(x.args.map (nr m)).foldl (CL m) zW:=by rw[uC,af (by omega),ag j]
  have H:∀k,k<=x.args.length->Rt m (jm m x.op (x.args.map (allM m)) k) (((x.args.map (nr m)).take k).foldl (CL m) zW):=λk=>by
   induction k with
   |zero=>exact λ_=>Ov
   |succ k B=>
    intro P;obtain⟨y,d⟩:=dX x.args k (by omega);have p:(x.args.map (nr m))[k]?=some (nr m y):=by rw[aL,d];rfl
    rw[DT _ _ p,jm,af (by omega),D d];exact Z9 (B (by omega)) (q y (ak d))
  have:=H _ (aD _) i l n r o;rw[bB (by simp)] at this;rw[e,yG,af (by omega),vC,af (by rintro⟨h|h,_⟩<;>omega)];exact this
 .have e:nr m x=(x.args.map (nr m)).foldl (Lh m) zW:=by rw[uC,af (by omega),af (by omega),ag j]
  have H:∀k,k<=x.args.length->Rt m (jm m x.op (x.args.map (allM m)) k) (((x.args.map (nr m)).take k).foldl (Lh m) zW):=λk=>by
   induction k with
   |zero=>exact λ_=>Ov
   |succ k B=>
    intro P;obtain⟨y,d⟩:=dX x.args k (by omega);have a:=ak d;have p:(x.args.map (nr m))[k]?=some (nr m y):=by rw[aL,d];rfl
    rw[DT _ _ p,jm,D d]
    by_cases I:0<k
    .rw[ag ⟨j,I⟩];exact ab9 E (Ap (λf g _=>u7 yU) _ _ yU) (Gd y) (G k) (GP (A.sub y a)) (B (by omega)) (q y a)
    obtain rfl:k=0:=by omega
    rw[af (by omega)];exact aaa E (Gd y) (GP (A.sub y a)) (q y a)
  have:=H _ (aD _) i l n r o;rw[bB (by simp)] at this;rw[e,yG,af (by omega),vC,af (by rintro⟨h|h,_⟩<;>omega)];exact this
 .have K:=Bo z (by omega);have J:=L (by omega) (by omega) (by omega);have a:y∈x.args:=by rw[s];simp
  have e:nr m x=Lv m (x.u,x.v) (nr m y):=by rw[uC,af (by omega),af (by omega),af (by omega),ag j,s];rfl
  have f:=GP (m:=m) (A.sub y a) i;have C:(jm m x.op (x.args.map (allM m)) x.args.length).getD i 0=(allM m y).getD i 0:=by
   rw[s];show(jm m x.op [allM m y] 1).getD i 0=_;rw[jm,af (by omega)];exact mx0 l f
  rw[C,e,yG,af (by omega),vC,YI (Gd y) (gw E i) J K.1 r o];have d:=q y a
  by_cases b:within x.u (cK m i)=true
  .rw[ag ⟨.inr j,b⟩,ag b]
   by_cases g:x.v<=n
   .have:=d i l (n-x.v) (by omega) (by omega);constructor
    .intro h w b c;have:=this.1 (by omega) w b c;omega
    intro h;have:=this.2 λw b c=>by have:=h w b c;omega
    omega
   refine⟨λh=>absurd h (by omega),λh=>?_⟩;have:=h (cK m i) (gw E i) (rO _);have:=Gd (m:=m) y (cK m i);omega
  rw[af (λh=>b h.2),af b];exact d i l n r o
 have a:y∈x.args:=by rw[s];simp
 have e:nr m x=L2 m x.v (nr m y):=by rw[uC,af (by omega),af (by omega),af (by omega),af (by omega),ag j,s];rfl
 have f:=GP (m:=m) (A.sub y a) i;have C:(jm m x.op (x.args.map (allM m)) x.args.length).getD i 0=(allM m y).getD i 0:=by
  rw[s];show(jm m x.op [allM m y] 1).getD i 0=_;rw[jm,af (by omega)];exact mx0 l f
 have b:∀c t,vC x.op x.u x.v c t=t:=λc t=>by rw[vC,af (by rintro⟨h|h,_⟩<;>omega)]
 rw[C,e,b,yG,ag j,Zn r o,<-q y a i l n r o]
 split<;>omega
end
section
variable {m:I6}
theorem Gy{u v:I6}:∀{k:Nat},(∀q,q<k->u.at' q=v.at' q)->ku m u k=ku m v k
 |0,_=>rfl
 |k+1,h=>by rw[ku,ku,Gy λq a=>h q (by omega),h k (by omega)]
theorem Ue{u v:I6}:∀{j:Nat},j<=6->(∀q,q<6->6-j<=q->u.at' q=v.at' q)->rk m u-rk m v=(ku m u (6-j)-ku m v (6-j))*wE m j
 |0,_,_=>by show _=_*(1:Int);rw[Int.mul_one]
 |j+1,l,h=>by
  have k:=Ue (u:=u) (v:=v) (j:=j) (by omega) λq g i=>h q g (by omega);have e:6-j=(6-(j+1))+1:=by omega
  have f:5-j=6-(j+1):=by omega
  rw[k,e,ku,ku,h (6-(j+1)) (by omega) (aD _),wE,f];generalize ku m u (6-(j+1))=a;generalize ku m v (6-(j+1))=b;generalize m.at' (6-(j+1))+1=c;generalize v.at' (6-(j+1))=d;have:a*c+d-(b*c+d)=(a-b)*c:=by rw[Int.sub_mul];omega
  rw[this,nu,om c]
def Xf{u:I6}{j:Nat}(g:j<6):rk m u-rk m (yR m u (5-j))=wE m j:=by
 have b:5-j<6:=by omega
 have a:∀q,q<6->(yR m u (5-j)).at' q=if q=5-j then u.at' (5-j)-1 else u.at' q:=λq h=>by
  unfold yR;rw[I6.mq _ _ _ _ b h]
 rw[Ue (j:=j) (by omega) λq c f=>by rw[a q c,af (by omega)]];have e:6-j=(5-j)+1:=by omega
 rw[e,ku,ku,Gy (u:=u) (v:=yR m u (5-j)) λq d=>by rw[a q (by omega),af (by omega)],a _ b,ag rfl];have:ku m (yR m u (5-j)) (5-j)*(m.at' (5-j)+1)+u.at' (5-j)-(ku m (yR m u (5-j)) (5-j)*(m.at' (5-j)+1)+(u.at' (5-j)-1))=1:=by omega
 rw[this,Int.one_mul]
def BS{u w:I6}(f:∀q,q<6->0<=w.at' q)(h:within w u=true):w=u\/∃q,q<6/\u.at' q≠0/\within w (yR m u q)=true:=by
 by_cases c:∃q,q<6/\w.at' q<u.at' q
 .obtain⟨q,a,d⟩:=c;have:=f q a;refine .inr ⟨q,a,by omega,within_iff.2 λi b=>?_⟩;unfold yR;rw[I6.mq _ _ _ _ a b]
  split
  .rename_i e;subst e;omega
  exact within_iff.1 h i b
 refine .inl (I6.ext' λq a=>?_);have b:=within_iff.1 h q a;have:¬ w.at' q<u.at' q:=λh=>c ⟨q,a,h⟩;omega
def xu{u:I6}{q:Nat}(b:q<6):within (yR m u q) u=true:=within_iff.2 λi a=>by
 unfold yR;rw[I6.mq _ _ _ _ b a]
 split
 .rename_i e;subst e;omega
 exact bR _
def uT{T:List Int}{i k:Nat}{v:Int}(b:k<T.length):(T.set k v).getD i 0=if i=k then v else T.getD i 0:=by
 rw[au,bW]
 by_cases h:k=i
 .subst h;rw[ag rfl,ag rfl,ag b];rfl
 rw[af h,af (λa=>h a.symm),au]
theorem CO{u:I6}{i k:Nat}{T:List Int}(hi:i<T.length)(h:k≠i):∀j,(sE m u i j T).getD k 0=T.getD k 0
 |0=>rfl
 |j+1=>by
  rw[sE]
  split
  .rw[Yq,uT (by rw[uI];exact hi),af h,CO hi h j]
  exact CO hi h j
theorem Ni{u:I6}{i:Nat}{T:List Int}(hi:i<T.length)(l:∀j,j<6->0<u.at' (5-j)->i-(wE m j).toNat≠i){n:Int}:∀j,j<=6->((sE m u i j T).getD i 0<=n<->T.getD i 0<=n/\∀d,d<j->0<u.at' (5-d)->T.getD (i-(wE m d).toNat) 0<=n)
 |0,_=>⟨λh=>⟨h,λd f=>by omega⟩,λh=>h.1⟩
 |j+1,p=>by
  have o:=Ni hi l (n:=n) j (by omega);rw[sE]
  by_cases k:0<u.at' (5-j)
  .rw[ag k,Yq,uT (by rw[uI];exact hi),ag rfl,CO hi (l j (by omega) k)];have e:(if T.getD (i-(wE m j).toNat) 0>(sE m u i j T).getD i 0 then T.getD (i-(wE m j).toNat) 0 else (sE m u i j T).getD i 0)<=n<->(sE m u i j T).getD i 0<=n/\T.getD (i-(wE m j).toNat) 0<=n:=by split<;>omega
   rw[e,o];constructor
   .rintro⟨⟨a,b⟩,c⟩;refine⟨a,λd f h=>?_⟩;rcases aQ d j with g |g
    .exact b d g h
    obtain rfl:d=j:=by omega
    exact c
   rintro⟨a,b⟩;exact⟨⟨a,λd f h=>b d (by omega) h⟩,b j (by omega) k⟩
  rw[af k,o];refine lu λ_=>⟨λb d f h=>?_,λb d f h=>b d (by omega) h⟩;rcases aQ d j with g |g
  .exact b d g h
  obtain rfl:d=j:=by omega
  exact absurd h k
def Ei(a:I6.Le m 4){i:Nat}(hi:i<bI m){j:Nat}(e:j<6)(h:0<(cK m i).at' (5-j)):∃p,p<i/\p=i-(wE m j).toNat/\cK m p=yR m (cK m i) (5-j):=by
 have c:=LR (gw a i) (k:=5-j) (by omega) (by omega);obtain⟨p,f,b,g⟩:=DB a c;have l:=Xf (m:=m) (u:=cK m i) e;have n:=nQ a i hi;have d:=nQ a p f;rw[b] at d;have o:=(BN a j (by omega)).1;exact⟨p,by omega,by omega,b⟩
theorem OJ(e:I6.Le m 4){F:Wf}(z:Nn F):∀k,k<=bI m->∀i,i<k->∀n:Int,0<=n->((AU m F k).getD i 0<=n<->∀w,rP m w->within w (cK m i)=true->F w<=n)
 |0,_,i,A=>by omega
 |k+1,E,i,A=>by
  intro n o;have x:=OJ e z k (by omega);have G:=xN m F k;have f:k<((AU m F k).set k (F (cK m k))).length:=by rw[bf];omega
  rw[AU]
  by_cases d:i=k
  .subst d;rw[Ni f (λj r h=>by obtain⟨p,C,D,_⟩:=Ei e (by omega) r h;omega) 6 (aD _),uT (by omega),ag rfl];constructor
   .rintro⟨a,b⟩ w l t;rcases BS (m:=m) (λq s=>(l.u q s).1) t with rfl|⟨q,s,B,v⟩
    .exact a
    have g:5-(5-q)=q:=by omega
    have c:0<(cK m i).at' (5-(5-q)):=by rw[g];have:=((gw e i).u q s).1;omega
    obtain⟨p,p1,p2,y⟩:=Ei e (by omega) (j:=5-q) (by omega) c;have:=b (5-q) (by omega) c;rw[<-p2,uT (by omega),af (by omega)] at this;refine(x p p1 n o).1 this w l ?_;rw[y,g];exact v
   intro h;refine⟨h _ (gw e i) (rO _),λj r c=>?_⟩;obtain⟨p,p1,p2,y⟩:=Ei e (by omega) r c;rw[<-p2,uT (by omega),af (by omega)];refine(x p p1 n o).2 λw l a=>h w l (A0 a ?_);rw[y];exact xu (by omega)
  rw[CO f d,uT (by omega),af d];exact x i (by omega) n o
def ZB(x:Xv)(w:I6):nr m x w<=1000000:=by
 have c:∀v:Int,pE v<=1000000:=λv=>by unfold pE;split<;>omega
 have r:∀{f:Wf} {Q:List KV},f w<=1000000->gY m f Q w<=1000000:=λh=>jI.2 ⟨h,λp _ _ _=>c _⟩;have z:zW w<=1000000:=by show(0:Int)<=_;decide
 have a:∀{op:Wf->Wf->Wf},(∀f g,f w<=1000000->op f g w<=1000000)->∀(l:List Wf) (f:Wf),f w<=1000000->l.foldl op f w<=1000000:=λ{op} h l=>by
  induction l with
  |nil=>exact λf h=>h
  |cons g l d=>exact λf b=>d _ (h f g b)
 rw[uC]
 split
 .exact r z
 split
 .exact a (λf g h=>r h) _ _ z
 split
 .exact a (λf g _=>r z) _ _ z
 split
 .exact r z
 split
 .exact r z
 exact z
def aaE(l:I6.Le m 4){x:Xv}(f:Gx x):allM m x=AT m (nr m x):=by
 have q:=wG m x;have r:(AT m (nr m x)).length=bI m:=xN m _ _;apply aX;intro i
 by_cases g:i<bI m
 .rw[getD_some (by omega),getD_some (T:=AT m (nr m x)) (by omega)]
  congr 1
  have e:=Uh l x f i g;have c:=OJ l (Gd (m:=m) x) (bI m) (aD _) i g;have a:=lD (by decide) (sD (m:=m) x f) i;have d:0<=(AT m (nr m x)).getD i 0:=cq λh=>by
   have p:=(c 0 (bR _)).1 (by show(AT m (nr m x)).getD i 0<=0;omega);rcases Classical.em ((AT m (nr m x)).getD i 0<0) with n|n
   .have key:∀k,∀i,0<=(AU m (nr m x) k).getD i 0:=λk=>by
     induction k with
     |zero=>
      intro i;rw[AU,au,cM]
      split<;>exact bR _
     |succ k o=>
      intro i;have up:∀j i,0<=(sE m (cK m k) k j ((AU m (nr m x) k).set k (nr m x (cK m k)))).getD i 0:=λj=>by
       induction j with
       |zero=>
        intro i;show 0<=((AU m (nr m x) k).set k (nr m x (cK m k))).getD i 0;rw[au,bW]
        split
        .split
         .exact Gd x _
         exact bR _
        rw[<-au];exact o i
       |succ j b=>
        intro i;rw[sE]
        split
        .rw[Yq,au,bW]
         split
         .split
          .show 0<=(if _>_ then _ else _:Int)
           split
           .exact b _
           exact b _
          exact bR _
         rw[<-au];exact b i
        exact b i
      rw[AU];exact up 6 i
    have:=key (bI m) i;have:0<=(AT m (nr m x)).getD i 0:=this;omega
   omega
  have k:(AT m (nr m x)).getD i 0<=1000000:=(c 1000000 (by decide)).2 λw _ _=>ZB x w;generalize o:(allM m x).getD i 0=A at *;generalize b:(AT m (nr m x)).getD i 0=C at *;have c:∀n:Int,0<=n->(C<=n<->∀w,rP m w->within w (cK m i)=true->nr m x w<=n):=λn j=>by rw[<-b];exact c n j
  rcases kJ A C with h|h|h
  .have:=(c A a.1).2 ((e A a.1 (by omega)).1 (bR _));omega
  .exact h
  have:=(e C d (by omega)).2 ((c C d).1 (bR _));omega
 rw[aJ (by omega),aJ (by omega)]
end
theorem Ow:∀(l:List Xv),(sQ kM l 0).1=0->∀y∈l,U7 y
 |[],_,y,c=>by simp at c
 |x::l,h,y,c=>by
  have a:=cq λb=>b (by
   have:=Ir (l:=x::l) (k:=0) (y:=x) (λz d=>by simp at d) rfl rfl b;rw[this] at h;exact h)
  have f:U7 x:=by
   unfold tR at a
   split at a
   .rename_i d;split at a
    .rename_i e;exact⟨d,e⟩
    cases a
   cases a
  rcases aP.1 c with rfl|c
  .exact f
  have e:kM 0 x=(0,true):=by unfold kM;rw[a];rfl
  rw[sQ,e,ag rfl] at h;exact Ow l h y c
def RS{x:Xv}(h:j4 x=0):Gx x:=by
 unfold j4 at h
 split at h
 .cases h
 split at h
 .cases h
 rename_i a;rw[AY] at h;rw[AY,EN] at a;have c:(pW x).all (λy=>decide (y.args.length<=8))=true:=by
  cases hq:(pW x).all (λy=>decide (y.args.length<=8)) with
  |true=>rfl
  |false=>exact absurd (.inl hq) a
 exact λy b=>⟨Ow _ h y b,dG (bw.1 c y b)⟩
section
variable {m:I6}
def aaJ:tot z6=0:=rfl
def aa5(p:I6.Le m 4):∀x,Gx x->(allM m x).getD 0 0=0:=Xv.ind λx r j=>by
 obtain⟨d,_⟩:=j.self;have f:=(lC p).1;have i:cK m 0=z6:=rfl;have H:∀k,(jm m x.op (x.args.map (allM m)) k).getD 0 0=0:=λk=>by
  induction k with
  |zero=>show(List.replicate (bI m) (0:Int)).getD 0 0=0;rw[au,cM,ag f];rfl
  |succ k a=>
   have b:((x.args.map (allM m)).getD k []).getD 0 0=0:=by
    rw[au (l:=x.args.map (allM m)),aL]
    cases hk:x.args[k]? with
    |none=>rfl
    |some y=>exact r y (ak hk) (j.sub y (ak hk))
   rw[jm]
   split
   .rw[Rc,qM f,uD,i,ag (rO _)];have e:(rk m (vm z6 z6)).toNat=0:=by
     have:vm z6 z6=z6:=I6.ext' λq g=>by rw[AR g,oU];omega
     rw[this];have c:rk m z6=0:=Ot m 6;rw[c];rfl
    rw[e,a,b];rfl
   rw[U5,qM f,a,b];rfl
 rw[zQ,Pj,qM f,H,i];have n:vC x.op x.u x.v z6 0=0:=by
  unfold vC
  split
  .rename_i h
   exfalso
   have c:=d.2;unfold kU at c;rw[af (by omega)] at c
   split at c
   .cases c
   have e:(x.u.l.all lX&&decide (tot x.u>0))=true:=by
    split at c
    .omega
    exact c
   rw[aF] at e;have o:=C9 e.1;have:x.u=z6:=I6.ext' λq g=>by
    have a:=within_iff.1 h.2 q g;have b:=(o q g).1;rw[oU] at a⊢;omega
   have a:=dG e.2;rw[this,aaJ] at a;omega
  rfl
 rw[n];unfold yG
 split
 .rename_i h;have:=Bo d (by omega);rw[af (by omega)];rfl
 rfl
def Rp(i:I6.Le m 4){x:Xv}(c:Gx x){p q:Nat}(j:p<bI m)(k:q<bI m)(h:within (cK m p) (cK m q)=true):(allM m x).getD p 0<=(allM m x).getD q 0:=by
 have f:=Uh i x c;have a:=lD (by decide) (sD (m:=m) x c) p;have b:=lD (by decide) (sD (m:=m) x c) q
 by_cases e:(allM m x).getD q 0<1000000
 .have g:=(f q k _ b.1 e).1 (bR _);exact(f p j _ b.1 e).2 λw l d=>g w l (A0 d h)
 omega
def abv(m:I6)(T:List Int)(i:Nat):Bool:=decide (∀p,p<bI m->p≠i->¬ (T.getD p 0>=T.getD i 0/\within (cK m p) (cK m i)=true))
def pq(m:I6)(T:List Int):Nat->List Of
 |0=>[]
 |i+1=>if 0<i/\abv m T i=true then pq m T i++[⟨0,cK m i,T.getD i 0⟩] else pq m T i
def Us{T:List Int}{i:Nat}{v:Int}(h:T.getD i 0=v)(hi:i<T.length):T.set i v=T:=by
 apply aX;intro k;rw[bW]
 by_cases a:i=k
 .subst a;rw[ag rfl,ag hi,getD_some hi,h]
 rw[af a]
theorem LQ{u:I6}{T:List Int}{n:Int}:∀k,k<=6->(CT m u T k<n<->-1<n/\∀q,q<k->u.at' q≠0->T.getD (rk m (yR m u q)).toNat 0<n)
 |0,_=>⟨λh=>⟨h,λq g=>by omega⟩,λh=>h.1⟩
 |k+1,j=>by
  have i:=LQ (u:=u) (T:=T) (n:=n) k (by omega);rw[CT]
  by_cases f:u.at' k=0
  .rw[ag f,i];refine lu λ_=>⟨λb q g h=>?_,λb q g h=>b q (by omega) h⟩;rcases aQ q k with d |d
   .exact b q d h
   obtain rfl:q=k:=by omega
   exact absurd f h
  rw[af f];have e:(if T.getD (rk m (yR m u k)).toNat 0>CT m u T k then T.getD (rk m (yR m u k)).toNat 0 else CT m u T k)<n<->CT m u T k<n/\T.getD (rk m (yR m u k)).toNat 0<n:=by split<;>omega
  rw[e,i];constructor
  .rintro⟨⟨a,b⟩,c⟩;refine⟨a,λq g h=>?_⟩;rcases aQ q k with d |d
   .exact b q d h
   obtain rfl:q=k:=by omega
   exact c
  rintro⟨a,b⟩;exact⟨⟨a,λq g h=>b q (by omega) h⟩,b k (by omega) f⟩
theorem NU(f:I6.Le m 4){x:Xv}(n:Gx x):∀i,i<=bI m->xd m (allM m x) i=pq m (allM m x) i/\tP m (allM m x) i=allM m x
 |0,_=>⟨by rw[xd,pq],by rw[tP]⟩
 |i+1,z=>by
  obtain⟨v,t⟩:=NU f n i (by omega);have A:=wG m x;have mono:=λ{p q:Nat} g a h=>Rp (x:=x) f n (p:=p) (q:=q) g a h;have b:=lD (by decide) (sD (m:=m) x n) i;have pr:∀q,q<6->(cK m i).at' q≠0->∃p,p<bI m/\p≠i/\cK m p=yR m (cK m i) q/\(rk m (yR m (cK m i) q)).toNat=p:=λq a j=>by
   obtain⟨p,g,c,d⟩:=DB f (LR (gw f i) a j);refine⟨p,g,λe=>?_,c,d⟩;subst e;have:(yR m (cK m p) q).at' q=(cK m p).at' q-1:=by unfold yR;rw[I6.mq _ _ _ _ a a,ag rfl]
   rw[<-c] at this;omega
  have key:(allM m x).getD i 0>CT m (cK m i) (allM m x) 6<->abv m (allM m x) i=true:=by
   rw[abv,aV];show CT m (cK m i) (allM m x) 6<_<->_;rw[LQ 6 (aD _)];constructor
   .rintro⟨_,h⟩ p g y ⟨w,o⟩;rcases BS (m:=m) (λq a=>((gw f p).u q a).1) o with e|⟨q,a,k,s⟩
    .have c:=nQ f p g;have d:=nQ f i (by omega);rw[e] at c;omega
    obtain⟨r,l,_,c,d⟩:=pr q a k;have:=h q a k;rw[d] at this;have:=mono g l (by rw[c];exact s);omega
   intro h;refine⟨by omega,λq a j=>?_⟩;obtain⟨r,l,e,c,d⟩:=pr q a j;rw[d];have:=h r l e;have o:within (cK m r) (cK m i)=true:=by rw[c];exact xu a
   exact cq λk=>this ⟨by omega,o⟩
  have e:¬ CT m (cK m i) (allM m x) 6>(allM m x).getD i 0:=λh=>by
   have:CT m (cK m i) (allM m x) 6<(allM m x).getD i 0+1:=(LQ 6 (aD _)).2 ⟨by omega,λq a j=>by
    obtain⟨r,l,_,c,d⟩:=pr q a j;rw[d];have:=mono l (q:=i) (by omega) (by rw[c];exact xu a);omega⟩
   omega
  refine⟨?_,?_⟩
  .rw[xd,pq,v,t];simp only[key]
  rw[tP,t,af e,Us rfl (by omega)]
def WJ(b:I6.Le m 4){x:Xv}(a:Gx x):qf x m=pq m (allM m x) (bI m):=by
 rw[qf,<-aaE b a,Cx,(NU b a _ (aD _)).1]
end
def Mv{w:ah}{x:Xv}{m:I6}(d:m.l.all lX=true)(n:pr m.l<=1024)(o:fE x<=100000)(i:x.In w):
  CP 154 #[.agg x.cells.toArray,.agg m.vs.toArray] w (λr a=>(j4 x≠0/\r=.tuple #[.slice none 0 0,iv (j4 x)]/\aZ w a [])\/(j4 x=0/\∃g,r=.tuple #[.slice (qs g) (allM m x).length (bI m),iv 0]/\St w a (Sep [oQ (qs g) (bI m) (allM m x)]))):=by
 refine @Kv _ x.u _ _ _ _ _ _ _ ?_;have c:=C9 d;refine bE x.cells.toArray λy A q=>q.aY m.vs.toArray λz B e=>⟨_,x.u,_,_,_,_,e.cellsIn 1 rfl,e.qu (Es o (i.aK e.aK)) λr f=>⟨_,rfl,?_⟩⟩
 by_cases a:j4 x=0
 rotate_left
 .exact gM a (.inl ⟨a,rfl,f.aK⟩)
 refine iI a ⟨m,f.cellsIn 0 rfl,f.qu (mw r m) λs j=>?_⟩;rw[d,ag rfl];refine⟨_,rfl,cF rfl ⟨m,j.cellsIn 0 rfl,j.qu (zv s m) λt b=>?_⟩⟩;have k:DE m=(bI m:Int):=by rw[DE,ag ⟨d,n⟩,(lC c).2.1]
 have h:=(lC c).1;rw[k];refine⟨_,rfl,cF (aC.2 (by omega)) ⟨_,x.u,_,_,_,_,b.cellsIn 1 rfl,m,b.cellsIn 0 rfl,bg (TR c x (RS a) t (i.aK b.aK)) ?_⟩⟩;rintro v C ⟨g,rfl,p⟩;exact⟨_,_,_,rfl,.inr ⟨a,g,rfl,EU b.aK p⟩⟩
theorem IW(m:I6)(T:List Int):∀i,(pq m T i).length<=i
 |0=>aD _
 |i+1=>by
  have:=IW m T i;rw[pq];split
  .rw[aA,aG];omega
  omega
def Ey{w:ah}{m:I6}{a:OA}{c:Nat}{T:List Int}(hm:m.l.all lX=true)(hp:pr m.l<=1024)(hT:iA 1 i1 w a T)(lT:T.length=bI m)(bT:Bt 1000000 T)(t0:T.getD 0 0=0):
  CP 155 #[.slice a T.length c,.agg m.vs.toArray] w (λr u=>(40<(pq m T (bI m)).length/\r=.tuple #[.slice none 0 0,iv 3]/\aZ w u [])\/((pq m T (bI m)).length<=40/\∃a c,r=.tuple #[.slice a (pq m T (bI m)).length c,iv 0]/\St w u (Sep [dB a c (pq m T (bI m))]))):=by
 refine aaY.2.2.1 ?_;have hl:=C9 hm;obtain⟨hpos,Q,hp3⟩:=lC hl;have F:DE m=(bI m:Int):=by rw[DE,ag ⟨hm,hp⟩,Q]
 have P:J3 m=(List.range (bI m)).map (cK m):=by rw[J3,af (by omega)]
 refine bE m.vs.toArray λH w1 s1=>⟨m,s1.cellsIn 0 rfl,s1.qu (zv w1 m) λw2 U=>?_⟩;rw[F];refine⟨_,rfl,cF (aC.2 (by omega)) (dz (by omega) (dz (by omega) ?_))⟩;have K:∀{u:ah},aZ w u []->∀{i:Nat},i<bI m->∃q,a=some q/\u.cell? (Addr.add q (((i:Nat):Int).toNat*1))=some (iv (T.getD i 0)):=λF i J=>by
  obtain⟨q,d,h⟩:=iW (hT.aK F) (getD_some (T:=T) (i:=i) (by omega));exact⟨q,d,by rw[aq];exact h⟩
 refine⟨λn L x=>∃i:Nat,n=i/\i<=bI m/\x=bI m-i/\L=w2,⟨bI m,0,rfl,by omega,by omega,rfl⟩,?_⟩;rintro L x n ⟨i,rfl,J,hx,rfl⟩-
 by_cases g:i<bI m
 .obtain⟨q,d,f⟩:=K U.aK g;have b:=lD (by decide) bT i;refine di (by omega) ⟨λb j=>b=false/\j=L,?_,av d ⟨by omega,by omega,_,f,dz (by omega) (av d ⟨by omega,by omega,_,f,dz (by omega) ?_⟩)⟩⟩
  .rintro j b ⟨rfl,rfl⟩-;exact cF rfl (mS (by omega) rfl)
  by_cases e:i=0
  .subst e;exact cT (by rfl) (av d ⟨by omega,by omega,_,f,by rw[t0];rfl,rfl⟩)
  exact cF (aC.2 (by omega)) ⟨rfl,rfl⟩
 obtain rfl:i=bI m:=by omega
 refine dz (by omega) ⟨m,U.cellsIn 0 rfl,bg (Qd L m) ?_⟩;rintro v w5 ⟨al,cl,rfl,k5⟩;have s5:=U.and k5;rw[P] at s5⊢;have lB:((List.range (bI m)).map (cK m)).length=bI m:=by simp
 rw[lB];have N:∀{u:ah} {l:List bP} {j:Nat},St w u (Sep l)->l[j]?=some (kO al cl ((List.range (bI m)).map (cK m)))->∀{i:Nat},i<bI m->∃q,al=some q/\aU u (Addr.add q (((i:Nat):Int).toNat*6)) 0 (cK m i).vs:=λs e i J=>by
  obtain⟨q,d,F⟩:=(St.rd fU (s.out _ e)).at (lM (cK m) J);exact⟨q,d,by rw[aq];exact F⟩
 let B:bP:=kO al cl ((List.range (bI m)).map (cK m));refine⟨_,_,_,rfl,λD l3 E n w6 x=>∃i:Nat,n=i/\1<=i/\i<=bI m/\x=bI m-i/\l3=(pq m T i).length/\St w w6 (Sep [dB D E (pq m T i),B,ay H m.vs.toArray 50,emp]),⟨bI m-1,1,rfl,aD _,by omega,rfl,by rw[pq,af (by omega),pq];rfl,?_⟩,?_⟩
 .rw[pq,af (by omega),pq];exact s5.gB
 rintro w6 x D l3 E n ⟨i,rfl,h1i,J,hx,rfl,V⟩-
 by_cases g:i<bI m
 rotate_left
 .obtain rfl:i=bI m:=by omega
  refine dz (by omega) ?_
  by_cases k:40<(pq m T (bI m)).length
  .exact di (by omega) (.inl ⟨k,rfl,V.aK⟩)
  exact dz (by omega) (.inr ⟨by omega,D,E,rfl,V.aM [0]⟩)
 have hal:=IW m T i;refine di (by omega) ⟨λX l4 Z w7=>l4=(pq m T (i+1)).length/\St w w7 (Sep [dB X Z (pq m T (i+1)),B,ay H m.vs.toArray 50,emp]),?_,?_⟩
 .rintro w7 X l4 Z ⟨rfl,k⟩-;exact⟨bI m-(i+1),by omega,i+1,gC (by omega),by omega,by omega,rfl,rfl,k⟩
 let r:Nat->Prop:=λp=>p≠i/\(T.getD p 0>=T.getD i 0/\within (cK m p) (cK m i)=true);refine⟨λb n W x=>∃p:Nat,n=p/\p<=bI m/\x=bI m-p/\(b=true<->∀q,q<p->¬ r q)/\St w W (Sep [dB D E (pq m T i),B,ay H m.vs.toArray 50,emp]),⟨bI m,0,rfl,by omega,by omega,⟨λ_ q d=>by omega,λ_=>rfl⟩,V⟩,?_⟩;rintro W x b n ⟨p,rfl,hp',hx',hb,s8⟩-;have k:=s8.quiet (aZ.drew W [])
 by_cases G:p<bI m
 .refine di (by omega) ⟨λY w9=>(Y=true<->∀q,q<p+1->¬ r q)/\St w w9 (Sep [dB D E (pq m T i),B,ay H m.vs.toArray 50,emp]),?_,λM I=>(M=true<->r p)/\St w I (Sep [dB D E (pq m T i),B,ay H m.vs.toArray 50,emp]),?_,?_⟩
  .rintro w9 Y ⟨o,k⟩-;exact mS (by omega) ⟨o,k⟩
  .rintro I M ⟨z,o⟩-
   cases M with
   |true=>exact cT rfl ⟨⟨λh=>(by cases h),λh=>absurd (z.1 rfl) (h p (by omega))⟩,o⟩
   |false=>
    have t:¬ r p:=λh=>by have:=z.2 h;cases this
    refine cF rfl ⟨hb.trans ⟨λh q d=>?_,λh q d=>h q (by omega)⟩,o⟩;rcases aQ q p with y |y
    .exact h q y
    obtain rfl:q=p:=by omega
    exact t
  by_cases y:p=i
  .exact cF (by rw[y];simp) ⟨⟨λh=>(by cases h),λh=>absurd y h.1⟩,k⟩
  refine cT (pK.2 (by omega)) ?_;obtain⟨q,d,R⟩:=K k.aK G;obtain⟨q',f,o⟩:=K k.aK g;refine av d ⟨by omega,by omega,_,R,av f ⟨by omega,by omega,_,o,?_⟩⟩
  by_cases t:T.getD p 0>=T.getD i 0
  .obtain⟨z,hz,S⟩:=N k (j:=1) rfl G;obtain⟨z',A,C⟩:=N k (j:=1) rfl g;exact di t (av hz ⟨by omega,by omega,_,S,av A ⟨by omega,by omega,_,C,bF (KN _ _ _) λw11 O=>⟨_,rfl,⟨λh=>⟨y,t,h⟩,λh=>h.2.2⟩,k.quiet O⟩⟩⟩)
  exact dz t ⟨⟨λh=>(by cases h),λh=>absurd h.2.1 t⟩,k⟩
 obtain rfl:p=bI m:=by omega
 have t:b=true<->abv m T i=true:=by
  rw[hb,abv,aV];exact⟨λh q d o y=>h q d ⟨o,y⟩,λh q d y=>h q d y.1 y.2⟩
 refine dz (by omega) ?_
 cases hbb:b with
 |true=>
  have e:pq m T (i+1)=pq m T i++[⟨0,cK m i,T.getD i 0⟩]:=by rw[pq,ag ⟨by omega,t.1 hbb⟩]
  obtain⟨z',A,C⟩:=N k (j:=1) rfl g;obtain⟨q',f,o⟩:=K k.aK g;refine cT rfl (av A ⟨by omega,by omega,_,C,av f ⟨by omega,by omega,_,o,?_⟩⟩);rw[e];exact iT vO Of.len (x:=(⟨0,cK m i,T.getD i 0⟩:Of)) (Of.one _) (k.out 0 rfl) (by omega) (by omega) (λz I u y=>⟨rfl,y⟩) rfl
 |false=>
  have e:pq m T (i+1)=pq m T i:=by rw[pq,af (λh=>by have:=t.2 h.2;rw[hbb] at this;cases this)]
  rw[e];exact cF rfl ⟨rfl,s8⟩
def B5{w:ah}{x:Xv}{m:I6}(k:m.l.all lX=true)(o:pr m.l<=1024)(t:fE x<=100000)(s:x.In w):
  CP 96 #[.agg x.cells.toArray,.agg m.vs.toArray] w (λr b=>(qQ x m≠0/\r=.tuple #[.slice none 0 0,iv (qQ x m)]/\aZ w b [])\/(qQ x m=0/\(qf x m).length<=40/\∃a c,r=.tuple #[.slice a (qf x m).length c,iv 0]/\St w b (Sep [dB a c (qf x m)]))):=by
 refine @Ia _ x.u _ _ _ _ _ _ _ ?_;have n:=C9 k;refine bE x.cells.toArray λy E A=>A.aY m.vs.toArray λz F e=>⟨_,x.u,_,_,_,_,e.cellsIn 1 rfl,m,e.cellsIn 0 rfl,bg (Mv k o t (s.aK e.aK)) ?_⟩;rintro v D (⟨d,rfl,p⟩|⟨d,g,rfl,B⟩)
 .refine⟨_,_,_,_,rfl,gM d (.inl ⟨?_,?_,(e.quiet p).aK⟩)⟩
  .rw[qQ,ag d];exact d
  rw[qQ,ag d]
 have j:=RS d;have f:St w D (Sep [oQ (qs g) (bI m) (allM m x),ay z m.vs.toArray 50,ay y x.cells.toArray 73,emp]):=e.and B.single;have r:=WJ n j;have i:qQ x m=if 40<(qf x m).length then 3 else 0:=by rw[qQ,af (λh=>h d)];rfl
 refine⟨_,_,_,_,rfl,cF rfl ⟨m,f.cellsIn 1 rfl,bg (Ey k o (St.rd gm (f.out 0 rfl)) (wG m x) (sD x j) (aa5 n x j)) ?_⟩⟩;rw[<-r];rintro v G (⟨b,rfl,q⟩|⟨b,a,c,rfl,C⟩)
 .exact⟨_,_,_,_,rfl,.inl ⟨by rw[i,ag b];decide,by rw[i,ag b],f.aK.trans q (by simp)⟩⟩
 exact⟨_,_,_,_,rfl,.inr ⟨by rw[i,af (by omega)],b,a,c,rfl,EU f.aK C⟩⟩
def AL{w:ah}{q:Addr}{x:Rn}(h:aU w q 0 x.cells):aU w q 0 x.p.vs/\w.cell? (q.add 6)=some (.slice x.xa x.ask.length x.xc)/\w.cell? (q.add 7)=some (.slice x.ga x.got.length x.gc)/\w.cell? (q.add 8)=some (.slice x.ba x.bd.length x.bc):=by
 have g:∀(j:Nat) (v:Value),x.cells[j]?=some v->w.cell? (q.add j)=some v:=λj v a=>by
  have:=bX h j v a
  rwa [az] at this
 refine⟨fm _ 0 λj v a=>?_,g 6 _ rfl,g 7 _ rfl,g 8 _ rfl⟩;have b:=(ai.1 a).1;exact bX h j v (by
  match j,b,a with
  |0,_,a|1,_,a|2,_,a|3,_,a|4,_,a|5,_,a=>simpa[Rn.cells,I6.on,I6.vs] using a)
def RI{w:ah}{a:OA}{l:List Bool}(h:iA 1 bl w a l){k:Nat}{b:Bool}(d:l[k]?=some b):∃q,a=some q/\w.cell? (Addr.add q (((k:Nat):Int).toNat*1))=some (.bool b):=by
 obtain⟨q,e,c⟩:=h.at d;exact⟨q,e,by rw[aq];exact c.1⟩
set_option maxHeartbeats 1000000 in
theorem Qj{w:ah}{a1 a2:OA}{c1 c2:Nat}{l l':List Rn}(h1:iA 9 Rn.cells w a1 l)(i1:tW l w)(h2:iA 9 Rn.cells w a2 l')(i2:tW l' w)(e:l.map Rn.er=l'.map Rn.er)(hl:l.length<=1000)(hz:∀x∈l,x.ask.length<=1000):
  CP 38 #[.slice a1 l.length c1,.slice a2 l'.length c2] w (λr c=>r=.bool true/\aZ w c []):=by
 refine aaT.1 ?_;have O:l'.length=l.length:=by have:=congrArg List.length e;simpa using this.symm
 refine cF (by rw[O];simp) ⟨λi V m=>∃k:Nat,i=k/\k<=l.length/\m=l.length-k/\aZ w V [],⟨l.length,0,rfl,by omega,by omega,aZ.refl _ _⟩,?_⟩;rintro V m i ⟨k,rfl,hk,hm,d1⟩-
 by_cases C:(k:Int)<(l.length:Int)
 rotate_left
 .exact dz C ⟨rfl,d1⟩
 obtain⟨x,P⟩:=dX l k (by omega);obtain⟨y,Q⟩:=dX l' k (by omega);have d:x.er=y.er:=by
  have a:(l.map Rn.er)[k]?=some x.er:=by rw[aL,P];rfl
  have b:(l'.map Rn.er)[k]?=some y.er:=by rw[aL,Q];rfl
  rw[e,b] at a;exact(dP a).symm
 have ep:x.p=y.p:=by show x.er.p=y.er.p;rw[d]
 have E:x.ask=y.ask:=by show x.er.ask=y.er.ask;rw[d]
 have F:x.got=y.got:=by show x.er.got=y.er.got;rw[d]
 have r:x.bd=y.bd:=by show x.er.bd=y.er.bd;rw[d]
 have o:=ak P;have z:=ak Q;have hza:=hz x o;have R:∀{c},aZ w c []->∃q,a1=some q/\aU c (Addr.add q (((k:Nat):Int).toNat*9)) 0 x.p.vs/\c.cell? (Addr.add (Addr.add q (((k:Nat):Int).toNat*9)) 6)=some (.slice x.xa x.ask.length x.xc)/\c.cell? (Addr.add (Addr.add q (((k:Nat):Int).toNat*9)) 7)=some (.slice x.ga x.got.length x.gc)/\c.cell? (Addr.add (Addr.add q (((k:Nat):Int).toNat*9)) 8)=some (.slice x.ba x.bd.length x.bc):=λN=>by
  obtain⟨q,b,a⟩:=(h1.aK N).at P;rw[aq];exact⟨q,b,AL a⟩
 have ry:∀{c},aZ w c []->∃q,a2=some q/\aU c (Addr.add q (((k:Nat):Int).toNat*9)) 0 y.p.vs/\c.cell? (Addr.add (Addr.add q (((k:Nat):Int).toNat*9)) 6)=some (.slice y.xa y.ask.length y.xc)/\c.cell? (Addr.add (Addr.add q (((k:Nat):Int).toNat*9)) 7)=some (.slice y.ga y.got.length y.gc)/\c.cell? (Addr.add (Addr.add q (((k:Nat):Int).toNat*9)) 8)=some (.slice y.ba y.bd.length y.bc):=λN=>by
  obtain⟨q,b,a⟩:=(h2.aK N).at Q;rw[aq];exact⟨q,b,AL a⟩
 have d2:=d1.trans (aZ.drew V []) (by simp);obtain⟨q1,g,x0,x6,x7,x8⟩:=R d2;obtain⟨q2,n,y0,y6,y7,y8⟩:=ry d2;refine di C ⟨λb w2=>b=false/\aZ w w2 [],?_,av g ⟨by omega,by omega,x.p,x0,av n ⟨by omega,by omega,y.p,y0,cF (by rw[ep];simp[I6.beq]) (av g ⟨by omega,by omega,_,_,_,x6,av n ⟨by omega,by omega,_,_,_,y6,cF (by rw[E];simp) (av g ⟨by omega,by omega,_,_,_,x7,av n ⟨by omega,by omega,_,_,_,y7,cF (by rw[F];simp) (av g ⟨by omega,by omega,_,_,_,x8,av n ⟨by omega,by omega,_,_,_,y8,by rw[r];simp,d2⟩⟩)⟩⟩)⟩⟩)⟩⟩⟩;rintro w2 b ⟨rfl,d3⟩-;refine cF rfl ⟨λi w3 m=>∃j:Nat,i=j/\j<=x.ask.length/\m=x.ask.length-j/\aZ w w3 [],⟨x.ask.length,0,rfl,by omega,by omega,d3⟩,?_⟩;rintro w3 m3 i ⟨j,rfl,hj,hm3,d4⟩-;obtain⟨q3,v,_,z6',z7,z8⟩:=R d4;refine⟨λb W=>b=decide (j<x.ask.length/\j<x.got.length/\j<x.bd.length)/\aZ w W [],?_,av v ⟨by omega,by omega,_,_,_,z6',?_⟩⟩
 rotate_left
 .by_cases g1:j<x.ask.length
  .refine di (by omega) (av v ⟨by omega,by omega,_,_,_,z7,?_⟩)
   by_cases g2:j<x.got.length
   .refine di (by omega) (av v ⟨by omega,by omega,_,_,_,z8,?_,d4⟩)
    by_cases B:j<x.bd.length
    .rw[dT (p:=j<x.ask.length/\j<x.got.length/\j<x.bd.length) ⟨g1,g2,B⟩,dT (by omega)]
    rw[dF (p:=j<x.ask.length/\j<x.got.length/\j<x.bd.length) (λh=>B h.2.2),dF (by omega)]
   exact dz (by omega) ⟨(dF λh=>g2 h.2.1).symm,d4⟩
  exact dz (by omega) ⟨(dF λh=>g1 h.1).symm,d4⟩
 rintro W b ⟨rfl,d5⟩-
 by_cases hb:j<x.ask.length/\j<x.got.length/\j<x.bd.length
 rotate_left
 .exact dz hb (mS (by omega) d5)
 obtain⟨g1,g2,B⟩:=hb;have d6:=d5.trans (aZ.drew W []) (by simp);obtain⟨p1,s,_,X,Y,Z⟩:=R d6;obtain⟨p2,t,_,y6',y7',y8'⟩:=ry d6;have S:=gE g1;have T:=gE g2;have U:=gE B;generalize x.ask[j]'g1=A at S;generalize x.got[j]'g2=G at T;generalize x.bd[j]'B=D at U;have f:∀{c} {a:OA} {l:List I6} {u:I6},iA 6 I6.vs c a l->l[j]?=some u->∃q,a=some q/\aU c (Addr.add q (((j:Nat):Int).toNat*6)) 0 u.vs:=λh hu=>by rw[aq];exact h.at hu
 obtain⟨b1,H,v1⟩:=f (((i1 x o).aK d6).ask) S;obtain⟨b2,I,v2⟩:=f (((i2 y z).aK d6).ask) (by rw[<-E];exact S);obtain⟨b3,J,v3⟩:=f (((i1 x o).aK d6).got) T;obtain⟨b4,K,v4⟩:=f (((i2 y z).aK d6).got) (by rw[<-F];exact T);obtain⟨b5,L,v5⟩:=RI (((i1 x o).aK d6).bd) U;obtain⟨b6,M,v6⟩:=RI (((i2 y z).aK d6).bd) (by rw[<-r];exact U);have la:y.ask.length=x.ask.length:=by rw[E]
 have lg:y.got.length=x.got.length:=by rw[F]
 have lb:y.bd.length=x.bd.length:=by rw[r]
 refine di ⟨g1,g2,B⟩ ⟨λb w5=>b=false/\aZ w w5 [],?_,av s ⟨by omega,by omega,_,_,_,X,av H ⟨by omega,by omega,A,v1,av t ⟨by omega,by omega,_,_,_,y6',av I ⟨by omega,by omega,A,v2,cF (by simp[I6.beq]) (av s ⟨by omega,by omega,_,_,_,Y,av J ⟨by omega,by omega,G,v3,av t ⟨by omega,by omega,_,_,_,y7',av K ⟨by omega,by omega,G,v4,cF (by simp[I6.beq]) (av s ⟨by omega,by omega,_,_,_,Z,av L ⟨by omega,by omega,D,v5,av t ⟨by omega,by omega,_,_,_,y8',av M ⟨by omega,by omega,D,v6,by simp,d6⟩⟩⟩⟩)⟩⟩⟩⟩)⟩⟩⟩⟩⟩;rintro w5 b ⟨rfl,d7⟩-;exact cF rfl (mS (by omega) d7)
def EV:ru prog 35 147 (.agg zRn.cells.toArray) 9 120:=ru.mk' underlying35 (by kernel_rfl) rfl (by decide)
abbrev Is (a:OA) (c:Nat) (l:List Rn):bP:=iQ 147 9 Rn.cells a c l
section
variable {w0 w:ah} {B:bP} {a:OA} {c:Nat} {l:List Rn}
def On{r k:Nat}(s:St w0 w (star (Is (qs r) 0 []) B))(g:iA 9 Rn.cells w a l)(i:l.length<=1000){R:Option Addr->Nat->Nat->ah->Prop}(kk:∀b d f,St w0 f (star (Is b d l) B)->R b l.length d f):
  kg prog (Builtin.append_ #[35,35] 35 #[.slice (qs r) 0 0,.slice a l.length k]) w λe h=>∃a l c,e=.slice a l c/\R a l c h:=
 dW (l2:=l) EV Rn.len Rn.one s g (by simp only[aT];omega) (by simp only[aT];omega) λb d f e=>by
  rw[bZ] at e⊢;exact kk b d f e
end
def Ka{e:I6}{k:Nat}(c:k<6)(h:e.at' k=0):I6.mix (k+1) e z6=I6.mix k e z6:=by
 refine I6.ext' λj b=>?_;rw[I6.iy _ _ _ _ b,I6.iy _ _ _ _ b,oU]
 by_cases a:j<k
 .rw[ag (by omega),ag a]
 rw[af a]
 split
 .obtain rfl:j=k:=by omega
  exact h
 rfl
def S9{e:I6}{k:Nat}(c:k<6)(h:e.at' k≠0):I6.mix (k+1) e z6≠z6:=λb=>by
 have a:(I6.mix (k+1) e z6).at' k=z6.at' k:=by rw[b]
 rw[I6.iy _ _ _ _ c,ag (by omega),oU] at a;exact h a
set_option maxHeartbeats 8000000 in
theorem Mn{w0 w:ah}{B:bP}{C:Ck}(s:St w0 w (Sep [held C.gi,B]))(G:C.Ok)(hS:∀{W},St w0 W B->C.s.In W)(hov:C.ov=false):
  CP 80 #[.agg C.cells.toArray] w (λr W=>∃K:Ck,K.er=(mg C).er/\K.s=C.s/\r=.tuple #[.agg K.cells.toArray,iv 0]/\St w0 W (Sep [held K.gi,B])):=by
 refine abK.1 ?_;have hl:=G.cl;have z:=G.s.bd.l2;have z1:=G.ask;have z2:=G.bd;have z3:=G.dp;have hg:=LV G;have T:=sup_le G.s.ps;refine s.aY C.cells.toArray λr w1 s1=>s1.aY iX λA w2 H=>?_;have V:∀{W:ah} {L:List bP} {i:Nat},St w0 W (Sep L)->L[i]?=some (held C.gi)->C.gi W:=λs e=>s.eu _ e;refine⟨C.ov,H.aj 1 rfl 18,cF hov ⟨_,_,_,H.aj 1 rfl 0,H.qu (rI (hS (by first|exact St.lN 1 H rfl|exact St.lN 2 H rfl|exact St.lN 3 H rfl|exact St.lN 4 H rfl|exact St.lN 5 H rfl|exact St.lN 6 H rfl|exact St.lN 7 H rfl|exact St.lN 8 H rfl|exact St.lN 9 H rfl|exact St.lN 10 H rfl)).ps) λw3 s3=>⟨_,rfl,s3.aY z6.vs.toArray λF w4 s4=>s4.aR 0 rfl (dD C.s.ps).vs rfl (I6.one _) λw5 s5=>s5.aY #[] λr4 w6 s6=>?_⟩⟩⟩;have s6:=St.weak s6 (dU.left (ic (n:=0) (sz:=6) rfl (by decide)));have Z:St w0 w6 (Sep [kO (qs r4) 0 [],ay F (dD C.s.ps).vs.toArray 50,ay A iX 41,ay r C.cells.toArray 41,held C.gi,B]):=s6;have h6:C.gi w6:=V Z (i:=4) rfl;refine⟨_,_,_,Z.aj 3 rfl 15,I7 s6 h6.ask (by omega) λI J w8 s8=>?_⟩;have s8:St w0 w8 (Sep [kO I J C.ask,ay F (dD C.s.ps).vs.toArray 50,ay A iX 41,ay r C.cells.toArray 41,held C.gi,B]):=s8;refine⟨λa l c w9=>l=(jl C).length/\St w0 w9 (Sep [kO a c (jl C),ay F (dD C.s.ps).vs.toArray 50,ay A iX 41,ay r C.cells.toArray 41,held C.gi,B]),?_,?_⟩
 rotate_left
 .refine⟨_,_,_,s8.aj 3 rfl 8,?_⟩
  by_cases hn:(C.cl.length:Int)>0
  rotate_left
  .have E:jl C=C.ask:=by rw[jl,ag (by omega)]
   exact dz hn ⟨by rw[E],by rw[E];exact s8⟩
  obtain⟨x,hx⟩:=dX C.cl (C.cl.length-1) (by omega);have j:C.cl.getLast? = some x:=by rw[eH];exact hx
  have hm:=ak hx;have zx:=(G.cz x hm).got;have X:IntKind.i64.wrap ((C.cl.length:Int)-1)=((C.cl.length-1:Nat):Int):=by rw[gC (by omega)];omega
  have ep:oP C=kH C.dp 0 x.got:=by rw[oP,j];rfl
  refine di hn (s8.aY #[] λO p t1=>?_);have t1:St w0 p (star (kO (qs O) 0 []) (Sep [kO I J C.ask,ay F (dD C.s.ps).vs.toArray 50,ay A iX 41,ay r C.cells.toArray 41,held C.gi,B])):=St.weak t1 (dU.left (ic (n:=0) (sz:=6) rfl (by decide)));have b:St w0 p (Sep [kO (qs O) 0 [],kO I J C.ask,ay F (dD C.s.ps).vs.toArray 50,ay A iX 41,ay r C.cells.toArray 41,held C.gi,B]):=t1;have P:C.gi p:=V b (i:=5) rfl;obtain⟨q,hq,hcl⟩:=P.cl.at hx;have M:(kH C.dp 0 x.got).length=x.got.length:=yj _ _ _;have d:∀k,k<=x.got.length->(tQ (kH C.dp 0 x.got) x.got k).length=x.got.length:=λk G=>D9 M (by omega);refine⟨_,_,_,b.aj 4 rfl 8,_,_,_,b.aj 4 rfl 8,av hq ⟨?_,?_,x.ga,x.got.length,x.gc,?_,I7 t1 (P.i x hm).got (by omega) λt D w40 t2=>?_⟩⟩
  .rw[X];omega
  .rw[X];omega
  .rw[X,aq];have:=bX hcl 7 _ rfl
   rwa [az] at this
  refine⟨λn Q m=>∃k:Nat,n=k/\k<=x.got.length/\m=x.got.length-k/\St w0 Q (Sep [kO t D (tQ (kH C.dp 0 x.got) x.got k),kO I J C.ask,ay F (dD C.s.ps).vs.toArray 50,ay A iX 41,ay r C.cells.toArray 41,held C.gi,B]),⟨x.got.length,0,rfl,by omega,by omega,?_⟩,?_⟩
  .rw[Ga];exact t2
  rintro Q m n ⟨k,rfl,hk1,hm1,t3⟩-
  by_cases R:(k:Int)<(x.got.length:Int)
  .obtain⟨y,hd⟩:=dX C.dp k (by omega);have hgy:C.dp.getD k false=y:=by rw[au,hd];rfl
   obtain⟨q2,hq2,N⟩:=((V t3 (i:=5) rfl).dp).at hd;obtain⟨u,hu⟩:=dX x.got k (by omega);have hp:(kH C.dp 0 x.got)[k]?=some (if y then z6 else u):=by rw[BE,hu,az,hgy];rfl
   have h:∀v,(kH C.dp 0 x.got)[k]?=some v->(tQ (kH C.dp 0 x.got) x.got k).set k v=tQ (kH C.dp 0 x.got) x.got (k+1):=λv hv=>J9 M hv;have f:y=false->tQ (kH C.dp 0 x.got) x.got k=tQ (kH C.dp 0 x.got) x.got (k+1):=λU=>F9 M (by omega) (by rw[hp,hu,U];rfl);refine di R ⟨λY=>St w0 Y (Sep [kO t D (tQ (kH C.dp 0 x.got) x.got (k+1)),kO I J C.ask,ay F (dD C.s.ps).vs.toArray 50,ay A iX 41,ay r C.cells.toArray 41,held C.gi,B]),λY t4 _=>(mS (by omega) t4),_,_,_,t3.aj 4 rfl 17,av hq2 ⟨by omega,by omega,y,by rw[aq];exact N.1,?_⟩⟩
   cases y with
   |true=>
    obtain⟨g,rfl⟩:=St.kN (t3.out 0 rfl) (by rw[d k (by omega)];omega);refine cT rfl (av rfl ⟨by omega,by omega,?_⟩);rw[aq];refine St.wh fU (x:=z6) z6.one (t3.out 0 rfl) (i:=k) (by rw[d k (by omega)];omega) λw43 t4=>?_;rw[h z6 hp] at t4;exact t4
   |false=>exact cF rfl (by rw[<-f rfl];exact t3)
  obtain rfl:x.got.length=k:=by omega
  have Y:tQ (kH C.dp 0 x.got) x.got x.got.length=oP C:=by rw[F8 M,ep]
  have N:(oP C).length=x.got.length:=by rw[ep,M]
  rw[Y] at t3;obtain⟨f,h⟩:=HZ G (by omega);have E:jl C=Yr C.o.und (dD C.s.ps) (oP C) C.ask:=by rw[jl,af (by omega)]
  rw[<-N];refine dz (by rw[N];exact R) ⟨_,t3.aj 4 rfl 6,_,t3.cellsIn 2 rfl,_,_,_,t3.aj 4 rfl 15,bg (Mh (by have:=G.o;unfold Po.ok at this;omega) T (St.rd fU (t3.out 0 rfl)) (V t3 (i:=5) rfl).ask (by rw[f,z1]) (by omega) h G.asked) ?_⟩;rintro v w44 ⟨a,c,rfl,k4⟩;have t4:=t3.and k4;refine⟨_,_,_,_,rfl,by rw[E],?_⟩;rw[E];exact St.aM (l:=[_,_,_,_,_,_,_,_]) t4 [0,3,4,5,6,7]
 rintro w9 f l28 h ⟨rfl,s9⟩-;let x:Rn:={Qu C with xa:=C.xa,xc:=C.xc,ga:=f,gc:=h,ba:=C.ya,bc:=C.yc};have hxl:(C.cl++[x]).length=C.cl.length+1:=by simp
 refine⟨λw10=>∃M N,St w0 w10 (Sep [Is M N (C.cl++[x]),ay r ({C with cl:=C.cl++[x],ka:=M,kc:=N}:Ck).cells.toArray 41,kO f h (jl C),ay F (dD C.s.ps).vs.toArray 50,ay A iX 41,held C.gi,B]),?_,?_⟩
 rotate_left
 .have t:=s9.quiet (aZ.drew w9 []);refine⟨_,_,_,t.aj 3 rfl 8,C.p,t.bA 3 9 rfl rfl,_,_,_,t.aj 3 rfl 15,_,_,_,t.aj 3 rfl 16,⟨?_,?_⟩⟩
  .refine t.aY #[] λY O t1=>?_;have t1:=St.weak t1 (dU.left (ic (n:=0) (sz:=9) rfl (by decide)));have b:St w0 O (Sep [Is (qs Y) 0 [],kO f h (jl C),ay F (dD C.s.ps).vs.toArray 50,ay A iX 41,ay r C.cells.toArray 41,held C.gi,B]):=t1;refine⟨b.aj 4 rfl 16,b.aj 4 rfl 15,b.bA 4 9 rfl rfl,b.aj 4 rfl 8,⟨?_,?_⟩⟩
   .refine On t1 (V b (i:=5) rfl).cl (by omega) λd D Q t2=>?_;have t2:St w0 Q (Sep [Is d D C.cl,kO f h (jl C),ay F (dD C.s.ps).vs.toArray 50,ay A iX 41,ay r C.cells.toArray 41,held C.gi,B]):=t2;refine⟨t2.aj 4 rfl 16,t2.aj 4 rfl 15,t2.bA 4 9 rfl rfl,t2.aY x.cells.toArray λr8 w27 t3=>dW (l:=C.cl) (l2:=[x]) EV Rn.len Rn.one (t3.out 1 rfl) (nJ (t3.cellsIn 0 rfl) rfl) (by simp only[aG];omega) (by simp only[aG];omega) λp E w28 t4=>?_⟩;have t4:=t4.back (i:=1) (by show 1<8;decide);exact St.cL (l:=[_,_,_,_,_,_,_,_]) t4 5 rfl (j:=8) (show 8<19 by decide) rfl λw29 t5=>⟨p,E,St.aM (l:=[_,_,_,_,_,_,_,_]) t5 [1,5,2,3,4,6,7]⟩
   refine b.aY x.cells.toArray λr9 w30 t3=>⟨t3.aj 5 rfl 8,On (t3.out 1 rfl) (V t3 (i:=6) rfl).cl (by omega) λD E Q t4=>?_⟩;have t4:St w0 Q (Sep [Is D E C.cl,ay r9 x.cells.toArray 147,kO f h (jl C),ay F (dD C.s.ps).vs.toArray 50,ay A iX 41,ay r C.cells.toArray 41,held C.gi,B]):=t4;exact dW (l:=C.cl) (l2:=[x]) EV Rn.len Rn.one t4 (nJ (t4.cellsIn 1 rfl) rfl) (by simp only[aG];omega) (by simp only[aG];omega) λd p w32 t5=>St.cL (l:=[_,_,_,_,_,_,_,_]) t5 5 rfl (j:=8) (show 8<19 by decide) rfl λw33 t6=>⟨d,p,St.aM (l:=[_,_,_,_,_,_,_,_]) t6 [0,5,2,3,4,6,7]⟩
  refine t.aY x.cells.toArray λb w34 t1=>⟨t1.aj 4 rfl 8,t1.aY #[] λQ Y t2=>?_⟩;have t2:=St.weak t2 (dU.left (ic (n:=0) (sz:=9) rfl (by decide)));have D:St w0 Y (Sep [Is (qs Q) 0 [],ay b x.cells.toArray 147,kO f h (jl C),ay F (dD C.s.ps).vs.toArray 50,ay A iX 41,ay r C.cells.toArray 41,held C.gi,B]):=t2;refine⟨D.aj 5 rfl 8,On t2 (V D (i:=6) rfl).cl (by omega) λE O w36 t4=>?_⟩;have t4:St w0 w36 (Sep [Is E O C.cl,ay b x.cells.toArray 147,kO f h (jl C),ay F (dD C.s.ps).vs.toArray 50,ay A iX 41,ay r C.cells.toArray 41,held C.gi,B]):=t4;exact dW (l:=C.cl) (l2:=[x]) EV Rn.len Rn.one t4 (nJ (t4.cellsIn 1 rfl) rfl) (by simp only[aG];omega) (by simp only[aG];omega) λd p w37 t5=>St.cL (l:=[_,_,_,_,_,_,_,_]) t5 5 rfl (j:=8) (show 8<19 by decide) rfl λw38 t6=>⟨d,p,St.aM (l:=[_,_,_,_,_,_,_,_]) t6 [0,5,2,3,4,6,7]⟩
 rintro w10 ⟨M,N,Y⟩-;have hk8:=(xC (Y.out 0 rfl).rowOf).1;let D:Ck:={C with cl:=C.cl++[x],ka:=M,kc:=N};refine Y.aY z6.vs.toArray λr5 w11 s11=>?_;have hmx:I6.mix 0 (sH C) z6=z6:=rfl;refine⟨λb n w12 m=>∃k:Nat,n=k/\k<=6/\m=6-k/\b=decide (I6.mix k (sH C) z6≠z6)/\St w0 w12 (Sep [ay r5 (I6.mix k (sH C) z6).vs.toArray 50,Is M N (C.cl++[x]),ay r D.cells.toArray 41,kO f h (jl C),ay F (dD C.s.ps).vs.toArray 50,ay A iX 41,held C.gi,B]),⟨6,0,rfl,by omega,by omega,by rw[hmx];simp,s11⟩,?_⟩;rintro w12 m1 b n ⟨k,rfl,hk6,hm1,rfl,t⟩-
 by_cases R:(k:Int)<6
 .have d:k<6:=by omega
  have O:(sH C).at' k=if yM (jl C) k>(dD C.s.ps).at' k then yM (jl C) k-(dD C.s.ps).at' k else 0:=by
   have:(sH C).at' k=if (j6 (jl C)).at' k>(dD C.s.ps).at' k then (j6 (jl C)).at' k-(dD C.s.ps).at' k else 0:=I6.mU _ _ _ _ d
   rw[this,j6,I6.sj _ _ d]
  have hsk:=T k d;refine di R ⟨λb w13=>b=decide (I6.mix (k+1) (sH C) z6≠z6)/\St w0 w13 (Sep [ay r5 (I6.mix (k+1) (sH C) z6).vs.toArray 50,Is M N (C.cl++[x]),ay r D.cells.toArray 41,kO f h (jl C),ay F (dD C.s.ps).vs.toArray 50,ay A iX 41,held C.gi,B]),?_,?_⟩
  .rintro w13 b ⟨rfl,p⟩-;exact⟨6-(k+1),by omega,k+1,inc (by decide) d,by omega,rfl,rfl,p⟩
  have bd:∀j,0<=yM ((jl C).take j) k/\yM ((jl C).take j) k<=4000:=λj=>by
   have:=yw (B:=4) (l:=(jl C).take j) (λu hu=>hg.2 u (bC hu)) k d;have Q:((jl C).take j).length<=1000:=by rw[aW];omega
   omega
  refine⟨λE n w14 m=>∃j:Nat,n=j/\j<=(jl C).length/\m=(jl C).length-j/\E=yM ((jl C).take j) k/\St w0 w14 (Sep [ay r5 (I6.mix k (sH C) z6).vs.toArray 50,Is M N (C.cl++[x]),ay r D.cells.toArray 41,kO f h (jl C),ay F (dD C.s.ps).vs.toArray 50,ay A iX 41,held C.gi,B]),⟨(jl C).length,0,rfl,by omega,by omega,rfl,t⟩,?_⟩;rintro w14 m3 E n ⟨j,rfl,hj,hm3,rfl,p⟩-
  by_cases u:(j:Int)<((jl C).length:Int)
  .obtain⟨y,U⟩:=dX ((jl C)) j (by omega);obtain⟨q,hq,hc⟩:=LL (St.rd fU (p.out 3 rfl)) U (aZ.refl _ _) k d;have hy4:=hg.2 y (ak U) k d;have b1:=bd j;have X:yM ((jl C).take (j+1)) k=yM ((jl C).take j) k+y.at' k:=by rw[bJ U,GF]
   refine di u (av hq ⟨by omega,by omega,by omega,by omega,_,hc,(jl C).length-(j+1),by omega,j+1,gC (by omega),by omega,rfl,?_,p⟩);rw[X,gC (by omega)]
  obtain rfl:j=(jl C).length:=by omega
  have b1:=bd (jl C).length;rw[aH] at b1⊢;refine dz u ⟨by omega,by omega,(dD C.s.ps).at' k,by rw[iC,br p 4 rfl d],?_⟩
  by_cases g:yM (jl C) k>(dD C.s.ps).at' k
  .refine di g ⟨by omega,by omega,(dD C.s.ps).at' k,by rw[iC,br p 4 rfl d],by omega,by omega,?_⟩;rw[ag g] at O;rw[iC,gC (by omega),<-O];refine p.cL 0 rfl d rfl λX q=>⟨(dT (S9 d (by omega))).symm,?_⟩;rw[I6.lE _ _ _ d] at q;exact q
  rw[af g] at O;refine dz g ⟨by rw[Ka d O],?_⟩;rw[Ka d O];exact p
 obtain rfl:k=6:=by omega
 rw[I6.sM] at t⊢;refine cF (by simp) ⟨_,_,_,_,t.bA 2 4 rfl rfl,C.p,t.bA 2 9 rfl rfl,sH C,t.cellsIn 0 rfl,t.qu (Qg _ G.o G.p (sH C)) λw16 s16=>⟨(qe C).1,(qe C).2,rfl,s16.aY z6.vs.toArray λr6 w17 s17=>s17.aR 0 rfl (qe C).1.vs rfl (I6.one _) λw18 g=>?_⟩⟩;let E:Ck:={D with ov:=jG C,p:=if jG C then C.p else (qe C).1};refine⟨λw19=>St w0 w19 (Sep [ay r6 (qe C).1.vs.toArray 37,ay r5 (sH C).vs.toArray 50,Is M N (C.cl++[x]),ay r E.cells.toArray 41,kO f h (jl C),ay F (dD C.s.ps).vs.toArray 50,ay A iX 41,held C.gi,B]),?_,?_⟩
 .rintro w19 s19 -;have s20:=s19.aM [2,4,7,3,6,8];have s21:=St.kr s20 (dS Rn.len) (dS fU) (S:=λw=>iA 9 Rn.cells w M (C.cl++[x])/\iA 6 I6.vs w f (jl C)) λw P Q=>⟨P,Q⟩;have d:=St.kr s21 (cV _) (cV _) λw P Q=>(⟨Q.ask,Q.bd,Q.dp,P.1,λy U=>(aB.1 U).elim (Q.i y) λe=>by rw[aI.1 e];exact⟨Q.ask,P.2,Q.bd⟩,hk8⟩:E.gi w);refine Ex8<|Ex8<|⟨_,_,_,E.p,Ex8 ⟨_,_,d.cellsIn 1 rfl,bg (AD (St.pk (l:=[_]) d) (by show C.dp.length<=1000;omega)) ?_⟩⟩;rintro v w20 ⟨K,eC,eS,rfl,q⟩;have u:=St.upk (l:=[_]) q;refine Ex8<|Ex8<|⟨_,_,_,K.p,Ex8 ⟨_,_,rfl,u.aR 2 rfl K.cells rfl K.one λw21 X=>(Ex8<|Ex8<|⟨_,_,_,K.p,Ex8 ⟨_,_,X.cellsIn 2 rfl,K,?_,eS,rfl,X.aM [0,3]⟩⟩)⟩⟩;rw[eC];simp[E,D,mg,mh,Ck.er,Rn.er,x,Qu]
 refine⟨λb v=>b=jG C/\St w0 v (Sep [ay r6 (qe C).1.vs.toArray 37,ay r5 (sH C).vs.toArray 50,Is M N (C.cl++[x]),ay r D.cells.toArray 41,kO f h (jl C),ay F (dD C.s.ps).vs.toArray 50,ay A iX 41,held C.gi,B]),?_,?_⟩
 .rintro v b ⟨rfl,d⟩-
  cases hla:jG C with
  |true=>
   refine cT rfl (St.cL d 3 rfl (j:=18) (show 18<19 by decide) rfl λy q=>?_);have O:E.cells.toArray=({D with ov:=true}:Ck).cells.toArray:=by simp only[E,hla,kD];rfl
   rw[O];exact q
  |false=>
   refine cF rfl ⟨(qe C).1,d.cellsIn 0 rfl,d.mA 3 9 rfl ({D with p:=(qe C).1}:Ck).cells.toArray (show 15<=19 by decide) (I6.one _) rfl λj u=>?_⟩;have O:E.cells.toArray=({D with p:=(qe C).1}:Ck).cells.toArray:=by
    have P:E={D with p:=(qe C).1}:=by
     simp only[E,hla];simp[D,hov]
    rw[P]
   rw[O];exact u
 by_cases g1:sH C=z6
 .exact cT (by simp[g1]) ⟨by rw[jG,dT g1,iY],g⟩
 refine cF (by simp[g1]) ⟨_,_,_,g.aj 3 rfl 8,?_⟩
 by_cases g2:C.cl.length+1>=30
 .exact di (by show(((C.cl++[x]).length:Nat):Int)>=30;omega) ⟨by rw[jG,dT g2,iY,kX],g⟩
 exact dz (by show ¬ (((C.cl++[x]).length:Nat):Int)>=30;omega) ⟨by rw[jG,dF g1,dF g2,fO,fO],g⟩
section
variable {w0 w:ah} {S:Se} {o:Po} {D:Ck} {B:bP}
def Ul{M:List bP}(s:St w0 w (Sep (held D.gi::M)))(h:D.Ok)(g:∀{b},St w0 b (Sep M)->D.s.In b){k:Nat}{y:Br}(i:D.s.bd[k]?=some y)(u:I6):
  CP 79 #[.agg D.cells.toArray,iv k,.agg u.vs.toArray] w (λr b=>∃a:Ck,a.er=(if mb D k y u=0 then uJ D k u else D).er/\a.s=D.s/\(mb D k y u≠0->a=D)/\r=.tuple #[.agg a.cells.toArray,iv (mb D k y u)]/\St w0 b (Sep (held a.gi::M))):=by
 refine bg (TS (St.pk (l:=[_]) s) h g i u) ?_;rintro v b ⟨a,c,d,e,rfl,f⟩;exact⟨_,rfl,a,c,d,e,rfl,St.upk (l:=[_]) f⟩
def MD{M:List bP}(s:St w0 w (Sep (held D.gi::M)))(h:D.Ok)(g:∀{b},St w0 b (Sep M)->D.s.In b)(c:D.ov=false):
  CP 80 #[.agg D.cells.toArray] w (λr b=>∃a:Ck,a.er=(mg D).er/\a.s=D.s/\r=.tuple #[.agg a.cells.toArray,iv 0]/\St w0 b (Sep (held a.gi::M))):=by
 refine bg (Mn (St.pk (l:=[_]) s) h g c) ?_;rintro v b ⟨a,d,e,rfl,f⟩;exact⟨_,rfl,a,d,e,rfl,St.upk (l:=[_]) f⟩
end

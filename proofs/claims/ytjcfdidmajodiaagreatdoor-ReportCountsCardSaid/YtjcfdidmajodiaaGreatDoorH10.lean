import Derived.Test.YtjcfdidmajodiaaGreatDoorH09
set_option linter.unusedVariables false
set_option linter.defProp false
set_option maxRecDepth 100000
namespace Go.Proofs.YtjcfdidmajodiaaGreatDoor
open Go Go.Vc _root_.Go.Proofs.Tryz
def ud(_ u:I6)(k:Nat):I6:=u.put k (u.at' k-1)
def y8(m u:I6)(T:List Int):Nat->Int
 | 0=>-1
 | k+1=>if u.at' k=0 then y8 m u T k else if T.getD (rk m (ud m u k)).toNat 0>y8 m u T k then T.getD (rk m (ud m u k)).toNat 0 else y8 m u T k
def Ic{m u:I6}(h:kG m u){k:Nat}(b:k<6)(c:u.at' k≠0):kG m (ud m u k):=⟨h.mm,λ j a=>by
 have h1:=h.u j a; have h2:=h.u k b;unfold ud;rw[I6.ie _ _ _ _ b a]
 split
 ·rename_i e; subst e; omega
 ·exact h1⟩
def Od{w:af}{m u:I6}(h:kG m u)(hp:pr m.l<=1024){a:OA}{c:Nat}{T:List Int}(H:cP 1 i1 w a T)(N:pr m.l=T.length) :
  CP 297 #[.agg m.vs.toArray,.agg u.vs.toArray,.slice a T.length c] w (λ r w'=>r=iv (y8 m u T 6)/\aC w w' []):=by
 refine qi.2.2.2.2.2.1 ?_;refine aG m.vs.toArray λ r1 Q s1=>s1.aB u.vs.toArray λ r2 R s2=>⟨u,s2.cellsIn 0 rfl,?_⟩;refine⟨λ n i B x=>∃ k:Nat,i=k/\k<=6/\x=6-k/\n=y8 m u T k/\St w B (Sep [aj r2 u.vs.toArray 42,aj r1 m.vs.toArray 42,emp]),⟨6,0,rfl,by omega,by omega,rfl,s2⟩,?_⟩;rintro B x n i ⟨k,rfl,O,P,rfl,o⟩ -
 by_cases y:(k:Int)<6
 ·have b:k<6:=by omega
  refine aP y ⟨λ n C=>n=y8 m u T (k+1)/\St w C (Sep [aj r2 u.vs.toArray 42,aj r1 m.vs.toArray 42,emp]),?_,by omega,by omega,u.at' k,u.get k b,?_⟩
  ·rintro C n ⟨rfl,I⟩ -;exact⟨6-(k+1),by omega,k+1,inc (by decide) b,by omega,rfl,rfl,I⟩
  by_cases d:u.at' k=0
  ·exact cT (by simpa using d) ⟨by rw[y8,ak d],o⟩
  have g:=Ic h b d;have f:=jN g 6 (aO _);rw[<- oB] at f;have hu:=h.u k b;have E:=h.mm k b;have D:y8 m u T (k+1)=if T.getD (rk m (ud m u k)).toNat 0>y8 m u T k then T.getD (rk m (ud m u k)).toNat 0 else y8 m u T k:=by rw[y8,ah d]
  refine cF (by simpa using d) ⟨u,o.cellsIn 0 rfl,o.aB z6.vs.toArray λ r3 S J=>J.az 0 rfl u.vs rfl (I6.one _) λ U K=>⟨by omega,by omega,?_⟩⟩;rw[dM,cA (by omega)];refine K.aN 0 rfl b rfl λ L p=>?_;rw[I6.jf _ _ _ b] at p;refine⟨m,p.cellsIn 2 rfl,ud m u k,p.cellsIn 0 rfl,au (V6 L m (ud m u k)) ?_⟩;rintro v M ⟨⟨n,e,rfl,he,F⟩,c8⟩;obtain rfl:=he.2 ⟨hp,g⟩;obtain rfl:=F rfl;have A:=(p.quiet c8).ay [1,2,3];obtain⟨j,z⟩:=vm f.1;have t:j<T.length:=by omega
  obtain⟨q,G,s⟩:=dA (H.av A.av) (i:=j) (x:=T.getD j 0) (by rw[aJ,gE t]; rfl);refine⟨_,_,rfl,cT rfl (aq G ⟨by show 0<=fH m (ud m u k) 6; omega,by show fH m (ud m u k) 6<_; omega,T.getD j 0,?_,?_,A⟩)⟩
  ·show M.cell? (Addr.add q ((fH m (ud m u k) 6).toNat*1))=_;rw[z,aD]; exact s
  ·rw[D];show _=if T.getD (fH m (ud m u k) 6).toNat 0>_ then T.getD (fH m (ud m u k) 6).toNat 0 else _
   rw[z,aD]
 ·obtain rfl:k=6:=by omega
  exact cF (by simp) ⟨rfl,o.av⟩
structure Of where
 b:Int
 want:I6
 v:Int
def Of.cells(o:Of):List Value:=iv o.b :: o.want.on [iv o.v]
def Of.len(o:Of):o.cells.length=8:=rfl
def nA(o:Of):Bool:=o.want.l.all iy&&(decide (o.want≠z6)&&(decide (1<=o.v)&&decide (o.v<=1000000)))
def L8(w:af)(o:Of):CP 234 #[.agg o.cells.toArray] w (λ r w'=>r=.bool (nA o)/\aC w w' []):=by
 refine @yz _ o.want _ _ _ ?_;refine aG o.cells.toArray λ r1 c s1=>⟨o.want,s1.aQ 0 1 rfl rfl,au (iq c o.want) ?_⟩;rintro v d ⟨rfl,c2⟩;have s2:=s1.quiet c2;refine⟨_,rfl,?_⟩
 cases hq:o.want.l.all iy with
 | false=>exact cF rfl ⟨by rw[nA,hq]; rfl,s2.av⟩
 | true =>
  have a:nA o=(decide (o.want≠z6)&&(decide (1<=o.v)&&decide (o.v<=1000000))):=by rw[nA,hq]; rfl
  refine cT rfl ⟨o.want,s2.aQ 0 1 rfl rfl,?_⟩;rw[I6.beq_eq]
  by_cases b:o.want=z6
  ·exact cF (by rw[dT b]; rfl) ⟨by rw[a,dF (λ h=>h b)]; rfl,s2.av⟩
  ·rw[dT b,bt] at a;refine cT (by rw[dF b]; rfl) ⟨_,s2.ag 0 rfl 7,?_⟩
   by_cases g1:1<=o.v
   ·rw[dT g1,bt] at a;exact aP g1 ⟨_,s2.ag 0 rfl 7,by rw[a],s2.av⟩
   ·exact aU g1 ⟨by rw[a,dF g1]; rfl,s2.av⟩
end Go.Proofs.YtjcfdidmajodiaaGreatDoor
namespace Go.Vc
open Go
def CK{P:Program}{b:FuncId}{c:List Value}{rec:FuncId->Nat->Loop}{w0 w:World}{N R:World->Prop}{X:List (Nat×(World->Prop))}{L:List aI}(s:St w0 w (Sep L))(hp:∀ fn D,(rec fn D).pending=none/\(rec fn D).state=.ready) (k:∀ fn l f,St w0 f (Sep (dQ l (.loop (rec fn w.heap.size)) :: dQ w.heap.size (.deferred (some [])) :: L)) ->
   Calls P b (Value.func (.yield l) #[] #[] :: c).toArray f (yd λ _ g=>∃ a,St w0 g (Sep (dQ l (.loop (rec fn w.heap.size)) :: a))/\∀ i,St w0 i (Sep a)->N i)):Ew P b c rec w N R X:=by
 intro fn;have s1:=s.VO (.deferred (some []));have j:(w.alloc (.deferred (some []))).heap.size=w.heap.size+1:=by rw[World.size_alloc]
 have s2:=s1.VO (.loop (rec fn w.heap.size));rw[j] at s2;refine(k fn _ _ s2).mono λ e g ⟨v,he,a,d,m⟩=>⟨⟨v,he⟩,_,d.rO 0 rfl,?_,?_⟩
 ·rw[(hp fn _).2]; intro h; cases h
 ·rw[(hp fn _).1];exact m _ ((d.putAt 0 rfl _).second)
end Go.Vc
namespace Go.Proofs.YtjcfdidmajodiaaGreatDoor
open Go Go.Vc _root_.Go.Proofs.Tryz
theorem Qi{m u:I6}(h:kG m u):∀ j,j<=6->fH m u (6-j)*qM m j<=fH m u 6
 | 0,_=>by show fH m u 6*1<=_; omega
 | j+1,d=>by
  have a:=Qi h j (by omega);rw[show 6-j=(5-j)+1 by omega] at a;have e:=xE h.mm j (by omega);have hu:=h.u (5-j) (by omega);have b:fH m u (5-j+1)=fH m u (5-j)*(m.at' (5-j)+1)+u.at' (5-j):=rfl;rw[b,jD] at a;have h1:0<=u.at' (5-j)*qM m j:=gS hu.1 (by omega);rw[show 6-(j+1)=5-j by omega];have c:fH m u (5-j)*qM m (j+1)=fH m u (5-j)*(m.at' (5-j)+1)*qM m j:=by
   show fH m u (5-j)*(qM m j*(m.at' (5-j)+1))=_;rw[Dd (qM m j),Dc]
  rw[c]; omega
def WI{m u:I6}(h:kG m u){j:Nat}(b:j<6)(hp:0<u.at' (5-j)):qM m j<=rk m u:=by
 have h1:=Qi h j (by omega);rw[show 6-j=(5-j)+1 by omega] at h1;have a:fH m u (5-j+1)=fH m u (5-j)*(m.at' (5-j)+1)+u.at' (5-j):=rfl;have h2:=(jN h (5-j) (by omega)).1;have hm:=h.mm (5-j) (by omega);have c:=xE h.mm j (by omega);have h3:1<=fH m u (5-j+1):=by
  rw[a];have:=gS h2 (show 0<=m.at' (5-j)+1 by omega);omega
 have h4:1*qM m j<=fH m u (5-j+1)*qM m j:=gR h3 (by omega);show qM m j<=fH m u 6;omega
def tV(m:I6)(F:Wf):Nat->List Int
 | 0=>List.replicate (aE m) 0
 | i+1=>mw m (aK m i) i 6 ((tV m F i).set i (F (aK m i)))
theorem sG(m:I6)(F:Wf):∀ i,(tV m F i).length=aE m
 | 0=>j6
 | i+1=>by rw[tV,oJ,dN,sG m F i]
def wv(m:I6)(F:Wf):List Int:=tV m F (aE m)
section
variable {w0 w:af} {B:aI} {m:I6} {g r2 r3 r4 r5 rm l D:Nat} {lp:Loop} {F:Wf} {lk:List KV}
def Qq(m:I6)(F:Wf)(g r2 r3 r4 r5 a:Nat)(lk:List KV)(B:aI)(i:Nat):List aI :=
 [iA (qs g) (aE m) (tV m F i),aj r3 #[.slice (qs g) (aE m) (aE m)] 249,aj r5 #[iv i] 3,aj r4 #[.map (some a)] 348,mapA a lk,aj r2 m.vs.toArray 42,B]
def MS(hm:I6.Le m 4)(y:gI m lk F){i:Nat}(hi:i<aE m){Fr:aI}{n1:Int}{u1:I6}{n2:Int}{a1:OA}{l1:Nat}{c1:Nat}{u2:I6}{r1:Nat}{n3:Int}{u3:I6}{n4:Int}{a2:OA}{l2:Nat}{c2:Nat}{n5:Int}{u4:I6}{n6:Int}{u5:I6}{n7:Int}{x1:Nat->Value}{u6:I6}{v1:Value}{fn:FuncId}(a:lp=iV n1 u1 n2 a1 l1 c1 u2 r1 r2 n3 u3 n4 a2 l2 c2 n5 u4 n6 u5 n7 r3 r4 x1 r5 u6 v1 fn D)(h:St w0 w (star (Sep (dQ l (.loop lp) :: Qq m F g r2 r3 r4 r5 rm lk B i)) Fr)) :
  pK prog l #[.agg (aK m i).vs.toArray] w λ b o=>b=true/\St w0 o (star (Sep (dQ l (.loop lp) :: Qq m F g r2 r3 r4 r5 rm lk B (i+1))) Fr):=by
 have hc:=gB hm;have x:=sG m F i;have s:St w0 w (Sep (dQ l (.loop lp) :: Qq m F g r2 r3 r4 r5 rm lk B i++[Fr])):=h.open;refine nF (n1:=n1) (u1:=u1) (n2:=n2) (a1:=a1) (l1:=l1) (c1:=c1) (u2:=u2) (r1:=r1) (r2:=r2) (n3:=n3) (u3:=u3) (n4:=n4) (a2:=a2) (l2:=l2) (c2:=c2) (n5:=n5) (u4:=u4) (n6:=n6) (u5:=u5) (n7:=n7) (r3:=r3) (r4:=r4) (x1:=x1) (r5:=r5) (u6:=u6) (v1:=v1) (s.rO 0 rfl) (by rw[a]; rfl) (by rw[a]; rfl) (by rw[a]; rfl) (by rw[a]; rfl) ?_;unfold kq;have k:lp.state=.ready:=by rw[a]; rfl
 have f:({ ({ lp with state:=.busy }:Loop) with state:=.ready,pending:=none }:Loop)=lp:=by rw[a]; rfl
 clear a;refine s.aB z6.vs.toArray λ e E s1=>s1.az 0 rfl (aK m i).vs rfl (I6.one _) λ o s2=>?_;have s2:St w0 o (Sep (aj e (aK m i).vs.toArray 42 :: dQ l (.loop lp) :: Qq m F g r2 r3 r4 r5 rm lk B i++[Fr])):=s2;refine⟨lp,s2.rO 1 rfl,k,?_⟩;have c:=(s2.putAt 1 rfl (.loop { lp with state:=.busy })).quiet (aC.drew _ []);refine⟨_,_,_,c.ag 3 rfl 0,_,c.ag 4 rfl 0,_,c.ag 5 rfl 0,_,c.cellsIn 0 rfl,?_⟩;refine F6 Uj (c.out 6 rfl) (aK m i) ?_;rw[y.get];refine⟨c.ag 4 rfl 0,c.ag 3 rfl 0,aq rfl ⟨by omega,by omega,?_⟩⟩;rw[aD];refine St.gu (v:=iv) rfl (c.out 2 rfl) (i:=i) (by omega) λ t d=>?_;have d:St w0 t (Sep (aj e (aK m i).vs.toArray 42 :: dQ l (.loop { lp with state:=.busy }) :: iA (qs g) (aE m) ((tV m F i).set i (F (aK m i))) :: aj r3 #[.slice (qs g) (aE m) (aE m)] 249 :: aj r5 #[iv i] 3 :: aj r4 #[.map (some rm)] 348 :: mapA rm lk :: aj r2 m.vs.toArray 42 :: B :: [Fr])):=d.back (i:=2) (by show 2<10; decide);refine⟨_,d.cellsIn 7 rfl,_,d.cellsIn 0 rfl,_,d.ag 4 rfl 0,?_⟩;have z:St w0 t (Sep (UC g r3 r5 (aE m) i ((tV m F i).set i (F (aK m i))) (Sep [aj e (aK m i).vs.toArray 42,dQ l (.loop { lp with state:=.busy }),aj r4 #[.map (some rm)] 348,mapA rm lk,aj r2 m.vs.toArray 42,B,Fr]))) :=
  ((d.ay [2,3,4,0,1,5,6,7,8,9]).split [_,_,_]).eqv (bX.right (bX.unit _)) |> St.cat
 refine au (Rb hm z (by rw[dN,x]) hi (λ j u hp=>?_) (by omega)) ?_
 ·have:=WI (ct hm i) u hp;rw[iZ hm i hi] at this;exact this
 rintro v C ⟨rfl,A⟩;have p:St w0 C (Sep ([iA (qs g) (aE m) (tV m F (i+1)),aj r3 #[.slice (qs g) (aE m) (aE m)] 249,aj r5 #[iv i] 3]++[aj e (aK m i).vs.toArray 42,dQ l (.loop { lp with state:=.busy }),aj r4 #[.map (some rm)] 348,mapA rm lk,aj r2 m.vs.toArray 42,B,Fr])):=A.iE [_,_,_];refine⟨rfl,_,p.ag 2 rfl 0,p.aN 2 rfl (by show 0<1; decide) rfl λ G q=>⟨_,q.rO 4 rfl,rfl,?_⟩⟩;have r:=q.putAt 4 rfl (.loop lp);rw[cW (n:=(i:Int)+1) ⟨by omega,by omega⟩] at r;rw[f];exact(r.ay [4,0,1,2,5,6,7,8,9]).shut
end
set_option maxHeartbeats 4000000 in
theorem TM{w:af}{x:Xv}{m:I6}(hm:I6.Le m 4)(hp:pr m.l<=1024)(hz:bJ x<=100000)(hx:x.In w) :
  CP 231 #[.agg x.cells.toArray,.agg m.vs.toArray] w (λ r w'=>(fC x≠0/\r=.tuple #[.slice none 0 0,iv (fC x)]/\aC w w' [])\/(fC x=0/\∃ g,r=.tuple #[.slice (qs g) (aE m) (aE m),iv 0]/\St w w' (Sep [iA (qs g) (aE m) (wv m (iM m x))]))):=by
 refine uS (u1:=x.u) ?_;unfold qq;refine aG x.cells.toArray λ r1 j s1=>s1.aB m.vs.toArray λ r2 w2 s2=>?_;have z:∀ {w'},aC w w' []->x.In w':=λ hc=>hx.av hc;refine⟨_,x.u,_,_,_,_,s2.cellsIn 1 rfl,au (Ho hz (z s2.av)) ?_⟩;rintro v w3 ⟨rfl,c3⟩;have C:=s2.quiet c3;refine⟨_,rfl,?_⟩
 by_cases t:fC x=0
 ·refine cF (by simpa using t) ⟨m,C.cellsIn 0 rfl,au (iq w3 m) ?_⟩;rintro v w4 ⟨rfl,c4⟩;have N:=C.quiet c4;rw[ak (leq hm)];refine⟨_,rfl,cF rfl ⟨m,N.cellsIn 0 rfl,au (y4 w4 m) ?_⟩⟩;rintro v U ⟨rfl,c5⟩;have S:=N.quiet c5;rw[ak ⟨leq hm,hp⟩];have hc:=gB hm;refine⟨_,rfl,cF (by simp; omega) ?_⟩;rw[<- hc.2.1];let A:List aI:=[aj r2 m.vs.toArray 42,aj r1 x.cells.toArray 120,emp];refine⟨λ r3 r4 V=>∃ g f lk,gI m lk (iM m x)/\St w V (Sep (iA (qs g) (aE m) (List.replicate (aE m) 0) :: mapA f lk :: aj r3 #[.slice (qs g) (aE m) (aE m)] 249 :: aj r4 #[.map (some f)] 348 :: A)),?_,?_⟩
  ·rintro V r3 r4 ⟨g,f,lk,y,q⟩ x1;refine q.aB #[iv 0] λ r5 w7 W=>W.aN 0 rfl (by decide) rfl λ w8 T=>⟨m,T.cellsIn 5 rfl,au (T5 T m hm hp) ?_⟩;rintro v E ⟨b,rfl,O⟩;refine⟨_,rfl,CL (by kernel_rfl) ?_⟩;have O:St w E (Sep (aj b m.vs.toArray 42 :: aj r5 #[iv 0] 3 :: iA (qs g) (aE m) (List.replicate (aE m) 0) :: mapA f lk :: aj r3 #[.slice (qs g) (aE m) (aE m)] 249 :: aj r4 #[.map (some f)] 348 :: A)):=O;refine CK O (λ _ _=>⟨rfl,rfl⟩) λ fn l X K=>?_;have L:=(K.ay [0,4,6,3,7,5,8,1,2]).split [_,_,_,_,_,_,_,_];refine au (J5 hm (R:=λ i=>Sep (dQ l (.loop _) :: Qq m (iM m x) g r2 r3 r4 r5 f lk (dQ E.heap.size (.deferred (some []))) i)) (λ i j Fr hi h=>MS (B:=dQ E.heap.size (.deferred (some []))) (D:=E.heap.size) hm y hi rfl h) L) ?_;rintro v Y ⟨rfl,M⟩;refine⟨_,rfl,_,M.first,λ Z p=>⟨_,_,_,p.ag 1 rfl 0,p.rO 6 rfl,.inr ⟨t,g,rfl,?_⟩⟩⟩;exact(p.putAt 6 rfl (.deferred none)).ay [0]
  ·have q:=S.quiet (aC.drew U []);refine⟨_,x.u,_,_,_,_,q.cellsIn 1 rfl,m,q.cellsIn 0 rfl,?_⟩;have h:St w U.drew (Sep (emp :: emp :: emp :: emp :: A)):=q.ay [3,3,3,3,0,1,2];have I:∀ {c2 c3 c4:aI} {w':af} {R:Option Addr->Nat->Nat->af->Prop},St w w' (Sep (emp :: c2 :: c3 :: c4 :: A))->(∀ g d,St w d (Sep (iA (qs g) (aE m) (List.replicate (aE m) 0) :: c2 :: c3 :: c4 :: A))->R (qs g) (aE m) (aE m) d) ->
     gi prog (Instr.makeSlice 249 (iv (aE m:Nat)) (iv (aE m:Nat))) w' λ e j=>∃ a l c,e=.slice a l c/\R a l c j:=by
    intro c2 c3 c4 w' R s k;refine cZ G5 bV (x:=0) rfl s (n:=aE m) (by omega) (by omega) λ g d _ o=>?_;have s2:St w d (Sep (iA (qs g) (aE m) (List.replicate (aE m) 0) :: emp :: c2 :: c3 :: c4 :: A)):=o;exact k g d (s2.ay [0,2,3,4,5,6,7])
   have H:∀ {c1 c3 c4:aI} {w':af} {R:Option Nat->af->Prop},St w w' (Sep (c1 :: emp :: c3 :: c4 :: A))->(∀ f lk d,gI m lk (iM m x)->St w d (Sep (c1 :: mapA f lk :: c3 :: c4 :: A))->R (some f) d) ->
     CC 293 #[.agg (iv x.op :: x.u.on [iv x.v,.slice x.a x.args.length x.c]:List Value).toArray,.agg m.vs.toArray] w' λ e j=>∃ m1:Option Nat,e=.returned (.map m1)/\R m1 j:=by
    intro c1 c3 c4 w' R s k;refine au (ZE hm x (Oj t) hz w _ _ z s) ?_;rintro v d ⟨f,lk,rfl,y,o⟩;have s2:St w d (Sep (mapA f lk :: c1 :: emp :: c3 :: c4 :: A)):=o;exact⟨_,rfl,k f lk d y (s2.ay [1,0,3,4,5,6,7])⟩
   have J:∀ {c1 c2 c4:aI} {w':af} {R:Nat->af->Prop},St w w' (Sep (c1 :: c2 :: emp :: c4 :: A))->(∀ r d,St w d (Sep (c1 :: c2 :: aj r #[.slice none 0 0] 249 :: c4 :: A))->R r d)->cR w' (.cells #[.slice none 0 0] 249) R:=by
    intro c1 c2 c4 w' R s k;exact s.aB _ λ r d o=>k r d (o.ay [1,2,0,4,5,6,7])
   have G:∀ {c1 c2 c3:aI} {w':af} {R:Nat->af->Prop},St w w' (Sep (c1 :: c2 :: c3 :: emp :: A))->(∀ r d,St w d (Sep (c1 :: c2 :: c3 :: aj r #[.map none] 348 :: A))->R r d)->cR w' (.cells #[.map none] 348) R:=by
    intro c1 c2 c3 w' R s k;exact s.aB _ λ r d o=>k r d (o.ay [1,2,3,0,5,6,7])
   have P:∀ {c1 c2 c4:aI} {r:Nat} {v:Value} {w':af} {R:af->Prop},v.oneCell'=true->St w w' (Sep (c1 :: c2 :: aj r #[.slice none 0 0] 249 :: c4 :: A))->(∀ d,St w d (Sep (c1 :: c2 :: aj r #[v] 249 :: c4 :: A))->R d)->fL w' ⟨r,0,none⟩ v R:=by
    intro c1 c2 c4 r v w' R h1 s k;exact s.aN 2 rfl (by show 0<1; decide) h1 k
   have stM:∀ {c1 c2 c3:aI} {r:Nat} {v:Value} {w':af} {R:af->Prop},v.oneCell'=true->St w w' (Sep (c1 :: c2 :: c3 :: aj r #[.map none] 348 :: A))->(∀ d,St w d (Sep (c1 :: c2 :: c3 :: aj r #[v] 348 :: A))->R d)->fL w' ⟨r,0,none⟩ v R:=by
    intro c1 c2 c3 r v w' R h1 s k;exact s.aN 3 rfl (by show 0<1; decide) h1 k
   have F:∀ {c1 c2 c3 c4:aI} {w':af} {Q:Prop},St w w' (Sep (c1 :: c2 :: c3 :: c4 :: A))->Q->aA w' ⟨r2,0,none⟩ 0 m.vs/\aA w' ⟨r1,0,none⟩ 0 (iv x.op :: x.u.on [iv x.v,.slice x.a x.args.length x.c])/\Q:=λ s k=>⟨s.cellsIn 4 rfl,s.cellsIn 5 rfl,k⟩;clear s1 s2 C N S q c3 c4 c5
   repeat' (with_reducible first
    | refine I h λ g j h=>?_
    | refine H h λ f lk j y h=>?_
    | refine J h λ r j h=>?_
    | refine G h λ r j h=>?_
    | refine P rfl h λ j h=>?_
    | refine stM rfl h λ j h=>?_
    | refine F h ?_
    | exact⟨_,_,_,y,h⟩
    | refine⟨?_,?_⟩)
 ·exact cT (by simpa using t) (.inl ⟨t,rfl,C.av⟩)
def oN(q:I6)(v:Int)(c:Ch):Int:=if c.want=q then (if cost c.p q>v then cost c.p q else v) else v
def vD(q:I6)(v:Int)(x:Of):Int:=if x.want=q then (if x.v>v then x.v else v) else v
def wW(l:List Ch)(a:List Of)(q:I6):Int:=a.foldl (vD q) (l.foldl (oN q) 0)
abbrev W6 (w:af) (a:OA) (l:List Of):Prop:=cP 8 Of.cells w a l
def Of.one(o:Of):∀ v∈o.cells,v.oneCell'=true:=by
 intro v a; simp[Of.cells,I6.on] at a; rcases a with rfl|rfl|rfl|rfl|rfl|rfl|rfl|rfl<;>rfl
def YL:Of:=⟨0,z6,0⟩
def RW{w:af}{a1 a2:OA}{c1 c2 x z:Nat}{l:List Ch}{b:List Of}(J:xH w a1 l)(L:l.length<=1000)(I:∀ c∈l,c.Ok)(G:W6 w a2 b)(H:b.length<=100000)(E:w.cell? ⟨x,0,none⟩=some (.slice a1 l.length c1))(F:w.cell? ⟨z,0,none⟩=some (.slice a2 b.length c2))(q:I6) :
  CP 299 #[.agg q.vs.toArray,pt x,pt z] w (λ r w'=>r=iv (wW l b q)/\aC w w' []):=by
 refine(p6 qi).1 ?_;refine aG q.vs.toArray λ r1 N s1=>⟨_,_,_,dI E s1.av,?_⟩;let M:List aI:=[aj r1 q.vs.toArray 42,emp];refine⟨λ n i s m=>∃ k:Nat,i=k/\k<=l.length/\m=l.length-k/\n=(l.take k).foldl (oN q) 0/\St w s (Sep M),⟨l.length,0,rfl,by omega,by omega,rfl,s1⟩,?_⟩;rintro s m n i ⟨k,rfl,A,hm,rfl,s2⟩ -
 by_cases d:(k:Int)<(l.length:Int)
 ·obtain⟨y,h⟩:=bx l k (by omega);obtain⟨p,hp,g⟩:=(J.av s2.av).at h;have j:=kL (f:=oN q) (a:=0) h;refine aP d ⟨λ n o=>n=(l.take (k+1)).foldl (oN q) 0/\St w o (Sep M),?_,aq hp ⟨by omega,by omega,y.p,y.want,g,s2.aB nt.cells.toArray λ r2 K u=>u.az 0 rfl y.cells rfl y.one λ C e=>⟨y.want,dV e 0 rfl,q,e.cellsIn 1 rfl,?_⟩⟩⟩
  ·rintro o n ⟨rfl,t⟩ -;exact jZ (by omega) ⟨rfl,t⟩
  rw[I6.beq_eq]
  by_cases hw:y.want=q
  ·have B:=I y (bf h);refine aP hw ⟨y.p,uu e 0 rfl,q,e.cellsIn 1 rfl,au (mP C B.p (by rw[<- hw]; exact B.w)) ?_⟩;rintro v O ⟨rfl,D⟩;exact⟨_,rfl,by rw[j,oN,ak hw],(e.quiet D).ay [1,2]⟩
  ·exact aU hw ⟨by rw[j,oN,ah hw],e.ay [1,2]⟩
 ·obtain rfl:l.length=k:=by omega
  rw[br];refine aU d ⟨_,_,_,dI F s2.av,?_⟩;refine⟨λ n i s m=>∃ k:Nat,i=k/\k<=b.length/\m=b.length-k/\n=(b.take k).foldl (vD q) (l.foldl (oN q) 0)/\St w s (Sep M),⟨b.length,0,rfl,by omega,by omega,rfl,s2⟩,?_⟩;clear hm A d s2;rintro P m n i ⟨k,rfl,A,hm,rfl,s2⟩ -
  by_cases d:(k:Int)<(b.length:Int)
  ·obtain⟨y,h⟩:=bx b k (by omega);obtain⟨p,hp,g⟩:=(G.av s2.av).at h;have j:=kL (f:=vD q) (a:=l.foldl (oN q) 0) h;refine aP d ⟨λ n o=>n=(b.take (k+1)).foldl (vD q) (l.foldl (oN q) 0)/\St w o (Sep M),?_,aq hp ⟨by omega,by omega,_,y.want,_,g,s2.aB YL.cells.toArray λ r2 K u=>u.az 0 rfl y.cells rfl y.one λ C e=>⟨y.want,e.aQ 0 1 rfl rfl,q,e.cellsIn 1 rfl,?_⟩⟩⟩
   ·rintro o n ⟨rfl,t⟩ -;exact jZ (by omega) ⟨rfl,t⟩
   rw[I6.beq_eq]
   by_cases hw:y.want=q
   ·exact aP hw ⟨_,e.ag 0 rfl 7,by rw[j,vD,ak hw],e.ay [1,2]⟩
   ·exact aU hw ⟨by rw[j,vD,ah hw],e.ay [1,2]⟩
  ·obtain rfl:b.length=k:=by omega
   rw[br];exact aU d ⟨rfl,s2.av⟩
def Yt:j7 prog 229 233 (.agg YL.cells.toArray) 8 64:=j7.mk' underlying229 (by kernel_rfl) rfl (by decide)
abbrev tR (a:OA) (c:Nat) (l:List Of):aI:=dK 233 8 Of.cells a c l
def jK{α:Type}{sz:Nat}{f:α->List Value}{w:af}{r:Nat}{x:α}(h:aA w ⟨r,0,none⟩ 0 (f x))(a:(f x).length=sz):cP sz f w (qs r) [x]:=λ i y b=>by
 match i,b with
 | 0,rfl=>exact⟨_,_,rfl,by rw[bY]; simpa using h,a,rfl⟩
mutual
def ow(m:I6)(T:List Int):Nat->List Of
 | 0=>[]
 | i+1=>if 0<i/\T.getD i 0>y8 m (aK m i) (lH m T i) 6 then ow m T i++[⟨0,aK m i,T.getD i 0⟩] else ow m T i
def lH(m:I6)(T:List Int):Nat->List Int
 | 0=>T
 | i+1=>(lH m T i).set i (if y8 m (aK m i) (lH m T i) 6>(lH m T i).getD i 0 then y8 m (aK m i) (lH m T i) 6 else (lH m T i).getD i 0)
end
theorem Gb(m:I6)(T:List Int):∀ i,(lH m T i).length=T.length
 | 0=>rfl
 | i+1=>by rw[lH,dN,Gb m T i]
theorem Ga(m:I6)(T:List Int):∀ i,(ow m T i).length<=i
 | 0=>aO 0
 | i+1=>by
  have:=Ga m T i;rw[ow]
  split
  ·rw[aY,bS]; omega
  ·omega
def yp(m:I6)(T:List Int):List Of:=ow m T (aE m)
section
variable {w0 w:af} {B:aI} {m:I6} {g r1 r2 r3 r4 r5 l D:Nat} {lp:Loop} {T:List Int} {a1:OA} {c1:Nat}
def Sw(m:I6)(T:List Int)(a1:OA)(c1 g r1 r2 r3 r4 r5:Nat)(B:aI)(a:OA)(c i:Nat)(out:List Of):List aI :=
 [iA (qs g) (aE m) (lH m T i),aj r3 #[.slice (qs g) (aE m) (aE m)] 249,tR a c out,aj r4 #[.slice a out.length c] 229,aj r5 #[iv i] 3,aj r1 #[.slice a1 (aE m) c1] 249,aj r2 m.vs.toArray 42,B]
def VL(m:I6)(T:List Int)(a1:OA)(c1 g r1 r2 r3 r4 r5 l:Nat)(lp:Loop)(B:aI)(i:Nat):aI :=
 W9 λ (p:Option Addr×Nat)=>Sep (dQ l (.loop lp) :: Sw m T a1 c1 g r1 r2 r3 r4 r5 B p.1 p.2 i (ow m T i))
def L2(hm:I6.Le m 4)(hp:pr m.l<=1024)(W:∀ {w'},aC w0 w' []->cP 1 i1 w' a1 T)(X:T.length=aE m){i:Nat}(hi:i<aE m){Fr:aI}{a0:OA}{Q c0:Nat}{S:I6}{a2:OA}{l2:Nat}{c2:Nat}{a3:OA}{l3:Nat}{c3:Nat}{a4:OA}{l4:Nat}{c4:Nat}{a5:OA}{l5:Nat}{c5:Nat}{O:Value}{u2:I6}{v1:Value}{fn:FuncId}(d:lp=jh a0 Q c0 S r1 r2 a2 l2 c2 a3 l3 c3 r3 a4 l4 c4 a5 l5 c5 O r4 r5 u2 v1 fn D)(h:St w0 w (star (VL m T a1 c1 g r1 r2 r3 r4 r5 l lp B i) Fr)) :
  pK prog l #[.agg (aK m i).vs.toArray] w λ b M=>b=true/\St w0 M (star (VL m T a1 c1 g r1 r2 r3 r4 r5 l lp B (i+1)) Fr):=by
 have hc:=gB hm;have y:=(Gb m T i).trans X;obtain⟨⟨a,c⟩,h⟩:=h.ex;have s:St w0 w (Sep (dQ l (.loop lp) :: Sw m T a1 c1 g r1 r2 r3 r4 r5 B a c i (ow m T i)++[Fr])):=h.open;refine oq (a1:=a0) (l1:=Q) (c1:=c0) (u1:=S) (r1:=r1) (r2:=r2) (a2:=a2) (l2:=l2) (c2:=c2) (a3:=a3) (l3:=l3) (c3:=c3) (r3:=r3) (a4:=a4) (l4:=l4) (c4:=c4) (a5:=a5) (l5:=l5) (c5:=c5) (_e1:=O) (r4:=r4) (r5:=r5) (u2:=u2) (v1:=v1) (s.rO 0 rfl) (by rw[d]; rfl) (by rw[d]; rfl) (by rw[d]; rfl) (by rw[d]; rfl) ?_;unfold kD;have J:lp.state=.ready:=by rw[d]; rfl
 have I:({ ({ lp with state:=.busy }:Loop) with state:=.ready,pending:=none }:Loop)=lp:=by rw[d]; rfl
 clear d;let L:Option Addr->Nat->List Of->List Int->Nat->Loop->Nat->List aI:=λ a c out Z i lp r =>
  [aj r (aK m i).vs.toArray 42,dQ l (.loop lp),iA (qs g) (aE m) Z,aj r3 #[.slice (qs g) (aE m) (aE m)] 249,tR a c out,aj r4 #[.slice a out.length c] 229,aj r5 #[iv i] 3,aj r1 #[.slice a1 (aE m) c1] 249,aj r2 m.vs.toArray 42,B,Fr]
 refine s.aB z6.vs.toArray λ r w1 s1=>s1.az 0 rfl (aK m i).vs rfl (I6.one _) λ M s2=>?_;have s2:St w0 M (Sep (L a c (ow m T i) (lH m T i) i lp r)):=s2;refine⟨lp,s2.rO 1 rfl,J,?_⟩;have C:St w0 _ (Sep (L a c (ow m T i) (lH m T i) i { lp with state:=.busy } r)):=s2.putAt 1 rfl (.loop { lp with state:=.busy });have k:=Od (ct hm i) hp (c:=aE m) (St.rd bV (C.out 2 rfl)) (by rw[y]; exact hc.2.1.symm);rw[y] at k;refine⟨m,C.cellsIn 8 rfl,aK m i,C.cellsIn 0 rfl,_,_,_,C.ag 3 rfl 0,au k ?_⟩;clear k;rintro v w4 ⟨rfl,c4⟩;have u:=C.quiet c4;generalize A:y8 m (aK m i) (lH m T i) 6=un;have F:ow m T (i+1)=if 0<i/\T.getD i 0>un then ow m T i++[⟨0,aK m i,T.getD i 0⟩] else ow m T i:=by rw[ow,A]
 have V:lH m T (i+1)=(lH m T i).set i (if un>(lH m T i).getD i 0 then un else (lH m T i).getD i 0):=by rw[lH,A]
 have R:∀ {w'},aC w0 w' []->∃ q,a1=some q/\w'.cell? (Addr.add q (i*1))=some (iv (T.getD i 0)):=λ H =>
  dA (W H) (by rw[aJ,gE (by omega)]; rfl)
 refine⟨_,rfl,λ G=>∃ a' c',St w0 G (Sep (L a' c' (ow m T (i+1)) (lH m T i) i { lp with state:=.busy } r)),?_,?_⟩
 ·rintro G ⟨a',c',s5⟩ x1;have j:=s5.quiet (aC.drew G []);have U:G.drew.cell? (Addr.add ⟨g,0,none⟩ (((i:Nat):Int).toNat*1))=some (iv ((lH m T i).getD i 0)):=by
   obtain⟨q,z,hc⟩:=dA (St.rd bV (j.out 2 rfl)) (i:=i) (x:=(lH m T i).getD i 0) (by rw[aJ,gE (by omega)]; rfl)
   cases z; exact hc
  refine⟨_,_,_,j.ag 3 rfl 0,_,j.ag 6 rfl 0,_,_,_,j.ag 3 rfl 0,_,j.ag 6 rfl 0,aq rfl ⟨by omega,by omega,_,U,aq rfl ⟨by omega,by omega,?_⟩⟩⟩;rw[aD];refine St.gu (v:=iv) rfl (j.out 2 rfl) (i:=i) (by omega) λ w7 e=>?_;rw[<- V] at e;have e:St w0 w7 (Sep (L a' c' (ow m T (i+1)) (lH m T (i+1)) i { lp with state:=.busy } r)):=e.back (i:=2) (by show 2<11; decide);refine⟨_,e.ag 6 rfl 0,e.aN 6 rfl (by show 0<1; decide) rfl λ w8 t=>⟨_,t.rO 1 rfl,rfl,?_⟩⟩;rw[cW (n:=(i:Int)+1) ⟨by omega,by omega⟩] at t;have E:=t.putAt 1 rfl (.loop lp);rw[I];exact St.Al (f:=λ (p:Option Addr×Nat)=>Sep (dQ l (.loop lp) :: Sw m T a1 c1 g r1 r2 r3 r4 r5 B p.1 p.2 (i+1) (ow m T (i+1)))) (a',c') ((E.ay [1,2,3,4,5,6,7,8,9,10]).shut)
 ·refine⟨λ b N=>b=decide (0<i/\T.getD i 0>un)/\St w0 N (Sep (L a c (ow m T i) (lH m T i) i { lp with state:=.busy } r)),?_,?_⟩
  ·rintro N b ⟨rfl,j⟩ x2;have Y:=Ga m T i
   by_cases k:0<i/\T.getD i 0>un
   ·rw[ak k] at F;have e:=j.quiet (aC.drew N []);obtain⟨q,z,o⟩:=R e.av;refine aP k ⟨_,_,_,e.ag 5 rfl 0,aK m i,e.cellsIn 0 rfl,_,_,_,e.ag 7 rfl 0,_,e.ag 6 rfl 0,aq z ⟨by omega,by omega,_,o,e.aB (⟨0,aK m i,T.getD i 0⟩:Of).cells.toArray λ r9 w8 t=>⟨t.ag 6 rfl 0,?_⟩⟩⟩;refine bQ (l2:=[(⟨0,aK m i,T.getD i 0⟩:Of)]) Yt Of.len Of.one (t.out 5 rfl) (jK (t.cellsIn 0 rfl) rfl) (by simp; omega) (by simp; omega) λ a' c' w9 E=>?_;have E:=E.back (i:=5) (by show 5<12; decide);refine E.aN 6 rfl (by show 0<1; decide) rfl λ w10 K=>⟨a',c',?_⟩;rw[F];exact K.ay [1,2,3,4,5,6,7,8,9,10,11]
   ·rw[ah k] at F;exact aU k ⟨a,c,by rw[F]; exact j⟩
  ·refine⟨_,u.ag 6 rfl 0,?_⟩
   by_cases P:0<i
   ·obtain⟨q,z,o⟩:=R u.av;refine aP (by omega) ⟨_,_,_,u.ag 7 rfl 0,_,u.ag 6 rfl 0,aq z ⟨by omega,by omega,_,o,?_,u⟩⟩
    by_cases g0:T.getD i 0>un
    ·rw[dT g0,dT ⟨P,g0⟩]
    ·rw[dF g0,dF λ h=>g0 h.2]
   ·exact aU (by omega) ⟨by rw[dF λ h=>P h.1],u⟩
end
def L3{w:af}{m:I6}{T:List Int}{a1:OA}{c1:Nat}(hm:I6.Le m 4)(hp:pr m.l<=1024)(E:cP 1 i1 w a1 T)(D:T.length=aE m) :
  CP 232 #[.slice a1 (aE m) c1,.agg m.vs.toArray] w (λ r w'=>(40<(yp m T).length/\r=.tuple #[.slice none 0 0,iv 3]/\aC w w' [])\/((yp m T).length<=40/\∃ a c,r=.tuple #[.slice a (yp m T).length c,iv 0]/\St w w' (Sep [tR a c (yp m T)]))):=by
 refine uz ?_;unfold qh;have hc:=gB hm;refine aG _ λ r1 J s1=>s1.aB m.vs.toArray λ r2 P s2=>⟨_,_,_,s2.ag 1 rfl 0,?_⟩;refine cZ G5 bV (x:=0) rfl s2 (n:=aE m) (by omega) (by omega) λ g N c3 B=>?_;have B:St w N (Sep [iA (qs g) (aE m) (List.replicate (aE m) 0),aj r2 m.vs.toArray 42,aj r1 #[.slice a1 (aE m) c1] 249,emp]):=B;refine B.aB _ λ r3 Q G=>G.aN 0 rfl (by decide) rfl λ S s=>⟨_,_,_,s.ag 0 rfl 0,_,_,_,s.ag 3 rfl 0,?_⟩;refine J3 G5 bV pQ (by simp) (s.out 1 rfl) (l2:=T) D (E.av s.av) λ _ O C=>?_;have C:St w O (Sep [aj r3 #[.slice (qs g) (aE m) (aE m)] 249,iA (qs g) (aE m) T,aj r2 m.vs.toArray 42,aj r1 #[.slice a1 (aE m) c1] 249,emp]):=C.back (i:=1) (by show 1<5; decide);refine C.aB _ λ r4 U H=>H.aB _ λ r5 V I=>I.aN 0 rfl (by decide) rfl λ W F=>⟨m,F.cellsIn 4 rfl,au (T5 (F.dy (e:=233) (sz:=8) (f:=Of.cells)) m hm hp) ?_⟩;rintro v o ⟨b,rfl,k⟩;have k:St w o (Sep [aj b m.vs.toArray 42,tR none 0 [],aj r5 #[iv 0] 3,aj r4 #[.slice none 0 0] 229,aj r3 #[.slice (qs g) (aE m) (aE m)] 249,iA (qs g) (aE m) T,aj r2 m.vs.toArray 42,aj r1 #[.slice a1 (aE m) c1] 249,emp]):=k;refine⟨_,rfl,CL (by kernel_rfl) ?_⟩;refine CK k (λ _ _=>⟨rfl,rfl⟩) λ fn l K t=>?_;have u:=(t.ay [0,7,6,3,5,4,9,8,1,2]).split [_,_,_,_,_,_,_,_,_];have y:=St.Al (f:=λ (p:Option Addr×Nat)=>Sep (dQ l (.loop _) :: Sw m T a1 c1 g r1 r2 r3 r4 r5 (dQ o.heap.size (.deferred (some []))) p.1 p.2 0 (ow m T 0))) (none,0) u;refine au (J5 hm (R:=VL m T a1 c1 g r1 r2 r3 r4 r5 l _ (dQ o.heap.size (.deferred (some [])))) (λ i J Fr hi h=>L2 hm hp (λ hc=>E.av hc) D hi rfl h) y) ?_;rintro v L ⟨rfl,z⟩;obtain⟨⟨a,c⟩,A⟩:=z.ex;refine⟨_,rfl,_,A.first,λ M d=>⟨_,_,_,d.ag 3 rfl 0,?_⟩⟩;have q:=d.putAt 7 rfl (.deferred none)
 by_cases j:40<(yp m T).length
 ·exact aP (by unfold yp at j; omega) ⟨d.rO 7 rfl,.inl ⟨j,rfl,q.av⟩⟩
 ·exact aU (by unfold yp at j; omega) ⟨_,_,_,d.ag 3 rfl 0,d.rO 7 rfl,.inr ⟨by omega,a,c,rfl,q.ay [2]⟩⟩
def mX(x:Xv)(m:I6):Int:=if fC x≠0 then fC x else if 40<(yp m (wv m (iM m x))).length then 3 else 0
def mE(x:Xv)(m:I6):List Of:=yp m (wv m (iM m x))
def LK{w:af}{x:Xv}{m:I6}(hm:I6.Le m 4)(hp:pr m.l<=1024)(n:bJ x<=100000)(k:x.In w) :
  CP 170 #[.agg x.cells.toArray,.agg m.vs.toArray] w (λ r w'=>(mX x m≠0/\r=.tuple #[.slice none 0 0,iv (mX x m)]/\aC w w' [])\/(mX x m=0/\(mE x m).length<=40/\∃ a c,r=.tuple #[.slice a (mE x m).length c,iv 0]/\St w w' (Sep [tR a c (mE x m)]))):=by
 refine @vE _ x.u _ _ _ _ _ _ _ ?_;refine aG x.cells.toArray λ r1 p s1=>s1.aB m.vs.toArray λ r2 q s2=>⟨_,x.u,_,_,_,_,s2.cellsIn 1 rfl,m,s2.cellsIn 0 rfl,au (TM hm hp n (k.av s2.av)) ?_⟩;rintro v s (⟨d,rfl,c3⟩|⟨d,g,rfl,i⟩)
 ·refine⟨_,_,_,_,rfl,cT (by simpa using d) (.inl ⟨?_,?_,(s2.quiet c3).av⟩)⟩
  ·rw[mX,ak d]; exact d
  ·rw[mX,ak d]
 ·have f:=s2.and i;have j:(wv m (iM m x)).length=aE m:=sG m _ _;refine⟨_,_,_,_,rfl,cF rfl ⟨m,f.second.cellsIn 0 rfl,au (L3 hm hp (St.rd bV i) j) ?_⟩⟩;have e:mX x m=if 40<(yp m (wv m (iM m x))).length then 3 else 0:=by rw[mX,ah (λ h=>h d)]
  rintro v t (⟨b,rfl,c5⟩|⟨b,a,c,rfl,o⟩)
  ·exact⟨_,_,_,_,rfl,.inl ⟨by rw[e,ak b]; decide,by rw[e,ak b],f.av.trans c5 (by simp)⟩⟩
  ·exact⟨_,_,_,_,rfl,.inr ⟨by rw[e,ah (by show ¬ 40<(yp _ _).length; omega)],b,a,c,rfl,AZ f.av o⟩⟩
def ZV(b:I6)(v:Int)(x:Of):Int:=if x.v>v/\within x.want b=true then x.v else v
def ZU(l:List Of)(b:I6):Int:=l.foldl (ZV b) 0
def Zk(x:Of):Bool:=x.want.l.all iy&&(decide (1<=x.v)&&decide (x.v<=1000000))
def Zl(l:List Of):List Of:=l.filter Zk
def WV(l:List Of)(p b:I6):Int:=if kA p=true/\b.l.all iy=true then ZU (Zl l) b-cost p b else 0
def ID{b:I6}(h:b.l.all iy=true):I6.Le b 4:=λ k a=>by
 have:=dS.1 h _ (bf (b.pT k a));simpa[iy] using this
end Go.Proofs.YtjcfdidmajodiaaGreatDoor
set_option maxHeartbeats 4000000
namespace Go.Proofs.YtjcfdidmajodiaaGreatDoor
open Go Go.Vc Go.Vt _root_.Go.Proofs.Tryz
def vI:=many uj [en func116 [] [(122,[(17,.s (.int .i64))]),(979,[])],en func156 [(0,.k (.s .blk))] [(223,[])],en func161 [] [],en func203 [] [(431,[(8,.s .bool)])],en func204 [] [(7,[(8,.s (.int .i64)),(9,.s .bool)]),(58,[(11,.s .bool)])],en func205 [] [(58,[(4,.s .slice),(11,.s (.int .i64))])],en func209 [] [(6,[(20,.s .bool)]),(62,[(46,.s .bool)]),(506,[(50,.s (.int .i64))]),(32409,[(73,.s .bool)])],en func265 [] [(26,[(9,.s (.int .i64))]),(1689,[(21,.s .bool)]),(14,[(34,.s .bool)])],en func266 [] [(58,[(12,.s (.int .i64))])]] (by conv=>lhs;reduce) (by kernel_rfl) λ x=>by
 dsimp only[fj,fh,ff,fe,fk,fm,fq,tF,iP,en,sV,wrap,dc,dn,qA,gU,tW,U.I,U.B,U.S,U.N,U.A,U.O,U.W,U.V,U.L,U.U6,U.C,U.M,U.F,U.E,tP,tN,tI,oo,jU,gJ,kr,jq,TJ,Nat.reduceSub,Nat.reduceAdd,Int.reduceOfNat,Int.reduceNeg,UInt8.reduceOfNat] at x
 exact x
def oP:=many uj [en func268 [] [(26,[(10,.s (.int .i64))]),(211,[]),(1689,[(28,.s .bool)])],en func90 [] [(26,[(3,.s (.int .i64))]),(420,[(17,.s .bool)])],en func254 [] [(122,[(3,.s (.int .i64)),(4,.s (.int .i64))])],en func312 [] [(26,[(3,.s (.int .i64))]),(420,[(17,.s .bool)])],en func257 [] [(26,[(5,.s (.int .i64))])],en func313 [] [(58,[(5,.s (.int .i64)),(6,.s (.int .i64))])],en func256 [] [(122,[(3,.s .slice),(4,.s (.int .i64))]),(31306,[(5,.s .slice),(6,.s (.int .i64))]),(2003602,[(5,.s .slice),(7,.s (.int .i64))])],en func142 [] [(58,[(4,.s (.int .i64))]),(232,[(12,.s .bool)])],en func26 [] [(14,[(21,.s .bool)]),(122,[(9,.s (.int .i64)),(10,.s (.int .i64)),(11,.s (.int .i64)),(12,.s (.int .i64))]),(7826,[(9,.s (.int .i64)),(10,.s (.int .i64)),(11,.s (.int .i64)),(13,.s (.int .i64))]),(31305,[(9,.s (.int .i64)),(10,.s (.int .i64)),(11,.s (.int .i64))])],en func179 [] [(122,[(6,.s (.int .i64))]),(250,[(7,.s (.int .i64))])],en func138 [] [(30,[(30,.s .bool)]),(2042,[(11,.s (.int .i64))]),(32676,[(79,.s .bool)]),(4090,[(12,.s (.int .i64))]),(261779,[(116,.s .bool)])],en func180 [] [],en func181 [] [(58,[(5,.s (.int .i64)),(6,.s (.int .i64))])]] (by conv=>lhs;reduce) (by kernel_rfl) λ x=>by
 dsimp only[fj,fh,ff,fe,fk,fm,fq,tF,iP,en,sV,wrap,dc,dn,qA,gU,tW,U.I,U.B,U.S,U.N,U.A,U.O,U.W,U.V,U.L,U.U6,U.C,U.M,U.F,U.E,tP,tN,tI,oo,jU,gJ,kr,jq,TJ,Nat.reduceSub,Nat.reduceAdd,Int.reduceOfNat,Int.reduceNeg,UInt8.reduceOfNat] at x
 exact x
def XJ:=many uj [en func139 [] [(14,[(31,.s .bool)])]] (by conv=>lhs;reduce) (by kernel_rfl) λ x=>by
 dsimp only[fj,fh,ff,fe,fk,fm,fq,tF,iP,en,sV,wrap,dc,dn,qA,gU,tW,U.I,U.B,U.S,U.N,U.A,U.O,U.W,U.V,U.L,U.U6,U.C,U.M,U.F,U.E,tP,tN,tI,oo,jU,gJ,kr,jq,TJ,Nat.reduceSub,Nat.reduceAdd,Int.reduceOfNat,Int.reduceNeg,UInt8.reduceOfNat] at x
 exact x
end Go.Proofs.YtjcfdidmajodiaaGreatDoor
namespace Go.Proofs.YtjcfdidmajodiaaGreatDoor
open Go Go.Vc _root_.Go.Proofs.Tryz
def oE(ps:List Pr)(l:List T3):Nat->I6×I6
 | 0=>(bI ps,z6)
 | k+1=>match l[k]? with
  | none=>oE ps l k
  | some x=>((oE ps l k).1.put x.a.toNat ((oE ps l k).1.at' x.a.toNat-x.c),(oE ps l k).2.put x.a.toNat x.b)
def ML(ps:List Pr)(l:List T3):I6×I6:=oE ps l l.length
def Fa{ps:List Pr}{l:List T3}(h2:ps.length<=6)(b:∀ p∈ps,p.sup<=4)(h:kW ps l){i:Nat}{x:T3}(d:l[i]?=some x):0<=x.a/\x.a<6/\1<=x.c/\x.c<=4:=by
 have:=(h.good i x d).1;simp only[zQ,aX,bN] at this;have h3:(ps[x.a.toNat]?.map Pr.sup).getD 0<=4:=by
  cases hp:ps[x.a.toNat]? with
  | none=>show(0:Int)<=4; omega
  | some p=>exact b p (bf hp)
 omega
def Qk{ps:List Pr}(h:dH ps):∀ p∈ps,p.sup<=4:=λ p hp=>by
 obtain⟨i,hi⟩:=yS hp;have:=(h.good i p hi).1;simp only[tQ,Bn,aX,bN] at this;omega
theorem Ja{ps:List Pr}{l:List T3}(hp:dH ps)(h:kW ps l):∀ (k:Nat) (j:Nat),j<6->-(4*(k:Int))<=(oE ps l k).1.at' j/\(oE ps l k).1.at' j<=4
 | 0,j,b=>by have:=sup_le hp j b; show _<=(bI ps).at' j/\(bI ps).at' j<=4; omega
 | k+1,j,b=>by
  have c:=Ja hp h k;rw[oE]
  cases hx:l[k]? with
  | none=>have:=c j b; show _<=(oE ps l k).1.at' j/\(oE ps l k).1.at' j<=4; omega
  | some x =>
   have hi:=Fa hp.l2 (Qk hp) h hx;show _<=((oE ps l k).1.put x.a.toNat _).at' j/\((oE ps l k).1.put x.a.toNat _).at' j<=4;rw[I6.ie _ _ _ _ (by omega) b];have h1:=c j b;have h2:=c x.a.toNat (by omega)
   split<;>omega
def P7{w:af}{S:Se}(h:S.In w)(j:S.Ok) :
  CP 266 #[.agg S.arr] w (λ r w'=>r=.tuple #[.agg (ML S.ps S.sa).1.vs.toArray,.agg (ML S.ps S.sa).2.vs.toArray]/\aC w w' []):=by
 refine(p6 vI).2.2.1 ?_;have M:=j.sa.l1; have t:=j.ps.l2;refine aG S.arr λ r1 N s1=>s1.aB z6.vs.toArray λ r2 O s2=>s2.aB z6.vs.toArray λ r3 P A=>?_;refine⟨_,_,_,A.ag 2 rfl 0,au (sD (h.av A.av).ps (by omega)) ?_⟩;rintro v Q ⟨rfl,c4⟩;refine⟨_,rfl,(A.quiet c4).az 1 rfl (bI S.ps).vs rfl (I6.one _) λ R E=>⟨_,_,_,E.ag 2 rfl 3,?_⟩⟩;refine⟨λ n D m=>∃ k:Nat,n=k/\k<=S.sa.length/\m=S.sa.length-k/\St w D (Sep [aj r3 (oE S.ps S.sa k).2.vs.toArray 42,aj r2 (oE S.ps S.sa k).1.vs.toArray 42,emp]),⟨S.sa.length,0,rfl,by omega,by omega,E.ay [0,1,3]⟩,?_⟩;rintro D m n ⟨k,rfl,L,hm,B⟩ -
 by_cases l:(k:Int)<(S.sa.length:Int)
 ·obtain⟨x,u⟩:=bx S.sa k (by omega);obtain⟨q,J,s⟩:=(h.av B.av).sa k x u;have hi:=Fa t (Qk j.ps) j.sa u;obtain⟨i,f⟩:=vm hi.1;have d:i<6:=by omega
  refine aP l (aq J ⟨by omega,by omega,_,_,_,s,B.aB #[iv 0,iv 0,iv 0] λ r4 T o=>o.az 0 rfl x.cells rfl x.one λ F p=>?_⟩);have e:=p.quiet (aC.drew F []);have bd:=Ja j.ps j.sa k i d;have I:oE S.ps S.sa (k+1)=((oE S.ps S.sa k).1.put i ((oE S.ps S.sa k).1.at' i-x.c),(oE S.ps S.sa k).2.put i x.b):=by
   rw[oE,u]; show((oE S.ps S.sa k).1.put x.a.toNat _,_)=_;rw[f,aD]
  refine⟨i,by rw[e.ag 0 rfl 0,<- f]; rfl,by omega,by omega,(oE S.ps S.sa k).1.at' i,by rw[dM]; exact aF e 2 rfl d,x.c,e.ag 0 rfl 2,by omega,by omega,?_⟩;rw[dM,cA (by omega)];refine e.aN 2 rfl d rfl λ K g=>⟨i,by rw[g.ag 0 rfl 0,<- f]; rfl,x.b,g.ag 0 rfl 1,by omega,by omega,?_⟩;rw[dM];refine g.aN 1 rfl d rfl λ C y=>(jZ (by omega) ?_);rw[I];have z:=y.ay [1,2,3];have G:=I6.jf (oE S.ps S.sa k).1 i ((oE S.ps S.sa k).1.at' i-x.c) d;have H:=I6.jf (oE S.ps S.sa k).2 i x.b d;show St w C (Sep [aj r3 (I6.put _ _ _).vs.toArray _,aj r2 (I6.put _ _ _).vs.toArray _,emp]);rw[<- G,<- H];exact z
 ·obtain rfl:S.sa.length=k:=by omega
  have o:=B.quiet (aC.drew D []);exact aU l ⟨_,o.cellsIn 1 rfl,_,o.cellsIn 0 rfl,o.az 1 rfl _ rfl (I6.one _) λ F p=>⟨p.cellsIn 0 rfl,p.az 0 rfl _ rfl (I6.one _) λ K e=>⟨_,e.cellsIn 1 rfl,_,e.cellsIn 0 rfl,rfl,e.av⟩⟩⟩
def tO(b:Br)(cls u:I6):I6:=I6.zip (λ c x=>if c=0\/c=b.cls then 0 else x) cls u
def Md{w:af}{S:Se}(h:S.In w){n:Nat}{b:Br}(s:S.bd[n]?=some b)(cls u:I6) :
  CP 268 #[.agg S.arr,.agg cls.vs.toArray,iv n,.agg u.vs.toArray] w (λ r w'=>r=.agg (tO b cls u).vs.toArray/\aC w w' []):=by
 refine oP.1 ?_;have G:=(aR.1 s).1;refine aG S.arr λ r1 H s1=>s1.aB cls.vs.toArray λ r2 I s2=>s2.aB u.vs.toArray λ r3 J B=>B.aB z6.vs.toArray λ r4 K C=>?_;refine⟨λ n l m=>∃ k:Nat,n=k/\k<=6/\m=6-k/\St w l (Sep [aj r4 z6.vs.toArray 42,aj r3 (I6.mix k (tO b cls u) u).vs.toArray 42,aj r2 cls.vs.toArray 42,aj r1 S.arr 73,emp]),⟨6,0,rfl,by omega,by omega,C⟩,?_⟩;rintro E m n2 ⟨k,rfl,F,hm,i⟩ -
 by_cases o:(k:Int)<6
 ·have a:k<6:=by omega
  have f:(tO b cls u).at' k=if cls.at' k=0\/cls.at' k=b.cls then 0 else u.at' k:=by rw[tO,I6.iG _ _ _ _ a]
  refine aP o ⟨λ l=>St w l (Sep [aj r4 z6.vs.toArray 42,aj r3 (I6.mix (k+1) (tO b cls u) u).vs.toArray 42,aj r2 cls.vs.toArray 42,aj r1 S.arr 73,emp]),λ l c _=>⟨6-(k+1),by omega,k+1,inc (by decide) a,by omega,rfl,c⟩,?_⟩;have c:=i.quiet (aC.drew E []);have d:=aF c 2 rfl a;refine⟨λ x z=>x=decide (cls.at' k=0\/cls.at' k=b.cls)/\St w z (Sep [aj r4 z6.vs.toArray 42,aj r3 (I6.mix k (tO b cls u) u).vs.toArray 42,aj r2 cls.vs.toArray 42,aj r1 S.arr 73,emp]),?_,by omega,by omega,_,by rw[dM]; exact d,?_⟩
  ·rintro z x ⟨rfl,v⟩ -
   by_cases g:cls.at' k=0\/cls.at' k=b.cls
   ·rw[ak g] at f;refine aP g ⟨by omega,by omega,?_⟩;rw[dM];refine v.aN 1 rfl a rfl λ L D=>?_;have:=I6.gD (tO b cls u) u k a;rw[f] at this;rw[<- this]; exact D
   ·rw[ah g] at f;refine aU g ?_;have:I6.mix (k+1) (tO b cls u) u=I6.mix k (tO b cls u) u:=I6.ext' λ j t=>by
     rw[I6.cX _ _ _ _ t,I6.cX _ _ _ _ t]
     by_cases e:j=k
     ·subst e; rw[ak (by omega),ah (by omega),f]
     ·by_cases p:j<k
      ·rw[ak p,ak (by omega)]
      ·rw[ah p,ah (by omega)]
    rw[this]; exact v
  ·by_cases g:cls.at' k=0
   ·exact cT (by simpa using g) ⟨by rw[dT (Or.inl g)],c⟩
   ·obtain⟨q,A,hc⟩:=BR (h.av c.av).bd s 1 (iv b.cls) rfl;refine cF (by simpa using g) ⟨by omega,by omega,_,by rw[dM]; exact d,_,_,_,c.ag 3 rfl 1,aq A ⟨by omega,by omega,b.cls,by rw[aD]; exact hc,?_,c⟩⟩
    by_cases g2:cls.at' k=b.cls
    ·rw[dT (Or.inr g2)]; simpa using g2
    ·rw[dF (by rintro(h|h); exact g h; exact g2 h)]; simpa using g2
 ·obtain rfl:k=6:=by omega
  rw[I6.mD] at i;exact cF (by simp) ⟨_,i.cellsIn 1 rfl,i.az 0 rfl _ rfl (I6.one _) λ M y=>⟨_,y.cellsIn 0 rfl,rfl,y.av⟩⟩
def j8(ps:List Pr)(n:Nat)(u:I6)(x:T3):Bool:=(decide (x.a=-1)||decide (x.a=(n:Int)))&&decide (Lf ps x.b u>x.c)
def fP(S:Se)(n:Nat)(b:Br)(u:I6):Int :=
 if u.l.all iy then (if within u (bI S.ps)&&within (tO b (ML S.ps S.sa).2 u) (ML S.ps S.sa).1&&!S.cp.any (j8 S.ps n u) then 0 else 14) else 4
def Lt{w:af}{S:Se}(h:S.In w)(A:S.Ok){n:Nat}{b:Br}(P:S.bd[n]?=some b)(u:I6) :
  CP 209 #[.agg S.arr,iv n,.agg u.vs.toArray] w (λ r w'=>r=iv (fP S n b u)/\aC w w' []):=by
 refine(p6 vI).1 ?_;have hn:=(aR.1 P).1;have T:=A.ps.l2; have R:=A.cp.l1; have Q:=A.bd.l2;refine aG S.arr λ r1 w1 s1=>s1.aB u.vs.toArray λ r2 w2 s2=>?_;refine⟨λ x O=>x=false/\O=w2,?_,aU (by omega) ⟨_,_,_,s2.ag 1 rfl 1,dF (by omega),rfl⟩⟩;rintro O x ⟨rfl,rfl⟩ -;refine cF rfl ⟨u,s2.cellsIn 0 rfl,au (iq O u) ?_⟩;rintro v w4 ⟨rfl,c4⟩;have F:=s2.quiet c4;refine⟨_,rfl,?_⟩
 cases hq:u.l.all iy with
 | false=>exact cT rfl ⟨by rw[fP,hq]; rfl,F.av⟩
 | true =>
 have hu:=Bl hq;refine cF rfl (Ex8<|Ex4<|⟨F.cellsIn 1 rfl,au (P7 (h.av F.av) A) ?_⟩);rintro v w5 ⟨rfl,c5⟩;refine⟨_,_,rfl,(F.quiet c5).aB z6.vs.toArray λ r3 w6 U=>U.aB z6.vs.toArray λ r4 w7 V=>V.az 1 rfl _ rfl (I6.one _) λ w8 W=>W.az 0 rfl _ rfl (I6.one _) λ w9 X=>?_⟩;refine⟨λ x D=>x = !(within u (bI S.ps)&&within (tO b (ML S.ps S.sa).2 u) (ML S.ps S.sa).1)/\St w D (Sep [aj r2 u.vs.toArray 42,aj r1 S.arr 73,emp]),?_,?_⟩
 ·rintro D x ⟨rfl,e⟩ -
  cases hw:(within u (bI S.ps)&&within (tO b (ML S.ps S.sa).2 u) (ML S.ps S.sa).1) with
  | false=>exact cT rfl ⟨by rw[fP,ak hq,hw]; rfl,e.av⟩
  | true =>
   refine cF rfl ⟨_,_,_,e.ag 1 rfl 2,λ i E m=>∃ k:Nat,i=k/\k<=S.cp.length/\m=S.cp.length-k/\(S.cp.take k).any (j8 S.ps n u)=false/\St w E (Sep [aj r2 u.vs.toArray 42,aj r1 S.arr 73,emp]),⟨S.cp.length,0,rfl,by omega,by omega,rfl,e⟩,?_⟩;rintro E m i ⟨k,rfl,hk,hm,ha,p⟩ -
   by_cases z:(k:Int)<(S.cp.length:Int)
   ·obtain⟨x,L⟩:=bx S.cp k (by omega);obtain⟨q,K,t⟩:=(h.av p.av).cp k x L;refine aP z (aq K ⟨by omega,by omega,_,_,_,t,p.aB #[iv 0,iv 0,iv 0] λ r5 Y M=>M.az 0 rfl x.cells rfl x.one λ s N=>?_⟩);have d:=N.quiet (aC.drew s []);refine⟨λ y j=>y=j8 S.ps n u x/\St w j (Sep [aj r5 x.cells.toArray 138,aj r2 u.vs.toArray 42,aj r1 S.arr 73,emp]),?_,?_⟩
    ·rintro j y ⟨rfl,f⟩ -
     cases hc:j8 S.ps n u x with
     | true =>
      refine cT rfl ⟨?_,f.av⟩;rw[fP,ak hq,hw,eZ L hc]; rfl
     | false=>exact cF rfl (jZ (by omega) ⟨dY ha L hc,f.ay [1,2,3]⟩)
    ·refine⟨x.a,d.ag 0 rfl 0,?_⟩;have cu:CP 269 #[.slice S.a1 S.ps.length S.c1,iv x.b,.agg u.vs.toArray] s.drew (λ r w'=>r=iv (Lf S.ps x.b u)/\aC s.drew w' []):=TP (h.av d.av).ps h.h1 A.ps hu x.b
     by_cases g1:x.a=-1
     ·refine cT (by simpa using g1) ⟨_,_,_,d.ag 2 rfl 0,x.b,d.ag 0 rfl 1,u,d.cellsIn 1 rfl,x.c,d.ag 0 rfl 2,au cu ?_⟩;rintro v j ⟨rfl,o⟩;have f:=d.quiet o;exact⟨_,rfl,f.ag 0 rfl 2,by rw[j8,dT g1,sU,bt],f⟩
     refine cF (by simpa using g1) ⟨x.a,d.ag 0 rfl 0,?_⟩
     by_cases g2:x.a=(n:Int)
     ·refine cT (by simpa using g2) ⟨_,_,_,d.ag 2 rfl 0,x.b,d.ag 0 rfl 1,u,d.cellsIn 1 rfl,x.c,d.ag 0 rfl 2,au cu ?_⟩;rintro v j ⟨rfl,o⟩;have f:=d.quiet o;exact⟨_,rfl,f.ag 0 rfl 2,by rw[j8,dT g2,yT,bt],f⟩
     ·exact cF (by simpa using g2) ⟨by rw[j8,dF g1,dF g2]; rfl,d⟩
   ·obtain rfl:S.cp.length=k:=by omega
    rw[br] at ha;exact aU z ⟨by rw[fP,ak hq,hw,ha]; rfl,p.av⟩
 ·have e:=X.quiet (aC.drew w9 []);refine⟨_,e.cellsIn 2 rfl,_,_,_,e.ag 3 rfl 0,au (sD (h.av e.av).ps (by omega)) ?_⟩;rintro v Z ⟨rfl,G⟩;have B:=e.quiet G;refine⟨_,rfl,B.cellsIn 2 rfl,au (wE _ u _) ?_⟩;rintro v w18 ⟨rfl,H⟩;have g:=B.quiet H;refine⟨_,rfl,?_⟩
  cases hw:within u (bI S.ps) with
  | false=>exact cT rfl ⟨rfl,g.ay [2,3,4]⟩
  | true =>
   refine cF rfl (Ex8<|Ex4<|⟨g.cellsIn 3 rfl,_,g.cellsIn 0 rfl,_,g.cellsIn 2 rfl,_,g.cellsIn 1 rfl,au (Md (h.av g.av) P _ _) ?_⟩);rintro v w19 ⟨rfl,I⟩;have C:=g.quiet I;refine⟨_,rfl,C.cellsIn 1 rfl,au (wE _ _ _) ?_⟩;rintro v w20 ⟨rfl,J⟩;exact⟨_,rfl,by rw[bt],(C.quiet J).ay [2,3,4]⟩
def BH{w:af}{S:Se}(h:S.In w)(c:S.Ok){n:Nat}{b:Br}(d:S.bd[n]?=some b)(u:I6) :
  CP 161 #[.agg S.arr,iv n,.agg u.vs.toArray] w (λ r w'=>r=iv (fP S n b u)/\aC w w' []):=by
 refine vI.2.2.1 ?_;refine aG S.arr λ r1 f s1=>s1.aB u.vs.toArray λ r2 g s2=>(Ex8<|Ex4<|⟨s2.cellsIn 1 rfl,au (G0 (h.av s2.av)) ?_⟩);rintro v i ⟨⟨e,rfl,he⟩,c3⟩;obtain rfl:=he.2 c;have a:=s2.quiet c3;refine⟨_,rfl,cF rfl (Ex8<|Ex4<|⟨a.cellsIn 1 rfl,_,a.cellsIn 0 rfl,au (Lt (h.av a.av) c d u) ?_⟩)⟩;rintro v j ⟨rfl,c4⟩;exact⟨_,rfl,rfl,(a.quiet c4).av⟩
section
variable {b:Nat} {C:Ck} {w0 w:af} {B:aI}
def zn{p:I6}(h:kA p=true):I6.Le p 1000000:=o4.1 h
def JY(a:C.Ok){n:Nat}:∀ c∈sZ C n,c.Ok:=λ c hc=>by
 obtain⟨x,b,rfl⟩:=bL.1 hc;exact⟨zn (a.cp x b),ze (a.ca x b) (by omega) n⟩
def gX(C:Ck)(n:Nat)(y:Br)(u:I6):Int :=
 if C.ov||C.dp.getD n false then 10 else if fP C.s n y u≠0 then fP C.s n y u else if tJ y ⟨C.p,u⟩≠0 then tJ y ⟨C.p,u⟩ else yf C.o.rule C.s y (sZ C n) ⟨C.p,u⟩
def oK(C:Ck)(n:Nat)(u:I6):Ck:={ C with ask:=C.ask.set n u,bd:=C.bd.set n true }
def VB(s:St w0 w (Sep (jR b C++[B])))(c:C.Ok){n:Nat}{y:Br}(F:C.s.bd[n]?=some y)(u:I6) :
  CP 118 #[.pointer (qs b),iv n,.agg u.vs.toArray] w (λ r w'=>r=iv (gX C n y u)/\(if gX C n y u=0 then St w0 w' (Sep (jR b (oK C n u)++[B])) else St w0 w' (Sep (jR b C++[B])))):=by
 refine(p6 oO).2.2.2.2.1 ?_;have hn:=(aR.1 F).1;have z:=c.s.bd.l2; have z1:=c.dp; have z2:=c.ask; have z3:=c.bd; have z4:=c.cl;have bad:∀ {e:Int} {w':af},e≠0->gX C n y u=e->St w0 w' (Sep (jR b C++[B]))->(iv e=iv (gX C n y u)/\(if gX C n y u=0 then St w0 w' (Sep (jR b (oK C n u)++[B])) else St w0 w' (Sep (jR b C++[B])))):=λ he hb hc=>by
  rw[hb,ah he]; exact⟨rfl,hc⟩
 refine s.aB u.vs.toArray λ r1 w1 s1=>?_;refine⟨_,s1.ag 1 rfl 18,?_⟩
 cases hov:C.ov with
 | true=>exact cT rfl (bad (by decide) (by rw[gX,hov]; rfl) s1.second)
 | false =>
 have m:∀ {w':af} {L:List aI},St w0 w' (Sep (L++(jR b C++[B])))->C.Rd b w':=λ s=>((s.split _).second.split (jR b C)).first.imp zX;have g:C.Rd b w1:=m (L:=[_]) s1;refine cF rfl (au (Il g n) ?_);rintro v w2 ⟨rfl,rfl⟩;refine⟨_,rfl,cF (by simp; omega) ?_⟩;obtain⟨x,S⟩:=bx C.dp n (by omega);have l:C.dp.getD n false=x:=by rw[aJ,S]; rfl
 obtain⟨q,hq,J⟩:=g.dp.at S;refine⟨_,_,_,g.cell 17 rfl,aq hq ⟨by omega,by omega,x,J.1,?_⟩⟩
 cases x with
 | true=>exact cT rfl (bad (by decide) (by rw[gX,l]; simp) s1.second)
 | false =>
 have d:gX C n y u=if fP C.s n y u≠0 then fP C.s n y u else if tJ y ⟨C.p,u⟩≠0 then tJ y ⟨C.p,u⟩ else yf C.o.rule C.s y (sZ C n) ⟨C.p,u⟩:=by rw[gX,hov,l]; rfl
 have s2:=s1.quiet (aC.drew w2 []);refine cF rfl ⟨C.p,s2.aQ 1 9 rfl rfl,u,s2.cellsIn 0 rfl,s2.aB nt.cells.toArray λ r2 w3 O=>⟨O.cellsIn 1 rfl,O.aQ 2 9 rfl rfl,O.az 0 rfl (Ch.mk C.p u).cells rfl (Ch.one _) λ w4 s4=>?_⟩⟩;have G:=s4.quiet (aC.drew w4 []);have f:∀ {w':af} {L:List aI} {i:Nat},St w0 w' (Sep L)->L[i]?=some (held C.In)->C.In w':=λ s e=>s.bC _ e;have i5:=(f G (i:=7) rfl).s;refine Ex8<|Ex4<|⟨G.aQ 2 0 rfl rfl,u,G.cellsIn 1 rfl,au (BH i5 c.s F u) ?_⟩;rintro v Q ⟨rfl,c5⟩;have T:=(G.quiet c5);refine⟨_,rfl,?_⟩
 by_cases h1:fP C.s n y u=0
 ·rw[ah (by simpa using h1)] at d;have hu:I6.Le u 4:=by
   unfold fP at h1
   split at h1
   ·rename_i h; exact Bl h
   ·cases h1
  have hc:(Ch.mk C.p u).Ok:=⟨zn c.p,hu⟩;have D:=T.quiet (aC.drew Q []);have i7:HI Q.drew C.s:=⟨(f D (i:=7) rfl).s,c.s⟩;have W:=D.aQ (vs:=C.s.arr.toList) 2 0 rfl rfl;have X:aA Q.drew ⟨r2,0,none⟩ 0 (C.p.on u.vs):=D.cellsIn 0 rfl;refine cF (by rw[h1]; rfl) (Ex8<|Ex4<|⟨W,C.p,u,X,?_⟩);have h7:=Nt i7 F hc;refine au h7 ?_;rintro v U ⟨rfl,R⟩;have E:=(D.quiet R).quiet (aC.drew U []);refine⟨_,rfl,?_⟩
  by_cases h2:tJ y ⟨C.p,u⟩=0
  ·rw[ah (by simpa using h2)] at d;have K:C.Rd b U.drew:=m (L:=[_,_]) E;refine cF (by rw[h2]; rfl) (Ex8<|Ex4<|⟨E.aQ 2 0 rfl rfl,_,E.ag 2 rfl 7,C.p,u,E.cellsIn 0 rfl,au (BW K c hn) ?_⟩);rintro v V ⟨a',c',rfl,k7⟩;have j:St w0 V (Sep (_ :: _)):=E.and k7;have k:(sZ C n).length<=c':=(St.lQ j).1;have hlen:(sZ C n).length=C.cl.length:=by simp[sZ]
   have i9:HI V C.s:=⟨(f j (i:=8) rfl).s,c.s⟩;refine⟨_,_,_,rfl,j.cellsIn 1 rfl,j.ag 3 rfl 7,j.aQ 3 0 rfl rfl,au (Nr i9 F (St.rd Ch.len j) k (by omega) (JY c) hc C.o.rule) ?_⟩;rintro v w8 ⟨rfl,c8⟩;have t:=(j.quiet c8);refine⟨_,rfl,?_⟩
   by_cases h3:yf C.o.rule C.s y (sZ C n) ⟨C.p,u⟩=0
   ·have a:=t.quiet (aC.drew w8 []);obtain⟨g1,H⟩:=(a.out 4 rfl).iS (by omega);obtain⟨g2,I⟩:=(a.out 5 rfl).iS (by omega);refine cF (by rw[h3]; rfl) ⟨_,_,_,a.ag 3 rfl 15,_,_,_,a.ag 3 rfl 16,u,a.cellsIn 2 rfl,aq H ⟨by omega,by omega,?_⟩⟩;rw[aD];have t1:=a.out 4 rfl;rw[H] at t1;refine St.su bE (x:=u) u.one t1 (i:=n) (by omega) λ w9 M=>aq I ⟨by omega,by omega,?_⟩;have t2:=(M.back (show 4<10 by decide)).out 5 rfl;rw[I] at t2;refine St.gu (v:=.bool) (x:=true) rfl t2 (i:=n) (by omega) λ P N=>?_;have A:=N.back (show 5<10 by decide);rw[<- H,<- I] at A;have Z:gX C n y u=0:=by rw[d,h3]
    rw[Z];refine⟨rfl,?_⟩;rw[ak rfl];have Y:(oK C n u).cells=C.cells:=by simp[oK,Ck.cells]
    show St w0 P (Sep [aj b (oK C n u).cells.toArray 144,_,_,_,_,_,B]);rw[Y]; exact A.ay [3,4,5,6,7,8,9]
   ·exact cT (by simpa using h3) (bad h3 d (t.ay [3,4,5,6,7,8,9]))
  ·rw[ak (by simpa using h2)] at d;exact cT (by simpa using h2) (bad h2 d ((D.quiet R).ay [2,3,4,5,6,7,8]))
 ·rw[ak (by simpa using h1)] at d;exact cT (by simpa using h1) (bad h1 d (T.ay [2,3,4,5,6,7,8]))
end
def X6(S:Se)(n:Nat)(y:Br)(p u:I6):Bool:=decide (fP S n y u=0)&&decide (tJ y ⟨p,u⟩=0)
def Xq(S:Se)(n:Nat)(y:Br)(l:List Of)(p:I6)(σ:I6×Int)(u:I6):I6×Int:=if WV l p u>σ.2/\X6 S n y p u=true then (u,WV l p u) else σ
def T7(S:Se)(n:Nat)(y:Br)(l:List Of)(p m:I6):Nat->I6×Int
 | 0=>(z6,WV l p z6)
 | i+1=>Xq S n y l p (T7 S n y l p m i) (aK m i)
def Zi(S:Se)(n:Nat)(y:Br)(l:List Of)(p:I6):I6:=(T7 S n y l p (bI S.ps) (aE (bI S.ps))).1
section
variable {w0 w:af} {B:aI} {m:I6} {l D:Nat} {lp:Loop}
end
def WZ:Br:=⟨[],0,0,0⟩
def Xw(S:Se)(n:Int)(l:List Of)(p:I6):I6×Int:=if tv S≠0 then (z6,tv S) else if n<0\/n>=(S.bd.length:Int) then (z6,6) else if kA p=false then (z6,4) else (Zi S n.toNat (S.bd.getD n.toNat WZ) l p,0)
def CJ(w:af)(u:I6):CP 61 #[.agg u.vs.toArray] w (λ r w'=>r=.bool (u.l.all iy)/\aC w w' []):=by
 refine(p6 BA).1 ?_;refine aG u.vs.toArray λ r1 g s1=>?_;refine⟨λ n d m=>∃ k:Nat,n=k/\k<=6/\m=6-k/\(u.l.take k).all iy=true/\d=g,⟨6,0,rfl,by omega,by omega,rfl,rfl⟩,?_⟩;rintro d m n ⟨k,rfl,h,hm,ha,rfl⟩ -
 by_cases c:(k:Int)<6
 ·have a:k<6:=by omega
  have g2:=u.pT k a;refine aP c ⟨λ b f=>b = !iy (u.at' k)/\f=d,?_,by omega,by omega,u.at' k,by rw[dM,aF s1 0 rfl a],?_⟩
  ·rintro f b ⟨rfl,rfl⟩ -
   cases hx:iy (u.at' k) with
   | true=>exact cF rfl ⟨6-(k+1),by omega,k+1,inc (by decide) a,by omega,rfl,kI ha g2 hx,rfl⟩
   | false=>exact cT rfl ⟨by rw[mM g2 hx],s1.av⟩
  ·by_cases e:u.at' k<0
   ·exact aP e ⟨by simp[iy]; omega,rfl⟩
   ·refine aU e ⟨by omega,by omega,u.at' k,by rw[dM,aF s1 0 rfl a],?_,rfl⟩;unfold iy;rw[dT (show 0<=u.at' k by omega),bt]
    by_cases h4:u.at' k<=4
    ·rw[dT h4,dF (by omega)]; rfl
    ·rw[dF h4,dT (by omega)]; rfl
 ·obtain rfl:k=6:=by omega
  refine aU c ⟨?_,s1.av⟩;rw[show u.l.all iy=true from ha]
def ig(w:af)(u:I6):CP 90 #[.agg u.vs.toArray] w (λ r w'=>r=iv (if u.l.all iy then 0 else 4)/\aC w w' []):=by
 refine oP.2.1 ?_;refine aG u.vs.toArray λ r1 g s1=>?_;refine⟨λ n d m=>∃ k:Nat,n=k/\k<=6/\m=6-k/\(u.l.take k).all iy=true/\d=g,⟨6,0,rfl,by omega,by omega,rfl,rfl⟩,?_⟩;rintro d m n ⟨k,rfl,h,hm,ha,rfl⟩ -
 by_cases c:(k:Int)<6
 ·have a:k<6:=by omega
  have g2:=u.pT k a;refine aP c ⟨λ b f=>b = !iy (u.at' k)/\f=d,?_,by omega,by omega,u.at' k,by rw[dM,aF s1 0 rfl a],?_⟩
  ·rintro f b ⟨rfl,rfl⟩ -
   cases hx:iy (u.at' k) with
   | true=>exact cF rfl ⟨6-(k+1),by omega,k+1,inc (by decide) a,by omega,rfl,kI ha g2 hx,rfl⟩
   | false=>exact cT rfl ⟨by rw[mM g2 hx]; rfl,s1.av⟩
  ·by_cases e:u.at' k<0
   ·exact aP e ⟨by simp[iy]; omega,rfl⟩
   ·refine aU e ⟨by omega,by omega,u.at' k,by rw[dM,aF s1 0 rfl a],?_,rfl⟩;unfold iy;rw[dT (show 0<=u.at' k by omega),bt]
    by_cases h4:u.at' k<=4
    ·rw[dT h4,dF (by omega)]; rfl
    ·rw[dF h4,dT (by omega)]; rfl
 ·obtain rfl:k=6:=by omega
  refine aU c ⟨?_,s1.av⟩;rw[show u.l.all iy=true from ha]; rfl
def GO(w:af)(p:I6):CP 312 #[.agg p.vs.toArray] w (λ r w'=>r=.bool (kA p)/\aC w w' []):=by
 refine oP.2.2.2.1 ?_;refine aG p.vs.toArray λ r1 f s1=>?_;refine⟨λ n d m=>∃ k:Nat,n=k/\k<=6/\m=6-k/\(p.l.take k).all kJ=true/\d=f,⟨6,0,rfl,by omega,by omega,rfl,rfl⟩,?_⟩;rintro d m n ⟨k,rfl,h,hm,ha,rfl⟩ -
 by_cases c:(k:Int)<6
 ·have a:k<6:=by omega
  refine aP c ⟨λ b e=>b = !kJ (p.at' k)/\e=d,?_,by omega,by omega,p.at' k,by rw[dM,aF s1 0 rfl a],?_⟩
  ·rintro e b ⟨rfl,rfl⟩ -
   cases hx:kJ (p.at' k) with
   | true=>exact cF rfl ⟨6-(k+1),by omega,k+1,inc (by decide) a,by omega,rfl,kI ha (p.pT k a) hx,rfl⟩
   | false=>exact cT rfl ⟨by rw[kA,mM (p.pT k a) hx],s1.av⟩
  ·by_cases g:p.at' k<0
   ·exact aP g ⟨by simp[kJ]; omega,rfl⟩
   ·refine aU g ⟨by omega,by omega,p.at' k,by rw[dM,aF s1 0 rfl a],?_,rfl⟩
    by_cases g2:p.at' k>1000000
    ·rw[dT g2]; simp[kJ]; omega
    ·rw[dF g2]; simp[kJ]; omega
 ·obtain rfl:k=6:=by omega
  refine cF (by simp) ⟨?_,s1.av⟩;rw[kA,show p.l.all kJ=true from ha]
def GV(w:af)(u v:I6):CP 257 #[.agg u.vs.toArray,.agg v.vs.toArray] w (λ r w'=>r=.bool (within u v)/\aC w w' []):=by
 refine oP.2.2.2.2.1 ?_;refine aG u.vs.toArray λ r1 l s1=>s1.aB v.vs.toArray λ r2 o s2=>?_;refine⟨λ n d m=>∃ k:Nat,n=k/\k<=6/\m=6-k/\(∀ j,j<k->u.at' j<=v.at' j)/\St w d (Sep [aj r2 v.vs.toArray 42,aj r1 u.vs.toArray 42,emp]),⟨6,0,rfl,by omega,by omega,λ j h=>by omega,s2⟩,?_⟩;rintro d m n ⟨k,rfl,i,hm,ha,f⟩ -
 by_cases c:(k:Int)<6
 ·have a:k<6:=by omega
  have b:=f.quiet (aC.drew d []);refine aP c ⟨by omega,by omega,u.at' k,by rw[dM,aF b 1 rfl a],by omega,by omega,v.at' k,by rw[dM,aF b 0 rfl a],?_⟩
  by_cases g:u.at' k>v.at' k
  ·refine aP g ⟨?_,b.av⟩
   cases hw:within u v with
   | false=>rfl
   | true=>have:=within_iff.1 hw k a; omega
  ·refine aU g ⟨6-(k+1),by omega,k+1,inc (by decide) a,by omega,rfl,λ j h=>?_,b⟩;rcases bw j k with e | e
   ·exact ha j e
   ·obtain rfl:j=k:=by omega
    omega
 ·obtain rfl:k=6:=by omega
  exact cF (by simp) ⟨by rw[within_iff.2 ha],f.av⟩
def Fu{p u:I6}(hp:I6.Le p 1000000)(hu:I6.Le u 4){k:Nat}(b:k<6):0<=p.at' k*u.at' k/\p.at' k*u.at' k<=4000000:=by
 obtain⟨a1,a2⟩:=hp k b; obtain⟨a,c⟩:=hu k b;refine⟨gS a1 a,?_⟩;have:=Di a2 c a (by omega);omega
def Mk(w:af){p u:I6}(hp:I6.Le p 1000000)(hu:I6.Le u 4):CP 313 #[.agg p.vs.toArray,.agg u.vs.toArray] w (λ r w'=>r=iv (cost p u)/\aC w w' []):=by
 refine oP.2.2.2.2.2.1 ?_;refine aG p.vs.toArray λ r1 i s1=>s1.aB u.vs.toArray λ r2 j s2=>?_;refine⟨λ s n e m=>∃ k:Nat,n=k/\k<=6/\m=6-k/\(s=Bw p u k/\0<=s/\s<=(k:Int)*4000000)/\St w e (Sep [aj r2 u.vs.toArray 42,aj r1 p.vs.toArray 57,emp]),⟨6,0,rfl,by omega,by omega,⟨rfl,by simp,by simp⟩,s2⟩,?_⟩;rintro e m s n ⟨k,rfl,h,hm,⟨c,g,h1⟩,f⟩ -
 by_cases b:(k:Int)<6
 ·have a:k<6:=by omega
  have d:=f.quiet (aC.drew e []);have h2:=Fu hp hu a;refine aP b ⟨by omega,by omega,p.at' k,by rw[dM,aF d 1 rfl a],by omega,by omega,u.at' k,by rw[dM,aF d 0 rfl a],6-(k+1),by omega,k+1,inc (by decide) a,by omega,rfl,?_,d⟩;rw[cW (n:=p.at' k*u.at' k) ⟨by omega,by omega⟩,cA (by omega),oM,c];rw[c] at g h1;refine⟨rfl,by omega,by omega⟩
 ·obtain rfl:k=6:=by omega
  exact cF (by simp) ⟨by rw[c,vz],f.av⟩
def xy(w:af){p u:I6}(hp:I6.Le p 1000000)(hu:I6.Le u 4):CP 181 #[.agg p.vs.toArray,.agg u.vs.toArray] w (λ r w'=>r=iv (cost p u)/\aC w w' []):=by
 refine(p6 (p6 oP)).1 ?_;refine aG p.vs.toArray λ r1 i s1=>s1.aB u.vs.toArray λ r2 j s2=>?_;refine⟨λ s n e m=>∃ k:Nat,n=k/\k<=6/\m=6-k/\(s=Bw p u k/\0<=s/\s<=(k:Int)*4000000)/\St w e (Sep [aj r2 u.vs.toArray 42,aj r1 p.vs.toArray 57,emp]),⟨6,0,rfl,by omega,by omega,⟨rfl,by simp,by simp⟩,s2⟩,?_⟩;rintro e m s n ⟨k,rfl,h,hm,⟨c,g,h1⟩,f⟩ -
 by_cases b:(k:Int)<6
 ·have a:k<6:=by omega
  have d:=f.quiet (aC.drew e []);have h2:=Fu hp hu a;refine aP b ⟨by omega,by omega,p.at' k,by rw[dM,aF d 1 rfl a],by omega,by omega,u.at' k,by rw[dM,aF d 0 rfl a],6-(k+1),by omega,k+1,inc (by decide) a,by omega,rfl,?_,d⟩;rw[cW (n:=p.at' k*u.at' k) ⟨by omega,by omega⟩,cA (by omega),oM,c];rw[c] at g h1;refine⟨rfl,by omega,by omega⟩
 ·obtain rfl:k=6:=by omega
  exact cF (by simp) ⟨by rw[c,vz],f.av⟩
def zY(m:I6):Int:=if m.l.all iy=true/\pr m.l<=1024 then pr m.l else 0
def uI(w:af)(m:I6):CP 254 #[.agg m.vs.toArray] w (λ r w'=>r=iv (zY m)/\aC w w' []):=by
 refine oP.2.2.1 ?_;refine aG m.vs.toArray λ r1 j s1=>⟨m,s1.cellsIn 0 rfl,au (ig j m) ?_⟩;rintro v o ⟨rfl,c2⟩;have s2:=s1.quiet c2;refine⟨_,rfl,?_⟩
 cases hq:m.l.all iy with
 | false=>exact cT rfl ⟨by rw[zY,ah (by rw[hq]; simp)],s2.av⟩
 | true =>
  have hm:=ID hq;have d:∀ k,k<=6->1<=xT m k/\xT m k<=15625:=λ k b=>by
   have h:=jN (wI hm) k b;refine⟨by omega,cM h.2.2 ?_⟩
   match k,b with
   | 0,_|1,_|2,_|3,_|4,_|5,_|6,_=>decide
  refine cF rfl ⟨λ n i e mm=>∃ k:Nat,i=k/\k<=6/\mm=6-k/\n=xT m k/\e=o,⟨6,0,rfl,by omega,by omega,rfl,rfl⟩,?_⟩;rintro e mm n i ⟨k,rfl,b,f,rfl,rfl⟩ -
  by_cases c:(k:Int)<6
  ·have a:k<6:=by omega
   have h1:=hm k a;have h2:=d k b;have h3:=d (k+1) (by omega);refine aP c ⟨by omega,by omega,m.at' k,by rw[dM,aF s2 0 rfl a],6-(k+1),by omega,k+1,inc (by decide) a,by omega,rfl,?_,rfl⟩;rw[xT] at h3 ⊢;rw[cW (n:=m.at' k+1) ⟨by omega,by omega⟩,cA (by omega)]
  ·obtain rfl:k=6:=by omega
   refine cF (by simp) ?_
   by_cases g:xT m 6>1024
   ·exact aP g ⟨by rw[zY,ah (by rw[oB]; omega)],s2.av⟩
   ·exact aU g ⟨by rw[zY,ak ⟨hq,by rw[oB]; omega⟩,oB],s2.av⟩

import Derived.Test.YtjpbdjhaajdepaaGreatDoorM04
import Derived.Test.YtjpbdjhaajdepaaGreatDoorM09
import Derived.Test.YtjpbdjhaajdepaaGreatDoorM23
set_option maxRecDepth 100000
namespace Go.Proofs.YtjpbdjhaajdepaaGreatDoor
open Go Go.Vc Tryz
abbrev tQ (a:OA) (c:Nat) (l:List Int):aI:=bY 2 1 i1 a c l
def TE(T:List Int)(i k:Nat):List Int:=T.set i (if T.getD k 0>T.getD i 0 then T.getD k 0 else T.getD i 0)
theorem OZ(T:List Int)(i k:Nat):(TE T i k).length=T.length:=by simp[TE]
section
variable {w0 w:World} {B:aI} {g r3 r5:Nat} {n:Nat} {T:List Int} {i k:Nat}
def PO(g r3 r5 n i:Nat)(T:List Int)(B:aI):List aI:=[tQ (some ⟨g,0,none⟩) n T,ah r3 #[.slice (some ⟨g,0,none⟩) n n] 258,ah r5 #[iv i] 3,B]
theorem HE(s:St w0 w (Sep (PO g r3 r5 n i T B)))(hk:k<T.length):w.cell? (Addr.add ⟨g,0,none⟩ (((k:Nat):Int).toNat*1))=some (iv (T.getD k 0)):=by
  obtain⟨q,hq,hc⟩:=eu (St.rd bS (s.out 0 rfl)) (i:=k) (x:=T.getD k 0) (by rw[List.getD_eq_getElem?_getD,gE hk]; rfl)
  cases hq; exact hc
theorem RY(s:St w0 w (Sep (PO g r3 r5 n i T B)))(hn:T.length=n)(hi:i<n)(hk:k<n) :
    CP 205 #[iv k,pt r3,pt r5] w (λ r w'=>r=.tuple #[]/\St w0 w' (Sep (PO g r3 r5 n i (TE T i k) B))):=by
  refine pN ?_;unfold kg;have s1:=s.quiet (aF.drew w []);have c0:w.drew.cell? ⟨r3,0,none⟩=some (.slice (some ⟨g,0,none⟩) n n):=s1.ag 1 rfl 0;have c1:w.drew.cell? ⟨r5,0,none⟩=some (iv i):=s1.ag 2 rfl 0;refine⟨_,_,_,c0,_,c1,_,_,_,c0,_,c1,aq rfl ⟨by omega,by omega,_,HE s1 (by omega),_,_,_,c0,aq rfl ⟨by omega,by omega,_,HE s1 (by omega),aq rfl ⟨by omega,by omega,?_⟩⟩⟩⟩;rw[Int.toNat_natCast];exact St.jv (v:=iv) rfl (s1.out 0 rfl) (i:=i) (by omega) λ w2 s2=>⟨rfl,s2.back (show 0<4 by decide)⟩
def vr(m:I6):Nat->Int
  | 0=>1
  | j+1=>vr m j*(m.at' (5-j)+1)
theorem zv{m:I6}(h:I6.Le m 4):∀ j,j<=6->1<=vr m j/\vr m j<=5 ^ j
  | 0,_=>by show(1:Int)<=1/\(1:Int)<=5 ^ 0; decide
  | j+1,hj=>by
    have ih:=zv h j (by omega);have hm:=h (5-j) (by omega);have h1:vr m j*1<=vr m j*(m.at' (5-j)+1):=Int.mul_le_mul_of_nonneg_left (by omega) (by omega);have h2:vr m j*(m.at' (5-j)+1)<=vr m j*5:=Int.mul_le_mul_of_nonneg_left (by omega) (by omega);show 1<=vr m j*_/\vr m j*_<=5 ^ j*5;omega
def ry(m u:I6)(i:Nat):Nat->List Int->List Int
  | 0,T=>T
  | j+1,T=>if 0<u.at' (5-j) then TE (ry m u i j T) i (i-(vr m j).toNat) else ry m u i j T
theorem sH(m u:I6)(i:Nat)(T:List Int):∀ j,(ry m u i j T).length=T.length
  | 0=>rfl
  | j+1=>by
    rw[ry]
    split
    · rw[OZ,sH m u i T j]
    · exact sH m u i T j
theorem Mt{m u:I6}(hm:I6.Le m 4)(s:St w0 w (Sep (PO g r3 r5 n i T B)))(hn:T.length=n)(hi:i<n)(hu:∀ j,j<6->0<u.at' (5-j)->vr m j<=i)(h9:n<=100000) :
    CP 204 #[.agg m.vs.toArray,.agg u.vs.toArray,iv i,.func (.func 205) #[] #[pt r3,pt r5]] w (λ r w'=>r=.tuple #[]/\St w0 w' (Sep (PO g r3 r5 n i (ry m u i 6 T) B))):=by
  refine sg ?_;unfold nA;refine s.aB m.vs.toArray λ r1 w1 s1=>s1.aB u.vs.toArray λ r2 w2 s2=>?_;let M:List Int->List aI:=λ T=>ah r2 u.vs.toArray 42 :: ah r1 m.vs.toArray 42 :: PO g r3 r5 n i T B;refine⟨λ st k w3 x=>∃ j:Nat,st=vr m j/\k=5-(j:Int)/\j<=6/\x=6-j/\St w0 w3 (Sep (M (ry m u i j T))),⟨6,0,rfl,rfl,by omega,by omega,s2⟩,?_⟩;rintro w3 x st k ⟨j,rfl,rfl,hj,hx,s3⟩ -;have hb:=zv hm j hj;have h5:(5:Int) ^ j<=15625:=by
    have:j=0\/j=1\/j=2\/j=3\/j=4\/j=5\/j=6:=by omega
    rcases this with rfl | rfl | rfl | rfl | rfl | rfl | rfl<;>decide
  by_cases hj6:j<6
  · have hk6:5-j<6:=by omega
    have ek:(5:Int)-(j:Int)=((5-j:Nat):Int):=by omega
    rw[ek];refine cT (dT (by omega)) ⟨λ w4=>St w0 w4 (Sep (M (ry m u i (j+1) T))),?_,by omega,by omega,u.at' (5-j),by rw[hU]; exact aN s3 0 rfl hk6,?_⟩
    · rintro w4 s4 -;have hmk:=hm (5-j) hk6;have hb2:=zv hm (j+1) (by omega);have e2:vr m (j+1)=vr m j*(m.at' (5-j)+1):=rfl;have h52:(5:Int) ^ (j+1)<=15625:=by
        have:j=0\/j=1\/j=2\/j=3\/j=4\/j=5:=by omega
        rcases this with rfl | rfl | rfl | rfl | rfl | rfl<;>decide
      refine⟨by omega,by omega,m.at' (5-j),by rw[hU]; exact aN s4 1 rfl hk6,6-(j+1),by omega,j+1,?_,?_,by omega,rfl,s4⟩
      · rw[aG (n:=m.at' (5-j)+1) ⟨by omega,by omega⟩,<- e2,aG ⟨by omega,by omega⟩]
      · rw[aG ⟨by omega,by omega⟩]; omega
    · by_cases hp:0<u.at' (5-j)
      · have hs:=hu j hj6 hp;have e3:ry m u i (j+1) T=TE (ry m u i j T) i (i-(vr m j).toNat):=by rw[ry,if_pos hp]
        have e4:IntKind.i64.wrap ((i:Int)-vr m j)=((i-(vr m j).toNat:Nat):Int):=by rw[aG ⟨by omega,by omega⟩]; omega
        refine cT (dT hp) (bF (by kernel_rfl) ?_);rw[e4];have s4:St w0 w3 (Sep (PO g r3 r5 n i (ry m u i j T) (Sep [B,ah r2 u.vs.toArray 42,ah r1 m.vs.toArray 42]))):=((s3.aA [2,3,4,5,0,1]).split [_,_,_]).eqv (bq.right (bq.unit _)) |> St.cat;refine au (RY s4 (by rw[sH,hn]) hi (by omega)) ?_;rintro v w5 ⟨rfl,s5⟩;refine⟨rfl,?_⟩;rw[e3];have s6:=s5.dc [_,_,_];exact s6.aA [4,5,0,1,2,3]
      · have e3:ry m u i (j+1) T=ry m u i j T:=by rw[ry,if_neg hp]
        exact cF (dF hp) (by rw[e3]; exact s3)
  · obtain rfl:j=6:=by omega
    exact cF (dF (by decide)) ⟨rfl,s3.aA [2,3,4,5]⟩
end
def H9(_ u:I6)(k:Nat):I6:=u.put k (u.at' k-1)
def Fc(m u:I6)(T:List Int):Nat->Int
  | 0=>-1
  | k+1=>if u.at' k=0 then Fc m u T k else if T.getD (rk m (H9 m u k)).toNat 0>Fc m u T k then T.getD (rk m (H9 m u k)).toNat 0 else Fc m u T k
theorem Qz{m u:I6}(h:EI m u){k:Nat}(hk:k<6)(h0:u.at' k≠0):EI m (H9 m u k):=⟨h.mm,λ j hj=>by
  have h1:=h.u j hj; have h2:=h.u k hk;unfold H9;rw[I6.yX _ _ _ _ hk hj]
  split
  · rename_i e; subst e; omega
  · exact h1⟩
theorem J2{w:World}{m u:I6}(h:EI m u)(hp:pr m.l<=1024){a:OA}{c:Nat}{T:List Int}(hr:cN 1 i1 w a T)(hT:pr m.l=T.length) :
    CP 206 #[.agg m.vs.toArray,.agg u.vs.toArray,.slice a T.length c] w (λ r w'=>r=iv (Fc m u T 6)/\aF w w' []):=by
  refine uG ?_;unfold qO;refine(St.start w).one.aB m.vs.toArray λ r1 w1 s1=>s1.aB u.vs.toArray λ r2 w2 s2=>⟨u,s2.cellsIn 0 rfl,?_⟩;refine⟨λ n i w3 x=>∃ k:Nat,i=k/\k<=6/\x=6-k/\n=Fc m u T k/\St w w3 (Sep [ah r2 u.vs.toArray 42,ah r1 m.vs.toArray 42,emp]),⟨6,0,rfl,by omega,by omega,rfl,s2⟩,?_⟩;rintro w3 x n i ⟨k,rfl,hk,hx,rfl,s3⟩ -
  by_cases hlt:(k:Int)<6
  · have hk' : k<6:=by omega
    refine cT (dT hlt) ⟨λ n w4=>n=Fc m u T (k+1)/\St w w4 (Sep [ah r2 u.vs.toArray 42,ah r1 m.vs.toArray 42,emp]),?_,by omega,by omega,u.at' k,u.get k hk',?_⟩
    · rintro w4 n ⟨rfl,s4⟩ -;exact⟨6-(k+1),by omega,k+1,inc (by decide) hk',by omega,rfl,rfl,s4⟩
    by_cases h0:u.at' k=0
    · exact cT (by simpa using h0) ⟨by rw[Fc,if_pos h0],s3⟩
    have hin:=Qz h hk' h0;have hbd:=uZ hin 6 (Nat.le_refl _);rw[<- FH] at hbd;have hu:=h.u k hk';have hmm:=h.mm k hk';have e1:Fc m u T (k+1)=if T.getD (rk m (H9 m u k)).toNat 0>Fc m u T k then T.getD (rk m (H9 m u k)).toNat 0 else Fc m u T k:=by rw[Fc,if_neg h0]
    refine cF (by simpa using h0) ⟨u,s3.cellsIn 0 rfl,s3.aB z6.vs.toArray λ r3 w5 s5=>s5.aD 0 rfl u.vs rfl (I6.one _) λ w6 s6=>⟨by omega,by omega,?_⟩⟩;rw[hU,aG ⟨by omega,by omega⟩];refine s6.aJ 0 rfl hk' rfl λ w7 s7=>?_;rw[I6.qe _ _ _ hk'] at s7;refine⟨m,s7.cellsIn 2 rfl,H9 m u k,s7.cellsIn 0 rfl,au (Rr w7 m (H9 m u k)) ?_⟩;rintro v w8 ⟨⟨n,e,rfl,he,hn⟩,c8⟩;obtain rfl:=he.2 ⟨hp,hin⟩;obtain rfl:=hn rfl;have s8:=(s7.quiet c8).aA [1,2,3];obtain⟨j,hj⟩:=Int.eq_ofNat_of_zero_le hbd.1;have hjT:j<T.length:=by omega
    obtain⟨q,hq,hcl⟩:=eu (hr.aC s8.aC) (i:=j) (x:=T.getD j 0) (by rw[List.getD_eq_getElem?_getD,gE hjT]; rfl);refine⟨_,_,rfl,cT rfl (aq hq ⟨by show 0<=iA m (H9 m u k) 6; omega,by show iA m (H9 m u k) 6<_; omega,T.getD j 0,?_,?_,s8⟩)⟩
    · show w8.cell? (Addr.add q ((iA m (H9 m u k) 6).toNat*1))=_;rw[hj,Int.toNat_natCast]; exact hcl
    · rw[e1];show _=if T.getD (iA m (H9 m u k) 6).toNat 0>_ then T.getD (iA m (H9 m u k) 6).toNat 0 else _
      rw[hj,Int.toNat_natCast]
  · obtain rfl:k=6:=by omega
    exact cF (by simp) ⟨rfl,s3.aC⟩
structure Of where
  b:Int
  want:I6
  v:Int
def Of.cells(o:Of):List Value:=iv o.b :: o.want.on [iv o.v]
theorem Of.len(o:Of):o.cells.length=8:=rfl
def B9(o:Of):Bool:=o.want.l.all mD&&(decide (o.want≠z6)&&(decide (1<=o.v)&&decide (o.v<=1000000)))
theorem IB(w:World)(o:Of):CP 166 #[.agg o.cells.toArray] w (λ r w'=>r=.bool (B9 o)/\aF w w' []):=by
  refine wT (u1:=o.want) ?_;unfold tK;refine(St.start w).one.aB o.cells.toArray λ r1 w1 s1=>⟨o.want,s1.aM 0 1 rfl rfl,au (cS w1 o.want) ?_⟩;rintro v w2 ⟨rfl,c2⟩;have s2:=s1.quiet c2;refine⟨_,rfl,?_⟩
  cases hq:o.want.l.all mD with
  | false=>exact cF rfl ⟨by rw[B9,hq]; rfl,s2.aC⟩
  | true =>
    have e1:B9 o=(decide (o.want≠z6)&&(decide (1<=o.v)&&decide (o.v<=1000000))):=by rw[B9,hq]; rfl
    refine cT rfl ⟨o.want,s2.aM 0 1 rfl rfl,?_⟩;rw[I6.beq_eq]
    by_cases hz:o.want=z6
    · exact cF (by rw[dT hz]; rfl) ⟨by rw[e1,dF (λ h=>h hz)]; rfl,s2.aC⟩
    · rw[dT hz,Bool.true_and] at e1;refine cT (by rw[dF hz]; rfl) ⟨_,s2.ag 0 rfl 7,?_⟩
      by_cases g1:1<=o.v
      · rw[dT g1,Bool.true_and] at e1;exact cT (dT g1) ⟨_,s2.ag 0 rfl 7,by rw[e1],s2.aC⟩
      · exact cF (dF g1) ⟨by rw[e1,dF g1]; rfl,s2.aC⟩
end Go.Proofs.YtjpbdjhaajdepaaGreatDoor
namespace Go.Vc
open Go
theorem AQ{P:Program}{gf:FuncId}{lb:List Value}{rec:FuncId->Nat->Loop}{w0 w:World}{N R:World->Prop}{X:List (Nat×(World->Prop))}{L:List aI}(s:St w0 w (Sep L))(hp:∀ fn D,(rec fn D).pending=none/\(rec fn D).state=.ready) (k:∀ fn l w1,St w0 w1 (Sep (bC l (.loop (rec fn w.heap.size)) :: bC w.heap.size (.deferred (some [])) :: L)) ->
      Calls P gf (Value.func (.yield l) #[] #[] :: lb).toArray w1 (xC λ _ w2=>∃ L',St w0 w2 (Sep (bC l (.loop (rec fn w.heap.size)) :: L'))/\∀ w3,St w0 w3 (Sep L')->N w3)):Cp P gf lb rec w N R X:=by
  intro fn;have s1:=s.Rh (.deferred (some []));have hD:(w.alloc (.deferred (some []))).heap.size=w.heap.size+1:=by rw[World.size_alloc]
  have s2:=s1.Rh (.loop (rec fn w.heap.size));rw[hD] at s2;refine(k fn _ _ s2).mono λ e w2 ⟨v,he,L',s3,hN⟩=>⟨⟨v,he⟩,_,s3.oS 0 rfl,?_,?_⟩
  · rw[(hp fn _).2]; intro h; cases h
  · rw[(hp fn _).1];exact hN _ ((s3.putAt 0 rfl _).second)
end Go.Vc
namespace Go.Proofs.YtjpbdjhaajdepaaGreatDoor
open Go Go.Vc Tryz
theorem LF{m u:I6}(h:EI m u):∀ j,j<=6->iA m u (6-j)*vr m j<=iA m u 6
  | 0,_=>by show iA m u 6*1<=_; omega
  | j+1,hj=>by
    have ih:=LF h j (by omega);rw[show 6-j=(5-j)+1 by omega] at ih;have hs:=zv h.mm j (by omega);have hu:=h.u (5-j) (by omega);have e2:iA m u (5-j+1)=iA m u (5-j)*(m.at' (5-j)+1)+u.at' (5-j):=rfl;rw[e2,Int.add_mul] at ih;have h1:0<=u.at' (5-j)*vr m j:=Int.mul_nonneg hu.1 (by omega);rw[show 6-(j+1)=5-j by omega];have e3:iA m u (5-j)*vr m (j+1)=iA m u (5-j)*(m.at' (5-j)+1)*vr m j:=by
      show iA m u (5-j)*(vr m j*(m.at' (5-j)+1))=_;rw[Int.mul_comm (vr m j),Int.mul_assoc]
    rw[e3]; omega
theorem RS{m u:I6}(h:EI m u){j:Nat}(hj:j<6)(hp:0<u.at' (5-j)):vr m j<=rk m u:=by
  have h1:=LF h j (by omega);rw[show 6-j=(5-j)+1 by omega] at h1;have e2:iA m u (5-j+1)=iA m u (5-j)*(m.at' (5-j)+1)+u.at' (5-j):=rfl;have h2:=(uZ h (5-j) (by omega)).1;have hm:=h.mm (5-j) (by omega);have hs:=zv h.mm j (by omega);have h3:1<=iA m u (5-j+1):=by
    rw[e2];have:=Int.mul_nonneg h2 (show 0<=m.at' (5-j)+1 by omega);omega
  have h4:1*vr m j<=iA m u (5-j+1)*vr m j:=Int.mul_le_mul_of_nonneg_right h3 (by omega);show vr m j<=iA m u 6;omega
def Ey(m:I6)(F:Wf):Nat->List Int
  | 0=>List.replicate (aX m) 0
  | i+1=>ry m (cM m i) i 6 ((Ey m F i).set i (F (cM m i)))
theorem zy(m:I6)(F:Wf):∀ i,(Ey m F i).length=aX m
  | 0=>List.length_replicate
  | i+1=>by rw[Ey,sH,List.length_set,zy m F i]
def LN(m:I6)(F:Wf):List Int:=Ey m F (aX m)
section
variable {w0 w:World} {B:aI} {m:I6} {g r2 r3 r4 r5 rm l D:Nat} {lp:Loop} {F:Wf} {lk:List KV}
def LM(m:I6)(F:Wf)(g r2 r3 r4 r5 rm:Nat)(lk:List KV)(B:aI)(i:Nat):List aI :=
  [tQ (some ⟨g,0,none⟩) (aX m) (Ey m F i),ah r3 #[.slice (some ⟨g,0,none⟩) (aX m) (aX m)] 258,ah r5 #[iv i] 3,ah r4 #[.map (some rm)] 300,mapA rm lk,ah r2 m.vs.toArray 42,B]
theorem I7(hm:I6.Le m 4)(hr:cC m lk F){i:Nat}(hi:i<aX m){Fr:aI}{n1:Int}{u1:I6}{n2:Int}{a1:OA}{l1:Nat}{c1:Nat}{u2:I6}{r1:Nat}{n3:Int}{u3:I6}{n4:Int}{a2:OA}{l2:Nat}{c2:Nat}{n5:Int}{u4:I6}{n6:Int}{u5:I6}{n7:Int}{x1:Nat->Value}{u6:I6}{v1:Value}{fn:FuncId}(hlp:lp=dL n1 u1 n2 a1 l1 c1 u2 r1 r2 n3 u3 n4 a2 l2 c2 n5 u4 n6 u5 n7 r3 r4 x1 r5 u6 v1 fn D)(h:St w0 w (star (Sep (bC l (.loop lp) :: LM m F g r2 r3 r4 r5 rm lk B i)) Fr)) :
    lU prog l #[.agg (cM m i).vs.toArray] w λ b w2=>b=true/\St w0 w2 (star (Sep (bC l (.loop lp) :: LM m F g r2 r3 r4 r5 rm lk B (i+1))) Fr):=by
  have hc:=mb hm;have hl:=zy m F i;have s:St w0 w (Sep (bC l (.loop lp) :: LM m F g r2 r3 r4 r5 rm lk B i++[Fr])):=h.open;refine jH (n1:=n1) (u1:=u1) (n2:=n2) (a1:=a1) (l1:=l1) (c1:=c1) (u2:=u2) (r1:=r1) (r2:=r2) (n3:=n3) (u3:=u3) (n4:=n4) (a2:=a2) (l2:=l2) (c2:=c2) (n5:=n5) (u4:=u4) (n6:=n6) (u5:=u5) (n7:=n7) (r3:=r3) (r4:=r4) (x1:=x1) (r5:=r5) (u6:=u6) (v1:=v1) (s.oS 0 rfl) (by rw[hlp]; rfl) (by rw[hlp]; rfl) (by rw[hlp]; rfl) (by rw[hlp]; rfl) ?_;unfold fS;have hst:lp.state=.ready:=by rw[hlp]; rfl
  have hpd:({ ({ lp with state:=.busy }:Loop) with state:=.ready,pending:=none }:Loop)=lp:=by rw[hlp]; rfl
  clear hlp;refine s.aB z6.vs.toArray λ r6 w1 s1=>s1.aD 0 rfl (cM m i).vs rfl (I6.one _) λ w2 s2=>?_;have s2:St w0 w2 (Sep (ah r6 (cM m i).vs.toArray 42 :: bC l (.loop lp) :: LM m F g r2 r3 r4 r5 rm lk B i++[Fr])):=s2;refine⟨lp,s2.oS 1 rfl,hst,?_⟩;have s3:=(s2.putAt 1 rfl (.loop { lp with state:=.busy })).quiet (aF.drew _ []);refine⟨_,_,_,s3.ag 3 rfl 0,_,s3.ag 4 rfl 0,_,s3.ag 5 rfl 0,_,s3.cellsIn 0 rfl,?_⟩;refine DT Pq (s3.out 6 rfl) (cM m i) ?_;rw[hr.get];refine⟨s3.ag 4 rfl 0,s3.ag 3 rfl 0,aq rfl ⟨by omega,by omega,?_⟩⟩;rw[Int.toNat_natCast];refine St.jv (v:=iv) rfl (s3.out 2 rfl) (i:=i) (by omega) λ w4 s4=>?_;have s4:St w0 w4 (Sep (ah r6 (cM m i).vs.toArray 42 :: bC l (.loop { lp with state:=.busy }) :: tQ (some ⟨g,0,none⟩) (aX m) ((Ey m F i).set i (F (cM m i))) :: ah r3 #[.slice (some ⟨g,0,none⟩) (aX m) (aX m)] 258 :: ah r5 #[iv i] 3 :: ah r4 #[.map (some rm)] 300 :: mapA rm lk :: ah r2 m.vs.toArray 42 :: B :: [Fr])):=s4.back (i:=2) (by show 2<10; decide);refine⟨_,s4.cellsIn 7 rfl,_,s4.cellsIn 0 rfl,_,s4.ag 4 rfl 0,?_⟩;have s5:St w0 w4 (Sep (PO g r3 r5 (aX m) i ((Ey m F i).set i (F (cM m i))) (Sep [ah r6 (cM m i).vs.toArray 42,bC l (.loop { lp with state:=.busy }),ah r4 #[.map (some rm)] 300,mapA rm lk,ah r2 m.vs.toArray 42,B,Fr]))) :=
    ((s4.aA [2,3,4,0,1,5,6,7,8,9]).split [_,_,_]).eqv (bq.right (bq.unit _)) |> St.cat
  refine au (Mt hm s5 (by rw[List.length_set,hl]) hi (λ j hj hp=>?_) (by omega)) ?_
  · have:=RS (jM hm i) hj hp;rw[By hm i hi] at this;exact this
  rintro v w5 ⟨rfl,s6⟩;have s7:St w0 w5 (Sep ([tQ (some ⟨g,0,none⟩) (aX m) (Ey m F (i+1)),ah r3 #[.slice (some ⟨g,0,none⟩) (aX m) (aX m)] 258,ah r5 #[iv i] 3]++[ah r6 (cM m i).vs.toArray 42,bC l (.loop { lp with state:=.busy }),ah r4 #[.map (some rm)] 300,mapA rm lk,ah r2 m.vs.toArray 42,B,Fr])):=s6.dc [_,_,_];refine⟨rfl,_,s7.ag 2 rfl 0,s7.aJ 2 rfl (by show 0<1; decide) rfl λ w6 s8=>⟨_,s8.oS 4 rfl,rfl,?_⟩⟩;have s9:=s8.putAt 4 rfl (.loop lp);rw[aG (n:=(i:Int)+1) ⟨by omega,by omega⟩] at s9;rw[hpd];exact(s9.aA [4,0,1,2,5,6,7,8,9]).shut
end
set_option maxHeartbeats 4000000 in
theorem OT{w:World}{x:Xv}{m:I6}(hm:I6.Le m 4)(hp:pr m.l<=1024)(hz:aT x<=100000)(hx:x.In w) :
    CP 163 #[.agg x.cells.toArray,.agg m.vs.toArray] w (λ r w'=>(eD x≠0/\r=.tuple #[.slice none 0 0,iv (eD x)]/\aF w w' [])\/(eD x=0/\∃ g,r=.tuple #[.slice (some ⟨g,0,none⟩) (aX m) (aX m),iv 0]/\St w w' (Sep [tQ (some ⟨g,0,none⟩) (aX m) (LN m (kB m x))]))):=by
  refine rZ (u1:=x.u) ?_;unfold ny;refine(St.start w).one.aB x.cells.toArray λ r1 w1 s1=>s1.aB m.vs.toArray λ r2 w2 s2=>?_;have hxI:∀ {w'},aF w w' []->x.In w':=λ hc=>hx.aC hc;refine⟨_,x.u,_,_,_,_,s2.cellsIn 1 rfl,au (EE hz (hxI s2.aC)) ?_⟩;rintro v w3 ⟨rfl,c3⟩;have s3:=s2.quiet c3;refine⟨_,rfl,?_⟩
  by_cases hk:eD x=0
  · refine cF (by simpa using hk) ⟨m,s3.cellsIn 0 rfl,au (cS w3 m) ?_⟩;rintro v w4 ⟨rfl,c4⟩;have s4:=s3.quiet c4;rw[if_pos (leq hm)];refine⟨_,rfl,cF rfl ⟨m,s4.cellsIn 0 rfl,au (xg w4 m) ?_⟩⟩;rintro v w5 ⟨rfl,c5⟩;have s5:=s4.quiet c5;rw[if_pos ⟨leq hm,hp⟩];have hc:=mb hm;refine⟨_,rfl,cF (by simp; omega) ?_⟩;rw[<- hc.2.1];let A:List aI:=[ah r2 m.vs.toArray 42,ah r1 x.cells.toArray 107,emp];refine⟨λ r3 r4 w6=>∃ g rm lk,cC m lk (kB m x)/\St w w6 (Sep (tQ (some ⟨g,0,none⟩) (aX m) (List.replicate (aX m) 0) :: mapA rm lk :: ah r3 #[.slice (some ⟨g,0,none⟩) (aX m) (aX m)] 258 :: ah r4 #[.map (some rm)] 300 :: A)),?_,?_⟩
    · rintro w6 r3 r4 ⟨g,rm,lk,hr,s6⟩ x1;refine s6.aB #[iv 0] λ r5 w7 s7=>s7.aJ 0 rfl (by decide) rfl λ w8 s8=>⟨m,s8.cellsIn 5 rfl,au (O4 s8 m hm hp) ?_⟩;rintro v w9 ⟨b,rfl,s9⟩;refine⟨_,rfl,AR (by kernel_rfl) ?_⟩;have s9:St w w9 (Sep (ah b m.vs.toArray 42 :: ah r5 #[iv 0] 3 :: tQ (some ⟨g,0,none⟩) (aX m) (List.replicate (aX m) 0) :: mapA rm lk :: ah r3 #[.slice (some ⟨g,0,none⟩) (aX m) (aX m)] 258 :: ah r4 #[.map (some rm)] 300 :: A)):=s9;refine AQ s9 (λ _ _=>⟨rfl,rfl⟩) λ fn l w10 s10=>?_;have s11:=(s10.aA [0,4,6,3,7,5,8,1,2]).split [_,_,_,_,_,_,_,_];refine au (Gv hm (R:=λ i=>Sep (bC l (.loop _) :: LM m (kB m x) g r2 r3 r4 r5 rm lk (bC w9.heap.size (.deferred (some []))) i)) (λ i w1 Fr hi h=>I7 (B:=bC w9.heap.size (.deferred (some []))) (D:=w9.heap.size) hm hr hi rfl h) s11) ?_;rintro v w11 ⟨rfl,s12⟩;refine⟨_,rfl,_,s12.first,λ w12 s13=>⟨_,_,_,s13.ag 1 rfl 0,s13.oS 6 rfl,.inr ⟨hk,g,rfl,?_⟩⟩⟩;exact(s13.putAt 6 rfl (.deferred none)).aA [0]
    · have s6:=s5.quiet (aF.drew w5 []);refine⟨_,x.u,_,_,_,_,s6.cellsIn 1 rfl,m,s6.cellsIn 0 rfl,?_⟩;have h:St w w5.drew (Sep (emp :: emp :: emp :: emp :: A)):=s6.aA [3,3,3,3,0,1,2];have opR:∀ {c2 c3 c4:aI} {w' : World} {R:Option Addr->Nat->Nat->World->Prop},St w w' (Sep (emp :: c2 :: c3 :: c4 :: A))->(∀ g w'',St w w'' (Sep (tQ (some ⟨g,0,none⟩) (aX m) (List.replicate (aX m) 0) :: c2 :: c3 :: c4 :: A))->R (some ⟨g,0,none⟩) (aX m) (aX m) w'') ->
          bg prog (Instr.makeSlice 258 (iv (aX m:Nat)) (iv (aX m:Nat))) w' λ e w1=>∃ a l c,e=.slice a l c/\R a l c w1:=by
        intro c2 c3 c4 w' R s k;refine de OF bS (x:=0) rfl s (n:=aX m) (by omega) (by omega) λ g w'' _ s'=>?_;have s2:St w w'' (Sep (tQ (some ⟨g,0,none⟩) (aX m) (List.replicate (aX m) 0) :: emp :: c2 :: c3 :: c4 :: A)):=s';exact k g w'' (s2.aA [0,2,3,4,5,6,7])
      have opO:∀ {c1 c3 c4:aI} {w' : World} {R:Option Nat->World->Prop},St w w' (Sep (c1 :: emp :: c3 :: c4 :: A))->(∀ rm lk w'',cC m lk (kB m x)->St w w'' (Sep (c1 :: mapA rm lk :: c3 :: c4 :: A))->R (some rm) w'') ->
          Calls prog 202 #[.agg (iv x.op :: x.u.on [iv x.v,.slice x.a x.args.length x.c]:List Value).toArray,.agg m.vs.toArray] w' λ e w1=>∃ m1:Option Nat,e=.returned (.map m1)/\R m1 w1:=by
        intro c1 c3 c4 w' R s k;refine au (UU hm x (Kh hk) hz w _ _ hxI s) ?_;rintro v w'' ⟨rm,lk,rfl,hr,s'⟩;have s2:St w w'' (Sep (mapA rm lk :: c1 :: emp :: c3 :: c4 :: A)):=s';exact⟨_,rfl,k rm lk w'' hr (s2.aA [1,0,3,4,5,6,7])⟩
      have opS:∀ {c1 c2 c4:aI} {w' : World} {R:Nat->World->Prop},St w w' (Sep (c1 :: c2 :: emp :: c4 :: A))->(∀ r w'',St w w'' (Sep (c1 :: c2 :: ah r #[.slice none 0 0] 258 :: c4 :: A))->R r w'')->av w' (.cells #[.slice none 0 0] 258) R:=by
        intro c1 c2 c4 w' R s k;exact s.aB _ λ r w'' s'=>k r w'' (s'.aA [1,2,0,4,5,6,7])
      have opM:∀ {c1 c2 c3:aI} {w' : World} {R:Nat->World->Prop},St w w' (Sep (c1 :: c2 :: c3 :: emp :: A))->(∀ r w'',St w w'' (Sep (c1 :: c2 :: c3 :: ah r #[.map none] 300 :: A))->R r w'')->av w' (.cells #[.map none] 300) R:=by
        intro c1 c2 c3 w' R s k;exact s.aB _ λ r w'' s'=>k r w'' (s'.aA [1,2,3,0,5,6,7])
      have stS:∀ {c1 c2 c4:aI} {r:Nat} {v:Value} {w' : World} {R:World->Prop},v.oneCell' = true->St w w' (Sep (c1 :: c2 :: ah r #[.slice none 0 0] 258 :: c4 :: A))->(∀ w'',St w w'' (Sep (c1 :: c2 :: ah r #[v] 258 :: c4 :: A))->R w'')->aQ w' ⟨r,0,none⟩ v R:=by
        intro c1 c2 c4 r v w' R h1 s k;exact s.aJ 2 rfl (by show 0<1; decide) h1 k
      have stM:∀ {c1 c2 c3:aI} {r:Nat} {v:Value} {w' : World} {R:World->Prop},v.oneCell' = true->St w w' (Sep (c1 :: c2 :: c3 :: ah r #[.map none] 300 :: A))->(∀ w'',St w w'' (Sep (c1 :: c2 :: c3 :: ah r #[v] 300 :: A))->R w'')->aQ w' ⟨r,0,none⟩ v R:=by
        intro c1 c2 c3 r v w' R h1 s k;exact s.aJ 3 rfl (by show 0<1; decide) h1 k
      have opC:∀ {c1 c2 c3 c4:aI} {w' : World} {Q:Prop},St w w' (Sep (c1 :: c2 :: c3 :: c4 :: A))->Q->af w' ⟨r2,0,none⟩ 0 m.vs/\af w' ⟨r1,0,none⟩ 0 (iv x.op :: x.u.on [iv x.v,.slice x.a x.args.length x.c])/\Q:=λ s k=>⟨s.cellsIn 4 rfl,s.cellsIn 5 rfl,k⟩;clear s1 s2 s3 s4 s5 s6 c3 c4 c5
      repeat' (with_reducible first
        | refine opR h λ g w1 h=>?_
        | refine opO h λ rm lk w1 hr h=>?_
        | refine opS h λ r w1 h=>?_
        | refine opM h λ r w1 h=>?_
        | refine stS rfl h λ w1 h=>?_
        | refine stM rfl h λ w1 h=>?_
        | refine opC h ?_
        | exact⟨_,_,_,hr,h⟩
        | refine⟨?_,?_⟩)
  · exact cT (by simpa using hk) (.inl ⟨hk,rfl,s3.aC⟩)
def wM(q:I6)(v:Int)(c:Ch):Int:=if c.want=q then (if cost c.p q>v then cost c.p q else v) else v
def BQ(q:I6)(v:Int)(x:Of):Int:=if x.want=q then (if x.v>v then x.v else v) else v
def J5(l:List Ch)(bids:List Of)(q:I6):Int:=bids.foldl (BQ q) (l.foldl (wM q) 0)
abbrev Va (w:World) (a:OA) (l:List Of):Prop:=cN 8 Of.cells w a l
theorem Of.one(o:Of):∀ v∈o.cells,v.oneCell' = true:=by
  intro v hv; simp[Of.cells,I6.on] at hv; rcases hv with rfl | rfl | rfl | rfl | rfl | rfl | rfl | rfl<;>rfl
def TI:Of:=⟨0,z6,0⟩
theorem M4{w:World}{a1 a2:OA}{c1 c2 b1 b2:Nat}{l:List Ch}{bids:List Of}(hr:EJ w a1 l)(hl:l.length<=1000)(ho:∀ c∈l,c.Ok)(hb:Va w a2 bids)(hbl:bids.length<=100000)(e1:w.cell? ⟨b1,0,none⟩=some (.slice a1 l.length c1))(e2:w.cell? ⟨b2,0,none⟩=some (.slice a2 bids.length c2))(q:I6) :
    CP 208 #[.agg q.vs.toArray,pt b1,pt b2] w (λ r w'=>r=iv (J5 l bids q)/\aF w w' []):=by
  refine rM ?_;unfold nk;refine(St.start w).one.aB q.vs.toArray λ r1 w1 s1=>⟨_,_,_,cU e1 s1.aC,?_⟩;let M:List aI:=[ah r1 q.vs.toArray 42,emp];refine⟨λ n i w2 m=>∃ k:Nat,i=k/\k<=l.length/\m=l.length-k/\n=(l.take k).foldl (wM q) 0/\St w w2 (Sep M),⟨l.length,0,rfl,by omega,by omega,rfl,s1⟩,?_⟩;rintro w2 m n i ⟨k,rfl,hk,hm,rfl,s2⟩ -
  by_cases hlt:(k:Int)<(l.length:Int)
  · have hx:l[k]? = some (l[k]'(by omega)):=gE (by omega);generalize l[k]'(by omega)=y at hx;obtain⟨p,hp,hcl⟩:=(hr.aC s2.aC).at hx;have ef:=uH (f:=wM q) (a:=0) hx;refine cT (dT hlt) ⟨λ n w3=>n=(l.take (k+1)).foldl (wM q) 0/\St w w3 (Sep M),?_,aq hp ⟨by omega,by omega,y.p,y.want,hcl,s2.aB Bg.cells.toArray λ r2 w4 s4=>s4.aD 0 rfl y.cells rfl y.one λ w5 s5=>⟨y.want,cA s5 0 rfl,q,s5.cellsIn 1 rfl,?_⟩⟩⟩
    · rintro w3 n ⟨rfl,s3⟩ -;exact⟨l.length-(k+1),by omega,k+1,aG ⟨by omega,by omega⟩,by omega,rfl,rfl,s3⟩
    rw[I6.beq_eq]
    by_cases hw:y.want=q
    · have oy:=ho y (List.mem_of_getElem? hx);refine cT (dT hw) ⟨y.p,wD s5 0 rfl,q,s5.cellsIn 1 rfl,au (ja w5 oy.p (by rw[<- hw]; exact oy.w)) ?_⟩;rintro v w6 ⟨rfl,c6⟩;exact⟨_,rfl,by rw[ef,wM,if_pos hw],(s5.quiet c6).aA [1,2]⟩
    · exact cF (dF hw) ⟨by rw[ef,wM,if_neg hw],s5.aA [1,2]⟩
  · obtain rfl:l.length=k:=by omega
    rw[List.take_length];refine cF (dF hlt) ⟨_,_,_,cU e2 s2.aC,?_⟩;refine⟨λ n i w2 m=>∃ k:Nat,i=k/\k<=bids.length/\m=bids.length-k/\n=(bids.take k).foldl (BQ q) (l.foldl (wM q) 0)/\St w w2 (Sep M),⟨bids.length,0,rfl,by omega,by omega,rfl,s2⟩,?_⟩;clear hm hk hlt s2;rintro w7 m n i ⟨k,rfl,hk,hm,rfl,s2⟩ -
    by_cases hlt:(k:Int)<(bids.length:Int)
    · have hx:bids[k]? = some (bids[k]'(by omega)):=gE (by omega);generalize bids[k]'(by omega)=y at hx;obtain⟨p,hp,hcl⟩:=(hb.aC s2.aC).at hx;have ef:=uH (f:=BQ q) (a:=l.foldl (wM q) 0) hx;refine cT (dT hlt) ⟨λ n w3=>n=(bids.take (k+1)).foldl (BQ q) (l.foldl (wM q) 0)/\St w w3 (Sep M),?_,aq hp ⟨by omega,by omega,_,y.want,_,hcl,s2.aB TI.cells.toArray λ r2 w4 s4=>s4.aD 0 rfl y.cells rfl y.one λ w5 s5=>⟨y.want,s5.aM 0 1 rfl rfl,q,s5.cellsIn 1 rfl,?_⟩⟩⟩
      · rintro w3 n ⟨rfl,s3⟩ -;exact⟨bids.length-(k+1),by omega,k+1,aG ⟨by omega,by omega⟩,by omega,rfl,rfl,s3⟩
      rw[I6.beq_eq]
      by_cases hw:y.want=q
      · exact cT (dT hw) ⟨_,s5.ag 0 rfl 7,by rw[ef,BQ,if_pos hw],s5.aA [1,2]⟩
      · exact cF (dF hw) ⟨by rw[ef,BQ,if_neg hw],s5.aA [1,2]⟩
    · obtain rfl:bids.length=k:=by omega
      rw[List.take_length];exact cF (dF hlt) ⟨rfl,s2.aC⟩
theorem U1:fZ prog 215 219 (.agg TI.cells.toArray) 8 64:=fZ.mk' underlying215 (by kernel_rfl) rfl (by decide)
abbrev Ek (a:OA) (c:Nat) (l:List Of):aI:=bY 219 8 Of.cells a c l
theorem xP{α:Type}{sz:Nat}{f:α->List Value}{w:World}{r:Nat}{x:α}(h:af w ⟨r,0,none⟩ 0 (f x))(hf:(f x).length=sz):cN sz f w (some ⟨r,0,none⟩) [x]:=λ i y hy=>by
  match i,hy with
  | 0,rfl=>exact⟨_,_,rfl,by rw[aV]; simpa using h,hf,rfl⟩
mutual
def nQ(m:I6)(T:List Int):Nat->List Of
  | 0=>[]
  | i+1=>if 0<i/\T.getD i 0>Fc m (cM m i) (jF m T i) 6 then nQ m T i++[⟨0,cM m i,T.getD i 0⟩] else nQ m T i
def jF(m:I6)(T:List Int):Nat->List Int
  | 0=>T
  | i+1=>(jF m T i).set i (if Fc m (cM m i) (jF m T i) 6>(jF m T i).getD i 0 then Fc m (cM m i) (jF m T i) 6 else (jF m T i).getD i 0)
end
theorem DV(m:I6)(T:List Int):∀ i,(jF m T i).length=T.length
  | 0=>rfl
  | i+1=>by rw[jF,List.length_set,DV m T i]
theorem DU(m:I6)(T:List Int):∀ i,(nQ m T i).length<=i
  | 0=>Nat.le_refl 0
  | i+1=>by
    have:=DU m T i;rw[nQ]
    split
    · rw[List.length_append,List.length_singleton]; omega
    · omega
def yO(m:I6)(T:List Int):List Of:=nQ m T (aX m)
section
variable {w0 w:World} {B:aI} {m:I6} {g r1 r2 r3 r4 r5 l D:Nat} {lp:Loop} {T:List Int} {a1:OA} {c1:Nat}
def NW(m:I6)(T:List Int)(a1:OA)(c1 g r1 r2 r3 r4 r5:Nat)(B:aI)(a:OA)(c i:Nat)(out:List Of):List aI :=
  [tQ (some ⟨g,0,none⟩) (aX m) (jF m T i),ah r3 #[.slice (some ⟨g,0,none⟩) (aX m) (aX m)] 258,Ek a c out,ah r4 #[.slice a out.length c] 215,ah r5 #[iv i] 3,ah r1 #[.slice a1 (aX m) c1] 258,ah r2 m.vs.toArray 42,B]
def Q8(m:I6)(T:List Int)(a1:OA)(c1 g r1 r2 r3 r4 r5 l:Nat)(lp:Loop)(B:aI)(i:Nat):aI :=
  Sd λ (p:Option Addr×Nat)=>Sep (bC l (.loop lp) :: NW m T a1 c1 g r1 r2 r3 r4 r5 B p.1 p.2 i (nQ m T i))
theorem It(hm:I6.Le m 4)(hp:pr m.l<=1024)(hT:∀ {w'},aF w0 w' []->cN 1 i1 w' a1 T)(hl:T.length=aX m){i:Nat}(hi:i<aX m){Fr:aI}{a0:OA}{l0 c0:Nat}{u0:I6}{a2:OA}{l2:Nat}{c2:Nat}{a3:OA}{l3:Nat}{c3:Nat}{a4:OA}{l4:Nat}{c4:Nat}{a5:OA}{l5:Nat}{c5:Nat}{e1:Value}{u2:I6}{v1:Value}{fn:FuncId}(hlp:lp=dQ a0 l0 c0 u0 r1 r2 a2 l2 c2 a3 l3 c3 r3 a4 l4 c4 a5 l5 c5 e1 r4 r5 u2 v1 fn D)(h:St w0 w (star (Q8 m T a1 c1 g r1 r2 r3 r4 r5 l lp B i) Fr)) :
    lU prog l #[.agg (cM m i).vs.toArray] w λ b w2=>b=true/\St w0 w2 (star (Q8 m T a1 c1 g r1 r2 r3 r4 r5 l lp B (i+1)) Fr):=by
  have hc:=mb hm;have hml:=(DV m T i).trans hl;obtain⟨⟨a,c⟩,h⟩:=h.ex;have s:St w0 w (Sep (bC l (.loop lp) :: NW m T a1 c1 g r1 r2 r3 r4 r5 B a c i (nQ m T i)++[Fr])):=h.open;refine ku (a1:=a0) (l1:=l0) (c1:=c0) (u1:=u0) (r1:=r1) (r2:=r2) (a2:=a2) (l2:=l2) (c2:=c2) (a3:=a3) (l3:=l3) (c3:=c3) (r3:=r3) (a4:=a4) (l4:=l4) (c4:=c4) (a5:=a5) (l5:=l5) (c5:=c5) (_e1:=e1) (r4:=r4) (r5:=r5) (u2:=u2) (v1:=v1) (s.oS 0 rfl) (by rw[hlp]; rfl) (by rw[hlp]; rfl) (by rw[hlp]; rfl) (by rw[hlp]; rfl) ?_;unfold gm;have hst:lp.state=.ready:=by rw[hlp]; rfl
  have hpd:({ ({ lp with state:=.busy }:Loop) with state:=.ready,pending:=none }:Loop)=lp:=by rw[hlp]; rfl
  clear hlp;let L:Option Addr->Nat->List Of->List Int->Nat->Loop->Nat->List aI:=λ a c out mo i lp r6 =>
    [ah r6 (cM m i).vs.toArray 42,bC l (.loop lp),tQ (some ⟨g,0,none⟩) (aX m) mo,ah r3 #[.slice (some ⟨g,0,none⟩) (aX m) (aX m)] 258,Ek a c out,ah r4 #[.slice a out.length c] 215,ah r5 #[iv i] 3,ah r1 #[.slice a1 (aX m) c1] 258,ah r2 m.vs.toArray 42,B,Fr]
  refine s.aB z6.vs.toArray λ r6 w1 s1=>s1.aD 0 rfl (cM m i).vs rfl (I6.one _) λ w2 s2=>?_;have s2:St w0 w2 (Sep (L a c (nQ m T i) (jF m T i) i lp r6)):=s2;refine⟨lp,s2.oS 1 rfl,hst,?_⟩;have s3:St w0 _ (Sep (L a c (nQ m T i) (jF m T i) i { lp with state:=.busy } r6)):=s2.putAt 1 rfl (.loop { lp with state:=.busy });have hb:=J2 (jM hm i) hp (c:=aX m) (St.rd bS (s3.out 2 rfl)) (by rw[hml]; exact hc.2.1.symm);rw[hml] at hb;refine⟨m,s3.cellsIn 8 rfl,cM m i,s3.cellsIn 0 rfl,_,_,_,s3.ag 3 rfl 0,au hb ?_⟩;clear hb;rintro v w4 ⟨rfl,c4⟩;have s4:=s3.quiet c4;generalize hun:Fc m (cM m i) (jF m T i) 6=un;have eO:nQ m T (i+1)=if 0<i/\T.getD i 0>un then nQ m T i++[⟨0,cM m i,T.getD i 0⟩] else nQ m T i:=by rw[nQ,hun]
  have eT:jF m T (i+1)=(jF m T i).set i (if un>(jF m T i).getD i 0 then un else (jF m T i).getD i 0):=by rw[jF,hun]
  have tc:∀ {w'},aF w0 w' []->∃ q,a1=some q/\w'.cell? (Addr.add q (i*1))=some (iv (T.getD i 0)):=λ hc' =>
    eu (hT hc') (by rw[List.getD_eq_getElem?_getD,gE (by omega)]; rfl)
  refine⟨_,rfl,λ w5=>∃ a' c',St w0 w5 (Sep (L a' c' (nQ m T (i+1)) (jF m T i) i { lp with state:=.busy } r6)),?_,?_⟩
  · rintro w5 ⟨a',c',s5⟩ x1;have s6:=s5.quiet (aF.drew w5 []);have cm:w5.drew.cell? (Addr.add ⟨g,0,none⟩ (((i:Nat):Int).toNat*1))=some (iv ((jF m T i).getD i 0)):=by
      obtain⟨q,hq,hc⟩:=eu (St.rd bS (s6.out 2 rfl)) (i:=i) (x:=(jF m T i).getD i 0) (by rw[List.getD_eq_getElem?_getD,gE (by omega)]; rfl)
      cases hq; exact hc
    refine⟨_,_,_,s6.ag 3 rfl 0,_,s6.ag 6 rfl 0,_,_,_,s6.ag 3 rfl 0,_,s6.ag 6 rfl 0,aq rfl ⟨by omega,by omega,_,cm,aq rfl ⟨by omega,by omega,?_⟩⟩⟩;rw[Int.toNat_natCast];refine St.jv (v:=iv) rfl (s6.out 2 rfl) (i:=i) (by omega) λ w7 s7=>?_;rw[<- eT] at s7;have s7:St w0 w7 (Sep (L a' c' (nQ m T (i+1)) (jF m T (i+1)) i { lp with state:=.busy } r6)):=s7.back (i:=2) (by show 2<11; decide);refine⟨_,s7.ag 6 rfl 0,s7.aJ 6 rfl (by show 0<1; decide) rfl λ w8 s8=>⟨_,s8.oS 1 rfl,rfl,?_⟩⟩;rw[aG (n:=(i:Int)+1) ⟨by omega,by omega⟩] at s8;have s9:=s8.putAt 1 rfl (.loop lp);rw[hpd];exact St.yP (f:=λ (p:Option Addr×Nat)=>Sep (bC l (.loop lp) :: NW m T a1 c1 g r1 r2 r3 r4 r5 B p.1 p.2 (i+1) (nQ m T (i+1)))) (a',c') ((s9.aA [1,2,3,4,5,6,7,8,9,10]).shut)
  · refine⟨λ b w6=>b=decide (0<i/\T.getD i 0>un)/\St w0 w6 (Sep (L a c (nQ m T i) (jF m T i) i { lp with state:=.busy } r6)),?_,?_⟩
    · rintro w6 b ⟨rfl,s6⟩ x2;have hol:=DU m T i
      by_cases hb:0<i/\T.getD i 0>un
      · rw[if_pos hb] at eO;have s7:=s6.quiet (aF.drew w6 []);obtain⟨q,hq,hcq⟩:=tc s7.aC;refine cT (dT hb) ⟨_,_,_,s7.ag 5 rfl 0,cM m i,s7.cellsIn 0 rfl,_,_,_,s7.ag 7 rfl 0,_,s7.ag 6 rfl 0,aq hq ⟨by omega,by omega,_,hcq,s7.aB (⟨0,cM m i,T.getD i 0⟩:Of).cells.toArray λ r9 w8 s8=>⟨s8.ag 6 rfl 0,?_⟩⟩⟩;refine iF (l2:=[(⟨0,cM m i,T.getD i 0⟩:Of)]) U1 Of.len Of.one (s8.out 5 rfl) (xP (s8.cellsIn 0 rfl) rfl) (by simp; omega) (by simp; omega) λ a' c' w9 s9=>?_;have s9:=s9.back (i:=5) (by show 5<12; decide);refine s9.aJ 6 rfl (by show 0<1; decide) rfl λ w10 s10=>⟨a',c',?_⟩;rw[eO];exact s10.aA [1,2,3,4,5,6,7,8,9,10,11]
      · rw[if_neg hb] at eO;exact cF (dF hb) ⟨a,c,by rw[eO]; exact s6⟩
    · refine⟨_,s4.ag 6 rfl 0,?_⟩
      by_cases h0:0<i
      · obtain⟨q,hq,hcq⟩:=tc s4.aC;refine cT (dT (by omega)) ⟨_,_,_,s4.ag 7 rfl 0,_,s4.ag 6 rfl 0,aq hq ⟨by omega,by omega,_,hcq,?_,s4⟩⟩
        by_cases g0:T.getD i 0>un
        · rw[dT g0,dT ⟨h0,g0⟩]
        · rw[dF g0,dF λ h=>g0 h.2]
      · exact cF (dF (by omega)) ⟨by rw[dF λ h=>h0 h.1],s4⟩
end
theorem Iu{w:World}{m:I6}{T:List Int}{a1:OA}{c1:Nat}(hm:I6.Le m 4)(hp:pr m.l<=1024)(hr:cN 1 i1 w a1 T)(hl:T.length=aX m) :
    CP 164 #[.slice a1 (aX m) c1,.agg m.vs.toArray] w (λ r w'=>(40<(yO m T).length/\r=.tuple #[.slice none 0 0,iv 3]/\aF w w' [])\/((yO m T).length<=40/\∃ a c,r=.tuple #[.slice a (yO m T).length c,iv 0]/\St w w' (Sep [Ek a c (yO m T)]))):=by
  refine rG ?_;unfold mZ;have hc:=mb hm;refine(St.start w).one.aB _ λ r1 w1 s1=>s1.aB m.vs.toArray λ r2 w2 s2=>⟨_,_,_,s2.ag 1 rfl 0,?_⟩;refine de OF bS (x:=0) rfl s2 (n:=aX m) (by omega) (by omega) λ g w3 c3 s3=>?_;have s3:St w w3 (Sep [tQ (some ⟨g,0,none⟩) (aX m) (List.replicate (aX m) 0),ah r2 m.vs.toArray 42,ah r1 #[.slice a1 (aX m) c1] 258,emp]):=s3;refine s3.aB _ λ r3 w4 s4=>s4.aJ 0 rfl (by decide) rfl λ w5 s5=>⟨_,_,_,s5.ag 0 rfl 0,_,_,_,s5.ag 3 rfl 0,?_⟩;refine Gr OF bS yD (by simp) (s5.out 1 rfl) (l2:=T) hl (hr.aC s5.aC) λ _ w6 s6=>?_;have s6:St w w6 (Sep [ah r3 #[.slice (some ⟨g,0,none⟩) (aX m) (aX m)] 258,tQ (some ⟨g,0,none⟩) (aX m) T,ah r2 m.vs.toArray 42,ah r1 #[.slice a1 (aX m) c1] 258,emp]):=s6.back (i:=1) (by show 1<5; decide);refine s6.aB _ λ r4 w7 s7=>s7.aB _ λ r5 w8 s8=>s8.aJ 0 rfl (by decide) rfl λ w9 s9=>⟨m,s9.cellsIn 4 rfl,au (O4 (s9.dI (e:=219) (sz:=8) (f:=Of.cells)) m hm hp) ?_⟩;rintro v w10 ⟨b,rfl,s10⟩;have s10:St w w10 (Sep [ah b m.vs.toArray 42,Ek none 0 [],ah r5 #[iv 0] 3,ah r4 #[.slice none 0 0] 215,ah r3 #[.slice (some ⟨g,0,none⟩) (aX m) (aX m)] 258,tQ (some ⟨g,0,none⟩) (aX m) T,ah r2 m.vs.toArray 42,ah r1 #[.slice a1 (aX m) c1] 258,emp]):=s10;refine⟨_,rfl,AR (by kernel_rfl) ?_⟩;refine AQ s10 (λ _ _=>⟨rfl,rfl⟩) λ fn l w11 s11=>?_;have s12:=(s11.aA [0,7,6,3,5,4,9,8,1,2]).split [_,_,_,_,_,_,_,_,_];have s13:=St.yP (f:=λ (p:Option Addr×Nat)=>Sep (bC l (.loop _) :: NW m T a1 c1 g r1 r2 r3 r4 r5 (bC w10.heap.size (.deferred (some []))) p.1 p.2 0 (nQ m T 0))) (none,0) s12;refine au (Gv hm (R:=Q8 m T a1 c1 g r1 r2 r3 r4 r5 l _ (bC w10.heap.size (.deferred (some [])))) (λ i w1 Fr hi h=>It hm hp (λ hc=>hr.aC hc) hl hi rfl h) s13) ?_;rintro v w12 ⟨rfl,s14⟩;obtain⟨⟨a,c⟩,s15⟩:=s14.ex;refine⟨_,rfl,_,s15.first,λ w13 s16=>⟨_,_,_,s16.ag 3 rfl 0,?_⟩⟩;have s17:=s16.putAt 7 rfl (.deferred none)
  by_cases h40:40<(yO m T).length
  · exact cT (dT (by unfold yO at h40; omega)) ⟨s16.oS 7 rfl,.inl ⟨h40,rfl,s17.aC⟩⟩
  · exact cF (dF (by unfold yO at h40; omega)) ⟨_,_,_,s16.ag 3 rfl 0,s16.oS 7 rfl,.inr ⟨by omega,a,c,rfl,s17.aA [2]⟩⟩
def tB(x:Xv)(m:I6):Int:=if eD x≠0 then eD x else if 40<(yO m (LN m (kB m x))).length then 3 else 0
def tC(x:Xv)(m:I6):List Of:=yO m (LN m (kB m x))
theorem Ia{w:World}{x:Xv}{m:I6}(hm:I6.Le m 4)(hp:pr m.l<=1024)(hz:aT x<=100000)(hx:x.In w) :
    CP 125 #[.agg x.cells.toArray,.agg m.vs.toArray] w (λ r w'=>(tB x m≠0/\r=.tuple #[.slice none 0 0,iv (tB x m)]/\aF w w' [])\/(tB x m=0/\(tC x m).length<=40/\∃ a c,r=.tuple #[.slice a (tC x m).length c,iv 0]/\St w w' (Sep [Ek a c (tC x m)]))):=by
  refine td (u1:=x.u) ?_;unfold oG;refine(St.start w).one.aB x.cells.toArray λ r1 w1 s1=>s1.aB m.vs.toArray λ r2 w2 s2=>⟨_,x.u,_,_,_,_,s2.cellsIn 1 rfl,m,s2.cellsIn 0 rfl,au (OT hm hp hz (hx.aC s2.aC)) ?_⟩;rintro v w3 (⟨hk,rfl,c3⟩ | ⟨hk,g,rfl,s3⟩)
  · refine⟨_,_,_,_,rfl,cT (by simpa using hk) (.inl ⟨?_,?_,(s2.quiet c3).aC⟩)⟩
    · rw[tB,if_pos hk]; exact hk
    · rw[tB,if_pos hk]
  · have s4:=s2.and s3;have hl:(LN m (kB m x)).length=aX m:=zy m _ _;refine⟨_,_,_,_,rfl,cF rfl ⟨m,s4.second.cellsIn 0 rfl,au (Iu hm hp (St.rd bS s3) hl) ?_⟩⟩;have e0:tB x m=if 40<(yO m (LN m (kB m x))).length then 3 else 0:=by rw[tB,if_neg (λ h=>h hk)]
    rintro v w5 (⟨h40,rfl,c5⟩ | ⟨h40,a,c,rfl,s5⟩)
    · exact⟨_,_,_,_,rfl,.inl ⟨by rw[e0,if_pos h40]; decide,by rw[e0,if_pos h40],s4.aC.trans c5 (by simp)⟩⟩
    · exact⟨_,_,_,_,rfl,.inr ⟨by rw[e0,if_neg (by show ¬ 40<(yO _ _).length; omega)],h40,a,c,rfl,Ls s4.aC s5⟩⟩
end Go.Proofs.YtjpbdjhaajdepaaGreatDoor

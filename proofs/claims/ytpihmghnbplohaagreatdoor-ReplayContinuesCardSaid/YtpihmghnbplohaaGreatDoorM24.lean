import Derived.Test.YtpihmghnbplohaaGreatDoorM04
import Derived.Test.YtpihmghnbplohaaGreatDoorM09
import Derived.Test.YtpihmghnbplohaaGreatDoorM23
set_option linter.unusedVariables false
set_option maxRecDepth 100000
namespace Go.Proofs.YtpihmghnbplohaaGreatDoor
open Go Go.Vc Tryz
abbrev tf (a:OA) (c:Nat) (l:List Int):aD:=bW 2 1 i1 a c l
def SF(T:List Int)(i k:Nat):List Int:=T.set i (if T.getD k 0>T.getD i 0 then T.getD k 0 else T.getD i 0)
theorem Ov(T:List Int)(i k:Nat):(SF T i k).length=T.length:=by simp[SF]
section
variable {w0 w:World} {B:aD} {g r3 r5:Nat} {n:Nat} {T:List Int} {i k:Nat}
def Ph(g r3 r5 n i:Nat)(T:List Int)(B:aD):List aD:=[tf (some ⟨g,0,none⟩) n T,ai r3 #[.slice (some ⟨g,0,none⟩) n n] 319,ai r5 #[iv i] 3,B]
theorem Hw(s:St w0 w (Sep (Ph g r3 r5 n i T B)))(hk:k<T.length):w.cell? (Addr.add ⟨g,0,none⟩ (((k:Nat):Int).toNat*1))=some (iv (T.getD k 0)):=by
  obtain⟨q,hq,hc⟩:=fK (St.rd cR (s.out 0 rfl)) (i:=k) (x:=T.getD k 0) (by rw[List.getD_eq_getElem?_getD,gE hk]; rfl)
  cases hq; exact hc
theorem Ro(s:St w0 w (Sep (Ph g r3 r5 n i T B)))(hn:T.length=n)(hi:i<n)(hk:k<n) :
    CP 252 #[iv k,pt r3,pt r5] w (λ r w'=>r=.tuple #[]/\St w0 w' (Sep (Ph g r3 r5 n i (SF T i k) B))):=by
  refine oU ?_;unfold jV;have s1:=s.quiet (az.drew w []);have c0:w.drew.cell? ⟨r3,0,none⟩=some (.slice (some ⟨g,0,none⟩) n n):=s1.ag 1 rfl 0;have c1:w.drew.cell? ⟨r5,0,none⟩=some (iv i):=s1.ag 2 rfl 0;refine⟨_,_,_,c0,_,c1,_,_,_,c0,_,c1,au rfl ⟨by omega,by omega,_,Hw s1 (by omega),_,_,_,c0,au rfl ⟨by omega,by omega,_,Hw s1 (by omega),au rfl ⟨by omega,by omega,?_⟩⟩⟩⟩;rw[Int.toNat_natCast];exact St.iZ (v:=iv) rfl (s1.out 0 rfl) (i:=i) (by omega) λ w2 s2=>⟨rfl,s2.back (show 0<4 by decide)⟩
def bh(m:I6):Nat->Int
  | 0=>1
  | j+1=>bh m j*(m.at' (5-j)+1)
theorem y6{m:I6}(h:I6.Le m 4):∀ j,j<=6->1<=bh m j/\bh m j<=5 ^ j
  | 0,_=>by show(1:Int)<=1/\(1:Int)<=5 ^ 0; decide
  | j+1,hj=>by
    have ih:=y6 h j (by omega);have hm:=h (5-j) (by omega);have h1:bh m j*1<=bh m j*(m.at' (5-j)+1):=Int.mul_le_mul_of_nonneg_left (by omega) (by omega);have h2:bh m j*(m.at' (5-j)+1)<=bh m j*5:=Int.mul_le_mul_of_nonneg_left (by omega) (by omega);show 1<=bh m j*_/\bh m j*_<=5 ^ j*5;omega
def qA(m u:I6)(i:Nat):Nat->List Int->List Int
  | 0,T=>T
  | j+1,T=>if 0<u.at' (5-j) then SF (qA m u i j T) i (i-(bh m j).toNat) else qA m u i j T
theorem rC(m u:I6)(i:Nat)(T:List Int):∀ j,(qA m u i j T).length=T.length
  | 0=>rfl
  | j+1=>by
    rw[qA]
    split
    · rw[Ov,rC m u i T j]
    · exact rC m u i T j
theorem Mw{m u:I6}(hm:I6.Le m 4)(s:St w0 w (Sep (Ph g r3 r5 n i T B)))(hn:T.length=n)(hi:i<n)(hu:∀ j,j<6->0<u.at' (5-j)->bh m j<=i)(h9:n<=100000) :
    CP 251 #[.agg m.vs.toArray,.agg u.vs.toArray,iv i,.func (.func 252) #[] #[pt r3,pt r5]] w (λ r w'=>r=.tuple #[]/\St w0 w' (Sep (Ph g r3 r5 n i (qA m u i 6 T) B))):=by
  refine q9 ?_;unfold mP;refine s.ax m.vs.toArray λ r1 w1 s1=>s1.ax u.vs.toArray λ r2 w2 s2=>?_;let M:List Int->List aD:=λ T=>ai r2 u.vs.toArray 41 :: ai r1 m.vs.toArray 41 :: Ph g r3 r5 n i T B;refine⟨λ st k w3 x=>∃ j:Nat,st=bh m j/\k=5-(j:Int)/\j<=6/\x=6-j/\St w0 w3 (Sep (M (qA m u i j T))),⟨6,0,rfl,rfl,by omega,by omega,s2⟩,?_⟩;rintro w3 x st k ⟨j,rfl,rfl,hj,hx,s3⟩ -;have hb:=y6 hm j hj;have h5:(5:Int) ^ j<=15625:=by
    have:j=0\/j=1\/j=2\/j=3\/j=4\/j=5\/j=6:=by omega
    rcases this with rfl | rfl | rfl | rfl | rfl | rfl | rfl<;>decide
  by_cases hj6:j<6
  · have hk6:5-j<6:=by omega
    have ek:(5:Int)-(j:Int)=((5-j:Nat):Int):=by omega
    rw[ek];refine cT (dT (by omega)) ⟨λ w4=>St w0 w4 (Sep (M (qA m u i (j+1) T))),?_,by omega,by omega,u.at' (5-j),by rw[gM]; exact aM s3 0 rfl hk6,?_⟩
    · rintro w4 s4 -;have hmk:=hm (5-j) hk6;have hb2:=y6 hm (j+1) (by omega);have e2:bh m (j+1)=bh m j*(m.at' (5-j)+1):=rfl;have h52:(5:Int) ^ (j+1)<=15625:=by
        have:j=0\/j=1\/j=2\/j=3\/j=4\/j=5:=by omega
        rcases this with rfl | rfl | rfl | rfl | rfl | rfl<;>decide
      refine⟨by omega,by omega,m.at' (5-j),by rw[gM]; exact aM s4 1 rfl hk6,6-(j+1),by omega,j+1,?_,?_,by omega,rfl,s4⟩
      · rw[aC (n:=m.at' (5-j)+1) ⟨by omega,by omega⟩,<- e2,aC ⟨by omega,by omega⟩]
      · rw[aC ⟨by omega,by omega⟩]; omega
    · by_cases hp:0<u.at' (5-j)
      · have hs:=hu j hj6 hp;have e3:qA m u i (j+1) T=SF (qA m u i j T) i (i-(bh m j).toNat):=by rw[qA,if_pos hp]
        have e4:IntKind.i64.wrap ((i:Int)-bh m j)=((i-(bh m j).toNat:Nat):Int):=by rw[aC ⟨by omega,by omega⟩]; omega
        refine cT (dT hp) (bx (by kernel_rfl) ?_);rw[e4];have s4:St w0 w3 (Sep (Ph g r3 r5 n i (qA m u i j T) (Sep [B,ai r2 u.vs.toArray 41,ai r1 m.vs.toArray 41]))):=((s3.aq [2,3,4,5,0,1]).split [_,_,_]).eqv (aS.right (aS.unit _)) |> St.cat;refine aj (Ro s4 (by rw[rC,hn]) hi (by omega)) ?_;rintro v w5 ⟨rfl,s5⟩;refine⟨rfl,?_⟩;rw[e3];have s6:=s5.bN [_,_,_];exact s6.aq [4,5,0,1,2,3]
      · have e3:qA m u i (j+1) T=qA m u i j T:=by rw[qA,if_neg hp]
        exact cF (dF hp) (by rw[e3]; exact s3)
  · obtain rfl:j=6:=by omega
    exact cF (dF (by decide)) ⟨rfl,s3.aq [2,3,4,5]⟩
end
def H8(_ u:I6)(k:Nat):I6:=u.put k (u.at' k-1)
def E2(m u:I6)(T:List Int):Nat->Int
  | 0=>-1
  | k+1=>if u.at' k=0 then E2 m u T k else if T.getD (rk m (H8 m u k)).toNat 0>E2 m u T k then T.getD (rk m (H8 m u k)).toNat 0 else E2 m u T k
theorem Qd{m u:I6}(h:ED m u){k:Nat}(hk:k<6)(h0:u.at' k≠0):ED m (H8 m u k):=⟨h.mm,λ j hj=>by
  have h1:=h.u j hj; have h2:=h.u k hk;unfold H8;rw[I6.uw _ _ _ _ hk hj]
  split
  · rename_i e; subst e; omega
  · exact h1⟩
theorem Ke{w:World}{m u:I6}(h:ED m u)(hp:pr m.l<=1024){a:OA}{c:Nat}{T:List Int}(hr:cH 1 i1 w a T)(hT:pr m.l=T.length) :
    CP 253 #[.agg m.vs.toArray,.agg u.vs.toArray,.slice a T.length c] w (λ r w'=>r=iv (E2 m u T 6)/\az w w' []):=by
  refine tZ ?_;unfold qi;refine(St.start w).one.ax m.vs.toArray λ r1 w1 s1=>s1.ax u.vs.toArray λ r2 w2 s2=>⟨u,s2.cellsIn 0 rfl,?_⟩;refine⟨λ n i w3 x=>∃ k:Nat,i=k/\k<=6/\x=6-k/\n=E2 m u T k/\St w w3 (Sep [ai r2 u.vs.toArray 41,ai r1 m.vs.toArray 41,emp]),⟨6,0,rfl,by omega,by omega,rfl,s2⟩,?_⟩;rintro w3 x n i ⟨k,rfl,hk,hx,rfl,s3⟩ -
  by_cases hlt:(k:Int)<6
  · have hk' : k<6:=by omega
    refine cT (dT hlt) ⟨λ n w4=>n=E2 m u T (k+1)/\St w w4 (Sep [ai r2 u.vs.toArray 41,ai r1 m.vs.toArray 41,emp]),?_,by omega,by omega,u.at' k,u.get k hk',?_⟩
    · rintro w4 n ⟨rfl,s4⟩ -;exact⟨6-(k+1),by omega,k+1,inc (by decide) hk',by omega,rfl,rfl,s4⟩
    by_cases h0:u.at' k=0
    · exact cT (by simpa using h0) ⟨by rw[E2,if_pos h0],s3⟩
    have hin:=Qd h hk' h0;have hbd:=uB hin 6 (Nat.le_refl _);rw[<- FA] at hbd;have hu:=h.u k hk';have hmm:=h.mm k hk';have e1:E2 m u T (k+1)=if T.getD (rk m (H8 m u k)).toNat 0>E2 m u T k then T.getD (rk m (H8 m u k)).toNat 0 else E2 m u T k:=by rw[E2,if_neg h0]
    refine cF (by simpa using h0) ⟨u,s3.cellsIn 0 rfl,s3.ax z6.vs.toArray λ r3 w5 s5=>s5.aA 0 rfl u.vs rfl (I6.one _) λ w6 s6=>⟨by omega,by omega,?_⟩⟩;rw[gM,aC ⟨by omega,by omega⟩];refine s6.aH 0 rfl hk' rfl λ w7 s7=>?_;rw[I6.pg _ _ _ hk'] at s7;refine⟨m,s7.cellsIn 2 rfl,H8 m u k,s7.cellsIn 0 rfl,aj (QM w7 m (H8 m u k)) ?_⟩;rintro v w8 ⟨⟨n,e,rfl,he,hn⟩,c8⟩;obtain rfl:=he.2 ⟨hp,hin⟩;obtain rfl:=hn rfl;have s8:=(s7.quiet c8).aq [1,2,3];obtain⟨j,hj⟩:=Int.eq_ofNat_of_zero_le hbd.1;have hjT:j<T.length:=by omega
    obtain⟨q,hq,hcl⟩:=fK (hr.av s8.av) (i:=j) (x:=T.getD j 0) (by rw[List.getD_eq_getElem?_getD,gE hjT]; rfl);refine⟨_,_,rfl,cT rfl (au hq ⟨by show 0<=gX m (H8 m u k) 6; omega,by show gX m (H8 m u k) 6<_; omega,T.getD j 0,?_,?_,s8⟩)⟩
    · show w8.cell? (Addr.add q ((gX m (H8 m u k) 6).toNat*1))=_;rw[hj,Int.toNat_natCast]; exact hcl
    · rw[e1];show _=if T.getD (gX m (H8 m u k) 6).toNat 0>_ then T.getD (gX m (H8 m u k) 6).toNat 0 else _
      rw[hj,Int.toNat_natCast]
  · obtain rfl:k=6:=by omega
    exact cF (by simp) ⟨rfl,s3.av⟩
structure Of where
  b:Int
  want:I6
  v:Int
def Of.cells(o:Of):List Value:=iv o.b :: o.want.on [iv o.v]
theorem Of.len(o:Of):o.cells.length=8:=rfl
def B3(o:Of):Bool:=o.want.l.all lR&&(decide (o.want≠z6)&&(decide (1<=o.v)&&decide (o.v<=1000000)))
theorem ID(w:World)(o:Of):CP 203 #[.agg o.cells.toArray] w (λ r w'=>r=.bool (B3 o)/\az w w' []):=by
  refine wh (u1:=o.want) ?_;unfold sS;refine(St.start w).one.ax o.cells.toArray λ r1 w1 s1=>⟨o.want,s1.aP 0 1 rfl rfl,aj (cJ w1 o.want) ?_⟩;rintro v w2 ⟨rfl,c2⟩;have s2:=s1.quiet c2;refine⟨_,rfl,?_⟩
  cases hq:o.want.l.all lR with
  | false=>exact cF rfl ⟨by rw[B3,hq]; rfl,s2.av⟩
  | true =>
    have e1:B3 o=(decide (o.want≠z6)&&(decide (1<=o.v)&&decide (o.v<=1000000))):=by rw[B3,hq]; rfl
    refine cT rfl ⟨o.want,s2.aP 0 1 rfl rfl,?_⟩;rw[I6.beq_eq]
    by_cases hz:o.want=z6
    · exact cF (by rw[dT hz]; rfl) ⟨by rw[e1,dF (λ h=>h hz)]; rfl,s2.av⟩
    · rw[dT hz,Bool.true_and] at e1;refine cT (by rw[dF hz]; rfl) ⟨_,s2.ag 0 rfl 7,?_⟩
      by_cases g1:1<=o.v
      · rw[dT g1,Bool.true_and] at e1;exact cT (dT g1) ⟨_,s2.ag 0 rfl 7,by rw[e1],s2.av⟩
      · exact cF (dF g1) ⟨by rw[e1,dF g1]; rfl,s2.av⟩
end Go.Proofs.YtpihmghnbplohaaGreatDoor
namespace Go.Vc
open Go
theorem AD{P:Program}{gf:FuncId}{lb:List Value}{rec:FuncId->Nat->Loop}{w0 w:World}{N R:World->Prop}{X:List (Nat×(World->Prop))}{L:List aD}(s:St w0 w (Sep L))(hp:∀ fn D,(rec fn D).pending=none/\(rec fn D).state=.ready) (k:∀ fn l w1,St w0 w1 (Sep (aK l (.loop (rec fn w.heap.size)) :: aK w.heap.size (.deferred (some [])) :: L)) ->
      Calls P gf (Value.func (.yield l) #[] #[] :: lb).toArray w1 (qw λ _ w2=>∃ L',St w0 w2 (Sep (aK l (.loop (rec fn w.heap.size)) :: L'))/\∀ w3,St w0 w3 (Sep L')->N w3)):qR P gf lb rec w N R X:=by
  intro fn;have s1:=s.Fk (.deferred (some []));have hD:(w.alloc (.deferred (some []))).heap.size=w.heap.size+1:=by rw[World.size_alloc]
  have s2:=s1.Fk (.loop (rec fn w.heap.size));rw[hD] at s2;refine(k fn _ _ s2).mono λ e w2 ⟨v,he,L',s3,hN⟩=>⟨⟨v,he⟩,_,s3.dY 0 rfl,?_,?_⟩
  · rw[(hp fn _).2]; intro h; cases h
  · rw[(hp fn _).1];exact hN _ ((s3.putAt 0 rfl _).second)
end Go.Vc
namespace Go.Proofs.YtpihmghnbplohaaGreatDoor
open Go Go.Vc Tryz
theorem LQ{m u:I6}(h:ED m u):∀ j,j<=6->gX m u (6-j)*bh m j<=gX m u 6
  | 0,_=>by show gX m u 6*1<=_; omega
  | j+1,hj=>by
    have ih:=LQ h j (by omega);rw[show 6-j=(5-j)+1 by omega] at ih;have hs:=y6 h.mm j (by omega);have hu:=h.u (5-j) (by omega);have e2:gX m u (5-j+1)=gX m u (5-j)*(m.at' (5-j)+1)+u.at' (5-j):=rfl;rw[e2,Int.add_mul] at ih;have h1:0<=u.at' (5-j)*bh m j:=Int.mul_nonneg hu.1 (by omega);rw[show 6-(j+1)=5-j by omega];have e3:gX m u (5-j)*bh m (j+1)=gX m u (5-j)*(m.at' (5-j)+1)*bh m j:=by
      show gX m u (5-j)*(bh m j*(m.at' (5-j)+1))=_;rw[Int.mul_comm (bh m j),Int.mul_assoc]
    rw[e3]; omega
theorem Rg{m u:I6}(h:ED m u){j:Nat}(hj:j<6)(hp:0<u.at' (5-j)):bh m j<=rk m u:=by
  have h1:=LQ h j (by omega);rw[show 6-j=(5-j)+1 by omega] at h1;have e2:gX m u (5-j+1)=gX m u (5-j)*(m.at' (5-j)+1)+u.at' (5-j):=rfl;have h2:=(uB h (5-j) (by omega)).1;have hm:=h.mm (5-j) (by omega);have hs:=y6 h.mm j (by omega);have h3:1<=gX m u (5-j+1):=by
    rw[e2];have:=Int.mul_nonneg h2 (show 0<=m.at' (5-j)+1 by omega);omega
  have h4:1*bh m j<=gX m u (5-j+1)*bh m j:=Int.mul_le_mul_of_nonneg_right h3 (by omega);show bh m j<=gX m u 6;omega
def Es(m:I6)(F:Wf):Nat->List Int
  | 0=>List.replicate (aY m) 0
  | i+1=>qA m (cv m i) i 6 ((Es m F i).set i (F (cv m i)))
theorem y8(m:I6)(F:Wf):∀ i,(Es m F i).length=aY m
  | 0=>List.length_replicate
  | i+1=>by rw[Es,rC,List.length_set,y8 m F i]
def LZ(m:I6)(F:Wf):List Int:=Es m F (aY m)
section
variable {w0 w:World} {B:aD} {m:I6} {g r2 r3 r4 r5 rm l D:Nat} {lp:Loop} {F:Wf} {lk:List KV}
def LY(m:I6)(F:Wf)(g r2 r3 r4 r5 rm:Nat)(lk:List KV)(B:aD)(i:Nat):List aD :=
  [tf (some ⟨g,0,none⟩) (aY m) (Es m F i),ai r3 #[.slice (some ⟨g,0,none⟩) (aY m) (aY m)] 319,ai r5 #[iv i] 3,ai r4 #[.map (some rm)] 371,mapA rm lk,ai r2 m.vs.toArray 41,B]
theorem I7(hm:I6.Le m 4)(hr:cj m lk F){i:Nat}(hi:i<aY m){Fr:aD}{n1:Int}{u1:I6}{n2:Int}{a1:OA}{l1:Nat}{c1:Nat}{u2:I6}{r1:Nat}{n3:Int}{u3:I6}{n4:Int}{a2:OA}{l2:Nat}{c2:Nat}{n5:Int}{u4:I6}{n6:Int}{u5:I6}{n7:Int}{x1:Nat->Value}{u6:I6}{v1:Value}{fn:FuncId}(hlp:lp=dr n1 u1 n2 a1 l1 c1 u2 r1 r2 n3 u3 n4 a2 l2 c2 n5 u4 n6 u5 n7 r3 r4 x1 r5 u6 v1 fn D)(h:St w0 w (star (Sep (aK l (.loop lp) :: LY m F g r2 r3 r4 r5 rm lk B i)) Fr)) :
    cq prog l #[.agg (cv m i).vs.toArray] w λ b w2=>b=true/\St w0 w2 (star (Sep (aK l (.loop lp) :: LY m F g r2 r3 r4 r5 rm lk B (i+1))) Fr):=by
  have hc:=lF hm;have hl:=y8 m F i;have s:St w0 w (Sep (aK l (.loop lp) :: LY m F g r2 r3 r4 r5 rm lk B i++[Fr])):=h.open;refine jm (n1:=n1) (u1:=u1) (n2:=n2) (a1:=a1) (l1:=l1) (c1:=c1) (u2:=u2) (r1:=r1) (r2:=r2) (n3:=n3) (u3:=u3) (n4:=n4) (a2:=a2) (l2:=l2) (c2:=c2) (n5:=n5) (u4:=u4) (n6:=n6) (u5:=u5) (n7:=n7) (r3:=r3) (r4:=r4) (x1:=x1) (r5:=r5) (u6:=u6) (v1:=v1) (s.dY 0 rfl) (by rw[hlp]; rfl) (by rw[hlp]; rfl) (by rw[hlp]; rfl) (by rw[hlp]; rfl) ?_;unfold ff;have hst:lp.state=.ready:=by rw[hlp]; rfl
  have hpd:({ ({ lp with state:=.busy }:Loop) with state:=.ready,pending:=none }:Loop)=lp:=by rw[hlp]; rfl
  clear hlp;refine s.ax z6.vs.toArray λ r6 w1 s1=>s1.aA 0 rfl (cv m i).vs rfl (I6.one _) λ w2 s2=>?_;have s2:St w0 w2 (Sep (ai r6 (cv m i).vs.toArray 41 :: aK l (.loop lp) :: LY m F g r2 r3 r4 r5 rm lk B i++[Fr])):=s2;refine⟨lp,s2.dY 1 rfl,hst,?_⟩;have s3:=(s2.putAt 1 rfl (.loop { lp with state:=.busy })).quiet (az.drew _ []);refine⟨_,_,_,s3.ag 3 rfl 0,_,s3.ag 4 rfl 0,_,s3.ag 5 rfl 0,_,s3.cellsIn 0 rfl,?_⟩;refine DG OU (s3.out 6 rfl) (cv m i) ?_;rw[hr.get];refine⟨s3.ag 4 rfl 0,s3.ag 3 rfl 0,au rfl ⟨by omega,by omega,?_⟩⟩;rw[Int.toNat_natCast];refine St.iZ (v:=iv) rfl (s3.out 2 rfl) (i:=i) (by omega) λ w4 s4=>?_;have s4:St w0 w4 (Sep (ai r6 (cv m i).vs.toArray 41 :: aK l (.loop { lp with state:=.busy }) :: tf (some ⟨g,0,none⟩) (aY m) ((Es m F i).set i (F (cv m i))) :: ai r3 #[.slice (some ⟨g,0,none⟩) (aY m) (aY m)] 319 :: ai r5 #[iv i] 3 :: ai r4 #[.map (some rm)] 371 :: mapA rm lk :: ai r2 m.vs.toArray 41 :: B :: [Fr])):=s4.back (i:=2) (by show 2<10; decide);refine⟨_,s4.cellsIn 7 rfl,_,s4.cellsIn 0 rfl,_,s4.ag 4 rfl 0,?_⟩;have s5:St w0 w4 (Sep (Ph g r3 r5 (aY m) i ((Es m F i).set i (F (cv m i))) (Sep [ai r6 (cv m i).vs.toArray 41,aK l (.loop { lp with state:=.busy }),ai r4 #[.map (some rm)] 371,mapA rm lk,ai r2 m.vs.toArray 41,B,Fr]))) :=
    ((s4.aq [2,3,4,0,1,5,6,7,8,9]).split [_,_,_]).eqv (aS.right (aS.unit _)) |> St.cat
  refine aj (Mw hm s5 (by rw[List.length_set,hl]) hi (λ j hj hp=>?_) (by omega)) ?_
  · have:=Rg (js hm i) hj hp;rw[Bp hm i hi] at this;exact this
  rintro v w5 ⟨rfl,s6⟩;have s7:St w0 w5 (Sep ([tf (some ⟨g,0,none⟩) (aY m) (Es m F (i+1)),ai r3 #[.slice (some ⟨g,0,none⟩) (aY m) (aY m)] 319,ai r5 #[iv i] 3]++[ai r6 (cv m i).vs.toArray 41,aK l (.loop { lp with state:=.busy }),ai r4 #[.map (some rm)] 371,mapA rm lk,ai r2 m.vs.toArray 41,B,Fr])):=s6.bN [_,_,_];refine⟨rfl,_,s7.ag 2 rfl 0,s7.aH 2 rfl (by show 0<1; decide) rfl λ w6 s8=>⟨_,s8.dY 4 rfl,rfl,?_⟩⟩;have s9:=s8.putAt 4 rfl (.loop lp);rw[aC (n:=(i:Int)+1) ⟨by omega,by omega⟩] at s9;rw[hpd];exact(s9.aq [4,0,1,2,5,6,7,8,9]).shut
end
set_option maxHeartbeats 4000000 in
theorem On{w:World}{x:Xv}{m:I6}(hm:I6.Le m 4)(hp:pr m.l<=1024)(hz:aV x<=100000)(hx:x.In w) :
    CP 200 #[.agg x.cells.toArray,.agg m.vs.toArray] w (λ r w'=>(dM x≠0/\r=.tuple #[.slice none 0 0,iv (dM x)]/\az w w' [])\/(dM x=0/\∃ g,r=.tuple #[.slice (some ⟨g,0,none⟩) (aY m) (aY m),iv 0]/\St w w' (Sep [tf (some ⟨g,0,none⟩) (aY m) (LZ m (j5 m x))]))):=by
  refine q8 (u1:=x.u) ?_;unfold mO;refine(St.start w).one.ax x.cells.toArray λ r1 w1 s1=>s1.ax m.vs.toArray λ r2 w2 s2=>?_;have hxI:∀ {w'},az w w' []->x.In w':=λ hc=>hx.av hc;refine⟨_,x.u,_,_,_,_,s2.cellsIn 1 rfl,aj (EA hz (hxI s2.av)) ?_⟩;rintro v w3 ⟨rfl,c3⟩;have s3:=s2.quiet c3;refine⟨_,rfl,?_⟩
  by_cases hk:dM x=0
  · refine cF (by simpa using hk) ⟨m,s3.cellsIn 0 rfl,aj (cJ w3 m) ?_⟩;rintro v w4 ⟨rfl,c4⟩;have s4:=s3.quiet c4;rw[if_pos (leq hm)];refine⟨_,rfl,cF rfl ⟨m,s4.cellsIn 0 rfl,aj (wF w4 m) ?_⟩⟩;rintro v w5 ⟨rfl,c5⟩;have s5:=s4.quiet c5;rw[if_pos ⟨leq hm,hp⟩];have hc:=lF hm;refine⟨_,rfl,cF (by simp; omega) ?_⟩;rw[<- hc.2.1];let A:List aD:=[ai r2 m.vs.toArray 41,ai r1 x.cells.toArray 109,emp];refine⟨λ r3 r4 w6=>∃ g rm lk,cj m lk (j5 m x)/\St w w6 (Sep (tf (some ⟨g,0,none⟩) (aY m) (List.replicate (aY m) 0) :: mapA rm lk :: ai r3 #[.slice (some ⟨g,0,none⟩) (aY m) (aY m)] 319 :: ai r4 #[.map (some rm)] 371 :: A)),?_,?_⟩
    · rintro w6 r3 r4 ⟨g,rm,lk,hr,s6⟩ x1;refine s6.ax #[iv 0] λ r5 w7 s7=>s7.aH 0 rfl (by decide) rfl λ w8 s8=>⟨m,s8.cellsIn 5 rfl,aj (OE s8 m hm hp) ?_⟩;rintro v w9 ⟨b,rfl,s9⟩;refine⟨_,rfl,ux (by kernel_rfl) ?_⟩;have s9:St w w9 (Sep (ai b m.vs.toArray 41 :: ai r5 #[iv 0] 3 :: tf (some ⟨g,0,none⟩) (aY m) (List.replicate (aY m) 0) :: mapA rm lk :: ai r3 #[.slice (some ⟨g,0,none⟩) (aY m) (aY m)] 319 :: ai r4 #[.map (some rm)] 371 :: A)):=s9;refine AD s9 (λ _ _=>⟨rfl,rfl⟩) λ fn l w10 s10=>?_;have s11:=(s10.aq [0,4,6,3,7,5,8,1,2]).split [_,_,_,_,_,_,_,_];refine aj (Gx hm (R:=λ i=>Sep (aK l (.loop _) :: LY m (j5 m x) g r2 r3 r4 r5 rm lk (aK w9.heap.size (.deferred (some []))) i)) (λ i w1 Fr hi h=>I7 (B:=aK w9.heap.size (.deferred (some []))) (D:=w9.heap.size) hm hr hi rfl h) s11) ?_;rintro v w11 ⟨rfl,s12⟩;refine⟨_,rfl,_,s12.first,λ w12 s13=>⟨_,_,_,s13.ag 1 rfl 0,s13.dY 6 rfl,.inr ⟨hk,g,rfl,?_⟩⟩⟩;exact(s13.putAt 6 rfl (.deferred none)).aq [0]
    · have s6:=s5.quiet (az.drew w5 []);refine⟨_,x.u,_,_,_,_,s6.cellsIn 1 rfl,m,s6.cellsIn 0 rfl,?_⟩;have h:St w w5.drew (Sep (emp :: emp :: emp :: emp :: A)):=s6.aq [3,3,3,3,0,1,2];have R5:∀ {c2 c3 c4:aD} {w' : World} {R:Option Addr->Nat->Nat->World->Prop},St w w' (Sep (emp :: c2 :: c3 :: c4 :: A))->(∀ g w'',St w w'' (Sep (tf (some ⟨g,0,none⟩) (aY m) (List.replicate (aY m) 0) :: c2 :: c3 :: c4 :: A))->R (some ⟨g,0,none⟩) (aY m) (aY m) w'') ->
          aZ prog (Instr.makeSlice 319 (iv (aY m:Nat)) (iv (aY m:Nat))) w' λ e w1=>∃ a l c,e=.slice a l c/\R a l c w1:=by
        intro c2 c3 c4 w' R s k;refine cW N8 cR (x:=0) rfl s (n:=aY m) (by omega) (by omega) λ g w'' _ s'=>?_;have s2:St w w'' (Sep (tf (some ⟨g,0,none⟩) (aY m) (List.replicate (aY m) 0) :: emp :: c2 :: c3 :: c4 :: A)):=s';exact k g w'' (s2.aq [0,2,3,4,5,6,7])
      have opO:∀ {c1 c3 c4:aD} {w' : World} {R:Option Nat->World->Prop},St w w' (Sep (c1 :: emp :: c3 :: c4 :: A))->(∀ rm lk w'',cj m lk (j5 m x)->St w w'' (Sep (c1 :: mapA rm lk :: c3 :: c4 :: A))->R (some rm) w'') ->
          Calls prog 249 #[.agg (iv x.op :: x.u.on [iv x.v,.slice x.a x.args.length x.c]:List Value).toArray,.agg m.vs.toArray] w' λ e w1=>∃ m1:Option Nat,e=.returned (.map m1)/\R m1 w1:=by
        intro c1 c3 c4 w' R s k;refine aj (Td hm x (Kk hk) hz w _ _ hxI s) ?_;rintro v w'' ⟨rm,lk,rfl,hr,s'⟩;have s2:St w w'' (Sep (mapA rm lk :: c1 :: emp :: c3 :: c4 :: A)):=s';exact⟨_,rfl,k rm lk w'' hr (s2.aq [1,0,3,4,5,6,7])⟩
      have opS:∀ {c1 c2 c4:aD} {w' : World} {R:Nat->World->Prop},St w w' (Sep (c1 :: c2 :: emp :: c4 :: A))->(∀ r w'',St w w'' (Sep (c1 :: c2 :: ai r #[.slice none 0 0] 319 :: c4 :: A))->R r w'')->ak w' (.cells #[.slice none 0 0] 319) R:=by
        intro c1 c2 c4 w' R s k;exact s.ax _ λ r w'' s'=>k r w'' (s'.aq [1,2,0,4,5,6,7])
      have opM:∀ {c1 c2 c3:aD} {w' : World} {R:Nat->World->Prop},St w w' (Sep (c1 :: c2 :: c3 :: emp :: A))->(∀ r w'',St w w'' (Sep (c1 :: c2 :: c3 :: ai r #[.map none] 371 :: A))->R r w'')->ak w' (.cells #[.map none] 371) R:=by
        intro c1 c2 c3 w' R s k;exact s.ax _ λ r w'' s'=>k r w'' (s'.aq [1,2,3,0,5,6,7])
      have stS:∀ {c1 c2 c4:aD} {r:Nat} {v:Value} {w' : World} {R:World->Prop},v.oneCell' = true->St w w' (Sep (c1 :: c2 :: ai r #[.slice none 0 0] 319 :: c4 :: A))->(∀ w'',St w w'' (Sep (c1 :: c2 :: ai r #[v] 319 :: c4 :: A))->R w'')->aN w' ⟨r,0,none⟩ v R:=by
        intro c1 c2 c4 r v w' R h1 s k;exact s.aH 2 rfl (by show 0<1; decide) h1 k
      have stM:∀ {c1 c2 c3:aD} {r:Nat} {v:Value} {w' : World} {R:World->Prop},v.oneCell' = true->St w w' (Sep (c1 :: c2 :: c3 :: ai r #[.map none] 371 :: A))->(∀ w'',St w w'' (Sep (c1 :: c2 :: c3 :: ai r #[v] 371 :: A))->R w'')->aN w' ⟨r,0,none⟩ v R:=by
        intro c1 c2 c3 r v w' R h1 s k;exact s.aH 3 rfl (by show 0<1; decide) h1 k
      have opC:∀ {c1 c2 c3 c4:aD} {w' : World} {Q:Prop},St w w' (Sep (c1 :: c2 :: c3 :: c4 :: A))->Q->af w' ⟨r2,0,none⟩ 0 m.vs/\af w' ⟨r1,0,none⟩ 0 (iv x.op :: x.u.on [iv x.v,.slice x.a x.args.length x.c])/\Q:=λ s k=>⟨s.cellsIn 4 rfl,s.cellsIn 5 rfl,k⟩;clear s1 s2 s3 s4 s5 s6 c3 c4 c5
      repeat' (with_reducible first
        | refine R5 h λ g w1 h=>?_
        | refine opO h λ rm lk w1 hr h=>?_
        | refine opS h λ r w1 h=>?_
        | refine opM h λ r w1 h=>?_
        | refine stS rfl h λ w1 h=>?_
        | refine stM rfl h λ w1 h=>?_
        | refine opC h ?_
        | exact⟨_,_,_,hr,h⟩
        | refine⟨?_,?_⟩)
  · exact cT (by simpa using hk) (.inl ⟨hk,rfl,s3.av⟩)
def vS(q:I6)(v:Int)(c:Ch):Int:=if c.want=q then (if cost c.p q>v then cost c.p q else v) else v
def BP(q:I6)(v:Int)(x:Of):Int:=if x.want=q then (if x.v>v then x.v else v) else v
def Kf(l:List Ch)(bids:List Of)(q:I6):Int:=bids.foldl (BP q) (l.foldl (vS q) 0)
abbrev Tv (w:World) (a:OA) (l:List Of):Prop:=cH 8 Of.cells w a l
theorem Of.one(o:Of):∀ v∈o.cells,v.oneCell' = true:=by
  intro v hv; simp[Of.cells,I6.on] at hv; rcases hv with rfl | rfl | rfl | rfl | rfl | rfl | rfl | rfl<;>rfl
def SI:Of:=⟨0,z6,0⟩
theorem M4{w:World}{a1 a2:OA}{c1 c2 b1 b2:Nat}{l:List Ch}{bids:List Of}(hr:EE w a1 l)(hl:l.length<=1000)(ho:∀ c∈l,c.Ok)(hb:Tv w a2 bids)(hbl:bids.length<=100000)(e1:w.cell? ⟨b1,0,none⟩=some (.slice a1 l.length c1))(e2:w.cell? ⟨b2,0,none⟩=some (.slice a2 bids.length c2))(q:I6) :
    CP 255 #[.agg q.vs.toArray,pt b1,pt b2] w (λ r w'=>r=iv (Kf l bids q)/\az w w' []):=by
  refine qT ?_;unfold mG;refine(St.start w).one.ax q.vs.toArray λ r1 w1 s1=>⟨_,_,_,bT e1 s1.av,?_⟩;let M:List aD:=[ai r1 q.vs.toArray 41,emp];refine⟨λ n i w2 m=>∃ k:Nat,i=k/\k<=l.length/\m=l.length-k/\n=(l.take k).foldl (vS q) 0/\St w w2 (Sep M),⟨l.length,0,rfl,by omega,by omega,rfl,s1⟩,?_⟩;rintro w2 m n i ⟨k,rfl,hk,hm,rfl,s2⟩ -
  by_cases hlt:(k:Int)<(l.length:Int)
  · have hx:l[k]? = some (l[k]'(by omega)):=gE (by omega);generalize l[k]'(by omega)=y at hx;obtain⟨p,hp,hcl⟩:=(hr.av s2.av).at hx;have ef:=ua (f:=vS q) (a:=0) hx;refine cT (dT hlt) ⟨λ n w3=>n=(l.take (k+1)).foldl (vS q) 0/\St w w3 (Sep M),?_,au hp ⟨by omega,by omega,y.p,y.want,hcl,s2.ax A6.cells.toArray λ r2 w4 s4=>s4.aA 0 rfl y.cells rfl y.one λ w5 s5=>⟨y.want,bZ s5 0 rfl,q,s5.cellsIn 1 rfl,?_⟩⟩⟩
    · rintro w3 n ⟨rfl,s3⟩ -;exact⟨l.length-(k+1),by omega,k+1,aC ⟨by omega,by omega⟩,by omega,rfl,rfl,s3⟩
    rw[I6.beq_eq]
    by_cases hw:y.want=q
    · have oy:=ho y (List.mem_of_getElem? hx);refine cT (dT hw) ⟨y.p,vI s5 0 rfl,q,s5.cellsIn 1 rfl,aj (iJ w5 oy.p (by rw[<- hw]; exact oy.w)) ?_⟩;rintro v w6 ⟨rfl,c6⟩;exact⟨_,rfl,by rw[ef,vS,if_pos hw],(s5.quiet c6).aq [1,2]⟩
    · exact cF (dF hw) ⟨by rw[ef,vS,if_neg hw],s5.aq [1,2]⟩
  · obtain rfl:l.length=k:=by omega
    rw[List.take_length];refine cF (dF hlt) ⟨_,_,_,bT e2 s2.av,?_⟩;refine⟨λ n i w2 m=>∃ k:Nat,i=k/\k<=bids.length/\m=bids.length-k/\n=(bids.take k).foldl (BP q) (l.foldl (vS q) 0)/\St w w2 (Sep M),⟨bids.length,0,rfl,by omega,by omega,rfl,s2⟩,?_⟩;clear hm hk hlt s2;rintro w7 m n i ⟨k,rfl,hk,hm,rfl,s2⟩ -
    by_cases hlt:(k:Int)<(bids.length:Int)
    · have hx:bids[k]? = some (bids[k]'(by omega)):=gE (by omega);generalize bids[k]'(by omega)=y at hx;obtain⟨p,hp,hcl⟩:=(hb.av s2.av).at hx;have ef:=ua (f:=BP q) (a:=l.foldl (vS q) 0) hx;refine cT (dT hlt) ⟨λ n w3=>n=(bids.take (k+1)).foldl (BP q) (l.foldl (vS q) 0)/\St w w3 (Sep M),?_,au hp ⟨by omega,by omega,_,y.want,_,hcl,s2.ax SI.cells.toArray λ r2 w4 s4=>s4.aA 0 rfl y.cells rfl y.one λ w5 s5=>⟨y.want,s5.aP 0 1 rfl rfl,q,s5.cellsIn 1 rfl,?_⟩⟩⟩
      · rintro w3 n ⟨rfl,s3⟩ -;exact⟨bids.length-(k+1),by omega,k+1,aC ⟨by omega,by omega⟩,by omega,rfl,rfl,s3⟩
      rw[I6.beq_eq]
      by_cases hw:y.want=q
      · exact cT (dT hw) ⟨_,s5.ag 0 rfl 7,by rw[ef,BP,if_pos hw],s5.aq [1,2]⟩
      · exact cF (dF hw) ⟨by rw[ef,BP,if_neg hw],s5.aq [1,2]⟩
    · obtain rfl:bids.length=k:=by omega
      rw[List.take_length];exact cF (dF hlt) ⟨rfl,s2.av⟩
theorem Tj:gL prog 249 253 (.agg SI.cells.toArray) 8 64:=gL.mk' underlying249 (by kernel_rfl) rfl (by decide)
abbrev Ec (a:OA) (c:Nat) (l:List Of):aD:=bW 253 8 Of.cells a c l
theorem xx{α:Type}{sz:Nat}{f:α->List Value}{w:World}{r:Nat}{x:α}(h:af w ⟨r,0,none⟩ 0 (f x))(hf:(f x).length=sz):cH sz f w (some ⟨r,0,none⟩) [x]:=λ i y hy=>by
  match i,hy with
  | 0,rfl=>exact⟨_,_,rfl,by rw[bG]; simpa using h,hf,rfl⟩
mutual
def nk(m:I6)(T:List Int):Nat->List Of
  | 0=>[]
  | i+1=>if 0<i/\T.getD i 0>E2 m (cv m i) (jk m T i) 6 then nk m T i++[⟨0,cv m i,T.getD i 0⟩] else nk m T i
def jk(m:I6)(T:List Int):Nat->List Int
  | 0=>T
  | i+1=>(jk m T i).set i (if E2 m (cv m i) (jk m T i) 6>(jk m T i).getD i 0 then E2 m (cv m i) (jk m T i) 6 else (jk m T i).getD i 0)
end
theorem DK(m:I6)(T:List Int):∀ i,(jk m T i).length=T.length
  | 0=>rfl
  | i+1=>by rw[jk,List.length_set,DK m T i]
theorem DJ(m:I6)(T:List Int):∀ i,(nk m T i).length<=i
  | 0=>Nat.le_refl 0
  | i+1=>by
    have:=DJ m T i;rw[nk]
    split
    · rw[List.length_append,List.length_singleton]; omega
    · omega
def yu(m:I6)(T:List Int):List Of:=nk m T (aY m)
section
variable {w0 w:World} {B:aD} {m:I6} {g r1 r2 r3 r4 r5 l D:Nat} {lp:Loop} {T:List Int} {a1:OA} {c1:Nat}
def Ns(m:I6)(T:List Int)(a1:OA)(c1 g r1 r2 r3 r4 r5:Nat)(B:aD)(a:OA)(c i:Nat)(out:List Of):List aD :=
  [tf (some ⟨g,0,none⟩) (aY m) (jk m T i),ai r3 #[.slice (some ⟨g,0,none⟩) (aY m) (aY m)] 319,Ec a c out,ai r4 #[.slice a out.length c] 249,ai r5 #[iv i] 3,ai r1 #[.slice a1 (aY m) c1] 319,ai r2 m.vs.toArray 41,B]
def Qw(m:I6)(T:List Int)(a1:OA)(c1 g r1 r2 r3 r4 r5 l:Nat)(lp:Loop)(B:aD)(i:Nat):aD :=
  Jh λ (p:Option Addr×Nat)=>Sep (aK l (.loop lp) :: Ns m T a1 c1 g r1 r2 r3 r4 r5 B p.1 p.2 i (nk m T i))
theorem It(hm:I6.Le m 4)(hp:pr m.l<=1024)(hT:∀ {w'},az w0 w' []->cH 1 i1 w' a1 T)(hl:T.length=aY m){i:Nat}(hi:i<aY m){Fr:aD}{a0:OA}{l0 c0:Nat}{u0:I6}{a2:OA}{l2:Nat}{c2:Nat}{a3:OA}{l3:Nat}{c3:Nat}{a4:OA}{l4:Nat}{c4:Nat}{a5:OA}{l5:Nat}{c5:Nat}{e1:Value}{u2:I6}{v1:Value}{fn:FuncId}(hlp:lp=dA a0 l0 c0 u0 r1 r2 a2 l2 c2 a3 l3 c3 r3 a4 l4 c4 a5 l5 c5 e1 r4 r5 u2 v1 fn D)(h:St w0 w (star (Qw m T a1 c1 g r1 r2 r3 r4 r5 l lp B i) Fr)) :
    cq prog l #[.agg (cv m i).vs.toArray] w λ b w2=>b=true/\St w0 w2 (star (Qw m T a1 c1 g r1 r2 r3 r4 r5 l lp B (i+1)) Fr):=by
  have hc:=lF hm;have hml:=(DK m T i).trans hl;obtain⟨⟨a,c⟩,h⟩:=h.ex;have s:St w0 w (Sep (aK l (.loop lp) :: Ns m T a1 c1 g r1 r2 r3 r4 r5 B a c i (nk m T i)++[Fr])):=h.open;refine jZ (a1:=a0) (l1:=l0) (c1:=c0) (u1:=u0) (r1:=r1) (r2:=r2) (a2:=a2) (l2:=l2) (c2:=c2) (a3:=a3) (l3:=l3) (c3:=c3) (r3:=r3) (a4:=a4) (l4:=l4) (c4:=c4) (a5:=a5) (l5:=l5) (c5:=c5) (_e1:=e1) (r4:=r4) (r5:=r5) (u2:=u2) (v1:=v1) (s.dY 0 rfl) (by rw[hlp]; rfl) (by rw[hlp]; rfl) (by rw[hlp]; rfl) (by rw[hlp]; rfl) ?_;unfold fy;have hst:lp.state=.ready:=by rw[hlp]; rfl
  have hpd:({ ({ lp with state:=.busy }:Loop) with state:=.ready,pending:=none }:Loop)=lp:=by rw[hlp]; rfl
  clear hlp;let L:Option Addr->Nat->List Of->List Int->Nat->Loop->Nat->List aD:=λ a c out mo i lp r6 =>
    [ai r6 (cv m i).vs.toArray 41,aK l (.loop lp),tf (some ⟨g,0,none⟩) (aY m) mo,ai r3 #[.slice (some ⟨g,0,none⟩) (aY m) (aY m)] 319,Ec a c out,ai r4 #[.slice a out.length c] 249,ai r5 #[iv i] 3,ai r1 #[.slice a1 (aY m) c1] 319,ai r2 m.vs.toArray 41,B,Fr]
  refine s.ax z6.vs.toArray λ r6 w1 s1=>s1.aA 0 rfl (cv m i).vs rfl (I6.one _) λ w2 s2=>?_;have s2:St w0 w2 (Sep (L a c (nk m T i) (jk m T i) i lp r6)):=s2;refine⟨lp,s2.dY 1 rfl,hst,?_⟩;have s3:St w0 _ (Sep (L a c (nk m T i) (jk m T i) i { lp with state:=.busy } r6)):=s2.putAt 1 rfl (.loop { lp with state:=.busy });have hb:=Ke (js hm i) hp (c:=aY m) (St.rd cR (s3.out 2 rfl)) (by rw[hml]; exact hc.2.1.symm);rw[hml] at hb;refine⟨m,s3.cellsIn 8 rfl,cv m i,s3.cellsIn 0 rfl,_,_,_,s3.ag 3 rfl 0,aj hb ?_⟩;clear hb;rintro v w4 ⟨rfl,c4⟩;have s4:=s3.quiet c4;generalize hun:E2 m (cv m i) (jk m T i) 6=un;have eO:nk m T (i+1)=if 0<i/\T.getD i 0>un then nk m T i++[⟨0,cv m i,T.getD i 0⟩] else nk m T i:=by rw[nk,hun]
  have eT:jk m T (i+1)=(jk m T i).set i (if un>(jk m T i).getD i 0 then un else (jk m T i).getD i 0):=by rw[jk,hun]
  have tc:∀ {w'},az w0 w' []->∃ q,a1=some q/\w'.cell? (Addr.add q (i*1))=some (iv (T.getD i 0)):=λ hc' =>
    fK (hT hc') (by rw[List.getD_eq_getElem?_getD,gE (by omega)]; rfl)
  refine⟨_,rfl,λ w5=>∃ a' c',St w0 w5 (Sep (L a' c' (nk m T (i+1)) (jk m T i) i { lp with state:=.busy } r6)),?_,?_⟩
  · rintro w5 ⟨a',c',s5⟩ x1;have s6:=s5.quiet (az.drew w5 []);have cm:w5.drew.cell? (Addr.add ⟨g,0,none⟩ (((i:Nat):Int).toNat*1))=some (iv ((jk m T i).getD i 0)):=by
      obtain⟨q,hq,hc⟩:=fK (St.rd cR (s6.out 2 rfl)) (i:=i) (x:=(jk m T i).getD i 0) (by rw[List.getD_eq_getElem?_getD,gE (by omega)]; rfl)
      cases hq; exact hc
    refine⟨_,_,_,s6.ag 3 rfl 0,_,s6.ag 6 rfl 0,_,_,_,s6.ag 3 rfl 0,_,s6.ag 6 rfl 0,au rfl ⟨by omega,by omega,_,cm,au rfl ⟨by omega,by omega,?_⟩⟩⟩;rw[Int.toNat_natCast];refine St.iZ (v:=iv) rfl (s6.out 2 rfl) (i:=i) (by omega) λ w7 s7=>?_;rw[<- eT] at s7;have s7:St w0 w7 (Sep (L a' c' (nk m T (i+1)) (jk m T (i+1)) i { lp with state:=.busy } r6)):=s7.back (i:=2) (by show 2<11; decide);refine⟨_,s7.ag 6 rfl 0,s7.aH 6 rfl (by show 0<1; decide) rfl λ w8 s8=>⟨_,s8.dY 1 rfl,rfl,?_⟩⟩;rw[aC (n:=(i:Int)+1) ⟨by omega,by omega⟩] at s8;have s9:=s8.putAt 1 rfl (.loop lp);rw[hpd];exact St.kK (f:=λ (p:Option Addr×Nat)=>Sep (aK l (.loop lp) :: Ns m T a1 c1 g r1 r2 r3 r4 r5 B p.1 p.2 (i+1) (nk m T (i+1)))) (a',c') ((s9.aq [1,2,3,4,5,6,7,8,9,10]).shut)
  · refine⟨λ b w6=>b=decide (0<i/\T.getD i 0>un)/\St w0 w6 (Sep (L a c (nk m T i) (jk m T i) i { lp with state:=.busy } r6)),?_,?_⟩
    · rintro w6 b ⟨rfl,s6⟩ x2;have hol:=DJ m T i
      by_cases hb:0<i/\T.getD i 0>un
      · rw[if_pos hb] at eO;have s7:=s6.quiet (az.drew w6 []);obtain⟨q,hq,hcq⟩:=tc s7.av;refine cT (dT hb) ⟨_,_,_,s7.ag 5 rfl 0,cv m i,s7.cellsIn 0 rfl,_,_,_,s7.ag 7 rfl 0,_,s7.ag 6 rfl 0,au hq ⟨by omega,by omega,_,hcq,s7.ax (⟨0,cv m i,T.getD i 0⟩:Of).cells.toArray λ r9 w8 s8=>⟨s8.ag 6 rfl 0,?_⟩⟩⟩;refine eK (l2:=[(⟨0,cv m i,T.getD i 0⟩:Of)]) Tj Of.len Of.one (s8.out 5 rfl) (xx (s8.cellsIn 0 rfl) rfl) (by simp; omega) (by simp; omega) λ a' c' w9 s9=>?_;have s9:=s9.back (i:=5) (by show 5<12; decide);refine s9.aH 6 rfl (by show 0<1; decide) rfl λ w10 s10=>⟨a',c',?_⟩;rw[eO];exact s10.aq [1,2,3,4,5,6,7,8,9,10,11]
      · rw[if_neg hb] at eO;exact cF (dF hb) ⟨a,c,by rw[eO]; exact s6⟩
    · refine⟨_,s4.ag 6 rfl 0,?_⟩
      by_cases h0:0<i
      · obtain⟨q,hq,hcq⟩:=tc s4.av;refine cT (dT (by omega)) ⟨_,_,_,s4.ag 7 rfl 0,_,s4.ag 6 rfl 0,au hq ⟨by omega,by omega,_,hcq,?_,s4⟩⟩
        by_cases g0:T.getD i 0>un
        · rw[dT g0,dT ⟨h0,g0⟩]
        · rw[dF g0,dF λ h=>g0 h.2]
      · exact cF (dF (by omega)) ⟨by rw[dF λ h=>h0 h.1],s4⟩
end
theorem Iu{w:World}{m:I6}{T:List Int}{a1:OA}{c1:Nat}(hm:I6.Le m 4)(hp:pr m.l<=1024)(hr:cH 1 i1 w a1 T)(hl:T.length=aY m) :
    CP 201 #[.slice a1 (aY m) c1,.agg m.vs.toArray] w (λ r w'=>(40<(yu m T).length/\r=.tuple #[.slice none 0 0,iv 3]/\az w w' [])\/((yu m T).length<=40/\∃ a c,r=.tuple #[.slice a (yu m T).length c,iv 0]/\St w w' (Sep [Ec a c (yu m T)]))):=by
  refine qL ?_;unfold mC;have hc:=lF hm;refine(St.start w).one.ax _ λ r1 w1 s1=>s1.ax m.vs.toArray λ r2 w2 s2=>⟨_,_,_,s2.ag 1 rfl 0,?_⟩;refine cW N8 cR (x:=0) rfl s2 (n:=aY m) (by omega) (by omega) λ g w3 c3 s3=>?_;have s3:St w w3 (Sep [tf (some ⟨g,0,none⟩) (aY m) (List.replicate (aY m) 0),ai r2 m.vs.toArray 41,ai r1 #[.slice a1 (aY m) c1] 319,emp]):=s3;refine s3.ax _ λ r3 w4 s4=>s4.aH 0 rfl (by decide) rfl λ w5 s5=>⟨_,_,_,s5.ag 0 rfl 0,_,_,_,s5.ag 3 rfl 0,?_⟩;refine Gs N8 cR E6 (by simp) (s5.out 1 rfl) (l2:=T) hl (hr.av s5.av) λ _ w6 s6=>?_;have s6:St w w6 (Sep [ai r3 #[.slice (some ⟨g,0,none⟩) (aY m) (aY m)] 319,tf (some ⟨g,0,none⟩) (aY m) T,ai r2 m.vs.toArray 41,ai r1 #[.slice a1 (aY m) c1] 319,emp]):=s6.back (i:=1) (by show 1<5; decide);refine s6.ax _ λ r4 w7 s7=>s7.ax _ λ r5 w8 s8=>s8.aH 0 rfl (by decide) rfl λ w9 s9=>⟨m,s9.cellsIn 4 rfl,aj (OE (s9.eZ (e:=253) (sz:=8) (f:=Of.cells)) m hm hp) ?_⟩;rintro v w10 ⟨b,rfl,s10⟩;have s10:St w w10 (Sep [ai b m.vs.toArray 41,Ec none 0 [],ai r5 #[iv 0] 3,ai r4 #[.slice none 0 0] 249,ai r3 #[.slice (some ⟨g,0,none⟩) (aY m) (aY m)] 319,tf (some ⟨g,0,none⟩) (aY m) T,ai r2 m.vs.toArray 41,ai r1 #[.slice a1 (aY m) c1] 319,emp]):=s10;refine⟨_,rfl,ux (by kernel_rfl) ?_⟩;refine AD s10 (λ _ _=>⟨rfl,rfl⟩) λ fn l w11 s11=>?_;have s12:=(s11.aq [0,7,6,3,5,4,9,8,1,2]).split [_,_,_,_,_,_,_,_,_];have s13:=St.kK (f:=λ (p:Option Addr×Nat)=>Sep (aK l (.loop _) :: Ns m T a1 c1 g r1 r2 r3 r4 r5 (aK w10.heap.size (.deferred (some []))) p.1 p.2 0 (nk m T 0))) (none,0) s12;refine aj (Gx hm (R:=Qw m T a1 c1 g r1 r2 r3 r4 r5 l _ (aK w10.heap.size (.deferred (some [])))) (λ i w1 Fr hi h=>It hm hp (λ hc=>hr.av hc) hl hi rfl h) s13) ?_;rintro v w12 ⟨rfl,s14⟩;obtain⟨⟨a,c⟩,s15⟩:=s14.ex;refine⟨_,rfl,_,s15.first,λ w13 s16=>⟨_,_,_,s16.ag 3 rfl 0,?_⟩⟩;have s17:=s16.putAt 7 rfl (.deferred none)
  by_cases h40:40<(yu m T).length
  · exact cT (dT (by unfold yu at h40; omega)) ⟨s16.dY 7 rfl,.inl ⟨h40,rfl,s17.av⟩⟩
  · exact cF (dF (by unfold yu at h40; omega)) ⟨_,_,_,s16.ag 3 rfl 0,s16.dY 7 rfl,.inr ⟨by omega,a,c,rfl,s17.aq [2]⟩⟩
def sJ(x:Xv)(m:I6):Int:=if dM x≠0 then dM x else if 40<(yu m (LZ m (j5 m x))).length then 3 else 0
def sK(x:Xv)(m:I6):List Of:=yu m (LZ m (j5 m x))
theorem H9{w:World}{x:Xv}{m:I6}(hm:I6.Le m 4)(hp:pr m.l<=1024)(hz:aV x<=100000)(hx:x.In w) :
    CP 154 #[.agg x.cells.toArray,.agg m.vs.toArray] w (λ r w'=>(sJ x m≠0/\r=.tuple #[.slice none 0 0,iv (sJ x m)]/\az w w' [])\/(sJ x m=0/\(sK x m).length<=40/\∃ a c,r=.tuple #[.slice a (sK x m).length c,iv 0]/\St w w' (Sep [Ec a c (sK x m)]))):=by
  refine rZ (u1:=x.u) ?_;unfold nU;refine(St.start w).one.ax x.cells.toArray λ r1 w1 s1=>s1.ax m.vs.toArray λ r2 w2 s2=>⟨_,x.u,_,_,_,_,s2.cellsIn 1 rfl,m,s2.cellsIn 0 rfl,aj (On hm hp hz (hx.av s2.av)) ?_⟩;rintro v w3 (⟨hk,rfl,c3⟩ | ⟨hk,g,rfl,s3⟩)
  · refine⟨_,_,_,_,rfl,cT (by simpa using hk) (.inl ⟨?_,?_,(s2.quiet c3).av⟩)⟩
    · rw[sJ,if_pos hk]; exact hk
    · rw[sJ,if_pos hk]
  · have s4:=s2.and s3;have hl:(LZ m (j5 m x)).length=aY m:=y8 m _ _;refine⟨_,_,_,_,rfl,cF rfl ⟨m,s4.second.cellsIn 0 rfl,aj (Iu hm hp (St.rd cR s3) hl) ?_⟩⟩;have e0:sJ x m=if 40<(yu m (LZ m (j5 m x))).length then 3 else 0:=by rw[sJ,if_neg (λ h=>h hk)]
    rintro v w5 (⟨h40,rfl,c5⟩ | ⟨h40,a,c,rfl,s5⟩)
    · exact⟨_,_,_,_,rfl,.inl ⟨by rw[e0,if_pos h40]; decide,by rw[e0,if_pos h40],s4.av.trans c5 (by simp)⟩⟩
    · exact⟨_,_,_,_,rfl,.inr ⟨by rw[e0,if_neg (by show ¬ 40<(yu _ _).length; omega)],h40,a,c,rfl,LF s4.av s5⟩⟩
end Go.Proofs.YtpihmghnbplohaaGreatDoor

import Derived.Test.YtjpbdjhaajdepaaGreatDoorM15
import Derived.Test.YtjpbdjhaajdepaaGreatDoorM21
import Derived.Test.YtjpbdjhaajdepaaGreatDoorM22
set_option maxRecDepth 100000
namespace Go.Proofs.YtjpbdjhaajdepaaGreatDoor
open Go Go.Vc Tryz
theorem zG:aT dV=1:=by rw[fO]; rfl
theorem size_mk(op:Int)(u:I6)(v:Int)(a:OA)(c:Nat)(l:List Xv):aT (.mk op u v a c l)=1+(l.map aT).sum:=by rw[fO]; rfl
section
variable {g:Sc->Xv×Sc} (hg:∀ σ,aT (g σ).1+3*(g σ).2.1.length<=3*σ.1.length+2)
include hg
theorem Gj(σ:Sc):aT (gG g σ).1+3*(gG g σ).2.1.length<=3*σ.1.length+2:=by
  unfold gG; split
  · show aT dV+3*σ.1.length<=_; rw[zG]; omega
  · exact hg _
theorem C8:∀ (n:Nat) (acc:List Xv) (σ:Sc),((gH g n acc σ).1.map aT).sum+3*(gH g n acc σ).2.1.length<=(acc.map aT).sum+3*σ.1.length
  | 0,_,_=>Nat.le_refl _
  | n+1,acc,σ=>by
    rw[gH]
    split
    · rename_i hb;have h1:=C8 n (acc++[(gG g (σ.acc [44])).1]) (gG g (σ.acc [44])).2;have h2:=Gj hg (σ.acc [44]);have h3:=Bj hb;rw[List.map_append,List.sum_append,List.map_singleton,List.sum_singleton] at h1;omega
    · exact Nat.le_refl _
theorem Qt(ps:List Pr)(op:Int)(a1:Xv)(σ:Sc):aT (JW ps g op a1 σ).1+3*(JW ps g op a1 σ).2.1.length<=1+aT a1+3*σ.1.length:=by
  unfold JW
  split
  · have h1:=C8 hg σ.1.length [a1] σ;have h2:=uF [41] (gH g σ.1.length [a1] σ).2;rw[List.map_singleton,List.sum_singleton] at h1;show aT (.mk _ _ _ _ _ _)+3*((gH g σ.1.length [a1] σ).2.exp [41]).1.length<=_;rw[size_mk]; omega
  · split
    · have h1:=qd ps (σ.exp [44]);have h2:=uF [44] σ;have h3:=uF [41] (aZ ps (σ.exp [44])).2;show aT (.mk _ _ _ _ _ _)+3*((aZ ps (σ.exp [44])).2.exp [41]).1.length<=_;rw[size_mk,List.map_singleton,List.sum_singleton]; omega
    · split
      · have h1:((σ.exp [44]).qH 1000000).1.length<=(σ.exp [44]).1.length:=xI _ _ _;have h2:=uF [44] σ;have h3:=uF [41] ((σ.exp [44]).qH 1000000);show aT (.mk _ _ _ _ _ _)+3*(((σ.exp [44]).qH 1000000).exp [41]).1.length<=_;rw[size_mk,List.map_singleton,List.sum_singleton]; omega
      · have h3:=uF [41] σ;show aT (.mk _ _ _ _ _ _)+3*(σ.exp [41]).1.length<=_;rw[size_mk,List.map_singleton,List.sum_singleton]; omega
end
theorem Fb(ps:List Pr):∀ (f:Nat) (σ:Sc),aT (gA ps f σ).1+3*(gA ps f σ).2.1.length<=3*σ.1.length+2
  | 0,σ=>by show aT dV+_<=_; rw[zG]; show 1+3*σ.1.length<=_; omega
  | f+1,σ=>by
    rw[gA]
    split
    · have h1:=qd ps (wI σ);have h2:=E9 σ;show aT (.mk _ _ _ _ _ _)+3*(aZ ps (wI σ)).2.1.length<=_;rw[size_mk]; simp only[List.map_nil,List.sum_nil]; omega
    · rename_i h1;have hR:=Qt (Fb ps f) ps (bU (aS σ.1 σ.2)) (gG (gA ps f) (zJ σ)).1 (gG (gA ps f) (zJ σ)).2
      by_cases he:(zJ σ).2=0
      · have h2:=JT h1 he;have h3:=Gj (Fb ps f) (zJ σ);omega
      · have h2:=Fa σ;have h3:gG (gA ps f) (zJ σ)=(dV,zJ σ):=by rw[gG,if_pos he]
        rw[h3] at hR ⊢;rw[zG] at hR;have h4:(dV,zJ σ).2.1.length=(zJ σ).1.length:=rfl;omega
def bD(ps:List Pr)(t:List UInt8):Xv×Int :=
  if (bL t).2≠0 then (dV,(bL t).2)
  else if Dn (gA ps ((bL t).1.length+1) ((bL t).1,0)).2.1 (gA ps ((bL t).1.length+1) ((bL t).1,0)).2.2≠0 then (dV,Dn (gA ps ((bL t).1.length+1) ((bL t).1,0)).2.1 (gA ps ((bL t).1.length+1) ((bL t).1,0)).2.2)
  else if eD (gA ps ((bL t).1.length+1) ((bL t).1,0)).1≠0 then (dV,eD (gA ps ((bL t).1.length+1) ((bL t).1,0)).1)
  else ((gA ps ((bL t).1.length+1) ((bL t).1,0)).1,0)
theorem zC(l:List UInt8):∀ (f n:Nat) (acc:List Tk),(z7 l f n acc).1.length<=acc.length+f
  | 0,_,_=>Nat.le_refl _
  | f+1,n,acc=>by
    rw[z7]
    split
    · simp
    · split
      · exact Nat.le_trans (zC l f _ _) (by omega)
      · split
        · simp
        · have:=zC l f (n+(fI l n ‹UInt8›).1.t.length) (acc++[(fI l n ‹UInt8›).1]);simp only[List.length_append,List.length_singleton] at this;omega
theorem OW(l:List UInt8):(bL l).1.length<=4000:=by
  unfold bL
  split
  · simp
  · have:=zC l l.length 0 [];simp only[List.length_nil] at this;omega
theorem EH(w:World):dV.In w:=.mk (λ i y hy=>by simp[dV,Xv.args] at hy) (λ y hy=>by simp[dV,Xv.args] at hy)
theorem Oe{w:World}{a:OA}{c:Nat}{l:List Pr}(hr:eB w a l)(hc:l.length<=c)(ho:di l)(t:List UInt8) :
    CP 124 #[.slice a l.length c,sv t] w (λ r w'=>∃ x:Xv,x.er=(bD l t).1/\r=.tuple #[.agg x.cells.toArray,iv (bD l t).2]/\St w w' (held x.In)):=by
  refine sY ?_;unfold oC;refine(St.start w).one.aB dV.cells.toArray λ r1 w1 s1=>au (xX (hr.aC s1.aC) hc) ?_;rintro v w2 ⟨⟨e,rfl,hee⟩,c2⟩;obtain rfl:=hee.2 ho;have s2:=s1.quiet c2;have bad:∀ {k:Int} {w' : World} {m:List aI} {i:Nat} {cs:Array Value},St w w' (Sep m)->m[i]? = some (ah r1 cs 107)->cs.size=9->bD l t=(dV,k) ->
      aP ⟨r1,0,none⟩ 0 dV.cells w' λ w3=>∃ (n2:Int) (u1:I6) (n3:Int) (a2:OA) (l2 c2:Nat),af w3 ⟨r1,0,none⟩ 0 (iv n2 :: u1.on [iv n3,.slice a2 l2 c2]) /\
        ∃ x:Xv,x.er=(bD l t).1/\Value.tuple #[.agg (iv n2 :: u1.on [iv n3,.slice a2 l2 c2]:List Value).toArray,iv k]=.tuple #[.agg x.cells.toArray,iv (bD l t).2]/\St w w3 (held x.In):=λ {k w' m i cs} s e hs hp =>
    s.aD i e dV.cells (by rw[hs]; rfl) (Xv.one _) λ w3 s3=>⟨_,z6,_,_,_,_,s3.cellsIn (cs:=dV.cells.toArray) (T:=107) i (List.getElem?_set_self (eI e)),dV,by rw[hp,Ga],by rw[hp]; rfl,((St.start' s3.aC).one.tj EH).first⟩
  refine⟨_,rfl,cF rfl (au (LR t) ?_)⟩;rintro v w4 ⟨a3,c3,rfl,k4⟩;have s4:St w w4 (Sep [_,_,_]):=s2.and k4;have ht:=OW t;refine⟨_,_,_,_,rfl,?_⟩
  by_cases h1:(bL t).2=0
  · have rd:=St.rd Tk.len s4;refine cF (by simpa using h1) (au (Iz s4 rd ht) ?_);rintro v w6 ⟨p,rfl,h6⟩;have h6:gz w w6 p ((bL t).1,0) (Sep [bY 286 4 Tk.cells a3 c3 (bL t).1,ah r1 dV.cells.toArray 107,emp]):=h6;refine⟨_,rfl,(St.start w6).one.aB #[.slice none 0 0,.pointer none] λ r2 w7 s7=>s7.aD 0 rfl [.slice a l.length c,pt p] rfl (by simp[Value.oneCell']) λ w8 s8=>⟨_,_,_,_,s8.cellsIn 0 rfl,?_⟩⟩;have h8:=h6.add s8;refine au (J1 (λ hc=>hr.aC hc) hc ho ((bL t).1.length+1) _ ((bL t).1,0) w8 (Nat.lt_succ_self _) h8) ?_;have hsz:=Fb l ((bL t).1.length+1) ((bL t).1,0);have hP:bD l t=if Dn (gA l ((bL t).1.length+1) ((bL t).1,0)).2.1 (gA l ((bL t).1.length+1) ((bL t).1,0)).2.2≠0 then (dV,Dn (gA l ((bL t).1.length+1) ((bL t).1,0)).2.1 (gA l ((bL t).1.length+1) ((bL t).1,0)).2.2)
        else if eD (gA l ((bL t).1.length+1) ((bL t).1,0)).1≠0 then (dV,eD (gA l ((bL t).1.length+1) ((bL t).1,0)).1)
        else ((gA l ((bL t).1.length+1) ((bL t).1,0)).1,0):=by rw[bD,if_neg (by simpa using h1)]
    generalize gA l ((bL t).1.length+1) ((bL t).1,0)=R at hsz hP ⊢;rintro v w9 ⟨x,ex,rfl,h9⟩;have hsx:aT x<=100000:=by
      rw[<- Hw x,ex];have:(bL t).1.length<=4000:=ht;simp only at hsz;omega
    refine⟨_,x.u,_,_,_,_,rfl,(St.start w9).one.aB dV.cells.toArray λ r3 w10 s10=>s10.aD 0 rfl x.cells rfl (Xv.one _) λ w11 s11=>?_⟩;have h11:gz w w11 p R.2 (star (Sep [ah r3 x.cells.toArray 107,emp]) (star (held x.In) (star (Sep [ah r2 #[.slice a l.length c,pt p] 255,emp]) (Sep [bY 286 4 Tk.cells a3 c3 (bL t).1,ah r1 dV.cells.toArray 107,emp])))):=h9.add s11;have fl:St w w11 (Sep [ah r3 x.cells.toArray 107,emp,held x.In,ah r2 #[.slice a l.length c,pt p] 255,emp,bY 286 4 Tk.cells a3 c3 (bL t).1,ah r1 dV.cells.toArray 107,emp]):=by
      have t1:=h11.frame;exact t1.eqv ((bq.right (bq.right (bq.cat [_,_]))).trans (bq.cat (m:=held x.In :: _) [_,_]))
    refine⟨_,fl.ag 3 rfl 1,au (RE h11) ?_⟩;rintro v w12 ⟨rfl,rfl⟩;refine⟨_,rfl,?_⟩
    by_cases h2:Dn R.2.1 R.2.2=0
    · rw[if_neg (by simpa using h2)] at hP;have hin:x.In w12:=fl.cr 2 rfl;refine cF (by simpa using h2) ⟨_,x.u,_,_,_,_,fl.cellsIn 0 rfl,au (EE hsx hin) ?_⟩;rintro v w14 ⟨rfl,c14⟩;have t14:=fl.quiet c14;have hxe:eD x=eD R.1:=by rw[<- ex,xZ]
      refine⟨_,rfl,?_⟩
      by_cases h3:eD x=0
      · rw[if_neg (by rw[<- hxe]; simpa using h3)] at hP;exact cF (by simpa using h3) ⟨_,x.u,_,_,_,_,t14.cellsIn 0 rfl,t14.aD 6 rfl x.cells rfl (Xv.one _) λ w16 t16=>⟨_,x.u,_,_,_,_,t16.cellsIn 6 rfl,x,by rw[hP,ex],by rw[hP]; rfl,(t16.out 2 rfl).first⟩⟩
      · rw[if_pos (by rw[<- hxe]; exact h3),<- hxe] at hP;exact cT (by simpa using h3) (bad t14 (i:=6) rfl rfl hP)
    · rw[if_pos h2] at hP;exact cT (by simpa using h2) (bad fl (i:=6) rfl rfl hP)
  · exact cT (by simpa using h1) (bad s4 (i:=1) rfl rfl (by rw[bD,if_pos h1]))
abbrev Wf:=I6->Int
def qn(v:Int):Int:=if 1000000<v then 1000000 else v
def jr(lim:I6)(f:Wf)(p:KV):Wf:=λ w=>if w=p.1/\qn p.2>f p.1/\within p.1 lim=true then qn p.2 else f w
def bx(lim:I6)(f:Wf)(Q:List KV):Wf:=Q.foldl (jr lim) f
theorem II{lim:I6}{f:Wf}{p:KV}{w:I6}{n:Int}:jr lim f p w<=n<->f w<=n/\(p.1=w->within w lim=true->qn p.2<=n):=by
  unfold jr
  split
  · rename_i h;obtain⟨rfl,h1,h2⟩:=h;exact⟨λ h=>⟨by omega,λ _ _=>h⟩,λ h=>h.2 rfl h2⟩
  · rename_i h;refine⟨λ hn=>⟨hn,λ e hw=>?_⟩,λ h=>h.1⟩;subst e
    by_cases hc:qn p.2>f p.1
    · exact absurd ⟨rfl,hc,hw⟩ h
    · omega
theorem lA{lim:I6}:∀ {Q:List KV} {f:Wf} {w:I6} {n:Int},bx lim f Q w<=n<->f w<=n/\∀ p∈Q,p.1=w->within w lim=true->qn p.2<=n
  | [],f,w,n=>by simp[bx]
  | p :: Q,f,w,n=>by
    show bx lim (jr lim f p) Q w<=n<->_;rw[lA,II];constructor
    · rintro⟨⟨h1,h2⟩,h3⟩;refine⟨h1,λ q hq=>?_⟩;rcases List.mem_cons.1 hq with rfl | hq
      · exact h2
      · exact h3 q hq
    · rintro⟨h1,h2⟩;exact⟨⟨h1,h2 p (by simp)⟩,λ q hq=>h2 q (by simp[hq])⟩
theorem eJ{lim:I6}{f:Wf}{Q Q' : List KV}(h:∀ p,p∈Q<->p∈Q'):bx lim f Q=bx lim f Q':=by
  funext w
  refine Int.le_antisymm (lA.2 ?_) (lA.2 ?_)
  · have:=(lA (lim:=lim) (f:=f) (Q:=Q') (w:=w) (n:=bx lim f Q' w)).1 (Int.le_refl _);exact⟨this.1,λ p hp=>this.2 p ((h p).1 hp)⟩
  · have:=(lA (lim:=lim) (f:=f) (Q:=Q) (w:=w) (n:=bx lim f Q w)).1 (Int.le_refl _);exact⟨this.1,λ p hp=>this.2 p ((h p).2 hp)⟩
theorem gT{lim:I6}{f:Wf}{Q:List KV}{p:KV}:jr lim (bx lim f Q) p=bx lim f (Q++[p]):=by
  rw[bx,bx,List.foldl_append]; rfl
theorem FM{lim:I6}{f:Wf}{Q R:List KV}:bx lim (bx lim f Q) R=bx lim f (Q++R):=by
  rw[bx,bx,bx,List.foldl_append]
structure cC (lim:I6) (l:List KV) (f:Wf):Prop where
  v:∀ u,jB l u=if 0<f u then some (f u) else none
  le:∀ u,f u<=1000000
  z:∀ u,0<=f u
  s:∀ u,0<f u->I6.Le u 4/\within u lim=true
theorem cC.nil(lim:I6):cC lim [] λ _=>0:=⟨λ u=>rfl,λ u=>by omega,λ u=>by omega,λ u h=>by omega⟩
theorem cC.get{lim:I6}{l:List KV}{f:Wf}(h:cC lim l f)(u:I6):(jB l u).getD 0=f u:=by
  rw[h.v]
  split
  · rfl
  · have:=h.z u; show 0=f u; omega
theorem cC.mem{lim:I6}{l:List KV}{f:Wf}(h:cC lim l f)(hn:(l.map (·.1)).Nodup)(p:KV):p∈l<->0<f p.1/\p.2=f p.1:=by
  constructor
  · intro hp;have h1:=L3 hn hp;rw[h.v] at h1
    split at h1
    · rename_i h2; exact⟨h2,by injection h1 with h1; exact h1.symm⟩
    · cases h1
  · rintro⟨h1,h2⟩;have h3:=h.v p.1;rw[if_pos h1] at h3;have:=Bb h3;obtain⟨a,b⟩:=p;simp only at h2 this;rw[h2]; exact this
theorem cC.raise{lim:I6}{l:List KV}{f:Wf}(h:cC lim l f)(hl:I6.Le lim 4){p:KV}(hp:I6.Le p.1 1000000) :
    cC lim (if qn p.2>f p.1/\within p.1 lim=true then wU l p.1 (qn p.2) else l) (jr lim f p):=by
  by_cases g:qn p.2>f p.1/\within p.1 lim=true
  · rw[if_pos g];have hz:=h.z p.1;have e:∀ u,jr lim f p u=if u=p.1 then qn p.2 else f u:=λ u=>by
      unfold jr
      by_cases hu:u=p.1
      · rw[if_pos ⟨hu,g⟩,if_pos hu]
      · rw[if_neg (λ h=>hu h.1),if_neg hu]
    refine⟨λ u=>?_,λ u=>?_,λ u=>?_,λ u=>?_⟩
    · rw[L4,e]
      by_cases hu:u=p.1
      · rw[if_pos hu,if_pos hu,if_pos (by omega)]
      · rw[if_neg hu,if_neg hu,h.v]
    · rw[e]; split
      · unfold qn; split<;>omega
      · exact h.le u
    · rw[e]; split
      · omega
      · exact h.z u
    · rw[e]; split
      · rename_i hu; subst hu; intro _;refine⟨λ k hk=>?_,g.2⟩;have h1:=hp k hk;have h2:=within_iff.1 g.2 k hk;have h3:=hl k hk;omega
      · exact h.s u
  · rw[if_neg g];have e:jr lim f p=f:=by
      funext u
      unfold jr;rw[if_neg (λ h=>g h.2)]
    rw[e]; exact h
theorem Pq:Si prog 300 42 2 where
  u:=underlying300
  k:=⟨_,underlying42⟩
  z:=by kernel_rfl
  eq u v:=by kernel_rfl
  ck b u w:=by
    obtain⟨i,hi,_,_,_⟩:=RJ.i;have hc:(prog).cellsOf 3=1:=by kernel_rfl
    have hsz:∀ w,(Go.sizeOf 3).run prog w=.ok 1 w:=λ w=>by rw[run_sizeOf w hi,hc]
    have hpart:∀ (w:World) (j:Nat),j<6->(part 3 u.vs.toArray (j*1)).run prog w=.ok (iv (u.at' j)) w:=λ w j hj=>by
      have:=u.get j hj;simp only[Nat.mul_one] at this ⊢;simp[part,isAgg,aE underlying3,this]
    rw[show(10000:Nat)=9999+1 from rfl,Instr.checkKey];simp only[Sem.run_bind,run_underlying underlying42,Result.andThen_ok];simp only[Std.Legacy.Range.forIn_eq_forIn_range',Std.Legacy.Range.size,Nat.sub_zero,Nat.add_one_sub_one,Nat.div_one];have each:∀ j∈List.range' 0 6,j<6:=λ j hj=>by simpa using hj
    generalize List.range' 0 6=is at each
    induction is with
    | nil=>simp
    | cons j is ih =>
      have p1:=hpart w j (each j (by simp));have p2:=mE (P:=prog) underlying3 b 9998 (u.at' j) w;simp only[List.forIn_cons,Sem.run_bind,hsz,Result.andThen_ok,p1,p2,Sem.run_pure];exact ih λ y hy=>each y (by simp[hy])
section
variable {w0 w:World} {B:aI} {r r2:Nat} {l l2:List KV} {lim:I6} {f g:Wf}
theorem oN(s:St w0 w (star (mapA r l) B)):(l.map (·.1)).Nodup:=by
  obtain⟨x,_⟩:=s.ex;exact x.2.ky
theorem cC.key(h:cC lim l f)(hn:(l.map (·.1)).Nodup){p:KV}(hp:p∈l):I6.Le p.1 4/\0<p.2/\p.2<=1000000:=by
  have h1:=(h.mem hn p).1 hp;have:=h.le p.1;exact⟨(h.s p.1 h1.1).1,by omega,by omega⟩
theorem lR(s:St w0 w (star (mapA r l) B))(h:cC lim l f)(hl:I6.Le lim 4){b:I6}(hb:I6.Le b 1000000)(v:Int) :
    CP 226 #[.map (some r),.agg lim.vs.toArray,.agg b.vs.toArray,iv v] w (λ x w'=>x=.tuple #[]/\∃ l',cC lim l' (jr lim f (b,v))/\St w0 w' (star (mapA r l') B)):=by
  refine jJ ?_;unfold fV;refine(s.AL).aB lim.vs.toArray λ r1 w1 s1=>s1.aB b.vs.toArray λ r2 w2 s2=>?_;have hr:=h.raise hl (p:=(b,v)) hb;have back:∀ {w' : World} {l' : List KV},St w0 w' (Sep [ah r2 b.vs.toArray 42,ah r1 lim.vs.toArray 42,mapA r l',B])->St w0 w' (star (mapA r l') B):=λ s=>(s.aA [2,3]).pair;refine⟨λ x w3=>x=decide (qn v>f b/\within b lim=true)/\St w0 w3 (Sep [ah r2 b.vs.toArray 42,ah r1 lim.vs.toArray 42,mapA r l,B]),?_,b,s2.cellsIn 0 rfl,?_⟩
  · rintro w3 _ ⟨rfl,s3⟩ -
    by_cases g:qn v>f b/\within b lim=true
    · rw[if_pos g] at hr;refine cT (dT g) ⟨b,s3.cellsIn 0 rfl,Oj Pq (s3.out 2 rfl) b (qn v) λ w4 s4=>⟨rfl,_,hr,?_⟩⟩;exact back (s4.back (show 2<4 by decide))
    · rw[if_neg g] at hr;exact cF (dF g) ⟨rfl,_,hr,back s3⟩
  · refine DT Pq (s2.out 2 rfl) b ?_;rw[h.get]
    by_cases g1:qn v>f b
    · refine cT (dT g1) ⟨b,s2.cellsIn 0 rfl,lim,s2.cellsIn 1 rfl,au (uh _ _ _) ?_⟩;rintro x w6 ⟨rfl,c6⟩;refine⟨_,rfl,?_,s2.quiet c6⟩
      cases hw:within b lim with
      | true=>rw[dT (p:=qn v>f b/\true=true) ⟨g1,rfl⟩]
      | false=>rw[dF (p:=qn v>f b/\false=true) (λ h=>by cases h.2)]
    · exact cF (dF g1) ⟨by rw[dF (λ h=>g1 h.1)],s2⟩
theorem ue(s:St w0 w (star (mapA r l) (star (mapA r2 l2) B)))(h:cC lim l f)(h2:cC lim l2 g)(hl:I6.Le lim 4) :
    CP 227 #[.map (some r),.agg lim.vs.toArray,.map (some r2)] w (λ x w'=>x=.tuple #[]/\∃ l',cC lim l' (bx lim f l2)/\St w0 w' (star (mapA r l') (star (mapA r2 l2) B))):=by
  refine jI ?_;unfold fU;have hn2:=oN s.Jp;refine(s.xA).aB lim.vs.toArray λ r1 w1 s1=>lB Pq (s1.out 2 rfl) λ it w2 s2=>?_;have s2:St w0 w2 (Sep [yF r2 it l2 [],ah r1 lim.vs.toArray 42,mapA r l,B]):=s2;refine⟨λ w3 m=>∃ (S l' : List KV),m=l2.length-S.length/\(∀ p∈S,p∈l2)/\cC lim l' (bx lim f S)/\St w0 w3 (Sep [yF r2 it l2 S,ah r1 lim.vs.toArray 42,mapA r l',B]),⟨_,[],l,rfl,by simp,h,s2⟩,?_⟩;rintro w3 m ⟨S,l',rfl,hS,hr,s3⟩ -;refine oP s3 (λ hend=>⟨rfl,l',?_,?_⟩) (λ p hp hlen w4 s4=>?_)
  · rw[eJ (Q:=l2) (Q':=S) λ p=>⟨hend p,hS p⟩]; exact hr
  · have s5:St w0 w3 (Sep [mapA r2 l2,ah r1 lim.vs.toArray 42,mapA r l',B]):=St.yG s3;exact(s5.aA [2,0,3]).triple
  · have s4:St w0 w4 (Sep [yF r2 it l2 (S++[p]),ah r1 lim.vs.toArray 42,mapA r l',B]):=s4;have hk:=h2.key hn2 hp;refine s4.aB z6.vs.toArray λ r3 w6 s6=>s6.aD 0 rfl p.1.vs rfl (I6.one _) λ w7 s7=>⟨lim,s7.cellsIn 2 rfl,p.1,s7.cellsIn 0 rfl,au (lR (s7.out 3 rfl) hr hl (su hk.1 (by omega)) p.2) ?_⟩;rintro x w8 ⟨rfl,l'',hr2,s8⟩;have s9:=(s8.back (show 3<5 by decide)).aA [1,2,3,4];refine⟨rfl,_,?_,S++[p],l'',rfl,?_,?_,s9⟩
    · rw[List.length_append,List.length_singleton]; omega
    · intro q hq;rcases List.mem_append.1 hq with hq | hq
      · exact hS q hq
      · rw[List.mem_singleton.1 hq]; exact hp
    · rw[<- gT]; exact hr2
end
section
variable {w0 w:World} {B:aI} {r r1 r2:Nat} {l l1 l2:List KV} {lim:I6} {f g:Wf}
theorem St.PR(s:St w0 w (star (bC r (.map #[] 0)) B)):St w0 w (star (mapA r []) B) :=
  St.yP (f:=λ (x:{ p:Array MapEntry×Nat // CU p.1.toList p.2 [] })=>bC r (.map x.1.1 x.1.2)) ⟨(#[],0),rfl,by simp,by simp,by simp⟩ s
def xE(p q:KV):KV:=(p.1.zip (· + ·) q.1,p.2+q.2)
def Cj(l1 l2:List KV):List KV:=l1.flatMap λ p=>l2.map (xE p)
theorem xm{l1 l2:List KV}{x:KV}:x∈Cj l1 l2<->∃ p∈l1,∃ q∈l2,xE p q=x:=by simp[Cj]
theorem Mm{p q:KV}(hp:I6.Le p.1 4)(hq:I6.Le q.1 4):I6.Le (xE p q).1 1000000:=λ k hk=>by
  have h1:=hp k hk; have h2:=hq k hk;show 0<=(p.1.zip (· + ·) q.1).at' k/\_;rw[I6.jC _ _ _ _ hk];show 0<=p.1.at' k+q.1.at' k/\(p.1.zip (· + ·) q.1).at' k<=1000000;rw[I6.jC _ _ _ _ hk];omega
theorem R4(s:St w0 w (star (mapA r1 l1) (star (mapA r2 l2) B)))(h1:cC lim l1 f)(h2:cC lim l2 g)(hl:I6.Le lim 4) :
    CP 228 #[.agg lim.vs.toArray,.map (some r1),.map (some r2)] w (λ x w'=>∃ r3 l3,x=.map (some r3)/\cC lim l3 (bx lim (λ _=>0) (l1++(l2++Cj l1 l2)))/\St w0 w' (star (mapA r3 l3) (star (mapA r1 l1) (star (mapA r2 l2) B)))):=by
  refine vw ?_;unfold qZ;have hn1:=oN s;have hn2:=oN s.Jp;refine(s.xA).aB lim.vs.toArray λ b1 w1 s1=>uQ s1 λ r3 w2 c2 s2=>?_;have s3:St w0 w2 (Sep [mapA r3 [],ah b1 lim.vs.toArray 42,mapA r1 l1,mapA r2 l2,B]):=St.PR s2;refine⟨lim,s3.cellsIn 1 rfl,au (ue (f:=λ _=>0) (g:=f) (s3.aA [0,2,1,3,4]) (cC.nil lim) h1 hl) ?_⟩;rintro x w3 ⟨rfl,l4,hr4,s4⟩;have s4:St w0 w3 (Sep [mapA r3 l4,mapA r1 l1,ah b1 lim.vs.toArray 42,mapA r2 l2,B]):=s4;refine⟨rfl,lim,s4.cellsIn 2 rfl,au (ue (g:=g) (s4.aA [0,3,1,2,4]) hr4 h2 hl) ?_⟩;rintro x w5 ⟨rfl,l5,hr5,s5⟩;rw[FM] at hr5;have s5:St w0 w5 (Sep [mapA r3 l5,mapA r2 l2,mapA r1 l1,ah b1 lim.vs.toArray 42,B]):=s5;refine⟨rfl,lB Pq (s5.out 2 rfl) λ it w6 s6=>?_⟩;have s6:St w0 w6 (Sep [yF r1 it l1 [],mapA r3 l5,mapA r2 l2,ah b1 lim.vs.toArray 42,B]):=s6;refine⟨λ w7 m=>∃ (S l' : List KV),m=l1.length-S.length/\(∀ p∈S,p∈l1)/\cC lim l' (bx lim (λ _=>0) ((l1++l2)++Cj S l2))/\St w0 w7 (Sep [yF r1 it l1 S,mapA r3 l',mapA r2 l2,ah b1 lim.vs.toArray 42,B]),⟨_,[],l5,rfl,by simp,by simpa[Cj] using hr5,s6⟩,?_⟩;rintro w7 m ⟨S,l',rfl,hS,hr,s7⟩ -;refine oP s7 (λ hend=>⟨r3,l',rfl,?_,?_⟩) (λ p hp hlen w8 s8=>?_)
  · rw[eJ (Q:=l1++(l2++Cj l1 l2)) (Q':=(l1++l2)++Cj S l2) λ x=>?_]; exact hr;have:x∈Cj l1 l2<->x∈Cj S l2:=by
      rw[xm,xm];exact⟨λ ⟨p,h1,h2⟩=>⟨p,hend p h1,h2⟩,λ ⟨p,h1,h2⟩=>⟨p,hS p h1,h2⟩⟩
    rw[List.mem_append,List.mem_append,List.mem_append,List.mem_append,this,or_assoc]
  · have t:St w0 w7 (Sep [mapA r1 l1,mapA r3 l',mapA r2 l2,ah b1 lim.vs.toArray 42,B]):=St.yG s7;exact(t.aA [1,0,2,4]).eqv (bq.right (bq.right (bq.right (bq.unit' _))))
  · have s8:St w0 w8 (Sep [yF r1 it l1 (S++[p]),mapA r3 l',mapA r2 l2,ah b1 lim.vs.toArray 42,B]):=s8;have hk:=h1.key hn1 hp;refine s8.aB z6.vs.toArray λ b3 w9 s9=>s9.aD 0 rfl p.1.vs rfl (I6.one _) λ w10 s10=>lB Pq (s10.out 3 rfl) λ it2 w11 s11=>?_;have s11:St w0 w11 (Sep [yF r2 it2 l2 [],ah b3 p.1.vs.toArray 42,yF r1 it l1 (S++[p]),mapA r3 l',ah b1 lim.vs.toArray 42,B]):=s11;refine⟨λ w12 m=>∃ (T l' : List KV),m=l2.length-T.length/\(∀ q∈T,q∈l2)/\cC lim l' (bx lim (λ _=>0) (((l1++l2)++Cj S l2)++T.map (xE p)))/\St w0 w12 (Sep [yF r2 it2 l2 T,ah b3 p.1.vs.toArray 42,yF r1 it l1 (S++[p]),mapA r3 l',ah b1 lim.vs.toArray 42,B]),⟨_,[],l',rfl,by simp,by simpa using hr,s11⟩,?_⟩;rintro w12 m ⟨T,l',rfl,hT,hr,s12⟩ -;refine oP s12 (λ hend=>?_) (λ q hq hlen2 w14 s14=>?_)
    · have t:St w0 w12 (Sep [mapA r2 l2,ah b3 p.1.vs.toArray 42,yF r1 it l1 (S++[p]),mapA r3 l',ah b1 lim.vs.toArray 42,B]):=St.yG s12;refine⟨_,?_,S++[p],l',rfl,?_,?_,t.aA [2,3,0,4,5]⟩
      · rw[List.length_append,List.length_singleton]; omega
      · intro q hq;rcases List.mem_append.1 hq with hq | hq
        · exact hS q hq
        · rw[List.mem_singleton.1 hq]; exact hp
      · rw[eJ (Q:=(l1++l2)++Cj (S++[p]) l2) (Q':=((l1++l2)++Cj S l2)++T.map (xE p)) λ x=>?_]; exact hr;have e1:Cj (S++[p]) l2=Cj S l2++l2.map (xE p):=by simp[Cj]
        have e2:x∈l2.map (xE p)<->x∈T.map (xE p):=by
          rw[List.mem_map,List.mem_map];exact⟨λ ⟨q,h1,h2⟩=>⟨q,hend q h1,h2⟩,λ ⟨q,h1,h2⟩=>⟨q,hT q h1,h2⟩⟩
        rw[e1,<- List.append_assoc,List.mem_append,List.mem_append (t:=T.map (xE p)),e2]
    · have s14:St w0 w14 (Sep [yF r2 it2 l2 (T++[q]),ah b3 p.1.vs.toArray 42,yF r1 it l1 (S++[p]),mapA r3 l',ah b1 lim.vs.toArray 42,B]):=s14;have hk2:=h2.key hn2 hq;refine s14.aB z6.vs.toArray λ b5 w15 s15=>s15.aD 0 rfl q.1.vs rfl (I6.one _) λ w16 s16=>?_;have s17:=s16.quiet (aF.drew w16 []);refine⟨lim,s17.cellsIn 5 rfl,p.1,s17.cellsIn 2 rfl,q.1,s17.cellsIn 0 rfl,au (Sl _ p.1 q.1 (su hk.1 (by omega)) (su hk2.1 (by omega))) ?_⟩;rintro x w18 ⟨rfl,c18⟩;have s18:=s17.quiet c18;refine⟨_,rfl,s18.cellsIn 5 rfl,?_⟩;rw[aG (n:=p.2+q.2) ⟨by omega,by omega⟩];refine au (lR (s18.out 4 rfl) hr hl (b:=(xE p q).1) (Mm hk.1 hk2.1) (xE p q).2) ?_;rintro x w19 ⟨rfl,l'',hr2,s19⟩;have s20:=(s19.back (show 4<7 by decide)).aA [1,2,3,4,5,6];refine⟨rfl,_,?_,T++[q],l'',rfl,?_,?_,s20⟩
      · rw[List.length_append,List.length_singleton]; omega
      · intro y hy;rcases List.mem_append.1 hy with hy | hy
        · exact hT y hy
        · rw[List.mem_singleton.1 hy]; exact hq
      · rw[List.map_append,List.map_singleton,<- List.append_assoc,<- gT]; exact hr2
end
def r5:List Int:=[0,1,2,3,4]
theorem uO{a:Int}(h:0<=a/\a<=4):a∈r5:=by
  have:a=0\/a=1\/a=2\/a=3\/a=4:=by omega
  simpa[r5] using this
def P2:List I6:=r5.flatMap λ a=>r5.flatMap λ b=>r5.flatMap λ c=>r5.flatMap λ d=>r5.flatMap λ e=>r5.map λ f=>⟨a,b,c,d,e,f⟩
theorem KA{u:I6}(h:I6.Le u 4):u∈P2:=by
  have h0:=uO (h 0 (by decide)); have h1:=uO (h 1 (by decide)); have h2:=uO (h 2 (by decide));have h3:=uO (h 3 (by decide)); have h4:=uO (h 4 (by decide)); have h5:=uO (h 5 (by decide));unfold P2;exact List.mem_flatMap.2 ⟨_,h0,List.mem_flatMap.2 ⟨_,h1,List.mem_flatMap.2 ⟨_,h2,List.mem_flatMap.2 ⟨_,h3,List.mem_flatMap.2 ⟨_,h4,List.mem_map.2 ⟨_,h5,rfl⟩⟩⟩⟩⟩⟩
def zI(f:Wf):List KV:=(P2.filter λ u=>decide (0<f u)).map λ u=>(u,f u)
theorem cC.zI{lim:I6}{l:List KV}{f:Wf}(h:cC lim l f)(hn:(l.map (·.1)).Nodup)(p:KV):p∈l<->p∈zI f:=by
  rw[h.mem hn];constructor
  · rintro⟨h1,h2⟩;exact List.mem_map.2 ⟨p.1,List.mem_filter.2 ⟨KA (h.s _ h1).1,dT h1⟩,Prod.ext rfl h2.symm⟩
  · intro hp;obtain⟨u,hu,rfl⟩:=List.mem_map.1 hp;exact⟨of_decide_eq_true (List.mem_filter.1 hu).2,rfl⟩
def vQ(k p:KV):KV:=(p.1.zip (λ x y=>if y>x then y else x) k.1,p.2+k.2)
def KC(v:Int)(p:KV):KV:=(p.1,if v<p.2 then v else p.2)
def zW:Wf:=λ _=>0
def F9(lim:I6)(f g:Wf):Wf:=bx lim f (zI g)
def Oc(lim:I6)(f g:Wf):Wf:=bx lim zW (zI f++(zI g++Cj (zI f) (zI g)))
def Qa(lim:I6)(k:KV)(g:Wf):Wf:=bx lim zW (zI g++([k]++(zI g).map (vQ k)))
def QY(lim:I6)(v:Int)(g:Wf):Wf:=bx lim zW ((zI g).map (KC v))
def kB(lim:I6):Xv->Wf
  | .mk op u v _ _ args =>
    if op=1 then bx lim zW [(u,v)]
    else if op=2 then (args.map (kB lim)).foldl (F9 lim) zW
    else if op=3 then (args.map (kB lim)).foldl (Oc lim) zW
    else if op=4 then Qa lim (u,v) ((args.map (kB lim)).headD zW)
    else if op=5 then QY lim v ((args.map (kB lim)).headD zW)
    else zW
theorem Fv(lim:I6)(x:Xv):kB lim x=if x.op=1 then bx lim zW [(x.u,x.v)]
    else if x.op=2 then (x.args.map (kB lim)).foldl (F9 lim) zW
    else if x.op=3 then (x.args.map (kB lim)).foldl (Oc lim) zW
    else if x.op=4 then Qa lim (x.u,x.v) ((x.args.map (kB lim)).headD zW)
    else if x.op=5 then QY lim x.v ((x.args.map (kB lim)).headD zW)
    else zW:=by cases x; rw[kB]; rfl
theorem PE(lim:I6):∀ x,kB lim x.er=kB lim x:=Xv.ind λ x ih=>by
  rw[Fv,Fv lim x,p7,List.map_map];have:x.args.map (kB lim ∘ Xv.er)=x.args.map (kB lim):=List.map_congr_left λ y hy=>ih y hy;rw[this,Xv.qN]; rfl
inductive Aa:Xv->Prop where
  | mk {x:Xv} (f:gq x=true) (r:gU x=true) (k:∀ y∈x.args,Aa y):Aa x
theorem N0{x:Xv}:oQ 0 x=0<->gq x=true/\gU x=true:=by
  unfold oQ
  cases gq x<;>cases gU x<;>simp
theorem yR:∀ (l:List Xv) (r:Int×Bool),r.2=false->fX dM l r=r
  | [],_,_=>rfl
  | y :: l,r,h=>by
    unfold fX;rw[List.foldl_cons,if_neg (by rw[h]; decide)];exact yR l r h
theorem N1:∀ (x:Xv),(bA dM x 0).2=((bA dM x 0).1==0):=Xv.ind λ x ih=>by
  rw[lS]
  by_cases h:(dM 0 x).2=true
  · rw[if_pos h];have h0:(dM 0 x).1=0:=by simpa[dM] using h
    rw[h0];have:∀ (l:List Xv),(∀ y∈l,(bA dM y 0).2=((bA dM y 0).1==0))->(fX dM l (0,true)).2=((fX dM l (0,true)).1==0):=λ l=>by
      induction l with
      | nil=>intro _; rfl
      | cons y l ih2 =>
        intro hl;have hy:=hl y (by simp);unfold fX;rw[List.foldl_cons,if_pos rfl]
        cases hb:(bA dM y 0).2 with
        | true =>
          have e0:(bA dM y 0).1=0:=by rw[hb] at hy; simpa using hy.symm
          have:bA dM y 0=(0,true):=Prod.ext e0 hb;rw[this]; exact ih2 λ z hz=>hl z (by simp[hz])
        | false =>
          have:=yR l (bA dM y 0) hb;unfold fX at this;rw[this]; exact hy
    exact this x.args ih
  · rw[if_neg h];show false=((dM 0 x).1==0);have:(dM 0 x).2=false:=by simpa using h
    rw[<- this]; rfl
theorem Nx:∀ (x:Xv),(bA dM x 0).1=0->Aa x:=Xv.ind λ x ih h=>by
  rw[lS] at h
  by_cases hb:(dM 0 x).2=true
  · rw[if_pos hb] at h;have h0:oQ 0 x=0:=by simpa[dM] using hb
    have h0' : (dM 0 x).1=0:=h0;rw[h0'] at h;obtain⟨hf,hr⟩:=N0.1 h0;refine .mk hf hr λ y hy=>ih y hy ?_;have:∀ (l:List Xv),(fX dM l (0,true)).1=0->∀ y∈l,(bA dM y 0).1=0:=λ l=>by
      induction l with
      | nil=>intro _ y hy; cases hy
      | cons z l ih2 =>
        intro hl y hy;unfold fX at hl;rw[List.foldl_cons,if_pos rfl] at hl;have hz:=N1 z
        cases hb:(bA dM z 0).2 with
        | true =>
          have e0:(bA dM z 0).1=0:=by rw[hb] at hz; simpa using hz.symm
          have ee:bA dM z 0=(0,true):=Prod.ext e0 hb;rw[ee] at hl;rcases List.mem_cons.1 hy with rfl | hy
          · exact e0
          · exact ih2 hl y hy
        | false =>
          have:=yR l (bA dM z 0) hb;unfold fX at this;rw[this] at hl;rw[hl,hb] at hz; cases hz
    exact this _ h y hy
  · rw[if_neg hb] at h;exact absurd (show(dM 0 x).2=true by show(oQ 0 x==0)=true; rw[show oQ 0 x=0 from h]; rfl) hb
theorem Kh{x:Xv}(h:eD x=0):Aa x:=by
  unfold eD at h
  split at h
  · cases h
  · split at h
    · cases h
    · exact Nx x h
section
variable {lim:I6}
def TY(lim:I6)(x:Xv):Prop:=∀ (w0 w:World) (B:aI),(∀ {w'},aF w0 w' []->x.In w')->St w0 w B ->
  CP 202 #[.agg x.cells.toArray,.agg lim.vs.toArray] w (λ v w'=>∃ r l,v=.map (some r)/\cC lim l (kB lim x)/\St w0 w' (star (mapA r l) B))
theorem xu{w0 w:World}{L:List aI}{x y:Xv}{r1 r2:Nat}{i:Nat}(H:TY lim y)(hx:∀ {w'},aF w0 w' []->x.In w')(s:St w0 w (Sep L)){j1 j2:Nat}(e1:L[j1]? = some (ah r1 x.cells.toArray 107))(e2:L[j2]? = some (ah r2 lim.vs.toArray 42))(hy:x.args[i]? = some y) :
    CP 225 #[iv i,pt r1,pt r2] w (λ v w'=>∃ r l,v=.map (some r)/\cC lim l (kB lim y)/\St w0 w' (Sep (mapA r l :: L))):=by
  refine ud ?_;unfold pO;have s1:=s.quiet (aF.drew w []);have hi:=(List.getElem?_eq_some_iff.1 hy).1;obtain⟨q,hq,hcl⟩:=(hx s1.aC).fl.at hy;refine⟨_,_,_,s1.ag j1 e1 8,aq hq ⟨by omega,by omega,_,y.u,_,_,_,_,by rw[Int.toNat_natCast]; exact hcl,lim,s1.cellsIn j2 e2,au (H w0 _ _ (λ hc=>(hx hc).sub y (List.mem_of_getElem? hy)) s1) ?_⟩⟩;rintro v w1 ⟨r,l,rfl,hr,s2⟩;exact⟨_,rfl,r,l,rfl,hr,s2⟩
theorem uH{α β:Type}{f:α->β->α}{a:α}{l:List β}{k:Nat}{x:β}(h:l[k]? = some x):(l.take (k+1)).foldl f a=f ((l.take k).foldl f a) x:=by rw[aO h,List.foldl_append]; rfl
theorem UU(hl:I6.Le lim 4):∀ x,Aa x->aT x<=100000->TY lim x:=Xv.ind λ x ih hg hz w0 w B hx s=>by
  refine wZ (u1:=x.u) ?_;unfold uc;have hlen:=xM x;obtain⟨hf,hrg,hk⟩:gq x=true/\gU x=true/\∀ y∈x.args,Aa y:=by cases hg; exact⟨‹_›,‹_›,‹_›⟩
  have eF:=Fv lim x;have HY:∀ y∈x.args,TY lim y:=λ y hy=>ih y hy (hk y hy) (by have:=zq hy; omega);refine s.one.aB x.cells.toArray λ r1 w1 s1=>s1.aB lim.vs.toArray λ r2 w2 s2=>uQ s2 λ r3 w3 c3 s3=>?_;let M:List KV->List aI:=λ l=>[mapA r3 l,ah r2 lim.vs.toArray 42,ah r1 x.cells.toArray 107,B];have s3:St w0 w3 (Sep (M [])):=St.PR s3;have fin:∀ {w' : World} {l:List KV},St w0 w' (Sep (M l))->St w0 w' (star (mapA r3 l) B):=λ s=>(s.aA [0,3]).pair;refine⟨λ m w4=>∃ r l,m=some r/\cC lim l (kB lim x)/\St w0 w4 (star (mapA r l) B),?_,_,s3.ag 2 rfl 0,?_⟩
  · rintro w4 m ⟨r,l,rfl,hr,s4⟩ -;exact⟨r,l,rfl,hr,s4⟩
  have hu:x.op≠2->x.op≠3->x.op≠5->I6.Le x.u 4:=λ h2 h3 h5=>by
    unfold gU at hrg;rw[if_neg (by rintro(h | h); exact h2 h; exact h3 h)] at hrg
    split at hrg
    · cases hrg
    · first | rw[if_neg h5] at hrg | skip
      rw[Bool.and_eq_true] at hrg;exact Jm hrg.1
  have hv:x.op≠2->x.op≠3->1<=x.v/\x.v<=1000000:=λ h2 h3=>by
    unfold gU at hrg;rw[if_neg (by rintro(h | h); exact h2 h; exact h3 h)] at hrg
    split at hrg
    · cases hrg
    · rename_i h; omega
  by_cases h1:x.op=1
  · rw[if_pos h1] at eF;refine cT (by simpa using h1) ⟨lim,s3.cellsIn 1 rfl,x.u,s3.aM 2 1 rfl rfl,_,s3.ag 2 rfl 7,au (lR s3 (cC.nil lim) hl (su (hu (by omega) (by omega) (by omega)) (by omega)) x.v) ?_⟩;rintro v w5 ⟨rfl,l',hr,s5⟩;exact⟨rfl,r3,l',rfl,by rw[eF]; exact hr,fin s5⟩
  rw[if_neg h1] at eF;refine cF (by simpa using h1) ?_
  by_cases h2:x.op=2
  · rw[if_pos h2] at eF;refine cT (by simpa using h2) ⟨_,_,_,s3.ag 2 rfl 8,λ i w6 m=>∃ (k:Nat) (l:List KV),i=k/\k<=x.args.length/\m=x.args.length-k/\cC lim l (((x.args.take k).map (kB lim)).foldl (F9 lim) zW)/\St w0 w6 (Sep (M l)),⟨x.args.length,0,[],rfl,by omega,by omega,cC.nil lim,s3⟩,?_⟩;rintro w6 m i ⟨k,l,rfl,hk1,hm,hr,s6⟩ -
    by_cases hlt:(k:Int)<(x.args.length:Int)
    · have hy:x.args[k]? = some (x.args[k]'(by omega)):=gE (by omega);generalize x.args[k]'(by omega)=y at hy;have s7:=s6.quiet (aF.drew w6 []);refine cT (dT hlt) ⟨lim,s7.cellsIn 1 rfl,au (xu (HY y (List.mem_of_getElem? hy)) hx s7 (j1:=2) (j2:=1) rfl rfl hy) ?_⟩;rintro v w7 ⟨r4,l4,rfl,hr4,s8⟩;have s8:St w0 w7 (Sep [mapA r4 l4,mapA r3 l,ah r2 lim.vs.toArray 42,ah r1 x.cells.toArray 107,B]):=s8;have hn4:=oN s8;refine⟨_,rfl,s8.cellsIn 2 rfl,au (ue (s8.aA [1,0,2,3,4]) hr hr4 hl) ?_⟩;rintro v w9 ⟨rfl,l5,hr5,s9⟩;have s9:St w0 w9 (Sep [mapA r3 l5,mapA r4 l4,ah r2 lim.vs.toArray 42,ah r1 x.cells.toArray 107,B]):=s9;refine⟨rfl,x.args.length-(k+1),by omega,k+1,l5,aG ⟨by omega,by omega⟩,by omega,rfl,?_,s9.aA [0,2,3,4]⟩;have e:((x.args.take (k+1)).map (kB lim)).foldl (F9 lim) zW=F9 lim (((x.args.take k).map (kB lim)).foldl (F9 lim) zW) (kB lim y):=by
        rw[aO hy,List.map_append,List.foldl_append]; rfl
      rw[e,F9,<- eJ (Q:=l4) λ p=>hr4.zI hn4 p]; exact hr5
    · obtain rfl:x.args.length=k:=by omega
      rw[List.take_length] at hr;exact cF (dF hlt) ⟨r3,l,rfl,by rw[eF]; exact hr,fin s6⟩
  rw[if_neg h2] at eF;refine cF (by simpa using h2) ?_
  by_cases h3:x.op=3
  · rw[if_pos h3] at eF;let M3:Nat->List KV->List aI:=λ r l=>[mapA r l,ah r2 lim.vs.toArray 42,ah r1 x.cells.toArray 107,B];refine cT (by simpa using h3) ⟨_,_,_,s3.ag 2 rfl 8,λ m i w6 k'=>∃ (k:Nat) (r:Nat) (l:List KV),m=some r/\i=k/\k<=x.args.length/\k' = x.args.length-k/\cC lim l (((x.args.take k).map (kB lim)).foldl (Oc lim) zW)/\St w0 w6 (Sep (M3 r l)),⟨x.args.length,0,r3,[],rfl,rfl,by omega,by omega,cC.nil lim,s3⟩,?_⟩;rintro w6 k' m i ⟨k,r,l,rfl,rfl,hk1,hm,hr,s6⟩ -
    by_cases hlt:(k:Int)<(x.args.length:Int)
    · have hy:x.args[k]? = some (x.args[k]'(by omega)):=gE (by omega);generalize x.args[k]'(by omega)=y at hy;have s7:=s6.quiet (aF.drew w6 []);have hn:=oN s7;refine cT (dT hlt) ⟨lim,s7.cellsIn 1 rfl,au (xu (HY y (List.mem_of_getElem? hy)) hx s7 (j1:=2) (j2:=1) rfl rfl hy) ?_⟩;rintro v w7 ⟨r4,l4,rfl,hr4,s8⟩;have s8:St w0 w7 (Sep [mapA r4 l4,mapA r l,ah r2 lim.vs.toArray 42,ah r1 x.cells.toArray 107,B]):=s8;have hn4:=oN s8;refine⟨_,rfl,s8.cellsIn 2 rfl,au (R4 (s8.aA [1,0,2,3,4]) hr hr4 hl) ?_⟩;rintro v w9 ⟨r5,l5,rfl,hr5,s9⟩;have s9:St w0 w9 (Sep [mapA r5 l5,mapA r l,mapA r4 l4,ah r2 lim.vs.toArray 42,ah r1 x.cells.toArray 107,B]):=s9;refine⟨_,rfl,x.args.length-(k+1),by omega,k+1,r5,l5,rfl,aG ⟨by omega,by omega⟩,by omega,rfl,?_,s9.aA [0,3,4,5]⟩;have e:((x.args.take (k+1)).map (kB lim)).foldl (Oc lim) zW=Oc lim (((x.args.take k).map (kB lim)).foldl (Oc lim) zW) (kB lim y):=by
        rw[aO hy,List.map_append,List.foldl_append]; rfl
      rw[e,Oc,<- eJ (Q:=l++(l4++Cj l l4)) λ p=>?_]; exact hr5;have e1:∀ p,p∈l<->p∈zI (((x.args.take k).map (kB lim)).foldl (Oc lim) zW):=λ p=>hr.zI hn p;have e2:∀ p,p∈l4<->p∈zI (kB lim y):=λ p=>hr4.zI hn4 p;have e3:p∈Cj l l4<->p∈Cj (zI (((x.args.take k).map (kB lim)).foldl (Oc lim) zW)) (zI (kB lim y)):=by
        rw[xm,xm];exact⟨λ ⟨a,ha,b,hb,h⟩=>⟨a,(e1 a).1 ha,b,(e2 b).1 hb,h⟩,λ ⟨a,ha,b,hb,h⟩=>⟨a,(e1 a).2 ha,b,(e2 b).2 hb,h⟩⟩
      rw[List.mem_append,List.mem_append,List.mem_append,List.mem_append,e1,e2,e3]
    · obtain rfl:x.args.length=k:=by omega
      rw[List.take_length] at hr;exact cF (dF hlt) ⟨r,l,rfl,by rw[eF]; exact hr,(s6.aA [0,3]).pair⟩
  rw[if_neg h3] at eF;refine cF (by simpa using h3) ?_;have one:x.op=4\/x.op=5->∃ y,x.args[0]? = some y/\(x.args.map (kB lim)).headD zW=kB lim y:=λ h=>by
    have h1' : x.args.length=1:=by
      unfold gq at hf;rw[if_neg h1,if_neg (by rintro(h | h); exact h2 h; exact h3 h)] at hf;rcases h with h | h
      · rw[if_pos h] at hf; simpa using hf
      · rw[if_neg (by omega),if_pos h,Bool.and_eq_true] at hf; simpa using hf.1
    cases ha:x.args with
    | nil=>rw[ha] at h1'; cases h1'
    | cons y l=>exact⟨y,rfl,rfl⟩
  have hv':=hv h2 h3
  by_cases h4:x.op=4
  · rw[if_pos h4] at eF;obtain⟨y,hy,ey⟩:=one (.inl h4);rw[ey] at eF;refine cT (by simpa using h4) (au (xu (i:=0) (HY y (List.mem_of_getElem? hy)) hx s3 (j1:=2) (j2:=1) rfl rfl hy) ?_);rintro v w12 ⟨r4,l4,rfl,hr4,s4⟩;have s4:St w0 w12 (Sep [mapA r4 l4,mapA r3 [],ah r2 lim.vs.toArray 42,ah r1 x.cells.toArray 107,B]):=s4;have hn4:=oN s4;refine⟨_,rfl,lim,s4.cellsIn 2 rfl,au (ue (s4.aA [1,0,2,3,4]) (cC.nil lim) hr4 hl) ?_⟩;rintro v w13 ⟨rfl,l5,hr5,s5⟩;have s5:St w0 w13 (Sep [mapA r3 l5,mapA r4 l4,ah r2 lim.vs.toArray 42,ah r1 x.cells.toArray 107,B]):=s5;have hxu:=hu (by omega) (by omega) (by omega);refine⟨rfl,lim,s5.cellsIn 2 rfl,x.u,s5.aM 3 1 rfl rfl,_,s5.ag 3 rfl 7,au (lR s5 hr5 hl (su hxu (by omega)) x.v) ?_⟩;rintro v w14 ⟨rfl,l6,hr6,s6⟩;rw[gT] at hr6;have s6:St w0 w14 (Sep [mapA r3 l6,mapA r4 l4,ah r2 lim.vs.toArray 42,ah r1 x.cells.toArray 107,B]):=s6;refine⟨rfl,lB Pq (s6.out 1 rfl) λ it w15 s7=>?_⟩;have s7:St w0 w15 (Sep [yF r4 it l4 [],mapA r3 l6,ah r2 lim.vs.toArray 42,ah r1 x.cells.toArray 107,B]):=s7;refine⟨λ w16 m=>∃ (S l' : List KV),m=l4.length-S.length/\(∀ p∈S,p∈l4)/\cC lim l' (bx lim zW ((l4++[(x.u,x.v)])++S.map (vQ (x.u,x.v))))/\St w0 w16 (Sep [yF r4 it l4 S,mapA r3 l',ah r2 lim.vs.toArray 42,ah r1 x.cells.toArray 107,B]),⟨_,[],l6,rfl,by simp,by rw[List.map_nil,List.append_nil]; exact hr6,s7⟩,?_⟩;rintro w16 m ⟨S,l',rfl,hS,hr,s8⟩ -;refine oP s8 (λ hend=>⟨r3,l',rfl,?_,?_⟩) (λ p hp hlen2 w18 s9=>?_)
    · rw[eF,Qa,<- eJ (Q:=(l4++[(x.u,x.v)])++S.map (vQ (x.u,x.v))) λ q=>?_]; exact hr;have e2:∀ q,q∈l4<->q∈zI (kB lim y):=λ q=>hr4.zI hn4 q;have e3:q∈S.map (vQ (x.u,x.v))<->q∈(zI (kB lim y)).map (vQ (x.u,x.v)):=by
        rw[List.mem_map,List.mem_map];exact⟨λ ⟨a,ha,h⟩=>⟨a,(e2 a).1 (hS a ha),h⟩,λ ⟨a,ha,h⟩=>⟨a,hend a ((e2 a).2 ha),h⟩⟩
      rw[List.mem_append,List.mem_append,List.mem_append,List.mem_append,e2,e3,or_assoc]
    · have t:St w0 w16 (Sep [mapA r4 l4,mapA r3 l',ah r2 lim.vs.toArray 42,ah r1 x.cells.toArray 107,B]):=St.yG s8;exact(t.aA [1,4]).pair
    · have s9:St w0 w18 (Sep [yF r4 it l4 (S++[p]),mapA r3 l',ah r2 lim.vs.toArray 42,ah r1 x.cells.toArray 107,B]):=s9;have hkp:=hr4.key hn4 hp;refine s9.aB z6.vs.toArray λ b4 w19 s10=>s10.aD 0 rfl p.1.vs rfl (I6.one _) λ w20 s11=>?_;have s12:=s11.quiet (aF.drew w20 []);refine⟨lim,s12.cellsIn 3 rfl,p.1,s12.cellsIn 0 rfl,x.u,s12.aM 4 1 rfl rfl,_,s12.ag 4 rfl 7,au (QW _ p.1 x.u) ?_⟩;rintro v w21 ⟨rfl,c21⟩;have s13:=s12.quiet c21;refine⟨_,rfl,s13.ag 4 rfl 7,s13.cellsIn 3 rfl,?_⟩;have hw:IntKind.i64.wrap (p.2+x.v)=p.2+x.v:=aG ⟨by omega,by omega⟩;show Calls _ _ #[_,_,_,iv (IntKind.i64.wrap (p.2+x.v))] _ _;rw[hw];have hj:I6.Le (vQ (x.u,x.v) p).1 1000000:=λ k hk=>by
        have q1:=hkp.1 k hk; have q2:=hxu k hk;show 0<=(p.1.zip _ x.u).at' k/\(p.1.zip _ x.u).at' k<=1000000;rw[I6.jC _ _ _ _ hk]
        split<;>omega
      refine au (lR (s13.out 2 rfl) hr hl (b:=(vQ (x.u,x.v) p).1) hj (vQ (x.u,x.v) p).2) ?_;rintro v w22 ⟨rfl,l'',hr2,s14⟩;have s15:=(s14.back (show 2<6 by decide)).aA [1,2,3,4,5];refine⟨rfl,_,?_,S++[p],l'',rfl,?_,?_,s15⟩
      · rw[List.length_append,List.length_singleton]; omega
      · intro q hq;rcases List.mem_append.1 hq with hq | hq
        · exact hS q hq
        · rw[List.mem_singleton.1 hq]; exact hp
      · rw[List.map_append,List.map_singleton,<- List.append_assoc,<- gT]; exact hr2
  rw[if_neg h4] at eF;refine cF (by simpa using h4) ?_
  by_cases h5:x.op=5
  · rw[if_pos h5] at eF;obtain⟨y,hy,ey⟩:=one (.inr h5);rw[ey] at eF;refine cT (by simpa using h5) (au (xu (i:=0) (HY y (List.mem_of_getElem? hy)) hx s3 (j1:=2) (j2:=1) rfl rfl hy) ?_);rintro v w12 ⟨r4,l4,rfl,hr4,s4⟩;have s4:St w0 w12 (Sep [mapA r4 l4,mapA r3 [],ah r2 lim.vs.toArray 42,ah r1 x.cells.toArray 107,B]):=s4;have hn4:=oN s4;refine⟨_,rfl,lB Pq s4 λ it w15 s7=>?_⟩;have s7:St w0 w15 (Sep [yF r4 it l4 [],mapA r3 [],ah r2 lim.vs.toArray 42,ah r1 x.cells.toArray 107,B]):=s7;refine⟨λ w16 m=>∃ (S l' : List KV),m=l4.length-S.length/\(∀ p∈S,p∈l4)/\cC lim l' (bx lim zW (S.map (KC x.v)))/\St w0 w16 (Sep [yF r4 it l4 S,mapA r3 l',ah r2 lim.vs.toArray 42,ah r1 x.cells.toArray 107,B]),⟨_,[],[],rfl,by simp,cC.nil lim,s7⟩,?_⟩;rintro w16 m ⟨S,l',rfl,hS,hr,s8⟩ -;refine oP s8 (λ hend=>⟨r3,l',rfl,?_,?_⟩) (λ p hp hlen2 w18 s9=>?_)
    · rw[eF,QY,<- eJ (Q:=S.map (KC x.v)) λ q=>?_]; exact hr;have e2:∀ q,q∈l4<->q∈zI (kB lim y):=λ q=>hr4.zI hn4 q;rw[List.mem_map,List.mem_map];exact⟨λ ⟨a,ha,h⟩=>⟨a,(e2 a).1 (hS a ha),h⟩,λ ⟨a,ha,h⟩=>⟨a,hend a ((e2 a).2 ha),h⟩⟩
    · have t:St w0 w16 (Sep [mapA r4 l4,mapA r3 l',ah r2 lim.vs.toArray 42,ah r1 x.cells.toArray 107,B]):=St.yG s8;exact(t.aA [1,4]).pair
    · have s9:St w0 w18 (Sep [yF r4 it l4 (S++[p]),mapA r3 l',ah r2 lim.vs.toArray 42,ah r1 x.cells.toArray 107,B]):=s9;have hkp:=hr4.key hn4 hp;refine s9.aB z6.vs.toArray λ b4 w19 s10=>s10.aD 0 rfl p.1.vs rfl (I6.one _) λ w20 s11=>?_;refine⟨lim,s11.cellsIn 3 rfl,p.1,s11.cellsIn 0 rfl,_,s11.ag 4 rfl 7,au (lR (s11.out 2 rfl) hr hl (b:=(KC x.v p).1) (su hkp.1 (by omega)) (KC x.v p).2) ?_⟩;rintro v w22 ⟨rfl,l'',hr2,s14⟩;have s15:=(s14.back (show 2<6 by decide)).aA [1,2,3,4,5];refine⟨rfl,_,?_,S++[p],l'',rfl,?_,?_,s15⟩
      · rw[List.length_append,List.length_singleton]; omega
      · intro q hq;rcases List.mem_append.1 hq with hq | hq
        · exact hS q hq
        · rw[List.mem_singleton.1 hq]; exact hp
      · rw[List.map_append,List.map_singleton,<- gT]; exact hr2
  · rw[if_neg h5] at eF;exact cF (by simpa using h5) ⟨r3,[],rfl,by rw[eF]; exact cC.nil lim,fin s3⟩
end
end Go.Proofs.YtjpbdjhaajdepaaGreatDoor

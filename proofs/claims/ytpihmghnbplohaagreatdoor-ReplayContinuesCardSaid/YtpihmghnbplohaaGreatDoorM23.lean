import Derived.Test.YtpihmghnbplohaaGreatDoorM15
import Derived.Test.YtpihmghnbplohaaGreatDoorM21
import Derived.Test.YtpihmghnbplohaaGreatDoorM22
set_option linter.unusedVariables false
set_option maxRecDepth 100000
namespace Go.Proofs.YtpihmghnbplohaaGreatDoor
open Go Go.Vc Tryz
theorem zk:aV dG=1:=by rw[fc]; rfl
theorem size_mk(op:Int)(u:I6)(v:Int)(a:OA)(c:Nat)(l:List Xv):aV (.mk op u v a c l)=1+(l.map aV).sum:=by rw[fc]; rfl
section
variable {g:Sc->Xv×Sc} (hg:∀ σ,aV (g σ).1+3*(g σ).2.1.length<=3*σ.1.length+2)
include hg
theorem Gn(σ:Sc):aV (fX g σ).1+3*(fX g σ).2.1.length<=3*σ.1.length+2:=by
  unfold fX; split
  · show aV dG+3*σ.1.length<=_; rw[zk]; omega
  · exact hg _
theorem CU:∀ (n:Nat) (acc:List Xv) (σ:Sc),((fY g n acc σ).1.map aV).sum+3*(fY g n acc σ).2.1.length<=(acc.map aV).sum+3*σ.1.length
  | 0,_,_=>Nat.le_refl _
  | n+1,acc,σ=>by
    rw[fY]
    split
    · rename_i hb;have h1:=CU n (acc++[(fX g (σ.acc [44])).1]) (fX g (σ.acc [44])).2;have h2:=Gn hg (σ.acc [44]);have h3:=Bb hb;rw[List.map_append,List.sum_append,List.map_singleton,List.sum_singleton] at h1;omega
    · exact Nat.le_refl _
theorem P9(ps:List Pr)(op:Int)(a1:Xv)(σ:Sc):aV (J7 ps g op a1 σ).1+3*(J7 ps g op a1 σ).2.1.length<=1+aV a1+3*σ.1.length:=by
  unfold J7
  split
  · have h1:=CU hg σ.1.length [a1] σ;have h2:=tY [41] (fY g σ.1.length [a1] σ).2;rw[List.map_singleton,List.sum_singleton] at h1;show aV (.mk _ _ _ _ _ _)+3*((fY g σ.1.length [a1] σ).2.exp [41]).1.length<=_;rw[size_mk]; omega
  · split
    · have h1:=pe ps (σ.exp [44]);have h2:=tY [44] σ;have h3:=tY [41] (bf ps (σ.exp [44])).2;show aV (.mk _ _ _ _ _ _)+3*((bf ps (σ.exp [44])).2.exp [41]).1.length<=_;rw[size_mk,List.map_singleton,List.sum_singleton]; omega
    · split
      · have h1:((σ.exp [44]).qc 1000000).1.length<=(σ.exp [44]).1.length:=xo _ _ _;have h2:=tY [44] σ;have h3:=tY [41] ((σ.exp [44]).qc 1000000);show aV (.mk _ _ _ _ _ _)+3*(((σ.exp [44]).qc 1000000).exp [41]).1.length<=_;rw[size_mk,List.map_singleton,List.sum_singleton]; omega
      · have h3:=tY [41] σ;show aV (.mk _ _ _ _ _ _)+3*(σ.exp [41]).1.length<=_;rw[size_mk,List.map_singleton,List.sum_singleton]; omega
end
theorem E1(ps:List Pr):∀ (f:Nat) (σ:Sc),aV (fJ ps f σ).1+3*(fJ ps f σ).2.1.length<=3*σ.1.length+2
  | 0,σ=>by show aV dG+_<=_; rw[zk]; show 1+3*σ.1.length<=_; omega
  | f+1,σ=>by
    rw[fJ]
    split
    · have h1:=pe ps (vO σ);have h2:=EZ σ;show aV (.mk _ _ _ _ _ _)+3*(bf ps (vO σ)).2.1.length<=_;rw[size_mk]; simp only[List.map_nil,List.sum_nil]; omega
    · rename_i h1;have hR:=P9 (E1 ps f) ps (bR (aT σ.1 σ.2)) (fX (fJ ps f) (zq σ)).1 (fX (fJ ps f) (zq σ)).2
      by_cases he:(zq σ).2=0
      · have h2:=J4 h1 he;have h3:=Gn (E1 ps f) (zq σ);omega
      · have h2:=E0 σ;have h3:fX (fJ ps f) (zq σ)=(dG,zq σ):=by rw[fX,if_pos he]
        rw[h3] at hR ⊢;rw[zk] at hR;have h4:(dG,zq σ).2.1.length=(zq σ).1.length:=rfl;omega
def bF(ps:List Pr)(t:List UInt8):Xv×Int :=
  if (bM t).2≠0 then (dG,(bM t).2)
  else if Dc (fJ ps ((bM t).1.length+1) ((bM t).1,0)).2.1 (fJ ps ((bM t).1.length+1) ((bM t).1,0)).2.2≠0 then (dG,Dc (fJ ps ((bM t).1.length+1) ((bM t).1,0)).2.1 (fJ ps ((bM t).1.length+1) ((bM t).1,0)).2.2)
  else if dM (fJ ps ((bM t).1.length+1) ((bM t).1,0)).1≠0 then (dG,dM (fJ ps ((bM t).1.length+1) ((bM t).1,0)).1)
  else ((fJ ps ((bM t).1.length+1) ((bM t).1,0)).1,0)
theorem ze(l:List UInt8):∀ (f n:Nat) (acc:List Tk),(zM l f n acc).1.length<=acc.length+f
  | 0,_,_=>Nat.le_refl _
  | f+1,n,acc=>by
    rw[zM]
    split
    · simp
    · split
      · exact Nat.le_trans (ze l f _ _) (by omega)
      · split
        · simp
        · have:=ze l f (n+(eX l n ‹UInt8›).1.t.length) (acc++[(eX l n ‹UInt8›).1]);simp only[List.length_append,List.length_singleton] at this;omega
theorem Oq(l:List UInt8):(bM l).1.length<=4000:=by
  unfold bM
  split
  · simp
  · have:=ze l l.length 0 [];simp only[List.length_nil] at this;omega
theorem EC(w:World):dG.In w:=.mk (λ i y hy=>by simp[dG,Xv.args] at hy) (λ y hy=>by simp[dG,Xv.args] at hy)
theorem NH{w:World}{a:OA}{c:Nat}{l:List Pr}(hr:dL w a l)(hc:l.length<=c)(ho:cY l)(t:List UInt8) :
    CP 153 #[.slice a l.length c,sv t] w (λ r w'=>∃ x:Xv,x.er=(bF l t).1/\r=.tuple #[.agg x.cells.toArray,iv (bF l t).2]/\St w w' (held x.In)):=by
  refine rX ?_;unfold nP;refine(St.start w).one.ax dG.cells.toArray λ r1 w1 s1=>aj (xG (hr.av s1.av) hc) ?_;rintro v w2 ⟨⟨e,rfl,hee⟩,c2⟩;obtain rfl:=hee.2 ho;have s2:=s1.quiet c2;have bad:∀ {k:Int} {w' : World} {m:List aD} {i:Nat} {cs:Array Value},St w w' (Sep m)->m[i]? = some (ai r1 cs 109)->cs.size=9->bF l t=(dG,k) ->
      aQ ⟨r1,0,none⟩ 0 dG.cells w' λ w3=>∃ (n2:Int) (u1:I6) (n3:Int) (a2:OA) (l2 c2:Nat),af w3 ⟨r1,0,none⟩ 0 (iv n2 :: u1.on [iv n3,.slice a2 l2 c2]) /\
        ∃ x:Xv,x.er=(bF l t).1/\Value.tuple #[.agg (iv n2 :: u1.on [iv n3,.slice a2 l2 c2]:List Value).toArray,iv k]=.tuple #[.agg x.cells.toArray,iv (bF l t).2]/\St w w3 (held x.In):=λ {k w' m i cs} s e hs hp =>
    s.aA i e dG.cells (by rw[hs]; rfl) (Xv.one _) λ w3 s3=>⟨_,z6,_,_,_,_,s3.cellsIn (cs:=dG.cells.toArray) (T:=109) i (List.getElem?_set_self (dO e)),dG,by rw[hp,Ge],by rw[hp]; rfl,((St.start' s3.av).one.su EC).first⟩
  refine⟨_,rfl,cF rfl (aj (L2 t) ?_)⟩;rintro v w4 ⟨a3,c3,rfl,k4⟩;have s4:St w w4 (Sep [_,_,_]):=s2.and k4;have ht:=Oq t;refine⟨_,_,_,_,rfl,?_⟩
  by_cases h1:(bM t).2=0
  · have rd:=St.rd Tk.len s4;refine cF (by simpa using h1) (aj (IB s4 rd ht) ?_);rintro v w6 ⟨p,rfl,h6⟩;have h6:fI w w6 p ((bM t).1,0) (Sep [bW 357 4 Tk.cells a3 c3 (bM t).1,ai r1 dG.cells.toArray 109,emp]):=h6;refine⟨_,rfl,(St.start w6).one.ax #[.slice none 0 0,.pointer none] λ r2 w7 s7=>s7.aA 0 rfl [.slice a l.length c,pt p] rfl (by simp[Value.oneCell']) λ w8 s8=>⟨_,_,_,_,s8.cellsIn 0 rfl,?_⟩⟩;have h8:=h6.add s8;refine aj (Kc (λ hc=>hr.av hc) hc ho ((bM t).1.length+1) _ ((bM t).1,0) w8 (Nat.lt_succ_self _) h8) ?_;have hsz:=E1 l ((bM t).1.length+1) ((bM t).1,0);have hP:bF l t=if Dc (fJ l ((bM t).1.length+1) ((bM t).1,0)).2.1 (fJ l ((bM t).1.length+1) ((bM t).1,0)).2.2≠0 then (dG,Dc (fJ l ((bM t).1.length+1) ((bM t).1,0)).2.1 (fJ l ((bM t).1.length+1) ((bM t).1,0)).2.2)
        else if dM (fJ l ((bM t).1.length+1) ((bM t).1,0)).1≠0 then (dG,dM (fJ l ((bM t).1.length+1) ((bM t).1,0)).1)
        else ((fJ l ((bM t).1.length+1) ((bM t).1,0)).1,0):=by rw[bF,if_neg (by simpa using h1)]
    generalize fJ l ((bM t).1.length+1) ((bM t).1,0)=R at hsz hP ⊢;rintro v w9 ⟨x,ex,rfl,h9⟩;have hsx:aV x<=100000:=by
      rw[<- Hp x,ex];have:(bM t).1.length<=4000:=ht;simp only at hsz;omega
    refine⟨_,x.u,_,_,_,_,rfl,(St.start w9).one.ax dG.cells.toArray λ r3 w10 s10=>s10.aA 0 rfl x.cells rfl (Xv.one _) λ w11 s11=>?_⟩;have h11:fI w w11 p R.2 (star (Sep [ai r3 x.cells.toArray 109,emp]) (star (held x.In) (star (Sep [ai r2 #[.slice a l.length c,pt p] 316,emp]) (Sep [bW 357 4 Tk.cells a3 c3 (bM t).1,ai r1 dG.cells.toArray 109,emp])))):=h9.add s11;have fl:St w w11 (Sep [ai r3 x.cells.toArray 109,emp,held x.In,ai r2 #[.slice a l.length c,pt p] 316,emp,bW 357 4 Tk.cells a3 c3 (bM t).1,ai r1 dG.cells.toArray 109,emp]):=by
      have t1:=h11.frame;exact t1.eqv ((aS.right (aS.right (aS.cat [_,_]))).trans (aS.cat (m:=held x.In :: _) [_,_]))
    refine⟨_,fl.ag 3 rfl 1,aj (Q4 h11) ?_⟩;rintro v w12 ⟨rfl,rfl⟩;refine⟨_,rfl,?_⟩
    by_cases h2:Dc R.2.1 R.2.2=0
    · rw[if_neg (by simpa using h2)] at hP;have hin:x.In w12:=fl.iP 2 rfl;refine cF (by simpa using h2) ⟨_,x.u,_,_,_,_,fl.cellsIn 0 rfl,aj (EA hsx hin) ?_⟩;rintro v w14 ⟨rfl,c14⟩;have t14:=fl.quiet c14;have hxe:dM x=dM R.1:=by rw[<- ex,xI]
      refine⟨_,rfl,?_⟩
      by_cases h3:dM x=0
      · rw[if_neg (by rw[<- hxe]; simpa using h3)] at hP;exact cF (by simpa using h3) ⟨_,x.u,_,_,_,_,t14.cellsIn 0 rfl,t14.aA 6 rfl x.cells rfl (Xv.one _) λ w16 t16=>⟨_,x.u,_,_,_,_,t16.cellsIn 6 rfl,x,by rw[hP,ex],by rw[hP]; rfl,(t16.out 2 rfl).first⟩⟩
      · rw[if_pos (by rw[<- hxe]; exact h3),<- hxe] at hP;exact cT (by simpa using h3) (bad t14 (i:=6) rfl rfl hP)
    · rw[if_pos h2] at hP;exact cT (by simpa using h2) (bad fl (i:=6) rfl rfl hP)
  · exact cT (by simpa using h1) (bad s4 (i:=1) rfl rfl (by rw[bF,if_pos h1]))
abbrev Wf:=I6->Int
def pJ(v:Int):Int:=if 1000000<v then 1000000 else v
def iW(lim:I6)(f:Wf)(p:KV):Wf:=λ w=>if w=p.1/\pJ p.2>f p.1/\within p.1 lim=true then pJ p.2 else f w
def bu(lim:I6)(f:Wf)(Q:List KV):Wf:=Q.foldl (iW lim) f
theorem IK{lim:I6}{f:Wf}{p:KV}{w:I6}{n:Int}:iW lim f p w<=n<->f w<=n/\(p.1=w->within w lim=true->pJ p.2<=n):=by
  unfold iW
  split
  · rename_i h;obtain⟨rfl,h1,h2⟩:=h;exact⟨λ h=>⟨by omega,λ _ _=>h⟩,λ h=>h.2 rfl h2⟩
  · rename_i h;refine⟨λ hn=>⟨hn,λ e hw=>?_⟩,λ h=>h.1⟩;subst e
    by_cases hc:pJ p.2>f p.1
    · exact absurd ⟨rfl,hc,hw⟩ h
    · omega
theorem kM{lim:I6}:∀ {Q:List KV} {f:Wf} {w:I6} {n:Int},bu lim f Q w<=n<->f w<=n/\∀ p∈Q,p.1=w->within w lim=true->pJ p.2<=n
  | [],f,w,n=>by simp[bu]
  | p :: Q,f,w,n=>by
    show bu lim (iW lim f p) Q w<=n<->_;rw[kM,IK];constructor
    · rintro⟨⟨h1,h2⟩,h3⟩;refine⟨h1,λ q hq=>?_⟩;rcases List.mem_cons.1 hq with rfl | hq
      · exact h2
      · exact h3 q hq
    · rintro⟨h1,h2⟩;exact⟨⟨h1,h2 p (by simp)⟩,λ q hq=>h2 q (by simp[hq])⟩
theorem dP{lim:I6}{f:Wf}{Q Q' : List KV}(h:∀ p,p∈Q<->p∈Q'):bu lim f Q=bu lim f Q':=by
  funext w
  refine Int.le_antisymm (kM.2 ?_) (kM.2 ?_)
  · have:=(kM (lim:=lim) (f:=f) (Q:=Q') (w:=w) (n:=bu lim f Q' w)).1 (Int.le_refl _);exact⟨this.1,λ p hp=>this.2 p ((h p).1 hp)⟩
  · have:=(kM (lim:=lim) (f:=f) (Q:=Q) (w:=w) (n:=bu lim f Q w)).1 (Int.le_refl _);exact⟨this.1,λ p hp=>this.2 p ((h p).2 hp)⟩
theorem gA{lim:I6}{f:Wf}{Q:List KV}{p:KV}:iW lim (bu lim f Q) p=bu lim f (Q++[p]):=by
  rw[bu,bu,List.foldl_append]; rfl
theorem FD{lim:I6}{f:Wf}{Q R:List KV}:bu lim (bu lim f Q) R=bu lim f (Q++R):=by
  rw[bu,bu,bu,List.foldl_append]
structure cj (lim:I6) (l:List KV) (f:Wf):Prop where
  v:∀ u,jg l u=if 0<f u then some (f u) else none
  le:∀ u,f u<=1000000
  z:∀ u,0<=f u
  s:∀ u,0<f u->I6.Le u 4/\within u lim=true
theorem cj.nil(lim:I6):cj lim [] λ _=>0:=⟨λ u=>rfl,λ u=>by omega,λ u=>by omega,λ u h=>by omega⟩
theorem cj.get{lim:I6}{l:List KV}{f:Wf}(h:cj lim l f)(u:I6):(jg l u).getD 0=f u:=by
  rw[h.v]
  split
  · rfl
  · have:=h.z u; show 0=f u; omega
theorem cj.mem{lim:I6}{l:List KV}{f:Wf}(h:cj lim l f)(hn:(l.map (·.1)).Nodup)(p:KV):p∈l<->0<f p.1/\p.2=f p.1:=by
  constructor
  · intro hp;have h1:=Ma hn hp;rw[h.v] at h1
    split at h1
    · rename_i h2; exact⟨h2,by injection h1 with h1; exact h1.symm⟩
    · cases h1
  · rintro⟨h1,h2⟩;have h3:=h.v p.1;rw[if_pos h1] at h3;have:=AZ h3;obtain⟨a,b⟩:=p;simp only at h2 this;rw[h2]; exact this
theorem cj.raise{lim:I6}{l:List KV}{f:Wf}(h:cj lim l f)(hl:I6.Le lim 4){p:KV}(hp:I6.Le p.1 1000000) :
    cj lim (if pJ p.2>f p.1/\within p.1 lim=true then wo l p.1 (pJ p.2) else l) (iW lim f p):=by
  by_cases g:pJ p.2>f p.1/\within p.1 lim=true
  · rw[if_pos g];have hz:=h.z p.1;have e:∀ u,iW lim f p u=if u=p.1 then pJ p.2 else f u:=λ u=>by
      unfold iW
      by_cases hu:u=p.1
      · rw[if_pos ⟨hu,g⟩,if_pos hu]
      · rw[if_neg (λ h=>hu h.1),if_neg hu]
    refine⟨λ u=>?_,λ u=>?_,λ u=>?_,λ u=>?_⟩
    · rw[Mb,e]
      by_cases hu:u=p.1
      · rw[if_pos hu,if_pos hu,if_pos (by omega)]
      · rw[if_neg hu,if_neg hu,h.v]
    · rw[e]; split
      · unfold pJ; split<;>omega
      · exact h.le u
    · rw[e]; split
      · omega
      · exact h.z u
    · rw[e]; split
      · rename_i hu; subst hu; intro _;refine⟨λ k hk=>?_,g.2⟩;have h1:=hp k hk;have h2:=within_iff.1 g.2 k hk;have h3:=hl k hk;omega
      · exact h.s u
  · rw[if_neg g];have e:iW lim f p=f:=by
      funext u
      unfold iW;rw[if_neg (λ h=>g h.2)]
    rw[e]; exact h
theorem OU:RF prog 371 41 2 where
  u:=underlying371
  k:=⟨_,underlying41⟩
  z:=by kernel_rfl
  eq u v:=by kernel_rfl
  ck b u w:=by
    obtain⟨i,hi,_,_,_⟩:=Sq.i;have hc:(prog).cellsOf 3=1:=by kernel_rfl
    have hsz:∀ w,(Go.sizeOf 3).run prog w=.ok 1 w:=λ w=>by rw[run_sizeOf w hi,hc]
    have hpart:∀ (w:World) (j:Nat),j<6->(part 3 u.vs.toArray (j*1)).run prog w=.ok (iv (u.at' j)) w:=λ w j hj=>by
      have:=u.get j hj;simp only[Nat.mul_one] at this ⊢;simp[part,isAgg,aI underlying3,this]
    rw[show(10000:Nat)=9999+1 from rfl,Instr.checkKey];simp only[Sem.run_bind,run_underlying underlying41,Result.andThen_ok];simp only[Std.Legacy.Range.forIn_eq_forIn_range',Std.Legacy.Range.size,Nat.sub_zero,Nat.add_one_sub_one,Nat.div_one];have each:∀ j∈List.range' 0 6,j<6:=λ j hj=>by simpa using hj
    generalize List.range' 0 6=is at each
    induction is with
    | nil=>simp
    | cons j is ih =>
      have p1:=hpart w j (each j (by simp));have p2:=lT (P:=prog) underlying3 b 9998 (u.at' j) w;simp only[List.forIn_cons,Sem.run_bind,hsz,Result.andThen_ok,p1,p2,Sem.run_pure];exact ih λ y hy=>each y (by simp[hy])
section
variable {w0 w:World} {B:aD} {r r2:Nat} {l l2:List KV} {lim:I6} {f g:Wf}
theorem oc(s:St w0 w (star (mapA r l) B)):(l.map (·.1)).Nodup:=by
  obtain⟨x,_⟩:=s.ex;exact x.2.ky
theorem cj.key(h:cj lim l f)(hn:(l.map (·.1)).Nodup){p:KV}(hp:p∈l):I6.Le p.1 4/\0<p.2/\p.2<=1000000:=by
  have h1:=(h.mem hn p).1 hp;have:=h.le p.1;exact⟨(h.s p.1 h1.1).1,by omega,by omega⟩
theorem kZ(s:St w0 w (star (mapA r l) B))(h:cj lim l f)(hl:I6.Le lim 4){b:I6}(hb:I6.Le b 1000000)(v:Int) :
    CP 277 #[.map (some r),.agg lim.vs.toArray,.agg b.vs.toArray,iv v] w (λ x w'=>x=.tuple #[]/\∃ l',cj lim l' (iW lim f (b,v))/\St w0 w' (star (mapA r l') B)):=by
  refine jo ?_;unfold fj;refine(s.vn).ax lim.vs.toArray λ r1 w1 s1=>s1.ax b.vs.toArray λ r2 w2 s2=>?_;have hr:=h.raise hl (p:=(b,v)) hb;have back:∀ {w' : World} {l' : List KV},St w0 w' (Sep [ai r2 b.vs.toArray 41,ai r1 lim.vs.toArray 41,mapA r l',B])->St w0 w' (star (mapA r l') B):=λ s=>(s.aq [2,3]).pair;refine⟨λ x w3=>x=decide (pJ v>f b/\within b lim=true)/\St w0 w3 (Sep [ai r2 b.vs.toArray 41,ai r1 lim.vs.toArray 41,mapA r l,B]),?_,b,s2.cellsIn 0 rfl,?_⟩
  · rintro w3 _ ⟨rfl,s3⟩ -
    by_cases g:pJ v>f b/\within b lim=true
    · rw[if_pos g] at hr;refine cT (dT g) ⟨b,s3.cellsIn 0 rfl,NN OU (s3.out 2 rfl) b (pJ v) λ w4 s4=>⟨rfl,_,hr,?_⟩⟩;exact back (s4.back (show 2<4 by decide))
    · rw[if_neg g] at hr;exact cF (dF g) ⟨rfl,_,hr,back s3⟩
  · refine DG OU (s2.out 2 rfl) b ?_;rw[h.get]
    by_cases g1:pJ v>f b
    · refine cT (dT g1) ⟨b,s2.cellsIn 0 rfl,lim,s2.cellsIn 1 rfl,aj (tG _ _ _) ?_⟩;rintro x w6 ⟨rfl,c6⟩;refine⟨_,rfl,?_,s2.quiet c6⟩
      cases hw:within b lim with
      | true=>rw[dT (p:=pJ v>f b/\true=true) ⟨g1,rfl⟩]
      | false=>rw[dF (p:=pJ v>f b/\false=true) (λ h=>by cases h.2)]
    · exact cF (dF g1) ⟨by rw[dF (λ h=>g1 h.1)],s2⟩
theorem tD(s:St w0 w (star (mapA r l) (star (mapA r2 l2) B)))(h:cj lim l f)(h2:cj lim l2 g)(hl:I6.Le lim 4) :
    CP 278 #[.map (some r),.agg lim.vs.toArray,.map (some r2)] w (λ x w'=>x=.tuple #[]/\∃ l',cj lim l' (bu lim f l2)/\St w0 w' (star (mapA r l') (star (mapA r2 l2) B))):=by
  refine jn ?_;unfold fh;have hn2:=oc s.AJ;refine(s.pF).ax lim.vs.toArray λ r1 w1 s1=>kN OU (s1.out 2 rfl) λ it w2 s2=>?_;have s2:St w0 w2 (Sep [yd r2 it l2 [],ai r1 lim.vs.toArray 41,mapA r l,B]):=s2;refine⟨λ w3 m=>∃ (S l' : List KV),m=l2.length-S.length/\(∀ p∈S,p∈l2)/\cj lim l' (bu lim f S)/\St w0 w3 (Sep [yd r2 it l2 S,ai r1 lim.vs.toArray 41,mapA r l',B]),⟨_,[],l,rfl,by simp,h,s2⟩,?_⟩;rintro w3 m ⟨S,l',rfl,hS,hr,s3⟩ -;refine od s3 (λ hend=>⟨rfl,l',?_,?_⟩) (λ p hp hlen w4 s4=>?_)
  · rw[dP (Q:=l2) (Q':=S) λ p=>⟨hend p,hS p⟩]; exact hr
  · have s5:St w0 w3 (Sep [mapA r2 l2,ai r1 lim.vs.toArray 41,mapA r l',B]):=St.ye s3;exact(s5.aq [2,0,3]).triple
  · have s4:St w0 w4 (Sep [yd r2 it l2 (S++[p]),ai r1 lim.vs.toArray 41,mapA r l',B]):=s4;have hk:=h2.key hn2 hp;refine s4.ax z6.vs.toArray λ r3 w6 s6=>s6.aA 0 rfl p.1.vs rfl (I6.one _) λ w7 s7=>⟨lim,s7.cellsIn 2 rfl,p.1,s7.cellsIn 0 rfl,aj (kZ (s7.out 3 rfl) hr hl (rq hk.1 (by omega)) p.2) ?_⟩;rintro x w8 ⟨rfl,l'',hr2,s8⟩;have s9:=(s8.back (show 3<5 by decide)).aq [1,2,3,4];refine⟨rfl,_,?_,S++[p],l'',rfl,?_,?_,s9⟩
    · rw[List.length_append,List.length_singleton]; omega
    · intro q hq;rcases List.mem_append.1 hq with hq | hq
      · exact hS q hq
      · rw[List.mem_singleton.1 hq]; exact hp
    · rw[<- gA]; exact hr2
end
section
variable {w0 w:World} {B:aD} {r r1 r2:Nat} {l l1 l2:List KV} {lim:I6} {f g:Wf}
theorem St.Pj(s:St w0 w (star (aK r (.map #[] 0)) B)):St w0 w (star (mapA r []) B) :=
  St.kK (f:=λ (x:{ p:Array MapEntry×Nat // CG p.1.toList p.2 [] })=>aK r (.map x.1.1 x.1.2)) ⟨(#[],0),rfl,by simp,by simp,by simp⟩ s
def xh(p q:KV):KV:=(p.1.zip (· + ·) q.1,p.2+q.2)
def B8(l1 l2:List KV):List KV:=l1.flatMap λ p=>l2.map (xh p)
theorem wL{l1 l2:List KV}{x:KV}:x∈B8 l1 l2<->∃ p∈l1,∃ q∈l2,xh p q=x:=by simp[B8]
theorem Mp{p q:KV}(hp:I6.Le p.1 4)(hq:I6.Le q.1 4):I6.Le (xh p q).1 1000000:=λ k hk=>by
  have h1:=hp k hk; have h2:=hq k hk;show 0<=(p.1.zip (· + ·) q.1).at' k/\_;rw[I6.jh _ _ _ _ hk];show 0<=p.1.at' k+q.1.at' k/\(p.1.zip (· + ·) q.1).at' k<=1000000;rw[I6.jh _ _ _ _ hk];omega
theorem Rs(s:St w0 w (star (mapA r1 l1) (star (mapA r2 l2) B)))(h1:cj lim l1 f)(h2:cj lim l2 g)(hl:I6.Le lim 4) :
    CP 279 #[.agg lim.vs.toArray,.map (some r1),.map (some r2)] w (λ x w'=>∃ r3 l3,x=.map (some r3)/\cj lim l3 (bu lim (λ _=>0) (l1++(l2++B8 l1 l2)))/\St w0 w' (star (mapA r3 l3) (star (mapA r1 l1) (star (mapA r2 l2) B)))):=by
  refine uN ?_;unfold qv;have hn1:=oc s;have hn2:=oc s.AJ;refine(s.pF).ax lim.vs.toArray λ b1 w1 s1=>uk s1 λ r3 w2 c2 s2=>?_;have s3:St w0 w2 (Sep [mapA r3 [],ai b1 lim.vs.toArray 41,mapA r1 l1,mapA r2 l2,B]):=St.Pj s2;refine⟨lim,s3.cellsIn 1 rfl,aj (tD (f:=λ _=>0) (g:=f) (s3.aq [0,2,1,3,4]) (cj.nil lim) h1 hl) ?_⟩;rintro x w3 ⟨rfl,l4,hr4,s4⟩;have s4:St w0 w3 (Sep [mapA r3 l4,mapA r1 l1,ai b1 lim.vs.toArray 41,mapA r2 l2,B]):=s4;refine⟨rfl,lim,s4.cellsIn 2 rfl,aj (tD (g:=g) (s4.aq [0,3,1,2,4]) hr4 h2 hl) ?_⟩;rintro x w5 ⟨rfl,l5,hr5,s5⟩;rw[FD] at hr5;have s5:St w0 w5 (Sep [mapA r3 l5,mapA r2 l2,mapA r1 l1,ai b1 lim.vs.toArray 41,B]):=s5;refine⟨rfl,kN OU (s5.out 2 rfl) λ it w6 s6=>?_⟩;have s6:St w0 w6 (Sep [yd r1 it l1 [],mapA r3 l5,mapA r2 l2,ai b1 lim.vs.toArray 41,B]):=s6;refine⟨λ w7 m=>∃ (S l' : List KV),m=l1.length-S.length/\(∀ p∈S,p∈l1)/\cj lim l' (bu lim (λ _=>0) ((l1++l2)++B8 S l2))/\St w0 w7 (Sep [yd r1 it l1 S,mapA r3 l',mapA r2 l2,ai b1 lim.vs.toArray 41,B]),⟨_,[],l5,rfl,by simp,by simpa[B8] using hr5,s6⟩,?_⟩;rintro w7 m ⟨S,l',rfl,hS,hr,s7⟩ -;refine od s7 (λ hend=>⟨r3,l',rfl,?_,?_⟩) (λ p hp hlen w8 s8=>?_)
  · rw[dP (Q:=l1++(l2++B8 l1 l2)) (Q':=(l1++l2)++B8 S l2) λ x=>?_]; exact hr;have:x∈B8 l1 l2<->x∈B8 S l2:=by
      rw[wL,wL];exact⟨λ ⟨p,h1,h2⟩=>⟨p,hend p h1,h2⟩,λ ⟨p,h1,h2⟩=>⟨p,hS p h1,h2⟩⟩
    rw[List.mem_append,List.mem_append,List.mem_append,List.mem_append,this,or_assoc]
  · have t:St w0 w7 (Sep [mapA r1 l1,mapA r3 l',mapA r2 l2,ai b1 lim.vs.toArray 41,B]):=St.ye s7;exact(t.aq [1,0,2,4]).eqv (aS.right (aS.right (aS.right (aS.unit' _))))
  · have s8:St w0 w8 (Sep [yd r1 it l1 (S++[p]),mapA r3 l',mapA r2 l2,ai b1 lim.vs.toArray 41,B]):=s8;have hk:=h1.key hn1 hp;refine s8.ax z6.vs.toArray λ b3 w9 s9=>s9.aA 0 rfl p.1.vs rfl (I6.one _) λ w10 s10=>kN OU (s10.out 3 rfl) λ it2 w11 s11=>?_;have s11:St w0 w11 (Sep [yd r2 it2 l2 [],ai b3 p.1.vs.toArray 41,yd r1 it l1 (S++[p]),mapA r3 l',ai b1 lim.vs.toArray 41,B]):=s11;refine⟨λ w12 m=>∃ (T l' : List KV),m=l2.length-T.length/\(∀ q∈T,q∈l2)/\cj lim l' (bu lim (λ _=>0) (((l1++l2)++B8 S l2)++T.map (xh p)))/\St w0 w12 (Sep [yd r2 it2 l2 T,ai b3 p.1.vs.toArray 41,yd r1 it l1 (S++[p]),mapA r3 l',ai b1 lim.vs.toArray 41,B]),⟨_,[],l',rfl,by simp,by simpa using hr,s11⟩,?_⟩;rintro w12 m ⟨T,l',rfl,hT,hr,s12⟩ -;refine od s12 (λ hend=>?_) (λ q hq hlen2 w14 s14=>?_)
    · have t:St w0 w12 (Sep [mapA r2 l2,ai b3 p.1.vs.toArray 41,yd r1 it l1 (S++[p]),mapA r3 l',ai b1 lim.vs.toArray 41,B]):=St.ye s12;refine⟨_,?_,S++[p],l',rfl,?_,?_,t.aq [2,3,0,4,5]⟩
      · rw[List.length_append,List.length_singleton]; omega
      · intro q hq;rcases List.mem_append.1 hq with hq | hq
        · exact hS q hq
        · rw[List.mem_singleton.1 hq]; exact hp
      · rw[dP (Q:=(l1++l2)++B8 (S++[p]) l2) (Q':=((l1++l2)++B8 S l2)++T.map (xh p)) λ x=>?_]; exact hr;have e1:B8 (S++[p]) l2=B8 S l2++l2.map (xh p):=by simp[B8]
        have e2:x∈l2.map (xh p)<->x∈T.map (xh p):=by
          rw[List.mem_map,List.mem_map];exact⟨λ ⟨q,h1,h2⟩=>⟨q,hend q h1,h2⟩,λ ⟨q,h1,h2⟩=>⟨q,hT q h1,h2⟩⟩
        rw[e1,<- List.append_assoc,List.mem_append,List.mem_append (t:=T.map (xh p)),e2]
    · have s14:St w0 w14 (Sep [yd r2 it2 l2 (T++[q]),ai b3 p.1.vs.toArray 41,yd r1 it l1 (S++[p]),mapA r3 l',ai b1 lim.vs.toArray 41,B]):=s14;have hk2:=h2.key hn2 hq;refine s14.ax z6.vs.toArray λ b5 w15 s15=>s15.aA 0 rfl q.1.vs rfl (I6.one _) λ w16 s16=>?_;have s17:=s16.quiet (az.drew w16 []);refine⟨lim,s17.cellsIn 5 rfl,p.1,s17.cellsIn 2 rfl,q.1,s17.cellsIn 0 rfl,aj (RH _ p.1 q.1 (rq hk.1 (by omega)) (rq hk2.1 (by omega))) ?_⟩;rintro x w18 ⟨rfl,c18⟩;have s18:=s17.quiet c18;refine⟨_,rfl,s18.cellsIn 5 rfl,?_⟩;rw[aC (n:=p.2+q.2) ⟨by omega,by omega⟩];refine aj (kZ (s18.out 4 rfl) hr hl (b:=(xh p q).1) (Mp hk.1 hk2.1) (xh p q).2) ?_;rintro x w19 ⟨rfl,l'',hr2,s19⟩;have s20:=(s19.back (show 4<7 by decide)).aq [1,2,3,4,5,6];refine⟨rfl,_,?_,T++[q],l'',rfl,?_,?_,s20⟩
      · rw[List.length_append,List.length_singleton]; omega
      · intro y hy;rcases List.mem_append.1 hy with hy | hy
        · exact hT y hy
        · rw[List.mem_singleton.1 hy]; exact hq
      · rw[List.map_append,List.map_singleton,<- List.append_assoc,<- gA]; exact hr2
end
def r5:List Int:=[0,1,2,3,4]
theorem uh{a:Int}(h:0<=a/\a<=4):a∈r5:=by
  have:a=0\/a=1\/a=2\/a=3\/a=4:=by omega
  simpa[r5] using this
def Py:List I6:=r5.flatMap λ a=>r5.flatMap λ b=>r5.flatMap λ c=>r5.flatMap λ d=>r5.flatMap λ e=>r5.map λ f=>⟨a,b,c,d,e,f⟩
theorem KM{u:I6}(h:I6.Le u 4):u∈Py:=by
  have h0:=uh (h 0 (by decide)); have h1:=uh (h 1 (by decide)); have h2:=uh (h 2 (by decide));have h3:=uh (h 3 (by decide)); have h4:=uh (h 4 (by decide)); have h5:=uh (h 5 (by decide));unfold Py;exact List.mem_flatMap.2 ⟨_,h0,List.mem_flatMap.2 ⟨_,h1,List.mem_flatMap.2 ⟨_,h2,List.mem_flatMap.2 ⟨_,h3,List.mem_flatMap.2 ⟨_,h4,List.mem_map.2 ⟨_,h5,rfl⟩⟩⟩⟩⟩⟩
def zo(f:Wf):List KV:=(Py.filter λ u=>decide (0<f u)).map λ u=>(u,f u)
theorem cj.zo{lim:I6}{l:List KV}{f:Wf}(h:cj lim l f)(hn:(l.map (·.1)).Nodup)(p:KV):p∈l<->p∈zo f:=by
  rw[h.mem hn];constructor
  · rintro⟨h1,h2⟩;exact List.mem_map.2 ⟨p.1,List.mem_filter.2 ⟨KM (h.s _ h1).1,dT h1⟩,Prod.ext rfl h2.symm⟩
  · intro hp;obtain⟨u,hu,rfl⟩:=List.mem_map.1 hp;exact⟨of_decide_eq_true (List.mem_filter.1 hu).2,rfl⟩
def vh(k p:KV):KV:=(p.1.zip (λ x y=>if y>x then y else x) k.1,p.2+k.2)
def KN(v:Int)(p:KV):KV:=(p.1,if v<p.2 then v else p.2)
def zW:Wf:=λ _=>0
def Gd(lim:I6)(f g:Wf):Wf:=bu lim f (zo g)
def NF(lim:I6)(f g:Wf):Wf:=bu lim zW (zo f++(zo g++B8 (zo f) (zo g)))
def PL(lim:I6)(k:KV)(g:Wf):Wf:=bu lim zW (zo g++([k]++(zo g).map (vh k)))
def Qq(lim:I6)(v:Int)(g:Wf):Wf:=bu lim zW ((zo g).map (KN v))
def j5(lim:I6):Xv->Wf
  | .mk op u v _ _ args =>
    if op=1 then bu lim zW [(u,v)]
    else if op=2 then (args.map (j5 lim)).foldl (Gd lim) zW
    else if op=3 then (args.map (j5 lim)).foldl (NF lim) zW
    else if op=4 then PL lim (u,v) ((args.map (j5 lim)).headD zW)
    else if op=5 then Qq lim v ((args.map (j5 lim)).headD zW)
    else zW
theorem Fl(lim:I6)(x:Xv):j5 lim x=if x.op=1 then bu lim zW [(x.u,x.v)]
    else if x.op=2 then (x.args.map (j5 lim)).foldl (Gd lim) zW
    else if x.op=3 then (x.args.map (j5 lim)).foldl (NF lim) zW
    else if x.op=4 then PL lim (x.u,x.v) ((x.args.map (j5 lim)).headD zW)
    else if x.op=5 then Qq lim x.v ((x.args.map (j5 lim)).headD zW)
    else zW:=by cases x; rw[j5]; rfl
theorem O8(lim:I6):∀ x,j5 lim x.er=j5 lim x:=Xv.ind λ x ih=>by
  rw[Fl,Fl lim x,o5,List.map_map];have:x.args.map (j5 lim ∘ Xv.er)=x.args.map (j5 lim):=List.map_congr_left λ y hy=>ih y hy;rw[this,Xv.qh]; rfl
inductive zO:Xv->Prop where
  | mk {x:Xv} (f:fz x=true) (r:gB x=true) (k:∀ y∈x.args,zO y):zO x
theorem Nu{x:Xv}:og 0 x=0<->fz x=true/\gB x=true:=by
  unfold og
  cases fz x<;>cases gB x<;>simp
theorem yw:∀ (l:List Xv) (r:Int×Bool),r.2=false->fk dx l r=r
  | [],_,_=>rfl
  | y :: l,r,h=>by
    unfold fk;rw[List.foldl_cons,if_neg (by rw[h]; decide)];exact yw l r h
theorem Nv:∀ (x:Xv),(bz dx x 0).2=((bz dx x 0).1==0):=Xv.ind λ x ih=>by
  rw[ld]
  by_cases h:(dx 0 x).2=true
  · rw[if_pos h];have h0:(dx 0 x).1=0:=by simpa[dx] using h
    rw[h0];have:∀ (l:List Xv),(∀ y∈l,(bz dx y 0).2=((bz dx y 0).1==0))->(fk dx l (0,true)).2=((fk dx l (0,true)).1==0):=λ l=>by
      induction l with
      | nil=>intro _; rfl
      | cons y l ih2 =>
        intro hl;have hy:=hl y (by simp);unfold fk;rw[List.foldl_cons,if_pos rfl]
        cases hb:(bz dx y 0).2 with
        | true =>
          have e0:(bz dx y 0).1=0:=by rw[hb] at hy; simpa using hy.symm
          have:bz dx y 0=(0,true):=Prod.ext e0 hb;rw[this]; exact ih2 λ z hz=>hl z (by simp[hz])
        | false =>
          have:=yw l (bz dx y 0) hb;unfold fk at this;rw[this]; exact hy
    exact this x.args ih
  · rw[if_neg h];show false=((dx 0 x).1==0);have:(dx 0 x).2=false:=by simpa using h
    rw[<- this]; rfl
theorem Nb:∀ (x:Xv),(bz dx x 0).1=0->zO x:=Xv.ind λ x ih h=>by
  rw[ld] at h
  by_cases hb:(dx 0 x).2=true
  · rw[if_pos hb] at h;have h0:og 0 x=0:=by simpa[dx] using hb
    have h0' : (dx 0 x).1=0:=h0;rw[h0'] at h;obtain⟨hf,hr⟩:=Nu.1 h0;refine .mk hf hr λ y hy=>ih y hy ?_;have:∀ (l:List Xv),(fk dx l (0,true)).1=0->∀ y∈l,(bz dx y 0).1=0:=λ l=>by
      induction l with
      | nil=>intro _ y hy; cases hy
      | cons z l ih2 =>
        intro hl y hy;unfold fk at hl;rw[List.foldl_cons,if_pos rfl] at hl;have hz:=Nv z
        cases hb:(bz dx z 0).2 with
        | true =>
          have e0:(bz dx z 0).1=0:=by rw[hb] at hz; simpa using hz.symm
          have ee:bz dx z 0=(0,true):=Prod.ext e0 hb;rw[ee] at hl;rcases List.mem_cons.1 hy with rfl | hy
          · exact e0
          · exact ih2 hl y hy
        | false =>
          have:=yw l (bz dx z 0) hb;unfold fk at this;rw[this] at hl;rw[hl,hb] at hz; cases hz
    exact this _ h y hy
  · rw[if_neg hb] at h;exact absurd (show(dx 0 x).2=true by show(og 0 x==0)=true; rw[show og 0 x=0 from h]; rfl) hb
theorem Kk{x:Xv}(h:dM x=0):zO x:=by
  unfold dM at h
  split at h
  · cases h
  · split at h
    · cases h
    · exact Nb x h
section
variable {lim:I6}
def SZ(lim:I6)(x:Xv):Prop:=∀ (w0 w:World) (B:aD),(∀ {w'},az w0 w' []->x.In w')->St w0 w B ->
  CP 249 #[.agg x.cells.toArray,.agg lim.vs.toArray] w (λ v w'=>∃ r l,v=.map (some r)/\cj lim l (j5 lim x)/\St w0 w' (star (mapA r l) B))
theorem wQ{w0 w:World}{L:List aD}{x y:Xv}{r1 r2:Nat}{i:Nat}(H:SZ lim y)(hx:∀ {w'},az w0 w' []->x.In w')(s:St w0 w (Sep L)){j1 j2:Nat}(e1:L[j1]? = some (ai r1 x.cells.toArray 109))(e2:L[j2]? = some (ai r2 lim.vs.toArray 41))(hy:x.args[i]? = some y) :
    CP 276 #[iv i,pt r1,pt r2] w (λ v w'=>∃ r l,v=.map (some r)/\cj lim l (j5 lim y)/\St w0 w' (Sep (mapA r l :: L))):=by
  refine tC ?_;unfold oV;have s1:=s.quiet (az.drew w []);have hi:=(List.getElem?_eq_some_iff.1 hy).1;obtain⟨q,hq,hcl⟩:=(hx s1.av).fl.at hy;refine⟨_,_,_,s1.ag j1 e1 8,au hq ⟨by omega,by omega,_,y.u,_,_,_,_,by rw[Int.toNat_natCast]; exact hcl,lim,s1.cellsIn j2 e2,aj (H w0 _ _ (λ hc=>(hx hc).sub y (List.mem_of_getElem? hy)) s1) ?_⟩⟩;rintro v w1 ⟨r,l,rfl,hr,s2⟩;exact⟨_,rfl,r,l,rfl,hr,s2⟩
theorem ua{α β:Type}{f:α->β->α}{a:α}{l:List β}{k:Nat}{x:β}(h:l[k]? = some x):(l.take (k+1)).foldl f a=f ((l.take k).foldl f a) x:=by rw[aL h,List.foldl_append]; rfl
theorem Td(hl:I6.Le lim 4):∀ x,zO x->aV x<=100000->SZ lim x:=Xv.ind λ x ih hg hz w0 w B hx s=>by
  refine wB (u1:=x.u) ?_;unfold tB;have hlen:=xq x;obtain⟨hf,hrg,hk⟩:fz x=true/\gB x=true/\∀ y∈x.args,zO y:=by cases hg; exact⟨‹_›,‹_›,‹_›⟩
  have eF:=Fl lim x;have HY:∀ y∈x.args,SZ lim y:=λ y hy=>ih y hy (hk y hy) (by have:=yX hy; omega);refine s.one.ax x.cells.toArray λ r1 w1 s1=>s1.ax lim.vs.toArray λ r2 w2 s2=>uk s2 λ r3 w3 c3 s3=>?_;let M:List KV->List aD:=λ l=>[mapA r3 l,ai r2 lim.vs.toArray 41,ai r1 x.cells.toArray 109,B];have s3:St w0 w3 (Sep (M [])):=St.Pj s3;have fin:∀ {w' : World} {l:List KV},St w0 w' (Sep (M l))->St w0 w' (star (mapA r3 l) B):=λ s=>(s.aq [0,3]).pair;refine⟨λ m w4=>∃ r l,m=some r/\cj lim l (j5 lim x)/\St w0 w4 (star (mapA r l) B),?_,_,s3.ag 2 rfl 0,?_⟩
  · rintro w4 m ⟨r,l,rfl,hr,s4⟩ -;exact⟨r,l,rfl,hr,s4⟩
  have hu:x.op≠2->x.op≠3->x.op≠5->I6.Le x.u 4:=λ h2 h3 h5=>by
    unfold gB at hrg;rw[if_neg (by rintro(h | h); exact h2 h; exact h3 h)] at hrg
    split at hrg
    · cases hrg
    · first | rw[if_neg h5] at hrg | skip
      rw[Bool.and_eq_true] at hrg;exact Jl hrg.1
  have hv:x.op≠2->x.op≠3->1<=x.v/\x.v<=1000000:=λ h2 h3=>by
    unfold gB at hrg;rw[if_neg (by rintro(h | h); exact h2 h; exact h3 h)] at hrg
    split at hrg
    · cases hrg
    · rename_i h; omega
  by_cases h1:x.op=1
  · rw[if_pos h1] at eF;refine cT (by simpa using h1) ⟨lim,s3.cellsIn 1 rfl,x.u,s3.aP 2 1 rfl rfl,_,s3.ag 2 rfl 7,aj (kZ s3 (cj.nil lim) hl (rq (hu (by omega) (by omega) (by omega)) (by omega)) x.v) ?_⟩;rintro v w5 ⟨rfl,l',hr,s5⟩;exact⟨rfl,r3,l',rfl,by rw[eF]; exact hr,fin s5⟩
  rw[if_neg h1] at eF;refine cF (by simpa using h1) ?_
  by_cases h2:x.op=2
  · rw[if_pos h2] at eF;refine cT (by simpa using h2) ⟨_,_,_,s3.ag 2 rfl 8,λ i w6 m=>∃ (k:Nat) (l:List KV),i=k/\k<=x.args.length/\m=x.args.length-k/\cj lim l (((x.args.take k).map (j5 lim)).foldl (Gd lim) zW)/\St w0 w6 (Sep (M l)),⟨x.args.length,0,[],rfl,by omega,by omega,cj.nil lim,s3⟩,?_⟩;rintro w6 m i ⟨k,l,rfl,hk1,hm,hr,s6⟩ -
    by_cases hlt:(k:Int)<(x.args.length:Int)
    · have hy:x.args[k]? = some (x.args[k]'(by omega)):=gE (by omega);generalize x.args[k]'(by omega)=y at hy;have s7:=s6.quiet (az.drew w6 []);refine cT (dT hlt) ⟨lim,s7.cellsIn 1 rfl,aj (wQ (HY y (List.mem_of_getElem? hy)) hx s7 (j1:=2) (j2:=1) rfl rfl hy) ?_⟩;rintro v w7 ⟨r4,l4,rfl,hr4,s8⟩;have s8:St w0 w7 (Sep [mapA r4 l4,mapA r3 l,ai r2 lim.vs.toArray 41,ai r1 x.cells.toArray 109,B]):=s8;have hn4:=oc s8;refine⟨_,rfl,s8.cellsIn 2 rfl,aj (tD (s8.aq [1,0,2,3,4]) hr hr4 hl) ?_⟩;rintro v w9 ⟨rfl,l5,hr5,s9⟩;have s9:St w0 w9 (Sep [mapA r3 l5,mapA r4 l4,ai r2 lim.vs.toArray 41,ai r1 x.cells.toArray 109,B]):=s9;refine⟨rfl,x.args.length-(k+1),by omega,k+1,l5,aC ⟨by omega,by omega⟩,by omega,rfl,?_,s9.aq [0,2,3,4]⟩;have e:((x.args.take (k+1)).map (j5 lim)).foldl (Gd lim) zW=Gd lim (((x.args.take k).map (j5 lim)).foldl (Gd lim) zW) (j5 lim y):=by
        rw[aL hy,List.map_append,List.foldl_append]; rfl
      rw[e,Gd,<- dP (Q:=l4) λ p=>hr4.zo hn4 p]; exact hr5
    · obtain rfl:x.args.length=k:=by omega
      rw[List.take_length] at hr;exact cF (dF hlt) ⟨r3,l,rfl,by rw[eF]; exact hr,fin s6⟩
  rw[if_neg h2] at eF;refine cF (by simpa using h2) ?_
  by_cases h3:x.op=3
  · rw[if_pos h3] at eF;let M3:Nat->List KV->List aD:=λ r l=>[mapA r l,ai r2 lim.vs.toArray 41,ai r1 x.cells.toArray 109,B];refine cT (by simpa using h3) ⟨_,_,_,s3.ag 2 rfl 8,λ m i w6 k'=>∃ (k:Nat) (r:Nat) (l:List KV),m=some r/\i=k/\k<=x.args.length/\k' = x.args.length-k/\cj lim l (((x.args.take k).map (j5 lim)).foldl (NF lim) zW)/\St w0 w6 (Sep (M3 r l)),⟨x.args.length,0,r3,[],rfl,rfl,by omega,by omega,cj.nil lim,s3⟩,?_⟩;rintro w6 k' m i ⟨k,r,l,rfl,rfl,hk1,hm,hr,s6⟩ -
    by_cases hlt:(k:Int)<(x.args.length:Int)
    · have hy:x.args[k]? = some (x.args[k]'(by omega)):=gE (by omega);generalize x.args[k]'(by omega)=y at hy;have s7:=s6.quiet (az.drew w6 []);have hn:=oc s7;refine cT (dT hlt) ⟨lim,s7.cellsIn 1 rfl,aj (wQ (HY y (List.mem_of_getElem? hy)) hx s7 (j1:=2) (j2:=1) rfl rfl hy) ?_⟩;rintro v w7 ⟨r4,l4,rfl,hr4,s8⟩;have s8:St w0 w7 (Sep [mapA r4 l4,mapA r l,ai r2 lim.vs.toArray 41,ai r1 x.cells.toArray 109,B]):=s8;have hn4:=oc s8;refine⟨_,rfl,s8.cellsIn 2 rfl,aj (Rs (s8.aq [1,0,2,3,4]) hr hr4 hl) ?_⟩;rintro v w9 ⟨r5,l5,rfl,hr5,s9⟩;have s9:St w0 w9 (Sep [mapA r5 l5,mapA r l,mapA r4 l4,ai r2 lim.vs.toArray 41,ai r1 x.cells.toArray 109,B]):=s9;refine⟨_,rfl,x.args.length-(k+1),by omega,k+1,r5,l5,rfl,aC ⟨by omega,by omega⟩,by omega,rfl,?_,s9.aq [0,3,4,5]⟩;have e:((x.args.take (k+1)).map (j5 lim)).foldl (NF lim) zW=NF lim (((x.args.take k).map (j5 lim)).foldl (NF lim) zW) (j5 lim y):=by
        rw[aL hy,List.map_append,List.foldl_append]; rfl
      rw[e,NF,<- dP (Q:=l++(l4++B8 l l4)) λ p=>?_]; exact hr5;have e1:∀ p,p∈l<->p∈zo (((x.args.take k).map (j5 lim)).foldl (NF lim) zW):=λ p=>hr.zo hn p;have e2:∀ p,p∈l4<->p∈zo (j5 lim y):=λ p=>hr4.zo hn4 p;have e3:p∈B8 l l4<->p∈B8 (zo (((x.args.take k).map (j5 lim)).foldl (NF lim) zW)) (zo (j5 lim y)):=by
        rw[wL,wL];exact⟨λ ⟨a,ha,b,hb,h⟩=>⟨a,(e1 a).1 ha,b,(e2 b).1 hb,h⟩,λ ⟨a,ha,b,hb,h⟩=>⟨a,(e1 a).2 ha,b,(e2 b).2 hb,h⟩⟩
      rw[List.mem_append,List.mem_append,List.mem_append,List.mem_append,e1,e2,e3]
    · obtain rfl:x.args.length=k:=by omega
      rw[List.take_length] at hr;exact cF (dF hlt) ⟨r,l,rfl,by rw[eF]; exact hr,(s6.aq [0,3]).pair⟩
  rw[if_neg h3] at eF;refine cF (by simpa using h3) ?_;have one:x.op=4\/x.op=5->∃ y,x.args[0]? = some y/\(x.args.map (j5 lim)).headD zW=j5 lim y:=λ h=>by
    have h1' : x.args.length=1:=by
      unfold fz at hf;rw[if_neg h1,if_neg (by rintro(h | h); exact h2 h; exact h3 h)] at hf;rcases h with h | h
      · rw[if_pos h] at hf; simpa using hf
      · rw[if_neg (by omega),if_pos h,Bool.and_eq_true] at hf; simpa using hf.1
    cases ha:x.args with
    | nil=>rw[ha] at h1'; cases h1'
    | cons y l=>exact⟨y,rfl,rfl⟩
  have hv':=hv h2 h3
  by_cases h4:x.op=4
  · rw[if_pos h4] at eF;obtain⟨y,hy,ey⟩:=one (.inl h4);rw[ey] at eF;refine cT (by simpa using h4) (aj (wQ (i:=0) (HY y (List.mem_of_getElem? hy)) hx s3 (j1:=2) (j2:=1) rfl rfl hy) ?_);rintro v w12 ⟨r4,l4,rfl,hr4,s4⟩;have s4:St w0 w12 (Sep [mapA r4 l4,mapA r3 [],ai r2 lim.vs.toArray 41,ai r1 x.cells.toArray 109,B]):=s4;have hn4:=oc s4;refine⟨_,rfl,lim,s4.cellsIn 2 rfl,aj (tD (s4.aq [1,0,2,3,4]) (cj.nil lim) hr4 hl) ?_⟩;rintro v w13 ⟨rfl,l5,hr5,s5⟩;have s5:St w0 w13 (Sep [mapA r3 l5,mapA r4 l4,ai r2 lim.vs.toArray 41,ai r1 x.cells.toArray 109,B]):=s5;have hxu:=hu (by omega) (by omega) (by omega);refine⟨rfl,lim,s5.cellsIn 2 rfl,x.u,s5.aP 3 1 rfl rfl,_,s5.ag 3 rfl 7,aj (kZ s5 hr5 hl (rq hxu (by omega)) x.v) ?_⟩;rintro v w14 ⟨rfl,l6,hr6,s6⟩;rw[gA] at hr6;have s6:St w0 w14 (Sep [mapA r3 l6,mapA r4 l4,ai r2 lim.vs.toArray 41,ai r1 x.cells.toArray 109,B]):=s6;refine⟨rfl,kN OU (s6.out 1 rfl) λ it w15 s7=>?_⟩;have s7:St w0 w15 (Sep [yd r4 it l4 [],mapA r3 l6,ai r2 lim.vs.toArray 41,ai r1 x.cells.toArray 109,B]):=s7;refine⟨λ w16 m=>∃ (S l' : List KV),m=l4.length-S.length/\(∀ p∈S,p∈l4)/\cj lim l' (bu lim zW ((l4++[(x.u,x.v)])++S.map (vh (x.u,x.v))))/\St w0 w16 (Sep [yd r4 it l4 S,mapA r3 l',ai r2 lim.vs.toArray 41,ai r1 x.cells.toArray 109,B]),⟨_,[],l6,rfl,by simp,by rw[List.map_nil,List.append_nil]; exact hr6,s7⟩,?_⟩;rintro w16 m ⟨S,l',rfl,hS,hr,s8⟩ -;refine od s8 (λ hend=>⟨r3,l',rfl,?_,?_⟩) (λ p hp hlen2 w18 s9=>?_)
    · rw[eF,PL,<- dP (Q:=(l4++[(x.u,x.v)])++S.map (vh (x.u,x.v))) λ q=>?_]; exact hr;have e2:∀ q,q∈l4<->q∈zo (j5 lim y):=λ q=>hr4.zo hn4 q;have e3:q∈S.map (vh (x.u,x.v))<->q∈(zo (j5 lim y)).map (vh (x.u,x.v)):=by
        rw[List.mem_map,List.mem_map];exact⟨λ ⟨a,ha,h⟩=>⟨a,(e2 a).1 (hS a ha),h⟩,λ ⟨a,ha,h⟩=>⟨a,hend a ((e2 a).2 ha),h⟩⟩
      rw[List.mem_append,List.mem_append,List.mem_append,List.mem_append,e2,e3,or_assoc]
    · have t:St w0 w16 (Sep [mapA r4 l4,mapA r3 l',ai r2 lim.vs.toArray 41,ai r1 x.cells.toArray 109,B]):=St.ye s8;exact(t.aq [1,4]).pair
    · have s9:St w0 w18 (Sep [yd r4 it l4 (S++[p]),mapA r3 l',ai r2 lim.vs.toArray 41,ai r1 x.cells.toArray 109,B]):=s9;have hkp:=hr4.key hn4 hp;refine s9.ax z6.vs.toArray λ b4 w19 s10=>s10.aA 0 rfl p.1.vs rfl (I6.one _) λ w20 s11=>?_;have s12:=s11.quiet (az.drew w20 []);refine⟨lim,s12.cellsIn 3 rfl,p.1,s12.cellsIn 0 rfl,x.u,s12.aP 4 1 rfl rfl,_,s12.ag 4 rfl 7,aj (Qo _ p.1 x.u) ?_⟩;rintro v w21 ⟨rfl,c21⟩;have s13:=s12.quiet c21;refine⟨_,rfl,s13.ag 4 rfl 7,s13.cellsIn 3 rfl,?_⟩;have hw:IntKind.i64.wrap (p.2+x.v)=p.2+x.v:=aC ⟨by omega,by omega⟩;show Calls _ _ #[_,_,_,iv (IntKind.i64.wrap (p.2+x.v))] _ _;rw[hw];have hj:I6.Le (vh (x.u,x.v) p).1 1000000:=λ k hk=>by
        have q1:=hkp.1 k hk; have q2:=hxu k hk;show 0<=(p.1.zip _ x.u).at' k/\(p.1.zip _ x.u).at' k<=1000000;rw[I6.jh _ _ _ _ hk]
        split<;>omega
      refine aj (kZ (s13.out 2 rfl) hr hl (b:=(vh (x.u,x.v) p).1) hj (vh (x.u,x.v) p).2) ?_;rintro v w22 ⟨rfl,l'',hr2,s14⟩;have s15:=(s14.back (show 2<6 by decide)).aq [1,2,3,4,5];refine⟨rfl,_,?_,S++[p],l'',rfl,?_,?_,s15⟩
      · rw[List.length_append,List.length_singleton]; omega
      · intro q hq;rcases List.mem_append.1 hq with hq | hq
        · exact hS q hq
        · rw[List.mem_singleton.1 hq]; exact hp
      · rw[List.map_append,List.map_singleton,<- List.append_assoc,<- gA]; exact hr2
  rw[if_neg h4] at eF;refine cF (by simpa using h4) ?_
  by_cases h5:x.op=5
  · rw[if_pos h5] at eF;obtain⟨y,hy,ey⟩:=one (.inr h5);rw[ey] at eF;refine cT (by simpa using h5) (aj (wQ (i:=0) (HY y (List.mem_of_getElem? hy)) hx s3 (j1:=2) (j2:=1) rfl rfl hy) ?_);rintro v w12 ⟨r4,l4,rfl,hr4,s4⟩;have s4:St w0 w12 (Sep [mapA r4 l4,mapA r3 [],ai r2 lim.vs.toArray 41,ai r1 x.cells.toArray 109,B]):=s4;have hn4:=oc s4;refine⟨_,rfl,kN OU s4 λ it w15 s7=>?_⟩;have s7:St w0 w15 (Sep [yd r4 it l4 [],mapA r3 [],ai r2 lim.vs.toArray 41,ai r1 x.cells.toArray 109,B]):=s7;refine⟨λ w16 m=>∃ (S l' : List KV),m=l4.length-S.length/\(∀ p∈S,p∈l4)/\cj lim l' (bu lim zW (S.map (KN x.v)))/\St w0 w16 (Sep [yd r4 it l4 S,mapA r3 l',ai r2 lim.vs.toArray 41,ai r1 x.cells.toArray 109,B]),⟨_,[],[],rfl,by simp,cj.nil lim,s7⟩,?_⟩;rintro w16 m ⟨S,l',rfl,hS,hr,s8⟩ -;refine od s8 (λ hend=>⟨r3,l',rfl,?_,?_⟩) (λ p hp hlen2 w18 s9=>?_)
    · rw[eF,Qq,<- dP (Q:=S.map (KN x.v)) λ q=>?_]; exact hr;have e2:∀ q,q∈l4<->q∈zo (j5 lim y):=λ q=>hr4.zo hn4 q;rw[List.mem_map,List.mem_map];exact⟨λ ⟨a,ha,h⟩=>⟨a,(e2 a).1 (hS a ha),h⟩,λ ⟨a,ha,h⟩=>⟨a,hend a ((e2 a).2 ha),h⟩⟩
    · have t:St w0 w16 (Sep [mapA r4 l4,mapA r3 l',ai r2 lim.vs.toArray 41,ai r1 x.cells.toArray 109,B]):=St.ye s8;exact(t.aq [1,4]).pair
    · have s9:St w0 w18 (Sep [yd r4 it l4 (S++[p]),mapA r3 l',ai r2 lim.vs.toArray 41,ai r1 x.cells.toArray 109,B]):=s9;have hkp:=hr4.key hn4 hp;refine s9.ax z6.vs.toArray λ b4 w19 s10=>s10.aA 0 rfl p.1.vs rfl (I6.one _) λ w20 s11=>?_;refine⟨lim,s11.cellsIn 3 rfl,p.1,s11.cellsIn 0 rfl,_,s11.ag 4 rfl 7,aj (kZ (s11.out 2 rfl) hr hl (b:=(KN x.v p).1) (rq hkp.1 (by omega)) (KN x.v p).2) ?_⟩;rintro v w22 ⟨rfl,l'',hr2,s14⟩;have s15:=(s14.back (show 2<6 by decide)).aq [1,2,3,4,5];refine⟨rfl,_,?_,S++[p],l'',rfl,?_,?_,s15⟩
      · rw[List.length_append,List.length_singleton]; omega
      · intro q hq;rcases List.mem_append.1 hq with hq | hq
        · exact hS q hq
        · rw[List.mem_singleton.1 hq]; exact hp
      · rw[List.map_append,List.map_singleton,<- gA]; exact hr2
  · rw[if_neg h5] at eF;exact cF (by simpa using h5) ⟨r3,[],rfl,by rw[eF]; exact cj.nil lim,fin s3⟩
end
end Go.Proofs.YtpihmghnbplohaaGreatDoor

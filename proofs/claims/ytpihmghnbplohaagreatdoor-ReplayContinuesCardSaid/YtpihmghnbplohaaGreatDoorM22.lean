import Derived.Test.YtpihmghnbplohaaGreatDoorM15
import Derived.Test.YtpihmghnbplohaaGreatDoorM18
set_option linter.unusedVariables false
set_option maxRecDepth 100000
namespace Go.Proofs.YtpihmghnbplohaaGreatDoor
open Go Go.Vc Tryz
theorem Xv.ind{P:Xv->Prop}(h:∀ x,(∀ y∈x.args,P y)->P x):∀ x,P x
  | .mk op u v a c args=>h _ λ y _hy=>Xv.ind h y
  termination_by x=>SizeOf.sizeOf x
  decreasing_by
    have:y∈args:=_hy;have:=List.sizeOf_lt_of_mem this
    simp_wf; omega
def aV:Xv->Nat
  | .mk _ _ _ _ _ args=>1+(args.map aV).sum
def mW:Xv->Nat
  | .mk _ _ _ _ _ args=>(args.map mW).foldl Nat.max 0+1
theorem fc(x:Xv):aV x=1+(x.args.map aV).sum:=by cases x; rw[aV]; rfl
theorem rP(x:Xv):mW x=(x.args.map mW).foldl Nat.max 0+1:=by cases x; rw[mW]; rfl
theorem Ct:∀ {l:List Nat} {x:Nat},x∈l->x<=l.sum
  | y :: l,x,h=>by
    rw[List.sum_cons];rcases List.mem_cons.1 h with rfl | h
    · omega
    · have:=Ct h; omega
theorem yX{x y:Xv}(h:y∈x.args):aV y<aV x:=by
  have:=Ct (List.mem_map_of_mem (f:=aV) h);rw[fc x]; omega
theorem size_pos(x:Xv):1<=aV x:=by rw[fc]; omega
theorem xq(x:Xv):x.args.length<aV x:=by
  rw[fc];have:∀ l:List Xv,l.length<=(l.map aV).sum:=λ l=>by
    induction l with
    | nil=>simp
    | cons y l ih=>have:=size_pos y; simp only[List.length_cons,List.map_cons,List.sum_cons]; omega
  have:=this x.args; omega
theorem sj{n:Nat}:∀ {l:List Nat} {a:Nat},a<=n->(∀ x∈l,x<=n)->l.foldl Nat.max a<=n
  | [],_,h,_=>h
  | x :: l,a,h,k=>by
    rw[List.foldl_cons];exact sj (Nat.max_le.2 ⟨h,k x (by simp)⟩) λ y hy=>k y (by simp[hy])
theorem JU:∀ x,mW x<=aV x:=Xv.ind λ x ih=>by
  rw[rP,fc];have:(x.args.map mW).foldl Nat.max 0<=(x.args.map aV).sum:=sj (Nat.zero_le _) λ d hd=>by
    obtain⟨y,hy,rfl⟩:=List.mem_map.1 hd;exact Nat.le_trans (ih y hy) (Ct (List.mem_map_of_mem hy))
  omega
theorem o5(x:Xv):x.er.args=x.args.map Xv.er:=by rw[Xv.qh]; rfl
theorem Hp:∀ x,aV x.er=aV x:=Xv.ind λ x ih=>by
  rw[fc,fc x,o5,List.map_map]
  congr 2
  exact List.map_congr_left λ y hy=>ih y hy
theorem PW:∀ x,mW x.er=mW x:=Xv.ind λ x ih=>by
  rw[rP,rP x,o5,List.map_map]
  congr 2
  exact List.map_congr_left λ y hy=>ih y hy
def bz{S:Type}(step:S->Xv->S×Bool):Xv->S->S×Bool
  | .mk op u v a c args,s=>if (step s (.mk op u v a c args)).2 then (args.map (bz step)).foldl (λ r f=>if r.2 then f r.1 else r) ((step s (.mk op u v a c args)).1,true) else ((step s (.mk op u v a c args)).1,false)
def fk{S:Type}(step:S->Xv->S×Bool)(l:List Xv)(r:S×Bool):S×Bool:=l.foldl (λ r y=>if r.2 then bz step y r.1 else r) r
theorem ld{S:Type}(step:S->Xv->S×Bool)(x:Xv)(s:S):bz step x s=if (step s x).2 then fk step x.args ((step s x).1,true) else ((step s x).1,false):=by
  cases x
  rw[bz,fk];simp only[List.foldl_map,Xv.args]
theorem HD{S:Type}{step:S->Xv->S×Bool}(hs:∀ s x,step s x.er=step s x):∀ (x:Xv) (s:S),bz step x.er s=bz step x s:=Xv.ind λ x ih s=>by
  rw[ld,ld step x,hs,o5]
  congr 1
  have:∀ (l:List Xv) (r:S×Bool),(∀ y∈l,∀ s,bz step y.er s=bz step y s)->fk step (l.map Xv.er) r=fk step l r:=λ l=>by
    induction l with
    | nil=>intro r _; rfl
    | cons y l ih2 =>
      intro r hl;unfold fk at ih2 ⊢;rw[List.map_cons,List.foldl_cons,List.foldl_cons,hl y (by simp)];exact ih2 _ λ z hz=>hl z (by simp[hz])
  exact this _ _ ih
section
variable {w0:World}
theorem MT:∀ (x:Xv),aV x<=100000->∀ w,x.In w->CP 242 #[.agg x.cells.toArray] w (λ r w'=>r=iv (mW x)/\az w w' []):=Xv.ind λ x ih hz w hx=>by
  refine zC (u1:=x.u) ?_;unfold xS;have hl:=xq x;refine(St.start w).one.ax x.cells.toArray λ r1 w1 s1=>⟨_,_,_,s1.ag 0 rfl 8,?_⟩;refine⟨λ n i w2 m=>∃ k:Nat,i=k/\k<=x.args.length/\m=x.args.length-k/\n=(((x.args.take k).map mW).foldl Nat.max 0:Nat)/\az w w2 [],⟨x.args.length,0,rfl,by omega,by omega,rfl,s1.av⟩,?_⟩;rintro w2 m n i ⟨k,rfl,hk,hm,rfl,c2⟩ -
  by_cases hlt:(k:Int)<(x.args.length:Int)
  · have hy:x.args[k]? = some (x.args[k]'(by omega)):=gE (by omega);generalize x.args[k]'(by omega)=y at hy;have hm:=List.mem_of_getElem? hy;obtain⟨q,hq,hcl⟩:=(hx.av c2).fl.at hy;refine cT (dT hlt) (au hq ⟨by omega,by omega,_,y.u,_,_,_,_,hcl,(St.start' c2).one.ax dG.cells.toArray λ r2 w3 s3=>s3.aA 0 rfl y.cells rfl y.one λ w4 s4=>⟨_,y.u,_,_,_,_,s4.cellsIn 0 rfl,?_⟩⟩);have hsz:=yX hm;refine aj (ih y hm (by omega) w4 ((hx.av s4.av).sub y hm)) ?_;rintro v w5 ⟨rfl,c5⟩;refine⟨_,rfl,x.args.length-(k+1),by omega,k+1,aC ⟨by omega,by omega⟩,by omega,rfl,?_,(s4.quiet c5).av⟩;rw[aL hy,List.map_append,List.foldl_append];show _=((Nat.max _ (mW y):Nat):Int);generalize((x.args.take k).map mW).foldl Nat.max 0=d;have:Nat.max d (mW y)=if mW y>d then mW y else d:=by
      show max _ _=_;rw[Nat.max_def]
      split<;>split<;>omega
    rw[this]
    split<;>split<;>omega
  · obtain rfl:k=x.args.length:=by omega
    have hd:=JU x;rw[rP] at hd;rw[List.take_length];refine cF (dF hlt) ⟨?_,c2⟩;rw[rP];generalize(x.args.map mW).foldl Nat.max 0=d at hd ⊢;rw[aC ⟨by omega,by omega⟩,Int.natCast_add]; rfl
variable {S:Type} {step:S->Xv->S×Bool} {A:S->aD} {v:Value}
theorem Ga(hv:∀ (w:World) (B:aD) (s:S) (y:Xv) (R:Ending->World->Prop),St w0 w (star (A s) B)->y.In w->aV y<=100000->(∀ w',St w0 w' (star (A (step s y).1) B)->R (.returned (.bool (step s y).2)) w')->cC prog v #[.agg y.cells.toArray] w R) :
    ∀ (x:Xv),aV x<=100000->(∀ {w'},az w0 w' []->x.In w')->∀ (w:World) (B:aD) (s:S),St w0 w (star (A s) B) ->
    CP 244 #[.agg #[v],.agg x.cells.toArray] w (λ r w'=>r=.bool (bz step x s).2/\St w0 w' (star (A (bz step x s).1) B)):=Xv.ind λ x ih hz hx w B s h=>by
  refine pU (u1:=x.u) ?_;unfold kD;have hl:=xq x;refine(h.vn).ax #[v] λ r1 w1 s1=>s1.ax x.cells.toArray λ r2 w2 s2=>?_;let M:S->List aD:=λ s=>[A s,ai r2 x.cells.toArray 109,ai r1 #[v] 369,B];have s3:St w0 w2 (Sep (M s)):=s2.aq [2,0,1,3];have opn:∀ {w' : World} {s:S},St w0 w' (Sep (M s))->St w0 w' (star (A s) B):=λ h=>(h.aq [0,3]).pair;refine⟨_,s2.ag 1 rfl 0,_,x.u,_,_,_,_,s2.cellsIn 0 rfl,hv w2 _ s x _ s3 (hx s3.av) hz λ w3 s4=>⟨_,rfl,?_⟩⟩;have s4:St w0 w3 (Sep (M (step s x).1)):=s4;have ew:=ld step x s
  cases hb:(step s x).2 with
  | false =>
    rw[if_neg (by rw[hb]; decide)] at ew;exact cT rfl ⟨by rw[ew],by rw[ew]; exact opn s4⟩
  | true =>
    rw[if_pos hb] at ew;refine cF rfl ⟨_,_,_,s4.ag 1 rfl 8,?_⟩;refine⟨λ i w4 m=>∃ (k:Nat) (s' : S),i=k/\k<=x.args.length/\m=x.args.length-k/\fk step (x.args.drop k) (s',true)=bz step x s/\St w0 w4 (Sep (M s')),⟨x.args.length,0,_,rfl,by omega,by omega,ew.symm,s4⟩,?_⟩;rintro w4 m i ⟨k,s',rfl,hk,hm,hw,s5⟩ -
    by_cases hlt:(k:Int)<(x.args.length:Int)
    · have hk' : k<x.args.length:=by omega
      have hy:x.args[k]? = some (x.args[k]'hk'):=gE hk';rw[List.drop_eq_getElem_cons hk'] at hw;generalize x.args[k]'hk' = y at hy hw;have hm:=List.mem_of_getElem? hy;obtain⟨q,hq,hcl⟩:=(hx s5.av).fl.at hy;refine cT (dT hlt) (au hq ⟨by omega,by omega,_,y.u,_,_,_,_,hcl,s5.ax dG.cells.toArray λ r3 w5 s6=>s6.aA 0 rfl y.cells rfl y.one λ w6 s7=>⟨_,s7.cellsIn 3 rfl,_,y.u,_,_,_,_,s7.cellsIn 0 rfl,?_⟩⟩);have s8:St w0 w6 (Sep (M s')):=s7.aq [1,2,3,4];refine aj (ih y hm (by have:=yX hm; omega) (λ hc=>(hx hc).sub y hm) w6 _ s' s8) ?_;rintro r w7 ⟨rfl,s9⟩;have s9:St w0 w7 (Sep (M (bz step y s').1)):=s9;refine⟨_,rfl,?_⟩;rw[fk,List.foldl_cons,if_pos rfl] at hw
      cases hr:(bz step y s').2 with
      | true =>
        have e2:bz step y s' = ((bz step y s').1,true):=by rw[<- hr]
        rw[e2] at hw;exact cF rfl ⟨x.args.length-(k+1),by omega,k+1,_,aC ⟨by omega,by omega⟩,by omega,rfl,hw,s9⟩
      | false =>
        have e2:bz step y s' = ((bz step y s').1,false):=by rw[<- hr]
        have e3:∀ (l:List Xv) (r:S×Bool),r.2=false->l.foldl (λ r y=>if r.2 then bz step y r.1 else r) r=r:=λ l=>by
          induction l with
          | nil=>intro r _; rfl
          | cons z l ih=>intro r hr; rw[List.foldl_cons,if_neg (by rw[hr]; decide),ih r hr]
        rw[e3 _ _ hr] at hw;exact cT rfl ⟨by rw[<- hw,hr],by rw[<- hw]; exact opn s9⟩
    · obtain rfl:k=x.args.length:=by omega
      rw[List.drop_length] at hw;exact cF (dF hlt) ⟨by rw[<- hw]; rfl,by rw[<- hw]; exact opn s5⟩
end
section
variable {w0:World} {p:Nat} {B:aD}
theorem jW.Ez{w:World}{l:List Tk}{e:Int}{B' : aD}(h:jW w0 w p l e B)(k:bH B B'):jW w0 w p l e B':=by
  obtain⟨a,c,h1,h2,s⟩:=h;exact⟨a,c,h1,h2,s.weak (bH.right (bH.right (bH.left k)))⟩
theorem jW.push{w:World}{l:List Tk}{e:Int}{A:aD}{m:List aD}(h:jW w0 w p l e (star A (star (Sep m) B))):jW w0 w p l e (star (Sep (A :: m)) B):=h.Ez aS.assoc'.weak
abbrev RB (a:OA) (c:Nat) (l:List Pr) (p:Nat):Array Value:=#[.slice a l.length c,pt p]
def OD(w0:World)(p:Nat)(a:OA)(c:Nat)(l:List Pr)(f:Nat):Prop :=
  ∀ (B:aD) (σ:Sc) (w:World),σ.1.length<f->fI w0 w p σ B ->
    CP 197 #[.agg (RB a c l p)] w (λ r w'=>∃ x:Xv,x.er=(fJ l f σ).1/\r=.agg x.cells.toArray/\fI w0 w' p (fJ l f σ).2 (star (held x.In) B))
variable {a:OA} {c:Nat} {l:List Pr}
theorem OH{f:Nat}(H:OD w0 p a c l f){σ:Sc}{w:World}(h:fI w0 w p σ B)(hl:σ.2=0->σ.1.length<f) :
    CP 238 #[.agg (RB a c l p)] w (λ r w'=>∃ x:Xv,x.er=(fX (fJ l f) σ).1/\r=.agg x.cells.toArray/\fI w0 w' p (fX (fJ l f) σ).2 (star (held x.In) B)):=by
  refine ic ?_;unfold dI;refine(St.start w).one.ax (RB a c l p) λ r1 w1 s1=>s1.ax dG.cells.toArray λ r2 w2 s2=>?_;have h2:=h.add s2;refine⟨_,s2.ag 1 rfl 1,aj (yQ h2) ?_⟩;rintro v w2 ⟨rfl,rfl⟩;refine⟨_,rfl,?_⟩
  by_cases he:σ.2=0
  · have e1:fX (fJ l f) σ=fJ l f σ:=by rw[fX,if_neg (by simpa using he)]
    rw[e1];refine cF (by simpa using he) ⟨_,_,_,_,s2.cellsIn 1 rfl,aj (H _ σ w2 (hl he) h2) ?_⟩;rintro v w5 ⟨x,ex,rfl,h5⟩;obtain⟨B',s5,back⟩:=h5.push.out;exact⟨_,x.u,_,_,_,_,rfl,s5.aA 1 rfl x.cells rfl (Xv.one _) λ w6 s6=>⟨_,x.u,_,_,_,_,s6.cellsIn 1 rfl,x,ex,rfl,(back (m':=[held x.In,_,_,_]) s6).Ez (aS.assoc.weak.trans (bH.right ((bH.left (bH.none _)).trans (aS.swap.trans (aS.unit' B)).weak)))⟩⟩
  · have e1:fX (fJ l f) σ=(dG,σ):=by rw[fX,if_pos he]
    rw[e1];obtain⟨B',s5,back⟩:=h2.out;refine cT (by simpa using he) (s5.aA 0 rfl dG.cells rfl (Xv.one _) λ w6 s6=>⟨_,z6,_,_,_,_,s6.cellsIn 0 rfl,dG,Ge,rfl,?_⟩);have s7:=s6.su (Q:=dG.In) λ w=>.mk (λ i y hy=>by simp[dG,Xv.args] at hy) (λ y hy=>by simp[dG,Xv.args] at hy);exact(back (m':=[held dG.In,_,_,_]) s7).Ez (aS.assoc.weak.trans (bH.right ((bH.left (bH.none _)).trans (aS.swap.trans (aS.unit' B)).weak)))
end
section
variable {w0:World} {p:Nat} {B:aD} {a:OA} {c:Nat} {l:List Pr}
theorem ON{A C:aD}{m:List aD}:bH (star (Sep (A :: m)) C) (star A C):=aS.assoc.weak.trans (bH.right ((bH.left (bH.none _)).trans (aS.swap.trans (aS.unit' C)).weak))
def P7(x:Xv)(tk:Tk)(r1 r2 r3 r4:Nat)(a:OA)(c:Nat)(l:List Pr)(p:Nat):List aD :=
  [ai r4 x.cells.toArray 109,TD x.a x.c x.args,held (Mr x.args),ai r3 tk.cells.toArray 357,ai r2 dG.cells.toArray 109,ai r1 (RB a c l p) 316,emp]
theorem Kc(hr:∀ {w'},az w0 w' []->dL w' a l)(hc:l.length<=c)(ho:cY l):∀ f,OD w0 p a c l f
  | 0=>λ _ _ _ h _=>absurd h (Nat.not_lt_zero _)
  | f+1=>λ B σ w hlen h=>by
    have H:=Kc hr hc ho f;refine gi ?_;unfold cZ;refine(St.start w).one.ax (RB a c l p) λ r1 w1 s1=>s1.ax dG.cells.toArray λ r2 w2 s2=>⟨_,s2.ag 1 rfl 1,?_⟩;have h2:=h.add s2;refine aj (pz h2) ?_;rintro v w3 ⟨rfl,c3⟩;have s3:=s2.quiet c3;generalize htk:aT σ.1 σ.2=tk at *;refine⟨_,_,_,_,rfl,s3.ax tK.cells.toArray λ r3 w4 s4=>s4.aA 0 rfl tk.cells rfl (Tk.one _) λ w5 s5=>?_⟩;let m0:List aD:=[ai r3 tk.cells.toArray 357,ai r2 dG.cells.toArray 109,ai r1 (RB a c l p) 316,emp];have h5:fI w0 w5 p σ (star (Sep m0) B):=h.add s5;have fr:∀ {w' : World} {σ' : Sc} {m:List aD},fI w0 w' p σ' (star (Sep m) B)->St w0 w' (Sep m):=λ h=>h.frame.first;refine⟨λ n w6=>n=bR tk/\fI w0 w6 p σ (star (Sep m0) B),?_,?_⟩
    · rintro w6 _ ⟨rfl,h6⟩ -;refine⟨λ w7=>fI w0 w7 p (vO σ) (star (Sep m0) B),?_,?_⟩
      · rintro w7 h7 -;obtain⟨B',t7,back⟩:=h7.out;refine t7.ax dG.cells.toArray λ r4 w8 s8=>s8.aA 0 rfl (Xv.mk (bR tk) z6 0 none 0 []).cells rfl (Xv.one _) λ w9 s9=>?_;have s9:St w0 w9 (Sep (ai r4 (Xv.mk (bR tk) z6 0 none 0 []).cells.toArray 109 :: (m0++[B']))):=s9
        by_cases h1:bR tk=1
        ·
          have eF:fJ l (f+1) σ=(.mk 1 (bf l (vO σ)).1.1 (bf l (vO σ)).1.2 none 0 [],(bf l (vO σ)).2):=by rw[fJ,htk,if_pos h1]
          have h9:fI w0 w9 p (vO σ) (star (Sep (ai r4 (Xv.mk (bR tk) z6 0 none 0 []).cells.toArray 109 :: m0)) B):=back (m':=ai r4 (Xv.mk (bR tk) z6 0 none 0 []).cells.toArray 109 :: m0) s9;refine cT (by simpa using h1) ⟨_,_,_,_,s9.cellsIn 3 rfl,aj (D3 h9 hr hc ho) ?_⟩;rintro v w10 ⟨rfl,h10⟩;obtain⟨B2,s10,back2⟩:=h10.out;let x:Xv:=.mk (bR tk) (bf l (vO σ)).1.1 (bf l (vO σ)).1.2 none 0 [];refine⟨_,_,rfl,s10.oF 0 1 rfl (Xv.mk (bR tk) (bf l (vO σ)).1.1 0 none 0 []).cells.toArray (show 7<=9 by decide) (I6.one _) rfl λ w11 s11=>s11.aH 0 rfl (j:=7) (show 7<9 by decide) rfl λ w12 s12=>?_⟩;refine⟨_,x.u,_,_,_,_,s12.cellsIn 0 rfl,s12.aA 2 rfl x.cells rfl (Xv.one _) λ w13 s13=>⟨_,x.u,_,_,_,_,s13.cellsIn 2 rfl,x,?_,rfl,?_⟩⟩
          · rw[eF,Xv.qh];show Xv.mk (bR tk) _ _ none 0 []=Xv.mk 1 _ _ none 0 [];rw[h1]; rfl
          · rw[eF];have s14:=s13.su (Q:=x.In) λ w=>.mk (λ i y hy=>by simp[x,Xv.args] at hy) (λ y hy=>by simp[x,Xv.args] at hy);exact(back2 (m':=[held x.In,_,_,_,_,_]) s14).Ez ON
        ·
          have eF:fJ l (f+1) σ=J7 l (fJ l f) (bR tk) (fX (fJ l f) (zq σ)).1 (fX (fJ l f) (zq σ)).2:=by rw[fJ,htk,if_neg h1]
          have h1' : bR (aT σ.1 σ.2)≠1:=by rw[htk]; exact h1
          let x0:Xv:=.mk (bR tk) z6 0 none 0 [];have t9:St w0 w9 (Sep (P7 x0 tk r1 r2 r3 r4 a c l p++[B'])):=(St.su (l:=[_,_,_,_,_,_,_]) (s9.eZ (e:=109) (sz:=9) (f:=Xv.cells)) (Q:=Mr []) (λ w=>by simp[Mr])).aq [2,1,0,3,4,5,6,7];let F:Xv->aD:=λ x=>star (Sep (P7 x tk r1 r2 r3 r4 a c l p)) B;have h9:fI w0 w9 p (vO σ) (F x0):=back (m':=P7 x0 tk r1 r2 r3 r4 a c l p) t9;have frF:∀ {w' : World} {σ' : Sc} {x:Xv},fI w0 w' p σ' (F x)->St w0 w' (Sep (P7 x tk r1 r2 r3 r4 a c l p)):=λ h=>h.frame.first;have app:∀ {w' : World} {σ' : Sc} {x y:Xv} {R:World->Prop},x.args.length<=5000->fI w0 w' p σ' (star (held y.In) (F x)) ->
              (∀ a8 c8 w19,fI w0 w19 p σ' (F (.mk x.op x.u x.v a8 c8 (x.args++[y])))->R w19) ->
              w'.cell? ⟨r4,8,none⟩=some (.slice x.a x.args.length x.c)/\ak w' (.cells (iv y.op :: (y.u.on [iv y.v,.slice y.a y.args.length y.c]):List Value).toArray 109) λ r5 w17=>w17.cell? ⟨r4,8,none⟩=some (.slice x.a x.args.length x.c) /\
                aZ prog (Builtin.append_ #[107,107] 107 #[.slice x.a x.args.length x.c,.slice (some ⟨r5,0,none⟩) 1 1]) w17 λ e6 w18=>∃ (a8:OA) (l8 c8:Nat),e6=.slice a8 l8 c8/\aN w18 ⟨r4,8,none⟩ (.slice a8 l8 c8) R:=by
            intro w' σ' x y R hxl hA k;obtain⟨B2,t,bk⟩:=hA.push.out;refine⟨t.ag 1 rfl 8,t.ax y.cells.toArray λ r5 w17 t17=>⟨t17.ag 2 rfl 8,?_⟩⟩;have hy1:cH 9 Xv.cells w17 (some ⟨r5,0,none⟩) [y]:=λ i z hz=>by
              obtain⟨rfl,rfl⟩:i=0/\z=y:=by
                cases i with
                | zero=>simp at hz; exact⟨rfl,hz.symm⟩
                | succ i=>simp at hz
              exact⟨_,_,rfl,by rw[Nat.zero_mul,fQ]; exact t17.cellsIn 0 rfl,rfl,rfl⟩
            refine eK Tn Xv.len Xv.one (t17.out 3 rfl) (a2:=some ⟨r5,0,none⟩) (c2:=1) (l2:=[y]) hy1 (by simp; omega) (by simp; omega) λ a8 c8 w18 t18=>?_;have t19:=t18.back (show 3<10 by decide);refine t19.aH 2 rfl (j:=8) (show 8<9 by decide) rfl λ w19 t20=>k a8 c8 w19 ?_;have t21:=(t20.aq [1,4,2,3,5,6,7,8,9]).qj (bn _) (bn _) λ w h1 h2=>(show Mr (x.args++[y]) w from λ z hz=>(List.mem_append.1 hz).elim (h2 z) λ e=>by rw[List.mem_singleton.1 e]; exact h1);exact bk (m':=P7 (.mk x.op x.u x.v a8 c8 (x.args++[y])) tk r1 r2 r3 r4 a c l p) (t21.aq [1,2,0,3,4,5,6,7])
          refine cF (by simpa using h1) ⟨_,(frF h9).ag 5 rfl 1,aj (wW h9) ?_⟩;rintro v w14 ⟨rfl,h14⟩;have h14:fI w0 w14 p (vO σ).next (F x0):=h14;refine⟨_,_,_,_,rfl,_,(frF h14).ag 5 rfl 1,aj (eB h14 [40]) ?_⟩;rintro v w15 ⟨rfl,h15⟩;have h15:fI w0 w15.drew p (zq σ) (F x0):=h15.quiet (az.drew w15 []);have h4000:(zq σ).1.length<=4000:=by obtain⟨_,_,_,h2,_⟩:=h15; exact h2
          refine⟨rfl,_,_,_,(frF h15).ag 0 rfl 8,_,_,_,_,(frF h15).cellsIn 5 rfl,aj (OH H h15 λ he=>by have:=J4 h1' he; omega) ?_⟩;rintro v w16 ⟨y,ey,rfl,h16⟩;have l3:(fX (fJ l f) (zq σ)).2.1.length<=(zq σ).1.length:=wE (BI l f) _;generalize fX (fJ l f) (zq σ)=A1 at eF ey h16 l3;refine⟨_,y.u,_,_,_,_,rfl,app (x:=x0) (by show 0<=5000; omega) h16 λ a8 c8 w19 h19=>?_⟩;have h19:fI w0 w19 p A1.2 (F (.mk (bR tk) z6 0 a8 c8 [y])):=h19;refine⟨λ w20=>∃ (x:Xv) (τ:Sc),x.er=(fJ l (f+1) σ).1/\τ.exp [41]=(fJ l (f+1) σ).2/\fI w0 w20 p τ (F x),?_,?_⟩
          · rintro w20 ⟨x,τ,ex,et,h20⟩ -;refine⟨_,(frF h20).ag 5 rfl 1,aj (eB h20 [41]) ?_⟩;rintro v w21 ⟨rfl,h21⟩;have h21:fI w0 w21 p (τ.exp [41]) (F x):=h21;rw[et] at h21;obtain⟨B2,t,bk⟩:=h21.out;refine⟨rfl,_,x.u,_,_,_,_,t.cellsIn 0 rfl,t.aA 4 rfl x.cells rfl (Xv.one _) λ w22 t22=>⟨_,x.u,_,_,_,_,t22.cellsIn 4 rfl,x,ex,rfl,?_⟩⟩;have t23:=(t22.aq [1,2,0,3,4,5,6,7]).qj (bK Xv.len) (bn _) λ w h1 h2=>(Xv.In.mk h1 h2:x.In w);exact(bk (m':=[held x.In,_,_,_,_,_]) t23).Ez ON
          refine⟨λ b w23=>b=decide (bR tk=2\/bR tk=3)/\fI w0 w23 p A1.2 (F (.mk (bR tk) z6 0 a8 c8 [y])),?_,?_⟩
          · rintro w23 _ ⟨rfl,h23⟩ -
            by_cases g23:bR tk=2\/bR tk=3
            · have eR:fJ l (f+1) σ=(.mk (bR tk) z6 0 none 0 (fY (fJ l f) A1.2.1.length [A1.1] A1.2).1,(fY (fJ l f) A1.2.1.length [A1.1] A1.2).2.exp [41]):=by rw[eF,J7,if_pos g23]
              refine cT (dT g23) ⟨λ w24 m=>∃ (n:Nat) (acc:List Xv) (a' : OA) (c' : Nat) (σ' : Sc),m=σ'.1.length/\σ'.1.length<=n/\acc.length+σ'.1.length<=4001/\σ'.1.length<=(zq σ).1.length/\fY (fJ l f) n (acc.map Xv.er) σ' = fY (fJ l f) A1.2.1.length [A1.1] A1.2/\fI w0 w24 p σ' (F (.mk (bR tk) z6 0 a' c' acc)),⟨_,A1.2.1.length,[y],a8,c8,A1.2,rfl,Nat.le_refl _,by simp; omega,l3,by rw[List.map_singleton,ey],h23⟩,?_⟩;rintro w24 m ⟨n,acc,a',c',σ',rfl,hn,hac,hl',he,h24⟩ -;refine⟨_,(frF h24).ag 5 rfl 1,aj (pq h24 [44]) ?_⟩;rintro v w25 ⟨rfl,h25⟩;have h25:fI w0 w25 p (σ'.acc [44]) (F (.mk (bR tk) z6 0 a' c' acc)):=h25;refine⟨_,rfl,?_⟩
              cases hb:mQ [44] σ'.1 σ'.2 with
              | true =>
                have hlen':=Bb hb;obtain⟨n,rfl⟩:∃ k,n=k+1:=⟨n-1,by omega⟩;rw[fY,if_pos hb] at he;have h26:=h25.quiet (az.drew w25 []);have Rz:=E0 σ;refine cT rfl ⟨_,_,_,(frF h26).ag 0 rfl 8,_,_,_,_,(frF h26).cellsIn 5 rfl,aj (OH H h26 λ _=>by omega) ?_⟩;rintro v w26 ⟨z,ez,rfl,h27⟩;have l4:(fX (fJ l f) (σ'.acc [44])).2.1.length<=(σ'.acc [44]).1.length:=wE (BI l f) _;refine⟨_,z.u,_,_,_,_,rfl,app (x:=.mk (bR tk) z6 0 a' c' acc) (by show acc.length<=5000; omega) h27 λ a9 c9 w29 h29=>⟨_,?_,n,acc++[z],a9,c9,_,rfl,?_,?_,?_,?_,h29⟩⟩
                · omega
                · omega
                · rw[List.length_append,List.length_singleton]; omega
                · omega
                · rw[List.map_append,List.map_singleton,ez]; exact he
              | false =>
                have ea:=EK hb;rw[ea] at h25;have ef:fY (fJ l f) n (acc.map Xv.er) σ' = (acc.map Xv.er,σ'):=by
                  cases n with
                  | zero=>rfl
                  | succ n=>rw[fY,if_neg (by rw[hb]; decide)]
                rw[ef] at he;refine cF rfl ⟨_,σ',?_,?_,h25⟩
                · rw[eR,<- he,Xv.qh]; rfl
                · rw[eR,<- he]
            · refine cF (dF g23) ?_
              by_cases g4:bR tk=4
              · have eR:fJ l (f+1) σ=(.mk (bR tk) (bf l (A1.2.exp [44])).1.1 (bf l (A1.2.exp [44])).1.2 none 0 [A1.1],(bf l (A1.2.exp [44])).2.exp [41]):=by rw[eF,J7,if_neg g23,if_pos g4]
                refine cT (by simpa using g4) ⟨_,(frF h23).ag 5 rfl 1,aj (eB h23 [44]) ?_⟩;rintro v w30 ⟨rfl,h30⟩;have h30:fI w0 w30 p (A1.2.exp [44]) (F (.mk (bR tk) z6 0 a8 c8 [y])):=h30;refine⟨rfl,_,_,_,_,(frF h30).cellsIn 5 rfl,aj (D3 h30 hr hc ho) ?_⟩;rintro v w31 ⟨rfl,h31⟩;obtain⟨B2,t,bk⟩:=h31.out;refine⟨_,_,rfl,t.oF 0 1 rfl (Xv.mk (bR tk) (bf l (A1.2.exp [44])).1.1 0 a8 c8 [y]).cells.toArray (show 7<=9 by decide) (I6.one _) rfl λ w32 t32=>t32.aH 0 rfl (j:=7) (show 7<9 by decide) rfl λ w33 t33=>⟨.mk (bR tk) (bf l (A1.2.exp [44])).1.1 (bf l (A1.2.exp [44])).1.2 a8 c8 [y],(bf l (A1.2.exp [44])).2,?_,by rw[eR],bk (m':=P7 (.mk (bR tk) (bf l (A1.2.exp [44])).1.1 (bf l (A1.2.exp [44])).1.2 a8 c8 [y]) tk r1 r2 r3 r4 a c l p) t33⟩⟩;rw[eR,Xv.qh,<- ey]; rfl
              · refine cF (by simpa using g4) ?_
                by_cases g5:bR tk=5
                · have eR:fJ l (f+1) σ=(.mk (bR tk) z6 (tO 1000000 (A1.2.exp [44]).1 (A1.2.exp [44]).2) none 0 [A1.1],((A1.2.exp [44]).qc 1000000).exp [41]):=by rw[eF,J7,if_neg g23,if_neg g4,if_pos g5]
                  refine cT (by simpa using g5) ⟨_,(frF h23).ag 5 rfl 1,aj (eB h23 [44]) ?_⟩;rintro v w34 ⟨rfl,h34⟩;have h34:fI w0 w34 p (A1.2.exp [44]) (F (.mk (bR tk) z6 0 a8 c8 [y])):=h34;refine⟨rfl,_,(frF h34).ag 5 rfl 1,aj (uD h34 1000000) ?_⟩;rintro v w35 ⟨rfl,h35⟩;obtain⟨B2,t,bk⟩:=h35.out;refine⟨_,rfl,t.aH 0 rfl (j:=7) (show 7<9 by decide) rfl λ w36 t36=>⟨.mk (bR tk) z6 (tO 1000000 (A1.2.exp [44]).1 (A1.2.exp [44]).2) a8 c8 [y],(A1.2.exp [44]).qc 1000000,?_,by rw[eR],bk (m':=P7 (.mk (bR tk) z6 (tO 1000000 (A1.2.exp [44]).1 (A1.2.exp [44]).2) a8 c8 [y]) tk r1 r2 r3 r4 a c l p) t36⟩⟩;rw[eR,Xv.qh,<- ey]; rfl
                · have eR:fJ l (f+1) σ=(.mk (bR tk) z6 0 none 0 [A1.1],A1.2.exp [41]):=by rw[eF,J7,if_neg g23,if_neg g4,if_neg g5]
                  refine cF (by simpa using g5) ⟨_,A1.2,?_,by rw[eR],h23⟩;rw[eR,Xv.qh,<- ey]; rfl
          · by_cases g2:bR tk=2
            · exact cT (by simpa using g2) ⟨by rw[dT (Or.inl g2)]; simpa using g2,h19⟩
            · refine cF (by simpa using g2) ⟨?_,h19⟩
              by_cases g3:bR tk=3
              · rw[dT (Or.inr g3)]; simpa using g3
              · rw[dF (by rintro(h | h); exact g2 h; exact g3 h)]; simpa using g3
      · by_cases h0:bR tk=0
        · refine cT (by simpa using h0) ⟨_,(fr h6).ag 2 rfl 1,aj (iq h6 2) ?_⟩;rintro v w37 ⟨rfl,h37⟩;exact⟨rfl,by rw[vO,htk,if_pos h0]; exact h37⟩
        · exact cF (by simpa using h0) (by rw[vO,htk,if_neg h0]; exact h6)
    · refine⟨_,s5.ag 0 rfl 0,?_⟩
      by_cases hk:tk.k=1
      · refine cT (by simpa using hk) ⟨_,s5.ag 0 rfl 1,aj (QD w5 tk.t) ?_⟩;rintro v w38 ⟨rfl,c38⟩;exact⟨_,rfl,by rw[bR,if_pos hk],h5.quiet c38⟩
      · exact cF (by simpa using hk) ⟨by rw[bR,if_neg hk],h5⟩
end
theorem Gc(s:Nat):IntKind.i64.wrap (IntKind.i64.wrap s+1)=IntKind.i64.wrap ((s+1:Nat):Int):=by
  simp only[IntKind.wrap,IntKind.signed,IntKind.bits]
  simp
  omega
def fz(x:Xv):Bool :=
  if x.op=1 then x.args.length==0
  else if x.op=2\/x.op=3 then decide (1<=x.args.length)&&(decide (x.args.length<=8)&&(decide (x.u=z6)&&x.v==0))
  else if x.op=4 then x.args.length==1
  else if x.op=5 then x.args.length==1&&decide (x.u=z6)
  else false
def gB(x:Xv):Bool :=
  if x.op=2\/x.op=3 then true else if x.v<1\/x.v>1000000 then false
  else if x.op=5 then true else x.u.l.all lR&&decide (tot x.u>0)
theorem Qf(w:World)(x:Xv):CP 247 #[.agg x.cells.toArray] w (λ r w'=>r=.bool (fz x)/\az w w' []):=by
  refine BN (u1:=x.u) ?_;unfold Aj;refine(St.start w).one.ax x.cells.toArray λ r1 w1 s1=>⟨_,_,_,s1.ag 0 rfl 8,_,s1.ag 0 rfl 0,?_⟩;have beq0:∀ n m:Nat,(((n:Nat):Int)==(m:Int))=(n==m):=λ n m=>by
    by_cases h:n=m
    · subst h; simp
    · rw[beq_eq_false_iff_ne.2 h,beq_eq_false_iff_ne.2 (show(n:Int)≠m by omega)]
  by_cases h1:x.op=1
  · exact cT (by simpa using h1) ⟨by rw[fz,if_pos h1,<- beq0]; rfl,s1.av⟩
  refine cF (by simpa using h1) ⟨λ b w2=>b=decide (x.op=2\/x.op=3)/\w2=w1,?_,?_⟩
  · rintro w2 _ ⟨rfl,rfl⟩ -
    by_cases h2:x.op=2\/x.op=3
    · have e1:fz x=(decide (1<=x.args.length)&&(decide (x.args.length<=8)&&(decide (x.u=z6)&&x.v==0))):=by rw[fz,if_neg h1,if_pos h2]
      refine cT (dT h2) ?_
      by_cases g1:1<=x.args.length
      · rw[dT g1,Bool.true_and] at e1;refine cT (dT (by omega)) ?_
        by_cases g2:x.args.length<=8
        · rw[dT g2,Bool.true_and] at e1;refine cT (dT (by omega)) ⟨x.u,s1.aP 0 1 rfl rfl,?_⟩;rw[I6.beq_eq]
          by_cases g3:x.u=z6
          · rw[dT g3,Bool.true_and] at e1;exact cT (dT g3) ⟨_,s1.ag 0 rfl 7,by rw[e1],s1.av⟩
          · rw[dF g3] at e1;exact cF (dF g3) ⟨by rw[e1]; rfl,s1.av⟩
        · rw[dF g2] at e1;exact cF (dF (by omega)) ⟨by rw[e1]; rfl,s1.av⟩
      · rw[dF g1] at e1;exact cF (dF (by omega)) ⟨by rw[e1]; rfl,s1.av⟩
    · refine cF (dF h2) ?_
      by_cases h4:x.op=4
      · exact cT (by simpa using h4) ⟨by rw[fz,if_neg h1,if_neg h2,if_pos h4,<- beq0]; rfl,s1.av⟩
      refine cF (by simpa using h4) ?_
      by_cases h5:x.op=5
      · have e1:fz x=(x.args.length==1&&decide (x.u=z6)):=by rw[fz,if_neg h1,if_neg h2,if_neg h4,if_pos h5]
        refine cT (by simpa using h5) ?_
        by_cases g1:x.args.length=1
        · refine cT (beq_iff_eq.2 (by omega)) ⟨x.u,s1.aP 0 1 rfl rfl,?_,s1.av⟩;rw[e1,g1,I6.beq_eq]; rfl
        · refine cF (beq_eq_false_iff_ne.2 (by omega)) ⟨?_,s1.av⟩;rw[e1,beq_eq_false_iff_ne.2 g1]; rfl
      · exact cF (by simpa using h5) ⟨by rw[fz,if_neg h1,if_neg h2,if_neg h4,if_neg h5],s1.av⟩
  · by_cases g2:x.op=2
    · exact cT (by simpa using g2) ⟨by rw[dT (Or.inl g2)]; simpa using g2,rfl⟩
    · refine cF (by simpa using g2) ⟨?_,rfl⟩
      by_cases g3:x.op=3
      · rw[dT (Or.inr g3)]; simpa using g3
      · rw[dF (by rintro(h | h); exact g2 h; exact g3 h)]; simpa using g3
theorem Ld(w:World)(x:Xv):CP 248 #[.agg x.cells.toArray] w (λ r w'=>r=.bool (gB x)/\az w w' []):=by
  refine xU (u1:=x.u) ?_;unfold ve;refine(St.start w).one.ax x.cells.toArray λ r1 w1 s1=>⟨_,s1.ag 0 rfl 0,?_⟩;refine⟨λ b w2=>b=decide (x.op=2\/x.op=3)/\w2=w1,?_,?_⟩
  · rintro w2 _ ⟨rfl,rfl⟩ -
    by_cases h2:x.op=2\/x.op=3
    · exact cT (dT h2) ⟨by rw[gB,if_pos h2],s1.av⟩
    refine cF (dF h2) ⟨λ b w3=>b=decide (x.v<1\/x.v>1000000)/\w3=w2,?_,_,s1.ag 0 rfl 7,?_⟩
    · rintro w3 _ ⟨rfl,rfl⟩ -
      by_cases h3:x.v<1\/x.v>1000000
      · exact cT (dT h3) ⟨by rw[gB,if_neg h2,if_pos h3],s1.av⟩
      refine cF (dF h3) ⟨_,s1.ag 0 rfl 0,?_⟩
      by_cases h5:x.op=5
      · exact cT (by simpa using h5) ⟨by rw[gB,if_neg h2,if_neg h3,if_pos h5],s1.av⟩
      have e1:gB x=(x.u.l.all lR&&decide (tot x.u>0)):=by rw[gB,if_neg h2,if_neg h3,if_neg h5]
      refine cF (by simpa using h5) ⟨x.u,s1.aP 0 1 rfl rfl,aj (cJ _ x.u) ?_⟩;rintro v w4 ⟨rfl,c4⟩;have s4:=s1.quiet c4;refine⟨_,rfl,?_⟩
      cases hq:x.u.l.all lR with
      | false=>exact cF rfl ⟨by rw[e1,hq]; rfl,s4.av⟩
      | true =>
        refine cT rfl ⟨x.u,s4.aP 0 1 rfl rfl,aj (Ot _ x.u (rq (Jl hq) (by omega))) ?_⟩;rintro v w5 ⟨rfl,c5⟩;exact⟨_,rfl,by rw[e1,hq,Bool.true_and],(s4.quiet c5).av⟩
    · by_cases g1:x.v<1
      · exact cT (dT g1) ⟨by rw[dT (Or.inl g1)],rfl⟩
      · refine cF (dF g1) ⟨_,s1.ag 0 rfl 7,?_,rfl⟩
        by_cases g2:x.v>1000000
        · rw[dT g2,dT (Or.inr g2)]
        · rw[dF g2,dF (by rintro(h | h); exact g1 h; exact g2 h)]
  · by_cases g2:x.op=2
    · exact cT (by simpa using g2) ⟨by rw[dT (Or.inl g2)]; simpa using g2,rfl⟩
    · refine cF (by simpa using g2) ⟨?_,rfl⟩
      by_cases g3:x.op=3
      · rw[dT (Or.inr g3)]; simpa using g3
      · rw[dF (by rintro(h | h); exact g2 h; exact g3 h)]; simpa using g3
def HV(n:Nat)(_:Xv):Nat×Bool:=(n+1,true)
theorem PS:∀ (x:Xv) (n:Nat),bz HV x n=(n+aV x,true):=Xv.ind λ x ih n=>by
  rw[ld,if_pos (show(HV n x).2=true from rfl),fc];have:∀ (l:List Xv) (m:Nat),(∀ y∈l,∀ n,bz HV y n=(n+aV y,true))->fk HV l (m,true)=(m+(l.map aV).sum,true):=λ l=>by
    induction l with
    | nil=>intro m _; rfl
    | cons y l ih2 =>
      intro m hl;unfold fk at ih2 ⊢;rw[List.foldl_cons,if_pos rfl,hl y (by simp),ih2 _ λ z hz=>hl z (by simp[hz])];rw[List.map_cons,List.sum_cons,Nat.add_assoc]
  show fk HV x.args (n+1,true)=_;rw[this _ _ ih]; congr 1; omega
theorem Q7{w:World}{x:Xv}(hz:aV x<=100000)(hx:x.In w):CP 245 #[.agg x.cells.toArray] w (λ r w'=>r=iv (aV x)/\az w w' []):=by
  refine BM (u1:=x.u) ?_;unfold Ai;refine(St.start w).one.ax x.cells.toArray λ r1 w1 s1=>s1.ax #[iv 0] λ r2 w2 s2=>s2.aH 0 rfl (j:=0) (show 0<1 by decide) rfl λ w3 s3=>s3.ax #[.nilFunc] λ r3 w4 s4=>s4.aH 0 rfl (j:=0) (show 0<1 by decide) rfl λ w5 s5=>?_;refine⟨_,s5.cellsIn 0 rfl,_,x.u,_,_,_,_,s5.cellsIn 2 rfl,?_⟩;have hv:∀ (w9:World) (B:aD) (s:Nat) (y:Xv) (R:Ending->World->Prop),St w w9 (star (ai r2 #[iv (IntKind.i64.wrap s)] 3) B)->y.In w9->aV y<=100000->(∀ w',St w w' (star (ai r2 #[iv (IntKind.i64.wrap ((s+1:Nat):Int))] 3) B)->R (.returned (.bool true)) w')->cC prog (.func (.func 274) #[] #[pt r2]) #[.agg y.cells.toArray] w9 R:=by
    intro w9 B s y R h hy hys k;refine bx (by kernel_rfl) (aj (K:=λ r w'=>r=.bool true/\St w w' (star (ai r2 #[iv (IntKind.i64.wrap ((s+1:Nat):Int))] 3) B)) (xT (u1:=y.u) ?_) ?_)
    · unfold u7;refine(h.vn).ax y.cells.toArray λ r4 w6 s6=>⟨_,s6.ag 1 rfl 0,s6.aH 1 rfl (j:=0) (show 0<1 by decide) rfl λ w7 s7=>⟨rfl,?_⟩⟩;have e:IntKind.i64.wrap (IntKind.i64.wrap s+1)=IntKind.i64.wrap ((s+1:Nat):Int):=Gc s;have s8:=(s7.aq [1,2]).pair;rw[<- e]; exact s8
    · rintro r w' ⟨rfl,h'⟩; exact k w' h'
  refine aj (Ga (w0:=w) (step:=HV) (A:=λ n=>ai r2 #[iv (IntKind.i64.wrap (n:Int))] 3) hv x hz (λ hc=>hx.av hc) w5 emp 0 (s5.aq [1])) ?_;rintro r w6 ⟨rfl,s6⟩;rw[PS] at s6;refine⟨_,rfl,_,s6.boxed 0,?_,s6.av⟩;rw[Nat.zero_add,aC ⟨by omega,by omega⟩]
def tF(_:Unit)(x:Xv):Unit×Bool:=((),decide (x.args.length<=8))
def og(e:Int)(x:Xv):Int:=if fz x then (if gB x then e else 4) else 2
def dx(e:Int)(x:Xv):Int×Bool:=(og e x,og e x==0)
def dM(x:Xv):Int:=if 6<mW x then 9 else if (bz tF x ()).2=false\/40<aV x then 3 else (bz dx x 0).1
theorem Oz(s:Unit)(x:Xv):tF s x.er=tF s x:=by
  unfold tF;rw[o5,List.length_map]
theorem M6(x:Xv):fz x.er=fz x:=by
  unfold fz;rw[o5,List.length_map,Xv.qh]; rfl
theorem NP(x:Xv):gB x.er=gB x:=by
  unfold gB;rw[Xv.qh]; rfl
theorem QB(e:Int)(x:Xv):dx e x.er=dx e x:=by unfold dx og; rw[M6,NP]
theorem xI(x:Xv):dM x.er=dM x:=by
  unfold dM;rw[PW,Hp,HD Oz,HD QB]
theorem EA{w:World}{x:Xv}(hz:aV x<=100000)(hx:x.In w):CP 199 #[.agg x.cells.toArray] w (λ r w'=>r=iv (dM x)/\az w w' []):=by
  refine zB (u1:=x.u) ?_;unfold xR;have hd:=JU x;refine(St.start w).one.ax x.cells.toArray λ r1 w1 s1=>⟨_,x.u,_,_,_,_,s1.cellsIn 0 rfl,aj (MT x hz w1 (hx.av s1.av)) ?_⟩;rintro v w2 ⟨rfl,c2⟩;have s2:=s1.quiet c2;refine⟨_,rfl,?_⟩
  by_cases h6:6<mW x
  · exact cT (dT (by omega)) ⟨by rw[dM,if_pos h6],s2.av⟩
  refine cF (dF (by omega)) (s2.ax #[.nilFunc] λ r2 w3 s3=>s3.aH 0 rfl (j:=0) (show 0<1 by decide) rfl λ w4 s4=>?_);refine⟨λ b w5=>b=decide ((bz tF x ()).2=false\/40<aV x)/\St w w5 (Sep [ai r1 x.cells.toArray 109]),?_,_,s4.cellsIn 0 rfl,_,x.u,_,_,_,_,s4.cellsIn 1 rfl,?_⟩
  · rintro w5 _ ⟨rfl,s5⟩ -
    by_cases g:(bz tF x ()).2=false\/40<aV x
    · exact cT (dT g) ⟨by rw[dM,if_neg h6,if_pos g],s5.av⟩
    refine cF (dF g) (s5.ax #[iv 0] λ r3 w6 s6=>s6.aH 0 rfl (j:=0) (show 0<1 by decide) rfl λ w7 s7=>s7.ax #[.nilFunc] λ r4 w8 s8=>s8.aH 0 rfl (j:=0) (show 0<1 by decide) rfl λ w9 s9=>⟨_,s9.cellsIn 0 rfl,_,x.u,_,_,_,_,s9.cellsIn 2 rfl,?_⟩);have hv:∀ (w9:World) (B:aD) (s:Int) (y:Xv) (R:Ending->World->Prop),St w w9 (star (ai r3 #[iv s] 30) B)->y.In w9->aV y<=100000->(∀ w',St w w' (star (ai r3 #[iv (dx s y).1] 30) B)->R (.returned (.bool (dx s y).2)) w')->cC prog (.func (.func 246) #[] #[pt r3]) #[.agg y.cells.toArray] w9 R:=by
      intro w9 B s y R h hy hys k;refine bx (by kernel_rfl) (aj (K:=λ r w'=>r=.bool (og s y==0)/\St w w' (star (ai r3 #[iv (og s y)] 30) B)) (vR (u1:=y.u) ?_) ?_)
      · unfold rW;refine(h.vn).ax y.cells.toArray λ r5 w10 t=>⟨λ w2=>St w w2 (Sep [ai r5 y.cells.toArray 109,ai r3 #[iv (og s y)] 30,B]),?_,_,y.u,_,_,_,_,t.cellsIn 0 rfl,aj (Qf w10 y) ?_⟩
        · rintro w2 t2 -;exact⟨_,t2.ag 1 rfl 0,rfl,(t2.aq [1,2]).pair⟩
        rintro v w11 ⟨rfl,c11⟩;have t1:=t.quiet c11;refine⟨_,rfl,?_⟩
        cases hf:fz y with
        | false =>
          have e:og s y=2:=by rw[og,hf]; rfl
          exact cT rfl (t1.aH 1 rfl (j:=0) (show 0<1 by decide) rfl λ w12 t2=>by rw[e]; exact t2)
        | true =>
          refine cF rfl ⟨_,y.u,_,_,_,_,t1.cellsIn 0 rfl,aj (Ld w11 y) ?_⟩;rintro v w12 ⟨rfl,c12⟩;have t2:=t1.quiet c12;refine⟨_,rfl,?_⟩
          cases hg:gB y with
          | false =>
            have e:og s y=4:=by rw[og,hf,hg]; rfl
            exact cT rfl (t2.aH 1 rfl (j:=0) (show 0<1 by decide) rfl λ w12 t3=>by rw[e]; exact t3)
          | true =>
            have e:og s y=s:=by rw[og,hf,hg]; rfl
            exact cF rfl (by rw[e]; exact t2)
      · rintro r w' ⟨rfl,h'⟩; exact k w' h'
    refine aj (Ga (w0:=w) (step:=dx) (A:=λ e=>ai r3 #[iv e] 30) hv x hz (λ hc=>hx.av hc) w9 emp 0 (s9.aq [1])) ?_;rintro r w10 ⟨rfl,s10⟩;exact⟨_,rfl,_,s10.boxed 0,by rw[dM,if_neg h6,if_neg g],s10.av⟩
  · have hv:∀ (w9:World) (B:aD) (s:Unit) (y:Xv) (R:Ending->World->Prop),St w w9 (star emp B)->y.In w9->aV y<=100000->(∀ w',St w w' (star emp B)->R (.returned (.bool (tF s y).2)) w')->cC prog (.func (.func 243) #[] #[]) #[.agg y.cells.toArray] w9 R:=by
      intro w9 B s y R h hy hys k;refine bx (by kernel_rfl) (aj (K:=λ r w'=>r=.bool (decide (y.args.length<=8))/\az w9 w' []) (vQ (u1:=y.u) ?_) ?_)
      · unfold rV;refine(St.start w9).one.ax y.cells.toArray λ r4 w6 s6=>⟨_,_,_,s6.ag 0 rfl 8,?_,s6.av⟩
        by_cases hl:y.args.length<=8
        · rw[dT hl,dT (show((y.args.length:Nat):Int)<=8 by omega)]
        · rw[dF hl,dF (show ¬ ((y.args.length:Nat):Int)<=8 by omega)]
      · rintro r w' ⟨rfl,hc⟩; exact k w' (h.quiet hc)
    refine aj (Ga (w0:=w) (step:=tF) (A:=λ _=>emp) hv x hz (λ hc=>hx.av hc) w4 (Sep [ai r1 x.cells.toArray 109]) () (s4.aq [2,1])) ?_;rintro r w11 ⟨rfl,s11⟩;have s11:St w w11 (Sep [emp,ai r1 x.cells.toArray 109]):=s11;refine⟨_,rfl,?_⟩
    cases hw:(bz tF x ()).2 with
    | false=>exact cT rfl ⟨by rw[dT (Or.inl rfl)],s11.aq [1]⟩
    | true =>
      refine cF rfl ⟨_,x.u,_,_,_,_,s11.cellsIn 1 rfl,aj (Q7 hz (hx.av s11.av)) ?_⟩;rintro v w12 ⟨rfl,c12⟩;refine⟨_,rfl,?_,(s11.quiet c12).aq [1]⟩
      by_cases g:40<aV x
      · rw[dT (p:=true=false\/40<aV x) (Or.inr g)]; exact dT (by omega)
      · rw[dF (p:=true=false\/40<aV x) (by rintro(h | h); exact absurd h (by decide); exact g h)]; exact dF (by omega)
end Go.Proofs.YtpihmghnbplohaaGreatDoor

import Derived.Test.YtjpbdjhaajdepaaGreatDoorM15
import Derived.Test.YtjpbdjhaajdepaaGreatDoorM18
set_option maxRecDepth 100000
namespace Go.Proofs.YtjpbdjhaajdepaaGreatDoor
open Go Go.Vc Tryz
theorem Xv.ind{P:Xv->Prop}(h:∀ x,(∀ y∈x.args,P y)->P x):∀ x,P x
  | .mk op u v a c args=>h _ λ y _hy=>Xv.ind h y
  termination_by x=>SizeOf.sizeOf x
  decreasing_by
    have:y∈args:=_hy;have:=List.sizeOf_lt_of_mem this
    simp_wf; omega
def aT:Xv->Nat
  | .mk _ _ _ _ _ args=>1+(args.map aT).sum
def nI:Xv->Nat
  | .mk _ _ _ _ _ args=>(args.map nI).foldl Nat.max 0+1
theorem fO(x:Xv):aT x=1+(x.args.map aT).sum:=by cases x; rw[aT]; rfl
theorem sQ(x:Xv):nI x=(x.args.map nI).foldl Nat.max 0+1:=by cases x; rw[nI]; rfl
theorem CG:∀ {l:List Nat} {x:Nat},x∈l->x<=l.sum
  | y :: l,x,h=>by
    rw[List.sum_cons];rcases List.mem_cons.1 h with rfl | h
    · omega
    · have:=CG h; omega
theorem zq{x y:Xv}(h:y∈x.args):aT y<aT x:=by
  have:=CG (List.mem_map_of_mem (f:=aT) h);rw[fO x]; omega
theorem size_pos(x:Xv):1<=aT x:=by rw[fO]; omega
theorem xM(x:Xv):x.args.length<aT x:=by
  rw[fO];have:∀ l:List Xv,l.length<=(l.map aT).sum:=λ l=>by
    induction l with
    | nil=>simp
    | cons y l ih=>have:=size_pos y; simp only[List.length_cons,List.map_cons,List.sum_cons]; omega
  have:=this x.args; omega
theorem tf{n:Nat}:∀ {l:List Nat} {a:Nat},a<=n->(∀ x∈l,x<=n)->l.foldl Nat.max a<=n
  | [],_,h,_=>h
  | x :: l,a,h,k=>by
    rw[List.foldl_cons];exact tf (Nat.max_le.2 ⟨h,k x (by simp)⟩) λ y hy=>k y (by simp[hy])
theorem JL:∀ x,nI x<=aT x:=Xv.ind λ x ih=>by
  rw[sQ,fO];have:(x.args.map nI).foldl Nat.max 0<=(x.args.map aT).sum:=tf (Nat.zero_le _) λ d hd=>by
    obtain⟨y,hy,rfl⟩:=List.mem_map.1 hd;exact Nat.le_trans (ih y hy) (CG (List.mem_map_of_mem hy))
  omega
theorem p7(x:Xv):x.er.args=x.args.map Xv.er:=by rw[Xv.qN]; rfl
theorem Hw:∀ x,aT x.er=aT x:=Xv.ind λ x ih=>by
  rw[fO,fO x,p7,List.map_map]
  congr 2
  exact List.map_congr_left λ y hy=>ih y hy
theorem Qi:∀ x,nI x.er=nI x:=Xv.ind λ x ih=>by
  rw[sQ,sQ x,p7,List.map_map]
  congr 2
  exact List.map_congr_left λ y hy=>ih y hy
def bA{S:Type}(step:S->Xv->S×Bool):Xv->S->S×Bool
  | .mk op u v a c args,s=>if (step s (.mk op u v a c args)).2 then (args.map (bA step)).foldl (λ r f=>if r.2 then f r.1 else r) ((step s (.mk op u v a c args)).1,true) else ((step s (.mk op u v a c args)).1,false)
def fX{S:Type}(step:S->Xv->S×Bool)(l:List Xv)(r:S×Bool):S×Bool:=l.foldl (λ r y=>if r.2 then bA step y r.1 else r) r
theorem lS{S:Type}(step:S->Xv->S×Bool)(x:Xv)(s:S):bA step x s=if (step s x).2 then fX step x.args ((step s x).1,true) else ((step s x).1,false):=by
  cases x
  rw[bA,fX];simp only[List.foldl_map,Xv.args]
theorem HK{S:Type}{step:S->Xv->S×Bool}(hs:∀ s x,step s x.er=step s x):∀ (x:Xv) (s:S),bA step x.er s=bA step x s:=Xv.ind λ x ih s=>by
  rw[lS,lS step x,hs,p7]
  congr 1
  have:∀ (l:List Xv) (r:S×Bool),(∀ y∈l,∀ s,bA step y.er s=bA step y s)->fX step (l.map Xv.er) r=fX step l r:=λ l=>by
    induction l with
    | nil=>intro r _; rfl
    | cons y l ih2 =>
      intro r hl;unfold fX at ih2 ⊢;rw[List.map_cons,List.foldl_cons,List.foldl_cons,hl y (by simp)];exact ih2 _ λ z hz=>hl z (by simp[hz])
  exact this _ _ ih
section
variable {w0:World}
theorem MO:∀ (x:Xv),aT x<=100000->∀ w,x.In w->CP 195 #[.agg x.cells.toArray] w (λ r w'=>r=iv (nI x)/\aF w w' []):=Xv.ind λ x ih hz w hx=>by
  refine zR (u1:=x.u) ?_;unfold yp;have hl:=xM x;refine(St.start w).one.aB x.cells.toArray λ r1 w1 s1=>⟨_,_,_,s1.ag 0 rfl 8,?_⟩;refine⟨λ n i w2 m=>∃ k:Nat,i=k/\k<=x.args.length/\m=x.args.length-k/\n=(((x.args.take k).map nI).foldl Nat.max 0:Nat)/\aF w w2 [],⟨x.args.length,0,rfl,by omega,by omega,rfl,s1.aC⟩,?_⟩;rintro w2 m n i ⟨k,rfl,hk,hm,rfl,c2⟩ -
  by_cases hlt:(k:Int)<(x.args.length:Int)
  · have hy:x.args[k]? = some (x.args[k]'(by omega)):=gE (by omega);generalize x.args[k]'(by omega)=y at hy;have hm:=List.mem_of_getElem? hy;obtain⟨q,hq,hcl⟩:=(hx.aC c2).fl.at hy;refine cT (dT hlt) (aq hq ⟨by omega,by omega,_,y.u,_,_,_,_,hcl,(St.start' c2).one.aB dV.cells.toArray λ r2 w3 s3=>s3.aD 0 rfl y.cells rfl y.one λ w4 s4=>⟨_,y.u,_,_,_,_,s4.cellsIn 0 rfl,?_⟩⟩);have hsz:=zq hm;refine au (ih y hm (by omega) w4 ((hx.aC s4.aC).sub y hm)) ?_;rintro v w5 ⟨rfl,c5⟩;refine⟨_,rfl,x.args.length-(k+1),by omega,k+1,aG ⟨by omega,by omega⟩,by omega,rfl,?_,(s4.quiet c5).aC⟩;rw[aO hy,List.map_append,List.foldl_append];show _=((Nat.max _ (nI y):Nat):Int);generalize((x.args.take k).map nI).foldl Nat.max 0=d;have:Nat.max d (nI y)=if nI y>d then nI y else d:=by
      show max _ _=_;rw[Nat.max_def]
      split<;>split<;>omega
    rw[this]
    split<;>split<;>omega
  · obtain rfl:k=x.args.length:=by omega
    have hd:=JL x;rw[sQ] at hd;rw[List.take_length];refine cF (dF hlt) ⟨?_,c2⟩;rw[sQ];generalize(x.args.map nI).foldl Nat.max 0=d at hd ⊢;rw[aG ⟨by omega,by omega⟩,Int.natCast_add]; rfl
variable {S:Type} {step:S->Xv->S×Bool} {A:S->aI} {v:Value}
theorem F6(hv:∀ (w:World) (B:aI) (s:S) (y:Xv) (R:Ending->World->Prop),St w0 w (star (A s) B)->y.In w->aT y<=100000->(∀ w',St w0 w' (star (A (step s y).1) B)->R (.returned (.bool (step s y).2)) w')->dy prog v #[.agg y.cells.toArray] w R) :
    ∀ (x:Xv),aT x<=100000->(∀ {w'},aF w0 w' []->x.In w')->∀ (w:World) (B:aI) (s:S),St w0 w (star (A s) B) ->
    CP 197 #[.agg #[v],.agg x.cells.toArray] w (λ r w'=>r=.bool (bA step x s).2/\St w0 w' (star (A (bA step x s).1) B)):=Xv.ind λ x ih hz hx w B s h=>by
  refine qA (u1:=x.u) ?_;unfold kV;have hl:=xM x;refine(h.AL).aB #[v] λ r1 w1 s1=>s1.aB x.cells.toArray λ r2 w2 s2=>?_;let M:S->List aI:=λ s=>[A s,ah r2 x.cells.toArray 107,ah r1 #[v] 298,B];have s3:St w0 w2 (Sep (M s)):=s2.aA [2,0,1,3];have opn:∀ {w' : World} {s:S},St w0 w' (Sep (M s))->St w0 w' (star (A s) B):=λ h=>(h.aA [0,3]).pair;refine⟨_,s2.ag 1 rfl 0,_,x.u,_,_,_,_,s2.cellsIn 0 rfl,hv w2 _ s x _ s3 (hx s3.aC) hz λ w3 s4=>⟨_,rfl,?_⟩⟩;have s4:St w0 w3 (Sep (M (step s x).1)):=s4;have ew:=lS step x s
  cases hb:(step s x).2 with
  | false =>
    rw[if_neg (by rw[hb]; decide)] at ew;exact cT rfl ⟨by rw[ew],by rw[ew]; exact opn s4⟩
  | true =>
    rw[if_pos hb] at ew;refine cF rfl ⟨_,_,_,s4.ag 1 rfl 8,?_⟩;refine⟨λ i w4 m=>∃ (k:Nat) (s' : S),i=k/\k<=x.args.length/\m=x.args.length-k/\fX step (x.args.drop k) (s',true)=bA step x s/\St w0 w4 (Sep (M s')),⟨x.args.length,0,_,rfl,by omega,by omega,ew.symm,s4⟩,?_⟩;rintro w4 m i ⟨k,s',rfl,hk,hm,hw,s5⟩ -
    by_cases hlt:(k:Int)<(x.args.length:Int)
    · have hk' : k<x.args.length:=by omega
      have hy:x.args[k]? = some (x.args[k]'hk'):=gE hk';rw[List.drop_eq_getElem_cons hk'] at hw;generalize x.args[k]'hk' = y at hy hw;have hm:=List.mem_of_getElem? hy;obtain⟨q,hq,hcl⟩:=(hx s5.aC).fl.at hy;refine cT (dT hlt) (aq hq ⟨by omega,by omega,_,y.u,_,_,_,_,hcl,s5.aB dV.cells.toArray λ r3 w5 s6=>s6.aD 0 rfl y.cells rfl y.one λ w6 s7=>⟨_,s7.cellsIn 3 rfl,_,y.u,_,_,_,_,s7.cellsIn 0 rfl,?_⟩⟩);have s8:St w0 w6 (Sep (M s')):=s7.aA [1,2,3,4];refine au (ih y hm (by have:=zq hm; omega) (λ hc=>(hx hc).sub y hm) w6 _ s' s8) ?_;rintro r w7 ⟨rfl,s9⟩;have s9:St w0 w7 (Sep (M (bA step y s').1)):=s9;refine⟨_,rfl,?_⟩;rw[fX,List.foldl_cons,if_pos rfl] at hw
      cases hr:(bA step y s').2 with
      | true =>
        have e2:bA step y s' = ((bA step y s').1,true):=by rw[<- hr]
        rw[e2] at hw;exact cF rfl ⟨x.args.length-(k+1),by omega,k+1,_,aG ⟨by omega,by omega⟩,by omega,rfl,hw,s9⟩
      | false =>
        have e2:bA step y s' = ((bA step y s').1,false):=by rw[<- hr]
        have e3:∀ (l:List Xv) (r:S×Bool),r.2=false->l.foldl (λ r y=>if r.2 then bA step y r.1 else r) r=r:=λ l=>by
          induction l with
          | nil=>intro r _; rfl
          | cons z l ih=>intro r hr; rw[List.foldl_cons,if_neg (by rw[hr]; decide),ih r hr]
        rw[e3 _ _ hr] at hw;exact cT rfl ⟨by rw[<- hw,hr],by rw[<- hw]; exact opn s9⟩
    · obtain rfl:k=x.args.length:=by omega
      rw[List.drop_length] at hw;exact cF (dF hlt) ⟨by rw[<- hw]; rfl,by rw[<- hw]; exact opn s5⟩
end
section
variable {w0:World} {p:Nat} {B:aI}
theorem kn.ED{w:World}{l:List Tk}{e:Int}{B' : aI}(h:kn w0 w p l e B)(k:bP B B'):kn w0 w p l e B':=by
  obtain⟨a,c,h1,h2,s⟩:=h;exact⟨a,c,h1,h2,s.weak (bP.right (bP.right (bP.left k)))⟩
theorem kn.push{w:World}{l:List Tk}{e:Int}{A:aI}{m:List aI}(h:kn w0 w p l e (star A (star (Sep m) B))):kn w0 w p l e (star (Sep (A :: m)) B):=h.ED bq.assoc'.weak
abbrev Sg (a:OA) (c:Nat) (l:List Pr) (p:Nat):Array Value:=#[.slice a l.length c,pt p]
def O3(w0:World)(p:Nat)(a:OA)(c:Nat)(l:List Pr)(f:Nat):Prop :=
  ∀ (B:aI) (σ:Sc) (w:World),σ.1.length<f->gz w0 w p σ B ->
    CP 160 #[.agg (Sg a c l p)] w (λ r w'=>∃ x:Xv,x.er=(gA l f σ).1/\r=.agg x.cells.toArray/\gz w0 w' p (gA l f σ).2 (star (held x.In) B))
variable {a:OA} {c:Nat} {l:List Pr}
theorem O6{f:Nat}(H:O3 w0 p a c l f){σ:Sc}{w:World}(h:gz w0 w p σ B)(hl:σ.2=0->σ.1.length<f) :
    CP 191 #[.agg (Sg a c l p)] w (λ r w'=>∃ x:Xv,x.er=(gG (gA l f) σ).1/\r=.agg x.cells.toArray/\gz w0 w' p (gG (gA l f) σ).2 (star (held x.In) B)):=by
  refine iH ?_;unfold dW;refine(St.start w).one.aB (Sg a c l p) λ r1 w1 s1=>s1.aB dV.cells.toArray λ r2 w2 s2=>?_;have h2:=h.add s2;refine⟨_,s2.ag 1 rfl 1,au (zi h2) ?_⟩;rintro v w2 ⟨rfl,rfl⟩;refine⟨_,rfl,?_⟩
  by_cases he:σ.2=0
  · have e1:gG (gA l f) σ=gA l f σ:=by rw[gG,if_neg (by simpa using he)]
    rw[e1];refine cF (by simpa using he) ⟨_,_,_,_,s2.cellsIn 1 rfl,au (H _ σ w2 (hl he) h2) ?_⟩;rintro v w5 ⟨x,ex,rfl,h5⟩;obtain⟨B',s5,back⟩:=h5.push.out;exact⟨_,x.u,_,_,_,_,rfl,s5.aD 1 rfl x.cells rfl (Xv.one _) λ w6 s6=>⟨_,x.u,_,_,_,_,s6.cellsIn 1 rfl,x,ex,rfl,(back (m':=[held x.In,_,_,_]) s6).ED (bq.assoc.weak.trans (bP.right ((bP.left (bP.none _)).trans (bq.swap.trans (bq.unit' B)).weak)))⟩⟩
  · have e1:gG (gA l f) σ=(dV,σ):=by rw[gG,if_pos he]
    rw[e1];obtain⟨B',s5,back⟩:=h2.out;refine cT (by simpa using he) (s5.aD 0 rfl dV.cells rfl (Xv.one _) λ w6 s6=>⟨_,z6,_,_,_,_,s6.cellsIn 0 rfl,dV,Ga,rfl,?_⟩);have s7:=s6.tj (Q:=dV.In) λ w=>.mk (λ i y hy=>by simp[dV,Xv.args] at hy) (λ y hy=>by simp[dV,Xv.args] at hy);exact(back (m':=[held dV.In,_,_,_]) s7).ED (bq.assoc.weak.trans (bP.right ((bP.left (bP.none _)).trans (bq.swap.trans (bq.unit' B)).weak)))
end
section
variable {w0:World} {p:Nat} {B:aI} {a:OA} {c:Nat} {l:List Pr}
theorem Pd{A C:aI}{m:List aI}:bP (star (Sep (A :: m)) C) (star A C):=bq.assoc.weak.trans (bP.right ((bP.left (bP.none _)).trans (bq.swap.trans (bq.unit' C)).weak))
def Qr(x:Xv)(tk:Tk)(r1 r2 r3 r4:Nat)(a:OA)(c:Nat)(l:List Pr)(p:Nat):List aI :=
  [ah r4 x.cells.toArray 107,Vi x.a x.c x.args,held (Mo x.args),ah r3 tk.cells.toArray 286,ah r2 dV.cells.toArray 107,ah r1 (Sg a c l p) 255,emp]
theorem J1(hr:∀ {w'},aF w0 w' []->eB w' a l)(hc:l.length<=c)(ho:di l):∀ f,O3 w0 p a c l f
  | 0=>λ _ _ _ h _=>absurd h (Nat.not_lt_zero _)
  | f+1=>λ B σ w hlen h=>by
    have H:=J1 hr hc ho f;refine gL ?_;unfold dz;refine(St.start w).one.aB (Sg a c l p) λ r1 w1 s1=>s1.aB dV.cells.toArray λ r2 w2 s2=>⟨_,s2.ag 1 rfl 1,?_⟩;have h2:=h.add s2;refine au (qh h2) ?_;rintro v w3 ⟨rfl,c3⟩;have s3:=s2.quiet c3;generalize htk:aS σ.1 σ.2=tk at *;refine⟨_,_,_,_,rfl,s3.aB uq.cells.toArray λ r3 w4 s4=>s4.aD 0 rfl tk.cells rfl (Tk.one _) λ w5 s5=>?_⟩;let m0:List aI:=[ah r3 tk.cells.toArray 286,ah r2 dV.cells.toArray 107,ah r1 (Sg a c l p) 255,emp];have h5:gz w0 w5 p σ (star (Sep m0) B):=h.add s5;have fr:∀ {w' : World} {σ' : Sc} {m:List aI},gz w0 w' p σ' (star (Sep m) B)->St w0 w' (Sep m):=λ h=>h.frame.first;refine⟨λ n w6=>n=bU tk/\gz w0 w6 p σ (star (Sep m0) B),?_,?_⟩
    · rintro w6 _ ⟨rfl,h6⟩ -;refine⟨λ w7=>gz w0 w7 p (wI σ) (star (Sep m0) B),?_,?_⟩
      · rintro w7 h7 -;obtain⟨B',t7,back⟩:=h7.out;refine t7.aB dV.cells.toArray λ r4 w8 s8=>s8.aD 0 rfl (Xv.mk (bU tk) z6 0 none 0 []).cells rfl (Xv.one _) λ w9 s9=>?_;have s9:St w0 w9 (Sep (ah r4 (Xv.mk (bU tk) z6 0 none 0 []).cells.toArray 107 :: (m0++[B']))):=s9
        by_cases h1:bU tk=1
        ·
          have eF:gA l (f+1) σ=(.mk 1 (aZ l (wI σ)).1.1 (aZ l (wI σ)).1.2 none 0 [],(aZ l (wI σ)).2):=by rw[gA,htk,if_pos h1]
          have h9:gz w0 w9 p (wI σ) (star (Sep (ah r4 (Xv.mk (bU tk) z6 0 none 0 []).cells.toArray 107 :: m0)) B):=back (m':=ah r4 (Xv.mk (bU tk) z6 0 none 0 []).cells.toArray 107 :: m0) s9;refine cT (by simpa using h1) ⟨_,_,_,_,s9.cellsIn 3 rfl,au (Eh h9 hr hc ho) ?_⟩;rintro v w10 ⟨rfl,h10⟩;obtain⟨B2,s10,back2⟩:=h10.out;let x:Xv:=.mk (bU tk) (aZ l (wI σ)).1.1 (aZ l (wI σ)).1.2 none 0 [];refine⟨_,_,rfl,s10.pn 0 1 rfl (Xv.mk (bU tk) (aZ l (wI σ)).1.1 0 none 0 []).cells.toArray (show 7<=9 by decide) (I6.one _) rfl λ w11 s11=>s11.aJ 0 rfl (j:=7) (show 7<9 by decide) rfl λ w12 s12=>?_⟩;refine⟨_,x.u,_,_,_,_,s12.cellsIn 0 rfl,s12.aD 2 rfl x.cells rfl (Xv.one _) λ w13 s13=>⟨_,x.u,_,_,_,_,s13.cellsIn 2 rfl,x,?_,rfl,?_⟩⟩
          · rw[eF,Xv.qN];show Xv.mk (bU tk) _ _ none 0 []=Xv.mk 1 _ _ none 0 [];rw[h1]; rfl
          · rw[eF];have s14:=s13.tj (Q:=x.In) λ w=>.mk (λ i y hy=>by simp[x,Xv.args] at hy) (λ y hy=>by simp[x,Xv.args] at hy);exact(back2 (m':=[held x.In,_,_,_,_,_]) s14).ED Pd
        ·
          have eF:gA l (f+1) σ=JW l (gA l f) (bU tk) (gG (gA l f) (zJ σ)).1 (gG (gA l f) (zJ σ)).2:=by rw[gA,htk,if_neg h1]
          have h1' : bU (aS σ.1 σ.2)≠1:=by rw[htk]; exact h1
          let x0:Xv:=.mk (bU tk) z6 0 none 0 [];have t9:St w0 w9 (Sep (Qr x0 tk r1 r2 r3 r4 a c l p++[B'])):=(St.tj (l:=[_,_,_,_,_,_,_]) (s9.dI (e:=107) (sz:=9) (f:=Xv.cells)) (Q:=Mo []) (λ w=>by simp[Mo])).aA [2,1,0,3,4,5,6,7];let F:Xv->aI:=λ x=>star (Sep (Qr x tk r1 r2 r3 r4 a c l p)) B;have h9:gz w0 w9 p (wI σ) (F x0):=back (m':=Qr x0 tk r1 r2 r3 r4 a c l p) t9;have frF:∀ {w' : World} {σ' : Sc} {x:Xv},gz w0 w' p σ' (F x)->St w0 w' (Sep (Qr x tk r1 r2 r3 r4 a c l p)):=λ h=>h.frame.first;have app:∀ {w' : World} {σ' : Sc} {x y:Xv} {R:World->Prop},x.args.length<=5000->gz w0 w' p σ' (star (held y.In) (F x)) ->
              (∀ a8 c8 w19,gz w0 w19 p σ' (F (.mk x.op x.u x.v a8 c8 (x.args++[y])))->R w19) ->
              w'.cell? ⟨r4,8,none⟩=some (.slice x.a x.args.length x.c)/\av w' (.cells (iv y.op :: (y.u.on [iv y.v,.slice y.a y.args.length y.c]):List Value).toArray 107) λ r5 w17=>w17.cell? ⟨r4,8,none⟩=some (.slice x.a x.args.length x.c) /\
                bg prog (Builtin.append_ #[105,105] 105 #[.slice x.a x.args.length x.c,.slice (some ⟨r5,0,none⟩) 1 1]) w17 λ e6 w18=>∃ (a8:OA) (l8 c8:Nat),e6=.slice a8 l8 c8/\aQ w18 ⟨r4,8,none⟩ (.slice a8 l8 c8) R:=by
            intro w' σ' x y R hxl hA k;obtain⟨B2,t,bk⟩:=hA.push.out;refine⟨t.ag 1 rfl 8,t.aB y.cells.toArray λ r5 w17 t17=>⟨t17.ag 2 rfl 8,?_⟩⟩;have hy1:cN 9 Xv.cells w17 (some ⟨r5,0,none⟩) [y]:=λ i z hz=>by
              obtain⟨rfl,rfl⟩:i=0/\z=y:=by
                cases i with
                | zero=>simp at hz; exact⟨rfl,hz.symm⟩
                | succ i=>simp at hz
              exact⟨_,_,rfl,by rw[Nat.zero_mul,qk]; exact t17.cellsIn 0 rfl,rfl,rfl⟩
            refine iF U4 Xv.len Xv.one (t17.out 3 rfl) (a2:=some ⟨r5,0,none⟩) (c2:=1) (l2:=[y]) hy1 (by simp; omega) (by simp; omega) λ a8 c8 w18 t18=>?_;have t19:=t18.back (show 3<10 by decide);refine t19.aJ 2 rfl (j:=8) (show 8<9 by decide) rfl λ w19 t20=>k a8 c8 w19 ?_;have t21:=(t20.aA [1,4,2,3,5,6,7,8,9]).kY (aR _) (aR _) λ w h1 h2=>(show Mo (x.args++[y]) w from λ z hz=>(List.mem_append.1 hz).elim (h2 z) λ e=>by rw[List.mem_singleton.1 e]; exact h1);exact bk (m':=Qr (.mk x.op x.u x.v a8 c8 (x.args++[y])) tk r1 r2 r3 r4 a c l p) (t21.aA [1,2,0,3,4,5,6,7])
          refine cF (by simpa using h1) ⟨_,(frF h9).ag 5 rfl 1,au (xz h9) ?_⟩;rintro v w14 ⟨rfl,h14⟩;have h14:gz w0 w14 p (wI σ).next (F x0):=h14;refine⟨_,_,_,_,rfl,_,(frF h14).ag 5 rfl 1,au (ff h14 [40]) ?_⟩;rintro v w15 ⟨rfl,h15⟩;have h15:gz w0 w15.drew p (zJ σ) (F x0):=h15.quiet (aF.drew w15 []);have h4000:(zJ σ).1.length<=4000:=by obtain⟨_,_,_,h2,_⟩:=h15; exact h2
          refine⟨rfl,_,_,_,(frF h15).ag 0 rfl 8,_,_,_,_,(frF h15).cellsIn 5 rfl,au (O6 H h15 λ he=>by have:=JT h1' he; omega) ?_⟩;rintro v w16 ⟨y,ey,rfl,h16⟩;have l3:(gG (gA l f) (zJ σ)).2.1.length<=(zJ σ).1.length:=xe (BK l f) _;generalize gG (gA l f) (zJ σ)=A1 at eF ey h16 l3;refine⟨_,y.u,_,_,_,_,rfl,app (x:=x0) (by show 0<=5000; omega) h16 λ a8 c8 w19 h19=>?_⟩;have h19:gz w0 w19 p A1.2 (F (.mk (bU tk) z6 0 a8 c8 [y])):=h19;refine⟨λ w20=>∃ (x:Xv) (τ:Sc),x.er=(gA l (f+1) σ).1/\τ.exp [41]=(gA l (f+1) σ).2/\gz w0 w20 p τ (F x),?_,?_⟩
          · rintro w20 ⟨x,τ,ex,et,h20⟩ -;refine⟨_,(frF h20).ag 5 rfl 1,au (ff h20 [41]) ?_⟩;rintro v w21 ⟨rfl,h21⟩;have h21:gz w0 w21 p (τ.exp [41]) (F x):=h21;rw[et] at h21;obtain⟨B2,t,bk⟩:=h21.out;refine⟨rfl,_,x.u,_,_,_,_,t.cellsIn 0 rfl,t.aD 4 rfl x.cells rfl (Xv.one _) λ w22 t22=>⟨_,x.u,_,_,_,_,t22.cellsIn 4 rfl,x,ex,rfl,?_⟩⟩;have t23:=(t22.aA [1,2,0,3,4,5,6,7]).kY (bp Xv.len) (aR _) λ w h1 h2=>(Xv.In.mk h1 h2:x.In w);exact(bk (m':=[held x.In,_,_,_,_,_]) t23).ED Pd
          refine⟨λ b w23=>b=decide (bU tk=2\/bU tk=3)/\gz w0 w23 p A1.2 (F (.mk (bU tk) z6 0 a8 c8 [y])),?_,?_⟩
          · rintro w23 _ ⟨rfl,h23⟩ -
            by_cases g23:bU tk=2\/bU tk=3
            · have eR:gA l (f+1) σ=(.mk (bU tk) z6 0 none 0 (gH (gA l f) A1.2.1.length [A1.1] A1.2).1,(gH (gA l f) A1.2.1.length [A1.1] A1.2).2.exp [41]):=by rw[eF,JW,if_pos g23]
              refine cT (dT g23) ⟨λ w24 m=>∃ (n:Nat) (acc:List Xv) (a' : OA) (c' : Nat) (σ' : Sc),m=σ'.1.length/\σ'.1.length<=n/\acc.length+σ'.1.length<=4001/\σ'.1.length<=(zJ σ).1.length/\gH (gA l f) n (acc.map Xv.er) σ' = gH (gA l f) A1.2.1.length [A1.1] A1.2/\gz w0 w24 p σ' (F (.mk (bU tk) z6 0 a' c' acc)),⟨_,A1.2.1.length,[y],a8,c8,A1.2,rfl,Nat.le_refl _,by simp; omega,l3,by rw[List.map_singleton,ey],h23⟩,?_⟩;rintro w24 m ⟨n,acc,a',c',σ',rfl,hn,hac,hl',he,h24⟩ -;refine⟨_,(frF h24).ag 5 rfl 1,au (qf h24 [44]) ?_⟩;rintro v w25 ⟨rfl,h25⟩;have h25:gz w0 w25 p (σ'.acc [44]) (F (.mk (bU tk) z6 0 a' c' acc)):=h25;refine⟨_,rfl,?_⟩
              cases hb:nC [44] σ'.1 σ'.2 with
              | true =>
                have hlen':=Bj hb;obtain⟨n,rfl⟩:∃ k,n=k+1:=⟨n-1,by omega⟩;rw[gH,if_pos hb] at he;have h26:=h25.quiet (aF.drew w25 []);have MU:=Fa σ;refine cT rfl ⟨_,_,_,(frF h26).ag 0 rfl 8,_,_,_,_,(frF h26).cellsIn 5 rfl,au (O6 H h26 λ _=>by omega) ?_⟩;rintro v w26 ⟨z,ez,rfl,h27⟩;have l4:(gG (gA l f) (σ'.acc [44])).2.1.length<=(σ'.acc [44]).1.length:=xe (BK l f) _;refine⟨_,z.u,_,_,_,_,rfl,app (x:=.mk (bU tk) z6 0 a' c' acc) (by show acc.length<=5000; omega) h27 λ a9 c9 w29 h29=>⟨_,?_,n,acc++[z],a9,c9,_,rfl,?_,?_,?_,?_,h29⟩⟩
                · omega
                · omega
                · rw[List.length_append,List.length_singleton]; omega
                · omega
                · rw[List.map_append,List.map_singleton,ez]; exact he
              | false =>
                have ea:=ET hb;rw[ea] at h25;have ef:gH (gA l f) n (acc.map Xv.er) σ' = (acc.map Xv.er,σ'):=by
                  cases n with
                  | zero=>rfl
                  | succ n=>rw[gH,if_neg (by rw[hb]; decide)]
                rw[ef] at he;refine cF rfl ⟨_,σ',?_,?_,h25⟩
                · rw[eR,<- he,Xv.qN]; rfl
                · rw[eR,<- he]
            · refine cF (dF g23) ?_
              by_cases g4:bU tk=4
              · have eR:gA l (f+1) σ=(.mk (bU tk) (aZ l (A1.2.exp [44])).1.1 (aZ l (A1.2.exp [44])).1.2 none 0 [A1.1],(aZ l (A1.2.exp [44])).2.exp [41]):=by rw[eF,JW,if_neg g23,if_pos g4]
                refine cT (by simpa using g4) ⟨_,(frF h23).ag 5 rfl 1,au (ff h23 [44]) ?_⟩;rintro v w30 ⟨rfl,h30⟩;have h30:gz w0 w30 p (A1.2.exp [44]) (F (.mk (bU tk) z6 0 a8 c8 [y])):=h30;refine⟨rfl,_,_,_,_,(frF h30).cellsIn 5 rfl,au (Eh h30 hr hc ho) ?_⟩;rintro v w31 ⟨rfl,h31⟩;obtain⟨B2,t,bk⟩:=h31.out;refine⟨_,_,rfl,t.pn 0 1 rfl (Xv.mk (bU tk) (aZ l (A1.2.exp [44])).1.1 0 a8 c8 [y]).cells.toArray (show 7<=9 by decide) (I6.one _) rfl λ w32 t32=>t32.aJ 0 rfl (j:=7) (show 7<9 by decide) rfl λ w33 t33=>⟨.mk (bU tk) (aZ l (A1.2.exp [44])).1.1 (aZ l (A1.2.exp [44])).1.2 a8 c8 [y],(aZ l (A1.2.exp [44])).2,?_,by rw[eR],bk (m':=Qr (.mk (bU tk) (aZ l (A1.2.exp [44])).1.1 (aZ l (A1.2.exp [44])).1.2 a8 c8 [y]) tk r1 r2 r3 r4 a c l p) t33⟩⟩;rw[eR,Xv.qN,<- ey]; rfl
              · refine cF (by simpa using g4) ?_
                by_cases g5:bU tk=5
                · have eR:gA l (f+1) σ=(.mk (bU tk) z6 (uv 1000000 (A1.2.exp [44]).1 (A1.2.exp [44]).2) none 0 [A1.1],((A1.2.exp [44]).qH 1000000).exp [41]):=by rw[eF,JW,if_neg g23,if_neg g4,if_pos g5]
                  refine cT (by simpa using g5) ⟨_,(frF h23).ag 5 rfl 1,au (ff h23 [44]) ?_⟩;rintro v w34 ⟨rfl,h34⟩;have h34:gz w0 w34 p (A1.2.exp [44]) (F (.mk (bU tk) z6 0 a8 c8 [y])):=h34;refine⟨rfl,_,(frF h34).ag 5 rfl 1,au (vf h34 1000000) ?_⟩;rintro v w35 ⟨rfl,h35⟩;obtain⟨B2,t,bk⟩:=h35.out;refine⟨_,rfl,t.aJ 0 rfl (j:=7) (show 7<9 by decide) rfl λ w36 t36=>⟨.mk (bU tk) z6 (uv 1000000 (A1.2.exp [44]).1 (A1.2.exp [44]).2) a8 c8 [y],(A1.2.exp [44]).qH 1000000,?_,by rw[eR],bk (m':=Qr (.mk (bU tk) z6 (uv 1000000 (A1.2.exp [44]).1 (A1.2.exp [44]).2) a8 c8 [y]) tk r1 r2 r3 r4 a c l p) t36⟩⟩;rw[eR,Xv.qN,<- ey]; rfl
                · have eR:gA l (f+1) σ=(.mk (bU tk) z6 0 none 0 [A1.1],A1.2.exp [41]):=by rw[eF,JW,if_neg g23,if_neg g4,if_neg g5]
                  refine cF (by simpa using g5) ⟨_,A1.2,?_,by rw[eR],h23⟩;rw[eR,Xv.qN,<- ey]; rfl
          · by_cases g2:bU tk=2
            · exact cT (by simpa using g2) ⟨by rw[dT (Or.inl g2)]; simpa using g2,h19⟩
            · refine cF (by simpa using g2) ⟨?_,h19⟩
              by_cases g3:bU tk=3
              · rw[dT (Or.inr g3)]; simpa using g3
              · rw[dF (by rintro(h | h); exact g2 h; exact g3 h)]; simpa using g3
      · by_cases h0:bU tk=0
        · refine cT (by simpa using h0) ⟨_,(fr h6).ag 2 rfl 1,au (iJ h6 2) ?_⟩;rintro v w37 ⟨rfl,h37⟩;exact⟨rfl,by rw[wI,htk,if_pos h0]; exact h37⟩
        · exact cF (by simpa using h0) (by rw[wI,htk,if_neg h0]; exact h6)
    · refine⟨_,s5.ag 0 rfl 0,?_⟩
      by_cases hk:tk.k=1
      · refine cT (by simpa using hk) ⟨_,s5.ag 0 rfl 1,au (Rk w5 tk.t) ?_⟩;rintro v w38 ⟨rfl,c38⟩;exact⟨_,rfl,by rw[bU,if_pos hk],h5.quiet c38⟩
      · exact cF (by simpa using hk) ⟨by rw[bU,if_neg hk],h5⟩
end
theorem F8(s:Nat):IntKind.i64.wrap (IntKind.i64.wrap s+1)=IntKind.i64.wrap ((s+1:Nat):Int):=by
  simp only[IntKind.wrap,IntKind.signed,IntKind.bits]
  simp
  omega
def gq(x:Xv):Bool :=
  if x.op=1 then x.args.length==0
  else if x.op=2\/x.op=3 then decide (1<=x.args.length)&&(decide (x.args.length<=8)&&(decide (x.u=z6)&&x.v==0))
  else if x.op=4 then x.args.length==1
  else if x.op=5 then x.args.length==1&&decide (x.u=z6)
  else false
def gU(x:Xv):Bool :=
  if x.op=2\/x.op=3 then true else if x.v<1\/x.v>1000000 then false
  else if x.op=5 then true else x.u.l.all mD&&decide (tot x.u>0)
theorem QB(w:World)(x:Xv):CP 200 #[.agg x.cells.toArray] w (λ r w'=>r=.bool (gq x)/\aF w w' []):=by
  refine BP (u1:=x.u) ?_;unfold Ar;refine(St.start w).one.aB x.cells.toArray λ r1 w1 s1=>⟨_,_,_,s1.ag 0 rfl 8,_,s1.ag 0 rfl 0,?_⟩;have beq0:∀ n m:Nat,(((n:Nat):Int)==(m:Int))=(n==m):=λ n m=>by
    by_cases h:n=m
    · subst h; simp
    · rw[beq_eq_false_iff_ne.2 h,beq_eq_false_iff_ne.2 (show(n:Int)≠m by omega)]
  by_cases h1:x.op=1
  · exact cT (by simpa using h1) ⟨by rw[gq,if_pos h1,<- beq0]; rfl,s1.aC⟩
  refine cF (by simpa using h1) ⟨λ b w2=>b=decide (x.op=2\/x.op=3)/\w2=w1,?_,?_⟩
  · rintro w2 _ ⟨rfl,rfl⟩ -
    by_cases h2:x.op=2\/x.op=3
    · have e1:gq x=(decide (1<=x.args.length)&&(decide (x.args.length<=8)&&(decide (x.u=z6)&&x.v==0))):=by rw[gq,if_neg h1,if_pos h2]
      refine cT (dT h2) ?_
      by_cases g1:1<=x.args.length
      · rw[dT g1,Bool.true_and] at e1;refine cT (dT (by omega)) ?_
        by_cases g2:x.args.length<=8
        · rw[dT g2,Bool.true_and] at e1;refine cT (dT (by omega)) ⟨x.u,s1.aM 0 1 rfl rfl,?_⟩;rw[I6.beq_eq]
          by_cases g3:x.u=z6
          · rw[dT g3,Bool.true_and] at e1;exact cT (dT g3) ⟨_,s1.ag 0 rfl 7,by rw[e1],s1.aC⟩
          · rw[dF g3] at e1;exact cF (dF g3) ⟨by rw[e1]; rfl,s1.aC⟩
        · rw[dF g2] at e1;exact cF (dF (by omega)) ⟨by rw[e1]; rfl,s1.aC⟩
      · rw[dF g1] at e1;exact cF (dF (by omega)) ⟨by rw[e1]; rfl,s1.aC⟩
    · refine cF (dF h2) ?_
      by_cases h4:x.op=4
      · exact cT (by simpa using h4) ⟨by rw[gq,if_neg h1,if_neg h2,if_pos h4,<- beq0]; rfl,s1.aC⟩
      refine cF (by simpa using h4) ?_
      by_cases h5:x.op=5
      · have e1:gq x=(x.args.length==1&&decide (x.u=z6)):=by rw[gq,if_neg h1,if_neg h2,if_neg h4,if_pos h5]
        refine cT (by simpa using h5) ?_
        by_cases g1:x.args.length=1
        · refine cT (beq_iff_eq.2 (by omega)) ⟨x.u,s1.aM 0 1 rfl rfl,?_,s1.aC⟩;rw[e1,g1,I6.beq_eq]; rfl
        · refine cF (beq_eq_false_iff_ne.2 (by omega)) ⟨?_,s1.aC⟩;rw[e1,beq_eq_false_iff_ne.2 g1]; rfl
      · exact cF (by simpa using h5) ⟨by rw[gq,if_neg h1,if_neg h2,if_neg h4,if_neg h5],s1.aC⟩
  · by_cases g2:x.op=2
    · exact cT (by simpa using g2) ⟨by rw[dT (Or.inl g2)]; simpa using g2,rfl⟩
    · refine cF (by simpa using g2) ⟨?_,rfl⟩
      by_cases g3:x.op=3
      · rw[dT (Or.inr g3)]; simpa using g3
      · rw[dF (by rintro(h | h); exact g2 h; exact g3 h)]; simpa using g3
theorem K8(w:World)(x:Xv):CP 201 #[.agg x.cells.toArray] w (λ r w'=>r=.bool (gU x)/\aF w w' []):=by
  refine yu (u1:=x.u) ?_;unfold vL;refine(St.start w).one.aB x.cells.toArray λ r1 w1 s1=>⟨_,s1.ag 0 rfl 0,?_⟩;refine⟨λ b w2=>b=decide (x.op=2\/x.op=3)/\w2=w1,?_,?_⟩
  · rintro w2 _ ⟨rfl,rfl⟩ -
    by_cases h2:x.op=2\/x.op=3
    · exact cT (dT h2) ⟨by rw[gU,if_pos h2],s1.aC⟩
    refine cF (dF h2) ⟨λ b w3=>b=decide (x.v<1\/x.v>1000000)/\w3=w2,?_,_,s1.ag 0 rfl 7,?_⟩
    · rintro w3 _ ⟨rfl,rfl⟩ -
      by_cases h3:x.v<1\/x.v>1000000
      · exact cT (dT h3) ⟨by rw[gU,if_neg h2,if_pos h3],s1.aC⟩
      refine cF (dF h3) ⟨_,s1.ag 0 rfl 0,?_⟩
      by_cases h5:x.op=5
      · exact cT (by simpa using h5) ⟨by rw[gU,if_neg h2,if_neg h3,if_pos h5],s1.aC⟩
      have e1:gU x=(x.u.l.all mD&&decide (tot x.u>0)):=by rw[gU,if_neg h2,if_neg h3,if_neg h5]
      refine cF (by simpa using h5) ⟨x.u,s1.aM 0 1 rfl rfl,au (cS _ x.u) ?_⟩;rintro v w4 ⟨rfl,c4⟩;have s4:=s1.quiet c4;refine⟨_,rfl,?_⟩
      cases hq:x.u.l.all mD with
      | false=>exact cF rfl ⟨by rw[e1,hq]; rfl,s4.aC⟩
      | true =>
        refine cT rfl ⟨x.u,s4.aM 0 1 rfl rfl,au (OX _ x.u (su (Jm hq) (by omega))) ?_⟩;rintro v w5 ⟨rfl,c5⟩;exact⟨_,rfl,by rw[e1,hq,Bool.true_and],(s4.quiet c5).aC⟩
    · by_cases g1:x.v<1
      · exact cT (dT g1) ⟨by rw[dT (Or.inl g1)],rfl⟩
      · refine cF (dF g1) ⟨_,s1.ag 0 rfl 7,?_,rfl⟩
        by_cases g2:x.v>1000000
        · rw[dT g2,dT (Or.inr g2)]
        · rw[dF g2,dF (by rintro(h | h); exact g1 h; exact g2 h)]
  · by_cases g2:x.op=2
    · exact cT (by simpa using g2) ⟨by rw[dT (Or.inl g2)]; simpa using g2,rfl⟩
    · refine cF (by simpa using g2) ⟨?_,rfl⟩
      by_cases g3:x.op=3
      · rw[dT (Or.inr g3)]; simpa using g3
      · rw[dF (by rintro(h | h); exact g2 h; exact g3 h)]; simpa using g3
def HZ(n:Nat)(_:Xv):Nat×Bool:=(n+1,true)
theorem Qf:∀ (x:Xv) (n:Nat),bA HZ x n=(n+aT x,true):=Xv.ind λ x ih n=>by
  rw[lS,if_pos (show(HZ n x).2=true from rfl),fO];have:∀ (l:List Xv) (m:Nat),(∀ y∈l,∀ n,bA HZ y n=(n+aT y,true))->fX HZ l (m,true)=(m+(l.map aT).sum,true):=λ l=>by
    induction l with
    | nil=>intro m _; rfl
    | cons y l ih2 =>
      intro m hl;unfold fX at ih2 ⊢;rw[List.foldl_cons,if_pos rfl,hl y (by simp),ih2 _ λ z hz=>hl z (by simp[hz])];rw[List.map_cons,List.sum_cons,Nat.add_assoc]
  show fX HZ x.args (n+1,true)=_;rw[this _ _ ih]; congr 1; omega
theorem RI{w:World}{x:Xv}(hz:aT x<=100000)(hx:x.In w):CP 198 #[.agg x.cells.toArray] w (λ r w'=>r=iv (aT x)/\aF w w' []):=by
  refine BO (u1:=x.u) ?_;unfold Aq;refine(St.start w).one.aB x.cells.toArray λ r1 w1 s1=>s1.aB #[iv 0] λ r2 w2 s2=>s2.aJ 0 rfl (j:=0) (show 0<1 by decide) rfl λ w3 s3=>s3.aB #[.nilFunc] λ r3 w4 s4=>s4.aJ 0 rfl (j:=0) (show 0<1 by decide) rfl λ w5 s5=>?_;refine⟨_,s5.cellsIn 0 rfl,_,x.u,_,_,_,_,s5.cellsIn 2 rfl,?_⟩;have hv:∀ (w9:World) (B:aI) (s:Nat) (y:Xv) (R:Ending->World->Prop),St w w9 (star (ah r2 #[iv (IntKind.i64.wrap s)] 3) B)->y.In w9->aT y<=100000->(∀ w',St w w' (star (ah r2 #[iv (IntKind.i64.wrap ((s+1:Nat):Int))] 3) B)->R (.returned (.bool true)) w')->dy prog (.func (.func 223) #[] #[pt r2]) #[.agg y.cells.toArray] w9 R:=by
    intro w9 B s y R h hy hys k;refine bF (by kernel_rfl) (au (K:=λ r w'=>r=.bool true/\St w w' (star (ah r2 #[iv (IntKind.i64.wrap ((s+1:Nat):Int))] 3) B)) (yq (u1:=y.u) ?_) ?_)
    · unfold vK;refine(h.AL).aB y.cells.toArray λ r4 w6 s6=>⟨_,s6.ag 1 rfl 0,s6.aJ 1 rfl (j:=0) (show 0<1 by decide) rfl λ w7 s7=>⟨rfl,?_⟩⟩;have e:IntKind.i64.wrap (IntKind.i64.wrap s+1)=IntKind.i64.wrap ((s+1:Nat):Int):=F8 s;have s8:=(s7.aA [1,2]).pair;rw[<- e]; exact s8
    · rintro r w' ⟨rfl,h'⟩; exact k w' h'
  refine au (F6 (w0:=w) (step:=HZ) (A:=λ n=>ah r2 #[iv (IntKind.i64.wrap (n:Int))] 3) hv x hz (λ hc=>hx.aC hc) w5 emp 0 (s5.aA [1])) ?_;rintro r w6 ⟨rfl,s6⟩;rw[Qf] at s6;refine⟨_,rfl,_,s6.boxed 0,?_,s6.aC⟩;rw[Nat.zero_add,aG ⟨by omega,by omega⟩]
def ug(_:Unit)(x:Xv):Unit×Bool:=((),decide (x.args.length<=8))
def oQ(e:Int)(x:Xv):Int:=if gq x then (if gU x then e else 4) else 2
def dM(e:Int)(x:Xv):Int×Bool:=(oQ e x,oQ e x==0)
def eD(x:Xv):Int:=if 6<nI x then 9 else if (bA ug x ()).2=false\/40<aT x then 3 else (bA dM x 0).1
theorem O1(s:Unit)(x:Xv):ug s x.er=ug s x:=by
  unfold ug;rw[p7,List.length_map]
theorem M6(x:Xv):gq x.er=gq x:=by
  unfold gq;rw[p7,List.length_map,Xv.qN]; rfl
theorem Om(x:Xv):gU x.er=gU x:=by
  unfold gU;rw[Xv.qN]; rfl
theorem Rg(e:Int)(x:Xv):dM e x.er=dM e x:=by unfold dM oQ; rw[M6,Om]
theorem xZ(x:Xv):eD x.er=eD x:=by
  unfold eD;rw[Qi,Hw,HK O1,HK Rg]
theorem EE{w:World}{x:Xv}(hz:aT x<=100000)(hx:x.In w):CP 162 #[.agg x.cells.toArray] w (λ r w'=>r=iv (eD x)/\aF w w' []):=by
  refine zQ (u1:=x.u) ?_;unfold yo;have hd:=JL x;refine(St.start w).one.aB x.cells.toArray λ r1 w1 s1=>⟨_,x.u,_,_,_,_,s1.cellsIn 0 rfl,au (MO x hz w1 (hx.aC s1.aC)) ?_⟩;rintro v w2 ⟨rfl,c2⟩;have s2:=s1.quiet c2;refine⟨_,rfl,?_⟩
  by_cases h6:6<nI x
  · exact cT (dT (by omega)) ⟨by rw[eD,if_pos h6],s2.aC⟩
  refine cF (dF (by omega)) (s2.aB #[.nilFunc] λ r2 w3 s3=>s3.aJ 0 rfl (j:=0) (show 0<1 by decide) rfl λ w4 s4=>?_);refine⟨λ b w5=>b=decide ((bA ug x ()).2=false\/40<aT x)/\St w w5 (Sep [ah r1 x.cells.toArray 107]),?_,_,s4.cellsIn 0 rfl,_,x.u,_,_,_,_,s4.cellsIn 1 rfl,?_⟩
  · rintro w5 _ ⟨rfl,s5⟩ -
    by_cases g:(bA ug x ()).2=false\/40<aT x
    · exact cT (dT g) ⟨by rw[eD,if_neg h6,if_pos g],s5.aC⟩
    refine cF (dF g) (s5.aB #[iv 0] λ r3 w6 s6=>s6.aJ 0 rfl (j:=0) (show 0<1 by decide) rfl λ w7 s7=>s7.aB #[.nilFunc] λ r4 w8 s8=>s8.aJ 0 rfl (j:=0) (show 0<1 by decide) rfl λ w9 s9=>⟨_,s9.cellsIn 0 rfl,_,x.u,_,_,_,_,s9.cellsIn 2 rfl,?_⟩);have hv:∀ (w9:World) (B:aI) (s:Int) (y:Xv) (R:Ending->World->Prop),St w w9 (star (ah r3 #[iv s] 50) B)->y.In w9->aT y<=100000->(∀ w',St w w' (star (ah r3 #[iv (dM s y).1] 50) B)->R (.returned (.bool (dM s y).2)) w')->dy prog (.func (.func 199) #[] #[pt r3]) #[.agg y.cells.toArray] w9 R:=by
      intro w9 B s y R h hy hys k;refine bF (by kernel_rfl) (au (K:=λ r w'=>r=.bool (oQ s y==0)/\St w w' (star (ah r3 #[iv (oQ s y)] 50) B)) (wL (u1:=y.u) ?_) ?_)
      · unfold sX;refine(h.AL).aB y.cells.toArray λ r5 w10 t=>⟨λ w2=>St w w2 (Sep [ah r5 y.cells.toArray 107,ah r3 #[iv (oQ s y)] 50,B]),?_,_,y.u,_,_,_,_,t.cellsIn 0 rfl,au (QB w10 y) ?_⟩
        · rintro w2 t2 -;exact⟨_,t2.ag 1 rfl 0,rfl,(t2.aA [1,2]).pair⟩
        rintro v w11 ⟨rfl,c11⟩;have t1:=t.quiet c11;refine⟨_,rfl,?_⟩
        cases hf:gq y with
        | false =>
          have e:oQ s y=2:=by rw[oQ,hf]; rfl
          exact cT rfl (t1.aJ 1 rfl (j:=0) (show 0<1 by decide) rfl λ w12 t2=>by rw[e]; exact t2)
        | true =>
          refine cF rfl ⟨_,y.u,_,_,_,_,t1.cellsIn 0 rfl,au (K8 w11 y) ?_⟩;rintro v w12 ⟨rfl,c12⟩;have t2:=t1.quiet c12;refine⟨_,rfl,?_⟩
          cases hg:gU y with
          | false =>
            have e:oQ s y=4:=by rw[oQ,hf,hg]; rfl
            exact cT rfl (t2.aJ 1 rfl (j:=0) (show 0<1 by decide) rfl λ w12 t3=>by rw[e]; exact t3)
          | true =>
            have e:oQ s y=s:=by rw[oQ,hf,hg]; rfl
            exact cF rfl (by rw[e]; exact t2)
      · rintro r w' ⟨rfl,h'⟩; exact k w' h'
    refine au (F6 (w0:=w) (step:=dM) (A:=λ e=>ah r3 #[iv e] 50) hv x hz (λ hc=>hx.aC hc) w9 emp 0 (s9.aA [1])) ?_;rintro r w10 ⟨rfl,s10⟩;exact⟨_,rfl,_,s10.boxed 0,by rw[eD,if_neg h6,if_neg g],s10.aC⟩
  · have hv:∀ (w9:World) (B:aI) (s:Unit) (y:Xv) (R:Ending->World->Prop),St w w9 (star emp B)->y.In w9->aT y<=100000->(∀ w',St w w' (star emp B)->R (.returned (.bool (ug s y).2)) w')->dy prog (.func (.func 196) #[] #[]) #[.agg y.cells.toArray] w9 R:=by
      intro w9 B s y R h hy hys k;refine bF (by kernel_rfl) (au (K:=λ r w'=>r=.bool (decide (y.args.length<=8))/\aF w9 w' []) (wK (u1:=y.u) ?_) ?_)
      · unfold sW;refine(St.start w9).one.aB y.cells.toArray λ r4 w6 s6=>⟨_,_,_,s6.ag 0 rfl 8,?_,s6.aC⟩
        by_cases hl:y.args.length<=8
        · rw[dT hl,dT (show((y.args.length:Nat):Int)<=8 by omega)]
        · rw[dF hl,dF (show ¬ ((y.args.length:Nat):Int)<=8 by omega)]
      · rintro r w' ⟨rfl,hc⟩; exact k w' (h.quiet hc)
    refine au (F6 (w0:=w) (step:=ug) (A:=λ _=>emp) hv x hz (λ hc=>hx.aC hc) w4 (Sep [ah r1 x.cells.toArray 107]) () (s4.aA [2,1])) ?_;rintro r w11 ⟨rfl,s11⟩;have s11:St w w11 (Sep [emp,ah r1 x.cells.toArray 107]):=s11;refine⟨_,rfl,?_⟩
    cases hw:(bA ug x ()).2 with
    | false=>exact cT rfl ⟨by rw[dT (Or.inl rfl)],s11.aA [1]⟩
    | true =>
      refine cF rfl ⟨_,x.u,_,_,_,_,s11.cellsIn 1 rfl,au (RI hz (hx.aC s11.aC)) ?_⟩;rintro v w12 ⟨rfl,c12⟩;refine⟨_,rfl,?_,(s11.quiet c12).aA [1]⟩
      by_cases g:40<aT x
      · rw[dT (p:=true=false\/40<aT x) (Or.inr g)]; exact dT (by omega)
      · rw[dF (p:=true=false\/40<aT x) (by rintro(h | h); exact absurd h (by decide); exact g h)]; exact dF (by omega)
end Go.Proofs.YtjpbdjhaajdepaaGreatDoor

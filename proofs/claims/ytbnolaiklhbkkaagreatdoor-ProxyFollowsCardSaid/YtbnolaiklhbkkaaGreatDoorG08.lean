import Derived.Test.YtbnolaiklhbkkaaGreatDoorG07
set_option linter.unusedVariables false
set_option maxRecDepth 100000
namespace Go.Proofs.YtbnolaiklhbkkaaGreatDoor
open Go Go.Vc _root_.Go.Proofs.Tryz
theorem GH(s:Nat):IntKind.i64.wrap (IntKind.i64.wrap s+1)=IntKind.i64.wrap ((s+1:Nat):Int):=by
 simp only[IntKind.wrap,IntKind.signed,IntKind.bits]
 simp
 omega
def fA(x:Xv):Bool :=
 if x.op=1 then x.args.length==0
 else if x.op=2\/x.op=3 then decide (1<=x.args.length)&&(decide (x.args.length<=8)&&(decide (x.u=z6)&&x.v==0))
 else if x.op=4 then x.args.length==1
 else if x.op=5 then x.args.length==1&&decide (x.u=z6)
 else false
def gK(x:Xv):Bool :=
 if x.op=2\/x.op=3 then true else if x.v<1\/x.v>1000000 then false
 else if x.op=5 then true else x.u.l.all eY&&decide (tot x.u>0)
theorem Q8(w:World)(x:Xv):CP 219 #[.agg x.cells.toArray] w (λ r w'=>r=.bool (fA x)/\ay w w' []):=by
 refine Cg (u1:=x.u) ?_;unfold A2;refine(St.start w).one.ax x.cells.toArray λ r1 w1 s1=>⟨_,_,_,s1.ag 0 rfl 8,_,s1.ag 0 rfl 0,?_⟩;have beq0:∀ n m:Nat,(((n:Nat):Int)==(m:Int))=(n==m):=λ n m=>by
  by_cases h:n=m
  ·subst h; simp
  ·rw[beq_eq_false_iff_ne.2 h,beq_eq_false_iff_ne.2 (show(n:Int)≠m by omega)]
 by_cases h1:x.op=1
 ·exact cT (by simpa using h1) ⟨by rw[fA,if_pos h1,<- beq0]; rfl,s1.au⟩
 refine cF (by simpa using h1) ⟨λ b w2=>b=decide (x.op=2\/x.op=3)/\w2=w1,?_,?_⟩
 ·rintro w2 _ ⟨rfl,rfl⟩ -
  by_cases h2:x.op=2\/x.op=3
  ·have e1:fA x=(decide (1<=x.args.length)&&(decide (x.args.length<=8)&&(decide (x.u=z6)&&x.v==0))):=by rw[fA,if_neg h1,if_pos h2]
   refine cT (dT h2) ?_
   by_cases g1:1<=x.args.length
   ·rw[dT g1,Bool.true_and] at e1;refine cT (dT (by omega)) ?_
    by_cases g2:x.args.length<=8
    ·rw[dT g2,Bool.true_and] at e1;refine cT (dT (by omega)) ⟨x.u,s1.aF 0 1 rfl rfl,?_⟩;rw[I6.beq_eq]
     by_cases g3:x.u=z6
     ·rw[dT g3,Bool.true_and] at e1;exact cT (dT g3) ⟨_,s1.ag 0 rfl 7,by rw[e1],s1.au⟩
     ·rw[dF g3] at e1;exact cF (dF g3) ⟨by rw[e1]; rfl,s1.au⟩
    ·rw[dF g2] at e1;exact cF (dF (by omega)) ⟨by rw[e1]; rfl,s1.au⟩
   ·rw[dF g1] at e1;exact cF (dF (by omega)) ⟨by rw[e1]; rfl,s1.au⟩
  ·refine cF (dF h2) ?_
   by_cases h4:x.op=4
   ·exact cT (by simpa using h4) ⟨by rw[fA,if_neg h1,if_neg h2,if_pos h4,<- beq0]; rfl,s1.au⟩
   refine cF (by simpa using h4) ?_
   by_cases h5:x.op=5
   ·have e1:fA x=(x.args.length==1&&decide (x.u=z6)):=by rw[fA,if_neg h1,if_neg h2,if_neg h4,if_pos h5]
    refine cT (by simpa using h5) ?_
    by_cases g1:x.args.length=1
    ·refine cT (beq_iff_eq.2 (by omega)) ⟨x.u,s1.aF 0 1 rfl rfl,?_,s1.au⟩;rw[e1,g1,I6.beq_eq]; rfl
    ·refine cF (beq_eq_false_iff_ne.2 (by omega)) ⟨?_,s1.au⟩;rw[e1,beq_eq_false_iff_ne.2 g1]; rfl
   ·exact cF (by simpa using h5) ⟨by rw[fA,if_neg h1,if_neg h2,if_neg h4,if_neg h5],s1.au⟩
 ·by_cases g2:x.op=2
  ·exact cT (by simpa using g2) ⟨by rw[dT (Or.inl g2)]; simpa using g2,rfl⟩
  ·refine cF (by simpa using g2) ⟨?_,rfl⟩
   by_cases g3:x.op=3
   ·rw[dT (Or.inr g3)]; simpa using g3
   ·rw[dF (by rintro(h|h); exact g2 h; exact g3 h)]; simpa using g3
theorem LW(w:World)(x:Xv):CP 220 #[.agg x.cells.toArray] w (λ r w'=>r=.bool (gK x)/\ay w w' []):=by
 refine yL (u1:=x.u) ?_;unfold vN;refine(St.start w).one.ax x.cells.toArray λ r1 w1 s1=>⟨_,s1.ag 0 rfl 0,?_⟩;refine⟨λ b w2=>b=decide (x.op=2\/x.op=3)/\w2=w1,?_,?_⟩
 ·rintro w2 _ ⟨rfl,rfl⟩ -
  by_cases h2:x.op=2\/x.op=3
  ·exact cT (dT h2) ⟨by rw[gK,if_pos h2],s1.au⟩
  refine cF (dF h2) ⟨λ b w3=>b=decide (x.v<1\/x.v>1000000)/\w3=w2,?_,_,s1.ag 0 rfl 7,?_⟩
  ·rintro w3 _ ⟨rfl,rfl⟩ -
   by_cases h3:x.v<1\/x.v>1000000
   ·exact cT (dT h3) ⟨by rw[gK,if_neg h2,if_pos h3],s1.au⟩
   refine cF (dF h3) ⟨_,s1.ag 0 rfl 0,?_⟩
   by_cases h5:x.op=5
   ·exact cT (by simpa using h5) ⟨by rw[gK,if_neg h2,if_neg h3,if_pos h5],s1.au⟩
   have e1:gK x=(x.u.l.all eY&&decide (tot x.u>0)):=by rw[gK,if_neg h2,if_neg h3,if_neg h5]
   refine cF (by simpa using h5) ⟨x.u,s1.aF 0 1 rfl rfl,ak (bN _ x.u) ?_⟩;rintro v w4 ⟨rfl,c4⟩;have s4:=s1.quiet c4;refine⟨_,rfl,?_⟩
   cases hq:x.u.l.all eY with
   | false=>exact cF rfl ⟨by rw[e1,hq]; rfl,s4.au⟩
   | true =>
    refine cT rfl ⟨x.u,s4.aF 0 1 rfl rfl,ak (Pz _ x.u (su (JT hq) (by omega))) ?_⟩;rintro v w5 ⟨rfl,c5⟩;exact⟨_,rfl,by rw[e1,hq,Bool.true_and],(s4.quiet c5).au⟩
  ·by_cases g1:x.v<1
   ·exact cT (dT g1) ⟨by rw[dT (Or.inl g1)],rfl⟩
   ·refine cF (dF g1) ⟨_,s1.ag 0 rfl 7,?_,rfl⟩
    by_cases g2:x.v>1000000
    ·rw[dT g2,dT (Or.inr g2)]
    ·rw[dF g2,dF (by rintro(h|h); exact g1 h; exact g2 h)]
 ·by_cases g2:x.op=2
  ·exact cT (by simpa using g2) ⟨by rw[dT (Or.inl g2)]; simpa using g2,rfl⟩
  ·refine cF (by simpa using g2) ⟨?_,rfl⟩
   by_cases g3:x.op=3
   ·rw[dT (Or.inr g3)]; simpa using g3
   ·rw[dF (by rintro(h|h); exact g2 h; exact g3 h)]; simpa using g3
def IB(n:Nat)(_:Xv):Nat×Bool:=(n+1,true)
theorem QI:∀ (x:Xv) (n:Nat),bt IB x n=(n+aO x,true):=Xv.ind λ x ih n=>by
 rw[lS,if_pos (show(IB n x).2=true from rfl),e9];have:∀ (l:List Xv) (m:Nat),(∀ y∈l,∀ n,bt IB y n=(n+aO y,true))->fk IB l (m,true)=(m+(l.map aO).sum,true):=λ l=>by
  induction l with
  | nil=>intro m _; rfl
  | cons y l ih2 =>
   intro m hl;unfold fk at ih2 ⊢;rw[List.foldl_cons,if_pos rfl,hl y (by simp),ih2 _ λ z hz=>hl z (by simp[hz])];rw[List.map_cons,List.sum_cons,Nat.add_assoc]
 show fk IB x.args (n+1,true)=_;rw[this _ _ ih]; congr 1; omega
theorem RX{w:World}{x:Xv}(hz:aO x<=100000)(hx:x.In w):CP 217 #[.agg x.cells.toArray] w (λ r w'=>r=iv (aO x)/\ay w w' []):=by
 refine Cf (u1:=x.u) ?_;unfold AZ;refine(St.start w).one.ax x.cells.toArray λ r1 w1 s1=>s1.ax #[iv 0] λ r2 w2 s2=>s2.aK 0 rfl (j:=0) (show 0<1 by decide) rfl λ w3 s3=>s3.ax #[.nilFunc] λ r3 w4 s4=>s4.aK 0 rfl (j:=0) (show 0<1 by decide) rfl λ w5 s5=>?_;refine⟨_,s5.cellsIn 0 rfl,_,x.u,_,_,_,_,s5.cellsIn 2 rfl,?_⟩;have hv:∀ (w9:World) (B:aC) (s:Nat) (y:Xv) (R:Ending->World->Prop),St w w9 (star (ai r2 #[iv (IntKind.i64.wrap s)] 3) B)->y.In w9->aO y<=100000->(∀ w',St w w' (star (ai r2 #[iv (IntKind.i64.wrap ((s+1:Nat):Int))] 3) B)->R (.returned (.bool true)) w')->cU prog (.func (.func 236) #[] #[pt r2]) #[.agg y.cells.toArray] w9 R:=by
  intro w9 B s y R h hy hys k;refine bx (by kernel_rfl) (ak (K:=λ r w'=>r=.bool true/\St w w' (star (ai r2 #[iv (IntKind.i64.wrap ((s+1:Nat):Int))] 3) B)) (yK (u1:=y.u) ?_) ?_)
  ·unfold vM;refine(h.vW).ax y.cells.toArray λ r4 w6 s6=>⟨_,s6.ag 1 rfl 0,s6.aK 1 rfl (j:=0) (show 0<1 by decide) rfl λ w7 s7=>⟨rfl,?_⟩⟩;have e:IntKind.i64.wrap (IntKind.i64.wrap s+1)=IntKind.i64.wrap ((s+1:Nat):Int):=GH s;have s8:=(s7.av [1,2]).pair;rw[<- e]; exact s8
  ·rintro r w' ⟨rfl,h'⟩; exact k w' h'
 refine ak (GF (w0:=w) (step:=IB) (A:=λ n=>ai r2 #[iv (IntKind.i64.wrap (n:Int))] 3) hv x hz (λ hc=>hx.au hc) w5 emp 0 (s5.av [1])) ?_;rintro r w6 ⟨rfl,s6⟩;rw[QI] at s6;refine⟨_,rfl,_,s6.boxed 0,?_,s6.au⟩;rw[Nat.zero_add,aB ⟨by omega,by omega⟩]
def uo(_:Unit)(x:Xv):Unit×Bool:=((),decide (x.args.length<=8))
def oT(e:Int)(x:Xv):Int:=if fA x then (if gK x then e else 4) else 2
def dy(e:Int)(x:Xv):Int×Bool:=(oT e x,oT e x==0)
def dR(x:Xv):Int:=if 6<mu x then 9 else if (bt uo x ()).2=false\/40<aO x then 3 else (bt dy x 0).1
theorem PE(s:Unit)(x:Xv):uo s x.er=uo s x:=by
 unfold uo;rw[pX,List.length_map]
theorem N0(x:Xv):fA x.er=fA x:=by
 unfold fA;rw[pX,List.length_map,Xv.oC]; rfl
theorem O0(x:Xv):gK x.er=gK x:=by
 unfold gK;rw[Xv.oC]; rfl
theorem Rt(e:Int)(x:Xv):dy e x.er=dy e x:=by unfold dy oT; rw[N0,O0]
theorem yy(x:Xv):dR x.er=dR x:=by
 unfold dR;rw[QM,H7,Ik PE,Ik Rt]
theorem E7{w:World}{x:Xv}(hz:aO x<=100000)(hx:x.In w):CP 187 #[.agg x.cells.toArray] w (λ r w'=>r=iv (dR x)/\ay w w' []):=by
 refine Ar (u1:=x.u) ?_;unfold yI;have hd:=Kp x;refine(St.start w).one.ax x.cells.toArray λ r1 w1 s1=>⟨_,x.u,_,_,_,_,s1.cellsIn 0 rfl,ak (NI x hz w1 (hx.au s1.au)) ?_⟩;rintro v w2 ⟨rfl,c2⟩;have s2:=s1.quiet c2;refine⟨_,rfl,?_⟩
 by_cases h6:6<mu x
 ·exact cT (dT (by omega)) ⟨by rw[dR,if_pos h6],s2.au⟩
 refine cF (dF (by omega)) (s2.ax #[.nilFunc] λ r2 w3 s3=>s3.aK 0 rfl (j:=0) (show 0<1 by decide) rfl λ w4 s4=>?_);refine⟨λ b w5=>b=decide ((bt uo x ()).2=false\/40<aO x)/\St w w5 (Sep [ai r1 x.cells.toArray 81]),?_,_,s4.cellsIn 0 rfl,_,x.u,_,_,_,_,s4.cellsIn 1 rfl,?_⟩
 ·rintro w5 _ ⟨rfl,s5⟩ -
  by_cases g:(bt uo x ()).2=false\/40<aO x
  ·exact cT (dT g) ⟨by rw[dR,if_neg h6,if_pos g],s5.au⟩
  refine cF (dF g) (s5.ax #[iv 0] λ r3 w6 s6=>s6.aK 0 rfl (j:=0) (show 0<1 by decide) rfl λ w7 s7=>s7.ax #[.nilFunc] λ r4 w8 s8=>s8.aK 0 rfl (j:=0) (show 0<1 by decide) rfl λ w9 s9=>⟨_,s9.cellsIn 0 rfl,_,x.u,_,_,_,_,s9.cellsIn 2 rfl,?_⟩);have hv:∀ (w9:World) (B:aC) (s:Int) (y:Xv) (R:Ending->World->Prop),St w w9 (star (ai r3 #[iv s] 34) B)->y.In w9->aO y<=100000->(∀ w',St w w' (star (ai r3 #[iv (dy s y).1] 34) B)->R (.returned (.bool (dy s y).2)) w')->cU prog (.func (.func 218) #[] #[pt r3]) #[.agg y.cells.toArray] w9 R:=by
   intro w9 B s y R h hy hys k;refine bx (by kernel_rfl) (ak (K:=λ r w'=>r=.bool (oT s y==0)/\St w w' (star (ai r3 #[iv (oT s y)] 34) B)) (wM (u1:=y.u) ?_) ?_)
   ·unfold sZ;refine(h.vW).ax y.cells.toArray λ r5 w10 t=>⟨λ w2=>St w w2 (Sep [ai r5 y.cells.toArray 81,ai r3 #[iv (oT s y)] 34,B]),?_,_,y.u,_,_,_,_,t.cellsIn 0 rfl,ak (Q8 w10 y) ?_⟩
    ·rintro w2 t2 -;exact⟨_,t2.ag 1 rfl 0,rfl,(t2.av [1,2]).pair⟩
    rintro v w11 ⟨rfl,c11⟩;have t1:=t.quiet c11;refine⟨_,rfl,?_⟩
    cases hf:fA y with
    | false =>
     have e:oT s y=2:=by rw[oT,hf]; rfl
     exact cT rfl (t1.aK 1 rfl (j:=0) (show 0<1 by decide) rfl λ w12 t2=>by rw[e]; exact t2)
    | true =>
     refine cF rfl ⟨_,y.u,_,_,_,_,t1.cellsIn 0 rfl,ak (LW w11 y) ?_⟩;rintro v w12 ⟨rfl,c12⟩;have t2:=t1.quiet c12;refine⟨_,rfl,?_⟩
     cases hg:gK y with
     | false =>
      have e:oT s y=4:=by rw[oT,hf,hg]; rfl
      exact cT rfl (t2.aK 1 rfl (j:=0) (show 0<1 by decide) rfl λ w12 t3=>by rw[e]; exact t3)
     | true =>
      have e:oT s y=s:=by rw[oT,hf,hg]; rfl
      exact cF rfl (by rw[e]; exact t2)
   ·rintro r w' ⟨rfl,h'⟩; exact k w' h'
  refine ak (GF (w0:=w) (step:=dy) (A:=λ e=>ai r3 #[iv e] 34) hv x hz (λ hc=>hx.au hc) w9 emp 0 (s9.av [1])) ?_;rintro r w10 ⟨rfl,s10⟩;exact⟨_,rfl,_,s10.boxed 0,by rw[dR,if_neg h6,if_neg g],s10.au⟩
 ·have hv:∀ (w9:World) (B:aC) (s:Unit) (y:Xv) (R:Ending->World->Prop),St w w9 (star emp B)->y.In w9->aO y<=100000->(∀ w',St w w' (star emp B)->R (.returned (.bool (uo s y).2)) w')->cU prog (.func (.func 215) #[] #[]) #[.agg y.cells.toArray] w9 R:=by
   intro w9 B s y R h hy hys k;refine bx (by kernel_rfl) (ak (K:=λ r w'=>r=.bool (decide (y.args.length<=8))/\ay w9 w' []) (wL (u1:=y.u) ?_) ?_)
   ·unfold sY;refine(St.start w9).one.ax y.cells.toArray λ r4 w6 s6=>⟨_,_,_,s6.ag 0 rfl 8,?_,s6.au⟩
    by_cases hl:y.args.length<=8
    ·rw[dT hl,dT (show((y.args.length:Nat):Int)<=8 by omega)]
    ·rw[dF hl,dF (show ¬ ((y.args.length:Nat):Int)<=8 by omega)]
   ·rintro r w' ⟨rfl,hc⟩; exact k w' (h.quiet hc)
  refine ak (GF (w0:=w) (step:=uo) (A:=λ _=>emp) hv x hz (λ hc=>hx.au hc) w4 (Sep [ai r1 x.cells.toArray 81]) () (s4.av [2,1])) ?_;rintro r w11 ⟨rfl,s11⟩;have s11:St w w11 (Sep [emp,ai r1 x.cells.toArray 81]):=s11;refine⟨_,rfl,?_⟩
  cases hw:(bt uo x ()).2 with
  | false=>exact cT rfl ⟨by rw[dT (Or.inl rfl)],s11.av [1]⟩
  | true =>
   refine cF rfl ⟨_,x.u,_,_,_,_,s11.cellsIn 1 rfl,ak (RX hz (hx.au s11.au)) ?_⟩;rintro v w12 ⟨rfl,c12⟩;refine⟨_,rfl,?_,(s11.quiet c12).av [1]⟩
   by_cases g:40<aO x
   ·rw[dT (p:=true=false\/40<aO x) (Or.inr g)]; exact dT (by omega)
   ·rw[dF (p:=true=false\/40<aO x) (by rintro(h|h); exact absurd h (by decide); exact g h)]; exact dF (by omega)
theorem Ae:aO dK=1:=by rw[e9]; rfl
theorem size_mk(op:Int)(u:I6)(v:Int)(a:OA)(c:Nat)(l:List Xv):aO (.mk op u v a c l)=1+(l.map aO).sum:=by rw[e9]; rfl
section
variable {g:Sc->Xv×Sc} (hg:∀ σ,aO (g σ).1+3*(g σ).2.1.length<=3*σ.1.length+2)
include hg
theorem GQ(σ:Sc):aO (fU g σ).1+3*(fU g σ).2.1.length<=3*σ.1.length+2:=by
 unfold fU; split
 ·show aO dK+3*σ.1.length<=_; rw[Ae]; omega
 ·exact hg _
theorem Dv:∀ (n:Nat) (acc:List Xv) (σ:Sc),((fV g n acc σ).1.map aO).sum+3*(fV g n acc σ).2.1.length<=(acc.map aO).sum+3*σ.1.length
 | 0,_,_=>Nat.le_refl _
 | n+1,acc,σ=>by
  rw[fV]
  split
  ·rename_i hb;have h1:=Dv n (acc++[(fU g (σ.acc [44])).1]) (fU g (σ.acc [44])).2;have h2:=GQ hg (σ.acc [44]);have h3:=BP hb;rw[List.map_append,List.sum_append,List.map_singleton,List.sum_singleton] at h1;omega
  ·exact Nat.le_refl _
theorem Q4(ps:List Pr)(op:Int)(a1:Xv)(σ:Sc):aO (KE ps g op a1 σ).1+3*(KE ps g op a1 σ).2.1.length<=1+aO a1+3*σ.1.length:=by
 unfold KE
 split
 ·have h1:=Dv hg σ.1.length [a1] σ;have h2:=uN [41] (fV g σ.1.length [a1] σ).2;rw[List.map_singleton,List.sum_singleton] at h1;show aO (.mk _ _ _ _ _ _)+3*((fV g σ.1.length [a1] σ).2.exp [41]).1.length<=_;rw[size_mk]; omega
 ·split
  ·have h1:=qc ps (σ.exp [44]);have h2:=uN [44] σ;have h3:=uN [41] (aT ps (σ.exp [44])).2;show aO (.mk _ _ _ _ _ _)+3*((aT ps (σ.exp [44])).2.exp [41]).1.length<=_;rw[size_mk,List.map_singleton,List.sum_singleton]; omega
  ·split
   ·have h1:((σ.exp [44]).jq 1000000).1.length<=(σ.exp [44]).1.length:=yd _ _ _;have h2:=uN [44] σ;have h3:=uN [41] ((σ.exp [44]).jq 1000000);show aO (.mk _ _ _ _ _ _)+3*(((σ.exp [44]).jq 1000000).exp [41]).1.length<=_;rw[size_mk,List.map_singleton,List.sum_singleton]; omega
   ·have h3:=uN [41] σ;show aO (.mk _ _ _ _ _ _)+3*(σ.exp [41]).1.length<=_;rw[size_mk,List.map_singleton,List.sum_singleton]; omega
end
theorem Fz(ps:List Pr):∀ (f:Nat) (σ:Sc),aO (fJ ps f σ).1+3*(fJ ps f σ).2.1.length<=3*σ.1.length+2
 | 0,σ=>by show aO dK+_<=_; rw[Ae]; show 1+3*σ.1.length<=_; omega
 | f+1,σ=>by
  rw[fJ]
  split
  ·have h1:=qc ps (wJ σ);have h2:=Fw σ;show aO (.mk _ _ _ _ _ _)+3*(aT ps (wJ σ)).2.1.length<=_;rw[size_mk]; simp only[List.map_nil,List.sum_nil]; omega
  ·rename_i h1;have hR:=Q4 (Fz ps f) ps (bL (aN σ.1 σ.2)) (fU (fJ ps f) (Ag σ)).1 (fU (fJ ps f) (Ag σ)).2
   by_cases he:(Ag σ).2=0
   ·have h2:=KB h1 he;have h3:=GQ (Fz ps f) (Ag σ);omega
   ·have h2:=Fx σ;have h3:fU (fJ ps f) (Ag σ)=(dK,Ag σ):=by rw[fU,if_pos he]
    rw[h3] at hR ⊢;rw[Ae] at hR;have h4:(dK,Ag σ).2.1.length=(Ag σ).1.length:=rfl;omega
def bA(ps:List Pr)(t:List UInt8):Xv×Int :=
 if (bF t).2≠0 then (dK,(bF t).2)
 else if DP (fJ ps ((bF t).1.length+1) ((bF t).1,0)).2.1 (fJ ps ((bF t).1.length+1) ((bF t).1,0)).2.2≠0 then (dK,DP (fJ ps ((bF t).1.length+1) ((bF t).1,0)).2.1 (fJ ps ((bF t).1.length+1) ((bF t).1,0)).2.2)
 else if dR (fJ ps ((bF t).1.length+1) ((bF t).1,0)).1≠0 then (dK,dR (fJ ps ((bF t).1.length+1) ((bF t).1,0)).1)
 else ((fJ ps ((bF t).1.length+1) ((bF t).1,0)).1,0)
theorem zT(l:List UInt8):∀ (f n:Nat) (acc:List Tk),(AE l f n acc).1.length<=acc.length+f
 | 0,_,_=>Nat.le_refl _
 | f+1,n,acc=>by
  rw[AE]
  split
  ·simp
  ·split
   ·exact Nat.le_trans (zT l f _ _) (by omega)
   ·split
    ·simp
    ·have:=zT l f (n+(eX l n ‹UInt8›).1.t.length) (acc++[(eX l n ‹UInt8›).1]);simp only[List.length_append,List.length_singleton] at this;omega
theorem Py(l:List UInt8):(bF l).1.length<=4000:=by
 unfold bF
 split
 ·simp
 ·have:=zT l l.length 0 [];simp only[List.length_nil] at this;omega
theorem E9(w:World):dK.In w:=.mk (λ i y hy=>by simp[dK,Xv.args] at hy) (λ y hy=>by simp[dK,Xv.args] at hy)
theorem OS{w:World}{a:OA}{c:Nat}{l:List Pr}(hr:dH w a l)(hc:l.length<=c)(ho:bZ l)(t:List UInt8) :
  CP 153 #[.slice a l.length c,sv t] w (λ r w'=>∃ x:Xv,x.er=(bA l t).1/\r=.tuple #[.agg x.cells.toArray,iv (bA l t).2]/\St w w' (held x.In)):=by
 refine td ?_;unfold oF;refine(St.start w).one.ax dK.cells.toArray λ r1 w1 s1=>ak (yw (hr.au s1.au) hc) ?_;rintro v w2 ⟨⟨e,rfl,hee⟩,c2⟩;obtain rfl:=hee.2 ho;have s2:=s1.quiet c2;have bad:∀ {k:Int} {w' : World} {m:List aC} {i:Nat} {cs:Array Value},St w w' (Sep m)->m[i]?=some (ai r1 cs 81)->cs.size=9->bA l t=(dK,k) ->
   aL ⟨r1,0,none⟩ 0 dK.cells w' λ w3=>∃ (n2:Int) (u1:I6) (n3:Int) (a2:OA) (l2 c2:Nat),af w3 ⟨r1,0,none⟩ 0 (iv n2 :: u1.on [iv n3,.slice a2 l2 c2]) /\
    ∃ x:Xv,x.er=(bA l t).1/\Value.tuple #[.agg (iv n2 :: u1.on [iv n3,.slice a2 l2 c2]:List Value).toArray,iv k]=.tuple #[.agg x.cells.toArray,iv (bA l t).2]/\St w w3 (held x.In):=λ {k w' m i cs} s e hs hp =>
  s.az i e dK.cells (by rw[hs]; rfl) (Xv.one _) λ w3 s3=>⟨_,z6,_,_,_,_,s3.cellsIn (cs:=dK.cells.toArray) (T:=81) i (List.getElem?_set_self (dS e)),dK,by rw[hp,GJ],by rw[hp]; rfl,((St.start' s3.au).one.vQ E9).first⟩
 refine⟨_,rfl,cF rfl (ak (ME t) ?_)⟩;rintro v w4 ⟨a3,c3,rfl,k4⟩;have s4:St w w4 (Sep [_,_,_]):=s2.and k4;have ht:=Py t;refine⟨_,_,_,_,rfl,?_⟩
 by_cases h1:(bF t).2=0
 ·have rd:=St.rd Tk.len s4;refine cF (by simpa using h1) (ak (Jd s4 rd ht) ?_);rintro v w6 ⟨p,rfl,h6⟩;have h6:fH w w6 p ((bF t).1,0) (Sep [bR 280 4 Tk.cells a3 c3 (bF t).1,ai r1 dK.cells.toArray 81,emp]):=h6;refine⟨_,rfl,(St.start w6).one.ax #[.slice none 0 0,.pointer none] λ r2 w7 s7=>s7.az 0 rfl [.slice a l.length c,pt p] rfl (by simp[Value.oneCell']) λ w8 s8=>⟨_,_,_,_,s8.cellsIn 0 rfl,?_⟩⟩;have h8:=h6.add s8;refine ak (KJ (λ hc=>hr.au hc) hc ho ((bF t).1.length+1) _ ((bF t).1,0) w8 (Nat.lt_succ_self _) h8) ?_;have hsz:=Fz l ((bF t).1.length+1) ((bF t).1,0);have hP:bA l t=if DP (fJ l ((bF t).1.length+1) ((bF t).1,0)).2.1 (fJ l ((bF t).1.length+1) ((bF t).1,0)).2.2≠0 then (dK,DP (fJ l ((bF t).1.length+1) ((bF t).1,0)).2.1 (fJ l ((bF t).1.length+1) ((bF t).1,0)).2.2)
    else if dR (fJ l ((bF t).1.length+1) ((bF t).1,0)).1≠0 then (dK,dR (fJ l ((bF t).1.length+1) ((bF t).1,0)).1)
    else ((fJ l ((bF t).1.length+1) ((bF t).1,0)).1,0):=by rw[bA,if_neg (by simpa using h1)]
  generalize fJ l ((bF t).1.length+1) ((bF t).1,0)=R at hsz hP ⊢;rintro v w9 ⟨x,ex,rfl,h9⟩;have hsx:aO x<=100000:=by
   rw[<- H7 x,ex];have:(bF t).1.length<=4000:=ht;simp only at hsz;omega
  refine⟨_,x.u,_,_,_,_,rfl,(St.start w9).one.ax dK.cells.toArray λ r3 w10 s10=>s10.az 0 rfl x.cells rfl (Xv.one _) λ w11 s11=>?_⟩;have h11:fH w w11 p R.2 (star (Sep [ai r3 x.cells.toArray 81,emp]) (star (held x.In) (star (Sep [ai r2 #[.slice a l.length c,pt p] 262,emp]) (Sep [bR 280 4 Tk.cells a3 c3 (bF t).1,ai r1 dK.cells.toArray 81,emp])))):=h9.add s11;have fl:St w w11 (Sep [ai r3 x.cells.toArray 81,emp,held x.In,ai r2 #[.slice a l.length c,pt p] 262,emp,bR 280 4 Tk.cells a3 c3 (bF t).1,ai r1 dK.cells.toArray 81,emp]):=by
   have t1:=h11.frame;exact t1.eqv ((bf.right (bf.right (bf.cat [_,_]))).trans (bf.cat (m:=held x.In :: _) [_,_]))
  refine⟨_,fl.ag 3 rfl 1,ak (RT h11) ?_⟩;rintro v w12 ⟨rfl,rfl⟩;refine⟨_,rfl,?_⟩
  by_cases h2:DP R.2.1 R.2.2=0
  ·rw[if_neg (by simpa using h2)] at hP;have hin:x.In w12:=fl.cv 2 rfl;refine cF (by simpa using h2) ⟨_,x.u,_,_,_,_,fl.cellsIn 0 rfl,ak (E7 hsx hin) ?_⟩;rintro v w14 ⟨rfl,c14⟩;have t14:=fl.quiet c14;have hxe:dR x=dR R.1:=by rw[<- ex,yy]
   refine⟨_,rfl,?_⟩
   by_cases h3:dR x=0
   ·rw[if_neg (by rw[<- hxe]; simpa using h3)] at hP;exact cF (by simpa using h3) ⟨_,x.u,_,_,_,_,t14.cellsIn 0 rfl,t14.az 6 rfl x.cells rfl (Xv.one _) λ w16 t16=>⟨_,x.u,_,_,_,_,t16.cellsIn 6 rfl,x,by rw[hP,ex],by rw[hP]; rfl,(t16.out 2 rfl).first⟩⟩
   ·rw[if_pos (by rw[<- hxe]; exact h3),<- hxe] at hP;exact cT (by simpa using h3) (bad t14 (i:=6) rfl rfl hP)
  ·rw[if_pos h2] at hP;exact cT (by simpa using h2) (bad fl (i:=6) rfl rfl hP)
 ·exact cT (by simpa using h1) (bad s4 (i:=1) rfl rfl (by rw[bA,if_pos h1]))
abbrev Wf:=I6->Int
def qk(v:Int):Int:=if 1000000<v then 1000000 else v
def jb(lim:I6)(f:Wf)(p:KV):Wf:=λ w=>if w=p.1/\qk p.2>f p.1/\within p.1 lim=true then qk p.2 else f w
def bp(lim:I6)(f:Wf)(Q:List KV):Wf:=Q.foldl (jb lim) f
theorem Jo{lim:I6}{f:Wf}{p:KV}{w:I6}{n:Int}:jb lim f p w<=n<->f w<=n/\(p.1=w->within w lim=true->qk p.2<=n):=by
 unfold jb
 split
 ·rename_i h;obtain⟨rfl,h1,h2⟩:=h;exact⟨λ h=>⟨by omega,λ _ _=>h⟩,λ h=>h.2 rfl h2⟩
 ·rename_i h;refine⟨λ hn=>⟨hn,λ e hw=>?_⟩,λ h=>h.1⟩;subst e
  by_cases hc:qk p.2>f p.1
  ·exact absurd ⟨rfl,hc,hw⟩ h
  ·omega
theorem lz{lim:I6}:∀ {Q:List KV} {f:Wf} {w:I6} {n:Int},bp lim f Q w<=n<->f w<=n/\∀ p∈Q,p.1=w->within w lim=true->qk p.2<=n
 | [],f,w,n=>by simp[bp]
 | p :: Q,f,w,n=>by
  show bp lim (jb lim f p) Q w<=n<->_;rw[lz,Jo];constructor
  ·rintro⟨⟨h1,h2⟩,h3⟩;refine⟨h1,λ q hq=>?_⟩;rcases List.mem_cons.1 hq with rfl|hq
   ·exact h2
   ·exact h3 q hq
  ·rintro⟨h1,h2⟩;exact⟨⟨h1,h2 p (by simp)⟩,λ q hq=>h2 q (by simp[hq])⟩
theorem dU{lim:I6}{f:Wf}{Q Q' : List KV}(h:∀ p,p∈Q<->p∈Q'):bp lim f Q=bp lim f Q':=by
 funext w
 refine Int.le_antisymm (lz.2 ?_) (lz.2 ?_)
 ·have:=(lz (lim:=lim) (f:=f) (Q:=Q') (w:=w) (n:=bp lim f Q' w)).1 (Int.le_refl _);exact⟨this.1,λ p hp=>this.2 p ((h p).1 hp)⟩
 ·have:=(lz (lim:=lim) (f:=f) (Q:=Q) (w:=w) (n:=bp lim f Q w)).1 (Int.le_refl _);exact⟨this.1,λ p hp=>this.2 p ((h p).2 hp)⟩
theorem gJ{lim:I6}{f:Wf}{Q:List KV}{p:KV}:jb lim (bp lim f Q) p=bp lim f (Q++[p]):=by
 rw[bp,bp,List.foldl_append]; rfl
theorem Gh{lim:I6}{f:Wf}{Q R:List KV}:bp lim (bp lim f Q) R=bp lim f (Q++R):=by
 rw[bp,bp,bp,List.foldl_append]
structure cq (lim:I6) (l:List KV) (f:Wf):Prop where
 v:∀ u,jm l u=if 0<f u then some (f u) else none
 le:∀ u,f u<=1000000
 z:∀ u,0<=f u
 s:∀ u,0<f u->I6.Le u 4/\within u lim=true
theorem cq.nil(lim:I6):cq lim [] λ _=>0:=⟨λ u=>rfl,λ u=>by omega,λ u=>by omega,λ u h=>by omega⟩
theorem cq.get{lim:I6}{l:List KV}{f:Wf}(h:cq lim l f)(u:I6):(jm l u).getD 0=f u:=by
 rw[h.v]
 split
 ·rfl
 ·have:=h.z u; show 0=f u; omega
theorem cq.mem{lim:I6}{l:List KV}{f:Wf}(h:cq lim l f)(hn:(l.map (·.1)).Nodup)(p:KV):p∈l<->0<f p.1/\p.2=f p.1:=by
 constructor
 ·intro hp;have h1:=ML hn hp;rw[h.v] at h1
  split at h1
  ·rename_i h2; exact⟨h2,by injection h1 with h1; exact h1.symm⟩
  ·cases h1
 ·rintro⟨h1,h2⟩;have h3:=h.v p.1;rw[if_pos h1] at h3;have:=BJ h3;obtain⟨a,b⟩:=p;simp only at h2 this;rw[h2]; exact this
theorem cq.raise{lim:I6}{l:List KV}{f:Wf}(h:cq lim l f)(hl:I6.Le lim 4){p:KV}(hp:I6.Le p.1 1000000) :
  cq lim (if qk p.2>f p.1/\within p.1 lim=true then xd l p.1 (qk p.2) else l) (jb lim f p):=by
 by_cases g:qk p.2>f p.1/\within p.1 lim=true
 ·rw[if_pos g];have hz:=h.z p.1;have e:∀ u,jb lim f p u=if u=p.1 then qk p.2 else f u:=λ u=>by
   unfold jb
   by_cases hu:u=p.1
   ·rw[if_pos ⟨hu,g⟩,if_pos hu]
   ·rw[if_neg (λ h=>hu h.1),if_neg hu]
  refine⟨λ u=>?_,λ u=>?_,λ u=>?_,λ u=>?_⟩
  ·rw[MM,e]
   by_cases hu:u=p.1
   ·rw[if_pos hu,if_pos hu,if_pos (by omega)]
   ·rw[if_neg hu,if_neg hu,h.v]
  ·rw[e]; split
   ·unfold qk; split<;>omega
   ·exact h.le u
  ·rw[e]; split
   ·omega
   ·exact h.z u
  ·rw[e]; split
   ·rename_i hu; subst hu; intro _;refine⟨λ k hk=>?_,g.2⟩;have h1:=hp k hk;have h2:=within_iff.1 g.2 k hk;have h3:=hl k hk;omega
   ·exact h.s u
 ·rw[if_neg g];have e:jb lim f p=f:=by
   funext u
   unfold jb;rw[if_neg (λ h=>g h.2)]
  rw[e]; exact h
theorem P3:SA prog 295 44 2 where
 u:=underlying295
 k:=⟨_,underlying44⟩
 z:=by kernel_rfl
 eq u v:=by kernel_rfl
 ck b u w:=by
  obtain⟨i,hi,_,_,_⟩:=Ty.i;have hc:(prog).cellsOf 3=1:=by kernel_rfl
  have hsz:∀ w,(Go.sizeOf 3).run prog w=.ok 1 w:=λ w=>by rw[run_sizeOf w hi,hc]
  have hpart:∀ (w:World) (j:Nat),j<6->(part 3 u.vs.toArray (j*1)).run prog w=.ok (iv (u.at' j)) w:=λ w j hj=>by
   have:=u.get j hj;simp only[Nat.mul_one] at this ⊢;simp[part,isAgg,aH underlying3,this]
  rw[show(10000:Nat)=9999+1 from rfl,Instr.checkKey];simp only[Sem.run_bind,run_underlying underlying44,Result.andThen_ok];simp only[Std.Legacy.Range.forIn_eq_forIn_range',Std.Legacy.Range.size,Nat.sub_zero,Nat.add_one_sub_one,Nat.div_one];have each:∀ j∈List.range' 0 6,j<6:=λ j hj=>by simpa using hj
  generalize List.range' 0 6=is at each
  induction is with
  | nil=>simp
  | cons j is ih =>
   have p1:=hpart w j (each j (by simp));have p2:=mI (P:=prog) underlying3 b 9998 (u.at' j) w;simp only[List.forIn_cons,Sem.run_bind,hsz,Result.andThen_ok,p1,p2,Sem.run_pure];exact ih λ y hy=>each y (by simp[hy])
section
variable {w0 w:World} {B:aC} {r r2:Nat} {l l2:List KV} {lim:I6} {f g:Wf}
theorem oQ(s:St w0 w (star (mapA r l) B)):(l.map (·.1)).Nodup:=by
 obtain⟨x,_⟩:=s.ex;exact x.2.ky
theorem cq.key(h:cq lim l f)(hn:(l.map (·.1)).Nodup){p:KV}(hp:p∈l):I6.Le p.1 4/\0<p.2/\p.2<=1000000:=by
 have h1:=(h.mem hn p).1 hp;have:=h.le p.1;exact⟨(h.s p.1 h1.1).1,by omega,by omega⟩
theorem lR(s:St w0 w (star (mapA r l) B))(h:cq lim l f)(hl:I6.Le lim 4){b:I6}(hb:I6.Le b 1000000)(v:Int) :
  CP 239 #[.map (some r),.agg lim.vs.toArray,.agg b.vs.toArray,iv v] w (λ x w'=>x=.tuple #[]/\∃ l',cq lim l' (jb lim f (b,v))/\St w0 w' (star (mapA r l') B)):=by
 refine jx ?_;unfold fh;refine(s.vW).ax lim.vs.toArray λ r1 w1 s1=>s1.ax b.vs.toArray λ r2 w2 s2=>?_;have hr:=h.raise hl (p:=(b,v)) hb;have back:∀ {w' : World} {l' : List KV},St w0 w' (Sep [ai r2 b.vs.toArray 44,ai r1 lim.vs.toArray 44,mapA r l',B])->St w0 w' (star (mapA r l') B):=λ s=>(s.av [2,3]).pair;refine⟨λ x w3=>x=decide (qk v>f b/\within b lim=true)/\St w0 w3 (Sep [ai r2 b.vs.toArray 44,ai r1 lim.vs.toArray 44,mapA r l,B]),?_,b,s2.cellsIn 0 rfl,?_⟩
 ·rintro w3 _ ⟨rfl,s3⟩ -
  by_cases g:qk v>f b/\within b lim=true
  ·rw[if_pos g] at hr;refine cT (dT g) ⟨b,s3.cellsIn 0 rfl,OY P3 (s3.out 2 rfl) b (qk v) λ w4 s4=>⟨rfl,_,hr,?_⟩⟩;exact back (s4.back (show 2<4 by decide))
  ·rw[if_neg g] at hr;exact cF (dF g) ⟨rfl,_,hr,back s3⟩
 ·refine Ef P3 (s2.out 2 rfl) b ?_;rw[h.get]
  by_cases g1:qk v>f b
  ·refine cT (dT g1) ⟨b,s2.cellsIn 0 rfl,lim,s2.cellsIn 1 rfl,ak (pS _ _ _) ?_⟩;rintro x w6 ⟨rfl,c6⟩;refine⟨_,rfl,?_,s2.quiet c6⟩
   cases hw:within b lim with
   | true=>rw[dT (p:=qk v>f b/\true=true) ⟨g1,rfl⟩]
   | false=>rw[dF (p:=qk v>f b/\false=true) (λ h=>by cases h.2)]
  ·exact cF (dF g1) ⟨by rw[dF (λ h=>g1 h.1)],s2⟩
theorem um(s:St w0 w (star (mapA r l) (star (mapA r2 l2) B)))(h:cq lim l f)(h2:cq lim l2 g)(hl:I6.Le lim 4) :
  CP 240 #[.map (some r),.agg lim.vs.toArray,.map (some r2)] w (λ x w'=>x=.tuple #[]/\∃ l',cq lim l' (bp lim f l2)/\St w0 w' (star (mapA r l') (star (mapA r2 l2) B))):=by
 refine jw ?_;unfold ff;have hn2:=oQ s.Jv;refine(s.qh).ax lim.vs.toArray λ r1 w1 s1=>lB P3 (s1.out 2 rfl) λ it w2 s2=>?_;have s2:St w0 w2 (Sep [yO r2 it l2 [],ai r1 lim.vs.toArray 44,mapA r l,B]):=s2;refine⟨λ w3 m=>∃ (S l' : List KV),m=l2.length-S.length/\(∀ p∈S,p∈l2)/\cq lim l' (bp lim f S)/\St w0 w3 (Sep [yO r2 it l2 S,ai r1 lim.vs.toArray 44,mapA r l',B]),⟨_,[],l,rfl,by simp,h,s2⟩,?_⟩;rintro w3 m ⟨S,l',rfl,hS,hr,s3⟩ -;refine oR s3 (λ hend=>⟨rfl,l',?_,?_⟩) (λ p hp hlen w4 s4=>?_)
 ·rw[dU (Q:=l2) (Q':=S) λ p=>⟨hend p,hS p⟩]; exact hr
 ·have s5:St w0 w3 (Sep [mapA r2 l2,ai r1 lim.vs.toArray 44,mapA r l',B]):=St.yP s3;exact(s5.av [2,0,3]).triple
 ·have s4:St w0 w4 (Sep [yO r2 it l2 (S++[p]),ai r1 lim.vs.toArray 44,mapA r l',B]):=s4;have hk:=h2.key hn2 hp;refine s4.ax z6.vs.toArray λ r3 w6 s6=>s6.az 0 rfl p.1.vs rfl (I6.one _) λ w7 s7=>⟨lim,s7.cellsIn 2 rfl,p.1,s7.cellsIn 0 rfl,ak (lR (s7.out 3 rfl) hr hl (su hk.1 (by omega)) p.2) ?_⟩;rintro x w8 ⟨rfl,l'',hr2,s8⟩;have s9:=(s8.back (show 3<5 by decide)).av [1,2,3,4];refine⟨rfl,_,?_,S++[p],l'',rfl,?_,?_,s9⟩
  ·rw[List.length_append,List.length_singleton]; omega
  ·intro q hq;rcases List.mem_append.1 hq with hq|hq
   ·exact hS q hq
   ·rw[List.mem_singleton.1 hq]; exact hp
  ·rw[<- gJ]; exact hr2
end
section
variable {w0 w:World} {B:aC} {r r1 r2:Nat} {l l1 l2:List KV} {lim:I6} {f g:Wf}
theorem St.Qk(s:St w0 w (star (aY r (.map #[] 0)) B)):St w0 w (star (mapA r []) B) :=
 St.wT (f:=λ (x:{ p:Array MapEntry×Nat // Dl p.1.toList p.2 [] })=>aY r (.map x.1.1 x.1.2)) ⟨(#[],0),rfl,by simp,by simp,by simp⟩ s
def xX(p q:KV):KV:=(p.1.zip (· + ·) q.1,p.2+q.2)
def CI(l1 l2:List KV):List KV:=l1.flatMap λ p=>l2.map (xX p)
theorem xH{l1 l2:List KV}{x:KV}:x∈CI l1 l2<->∃ p∈l1,∃ q∈l2,xX p q=x:=by simp[CI]
theorem M5{p q:KV}(hp:I6.Le p.1 4)(hq:I6.Le q.1 4):I6.Le (xX p q).1 1000000:=λ k hk=>by
 have h1:=hp k hk; have h2:=hq k hk;show 0<=(p.1.zip (· + ·) q.1).at' k/\_;rw[I6.fG _ _ _ _ hk];show 0<=p.1.at' k+q.1.at' k/\(p.1.zip (· + ·) q.1).at' k<=1000000;rw[I6.fG _ _ _ _ hk];omega
theorem Sk(s:St w0 w (star (mapA r1 l1) (star (mapA r2 l2) B)))(h1:cq lim l1 f)(h2:cq lim l2 g)(hl:I6.Le lim 4) :
  CP 241 #[.agg lim.vs.toArray,.map (some r1),.map (some r2)] w (λ x w'=>∃ r3 l3,x=.map (some r3)/\cq lim l3 (bp lim (λ _=>0) (l1++(l2++CI l1 l2)))/\St w0 w' (star (mapA r3 l3) (star (mapA r1 l1) (star (mapA r2 l2) B)))):=by
 refine vA ?_;unfold q8;have hn1:=oQ s;have hn2:=oQ s.Jv;refine(s.qh).ax lim.vs.toArray λ b1 w1 s1=>uW s1 λ r3 w2 c2 s2=>?_;have s3:St w0 w2 (Sep [mapA r3 [],ai b1 lim.vs.toArray 44,mapA r1 l1,mapA r2 l2,B]):=St.Qk s2;refine⟨lim,s3.cellsIn 1 rfl,ak (um (f:=λ _=>0) (g:=f) (s3.av [0,2,1,3,4]) (cq.nil lim) h1 hl) ?_⟩;rintro x w3 ⟨rfl,l4,hr4,s4⟩;have s4:St w0 w3 (Sep [mapA r3 l4,mapA r1 l1,ai b1 lim.vs.toArray 44,mapA r2 l2,B]):=s4;refine⟨rfl,lim,s4.cellsIn 2 rfl,ak (um (g:=g) (s4.av [0,3,1,2,4]) hr4 h2 hl) ?_⟩;rintro x w5 ⟨rfl,l5,hr5,s5⟩;rw[Gh] at hr5;have s5:St w0 w5 (Sep [mapA r3 l5,mapA r2 l2,mapA r1 l1,ai b1 lim.vs.toArray 44,B]):=s5;refine⟨rfl,lB P3 (s5.out 2 rfl) λ it w6 s6=>?_⟩;have s6:St w0 w6 (Sep [yO r1 it l1 [],mapA r3 l5,mapA r2 l2,ai b1 lim.vs.toArray 44,B]):=s6;refine⟨λ w7 m=>∃ (S l' : List KV),m=l1.length-S.length/\(∀ p∈S,p∈l1)/\cq lim l' (bp lim (λ _=>0) ((l1++l2)++CI S l2))/\St w0 w7 (Sep [yO r1 it l1 S,mapA r3 l',mapA r2 l2,ai b1 lim.vs.toArray 44,B]),⟨_,[],l5,rfl,by simp,by simpa[CI] using hr5,s6⟩,?_⟩;rintro w7 m ⟨S,l',rfl,hS,hr,s7⟩ -;refine oR s7 (λ hend=>⟨r3,l',rfl,?_,?_⟩) (λ p hp hlen w8 s8=>?_)
 ·rw[dU (Q:=l1++(l2++CI l1 l2)) (Q':=(l1++l2)++CI S l2) λ x=>?_]; exact hr;have:x∈CI l1 l2<->x∈CI S l2:=by
   rw[xH,xH];exact⟨λ ⟨p,h1,h2⟩=>⟨p,hend p h1,h2⟩,λ ⟨p,h1,h2⟩=>⟨p,hS p h1,h2⟩⟩
  rw[List.mem_append,List.mem_append,List.mem_append,List.mem_append,this,or_assoc]
 ·have t:St w0 w7 (Sep [mapA r1 l1,mapA r3 l',mapA r2 l2,ai b1 lim.vs.toArray 44,B]):=St.yP s7;exact(t.av [1,0,2,4]).eqv (bf.right (bf.right (bf.right (bf.unit' _))))
 ·have s8:St w0 w8 (Sep [yO r1 it l1 (S++[p]),mapA r3 l',mapA r2 l2,ai b1 lim.vs.toArray 44,B]):=s8;have hk:=h1.key hn1 hp;refine s8.ax z6.vs.toArray λ b3 w9 s9=>s9.az 0 rfl p.1.vs rfl (I6.one _) λ w10 s10=>lB P3 (s10.out 3 rfl) λ it2 w11 s11=>?_;have s11:St w0 w11 (Sep [yO r2 it2 l2 [],ai b3 p.1.vs.toArray 44,yO r1 it l1 (S++[p]),mapA r3 l',ai b1 lim.vs.toArray 44,B]):=s11;refine⟨λ w12 m=>∃ (T l' : List KV),m=l2.length-T.length/\(∀ q∈T,q∈l2)/\cq lim l' (bp lim (λ _=>0) (((l1++l2)++CI S l2)++T.map (xX p)))/\St w0 w12 (Sep [yO r2 it2 l2 T,ai b3 p.1.vs.toArray 44,yO r1 it l1 (S++[p]),mapA r3 l',ai b1 lim.vs.toArray 44,B]),⟨_,[],l',rfl,by simp,by simpa using hr,s11⟩,?_⟩;rintro w12 m ⟨T,l',rfl,hT,hr,s12⟩ -;refine oR s12 (λ hend=>?_) (λ q hq hlen2 w14 s14=>?_)
  ·have t:St w0 w12 (Sep [mapA r2 l2,ai b3 p.1.vs.toArray 44,yO r1 it l1 (S++[p]),mapA r3 l',ai b1 lim.vs.toArray 44,B]):=St.yP s12;refine⟨_,?_,S++[p],l',rfl,?_,?_,t.av [2,3,0,4,5]⟩
   ·rw[List.length_append,List.length_singleton]; omega
   ·intro q hq;rcases List.mem_append.1 hq with hq|hq
    ·exact hS q hq
    ·rw[List.mem_singleton.1 hq]; exact hp
   ·rw[dU (Q:=(l1++l2)++CI (S++[p]) l2) (Q':=((l1++l2)++CI S l2)++T.map (xX p)) λ x=>?_]; exact hr;have e1:CI (S++[p]) l2=CI S l2++l2.map (xX p):=by simp[CI]
    have e2:x∈l2.map (xX p)<->x∈T.map (xX p):=by
     rw[List.mem_map,List.mem_map];exact⟨λ ⟨q,h1,h2⟩=>⟨q,hend q h1,h2⟩,λ ⟨q,h1,h2⟩=>⟨q,hT q h1,h2⟩⟩
    rw[e1,<- List.append_assoc,List.mem_append,List.mem_append (t:=T.map (xX p)),e2]
  ·have s14:St w0 w14 (Sep [yO r2 it2 l2 (T++[q]),ai b3 p.1.vs.toArray 44,yO r1 it l1 (S++[p]),mapA r3 l',ai b1 lim.vs.toArray 44,B]):=s14;have hk2:=h2.key hn2 hq;refine s14.ax z6.vs.toArray λ b5 w15 s15=>s15.az 0 rfl q.1.vs rfl (I6.one _) λ w16 s16=>?_;have s17:=s16.quiet (ay.drew w16 []);refine⟨lim,s17.cellsIn 5 rfl,p.1,s17.cellsIn 2 rfl,q.1,s17.cellsIn 0 rfl,ak (SC _ p.1 q.1 (su hk.1 (by omega)) (su hk2.1 (by omega))) ?_⟩;rintro x w18 ⟨rfl,c18⟩;have s18:=s17.quiet c18;refine⟨_,rfl,s18.cellsIn 5 rfl,?_⟩;rw[aB (n:=p.2+q.2) ⟨by omega,by omega⟩];refine ak (lR (s18.out 4 rfl) hr hl (b:=(xX p q).1) (M5 hk.1 hk2.1) (xX p q).2) ?_;rintro x w19 ⟨rfl,l'',hr2,s19⟩;have s20:=(s19.back (show 4<7 by decide)).av [1,2,3,4,5,6];refine⟨rfl,_,?_,T++[q],l'',rfl,?_,?_,s20⟩
   ·rw[List.length_append,List.length_singleton]; omega
   ·intro y hy;rcases List.mem_append.1 hy with hy|hy
    ·exact hT y hy
    ·rw[List.mem_singleton.1 hy]; exact hq
   ·rw[List.map_append,List.map_singleton,<- List.append_assoc,<- gJ]; exact hr2
end
def r5:List Int:=[0,1,2,3,4]
theorem uU{a:Int}(h:0<=a/\a<=4):a∈r5:=by
 have:a=0\/a=1\/a=2\/a=3\/a=4:=by omega
 simpa[r5] using this
def Qq:List I6:=r5.flatMap λ a=>r5.flatMap λ b=>r5.flatMap λ c=>r5.flatMap λ d=>r5.flatMap λ e=>r5.map λ f=>⟨a,b,c,d,e,f⟩
theorem Lp{u:I6}(h:I6.Le u 4):u∈Qq:=by
 have h0:=uU (h 0 (by decide)); have h1:=uU (h 1 (by decide)); have h2:=uU (h 2 (by decide));have h3:=uU (h 3 (by decide)); have h4:=uU (h 4 (by decide)); have h5:=uU (h 5 (by decide));unfold Qq;exact List.mem_flatMap.2 ⟨_,h0,List.mem_flatMap.2 ⟨_,h1,List.mem_flatMap.2 ⟨_,h2,List.mem_flatMap.2 ⟨_,h3,List.mem_flatMap.2 ⟨_,h4,List.mem_map.2 ⟨_,h5,rfl⟩⟩⟩⟩⟩⟩
def Af(f:Wf):List KV:=(Qq.filter λ u=>decide (0<f u)).map λ u=>(u,f u)
theorem cq.Af{lim:I6}{l:List KV}{f:Wf}(h:cq lim l f)(hn:(l.map (·.1)).Nodup)(p:KV):p∈l<->p∈Af f:=by
 rw[h.mem hn];constructor
 ·rintro⟨h1,h2⟩;exact List.mem_map.2 ⟨p.1,List.mem_filter.2 ⟨Lp (h.s _ h1).1,dT h1⟩,Prod.ext rfl h2.symm⟩
 ·intro hp;obtain⟨u,hu,rfl⟩:=List.mem_map.1 hp;exact⟨of_decide_eq_true (List.mem_filter.1 hu).2,rfl⟩
def vR(k p:KV):KV:=(p.1.zip (λ x y=>if y>x then y else x) k.1,p.2+k.2)
def Lq(v:Int)(p:KV):KV:=(p.1,if v<p.2 then v else p.2)
def zW:Wf:=λ _=>0
def GI(lim:I6)(f g:Wf):Wf:=bp lim f (Af g)
def OP(lim:I6)(f g:Wf):Wf:=bp lim zW (Af f++(Af g++CI (Af f) (Af g)))
def QB(lim:I6)(k:KV)(g:Wf):Wf:=bp lim zW (Af g++([k]++(Af g).map (vR k)))
def Rf(lim:I6)(v:Int)(g:Wf):Wf:=bp lim zW ((Af g).map (Lq v))
mutual
def lV(lim:I6):Xv->Wf
 | .mk op u v _ _ args =>
  if op=1 then bp lim zW [(u,v)]
  else if op=2 then (FR lim args).foldl (GI lim) zW
  else if op=3 then (FR lim args).foldl (OP lim) zW
  else if op=4 then QB lim (u,v) ((FR lim args).headD zW)
  else if op=5 then Rf lim v ((FR lim args).headD zW)
  else zW
def FR(lim:I6):List Xv->List Wf
 | []=>[]
 | x :: l=>lV lim x :: FR lim l
end
theorem HE(lim:I6):∀ l:List Xv,FR lim l=l.map (lV lim)
 | []=>rfl
 | x :: l=>by rw[FR,HE lim l]; rfl
theorem FT(lim:I6)(x:Xv):lV lim x=if x.op=1 then bp lim zW [(x.u,x.v)]
  else if x.op=2 then (x.args.map (lV lim)).foldl (GI lim) zW
  else if x.op=3 then (x.args.map (lV lim)).foldl (OP lim) zW
  else if x.op=4 then QB lim (x.u,x.v) ((x.args.map (lV lim)).headD zW)
  else if x.op=5 then Rf lim x.v ((x.args.map (lV lim)).headD zW)
  else zW:=by cases x; rw[lV,HE]; rfl
theorem Qc(lim:I6):∀ x,lV lim x.er=lV lim x:=Xv.ind λ x ih=>by
 rw[FT,FT lim x,pX,List.map_map];have:x.args.map (lV lim ∘ Xv.er)=x.args.map (lV lim):=List.map_congr_left λ y hy=>ih y hy;rw[this,Xv.oC]; rfl
inductive AH:Xv->Prop where
 | mk {x:Xv} (f:fA x=true) (r:gK x=true) (k:∀ y∈x.args,AH y):AH x
theorem OB{x:Xv}:oT 0 x=0<->fA x=true/\gK x=true:=by
 unfold oT
 cases fA x<;>cases gK x<;>simp
theorem y5:∀ (l:List Xv) (r:Int×Bool),r.2=false->fk dy l r=r
 | [],_,_=>rfl
 | y :: l,r,h=>by
  unfold fk;rw[List.foldl_cons,if_neg (by rw[h]; decide)];exact y5 l r h
theorem OC:∀ (x:Xv),(bt dy x 0).2=((bt dy x 0).1==0):=Xv.ind λ x ih=>by
 rw[lS]
 by_cases h:(dy 0 x).2=true
 ·rw[if_pos h];have h0:(dy 0 x).1=0:=by simpa[dy] using h
  rw[h0];have:∀ (l:List Xv),(∀ y∈l,(bt dy y 0).2=((bt dy y 0).1==0))->(fk dy l (0,true)).2=((fk dy l (0,true)).1==0):=λ l=>by
   induction l with
   | nil=>intro _; rfl
   | cons y l ih2 =>
    intro hl;have hy:=hl y (by simp);unfold fk;rw[List.foldl_cons,if_pos rfl]
    cases hb:(bt dy y 0).2 with
    | true =>
     have e0:(bt dy y 0).1=0:=by rw[hb] at hy; simpa using hy.symm
     have:bt dy y 0=(0,true):=Prod.ext e0 hb;rw[this]; exact ih2 λ z hz=>hl z (by simp[hz])
    | false =>
     have:=y5 l (bt dy y 0) hb;unfold fk at this;rw[this]; exact hy
  exact this x.args ih
 ·rw[if_neg h];show false=((dy 0 x).1==0);have:(dy 0 x).2=false:=by simpa using h
  rw[<- this]; rfl
theorem N5:∀ (x:Xv),(bt dy x 0).1=0->AH x:=Xv.ind λ x ih h=>by
 rw[lS] at h
 by_cases hb:(dy 0 x).2=true
 ·rw[if_pos hb] at h;have h0:oT 0 x=0:=by simpa[dy] using hb
  have h0' : (dy 0 x).1=0:=h0;rw[h0'] at h;obtain⟨hf,hr⟩:=OB.1 h0;refine .mk hf hr λ y hy=>ih y hy ?_;have:∀ (l:List Xv),(fk dy l (0,true)).1=0->∀ y∈l,(bt dy y 0).1=0:=λ l=>by
   induction l with
   | nil=>intro _ y hy; cases hy
   | cons z l ih2 =>
    intro hl y hy;unfold fk at hl;rw[List.foldl_cons,if_pos rfl] at hl;have hz:=OC z
    cases hb:(bt dy z 0).2 with
    | true =>
     have e0:(bt dy z 0).1=0:=by rw[hb] at hz; simpa using hz.symm
     have ee:bt dy z 0=(0,true):=Prod.ext e0 hb;rw[ee] at hl;rcases List.mem_cons.1 hy with rfl|hy
     ·exact e0
     ·exact ih2 hl y hy
    | false =>
     have:=y5 l (bt dy z 0) hb;unfold fk at this;rw[this] at hl;rw[hl,hb] at hz; cases hz
  exact this _ h y hy
 ·rw[if_neg hb] at h;exact absurd (show(dy 0 x).2=true by show(oT 0 x==0)=true; rw[show oT 0 x=0 from h]; rfl) hb
theorem KX{x:Xv}(h:dR x=0):AH x:=by
 unfold dR at h
 split at h
 ·cases h
 ·split at h
  ·cases h
  ·exact N5 x h
section
variable {lim:I6}
def T9(lim:I6)(x:Xv):Prop:=∀ (w0 w:World) (B:aC),(∀ {w'},ay w0 w' []->x.In w')->St w0 w B ->
 CP 221 #[.agg x.cells.toArray,.agg lim.vs.toArray] w (λ v w'=>∃ r l,v=.map (some r)/\cq lim l (lV lim x)/\St w0 w' (star (mapA r l) B))
theorem xM{w0 w:World}{L:List aC}{x y:Xv}{r1 r2:Nat}{i:Nat}(H:T9 lim y)(hx:∀ {w'},ay w0 w' []->x.In w')(s:St w0 w (Sep L)){j1 j2:Nat}(e1:L[j1]?=some (ai r1 x.cells.toArray 81))(e2:L[j2]?=some (ai r2 lim.vs.toArray 44))(hy:x.args[i]?=some y) :
  CP 238 #[iv i,pt r1,pt r2] w (λ v w'=>∃ r l,v=.map (some r)/\cq lim l (lV lim y)/\St w0 w' (Sep (mapA r l :: L))):=by
 refine uk ?_;unfold pQ;have s1:=s.quiet (ay.drew w []);have hi:=(List.getElem?_eq_some_iff.1 hy).1;obtain⟨q,hq,hcl⟩:=(hx s1.au).fl.at hy;refine⟨_,_,_,s1.ag j1 e1 8,aj hq ⟨by omega,by omega,_,y.u,_,_,_,_,by rw[Int.toNat_natCast]; exact hcl,lim,s1.cellsIn j2 e2,ak (H w0 _ _ (λ hc=>(hx hc).sub y (List.mem_of_getElem? hy)) s1) ?_⟩⟩;rintro v w1 ⟨r,l,rfl,hr,s2⟩;exact⟨_,rfl,r,l,rfl,hr,s2⟩
theorem pY{α β:Type}{f:α->β->α}{a:α}{l:List β}{k:Nat}{x:β}(h:l[k]?=some x):(l.take (k+1)).foldl f a=f ((l.take k).foldl f a) x:=by rw[aG h,List.foldl_append]; rfl
theorem Ul(hl:I6.Le lim 4):∀ x,AH x->aO x<=100000->T9 lim x:=Xv.ind λ x ih hg hz w0 w B hx s=>by
 refine xw (u1:=x.u) ?_;unfold uj;have hlen:=ye x;obtain⟨hf,hrg,hk⟩:fA x=true/\gK x=true/\∀ y∈x.args,AH y:=by cases hg; exact⟨‹_›,‹_›,‹_›⟩
 have eF:=FT lim x;have HY:∀ y∈x.args,T9 lim y:=λ y hy=>ih y hy (hk y hy) (by have:=zL hy; omega);refine s.one.ax x.cells.toArray λ r1 w1 s1=>s1.ax lim.vs.toArray λ r2 w2 s2=>uW s2 λ r3 w3 c3 s3=>?_;let M:List KV->List aC:=λ l=>[mapA r3 l,ai r2 lim.vs.toArray 44,ai r1 x.cells.toArray 81,B];have s3:St w0 w3 (Sep (M [])):=St.Qk s3;have fin:∀ {w' : World} {l:List KV},St w0 w' (Sep (M l))->St w0 w' (star (mapA r3 l) B):=λ s=>(s.av [0,3]).pair;refine⟨λ m w4=>∃ r l,m=some r/\cq lim l (lV lim x)/\St w0 w4 (star (mapA r l) B),?_,_,s3.ag 2 rfl 0,?_⟩
 ·rintro w4 m ⟨r,l,rfl,hr,s4⟩ -;exact⟨r,l,rfl,hr,s4⟩
 have hu:x.op≠2->x.op≠3->x.op≠5->I6.Le x.u 4:=λ h2 h3 h5=>by
  unfold gK at hrg;rw[if_neg (by rintro(h|h); exact h2 h; exact h3 h)] at hrg
  split at hrg
  ·cases hrg
  ·first|rw[if_neg h5] at hrg|skip
   rw[Bool.and_eq_true] at hrg;exact JT hrg.1
 have hv:x.op≠2->x.op≠3->1<=x.v/\x.v<=1000000:=λ h2 h3=>by
  unfold gK at hrg;rw[if_neg (by rintro(h|h); exact h2 h; exact h3 h)] at hrg
  split at hrg
  ·cases hrg
  ·rename_i h; omega
 by_cases h1:x.op=1
 ·rw[if_pos h1] at eF;refine cT (by simpa using h1) ⟨lim,s3.cellsIn 1 rfl,x.u,s3.aF 2 1 rfl rfl,_,s3.ag 2 rfl 7,ak (lR s3 (cq.nil lim) hl (su (hu (by omega) (by omega) (by omega)) (by omega)) x.v) ?_⟩;rintro v w5 ⟨rfl,l',hr,s5⟩;exact⟨rfl,r3,l',rfl,by rw[eF]; exact hr,fin s5⟩
 rw[if_neg h1] at eF;refine cF (by simpa using h1) ?_
 by_cases h2:x.op=2
 ·rw[if_pos h2] at eF;refine cT (by simpa using h2) ⟨_,_,_,s3.ag 2 rfl 8,λ i w6 m=>∃ (k:Nat) (l:List KV),i=k/\k<=x.args.length/\m=x.args.length-k/\cq lim l (((x.args.take k).map (lV lim)).foldl (GI lim) zW)/\St w0 w6 (Sep (M l)),⟨x.args.length,0,[],rfl,by omega,by omega,cq.nil lim,s3⟩,?_⟩;rintro w6 m i ⟨k,l,rfl,hk1,hm,hr,s6⟩ -
  by_cases hlt:(k:Int)<(x.args.length:Int)
  ·have hy:x.args[k]?=some (x.args[k]'(by omega)):=gE (by omega);generalize x.args[k]'(by omega)=y at hy;have s7:=s6.quiet (ay.drew w6 []);refine cT (dT hlt) ⟨lim,s7.cellsIn 1 rfl,ak (xM (HY y (List.mem_of_getElem? hy)) hx s7 (j1:=2) (j2:=1) rfl rfl hy) ?_⟩;rintro v w7 ⟨r4,l4,rfl,hr4,s8⟩;have s8:St w0 w7 (Sep [mapA r4 l4,mapA r3 l,ai r2 lim.vs.toArray 44,ai r1 x.cells.toArray 81,B]):=s8;have hn4:=oQ s8;refine⟨_,rfl,s8.cellsIn 2 rfl,ak (um (s8.av [1,0,2,3,4]) hr hr4 hl) ?_⟩;rintro v w9 ⟨rfl,l5,hr5,s9⟩;have s9:St w0 w9 (Sep [mapA r3 l5,mapA r4 l4,ai r2 lim.vs.toArray 44,ai r1 x.cells.toArray 81,B]):=s9;refine⟨rfl,x.args.length-(k+1),by omega,k+1,l5,aB ⟨by omega,by omega⟩,by omega,rfl,?_,s9.av [0,2,3,4]⟩;have e:((x.args.take (k+1)).map (lV lim)).foldl (GI lim) zW=GI lim (((x.args.take k).map (lV lim)).foldl (GI lim) zW) (lV lim y):=by
    rw[aG hy,List.map_append,List.foldl_append]; rfl
   rw[e,GI,<- dU (Q:=l4) λ p=>hr4.Af hn4 p]; exact hr5
  ·obtain rfl:x.args.length=k:=by omega
   rw[List.take_length] at hr;exact cF (dF hlt) ⟨r3,l,rfl,by rw[eF]; exact hr,fin s6⟩
 rw[if_neg h2] at eF;refine cF (by simpa using h2) ?_
 by_cases h3:x.op=3
 ·rw[if_pos h3] at eF;let M3:Nat->List KV->List aC:=λ r l=>[mapA r l,ai r2 lim.vs.toArray 44,ai r1 x.cells.toArray 81,B];refine cT (by simpa using h3) ⟨_,_,_,s3.ag 2 rfl 8,λ m i w6 k'=>∃ (k:Nat) (r:Nat) (l:List KV),m=some r/\i=k/\k<=x.args.length/\k' = x.args.length-k/\cq lim l (((x.args.take k).map (lV lim)).foldl (OP lim) zW)/\St w0 w6 (Sep (M3 r l)),⟨x.args.length,0,r3,[],rfl,rfl,by omega,by omega,cq.nil lim,s3⟩,?_⟩;rintro w6 k' m i ⟨k,r,l,rfl,rfl,hk1,hm,hr,s6⟩ -
  by_cases hlt:(k:Int)<(x.args.length:Int)
  ·have hy:x.args[k]?=some (x.args[k]'(by omega)):=gE (by omega);generalize x.args[k]'(by omega)=y at hy;have s7:=s6.quiet (ay.drew w6 []);have hn:=oQ s7;refine cT (dT hlt) ⟨lim,s7.cellsIn 1 rfl,ak (xM (HY y (List.mem_of_getElem? hy)) hx s7 (j1:=2) (j2:=1) rfl rfl hy) ?_⟩;rintro v w7 ⟨r4,l4,rfl,hr4,s8⟩;have s8:St w0 w7 (Sep [mapA r4 l4,mapA r l,ai r2 lim.vs.toArray 44,ai r1 x.cells.toArray 81,B]):=s8;have hn4:=oQ s8;refine⟨_,rfl,s8.cellsIn 2 rfl,ak (Sk (s8.av [1,0,2,3,4]) hr hr4 hl) ?_⟩;rintro v w9 ⟨r5,l5,rfl,hr5,s9⟩;have s9:St w0 w9 (Sep [mapA r5 l5,mapA r l,mapA r4 l4,ai r2 lim.vs.toArray 44,ai r1 x.cells.toArray 81,B]):=s9;refine⟨_,rfl,x.args.length-(k+1),by omega,k+1,r5,l5,rfl,aB ⟨by omega,by omega⟩,by omega,rfl,?_,s9.av [0,3,4,5]⟩;have e:((x.args.take (k+1)).map (lV lim)).foldl (OP lim) zW=OP lim (((x.args.take k).map (lV lim)).foldl (OP lim) zW) (lV lim y):=by
    rw[aG hy,List.map_append,List.foldl_append]; rfl
   rw[e,OP,<- dU (Q:=l++(l4++CI l l4)) λ p=>?_]; exact hr5;have e1:∀ p,p∈l<->p∈Af (((x.args.take k).map (lV lim)).foldl (OP lim) zW):=λ p=>hr.Af hn p;have e2:∀ p,p∈l4<->p∈Af (lV lim y):=λ p=>hr4.Af hn4 p;have e3:p∈CI l l4<->p∈CI (Af (((x.args.take k).map (lV lim)).foldl (OP lim) zW)) (Af (lV lim y)):=by
    rw[xH,xH];exact⟨λ ⟨a,ha,b,hb,h⟩=>⟨a,(e1 a).1 ha,b,(e2 b).1 hb,h⟩,λ ⟨a,ha,b,hb,h⟩=>⟨a,(e1 a).2 ha,b,(e2 b).2 hb,h⟩⟩
   rw[List.mem_append,List.mem_append,List.mem_append,List.mem_append,e1,e2,e3]
  ·obtain rfl:x.args.length=k:=by omega
   rw[List.take_length] at hr;exact cF (dF hlt) ⟨r,l,rfl,by rw[eF]; exact hr,(s6.av [0,3]).pair⟩
 rw[if_neg h3] at eF;refine cF (by simpa using h3) ?_;have one:x.op=4\/x.op=5->∃ y,x.args[0]?=some y/\(x.args.map (lV lim)).headD zW=lV lim y:=λ h=>by
  have h1' : x.args.length=1:=by
   unfold fA at hf;rw[if_neg h1,if_neg (by rintro(h|h); exact h2 h; exact h3 h)] at hf;rcases h with h|h
   ·rw[if_pos h] at hf; simpa using hf
   ·rw[if_neg (by omega),if_pos h,Bool.and_eq_true] at hf; simpa using hf.1
  cases ha:x.args with
  | nil=>rw[ha] at h1'; cases h1'
  | cons y l=>exact⟨y,rfl,rfl⟩
 have hv':=hv h2 h3
 by_cases h4:x.op=4
 ·rw[if_pos h4] at eF;obtain⟨y,hy,ey⟩:=one (.inl h4);rw[ey] at eF;refine cT (by simpa using h4) (ak (xM (i:=0) (HY y (List.mem_of_getElem? hy)) hx s3 (j1:=2) (j2:=1) rfl rfl hy) ?_);rintro v w12 ⟨r4,l4,rfl,hr4,s4⟩;have s4:St w0 w12 (Sep [mapA r4 l4,mapA r3 [],ai r2 lim.vs.toArray 44,ai r1 x.cells.toArray 81,B]):=s4;have hn4:=oQ s4;refine⟨_,rfl,lim,s4.cellsIn 2 rfl,ak (um (s4.av [1,0,2,3,4]) (cq.nil lim) hr4 hl) ?_⟩;rintro v w13 ⟨rfl,l5,hr5,s5⟩;have s5:St w0 w13 (Sep [mapA r3 l5,mapA r4 l4,ai r2 lim.vs.toArray 44,ai r1 x.cells.toArray 81,B]):=s5;have hxu:=hu (by omega) (by omega) (by omega);refine⟨rfl,lim,s5.cellsIn 2 rfl,x.u,s5.aF 3 1 rfl rfl,_,s5.ag 3 rfl 7,ak (lR s5 hr5 hl (su hxu (by omega)) x.v) ?_⟩;rintro v w14 ⟨rfl,l6,hr6,s6⟩;rw[gJ] at hr6;have s6:St w0 w14 (Sep [mapA r3 l6,mapA r4 l4,ai r2 lim.vs.toArray 44,ai r1 x.cells.toArray 81,B]):=s6;refine⟨rfl,lB P3 (s6.out 1 rfl) λ it w15 s7=>?_⟩;have s7:St w0 w15 (Sep [yO r4 it l4 [],mapA r3 l6,ai r2 lim.vs.toArray 44,ai r1 x.cells.toArray 81,B]):=s7;refine⟨λ w16 m=>∃ (S l' : List KV),m=l4.length-S.length/\(∀ p∈S,p∈l4)/\cq lim l' (bp lim zW ((l4++[(x.u,x.v)])++S.map (vR (x.u,x.v))))/\St w0 w16 (Sep [yO r4 it l4 S,mapA r3 l',ai r2 lim.vs.toArray 44,ai r1 x.cells.toArray 81,B]),⟨_,[],l6,rfl,by simp,by rw[List.map_nil,List.append_nil]; exact hr6,s7⟩,?_⟩;rintro w16 m ⟨S,l',rfl,hS,hr,s8⟩ -;refine oR s8 (λ hend=>⟨r3,l',rfl,?_,?_⟩) (λ p hp hlen2 w18 s9=>?_)
  ·rw[eF,QB,<- dU (Q:=(l4++[(x.u,x.v)])++S.map (vR (x.u,x.v))) λ q=>?_]; exact hr;have e2:∀ q,q∈l4<->q∈Af (lV lim y):=λ q=>hr4.Af hn4 q;have e3:q∈S.map (vR (x.u,x.v))<->q∈(Af (lV lim y)).map (vR (x.u,x.v)):=by
    rw[List.mem_map,List.mem_map];exact⟨λ ⟨a,ha,h⟩=>⟨a,(e2 a).1 (hS a ha),h⟩,λ ⟨a,ha,h⟩=>⟨a,hend a ((e2 a).2 ha),h⟩⟩
   rw[List.mem_append,List.mem_append,List.mem_append,List.mem_append,e2,e3,or_assoc]
  ·have t:St w0 w16 (Sep [mapA r4 l4,mapA r3 l',ai r2 lim.vs.toArray 44,ai r1 x.cells.toArray 81,B]):=St.yP s8;exact(t.av [1,4]).pair
  ·have s9:St w0 w18 (Sep [yO r4 it l4 (S++[p]),mapA r3 l',ai r2 lim.vs.toArray 44,ai r1 x.cells.toArray 81,B]):=s9;have hkp:=hr4.key hn4 hp;refine s9.ax z6.vs.toArray λ b4 w19 s10=>s10.az 0 rfl p.1.vs rfl (I6.one _) λ w20 s11=>?_;have s12:=s11.quiet (ay.drew w20 []);refine⟨lim,s12.cellsIn 3 rfl,p.1,s12.cellsIn 0 rfl,x.u,s12.aF 4 1 rfl rfl,_,s12.ag 4 rfl 7,ak (Rc _ p.1 x.u) ?_⟩;rintro v w21 ⟨rfl,c21⟩;have s13:=s12.quiet c21;refine⟨_,rfl,s13.ag 4 rfl 7,s13.cellsIn 3 rfl,?_⟩;have hw:IntKind.i64.wrap (p.2+x.v)=p.2+x.v:=aB ⟨by omega,by omega⟩;show Calls _ _ #[_,_,_,iv (IntKind.i64.wrap (p.2+x.v))] _ _;rw[hw];have hj:I6.Le (vR (x.u,x.v) p).1 1000000:=λ k hk=>by
    have q1:=hkp.1 k hk; have q2:=hxu k hk;show 0<=(p.1.zip _ x.u).at' k/\(p.1.zip _ x.u).at' k<=1000000;rw[I6.fG _ _ _ _ hk]
    split<;>omega
   refine ak (lR (s13.out 2 rfl) hr hl (b:=(vR (x.u,x.v) p).1) hj (vR (x.u,x.v) p).2) ?_;rintro v w22 ⟨rfl,l'',hr2,s14⟩;have s15:=(s14.back (show 2<6 by decide)).av [1,2,3,4,5];refine⟨rfl,_,?_,S++[p],l'',rfl,?_,?_,s15⟩
   ·rw[List.length_append,List.length_singleton]; omega
   ·intro q hq;rcases List.mem_append.1 hq with hq|hq
    ·exact hS q hq
    ·rw[List.mem_singleton.1 hq]; exact hp
   ·rw[List.map_append,List.map_singleton,<- List.append_assoc,<- gJ]; exact hr2
 rw[if_neg h4] at eF;refine cF (by simpa using h4) ?_
 by_cases h5:x.op=5
 ·rw[if_pos h5] at eF;obtain⟨y,hy,ey⟩:=one (.inr h5);rw[ey] at eF;refine cT (by simpa using h5) (ak (xM (i:=0) (HY y (List.mem_of_getElem? hy)) hx s3 (j1:=2) (j2:=1) rfl rfl hy) ?_);rintro v w12 ⟨r4,l4,rfl,hr4,s4⟩;have s4:St w0 w12 (Sep [mapA r4 l4,mapA r3 [],ai r2 lim.vs.toArray 44,ai r1 x.cells.toArray 81,B]):=s4;have hn4:=oQ s4;refine⟨_,rfl,lB P3 s4 λ it w15 s7=>?_⟩;have s7:St w0 w15 (Sep [yO r4 it l4 [],mapA r3 [],ai r2 lim.vs.toArray 44,ai r1 x.cells.toArray 81,B]):=s7;refine⟨λ w16 m=>∃ (S l' : List KV),m=l4.length-S.length/\(∀ p∈S,p∈l4)/\cq lim l' (bp lim zW (S.map (Lq x.v)))/\St w0 w16 (Sep [yO r4 it l4 S,mapA r3 l',ai r2 lim.vs.toArray 44,ai r1 x.cells.toArray 81,B]),⟨_,[],[],rfl,by simp,cq.nil lim,s7⟩,?_⟩;rintro w16 m ⟨S,l',rfl,hS,hr,s8⟩ -;refine oR s8 (λ hend=>⟨r3,l',rfl,?_,?_⟩) (λ p hp hlen2 w18 s9=>?_)
  ·rw[eF,Rf,<- dU (Q:=S.map (Lq x.v)) λ q=>?_]; exact hr;have e2:∀ q,q∈l4<->q∈Af (lV lim y):=λ q=>hr4.Af hn4 q;rw[List.mem_map,List.mem_map];exact⟨λ ⟨a,ha,h⟩=>⟨a,(e2 a).1 (hS a ha),h⟩,λ ⟨a,ha,h⟩=>⟨a,hend a ((e2 a).2 ha),h⟩⟩
  ·have t:St w0 w16 (Sep [mapA r4 l4,mapA r3 l',ai r2 lim.vs.toArray 44,ai r1 x.cells.toArray 81,B]):=St.yP s8;exact(t.av [1,4]).pair
  ·have s9:St w0 w18 (Sep [yO r4 it l4 (S++[p]),mapA r3 l',ai r2 lim.vs.toArray 44,ai r1 x.cells.toArray 81,B]):=s9;have hkp:=hr4.key hn4 hp;refine s9.ax z6.vs.toArray λ b4 w19 s10=>s10.az 0 rfl p.1.vs rfl (I6.one _) λ w20 s11=>?_;refine⟨lim,s11.cellsIn 3 rfl,p.1,s11.cellsIn 0 rfl,_,s11.ag 4 rfl 7,ak (lR (s11.out 2 rfl) hr hl (b:=(Lq x.v p).1) (su hkp.1 (by omega)) (Lq x.v p).2) ?_⟩;rintro v w22 ⟨rfl,l'',hr2,s14⟩;have s15:=(s14.back (show 2<6 by decide)).av [1,2,3,4,5];refine⟨rfl,_,?_,S++[p],l'',rfl,?_,?_,s15⟩
   ·rw[List.length_append,List.length_singleton]; omega
   ·intro q hq;rcases List.mem_append.1 hq with hq|hq
    ·exact hS q hq
    ·rw[List.mem_singleton.1 hq]; exact hp
   ·rw[List.map_append,List.map_singleton,<- gJ]; exact hr2
 ·rw[if_neg h5] at eF;exact cF (by simpa using h5) ⟨r3,[],rfl,by rw[eF]; exact cq.nil lim,fin s3⟩
end
abbrev tU (a:OA) (c:Nat) (l:List Int):aC:=bR 2 1 i1 a c l
def TL(T:List Int)(i k:Nat):List Int:=T.set i (if T.getD k 0>T.getD i 0 then T.getD k 0 else T.getD i 0)
theorem PB(T:List Int)(i k:Nat):(TL T i k).length=T.length:=by simp[TL]
section
variable {w0 w:World} {B:aC} {g r3 r5:Nat} {n:Nat} {T:List Int} {i k:Nat}
def Qj(g r3 r5 n i:Nat)(T:List Int)(B:aC):List aC:=[tU (some ⟨g,0,none⟩) n T,ai r3 #[.slice (some ⟨g,0,none⟩) n n] 190,ai r5 #[iv i] 3,B]
theorem Ic(s:St w0 w (Sep (Qj g r3 r5 n i T B)))(hk:k<T.length):w.cell? (Addr.add ⟨g,0,none⟩ (((k:Nat):Int).toNat*1))=some (iv (T.getD k 0)):=by
 obtain⟨q,hq,hc⟩:=fK (St.rd cR (s.out 0 rfl)) (i:=k) (x:=T.getD k 0) (by rw[List.getD_eq_getElem?_getD,gE hk]; rfl)
 cases hq; exact hc
theorem Sd(s:St w0 w (Sep (Qj g r3 r5 n i T B)))(hn:T.length=n)(hi:i<n)(hk:k<n) :
  CP 223 #[iv k,pt r3,pt r5] w (λ r w'=>r=.tuple #[]/\St w0 w' (Sep (Qj g r3 r5 n i (TL T i k) B))):=by
 refine pP ?_;unfold j9;have s1:=s.quiet (ay.drew w []);have c0:w.drew.cell? ⟨r3,0,none⟩=some (.slice (some ⟨g,0,none⟩) n n):=s1.ag 1 rfl 0;have c1:w.drew.cell? ⟨r5,0,none⟩=some (iv i):=s1.ag 2 rfl 0;refine⟨_,_,_,c0,_,c1,_,_,_,c0,_,c1,aj rfl ⟨by omega,by omega,_,Ic s1 (by omega),_,_,_,c0,aj rfl ⟨by omega,by omega,_,Ic s1 (by omega),aj rfl ⟨by omega,by omega,?_⟩⟩⟩⟩;rw[Int.toNat_natCast];exact St.jf (v:=iv) rfl (s1.out 0 rfl) (i:=i) (by omega) λ w2 s2=>⟨rfl,s2.back (show 0<4 by decide)⟩
def vw(m:I6):Nat->Int
 | 0=>1
 | j+1=>vw m j*(m.at' (5-j)+1)
theorem zO{m:I6}(h:I6.Le m 4):∀ j,j<=6->1<=vw m j/\vw m j<=5 ^ j
 | 0,_=>by show(1:Int)<=1/\(1:Int)<=5 ^ 0; decide
 | j+1,hj=>by
  have ih:=zO h j (by omega);have hm:=h (5-j) (by omega);have h1:vw m j*1<=vw m j*(m.at' (5-j)+1):=Int.mul_le_mul_of_nonneg_left (by omega) (by omega);have h2:vw m j*(m.at' (5-j)+1)<=vw m j*5:=Int.mul_le_mul_of_nonneg_left (by omega) (by omega);show 1<=vw m j*_/\vw m j*_<=5 ^ j*5;omega
def rq(m u:I6)(i:Nat):Nat->List Int->List Int
 | 0,T=>T
 | j+1,T=>if 0<u.at' (5-j) then TL (rq m u i j T) i (i-(vw m j).toNat) else rq m u i j T
theorem sD(m u:I6)(i:Nat)(T:List Int):∀ j,(rq m u i j T).length=T.length
 | 0=>rfl
 | j+1=>by
  rw[rq]
  split
  ·rw[PB,sD m u i T j]
  ·exact sD m u i T j
theorem Nh{m u:I6}(hm:I6.Le m 4)(s:St w0 w (Sep (Qj g r3 r5 n i T B)))(hn:T.length=n)(hi:i<n)(hu:∀ j,j<6->0<u.at' (5-j)->vw m j<=i)(h9:n<=100000) :
  CP 222 #[.agg m.vs.toArray,.agg u.vs.toArray,iv i,.func (.func 223) #[] #[pt r3,pt r5]] w (λ r w'=>r=.tuple #[]/\St w0 w' (Sep (Qj g r3 r5 n i (rq m u i 6 T) B))):=by
 refine rY ?_;unfold nC;refine s.ax m.vs.toArray λ r1 w1 s1=>s1.ax u.vs.toArray λ r2 w2 s2=>?_;let M:List Int->List aC:=λ T=>ai r2 u.vs.toArray 44 :: ai r1 m.vs.toArray 44 :: Qj g r3 r5 n i T B;refine⟨λ st k w3 x=>∃ j:Nat,st=vw m j/\k=5-(j:Int)/\j<=6/\x=6-j/\St w0 w3 (Sep (M (rq m u i j T))),⟨6,0,rfl,rfl,by omega,by omega,s2⟩,?_⟩;rintro w3 x st k ⟨j,rfl,rfl,hj,hx,s3⟩ -;have hb:=zO hm j hj;have h5:(5:Int) ^ j<=15625:=by
  have:j=0\/j=1\/j=2\/j=3\/j=4\/j=5\/j=6:=by omega
  rcases this with rfl|rfl|rfl|rfl|rfl|rfl|rfl<;>decide
 by_cases hj6:j<6
 ·have hk6:5-j<6:=by omega
  have ek:(5:Int)-(j:Int)=((5-j:Nat):Int):=by omega
  rw[ek];refine cT (dT (by omega)) ⟨λ w4=>St w0 w4 (Sep (M (rq m u i (j+1) T))),?_,by omega,by omega,u.at' (5-j),by rw[fm]; exact aI s3 0 rfl hk6,?_⟩
  ·rintro w4 s4 -;have hmk:=hm (5-j) hk6;have hb2:=zO hm (j+1) (by omega);have e2:vw m (j+1)=vw m j*(m.at' (5-j)+1):=rfl;have h52:(5:Int) ^ (j+1)<=15625:=by
    have:j=0\/j=1\/j=2\/j=3\/j=4\/j=5:=by omega
    rcases this with rfl|rfl|rfl|rfl|rfl|rfl<;>decide
   refine⟨by omega,by omega,m.at' (5-j),by rw[fm]; exact aI s4 1 rfl hk6,6-(j+1),by omega,j+1,?_,?_,by omega,rfl,s4⟩
   ·rw[aB (n:=m.at' (5-j)+1) ⟨by omega,by omega⟩,<- e2,aB ⟨by omega,by omega⟩]
   ·rw[aB ⟨by omega,by omega⟩]; omega
  ·by_cases hp:0<u.at' (5-j)
   ·have hs:=hu j hj6 hp;have e3:rq m u i (j+1) T=TL (rq m u i j T) i (i-(vw m j).toNat):=by rw[rq,if_pos hp]
    have e4:IntKind.i64.wrap ((i:Int)-vw m j)=((i-(vw m j).toNat:Nat):Int):=by rw[aB ⟨by omega,by omega⟩]; omega
    refine cT (dT hp) (bx (by kernel_rfl) ?_);rw[e4];have s4:St w0 w3 (Sep (Qj g r3 r5 n i (rq m u i j T) (Sep [B,ai r2 u.vs.toArray 44,ai r1 m.vs.toArray 44]))):=((s3.av [2,3,4,5,0,1]).split [_,_,_]).eqv (bf.right (bf.unit _)) |> St.cat;refine ak (Sd s4 (by rw[sD,hn]) hi (by omega)) ?_;rintro v w5 ⟨rfl,s5⟩;refine⟨rfl,?_⟩;rw[e3];have s6:=s5.dw [_,_,_];exact s6.av [4,5,0,1,2,3]
   ·have e3:rq m u i (j+1) T=rq m u i j T:=by rw[rq,if_neg hp]
    exact cF (dF hp) (by rw[e3]; exact s3)
 ·obtain rfl:j=6:=by omega
  exact cF (dF (by decide)) ⟨rfl,s3.av [2,3,4,5]⟩
end
def IK(_ u:I6)(k:Nat):I6:=u.put k (u.at' k-1)
def FA(m u:I6)(T:List Int):Nat->Int
 | 0=>-1
 | k+1=>if u.at' k=0 then FA m u T k else if T.getD (rk m (IK m u k)).toNat 0>FA m u T k then T.getD (rk m (IK m u k)).toNat 0 else FA m u T k
theorem Q6{m u:I6}(h:AI m u){k:Nat}(hk:k<6)(h0:u.at' k≠0):AI m (IK m u k):=⟨h.mm,λ j hj=>by
 have h1:=h.u j hj; have h2:=h.u k hk;unfold IK;rw[I6.rP _ _ _ _ hk hj]
 split
 ·rename_i e; subst e; omega
 ·exact h1⟩
theorem KK{w:World}{m u:I6}(h:AI m u)(hp:pr m.l<=1024){a:OA}{c:Nat}{T:List Int}(hr:cG 1 i1 w a T)(hT:pr m.l=T.length) :
  CP 224 #[.agg m.vs.toArray,.agg u.vs.toArray,.slice a T.length c] w (λ r w'=>r=iv (FA m u T 6)/\ay w w' []):=by
 refine uP ?_;unfold qP;refine(St.start w).one.ax m.vs.toArray λ r1 w1 s1=>s1.ax u.vs.toArray λ r2 w2 s2=>⟨u,s2.cellsIn 0 rfl,?_⟩;refine⟨λ n i w3 x=>∃ k:Nat,i=k/\k<=6/\x=6-k/\n=FA m u T k/\St w w3 (Sep [ai r2 u.vs.toArray 44,ai r1 m.vs.toArray 44,emp]),⟨6,0,rfl,by omega,by omega,rfl,s2⟩,?_⟩;rintro w3 x n i ⟨k,rfl,hk,hx,rfl,s3⟩ -
 by_cases hlt:(k:Int)<6
 ·have hk' : k<6:=by omega
  refine cT (dT hlt) ⟨λ n w4=>n=FA m u T (k+1)/\St w w4 (Sep [ai r2 u.vs.toArray 44,ai r1 m.vs.toArray 44,emp]),?_,by omega,by omega,u.at' k,u.get k hk',?_⟩
  ·rintro w4 n ⟨rfl,s4⟩ -;exact⟨6-(k+1),by omega,k+1,inc (by decide) hk',by omega,rfl,rfl,s4⟩
  by_cases h0:u.at' k=0
  ·exact cT (by simpa using h0) ⟨by rw[FA,if_pos h0],s3⟩
  have hin:=Q6 h hk' h0;have hbd:=pq hin 6 (Nat.le_refl _);rw[<- rO] at hbd;have hu:=h.u k hk';have hmm:=h.mm k hk';have e1:FA m u T (k+1)=if T.getD (rk m (IK m u k)).toNat 0>FA m u T k then T.getD (rk m (IK m u k)).toNat 0 else FA m u T k:=by rw[FA,if_neg h0]
  refine cF (by simpa using h0) ⟨u,s3.cellsIn 0 rfl,s3.ax z6.vs.toArray λ r3 w5 s5=>s5.az 0 rfl u.vs rfl (I6.one _) λ w6 s6=>⟨by omega,by omega,?_⟩⟩;rw[fm,aB ⟨by omega,by omega⟩];refine s6.aK 0 rfl hk' rfl λ w7 s7=>?_;rw[I6.mG _ _ _ hk'] at s7;refine⟨m,s7.cellsIn 2 rfl,IK m u k,s7.cellsIn 0 rfl,ak (RF w7 m (IK m u k)) ?_⟩;rintro v w8 ⟨⟨n,e,rfl,he,hn⟩,c8⟩;obtain rfl:=he.2 ⟨hp,hin⟩;obtain rfl:=hn rfl;have s8:=(s7.quiet c8).av [1,2,3];obtain⟨j,hj⟩:=Int.eq_ofNat_of_zero_le hbd.1;have hjT:j<T.length:=by omega
  obtain⟨q,hq,hcl⟩:=fK (hr.au s8.au) (i:=j) (x:=T.getD j 0) (by rw[List.getD_eq_getElem?_getD,gE hjT]; rfl);refine⟨_,_,rfl,cT rfl (aj hq ⟨by show 0<=eZ m (IK m u k) 6; omega,by show eZ m (IK m u k) 6<_; omega,T.getD j 0,?_,?_,s8⟩)⟩
  ·show w8.cell? (Addr.add q ((eZ m (IK m u k) 6).toNat*1))=_;rw[hj,Int.toNat_natCast]; exact hcl
  ·rw[e1];show _=if T.getD (eZ m (IK m u k) 6).toNat 0>_ then T.getD (eZ m (IK m u k) 6).toNat 0 else _
   rw[hj,Int.toNat_natCast]
 ·obtain rfl:k=6:=by omega
  exact cF (by simp) ⟨rfl,s3.au⟩
structure Of where
 b:Int
 want:I6
 v:Int
def Of.cells(o:Of):List Value:=iv o.b :: o.want.on [iv o.v]
theorem Of.len(o:Of):o.cells.length=8:=rfl
def y9(o:Of):Bool:=o.want.l.all eY&&(decide (o.want≠z6)&&(decide (1<=o.v)&&decide (o.v<=1000000)))
theorem Jf(w:World)(o:Of):CP 127 #[.agg o.cells.toArray] w (λ r w'=>r=.bool (y9 o)/\ay w w' []):=by
 refine wZ (u1:=o.want) ?_;unfold tP;refine(St.start w).one.ax o.cells.toArray λ r1 w1 s1=>⟨o.want,s1.aF 0 1 rfl rfl,ak (bN w1 o.want) ?_⟩;rintro v w2 ⟨rfl,c2⟩;have s2:=s1.quiet c2;refine⟨_,rfl,?_⟩
 cases hq:o.want.l.all eY with
 | false=>exact cF rfl ⟨by rw[y9,hq]; rfl,s2.au⟩
 | true =>
  have e1:y9 o=(decide (o.want≠z6)&&(decide (1<=o.v)&&decide (o.v<=1000000))):=by rw[y9,hq]; rfl
  refine cT rfl ⟨o.want,s2.aF 0 1 rfl rfl,?_⟩;rw[I6.beq_eq]
  by_cases hz:o.want=z6
  ·exact cF (by rw[dT hz]; rfl) ⟨by rw[e1,dF (λ h=>h hz)]; rfl,s2.au⟩
  ·rw[dT hz,Bool.true_and] at e1;refine cT (by rw[dF hz]; rfl) ⟨_,s2.ag 0 rfl 7,?_⟩
   by_cases g1:1<=o.v
   ·rw[dT g1,Bool.true_and] at e1;exact cT (dT g1) ⟨_,s2.ag 0 rfl 7,by rw[e1],s2.au⟩
   ·exact cF (dF g1) ⟨by rw[e1,dF g1]; rfl,s2.au⟩
end Go.Proofs.YtbnolaiklhbkkaaGreatDoor
namespace Go.Vc
open Go
theorem ve{P:Program}{gf:FuncId}{lb:List Value}{rec:FuncId->Nat->Loop}{w0 w:World}{N R:World->Prop}{X:List (Nat×(World->Prop))}{L:List aC}(s:St w0 w (Sep L))(hp:∀ fn D,(rec fn D).pending=none/\(rec fn D).state=.ready) (k:∀ fn l w1,St w0 w1 (Sep (aY l (.loop (rec fn w.heap.size)) :: aY w.heap.size (.deferred (some [])) :: L)) ->
   Calls P gf (Value.func (.yield l) #[] #[] :: lb).toArray w1 (xV λ _ w2=>∃ L',St w0 w2 (Sep (aY l (.loop (rec fn w.heap.size)) :: L'))/\∀ w3,St w0 w3 (Sep L')->N w3)):zn P gf lb rec w N R X:=by
 intro fn;have s1:=s.Ru (.deferred (some []));have hD:(w.alloc (.deferred (some []))).heap.size=w.heap.size+1:=by rw[World.size_alloc]
 have s2:=s1.Ru (.loop (rec fn w.heap.size));rw[hD] at s2;refine(k fn _ _ s2).mono λ e w2 ⟨v,he,L',s3,hN⟩=>⟨⟨v,he⟩,_,s3.hU 0 rfl,?_,?_⟩
 ·rw[(hp fn _).2]; intro h; cases h
 ·rw[(hp fn _).1];exact hN _ ((s3.putAt 0 rfl _).second)
end Go.Vc
namespace Go.Proofs.YtbnolaiklhbkkaaGreatDoor
open Go Go.Vc _root_.Go.Proofs.Tryz
theorem Mw{m u:I6}(h:AI m u):∀ j,j<=6->eZ m u (6-j)*vw m j<=eZ m u 6
 | 0,_=>by show eZ m u 6*1<=_; omega
 | j+1,hj=>by
  have ih:=Mw h j (by omega);rw[show 6-j=(5-j)+1 by omega] at ih;have hs:=zO h.mm j (by omega);have hu:=h.u (5-j) (by omega);have e2:eZ m u (5-j+1)=eZ m u (5-j)*(m.at' (5-j)+1)+u.at' (5-j):=rfl;rw[e2,Int.add_mul] at ih;have h1:0<=u.at' (5-j)*vw m j:=Int.mul_nonneg hu.1 (by omega);rw[show 6-(j+1)=5-j by omega];have e3:eZ m u (5-j)*vw m (j+1)=eZ m u (5-j)*(m.at' (5-j)+1)*vw m j:=by
   show eZ m u (5-j)*(vw m j*(m.at' (5-j)+1))=_;rw[Int.mul_comm (vw m j),Int.mul_assoc]
  rw[e3]; omega
theorem R5{m u:I6}(h:AI m u){j:Nat}(hj:j<6)(hp:0<u.at' (5-j)):vw m j<=rk m u:=by
 have h1:=Mw h j (by omega);rw[show 6-j=(5-j)+1 by omega] at h1;have e2:eZ m u (5-j+1)=eZ m u (5-j)*(m.at' (5-j)+1)+u.at' (5-j):=rfl;have h2:=(pq h (5-j) (by omega)).1;have hm:=h.mm (5-j) (by omega);have hs:=zO h.mm j (by omega);have h3:1<=eZ m u (5-j+1):=by
  rw[e2];have:=Int.mul_nonneg h2 (show 0<=m.at' (5-j)+1 by omega);omega
 have h4:1*vw m j<=eZ m u (5-j+1)*vw m j:=Int.mul_le_mul_of_nonneg_right h3 (by omega);show vw m j<=eZ m u 6;omega
def EY(m:I6)(F:Wf):Nat->List Int
 | 0=>List.replicate (aQ m) 0
 | i+1=>rq m (bI m i) i 6 ((EY m F i).set i (F (bI m i)))
theorem zQ(m:I6)(F:Wf):∀ i,(EY m F i).length=aQ m
 | 0=>List.length_replicate
 | i+1=>by rw[EY,sD,List.length_set,zQ m F i]
def MC(m:I6)(F:Wf):List Int:=EY m F (aQ m)
section
variable {w0 w:World} {B:aC} {m:I6} {g r2 r3 r4 r5 rm l D:Nat} {lp:Loop} {F:Wf} {lk:List KV}
def MB(m:I6)(F:Wf)(g r2 r3 r4 r5 rm:Nat)(lk:List KV)(B:aC)(i:Nat):List aC :=
 [tU (some ⟨g,0,none⟩) (aQ m) (EY m F i),ai r3 #[.slice (some ⟨g,0,none⟩) (aQ m) (aQ m)] 190,ai r5 #[iv i] 3,ai r4 #[.map (some rm)] 295,mapA rm lk,ai r2 m.vs.toArray 44,B]
theorem JI(hm:I6.Le m 4)(hr:cq m lk F){i:Nat}(hi:i<aQ m){Fr:aC}{n1:Int}{u1:I6}{n2:Int}{a1:OA}{l1:Nat}{c1:Nat}{u2:I6}{r1:Nat}{n3:Int}{u3:I6}{n4:Int}{a2:OA}{l2:Nat}{c2:Nat}{n5:Int}{u4:I6}{n6:Int}{u5:I6}{n7:Int}{x1:Nat->Value}{u6:I6}{v1:Value}{fn:FuncId}(hlp:lp=dx n1 u1 n2 a1 l1 c1 u2 r1 r2 n3 u3 n4 a2 l2 c2 n5 u4 n6 u5 n7 r3 r4 x1 r5 u6 v1 fn D)(h:St w0 w (star (Sep (aY l (.loop lp) :: MB m F g r2 r3 r4 r5 rm lk B i)) Fr)) :
  iC prog l #[.agg (bI m i).vs.toArray] w λ b w2=>b=true/\St w0 w2 (star (Sep (aY l (.loop lp) :: MB m F g r2 r3 r4 r5 rm lk B (i+1))) Fr):=by
 have hc:=jH hm;have hl:=zQ m F i;have s:St w0 w (Sep (aY l (.loop lp) :: MB m F g r2 r3 r4 r5 rm lk B i++[Fr])):=h.open;refine jv (n1:=n1) (u1:=u1) (n2:=n2) (a1:=a1) (l1:=l1) (c1:=c1) (u2:=u2) (r1:=r1) (r2:=r2) (n3:=n3) (u3:=u3) (n4:=n4) (a2:=a2) (l2:=l2) (c2:=c2) (n5:=n5) (u4:=u4) (n6:=n6) (u5:=u5) (n7:=n7) (r3:=r3) (r4:=r4) (x1:=x1) (r5:=r5) (u6:=u6) (v1:=v1) (s.hU 0 rfl) (by rw[hlp]; rfl) (by rw[hlp]; rfl) (by rw[hlp]; rfl) (by rw[hlp]; rfl) ?_;unfold fe;have hst:lp.state=.ready:=by rw[hlp]; rfl
 have hpd:({ ({ lp with state:=.busy }:Loop) with state:=.ready,pending:=none }:Loop)=lp:=by rw[hlp]; rfl
 clear hlp;refine s.ax z6.vs.toArray λ r6 w1 s1=>s1.az 0 rfl (bI m i).vs rfl (I6.one _) λ w2 s2=>?_;have s2:St w0 w2 (Sep (ai r6 (bI m i).vs.toArray 44 :: aY l (.loop lp) :: MB m F g r2 r3 r4 r5 rm lk B i++[Fr])):=s2;refine⟨lp,s2.hU 1 rfl,hst,?_⟩;have s3:=(s2.putAt 1 rfl (.loop { lp with state:=.busy })).quiet (ay.drew _ []);refine⟨_,_,_,s3.ag 3 rfl 0,_,s3.ag 4 rfl 0,_,s3.ag 5 rfl 0,_,s3.cellsIn 0 rfl,?_⟩;refine Ef P3 (s3.out 6 rfl) (bI m i) ?_;rw[hr.get];refine⟨s3.ag 4 rfl 0,s3.ag 3 rfl 0,aj rfl ⟨by omega,by omega,?_⟩⟩;rw[Int.toNat_natCast];refine St.jf (v:=iv) rfl (s3.out 2 rfl) (i:=i) (by omega) λ w4 s4=>?_;have s4:St w0 w4 (Sep (ai r6 (bI m i).vs.toArray 44 :: aY l (.loop { lp with state:=.busy }) :: tU (some ⟨g,0,none⟩) (aQ m) ((EY m F i).set i (F (bI m i))) :: ai r3 #[.slice (some ⟨g,0,none⟩) (aQ m) (aQ m)] 190 :: ai r5 #[iv i] 3 :: ai r4 #[.map (some rm)] 295 :: mapA rm lk :: ai r2 m.vs.toArray 44 :: B :: [Fr])):=s4.back (i:=2) (by show 2<10; decide);refine⟨_,s4.cellsIn 7 rfl,_,s4.cellsIn 0 rfl,_,s4.ag 4 rfl 0,?_⟩;have s5:St w0 w4 (Sep (Qj g r3 r5 (aQ m) i ((EY m F i).set i (F (bI m i))) (Sep [ai r6 (bI m i).vs.toArray 44,aY l (.loop { lp with state:=.busy }),ai r4 #[.map (some rm)] 295,mapA rm lk,ai r2 m.vs.toArray 44,B,Fr]))) :=
  ((s4.av [2,3,4,0,1,5,6,7,8,9]).split [_,_,_]).eqv (bf.right (bf.unit _)) |> St.cat
 refine ak (Nh hm s5 (by rw[List.length_set,hl]) hi (λ j hj hp=>?_) (by omega)) ?_
 ·have:=R5 (fI hm i) hj hp;rw[xB hm i hi] at this;exact this
 rintro v w5 ⟨rfl,s6⟩;have s7:St w0 w5 (Sep ([tU (some ⟨g,0,none⟩) (aQ m) (EY m F (i+1)),ai r3 #[.slice (some ⟨g,0,none⟩) (aQ m) (aQ m)] 190,ai r5 #[iv i] 3]++[ai r6 (bI m i).vs.toArray 44,aY l (.loop { lp with state:=.busy }),ai r4 #[.map (some rm)] 295,mapA rm lk,ai r2 m.vs.toArray 44,B,Fr])):=s6.dw [_,_,_];refine⟨rfl,_,s7.ag 2 rfl 0,s7.aK 2 rfl (by show 0<1; decide) rfl λ w6 s8=>⟨_,s8.hU 4 rfl,rfl,?_⟩⟩;have s9:=s8.putAt 4 rfl (.loop lp);rw[aB (n:=(i:Int)+1) ⟨by omega,by omega⟩] at s9;rw[hpd];exact(s9.av [4,0,1,2,5,6,7,8,9]).shut
end
set_option maxHeartbeats 4000000 in
theorem Pw{w:World}{x:Xv}{m:I6}(hm:I6.Le m 4)(hp:pr m.l<=1024)(hz:aO x<=100000)(hx:x.In w) :
  CP 188 #[.agg x.cells.toArray,.agg m.vs.toArray] w (λ r w'=>(dR x≠0/\r=.tuple #[.slice none 0 0,iv (dR x)]/\ay w w' [])\/(dR x=0/\∃ g,r=.tuple #[.slice (some ⟨g,0,none⟩) (aQ m) (aQ m),iv 0]/\St w w' (Sep [tU (some ⟨g,0,none⟩) (aQ m) (MC m (lV m x))]))):=by
 refine rX (u1:=x.u) ?_;unfold nA;refine(St.start w).one.ax x.cells.toArray λ r1 w1 s1=>s1.ax m.vs.toArray λ r2 w2 s2=>?_;have hxI:∀ {w'},ay w w' []->x.In w':=λ hc=>hx.au hc;refine⟨_,x.u,_,_,_,_,s2.cellsIn 1 rfl,ak (E7 hz (hxI s2.au)) ?_⟩;rintro v w3 ⟨rfl,c3⟩;have s3:=s2.quiet c3;refine⟨_,rfl,?_⟩
 by_cases hk:dR x=0
 ·refine cF (by simpa using hk) ⟨m,s3.cellsIn 0 rfl,ak (bN w3 m) ?_⟩;rintro v w4 ⟨rfl,c4⟩;have s4:=s3.quiet c4;rw[if_pos (leq hm)];refine⟨_,rfl,cF rfl ⟨m,s4.cellsIn 0 rfl,ak (xC w4 m) ?_⟩⟩;rintro v w5 ⟨rfl,c5⟩;have s5:=s4.quiet c5;rw[if_pos ⟨leq hm,hp⟩];have hc:=jH hm;refine⟨_,rfl,cF (by simp; omega) ?_⟩;rw[<- hc.2.1];let A:List aC:=[ai r2 m.vs.toArray 44,ai r1 x.cells.toArray 81,emp];refine⟨λ r3 r4 w6=>∃ g rm lk,cq m lk (lV m x)/\St w w6 (Sep (tU (some ⟨g,0,none⟩) (aQ m) (List.replicate (aQ m) 0) :: mapA rm lk :: ai r3 #[.slice (some ⟨g,0,none⟩) (aQ m) (aQ m)] 190 :: ai r4 #[.map (some rm)] 295 :: A)),?_,?_⟩
  ·rintro w6 r3 r4 ⟨g,rm,lk,hr,s6⟩ x1;refine s6.ax #[iv 0] λ r5 w7 s7=>s7.aK 0 rfl (by decide) rfl λ w8 s8=>⟨m,s8.cellsIn 5 rfl,ak (J4 s8 m hm hp) ?_⟩;rintro v w9 ⟨b,rfl,s9⟩;refine⟨_,rfl,vg (by kernel_rfl) ?_⟩;have s9:St w w9 (Sep (ai b m.vs.toArray 44 :: ai r5 #[iv 0] 3 :: tU (some ⟨g,0,none⟩) (aQ m) (List.replicate (aQ m) 0) :: mapA rm lk :: ai r3 #[.slice (some ⟨g,0,none⟩) (aQ m) (aQ m)] 190 :: ai r4 #[.map (some rm)] 295 :: A)):=s9;refine ve s9 (λ _ _=>⟨rfl,rfl⟩) λ fn l w10 s10=>?_;have s11:=(s10.av [0,4,6,3,7,5,8,1,2]).split [_,_,_,_,_,_,_,_];refine ak (B4 hm (R:=λ i=>Sep (aY l (.loop _) :: MB m (lV m x) g r2 r3 r4 r5 rm lk (aY w9.heap.size (.deferred (some []))) i)) (λ i w1 Fr hi h=>JI (B:=aY w9.heap.size (.deferred (some []))) (D:=w9.heap.size) hm hr hi rfl h) s11) ?_;rintro v w11 ⟨rfl,s12⟩;refine⟨_,rfl,_,s12.first,λ w12 s13=>⟨_,_,_,s13.ag 1 rfl 0,s13.hU 6 rfl,.inr ⟨hk,g,rfl,?_⟩⟩⟩;exact(s13.putAt 6 rfl (.deferred none)).av [0]
  ·have s6:=s5.quiet (ay.drew w5 []);refine⟨_,x.u,_,_,_,_,s6.cellsIn 1 rfl,m,s6.cellsIn 0 rfl,?_⟩;have h:St w w5.drew (Sep (emp :: emp :: emp :: emp :: A)):=s6.av [3,3,3,3,0,1,2];have opR:∀ {c2 c3 c4:aC} {w' : World} {R:Option Addr->Nat->Nat->World->Prop},St w w' (Sep (emp :: c2 :: c3 :: c4 :: A))->(∀ g w'',St w w'' (Sep (tU (some ⟨g,0,none⟩) (aQ m) (List.replicate (aQ m) 0) :: c2 :: c3 :: c4 :: A))->R (some ⟨g,0,none⟩) (aQ m) (aQ m) w'') ->
     aV prog (Instr.makeSlice 190 (iv (aQ m:Nat)) (iv (aQ m:Nat))) w' λ e w1=>∃ a l c,e=.slice a l c/\R a l c w1:=by
    intro c2 c3 c4 w' R s k;refine cV Pf cR (x:=0) rfl s (n:=aQ m) (by omega) (by omega) λ g w'' _ s'=>?_;have s2:St w w'' (Sep (tU (some ⟨g,0,none⟩) (aQ m) (List.replicate (aQ m) 0) :: emp :: c2 :: c3 :: c4 :: A)):=s';exact k g w'' (s2.av [0,2,3,4,5,6,7])
   have opO:∀ {c1 c3 c4:aC} {w' : World} {R:Option Nat->World->Prop},St w w' (Sep (c1 :: emp :: c3 :: c4 :: A))->(∀ rm lk w'',cq m lk (lV m x)->St w w'' (Sep (c1 :: mapA rm lk :: c3 :: c4 :: A))->R (some rm) w'') ->
     CC 221 #[.agg (iv x.op :: x.u.on [iv x.v,.slice x.a x.args.length x.c]:List Value).toArray,.agg m.vs.toArray] w' λ e w1=>∃ m1:Option Nat,e=.returned (.map m1)/\R m1 w1:=by
    intro c1 c3 c4 w' R s k;refine ak (Ul hm x (KX hk) hz w _ _ hxI s) ?_;rintro v w'' ⟨rm,lk,rfl,hr,s'⟩;have s2:St w w'' (Sep (mapA rm lk :: c1 :: emp :: c3 :: c4 :: A)):=s';exact⟨_,rfl,k rm lk w'' hr (s2.av [1,0,3,4,5,6,7])⟩
   have opS:∀ {c1 c2 c4:aC} {w' : World} {R:Nat->World->Prop},St w w' (Sep (c1 :: c2 :: emp :: c4 :: A))->(∀ r w'',St w w'' (Sep (c1 :: c2 :: ai r #[.slice none 0 0] 190 :: c4 :: A))->R r w'')->aq w' (.cells #[.slice none 0 0] 190) R:=by
    intro c1 c2 c4 w' R s k;exact s.ax _ λ r w'' s'=>k r w'' (s'.av [1,2,0,4,5,6,7])
   have opM:∀ {c1 c2 c3:aC} {w' : World} {R:Nat->World->Prop},St w w' (Sep (c1 :: c2 :: c3 :: emp :: A))->(∀ r w'',St w w'' (Sep (c1 :: c2 :: c3 :: ai r #[.map none] 295 :: A))->R r w'')->aq w' (.cells #[.map none] 295) R:=by
    intro c1 c2 c3 w' R s k;exact s.ax _ λ r w'' s'=>k r w'' (s'.av [1,2,3,0,5,6,7])
   have stS:∀ {c1 c2 c4:aC} {r:Nat} {v:Value} {w' : World} {R:World->Prop},v.oneCell' = true->St w w' (Sep (c1 :: c2 :: ai r #[.slice none 0 0] 190 :: c4 :: A))->(∀ w'',St w w'' (Sep (c1 :: c2 :: ai r #[v] 190 :: c4 :: A))->R w'')->aP w' ⟨r,0,none⟩ v R:=by
    intro c1 c2 c4 r v w' R h1 s k;exact s.aK 2 rfl (by show 0<1; decide) h1 k
   have stM:∀ {c1 c2 c3:aC} {r:Nat} {v:Value} {w' : World} {R:World->Prop},v.oneCell' = true->St w w' (Sep (c1 :: c2 :: c3 :: ai r #[.map none] 295 :: A))->(∀ w'',St w w'' (Sep (c1 :: c2 :: c3 :: ai r #[v] 295 :: A))->R w'')->aP w' ⟨r,0,none⟩ v R:=by
    intro c1 c2 c3 r v w' R h1 s k;exact s.aK 3 rfl (by show 0<1; decide) h1 k
   have opC:∀ {c1 c2 c3 c4:aC} {w' : World} {Q:Prop},St w w' (Sep (c1 :: c2 :: c3 :: c4 :: A))->Q->af w' ⟨r2,0,none⟩ 0 m.vs/\af w' ⟨r1,0,none⟩ 0 (iv x.op :: x.u.on [iv x.v,.slice x.a x.args.length x.c])/\Q:=λ s k=>⟨s.cellsIn 4 rfl,s.cellsIn 5 rfl,k⟩;clear s1 s2 s3 s4 s5 s6 c3 c4 c5
   repeat' (with_reducible first
    | refine opR h λ g w1 h=>?_
    | refine opO h λ rm lk w1 hr h=>?_
    | refine opS h λ r w1 h=>?_
    | refine opM h λ r w1 h=>?_
    | refine stS rfl h λ w1 h=>?_
    | refine stM rfl h λ w1 h=>?_
    | refine opC h ?_
    | exact⟨_,_,_,hr,h⟩
    | refine⟨?_,?_⟩)
 ·exact cT (by simpa using hk) (.inl ⟨hk,rfl,s3.au⟩)
def wN(q:I6)(v:Int)(c:Ch):Int:=if c.want=q then (if cost c.p q>v then cost c.p q else v) else v
def Ci(q:I6)(v:Int)(x:Of):Int:=if x.want=q then (if x.v>v then x.v else v) else v
def KL(l:List Ch)(bids:List Of)(q:I6):Int:=bids.foldl (Ci q) (l.foldl (wN q) 0)
abbrev Fa (w:World) (a:OA) (l:List Of):Prop:=cG 8 Of.cells w a l
theorem Of.one(o:Of):∀ v∈o.cells,v.oneCell' = true:=by
 intro v hv; simp[Of.cells,I6.on] at hv; rcases hv with rfl|rfl|rfl|rfl|rfl|rfl|rfl|rfl<;>rfl
def PG:Of:=⟨0,z6,0⟩
theorem NX{w:World}{a1 a2:OA}{c1 c2 b1 b2:Nat}{l:List Ch}{bids:List Of}(hr:Dm w a1 l)(hl:l.length<=1000)(ho:∀ c∈l,c.Ok)(hb:Fa w a2 bids)(hbl:bids.length<=100000)(e1:w.cell? ⟨b1,0,none⟩=some (.slice a1 l.length c1))(e2:w.cell? ⟨b2,0,none⟩=some (.slice a2 bids.length c2))(q:I6) :
  CP 166 #[.agg q.vs.toArray,pt b1,pt b2] w (λ r w'=>r=iv (KL l bids q)/\ay w w' []):=by
 refine rQ ?_;unfold nk;refine(St.start w).one.ax q.vs.toArray λ r1 w1 s1=>⟨_,_,_,bO e1 s1.au,?_⟩;let M:List aC:=[ai r1 q.vs.toArray 44,emp];refine⟨λ n i w2 m=>∃ k:Nat,i=k/\k<=l.length/\m=l.length-k/\n=(l.take k).foldl (wN q) 0/\St w w2 (Sep M),⟨l.length,0,rfl,by omega,by omega,rfl,s1⟩,?_⟩;rintro w2 m n i ⟨k,rfl,hk,hm,rfl,s2⟩ -
 by_cases hlt:(k:Int)<(l.length:Int)
 ·have hx:l[k]?=some (l[k]'(by omega)):=gE (by omega);generalize l[k]'(by omega)=y at hx;obtain⟨p,hp,hcl⟩:=(hr.au s2.au).at hx;have ef:=pY (f:=wN q) (a:=0) hx;refine cT (dT hlt) ⟨λ n w3=>n=(l.take (k+1)).foldl (wN q) 0/\St w w3 (Sep M),?_,aj hp ⟨by omega,by omega,y.p,y.want,hcl,s2.ax nD.cells.toArray λ r2 w4 s4=>s4.az 0 rfl y.cells rfl y.one λ w5 s5=>⟨y.want,bY s5 0 rfl,q,s5.cellsIn 1 rfl,?_⟩⟩⟩
  ·rintro w3 n ⟨rfl,s3⟩ -;exact⟨l.length-(k+1),by omega,k+1,aB ⟨by omega,by omega⟩,by omega,rfl,rfl,s3⟩
  rw[I6.beq_eq]
  by_cases hw:y.want=q
  ·have oy:=ho y (List.mem_of_getElem? hx);refine cT (dT hw) ⟨y.p,wF s5 0 rfl,q,s5.cellsIn 1 rfl,ak (gr w5 oy.p (by rw[<- hw]; exact oy.w)) ?_⟩;rintro v w6 ⟨rfl,c6⟩;exact⟨_,rfl,by rw[ef,wN,if_pos hw],(s5.quiet c6).av [1,2]⟩
  ·exact cF (dF hw) ⟨by rw[ef,wN,if_neg hw],s5.av [1,2]⟩
 ·obtain rfl:l.length=k:=by omega
  rw[List.take_length];refine cF (dF hlt) ⟨_,_,_,bO e2 s2.au,?_⟩;refine⟨λ n i w2 m=>∃ k:Nat,i=k/\k<=bids.length/\m=bids.length-k/\n=(bids.take k).foldl (Ci q) (l.foldl (wN q) 0)/\St w w2 (Sep M),⟨bids.length,0,rfl,by omega,by omega,rfl,s2⟩,?_⟩;clear hm hk hlt s2;rintro w7 m n i ⟨k,rfl,hk,hm,rfl,s2⟩ -
  by_cases hlt:(k:Int)<(bids.length:Int)
  ·have hx:bids[k]?=some (bids[k]'(by omega)):=gE (by omega);generalize bids[k]'(by omega)=y at hx;obtain⟨p,hp,hcl⟩:=(hb.au s2.au).at hx;have ef:=pY (f:=Ci q) (a:=l.foldl (wN q) 0) hx;refine cT (dT hlt) ⟨λ n w3=>n=(bids.take (k+1)).foldl (Ci q) (l.foldl (wN q) 0)/\St w w3 (Sep M),?_,aj hp ⟨by omega,by omega,_,y.want,_,hcl,s2.ax PG.cells.toArray λ r2 w4 s4=>s4.az 0 rfl y.cells rfl y.one λ w5 s5=>⟨y.want,s5.aF 0 1 rfl rfl,q,s5.cellsIn 1 rfl,?_⟩⟩⟩
   ·rintro w3 n ⟨rfl,s3⟩ -;exact⟨bids.length-(k+1),by omega,k+1,aB ⟨by omega,by omega⟩,by omega,rfl,rfl,s3⟩
   rw[I6.beq_eq]
   by_cases hw:y.want=q
   ·exact cT (dT hw) ⟨_,s5.ag 0 rfl 7,by rw[ef,Ci,if_pos hw],s5.av [1,2]⟩
   ·exact cF (dF hw) ⟨by rw[ef,Ci,if_neg hw],s5.av [1,2]⟩
  ·obtain rfl:bids.length=k:=by omega
   rw[List.take_length];exact cF (dF hlt) ⟨rfl,s2.au⟩
theorem Us:gV prog 62 68 (.agg PG.cells.toArray) 8 64:=gV.mk' underlying62 (by kernel_rfl) rfl (by decide)
abbrev vm (a:OA) (c:Nat) (l:List Of):aC:=bR 68 8 Of.cells a c l
theorem gR{α:Type}{sz:Nat}{f:α->List Value}{w:World}{r:Nat}{x:α}(h:af w ⟨r,0,none⟩ 0 (f x))(hf:(f x).length=sz):cG sz f w (some ⟨r,0,none⟩) [x]:=λ i y hy=>by
 match i,hy with
 | 0,rfl=>exact⟨_,_,rfl,by rw[bq]; simpa using h,hf,rfl⟩
mutual
def nQ(m:I6)(T:List Int):Nat->List Of
 | 0=>[]
 | i+1=>if 0<i/\T.getD i 0>FA m (bI m i) (js m T i) 6 then nQ m T i++[⟨0,bI m i,T.getD i 0⟩] else nQ m T i
def js(m:I6)(T:List Int):Nat->List Int
 | 0=>T
 | i+1=>(js m T i).set i (if FA m (bI m i) (js m T i) 6>(js m T i).getD i 0 then FA m (bI m i) (js m T i) 6 else (js m T i).getD i 0)
end
theorem Ej(m:I6)(T:List Int):∀ i,(js m T i).length=T.length
 | 0=>rfl
 | i+1=>by rw[js,List.length_set,Ej m T i]
theorem Ei(m:I6)(T:List Int):∀ i,(nQ m T i).length<=i
 | 0=>Nat.le_refl 0
 | i+1=>by
  have:=Ei m T i;rw[nQ]
  split
  ·rw[List.length_append,List.length_singleton]; omega
  ·omega
def yW(m:I6)(T:List Int):List Of:=nQ m T (aQ m)
section
variable {w0 w:World} {B:aC} {m:I6} {g r1 r2 r3 r4 r5 l D:Nat} {lp:Loop} {T:List Int} {a1:OA} {c1:Nat}
def Ot(m:I6)(T:List Int)(a1:OA)(c1 g r1 r2 r3 r4 r5:Nat)(B:aC)(a:OA)(c i:Nat)(out:List Of):List aC :=
 [tU (some ⟨g,0,none⟩) (aQ m) (js m T i),ai r3 #[.slice (some ⟨g,0,none⟩) (aQ m) (aQ m)] 190,vm a c out,ai r4 #[.slice a out.length c] 62,ai r5 #[iv i] 3,ai r1 #[.slice a1 (aQ m) c1] 190,ai r2 m.vs.toArray 44,B]
def Rl(m:I6)(T:List Int)(a1:OA)(c1 g r1 r2 r3 r4 r5 l:Nat)(lp:Loop)(B:aC)(i:Nat):aC :=
 QX λ (p:Option Addr×Nat)=>Sep (aY l (.loop lp) :: Ot m T a1 c1 g r1 r2 r3 r4 r5 B p.1 p.2 i (nQ m T i))
theorem I8(hm:I6.Le m 4)(hp:pr m.l<=1024)(hT:∀ {w'},ay w0 w' []->cG 1 i1 w' a1 T)(hl:T.length=aQ m){i:Nat}(hi:i<aQ m){Fr:aC}{a0:OA}{l0 c0:Nat}{u0:I6}{a2:OA}{l2:Nat}{c2:Nat}{a3:OA}{l3:Nat}{c3:Nat}{a4:OA}{l4:Nat}{c4:Nat}{a5:OA}{l5:Nat}{c5:Nat}{e1:Value}{u2:I6}{v1:Value}{fn:FuncId}(hlp:lp=dD a0 l0 c0 u0 r1 r2 a2 l2 c2 a3 l3 c3 r3 a4 l4 c4 a5 l5 c5 e1 r4 r5 u2 v1 fn D)(h:St w0 w (star (Rl m T a1 c1 g r1 r2 r3 r4 r5 l lp B i) Fr)) :
  iC prog l #[.agg (bI m i).vs.toArray] w λ b w2=>b=true/\St w0 w2 (star (Rl m T a1 c1 g r1 r2 r3 r4 r5 l lp B (i+1)) Fr):=by
 have hc:=jH hm;have hml:=(Ej m T i).trans hl;obtain⟨⟨a,c⟩,h⟩:=h.ex;have s:St w0 w (Sep (aY l (.loop lp) :: Ot m T a1 c1 g r1 r2 r3 r4 r5 B a c i (nQ m T i)++[Fr])):=h.open;refine kn (a1:=a0) (l1:=l0) (c1:=c0) (u1:=u0) (r1:=r1) (r2:=r2) (a2:=a2) (l2:=l2) (c2:=c2) (a3:=a3) (l3:=l3) (c3:=c3) (r3:=r3) (a4:=a4) (l4:=l4) (c4:=c4) (a5:=a5) (l5:=l5) (c5:=c5) (_e1:=e1) (r4:=r4) (r5:=r5) (u2:=u2) (v1:=v1) (s.hU 0 rfl) (by rw[hlp]; rfl) (by rw[hlp]; rfl) (by rw[hlp]; rfl) (by rw[hlp]; rfl) ?_;unfold fz;have hst:lp.state=.ready:=by rw[hlp]; rfl
 have hpd:({ ({ lp with state:=.busy }:Loop) with state:=.ready,pending:=none }:Loop)=lp:=by rw[hlp]; rfl
 clear hlp;let L:Option Addr->Nat->List Of->List Int->Nat->Loop->Nat->List aC:=λ a c out mo i lp r6 =>
  [ai r6 (bI m i).vs.toArray 44,aY l (.loop lp),tU (some ⟨g,0,none⟩) (aQ m) mo,ai r3 #[.slice (some ⟨g,0,none⟩) (aQ m) (aQ m)] 190,vm a c out,ai r4 #[.slice a out.length c] 62,ai r5 #[iv i] 3,ai r1 #[.slice a1 (aQ m) c1] 190,ai r2 m.vs.toArray 44,B,Fr]
 refine s.ax z6.vs.toArray λ r6 w1 s1=>s1.az 0 rfl (bI m i).vs rfl (I6.one _) λ w2 s2=>?_;have s2:St w0 w2 (Sep (L a c (nQ m T i) (js m T i) i lp r6)):=s2;refine⟨lp,s2.hU 1 rfl,hst,?_⟩;have s3:St w0 _ (Sep (L a c (nQ m T i) (js m T i) i { lp with state:=.busy } r6)):=s2.putAt 1 rfl (.loop { lp with state:=.busy });have hb:=KK (fI hm i) hp (c:=aQ m) (St.rd cR (s3.out 2 rfl)) (by rw[hml]; exact hc.2.1.symm);rw[hml] at hb;refine⟨m,s3.cellsIn 8 rfl,bI m i,s3.cellsIn 0 rfl,_,_,_,s3.ag 3 rfl 0,ak hb ?_⟩;clear hb;rintro v w4 ⟨rfl,c4⟩;have s4:=s3.quiet c4;generalize hun:FA m (bI m i) (js m T i) 6=un;have eO:nQ m T (i+1)=if 0<i/\T.getD i 0>un then nQ m T i++[⟨0,bI m i,T.getD i 0⟩] else nQ m T i:=by rw[nQ,hun]
 have eT:js m T (i+1)=(js m T i).set i (if un>(js m T i).getD i 0 then un else (js m T i).getD i 0):=by rw[js,hun]
 have tc:∀ {w'},ay w0 w' []->∃ q,a1=some q/\w'.cell? (Addr.add q (i*1))=some (iv (T.getD i 0)):=λ hc' =>
  fK (hT hc') (by rw[List.getD_eq_getElem?_getD,gE (by omega)]; rfl)
 refine⟨_,rfl,λ w5=>∃ a' c',St w0 w5 (Sep (L a' c' (nQ m T (i+1)) (js m T i) i { lp with state:=.busy } r6)),?_,?_⟩
 ·rintro w5 ⟨a',c',s5⟩ x1;have s6:=s5.quiet (ay.drew w5 []);have cm:w5.drew.cell? (Addr.add ⟨g,0,none⟩ (((i:Nat):Int).toNat*1))=some (iv ((js m T i).getD i 0)):=by
   obtain⟨q,hq,hc⟩:=fK (St.rd cR (s6.out 2 rfl)) (i:=i) (x:=(js m T i).getD i 0) (by rw[List.getD_eq_getElem?_getD,gE (by omega)]; rfl)
   cases hq; exact hc
  refine⟨_,_,_,s6.ag 3 rfl 0,_,s6.ag 6 rfl 0,_,_,_,s6.ag 3 rfl 0,_,s6.ag 6 rfl 0,aj rfl ⟨by omega,by omega,_,cm,aj rfl ⟨by omega,by omega,?_⟩⟩⟩;rw[Int.toNat_natCast];refine St.jf (v:=iv) rfl (s6.out 2 rfl) (i:=i) (by omega) λ w7 s7=>?_;rw[<- eT] at s7;have s7:St w0 w7 (Sep (L a' c' (nQ m T (i+1)) (js m T (i+1)) i { lp with state:=.busy } r6)):=s7.back (i:=2) (by show 2<11; decide);refine⟨_,s7.ag 6 rfl 0,s7.aK 6 rfl (by show 0<1; decide) rfl λ w8 s8=>⟨_,s8.hU 1 rfl,rfl,?_⟩⟩;rw[aB (n:=(i:Int)+1) ⟨by omega,by omega⟩] at s8;have s9:=s8.putAt 1 rfl (.loop lp);rw[hpd];exact St.wT (f:=λ (p:Option Addr×Nat)=>Sep (aY l (.loop lp) :: Ot m T a1 c1 g r1 r2 r3 r4 r5 B p.1 p.2 (i+1) (nQ m T (i+1)))) (a',c') ((s9.av [1,2,3,4,5,6,7,8,9,10]).shut)
 ·refine⟨λ b w6=>b=decide (0<i/\T.getD i 0>un)/\St w0 w6 (Sep (L a c (nQ m T i) (js m T i) i { lp with state:=.busy } r6)),?_,?_⟩
  ·rintro w6 b ⟨rfl,s6⟩ x2;have hol:=Ei m T i
   by_cases hb:0<i/\T.getD i 0>un
   ·rw[if_pos hb] at eO;have s7:=s6.quiet (ay.drew w6 []);obtain⟨q,hq,hcq⟩:=tc s7.au;refine cT (dT hb) ⟨_,_,_,s7.ag 5 rfl 0,bI m i,s7.cellsIn 0 rfl,_,_,_,s7.ag 7 rfl 0,_,s7.ag 6 rfl 0,aj hq ⟨by omega,by omega,_,hcq,s7.ax (⟨0,bI m i,T.getD i 0⟩:Of).cells.toArray λ r9 w8 s8=>⟨s8.ag 6 rfl 0,?_⟩⟩⟩;refine cS (l2:=[(⟨0,bI m i,T.getD i 0⟩:Of)]) Us Of.len Of.one (s8.out 5 rfl) (gR (s8.cellsIn 0 rfl) rfl) (by simp; omega) (by simp; omega) λ a' c' w9 s9=>?_;have s9:=s9.back (i:=5) (by show 5<12; decide);refine s9.aK 6 rfl (by show 0<1; decide) rfl λ w10 s10=>⟨a',c',?_⟩;rw[eO];exact s10.av [1,2,3,4,5,6,7,8,9,10,11]
   ·rw[if_neg hb] at eO;exact cF (dF hb) ⟨a,c,by rw[eO]; exact s6⟩
  ·refine⟨_,s4.ag 6 rfl 0,?_⟩
   by_cases h0:0<i
   ·obtain⟨q,hq,hcq⟩:=tc s4.au;refine cT (dT (by omega)) ⟨_,_,_,s4.ag 7 rfl 0,_,s4.ag 6 rfl 0,aj hq ⟨by omega,by omega,_,hcq,?_,s4⟩⟩
    by_cases g0:T.getD i 0>un
    ·rw[dT g0,dT ⟨h0,g0⟩]
    ·rw[dF g0,dF λ h=>g0 h.2]
   ·exact cF (dF (by omega)) ⟨by rw[dF λ h=>h0 h.1],s4⟩
end
theorem I9{w:World}{m:I6}{T:List Int}{a1:OA}{c1:Nat}(hm:I6.Le m 4)(hp:pr m.l<=1024)(hr:cG 1 i1 w a1 T)(hl:T.length=aQ m) :
  CP 189 #[.slice a1 (aQ m) c1,.agg m.vs.toArray] w (λ r w'=>(40<(yW m T).length/\r=.tuple #[.slice none 0 0,iv 3]/\ay w w' [])\/((yW m T).length<=40/\∃ a c,r=.tuple #[.slice a (yW m T).length c,iv 0]/\St w w' (Sep [vm a c (yW m T)]))):=by
 refine rJ ?_;unfold nh;have hc:=jH hm;refine(St.start w).one.ax _ λ r1 w1 s1=>s1.ax m.vs.toArray λ r2 w2 s2=>⟨_,_,_,s2.ag 1 rfl 0,?_⟩;refine cV Pf cR (x:=0) rfl s2 (n:=aQ m) (by omega) (by omega) λ g w3 c3 s3=>?_;have s3:St w w3 (Sep [tU (some ⟨g,0,none⟩) (aQ m) (List.replicate (aQ m) 0),ai r2 m.vs.toArray 44,ai r1 #[.slice a1 (aQ m) c1] 190,emp]):=s3;refine s3.ax _ λ r3 w4 s4=>s4.aK 0 rfl (by decide) rfl λ w5 s5=>⟨_,_,_,s5.ag 0 rfl 0,_,_,_,s5.ag 3 rfl 0,?_⟩;refine G3 Pf cR FF (by simp) (s5.out 1 rfl) (l2:=T) hl (hr.au s5.au) λ _ w6 s6=>?_;have s6:St w w6 (Sep [ai r3 #[.slice (some ⟨g,0,none⟩) (aQ m) (aQ m)] 190,tU (some ⟨g,0,none⟩) (aQ m) T,ai r2 m.vs.toArray 44,ai r1 #[.slice a1 (aQ m) c1] 190,emp]):=s6.back (i:=1) (by show 1<5; decide);refine s6.ax _ λ r4 w7 s7=>s7.ax _ λ r5 w8 s8=>s8.aK 0 rfl (by decide) rfl λ w9 s9=>⟨m,s9.cellsIn 4 rfl,ak (J4 (s9.dP (e:=68) (sz:=8) (f:=Of.cells)) m hm hp) ?_⟩;rintro v w10 ⟨b,rfl,s10⟩;have s10:St w w10 (Sep [ai b m.vs.toArray 44,vm none 0 [],ai r5 #[iv 0] 3,ai r4 #[.slice none 0 0] 62,ai r3 #[.slice (some ⟨g,0,none⟩) (aQ m) (aQ m)] 190,tU (some ⟨g,0,none⟩) (aQ m) T,ai r2 m.vs.toArray 44,ai r1 #[.slice a1 (aQ m) c1] 190,emp]):=s10;refine⟨_,rfl,vg (by kernel_rfl) ?_⟩;refine ve s10 (λ _ _=>⟨rfl,rfl⟩) λ fn l w11 s11=>?_;have s12:=(s11.av [0,7,6,3,5,4,9,8,1,2]).split [_,_,_,_,_,_,_,_,_];have s13:=St.wT (f:=λ (p:Option Addr×Nat)=>Sep (aY l (.loop _) :: Ot m T a1 c1 g r1 r2 r3 r4 r5 (aY w10.heap.size (.deferred (some []))) p.1 p.2 0 (nQ m T 0))) (none,0) s12;refine ak (B4 hm (R:=Rl m T a1 c1 g r1 r2 r3 r4 r5 l _ (aY w10.heap.size (.deferred (some [])))) (λ i w1 Fr hi h=>I8 hm hp (λ hc=>hr.au hc) hl hi rfl h) s13) ?_;rintro v w12 ⟨rfl,s14⟩;obtain⟨⟨a,c⟩,s15⟩:=s14.ex;refine⟨_,rfl,_,s15.first,λ w13 s16=>⟨_,_,_,s16.ag 3 rfl 0,?_⟩⟩;have s17:=s16.putAt 7 rfl (.deferred none)
 by_cases h40:40<(yW m T).length
 ·exact cT (dT (by unfold yW at h40; omega)) ⟨s16.hU 7 rfl,.inl ⟨h40,rfl,s17.au⟩⟩
 ·exact cF (dF (by unfold yW at h40; omega)) ⟨_,_,_,s16.ag 3 rfl 0,s16.hU 7 rfl,.inr ⟨by omega,a,c,rfl,s17.av [2]⟩⟩
def tE(x:Xv)(m:I6):Int:=if dR x≠0 then dR x else if 40<(yW m (MC m (lV m x))).length then 3 else 0
def tF(x:Xv)(m:I6):List Of:=yW m (MC m (lV m x))
theorem IQ{w:World}{x:Xv}{m:I6}(hm:I6.Le m 4)(hp:pr m.l<=1024)(hz:aO x<=100000)(hx:x.In w) :
  CP 154 #[.agg x.cells.toArray,.agg m.vs.toArray] w (λ r w'=>(tE x m≠0/\r=.tuple #[.slice none 0 0,iv (tE x m)]/\ay w w' [])\/(tE x m=0/\(tF x m).length<=40/\∃ a c,r=.tuple #[.slice a (tF x m).length c,iv 0]/\St w w' (Sep [vm a c (tF x m)]))):=by
 refine tg (u1:=x.u) ?_;unfold oJ;refine(St.start w).one.ax x.cells.toArray λ r1 w1 s1=>s1.ax m.vs.toArray λ r2 w2 s2=>⟨_,x.u,_,_,_,_,s2.cellsIn 1 rfl,m,s2.cellsIn 0 rfl,ak (Pw hm hp hz (hx.au s2.au)) ?_⟩;rintro v w3 (⟨hk,rfl,c3⟩|⟨hk,g,rfl,s3⟩)
 ·refine⟨_,_,_,_,rfl,cT (by simpa using hk) (.inl ⟨?_,?_,(s2.quiet c3).au⟩)⟩
  ·rw[tE,if_pos hk]; exact hk
  ·rw[tE,if_pos hk]
 ·have s4:=s2.and s3;have hl:(MC m (lV m x)).length=aQ m:=zQ m _ _;refine⟨_,_,_,_,rfl,cF rfl ⟨m,s4.second.cellsIn 0 rfl,ak (I9 hm hp (St.rd cR s3) hl) ?_⟩⟩;have e0:tE x m=if 40<(yW m (MC m (lV m x))).length then 3 else 0:=by rw[tE,if_neg (λ h=>h hk)]
  rintro v w5 (⟨h40,rfl,c5⟩|⟨h40,a,c,rfl,s5⟩)
  ·exact⟨_,_,_,_,rfl,.inl ⟨by rw[e0,if_pos h40]; decide,by rw[e0,if_pos h40],s4.au.trans c5 (by simp)⟩⟩
  ·exact⟨_,_,_,_,rfl,.inr ⟨by rw[e0,if_neg (by show ¬ 40<(yW _ _).length; omega)],h40,a,c,rfl,Mh s4.au s5⟩⟩

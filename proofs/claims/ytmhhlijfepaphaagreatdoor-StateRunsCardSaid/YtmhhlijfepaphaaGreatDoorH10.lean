import Derived.Test.YtmhhlijfepaphaaGreatDoorH09
set_option linter.all false
set_option maxRecDepth 100000
namespace Go.Proofs.YtmhhlijfepaphaaGreatDoor
open Go Go.Vc _root_.Go.Proofs.Tryz
def MZ(s:Nat):IntKind.i64.wrap (IntKind.i64.wrap s+1)=IntKind.i64.wrap ((s+1:Nat):Int):=by
 simp only[IntKind.wrap,IntKind.signed,IntKind.bits]
 simp
 omega
def kq(x:Xv):Bool:=
 if x.op=1 then x.args.length==0
 else if x.op=2\/x.op=3 then decide (1<=x.args.length)&&(decide (x.args.length<=8)&&(decide (x.u=z6)&&x.v==0))
 else if x.op=4 then x.args.length==1
 else if x.op=5 then x.args.length==1&&decide (x.u=z6)
 else false
def kU(x:Xv):Bool:=
 if x.op=2\/x.op=3 then true else if x.v<1\/x.v>1000000 then false
 else if x.op=5 then true else x.u.l.all lX&&decide (tot x.u>0)
def Za(w:ah)(x:Xv):CP 242 #[.agg x.cells.toArray] w (λr l=>r=.bool (kq x)/\aZ w l []):=by
 refine @Hw _ x.u _ _ _ _ _ _ (bE x.cells.toArray λp o a=>⟨_,_,_,a.aj 0 rfl 8,_,a.aj 0 rfl 0,?_⟩);have e:∀n m:Nat,(((n:Nat):Int)==(m:Int))=(n==m):=λn m=>by
  by_cases h:n=m
  .subst h;simp
  rw[aC.2 h,aC.2 (show(n:Int)≠m by omega)]
 by_cases f:x.op=1
 .exact gM f ⟨by rw[kq,ag f,<-e];rfl,a.aK⟩
 refine iI f ⟨λb k=>b=decide (x.op=2\/x.op=3)/\k=o,?_,?_⟩
 .rintro k _ ⟨rfl,rfl⟩-
  by_cases g:x.op=2\/x.op=3
  .have c:kq x=(decide (1<=x.args.length)&&(decide (x.args.length<=8)&&(decide (x.u=z6)&&x.v==0))):=by rw[kq,af f,ag g]
   refine di g ?_
   by_cases g1:1<=x.args.length
   .rw[dT g1,aO] at c;refine di (by omega) ?_
    by_cases g2:x.args.length<=8
    .rw[dT g2,aO] at c;refine di (by omega) ⟨x.u,a.bA 0 1 rfl rfl,?_⟩;rw[I6.beq_eq]
     by_cases d:x.u=z6
     .rw[dT d,aO] at c;exact di d ⟨_,a.aj 0 rfl 7,by rw[c],a.aK⟩
     rw[dF d] at c;exact dz d ⟨by rw[c];rfl,a.aK⟩
    rw[dF g2] at c;exact dz (by omega) ⟨by rw[c];rfl,a.aK⟩
   rw[dF g1] at c;exact dz (by omega) ⟨by rw[c];rfl,a.aK⟩
  refine dz g (cBq (λi=>⟨by rw[kq,af f,af g,ag i,<-e];rfl,a.aK⟩) λi=>?_)
  by_cases j:x.op=5
  .have c:kq x=(x.args.length==1&&decide (x.u=z6)):=by rw[kq,af f,af g,af i,ag j]
   refine gM j ?_
   by_cases g1:x.args.length=1
   .refine cT (bL.2 (by omega)) ⟨x.u,a.bA 0 1 rfl rfl,?_,a.aK⟩;rw[c,g1,I6.beq_eq];rfl
   refine cF (aC.2 (by omega)) ⟨?_,a.aK⟩;rw[c,aC.2 g1];rfl
  exact iI j ⟨by rw[kq,af f,af g,af i,af j],a.aK⟩
 refine cBq (λg2=>⟨by rw[dT (Or.inl g2)];simpa using g2,rfl⟩) λg2=>⟨?_,rfl⟩
 by_cases d:x.op=3
 .rw[dT (Or.inr d)];simpa using d
 rw[dF (by rintro(h|h);exact g2 h;exact d h)];simpa using d
def T4(w:ah)(x:Xv):CP 243 #[.agg x.cells.toArray] w (λr k=>r=.bool (kU x)/\aZ w k []):=by
 refine @DO _ x.u _ _ _ _ _ _ (bE x.cells.toArray λn m a=>⟨_,a.aj 0 rfl 0,⟨λb g=>b=decide (x.op=2\/x.op=3)/\g=m,?_,?_⟩⟩)
 .rintro g _ ⟨rfl,rfl⟩-
  by_cases c:x.op=2\/x.op=3
  .exact di c ⟨by rw[kU,ag c],a.aK⟩
  refine dz c ⟨λb i=>b=decide (x.v<1\/x.v>1000000)/\i=g,?_,_,a.aj 0 rfl 7,?_⟩
  .rintro i _ ⟨rfl,rfl⟩-;refine cBq (λd=>⟨by rw[kU,af c,ag d],a.aK⟩) λd=>⟨_,a.aj 0 rfl 0,?_⟩
   by_cases e:x.op=5
   .exact gM e ⟨by rw[kU,af c,af d,ag e],a.aK⟩
   have h:kU x=(x.u.l.all lX&&decide (tot x.u>0)):=by rw[kU,af c,af d,af e]
   refine iI e ⟨x.u,a.bA 0 1 rfl rfl,a.qu (lI _ x.u) λo f=>⟨_,rfl,?_⟩⟩
   cases hq:x.u.l.all lX with
   |false=>exact cF rfl ⟨by rw[h,hq];rfl,f.aK⟩
   |true=>
    exact cT rfl ⟨x.u,f.bA 0 1 rfl rfl,bF (XL _ x.u (vY (C9 hq) (by omega))) λp j=>⟨_,rfl,by rw[h,hq,aO],(f.quiet j).aK⟩⟩
  refine cBq (λg1=>⟨by rw[dT (Or.inl g1)],rfl⟩) λg1=>⟨_,a.aj 0 rfl 7,?_,rfl⟩
  by_cases g2:x.v>1000000
  .rw[dT g2,dT (Or.inr g2)]
  rw[dF g2,dF (by rintro(h|h);exact g1 h;exact g2 h)]
 refine cBq (λg2=>⟨by rw[dT (Or.inl g2)];simpa using g2,rfl⟩) λg2=>⟨?_,rfl⟩
 by_cases c:x.op=3
 .rw[dT (Or.inr c)];simpa using c
 rw[dF (by rintro(h|h);exact g2 h;exact c h)];simpa using c
def Pc(n:Nat)(_:Xv):Nat×Bool:=(n+1,true)
def YO:∀(x:Xv) (n:Nat),iP Pc x n=(n+fE x,true):=Xv.ind λx d n=>by
 rw[tH,ag (show(Pc n x).2=true from rfl),oS];have:∀(l:List Xv) (m:Nat),(∀y∈l,∀n,iP Pc y n=(n+fE y,true))->oT Pc l (m,true)=(m+(l.map fE).sum,true):=λl=>by
  induction l with
  |nil=>intro m _;rfl
  |cons y l a=>
   intro m b;unfold oT at a⊢;rw[bD,ag rfl,b y (by simp),a _ λz c=>b z (by simp[c])];rw[cD,nE,kC]
 show oT Pc x.args (n+1,true)=_;rw[this _ _ d];congr 1;omega
def aak{w:ah}{x:Xv}(m:fE x<=100000)(i:x.In w):CP 240 #[.agg x.cells.toArray] w (λr a=>r=iv (fE x)/\aZ w a []):=by
 refine @Hv _ x.u _ _ _ _ _ _ (bE x.cells.toArray λE H o=>o.aY #[iv 0] λc I p=>p.cL 0 rfl (j:=0) (show 0<1 by decide) rfl λJ q=>q.aY #[.nilFunc] λF L t=>t.cL 0 rfl (j:=0) (show 0<1 by decide) rfl λz f=>⟨_,f.cellsIn 0 rfl,_,x.u,_,_,_,_,f.cellsIn 2 rfl,?_⟩);have g:∀(d:ah) (B:bP) (s:Nat) (y:Xv) (R:Ending->ah->Prop),St w d (star (ay c #[iv (IntKind.i64.wrap s)] 3) B)->y.In d->fE y<=100000->(∀a,St w a (star (ay c #[iv (IntKind.i64.wrap ((s+1:Nat):Int))] 3) B)->R (.returned (.bool true)) a)->rZ prog (.func (.func 313) #[] #[pt c]) #[.agg y.cells.toArray] d R:=by
  intro d B s y R h D l k;refine iJ (by kernel_rfl) (bg (K:=λr a=>r=.bool true/\St w a (star (ay c #[iv (IntKind.i64.wrap ((s+1:Nat):Int))] 3) B)) (@DN _ y.u _ _ _ _ _ _ _ ?_) ?_)
  .skip
   refine(h.yW).aY y.cells.toArray λG C b=>⟨_,b.aj 1 rfl 0,b.cL 1 rfl (j:=0) (show 0<1 by decide) rfl λM n=>⟨rfl,?_⟩⟩;have e:=MZ s;have v:=(n.aM [1,2]).pair;rw[<-e];exact v
  rintro r a ⟨rfl,e⟩;exact k a e
 refine bF (MV (w0:=w) (step:=Pc) (A:=λn=>ay c #[iv (IntKind.i64.wrap (n:Int))] 3) g x m (λe=>i.aK e) z emp 0 (f.aM [1])) λC b=>?_;rw[YO] at b;refine⟨_,rfl,_,b.boxed 0,?_,b.aK⟩;rw[az,gC (by omega)]
def y4(_:Unit)(x:Xv):Unit×Bool:=((),decide (x.args.length<=8))
def tR(e:Int)(x:Xv):Int:=if kq x then (if kU x then e else 4) else 2
def kM(e:Int)(x:Xv):Int×Bool:=(tR e x,tR e x==0)
def j4(x:Xv):Int:=if 6<qc x then 9 else if (iP y4 x ()).2=false\/40<fE x then 3 else (iP kM x 0).1
def XP(s:Unit)(x:Xv):y4 s x.er=y4 s x:=by
 unfold y4;rw[xZ,bu]
def Wg(x:Xv):kq x.er=kq x:=by
 unfold kq;rw[xZ,bu,Xv.pN];rfl
def W7(x:Xv):kU x.er=kU x:=by
 unfold kU;rw[Xv.pN];rfl
def Zz(e:Int)(x:Xv):kM e x.er=kM e x:=by unfold kM tR;rw[Wg,W7]
def vz(x:Xv):j4 x.er=j4 x:=by
 unfold j4;rw[YT,Iv,OU XP,OU Zz]
def Lb{w:ah}{x:Xv}(q:fE x<=100000)(o:x.In w):CP 167 #[.agg x.cells.toArray] w (λr a=>r=iv (j4 x)/\aZ w a []):=by
 refine @Fj _ x.u _ _ _ _ _ _ ?_;have hd:=LI x;refine bE x.cells.toArray λF U G=>⟨_,x.u,_,_,_,_,G.cellsIn 0 rfl,G.qu (VS x q U (o.aK G.aK)) λJ L=>⟨_,rfl,?_⟩⟩
 by_cases C:6<qc x
 .exact di (by omega) ⟨by rw[j4,ag C],L.aK⟩
 refine dz (by omega) (L.aY #[.nilFunc] λX Y Q=>Q.cL 0 rfl (j:=0) (show 0<1 by decide) rfl λV H=>⟨λb N=>b=decide ((iP y4 x ()).2=false\/40<fE x)/\St w N (Sep [ay F x.cells.toArray 73]),?_,_,H.cellsIn 0 rfl,_,x.u,_,_,_,_,H.cellsIn 1 rfl,?_⟩)
 .rintro N _ ⟨rfl,M⟩-;refine cBq (λg=>⟨by rw[j4,af C,ag g],M.aK⟩) λg=>M.aY #[iv 0] λc W z=>z.cL 0 rfl (j:=0) (show 0<1 by decide) rfl λZ S=>S.aY #[.nilFunc] λP w8 T=>T.cL 0 rfl (j:=0) (show 0<1 by decide) rfl λd I=>⟨_,I.cellsIn 0 rfl,_,x.u,_,_,_,_,I.cellsIn 2 rfl,?_⟩;have D:∀(d:ah) (B:bP) (s:Int) (y:Xv) (R:Ending->ah->Prop),St w d (star (ay c #[iv s] 47) B)->y.In d->fE y<=100000->(∀a,St w a (star (ay c #[iv (kM s y).1] 47) B)->R (.returned (.bool (kM s y).2)) a)->rZ prog (.func (.func 241) #[] #[pt c]) #[.agg y.cells.toArray] d R:=by
   intro d B s y R h O E k;refine iJ (by kernel_rfl) (bg (K:=λr a=>r=.bool (tR s y==0)/\St w a (star (ay c #[iv (tR s y)] 47) B)) (@Ct _ y.u _ _ _ _ _ _ _ ?_) ?_)
   .skip
    refine(h.yW).aY y.cells.toArray λr5 n t=>⟨λJ=>St w J (Sep [ay r5 y.cells.toArray 73,ay c #[iv (tR s y)] 47,B]),?_,_,y.u,_,_,_,_,t.cellsIn 0 rfl,bg (Za n y) ?_⟩
    .rintro J t2 -;exact⟨_,t2.aj 1 rfl 0,rfl,(t2.aM [1,2]).pair⟩
    rintro v f ⟨rfl,l⟩;have t1:=t.quiet l;refine⟨_,rfl,?_⟩
    cases hf:kq y with
    |false=>
     have e:tR s y=2:=by rw[tR,hf];rfl
     exact cT rfl (t1.cL 1 rfl (j:=0) (show 0<1 by decide) rfl λi t2=>by rw[e];exact t2)
    |true=>
     refine cF rfl ⟨_,y.u,_,_,_,_,t1.cellsIn 0 rfl,t1.qu (T4 f y) λi t2=>⟨_,rfl,?_⟩⟩
     cases hg:kU y with
     |false=>
      have e:tR s y=4:=by rw[tR,hf,hg];rfl
      exact cT rfl (t2.cL 1 rfl (j:=0) (show 0<1 by decide) rfl λi t3=>by rw[e];exact t3)
     |true=>
      have e:tR s y=s:=by rw[tR,hf,hg];rfl
      exact cF rfl (by rw[e];exact t2)
   rintro r a ⟨rfl,l⟩;exact k a l
  exact bF (MV (w0:=w) (step:=kM) (A:=λe=>ay c #[iv e] 47) D x q (λl=>o.aK l) d emp 0 (I.aM [1])) λn m=>⟨_,rfl,_,m.boxed 0,by rw[j4,af C,af g],m.aK⟩
 have D:∀(d:ah) (B:bP) (s:Unit) (y:Xv) (R:Ending->ah->Prop),St w d (star emp B)->y.In d->fE y<=100000->(∀a,St w a (star emp B)->R (.returned (.bool (y4 s y).2)) a)->rZ prog (.func (.func 238) #[] #[]) #[.agg y.cells.toArray] d R:=by
  intro d B s y R h O E k;refine iJ (by kernel_rfl) (bg (K:=λr a=>r=.bool (decide (y.args.length<=8))/\aZ d a []) (@Cs _ y.u _ _ _ _ _ _ ?_) ?_)
  .skip
   refine bE y.cells.toArray λP W z=>⟨_,_,_,z.aj 0 rfl 8,?_,z.aK⟩
   by_cases c:y.args.length<=8
   .rw[dT c,dT (show((y.args.length:Nat):Int)<=8 by omega)]
   rw[dF c,dF (show ¬ ((y.args.length:Nat):Int)<=8 by omega)]
  rintro r a ⟨rfl,l⟩;exact k a (h.quiet l)
 refine bF (MV (w0:=w) (step:=y4) (A:=λ_=>emp) D x q (λl=>o.aK l) V (Sep [ay F x.cells.toArray 73]) () (H.aM [2,1])) λf c=>?_;have c:St w f (Sep [emp,ay F x.cells.toArray 73]):=c;refine⟨_,rfl,?_⟩
 cases hw:(iP y4 x ()).2 with
 |false=>exact cT rfl ⟨by rw[dT (Or.inl rfl)],c.aM [1]⟩
 |true=>
  refine cF rfl ⟨_,x.u,_,_,_,_,c.cellsIn 1 rfl,bF (aak q (o.aK c.aK)) λi e=>⟨_,rfl,?_,(c.quiet e).aM [1]⟩⟩
  by_cases g:40<fE x
  .rw[dT (p:=true=false\/40<fE x) (Or.inr g)];exact dT (by omega)
  rw[dF (p:=true=false\/40<fE x) (by rintro(h|h);exact absurd h (by decide);exact g h)];exact dF (by omega)
theorem Fa:fE gj=1:=by rw[oS];rfl
theorem AO(op:Int)(u:I6)(v:Int)(a:OA)(c:Nat)(l:List Xv):fE (.mk op u v a c l)=1+(l.map fE).sum:=by rw[oS];rfl
section
variable {g:Sc->Xv×Sc} (hg:∀σ,fE (g σ).1+3*(g σ).2.1.length<=3*σ.1.length+2)
include hg
theorem Ng(σ:Sc):fE (j3 g σ).1+3*(j3 g σ).2.1.length<=3*σ.1.length+2:=by
 unfold j3;split
 .show fE gj+3*σ.1.length<=_;rw[Fa];omega
 exact hg _
theorem I3:∀(n:Nat) (a:List Xv) (σ:Sc),((ng g n a σ).1.map fE).sum+3*(ng g n a σ).2.1.length<=(a.map fE).sum+3*σ.1.length
 |0,_,_=>aD _
 |n+1,a,σ=>by
  rw[ng]
  split
  .rename_i c;have b:=I3 n (a++[(j3 g (σ.acc [44])).1]) (j3 g (σ.acc [44])).2;have d:=Ng hg (σ.acc [44]);have e:=CM c;rw[aS,List.sum_append,bH,gV] at b;omega
  exact aD _
theorem Y5(ps:List Pr)(op:Int)(a1:Xv)(σ:Sc):fE (Jx ps g op a1 σ).1+3*(Jx ps g op a1 σ).2.1.length<=1+fE a1+3*σ.1.length:=by
 unfold Jx
 split
 .have a:=I3 hg σ.1.length [a1] σ;have b:=wS [41] (ng g σ.1.length [a1] σ).2;rw[bH,gV] at a;show fE (.mk _ _ _ _ _ _)+3*((ng g σ.1.length [a1] σ).2.exp [41]).1.length<=_;rw[AO];omega
 split
 .have a:=vg ps (σ.exp [44]);have b:=wS [44] σ;have c:=wS [41] (dI ps (σ.exp [44])).2;show fE (.mk _ _ _ _ _ _)+3*((dI ps (σ.exp [44])).2.exp [41]).1.length<=_;rw[AO,bH,gV];omega
 split
 .have a:((σ.exp [44]).rz 1000000).1.length<=(σ.exp [44]).1.length:=A5 _ _ _;have b:=wS [44] σ;have c:=wS [41] ((σ.exp [44]).rz 1000000);show fE (.mk _ _ _ _ _ _)+3*(((σ.exp [44]).rz 1000000).exp [41]).1.length<=_;rw[AO,bH,gV];omega
 have c:=wS [41] σ;show fE (.mk _ _ _ _ _ _)+3*(σ.exp [41]).1.length<=_;rw[AO,bH,gV];omega
end
theorem Hp(ps:List Pr):∀(f:Nat) (σ:Sc),fE (kE ps f σ).1+3*(kE ps f σ).2.1.length<=3*σ.1.length+2
 |0,σ=>by show fE gj+_<=_;rw[Fa];show 1+3*σ.1.length<=_;omega
 |f+1,σ=>by
  rw[kE]
  split
  .have a:=vg ps (zg σ);have b:=LO σ;rw[AO];simp only[oq,List.sum_nil];omega
  rename_i a;have d:=Y5 (Hp ps f) ps (jS (dr σ.1 σ.2)) (j3 (kE ps f) (wC σ)).1 (j3 (kE ps f) (wC σ)).2
  by_cases e:(wC σ).2=0
  .have b:=LP a e;have c:=Ng (Hp ps f) (wC σ);omega
  have b:=Hl σ;have c:j3 (kE ps f) (wC σ)=(gj,wC σ):=by rw[j3,ag e]
  rw[c] at d⊢;rw[Fa] at d;have g:(gj,wC σ).2.1.length=(wC σ).1.length:=rfl;omega
def fV(ps:List Pr)(t:List UInt8):Xv×Int:=
 if (fS t).2≠0 then (gj,(fS t).2)
 else if vB (kE ps ((fS t).1.length+1) ((fS t).1,0)).2.1 (kE ps ((fS t).1.length+1) ((fS t).1,0)).2.2≠0 then (gj,vB (kE ps ((fS t).1.length+1) ((fS t).1,0)).2.1 (kE ps ((fS t).1.length+1) ((fS t).1,0)).2.2)
 else if j4 (kE ps ((fS t).1.length+1) ((fS t).1,0)).1≠0 then (gj,j4 (kE ps ((fS t).1.length+1) ((fS t).1,0)).1)
 else ((kE ps ((fS t).1.length+1) ((fS t).1,0)).1,0)
theorem E2(l:List UInt8):∀(f n:Nat) (a:List Tk),(vS l f n a).1.length<=a.length+f
 |0,_,_=>aD _
 |f+1,n,a=>by
  rw[vS]
  split
  .simp
  split
  .exact bp (E2 l f _ _) (by omega)
  split
  .simp
  have:=E2 l f (n+(iE l n ‹UInt8›).1.t.length) (a++[(iE l n ‹UInt8›).1]);simp only[aA,aG] at this;omega
theorem OP(l:List UInt8):(fS l).1.length<=4000:=by
 unfold fS
 split
 .simp
 have:=E2 l l.length 0 [];simp only[aT] at this;omega
theorem wk(w:ah):gj.In w:=.mk (λi y a=>by simp[gj,Xv.args] at a) (λy a=>by simp[gj,Xv.args] at a)
theorem WT{w:ah}{a:OA}{c:Nat}{l:List Pr}(L:kf w a l)(hc:l.length<=c)(K:iu l)(t:List UInt8):
  CP 189 #[.slice a l.length c,sv t] w (λr o=>∃x:Xv,x.er=(fV l t).1/\r=.tuple #[.agg x.cells.toArray,iv (fV l t).2]/\St w o (held x.In)):=by
 refine pP.1.1 (bE gj.cells.toArray λg w1 P=>bg (DC (L.aK P.aK) hc) ?_);rintro v w2 ⟨⟨e,rfl,D⟩,r⟩;obtain rfl:=D.2 K;have X:=P.quiet r;have d:∀{k:Int} {o:ah} {m:List bP} {i:Nat} {cs:Array Value},St w o (Sep m)->m[i]?=some (ay g cs 73)->cs.size=9->fV l t=(gj,k) ->
   yY ⟨g,0,none⟩ 0 gj.cells o λb=>∃(n:Int) (q:I6) (p:Int) (f:OA) (j r:Nat),aU b ⟨g,0,none⟩ 0 (iv n::q.on [iv p,.slice f j r]) /\
    ∃x:Xv,x.er=(fV l t).1/\Value.tuple #[.agg (iv n::q.on [iv p,.slice f j r]:List Value).toArray,iv k]=.tuple #[.agg x.cells.toArray,iv (fV l t).2]/\St w b (held x.In):=λ{k o m i cs} s e y h=>
  s.aR i e gj.cells (by rw[y];rfl) (Xv.one _) λb f=>⟨_,z6,_,_,_,_,f.cellsIn (cs:=gj.cells.toArray) (T:=73) i (cN (kL e)),gj,by rw[h,E9],by rw[h];rfl,((St.start' f.aK).one.oM wk).first⟩
 refine⟨_,rfl,cF rfl (bg (UM t) ?_)⟩;rintro v w4 ⟨A,B,rfl,V⟩;have I:St w w4 (Sep [_,_,_]):=X.and V;have M:=OP t;refine⟨_,_,_,_,rfl,?_⟩
 by_cases s:(fS t).2=0
 .have W:=St.rd Tk.len I;refine iI s (bg (PR I W M) ?_);rintro v w6 ⟨p,rfl,C⟩;have C:sY w w6 p ((fS t).1,0) (Sep [iQ 350 4 Tk.cells A B (fS t).1,ay g gj.cells.toArray 73,emp]):=C;refine⟨_,rfl,bE #[.slice none 0 0,.pointer none] λN w7 Y=>Y.aR 0 rfl [.slice a l.length c,pt p] rfl (by simp[Value.oneCell']) λw8 Q=>⟨_,_,_,_,Q.cellsIn 0 rfl,?_⟩⟩;have S:=C.add Q;refine bg (Su (λhc=>L.aK hc) hc K ((fS t).1.length+1) _ ((fS t).1,0) w8 (Nat.lt_succ_self _) S) ?_;have n:=Hp l ((fS t).1.length+1) ((fS t).1,0);have b:fV l t=if vB (kE l ((fS t).1.length+1) ((fS t).1,0)).2.1 (kE l ((fS t).1.length+1) ((fS t).1,0)).2.2≠0 then (gj,vB (kE l ((fS t).1.length+1) ((fS t).1,0)).2.1 (kE l ((fS t).1.length+1) ((fS t).1,0)).2.2)
    else if j4 (kE l ((fS t).1.length+1) ((fS t).1,0)).1≠0 then (gj,j4 (kE l ((fS t).1.length+1) ((fS t).1,0)).1)
    else ((kE l ((fS t).1.length+1) ((fS t).1,0)).1,0):=by rw[fV,af (by simpa using s)]
  generalize kE l ((fS t).1.length+1) ((fS t).1,0)=R at n b⊢;rintro v w9 ⟨x,ex,rfl,U⟩;have F:fE x<=100000:=by
   rw[<-Iv x,ex];have:(fS t).1.length<=4000:=M;simp only at n;omega
  refine⟨_,x.u,_,_,_,_,rfl,bE gj.cells.toArray λO Z G=>G.aR 0 rfl x.cells rfl (Xv.one _) λq H=>?_⟩;have j:sY w q p R.2 (star (Sep [ay O x.cells.toArray 73,emp]) (star (held x.In) (star (Sep [ay N #[.slice a l.length c,pt p] 315,emp]) (Sep [iQ 350 4 Tk.cells A B (fS t).1,ay g gj.cells.toArray 73,emp])))):=U.add H;have h:St w q (Sep [ay O x.cells.toArray 73,emp,held x.In,ay N #[.slice a l.length c,pt p] 315,emp,iQ 350 4 Tk.cells A B (fS t).1,ay g gj.cells.toArray 73,emp]):=by
   have t1:=j.frame;exact t1.eqv ((fF.right (fF.right (fF.cat [_,_]))).trans (fF.cat (m:=held x.In::_) [_,_]))
  refine⟨_,h.aj 3 rfl 1,bg (aag j) ?_⟩;rintro v J ⟨rfl,rfl⟩;refine⟨_,rfl,?_⟩
  by_cases y:vB R.2.1 R.2.2=0
  .rw[af (by simpa using y)] at b;have E:x.In J:=h.eu 2 rfl;refine iI y ⟨_,x.u,_,_,_,_,h.cellsIn 0 rfl,h.qu (Lb F E) λw14 t14=>?_⟩;have f:j4 x=j4 R.1:=by rw[<-ex,vz]
   refine⟨_,rfl,?_⟩
   by_cases z:j4 x=0
   .rw[af (by rw[<-f];simpa using z)] at b;exact iI z ⟨_,x.u,_,_,_,_,t14.cellsIn 0 rfl,t14.aR 6 rfl x.cells rfl (Xv.one _) λw16 t16=>⟨_,x.u,_,_,_,_,t16.cellsIn 6 rfl,x,by rw[b,ex],by rw[b];rfl,(t16.out 2 rfl).first⟩⟩
   rw[ag (by rw[<-f];exact z),<-f] at b;exact gM z (d t14 (i:=6) rfl rfl b)
  rw[ag y] at b;exact gM y (d h (i:=6) rfl rfl b)
 exact gM s (d I (i:=1) rfl rfl (by rw[fV,ag s]))
abbrev Wf:=I6->Int
def pE(v:Int):Int:=if 1000000<v then 1000000 else v
def tA(lim:I6)(f:Wf)(p:KV):Wf:=λw=>if w=p.1/\pE p.2>f p.1/\within p.1 lim=true then pE p.2 else f w
def gY(lim:I6)(f:Wf)(Q:List KV):Wf:=Q.foldl (tA lim) f
def Qm{lim:I6}{f:Wf}{p:KV}{w:I6}{n:Int}:tA lim f p w<=n<->f w<=n/\(p.1=w->within w lim=true->pE p.2<=n):=by
 unfold tA
 split
 .rename_i h;obtain⟨rfl,b,a⟩:=h;exact⟨λh=>⟨by omega,λ_ _=>h⟩,λh=>h.2 rfl a⟩
 rename_i h;refine⟨λb=>⟨b,λe c=>?_⟩,λh=>h.1⟩;subst e
 by_cases a:pE p.2>f p.1
 .exact absurd ⟨rfl,a,c⟩ h
 omega
theorem jI{lim:I6}:∀{Q:List KV} {f:Wf} {w:I6} {n:Int},gY lim f Q w<=n<->f w<=n/\∀p∈Q,p.1=w->within w lim=true->pE p.2<=n
 |[],f,w,n=>by simp[gY]
 |p::Q,f,w,n=>by
  show gY lim (tA lim f p) Q w<=n<->_;rw[jI,Qm];constructor
  .rintro⟨⟨c,b⟩,d⟩;refine⟨c,λq a=>?_⟩;rcases aP.1 a with rfl|a
   .exact b
   exact d q a
  rintro⟨c,b⟩;exact⟨⟨c,b p (by simp)⟩,λq a=>b q (by simp[a])⟩
def o7{lim:I6}{f:Wf}{Q Q':List KV}(h:∀p,p∈Q<->p∈Q'):gY lim f Q=gY lim f Q':=by
 funext w
 refine Int.le_antisymm (jI.2 ?_) (jI.2 ?_)
 .have:=(jI (lim:=lim) (f:=f) (Q:=Q') (w:=w) (n:=gY lim f Q' w)).1 (bR _);exact⟨this.1,λp a=>this.2 p ((h p).1 a)⟩
 have:=(jI (lim:=lim) (f:=f) (Q:=Q) (w:=w) (n:=gY lim f Q w)).1 (bR _);exact⟨this.1,λp a=>this.2 p ((h p).2 a)⟩
def rJ{lim:I6}{f:Wf}{Q:List KV}{p:KV}:tA lim (gY lim f Q) p=gY lim f (Q++[p]):=by
 rw[gY,gY,cG];rfl
def My{lim:I6}{f:Wf}{Q R:List KV}:gY lim (gY lim f Q) R=gY lim f (Q++R):=by
 rw[gY,gY,gY,cG]
structure lH (lim:I6) (l:List KV) (f:Wf):Prop where
 v:∀u,jW l u=if 0<f u then some (f u) else none
 le:∀u,f u<=1000000
 z:∀u,0<=f u
 s:∀u,0<f u->I6.Le u 4/\within u lim=true
def lH.nil(lim:I6):lH lim [] λ_=>0:=⟨λu=>rfl,λu=>by omega,λu=>by omega,λu h=>by omega⟩
def lH.get{lim:I6}{l:List KV}{f:Wf}(h:lH lim l f)(u:I6):(jW l u).getD 0=f u:=by
 rw[h.v]
 split
 .rfl
 have:=h.z u;show 0=f u;omega
def lH.mem{lim:I6}{l:List KV}{f:Wf}(h:lH lim l f)(g:(l.map (·.1)).Nodup)(p:KV):p∈l<->0<f p.1/\p.2=f p.1:=by
 constructor
 .intro a;have c:=K4 g a;rw[h.v] at c
  split at c
  .rename_i d;exact⟨d,by injection c with c;exact c.symm⟩
  cases c
 rintro⟨c,d⟩;have e:=h.v p.1;rw[ag c] at e;have:=yx e;obtain⟨a,b⟩:=p;simp only at d this;rw[d];exact this
def lH.raise{lim:I6}{l:List KV}{f:Wf}(h:lH lim l f)(c:I6.Le lim 4){p:KV}(d:I6.Le p.1 1000000):
  lH lim (if pE p.2>f p.1/\within p.1 lim=true then rW l p.1 (pE p.2) else l) (tA lim f p):=by
 by_cases g:pE p.2>f p.1/\within p.1 lim=true
 .rw[ag g];have n:=h.z p.1;have e:∀u,tA lim f p u=if u=p.1 then pE p.2 else f u:=λu=>by
   unfold tA
   by_cases a:u=p.1
   .rw[ag ⟨a,g⟩,ag a]
   rw[af (λh=>a h.1),af a]
  refine⟨λu=>?_,λu=>?_,λu=>?_,λu=>?_⟩
  .rw[E3,e]
   by_cases a:u=p.1
   .rw[ag a,ag a,ag (by omega)]
   rw[af a,af a,h.v]
  .rw[e];split
   .unfold pE;split<;>omega
   exact h.le u
  .rw[e];split
   .omega
   exact h.z u
  rw[e];split
  .rename_i a;subst a;intro _;refine⟨λk b=>?_,g.2⟩;have i:=d k b;have j:=within_iff.1 g.2 k b;have m:=c k b;omega
  exact h.s u
 rw[af g];have e:tA lim f p=f:=by
  funext u
  unfold tA;rw[af (λh=>g h.2)]
 rw[e];exact h
def Q9:XT prog 227 50 2 where
 u:=underlying227
 k:=⟨_,underlying50⟩
 z:=by kernel_rfl
 eq u v:=by kernel_rfl
 ck b u w:=by
  obtain⟨i,g,_,_,_⟩:=U9.i;have f:(prog).cellsOf 3=1:=by kernel_rfl
  have e:∀w,(Go.sizeOf 3).run prog w=.ok 1 w:=λw=>by rw[run_sizeOf w g,f]
  have c:∀(w:ah) (j:Nat),j<6->(part 3 u.vs.toArray (j*1)).run prog w=.ok (iv (u.at' j)) w:=λw j d=>by
   have:=u.get j d;simp only[eZ] at this⊢;simp[part,isAgg,cW underlying3,this]
  rw[show(10000:Nat)=9999+1 from rfl,Instr.checkKey];simp only[Sem.run_bind,run_underlying underlying50,Result.andThen_ok];simp only[fe,Std.Legacy.Range.size,fk,nG,Nat.div_one];have a:∀j∈List.range' 0 6,j<6:=λj d=>by simpa using d
  generalize List.range' 0 6=is at a
  induction is with
  |nil=>simp
  |cons j is l=>
   have p1:=c w j (a j (by simp));have p2:=pX (P:=prog) underlying3 b 9998 (u.at' j) w;simp only[lZ,Sem.run_bind,e,Result.andThen_ok,p1,p2,Sem.run_pure];exact l λy h=>a y (by simp[h])
section
variable {w0 w:ah} {B:bP} {r r2:Nat} {l l2:List KV} {lim:I6} {f g:Wf}
def wZ(s:St w0 w (star (mapA r l) B)):(l.map (·.1)).Nodup:=by
 obtain⟨x,_⟩:=s.ex;exact x.2.ky
def lH.key(h:lH lim l f)(b:(l.map (·.1)).Nodup){p:KV}(c:p∈l):I6.Le p.1 4/\0<p.2/\p.2<=1000000:=by
 have a:=(h.mem b p).1 c;have:=h.le p.1;exact⟨(h.s p.1 a.1).1,by omega,by omega⟩
def vn(s:St w0 w (star (mapA r l) B))(h:lH lim l f)(o:I6.Le lim 4){b:I6}(n:I6.Le b 1000000)(v:Int):
  CP 245 #[.map (some r),.agg lim.vs.toArray,.agg b.vs.toArray,iv v] w (λx i=>x=.tuple #[]/\∃d,lH lim d (tA lim f (b,v))/\St w0 i (star (mapA r d) B)):=by
 refine(p6 pP.2).2.2.2.1 ((s.yW).aY lim.vs.toArray λk u q=>q.aY b.vs.toArray λr2 y c=>?_);have e:=h.raise o (p:=(b,v)) n;have a:∀{i:ah} {d:List KV},St w0 i (Sep [ay r2 b.vs.toArray 50,ay k lim.vs.toArray 50,mapA r d,B])->St w0 i (star (mapA r d) B):=λs=>(s.aM [2,3]).pair;refine⟨λx m=>x=decide (pE v>f b/\within b lim=true)/\St w0 m (Sep [ay r2 b.vs.toArray 50,ay k lim.vs.toArray 50,mapA r l,B]),?_,b,c.cellsIn 0 rfl,?_⟩
 .rintro m _ ⟨rfl,j⟩-
  by_cases g:pE v>f b/\within b lim=true
  .rw[ag g] at e;exact di g ⟨b,j.cellsIn 0 rfl,Od Q9 (j.out 2 rfl) b (pE v) λz t=>⟨rfl,_,e,a (t.back (show 2<4 by decide))⟩⟩
  rw[af g] at e;exact dz g ⟨rfl,_,e,a j⟩
 refine J1 Q9 (c.out 2 rfl) b ?_;rw[h.get];refine cBq (λg1=>⟨b,c.cellsIn 0 rfl,lim,c.cellsIn 1 rfl,bF (AZ _ _ _) λt j=>⟨_,rfl,?_,c.quiet j⟩⟩) λg1=>⟨by rw[dF (λh=>g1 h.1)],c⟩
 cases hw:within b lim with
 |true=>rw[dT (p:=pE v>f b/\true=true) ⟨g1,rfl⟩]
 |false=>rw[dF (p:=pE v>f b/\false=true) (λh=>by cases h.2)]
def AX(s:St w0 w (star (mapA r l) (star (mapA r2 l2) B)))(h:lH lim l f)(A:lH lim l2 g)(D:I6.Le lim 4):
  CP 246 #[.map (some r),.agg lim.vs.toArray,.map (some r2)] w (λx b=>x=.tuple #[]/\∃a,lH lim a (gY lim f l2)/\St w0 b (star (mapA r a) (star (mapA r2 l2) B))):=by
 refine(p6 pP.2).2.2.2.2.1 ?_;have d:=wZ s.sP;refine(s.sU).aY lim.vs.toArray λj L E=>sW Q9 (E.out 2 rfl) λit M F=>⟨λo m=>∃(S a:List KV),m=l2.length-S.length/\(∀p∈S,p∈l2)/\lH lim a (gY lim f S)/\St w0 o (Sep [Fm r2 it l2 S,ay j lim.vs.toArray 50,mapA r a,B]),⟨_,[],l,rfl,by simp,h,F⟩,?_⟩;rintro o m ⟨S,a,rfl,t,y,z⟩-;refine uZ z (λb=>⟨rfl,a,?_,?_⟩) (λp v u J k=>?_)
 .rw[o7 (Q:=l2) (Q':=S) λp=>⟨b p,t p⟩];exact y
 .have c:St w0 o (Sep [mapA r2 l2,ay j lim.vs.toArray 50,mapA r a,B]):=St.Bs z;exact(c.aM [2,0,3]).triple
 have k:St w0 J (Sep [Fm r2 it l2 (S++[p]),ay j lim.vs.toArray 50,mapA r a,B]):=k;have C:=A.key d v;refine k.aY z6.vs.toArray λK N G=>G.aR 0 rfl p.1.vs rfl (I6.one _) λO n=>⟨lim,n.cellsIn 2 rfl,p.1,n.cellsIn 0 rfl,bg (vn (n.out 3 rfl) y D (vY C.1 (by omega)) p.2) ?_⟩;rintro x P ⟨rfl,i,e,H⟩;have I:=(H.back (show 3<5 by decide)).aM [1,2,3,4];refine⟨rfl,_,?_,S++[p],i,rfl,?_,?_,I⟩
 .rw[aA,aG];omega
 .intro q c;rcases aB.1 c with c|c
  .exact t q c
  rw[aI.1 c];exact v
 rw[<-rJ];exact e
end
section
variable {w0 w:ah} {B:bP} {r r1 r2:Nat} {l l1 l2:List KV} {lim:I6} {f g:Wf}
def St.Yp(s:St w0 w (star (iZ r (.map #[] 0)) B)):St w0 w (star (mapA r []) B):=
 St.xe (f:=λ(x:{p:Array MapEntry×Nat // GJ p.1.toList p.2 []})=>iZ r (.map x.1.1 x.1.2)) ⟨(#[],0),rfl,by simp,by simp,by simp⟩ s
def Co(p q:KV):KV:=(p.1.zip (· + ·) q.1,p.2+q.2)
def Gk(l1 l2:List KV):List KV:=l1.flatMap λp=>l2.map (Co p)
def yf{l1 l2:List KV}{x:KV}:x∈Gk l1 l2<->∃p∈l1,∃q∈l2,Co p q=x:=by simp[Gk]
def Ve{p q:KV}(b:I6.Le p.1 4)(c:I6.Le q.1 4):I6.Le (Co p q).1 1000000:=λk a=>by
 have d:=b k a;have e:=c k a;show 0<=(p.1.zip (· + ·) q.1).at' k/\_;rw[I6.mU _ _ _ _ a];show 0<=p.1.at' k+q.1.at' k/\(p.1.zip (· + ·) q.1).at' k<=1000000;rw[I6.mU _ _ _ _ a];omega
def aaL(s:St w0 w (star (mapA r1 l1) (star (mapA r2 l2) B)))(e:lH lim l1 f)(h:lH lim l2 g)(F:I6.Le lim 4):
  CP 247 #[.agg lim.vs.toArray,.map (some r1),.map (some r2)] w (λx d=>∃c a,x=.map (some c)/\lH lim a (gY lim (λ_=>0) (l1++(l2++Gk l1 l2)))/\St w0 d (star (mapA c a) (star (mapA r1 l1) (star (mapA r2 l2) B)))):=by
 refine(p6 pP.2).2.2.2.2.2.1 ?_;have H:=wZ s;have I:=wZ s.sP;refine(s.sU).aY lim.vs.toArray λi w1 s1=>uY s1 λc w2 c2 s2=>?_;have s3:St w0 w2 (Sep [mapA c [],ay i lim.vs.toArray 50,mapA r1 l1,mapA r2 l2,B]):=St.Yp s2;refine⟨lim,s3.cellsIn 1 rfl,bg (AX (f:=λ_=>0) (g:=f) (s3.aM [0,2,1,3,4]) (lH.nil lim) e F) ?_⟩;rintro x w3 ⟨rfl,l4,K,D⟩;have D:St w0 w3 (Sep [mapA c l4,mapA r1 l1,ay i lim.vs.toArray 50,mapA r2 l2,B]):=D;refine⟨rfl,lim,D.cellsIn 2 rfl,bg (AX (g:=g) (D.aM [0,3,1,2,4]) K h F) ?_⟩;rintro x w5 ⟨rfl,l5,v,V⟩;rw[My] at v;have V:St w0 w5 (Sep [mapA c l5,mapA r2 l2,mapA r1 l1,ay i lim.vs.toArray 50,B]):=V;refine⟨rfl,sW Q9 (V.out 2 rfl) λit w6 s6=>⟨λZ m=>∃(S a:List KV),m=l1.length-S.length/\(∀p∈S,p∈l1)/\lH lim a (gY lim (λ_=>0) ((l1++l2)++Gk S l2))/\St w0 Z (Sep [Fm r1 it l1 S,mapA c a,mapA r2 l2,ay i lim.vs.toArray 50,B]),⟨_,[],l5,rfl,by simp,by simpa[Gk] using v,s6⟩,?_⟩⟩;rintro Z m ⟨S,a,rfl,hS,u,s7⟩-;refine uZ s7 (λd=>⟨c,a,rfl,?_,?_⟩) (λp hp hlen w8 W=>?_)
 .rw[o7 (Q:=l1++(l2++Gk l1 l2)) (Q':=(l1++l2)++Gk S l2) λx=>?_];exact u;have:x∈Gk l1 l2<->x∈Gk S l2:=by
   rw[yf,yf];exact⟨λ⟨p,e,h⟩=>⟨p,d p e,h⟩,λ⟨p,e,h⟩=>⟨p,hS p e,h⟩⟩
  rw[aB,aB,aB,aB,this,or_assoc]
 .have t:St w0 Z (Sep [mapA r1 l1,mapA c a,mapA r2 l2,ay i lim.vs.toArray 50,B]):=St.Bs s7;exact(t.aM [1,0,2,4]).eqv (fF.right (fF.right (fF.right (fF.unit' _))))
 have W:St w0 w8 (Sep [Fm r1 it l1 (S++[p]),mapA c a,mapA r2 l2,ay i lim.vs.toArray 50,B]):=W;have hk:=e.key H hp;refine W.aY z6.vs.toArray λE w9 s9=>s9.aR 0 rfl p.1.vs rfl (I6.one _) λw10 M=>sW Q9 (M.out 3 rfl) λz w11 N=>⟨λo m=>∃(T a:List KV),m=l2.length-T.length/\(∀q∈T,q∈l2)/\lH lim a (gY lim (λ_=>0) (((l1++l2)++Gk S l2)++T.map (Co p)))/\St w0 o (Sep [Fm r2 z l2 T,ay E p.1.vs.toArray 50,Fm r1 it l1 (S++[p]),mapA c a,ay i lim.vs.toArray 50,B]),⟨_,[],a,rfl,by simp,by simpa using u,N⟩,?_⟩;rintro o m ⟨T,a,rfl,hT,u,A⟩-;refine uZ A (λd=>?_) (λq k G X l=>?_)
 .have t:St w0 o (Sep [mapA r2 l2,ay E p.1.vs.toArray 50,Fm r1 it l1 (S++[p]),mapA c a,ay i lim.vs.toArray 50,B]):=St.Bs A;refine⟨_,?_,S++[p],a,rfl,?_,?_,t.aM [2,3,0,4,5]⟩
  .rw[aA,aG];omega
  .intro q k;rcases aB.1 k with k|k
   .exact hS q k
   rw[aI.1 k];exact hp
  rw[o7 (Q:=(l1++l2)++Gk (S++[p]) l2) (Q':=((l1++l2)++Gk S l2)++T.map (Co p)) λx=>?_];exact u;have j:Gk (S++[p]) l2=Gk S l2++l2.map (Co p):=by simp[Gk]
  have r:x∈l2.map (Co p)<->x∈T.map (Co p):=by
   rw[aN,aN];exact⟨λ⟨q,e,h⟩=>⟨q,d q e,h⟩,λ⟨q,e,h⟩=>⟨q,hT q e,h⟩⟩
  rw[j,<-dA,aB,aB (t:=T.map (Co p)),r]
 have l:St w0 X (Sep [Fm r2 z l2 (T++[q]),ay E p.1.vs.toArray 50,Fm r1 it l1 (S++[p]),mapA c a,ay i lim.vs.toArray 50,B]):=l;have r:=h.key I k;refine l.aY z6.vs.toArray λb5 w15 O=>O.aR 0 rfl q.1.vs rfl (I6.one _) λY P=>?_;have j:=P.quiet (aZ.drew Y []);refine⟨lim,j.cellsIn 5 rfl,p.1,j.cellsIn 2 rfl,q.1,j.cellsIn 0 rfl,j.qu (aa2 _ p.1 q.1 (vY hk.1 (by omega)) (vY r.1 (by omega))) λw18 C=>⟨_,rfl,C.cellsIn 5 rfl,?_⟩⟩;rw[fQ (n:=p.2+q.2) ⟨by omega,by omega⟩];refine bg (vn (C.out 4 rfl) u F (b:=(Co p q).1) (Ve hk.1 r.1) (Co p q).2) ?_;rintro x w19 ⟨rfl,L,J,R⟩;have U:=(R.back (show 4<7 by decide)).aM [1,2,3,4,5,6];refine⟨rfl,_,?_,T++[q],L,rfl,?_,?_,U⟩
 .rw[aA,aG];omega
 .intro y t;rcases aB.1 t with t|t
  .exact hT y t
  rw[aI.1 t];exact k
 rw[aS,bH,<-dA,<-rJ];exact J
end
def r5:List Int:=[0,1,2,3,4]
def Bv{a:Int}(h:0<=a/\a<=4):a∈r5:=by
 have:a=0\/a=1\/a=2\/a=3\/a=4:=by omega
 simpa[r5] using this
def OZ:List I6:=r5.flatMap λa=>r5.flatMap λb=>r5.flatMap λc=>r5.flatMap λd=>r5.flatMap λe=>r5.map λf=>⟨a,b,c,d,e,f⟩
def J6{u:I6}(h:I6.Le u 4):u∈OZ:=by
 have a:=Bv (h 0 (by decide));have b:=Bv (h 1 (by decide));have c:=Bv (h 2 (by decide));have d:=Bv (h 3 (by decide));have e:=Bv (h 4 (by decide));have f:=Bv (h 5 (by decide));unfold OZ;exact dx.2 ⟨_,a,dx.2 ⟨_,b,dx.2 ⟨_,c,dx.2 ⟨_,d,dx.2 ⟨_,e,aN.2 ⟨_,f,rfl⟩⟩⟩⟩⟩⟩
def zL(f:Wf):List KV:=(OZ.filter λu=>decide (0<f u)).map λu=>(u,f u)
def lH.zL{lim:I6}{l:List KV}{f:Wf}(h:lH lim l f)(c:(l.map (·.1)).Nodup)(p:KV):p∈l<->p∈zL f:=by
 rw[h.mem c];constructor
 .rintro⟨a,b⟩;exact aN.2 ⟨p.1,cS.2 ⟨J6 (h.s _ a).1,dT a⟩,mG rfl b.symm⟩
 intro a;obtain⟨u,b,rfl⟩:=aN.1 a;exact⟨dG (cS.1 b).2,rfl⟩
def uU(k p:KV):KV:=(p.1.zip (λx y=>if y>x then y else x) k.1,p.2+k.2)
def PJ(v:Int)(p:KV):KV:=(p.1,if v<p.2 then v else p.2)
def zW:Wf:=λ_=>0
def CL(lim:I6)(f g:Wf):Wf:=gY lim f (zL g)
def Lh(lim:I6)(f g:Wf):Wf:=gY lim zW (zL f++(zL g++Gk (zL f) (zL g)))
def Lv(lim:I6)(k:KV)(g:Wf):Wf:=gY lim zW (zL g++([k]++(zL g).map (uU k)))
def L2(lim:I6)(v:Int)(g:Wf):Wf:=gY lim zW ((zL g).map (PJ v))
mutual
def nr(lim:I6):Xv->Wf
 |.mk op u v _ _ args=>
  if op=1 then gY lim zW [(u,v)]
  else if op=2 then (Mb lim args).foldl (CL lim) zW
  else if op=3 then (Mb lim args).foldl (Lh lim) zW
  else if op=4 then Lv lim (u,v) ((Mb lim args).headD zW)
  else if op=5 then L2 lim v ((Mb lim args).headD zW)
  else zW
def Mb(lim:I6):List Xv->List Wf
 |[]=>[]
 |x::l=>nr lim x::Mb lim l
end
theorem N3(lim:I6):∀l:List Xv,Mb lim l=l.map (nr lim)
 |[]=>rfl
 |x::l=>by rw[Mb,N3 lim l];rfl
def uC(lim:I6)(x:Xv):nr lim x=if x.op=1 then gY lim zW [(x.u,x.v)]
  else if x.op=2 then (x.args.map (nr lim)).foldl (CL lim) zW
  else if x.op=3 then (x.args.map (nr lim)).foldl (Lh lim) zW
  else if x.op=4 then Lv lim (x.u,x.v) ((x.args.map (nr lim)).headD zW)
  else if x.op=5 then L2 lim x.v ((x.args.map (nr lim)).headD zW)
  else zW:=by cases x;rw[nr,N3];rfl
def Yd(lim:I6):∀x,nr lim x.er=nr lim x:=Xv.ind λx b=>by
 rw[uC,uC lim x,xZ,cE];have:x.args.map (nr lim ∘ Xv.er)=x.args.map (nr lim):=bq λy a=>b y a;rw[this,Xv.pN];rfl
inductive FE:Xv->Prop where
 |mk {x:Xv} (f:kq x=true) (r:kU x=true) (k:∀y∈x.args,FE y):FE x
def WH{x:Xv}:tR 0 x=0<->kq x=true/\kU x=true:=by
 unfold tR
 cases kq x<;>cases kU x<;>simp
theorem Ee:∀(l:List Xv) (r:Int×Bool),r.2=false->oT kM l r=r
 |[],_,_=>rfl
 |y::l,r,h=>by
  unfold oT;rw[bD,af (by rw[h];decide)];exact Ee l r h
def WI:∀(x:Xv),(iP kM x 0).2=((iP kM x 0).1==0):=Xv.ind λx g=>by
 rw[tH]
 by_cases h:(kM 0 x).2=true
 .rw[ag h];have e:(kM 0 x).1=0:=by simpa[kM] using h
  rw[e];have:∀(l:List Xv),(∀y∈l,(iP kM y 0).2=((iP kM y 0).1==0))->(oT kM l (0,true)).2=((oT kM l (0,true)).1==0):=λl=>by
   induction l with
   |nil=>intro _;rfl
   |cons y l b=>
    intro c;have a:=c y (by simp);unfold oT;rw[bD,ag rfl]
    cases hb:(iP kM y 0).2 with
    |true=>
     have d:(iP kM y 0).1=0:=by rw[hb] at a;simpa using a.symm
     have:iP kM y 0=(0,true):=mG d hb;rw[this];exact b λz f=>c z (by simp[f])
    |false=>
     have:=Ee l (iP kM y 0) hb;unfold oT at this;rw[this];exact a
  exact this x.args g
 rw[af h];have:(kM 0 x).2=false:=by simpa using h
 rw[<-this];rfl
def Wk:∀(x:Xv),(iP kM x 0).1=0->FE x:=Xv.ind λx n h=>by
 rw[tH] at h
 by_cases a:(kM 0 x).2=true
 .rw[ag a] at h;have i:tR 0 x=0:=by simpa[kM] using a
  have e:(kM 0 x).1=0:=i;rw[e] at h;obtain⟨k,m⟩:=WH.1 i;refine .mk k m λy b=>n y b ?_;have:∀(l:List Xv),(oT kM l (0,true)).1=0->∀y∈l,(iP kM y 0).1=0:=λl=>by
   induction l with
   |nil=>intro _ y b;cases b
   |cons z l f=>
    intro c y b;unfold oT at c;rw[bD,ag rfl] at c;have d:=WI z
    cases a:(iP kM z 0).2 with
    |true=>
     have g:(iP kM z 0).1=0:=by rw[a] at d;simpa using d.symm
     have j:iP kM z 0=(0,true):=mG g a;rw[j] at c;rcases aP.1 b with rfl|b
     .exact g
     exact f c y b
    |false=>
     have:=Ee l (iP kM z 0) a;unfold oT at this;rw[this] at c;rw[c,a] at d;cases d
  exact this _ h y b
 rw[af a] at h;exact absurd (show(kM 0 x).2=true by show(tR 0 x==0)=true;rw[show tR 0 x=0 from h];rfl) a
def SE{x:Xv}(h:j4 x=0):FE x:=by
 unfold j4 at h
 split at h
 .cases h
 split at h
 .cases h
 exact Wk x h
section
variable {lim:I6}
def OfC(lim:I6)(x:Xv):Prop:=∀(w0 w:ah) (B:bP),(∀{a},aZ w0 a []->x.In a)->St w0 w B ->
 CP 169 #[.agg x.cells.toArray,.agg lim.vs.toArray] w (λv a=>∃r l,v=.map (some r)/\lH lim l (nr lim x)/\St w0 a (star (mapA r l) B))
def C4{w0 w:ah}{L:List bP}{x y:Xv}{r1 r2:Nat}{i:Nat}(H:OfC lim y)(e:∀{b},aZ w0 b []->x.In b)(s:St w0 w (Sep L)){j1 j2:Nat}(f:L[j1]?=some (ay r1 x.cells.toArray 73))(g:L[j2]?=some (ay r2 lim.vs.toArray 50))(d:x.args[i]?=some y):
  CP 244 #[iv i,pt r1,pt r2] w (λv b=>∃r l,v=.map (some r)/\lH lim l (nr lim y)/\St w0 b (Sep (mapA r l::L))):=by
 refine(p6 pP.2).2.2.1 ?_;have a:=s.quiet (aZ.drew w []);have n:=(ai.1 d).1;obtain⟨q,j,c⟩:=(e a.aK).fl.at d;refine⟨_,_,_,a.aj j1 f 8,av j ⟨by omega,by omega,_,y.u,_,_,_,_,by rw[aq];exact c,lim,a.cellsIn j2 g,bg (H w0 _ _ (λh=>(e h).sub y (ak d)) a) ?_⟩⟩;rintro v o ⟨r,l,rfl,k,m⟩;exact⟨_,rfl,r,l,rfl,k,m⟩
def mM{b c:Type}{f:b->c->b}{a:b}{l:List c}{k:Nat}{x:c}(h:l[k]?=some x):(l.take (k+1)).foldl f a=f ((l.take k).foldl f a) x:=by rw[bJ h,cG];rfl
def adi(hl:I6.Le lim 4):∀x,FE x->fE x<=100000->OfC lim x:=Xv.ind λx ih hg hz A w B hx s=>by
 refine @CK _ x.u _ _ _ _ _ _ _ ?_;have hlen:=tg x;obtain⟨hf,f,hk⟩:kq x=true/\kU x=true/\∀y∈x.args,FE y:=by cases hg;exact⟨‹_›,‹_›,‹_›⟩
 have j:=uC lim x;have HY:∀y∈x.args,OfC lim y:=λy o=>ih y o (hk y o) (by have:=tD o;omega);refine s.one.aY x.cells.toArray λJ w1 s1=>s1.aY lim.vs.toArray λK w2 s2=>uY s2 λz w3 c3 E=>?_;let M:List KV->List bP:=λl=>[mapA z l,ay K lim.vs.toArray 50,ay J x.cells.toArray 73,B];have E:St A w3 (Sep (M [])):=St.Yp E;have Z:∀{w':ah} {l:List KV},St A w' (Sep (M l))->St A w' (star (mapA z l) B):=λs=>(s.aM [0,3]).pair;refine⟨λm w4=>∃r l,m=some r/\lH lim l (nr lim x)/\St A w4 (star (mapA r l) B),?_,_,E.aj 2 rfl 0,?_⟩
 .rintro w4 m ⟨r,l,rfl,n,X⟩-;exact⟨r,l,rfl,n,X⟩
 have hu:x.op≠2->x.op≠3->x.op≠5->I6.Le x.u 4:=λT U h5=>by
  unfold kU at f;rw[af (by rintro(h|h);exact T h;exact U h)] at f
  split at f
  .cases f
  first|rw[af h5] at f|skip
  rw[aF] at f;exact C9 f.1
 have hv:x.op≠2->x.op≠3->1<=x.v/\x.v<=1000000:=λT U=>by
  unfold kU at f;rw[af (by rintro(h|h);exact T h;exact U h)] at f
  split at f
  .cases f
  rename_i h;omega
 by_cases h1:x.op=1
 .rw[ag h1] at j;refine gM h1 ⟨lim,E.cellsIn 1 rfl,x.u,E.bA 2 1 rfl rfl,_,E.aj 2 rfl 7,bg (vn E (lH.nil lim) hl (vY (hu (by omega) (by omega) (by omega)) (by omega)) x.v) ?_⟩;rintro v a ⟨rfl,C,n,Y⟩;exact⟨rfl,z,C,rfl,by rw[j];exact n,Z Y⟩
 rw[af h1] at j;refine iI h1 ?_
 by_cases T:x.op=2
 .rw[ag T] at j;refine gM T ⟨_,_,_,E.aj 2 rfl 8,λi t m=>∃(k:Nat) (l:List KV),i=k/\k<=x.args.length/\m=x.args.length-k/\lH lim l (((x.args.take k).map (nr lim)).foldl (CL lim) zW)/\St A t (Sep (M l)),⟨x.args.length,0,[],rfl,by omega,by omega,lH.nil lim,E⟩,?_⟩;rintro t m i ⟨k,l,rfl,P,hm,n,W⟩-
  by_cases q:(k:Int)<(x.args.length:Int)
  .obtain⟨y,o⟩:=dX x.args k (by omega);have V:=W.quiet (aZ.drew t []);refine di q ⟨lim,V.cellsIn 1 rfl,bg (C4 (HY y (ak o)) hx V (j1:=2) (j2:=1) rfl rfl o) ?_⟩;rintro v w7 ⟨G,c,rfl,d,I⟩;have g:=wZ I;refine⟨_,rfl,I.cellsIn 2 rfl,bg (AX (I.aM [1,0,2,3,4]) n d hl) ?_⟩;rintro v S ⟨rfl,l5,O,D⟩;have D:St A S (Sep [mapA z l5,mapA G c,ay K lim.vs.toArray 50,ay J x.cells.toArray 73,B]):=D;refine⟨rfl,x.args.length-(k+1),by omega,k+1,l5,gC (by omega),by omega,rfl,?_,D.aM [0,2,3,4]⟩;have e:((x.args.take (k+1)).map (nr lim)).foldl (CL lim) zW=CL lim (((x.args.take k).map (nr lim)).foldl (CL lim) zW) (nr lim y):=by
    rw[bJ o,aS,cG];rfl
   rw[e,CL,<-o7 (Q:=c) λp=>d.zL g p];exact O
  obtain rfl:x.args.length=k:=by omega
  rw[aH] at n;exact dz q ⟨z,l,rfl,by rw[j];exact n,Z W⟩
 rw[af T] at j;refine iI T ?_
 by_cases U:x.op=3
 .rw[ag U] at j;let M3:Nat->List KV->List bP:=λr l=>[mapA r l,ay K lim.vs.toArray 50,ay J x.cells.toArray 73,B];refine gM U ⟨_,_,_,E.aj 2 rfl 8,λm i t k'=>∃(k:Nat) (r:Nat) (l:List KV),m=some r/\i=k/\k<=x.args.length/\k'=x.args.length-k/\lH lim l (((x.args.take k).map (nr lim)).foldl (Lh lim) zW)/\St A t (Sep (M3 r l)),⟨x.args.length,0,z,[],rfl,rfl,by omega,by omega,lH.nil lim,E⟩,?_⟩;rintro t k' m i ⟨k,r,l,rfl,rfl,P,hm,n,W⟩-
  by_cases q:(k:Int)<(x.args.length:Int)
  .obtain⟨y,o⟩:=dX x.args k (by omega);have V:=W.quiet (aZ.drew t []);have hn:=wZ V;refine di q ⟨lim,V.cellsIn 1 rfl,bg (C4 (HY y (ak o)) hx V (j1:=2) (j2:=1) rfl rfl o) ?_⟩;rintro v w7 ⟨G,c,rfl,d,I⟩;have g:=wZ I;refine⟨_,rfl,I.cellsIn 2 rfl,bg (aaL (I.aM [1,0,2,3,4]) n d hl) ?_⟩;rintro v S ⟨r5,l5,rfl,O,D⟩;have D:St A S (Sep [mapA r5 l5,mapA r l,mapA G c,ay K lim.vs.toArray 50,ay J x.cells.toArray 73,B]):=D;refine⟨_,rfl,x.args.length-(k+1),by omega,k+1,r5,l5,rfl,gC (by omega),by omega,rfl,?_,D.aM [0,3,4,5]⟩;have e:((x.args.take (k+1)).map (nr lim)).foldl (Lh lim) zW=Lh lim (((x.args.take k).map (nr lim)).foldl (Lh lim) zW) (nr lim y):=by
    rw[bJ o,aS,cG];rfl
   rw[e,Lh,<-o7 (Q:=l++(c++Gk l c)) λp=>?_];exact O;have H:∀p,p∈l<->p∈zL (((x.args.take k).map (nr lim)).foldl (Lh lim) zW):=λp=>n.zL hn p;have R:∀p,p∈c<->p∈zL (nr lim y):=λp=>d.zL g p;have N:p∈Gk l c<->p∈Gk (zL (((x.args.take k).map (nr lim)).foldl (Lh lim) zW)) (zL (nr lim y)):=by
    rw[yf,yf];exact⟨λ⟨a,F,b,L,h⟩=>⟨a,(H a).1 F,b,(R b).1 L,h⟩,λ⟨a,F,b,L,h⟩=>⟨a,(H a).2 F,b,(R b).2 L,h⟩⟩
   rw[aB,aB,aB,aB,H,R,N]
  obtain rfl:x.args.length=k:=by omega
  rw[aH] at n;exact dz q ⟨r,l,rfl,by rw[j];exact n,(W.aM [0,3]).pair⟩
 rw[af U] at j;refine iI U ?_;have one:x.op=4\/x.op=5->∃y,x.args[0]?=some y/\(x.args.map (nr lim)).headD zW=nr lim y:=λh=>by
  have e:x.args.length=1:=by
   unfold kq at hf;rw[af h1,af (by rintro(h|h);exact T h;exact U h)] at hf;rcases h with h|h
   .rw[ag h] at hf;simpa using hf
   rw[af (by omega),ag h,aF] at hf;simpa using hf.1
  cases F:x.args with
  |nil=>rw[F] at e;cases e
  |cons y l=>exact⟨y,rfl,rfl⟩
 have hv':=hv T U
 by_cases h4:x.op=4
 .rw[ag h4] at j;obtain⟨y,o,ey⟩:=one (.inl h4);rw[ey] at j;refine gM h4 (bg (C4 (i:=0) (HY y (ak o)) hx E (j1:=2) (j2:=1) rfl rfl o) ?_);rintro v w12 ⟨G,c,rfl,d,X⟩;have g:=wZ X;refine⟨_,rfl,lim,X.cellsIn 2 rfl,bg (AX (X.aM [1,0,2,3,4]) (lH.nil lim) d hl) ?_⟩;rintro v w13 ⟨rfl,l5,O,Y⟩;have Y:St A w13 (Sep [mapA z l5,mapA G c,ay K lim.vs.toArray 50,ay J x.cells.toArray 73,B]):=Y;have hxu:=hu (by omega) (by omega) (by omega);refine⟨rfl,lim,Y.cellsIn 2 rfl,x.u,Y.bA 3 1 rfl rfl,_,Y.aj 3 rfl 7,bg (vn Y O hl (vY hxu (by omega)) x.v) ?_⟩;rintro v w14 ⟨rfl,l6,hr6,W⟩;rw[rJ] at hr6;have W:St A w14 (Sep [mapA z l6,mapA G c,ay K lim.vs.toArray 50,ay J x.cells.toArray 73,B]):=W;refine⟨rfl,sW Q9 (W.out 1 rfl) λit w15 V=>⟨λe m=>∃(S C:List KV),m=c.length-S.length/\(∀p∈S,p∈c)/\lH lim C (gY lim zW ((c++[(x.u,x.v)])++S.map (uU (x.u,x.v))))/\St A e (Sep [Fm G it c S,mapA z C,ay K lim.vs.toArray 50,ay J x.cells.toArray 73,B]),⟨_,[],l6,rfl,by simp,by rw[oq,fu];exact hr6,V⟩,?_⟩⟩;rintro e m ⟨S,C,rfl,hS,n,I⟩-;refine uZ I (λL=>⟨z,C,rfl,?_,?_⟩) (λp hp hlen2 w18 D=>?_)
  .rw[j,Lv,<-o7 (Q:=(c++[(x.u,x.v)])++S.map (uU (x.u,x.v))) λq=>?_];exact n;have R:∀q,q∈c<->q∈zL (nr lim y):=λq=>d.zL g q;have N:q∈S.map (uU (x.u,x.v))<->q∈(zL (nr lim y)).map (uU (x.u,x.v)):=by
    rw[aN,aN];exact⟨λ⟨a,F,h⟩=>⟨a,(R a).1 (hS a F),h⟩,λ⟨a,F,h⟩=>⟨a,L a ((R a).2 F),h⟩⟩
   rw[aB,aB,aB,aB,R,N,or_assoc]
  .have t:St A e (Sep [mapA G c,mapA z C,ay K lim.vs.toArray 50,ay J x.cells.toArray 73,B]):=St.Bs I;exact(t.aM [1,4]).pair
  have D:St A w18 (Sep [Fm G it c (S++[p]),mapA z C,ay K lim.vs.toArray 50,ay J x.cells.toArray 73,B]):=D;have hkp:=d.key g hp;refine D.aY z6.vs.toArray λb4 w19 s10=>s10.aR 0 rfl p.1.vs rfl (I6.one _) λw20 H=>?_;have P:=H.quiet (aZ.drew w20 []);refine⟨lim,P.cellsIn 3 rfl,p.1,P.cellsIn 0 rfl,x.u,P.bA 4 1 rfl rfl,_,P.aj 4 rfl 7,P.qu (Zk _ p.1 x.u) λw21 s13=>⟨_,rfl,s13.aj 4 rfl 7,s13.cellsIn 3 rfl,?_⟩⟩;have hw:IntKind.i64.wrap (p.2+x.v)=p.2+x.v:=gC (by omega);rw[hw];have hj:I6.Le (uU (x.u,x.v) p).1 1000000:=λk hk=>by
   have N:=hkp.1 k hk;have q2:=hxu k hk;show 0<=(p.1.zip _ x.u).at' k/\(p.1.zip _ x.u).at' k<=1000000;rw[I6.mU _ _ _ _ hk]
   split<;>omega
  refine bg (vn (s13.out 2 rfl) n hl (b:=(uU (x.u,x.v) p).1) hj (uU (x.u,x.v) p).2) ?_;rintro v w22 ⟨rfl,l'',hr2,s14⟩;have s15:=(s14.back (show 2<6 by decide)).aM [1,2,3,4,5];refine⟨rfl,_,?_,S++[p],l'',rfl,?_,?_,s15⟩
  .rw[aA,aG];omega
  .intro q N;rcases aB.1 N with N|N
   .exact hS q N
   rw[aI.1 N];exact hp
  rw[aS,bH,<-dA,<-rJ];exact hr2
 rw[af h4] at j;refine iI h4 ?_
 by_cases h5:x.op=5
 .rw[ag h5] at j;obtain⟨y,o,ey⟩:=one (.inr h5);rw[ey] at j;refine gM h5 (bg (C4 (i:=0) (HY y (ak o)) hx E (j1:=2) (j2:=1) rfl rfl o) ?_);rintro v w12 ⟨G,c,rfl,d,X⟩;have g:=wZ X;refine⟨_,rfl,sW Q9 X λit w15 V=>⟨λe m=>∃(S C:List KV),m=c.length-S.length/\(∀p∈S,p∈c)/\lH lim C (gY lim zW (S.map (PJ x.v)))/\St A e (Sep [Fm G it c S,mapA z C,ay K lim.vs.toArray 50,ay J x.cells.toArray 73,B]),⟨_,[],[],rfl,by simp,lH.nil lim,V⟩,?_⟩⟩;rintro e m ⟨S,C,rfl,hS,n,I⟩-;refine uZ I (λL=>⟨z,C,rfl,?_,?_⟩) (λp hp hlen2 w18 D=>?_)
  .rw[j,L2,<-o7 (Q:=S.map (PJ x.v)) λq=>?_];exact n;have R:∀q,q∈c<->q∈zL (nr lim y):=λq=>d.zL g q;rw[aN,aN];exact⟨λ⟨a,F,h⟩=>⟨a,(R a).1 (hS a F),h⟩,λ⟨a,F,h⟩=>⟨a,L a ((R a).2 F),h⟩⟩
  .have t:St A e (Sep [mapA G c,mapA z C,ay K lim.vs.toArray 50,ay J x.cells.toArray 73,B]):=St.Bs I;exact(t.aM [1,4]).pair
  have D:St A w18 (Sep [Fm G it c (S++[p]),mapA z C,ay K lim.vs.toArray 50,ay J x.cells.toArray 73,B]):=D;have hkp:=d.key g hp;refine D.aY z6.vs.toArray λb4 w19 s10=>s10.aR 0 rfl p.1.vs rfl (I6.one _) λw20 H=>⟨lim,H.cellsIn 3 rfl,p.1,H.cellsIn 0 rfl,_,H.aj 4 rfl 7,bg (vn (H.out 2 rfl) n hl (b:=(PJ x.v p).1) (vY hkp.1 (by omega)) (PJ x.v p).2) ?_⟩;rintro v w22 ⟨rfl,l'',hr2,s14⟩;have s15:=(s14.back (show 2<6 by decide)).aM [1,2,3,4,5];refine⟨rfl,_,?_,S++[p],l'',rfl,?_,?_,s15⟩
  .rw[aA,aG];omega
  .intro q N;rcases aB.1 N with N|N
   .exact hS q N
   rw[aI.1 N];exact hp
  rw[aS,bH,<-rJ];exact hr2
 rw[af h5] at j;exact iI h5 ⟨z,[],rfl,by rw[j];exact lH.nil lim,Z E⟩
end
abbrev oQ (a:OA) (c:Nat) (l:List Int):bP:=iQ 2 1 i1 a c l
def Yq(T:List Int)(i k:Nat):List Int:=T.set i (if T.getD k 0>T.getD i 0 then T.getD k 0 else T.getD i 0)
def XN(T:List Int)(i k:Nat):(Yq T i k).length=T.length:=by simp[Yq]
section
variable {w0 w:ah} {B:bP} {g r3 r5:Nat} {n:Nat} {T:List Int} {i k:Nat}
def Yo(g r3 r5 n i:Nat)(T:List Int)(B:bP):List bP:=[oQ (qs g) n T,ay r3 #[.slice (qs g) n n] 165,ay r5 #[iv i] 3,B]
def OM(s:St w0 w (Sep (Yo g r3 r5 n i T B)))(b:k<T.length):w.cell? (Addr.add ⟨g,0,none⟩ (((k:Nat):Int).toNat*1))=some (iv (T.getD k 0)):=by
 obtain⟨q,c,a⟩:=iW (St.rd gm (s.out 0 rfl)) (i:=k) (x:=T.getD k 0) (by rw[au,gE b];rfl)
 cases c;exact a
def aaC(s:St w0 w (Sep (Yo g r3 r5 n i T B)))(f:T.length=n)(hi:i<n)(e:k<n):
  CP 172 #[iv k,pt r3,pt r5] w (λr a=>r=.tuple #[]/\St w0 a (Sep (Yo g r3 r5 n i (Yq T i k) B))):=by
 refine pP.2.2.2.2.2.1 ?_;have a:=s.quiet (aZ.drew w []);have b:=a.aj 1 rfl 0;have c:=a.aj 2 rfl 0;refine⟨_,_,_,b,_,c,_,_,_,b,_,c,av rfl ⟨by omega,by omega,_,OM a (by omega),_,_,_,b,av rfl ⟨by omega,by omega,_,OM a (by omega),av rfl ⟨by omega,by omega,?_⟩⟩⟩⟩;rw[aq];exact St.kP (v:=iv) rfl (a.out 0 rfl) (i:=i) (by omega) λh d=>⟨rfl,d.back (show 0<4 by decide)⟩
def wE(m:I6):Nat->Int
 |0=>1
 |j+1=>wE m j*(m.at' (5-j)+1)
theorem BN{m:I6}(h:I6.Le m 4):∀j,j<=6->1<=wE m j/\wE m j<=5 ^ j
 |0,_=>by show(1:Int)<=1/\(1:Int)<=5 ^ 0;decide
 |j+1,c=>by
  have e:=BN h j (by omega);have d:=h (5-j) (by omega);have a:wE m j*1<=wE m j*(m.at' (5-j)+1):=cw (by omega) (by omega);have b:wE m j*(m.at' (5-j)+1)<=wE m j*5:=cw (by omega) (by omega);show 1<=wE m j*_/\wE m j*_<=5 ^ j*5;omega
def sE(m u:I6)(i:Nat):Nat->List Int->List Int
 |0,T=>T
 |j+1,T=>if 0<u.at' (5-j) then Yq (sE m u i j T) i (i-(wE m j).toNat) else sE m u i j T
theorem uI(m u:I6)(i:Nat)(T:List Int):∀j,(sE m u i j T).length=T.length
 |0=>rfl
 |j+1=>by
  rw[sE]
  split
  .rw[XN,uI m u i T j]
  exact uI m u i T j
def Vp{m u:I6}(h:I6.Le m 4)(s:St w0 w (Sep (Yo g r3 r5 n i T B)))(z:T.length=n)(hi:i<n)(A:∀j,j<6->0<u.at' (5-j)->wE m j<=i)(G:n<=100000):
  CP 171 #[.agg m.vs.toArray,.agg u.vs.toArray,iv i,.func (.func 172) #[] #[pt r3,pt r5]] w (λr a=>r=.tuple #[]/\St w0 a (Sep (Yo g r3 r5 n i (sE m u i 6 T) B))):=by
 refine pP.2.2.2.2.1 (s.aY m.vs.toArray λo K C=>C.aY u.vs.toArray λp L D=>?_);let M:List Int->List bP:=λT=>ay p u.vs.toArray 50::ay o m.vs.toArray 50::Yo g r3 r5 n i T B;refine⟨λst k l x=>∃j:Nat,st=wE m j/\k=5-(j:Int)/\j<=6/\x=6-j/\St w0 l (Sep (M (sE m u i j T))),⟨6,0,rfl,rfl,by omega,by omega,D⟩,?_⟩;rintro l x st k ⟨j,rfl,rfl,v,J,c⟩-;have H:=BN h j v;have F:(5:Int) ^ j<=15625:=by
  have:j=0\/j=1\/j=2\/j=3\/j=4\/j=5\/j=6:=by omega
  rcases this with rfl|rfl|rfl|rfl|rfl|rfl|rfl<;>decide
 by_cases f:j<6
 .have a:5-j<6:=by omega
  have t:(5:Int)-(j:Int)=((5-j:Nat):Int):=by omega
  rw[t];refine di (by omega) ⟨λq=>St w0 q (Sep (M (sE m u i (j+1) T))),?_,by omega,by omega,u.at' (5-j),by rw[iC];exact br c 0 rfl a,?_⟩
  .rintro q d -;have y:=h (5-j) a;have r:=BN h (j+1) (by omega);have b:wE m (j+1)=wE m j*(m.at' (5-j)+1):=rfl;have e:(5:Int) ^ (j+1)<=15625:=by
    have:j=0\/j=1\/j=2\/j=3\/j=4\/j=5:=by omega
    rcases this with rfl|rfl|rfl|rfl|rfl|rfl<;>decide
   refine⟨by omega,by omega,m.at' (5-j),by rw[iC];exact br d 1 rfl a,6-(j+1),by omega,j+1,?_,?_,by omega,rfl,d⟩
   .rw[fQ (n:=m.at' (5-j)+1) ⟨by omega,by omega⟩,<-b,gC (by omega)]
   rw[gC (by omega)];omega
  by_cases b:0<u.at' (5-j)
  .have I:=A j f b;have e:sE m u i (j+1) T=Yq (sE m u i j T) i (i-(wE m j).toNat):=by rw[sE,ag b]
   have r:IntKind.i64.wrap ((i:Int)-wE m j)=((i-(wE m j).toNat:Nat):Int):=by rw[gC (by omega)];omega
   refine di b (iJ (by kernel_rfl) ?_);rw[r];have d:St w0 l (Sep (Yo g r3 r5 n i (sE m u i j T) (Sep [B,ay p u.vs.toArray 50,ay o m.vs.toArray 50]))):=((c.aM [2,3,4,5,0,1]).split [_,_,_]).eqv (fF.right (fF.unit _)) |> St.cat;refine bF (aaC d (by rw[uI,z]) hi (by omega)) λN y=>⟨rfl,?_⟩;rw[e];have E:=y.mT [_,_,_];exact E.aM [4,5,0,1,2,3]
  have e:sE m u i (j+1) T=sE m u i j T:=by rw[sE,af b]
  exact dz b (by rw[e];exact c)
 obtain rfl:j=6:=by omega
 exact dz (by decide) ⟨rfl,c.aM [2,3,4,5]⟩
end
def yR(_ u:I6)(k:Nat):I6:=u.put k (u.at' k-1)
def CT(m u:I6)(T:List Int):Nat->Int
 |0=>-1
 |k+1=>if u.at' k=0 then CT m u T k else if T.getD (rk m (yR m u k)).toNat 0>CT m u T k then T.getD (rk m (yR m u k)).toNat 0 else CT m u T k
def LR{m u:I6}(h:rP m u){k:Nat}(b:k<6)(d:u.at' k≠0):rP m (yR m u k):=⟨h.mm,λj a=>by
 have c:=h.u j a;have f:=h.u k b;unfold yR;rw[I6.mq _ _ _ _ b a]
 split
 .rename_i e;subst e;omega
 exact c⟩
def Sw{w:ah}{m u:I6}(h:rP m u)(K:pr m.l<=1024){a:OA}{c:Nat}{T:List Int}(M:iA 1 i1 w a T)(S:pr m.l=T.length):
  CP 173 #[.agg m.vs.toArray,.agg u.vs.toArray,.slice a T.length c] w (λr b=>r=iv (CT m u T 6)/\aZ w b []):=by
 refine pP.2.2.2.2.2.2.1 (bE m.vs.toArray λz Y N=>N.aY u.vs.toArray λA Z B=>⟨u,B.cellsIn 0 rfl,⟨λn i D x=>∃k:Nat,i=k/\k<=6/\x=6-k/\n=CT m u T k/\St w D (Sep [ay A u.vs.toArray 50,ay z m.vs.toArray 50,emp]),⟨6,0,rfl,by omega,by omega,rfl,B⟩,?_⟩⟩);rintro D x n i ⟨k,rfl,U,W,rfl,o⟩-
 by_cases t:(k:Int)<6
 .have b:k<6:=by omega
  refine di t ⟨λn E=>n=CT m u T (k+1)/\St w E (Sep [ay A u.vs.toArray 50,ay z m.vs.toArray 50,emp]),?_,by omega,by omega,u.at' k,u.get k b,?_⟩
  .rintro E n ⟨rfl,d⟩-;exact⟨6-(k+1),by omega,k+1,inc (by decide) b,by omega,rfl,rfl,d⟩
  by_cases d:u.at' k=0
  .exact gM d ⟨by rw[CT,ag d],o⟩
  have g:=LR h b d;have f:=o8 g 6 (aD _);rw[<-uE] at f;have V:=h.u k b;have I:=h.mm k b;have G:CT m u T (k+1)=if T.getD (rk m (yR m u k)).toNat 0>CT m u T k then T.getD (rk m (yR m u k)).toNat 0 else CT m u T k:=by rw[CT,af d]
  refine iI d ⟨u,o.cellsIn 0 rfl,o.aY z6.vs.toArray λX w5 O=>O.aR 0 rfl u.vs rfl (I6.one _) λw6 P=>⟨by omega,by omega,?_⟩⟩;rw[iC,gC (by omega)];refine P.cL 0 rfl b rfl λQ p=>?_;rw[I6.nW _ _ _ b] at p;refine⟨m,p.cellsIn 2 rfl,yR m u k,p.cellsIn 0 rfl,bg (ZZ Q m (yR m u k)) ?_⟩;rintro v R ⟨⟨n,e,rfl,H,J⟩,F⟩;obtain rfl:=H.2 ⟨K,g⟩;obtain rfl:=J rfl;have C:=(p.quiet F).aM [1,2,3];obtain⟨j,y⟩:=cZ f.1;have s:j<T.length:=by omega
  obtain⟨q,L,r⟩:=iW (M.aK C.aK) (i:=j) (x:=T.getD j 0) (by rw[au,gE s];rfl);refine⟨_,_,rfl,cT rfl (av L ⟨by show 0<=ku m (yR m u k) 6;omega,by show ku m (yR m u k) 6<_;omega,T.getD j 0,?_,?_,C⟩)⟩
  .show R.cell? (Addr.add q ((ku m (yR m u k) 6).toNat*1))=_;rw[y,aq];exact r
  rw[G];show _=if T.getD (ku m (yR m u k) 6).toNat 0>_ then T.getD (ku m (yR m u k) 6).toNat 0 else _
  rw[y,aq]
 obtain rfl:k=6:=by omega
 exact cF (by simp) ⟨rfl,o.aK⟩
structure Of where
 b:Int
 want:I6
 v:Int
def Of.cells(o:Of):List Value:=iv o.b::o.want.on [iv o.v]
def Of.len(o:Of):o.cells.length=8:=rfl
def tS(o:Of):Bool:=o.want.l.all lX&&(decide (o.want≠z6)&&(decide (1<=o.v)&&decide (o.v<=1000000)))
def PT(w:ah)(o:Of):CP 278 #[.agg o.cells.toArray] w (λr e=>r=.bool (tS o)/\aZ w e []):=by
 refine @CF _ o.want _ _ _ (bE o.cells.toArray λg f d=>⟨o.want,d.bA 0 1 rfl rfl,d.qu (lI f o.want) λi a=>⟨_,rfl,?_⟩⟩)
 cases hq:o.want.l.all lX with
 |false=>exact cF rfl ⟨by rw[tS,hq];rfl,a.aK⟩
 |true=>
  have b:tS o=(decide (o.want≠z6)&&(decide (1<=o.v)&&decide (o.v<=1000000))):=by rw[tS,hq];rfl
  refine cT rfl ⟨o.want,a.bA 0 1 rfl rfl,?_⟩;rw[I6.beq_eq]
  by_cases c:o.want=z6
  .exact cF (by rw[dT c];rfl) ⟨by rw[b,dF (λh=>h c)];rfl,a.aK⟩
  rw[dT c,aO] at b;refine cT (by rw[dF c];rfl) ⟨_,a.aj 0 rfl 7,?_⟩
  by_cases g1:1<=o.v
  .rw[dT g1,aO] at b;exact di g1 ⟨_,a.aj 0 rfl 7,by rw[b],a.aK⟩
  exact dz g1 ⟨by rw[b,dF g1];rfl,a.aK⟩
end Go.Proofs.YtmhhlijfepaphaaGreatDoor
namespace Go.Vc
open Go
def Gt{P:Program}{c:FuncId}{f:List Value}{a:FuncId->Nat->Loop}{w0 w:World}{N R:World->Prop}{X:List (Nat×(World->Prop))}{L:List bP}(s:St w0 w (Sep L))(d:∀fn D,(a fn D).pending=none/\(a fn D).state=.ready) (k:∀fn l i,St w0 i (Sep (iZ l (.loop (a fn w.heap.size))::iZ w.heap.size (.deferred (some []))::L)) ->
   Calls P c (Value.func (.yield l) #[] #[]::f).toArray i (wo λ_ j=>∃b,St w0 j (Sep (iZ l (.loop (a fn w.heap.size))::b))/\∀e,St w0 e (Sep b)->N e)):Ik P c f a w N R X:=by
 intro fn;have p:=s.ZA (.deferred (some []));have m:(w.alloc (.deferred (some []))).heap.size=w.heap.size+1:=by rw[World.size_alloc]
 have g:=p.ZA (.loop (a fn w.heap.size));rw[m] at g;refine(k fn _ _ g).mono λe j ⟨v,o,b,h,n⟩=>⟨⟨v,o⟩,_,h.xk 0 rfl,?_,?_⟩
 .rw[(d fn _).2];grind
 rw[(d fn _).1];exact n _ ((h.putAt 0 rfl _).second)
end Go.Vc
namespace Go.Proofs.YtmhhlijfepaphaaGreatDoor
open Go Go.Vc _root_.Go.Proofs.Tryz
theorem UI{m u:I6}(h:rP m u):∀j,j<=6->ku m u (6-j)*wE m j<=ku m u 6
 |0,_=>by show ku m u 6*1<=_;omega
 |j+1,f=>by
  have a:=UI h j (by omega);rw[show 6-j=(5-j)+1 by omega] at a;have g:=BN h.mm j (by omega);have d:=h.u (5-j) (by omega);have b:ku m u (5-j+1)=ku m u (5-j)*(m.at' (5-j)+1)+u.at' (5-j):=rfl;rw[b,eY] at a;have e:0<=u.at' (5-j)*wE m j:=dh d.1 (by omega);rw[show 6-(j+1)=5-j by omega];have c:ku m u (5-j)*wE m (j+1)=ku m u (5-j)*(m.at' (5-j)+1)*wE m j:=by
   show ku m u (5-j)*(wE m j*(m.at' (5-j)+1))=_;rw[om (wE m j),nu]
  rw[c];omega
def aaw{m u:I6}(h:rP m u){j:Nat}(f:j<6)(i:0<u.at' (5-j)):wE m j<=rk m u:=by
 have b:=UI h j (by omega);rw[show 6-j=(5-j)+1 by omega] at b;have a:ku m u (5-j+1)=ku m u (5-j)*(m.at' (5-j)+1)+u.at' (5-j):=rfl;have c:=(o8 h (5-j) (by omega)).1;have g:=h.mm (5-j) (by omega);have k:=BN h.mm j (by omega);have d:1<=ku m u (5-j+1):=by
  rw[a];have:=dh c (show 0<=m.at' (5-j)+1 by omega);omega
 have e:1*wE m j<=ku m u (5-j+1)*wE m j:=bt d (by omega);show wE m j<=ku m u 6;omega
def AU(m:I6)(F:Wf):Nat->List Int
 |0=>List.replicate (bI m) 0
 |i+1=>sE m (cK m i) i 6 ((AU m F i).set i (F (cK m i)))
theorem xN(m:I6)(F:Wf):∀i,(AU m F i).length=bI m
 |0=>bS
 |i+1=>by rw[AU,uI,bf,xN m F i]
def AT(m:I6)(F:Wf):List Int:=AU m F (bI m)
section
variable {w0 w:ah} {B:bP} {m:I6} {g r2 r3 r4 r5 rm l D:Nat} {lp:Loop} {F:Wf} {lk:List KV}
def aaD(m:I6)(F:Wf)(g r2 r3 r4 r5 rm:Nat)(lk:List KV)(B:bP)(i:Nat):List bP:=
 [oQ (qs g) (bI m) (AU m F i),ay r3 #[.slice (qs g) (bI m) (bI m)] 165,ay r5 #[iv i] 3,ay r4 #[.map (some rm)] 227,mapA rm lk,ay r2 m.vs.toArray 50,B]
def QM(d:I6.Le m 4)(y:lH m lk F){i:Nat}(hi:i<bI m){Fr:bP}{n1:Int}{u1:I6}{n2:Int}{a1:OA}{l1:Nat}{c1:Nat}{u2:I6}{r1:Nat}{n3:Int}{u3:I6}{n4:Int}{a2:OA}{l2:Nat}{c2:Nat}{n5:Int}{u4:I6}{n6:Int}{u5:I6}{n7:Int}{x1:Nat->Value}{u6:I6}{v1:Value}{fn:FuncId}(a:lp=nN n1 u1 n2 a1 l1 c1 u2 r1 r2 n3 u3 n4 a2 l2 c2 n5 u4 n6 u5 n7 r3 r4 x1 r5 u6 v1 fn D)(h:St w0 w (star (Sep (iZ l (.loop lp)::aaD m F g r2 r3 r4 r5 rm lk B i)) Fr)):
  vu prog l #[.agg (cK m i).vs.toArray] w λb r=>b=true/\St w0 r (star (Sep (iZ l (.loop lp)::aaD m F g r2 r3 r4 r5 rm lk B (i+1))) Fr):=by
 have H:=lC d;have u:=xN m F i;have s:=h.open;refine tV (n1:=n1) (u1:=u1) (n2:=n2) (a1:=a1) (l1:=l1) (c1:=c1) (u2:=u2) (r1:=r1) (r2:=r2) (n3:=n3) (u3:=u3) (n4:=n4) (a2:=a2) (l2:=l2) (c2:=c2) (n5:=n5) (u4:=u4) (n6:=n6) (u5:=u5) (n7:=n7) (r3:=r3) (r4:=r4) (x1:=x1) (r5:=r5) (u6:=u6) (v1:=v1) (s.xk 0 rfl) (by rw[a];rfl) (by rw[a];rfl) (by rw[a];rfl) (by rw[a];rfl) ?_;unfold p8;have f:lp.state=.ready:=by rw[a];rfl
 have e:({({lp with state:=.busy}:Loop) with state:=.ready,pending:=none}:Loop)=lp:=by rw[a];rfl
 clear a;refine s.aY z6.vs.toArray λz I A=>A.aR 0 rfl (cK m i).vs rfl (I6.one _) λr k=>⟨lp,k.xk 1 rfl,f,?_⟩;have b:=(k.putAt 1 rfl (.loop {lp with state:=.busy})).quiet (aZ.drew _ []);refine⟨_,_,_,b.aj 3 rfl 0,_,b.aj 4 rfl 0,_,b.aj 5 rfl 0,_,b.cellsIn 0 rfl,J1 Q9 (b.out 6 rfl) (cK m i) ?_⟩;rw[y.get];refine⟨b.aj 4 rfl 0,b.aj 3 rfl 0,av rfl ⟨by omega,by omega,?_⟩⟩;rw[aq];refine St.kP (v:=iv) rfl (b.out 2 rfl) (i:=i) (by omega) λG c=>?_;have c:=c.back (i:=2) (by show 2<10;decide);refine⟨_,c.cellsIn 7 rfl,_,c.cellsIn 0 rfl,_,c.aj 4 rfl 0,?_⟩;have C:St w0 G (Sep (Yo g r3 r5 (bI m) i ((AU m F i).set i (F (cK m i))) (Sep [ay z (cK m i).vs.toArray 50,iZ l (.loop {lp with state:=.busy}),ay r4 #[.map (some rm)] 227,mapA rm lk,ay r2 m.vs.toArray 50,B,Fr]))):=
  ((c.aM [2,3,4,0,1,5,6,7,8,9]).split [_,_,_]).eqv (fF.right (fF.unit _)) |> St.cat
 refine bg (Vp d C (by rw[bf,u]) hi (λj t x=>?_) (by omega)) ?_
 .have:=aaw (gw d i) t x;rw[nQ d i hi] at this;exact this
 rintro v J ⟨rfl,E⟩;have o:=E.mT [_,_,_];refine⟨rfl,_,o.aj 2 rfl 0,o.cL 2 rfl (by show 0<1;decide) rfl λK p=>⟨_,p.xk 4 rfl,rfl,?_⟩⟩;have q:=p.putAt 4 rfl (.loop lp);rw[fQ (n:=(i:Int)+1) ⟨by omega,by omega⟩] at q;rw[e];exact(q.aM [4,0,1,2,5,6,7,8,9]).shut
end
set_option maxHeartbeats 4000000 in
theorem XJ{w:ah}{x:Xv}{m:I6}(hm:I6.Le m 4)(hp:pr m.l<=1024)(hz:fE x<=100000)(hx:x.In w):
  CP 110 #[.agg x.cells.toArray,.agg m.vs.toArray] w (λr d=>(j4 x≠0/\r=.tuple #[.slice none 0 0,iv (j4 x)]/\aZ w d [])\/(j4 x=0/\∃g,r=.tuple #[.slice (qs g) (bI m) (bI m),iv 0]/\St w d (Sep [oQ (qs g) (bI m) (AT m (nr m x))]))):=by
 refine zG (u1:=x.u) ?_;unfold wj;refine bE x.cells.toArray λM p N=>N.aY m.vs.toArray λr2 W q=>?_;have z:∀{d},aZ w d []->x.In d:=λF=>hx.aK F;refine⟨_,x.u,_,_,_,_,q.cellsIn 1 rfl,bF (Lb hz (z q.aK)) λU j=>?_⟩;have E:=q.quiet j;refine⟨_,rfl,cBq (λC=>.inl ⟨C,rfl,E.aK⟩) λC=>⟨m,E.cellsIn 0 rfl,bF (lI U m) λV o=>?_⟩⟩;have I:=E.quiet o;rw[ag (leq hm)];refine⟨_,rfl,cF rfl ⟨m,I.cellsIn 0 rfl,bF (CQ V m) λP L=>?_⟩⟩;have O:=I.quiet L;rw[ag ⟨leq hm,hp⟩];have F:=lC hm;refine⟨_,rfl,cF (by simp;omega) ?_⟩;rw[<-F.2.1];let A:List bP:=[ay r2 m.vs.toArray 50,ay M x.cells.toArray 73,emp];refine⟨λr3 r4 S=>∃g rm lk,lH m lk (nr m x)/\St w S (Sep (oQ (qs g) (bI m) (List.replicate (bI m) 0)::mapA rm lk::ay r3 #[.slice (qs g) (bI m) (bI m)] 165::ay r4 #[.map (some rm)] 227::A)),?_,?_⟩
 .rintro S r3 r4 ⟨g,rm,lk,y,t⟩ Z;refine t.aY #[iv 0] λr5 X J=>J.cL 0 rfl (by decide) rfl λY G=>⟨m,G.cellsIn 5 rfl,bg (XW G m hm hp) ?_⟩;rintro v c ⟨b,rfl,s⟩;refine⟨_,rfl,Gu (by kernel_rfl) ?_⟩;have s:St w c (Sep (ay b m.vs.toArray 50::ay r5 #[iv 0] 3::oQ (qs g) (bI m) (List.replicate (bI m) 0)::mapA rm lk::ay r3 #[.slice (qs g) (bI m) (bI m)] 165::ay r4 #[.map (some rm)] 227::A)):=s;refine Gt s (λ_ _=>⟨rfl,rfl⟩) λfn l K e=>?_;have f:=(e.aM [0,4,6,3,7,5,8,1,2]).split [_,_,_,_,_,_,_,_];exact bF (NB hm (R:=λi=>Sep (iZ l (.loop _)::aaD m (nr m x) g r2 r3 r4 r5 rm lk (iZ c.heap.size (.deferred (some []))) i)) (λi p Fr H h=>QM (B:=iZ c.heap.size (.deferred (some []))) (D:=c.heap.size) hm y H rfl h) f) λQ k=>⟨_,rfl,_,k.first,λT a=>⟨_,_,_,a.aj 1 rfl 0,a.xk 6 rfl,.inr ⟨C,g,rfl,(a.putAt 6 rfl (.deferred none)).aM [0]⟩⟩⟩
 have t:=O.quiet (aZ.drew P []);refine⟨_,x.u,_,_,_,_,t.cellsIn 1 rfl,m,t.cellsIn 0 rfl,?_⟩;have h:St w P.drew (Sep (emp::emp::emp::emp::A)):=t.aM [3,3,3,3,0,1,2];have G:∀{f j o:bP} {d:ah} {R:Option Addr->Nat->Nat->ah->Prop},St w d (Sep (emp::f::j::o::A))->(∀g b,St w b (Sep (oQ (qs g) (bI m) (List.replicate (bI m) 0)::f::j::o::A))->R (qs g) (bI m) (bI m) b) ->
   kg prog (Instr.makeSlice 165 (iv (bI m:Nat)) (iv (bI m:Nat))) d λe p=>∃a l c,e=.slice a l c/\R a l c p:=by
  intro f j o d R s k;refine iD KZ gm (x:=0) rfl s (n:=bI m) (by omega) (by omega) λg b _ c=>?_;have q:St w b (Sep (oQ (qs g) (bI m) (List.replicate (bI m) 0)::emp::f::j::o::A)):=c;exact k g b (q.aM [0,2,3,4,5,6,7])
 have i:∀{a j o:bP} {d:ah} {R:Option Nat->ah->Prop},St w d (Sep (a::emp::j::o::A))->(∀rm lk b,lH m lk (nr m x)->St w b (Sep (a::mapA rm lk::j::o::A))->R (some rm) b) ->
   CC 169 #[.agg (iv x.op::x.u.on [iv x.v,.slice x.a x.args.length x.c]:List Value).toArray,.agg m.vs.toArray] d λe p=>∃H:Option Nat,e=.returned (.map H)/\R H p:=by
  intro a j o d R s k;refine bg (adi hm x (SE C) hz w _ _ z s) ?_;rintro v b ⟨rm,lk,rfl,y,c⟩;have q:St w b (Sep (mapA rm lk::a::emp::j::o::A)):=c;exact⟨_,rfl,k rm lk b y (q.aM [1,0,3,4,5,6,7])⟩
 have H:∀{a f o:bP} {d:ah} {R:Nat->ah->Prop},St w d (Sep (a::f::emp::o::A))->(∀r b,St w b (Sep (a::f::ay r #[.slice none 0 0] 165::o::A))->R r b)->gK d (.cells #[.slice none 0 0] 165) R:=by
  intro a f o d R s k;exact s.aY _ λr b c=>k r b (c.aM [1,2,0,4,5,6,7])
 have e:∀{a f j:bP} {d:ah} {R:Nat->ah->Prop},St w d (Sep (a::f::j::emp::A))->(∀r b,St w b (Sep (a::f::j::ay r #[.map none] 227::A))->R r b)->gK d (.cells #[.map none] 227) R:=by
  intro a f j d R s k;exact s.aY _ λr b c=>k r b (c.aM [1,2,3,0,5,6,7])
 have K:∀{a f o:bP} {r:Nat} {v:Value} {d:ah} {R:ah->Prop},v.oneCell'=true->St w d (Sep (a::f::ay r #[.slice none 0 0] 165::o::A))->(∀b,St w b (Sep (a::f::ay r #[v] 165::o::A))->R b)->kB d ⟨r,0,none⟩ v R:=by
  intro a f o r v d R c s k;exact s.cL 2 rfl (by show 0<1;decide) c k
 have J:∀{a f j:bP} {r:Nat} {v:Value} {d:ah} {R:ah->Prop},v.oneCell'=true->St w d (Sep (a::f::j::ay r #[.map none] 227::A))->(∀b,St w b (Sep (a::f::j::ay r #[v] 227::A))->R b)->kB d ⟨r,0,none⟩ v R:=by
  intro a f j r v d R c s k;exact s.cL 3 rfl (by show 0<1;decide) c k
 have c:∀{a f j o:bP} {d:ah} {Q:Prop},St w d (Sep (a::f::j::o::A))->Q->aU d ⟨r2,0,none⟩ 0 m.vs/\aU d ⟨M,0,none⟩ 0 (iv x.op::x.u.on [iv x.v,.slice x.a x.args.length x.c])/\Q:=λs k=>⟨s.cellsIn 4 rfl,s.cellsIn 5 rfl,k⟩;clear N q E I O t j o L
 repeat' (with_reducible first
  |refine G h λg p h=>?_
  |refine i h λrm lk p y h=>?_
  |refine H h λr p h=>?_
  |refine e h λr p h=>?_
  |refine K rfl h λp h=>?_
  |refine J rfl h λp h=>?_
  |refine c h ?_
  |exact⟨_,_,_,y,h⟩
  |refine⟨?_,?_⟩)
def oB(q:I6)(v:Int)(c:Ch):Int:=if c.want=q then (if cost c.p q>v then cost c.p q else v) else v
def Ae(q:I6)(v:Int)(x:Of):Int:=if x.want=q then (if x.v>v then x.v else v) else v
def Bk(l:List Ch)(bids:List Of)(q:I6):Int:=bids.foldl (Ae q) (l.foldl (oB q) 0)
abbrev Q5 (w:ah) (a:OA) (l:List Of):Prop:=iA 8 Of.cells w a l
def Of.one(o:Of):∀v∈o.cells,v.oneCell'=true:=by
 intro v a;simp[Of.cells,I6.on] at a;rcases a with rfl|rfl|rfl|rfl|rfl|rfl|rfl|rfl<;>rfl
def vX:Of:=⟨0,z6,0⟩
def Wd{w:ah}{a1 a2:OA}{c1 c2 x z:Nat}{l:List Ch}{bids:List Of}(L:zO w a1 l)(Q:l.length<=1000)(K:∀c∈l,c.Ok)(I:Q5 w a2 bids)(J:bids.length<=100000)(G:w.cell? ⟨x,0,none⟩=some (.slice a1 l.length c1))(H:w.cell? ⟨z,0,none⟩=some (.slice a2 bids.length c2))(q:I6):
  CP 340 #[.agg q.vs.toArray,pt x,pt z] w (λr b=>r=iv (Bk l bids q)/\aZ w b []):=by
 refine(p6 pP.2).1 (bE q.vs.toArray λN R D=>⟨_,_,_,iV G D.aK,?_⟩);let M:List bP:=[ay N q.vs.toArray 50,emp];refine⟨λn i s m=>∃k:Nat,i=k/\k<=l.length/\m=l.length-k/\n=(l.take k).foldl (oB q) 0/\St w s (Sep M),⟨l.length,0,rfl,by omega,by omega,rfl,D⟩,?_⟩;rintro s m n i ⟨k,rfl,A,B,rfl,g⟩-
 by_cases b:(k:Int)<(l.length:Int)
 .obtain⟨y,j⟩:=dX l k (by omega);obtain⟨p,t,h⟩:=(L.aK g.aK).at j;have o:=mM (f:=oB q) (a:=0) j;refine di b ⟨λn r=>n=(l.take (k+1)).foldl (oB q) 0/\St w r (Sep M),?_,av t ⟨by omega,by omega,y.p,y.want,h,g.aY tI.cells.toArray λO P v=>v.aR 0 rfl y.cells rfl y.one λE d=>⟨y.want,iL d 0 rfl,q,d.cellsIn 1 rfl,?_⟩⟩⟩
  .rintro r n ⟨rfl,u⟩-;exact mS (by omega) ⟨rfl,u⟩
  rw[I6.beq_eq]
  by_cases e:y.want=q
  .have C:=K y (ak j);exact di e ⟨y.p,yE d 0 rfl,q,d.cellsIn 1 rfl,bF (rB E C.p (by rw[<-e];exact C.w)) λS F=>⟨_,rfl,by rw[o,oB,ag e],(d.quiet F).aM [1,2]⟩⟩
  exact dz e ⟨by rw[o,oB,af e],d.aM [1,2]⟩
 obtain rfl:l.length=k:=by omega
 rw[aH];refine dz b ⟨_,_,_,iV H g.aK,⟨λn i s m=>∃k:Nat,i=k/\k<=bids.length/\m=bids.length-k/\n=(bids.take k).foldl (Ae q) (l.foldl (oB q) 0)/\St w s (Sep M),⟨bids.length,0,rfl,by omega,by omega,rfl,g⟩,?_⟩⟩;clear B A b g;rintro C m n i ⟨k,rfl,A,B,rfl,g⟩-
 by_cases b:(k:Int)<(bids.length:Int)
 .obtain⟨y,j⟩:=dX bids k (by omega);obtain⟨p,t,h⟩:=(I.aK g.aK).at j;have o:=mM (f:=Ae q) (a:=l.foldl (oB q) 0) j;refine di b ⟨λn r=>n=(bids.take (k+1)).foldl (Ae q) (l.foldl (oB q) 0)/\St w r (Sep M),?_,av t ⟨by omega,by omega,_,y.want,_,h,g.aY vX.cells.toArray λO P v=>v.aR 0 rfl y.cells rfl y.one λE d=>⟨y.want,d.bA 0 1 rfl rfl,q,d.cellsIn 1 rfl,?_⟩⟩⟩
  .rintro r n ⟨rfl,u⟩-;exact mS (by omega) ⟨rfl,u⟩
  rw[I6.beq_eq];exact cBq (λe=>⟨_,d.aj 0 rfl 7,by rw[o,Ae,ag e],d.aM [1,2]⟩) λe=>⟨by rw[o,Ae,af e],d.aM [1,2]⟩
 obtain rfl:bids.length=k:=by omega
 rw[aH];exact dz b ⟨rfl,g.aK⟩
def vO:ru prog 62 70 (.agg vX.cells.toArray) 8 64:=ru.mk' underlying62 (by kernel_rfl) rfl (by decide)
abbrev dB (a:OA) (c:Nat) (l:List Of):bP:=iQ 70 8 Of.cells a c l
def nJ{a:Type}{sz:Nat}{f:a->List Value}{w:ah}{r:Nat}{x:a}(h:aU w ⟨r,0,none⟩ 0 (f x))(b:(f x).length=sz):iA sz f w (qs r) [x]:=λi y c=>by
 match i,c with
 |0,rfl=>exact⟨_,_,rfl,by rw[gW];simpa using h,b,rfl⟩
mutual
def xd(m:I6)(T:List Int):Nat->List Of
 |0=>[]
 |i+1=>if 0<i/\T.getD i 0>CT m (cK m i) (tP m T i) 6 then xd m T i++[⟨0,cK m i,T.getD i 0⟩] else xd m T i
def tP(m:I6)(T:List Int):Nat->List Int
 |0=>T
 |i+1=>(tP m T i).set i (if CT m (cK m i) (tP m T i) 6>(tP m T i).getD i 0 then CT m (cK m i) (tP m T i) 6 else (tP m T i).getD i 0)
end
theorem J8(m:I6)(T:List Int):∀i,(tP m T i).length=T.length
 |0=>rfl
 |i+1=>by rw[tP,bf,J8 m T i]
theorem J7(m:I6)(T:List Int):∀i,(xd m T i).length<=i
 |0=>aD 0
 |i+1=>by
  have:=J7 m T i;rw[xd]
  split
  .rw[aA,aG];omega
  omega
def Cx(m:I6)(T:List Int):List Of:=xd m T (bI m)
section
variable {w0 w:ah} {B:bP} {m:I6} {g r1 r2 r3 r4 r5 l D:Nat} {lp:Loop} {T:List Int} {a1:OA} {c1:Nat}
def Zu(m:I6)(T:List Int)(a1:OA)(c1 g r1 r2 r3 r4 r5:Nat)(B:bP)(a:OA)(c i:Nat)(out:List Of):List bP:=
 [oQ (qs g) (bI m) (tP m T i),ay r3 #[.slice (qs g) (bI m) (bI m)] 165,dB a c out,ay r4 #[.slice a out.length c] 62,ay r5 #[iv i] 3,ay r1 #[.slice a1 (bI m) c1] 165,ay r2 m.vs.toArray 50,B]
def Zv(m:I6)(T:List Int)(a1:OA)(c1 g r1 r2 r3 r4 r5 l:Nat)(lp:Loop)(B:bP)(i:Nat):bP:=
 V4 λ(p:Option Addr×Nat)=>Sep (iZ l (.loop lp)::Zu m T a1 c1 g r1 r2 r3 r4 r5 B p.1 p.2 i (xd m T i))
def PK(U:I6.Le m 4)(hp:pr m.l<=1024)(hT:∀{G},aZ w0 G []->iA 1 i1 G a1 T)(hl:T.length=bI m){i:Nat}(hi:i<bI m){Fr:bP}{Q:OA}{V R:Nat}{Y:I6}{a2:OA}{l2:Nat}{c2:Nat}{a3:OA}{l3:Nat}{c3:Nat}{a4:OA}{l4:Nat}{c4:Nat}{a5:OA}{l5:Nat}{c5:Nat}{S:Value}{u2:I6}{v1:Value}{fn:FuncId}(d:lp=og Q V R Y r1 r2 a2 l2 c2 a3 l3 c3 r3 a4 l4 c4 a5 l5 c5 S r4 r5 u2 v1 fn D)(h:St w0 w (star (Zv m T a1 c1 g r1 r2 r3 r4 r5 l lp B i) Fr)):
  vu prog l #[.agg (cK m i).vs.toArray] w λb Z=>b=true/\St w0 Z (star (Zv m T a1 c1 g r1 r2 r3 r4 r5 l lp B (i+1)) Fr):=by
 have K:=lC U;have z:=(J8 m T i).trans hl;obtain⟨⟨a,c⟩,h⟩:=h.ex;have s:=h.open;refine ux (a1:=Q) (l1:=V) (c1:=R) (u1:=Y) (r1:=r1) (r2:=r2) (a2:=a2) (l2:=l2) (c2:=c2) (a3:=a3) (l3:=l3) (c3:=c3) (r3:=r3) (a4:=a4) (l4:=l4) (c4:=c4) (a5:=a5) (l5:=l5) (c5:=c5) (_e1:=S) (r4:=r4) (r5:=r5) (u2:=u2) (v1:=v1) (s.xk 0 rfl) (by rw[d];rfl) (by rw[d];rfl) (by rw[d];rfl) (by rw[d];rfl) ?_;unfold qi;have O:lp.state=.ready:=by rw[d];rfl
 have N:({({lp with state:=.busy}:Loop) with state:=.ready,pending:=none}:Loop)=lp:=by rw[d];rfl
 clear d;let L:Option Addr->Nat->List Of->List Int->Nat->Loop->Nat->List bP:=λa c out mo i lp I=>
  [ay I (cK m i).vs.toArray 50,iZ l (.loop lp),oQ (qs g) (bI m) mo,ay r3 #[.slice (qs g) (bI m) (bI m)] 165,dB a c out,ay r4 #[.slice a out.length c] 62,ay r5 #[iv i] 3,ay r1 #[.slice a1 (bI m) c1] 165,ay r2 m.vs.toArray 50,B,Fr]
 refine s.aY z6.vs.toArray λI w1 s1=>s1.aR 0 rfl (cK m i).vs rfl (I6.one _) λZ W=>⟨lp,W.xk 1 rfl,O,?_⟩;have E:=W.putAt 1 rfl (.loop {lp with state:=.busy});have k:=Sw (gw U i) hp (c:=bI m) (St.rd gm (E.out 2 rfl)) (by rw[z];exact K.2.1.symm);rw[z] at k;refine⟨m,E.cellsIn 8 rfl,cK m i,E.cellsIn 0 rfl,_,_,_,E.aj 3 rfl 0,bg k ?_⟩;clear k;rintro v w4 ⟨rfl,c4⟩;have t:=E.quiet c4;generalize C:CT m (cK m i) (tP m T i) 6=un;have H:xd m T (i+1)=if 0<i/\T.getD i 0>un then xd m T i++[⟨0,cK m i,T.getD i 0⟩] else xd m T i:=by rw[xd,C]
 have eT:tP m T (i+1)=(tP m T i).set i (if un>(tP m T i).getD i 0 then un else (tP m T i).getD i 0):=by rw[tP,C]
 have X:∀{G},aZ w0 G []->∃q,a1=some q/\G.cell? (Addr.add q (i*1))=some (iv (T.getD i 0)):=λM=>
  iW (hT M) (by rw[au,gE (by omega)];rfl)
 refine⟨_,rfl,λJ=>∃u y,St w0 J (Sep (L u y (xd m T (i+1)) (tP m T i) i {lp with state:=.busy} I)),?_,?_⟩
 .rintro J ⟨u,y,P⟩ x1;have j:=P.quiet (aZ.drew J []);have o:J.drew.cell? (Addr.add ⟨g,0,none⟩ (((i:Nat):Int).toNat*1))=some (iv ((tP m T i).getD i 0)):=by
   obtain⟨q,A,K⟩:=iW (St.rd gm (j.out 2 rfl)) (i:=i) (x:=(tP m T i).getD i 0) (by rw[au,gE (by omega)];rfl)
   cases A;exact K
  refine⟨_,_,_,j.aj 3 rfl 0,_,j.aj 6 rfl 0,_,_,_,j.aj 3 rfl 0,_,j.aj 6 rfl 0,av rfl ⟨by omega,by omega,_,o,av rfl ⟨by omega,by omega,?_⟩⟩⟩;rw[aq];refine St.kP (v:=iv) rfl (j.out 2 rfl) (i:=i) (by omega) λw7 e=>?_;rw[<-eT] at e;have e:=e.back (i:=2) (by show 2<11;decide);refine⟨_,e.aj 6 rfl 0,e.cL 6 rfl (by show 0<1;decide) rfl λw8 r=>⟨_,r.xk 1 rfl,rfl,?_⟩⟩;rw[fQ (n:=(i:Int)+1) ⟨by omega,by omega⟩] at r;have F:=r.putAt 1 rfl (.loop lp);rw[N];exact St.xe (f:=λ(p:Option Addr×Nat)=>Sep (iZ l (.loop lp)::Zu m T a1 c1 g r1 r2 r3 r4 r5 B p.1 p.2 (i+1) (xd m T (i+1)))) (u,y) ((F.aM [1,2,3,4,5,6,7,8,9,10]).shut)
 refine⟨λb P=>b=decide (0<i/\T.getD i 0>un)/\St w0 P (Sep (L a c (xd m T i) (tP m T i) i {lp with state:=.busy} I)),?_,?_⟩
 .rintro P b ⟨rfl,j⟩ x2;have hol:=J7 m T i
  by_cases k:0<i/\T.getD i 0>un
  .rw[ag k] at H;have e:=j.quiet (aZ.drew P []);obtain⟨q,A,o⟩:=X e.aK;refine di k ⟨_,_,_,e.aj 5 rfl 0,cK m i,e.cellsIn 0 rfl,_,_,_,e.aj 7 rfl 0,_,e.aj 6 rfl 0,av A ⟨by omega,by omega,_,o,e.aY (⟨0,cK m i,T.getD i 0⟩:Of).cells.toArray λr9 w8 r=>⟨r.aj 6 rfl 0,dW (l2:=[(⟨0,cK m i,T.getD i 0⟩:Of)]) vO Of.len Of.one (r.out 5 rfl) (nJ (r.cellsIn 0 rfl) rfl) (by simp;omega) (by simp;omega) λu y w9 F=>?_⟩⟩⟩;have F:=F.back (i:=5) (by show 5<12;decide);refine F.cL 6 rfl (by show 0<1;decide) rfl λw10 p=>⟨u,y,?_⟩;rw[H];exact p.aM [1,2,3,4,5,6,7,8,9,10,11]
  rw[af k] at H;exact dz k ⟨a,c,by rw[H];exact j⟩
 refine⟨_,t.aj 6 rfl 0,?_⟩
 by_cases j:0<i
 .obtain⟨q,A,o⟩:=X t.aK;refine di (by omega) ⟨_,_,_,t.aj 7 rfl 0,_,t.aj 6 rfl 0,av A ⟨by omega,by omega,_,o,?_,t⟩⟩
  by_cases e:T.getD i 0>un
  .rw[dT e,dT ⟨j,e⟩]
  rw[dF e,dF λh=>e h.2]
 exact dz (by omega) ⟨by rw[dF λh=>j h.1],t⟩
end
def PL{w:ah}{m:I6}{T:List Int}{a1:OA}{c1:Nat}(s:I6.Le m 4)(F:pr m.l<=1024)(G:iA 1 i1 w a1 T)(E:T.length=bI m):
  CP 111 #[.slice a1 (bI m) c1,.agg m.vs.toArray] w (λr b=>(40<(Cx m T).length/\r=.tuple #[.slice none 0 0,iv 3]/\aZ w b [])\/((Cx m T).length<=40/\∃a c,r=.tuple #[.slice a (Cx m T).length c,iv 0]/\St w b (Sep [dB a c (Cx m T)]))):=by
 refine zi ?_;unfold v7;have D:=lC s;refine bE _ λr1 O K=>K.aY m.vs.toArray λr2 W H=>⟨_,_,_,H.aj 1 rfl 0,iD KZ gm (x:=0) rfl H (n:=bI m) (by omega) (by omega) λg U V B=>?_⟩;have B:St w U (Sep [oQ (qs g) (bI m) (List.replicate (bI m) 0),ay r2 m.vs.toArray 50,ay r1 #[.slice a1 (bI m) c1] 165,emp]):=B;refine B.aY _ λr3 X L=>L.cL 0 rfl (by decide) rfl λY r=>⟨_,_,_,r.aj 0 rfl 0,_,_,_,r.aj 3 rfl 0,Nz KZ gm wX (by simp) (r.out 1 rfl) (l2:=T) E (G.aK r.aK) λ_ Z C=>?_⟩;have C:=C.back (i:=1) (by show 1<5;decide);refine C.aY _ λr4 w7 M=>M.aY _ λr5 w8 N=>N.cL 0 rfl (by decide) rfl λw9 I=>⟨m,I.cellsIn 4 rfl,bg (XW (I.gB (e:=70) (sz:=8) (f:=Of.cells)) m s F) ?_⟩;rintro v o ⟨b,rfl,k⟩;have k:St w o (Sep [ay b m.vs.toArray 50,dB none 0 [],ay r5 #[iv 0] 3,ay r4 #[.slice none 0 0] 62,ay r3 #[.slice (qs g) (bI m) (bI m)] 165,oQ (qs g) (bI m) T,ay r2 m.vs.toArray 50,ay r1 #[.slice a1 (bI m) c1] 165,emp]):=k;refine⟨_,rfl,Gu (by kernel_rfl) (Gt k (λ_ _=>⟨rfl,rfl⟩) λfn l P t=>?_)⟩;have u:=(t.aM [0,7,6,3,5,4,9,8,1,2]).split [_,_,_,_,_,_,_,_,_];have y:=St.xe (f:=λ(p:Option Addr×Nat)=>Sep (iZ l (.loop _)::Zu m T a1 c1 g r1 r2 r3 r4 r5 (iZ o.heap.size (.deferred (some []))) p.1 p.2 0 (xd m T 0))) (none,0) u;refine bF (NB s (R:=Zv m T a1 c1 g r1 r2 r3 r4 r5 l _ (iZ o.heap.size (.deferred (some [])))) (λi O Fr J h=>PK s F (λD=>G.aK D) E J rfl h) y) λQ z=>?_;obtain⟨⟨a,c⟩,A⟩:=z.ex;refine⟨_,rfl,_,A.first,λS d=>⟨_,_,_,d.aj 3 rfl 0,?_⟩⟩;have q:=d.putAt 7 rfl (.deferred none)
 by_cases j:40<(Cx m T).length
 .exact di (by unfold Cx at j;omega) ⟨d.xk 7 rfl,.inl ⟨j,rfl,q.aK⟩⟩
 exact dz (by unfold Cx at j;omega) ⟨_,_,_,d.aj 3 rfl 0,d.xk 7 rfl,.inr ⟨by omega,a,c,rfl,q.aM [2]⟩⟩
def qQ(x:Xv)(m:I6):Int:=if j4 x≠0 then j4 x else if 40<(Cx m (AT m (nr m x))).length then 3 else 0
def qf(x:Xv)(m:I6):List Of:=Cx m (AT m (nr m x))
def FV{w:ah}{x:Xv}{m:I6}(j:I6.Le m 4)(k:pr m.l<=1024)(t:fE x<=100000)(s:x.In w):
  CP 51 #[.agg x.cells.toArray,.agg m.vs.toArray] w (λr b=>(qQ x m≠0/\r=.tuple #[.slice none 0 0,iv (qQ x m)]/\aZ w b [])\/(qQ x m=0/\(qf x m).length<=40/\∃a c,r=.tuple #[.slice a (qf x m).length c,iv 0]/\St w b (Sep [dB a c (qf x m)]))):=by
 refine @Af _ x.u _ _ _ _ _ _ _ (bE x.cells.toArray λr1 z r=>r.aY m.vs.toArray λr2 A e=>⟨_,x.u,_,_,_,_,e.cellsIn 1 rfl,m,e.cellsIn 0 rfl,bg (XJ j k t (s.aK e.aK)) ?_⟩);rintro v B (⟨d,rfl,o⟩|⟨d,g,rfl,n⟩)
 .refine⟨_,_,_,_,rfl,gM d (.inl ⟨?_,?_,(e.quiet o).aK⟩)⟩
  .rw[qQ,ag d];exact d
  rw[qQ,ag d]
 have i:=e.and n;have q:(AT m (nr m x)).length=bI m:=xN m _ _;refine⟨_,_,_,_,rfl,cF rfl ⟨m,i.second.cellsIn 0 rfl,bg (PL j k (St.rd gm n) q) ?_⟩⟩;have f:qQ x m=if 40<(Cx m (AT m (nr m x))).length then 3 else 0:=by rw[qQ,af (λh=>h d)]
 rintro v C (⟨b,rfl,p⟩|⟨b,a,c,rfl,y⟩)
 .exact⟨_,_,_,_,rfl,.inl ⟨by rw[f,ag b];decide,by rw[f,ag b],i.aK.trans p (by simp)⟩⟩
 exact⟨_,_,_,_,rfl,.inr ⟨by rw[f,af (by show ¬ 40<(Cx _ _).length;omega)],b,a,c,rfl,EU i.aK y⟩⟩
def KU(r:Nat)(S:Se):List bP:=[ay r S.arr 34,iQ 135 5 Pr.cells S.a1 S.c1 S.ps,iQ 137 4 Br.cells S.a2 S.c2 S.bd,iQ 139 3 T3.cells S.a3 S.c3 S.cp,iQ 141 3 T3.cells S.a4 S.c4 S.sa]
structure wF (S:Se) (n:Nat):Prop where
 ps:∀p∈S.ps,p.In
 bd:∀p∈S.bd,p.In
 l1:S.ps.length<=n
 l2:S.bd.length<=n
 l3:S.cp.length<=n
 l4:S.sa.length<=n
def xD{b:Type}{e:TypeId}{sz:Nat}{f:b->List Value}{a:OA}{c:Nat}{l:List b}:nY (iQ e sz f a c l) λ_=>l.length<=c:=λ_ _ h=>(xC h.1).1
def nY.and{A:bP}{Q R:ah->Prop}(h:nY A Q)(k:nY A R):nY A λw=>Q w/\R w:=λw F a=>⟨h w F a,k w F a⟩
def Un{r n:Nat}{S:Se}(h:wF S n):nY (Sep (KU r S)) S.In:=
 nY.mono (nY.cons (Q:=λ_=>True) (λ_ _ _=>trivial) (nY.cons (nY.and (dS Pr.len) xD) (nY.cons (nY.and (dS Br.len) xD) (nY.cons (nY.and (dS T3.len) xD) (nY.cons (nY.and (dS T3.len) xD) nY.nil)))))
  λ_ ⟨_,a,b,c,d,_⟩=>⟨kf.of a.1 h.ps,rQ.of b.1 h.bd,Dl.of c.1,Dl.of d.1,a.2,b.2,c.2,d.2⟩
def nV(ws:List (List UInt8))(i:Nat):Int:=(jV (ws.getD (i+2) [])).1
def HM{ws:List (List UInt8)}{i:Nat}(h:i+2<ws.length):((ws.drop 2).map λx=>(jV x).1)[i]?=some (nV ws i):=by
 rw[aL,cA,show 2+i=i+2 by omega,nV,au,gE h];rfl
def Xi(x:List UInt8):In (jV x).1:=by
 unfold jV
 split
 .exact⟨by decide,by decide⟩
 split
 .exact⟨by decide,by decide⟩
 exact Xj (by omega)
def xB(S:Se)(ws:List (List UInt8)):Int:=
 if rN (ws.getD 0 [])=0 then 22 else if rN (ws.getD 0 [])≠(ws.length:Int) then 2
 else if (mj S (ws.getD 0 []) (ws.getD 1 [])).2≠0 then (mj S (ws.getD 0 []) (ws.getD 1 [])).2 else tq (ws.drop 2)
def wD(S:Se)(ws:List (List UInt8)):Se:=
 if ws.getD 0 []=OS then {S with ps:=S.ps++[⟨ws.getD 1 [],nV ws 0,nV ws 1,nV ws 2,nV ws 3⟩]}
 else if ws.getD 0 []=MU then {S with bd:=S.bd++[⟨ws.getD 1 [],nV ws 0,nV ws 1,nV ws 2⟩]}
 else if ws.getD 0 []=QY then {S with cp:=S.cp++[⟨(mj S (ws.getD 0 []) (ws.getD 1 [])).1,nV ws 0,nV ws 1⟩]}
 else if ws.getD 0 []=QW then {S with sa:=S.sa++[⟨(mj S (ws.getD 0 []) (ws.getD 1 [])).1,nV ws 0,nV ws 1⟩]}
 else S
def T5{S:Se}{n:Nat}(h:wF S n)(ws:List (List UInt8)):wF (wD S ws) (n+1):=by
 obtain⟨b,c,d,e,f,g⟩:=h;unfold wD;have ni:=λi=>Xi (ws.getD (i+2) [])
 split
 .refine⟨λp a=>?_,c,by simp;omega,(de e),(de f),(de g)⟩;rcases aB.1 a with a|a
  .exact b p a
  rw[aI.1 a];exact⟨ni 0,ni 1,ni 2,ni 3⟩
 split
 .refine⟨b,λp a=>?_,(de d),by simp;omega,(de f),(de g)⟩;rcases aB.1 a with a|a
  .exact c p a
  rw[aI.1 a];exact⟨ni 0,ni 1,ni 2⟩
 split
 .exact⟨b,c,(de d),(de e),by simp;omega,(de g)⟩
 split
 .exact⟨b,c,(de d),(de e),(de f),by simp;omega⟩
 exact⟨b,c,by omega,by omega,by omega,by omega⟩
def wF.up{S:Se}{n m:Nat}(h:wF S n)(a:n<=m):wF S m:=⟨h.ps,h.bd,by have:=h.l1;omega,by have:=h.l2;omega,by have:=h.l3;omega,by have:=h.l4;omega⟩
def wF.er{S a:Se}{n:Nat}(h:wF S n)(e:a.er=S.er):wF a n:=by
 have b:a.ps=S.ps:=show a.er.ps=S.er.ps from congrArg Se.ps e;have c:a.bd=S.bd:=show a.er.bd=S.er.bd from congrArg Se.bd e;have d:a.cp=S.cp:=show a.er.cp=S.er.cp from congrArg Se.cp e;have f:a.sa=S.sa:=show a.er.sa=S.er.sa from congrArg Se.sa e;exact⟨by rw[b];exact h.ps,by rw[c];exact h.bd,by rw[b];exact h.l1,by rw[c];exact h.l2,by rw[d];exact h.l3,by rw[f];exact h.l4⟩
def Z3{w0 w:ah}{r n c:Nat}{S:Se}{B:bP}{a:OA}{ws:List (List UInt8)}(s:St w0 w (Sep (KU r S++[B])))(hB:nY B λw=>iA 1 sF w a ws)(hc:ws.length<=c)(h1:1<=ws.length)(hl:ws.length<=100000)(hx:∀x∈ws,x.length<=1000000)(G:wF S n)(hn:n<=90000):
  CP 180 #[.pointer (qs r),.slice a ws.length c] w (λv g=>v=iv (xB S ws)/\(xB S ws≠0->St w0 g (Sep (KU r S++[B])))/\(xB S ws=0->∃u:Se,u.er=(wD S ws).er/\St w0 g (Sep (KU r u++[B])))):=by
 refine qH.1.2.1 ?_;have wc:∀{g:ah} {l:List bP} {i:Nat},St w0 g (Sep l)->l[i]?=some B->∀(j:Nat),j<ws.length->∃q,a=some q/\g.cell? (Addr.add q (j*1))=some (sv (ws.getD j [])):=λs e j U=>
  zA ((s.out _ e).first.imp hB) (by rw[au,gE U];rfl)
 obtain⟨q,L,c0⟩:=wc s (i:=5) rfl 0 (by omega);have t:∀{g:ah} {l:List bP} {i:Nat},St w0 g (Sep l)->l[i]?=some B->∀(j:Nat),j<ws.length->g.cell? (Addr.add q (j*1))=some (sv (ws.getD j [])):=λs e j U=>by
  obtain⟨A,f,h⟩:=wc s e j U;rw[L] at f;cases f;exact h
 have p:∀{k:Int} {g:ah},k≠0->xB S ws=k->St w0 g (Sep (KU r S++[B]))->iv k=iv (xB S ws)/\(xB S ws≠0->St w0 g (Sep (KU r S++[B])))/\(xB S ws=0->∃u:Se,u.er=(wD S ws).er/\St w0 g (Sep (KU r u++[B]))):=λhk e hc=>
  ⟨by rw[e],λ_=>hc,λh=>absurd (e.symm.trans h) hk⟩
 refine av L ⟨by omega,by omega,_,c0,bg (XQ w _) ?_⟩;rintro v Y ⟨rfl,rfl⟩;refine⟨_,rfl,cBq (λE=>p (by decide) (by rw[xB,ag E]) s) λE=>?_⟩
 by_cases d:rN (ws.getD 0 [])=(ws.length:Int)
 .have hw4:4<=ws.length:=by
   unfold rN at E d
   split at d
   .omega
   rename_i g1
   split at d
   .omega
   rename_i g2
   split at d
   .omega
   rename_i y;rw[af g1,af g2,af y] at E;exact absurd rfl E
  have O:=s.quiet (aZ.drew Y []);have sI:S.In Y.drew:=by
   have:=O.aM [0,1,2,3,4];exact(this:St w0 Y.drew (Sep (KU r S))).imp (Un G)
  refine gM d (Ex8<|Ex4<|⟨O.cellsIn 0 rfl,av L ⟨by omega,by omega,_,t O (i:=5) rfl 0 (by omega),av L ⟨by omega,by omega,_,t O (i:=5) rfl 1 (by omega),bF (Uy sI (by have:=G.l1;omega) (by have:=G.l2;omega) _ _) λw2 c2=>?_⟩⟩⟩);have R:=O.quiet c2;have C:xB S ws=if (mj S (ws.getD 0 []) (ws.getD 1 [])).2≠0 then (mj S (ws.getD 0 []) (ws.getD 1 [])).2 else tq (ws.drop 2):=by rw[xB,af E,af (λh=>h d)]
  refine⟨_,_,rfl,?_⟩
  by_cases F:(mj S (ws.getD 0 []) (ws.getD 1 [])).2=0
  .rw[af (λh=>h F)] at C;refine iI F ⟨by decide,by omega,?_⟩;have T:=(R.out 5 rfl).first.imp hB;have ht:iA 1 sF w2 (some (q.add (((2:Int)).toNat*1))) (ws.drop 2):=λi x Q=>by
    rw[cA] at Q;obtain⟨A,cs,e,h1,d,F⟩:=T (2+i) x Q;rw[L] at e;cases e;refine⟨_,cs,rfl,?_,d,F⟩;rw[Addr.add_add];have:((2:Int)).toNat*1+i*1=(2+i)*1:=by show 2*1+i*1=(2+i)*1;omega
    rw[this];exact h1
   have V:ws.length-((2:Int)).toNat=(ws.drop 2).length:=by rw[bG];rfl
   rw[af (show ¬ c=((2:Int)).toNat by show ¬ c=2;omega),L,cU,V];refine bg (MK ht (by rw[bG];omega) λx h=>hx x (mX h)) ?_;rintro v Z (⟨N,rfl,c4⟩|⟨he,a6,c6,rfl,k4⟩)
   .exact⟨_,_,_,_,rfl,gM N (p N C (R.quiet c4))⟩
   have X:St w0 Z (Sep (iQ 3 1 i1 a6 c6 ((ws.drop 2).map λx=>(jV x).1)::(KU r S++[B]))):=R.and k4.single;rw[he] at C;refine⟨_,_,_,_,rfl,cF rfl ⟨λw5=>∃u:Se,u.er=(wD S ws).er/\St w0 w5 (Sep (KU r u++[B])),λw5 h _=>⟨by rw[C],λhh=>absurd C hh,λ_=>h⟩,av rfl ⟨by omega,by omega,_,t X (i:=6) rfl 0 (by omega),?_⟩⟩⟩;have o:=X.quiet (aZ.drew Z []);obtain⟨q6,b,_⟩:=iW (St.rd gm o) (HM (ws:=ws) (i:=0) (by omega));have m:∀i,i+2<ws.length->Z.drew.cell? (Addr.add q6 (i*1))=some (iv (nV ws i)):=λi Q=>by
    obtain⟨A,f,z⟩:=iW (St.rd gm o) (HM (ws:=ws) Q);rw[b] at f;cases f;exact z
   have P:=t o (i:=6) rfl 1 (by omega);have z1:=G.l1;have z2:=G.l2;have z3:=G.l3;have z4:=G.l4;rw[j9,j9,j9,j9,j9]
   by_cases g1:ws.getD 0 []=OS
   .have H:ws.length=6:=by unfold rN at d;rw[ag g1] at d;omega
    have D:wD S ws={S with ps:=S.ps++[⟨ws.getD 1 [],nV ws 0,nV ws 1,nV ws 2,nV ws 3⟩]}:=by rw[wD,ag g1]
    refine cT (bL.2 g1) ⟨_,_,_,o.aj 1 rfl 0,av rfl ⟨by omega,by omega,_,P,av b ⟨by omega,by omega,_,m 0 (by omega),av b ⟨by omega,by omega,_,m 1 (by omega),av b ⟨by omega,by omega,_,m 2 (by omega),av b ⟨by omega,by omega,_,m 3 (by omega),o.aY (⟨ws.getD 1 [],nV ws 0,nV ws 1,nV ws 2,nV ws 3⟩:Pr).cells.toArray λW w6 f=>⟨f.aj 2 rfl 0,dW (l2:=[(⟨ws.getD 1 [],nV ws 0,nV ws 1,nV ws 2,nV ws 3⟩:Pr)]) aao Pr.len Pr.one (f.out 3 rfl) (nJ (f.cellsIn 0 rfl) rfl) (by simp;omega) (by simp;omega) λz A w7 I=>?_⟩⟩⟩⟩⟩⟩⟩;have J:=I.back (i:=3) (by show 3<8;decide);refine J.cL 2 rfl (j:=0) (by show 0<4;decide) rfl λw8 K=>⟨{S with ps:=S.ps++[⟨ws.getD 1 [],nV ws 0,nV ws 1,nV ws 2,nV ws 3⟩],a1:=z,c1:=A},by rw[D];rfl,K.aM [2,3,4,5,6,7]⟩
   refine cF (aC.2 g1) ?_
   by_cases g2:ws.getD 0 []=MU
   .have H:ws.length=5:=by unfold rN at d;rw[af g1,ag g2] at d;omega
    have D:wD S ws={S with bd:=S.bd++[⟨ws.getD 1 [],nV ws 0,nV ws 1,nV ws 2⟩]}:=by rw[wD,af g1,ag g2]
    refine cT (bL.2 g2) ⟨_,_,_,o.aj 1 rfl 1,av rfl ⟨by omega,by omega,_,P,av b ⟨by omega,by omega,_,m 0 (by omega),av b ⟨by omega,by omega,_,m 1 (by omega),av b ⟨by omega,by omega,_,m 2 (by omega),o.aY (⟨ws.getD 1 [],nV ws 0,nV ws 1,nV ws 2⟩:Br).cells.toArray λW w6 f=>⟨f.aj 2 rfl 1,dW (l2:=[(⟨ws.getD 1 [],nV ws 0,nV ws 1,nV ws 2⟩:Br)]) aam Br.len Br.one (f.out 4 rfl) (nJ (f.cellsIn 0 rfl) rfl) (by simp;omega) (by simp;omega) λz A w7 I=>?_⟩⟩⟩⟩⟩⟩;have J:=I.back (i:=4) (by show 4<8;decide);refine J.cL 2 rfl (j:=1) (by show 1<4;decide) rfl λw8 K=>⟨{S with bd:=S.bd++[⟨ws.getD 1 [],nV ws 0,nV ws 1,nV ws 2⟩],a2:=z,c2:=A},by rw[D];rfl,K.aM [2,3,4,5,6,7]⟩
   refine cF (aC.2 g2) ?_
   by_cases y:ws.getD 0 []=QY
   .have H:ws.length=4:=by unfold rN at d;rw[af g1,af g2,ag (.inl y)] at d;omega
    have D:wD S ws={S with cp:=S.cp++[⟨(mj S (ws.getD 0 []) (ws.getD 1 [])).1,nV ws 0,nV ws 1⟩]}:=by rw[wD,af g1,af g2,ag y]
    refine cT (bL.2 y) ⟨_,_,_,o.aj 1 rfl 2,av b ⟨by omega,by omega,_,m 0 (by omega),av b ⟨by omega,by omega,_,m 1 (by omega),o.aY (⟨(mj S (ws.getD 0 []) (ws.getD 1 [])).1,nV ws 0,nV ws 1⟩:T3).cells.toArray λW w6 f=>⟨f.aj 2 rfl 2,dW (l2:=[(⟨(mj S (ws.getD 0 []) (ws.getD 1 [])).1,nV ws 0,nV ws 1⟩:T3)]) aan T3.len T3.one (f.out 5 rfl) (nJ (f.cellsIn 0 rfl) rfl) (by simp;omega) (by simp;omega) λz A w7 I=>?_⟩⟩⟩⟩;have J:=I.back (i:=5) (by show 5<8;decide);refine J.cL 2 rfl (j:=2) (by show 2<4;decide) rfl λw8 K=>⟨{S with cp:=S.cp++[⟨(mj S (ws.getD 0 []) (ws.getD 1 [])).1,nV ws 0,nV ws 1⟩],a3:=z,c3:=A},by rw[D];rfl,K.aM [2,3,4,5,6,7]⟩
   refine cF (aC.2 y) ?_
   by_cases M:ws.getD 0 []=QW
   .have H:ws.length=4:=by unfold rN at d;rw[af g1,af g2,ag (.inr M)] at d;omega
    have D:wD S ws={S with sa:=S.sa++[⟨(mj S (ws.getD 0 []) (ws.getD 1 [])).1,nV ws 0,nV ws 1⟩]}:=by rw[wD,af g1,af g2,af y,ag M]
    refine cT (bL.2 M) ⟨_,_,_,o.aj 1 rfl 3,av b ⟨by omega,by omega,_,m 0 (by omega),av b ⟨by omega,by omega,_,m 1 (by omega),o.aY (⟨(mj S (ws.getD 0 []) (ws.getD 1 [])).1,nV ws 0,nV ws 1⟩:T3).cells.toArray λW w6 f=>⟨f.aj 2 rfl 3,dW (l2:=[(⟨(mj S (ws.getD 0 []) (ws.getD 1 [])).1,nV ws 0,nV ws 1⟩:T3)]) aal T3.len T3.one (f.out 6 rfl) (nJ (f.cellsIn 0 rfl) rfl) (by simp;omega) (by simp;omega) λz A w7 I=>?_⟩⟩⟩⟩;have J:=I.back (i:=6) (by show 6<8;decide);refine J.cL 2 rfl (j:=3) (by show 3<4;decide) rfl λw8 K=>⟨{S with sa:=S.sa++[⟨(mj S (ws.getD 0 []) (ws.getD 1 [])).1,nV ws 0,nV ws 1⟩],a4:=z,c4:=A},by rw[D];rfl,K.aM [2,3,4,5,6,7]⟩
   exact cF (aC.2 M) ⟨S,by rw[wD,af g1,af g2,af y,af M],X.second⟩
  rw[ag F] at C;exact gM F (p F C R)
 exact iI d (p (by decide) (by rw[xB,af E,ag d]) s)
theorem GC(sep:ByteArray):∀(k:Nat) (s:ByteArray),∀x∈Lib.splitB sep 0 k s,x.size<=s.size
 |0,s,x,a=>by rw[Lib.splitB_zero,aI] at a;rw[a];exact aD _
 |k+1,s,x,a=>by
  rw[Lib.splitB] at a
  split at a
  .rw[aI] at a;rw[a];exact aD _
  rcases aP.1 a with rfl|a
  .rw[lR];omega
  have:=GC sep k _ x a;rw[lR] at this;omega
def yu{c:UInt8}{s x:List UInt8}(d:x∈fC c s):x.length<=s.length:=by
 obtain⟨b,a,rfl⟩:=aN.1 d;have:=GC _ _ _ b a;rw[jC] at this;exact this
def EX(c:UInt8)(s:List UInt8):1<=(fC c s).length:=by rw[vP];omega
def jt:Se:=⟨[],[],[],[],none,0,none,0,none,0,none,0⟩
def kW:Se->List (List UInt8)->Se×Int
 |S,[]=>(S,0)
 |S,l::ls=>if l=[] then kW S ls else if xB S (fC 32 l)≠0 then (jt,xB S (fC 32 l)) else kW (wD S (fC 32 l)) ls
def rV(t:List UInt8):Int:=if 4000<t.length then 3 else if (kW jt (fC 10 t)).2≠0 then (kW jt (fC 10 t)).2 else yX (kW jt (fC 10 t)).1
def vL(t:List UInt8):Se:=(kW jt (fC 10 t)).1
def Z0{S a:Se}(e:a.er=S.er)(ws:List (List UInt8)):xB a ws=xB S ws:=by
 have:∀S:Se,xB S ws=xB S.er ws:=λ_=>rfl;rw[this a,e,<-this]
def Z1{S a:Se}(e:a.er=S.er)(ws:List (List UInt8)):(wD a ws).er=(wD S ws).er:=by
 have:∀S:Se,(wD S ws).er=(wD S.er ws).er:=λS=>by
  unfold wD
  split
  .rfl
  split
  .rfl
  split
  .rfl
  split<;>rfl
 rw[this a,e,<-this]
def MF{S a:Se}(e:a.er=S.er):yX a=yX S:=by
 have:∀S:Se,yX S=yX S.er:=λ_=>rfl;rw[this a,e,<-this]
theorem C7:∀{l:List (List UInt8)} {S a:Se},a.er=S.er->(kW a l).1.er=(kW S l).1.er/\(kW a l).2=(kW S l).2
 |[],_,_,e=>⟨e,rfl⟩
 |x::l,S,a,e=>by
  rw[kW,kW,Z0 e]
  split
  .exact C7 e
  split
  .exact⟨rfl,rfl⟩
  exact C7 (Z1 e _)
def M5(w:ah):jt.In w:=⟨λi p h=>by simp[jt] at h,λi p h=>by simp[jt] at h,λi p h=>by simp[jt] at h,λi p h=>by simp[jt] at h,aD _,aD _,aD _,aD _⟩
def UA(w:ah)(t:List UInt8)(ht:t.length<=80000):CP 124 #[sv t] w (λr o=>∃(a:Se) (i:Int),r=.tuple #[.agg a.arr,iv i,iv (rV t)]/\St w o (held a.In)/\(rV t=0->a.er=(vL t).er/\a.Ok)):=by
 refine qH.1.1 (bE jt.arr λn w1 W=>?_);have p:∀{k i:Int} {o:ah} {m:List bP} {j:Nat},St w o (Sep m)->m[j]?=some (ay n jt.arr 34)->k≠0->rV t=k ->
   yY ⟨n,0,none⟩ 0 jt.arr.toList o λH=>∃(b:OA) (x g:Nat) (c:OA) (y h:Nat) (d:OA) (z q:Nat) (f:OA) (A u:Nat),aU H ⟨n,0,none⟩ 0 [.slice b x g,.slice c y h,.slice d z q,.slice f A u] /\
    ∃(a:Se) (B:Int),Value.tuple #[.agg #[.slice b x g,.slice c y h,.slice d z q,.slice f A u],iv i,iv k]=.tuple #[.agg a.arr,iv B,iv (rV t)]/\St w H (held a.In)/\(rV t=0->a.er=(vL t).er/\a.Ok):=λ{k i o m j} s e V v=>
  s.aR j e jt.arr.toList rfl (by simp[jt,Se.arr,Value.oneCell']) λH J=>(Ex8<|Ex4<|⟨J.cellsIn (cs:=jt.arr) (T:=34) j (cN (kL e)),jt,i,by rw[v];rfl,((St.start' J.aK).one.oM M5).first,λh=>absurd (v.symm.trans h) V⟩)
 by_cases U:4000<t.length
 .exact cT (by rw[jC];exact dT (by omega)) (p W (j:=0) rfl (by decide) (by rw[rV,ag U]))
 refine cF (by rw[jC];exact dF (by omega)) (W.aY jt.arr λe H J=>bg (OD H 10 t (by omega)) ?_);rintro v P ⟨g,rfl,k4⟩;have I:rV t=if (kW jt (fC 10 t)).2≠0 then (kW jt (fC 10 t)).2 else yX (kW jt (fC 10 t)).1:=by rw[rV,af U]
 have hll:=yq 10 t;have N:∀x∈fC 10 t,x.length<=4000:=λx D=>by have:=yu D;omega
 generalize hL:fC 10 t=L at *;have s4:St w P (Sep [iQ 9 1 sF (qs g) L.length L,ay e jt.arr 34,ay n jt.arr 34,emp]):=J.and k4.single;have s5:St w P (Sep (KU e jt++[Sep [iQ 9 1 sF (qs g) L.length L,ay n jt.arr 34]])):=by
  have c:St w P (Sep (iQ 141 3 T3.cells none 0 []::iQ 139 3 T3.cells none 0 []::iQ 137 4 Br.cells none 0 []::iQ 135 5 Pr.cells none 0 []::[iQ 9 1 sF (qs g) L.length L,ay e jt.arr 34,ay n jt.arr 34,emp])):=(((s4.gB).gB).gB).gB;have d:=(c.aM [5,3,2,1,0,4,6]).split [_,_,_,_,_];exact St.cat (d.eqv (fF.right (fF.unit _)))
 let B:bP:=Sep [iQ 9 1 sF (qs g) L.length L,ay n jt.arr 34];have rdL:nY B λw=>iA 1 sF w (qs g) L:=λw F ⟨M,Z,_,c,_,_⟩=>dS xE w M c;have G:∀{o:ah} {S:Se},St w o (Sep (KU e S++[B]))->St w o (Sep (KU e S++[iQ 9 1 sF (qs g) L.length L,ay n jt.arr 34])):=λs=>s.mT [_,_,_,_,_];refine⟨_,_,_,rfl,λi Q m=>∃(k:Nat) (S:Se),i=k/\k<=L.length/\m=L.length-k/\wF S k/\(kW S (L.drop k)).1.er=(kW jt L).1.er/\(kW S (L.drop k)).2=(kW jt L).2/\St w Q (Sep (KU e S++[B])),⟨L.length,0,jt,rfl,by omega,by omega,⟨by simp[jt],by simp[jt],by simp[jt],by simp[jt],by simp[jt],by simp[jt]⟩,rfl,rfl,s5⟩,?_⟩;rintro Q m i ⟨k,S,rfl,V,hm,A,p1,p2,K⟩-
 by_cases C:(k:Int)<(L.length:Int)
 .have D:L[k]?=some (L[k]'(by omega)):=gE (by omega);have b:L.drop k=L[k]'(by omega)::L.drop (k+1):=bO (by omega);generalize L[k]'(by omega)=x at D b;rw[b,kW] at p1 p2;obtain⟨q,hq,hc⟩:=zA ((K.out 5 rfl).first.imp rdL) D
  cases hq
  refine di C ⟨λX=>∃a:Se,wF a (k+1)/\(kW a (L.drop (k+1))).1.er=(kW jt L).1.er/\(kW a (L.drop (k+1))).2=(kW jt L).2/\St w X (Sep (KU e a++[B])),?_,av rfl ⟨by omega,by omega,_,hc,?_⟩⟩
  .rintro X ⟨a,c,d,f,u⟩-;exact⟨L.length-(k+1),by omega,k+1,a,gC (by omega),by omega,rfl,c,d,f,u⟩
  by_cases d:x=[]
  .rw[ag d] at p1 p2;exact cT (by rw[d,j9];rfl) ⟨S,A.up (by omega),p1,p2,K⟩
  rw[af d] at p1 p2;have hxl:=N x (ak D);refine cF (by rw[j9,j9];exact aC.2 d) (bg (OD Q 32 x (by omega)) ?_);rintro v Y ⟨g2,rfl,k7⟩;have u:St w Y (Sep (iQ 9 1 sF (qs g2) (fC 32 x).length (fC 32 x)::(KU e S++[B]))):=K.and k7.single;have hwl:=yq 32 x;have E:St w Y (Sep (KU e S++[Sep [iQ 9 1 sF (qs g2) (fC 32 x).length (fC 32 x),B]])):=
   St.cat (((u.aM [1,2,3,4,5,0,6]).split [_,_,_,_,_]).eqv (fF.right (fF.unit _)))
  refine⟨_,_,_,rfl,bg (Z3 E (λw F ⟨M,Z,_,c,_,_⟩=>dS xE w M c) (aD _) (EX 32 x) (by omega) (λy hy=>by have:=yu hy;omega) A (by omega)) ?_⟩;rintro v w8 ⟨rfl,ko,ok⟩;refine⟨_,rfl,?_⟩
  by_cases f:xB S (fC 32 x)=0
  .rw[af (λh=>h f)] at p1 p2;obtain⟨a,R,z⟩:=ok f;have c:=C7 (l:=L.drop (k+1)) R;refine iI f ⟨a,(T5 A _).er R,c.1.trans p1,c.2.trans p2,?_⟩;have O:=z.mT [_,_,_,_,_];exact O.aM [0,1,2,3,4,6]
  rw[ag f] at p1 p2;have z:=G (((ko f).mT [_,_,_,_,_]).aM [0,1,2,3,4,6]);exact gM f (p z (j:=6) rfl f (by rw[I,ag (by rw[<-p2];exact f),<-p2]))
 obtain rfl:k=L.length:=by omega
 rw[gH,kW] at p1 p2;rw[af (λh=>h p2.symm),<-MF p1] at I;have u:=G K;have q:=(u.aM [0,1,2,3,4]).imp (Un A);refine dz C (Ex8<|Ex4<|⟨u.cellsIn 0 rfl,bg (GA q) ?_⟩);rintro v y ⟨⟨rfl,f⟩,d⟩;have E:=u.quiet d;exact⟨_,rfl,cBq (λb=>p E (j:=6) rfl b I) λb=>(Ex8<|Ex4<|⟨E.cellsIn 0 rfl,E.aR 6 rfl S.arr.toList rfl (by simp[Se.arr,Value.oneCell']) λO z=>(Ex8<|Ex4<|⟨z.cellsIn (cs:=S.arr) 6 rfl,S,0,by rw[I,b];rfl,((z.aM [0,1,2,3,4]).held (Un A)),λ_=>⟨by rw[vL,hL];exact p1,f.1 b⟩⟩)⟩)⟩
def uA(o:Po):Sx:={o:=o,ph:=0,s:=jt,k:=none,bd:=[gR,gR,gR,gR,gR,gR,gR,gR],dec:=0,cnt:=0,dig:=0}
def aas(w:ah)(o:Po):CP 8 #[o.v] w (λr e=>∃b,r=.pointer (qs b)/\St w e (Sep [ay b (uA o).cells.toArray 78])):=by
 exact oC.1.1 (bE o.cells.toArray λf g a=>⟨_,_,_,_,a.cellsIn 0 rfl,a.aY (uA o).cells.toArray λc h d=>⟨c,rfl,d.aM [0]⟩⟩)
def rM{S:Sx}(h:S.bd.length=8):S.cells.toArray[9]?=some (.pointer S.k):=by
 obtain⟨o,n,s,k,m,dec,a,b⟩:=S;obtain⟨c,d,e,f,g,i,j,l,rfl⟩:=iU h;rfl
section
variable {w0 w:ah} {b g:Nat} {S:Sx} {C:Ck} {B:bP}
def pH(b:Nat)(S:Sx)(g:Nat)(C:Ck):List bP:=ay b S.cells.toArray 78::rS g C
def St.vD{m:List bP}(s:St w0 w (Sep (rS g C++m))):St w0 w (Sep (rS g C++[Sep m])):=St.cat ((s.split (rS g C)).eqv (fF.right (fF.unit _)))
def UC(s:St w0 w (Sep (pH b S g C++[B])))(h:S.bd.length=8)(E:S.k=qs g)(q:C.Ok)(e:Ev):
  CP 65 #[.pointer (qs b),e.v] w (λr l=>∃(x:Int) (d:Sx) (a:Ck),r=iv x/\d.bd.length=8/\d.k=S.k/\x=(if C.ov then 10 else 0)/\(C.ov=false->a.er=(if e.kind=3 then mg C else xL C).er/\d=if (if e.kind=3 then jG C else true) then {S with ph:=2} else S)/\St w0 l (Sep (pH b d g a++[B]))):=by
 refine @xK _ _ _ _ e.want _ _ _ _ (s.aY e.cells.toArray λG H p=>?_);let z:bP:=Sep [ay G e.cells.toArray 52,ay b S.cells.toArray 78,B];have t:=St.vD (m:=[_,_,_]) (p.aM [2,3,4,5,6,7,0,1,8]);have cl:H.cell? ⟨b,9,none⟩=some (.pointer (qs g)):=by rw[p.aj 1 rfl,rM h,E]
 have f:∀{l:ah} {a:Ck},St w0 l (Sep (rS g a++[z]))->St w0 l (Sep (pH b S g a++[B])):=λs=>(s.mT [_,_,_,_,_,_]).aM [7,0,1,2,3,4,5,8];refine⟨λo x y=>∃a:Ck,x=(if C.ov then 10 else 0)/\(C.ov=false->a.er=(if e.kind=3 then mg C else xL C).er/\o=if e.kind=3 then jG C else true)/\St w0 y (Sep (pH b S g a++[B])),?_,_,p.aj 0 rfl 0,?_⟩
 .rintro y o x ⟨a,F,r,u⟩-;refine⟨λv=>∃d:Sx,d.bd.length=8/\d.k=S.k/\d=(if o then {S with ph:=2} else S)/\St w0 v (Sep (pH b d g a++[B])),?_,?_⟩
  .rintro v ⟨d,A,n,D,i⟩-;exact⟨x,d,a,rfl,A,n,F,λc=>⟨(r c).1,by rw[D,(r c).2]⟩,i⟩
  cases o with
  |true=>
   refine cT rfl (u.cL 0 rfl (j:=4) (by rw[nk h];omega) rfl λn i=>⟨{S with ph:=2},h,rfl,rfl,?_⟩);rw[K2 h] at i;exact i
  |false=>exact cF rfl ⟨S,h,rfl,rfl,u⟩
 refine cBq (λi=>⟨_,cl,bg (VL t q) ?_⟩) λi=>⟨_,cl,bg (aav t q) ?_⟩
 .rintro v r (⟨c,rfl,d⟩|⟨c,rfl,a,n,d⟩)
  .exact⟨_,_,rfl,C,by rw[c];rfl,λh=>(by rw[c] at h;cases h),f d⟩
  exact⟨_,_,rfl,a,by rw[c];rfl,λ_=>⟨by rw[ag i];exact n,by rw[ag i]⟩,f d⟩
 rintro v r (⟨c,rfl,d⟩|⟨c,rfl,a,n,d⟩)
 .exact⟨_,rfl,C,by rw[c];rfl,λh=>(by rw[c] at h;cases h),f d⟩
 exact⟨_,rfl,a,by rw[c];rfl,λ_=>⟨by rw[af i];exact n,by rw[af i]⟩,f d⟩
end
section
variable {w0 w:ah} {b g:Nat} {S:Sx} {C:Ck} {B:bP}
def QA(s:St w0 w (Sep (pH b S g C++[B])))(h:S.bd.length=8)(u:S.k=qs g)(t:C.Ok){e:Ev}{n:Nat}{y:Br}(x:e.bidder=n)(z:C.s.bd[n]?=some y):
  CP 64 #[.pointer (qs b),e.v] w (λr c=>r=iv (mb C n y e.want)/\St w0 c (Sep (pH b S g (if mb C n y e.want=0 then uJ C n e.want else C)++[B]))):=by
 refine @wA _ _ _ _ e.want _ _ _ _ (s.aY e.cells.toArray λo j r=>?_);have a:=r.quiet (aZ.drew j []);let p:bP:=Sep [ay o e.cells.toArray 52,ay b S.cells.toArray 78,B];have A:=St.vD (m:=[_,_,_]) (a.aM [2,3,4,5,6,7,0,1,8]);have cl:j.drew.cell? ⟨b,9,none⟩=some (.pointer (qs g)):=by rw[a.aj 1 rfl,rM h,u]
 have i:∀{c:ah} {l:Ck},St w0 c (Sep (rS g l++[p]))->St w0 c (Sep (pH b S g l++[B])):=λs=>(s.mT [_,_,_,_,_,_]).aM [7,0,1,2,3,4,5,8];have q:j.drew.cell? ⟨o,1,none⟩=some (iv n):=by rw[<-x];exact a.aj 0 rfl 1
 refine⟨_,cl,_,q,e.want,a.bA 0 3 rfl rfl,bF (Zl A t z e.want) λD f=>⟨_,rfl,rfl,i ?_⟩⟩
 split at f
 .rename_i d;rw[ag d];exact f
 rename_i d;rw[af d];exact f
end
section
variable {w0 w:ah} {b g:Nat} {S:Sx} {C:Ck} {B:bP}
def pU(S:Sx)(i:Nat):Sx:={S with bd:=S.bd.set i {S.bd.getD i gR with out:=true} }
def Xo(s:St w0 w (Sep (pH b S g C++[B])))(h:S.bd.length=8)(I:S.k=qs g)(y:C.Ok){e:Ev}{i:Nat}(o:e.bidder=i)(hi:i<C.s.bd.length):
  CP 68 #[.pointer (qs b),e.v] w (λr l=>(C.dp[i]?=some true/\r=iv 10/\St w0 l (Sep (pH b (gP (pU S i) i) g C++[B])))\/(C.dp[i]?=some false/\r=iv 0/\St w0 l (Sep (pH b (gP (pU S i) i) g (pe C i)++[B])))):=by
 refine @tT _ _ _ _ e.want _ _ _ _ ?_;have c:i<8:=by have:=y.s.bd.l2;omega
 have J:S.bd[i]?=some (S.bd.getD i gR):=by rw[au,gE (by omega)];rfl
 refine s.aY e.cells.toArray λa A K=>?_;have z:=K.quiet (aZ.drew A []);have E:A.drew.cell? ⟨a,1,none⟩=some (iv i):=by rw[<-o];exact z.aj 0 rfl 1
 refine⟨_,E,by omega,by omega,?_⟩;rw[XV,gW];refine z.cL 1 rfl (j:=10+i*11+10) (by rw[nk h];omega) rfl λD d=>?_;rw[XH h c J] at d;have x:(pU S i).bd.length=8:=by simpa[pU] using h
 have H:(gP (pU S i) i).bd.length=8:=by simpa[gP] using x
 have d:St w0 D (Sep (ay a e.cells.toArray 52::ay b (pU S i).cells.toArray 78::(rS g C++[B]))):=d;have F:D.cell? ⟨a,1,none⟩=some (iv i):=by rw[<-o];exact d.aj 0 rfl 1
 refine⟨_,F,bF (It (m:=ay a e.cells.toArray 52::(rS g C++[B])) (d.aM [1,0,2,3,4,5,6,7,8]) x c) λn L=>?_⟩;have p:=L.quiet (aZ.drew n []);let u:Sx:=gP (pU S i) i;let r:bP:=Sep [ay a e.cells.toArray 52,ay b u.cells.toArray 78,B];have M:St w0 n.drew (Sep (rS g C++[r])):=St.vD (m:=[_,_,_]) (p.aM [2,3,4,5,6,7,1,0,8]);have cl:n.drew.cell? ⟨b,9,none⟩=some (.pointer (qs g)):=by
  rw[p.aj 0 rfl,rM H];show some (Value.pointer S.k)=_;rw[I]
 have f:∀{l:ah} {t:Ck},St w0 l (Sep (rS g t++[r]))->St w0 l (Sep (pH b u g t++[B])):=λs=>(s.mT [_,_,_,_,_,_]).aM [7,0,1,2,3,4,5,8];have G:n.drew.cell? ⟨a,1,none⟩=some (iv i):=by rw[<-o];exact p.aj 1 rfl 1
 refine⟨rfl,_,cl,_,G,bg (YU M y hi) ?_⟩;rintro v N (⟨hd,rfl,q⟩|⟨hd,rfl,q⟩)
 .exact⟨_,rfl,.inl ⟨hd,rfl,f q⟩⟩
 exact⟨_,rfl,.inr ⟨hd,rfl,f q⟩⟩
end

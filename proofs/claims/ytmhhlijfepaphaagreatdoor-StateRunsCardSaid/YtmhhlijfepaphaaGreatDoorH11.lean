import Derived.Shelf.SlSortCmp.WholeK
import Derived.Test.YtmhhlijfepaphaaGreatDoorH10
set_option linter.all false
set_option maxRecDepth 100000
namespace Go.Proofs.YtmhhlijfepaphaaGreatDoor
open Go Go.Vc _root_.Go.Proofs.Tryz
section
variable {w0 w:ah} {b g:Nat} {S:Sx} {C:Ck} {B:bP}
def jb(S:Sx):Nat->Sx
 |0=>S
 |k+1=>gP (jb S k) k
theorem ES(h:S.bd.length=8):∀k,(jb S k).bd.length=8
 |0=>h
 |k+1=>by have:=ES h k;simpa[jb,gP] using this
def UB(s:St w0 w (Sep (pH b S g C++[B])))(h:S.bd.length=8)(A:S.k=qs g)(z:C.Ok)(e:Ev):
  CP 69 #[.pointer (qs b),e.v] w (λr f=>(gZ C e.round=true/\r=iv 4/\St w0 f (Sep (pH b S g C++[B])))\/(gZ C e.round=false/\r=iv 0/\∃a,a.er=(jT C e.round.toNat).er/\St w0 f (Sep (pH b {jb S 8 with ph:=1} g a++[B])))):=by
 refine @xJ _ _ _ _ e.want _ _ _ _ (s.aY e.cells.toArray λE t F=>?_);have p:=F.quiet (aZ.drew t []);let x:bP:=Sep [ay E e.cells.toArray 52,ay b S.cells.toArray 78,B];have G:=St.vD (m:=[_,_,_]) (p.aM [2,3,4,5,6,7,0,1,8]);have cl:t.drew.cell? ⟨b,9,none⟩=some (.pointer (qs g)):=by rw[p.aj 1 rfl,rM h,A]
 have d:∀{f:ah} {a:Ck},St w0 f (Sep (rS g a++[x]))->St w0 f (Sep (pH b S g a++[B])):=λs=>(s.mT [_,_,_,_,_,_]).aM [7,0,1,2,3,4,5,8];refine⟨_,cl,_,p.aj 0 rfl 2,bg (Xa G z e.round) ?_⟩;rintro v J (⟨o,rfl,q⟩|⟨o,rfl,a,y,q⟩)
 .exact⟨_,rfl,cT rfl (.inl ⟨o,rfl,d q⟩)⟩
 refine⟨_,rfl,cF rfl ⟨λi u m=>∃k:Nat,i=k/\k<=8/\m=8-k/\St w0 u (Sep (pH b (jb S k) g a++[B])),⟨8,0,rfl,by omega,by omega,d q⟩,?_⟩⟩;rintro u m i ⟨k,rfl,D,I,r⟩-;have n:=ES h k
 by_cases c:(k:Int)<8
 .exact di c (bF (It (m:=rS g a++[B]) r n (i:=k) (by omega)) λH l=>⟨rfl,8-(k+1),by omega,k+1,gC (by omega),by omega,rfl,l⟩)
 obtain rfl:k=8:=by omega
 refine dz c (r.cL 0 rfl (j:=4) (by rw[nk n];omega) rfl λH l=>.inr ⟨o,rfl,a,y,?_⟩);rw[K2 n] at l;exact l
end
def xg(F:I6->Int)(b:I6)(v:Int)(c:Ch):Int:=if c.want=b then v else if F c.want+cost c.p b-cost c.p c.want<v then F c.want+cost c.p b-cost c.p c.want else v
def Tc(F:I6->Int)(l:List Ch)(b:I6):Int:=l.foldl (xg F b) 1000000
def Wb{l:List Ch}(h:∀c∈l,c.Ok){q:I6}(d:I6.Le q 4):∀{v:Int},0<=v/\v<=24000000->0<=l.foldl (oB q) v/\l.foldl (oB q) v<=24000000:=by
 induction l with
 |nil=>intro v a;exact a
 |cons c l e=>
  intro v a;rw[bD];refine e (λc b=>h c (by simp[b])) ?_;have:=nh (h c (by simp)).p d;unfold oB
  split
  .split<;>omega
  exact a
def Wa{l:List Of}(h:∀x∈l,x.v<=1000000){q:I6}:∀{v:Int},0<=v/\v<=24000000->0<=l.foldl (Ae q) v/\l.foldl (Ae q) v<=24000000:=by
 induction l with
 |nil=>intro v a;exact a
 |cons c l d=>
  intro v a;rw[bD];refine d (λc b=>h c (by simp[b])) ?_;have:=h c (by simp);unfold Ae
  split
  .split<;>omega
  exact a
def NC{l:List Ch}{bids:List Of}(h:∀c∈l,c.Ok)(a:∀x∈bids,x.v<=1000000){q:I6}(b:I6.Le q 4):0<=Bk l bids q/\Bk l bids q<=24000000:=Wa a (Wb h b (by decide))
def Zw{w:ah}{a:OA}{c:Nat}{l:List Ch}(K:zO w a l)(Y:l.length<=1000)(I:∀c∈l,c.Ok){F:I6->Int}(H:∀q,I6.Le q 4->0<=F q/\F q<=24000000){v:Value}(L:∀(j:ah) (q:I6) (R:Ending->ah->Prop),aZ w j []->I6.Le q 4->(∀o,aZ j o []->R (.returned (iv (F q))) o)->rZ prog v #[.agg q.vs.toArray] j R){b:I6}(B:I6.Le b 4):
  CP 280 #[.slice a l.length c,v,.agg b.vs.toArray] w (λr j=>r=iv (Tc F l b)/\aZ w j []):=by
 refine(p6 pP.1).2.2.1 (bE b.vs.toArray λN w1 O=>?_);let M:List bP:=[ay N b.vs.toArray 50,emp];refine⟨λn i C m=>∃k:Nat,i=k/\k<=l.length/\m=l.length-k/\n=(l.take k).foldl (xg F b) 1000000/\St w C (Sep M),⟨l.length,0,rfl,by omega,by omega,rfl,O⟩,?_⟩;rintro C m n i ⟨k,rfl,X,Z,rfl,x⟩-
 by_cases g:(k:Int)<(l.length:Int)
 .obtain⟨y,u⟩:=dX l k (by omega);obtain⟨p,J,t⟩:=(K.aK x.aK).at u;have d:=I y (ak u);have A:=mM (f:=xg F b) (a:=1000000) u;refine di g ⟨λn D=>n=(l.take (k+1)).foldl (xg F b) 1000000/\St w D (Sep M),?_,av J ⟨by omega,by omega,y.p,y.want,t,x.aY tI.cells.toArray λr2 w4 P=>P.aR 0 rfl y.cells rfl y.one λQ s=>⟨y.want,iL s 0 rfl,b,s.cellsIn 1 rfl,?_⟩⟩⟩
  .rintro D n ⟨rfl,e⟩-;exact mS (by omega) ⟨rfl,e⟩
  rw[I6.beq_eq]
  by_cases r:y.want=b
  .exact cF (by rw[dT r];rfl) ⟨by rw[A,xg,ag r],s.aM [1,2]⟩
  have e:=s.quiet (aZ.drew Q []);refine cT (by rw[dF r];rfl) ⟨y.want,iL e 0 rfl,y.p,yE e 0 rfl,b,e.cellsIn 1 rfl,y.p,yE e 0 rfl,y.want,iL e 0 rfl,L _ y.want _ e.aK d.w λS E=>?_⟩;have h:=e.quiet E;refine⟨_,rfl,iL h 0 rfl,yE h 0 rfl,h.cellsIn 1 rfl,yE h 0 rfl,h.qu (rB S d.p B) λT z=>⟨_,rfl,iL z 0 rfl,yE z 0 rfl,bF (rB T d.p d.w) λw9 G=>?_⟩⟩;have U:=H y.want d.w;have V:=nh d.p B;have W:=nh d.p d.w;refine⟨_,rfl,?_,(z.quiet G).aM [1,2]⟩;rw[A,xg,af r,fQ (n:=F y.want+cost y.p b) ⟨by omega,by omega⟩,gC (by omega)]
 obtain rfl:l.length=k:=by omega
 rw[aH];exact dz g ⟨rfl,x.aK⟩
def Pp(w:ah)(a:OA)(n c:Nat):CP 224 #[.slice a n c,.agg #[.slice none 0 0,.slice none 0 0]] w (λr h=>r=.bool true/\aZ w h []):=by
 refine(p6 (p6 nK.2.1)).2.1 (bE #[.slice none 0 0,.slice none 0 0] λk j d=>⟨λb e=>b=false/\e=j,?_,_,_,_,d.aj 0 rfl 0,cF rfl ⟨_,_,_,d.aj 0 rfl 0,rfl,rfl⟩⟩);rintro e _ ⟨rfl,rfl⟩-;refine cF rfl ⟨_,_,_,d.aj 0 rfl 0,λi f m=>i=0/\f=e,⟨0,rfl,rfl⟩,?_⟩;rintro f m i ⟨rfl,rfl⟩-;refine cF rfl ⟨_,_,_,d.aj 0 rfl 1,λi g m=>i=0/\g=f,⟨0,rfl,rfl⟩,?_⟩;rintro g m i ⟨rfl,rfl⟩-;exact cF rfl ⟨rfl,d.aK⟩
def QV{w:ah}{a:OA}{c:Nat}{x:Ch}(i:zO w a [x])(h:x.Ok):CP 163 #[.slice a 1 c,.agg #[.slice none 0 0,.slice none 0 0]] w (λr d=>r=iv 13/\aZ w d []):=by
 refine(p6 nK.2.1).2.2.2.1 (bE #[.slice none 0 0,.slice none 0 0] λo p e=>e.qu (Ds (l:=[x]) (k:=c) (i.aK e.aK) (by simp)) λm f=>?_);have j:=Dr.2 λc g=>by rw[aI.1 g];exact h
 refine⟨_,rfl,cF (by rw[j];rfl) (Ex4 ⟨_,_,f.cellsIn 0 rfl,f.qu (Pp m a 1 c) λn b=>⟨_,rfl,cF rfl ⟨_,_,_,b.aj 0 rfl 0,cT rfl ⟨_,_,_,b.aj 0 rfl 1,bg (K:=λr d=>r=.bool false/\d=n) (nK.2.2.1 ?_) ?_⟩⟩⟩⟩)⟩
 .skip
  exact cT rfl ⟨rfl,rfl⟩
 rintro v q ⟨rfl,rfl⟩;exact⟨_,rfl,cT rfl ⟨rfl,b.aK⟩⟩
def OC{w:ah}{a:OA}{c:Nat}{l:List Ch}(u:zO w a l)(D:l.length<=1000)(s:∀c∈l,c.Ok):CP 102 #[.slice a l.length c] w (λr A=>r=.bool true/\aZ w A []):=by
 refine pP.1.2.2.2.2.2.1 ⟨λi n m=>∃k:Nat,i=k/\k<=l.length/\m=l.length-k/\aZ w n [],⟨l.length,0,rfl,by omega,by omega,aZ.refl _ _⟩,?_⟩;rintro n m i ⟨k,rfl,C,E,d⟩-
 by_cases b:(k:Int)<(l.length:Int)
 .obtain⟨y,g⟩:=dX l k (by omega);obtain⟨p,t,e⟩:=(u.aK d).at g;refine di b (av t ⟨by omega,by omega,y.p,y.want,e,(St.start' d).one.aY tI.cells.toArray λF G x=>x.aR 0 rfl y.cells rfl y.one λH h=>⟨y.p,y.want,h.cellsIn 0 rfl,h.aY y.cells.toArray λv B j=>?_⟩⟩);have q:zO B (qs v) [y]:=λi z f=>by
   obtain⟨rfl,rfl⟩:i=0/\z=y:=by
    cases i with
    |zero=>simp at f;exact⟨rfl,f.symm⟩
    |succ i=>simp at f
   exact⟨_,_,rfl,by rw[gz,wq];exact j.cellsIn 0 rfl,rfl,rfl⟩
  exact bF (QV (c:=1) q (s y (ak g))) λI o=>⟨_,rfl,cF rfl (mS (by omega) ((j.quiet o).aK))⟩
 exact dz b ⟨rfl,d⟩
def Aw(l:List Ch)(bids:List Of)(x:Of):Bool:=decide (x.v>Tc (Bk l bids) l x.want)
def CE(l:List Ch)(bids:List Of):Int:=if bids.all tS then (if bids.any (Aw l bids) then 16 else 0) else 4
def Pq{a:Type}(p:a->Bool):List a->Nat
 |[]=>0
 |x::l=>if p x=true then 0 else Pq p l+1
theorem Ai{c:Type}{p:c->Bool}:∀{l:List c} {k:Nat} {x:c},(l.take k).any p=false->l[k]?=some x->p x=true->Pq p l=k
 |y::l,0,x,_,b,h=>by cases b;rw[Pq,ag h]
 |y::l,k+1,x,a,b,h=>by
  rw[fJ,nv,cI] at a;rw[Pq,af (by rw[a.1];decide),Ai a.2 (by simpa using b) h]
def AJ(l:List Ch)(bids:List Of):Nat:=if bids.all tS then (if bids.any (Aw l bids) then Pq (Aw l bids) bids else 0) else Pq (λx=>!tS x) bids
def KQ{w:ah}{a1 a2:OA}{c1 c2:Nat}{l:List Ch}{bids:List Of}(G:zO w a1 l)(D:l.length<=1000)(f:∀c∈l,c.Ok)(B:Q5 w a2 bids)(C:bids.length<=100000):
  CP 190 #[.slice a1 l.length c1,.slice a2 bids.length c2] w (λr A=>r=.tuple #[iv (AJ l bids),iv (CE l bids)]/\aZ w A []):=by
 refine pP.1.2.2.1 (bF (OC G D f) λV d1=>⟨_,rfl,cF rfl ⟨λi M m=>∃k:Nat,i=k/\k<=bids.length/\m=bids.length-k/\(bids.take k).all tS=true/\aZ w M [],⟨bids.length,0,rfl,by omega,by omega,rfl,d1⟩,?_⟩⟩);rintro M m i ⟨k,rfl,J,L,g,d2⟩-
 by_cases e:(k:Int)<(bids.length:Int)
 .obtain⟨y,d⟩:=dX bids k (by omega);obtain⟨p,E,j⟩:=(B.aK d2).at d;refine di e (av E ⟨by omega,by omega,_,y.want,_,j,(St.start' d2).one.aY vX.cells.toArray λn u b=>b.aR 0 rfl y.cells rfl y.one λq a=>⟨_,y.want,_,a.cellsIn 0 rfl,bF (PT q y) λt h=>⟨_,rfl,?_⟩⟩⟩)
  cases hy:tS y with
  |false=>
   have:bids.all tS=false:=fA.2 ⟨y,ak d,by simp[hy]⟩;have s:AJ l bids=k:=by
    rw[AJ,this,af (by decide)];refine Ai ?_ d (by rw[hy];rfl);rw[eG];intro z o;rw[bw.1 g z o];decide
   exact cT rfl ⟨by rw[s,CE,this];rfl,(a.quiet h).aK⟩
  |true=>
   refine cF rfl (mS (by omega) ⟨?_,(a.quiet h).aK⟩);rw[bJ d,fq,g];simp[hy]
 obtain rfl:bids.length=k:=by omega
 rw[aH] at g;have I:CE l bids=if bids.any (Aw l bids) then 16 else 0:=by rw[CE,ag g]
 have t:∀x∈bids,I6.Le x.want 4/\x.v<=1000000:=λx d=>by
  have:=bw.1 g x d;unfold tS at this;simp only[aF,aV] at this;exact⟨C9 this.1,this.2.2.2⟩
 refine dz e (bg (K:=λr A=>∃n o,r=.func (.func 340) #[] #[pt n,pt o]/\St w A (Sep [ay o #[.slice a2 bids.length c2] 62,ay n #[.slice a1 l.length c1] 104,emp])) ((p6 pP.1).2.1 ?_) ?_)
 .skip
  exact(St.start' d2).one.aY _ λn u b=>b.aY _ λo q a=>⟨n,o,rfl,a⟩
 rintro v W ⟨n,o,rfl,P⟩;refine⟨_,rfl,λi N m=>∃k:Nat,i=k/\k<=bids.length/\m=bids.length-k/\(bids.take k).any (Aw l bids)=false/\St w N (Sep [ay o #[.slice a2 bids.length c2] 62,ay n #[.slice a1 l.length c1] 104,emp]),⟨bids.length,0,rfl,by omega,by omega,rfl,P⟩,?_⟩;clear e L J d2;rintro N m i ⟨k,rfl,J,L,a,z⟩-
 by_cases e:(k:Int)<(bids.length:Int)
 .obtain⟨y,d⟩:=dX bids k (by omega);obtain⟨p,E,j⟩:=(B.aK z.aK).at d;refine di e (av E ⟨by omega,by omega,_,y.want,_,j,z.aY vX.cells.toArray λU X Q=>Q.aR 0 rfl y.cells rfl y.one λT S=>?_⟩);have b:=S.quiet (aZ.drew T []);refine⟨_,b.aj 0 rfl 7,y.want,b.bA 0 1 rfl rfl,bg (Zw (F:=Bk l bids) (G.aK b.aK) D f (λq O=>NC f (λx d=>(t x d).2) O) ?_ (t y (ak d)).1) ?_⟩
  .intro A q R u _ kk;refine iJ (by kernel_rfl) (bg (Wd (G.aK (b.quiet u).aK) D f (B.aK (b.quiet u).aK) C ((b.quiet u).aj 2 rfl 0) ((b.quiet u).aj 1 rfl 0) q) ?_);rintro r H ⟨rfl,h⟩;exact kk H h
  rintro v H ⟨rfl,u⟩;have h:=b.quiet u;refine⟨_,rfl,h.aj 0 rfl 7,?_⟩
  cases f:Aw l bids y with
  |true=>
   have s:AJ l bids=k:=by rw[AJ,ag g,jQ d f,ag rfl];exact Ai a d f
   exact cT f ⟨by rw[s,I,jQ d f];rfl,h.aK⟩
  |false=>exact cF f (mS (by omega) ⟨jy a d f,h.aM [1,2,3]⟩)
 obtain rfl:bids.length=k:=by omega
 rw[aH] at a;have s:AJ l bids=0:=by rw[AJ,ag g,a];rfl
 exact dz e ⟨by rw[s,I,a];rfl,z.aK⟩
def Mz{w:ah}{a1 a2:OA}{c1 c2:Nat}{l:List Ch}{bids:List Of}(f:zO w a1 l)(d:l.length<=1000)(e:∀c∈l,c.Ok)(b:Q5 w a2 bids)(a:bids.length<=100000):
  CP 190 #[.slice a1 l.length c1,.slice a2 bids.length c2] w (λr g=>(∃i:Int,r=.tuple #[iv i,iv (CE l bids)])/\aZ w g []):=
 bg (KQ f d e b a) λ_ _ h=>⟨_,rfl,⟨_,h.1⟩,h.2⟩
def HR(x:Xv)(m:I6):qQ x.er m=qQ x m:=by unfold qQ;rw[vz,Yd]
def HS(x:Xv)(m:I6):qf x.er m=qf x m:=by unfold qf;rw[Yd]
def BC{l:List Pr}{t:List UInt8}(h:(fV l t).2=0):j4 (fV l t).1=0:=by
 unfold fV at h⊢
 split at h
 .rename_i g;exact absurd h g
 rename_i g;rw[af g]
 split at h
 .rename_i g2;exact absurd h g2
 rename_i g2;rw[af g2]
 split at h
 .rename_i a;exact absurd h a
 rename_i a;rw[af a];simpa using a
def uM{x:Xv}(h:j4 x=0):fE x<=40:=by
 unfold j4 at h
 split at h
 .cases h
 split at h
 .cases h
 rename_i g;omega
def HI(S:Se)(n:Nat)(y:Br):List Of->Int
 |[]=>0
 |o::l=>if iO S n y o.want≠0 then iO S n y o.want else if y.bud≠0/\y.bud<o.v then 17 else HI S n y l
theorem Al{S:Se}{n:Nat}{y:Br}:∀(l:List Of) (k:Nat),(∀o∈l.take k,iO S n y o.want=0/\¬ (y.bud≠0/\y.bud<o.v))->HI S n y l=HI S n y (l.drop k)
 |l,0,_=>rfl
 |[],k+1,_=>rfl
 |o::l,k+1,h=>by
  obtain⟨a,b⟩:=h o (by simp);rw[HI,af (by simpa using a),af b,Al l k λo c=>h o (by simp[c])];rfl
def S6{S:Se}{n:Nat}{y:Br}{l:List Of}{k:Nat}{o:Of}(h:∀o∈l.take k,iO S n y o.want=0/\¬ (y.bud≠0/\y.bud<o.v))(b:l[k]?=some o):
  HI S n y l=if iO S n y o.want≠0 then iO S n y o.want else if y.bud≠0/\y.bud<o.v then 17 else HI S n y (l.drop (k+1)):=by
 obtain⟨a,rfl⟩:=ai.1 b;rw[Al l k h,bO a,HI]
def kG(S:Se)(C:Ck)(n:Nat)(y:Br)(t:List UInt8):Int:=
 if (fV S.ps t).2≠0 then (fV S.ps t).2 else if qQ (fV S.ps t).1 (dD S.ps)≠0 then qQ (fV S.ps t).1 (dD S.ps)
 else if HI S n y (qf (fV S.ps t).1 (dD S.ps))≠0 then HI S n y (qf (fV S.ps t).1 (dD S.ps)) else CE (p9 C n) (qf (fV S.ps t).1 (dD S.ps))
def IC{l:List Pr}(h:iu l):pr (dD l).l<=1024:=by
 rw[MN,Dg h.l2];exact h.lim
def QD{w:ah}{b g n:Nat}{S:Sx}{C:Ck}{y:Br}(hb:aU w ⟨b,0,none⟩ 0 S.cells)(N:S.s.In w)(hk:S.k=qs g)(hK:C.Rd g w)(hC:C.Ok)(G:S.s.Ok)(hn:n<C.s.bd.length)(hy:S.s.bd[n]?=some y)(t:List UInt8):
  CP 129 #[.pointer (qs b),iv n,sv t] w (λr z=>∃x:Xv,(kG S.s C n y t=0->x.er=(fV S.s.ps t).1)/\r=.tuple #[.agg x.cells.toArray,iv (kG S.s C n y t)]/\St w z (held x.In)):=by
 refine(p6 (p6 oC.1)).2.2.2.1 ?_;have hn':=(ai.1 hy).1;have z2:=G.bd.l2;have hm:=sup_le G.ps;have W:=IC G.ps;have K:∀{z},aZ w z []->∀(j:Nat) (v:Value),S.cells[j]?=some v->z.cell? ⟨b,j,none⟩=some v:=λhc j v H=>by
  have:=bX (ff hc hb) j v H
  rwa [az,wq] at this
 refine bE gj.cells.toArray λI w1 s1=>⟨_,_,_,K s1.aK 5 _ rfl,bg (WT (N.aK s1.aK).ps N.h1 G.ps t) ?_⟩;rintro v w2 ⟨x,ex,rfl,k2⟩;have s2:St w w2 (Sep [held x.In,ay I gj.cells.toArray 73,emp]):=s1.and k2;refine⟨_,x.u,Ex4 ⟨_,rfl,s2.aY gj.cells.toArray λr2 w3 X=>X.aR 0 rfl x.cells rfl x.one λw4 s4=>?_⟩⟩;have p:∀{k:Int} {z:ah} {m:List bP} {i:Nat},St w z (Sep m)->m[i]?=some (ay I gj.cells.toArray 73)->k≠0->kG S.s C n y t=k ->
   yY ⟨I,0,none⟩ 0 gj.cells z λw3=>∃(h:Int) (q:I6) (o:Int) (c:OA) (f d:Nat),aU w3 ⟨I,0,none⟩ 0 (iv h::q.on [iv o,.slice c f d]) /\
    ∃x:Xv,(kG S.s C n y t=0->x.er=(fV S.s.ps t).1)/\Value.tuple #[.agg (iv h::q.on [iv o,.slice c f d]:List Value).toArray,iv k]=.tuple #[.agg x.cells.toArray,iv (kG S.s C n y t)]/\St w w3 (held x.In):=λ{k z m i} s e a W=>
  s.aR i e gj.cells rfl (Xv.one _) λw3 X=>⟨_,z6,_,_,_,_,X.cellsIn (cs:=gj.cells.toArray) (T:=73) i (cN (kL e)),gj,λh=>absurd (W.symm.trans h) a,by rw[W];rfl,((St.start' X.aK).one.oM wk).first⟩
 by_cases F:(fV S.s.ps t).2=0
 .have hx0:j4 x=0:=by rw[<-vz,ex];exact BC F
  have hz:=uM hx0;have E:kG S.s C n y t=if qQ x (dD S.s.ps)≠0 then qQ x (dD S.s.ps) else if HI S.s n y (qf x (dD S.s.ps))≠0 then HI S.s n y (qf x (dD S.s.ps)) else CE (p9 C n) (qf x (dD S.s.ps)):=by
   rw[kG,af (by simpa using F),<-ex,HR,HS]
  have Y:=s4.quiet (aZ.drew w4 []);refine iI F ⟨_,x.u,_,_,_,_,Y.cellsIn 0 rfl,_,_,_,K Y.aK 5 _ rfl,Y.qu (tG (N.aK Y.aK).ps (by have:=G.ps.l2;omega)) λw6 Z=>⟨_,rfl,Z.cellsIn 0 rfl,bg (FV hm W (by omega) (Z.eu 1 rfl)) ?_⟩⟩;rintro v w7 (⟨P,rfl,c7⟩|⟨P,hlen,a,c,rfl,k7⟩)
  .exact⟨_,_,_,_,rfl,gM P (p (Z.quiet c7) (i:=2) rfl P (by rw[E,ag P]))⟩
  rw[af (by simpa using P)] at E;have s7:=Z.and k7.single;generalize hl:qf x (dD S.s.ps)=l at *;obtain⟨_,q,hq,hcy⟩:=(N.aK s7.aK).bd n y hy;have L:w7.cell? (Addr.add (Addr.add q (((n:Nat):Int).toNat*4)) 2)=some (iv y.bud):=by
   have:=bX hcy 2 _ rfl
   rwa [az] at this
  refine⟨_,_,_,_,rfl,cF rfl ⟨_,_,_,K s7.aK 6 _ rfl,av hq ⟨by omega,by omega,_,L,⟨λi w8 m=>∃k:Nat,i=k/\k<=l.length/\m=l.length-k/\(∀o∈l.take k,iO S.s n y o.want=0/\¬ (y.bud≠0/\y.bud<o.v))/\St w w8 (Sep [dB a c l,ay r2 x.cells.toArray 73,held x.In,ay I gj.cells.toArray 73,emp]),⟨l.length,0,rfl,by omega,by omega,by simp,s7⟩,?_⟩⟩⟩⟩;rintro w8 m i ⟨k,rfl,hk8,hm8,e,J⟩-
  by_cases O:(k:Int)<(l.length:Int)
  .obtain⟨o,B⟩:=dX l k (by omega);obtain⟨q2,hq2,hc2⟩:=(St.rd Of.len J).at B;have M:=S6 e B;refine di O (av hq2 ⟨by omega,by omega,_,o.want,_,hc2,J.aY vX.cells.toArray λr3 w9 s9=>s9.aR 0 rfl o.cells rfl o.one λD r=>?_⟩);have d:=r.quiet (aZ.drew D []);have R:aU D.drew ⟨b,5,none⟩ 0 S.s.arr.toList:=fm _ 0 λj v hj=>by
    rw[gW,az];refine K d.aK (5+j) v ?_;have f:=(ai.1 hj).1
    match j,f with
    |0,_|1,_|2,_|3,_=>exact hj
   refine Ex8<|Ex4<|⟨R,o.want,d.bA 0 1 rfl rfl,d.qu (xT (N.aK d.aK) G hy o.want) λw12 s=>⟨_,rfl,?_⟩⟩
   by_cases A:iO S.s n y o.want=0
   .rw[af (by simpa using A)] at M;refine iI A ⟨λbb V=>bb=decide (y.bud≠0/\y.bud<o.v)/\St w V (Sep [dB a c l,ay r2 x.cells.toArray 73,held x.In,ay I gj.cells.toArray 73,emp]),?_,?_⟩
    .rintro V bb ⟨rfl,U⟩ x2
     by_cases f:y.bud≠0/\y.bud<o.v
     .rw[ag f] at M;exact di f (p U (i:=3) rfl (by decide) (by rw[E,M];rfl))
     refine dz f (mS (by omega) ⟨λo' Q=>?_,U⟩);rw[bJ B] at Q;rcases aB.1 Q with h|h
     .exact e o' h
     rw[aI.1 h];exact⟨A,f⟩
    refine cBq (λf=>⟨_,s.aj 0 rfl 7,?_,s.aM [1,2,3,4,5]⟩) λf=>⟨by rw[dF λh=>h.1 f],s.aM [1,2,3,4,5]⟩
    by_cases H:y.bud<o.v
    .rw[dT H,dT ⟨f,H⟩]
    rw[dF H,dF λh=>H h.2]
   rw[ag A] at M;exact gM A (p s (i:=4) rfl A (by rw[E,M,ag A]))
  obtain rfl:k=l.length:=by omega
  rw[aH] at e;have A:HI S.s n y l=0:=by rw[Al l l.length (by rw[aH];exact e),gH];rfl
  rw[A,af (by decide)] at E;refine dz O ⟨_,(K J.aK 9 _ rfl).trans (by rw[hk]),bg (Bb (hK.aK J.aK) hC hn) ?_⟩;rintro v w9 ⟨Q,R,rfl,h⟩;have B:=(St.rd Of.len J).aK h.aK;have s:=St.rd Ch.len h.one;have s9:=J.quiet h.aK;refine⟨_,_,_,rfl,bg (Mz s (by unfold p9;rw[bu];have:=hC.cl;omega) (FQ hC) B (by omega)) ?_⟩;rintro v D ⟨⟨i,rfl⟩,f⟩;have r:=s9.quiet f;exact⟨_,_,rfl,_,x.u,_,_,_,_,r.cellsIn 1 rfl,r.aR 3 rfl x.cells rfl x.one λM d=>⟨_,x.u,_,_,_,_,d.cellsIn 3 rfl,x,λ_=>ex,by rw[E];rfl,(d.aM [2]).single⟩⟩
 exact gM F (p s4 (i:=2) rfl F (by rw[kG,ag F]))
def zb(S:Sx)(n:Nat)(x:Xv):Sx:={S with bd:=S.bd.set n {S.bd.getD n gR with x:=x,has:=true} }
section
variable {w0 w:ah} {b g n:Nat} {S:Sx} {C:Ck} {B:bP} {y:Br}
def VK{k:List Nat}{l:List bP}(s:St w0 w (Sep l))(e:aM k l=rS g C):C.Rd g w:=(by have:=s.aM k;rw[e] at this;exact this:St w0 w (Sep (rS g C))).imp BV
def aad{Q:ah->Prop}(hQ:∀w,Q w->S.s.In w)(s:St w0 w (Sep (pH b S g C++[held Q,B])))(h:S.bd.length=8)(P:S.k=qs g)(O:C.Ok)(F:S.s.Ok){e:Ev}(p:e.bidder=n)(R:n<C.s.bd.length)(G:S.s.bd[n]?=some y):
  CP 66 #[.pointer (qs b),e.v] w (λr a=>r=iv (kG S.s C n y e.text)/\(kG S.s C n y e.text≠0->St w0 a (Sep (pH b S g C++[held Q,B])))/\(kG S.s C n y e.text=0->∃x:Xv,x.er=(fV S.s.ps e.text).1/\St w0 a (Sep (pH b (zb S n x) g C++[held Q,held x.In,B])))):=by
 refine @zD _ _ _ _ e.want _ _ _ _ ?_;have T:=(ai.1 G).1;have z2:=F.bd.l2;have i:n<8:=by omega
 have t:S.bd[n]?=some (S.bd.getD n gR):=by rw[au,gE (by omega)];rfl
 have q:S.cells.toArray.size=101:=by simpa using Sx.len h
 refine s.aY e.cells.toArray λo X d=>?_;have L:X.cell? ⟨o,1,none⟩=some (iv n):=by rw[<-p];exact d.aj 0 rfl 1
 have z:=VK (k:=[2,3,4,5,6,7]) d rfl;refine⟨_,L,_,d.aj 0 rfl 9,bg (QD (d.cellsIn 1 rfl) (hQ _ (d.eu 8 rfl)) P z O F R G e.text) ?_⟩;rintro v Y ⟨x,ex,rfl,U⟩;have V:St w0 Y (Sep (held x.In::ay o e.cells.toArray 52::ay b S.cells.toArray 78::(rS g C++[held Q,B]))):=d.and U;refine⟨_,x.u,Ex4 ⟨_,rfl,V.aY gj.cells.toArray λr2 w3 W=>W.aR 0 rfl x.cells rfl x.one λK H=>?_⟩⟩
 by_cases f:kG S.s C n y e.text=0
 .refine⟨λm=>St w0 m (Sep (pH b (zb S n x) g C++[held Q,held x.In,B])),λm c _=>⟨rfl,λh=>absurd f h,λ_=>⟨x,ex f,c⟩⟩,?_⟩;have c:=H.quiet (aZ.drew K []);have A:K.drew.cell? ⟨o,1,none⟩=some (iv n):=by rw[<-p];exact c.aj 2 rfl 1
  refine gM f ⟨_,A,_,A,_,x.u,_,_,_,_,c.cellsIn 0 rfl,by omega,by omega,?_⟩;rw[XV];let a:Sx:={S with bd:=S.bd.set n {S.bd.getD n gR with x:=x} };refine c.mA 3 (10+n*11) rfl (vs:=x.cells) a.cells.toArray (by rw[q,Xv.len];omega) (Xv.one _) (by rw[Xv.len];exact congrArg List.toArray (OI h i t x)) λZ I=>?_;have E:a.bd.length=8:=by simpa[a] using h
  have r:a.bd[n]?=some {S.bd.getD n gR with x:=x}:=by
   rw[cN (by omega)]
  have l:a.cells.toArray.size=101:=by simpa using Sx.len E
  have M:Z.cell? ⟨o,1,none⟩=some (iv n):=by rw[<-p];exact I.aj 2 rfl 1
  refine⟨M,by omega,by omega,?_⟩;rw[gW];refine I.cL 3 rfl (j:=10+n*11+9) (by rw[l];omega) rfl λw7 J=>?_;have D:=OH E i r true;have N:({a with bd:=a.bd.set n {({S.bd.getD n gR with x:=x}:Bd) with has:=true} }:Sx)=zb S n x:=by
   rw[kZ];rfl
  rw[N] at D;rw[D] at J;exact J.aM [3,4,5,6,7,8,9,10,1,11]
 refine⟨λm=>St w0 m (Sep (pH b S g C++[held Q,B])),λm c _=>⟨rfl,λ_=>c,λh=>absurd h f⟩,iI f (H.aM [3,4,5,6,7,8,9,10,11])⟩
end
structure Ck.Inv (C:Ck):Prop where
 ok:C.Ok
 n30:C.ov=false->C.cl.length<30
section
variable {C C':Ck}
def Rn.Sz.er{x:Rn}{n:Nat}:x.er.Sz n<->x.Sz n:=⟨λh=>⟨h.ask,h.got,h.bd⟩,λh=>⟨h.ask,h.got,h.bd⟩⟩
def Ck.Inv.adC(h:C.Inv):C.er.Inv:=by
 obtain⟨⟨s,o,cl,f,e,ca,d,p,ask,bd,dp,asked⟩,n30⟩:=h;have mm:∀{x:Rn},x∈C.er.cl->∃y∈C.cl,y.er=x:=λa=>aN.1 a;have c:C.er.cl.length=C.cl.length:=bu _;refine⟨⟨⟨s.ps,s.bd,s.cp,s.sa⟩,o,by rw[c];exact cl,λx a=>?_,λx a=>?_,λx a=>?_,λx a=>?_,p,ask,bd,dp,asked⟩,λh=>by rw[c];exact n30 h⟩
 .obtain⟨y,b,rfl⟩:=mm a;exact Rn.Sz.er.2 (f y b)
 .obtain⟨y,b,rfl⟩:=mm a;exact e y b
 .obtain⟨y,b,rfl⟩:=mm a;exact ca y b
 obtain⟨y,b,rfl⟩:=mm a;exact d y b
def Ck.Inv.adh(h:C.er.Inv):C.Inv:=by
 obtain⟨⟨s,o,cl,d,c,ca,b,p,ask,bd,dp,asked⟩,n30⟩:=h;have mm:∀{x:Rn},x∈C.cl->x.er∈C.er.cl:=λa=>bV a;have e:C.er.cl.length=C.cl.length:=bu _;rw[e] at cl n30;exact⟨⟨⟨s.ps,s.bd,s.cp,s.sa⟩,o,cl,λx a=>Rn.Sz.er.1 (d _ (mm a)),λx a=>c x.er (mm a),λx a=>ca x.er (mm a),λx a=>b x.er (mm a),p,ask,bd,dp,asked⟩,n30⟩
def Ck.Inv.er(h:C.Inv)(e:C'.er=C.er):C'.Inv:=Ck.Inv.adh (e▸h.adC)
def RR(C:Ck)(n:Nat):p9 C.er n=p9 C n:=by
 show(C.cl.map Rn.er).map _=_;rw[cE];rfl
def WX(C:Ck):oP C.er=oP C:=by
 show kH C.dp 0 (((C.cl.map Rn.er).getLast?.map Rn.got).getD [])=_;rw[List.getLast?_map,Option.map_map];rfl
def L1(C:Ck):C.er.cl.length=C.cl.length:=bu _
def SF(C:Ck):jl C.er=jl C:=by
 unfold jl;rw[L1,WX];rfl
def Sp(C:Ck):sH C.er=sH C:=by unfold sH;rw[SF];rfl
def Tp(C:Ck):qe C.er=qe C:=by unfold qe;rw[Sp];rfl
def NO(C:Ck):jG C.er=jG C:=by unfold jG;rw[Sp,Tp,L1]
def ab6(C:Ck):(Qu C.er).er=(Qu C).er:=by
 show({p:=_,ask:=_,got:=jl C.er,bd:=_,xa:=_,xc:=_,ga:=_,gc:=_,ba:=_,bc:=_}:Rn)=_;rw[SF];rfl
def Jw(C:Ck):C.er.er=C.er:=by
 show({C.er with cl:=(C.cl.map Rn.er).map Rn.er}:Ck)=_;rw[cE];rfl
def RW(C:Ck):(mg C.er).er=(mg C).er:=by
 have a:(mg C.er).cl.map Rn.er=(mg C).cl.map Rn.er:=by
  show((C.cl.map Rn.er)++[Qu C.er]).map Rn.er=(C.cl++[Qu C]).map Rn.er;rw[aS,aS,cE,bH,bH,ab6];rfl
 show({s:=_,o:=_,cl:=(mg C.er).cl.map Rn.er,p:=if jG C.er then C.p else (qe C.er).1,ask:=_,bd:=_,dp:=_,ov:=jG C.er,ka:=_,kc:=_,xa:=_,xc:=_,ya:=_,yc:=_,za:=_,zc:=_}:Ck)=_;rw[a,NO,Tp];rfl
def XD(C:Ck):(xL C.er).er=(xL C).er:=by
 show({s:=_,o:=_,cl:=(C.cl.map Rn.er).map Rn.er,p:=_,ask:=_,bd:=_,dp:=_,ov:=_,ka:=_,kc:=_,xa:=_,xc:=_,ya:=_,yc:=_,za:=_,zc:=_}:Ck)=_;rw[cE];rfl
def Sb(C:Ck)(n:Nat):(pe C.er n).er=(pe C n).er:=by
 show({s:=_,o:=_,cl:=(C.cl.map Rn.er).map Rn.er,p:=_,ask:=_,bd:=_,dp:=_,ov:=_,ka:=_,kc:=_,xa:=_,xc:=_,ya:=_,yc:=_,za:=_,zc:=_}:Ck)=_;rw[cE];rfl
def Vr(C:Ck)(n:Nat)(u:I6):(uJ C.er n u).er=(uJ C n u).er:=by
 show({s:=_,o:=_,cl:=(C.cl.map Rn.er).map Rn.er,p:=_,ask:=_,bd:=_,dp:=_,ov:=_,ka:=_,kc:=_,xa:=_,xc:=_,ya:=_,yc:=_,za:=_,zc:=_}:Ck)=_;rw[cE];rfl
def Qr(C:Ck)(r:Int):gZ C.er r=gZ C r:=by unfold gZ;rw[L1];rfl
def Ub(C:Ck)(r:Nat):(jT C.er r).er=(jT C r).er:=by
 unfold jT;have e:C.er.cl[r]?=(C.cl[r]?).map Rn.er:=aL ..;rw[e]
 cases C.cl[r]? with
 |none=>
  show({s:=_,o:=_,cl:=(C.cl.map Rn.er).map Rn.er,p:=_,ask:=_,bd:=_,dp:=_,ov:=_,ka:=_,kc:=_,xa:=_,xc:=_,ya:=_,yc:=_,za:=_,zc:=_}:Ck)=_;rw[cE];rfl
 |some x=>
  show({s:=_,o:=_,cl:=(((C.cl.map Rn.er).take r).map Rn.er),p:=_,ask:=_,bd:=_,dp:=_,ov:=_,ka:=_,kc:=_,xa:=_,xc:=_,ya:=_,yc:=_,za:=_,zc:=_}:Ck)=_;rw[<-List.map_take,cE];rfl
def Vq(C:Ck)(n:Nat)(y:Br)(u:I6):mb C.er n y u=mb C n y u:=by
 unfold mb;rw[RR];rfl
def Tt(S:Se)(C:Ck)(n:Nat)(y:Br)(t:List UInt8):kG S.er C.er n y t=kG S C n y t:=by
 unfold kG;rw[RR];have:∀l:List Of,HI S.er n y l=HI S n y l:=λl=>by
  induction l with
  |nil=>rfl
  |cons o l a=>rw[HI,HI,a];rfl
 rw[this];rfl
def Tf{S:Se}{o:Po}(b:S.Ok)(a:o.ok):(pT S o).Inv:=⟨WG b a,λ_=>by show([]:List Rn).length<30;decide⟩
def RF(h:C.Inv){n:Nat}{y:Br}{u:I6}(a:mb C n y u=0):(uJ C n u).Inv:=by
 have j:I6.Le u 4:=by
  unfold mb at a
  split at a
  .cases a
  split at a
  .rename_i b;exact absurd a b
  rename_i b;have c:iO C.s n y u=0:=by simpa using b
  unfold iO at c
  split at c
  .rename_i d;exact C9 d
  cases c
 obtain⟨⟨s,o,cl,g,f,ca,e,p,ask,d,i,asked⟩,c⟩:=h;refine⟨⟨s,o,cl,g,f,ca,e,p,by simpa[uJ] using ask,by simpa[uJ] using d,i,λv b=>?_⟩,c⟩;rcases cO b with b|rfl
 .exact asked v b
 exact j
def Pg(h:C.Inv)(n:Nat):(pe C n).Inv:=by
 obtain⟨⟨s,o,cl,f,e,ca,d,p,ask,c,g,asked⟩,b⟩:=h;refine⟨⟨s,o,cl,f,e,ca,d,p,by simpa[pe] using ask,by simpa[pe] using c,by simpa[pe] using g,λv a=>?_⟩,b⟩;rcases cO a with a|rfl
 .exact asked v a
 exact OV (by omega)
def Z5{n:Nat}:∀u∈List.replicate n z6,I6.Le u 4:=λu a=>by rw[fZ a];exact OV (by omega)
def G7(h:C.Ok):(mh C).Ok:=by
 obtain⟨s,o,cl,d,c,ca,b,p,ask,e,a,asked⟩:=h;exact⟨s,o,cl,d,c,ca,b,p,by simpa[mh] using a,by simpa[mh] using a,a,Z5⟩
def QI(h:C.Inv):(xL C).Inv:=by
 obtain⟨s,o,cl,d,c,ca,b,p,ask,a,e,asked⟩:=G7 h.ok;exact⟨⟨s,o,cl,d,c,ca,b,p,ask,a,e,asked⟩,λh=>by cases h⟩
def MA(h:C.Inv){r:Int}(c:gZ C r=false):(jT C r.toNat).Inv:=by
 have d:0<=r/\r<=C.cl.length/\(r=C.cl.length->C.ov=false):=by
  unfold gZ at c;simp only[cI,ct,eX,aC] at c;obtain⟨⟨b,f⟩,a⟩:=c;refine⟨by omega,by omega,λe=>?_⟩;rcases a with a|a
  .exact absurd e a
  exact a
 have k:=G7 h.ok;obtain⟨s,o,cl,i,b,ca,g,p,ask,f,j,asked⟩:=k;have n:=h.ok.cl;unfold jT
 cases hx:C.cl[r.toNat]? with
 |some x=>
  have m:=ak hx;have l:=(ai.1 hx).1;refine⟨⟨s,o,?_,λy a=>i y (bC a),λy a=>b y (bC a),λy a=>ca y (bC a),λy a=>g y (bC a),b x m,ask,f,j,asked⟩,λ_=>?_⟩
  .rw[aW];omega
  rw[aW];omega
 |none=>
  have a:=List.getElem?_eq_none_iff.1 hx;have e:r=C.cl.length:=by omega
  exact⟨⟨s,o,cl,i,b,ca,g,p,ask,f,j,asked⟩,λ_=>h.n30 (d.2.2 e)⟩
def L9{o:Po}{p ex:I6}(a:rG p=true)(h:(uf o p ex).2=0):rG (uf o p ex).1=true:=by
 unfold uf at h⊢
 split
 .rename_i g;rw[ag g] at h;cases h
 rename_i g
 by_cases e:ij o p ex=p
 .rw[e];exact a
 cases hv:rG (ij o p ex) with
 |true=>rfl
 |false=>exact absurd ⟨e,hv⟩ g
def Ly(h:C.Inv)(e:C.ov=false):(mg C).Inv:=by
 have n:=h.n30 e;have f:=LV h.ok;have b:=h.ok;obtain⟨s,o,cl,k,j,ca,i,p,ask,g,l,asked⟩:=G7 h.ok;have mm:∀{Q:Rn->Prop},(∀x∈C.cl,Q x)->Q (Qu C)->∀x∈(mg C).cl,Q x:=λm d x c=>by
  rcases aB.1 c with c|c
  .exact m x c
  rw[aI.1 c];exact d
 refine⟨⟨s,o,?_,mm k ⟨b.ask,f.1,b.bd⟩,mm j b.p,mm ca b.asked,mm i f.2,?_,ask,g,l,asked⟩,λa=>?_⟩
 .show(C.cl++[Qu C]).length<=30;rw[aA,aG];omega
 .show rG (if jG C then C.p else (qe C).1)=true
  split
  .exact b.p
  rename_i a;refine L9 b.p ?_;have a:jG C=false:=by simpa using a
  unfold jG at a;simp only[cI] at a;have d:(qe C).2=0:=by simpa using a.2.2
  exact d
 have a:jG C=false:=a;unfold jG at a;simp only[cI,ct] at a;show(C.cl++[Qu C]).length<30;rw[aA,aG];omega
end
def aaz{S:Sx}(h:S.bd.length=8)(k:OA):S.cells.toArray.setIfInBounds 9 (.pointer k)=({S with k:=k}:Sx).cells.toArray:=by
 obtain⟨o,p,s,n,m,dec,a,b⟩:=S;obtain⟨c,d,e,f,g,i,j,l,rfl⟩:=iU h;rfl
def aaA(S:Sx)(a:Se):(S.cells.toArray.toList.take 5++a.arr.toList++S.cells.toArray.toList.drop (5+a.arr.toList.length)).toArray=({S with s:=a}:Sx).cells.toArray:=rfl
def su(o:Po)(t:List UInt8):Int:=if pV o≠0 then pV o else rV t
section
variable {w0 w:ah} {b:Nat} {S:Sx} {B:bP}
def Xx(s:St w0 w (Sep [ay b S.cells.toArray 78,B]))(h:S.bd.length=8){e:Ev}(G:e.text.length<=80000):
  CP 63 #[.pointer (qs b),e.v] w (λr c=>r=iv (su S.o e.text)/\(su S.o e.text≠0->St w0 c (Sep [ay b S.cells.toArray 78,B]))/\(su S.o e.text=0->∃(a:Se) (g:Nat) (C:Ck),a.er=(vL e.text).er/\a.Ok/\S.o.ok/\C.er=(pT a S.o).er/\St w0 c (Sep (pH b {S with ph:=1,s:=a,k:=qs g} g C++[held a.In,B])))):=by
 refine @yL _ _ _ _ e.want _ _ _ _ (s.aY e.cells.toArray λJ N y=>⟨_,_,_,_,y.bA (vs:=S.o.cells) 1 0 rfl rfl,y.qu (BD N S.o) λP t=>⟨_,rfl,?_⟩⟩)
 by_cases c:pV S.o=0
 .have n:su S.o e.text=rV e.text:=by rw[su,af (λh=>h c)]
  refine iI c ⟨_,t.aj 0 rfl 9,bg (UA P e.text G) ?_⟩;rintro v Q ⟨a,i,rfl,H,q⟩;have K:St w0 Q (Sep [held a.In,ay J e.cells.toArray 52,ay b S.cells.toArray 78,B]):=t.and H;refine Ex8<|Ex4<|⟨_,_,rfl,K.aY jt.arr λT U L=>L.aR 0 rfl a.arr.toList rfl (by simp[Se.arr,Value.oneCell']) λR z=>?_⟩
  by_cases d:rV e.text=0
  .obtain⟨F,u⟩:=q d;have x:S.o.ok:=by
    unfold pV at c
    by_cases g:S.o.ok
    .exact g
    rw[af g] at c;cases c
   have p:=z.quiet (aZ.drew R []);refine iI d (Ex8<|Ex4<|⟨p.cellsIn (cs:=a.arr) 0 rfl,_,_,_,_,p.bA (vs:=S.o.cells) 3 0 rfl rfl,bg (abQ (p.eu 1 rfl) u x) ?_⟩);rintro v V ⟨g,C,E,rfl,I⟩;have A:=St.cat (p.and I);refine⟨_,_,rfl,cF rfl (Ex8<|Ex4<|⟨A.cellsIn (cs:=a.arr) 6 rfl,?_⟩)⟩;have r:=nk h;refine A.mA 9 5 rfl (vs:=a.arr.toList) ({S with s:=a}:Sx).cells.toArray (by rw[r];show 9<=101;decide) (by simp[Se.arr,Value.oneCell']) (aaA S a) λW M=>?_;have f:({S with s:=a}:Sx).bd.length=8:=h;refine M.cL 9 rfl (j:=9) (by show 9<({S with s:=a}:Sx).cells.toArray.size;rw[nk f];decide) rfl λX D=>?_;rw[aaz f] at D;have l:({S with s:=a,k:=qs g}:Sx).bd.length=8:=h;refine D.cL 9 rfl (j:=4) (by show 4<({S with s:=a,k:=qs g}:Sx).cells.toArray.size;rw[nk l];decide) rfl λO m=>?_;rw[K2 l] at m;exact⟨by rw[n,d],λh=>absurd (n.trans d) h,λ_=>⟨a,g,C,F,u,x,E,m.aM [9,0,1,2,3,4,5,7,10]⟩⟩
  exact gM d ⟨by rw[n],λ_=>z.aM [3,4],λh=>absurd (n.symm.trans h) d⟩
 exact gM c ⟨by rw[su,ag c],λ_=>t.second,λh=>absurd h (by rw[su,ag c];exact c)⟩
end
def pF(k:Int):FuncId:=if k=1 then 63 else if k=2 then 64 else if k=3\/k=4 then 65 else if k=5 then 66
 else if k=6 then 67 else if k=7 then 68 else if k=8 then 69 else 70
def Sh(w:ah)(b:Nat)(k:Int):CP 24 #[.pointer (qs b),iv k] w (λr j=>r=.func (.func (pF k)) #[] #[]/\j=w):=by
 refine(p6 oC.1).1 ?_
 by_cases a:k=1
 .exact gM a ⟨by rw[pF,ag a],rfl⟩
 refine iI a ?_
 by_cases c:k=2
 .exact gM c ⟨by rw[pF,af a,ag c],rfl⟩
 refine iI c ⟨λb i=>b=decide (k=3\/k=4)/\i=w,?_,?_⟩
 .rintro i _ ⟨rfl,rfl⟩-
  by_cases d:k=3\/k=4
  .exact di d ⟨by rw[pF,af a,af c,ag d],rfl⟩
  refine dz d ?_
  by_cases e:k=5
  .exact gM e ⟨by rw[pF,af a,af c,af d,ag e],rfl⟩
  refine iI e ?_
  by_cases f:k=6
  .exact gM f ⟨by rw[pF,af a,af c,af d,af e,ag f],rfl⟩
  refine iI f ?_
  by_cases g:k=7
  .exact gM g ⟨by rw[pF,af a,af c,af d,af e,af f,ag g],rfl⟩
  exact iI g (cBq (λh=>⟨by rw[pF,af a,af c,af d,af e,af f,af g,ag h],rfl⟩) λh=>⟨by rw[pF,af a,af c,af d,af e,af f,af g,af h],rfl⟩)
 refine cBq (λd=>⟨by rw[dT (Or.inl d)];simpa using d,rfl⟩) λd=>⟨?_,rfl⟩
 by_cases e:k=4
 .rw[dT (Or.inr e)];simpa using e
 rw[dF (by omega)];simpa using e
def zN:Br:=⟨[],0,0,0⟩
def iq(S:Sx)(C:Ck)(e:Ev):Int:=
 if e.kind=1 then su S.o e.text
 else if e.kind=2 then mb C e.bidder.toNat (C.s.bd.getD e.bidder.toNat zN) e.want
 else if e.kind=3\/e.kind=4 then (if C.ov then 10 else 0)
 else if e.kind=5 then kG S.s C e.bidder.toNat (S.s.bd.getD e.bidder.toNat zN) e.text
 else if e.kind=6 then (if (S.bd.getD e.bidder.toNat gR).has then 0 else 6)
 else if e.kind=7 then (if C.dp.getD e.bidder.toNat false then 10 else 0)
 else if e.kind=8 then (if gZ C e.round then 4 else 0) else 0
def eU(S:Sx)(C:Ck)(e:Ev):Sx:=
 if e.kind=1 then {S with ph:=1,s:=vL e.text}
 else if e.kind=2 then S
 else if e.kind=3 then (if jG C then {S with ph:=2} else S)
 else if e.kind=4 then {S with ph:=2}
 else if e.kind=5 then zb S e.bidder.toNat (fV S.s.ps e.text).1
 else if e.kind=6 then gP S e.bidder.toNat
 else if e.kind=7 then gP (pU S e.bidder.toNat) e.bidder.toNat
 else if e.kind=8 then {jb S 8 with ph:=1} else tN S e
def gx(S:Sx)(C:Ck)(e:Ev):Ck:=
 if e.kind=1 then pT (vL e.text) S.o
 else if e.kind=2 then uJ C e.bidder.toNat e.want
 else if e.kind=3 then mg C
 else if e.kind=4 then xL C
 else if e.kind=7 then pe C e.bidder.toNat
 else if e.kind=8 then jT C e.round.toNat else C
def M1:∀x:Xv,x.er.er=x.er:=Xv.ind λx b=>by
 rw[Xv.pN x,Xv.er,Xv.LN]
 congr 1
 rw[cE];exact bq λy a=>b y a
def Bd.er(y:Bd):Bd:={y with x:=y.x.er}
def Sx.er(S:Sx):Sx:={S with s:=S.s.er,k:=none,bd:=S.bd.map Bd.er}
def GS(y:Bd):y.er.er=y.er:=by show({y with x:=y.x.er.er}:Bd)=_;rw[M1];rfl
def pZ(S:Sx):S.er.er=S.er:=by
 show({S.er with bd:=(S.bd.map Bd.er).map Bd.er}:Sx)=_;rw[cE,show(Bd.er ∘ Bd.er)=Bd.er from funext GS];rfl
def U1:gR.er=gR:=by show({gR with x:=gj.er}:Bd)=_;rw[E9];rfl
def oW(S:Sx)(n:Nat):S.er.bd.getD n gR=(S.bd.getD n gR).er:=by
 show(S.bd.map Bd.er).getD n gR=_;rw[au,au,aL]
 cases S.bd[n]? with
 |none=>exact U1.symm
 |some y=>rfl
def zm{l:List Bd}{n:Nat}{y a:Bd}(h:y.er=a.er):((l.map Bd.er).set n y).map Bd.er=(l.set n a).map Bd.er:=by
 rw[dO,dO,cE,h,show(Bd.er ∘ Bd.er)=Bd.er from funext GS]
def BM(S:Sx)(n:Nat):(gP S.er n).er=(gP S n).er:=by
 have:((S.bd.map Bd.er).set n (FR (S.er.bd.getD n gR))).map Bd.er=(S.bd.set n (FR (S.bd.getD n gR))).map Bd.er:=zm (by rw[oW];rfl);show({S.er with bd:=((S.bd.map Bd.er).set n (FR (S.er.bd.getD n gR))).map Bd.er}:Sx)=_;rw[this];rfl
def TC(S:Sx)(n:Nat):(pU S.er n).er=(pU S n).er:=by
 have:((S.bd.map Bd.er).set n {S.er.bd.getD n gR with out:=true}).map Bd.er=(S.bd.set n {S.bd.getD n gR with out:=true}).map Bd.er:=zm (by rw[oW];exact GS {S.bd.getD n gR with out:=true});show({S.er with bd:=((S.bd.map Bd.er).set n {S.er.bd.getD n gR with out:=true}).map Bd.er}:Sx)=_;rw[this];rfl
def KT{S a:Sx}(h:a.er=S.er)(n:Nat):(gP a n).er=(gP S n).er:=by rw[<-BM a,h,BM]
theorem GB{S a:Sx}(h:a.er=S.er):∀k,(jb a k).er=(jb S k).er
 |0=>h
 |k+1=>KT (GB h k) k
def N8{S a:Sx}(h:a.er=S.er)(x:Int):({a with ph:=x}:Sx).er=({S with ph:=x}:Sx).er:=by
 show({a.er with ph:=x}:Sx)={S.er with ph:=x};rw[h]
def Vs(S:Sx)(n:Nat)(x:Xv):(zb S.er n x).er=(zb S n x).er:=by
 have:((S.bd.map Bd.er).set n {S.er.bd.getD n gR with x:=x,has:=true}).map Bd.er=(S.bd.set n {S.bd.getD n gR with x:=x,has:=true}).map Bd.er:=zm (by rw[oW];rfl);show({S.er with bd:=((S.bd.map Bd.er).set n {S.er.bd.getD n gR with x:=x,has:=true}).map Bd.er}:Sx)=_;rw[this];rfl
def YE{S:Sx}{n:Nat}{x x':Xv}(h:x.er=x'.er):(zb S n x).er=(zb S n x').er:=by
 have:(S.bd.set n {S.bd.getD n gR with x:=x,has:=true}).map Bd.er=(S.bd.set n {S.bd.getD n gR with x:=x',has:=true}).map Bd.er:=by
  rw[dO,dO]
  congr 1
  show({S.bd.getD n gR with x:=x.er,has:=true}:Bd)={S.bd.getD n gR with x:=x'.er,has:=true};rw[h]
 show({S.er with bd:=(S.bd.set n {S.bd.getD n gR with x:=x,has:=true}).map Bd.er}:Sx)=_;rw[this];rfl
def Hh(S:Sx)(C:Ck)(e:Ev):iq S.er C.er e=iq S C e:=by
 have a:(S.er.bd.getD e.bidder.toNat gR).has=(S.bd.getD e.bidder.toNat gR).has:=by rw[oW];rfl
 unfold iq;rw[a,Vq,Qr];show(if _ then _ else if _ then _ else if _ then _ else if _ then kG S.s.er C.er _ _ _ else _)=_;rw[Tt];rfl
def Hi(S:Sx)(C:Ck)(e:Ev):(eU S.er C.er e).er=(eU S C e).er:=by
 unfold eU;rw[NO]
 split
 .show({S.er.er with ph:=1,s:=(vL e.text).er}:Sx)={S.er with ph:=1,s:=(vL e.text).er};rw[pZ]
 split
 .exact pZ S
 split
 .split
  .exact N8 (pZ S) 2
  exact pZ S
 split
 .exact N8 (pZ S) 2
 split
 .exact Vs S _ _
 split
 .exact BM S _
 split
 .exact KT (TC S _) _
 split
 .exact N8 (GB (pZ S) 8) 1
 unfold tN
 split
 .show({S.er.er with ph:=4,dec:=e.digest}:Sx)={S.er with ph:=4,dec:=e.digest};rw[pZ]
 exact N8 (pZ S) 3
def CR(S:Sx)(C:Ck)(e:Ev):(gx S.er C.er e).er=(gx S C e).er:=by
 unfold gx
 split
 .rfl
 split
 .exact Vr C _ _
 split
 .exact RW C
 split
 .exact XD C
 split
 .exact Sb C _
 split
 .exact Ub C _
 exact Jw C
def Rh(S:Sx)(w:ah):Prop:=S.s.In w/\∀y∈S.bd,y.x.In w
structure BR (S:Sx) (C:Ck) (w:ah):Prop where
 h:Rh S w
 k:∀q,S.k=some q->∃g,q=⟨g,0,none⟩/\C.Rd g w
structure tJ (S:Sx) (C:Ck):Prop where
 b8:S.bd.length=8
 ph:0<=S.ph/\S.ph<=4
 z:S.ph=0->S.s.er=jt
 c:S.ph≠0->C.Inv
 cs:S.ph≠0->C.s.er=S.s.er
 so:S.ph≠0->S.s.Ok
 cnt:0<=S.cnt/\S.cnt<=600
 dig:0<=S.dig/\S.dig<18446744073709551616
 x:∀y∈S.bd,y.has=true->j4 y.x=0
def Dm(Q:ah->Prop)(S:Sx)(C:Ck)(w:ah):Prop:=BR S C w/\Q w
def Fc(S:Sx):Prop:=(S.ph=0->S.k=none)/\(S.ph≠0->∃g,S.k=qs g)
def Dx{S a:Se}(e:a.er=S.er):a.bd=S.bd:=show a.er.bd=S.er.bd from congrArg Se.bd e
def Xq{S b:Se}(e:b.er=S.er)(h:S.Ok):b.Ok:=by
 have a:S.er.Ok:=⟨h.ps,h.bd,h.cp,h.sa⟩;rw[<-e] at a;exact⟨a.ps,a.bd,a.cp,a.sa⟩
def getD_at{a:Type}{l:List a}{n:Nat}{d:a}(h:n<l.length):l[n]?=some (l.getD n d):=by rw[au,gE h];rfl
def yg{S:Sx}{n:Nat}{y:Bd}(h:y∈(gP S n).bd):y∈S.bd\/(y.x=gj/\y.has=false):=by
 rcases cO h with h|rfl
 .exact .inl h
 exact .inr ⟨rfl,rfl⟩
theorem zn{S:Sx}{y:Bd}:∀k,y∈(jb S k).bd->y∈S.bd\/(y.x=gj/\y.has=false)
 |0,h=>.inl h
 |k+1,h=>(yg h).elim (zn k) .inr
def NT{S:Sx}{n:Nat}{y:Bd}(a:n<S.bd.length)(h:y∈(pU S n).bd):∃z∈S.bd,y.x=z.x/\y.has=z.has:=by
 rcases cO h with h|rfl
 .exact⟨y,h,rfl,rfl⟩
 exact⟨S.bd.getD n gR,ak (getD_at a),rfl,rfl⟩
section
variable {w0 w:ah} {b g:Nat} {S:Sx} {C:Ck} {B:bP}
def rL{P Q:ah->Prop}(s:St w0 w (Sep (pH b S g C++[held P,B])))(e:S.k=qs g)(hQ:∀w,P w->Rh S w/\Q w):St w0 w (Sep [ay b S.cells.toArray 78,held (Dm Q S C),B]):=by
 have f:=s.aM [1,2,3,4,5,6,7,0,8];have h:St w0 w (Sep (Sep (rS g C)::held P::[ay b S.cells.toArray 78,B])):=f.split _;have i:=h.kr (S:=Dm Q S C) BV (cV P) (λw d a=>⟨⟨(hQ w a).1,λq c=>by rw[e] at c;cases c;exact⟨g,rfl,d⟩⟩,(hQ w a).2⟩);exact i.aM [1,0,2]
def Yt(w0:ah)(b:Nat)(S:Sx)(C:Ck)(e:Ev)(Q:ah->Prop)(B:bP):KP:=λr d=>r=iv (iq S C e) /\
 (iq S C e≠0->∃X:Sx,X.bd.length=8/\St w0 d (Sep [ay b X.cells.toArray 78,held Q,B])) /\
 (iq S C e=0->∃(a:Sx) (c:Ck),a.er=(eU S C e).er/\c.er=(gx S C e).er/\(∃g,a.k=qs g)/\St w0 d (Sep [ay b a.cells.toArray 78,held (Dm Q a c),B]))
def YW{Q:ah->Prop}(hQ:∀w,Q w->Rh S w)(s:St w0 w (Sep [ay b S.cells.toArray 78,held Q,B]))(l:S.bd.length=8){e:Ev}(u:e.Rng)(c:e.kind=1):
  Calls prog (pF e.kind) #[pt b,e.v] w (wo (Yt w0 b S C e Q B)):=by
 have q:pF e.kind=63:=by rw[pF,ag c]
 have f:iq S C e=su S.o e.text:=by rw[iq,ag c]
 rw[q];have z:=s.eqv (fF.right (fF.unit _));refine bg (Xx z l (by have:=u.t;omega)) ?_;rintro v I ⟨rfl,x,y⟩;refine⟨_,rfl,by rw[f],λh=>⟨S,l,?_⟩,λh=>?_⟩
 .have:=(x (by rw[<-f];exact h)).mT [_];exact this
 obtain⟨a,g,m,d,G,H,n,A⟩:=y (by rw[<-f];exact h);let i:Sx:={S with ph:=1,s:=a,k:=qs g};have D:=A.mT [_,_,_,_,_,_,_,_];have E:=(D.aM [7,8,0,1,2,3,4,5,6,9]).kr (S:=λw=>Rh i w/\Q w) (cV _) (cV _) (λw c j=>⟨⟨c,(hQ w j).2⟩,j⟩);have F:=E.aM [1,2,3,4,5,6,7,0,8];refine⟨i,m,?_,?_,⟨g,rfl⟩,rL F rfl λw h=>h⟩
 .rw[eU,ag c];show({S.er with ph:=1,s:=a.er}:Sx)={S.er with ph:=1,s:=(vL e.text).er};rw[d]
 rw[gx,ag c,n];have r:=Dx d;show({s:=a.er,o:=S.o,cl:=[],p:=kQ a.er.ps,ask:=List.replicate a.bd.length z6,bd:=List.replicate a.bd.length false,dp:=List.replicate a.bd.length false,ov:=false,ka:=none,kc:=0,xa:=none,xc:=0,ya:=none,yc:=0,za:=none,zc:=0}:Ck)=_;rw[r,d];rfl
def YX{Q:ah->Prop}(hQ:∀w,Q w->Rh S w)(s:St w0 w (Sep (pH b S g C++[held Q,B])))(J:tJ S C)(T:S.ph≠0)(n:S.k=qs g){e:Ev}(he:e.Rng)(X:iK e.kind S.ph=true)(U:gD e.kind=true->e.bidder<S.s.bd.length):
  Calls prog (pF e.kind) #[pt b,e.v] w (wo (Yt w0 b S C e Q B)):=by
 have D:=J.b8;have O:=(J.c T).ok;have Y:=J.so T;have L:=Dx (J.cs T);have hb8:=Y.bd.l2;have i:e.kind≠1:=λh=>by
  rw[h] at X;have:iK 1 S.ph=(S.ph==0):=by rw[iK,ag rfl]
  rw[this] at X;exact T (by simpa using X)
 have V:St w0 w (Sep (pH b S g C++[Sep [held Q,B]])):=St.cat ((s.split (pH b S g C)).eqv (fF.right (fF.unit _)));have o:∀{P:ah} {r:Sx} {K:Ck},St w0 P (Sep (pH b r g K++[Sep [held Q,B]]))->St w0 P (Sep (pH b r g K++[held Q,B])):=λs=>s.mT [_,_,_,_,_,_,_];have boxed:∀{P:ah} {r:Sx} {K:Ck},St w0 P (Sep (pH b r g K++[held Q,B]))->St w0 P (Sep [ay b r.cells.toArray 78,held Q,B]):=λs=>s.aM [0,7,8];have hb:=he.b.1;have R:=(gN hb).symm
 by_cases f:e.kind=2
 .have M:=U (by rw[gD,dT (Or.inl f)]);have u:pF e.kind=64:=by rw[pF,af i,ag f]
  have j:iq S C e=mb C e.bidder.toNat (C.s.bd.getD e.bidder.toNat zN) e.want:=by rw[iq,af i,ag f]
  have F:eU S C e=S:=by rw[eU,af i,ag f]
  have E:gx S C e=uJ C e.bidder.toNat e.want:=by rw[gx,af i,ag f]
  rw[u];refine bF (QA V D n O R (getD_at (d:=zN) (by rw[L];omega))) λN l=>⟨_,rfl,by rw[j],λh=>⟨S,D,boxed (o l)⟩,λh=>?_⟩;rw[j] at h;rw[ag h] at l;exact⟨S,uJ C e.bidder.toNat e.want,by rw[F],by rw[E],⟨g,n⟩,rL (o l) n λw h=>⟨hQ w h,h⟩⟩
 by_cases a:e.kind=3\/e.kind=4
 .have u:pF e.kind=65:=by rw[pF,af i,af f,ag a]
  have j:iq S C e=if C.ov then 10 else 0:=by rw[iq,af i,af f,ag a]
  rw[u];refine bg (UC V D n O e) ?_;rintro v N ⟨x,r,K,rfl,m,p,A,q,l⟩;refine⟨_,rfl,by rw[j,A],λh=>⟨r,m,boxed (o l)⟩,λh=>?_⟩;have z:C.ov=false:=by
   cases hv:C.ov with
   |false=>rfl
   |true=>rw[j,hv] at h;cases h
  obtain⟨y,t⟩:=q z;refine⟨r,K,?_,?_,⟨g,p.trans n⟩,rL (o l) (p.trans n) λw h=>⟨?_,h⟩⟩
  .rw[eU,af i,af f,t]
   by_cases k:e.kind=3
   .rw[ag k,ag k]
   rw[af k,af k,ag (a.resolve_left k)];rfl
  .rw[gx,af i,af f,y]
   by_cases k:e.kind=3
   .rw[ag k,ag k]
   rw[af k,af k,ag (a.resolve_left k)]
  have:r.s=S.s/\r.bd=S.bd:=by
   rw[t];constructor<;>(repeat' split)<;>rfl
  unfold Rh;rw[this.1,this.2];exact hQ w h
 have G:e.kind≠3:=λh=>a (.inl h);have H:e.kind≠4:=λh=>a (.inr h)
 by_cases p:e.kind=5
 .have M:=U (by rw[gD,dT (Or.inr (Or.inl p))]);have u:pF e.kind=66:=by rw[pF,af i,af f,af a,ag p]
  have j:iq S C e=kG S.s C e.bidder.toNat (S.s.bd.getD e.bidder.toNat zN) e.text:=by rw[iq,af i,af f,af a,ag p]
  have F:eU S C e=zb S e.bidder.toNat (fV S.s.ps e.text).1:=by rw[eU,af i,af f,af G,af H,ag p]
  have E:gx S C e=C:=by rw[gx,af i,af f,af G,af H,af (by omega),af (by omega)]
  rw[u];refine bg (aad (Q:=Q) (λw h=>(hQ w h).1) s D n O Y R (by rw[L];omega) (getD_at (d:=zN) (by omega))) ?_;rintro v N ⟨rfl,q,z⟩;refine⟨_,rfl,by rw[j],λh=>⟨S,D,boxed (q (by rw[<-j];exact h))⟩,λh=>?_⟩;obtain⟨x,ex,l⟩:=z (by rw[<-j];exact h);have A:=(l.aM [7,8,0,1,2,3,4,5,6,9]).kr (S:=λw=>Rh (zb S e.bidder.toNat x) w/\Q w) (cV _) (cV _) (λw k f=>⟨⟨(hQ w k).1,λy t=>by
   rcases cO t with t|rfl
   .exact(hQ w k).2 y t
   exact f⟩,k⟩)
  have I:=A.aM [1,2,3,4,5,6,7,0,8];refine⟨zb S e.bidder.toNat x,C,by rw[F];exact YE (by rw[<-ex,M1]),by rw[E],⟨g,n⟩,rL I n λw h=>h⟩
 have q:∀{r:Sx} {w:ah},r.s=S.s->(∀y∈r.bd,y∈S.bd\/(y.x=gj/\y.has=false))->Q w->Rh r w:=λW e2 h=>⟨by rw[W];exact(hQ _ h).1,λy t=>by
  rcases e2 y t with k|⟨k,_⟩
  .exact(hQ _ h).2 y k
  rw[k];exact wk _⟩
 have Z:=s
 by_cases x:e.kind=6
 .have M:=U (by rw[gD,dT (Or.inr (Or.inr (Or.inl x)))]);have u:pF e.kind=67:=by rw[pF,af i,af f,af a,af p,ag x]
  have j:iq S C e=if (S.bd.getD e.bidder.toNat gR).has then 0 else 6:=by rw[iq,af i,af f,af a,af p,ag x]
  have F:eU S C e=gP S e.bidder.toNat:=by rw[eU,af i,af f,af G,af H,af p,ag x]
  have E:gx S C e=C:=by rw[gx,af i,af f,af G,af H,af (by omega),af (by omega)]
  rw[u];refine bg (MY Z D (by omega) R) ?_;rintro v N (⟨z,rfl,l⟩|⟨z,rfl,l⟩)
  .exact⟨_,rfl,by rw[j,z];rfl,λ_=>⟨S,D,boxed l⟩,λh=>by rw[j,z] at h;cases h⟩
  refine⟨_,rfl,by rw[j,z];rfl,λh=>absurd (by rw[j,z];rfl) h,λ_=>⟨gP S e.bidder.toNat,C,by rw[F],by rw[E],⟨g,n⟩,rL (l) n λw h=>⟨q rfl (λy t=>yg t) h,h⟩⟩⟩
 by_cases A:e.kind=7
 .have M:=U (by rw[gD,dT (Or.inr (Or.inr (Or.inr A)))]);have u:pF e.kind=68:=by rw[pF,af i,af f,af a,af p,af x,ag A]
  have j:iq S C e=if C.dp.getD e.bidder.toNat false then 10 else 0:=by rw[iq,af i,af f,af a,af p,af x,ag A]
  have F:eU S C e=gP (pU S e.bidder.toNat) e.bidder.toNat:=by rw[eU,af i,af f,af G,af H,af p,af x,ag A]
  have E:gx S C e=pe C e.bidder.toNat:=by rw[gx,af i,af f,af G,af H,ag A]
  have I:∀{v:Bool},C.dp[e.bidder.toNat]?=some v->C.dp.getD e.bidder.toNat false=v:=λh=>by rw[au,h];rfl
  rw[u];refine bg (Xo V D n O R (by rw[L];omega)) ?_;have hq:∀w,Q w->Rh (gP (pU S e.bidder.toNat) e.bidder.toNat) w:=λw h=>⟨(hQ w h).1,λy t=>by
   rcases yg t with k|⟨k,_⟩
   .obtain⟨z,hz,W,_⟩:=NT (by omega) k;rw[W];exact(hQ w h).2 z hz
   rw[k];exact wk _⟩
  rintro v N (⟨hd,rfl,l⟩|⟨hd,rfl,l⟩)
  .exact⟨_,rfl,by rw[j,I hd];rfl,λ_=>⟨_,by simp[gP,pU,D],boxed (o l)⟩,λh=>by rw[j,I hd] at h;cases h⟩
  exact⟨_,rfl,by rw[j,I hd];rfl,λh=>absurd (by rw[j,I hd];rfl) h,λ_=>⟨gP (pU S e.bidder.toNat) e.bidder.toNat,_,by rw[F],by rw[E],⟨g,n⟩,rL (o l) n λw h=>⟨hq w h,h⟩⟩⟩
 by_cases m:e.kind=8
 .have u:pF e.kind=69:=by rw[pF,af i,af f,af a,af p,af x,af A,ag m]
  have j:iq S C e=if gZ C e.round then 4 else 0:=by rw[iq,af i,af f,af a,af p,af x,af A,ag m]
  have F:eU S C e={jb S 8 with ph:=1}:=by rw[eU,af i,af f,af G,af H,af p,af x,af A,ag m]
  have E:gx S C e=jT C e.round.toNat:=by rw[gx,af i,af f,af G,af H,af A,ag m]
  have z:∀k,(jb S k).k=S.k/\(jb S k).s=S.s:=λk=>by
   induction k with
   |zero=>exact⟨rfl,rfl⟩
   |succ k I=>exact I
  rw[u];refine bg (UB V D n O e) ?_;rintro v N (⟨hd,rfl,l⟩|⟨hd,rfl,K,I,l⟩)
  .exact⟨_,rfl,by rw[j,hd];rfl,λ_=>⟨S,D,boxed (o l)⟩,λh=>by rw[j,hd] at h;cases h⟩
  exact⟨_,rfl,by rw[j,hd];rfl,λh=>absurd (by rw[j,hd];rfl) h,λ_=>⟨{jb S 8 with ph:=1},K,by rw[F],by rw[E,I],⟨g,(z 8).1.trans n⟩,rL (o l) ((z 8).1.trans n) λw h=>⟨q (z 8).2 (λy t=>zn 8 t) h,h⟩⟩⟩
 have u:pF e.kind=70:=by rw[pF,af i,af f,af a,af p,af x,af A,af m]
 have j:iq S C e=0:=by rw[iq,af i,af f,af a,af p,af x,af A,af m]
 have F:eU S C e=tN S e:=by rw[eU,af i,af f,af G,af H,af p,af x,af A,af m]
 have E:gx S C e=C:=by rw[gx,af i,af f,af G,af H,af A,af m]
 have k:(tN S e).k=S.k/\(tN S e).s=S.s/\(tN S e).bd=S.bd:=by unfold tN;split<;>exact⟨rfl,rfl,rfl⟩
 rw[u];exact bF (SC Z D e) λN l=>⟨_,rfl,by rw[j],λh=>absurd j h,λ_=>⟨tN S e,C,by rw[F],by rw[E],⟨g,k.1.trans n⟩,rL (l) (k.1.trans n) λw h=>⟨q k.2.1 (λy t=>.inl (by rw[k.2.2] at t;exact t)) h,h⟩⟩⟩
def XR:Option Addr->Ck->bP
 |none,_=>emp
 |some q,C=>Sep (rS q.block C)
def N9{k:Int}(a:1<=k)(h:iK k 0=true):k=1:=by
 by_cases g:k=1
 .exact g
 unfold iK at h;rw[af g] at h
 repeat' split at h
 all_goals first|(revert h;decide)|cases h
def YY{Q:ah->Prop}(hQ:∀w,Q w->Rh S w)(s:St w0 w (Sep [ay b S.cells.toArray 78,XR S.k C,held Q,B]))(a:tJ S C)(i:Fc S){e:Ev}(f:e.Rng)(j:1<=e.kind)(d:iK e.kind S.ph=true)(l:gD e.kind=true->e.bidder<S.s.bd.length):
  Calls prog (pF e.kind) #[pt b,e.v] w (wo (Yt w0 b S C e Q B)):=by
 by_cases c:S.ph=0
 .have h:=i.1 c;rw[h] at s;rw[c] at d;exact YW hQ (s.aM [0,2,3]) a.b8 f (N9 j d)
 obtain⟨g,h⟩:=i.2 c;rw[h] at s;have m:=s.aM [1,0,2,3];have n:=St.cat m;exact YX hQ (n.aM [6,0,1,2,3,4,5,7,8]) a c h f d l
def G9(o:BR S C w)(d:tJ S C)(l:Fc S):CP 23 #[.pointer S.k] w (λr i=>∃(p:OA) (b:Ck),r=.pointer p/\b.er=C.er/\Fc {S with k:=p}/\St w i (XR p b)):=by
 by_cases a:S.ph=0
 .rw[l.1 a];refine bg (K:=λr i=>r=.pointer none/\i=w) (uR.2.2.2.2.2.2.1 ⟨rfl,rfl⟩) ?_;rintro v m ⟨rfl,rfl⟩;exact⟨_,rfl,none,C,rfl,rfl,⟨λ_=>rfl,λh=>absurd a h⟩,St.start m⟩
 obtain⟨g,j⟩:=l.2 a;obtain⟨s,e,f⟩:=o.k _ j
 cases e
 rw[j];refine bg (R8 f (d.c a).ok) ?_;rintro v m ⟨g2,b,n,rfl,q⟩;exact⟨_,rfl,qs g2,b,rfl,n,⟨λh=>absurd h a,λ_=>⟨g2,rfl⟩⟩,q⟩
end
def MO{S:Sx}{b d e f g i j l:Bd}(h:S.bd=[b,d,e,f,g,i,j,l]):S.cells=(iv S.o.step::(iv S.o.pct::(iv S.o.und::(iv S.o.rule::(iv S.ph::(.slice S.s.a1 S.s.ps.length S.s.c1::(.slice S.s.a2 S.s.bd.length S.s.c2::(.slice S.s.a3 S.s.cp.length S.s.c3::(.slice S.s.a4 S.s.sa.length S.s.c4::(.pointer S.k::(iv b.x.op::(b.x.u.on (iv b.x.v::(.slice b.x.a b.x.args.length b.x.c::(.bool b.has::(.bool b.out::(iv d.x.op::(d.x.u.on (iv d.x.v::(.slice d.x.a d.x.args.length d.x.c::(.bool d.has::(.bool d.out::(iv e.x.op::(e.x.u.on (iv e.x.v::(.slice e.x.a e.x.args.length e.x.c::(.bool e.has::(.bool e.out::(iv f.x.op::(f.x.u.on (iv f.x.v::(.slice f.x.a f.x.args.length f.x.c::(.bool f.has::(.bool f.out::(iv g.x.op::(g.x.u.on (iv g.x.v::(.slice g.x.a g.x.args.length g.x.c::(.bool g.has::(.bool g.out::(iv i.x.op::(i.x.u.on (iv i.x.v::(.slice i.x.a i.x.args.length i.x.c::(.bool i.has::(.bool i.out::(iv j.x.op::(j.x.u.on (iv j.x.v::(.slice j.x.a j.x.args.length j.x.c::(.bool j.has::(.bool j.out::(iv l.x.op::(l.x.u.on (iv l.x.v::(.slice l.x.a l.x.args.length l.x.c::(.bool l.has::(.bool l.out::[.int .u64 S.dec,iv S.cnt,.int .u64 S.dig])))))))))))))))))))))))))))))))))))))))))))))))))))))))))):=by
 rw[Sx.cells,h];rfl
def LK(k:Int):o4 prog (pF k)=true:=by
 unfold pF
 repeat' split
 all_goals kernel_rfl
def Ab{e:Ev}(h:kn e=0):1<=e.kind:=by
 unfold kn at h
 split at h
 .cases h
 rename_i g
 by_cases a:1<=e.kind
 .exact a
 exact absurd (Or.inl λh=>a h.1) g
def pn(S:Sx)(e:Ev):Int:=
 if kn e≠0 then kn e else if 600<=S.cnt then 18 else if iK e.kind S.ph=false then 10
 else if gD e.kind=true/\(S.s.bd.length:Int)<=e.bidder then 6 else if gD e.kind=true/\(S.bd.getD e.bidder.toNat gR).out=true then 10 else 0
def tK(S:Sx)(C:Ck)(e:Ev):Int:=if pn S e≠0 then pn S e else iq S C e
def vZ(S:Sx)(C:Ck)(e:Ev):Sx:={eU S C e with cnt:=S.cnt+1,dig:=((o6 S.dig.toNat (gq e):Nat):Int)}
abbrev XX (S:Sx) (C:Ck) (e:Ev):Ck:=gx S C e
theorem EP(S:Sx):∀k,(jb S k).cnt=S.cnt/\(jb S k).dig=S.dig
 |0=>⟨rfl,rfl⟩
 |k+1=>EP S k
def DI(S:Sx)(C:Ck)(e:Ev):(eU S C e).cnt=S.cnt/\(eU S C e).dig=S.dig:=by
 unfold eU
 split
 .exact⟨rfl,rfl⟩
 split
 .exact⟨rfl,rfl⟩
 split
 .split<;>exact⟨rfl,rfl⟩
 split
 .exact⟨rfl,rfl⟩
 split
 .exact⟨rfl,rfl⟩
 split
 .exact⟨rfl,rfl⟩
 split
 .exact⟨rfl,rfl⟩
 split
 .have h:=EP S 8;generalize jb S 8=X at h;exact h
 unfold tN
 split<;>exact⟨rfl,rfl⟩
theorem Cg{S:Sx}(h:S.bd.length=8):∀k,(jb S k).bd.length=8
 |0=>h
 |k+1=>by rw[jb,gP,bf];exact Cg h k
def Ju{S:Sx}(h:S.bd.length=8)(C:Ck)(e:Ev):(eU S C e).bd.length=8:=by
 unfold eU
 split
 .exact h
 split
 .exact h
 split
 .split<;>exact h
 split
 .exact h
 split
 .rw[zb,bf];exact h
 split
 .rw[gP,bf];exact h
 split
 .rw[gP,bf,pU,bf];exact h
 split
 .exact Cg h 8
 unfold tN
 split<;>exact h
def FT{e:Ev}(h:kn e=0):(gq e).length<=4000:=by
 unfold kn at h
 split at h
 .cases h
 split at h
 .cases h
 split at h
 .cases h
 rename_i g;omega
def aco{S:Sx}(h:S.bd.length=8)(x:Int):S.cells.toArray.setIfInBounds 99 (iv x)=({S with cnt:=x}:Sx).cells.toArray:=by
 obtain⟨o,m,s,k,l,dec,cnt,a⟩:=S;obtain⟨b,c,d,e,f,g,i,j,rfl⟩:=iU h;rfl
def acp{S:Sx}(h:S.bd.length=8)(x:Int):S.cells.toArray.setIfInBounds 100 (.int .u64 x)=({S with dig:=x}:Sx).cells.toArray:=by
 obtain⟨o,m,s,k,l,dec,a,dig⟩:=S;obtain⟨b,c,d,e,f,g,i,j,rfl⟩:=iU h;rfl
def UK{S:Sx}(h:S.bd.length=8):S.cells.toArray[99]?=some (iv S.cnt):=by
 obtain⟨o,n,s,k,m,dec,a,b⟩:=S;obtain⟨c,d,e,f,g,i,j,l,rfl⟩:=iU h;rfl
def XF{S:Sx}(h:S.bd.length=8):S.cells.toArray[100]?=some (.int .u64 S.dig):=by
 obtain⟨o,n,s,k,m,dec,a,b⟩:=S;obtain⟨c,d,e,f,g,i,j,l,rfl⟩:=iU h;rfl
def MR{S:Sx}(h:S.bd.length=8){i:Nat}(hi:i<8){y:Bd}(c:S.bd[i]?=some y):S.cells.toArray[10+i*11+10]?=some (.bool y.out):=by
 obtain⟨o,q,s,k,p,dec,a,b⟩:=S;obtain⟨d,e,f,g,j,l,m,n,rfl⟩:=iU h
 match i,hi with
 |0,_|1,_|2,_|3,_|4,_|5,_|6,_|7,_=>cases c;rfl
def MQ(S:Sx):∀v∈S.cells,v.oneCell'=true:=by
 intro v a;simp only[Sx.cells,Po.cells,Se.arr,aB,aP,dR,iS,dx,Bd.cells] at a;rcases a with(rfl|rfl|rfl|rfl)|rfl|(rfl|rfl|rfl|rfl)|rfl|(⟨y,_,h|rfl|rfl⟩)|rfl|rfl|rfl
 all_goals first|rfl|exact Xv.one _ _ h
section
variable {w0 w:ah} {b:Nat} {S:Sx} {C:Ck} {B:bP}
def Gw{r1 r3 r4:Nat}{x:Int}{X:Sx}{L:List bP}(s:St w0 w (Sep (ay r4 S.cells.toArray 78::ay r3 #[iv x] 47::ay r1 #[pt b] 27::ay b X.cells.toArray 78::L)))(g:S.bd.length=8)(r:X.bd.length=8){R:ah->Prop}(v:x=0->R w)(y:x≠0->∀i,St w0 i (Sep (ay r4 S.cells.toArray 78::ay r3 #[iv x] 47::ay r1 #[pt b] 27::ay b S.cells.toArray 78::L))->R i):
  Li prog 22 #[pt r3,pt r4,pt r1] w R:=by
 obtain⟨j,k,l,m,n,o,p,q,t⟩:=iU g;refine vQ ?_;unfold sy;refine⟨_,s.aj 1 rfl 0,?_⟩
 by_cases e:x=0
 .exact iI e ⟨rfl,v e⟩
 have d:=s.cellsIn 0 rfl;have a:=Sx.len g;have c:=MQ S;have f:=MO t;rw[f] at d a c;refine gM e ⟨_,s.aj 2 rfl 0,Ex8<|Ex8<|⟨_,_,_,j.x.u,Ex4 ⟨_,_,_,k.x.u,Ex4 ⟨_,_,_,l.x.u,Ex4 ⟨_,_,_,m.x.u,Ex4 ⟨_,_,_,n.x.u,Ex4 ⟨_,_,_,o.x.u,Ex4 ⟨_,_,_,p.x.u,Ex4 ⟨_,_,_,q.x.u,Ex8 ⟨_,d,av rfl (s.aR 3 rfl _ ?_ c λz h=>⟨rfl,y e z ?_⟩)⟩⟩⟩⟩⟩⟩⟩⟩⟩⟩
 .rw[a,nk r]
 rw[<-f] at h;exact h
def ApZ(w0:ah)(b:Nat)(S:Sx)(C:Ck)(e:Ev)(Q:ah->Prop)(B:bP):KP:=λr d=>r=iv (tK S C e) /\
 (tK S C e≠0->St w0 d (Sep [ay b S.cells.toArray 78,held Q,B])) /\
 (tK S C e=0->∃(a:Sx) (c:Ck),a.er=(vZ S C e).er/\c.er=(XX S C e).er/\(∃g,a.k=qs g)/\St w0 d (Sep [ay b a.cells.toArray 78,held (Dm Q a c),B]))
def IZ{Q:ah->Prop}(hQ:∀w,Q w->BR S C w)(s:St w0 w (Sep [ay b S.cells.toArray 78,held Q,B]))(a:tJ S C)(hk:Fc S){e:Ev}(hi:e.In):
  CP 10 #[pt b,e.v] w ((ApZ w0 b S C e Q B)):=by
 have G:=a.b8;obtain⟨b0,b1,b2,b3,b4,b5,b6,b7,hb⟩:=iU G;refine xI (u1:=e.want) ?_;unfold uo;refine s.aY #[pt b] λr1 w1 s1=>s1.aY e.cells.toArray λr2 w2 s2=>s2.aY #[iv 0] λr3 w3 s3=>?_;let M:Int->List bP:=λx=>[ay r3 #[iv x] 47,ay r2 e.cells.toArray 52,ay r1 #[pt b] 27,ay b S.cells.toArray 78,held Q,B];have F:∀{x:Int} {w':ah},x≠0->pn S e=x->St w0 w' (Sep (M 0))->kB w' ⟨r3,0,none⟩ (iv x) λw6=>∃n:Int,w6.cell? ⟨r3,0,none⟩=some (iv n)/\ApZ w0 b S C e Q B (iv n) w6:=λ{x w'} hx hs s=>
  s.cL 0 rfl (by show 0<1;decide) rfl λw6 V=>⟨_,V.aj 0 rfl 0,by
   have:tK S C e=x:=by rw[tK,ag (by rw[hs];exact hx),hs]
   exact⟨by rw[this],λ_=>V.aM [3,4,5],λh=>absurd (this.symm.trans h) hx⟩⟩
 refine⟨_,s3.aj 2 rfl 0,cF rfl ⟨_,_,_,e.want,_,_,s3.cellsIn 1 rfl,s3.qu (FU w3 hi) λw5 s5=>⟨_,rfl,?_⟩⟩⟩
 by_cases A:¬ kn e=0
 .exact gM A (F A (by rw[pn,ag A]) s5)
 have A:kn e=0:=by simpa using A
 have hR:=lK A hi.d;have hR1:=Ab A;have D:pn S e=if 600<=S.cnt then 18 else if iK e.kind S.ph=false then 10 else if gD e.kind=true/\(S.s.bd.length:Int)<=e.bidder then 6 else if gD e.kind=true/\(S.bd.getD e.bidder.toNat gR).out=true then 10 else 0:=by rw[pn,af (λh=>h A)]
 have W:∀{w':ah} {l:List bP} {i:Nat},St w0 w' (Sep l)->l[i]?=some (ay b S.cells.toArray 78)->w'.cell? ⟨b,99,none⟩=some (iv S.cnt):=λs e=>by rw[s.aj _ e];exact UK G
 refine iI A ⟨_,s5.aj 2 rfl 0,av rfl ⟨_,W s5 (i:=3) rfl,?_⟩⟩
 by_cases r:600<=S.cnt
 .exact di r (F (by decide) (by rw[D,ag r]) s5)
 rw[af r] at D;have V:=s5.quiet (aZ.drew w5 []);refine dz r ⟨_,V.aj 1 rfl 0,_,V.aj 2 rfl 0,av rfl ⟨_,(V.aj 3 rfl 4).trans rfl,kR (Md _ _ _) ⟨_,rfl,?_⟩⟩⟩
 cases hp:iK e.kind S.ph with
 |false=>exact cT rfl (F (by decide) (by rw[D,ag hp]) V)
 |true=>
 rw[af (by rw[hp];decide)] at D;refine cF rfl ⟨λbb P=>bb=decide (gD e.kind=true/\(S.s.bd.length:Int)<=e.bidder)/\St w0 P (Sep (M 0)),?_,?_⟩
 rotate_left
 .have f:=V.quiet (aZ.drew w5.drew []);refine⟨_,f.aj 1 rfl 0,kR (NX _ _) ⟨_,rfl,?_⟩⟩
  cases hn:gD e.kind with
  |true=>
   refine cT rfl ⟨_,f.aj 1 rfl 1,_,f.aj 2 rfl 0,av rfl ⟨_,_,_,(f.aj 3 rfl 6).trans rfl,?_,f⟩⟩
   by_cases g:e.bidder>=(S.s.bd.length:Int)
   .rw[dT g,dT ⟨rfl,g⟩]
   rw[dF g,dF λh=>g h.2]
  |false=>exact cF rfl ⟨by rw[dF λh=>by cases h.1],f⟩
 rintro P bb ⟨rfl,s10⟩ x1
 by_cases hq:gD e.kind=true/\(S.s.bd.length:Int)<=e.bidder
 .exact di hq (F (by decide) (by rw[D,ag hq]) s10)
 rw[af hq] at D;have hnb:gD e.kind=true->e.bidder<S.s.bd.length:=λh=>by
  rcases kY e.bidder S.s.bd.length with f|f
  .exact f
  exact absurd ⟨h,f⟩ hq
 refine dz hq ⟨λbb w12=>bb=decide (gD e.kind=true/\(S.bd.getD e.bidder.toNat gR).out=true)/\St w0 w12 (Sep (M 0)),?_,?_⟩
 rotate_left
 .have f:=s10.quiet (aZ.drew P []);refine⟨_,f.aj 1 rfl 0,kR (NX _ _) ⟨_,rfl,?_⟩⟩
  cases hn:gD e.kind with
  |true=>
   have g:=hR.b;have k:=(gN g.1).symm;have co:P.drew.cell? (Addr.add (Addr.add (Addr.add ⟨b,0,none⟩ 10) ((e.bidder).toNat*11)) 10)=some (.bool (S.bd.getD e.bidder.toNat gR).out):=by
    rw[gW,gW,gW,f.aj 3 rfl];rw[show 0+10+e.bidder.toNat*11+10=10+e.bidder.toNat*11+10 by omega];exact MR G (by omega) (getD_at (by omega))
   refine cT rfl ⟨_,f.aj 2 rfl 0,_,f.aj 1 rfl 1,av rfl ⟨g.1,by omega,_,co,?_,f⟩⟩
   cases ho:(S.bd.getD e.bidder.toNat gR).out with
   |true=>rw[dT ⟨rfl,rfl⟩]
   |false=>rw[dF λh=>by cases h.2]
  |false=>exact cF rfl ⟨by rw[dF λh=>by cases h.1],f⟩
 rintro w12 bb ⟨rfl,N⟩ x2
 by_cases ho:gD e.kind=true/\(S.bd.getD e.bidder.toNat gR).out=true
 .exact di ho (F (by decide) (by rw[D,ag ho]) N)
 rw[af ho] at D;have eA:tK S C e=iq S C e:=by rw[tK,af (λh=>h D)]
 have hcl:=N.cellsIn 3 rfl;have T:=Sx.len G;have U:=MQ S;have eS:=MO hb;rw[eS] at hcl T U;refine dz ho ⟨_,N.aj 2 rfl 0,av rfl (Ex8<|Ex8<|⟨_,_,_,b0.x.u,Ex4 ⟨_,_,_,b1.x.u,Ex4 ⟨_,_,_,b2.x.u,Ex4 ⟨_,_,_,b3.x.u,Ex4 ⟨_,_,_,b4.x.u,Ex4 ⟨_,_,_,b5.x.u,Ex4 ⟨_,_,_,b6.x.u,Ex4 ⟨_,_,_,b7.x.u,Ex8 ⟨_,hcl,N.aY (uA ⟨0,0,0,0⟩).cells.toArray λr4 w14 s14=>s14.aR 0 rfl _ (by rw[T];rfl) U λw15 s15=>?_⟩⟩⟩⟩⟩⟩⟩⟩⟩)⟩;rw[<-eS] at s15;have I:=s15.quiet (aZ.drew w15 []);refine⟨_,I.aj 3 rfl 0,_,I.aj 3 rfl 0,av rfl ⟨S.k,by rw[gW,I.aj 4 rfl];exact rM G,bg (G9 (hQ _ (I.eu 5 rfl)) a hk) ?_⟩⟩;rintro v w16 ⟨p,K,rfl,E,hk1,k16⟩;let y:Sx:={S with k:=p};have Y:y.er=S.er:=rfl;have hok1:tJ y K:=⟨G,a.ph,a.z,λh=>(a.c h).er E,λh=>(congrArg Ck.s E).trans (a.cs h),a.so,a.cnt,a.dig,a.x⟩;have s17:St w0 w16 (Sep (XR p K::ay r4 S.cells.toArray 78::M 0)):=I.and k16;refine⟨_,rfl,s17.aj 4 rfl 0,av rfl ?_⟩;rw[gW];refine s17.cL 5 rfl (j:=0+9) (by show 0+9<S.cells.toArray.size;rw[nk G];decide) rfl λw17 t=>?_;rw[show 0+9=9 from rfl,aaz G] at t;refine⟨_,t.aj 4 rfl 0,_,t.aj 3 rfl 0,bg (Sh w17 b e.kind) ?_⟩;rintro v w18 ⟨rfl,rfl⟩;refine⟨_,rfl,_,t.aj 4 rfl 0,_,_,_,e.want,_,_,t.cellsIn 3 rfl,iJ (LK e.kind) ?_⟩;have s19:St w0 w18 (Sep [ay b y.cells.toArray 78,XR y.k K,held Q,Sep [ay r4 S.cells.toArray 78,ay r3 #[iv 0] 47,ay r2 e.cells.toArray 52,ay r1 #[pt b] 27,B]]):=
  St.cat (((t.aM [5,0,6,1,2,3,4,7]).split [_,_,_]).eqv (fF.right (fF.unit _)))
 refine bg (YY (S:=y) (λw h=>(show Rh y w from(hQ w h).h)) s19 hok1 hk1 hR hR1 hp hnb) ?_;rintro v w19 ⟨rfl,k1,k2⟩;have eE1:iq y K e=iq S C e:=by rw[<-Hh y K,E,Y,Hh]
 have eS1:(eU y K e).er=(eU S C e).er:=by rw[<-Hi y K,E,Y,Hi]
 have eC2:(gx y K e).er=(gx S C e).er:=by rw[<-CR y K,E,Y,CR]
 rw[eE1] at k1 k2⊢
 by_cases R:iq S C e=0
 .obtain⟨f,C',eS',eC',⟨g,hg⟩,m⟩:=k2 R;have m:St w0 w19 (Sep ([ay b f.cells.toArray 78,held (Dm Q f C')]++[ay r4 S.cells.toArray 78,ay r3 #[iv 0] 47,ay r2 e.cells.toArray 52,ay r1 #[pt b] 27,B])):=m.mT [_,_];have L:=eS'.trans eS1;have H:f.bd.length=8:=by
   have D:f.er.bd.length=(eU S C e).er.bd.length:=by rw[L]
   have o:f.er.bd.length=f.bd.length:=bu _;have q:(eU S C e).er.bd.length=(eU S C e).bd.length:=bu _;rw[<-o,D,q];exact Ju G C e
  have hcnt:f.cnt=S.cnt:=(show f.er.cnt=(eU S C e).er.cnt by rw[L]).trans (DI S C e).1;have hdig:f.dig=((S.dig.toNat:Nat):Int):=((show f.er.dig=(eU S C e).er.dig by rw[L]).trans (DI S C e).2).trans (gN a.dig.1).symm;have hc600:=a.cnt;rw[R];refine⟨_,rfl,m.cL 3 rfl (by show 0<1;decide) rfl λw20 o=>⟨_,o.aj 3 rfl 0,cF rfl ⟨_,_,_,e.want,_,_,o.cellsIn 4 rfl,bF (Sk w20 hi) λw23 c23=>?_⟩⟩⟩;rw[ag A,A];have J:=o.quiet c23;have W:w23.cell? ⟨b,0+99,none⟩=some (iv f.cnt):=by rw[J.aj 0 rfl];exact UK H
  refine⟨_,_,rfl,_,J.aj 5 rfl 0,av rfl ⟨_,by rw[gW];exact W,av rfl ?_⟩⟩;rw[gW,fQ (n:=f.cnt+1) ⟨by omega,by omega⟩];refine J.cL 0 rfl (j:=0+99) (by rw[nk H];decide) rfl λw24 O=>?_;rw[show 0+99=99 from rfl,aco H] at O;have q:=O.quiet (aZ.drew w24 []);have Z:({f with cnt:=f.cnt+1}:Sx).bd.length=8:=H;have c100:w24.drew.cell? ⟨b,0+100,none⟩=some (.int .u64 ((S.dig.toNat:Nat):Int)):=by rw[q.aj 0 rfl,<-hdig];exact XF Z
  have hbl:=FT A;refine⟨_,q.aj 5 rfl 0,_,q.aj 5 rfl 0,av rfl ⟨_,by rw[gW];exact c100,q.qu (VI _ S.dig.toNat (gq e) (by omega)) λw25 s25=>⟨_,rfl,s25.aj 5 rfl 0,av rfl ?_⟩⟩⟩;rw[gW];refine s25.cL 0 rfl (j:=0+100) (by rw[nk Z];decide) rfl λw26 s26=>?_;rw[show 0+100=100 from rfl,acp Z] at s26;refine s26.cL 3 rfl (by show 0<1;decide) rfl λw27 s27=>?_;let S3:Sx:={f with cnt:=f.cnt+1,dig:=((o6 S.dig.toNat (gq e):Nat):Int)};have s28:=s27.aM [1,2,3,5,0,4,6];have s29:St w0 w27 (Sep (held (Dm Q S3 C')::[ay r4 S.cells.toArray 78,ay r3 #[iv 0] 47,ay r1 #[pt b] 27,ay b S3.cells.toArray 78,ay r2 e.cells.toArray 52,B])):=s28.weak (dU.left (jY λw h=>⟨⟨⟨h.1.h.1,h.1.h.2⟩,h.1.k⟩,h.2⟩));have s30:=s29.aM [1,2,3,4,0,6];refine Gw s30 G (H) (λ_=>⟨_,s30.aj 1 rfl 0,by rw[eA,R],λh=>absurd (eA.trans R) h,λ_=>⟨S3,C',?_,eC'.trans eC2,⟨g,hg⟩,s30.aM [3,4,5]⟩⟩) (λh=>absurd rfl h);show({f.er with cnt:=f.cnt+1,dig:=((o6 S.dig.toNat (gq e):Nat):Int)}:Sx)={(eU S C e).er with cnt:=S.cnt+1,dig:=((o6 S.dig.toNat (gq e):Nat):Int)};rw[L,hcnt]
 obtain⟨X,f,m⟩:=k1 R;have m:=m.mT [_,_];refine⟨_,rfl,m.cL 3 rfl (by show 0<1;decide) rfl λw20 o=>⟨_,o.aj 3 rfl 0,gM R ⟨_,o.aj 3 rfl 0,o.cL 3 rfl (by show 0<1;decide) rfl λg J=>?_⟩⟩⟩;have O:=J.aM [2,3,5,0,1,4,6];refine Gw O G f (λh=>absurd h R) λ_ H q=>⟨_,q.aj 1 rfl 0,by rw[eA],λ_=>q.aM [3,4,6],λh=>absurd (eA.symm.trans h) R⟩
def ApQ(w0:ah)(b:Nat)(S:Sx)(C:Ck)(e:Ev)(Q:ah->Prop)(B:bP):KP:=λr d=>r=iv (tK S C e) /\
 (tK S C e≠0->St w0 d (Sep [ay b S.cells.toArray 78,held Q,B])) /\
 (tK S C e=0->∃(a:Sx) (c:Ck),a.er=(vZ S C e).er/\c.er=(XX S C e).er/\(∃g,a.k=qs g)/\St w0 d (Sep [ay b a.cells.toArray 78,held (BR a c),B]))
def Rz{Q:ah->Prop}(hQ:∀w,Q w->BR S C w)(s:St w0 w (Sep [ay b S.cells.toArray 78,held Q,B]))(a:tJ S C)(g:Fc S){e:Ev}(hi:e.In):
  CP 10 #[pt b,e.v] w ((ApQ w0 b S C e Q B)):=
 bg (IZ hQ s a g hi) λ_ _ ⟨c,d,f⟩=>⟨_,rfl,c,d,λh=>
  let ⟨S',C',e1,e2,hg,s1⟩:=f h;have i:=s1.aM [1,0,2]
  ⟨S',C',e1,e2,hg,(i.we (Q:=BR S' C') ((cV _).mono λ_ h=>h.1)).aM [1,0,2]⟩⟩
def ApP(w0:ah)(b:Nat)(S:Sx)(C:Ck)(e:Ev)(B:bP):KP:=ApQ w0 b S C e (BR S C) B
def Vm(s:St w0 w (Sep [ay b S.cells.toArray 78,held (BR S C),B]))(a:tJ S C)(c:Fc S){e:Ev}(hi:e.In):
  CP 10 #[pt b,e.v] w ((ApP w0 b S C e B)):=Rz (λ_ h=>h) s a c hi
end
theorem rD{b:Type}{f:Nat->b->Int}:∀{l:List b} {n:Nat},pO f n l=0->∀i p,l[i]?=some p->f (n+i) p=0
 |[],_,_,i,p,a=>by simp at a
 |y::l,n,h,i,p,a=>by
  rw[pO] at h
  split at h
  .rename_i g;exact absurd h g
  rename_i g
  cases i with
  |zero=>cases a;rw[gX];simpa using g
  |succ i=>have:=rD h i p (by simpa using a);rwa [show n+(i+1)=n+1+i by omega]
def ZV{l:List Pr}(h:Fg l=0):iu l:=by
 unfold Fg at h
 by_cases c:l.length=0
 .rw[ag c] at h;cases h
 rw[af c] at h
 by_cases d:6<l.length
 .rw[ag d] at h;cases h
 rw[af d] at h
 by_cases a:pO (IQ l) 0 l=0
 .rw[af (λg=>g a)] at h
  by_cases e:pr (Fy l)<=1024
  .refine⟨by omega,by omega,λi p f=>?_,by rw[<-Dg (by omega)];exact e⟩;have:=rD a i p f;rw[az] at this;unfold IQ at this
   split at this
   .cases this
   split at this
   .cases this
   split at this
   .cases this
   rename_i g1 g2 b;exact⟨by unfold xq;simp at g1 b;rw[g1,b];rfl,by simpa using g2⟩
  rw[af e] at h;cases h
 rw[ag a] at h;exact absurd h a
def YL{l:List Br}(h:FM l=0):Di l:=by
 unfold FM at h
 by_cases b:l.length=0
 .rw[ag b] at h;cases h
 rw[af b] at h
 by_cases c:8<l.length
 .rw[ag c] at h;cases h
 rw[af c] at h;refine⟨by omega,by omega,λi p d=>?_⟩;have:=rD h i p d;rw[az] at this;unfold Nk at this
 split at this
 .cases this
 split at this
 .cases this
 split at this
 .cases this
 rename_i g1 g2 a;exact⟨by simp at g1 a;rw[g1,a];rfl,by simpa using g2⟩
def YR{n:Nat}{l:List T3}(h:LF n l=0):Dj n l:=by
 unfold LF at h
 by_cases a:16<l.length
 .rw[ag a] at h;cases h
 rw[af a] at h;refine⟨by omega,λi p c=>?_⟩;have:=rD h i p c;rw[az] at this;unfold LD at this
 split at this
 .cases this
 split at this
 .cases this
 split at this
 .cases this
 rename_i g1 g2 b;have g1:=jq _▸g1;have g2:=jq _▸g2;exact⟨by unfold zV;rw[g1,g2];rfl,by simpa using b⟩
def aat{ps:List Pr}{l:List T3}(h:QH ps l=0):rj ps l:=by
 unfold QH at h
 by_cases a:6<l.length
 .rw[ag a] at h;cases h
 rw[af a] at h;refine⟨by omega,λi p c=>?_⟩;have:=rD h i p c;rw[az] at this;unfold Ox at this
 split at this
 .cases this
 split at this
 .cases this
 split at this
 .cases this
 rename_i g1 g2 b;have g1:=jq _▸g1;have g2:=jq _▸g2;exact⟨by unfold Dw;rw[g1,g2];rfl,by simpa using b⟩
def aaf{s:Se}(h:yX s=0):s.Ok:=by
 unfold yX at h
 by_cases a:Fg s.ps=0
 .rw[af (λg=>g a)] at h
  by_cases b:FM s.bd=0
  .rw[af (λg=>g b)] at h
   by_cases c:LF s.bd.length s.cp=0
   .rw[af (λg=>g c)] at h;exact⟨ZV a,YL b,YR c,aat h⟩
   rw[ag c] at h;exact absurd h c
  rw[ag b] at h;exact absurd h b
 rw[ag a] at h;exact absurd h a
def W0{t:List UInt8}(h:rV t=0):(vL t).Ok:=by
 unfold rV at h
 by_cases b:4000<t.length
 .rw[ag b] at h;cases h
 rw[af b] at h
 by_cases a:(kW jt (fC 10 t)).2=0
 .rw[af (λg=>g a)] at h;exact aaf h
 rw[ag a] at h;exact absurd h a
def Ty{o:Po}{t:List UInt8}(h:su o t=0):o.ok/\(vL t).Ok:=by
 unfold su at h
 by_cases a:pV o=0
 .rw[af (λg=>g a)] at h;refine⟨?_,W0 h⟩;unfold pV at a
  by_cases g:o.ok
  .exact g
  rw[af g] at a;cases a
 rw[ag a] at h;exact absurd h a
section
variable {S S':Sx} {C C':Ck} {e:Ev}
def tJ.er(h:tJ S C)(b:S'.er=S.er)(g:C'.er=C.er):tJ S' C':=by
 have i:S'.bd.map Bd.er=S.bd.map Bd.er:=show S'.er.bd=S.er.bd by rw[b]
 have d:S'.ph=S.ph:=show S'.er.ph=S.er.ph by rw[b]
 have f:S'.s.er=S.s.er:=show S'.er.s=S.er.s by rw[b]
 have k:S'.cnt=S.cnt:=show S'.er.cnt=S.er.cnt by rw[b]
 have l:S'.dig=S.dig:=show S'.er.dig=S.er.dig by rw[b]
 have e:C'.s.er=C.s.er:=show C'.er.s=C.er.s by rw[g]
 have p:S'.bd.length=S.bd.length:=by have:=congrArg List.length i;simpa using this
 refine⟨by rw[p];exact h.b8,by rw[d];exact h.ph,λa=>by rw[f];exact h.z (d▸a),λa=>(h.c (d▸a)).er g,λa=>by rw[e,f];exact h.cs (d▸a),λa=>Xq f (h.so (d▸a)),by rw[k];exact h.cnt,by rw[l];exact h.dig,λy q o=>?_⟩;have:y.er∈S.bd.map Bd.er:=i▸bV q;obtain⟨z,r,j⟩:=aN.1 this;have m:z.x.er=y.x.er:=show z.er.x=y.er.x by rw[j]
 have n:z.has=y.has:=show z.er.has=y.er.has by rw[j]
 rw[<-vz,<-m,vz];exact h.x z r (n.trans o)
def tF(h:pn S e=0):kn e=0/\S.cnt<600/\iK e.kind S.ph=true/\(gD e.kind=true->e.bidder<S.s.bd.length)/\(gD e.kind=true->(S.bd.getD e.bidder.toNat gR).out=false):=by
 unfold pn at h
 by_cases a:kn e≠0
 .rw[ag a] at h;exact absurd h a
 rw[af a] at h
 by_cases g:600<=S.cnt
 .rw[ag g] at h;cases h
 rw[af g] at h
 by_cases b:iK e.kind S.ph=false
 .rw[ag b] at h;cases h
 rw[af b] at h
 by_cases c:gD e.kind=true/\(S.s.bd.length:Int)<=e.bidder
 .rw[ag c] at h;cases h
 rw[af c] at h
 by_cases i:gD e.kind=true/\(S.bd.getD e.bidder.toNat gR).out=true
 .rw[ag i] at h;cases h
 refine⟨by simpa using a,by omega,by simpa using b,λf=>?_,λf=>?_⟩
 .rcases kY e.bidder S.s.bd.length with d|d
  .exact d
  exact absurd ⟨f,d⟩ c
 cases ho:(S.bd.getD e.bidder.toNat gR).out with
 |false=>rfl
 |true=>exact absurd ⟨f,ho⟩ i
def Dv(h:tK S C e=0):pn S e=0/\iq S C e=0:=by
 unfold tK at h
 by_cases a:pn S e=0
 .rw[af (λg=>g a)] at h;exact⟨a,h⟩
 rw[ag a] at h;exact absurd h a
def Nf(a:tJ S C)(h:tK S C e=0)(hi:e.In):tJ (vZ S C e) (XX S C e)/\(vZ S C e).ph≠0:=by
 obtain⟨Z,u⟩:=Dv h;obtain⟨F,L,T,U,h5⟩:=tF Z;have V:=lK F hi.d;have N:=Ab F;have hc:=a.cnt;have M:0<=((o6 S.dig.toNat (gq e):Nat):Int)/\((o6 S.dig.toNat (gq e):Nat):Int)<18446744073709551616:=⟨Int.natCast_nonneg _,by have:o6 S.dig.toNat (gq e)<18446744073709551616:=SL _;omega⟩;have I:=Ju a.b8 C e
 suffices H:(0<=(eU S C e).ph/\(eU S C e).ph<=4/\(eU S C e).ph≠0)/\(gx S C e).Inv/\(gx S C e).s.er=(eU S C e).s.er/\(eU S C e).s.Ok/\∀y∈(eU S C e).bd,y.has=true->j4 y.x=0 by
  obtain⟨⟨p1,p2,f⟩,i1,g,i,j⟩:=H;exact⟨⟨I,⟨p1,p2⟩,λh=>absurd h f,λ_=>i1,λ_=>g,λ_=>i,⟨by show 0<=S.cnt+1;omega,by show S.cnt+1<=600;omega⟩,M,j⟩,f⟩
 by_cases f:e.kind=1
 .have v:iq S C e=su S.o e.text:=by rw[iq,ag f]
  have p:eU S C e={S with ph:=1,s:=vL e.text}:=by rw[eU,ag f]
  have m:gx S C e=pT (vL e.text) S.o:=by rw[gx,ag f]
  obtain⟨g,r⟩:=Ty (v▸u);rw[p,m];exact⟨⟨by show(0:Int)<=1;decide,by show(1:Int)<=4;decide,by show(1:Int)≠0;decide⟩,Tf r g,rfl,r,a.x⟩
 have D:S.ph≠0:=λR=>f (N9 N (R▸T));have w:=a.c D;have l:=a.cs D;have r:=a.so D;have i:=a.ph
 by_cases j:e.kind=2
 .have v:iq S C e=mb C e.bidder.toNat (C.s.bd.getD e.bidder.toNat zN) e.want:=by rw[iq,af f,ag j]
  have p:eU S C e=S:=by rw[eU,af f,ag j]
  have m:gx S C e=uJ C e.bidder.toNat e.want:=by rw[gx,af f,ag j]
  rw[p,m];exact⟨⟨i.1,i.2,D⟩,RF w (v▸u),l,r,a.x⟩
 by_cases q:e.kind=3
 .have v:iq S C e=if C.ov then 10 else 0:=by rw[iq,af f,af j,ag (.inl q)]
  have p:eU S C e=(if jG C then {S with ph:=2} else S):=by rw[eU,af f,af j,ag q]
  have m:gx S C e=mg C:=by rw[gx,af f,af j,ag q]
  have g:C.ov=false:=by
   cases hv:C.ov with
   |false=>rfl
   |true=>rw[v,hv] at u;cases u
  rw[p,m];refine⟨?_,Ly w g,?_,?_,?_⟩
  .split
   .exact⟨by show(0:Int)<=2;decide,by show(2:Int)<=4;decide,by show(2:Int)≠0;decide⟩
   exact⟨i.1,i.2,D⟩
  .split<;>exact l
  .split<;>exact r
  split<;>exact a.x
 by_cases t:e.kind=4
 .have p:eU S C e={S with ph:=2}:=by rw[eU,af f,af j,af q,ag t]
  have m:gx S C e=xL C:=by rw[gx,af f,af j,af q,ag t]
  rw[p,m];exact⟨⟨by show(0:Int)<=2;decide,by show(2:Int)<=4;decide,by show(2:Int)≠0;decide⟩,QI w,l,r,a.x⟩
 have J:¬ (e.kind=3\/e.kind=4):=λh=>h.elim q t
 by_cases E:e.kind=5
 .have v:iq S C e=kG S.s C e.bidder.toNat (S.s.bd.getD e.bidder.toNat zN) e.text:=by rw[iq,af f,af j,af J,ag E]
  have p:eU S C e=zb S e.bidder.toNat (fV S.s.ps e.text).1:=by rw[eU,af f,af j,af q,af t,ag E]
  have m:gx S C e=C:=by rw[gx,af f,af j,af q,af t,af (by omega),af (by omega)]
  rw[v] at u;have k:(fV S.s.ps e.text).2=0:=by
   unfold kG at u
   by_cases g:(fV S.s.ps e.text).2=0
   .exact g
   rw[ag g] at u;exact absurd u g
  rw[p,m];refine⟨⟨i.1,i.2,D⟩,w,l,r,λy A g=>?_⟩;rcases cO A with A|rfl
  .exact a.x y A g
  exact BC k
 have G:∀{X:Sx} {n:Nat},(∀y∈X.bd,y.has=true->j4 y.x=0)->∀y∈(gP X n).bd,y.has=true->j4 y.x=0:=λh y A g=>by
  rcases yg A with F|⟨_,L⟩
  .exact h y F g
  rw[L] at g;cases g
 by_cases K:e.kind=6
 .have p:eU S C e=gP S e.bidder.toNat:=by rw[eU,af f,af j,af q,af t,af E,ag K]
  have m:gx S C e=C:=by rw[gx,af f,af j,af q,af t,af (by omega),af (by omega)]
  rw[p,m];exact⟨⟨i.1,i.2,D⟩,w,l,r,G a.x⟩
 by_cases B:e.kind=7
 .have p:eU S C e=gP (pU S e.bidder.toNat) e.bidder.toNat:=by rw[eU,af f,af j,af q,af t,af E,af K,ag B]
  have m:gx S C e=pe C e.bidder.toNat:=by rw[gx,af f,af j,af q,af t,ag B]
  have P:=r.bd.l2;have W:=U (by rw[gD,dT (Or.inr (Or.inr (Or.inr B)))]);rw[p,m];refine⟨⟨i.1,i.2,D⟩,Pg w _,l,r,G λy A g=>?_⟩;obtain⟨z,Q,k,O⟩:=NT (by have:=a.b8;have:=V.b;omega) A;rw[k];exact a.x z Q (O▸g)
 by_cases z:e.kind=8
 .have v:iq S C e=if gZ C e.round then 4 else 0:=by rw[iq,af f,af j,af J,af E,af K,af B,ag z]
  have p:eU S C e={jb S 8 with ph:=1}:=by rw[eU,af f,af j,af q,af t,af E,af K,af B,ag z]
  have m:gx S C e=jT C e.round.toNat:=by rw[gx,af f,af j,af q,af t,af B,ag z]
  have Y:gZ C e.round=false:=by
   cases hv:gZ C e.round with
   |false=>rfl
   |true=>rw[v,hv] at u;cases u
  have P:∀k,(jb S k).s=S.s:=λk=>by
   induction k with
   |zero=>rfl
   |succ k O=>exact O
  have Q:=P 8;have W:∀y∈(jb S 8).bd,y.has=true->j4 y.x=0:=λy A g=>by
   rcases zn 8 A with F|⟨_,L⟩
   .exact a.x y F g
   rw[L] at g;cases g
  have O:(jT C e.round.toNat).s=C.s:=by unfold jT;split<;>rfl
  rw[p,m];refine⟨⟨by show(0:Int)<=1;decide,by show(1:Int)<=4;decide,by show(1:Int)≠0;decide⟩,MA w Y,?_,?_,W⟩
  .rw[O,l];show S.s.er=(jb S 8).s.er;rw[Q]
  rw[Q];exact r
 have p:eU S C e=tN S e:=by rw[eU,af f,af j,af q,af t,af E,af K,af B,af z]
 have m:gx S C e=C:=by rw[gx,af f,af j,af q,af t,af B,af z]
 rw[p,m];unfold tN
 split
 .exact⟨⟨by show(0:Int)<=4;decide,by show(4:Int)<=4;decide,by show(4:Int)≠0;decide⟩,w,l,r,a.x⟩
 exact⟨⟨by show(0:Int)<=3;decide,by show(3:Int)<=4;decide,by show(3:Int)≠0;decide⟩,w,l,r,a.x⟩
end
def Q4:Ck:={s:=jt,o:=⟨0,0,0,0⟩,cl:=[],p:=z6,ask:=[],bd:=[],dp:=[],ov:=false,ka:=none,kc:=0,xa:=none,xc:=0,ya:=none,yc:=0,za:=none,zc:=0}
def HN(o:Po):tJ (uA o) Q4:=⟨rfl,⟨by show(0:Int)<=0;decide,by show(0:Int)<=4;decide⟩,λ_=>rfl,λh=>absurd rfl h,λh=>absurd rfl h,λh=>absurd rfl h,⟨by show(0:Int)<=0;decide,by show(0:Int)<=600;decide⟩,⟨by show(0:Int)<=0;decide,by show(0:Int)<18446744073709551616;decide⟩,λy a b=>by
 simp only[uA,aP,dR,iS] at a;rcases a with rfl|rfl|rfl|rfl|rfl|rfl|rfl|rfl<;>cases b⟩
def NY(o:Po):(uA o).er=uA o:=by
 show({uA o with bd:=[gR.er,gR.er,gR.er,gR.er,gR.er,gR.er,gR.er,gR.er]}:Sx)=_;rw[U1];rfl
def NZ(o:Po)(w:ah):BR (uA o) Q4 w:=⟨⟨M5 w,λy a=>by
 simp only[uA,aP,dR,iS] at a;rcases a with rfl|rfl|rfl|rfl|rfl|rfl|rfl|rfl<;>exact wk w⟩,λq h=>by cases h⟩
def UH(S:Sx)(e:Ev):pn S.er e=pn S e:=by
 have h:(S.er.bd.getD e.bidder.toNat gR).out=(S.bd.getD e.bidder.toNat gR).out:=by rw[oW];rfl
 unfold pn;rw[h];rfl
def Du(S:Sx)(C:Ck)(e:Ev):tK S.er C.er e=tK S C e:=by
 unfold tK;rw[UH,Hh]
def Ru(S:Sx)(C:Ck)(e:Ev):(vZ S.er C.er e).er=(vZ S C e).er:=by
 show({(eU S.er C.er e).er with cnt:=S.cnt+1,dig:=((o6 S.dig.toNat (gq e):Nat):Int)}:Sx)={(eU S C e).er with cnt:=S.cnt+1,dig:=((o6 S.dig.toNat (gq e):Nat):Int)};rw[Hi]
section
variable {w0 w:ah} {b:Nat} {S:Sx} {C:Ck} {B:bP}
def Yl(a:tJ S C):S.s.Sz:=by
 by_cases b:S.ph=0
 .have e:=a.z b;have c:S.s.ps=[]:=show S.s.er.ps=jt.ps by rw[e]
  have d:S.s.bd=[]:=show S.s.er.bd=jt.bd by rw[e]
  have f:S.s.cp=[]:=show S.s.er.cp=jt.cp by rw[e]
  have g:S.s.sa=[]:=show S.s.er.sa=jt.sa by rw[e]
  exact⟨by rw[c];decide,by rw[d];decide,by rw[f];decide,by rw[g];decide⟩
 exact(a.so b).sz
def yl(c:aU w ⟨b,0,none⟩ 0 S.cells){a:ah}(hc:aZ w a [])(j:Nat){v:Value}(d:S.cells[j]?=some v):a.cell? ⟨b,j,none⟩=some v:=by
 have:=bX (ff hc c) j v d
 rwa [az,wq] at this
def Gz(e:aU w ⟨b,0,none⟩ 0 S.cells){d:ah}(hc:aZ w d []):aU d ⟨b,5,none⟩ 0 S.s.arr.toList:=fm _ 0 λj v c=>by
 rw[gW,az];refine yl e hc (5+j) ?_;have a:=(ai.1 c).1
 match j,a with
 |0,_|1,_|2,_|3,_=>exact c
def UD(k:aU w ⟨b,0,none⟩ 0 S.cells)(h:S.s.In w)(l:S.s.Sz):
  CP 35 #[pt b] w (λr j=>∃a:Se,a.er=S.s.er/\r=.agg a.arr/\St w j (held a.In)):=by
 refine oC.1.2.1 ?_;obtain⟨M,N,O,P⟩:=l;refine bE jt.arr λH J i=>(Ex8<|Ex4<|⟨Gz k i.aK,i.aY jt.arr λI K A=>A.aR 0 rfl S.s.arr.toList rfl (by simp[Se.arr,Value.oneCell']) λC c=>?_⟩);have c:=c.quiet (aZ.drew C []);refine⟨_,_,_,c.aj 0 rfl 0,_,_,_,c.aj 0 rfl 1,_,_,_,c.aj 0 rfl 2,_,_,_,c.aj 0 rfl 3,bg (Bh (h.aK c.aK).ps.fl (by omega)) ?_⟩;rintro v D ⟨a1,c1,rfl,p⟩;have e:St w D (Sep [_,_,_,_]):=c.and p;refine⟨_,_,_,rfl,e.aj 1 rfl 3,e.aj 1 rfl 2,e.aj 1 rfl 1,bg (Be (h.aK e.aK).bd.fl (by omega)) ?_⟩;rintro v E ⟨a2,c2,rfl,q⟩;have f:St w E (Sep [_,_,_,_,_]):=e.and q;refine⟨_,_,_,rfl,f.aj 2 rfl 3,f.aj 2 rfl 2,bg (Bg (h.aK f.aK).cp.fl (by omega)) ?_⟩;rintro v F ⟨a3,c3,rfl,r⟩;have g:St w F (Sep [_,_,_,_,_,_]):=f.and r;refine⟨_,_,_,rfl,g.aj 3 rfl 3,bg (Bc (h.aK g.aK).sa.fl (by omega)) ?_⟩;rintro v G ⟨a4,c4,rfl,t⟩;have B:St w G (Sep [_,_,_,_,_,_,_]):=g.and t;let a:Se:={S.s with a1:=a1,c1:=c1,a2:=a2,c2:=c2,a3:=a3,c3:=c3,a4:=a4,c4:=c4};refine⟨_,_,_,rfl,B.aR 5 rfl a.arr.toList rfl (by simp[a,Se.arr,Value.oneCell']) λL d=>(Ex8<|Ex4<|⟨d.cellsIn (cs:=a.arr) 5 rfl,a,rfl,rfl,?_⟩)⟩;have z:=St.nj (d.out 0 rfl);have y:=St.nj (d.out 1 rfl);have x:=St.nj (d.out 2 rfl);have u:=St.nj (d.out 3 rfl);exact((d.aM [0,1,2,3]).held ((dS T3.len).cons ((dS T3.len).cons ((dS Br.len).cons ((dS Pr.len).cons nY.nil))))).weak (jY λj ⟨o,n,m,i1,_⟩=>⟨kf.of i1 h.ps.in,rQ.of m h.bd.in,Dl.of n,Dl.of o,u.1,x.1,y.1,z.1⟩)
def Um(i:aU w ⟨b,0,none⟩ 0 S.cells)(g:S.bd.length=8)(h:BR S C w)(c:tJ S C)(j:Fc S):
  CP 32 #[pt b] w (λr d=>∃(p:OA) (a:Ck),r=.pointer p/\a.er=C.er/\Fc {S with k:=p}/\St w d (XR p a)):=by
 refine oC.1.2.2.2.1 ⟨_,yl i (aZ.refl w []) 9 ?_,bg (G9 h c j) ?_⟩
 .have:=rM g;simpa using this
 rintro v k ⟨p,a,rfl,d,e,f⟩;exact⟨_,rfl,p,a,rfl,d,e,f⟩
end
def xH(b:Nat)(S:Sx)(C:Ck):bP:=V4 λp:{p:Sx×Ck // p.1.er=S/\p.2.er=C/\Fc p.1}=>star (ay b p.1.1.cells.toArray 78) (held (BR p.1.1 p.1.2))
section
variable {w0 w:ah} {b:Nat} {S S':Sx} {C C':Ck} {B:bP}
def mz(s:St w0 w (star (xH b S C) B)):∃(S':Sx) (C':Ck),S'.er=S/\C'.er=C/\Fc S'/\St w0 w (Sep [ay b S'.cells.toArray 78,held (BR S' C'),B]):=by
 obtain⟨⟨⟨S',C'⟩,a,c,d⟩,e⟩:=s.ex;exact⟨S',C',a,c,d,e.assoc.sU⟩
def AQ(a:S'.er=S)(c:C'.er=C)(d:Fc S')(s:St w0 w (Sep [ay b S'.cells.toArray 78,held (BR S' C'),B])):St w0 w (star (xH b S C) B):=
 St.xe (f:=λp:{p:Sx×Ck // p.1.er=S/\p.2.er=C/\Fc p.1}=>star (ay b p.1.1.cells.toArray 78) (held (BR p.1.1 p.1.2))) ⟨(S',C'),a,c,d⟩ (s.triple.eqv fF.assoc')
def rX(h:tJ S.er C.er):tJ S C:=h.er (pZ S).symm (Jw C).symm
def vw(S:Sx)(C:Ck)(e:Ev):Sx×Ck:=if tK S C e=0 then ((vZ S C e).er,(XX S C e).er) else (S,C)
def Rv(a:tJ S C){e:Ev}(hi:e.In):tJ (vw S C e).1 (vw S C e).2:=by
 unfold vw
 by_cases h:tK S C e=0
 .rw[ag h];exact(Nf a h hi).1.er (pZ _) (Jw _)
 rw[af h];exact a
def tf(s:St w0 w (star (xH b S C) B))(c:tJ S C){e:Ev}(hi:e.In):
  CP 10 #[pt b,e.v] w (λr a=>r=iv (tK S C e)/\St w0 a (star (xH b (vw S C e).1 (vw S C e).2) B)):=by
 obtain⟨S',C',rfl,rfl,j,o⟩:=mz s;have a:=rX c;refine bg (Vm o a j hi) ?_;rintro v r ⟨rfl,m,n⟩;refine⟨_,rfl,by rw[Du],?_⟩;unfold vw;rw[Du]
 by_cases h:tK S' C' e=0
 .obtain⟨g,q,i,k,l,p⟩:=n h;have f:=(Nf a h hi).2;have d:g.ph=(vZ S' C' e).ph:=show g.er.ph=(vZ S' C' e).er.ph by rw[i]
  rw[ag h];exact AQ (i.trans (Ru S' C' e).symm) (k.trans (CR S' C' e).symm) ⟨λx=>absurd (d.symm.trans x) f,λ_=>l⟩ p
 rw[af h];exact AQ rfl rfl j (m h)
end
def Xh(l:List Ev)(X:Sx×Ck):Sx×Ck:=l.foldl (λX e=>vw X.1 X.2 e) X
def made(o:Po)(l:List Ev):Sx×Ck:=Xh l (uA o,Q4)
def ye(o:Po)(l:List Ev)(e:Ev):made o (l++[e])=vw (made o l).1 (made o l).2 e:=by unfold made Xh;rw[cG];rfl
def Am(o:Po)(l:List Ev)(h:∀e∈l,e.In):tJ (made o l).1 (made o l).2:=by
 suffices H:∀(l:List Ev) (X:Sx×Ck),(∀e∈l,e.In)->tJ X.1 X.2->tJ (Xh l X).1 (Xh l X).2 from H l _ h (HN o)
 intro l
 induction l with
 |nil=>exact λ_ _ h=>h
 |cons e l c=>exact λX h a=>c _ (λx b=>h x (cR _ b)) (Rv a (h e (dw ..)))
def Uu(x y A:Int):Int:=if x<y then -1 else if x>y then 1 else A
def um(x y A:Int):(x<y/\Uu x y A=-1)\/(x=y/\Uu x y A=A)\/(x>y/\Uu x y A=1):=by
 unfold Uu;rcases kJ x y with h|h|h
 .exact .inl ⟨h,ag h⟩
 .exact .inr (.inl ⟨h,by rw[af (by omega),af (by omega)]⟩)
 exact .inr (.inr ⟨h,by rw[af (by omega),ag (by omega)]⟩)
def mR(u v:I6):Nat->Int
 |0=>0
 |n+1=>Uu (u.at' (5-n)) (v.at' (5-n)) (mR u v n)
abbrev Lz (u v:I6):Int:=mR u v 6
theorem LA(u v w:I6):∀n,mR u v n<=0->mR v w n<=0->mR u w n<=0/\(mR u v n<0\/mR v w n<0->mR u w n<0)
 |0,_,_=>⟨by simp[mR],λh=>by simp[mR] at h⟩
 |n+1,d,e=>by
  have j:=LA u v w n;simp only[mR] at d e⊢;rcases um (u.at' (5-n)) (v.at' (5-n)) (mR u v n) with⟨f,a⟩|⟨f,a⟩|⟨f,a⟩ <;>
  rcases um (v.at' (5-n)) (w.at' (5-n)) (mR v w n) with⟨g,b⟩|⟨g,b⟩|⟨g,b⟩ <;>
  rcases um (u.at' (5-n)) (w.at' (5-n)) (mR u w n) with⟨i,c⟩|⟨i,c⟩|⟨i,c⟩ <;>
  rw[a] at d<;>rw[b] at e<;>rw[a,b,c] <;>
  first
   |(exfalso;omega)
   |exact⟨by omega,λ_=>by omega⟩
   |exact j d e
theorem xY(u v:I6):∀n,mR v u n=- mR u v n
 |0=>rfl
 |n+1=>by
  have e:=xY u v n;simp only[mR];rcases um (u.at' (5-n)) (v.at' (5-n)) (mR u v n) with⟨c,a⟩|⟨c,a⟩|⟨c,a⟩ <;>
  rcases um (v.at' (5-n)) (u.at' (5-n)) (mR v u n) with⟨d,b⟩|⟨d,b⟩|⟨d,b⟩ <;>
  rw[a,b]<;>omega
def IN(u v:I6):Bool:=decide (Lz u v<0)
def Nx{u v:I6}{n:Nat}(h:u.at' (5-n)=v.at' (5-n)):mR u v (n+1)=mR u v n:=by
 show Uu _ _ _=_;unfold Uu;rw[af (by omega),af (by omega)]
end Go.Proofs.YtmhhlijfepaphaaGreatDoor
set_option maxHeartbeats 4000000
namespace Go.Proofs.YtmhhlijfepaphaaGreatDoor
open Go Go.Vc Go.Vt _root_.Go.Proofs.Tryz
def tO:=zl (And.intro (many xP [en func47 [] [(122,[(18,.s (.int .i64))])],en func101 [] [],en func112 [(0,.k (.s .blk))] [],en func52 [(0,.k (.s .blk))] [(14,[(22,.s .bool)]),(2027,[(58,.s .bool)]),(8111,[(66,.s .bool)])],en func53 [(0,.k (.s .blk))] [(122,[(3,.s .slice),(12,.s (.int .i64))])],en func114 [(0,.k (.s .blk))] [(122,[(5,.s .slice)])],en func175 [] [],en func17 [(0,.k (.s .blk))] [(6,[(20,.s .bool)]),(506,[(43,.s (.int .i64))]),(4051,[]),(129639,[(7,.s .slice)]),(1037118,[(84,.s (.int .i64))])],en func115 [] [(12,[(5,.s .bool)]),(51,[(15,.s .bool)])]] (by conv=>lhs;reduce) (by kernel_rfl) id) (many xP [en func54 [] [(250,[(34,.s (.int .i64))]),(2003,[]),(128207,[(70,.s .bool)]),(2042,[(89,.s (.int .i64))]),(8186,[(18,.s .slice),(103,.s (.int .i64))]),(65491,[(18,.s .slice)]),(2095718,[(145,.s .bool)])],en func116 [] [],en func117 [] [],en func178 [] [],en func18 [(0,.k (.s .blk))] [(51,[(9,.s .bool)])],en func6 [] [(58,[(3,.s (.int .i64))])],en func16 [] [],en func7 [] [(14,[(22,.s .bool)]),(250,[(3,.s (.int .i64))])],en func40 [(0,.k (.s .blk))] [(6,[(19,.s .bool)])],en func13 [(0,.k (.s .blk))] [],en func41 [(0,.k (.s .blk))] [],en func92 [(0,.k (.s .blk))] [],en func37 [(0,.k (.s .blk))] []] (by conv=>lhs;reduce) (by kernel_rfl) id)) λx=>by
 dsimp only[qq,qm,qk,qj,qy,qA,qB,GH,uv,en,FG,wrap,dc,dn,DH,gU,ID,U.I,U.B,U.S,U.N,U.A,U.O,U.W,U.V,U.L,U.U6,U.C,U.M,U.F,U.E,HV,HA,GM,zS,jU,gJ,vZ,vI,TJ,Nat.reduceSub,Nat.reduceAdd,Int.reduceOfNat,Int.reduceNeg,UInt8.reduceOfNat] at x
 exact x
def uw:=(p6 tO.1).1
def AA:=(p6 tO.1).2.2.1
def pY:=tO.2.2.2.2.2.1
def tE:=(p6 tO.2).2.2.2.2.1
def uq:=(p6 tO.2).2.2.2.2.2.1
end Go.Proofs.YtmhhlijfepaphaaGreatDoor
namespace Go.Vc
open Go Go.RowKit
section
variable {α:Type} {P:Program} {t ty e:TypeId} {z:Value} {sz by_:Nat} {f:α->List Value} {w0 w:World} {B:bP} {a:OA} {c:Nat} {l:List α}
theorem yb(a:∀x,(f x).length=sz):∀(l:List α) (n:Nat),(l.flatMap f).take (n*sz)=(l.take n).flatMap f
 |_,0=>by simp
 |[],n+1=>by simp
 |x::l,n+1=>by
  have b:(n+1)*sz=(f x).length+n*sz:=by rw[a x,cH];omega
  rw[bQ,b,j0,yb a l n,fJ,bQ]
def Fz{z:Array Value}{n:Nat}:(Builtin.zeroCells z n).toList.length=n*z.size:=by simp[Builtin.zeroCells]
def FA{z:Array Value}{n:Nat}{Q:Value->Prop}(c:0<z.size)(h:∀v∈z.toList,Q v):∀v∈(Builtin.zeroCells z n).toList,Q v:=by
 intro v b;simp only[Builtin.zeroCells,Array.toList_map,aN] at b;obtain⟨i,_,rfl⟩:=b;have a:i%z.size<z.size:=jE _ c;rw[gA z (i%z.size) a];exact h _ (Array.getElem_mem_toList a)
def RU(q:ru P t e z sz by_)(J:∀x,(f x).length=sz)(Q:∀v∈z.cells.toList,v.oneCell'=true){g n:Nat}(h:St w0 w (star (iQ e sz f (some ⟨g,0,none⟩) c l) B))(Y:n<=l.length){K:World->Prop}(k:∀s,St w0 s (star (iQ e sz f (some ⟨g,0,none⟩) c (l.take n)) B)->K s):
  kg P (Builtin.clear_ #[t] ty #[.slice (if c=n then some ⟨g,0,none⟩ else Option.map (λx=>Addr.add x (n*sz)) (some ⟨g,0,none⟩)) (l.length-n) (c-n)]) w λ_ s=>K s:=by
 obtain⟨i,T,G,Z,S⟩:=q.i
 by_cases X:l.length=n
 .have b:l.length-n=0:=by omega
  rw[b];have d:l.take n=l:=(by grind);rw[d] at k;refine⟨.tuple #[],w,?_,k w h⟩;generalize(if c=n then _ else _:OA)=a
  cases a<;>simp[Builtin.clear_,run_underlying q.u]
 obtain⟨m,V⟩:∃m,l.length-n=m+1:=⟨l.length-n-1,by omega⟩;obtain⟨F,⟨own,rfl⟩,H⟩:=h.use;rcases own.2 with⟨E,_⟩|⟨W,cap,b,E,R,L,A,y,o,p⟩
 .cases E
 cases E
 have N:=q.zc;have d:(Builtin.zeroCells z.cells (m+1)).toList.length=(m+1)*sz:=by rw[Fz,N]
 have one:∀v∈(Builtin.zeroCells z.cells (m+1)).toList,v.oneCell'=true:=FA (by rw[N];exact q.pos) Q;have M:n*sz+(m+1)*sz=l.length*sz:=by rw[<-cH];grind
 have I:l.length*sz<=c*sz:=dZ _ A;have C:=run_storeCells_at P g (n*sz) e (Builtin.zeroCells z.cells (m+1)).toList 0 b w L (by rw[d,o];omega) one;rw[af (by omega:¬ c=n),V];have O:Option.map (λx=>Addr.add x (n*sz)) (some (⟨g,0,none⟩:Addr))=some ⟨g,n*sz,none⟩:=by rw[cU,wq]
 rw[O];have r:(Builtin.clear_ #[t] ty #[.slice (some ⟨g,n*sz,none⟩) (m+1) (c-n)]).run P w=.ok (.tuple #[]) (w.setRow g (b.toList.take (n*sz+0)++(Builtin.zeroCells z.cells (m+1)).toList++b.toList.drop (n*sz+0+(Builtin.zeroCells z.cells (m+1)).toList.length)).toArray):=by
  simp[Builtin.clear_,run_underlying q.u,zeroValue,typeInfo,T,G,C]
 have D:(l.take n).length=n:=by grind
 refine⟨_,_,r,k _ (H _ _ ⟨[g],⟨⟨?_,.inr ⟨g,c,_,rfl,R,setRow_heap w g b _ e _ L,?_,y,?_,?_⟩⟩,rfl⟩,⟨by simp[World.setRow],λj _ U=>setRow_other w g j _ (by grind[Value.ownBlock]),⟨rfl,rfl,rfl⟩⟩,λj U=>.inl (by grind[Value.ownBlock])⟩)⟩
 .rw[jB J]
 .omega
 .simp only[js,aA,aW,bG,fG,d,o];omega
 rw[D,dA,jL (by rw[aW,fG,o];omega),gX,jh,Nat.min_self,<-yb J l n,<-p,jh,gu (by omega)]
end
end Go.Vc
namespace Go.Vc
open Go Go.RowKit Go.Sort Go.Proofs
def Fb(w a:World):Prop:=∃(q:Nat) (os:Array Obj),a=grow (w.drewN q) os
def Fb.refl(w:World):Fb w w:=⟨0,#[],by rw[grow_empty];rfl⟩
def Fb.drew{w a:World}(h:Fb w a):Fb w a.drew:=by
 obtain⟨q,os,rfl⟩:=h;exact⟨q+1,os,rfl⟩
def Fb.alloc{w a:World}(h:Fb w a)(o:Obj):Fb w (a.alloc o):=by
 obtain⟨q,os,rfl⟩:=h;exact⟨q,os.push o,by rw[alloc_eq_grow,grow_grow,Array.append_singleton]⟩
def Fb.trans{w c d:World}(h:Fb w c)(k:Fb c d):Fb w d:=by
 obtain⟨q,os,rfl⟩:=h;obtain⟨b,a,rfl⟩:=k;refine⟨q+b,os++a,?_⟩;rw[<-grow_grow];show grow (grow ((w.drewN q).drewN b) os) a=_
 congr 2
 unfold World.drewN;simp[kC]
def St.PO{w w0 b:World}{l:List bP}(s:St w b (Sep l))(h:Fb w0 b)(cs:Array Value){T:TypeId}{R:Nat->World->Prop}(k:∀r a,St w a (Sep (ay r cs T::l))->Fb w0 a->R r a):gK b (.cells cs T) R:=
 k _ _ (s.jR cs T) (h.alloc _)
section
variable {α:Type} [Inhabited α] {e:TypeId} {sz c g:Nat} {f:α->List Value} {w0 w:World} {B:bP} {l l':List α}
def DQ(c:∀x,(f x).length=sz)(l:List α):(flatK f sz l.toArray).toList=l.flatMap f:=by
 refine aX λt=>?_
 by_cases b:t<l.length*sz
 .have d:t<(flatK f sz l.toArray).size:=by rw[size_flatK];simpa using b
  have m:t<(l.flatMap f).length:=by rw[jB c];exact b
  have k:0<sz:=(jf sz).resolve_left λh=>by subst h;simp at b
  have a:t / sz<l.length:=mY (by rw[lq];exact b);have i:(flatK f sz l.toArray)[t]! = _:=get_flatK f sz l.toArray t (by simpa using b);rw[dy,Array.getElem?_eq_getElem d,<-gA (flatK f sz l.toArray) t d,i];have j:l[t / sz]?=some (l[t / sz]'a):=fI a;have g:l.toArray[t / sz]! = l[t / sz]'a:=by rw[gA l.toArray (t / sz) (by simpa using a)];simp
  rw[g];have e:t%sz<(f (l[t / sz]'a)).length:=by rw[c];exact jE _ k
  have:=DR c j (t%sz) _ (fI e);rw[Nat.div_add_mod'] at this;rw[this,gA (f (l[t / sz]'a)) (t%sz) e]
 rw[aJ (by rw[fG,size_flatK];simpa using b),aJ (by rw[jB c];omega)]
def Xy(z:∀x,(f x).length=sz)(h:St w0 w (star (iQ e sz f (some ⟨g,0,none⟩) c l) B))(C:l'.length=l.length)(n:Nat)(os:Array Obj):
  St w0 (sortWorldK f sz w g 0 n l'.toArray os) (star (iQ e sz f (some ⟨g,0,none⟩) c l') B):=by
 obtain⟨F,⟨own,rfl⟩,v⟩:=h.use;rcases own.2 with⟨u,_⟩|⟨G,cap,a,u,D,A,q,k,m,s⟩
 .cases u
 cases u
 have p:g<w.heap.size:=qP A;have d:(sortWorldK f sz w g 0 n l'.toArray os).heap=w.heap.modify g (onCells (putCells id 0 (flatK f sz l'.toArray)))++os:=rfl;have E:(flatK f sz l'.toArray).size=l.length*sz:=by rw[size_flatK];simp[C]
 have i:(sortWorldK f sz w g 0 n l'.toArray os).heap[g]?=some (.cells (putCells id 0 (flatK f sz l'.toArray) a) e (0,0)):=by
  rw[d,jK (by simpa using p),gL,ag rfl,A];rfl
 have y:l.length*sz<=c*sz:=dZ _ q;have b:(putCells id 0 (flatK f sz l'.toArray) a).toList.take (l.length*sz)=l'.flatMap f:=by
  rw[<-DQ z];refine aX λt=>?_;rw[bz]
  by_cases o:t<l.length*sz
  .rw[ag o];have r:t<a.size:=by omega
   have j:t<(flatK f sz l'.toArray).size:=by omega
   rw[dy,dy,putCells,Array.getElem?_mapIdx,Array.getElem?_eq_getElem r,Array.getElem?_eq_getElem j,cU,ag (by omega),fk,gA (flatK f sz l'.toArray) t j];rfl
  rw[af o,aJ (by rw[fG];omega)]
 refine v _ _ ⟨[g],⟨⟨?_,.inr ⟨g,c,_,rfl,D,i,by omega,k,?_,?_⟩⟩,rfl⟩,⟨?_,λj o t=>?_,⟨rfl,rfl,rfl⟩⟩,λj o=>.inl (by simpa[Value.ownBlock] using o)⟩
 .rw[jB z]
 .rw[putCells,Array.size_mapIdx];exact m
 .rw[C];exact b
 .rw[d];simp
 have r:j≠g:=by simp[Value.ownBlock] at t;exact t
 rw[d,jK (by simpa using o),gL,af (Ne.symm r)]
def sort_holds(t:∀x,(f x).length=sz)(h:St w0 w (star (iQ e sz f (some ⟨g,0,none⟩) c l) B)):HoldsK f sz w g 0 l.toArray/\g<w.heap.size:=by
 obtain⟨F,⟨own,rfl⟩,u⟩:=h.use;rcases own.2 with⟨n,_⟩|⟨v,cap,d,n,y,i,m,r,s,a⟩
 .cases n
 cases n
 have o:l.length*sz<=c*sz:=dZ _ m;refine⟨λj b=>?_,qP i⟩;have k:j<l.length*sz:=by rw[size_flatK] at b;simpa using b
 have p:(flatK f sz l.toArray)[j]! = (flatK f sz l.toArray)[j]:=gA (flatK f sz l.toArray) j b;have q:(flatK f sz l.toArray)[j]?=d[j]?:=by
  rw[<-dy,DQ t,<-a,bz,ag k,dy]
 rw[az];refine⟨?_,?_⟩
 .rw[uL,i,qL,<-q,Array.getElem?_eq_getElem b,p];rfl
 rw[DU,i,DW]
end
section
variable {α:Type} {e:TypeId} {sz c g:Nat} {f:α->List Value} {w0 w:World} {B:bP} {l:List α}
theorem DS(a:∀x,(f x).length=sz){x x':α}{v:Value}{j:Nat}(b:j<sz)(c:f x'=(f x).set j v):∀(l:List α) (i:Nat),l[i]?=some x->(l.set i x').flatMap f=(l.flatMap f).set (i*sz+j) v
 |[],_,h=>by simp at h
 |y::l,0,h=>by
  obtain rfl:y=x:=by simpa using h
  rw[List.set_cons_zero,bQ,bQ,c,gz,az,List.set_append_left _ _ (by rw[a];exact b)]
 |y::l,i+1,h=>by
  have e:=DS a b c l i (by simpa using h);have d:(i+1)*sz+j=(f y).length+(i*sz+j):=by rw[a y,cH];omega
  rw[od,bQ,e,bQ,d,mE _ _ (by omega),jk]
def St.OE(r:∀x,(f x).length=sz){x x':α}{v:Value}{i j:Nat}(hi:l[i]?=some x)(o:j<sz)(A:f x'=(f x).set j v)(u:v.oneCell'=true)(h:St w0 w (star (iQ e sz f (some ⟨g,0,none⟩) c l) B)){R:World->Prop}(k:∀t,St w0 t (star (iQ e sz f (some ⟨g,0,none⟩) c (l.set i x')) B)->R t):kB w ⟨g,i*sz+j,none⟩ v R:=by
 obtain⟨F,⟨own,rfl⟩,use⟩:=h.use;rcases own.2 with⟨p,_⟩|⟨C,cap,d,p,y,s,b,m,n,a⟩
 .cases p
 cases p
 have z:=(ai.1 hi).1;have q:l.length*sz<=c*sz:=dZ _ b;have D:i*sz+sz<=l.length*sz:=by
  have:=dZ sz (show i+1<=l.length by omega);rw[cH] at this;omega
 refine Ix s (by omega) u (k _ (use _ _ ⟨[g],⟨⟨?_,.inr ⟨g,c,d.setIfInBounds (i*sz+j) v,?_,y,?_,?_,m,?_,?_⟩⟩,rfl⟩,aZ.set w g _ v (by simp[Value.ownBlock]),λj o=>.inl o⟩))
 .rw[jB r,bf]
 .rw[bf]
 .rw[heap_set,ag rfl,s];rfl
 .rw[bf];exact b
 .rw[Array.size_setIfInBounds];exact n
 rw[bf,DS r o A l i hi,<-a,ki,List.take_set]
end

import Derived.Shelf.SlSortCmp.NoneTotal
import Derived.Test.YtmhhlijfepaphaaGreatDoorH11
set_option linter.all false
set_option maxRecDepth 100000
namespace Go.Proofs.YtmhhlijfepaphaaGreatDoor
open Go Go.Vc Go.Sort _root_.Go.Proofs.Tryz
theorem Jp{u v:I6}:∀n,mR u v n=0->∀k,k<n->u.at' (5-k)=v.at' (5-k)
 |0,_,k,c=>absurd c (gT k)
 |n+1,h,k,c=>by
  simp only[mR] at h;rcases um (u.at' (5-n)) (v.at' (5-n)) (mR u v n) with⟨a,b⟩|⟨a,b⟩|⟨a,b⟩<;>rw[b] at h
  .omega
  .by_cases e:k=n
   .subst e;exact a
   exact Jp n h k (by omega)
  omega
def Pb{u v:I6}(h:Lz u v=0):u=v:=I6.ext' λj a=>by
 have:=Jp 6 h (5-j) (by omega)
 rwa [show 5-(5-j)=j by omega] at this
def G8(x y:Of):Int:=Lz x.want y.want
instance:Inhabited Of:=⟨vX⟩
def QL:SWO (ltOf G8) where
 irrefl x:=by
  have:=xY x.want x.want 6;exact dF (show ¬ mR _ _ 6<0 by omega)
 trans x y z a b:=by
  have a:mR x.want y.want 6<0:=dG a;have b:mR y.want z.want 6<0:=dG b;exact dT ((LA _ _ _ 6 (by omega) (by omega)).2 (.inl a))
 ntrans x y z a b:=by
  have a:¬ mR x.want y.want 6<0:=of_decide_eq_false a;have b:¬ mR y.want z.want 6<0:=of_decide_eq_false b;have c:=xY x.want y.want 6;have d:=xY y.want z.want 6;have e:=xY x.want z.want 6;have:=(LA z.want y.want x.want 6 (by omega) (by omega)).1;exact dF (show ¬ mR _ _ 6<0 by omega)
def S7(x y:Of):Bool:=IN x.want y.want
def Pv(x:Of):List Of->List Of
 |[]=>[x]
 |y::l=>if S7 x y=true then x::y::l else y::Pv x l
def Q8(l:List Of):List Of:=l.foldr Pv []
theorem Bp(x:Of):∀l:List Of,(Pv x l).Perm (x::l)
 |[]=>List.Perm.refl _
 |y::l=>by
  rw[Pv]
  split
  .exact List.Perm.refl _
  exact(List.Perm.cons y (Bp x l)).trans (List.Perm.swap x y l)
theorem nL:∀l:List Of,(Q8 l).Perm l
 |[]=>List.Perm.refl _
 |x::l=>(Bp x (Q8 l)).trans (List.Perm.cons x (nL l))
def Hz(l:List Of):(Q8 l).length=l.length:=(nL l).length_eq
def GL(l:List Of):Prop:=l.Pairwise λx y=>S7 x y=true
def HJ{x y:Of}(h:S7 y x=false)(b:x.want≠y.want):S7 x y=true:=by
 have c:¬ mR y.want x.want 6<0:=of_decide_eq_false h;have e:=xY x.want y.want 6;refine dT (show mR _ _ 6<0 from ?_);have:mR x.want y.want 6≠0:=λa=>b (Pb a);omega
theorem NK{x:Of}:∀{l:List Of},GL l->(∀y∈l,y.want≠x.want)->GL (Pv x l)
 |[],_,_=>List.pairwise_singleton _ _
 |y::l,h,b=>by
  unfold GL at h;rw[List.pairwise_cons] at h;rw[Pv]
  split
  .rename_i g;refine List.pairwise_cons.2 ⟨λz a=>?_,List.pairwise_cons.2 h⟩;rcases aP.1 a with rfl|a
   .exact g
   exact QL.trans x y z g (h.1 z a)
  rename_i g;refine List.pairwise_cons.2 ⟨λz a=>?_,NK h.2 λz a=>b z (by simp[a])⟩;rcases aP.1 ((Bp x l).mem_iff.1 a) with rfl|a
  .exact HJ (by simpa using g) (b y (by simp))
  exact h.1 z a
theorem Bq:∀{l:List Of},(l.map Of.want).Nodup->GL (Q8 l)
 |[],_=>List.Pairwise.nil
 |x::l,h=>by
  rw[cD,gr] at h;exact NK (Bq h.2) λy a e=>h.1 (by rw[<-e];exact bV ((nL l).mem_iff.1 a))
theorem Dd:∀{l m:List Of},GL l->GL m->l.Perm m->l=m
 |[],m,_,_,h=>(List.nil_perm.1 h).symm
 |x::l,[],_,_,h=>absurd (List.perm_nil.1 h) (by simp)
 |x::l,y::m,h,k,a=>by
  unfold GL at h k;rw[List.pairwise_cons] at h k;have e:x=y:=by
   rcases aP.1 (a.mem_iff.1 (dw ..)) with e|f
   .exact e
   rcases aP.1 (a.mem_iff.2 (dw ..)) with e|g
   .exact e.symm
   have b:=h.1 y g;have c:=k.1 x f;have:=QL.trans x y x b c;have d:=QL.irrefl x;rw[d] at this;cases this
  subst e;rw[Dd h.2 k.2 ((List.perm_cons x).1 a)]
def QE{l o:List Of}(b:(l.map Of.want).Nodup)(c:o.Perm l)(e:o.Pairwise λx y=>S7 y x=false):o=Q8 l:=by
 have a:=(c.map Of.want).nodup_iff.2 b;refine Dd ?_ (Bq b) (c.trans (nL l).symm);unfold GL;have d:o.Pairwise λx y=>x.want≠y.want:=by
  unfold List.Nodup at a
  rwa [iw] at a
 exact(e.and d).imp λh=>HJ h.1 h.2
def DF(w:ah)(u v:I6):CP 108 #[.agg u.vs.toArray,.agg v.vs.toArray] w (λr A=>r=iv (Lz u v)/\Fb w A):=by
 refine DV.1 (St.PO (St.start w).one (Fb.refl w) u.vs.toArray λt D y g1=>y.PO g1 v.vs.toArray λx E z g2=>⟨λn l m=>∃k:Nat,n=k/\k<=6/\m=6-k/\Lz u v=mR u v (6-k)/\Fb w l/\St w l (Sep [ay x v.vs.toArray 50,ay t u.vs.toArray 50,emp]),⟨6,0,rfl,by omega,by omega,rfl,g2,z⟩,?_⟩);rintro l m n ⟨k,rfl,B,C,d,g,s⟩-
 by_cases e:(k:Int)<6
 .have a:k<6:=by omega
  obtain⟨j,q⟩:∃j,6-k=j+1:=⟨5-k,by omega⟩;have b:5-j=k:=by omega
  have i:=s.quiet (aZ.drew _ _);have f:=i.quiet (aZ.drew _ _);have o:=g.drew;have p:=o.drew;refine cT (dT e) ⟨by omega,by omega,u.at' k,by rw[iC,br i 1 rfl a],by omega,by omega,v.at' k,by rw[iC,br i 0 rfl a],?_⟩;rw[q] at d;rcases um (u.at' k) (v.at' k) (mR u v j) with⟨c,h⟩|⟨c,h⟩|⟨c,h⟩
  .refine cT (dT c) ⟨?_,o⟩;rw[d];show iv (-1)=iv (Uu (u.at' (5-j)) (v.at' (5-j)) _);rw[b,h]
  .refine cF (dF (by omega)) ⟨by omega,by omega,u.at' k,by rw[iC,br f 1 rfl a],by omega,by omega,v.at' k,by rw[iC,br f 0 rfl a],cF (dF (by omega)) ⟨6-(k+1),by omega,k+1,inc (by decide) a,by omega,rfl,?_,p,f⟩⟩;rw[d,Nx (by rw[b];exact c),show 6-(k+1)=j by omega]
  refine cF (dF (by omega)) ⟨by omega,by omega,u.at' k,by rw[iC,br f 1 rfl a],by omega,by omega,v.at' k,by rw[iC,br f 0 rfl a],cT (dT c) ⟨?_,p⟩⟩;rw[d];show iv 1=iv (Uu (u.at' (5-j)) (v.at' (5-j)) _);rw[b,h]
 obtain rfl:k=6:=by omega
 refine cF (dF e) ⟨?_,g⟩;rw[d];rfl
def abt(w:ah)(x y:Of):CP 107 #[.agg x.cells.toArray,.agg y.cells.toArray] w (λr d=>r=iv (G8 x y)/\Fb w d):=by
 exact @wv _ x.want _ _ y.want _ _ _ (St.PO (St.start w).one (Fb.refl w) x.cells.toArray λf h c g1=>c.PO g1 y.cells.toArray λg e a g2=>⟨x.want,St.bA a 1 1 rfl rfl,y.want,St.bA a 0 1 rfl rfl,bF (DF e _ _) λi b=>⟨_,rfl,rfl,g2.trans b⟩⟩)
def abl(w:ah)(x y:Of):CP 175 #[.agg x.cells.toArray,.agg y.cells.toArray] w (λr d=>r=iv (G8 x y)/\Fb w d):=by
 exact @uw _ x.want _ _ y.want _ _ _ (St.PO (St.start w).one (Fb.refl w) x.cells.toArray λf h c g1=>c.PO g1 y.cells.toArray λg e a g2=>⟨x.want,St.bA a 1 1 rfl rfl,y.want,St.bA a 0 1 rfl rfl,bF (DF e _ _) λi b=>⟨_,rfl,rfl,g2.trans b⟩⟩)
def OB{w0 w:ah}{a:OA}{c:Nat}{l:List Of}{B:bP}(s:St w0 w (star (dB a c l) B))(K:l.length<=100000)(I:(l.map Of.want).Nodup){g:Nat}(F:∀args w,(callFunc g args).run prog w=.ok (.enter g args) w)(hc:∀(w:ah) (x y:Of),Calls prog g #[.agg x.cells.toArray,.agg y.cells.toArray] w (wo λr f=>r=iv (G8 x y)/\Fb w f)):
  CP 106 #[.slice a l.length c,.func (.func g) #[] #[]] w (λr f=>r=.tuple #[]/\St w0 f (star (dB a c (Q8 l)) B)):=by
 by_cases v:l=[]
 .subst v;exact(AnyF.slices_SortFunc_none Tryz.Uz a c _ w).mono λe f ⟨h,t⟩=>⟨_,h,rfl,by rw[t];exact s⟩
 obtain⟨b,rfl⟩:=s.kN (nD.2 v);have z:=sort_holds Of.len s;have o:CmpLays prog g #[] Of.cells 8 G8 b 0 l.toArray.size w:=λm os u _ x y=>by
  have:=(hc (sortWorldK Of.cells 8 w b 0 m u os) x y).mono (R':=λe f=>e=.returned (.int .i64 (G8 x y))/\∃q d,f=grow ((sortWorldK Of.cells 8 w b 0 m u os).drewN q) d) λe f ⟨r,h,j,i⟩=>⟨by rw[h,j],i⟩;simpa using this
 have H:=AnyQ.slices_SortFunc Tryz.Uz 8 Tryz.isAgg70 Tryz.sizeOf70 Of.cells Of.len Of.one G8 QL g #[] b 0 c l.toArray w F o z.1 z.2 (by simp;omega);have C:=H;refine C.mono λe f ⟨h,d,n,os,A,J,t⟩=>⟨_,h,rfl,?_⟩;have k:d.size=l.length:=by simpa using A.1
 have D:d.toList.Perm l:=by
  have:=A.2.2;simp[k] at this
  rwa [bB (by simpa using Nat.le_of_eq k)] at this
 have E:d.toList.Pairwise λx y=>S7 y x=false:=by
  rw[List.pairwise_iff_getElem];intro i j G q p;have:=J i j (e9 _) p (by simpa[k] using q);rw[gA d i (by simpa using G),gA d j (by simpa using q)] at this;exact(by simpa using this:ltOf G8 d[j] d[i]=false)
 rw[<-QE I D E];have:=Xy Of.len s (l':=d.toList) (by simpa using k) n os;rw[t];simpa using this
end Go.Proofs.YtmhhlijfepaphaaGreatDoor
namespace Go.Proofs.YtmhhlijfepaphaaGreatDoor
open Go Go.Vc _root_.Go.Proofs.Tryz
abbrev aby:Value:=.func (.func 105) #[] #[]
def X0(w:ah)(x:Of):CP 105 #[.agg x.cells.toArray] w (λr b=>r=.bool (decide (x.v=0))/\aZ w b []):=by
 exact @wu _ x.want _ _ _ ((St.start w).one.aY x.cells.toArray λc d a=>⟨x.v,a.aj 0 rfl 7,rfl,a.aK⟩)
def IP(x:Of):Bool:=!decide (x.v=0)
def Zg{w:ah}{a:OA}{c:Nat}{l:List Of}(h:Q5 w a l)(t:l.length<=1000):
  CP 164 #[.slice a l.length c,aby] w (λr b=>((∃(k:Nat) (x:Of),r=iv k/\l[k]?=some x/\x.v=0/\(l.take k).filter IP=l.take k)\/(r=iv (-1)/\l.filter IP=l))/\aZ w b []):=by
 refine(p6 (p6 qH.2)).2.2.2.2.2.1 ⟨λn o m=>∃k:Nat,n=k/\k<=l.length/\m=l.length-k/\(l.take k).filter IP=l.take k/\aZ w o [],⟨l.length,0,rfl,by omega,by omega,rfl,aZ.refl _ _⟩,?_⟩;rintro o m n ⟨k,rfl,s,u,e,i⟩-
 by_cases d:(k:Int)<(l.length:Int)
 .have f:l[k]?=some (l[k]'(by omega)):=gE (by omega);generalize l[k]'(by omega)=x at f;obtain⟨q,r,j⟩:=(iA.aK h i).at f;refine cT (dT d) (av r ⟨by omega,by omega,_,x.want,_,j,iJ (by kernel_rfl) (bF (X0 o x) λy p=>?_)⟩);have b:=i.trans p (by simp);refine⟨_,rfl,?_⟩
  by_cases g:x.v=0
  .exact cT (dT g) ⟨.inl ⟨k,x,rfl,f,g,e⟩,b⟩
  refine cF (dF g) ⟨l.length-(k+1),by omega,k+1,fQ ⟨by omega,by omega⟩,by omega,rfl,?_,b⟩;rw[bJ f,jd,e];simp[IP,g]
 obtain rfl:k=l.length:=by omega
 rw[aH] at e;exact cF (dF d) ⟨.inr ⟨rfl,e⟩,i⟩
def abr{a:OA}{c:Nat}:(if c=0 then a else Option.map (λx=>Addr.add x (0*8)) a)=a:=by
 split
 .rfl
 cases a with
 |none=>rfl
 |some q=>obtain⟨b,o,p⟩:=q;rw[cU,gz];unfold Addr.add;split<;>simp_all
def YS{w0 w:ah}{a:OA}{c:Nat}{l:List Of}{B:bP}(s:St w0 w (star (dB a c l) B))(P:l.length<=1000):
  CP 104 #[.slice a l.length c,aby] w (λr b=>r=.slice a (l.filter IP).length c/\St w0 b (star (dB a c (l.filter IP)) B)):=by
 refine(p6 (p6 qH.2)).2.2.2.2.1 (bg (Zg (St.rd Of.len s) P) ?_);rintro _ Z ⟨S,N⟩;have C:=s.quiet N;rcases S with⟨A,x0,rfl,f,z,r⟩|⟨rfl,G⟩
 rotate_left
 .refine⟨_,rfl,cT rfl ⟨?_,?_⟩⟩
  .rw[G]
  rw[G];exact C
 have H:=(ai.1 f).1;obtain⟨g,rfl⟩:=C.kN (by omega);refine⟨_,rfl,cF (by simp) ⟨λI J F m=>∃(k i:Nat) (R:List Of),J=k/\I=i/\k<=l.length/\m=l.length-k/\i<=k/\R.length=l.length/\R.take i=(l.take k).filter IP/\R.drop k=l.drop k/\St w0 F (star (dB (some ⟨g,0,none⟩) c R) B),⟨l.length-(A+1),A+1,A,l,fQ ⟨by omega,by omega⟩,rfl,by omega,rfl,by omega,rfl,?_,rfl,C⟩,?_⟩⟩
 .rw[bJ f,jd,r];simp[IP,z]
 rintro F m I J ⟨k,i,R,rfl,rfl,W,X,O,d,b,hd,o⟩-
 by_cases u:(k:Int)<(l.length:Int)
 .have h:l[k]?=some (l[k]'(by omega)):=gE (by omega);generalize l[k]'(by omega)=x at h;have y:R[k]?=some x:=by
   have:(R.drop k)[0]?=(l.drop k)[0]?:=by rw[hd]
   rw[cA,cA] at this;rw[show k+0=k from rfl] at this;rw[this,h]
  obtain⟨q,Q,p⟩:=(St.rd Of.len o).at y
  cases Q
  refine cT (dT u) ⟨λK M=>∃(i:Nat) (R:List Of),K=i/\i<=k+1/\R.length=l.length/\R.take i=(l.take (k+1)).filter IP/\R.drop (k+1)=l.drop (k+1)/\St w0 M (star (dB (some ⟨g,0,none⟩) c R) B),?_,?_⟩
  .rintro M K ⟨i,R,rfl,t,d,b,hd,e⟩-;exact⟨l.length-(k+1),by omega,k+1,i,R,fQ ⟨by omega,by omega⟩,rfl,by omega,rfl,t,d,b,hd,e⟩
  have D:St w0 F (Sep [dB (some ⟨g,0,none⟩) c R,B]):=o.yW;refine⟨by omega,by omega,_,x.want,_,p,D.aY vX.cells.toArray λY w4 T=>T.aR 0 rfl x.cells rfl x.one λV L=>⟨_,x.want,_,L.cellsIn 0 rfl,iJ (by kernel_rfl) (L.qu (X0 V x) λw6 E=>?_)⟩⟩;have e:R.drop (k+1)=l.drop (k+1):=by
   have:=congrArg (List.drop 1) hd
   rwa [List.drop_drop,List.drop_drop] at this
  refine⟨_,rfl,?_⟩
  by_cases j:x.v=0
  .refine cF (by rw[dT j];rfl) ⟨i,R,rfl,by omega,d,?_,e,(E.aM [1,2]).pair⟩;rw[bJ h,jd,b];simp[IP,j]
  refine cT (by rw[dF j];rfl) ⟨_,x.want,_,E.cellsIn 0 rfl,by omega,by omega,(E.aM [1,2]).pair.wh Of.len x.one (i:=i) (by omega) λw7 U=>⟨i+1,R.set i x,fQ ⟨by omega,by omega⟩,by omega,by rw[bf];exact d,?_,?_,U⟩⟩
  .rw[bJ (cN (by omega)),nF (by omega),b,bJ h,jd];simp[IP,j]
  rw[nA (by omega)];exact e
 obtain rfl:k=l.length:=by omega
 rw[aH] at b;have t:i=(l.filter IP).length:=by rw[<-b,aW];omega
 have h:=(St.nj o).1;rw[<-d];refine cF (dF (by omega)) ⟨by omega,by omega,RU vO Of.len vX.one o (n:=i) (by omega) λj e=>⟨by omega,by omega,?_,?_⟩⟩
 .rw[abr,t];rfl
 rw[b] at e;exact e
def zK:List Of->Ch->List Of
 |[],c=>[⟨0,c.want,cost c.p c.want⟩]
 |x::l,c=>if x.want=c.want then {x with v:=if cost c.p c.want>x.v then cost c.p c.want else x.v}::l else x::zK l c
def Cq(l:List Ch):List Of:=Q8 ((l.foldl zK []).filter IP)
theorem Jh{c:Ch}:∀{l:List Of},(∀x∈l,x.want≠c.want)->zK l c=l++[⟨0,c.want,cost c.p c.want⟩]
 |[],_=>rfl
 |x::l,h=>by rw[zK,af (h x (by simp)),Jh λy a=>h y (by simp[a])];rfl
theorem RO{c:Ch}{x:Of}:∀{l:List Of} {i:Nat},(∀y∈l.take i,y.want≠c.want)->l[i]?=some x->x.want=c.want->zK l c=l.set i {x with v:=if cost c.p c.want>x.v then cost c.p c.want else x.v}
 |[],_,_,h,_=>by simp at h
 |y::l,0,_,h,e=>by
  obtain rfl:y=x:=by simpa using h
  rw[zK,ag e];rfl
 |y::l,i+1,a,h,e=>by
  rw[zK,af (a y (by simp)),RO (l:=l) (i:=i) (λz b=>a z (by simp[b])) (by simpa using h) e];rfl
theorem Ns(c:Ch):∀l:List Of,(zK l c).length<=l.length+1
 |[]=>aD _
 |x::l=>by
  rw[zK]
  split
  .simp
  have:=Ns c l;simp only[bN];omega
theorem FN(c:Ch):∀l:List Of,(zK l c).map Of.want=if c.want∈l.map Of.want then l.map Of.want else l.map Of.want++[c.want]
 |[]=>rfl
 |x::l=>by
  rw[zK]
  by_cases h:x.want=c.want
  .have a:c.want∈(x::l).map Of.want:=by rw[cD,h];exact dw ..
   rw[ag h,ag a];rfl
  rw[af h,cD,FN c l]
  by_cases g:c.want∈l.map Of.want
  .rw[ag g,ag (by rw[cD];exact cR _ g)];rfl
  rw[af g,af (λk=>by
   rw[cD] at k;rcases aP.1 k with k|k
   .exact h k.symm
   exact g k)];rfl
theorem G0:∀{l:List Ch} {o:List Of},(o.map Of.want).Nodup->((l.foldl zK o).map Of.want).Nodup
 |[],_,h=>h
 |c::l,o,h=>G0 (l:=l) (by
  rw[FN]
  split
  .exact h
  rename_i g;rw[dL];exact⟨h,by simp,λa d b e=>by rw[aI.1 e];rintro rfl;exact g d⟩)
theorem GZ:∀(l:List Ch) (o:List Of),(l.foldl zK o).length<=o.length+l.length
 |[],_=>aD _
 |c::l,o=>by
  have a:=GZ l (zK o c);have b:=Ns c o;rw[bD,bN];omega
def Gb{l:List Of}(h:(l.map Of.want).Nodup)(p:Of->Bool):((l.filter p).map Of.want).Nodup:=(List.filter_sublist.map Of.want).nodup h
def Nr(l:List Ch):(Cq l).length<=l.length:=by
 have:=GZ l [];have a:=mD IP (l.foldl zK []);rw[Cq,Hz];simp only[aT,az] at this;omega
def Jo{w:ah}{a:OA}{c:Nat}{l:List Ch}(X:zO w a l)(hl:l.length<=900)(W:∀c∈l,c.Ok):
  CP 49 #[.slice a l.length c] w (λr b=>∃G I,r=.slice G (Cq l).length I/\St w b (star (dB G I (Cq l)) emp)):=by
 refine(p6 (p6 qH.2)).2.1 (bF (OC X (by omega) W) λw1 d1=>⟨_,rfl,cF rfl ⟨λH Y D n w2 m=>∃k:Nat,n=k/\k<=l.length/\m=l.length-k/\Y=((l.take k).foldl zK []).length/\St w w2 (star (dB H D ((l.take k).foldl zK [])) emp),⟨l.length,0,rfl,by omega,by omega,rfl,St.gB (St.start' d1)⟩,?_⟩⟩);rintro w2 m H Y D n ⟨k,rfl,hk,hm,rfl,A⟩-;have e:((l.take k).foldl zK []).length<=k:=by
  have:=GZ (l.take k) [];rw[aW] at this;simp only[aT] at this;omega
 by_cases u:(k:Int)<(l.length:Int)
 .have F:l[k]?=some (l[k]'(by omega)):=gE (by omega);generalize l[k]'(by omega)=y at F;obtain⟨p,hp,K⟩:=(X.aK A.aK).at F;have oy:=W y (ak F);have J:=mM (f:=zK) (a:=[]) F;generalize(l.take k).foldl zK []=o at A e J;refine cT (dT u) ⟨λT Z U S=>Z=(zK o y).length/\St w S (star (dB T U (zK o y)) emp),?_,av hp ⟨by omega,by omega,y.p,y.want,K,A.yW.aY tI.cells.toArray λr1 w4 P=>P.aR 0 rfl y.cells rfl y.one λw5 Q=>⟨y.p,yE Q 0 rfl,y.want,iL Q 0 rfl,bg (rB w5 oy.p oy.w) ?_⟩⟩⟩
  .rintro S T Z U ⟨rfl,O⟩-;exact⟨l.length-(k+1),by omega,k+1,fQ ⟨by omega,by omega⟩,by omega,rfl,by rw[J],by rw[J];exact O⟩
  rintro v w6 ⟨rfl,c6⟩;have s6:=Q.quiet c6;refine⟨_,rfl,λn C m=>∃i:Nat,n=i/\i<=o.length/\m=o.length-i/\(∀x∈o.take i,x.want≠y.want)/\St w C (Sep [ay r1 y.cells.toArray 158,dB H D o,emp]),⟨o.length,0,rfl,by omega,by omega,by simp,s6⟩,?_⟩;rintro C m2 n2 ⟨i,rfl,hi,hm2,d,R⟩-
  by_cases t:(i:Int)<(o.length:Int)
  .have b:o[i]?=some (o[i]'(by omega)):=gE (by omega);generalize o[i]'(by omega)=x at b;have B:=R.quiet (aZ.drew C []);obtain⟨q,L,s⟩:=(St.rd Of.len (B.out 1 rfl)).at b;have N:aU C.drew (Addr.add (Addr.add q (((i:Nat):Int).toNat*8)) 1) 0 x.want.vs:=fm _ 0 λj v V=>by
    have g:j<6:=(ai.1 V).1;have:=bX s (1+j) v (by
     match j,g with
     |0,_|1,_|2,_|3,_|4,_|5,_=>exact V)
    rw[aq,Addr.add_add,Addr.add_add];rw[Addr.add_add] at this;simpa[kC] using this
   have M:C.drew.cell? (Addr.add (Addr.add q (((i:Nat):Int).toNat*8)) 7)=some (iv x.v):=by
    have:=bX s 7 _ rfl;rw[aq];simpa using this
   refine cT (dT t) (av L ⟨by omega,by omega,x.want,N,y.want,iL B 0 rfl,?_⟩);rw[I6.beq_eq]
   by_cases E:x.want=y.want
   .obtain⟨g,z⟩:=(B.out 1 rfl).kN (by omega:0<o.length);have h:q=⟨g,0,none⟩:=by rw[z] at L;exact(dP L).symm
    subst z h;refine cT (dT E) (av rfl ⟨by omega,by omega,x.v,M,av rfl ⟨by omega,by omega,?_⟩⟩);rw[aq,wq,gW];refine St.OE (x':={x with v:=if cost y.p y.want>x.v then cost y.p y.want else x.v}) (j:=7) Of.len b (by decide) rfl rfl (B.out 1 rfl) λw8 s9=>?_;have r:St w w8 (Sep [ay r1 y.cells.toArray 158,dB (some ⟨g,0,none⟩) D (o.set i {x with v:=if cost y.p y.want>x.v then cost y.p y.want else x.v}),emp]):=by
     exact St.back (i:=1) s9 (by show 1<3;decide)
    rw[RO d b E];exact⟨by rw[bf],(r.aM [1,2]).pair⟩
   refine cF (dF E) ⟨o.length-(i+1),by omega,i+1,fQ ⟨by omega,by omega⟩,by omega,rfl,λz g=>?_,B⟩;rw[bJ b] at g;rcases aB.1 g with h|h
   .exact d z h
   rw[aI.1 h];exact E
  obtain rfl:o.length=i:=by omega
  rw[aH] at d;refine cF (dF t) ⟨y.want,iL R 0 rfl,iT vO Of.len (x:=⟨0,y.want,cost y.p y.want⟩) (Of.one _) ((R.aM [1,2]).pair) (by omega) (by omega) (λG I b r=>?_) rfl⟩;rw[Jh d];exact⟨rfl,r⟩
 obtain rfl:l.length=k:=by omega
 rw[aH] at A⊢;have b:(((l.foldl zK []).filter IP).map Of.want).Nodup:=Gb (G0 (by simp)) IP;refine cF (dF u) (bF (YS A (by rw[aH] at e;omega)) λS O=>?_);have d:=mD IP (l.foldl zK []);rw[aH] at e;refine⟨_,_,_,rfl,bF (OB O (by omega) b (by exact enters_of func107 (by kernel_rfl) rfl) abt) λw4 P=>⟨rfl,_,_,?_,P⟩⟩;rw[Cq,Hz]
end Go.Proofs.YtmhhlijfepaphaaGreatDoor
namespace Go.Vc
open Go
section
variable {P:Program} {t kt et:TypeId} {w0 w:World} {B:bP} {r:Nat} {l:List KV}
def PC(a:XT P t kt et)(s:St w0 w (star (mapA r l) B))(u:I6){R:Int->Bool->World->Prop}(h:R ((jW l u).getD 0) (jW l u).isSome w):
  kg P (Instr.lookup t (.map (some r)) (uy u) true) w λe c=>∃(n:Int) (b:Bool),e=.tuple #[iv n,.bool b]/\R n b c:=by
 obtain⟨⟨⟨g,cl⟩,d⟩,m⟩:=s.ex;have f:=m.obj;have k:(zeroValue et).run P w=.ok (iv 0) w:=by
  have:=a.z
  cases hi:P.info? et with
  |none=>simp[hi] at this
  |some i=>simp[hi] at this;simp[zeroValue,typeInfo,hi,this]
 have e:=a.ck g.isEmpty u w;rcases DP a u w d.kv with⟨v,j,b,c,_⟩|⟨b,c⟩
 .refine⟨.tuple #[iv v,.bool true],w,?_,v,true,rfl,by rwa [b] at h⟩;simp[Instr.lookup,cW a.u,f,e,c,getObj,Sem.run]
 refine⟨.tuple #[iv 0,.bool false],w,?_,0,false,rfl,by rwa [b] at h⟩;simp[Instr.lookup,cW a.u,f,e,c,k,getObj,Sem.run]
def WA{ty:TypeId}(c:XT P t kt et)(s:St w0 w (star (mapA r l) B)){R:Int->World->Prop}(h:R (l.length:Nat) w):
  kg P (Builtin.len_ #[t] ty #[.map (some r)]) w λe a=>∃n:Int,e=iv n/\R n a:=by
 obtain⟨⟨⟨b,cl⟩,a⟩,f⟩:=s.ex;have e:=f.obj;have d:b.size=l.length:=by have:=LY a.kv;omega
 refine⟨iv (l.length:Nat),w,?_,_,rfl,h⟩;simp[Builtin.len_,cW c.u,e,getObj,Sem.run,goInt,d]
def WC(s:St w0 w (star (mapA r l) B)):(l.map (·.1)).Nodup:=by
 obtain⟨⟨_,a⟩,_⟩:=s.ex;exact a.ky
def St.aaG(s:St w0 w (star (iZ r (.map #[] 0)) B)):St w0 w (star (mapA r []) B):=
 St.xe (f:=λ(x:{p:Array MapEntry×Nat // GJ p.1.toList p.2 ([]:List KV)})=>iZ r (.map x.1.1 x.1.2)) ⟨(#[],0),⟨rfl,by simp,by simp,by simp⟩⟩ s
end
def jo:List Nat->List (List KV)->bP
 |r::a,l::L=>star (mapA r l) (jo a L)
 |_,_=>emp
theorem J4:∀{rs:List Nat} {L:List (List KV)} {i r:Nat} {l:List KV},rs[i]?=some r->L[i]?=some l->∃X:bP,∀l',fF (jo rs (L.set i l')) (star (mapA r l') X)/\fF (star (mapA r l') X) (jo rs (L.set i l'))
 |[],_,_,_,_,h,_=>by grind
 |_::_,[],_,_,_,_,h=>by grind
 |a::rs,c::L,0,r,l,h,k=>by
  obtain rfl:a=r:=by grind
  exact⟨jo rs L,λl'=>⟨fF.refl _,fF.refl _⟩⟩
 |a::rs,c::L,i+1,r,l,h,k=>by
  obtain⟨X,b⟩:=J4 (rs:=rs) (L:=L) (i:=i) (r:=r) (l:=l) (by grind) (by grind);exact⟨star (mapA a c) X,λl'=>⟨(fF.right (b l').1).trans fF.sP,fF.sP.trans (fF.right (b l').2)⟩⟩
theorem D6{r:Nat}{l:List KV}:∀{rs:List Nat} {L:List (List KV)},rs.length=L.length->fF (star (mapA r l) (jo rs L)) (jo (rs++[r]) (L++[l]))
 |[],[],_=>fF.refl _
 |[],_::_,h=>by grind
 |_::_,[],h=>by grind
 |b::rs,a::L,h=>fF.sP.trans (fF.right (D6 (by grind)))
theorem B4{c:Type}[BEq c][LawfulBEq c]:∀{l S:List c},l.Nodup->(∀x∈l,x∈S)->S.length<=l.length->S.Perm l
 |[],S,_,_,h=>by
  grind
 |x::l,S,a,d,h=>by
  rw[gr] at a;have b:=d x (by simp);have g:=lV b;refine(List.perm_cons_erase b).trans (List.Perm.cons x (B4 a.2 (λy f=>(mW (λe=>a.1 (by rw[<-e];exact f))).2 (d y (by simp[f]))) ?_));rw[ja b];simp only[bN] at h;omega
end Go.Vc
namespace Go.Proofs.YtmhhlijfepaphaaGreatDoor
open Go Go.Vc _root_.Go.Proofs.Tryz
def kyM:XT prog 155 50 2:=⟨underlying155,Q9.k,Q9.z,Q9.eq,Q9.ck⟩
def adz:ru prog 152 155 (.map none) 1 8:=ru.mk' underlying152 (by kernel_rfl) rfl (by decide)
abbrev mpV (r:Nat):List Value:=[.map (some r)]
def L8(r:Nat):(mpV r).length=1:=rfl
abbrev oR (a:OA) (c:Nat) (rs:List Nat):bP:=iQ 155 1 mpV a c rs
def bkA(S:Se)(v:Value):Array Value:=#[.slice S.a1 S.ps.length S.c1,.slice S.a2 S.bd.length S.c2,.slice S.a3 S.cp.length S.c3,.slice S.a4 S.sa.length S.c4,v]
def RD{w:ah}{S:Se}(h:S.In w)(i:S.Sz):
  CP 101 #[.agg S.arr] w (λr g=>∃a:Se,a.er=S.er/\r=.agg a.arr/\St w g (held a.In)):=by
 refine tO.1.2.1 ?_;obtain⟨I,J,K,L⟩:=i;refine(St.start w).one.aY S.arr λE G u=>u.aY #[.slice none 0 0,.slice none 0 0,.slice none 0 0,.slice none 0 0] λF z x=>?_;have b:=x.quiet (aZ.drew z []);refine⟨_,_,_,b.aj 1 rfl 0,_,_,_,b.aj 1 rfl 1,_,_,_,b.aj 1 rfl 2,_,_,_,b.aj 1 rfl 3,bg (Bh (h.aK b.aK).ps.fl (by omega)) ?_⟩;rintro v A ⟨a1,c1,rfl,m⟩;have d:St w A (Sep [_,_,_,_]):=b.and m;refine⟨_,_,_,rfl,d.aj 2 rfl 3,d.aj 2 rfl 2,d.aj 2 rfl 1,bg (Be (h.aK d.aK).bd.fl (by omega)) ?_⟩;rintro v B ⟨a2,c2,rfl,n⟩;have e:St w B (Sep [_,_,_,_,_]):=d.and n;refine⟨_,_,_,rfl,e.aj 3 rfl 3,e.aj 3 rfl 2,bg (Bg (h.aK e.aK).cp.fl (by omega)) ?_⟩;rintro v C ⟨a3,c3,rfl,o⟩;have f:St w C (Sep [_,_,_,_,_,_]):=e.and o;refine⟨_,_,_,rfl,f.aj 4 rfl 3,bg (Bc (h.aK f.aK).sa.fl (by omega)) ?_⟩;rintro v D ⟨a4,c4,rfl,p⟩;have y:St w D (Sep [_,_,_,_,_,_,_]):=f.and p;let a:Se:={S with a1:=a1,c1:=c1,a2:=a2,c2:=c2,a3:=a3,c3:=c3,a4:=a4,c4:=c4};refine⟨_,_,_,rfl,y.aR 4 rfl a.arr.toList rfl (by simp[a,Se.arr,Value.oneCell']) λH c=>(Ex8<|Ex4<|⟨c.cellsIn 4 rfl,a,rfl,rfl,?_⟩)⟩;have t:=St.nj (c.out 0 rfl);have s:=St.nj (c.out 1 rfl);have r:=St.nj (c.out 2 rfl);have q:=St.nj (c.out 3 rfl);exact((c.aM [0,1,2,3]).held ((dS T3.len).cons ((dS T3.len).cons ((dS Br.len).cons ((dS Pr.len).cons nY.nil))))).weak (jY λg ⟨l,k,j,i1,_⟩=>⟨kf.of i1 h.ps.in,rQ.of j h.bd.in,Dl.of k,Dl.of l,q.1,r.1,s.1,t.1⟩)
def MG{S a:Se}(h:a.er=S.er):a.ps=S.ps/\a.bd=S.bd/\a.cp=S.cp/\a.sa=S.sa:=
 ⟨(congrArg Se.ps h:a.er.ps=S.er.ps),(congrArg Se.bd h:a.er.bd=S.er.bd),(congrArg Se.cp h:a.er.cp=S.er.cp),(congrArg Se.sa h:a.er.sa=S.er.sa)⟩
def ace{S b:Se}(h:b.er=S.er)(a:S.Ok):b.Ok:=by
 obtain⟨c,d,e,f⟩:=MG h;exact⟨by rw[c];exact a.ps,by rw[d];exact a.bd,by rw[d,e];exact a.cp,by rw[c,f];exact a.sa⟩
def Yy{S a:Se}(h:a.er=S.er)(n:Nat)(y:Br)(u:I6):iO a n y u=iO S n y u:=by
 obtain⟨b,e,c,d⟩:=MG h;unfold iO;rw[b,c,d]
abbrev yD (b:Nat) (S:Se) (a:OA) (c:Nat) (rs:List Nat):bP:=ay b (bkA S (.slice a rs.length c)) 154
def YG{w:ah}{S:Se}(h:S.In w)(q:S.Ok):
  CP 47 #[.agg S.arr] w (λr e=>∃(b:Nat) (f:Se) (a:OA) (c:Nat) (d:List Nat),r=.tuple #[pt b,iv 0]/\f.er=S.er/\d.length=S.bd.length /\
   St w e (Sep [yD b f a c d,oR a c d,jo d (List.replicate d.length []),held f.In,emp])):=by
 refine tO.1.1 ?_;have T:=q.bd.l2;refine(St.start w).one.aY S.arr λG Q s=>(Ex8<|Ex4<|⟨s.cellsIn 0 rfl,bg (xF (h.aK s.aK)) ?_⟩);rintro v R ⟨⟨e,rfl,E⟩,C⟩;obtain rfl:=E.2 q;have t:=s.quiet C;refine⟨_,rfl,cF rfl (Ex8<|Ex4<|⟨t.cellsIn 0 rfl,bg (RD (h.aK t.aK) q.sz) ?_⟩)⟩;rintro v K ⟨f,D,rfl,F⟩;have H:St w K (Sep [held f.In,ay G S.arr 34,emp]):=t.and F;refine Ex8<|Ex4<|⟨rfl,H.aY (bkA f (.slice none 0 0)) λg L u=>⟨_,_,_,u.aj 2 rfl 1,?_⟩⟩;have l:St w L (Sep [oR none 0 [],yD g f none 0 [],jo [] [],held f.In,emp]):=St.gB (u.aM [0,9,1,9]);refine⟨λn A m=>∃(k:Nat) (a:OA) (c:Nat) (d:List Nat),n=k/\k<=S.bd.length/\m=S.bd.length-k/\d.length=k/\St w A (Sep [oR a c d,yD g f a c d,jo d (List.replicate d.length []),held f.In,emp]),⟨S.bd.length,0,none,0,[],rfl,by omega,by omega,rfl,l⟩,?_⟩;clear l u;rintro A m n ⟨k,a,c,d,rfl,O,P,p,l⟩-
 by_cases o:(k:Int)<(S.bd.length:Int)
 .refine cT (dT o) ⟨_,_,_,l.aj 1 rfl 4,uY l λr M _ I=>?_⟩;have J:St w M (Sep [mapA r [],oR a c d,yD g f a c d,jo d (List.replicate d.length []),held f.In,emp]):=St.aaG I;refine iT adz L8 (x:=r) (by simp[Value.oneCell']) (J.out 1 rfl) (by omega) (by omega) (λi j N y=>?_) rfl;have y:St w N (Sep [oR i j (d++[r]),mapA r [],yD g f a c d,jo d (List.replicate d.length []),held f.In,emp]):=y;refine y.cL 2 rfl (by show 4<5;decide) rfl λB z=>⟨S.bd.length-(k+1),by omega,k+1,i,j,d++[r],fQ ⟨by omega,by omega⟩,by omega,rfl,by rw[aA,p];rfl,?_⟩;have z:St w B (Sep [oR i j (d++[r]),mapA r [],yD g f i j (d++[r]),jo d (List.replicate d.length []),held f.In,emp]):=z;have b:=St.weak (St.join (z.aM [1,3,0,2,4,5])) (dU.left (D6 (by rw[bS])).weak);have e:List.replicate d.length ([]:List KV)++[[]]=List.replicate (d++[r]).length []:=by rw[aA,aG,lG]
  rw[e] at b;have b:St w B (Sep [jo (d++[r]) (List.replicate (d++[r]).length []),oR i j (d++[r]),yD g f i j (d++[r]),held f.In,emp]):=b;exact b.aM [1,2,0,3,4]
 obtain rfl:k=S.bd.length:=by omega
 exact cF (dF o) ⟨g,f,a,c,d,rfl,D,p,l.aM [1,0,2,3,4]⟩
def RE{w0 w:ah}{l:List bP}(s:St w0 w (Sep l)){b:Nat}{S:Se}{a:OA}{c:Nat}{rs:List Nat}(i:Nat)(e:l[i]?=some (yD b S a c rs)){k:Nat}(f:k<rs.length):
  CP 112 #[pt b,iv k] w (λr d=>r=.bool true/\d=w):=by
 exact tO.1.2.2.1 (cT (dT (by omega)) ⟨_,_,_,s.aj i e 4,by rw[dT (by omega)],rfl⟩)
def tC{b:Type}{L:List b}{i:Nat}{l:b}(a:L[i]?=some l):L.set i l=L:=by
 refine aX λj=>?_;rw[bW]
 split
 .rename_i e;subst e;rw[ag (ai.1 a).1,a]
 rfl
def J5{w0 w:ah}{B:bP}{rs:List Nat}{L:List (List KV)}{i r:Nat}{l:List KV}(e:rs[i]?=some r)(c:L[i]?=some l)(s:St w0 w (star (jo rs L) B)):
  ∃X,St w0 w (star (mapA r l) (star X B))/\∀b l' a,St w0 b (star (mapA r l') (star X a))->St w0 b (star (jo rs (L.set i l')) a):=by
 obtain⟨X,d⟩:=J4 e c;refine⟨X,?_,λb l' a f=>?_⟩
 .have h:=(d l).1;rw[tC c] at h;exact(s.weak (dU.left h.weak)).assoc
 exact(f.eqv fF.assoc').weak (dU.left (d l').2.weak)
def pG(S:Se)(n:Nat)(y:Br)(l:List KV)(u:I6)(v:Int):List KV:=
 if (v<1\/v>1000000)\/iO S n y u≠0\/u=z6\/(y.bud≠0/\y.bud<v)\/((jW l u).isSome=false/\40<=l.length) then l
 else rW l u (if v>(jW l u).getD 0 then v else (jW l u).getD 0)
def Up(l:List KV)(u:I6)(v:Int):(rW l u v).length=if (jW l u).isSome=true then l.length else l.length+1:=by
 unfold rW
 split
 .rw[bu]
 rw[aA];rfl
def TP{S:Se}{n:Nat}{y:Br}{l:List KV}{u:I6}{v:Int}(h:l.length<=40):(pG S n y l u v).length<=40:=by
 unfold pG
 split
 .exact h
 rename_i g;rw[Up]
 split
 .exact h
 rename_i g2
 by_cases a:40<=l.length
 .exact absurd (.inr (.inr (.inr (.inr ⟨by simpa using g2,a⟩)))) g
 omega
def YJ{w0 w:ah}{B:bP}{b:Nat}{S:Se}{a:OA}{c:Nat}{rs:List Nat}{L:List (List KV)}(s:St w0 w (Sep [yD b S a c rs,oR a c rs,jo rs L,held S.In,B]))(Y:S.Ok){i r:Nat}{l:List KV}{y:Br}(N:rs[i]?=some r)(W:L[i]?=some l)(O:S.bd[i]?=some y)(u:I6)(v:Int):
  CP 52 #[pt b,iv i,.agg u.vs.toArray,iv v] w (λr m=>∃k:Int,r=iv k/\St w0 m (Sep [yD b S a c rs,oR a c rs,jo rs (L.set i (pG S i y l u v)),held S.In,B])):=by
 refine tO.1.2.2.2.1 ?_;have hi:=(ai.1 N).1;have hn:=(ai.1 O).1;have z2:=Y.bd.l2;have d:∀{E:Nat} {m:ah} {k:Int},(v<1\/v>1000000)\/iO S i y u≠0\/u=z6\/(y.bud≠0/\y.bud<v)\/((jW l u).isSome=false/\40<=l.length) ->
   St w0 m (Sep [ay E u.vs.toArray 50,yD b S a c rs,oR a c rs,jo rs L,held S.In,B]) ->
   ∃e:Int,iv k=iv e/\St w0 m (Sep [yD b S a c rs,oR a c rs,jo rs (L.set i (pG S i y l u v)),held S.In,B]):=λg s=>by
  rw[pG,ag g,tC W];exact⟨_,rfl,s.aM [1,2,3,4,5]⟩
 refine s.aY u.vs.toArray λE w1 P=>bg (RE P 1 rfl hi) ?_;rintro _ w2 ⟨rfl,rfl⟩;refine⟨_,rfl,cF rfl ⟨λx V=>x=decide (v<1\/v>1000000)/\V=w2,?_,?_⟩⟩
 rotate_left
 .by_cases e:v<1
  .exact cT (dT e) ⟨by rw[dT (Or.inl e)],rfl⟩
  refine cF (dF e) ⟨?_,rfl⟩
  by_cases g:v>1000000
  .rw[dT g,dT (Or.inr g)]
  rw[dF g,dF (by omega)]
 rintro V x ⟨rfl,rfl⟩-
 by_cases D:v<1\/v>1000000
 .exact cT (dT D) (d (.inl D) P)
 have F:=P.quiet (aZ.drew V []);have hI:=F.eu 4 rfl;refine cF (dF D) (Ex8<|Ex4<|⟨(F.bA 1 0 rfl rfl:aU _ _ 0 S.arr.toList),u,F.cellsIn 0 rfl,F.qu (xT hI Y O u) λn Z=>⟨_,rfl,?_⟩⟩)
 by_cases z:iO S i y u=0
 rotate_left
 .exact cT (by simpa using z) (d (.inr (.inl z)) Z)
 have f:=Z.quiet (aZ.drew n []);have j:∀{m:ah},St w0 m (Sep [ay E u.vs.toArray 50,yD b S a c rs,oR a c rs,jo rs L,held S.In,B])->∃q,a=some q/\m.cell? (Addr.add q (((i:Nat):Int).toNat*1))=some (.map (some r)):=λs=>by
  obtain⟨q,J,h⟩:=(St.rd L8 (s.out 2 rfl)).at N;have:=bX h 0 _ rfl;refine⟨q,J,?_⟩;rw[aq];rw[Addr.add_add] at this;simpa using this
 obtain⟨q,J,H⟩:=j f;refine cF (by simpa using z) ⟨_,_,_,f.aj 1 rfl 4,av J ⟨by omega,by omega,_,H,u,f.cellsIn 0 rfl,?_⟩⟩;obtain⟨X,T,o⟩:=J5 N W (f.out 3 rfl);refine PC kyM T u ?_;have G:=f.eu 4 rfl;obtain⟨_,q2,K,I⟩:=G.bd i y O;have p:n.drew.cell? (Addr.add (Addr.add q2 (((i:Nat):Int).toNat*4)) 2)=some (iv y.bud):=by
  have:=bX I 2 _ rfl
  rwa [az] at this
 refine⟨_,_,_,f.aj 1 rfl 1,av K ⟨by omega,by omega,_,p,u,f.cellsIn 0 rfl,?_⟩⟩;rw[I6.beq_eq]
 by_cases C:u=z6
 .exact cT (dT C) (d (.inr (.inr (.inl C))) f)
 refine cF (dF C) ⟨λx w6=>x=decide (y.bud≠0/\y.bud<v)/\w6=n.drew,?_,?_⟩
 rotate_left
 .by_cases e:y.bud=0
  .exact cF (by simpa using e) ⟨by rw[dF λh=>h.1 e],rfl⟩
  refine cT (by simpa using e) ⟨?_,rfl⟩
  by_cases g:y.bud<v
  .rw[dT g,dT ⟨e,g⟩]
  rw[dF g,dF λh=>g h.2]
 rintro w6 x ⟨rfl,rfl⟩-
 by_cases A:y.bud≠0/\y.bud<v
 .exact cT (dT A) (d (.inr (.inr (.inr (.inl A)))) f)
 refine cF (dF A) ⟨λx w7=>x=decide ((jW l u).isSome=false/\40<=l.length)/\w7=n.drew,?_,?_⟩
 rotate_left
 .by_cases e:(jW l u).isSome=true
  .exact cF (by rw[e];rfl) ⟨by rw[dF (by rw[e];rintro⟨h,_⟩;cases h)],rfl⟩
  obtain⟨Q,M,t⟩:=j f;refine cT (by simpa using e) ⟨_,_,_,f.aj 1 rfl 4,av M ⟨by omega,by omega,_,t,WA kyM T ⟨?_,rfl⟩⟩⟩;have e:(jW l u).isSome=false:=by simpa using e
  by_cases g:40<=l.length
  .rw[dT (by omega),dT ⟨e,g⟩]
  rw[dF (by omega),dF λh=>g h.2]
 rintro w7 x ⟨rfl,rfl⟩-
 by_cases t:(jW l u).isSome=false/\40<=l.length
 .exact cT (dT t) (d (.inr (.inr (.inr (.inr t)))) f)
 have R:=f.quiet (aZ.drew n.drew []);obtain⟨q5,M,g⟩:=j R;refine cF (dF t) ⟨_,_,_,R.aj 1 rfl 4,av M ⟨by omega,by omega,_,g,u,R.cellsIn 0 rfl,?_⟩⟩;have U:=T.quiet (aZ.drew n.drew []);refine Od kyM U u _ λw9 s9=>⟨0,rfl,?_⟩;have Q:=o _ _ _ s9;have e:pG S i y l u v=rW l u (if v>(jW l u).getD 0 then v else (jW l u).getD 0):=by
  rw[pG,af];rintro(h|h|h|h|h)
  .exact D h
  .exact h z
  .exact C h
  .exact A h
  exact t h
 rw[e];have h:St w0 w9 (Sep [jo rs (L.set i (rW l u (if v>(jW l u).getD 0 then v else (jW l u).getD 0))),ay E u.vs.toArray 50,yD b S a c rs,oR a c rs,held S.In,B]):=Q;exact h.aM [2,3,0,4,5]
def Kh(i:Nat)(p:KV):Of:=⟨i,p.1,p.2⟩
def qE(i:Nat)(l:List KV):List Of:=Q8 (l.map (Kh i))
def zT(i:Nat)(l:List KV):(qE i l).length=l.length:=by rw[qE,Hz,bu]
def Pw{l m:List Of}(a:(l.map Of.want).Nodup)(b:m.Perm l):Q8 m=Q8 l:=
 Dd (Bq ((b.map Of.want).nodup_iff.2 a)) (Bq a) ((nL m).trans (b.trans (nL l).symm))
def O7{w0 w:ah}{B:bP}{b:Nat}{S:Se}{a:OA}{c:Nat}{rs:List Nat}{L:List (List KV)}(s:St w0 w (Sep [yD b S a c rs,oR a c rs,jo rs L,B])){i r:Nat}{l:List KV}(E:rs[i]?=some r)(I:L[i]?=some l)(hl:l.length<=40):
  CP 114 #[pt b,iv i] w (λx d=>∃v z,x=.slice v (qE i l).length z/\St w0 d (Sep [dB v z (qE i l),yD b S a c rs,oR a c rs,jo rs L,B])):=by
 refine tO.1.2.2.2.2.2.1 ?_;have V:=(ai.1 E).1;refine bg (RE s 0 rfl V) ?_;rintro _ Z ⟨rfl,rfl⟩;obtain⟨q,Y,n⟩:=(St.rd L8 (s.out 1 rfl)).at E;have C:Z.cell? (Addr.add q (((i:Nat):Int).toNat*1))=some (.map (some r)):=by
  have:=bX n 0 _ rfl;rw[aq];rw[Addr.add_add] at this;simpa using this
 refine⟨_,rfl,cF rfl ⟨_,_,_,s.aj 0 rfl 4,av Y ⟨by omega,by omega,_,C,?_⟩⟩⟩;obtain⟨X,Q,j⟩:=J5 E I (s.out 2 rfl);have f:=WC Q;refine sW kyM Q λit w2 F=>?_;have F:St w0 w2 (Sep [Fm r it l [],X,yD b S a c rs,oR a c rs,B]):=F;refine⟨λg M k R m=>∃T:List KV,M=(T.map (Kh i)).length/\T.length<=l.length/\m=l.length-T.length/\(∀p∈T,p∈l)/\St w0 R (Sep [dB g k (T.map (Kh i)),Fm r it l T,X,yD b S a c rs,oR a c rs,B]),⟨l.length,[],rfl,by simp,rfl,by simp,St.gB F⟩,?_⟩;rintro R m g M k ⟨T,rfl,U,hm,u,N⟩-;have A:(T.map (Kh i)).length=T.length:=bu _;refine uZ (N.sP) (λo=>?_) (λp W J w4 G=>?_)
 .have t:l.Nodup:=by
   unfold List.Nodup at f⊢;rw[iw] at f;exact f.imp λh e=>h (by rw[e])
  have d:T.Perm l:=B4 t o U;have K:∀m:List KV,(m.map (Kh i)).map Of.want=m.map (·.1):=λm=>by rw[cE];rfl
  have D:((l.map (Kh i)).map Of.want).Nodup:=by rw[K];exact f
  have y:((T.map (Kh i)).map Of.want).Nodup:=by rw[K];exact(d.map _).nodup_iff.2 f
  refine bF (OB N (by omega) y (by exact enters_of func175 (by kernel_rfl) rfl) abl) λw5 O=>?_;have e:Q8 (T.map (Kh i))=qE i l:=Pw D (d.map _);rw[e] at O;refine⟨rfl,g,k,?_,?_⟩
  .rw[zT,A,d.length_eq]
  have P:=j _ l _ ((St.Bs O.sP).eqv (fF.right fF.sP));rw[tC I] at P;have H:St w0 w5 (Sep [jo rs L,dB g k (qE i l),yD b S a c rs,oR a c rs,B]):=P;exact H.aM [1,2,3,0,4]
 have G:St w0 w4 (Sep [Fm r it l (T++[p]),dB g k (T.map (Kh i)),X,yD b S a c rs,oR a c rs,B]):=G;refine G.aY z6.vs.toArray λK P H=>H.aR 0 rfl p.1.vs rfl (I6.one _) λw8 t=>⟨p.1,t.cellsIn 0 rfl,iT vO Of.len (x:=Kh i p) (Of.one _) (t.out 2 rfl) (by omega) (by omega) (λv z O d=>?_) rfl⟩;have d:St w0 O (Sep [dB v z (T.map (Kh i)++[Kh i p]),ay K p.1.vs.toArray 50,Fm r it l (T++[p]),X,yD b S a c rs,oR a c rs,B]):=d;have e:T.map (Kh i)++[Kh i p]=(T++[p]).map (Kh i):=by rw[aS];rfl
 rw[e] at d⊢;refine⟨l.length-(T.length+1),by omega,T++[p],rfl,by rw[aA,aG];omega,by rw[aA];rfl,λy D=>?_,d.aM [0,2,3,4,5,6]⟩;rcases aB.1 D with h|h
 .exact u y h
 rw[aI.1 h];exact W
def oz(L:List (List KV)):Nat->List Of
 |0=>[]
 |k+1=>oz L k++qE k (L.getD k [])
def O0(L:List (List KV)):List Of:=oz L L.length
theorem zR{L:List (List KV)}(h:∀l∈L,l.length<=40):∀k,(oz L k).length<=k*40
 |0=>aD _
 |k+1=>by
  have:=zR h k;rw[oz,aA,zT];have a:(L.getD k []).length<=40:=by
   rw[au]
   cases hx:L[k]? with
   |none=>show 0<=40;decide
   |some l=>exact h l (ak hx)
  omega
def YC{w0 w:ah}{B:bP}{b:Nat}{S:Se}{a:OA}{c:Nat}{rs:List Nat}{L:List (List KV)}(s:St w0 w (Sep [yD b S a c rs,oR a c rs,jo rs L,B]))(j:rs.length=L.length)(H:rs.length<=8)(f:∀l∈L,l.length<=40):
  CP 53 #[pt b] w (λx g=>∃d e,x=.slice d (O0 L).length e/\St w0 g (Sep [dB d e (O0 L),yD b S a c rs,oR a c rs,jo rs L,B])):=by
 refine tO.1.2.2.2.2.1 ⟨_,_,_,s.aj 0 rfl 4,⟨λh u i n x m=>∃k:Nat,n=k/\k<=rs.length/\m=rs.length-k/\u=(oz L k).length/\St w0 x (Sep [dB h i (oz L k),yD b S a c rs,oR a c rs,jo rs L,B]),⟨rs.length,0,rfl,by omega,by omega,rfl,St.gB s⟩,?_⟩⟩;rintro x m h u i n ⟨k,rfl,I,J,rfl,o⟩-;have D:=zR f k
 by_cases g:(k:Int)<(rs.length:Int)
 .have t:rs[k]?=some (rs[k]'(by omega)):=gE (by omega);have q:L[k]?=some (L.getD k []):=getD_at (by omega);have C:=f _ (ak q);generalize rs[k]'(by omega)=r at t;have E:=((o.aM [1,2,3,0,4]).split [_,_,_]).open;refine cT (dT g) (bg (O7 E t q C) ?_);rintro _ K ⟨d,e,rfl,F⟩;have v:=St.cat (l:=[dB d e (qE k (L.getD k [])),yD b S a c rs,oR a c rs,jo rs L]) (St.shut (l:=[dB d e (qE k (L.getD k [])),yD b S a c rs,oR a c rs,jo rs L]) F);have A:=zT k (L.getD k []);refine⟨_,_,_,rfl,dW vO Of.len Of.one (v.out 4 rfl) (St.rd Of.len (v.out 0 rfl)) (by omega) (by omega) λy z G p=>?_⟩;have p:St w0 G (Sep [dB y z (oz L (k+1)),dB d e (qE k (L.getD k [])),yD b S a c rs,oR a c rs,jo rs L,B]):=p;exact⟨rs.length-(k+1),by omega,k+1,fQ ⟨by omega,by omega⟩,by omega,rfl,rfl,p.aM [0,2,3,4,5]⟩
 obtain rfl:k=rs.length:=by omega
 have e:oz L rs.length=O0 L:=by rw[j];rfl
 rw[e] at o⊢;exact cF (dF g) ⟨h,i,rfl,o⟩
def mK(S:Sx)(C:Ck)(i:Nat):List Of:=
 Cq (p9 C i)++(if (S.bd.getD i gR).has=true then (if qQ (S.bd.getD i gR).x (dD S.s.ps)=0 then qf (S.bd.getD i gR).x (dD S.s.ps) else []) else [])
def oD(S:Sx)(i:Nat)(l:List KV)(o:Of):List KV:=pG S.s i (S.s.bd.getD i zN) l o.want o.v
def BU(S:Sx)(C:Ck)(i:Nat):List KV:=if (S.bd.getD i gR).out=true then [] else (mK S C i).foldl (oD S i) []
def A4(S:Sx)(C:Ck)(k:Nat):List (List KV):=(List.range S.s.bd.length).map λi=>if i<k then BU S C i else []
def dN(S:Sx)(C:Ck):List Of:=if S.ph=0 then [] else O0 (A4 S C S.s.bd.length)
theorem Ej{S:Sx}{i:Nat}:∀{m:List Of} {l:List KV},l.length<=40->(m.foldl (oD S i) l).length<=40
 |[],_,h=>h
 |o::m,l,h=>Ej (m:=m) (l:=oD S i l o) (TP h)
def Nj(S:Sx)(C:Ck)(i:Nat):(BU S C i).length<=40:=by
 unfold BU
 split
 .decide
 exact Ej (by show 0<=40;decide)
def qV(S:Sx)(C:Ck)(k:Nat):(A4 S C k).length=S.s.bd.length:=by simp[A4]
def GU{S:Sx}{C:Ck}{k:Nat}:∀l∈A4 S C k,l.length<=40:=λl a=>by
 obtain⟨i,_,rfl⟩:=aN.1 a
 split
 .exact Nj S C i
 decide
def wL{S:Sx}{C:Ck}{k i:Nat}(h:i<S.s.bd.length):(A4 S C k)[i]?=some (if i<k then BU S C i else []):=by
 simp[A4,h]
def Ja{S:Sx}{C:Ck}{k:Nat}(h:k<S.s.bd.length):(A4 S C k).set k (BU S C k)=A4 S C (k+1):=by
 refine aX λj=>?_;rw[bW]
 by_cases e:k=j
 .subst e;rw[ag rfl,ag (by rw[qV];exact h),wL h,ag (by omega)]
 rw[af e]
 by_cases b:j<S.s.bd.length
 .rw[wL b,wL b]
  by_cases a:j<k
  .rw[ag a,ag (by omega)]
  rw[af a,af (by omega)]
 rw[aJ (by rw[qV];omega),aJ (by rw[qV];omega)]
def RH(S:Sx)(C:Ck):A4 S C 0=List.replicate S.s.bd.length []:=by
 refine aX λj=>?_
 by_cases a:j<S.s.bd.length
 .rw[wL a,af (by omega),cM,ag a]
 rw[aJ (by rw[qV];omega),aJ (by rw[bS];omega)]
def acq{S:Sx}(h:S.bd.length=8){i:Nat}(hi:i<8){y:Bd}(b:S.bd[i]?=some y)(j:Nat){v:Value}(a:y.x.cells[j]?=some v):S.cells[10+i*11+j]?=some v:=by
 have e:j<9:=by have:=(ai.1 a).1;rwa [Xv.len] at this
 obtain⟨o,u,s,k,t,dec,c,d⟩:=S;obtain⟨f,g,l,m,n,p,q,r,rfl⟩:=iU h
 match i,hi,j,e with
 |0,_,0,_|0,_,1,_|0,_,2,_|0,_,3,_|0,_,4,_|0,_,5,_|0,_,6,_|0,_,7,_|0,_,8,_=>cases b;exact a
 |1,_,0,_|1,_,1,_|1,_,2,_|1,_,3,_|1,_,4,_|1,_,5,_|1,_,6,_|1,_,7,_|1,_,8,_=>cases b;exact a
 |2,_,0,_|2,_,1,_|2,_,2,_|2,_,3,_|2,_,4,_|2,_,5,_|2,_,6,_|2,_,7,_|2,_,8,_=>cases b;exact a
 |3,_,0,_|3,_,1,_|3,_,2,_|3,_,3,_|3,_,4,_|3,_,5,_|3,_,6,_|3,_,7,_|3,_,8,_=>cases b;exact a
 |4,_,0,_|4,_,1,_|4,_,2,_|4,_,3,_|4,_,4,_|4,_,5,_|4,_,6,_|4,_,7,_|4,_,8,_=>cases b;exact a
 |5,_,0,_|5,_,1,_|5,_,2,_|5,_,3,_|5,_,4,_|5,_,5,_|5,_,6,_|5,_,7,_|5,_,8,_=>cases b;exact a
 |6,_,0,_|6,_,1,_|6,_,2,_|6,_,3,_|6,_,4,_|6,_,5,_|6,_,6,_|6,_,7,_|6,_,8,_=>cases b;exact a
 |7,_,0,_|7,_,1,_|7,_,2,_|7,_,3,_|7,_,4,_|7,_,5,_|7,_,6,_|7,_,7,_|7,_,8,_=>cases b;exact a
def zB{w:ah}{b:Nat}{S:Sx}{C:Ck}(hb:aU w ⟨b,0,none⟩ 0 S.cells)(hS:BR S C w)(D:tJ S C)(hk:Fc S):
  CP 17 #[pt b] w (λr H=>∃a c,r=.slice a (dN S C).length c/\St w H (star (dB a c (dN S C)) emp)):=by
 refine(p6 tO.1).2.1 ?_;have Y:=D.b8;have O:∀{H},aZ w H []->∀(j:Nat) (v:Value),S.cells[j]?=some v->H.cell? ⟨b,j,none⟩=some v:=λhc j v hv=>yl hb hc j hv;refine⟨λx t=>x=decide (S.ph=0)/\t=w,?_,_,O (aZ.refl _ _) 4 _ rfl,rfl,rfl⟩;rintro t x ⟨rfl,rfl⟩-
 by_cases B:S.ph=0
 .refine cT (dT B) ⟨none,0,?_,?_⟩
  .rw[dN,ag B];rfl
  rw[dN,ag B];exact St.gB (St.start t)
 have P:=D.so B;have hI:=hS.h.1;obtain⟨g,hg⟩:=hk.2 B;obtain⟨g',hq,hK⟩:=hS.k _ hg
 cases hq
 have hC:=(D.c B).ok;have z2:=P.bd.l2;have hn:C.s.bd.length=S.s.bd.length:=by rw[Dx (D.cs B)]
 have hm:=sup_le P.ps;have hp:=IC P.ps;refine cF (dF B) (Ex8<|Ex4<|⟨Gz hb (aZ.refl _ _),bg (YG hI P) ?_⟩);rintro _ w2 ⟨K,z,a,c,d,rfl,eS,R,s2⟩;have hs':=ace eS P;have ebd:=(MG eS).2.1;refine⟨_,_,rfl,cF rfl ⟨_,_,_,O s2.aK 5 _ rfl,bF (tG (hI.aK s2.aK).ps (by have:=P.ps.l2;omega)) λw3 X=>?_⟩⟩;have s3:=s2.quiet X;refine⟨_,rfl,s3.aY z6.vs.toArray λZ w4 s4=>s4.aR 0 rfl (dD S.s.ps).vs rfl (I6.one _) λw5 G=>?_⟩;let M:List (List KV)->List bP:=λL=>[yD K z a c d,oR a c d,jo d L,held z.In,ay Z (dD S.s.ps).vs.toArray 50,emp];have E:St t w5 (Sep (M (A4 S C 0))):=by
  rw[RH,<-R];exact G.aM [1,2,3,4,0,5]
 refine⟨_,_,_,O G.aK 6 _ rfl,λn w6 m=>∃k:Nat,n=k/\k<=S.s.bd.length/\m=S.s.bd.length-k/\St t w6 (Sep (M (A4 S C k))),⟨S.s.bd.length,0,rfl,by omega,by omega,E⟩,?_⟩;clear E G s4 s3 s2 X;rintro w6 m n ⟨k,rfl,hkk,hm6,E⟩-
 by_cases Q:(k:Int)<(S.s.bd.length:Int)
 .have F:k<8:=by omega
  have V:S.bd[k]?=some (S.bd.getD k gR):=getD_at (by omega);have hbr:S.s.bd[k]?=some (S.s.bd.getD k zN):=getD_at (by omega);have hr:d[k]?=some (d[k]'(by omega)):=gE (by omega);generalize d[k]'(by omega)=r at hr;have A:∀{H},aZ t H []->∀(j:Nat) (v:Value),S.cells[10+k*11+j]?=some v->H.cell? (Addr.add (Addr.add ⟨b,10,none⟩ (((k:Nat):Int).toNat*11)) j)=some v:=λhc j v hv=>by
   rw[XV,gW];exact O hc _ v hv
  refine cT (dT Q) ⟨λw7=>St t w7 (Sep (M (A4 S C (k+1)))),λw7 s7 _=>⟨S.s.bd.length-(k+1),by omega,k+1,fQ ⟨by omega,by omega⟩,by omega,rfl,s7⟩,by omega,by omega,(S.bd.getD k gR).out,A E.aK 10 _ (by have:=MR Y F V;simpa using this),?_⟩
  cases ho:(S.bd.getD k gR).out with
  |true=>
   refine cT rfl ?_;rw[<-Ja (by omega),show BU S C k=[] from by rw[BU,ag ho],tC (by rw[wL (by omega),af (by omega)])];exact E
  |false=>
  have eI:BU S C k=(mK S C k).foldl (oD S k) []:=by rw[BU,af (by rw[ho];decide)]
  refine cF rfl ⟨_,(O E.aK 9 _ (by have:=rM Y;simpa using this)).trans (by rw[hg]),bg (Bb (hK.aK E.aK) hC (by omega)) ?_⟩;rintro _ w8 ⟨a7,c7,rfl,k8⟩;have rch:zO w8 a7 (p9 C k):=St.rd Ch.len k8.one;have s8:=E.quiet k8.aK;have hcl:=hC.cl;have hchl:(p9 C k).length<=30:=by unfold p9;rw[bu];omega
  refine⟨_,_,_,rfl,bg (Jo rch (by omega) (FQ hC)) ?_⟩;rintro _ w9 ⟨a8,c8,rfl,k9⟩;have hcbl:=Nr (p9 C k);have s9:St t w9 (Sep (dB a8 c8 (Cq (p9 C k))::M (A4 S C k))):=St.cat (l:=[dB a8 c8 (Cq (p9 C k))]) (s8.and k9);refine⟨_,_,_,rfl,λJ l9 N I=>l9=(mK S C k).length/\(mK S C k).length<=80/\St t I (Sep (dB J N (mK S C k)::M (A4 S C k))),?_,by omega,by omega,(S.bd.getD k gR).has,A s9.aK 9 _ (by have:=MP Y F V;simpa using this),?_⟩
  .rintro I J l9 N ⟨rfl,h80,p⟩-;refine⟨λn T m=>∃j:Nat,n=j/\j<=(mK S C k).length/\m=(mK S C k).length-j/\St t T (Sep (dB J N (mK S C k)::M ((A4 S C k).set k (((mK S C k).take j).foldl (oD S k) [])))),⟨(mK S C k).length,0,rfl,by omega,by omega,?_⟩,?_⟩
   .show St t I (Sep (dB J N (mK S C k)::M ((A4 S C k).set k [])));rw[tC (by rw[wL (by omega),af (by omega)])];exact p
   rintro T m2 n ⟨j,rfl,hj,hm2,o⟩-
   by_cases h:(j:Int)<((mK S C k).length:Int)
   .have W:(mK S C k)[j]?=some ((mK S C k)[j]'(by omega)):=gE (by omega);generalize(mK S C k)[j]'(by omega)=x at W;obtain⟨q,hq,U⟩:=(St.rd Of.len o).at W;refine cT (dT h) (av hq ⟨by omega,by omega,_,x.want,_,U,o.aY vX.cells.toArray λr2 w12 s12=>s12.aR 0 rfl x.cells rfl x.one λw13 e=>⟨x.want,e.bA 0 1 rfl rfl,_,e.aj 0 rfl 7,?_⟩⟩);have s14:St t w13 (Sep [yD K z a c d,oR a c d,jo d ((A4 S C k).set k (((mK S C k).take j).foldl (oD S k) [])),held z.In,Sep [dB J N (mK S C k),ay Z (dD S.s.ps).vs.toArray 50,emp]]):=
     ((e.aM [2,3,4,5,1,6,7]).split [_,_,_,_]).open
    refine bg (YJ s14 hs' hr (l:=((mK S C k).take j).foldl (oD S k) []) (by rw[cN (by rw[qV];omega)]) (y:=S.s.bd.getD k zN) (by rw[ebd];exact hbr) x.want x.v) ?_;rintro _ w14 ⟨kk,rfl,i⟩;have e1:pG z k (S.s.bd.getD k zN) (((mK S C k).take j).foldl (oD S k) []) x.want x.v=((mK S C k).take (j+1)).foldl (oD S k) []:=by
     rw[mM (f:=oD S k) (a:=[]) W];show _=pG S.s k _ _ _ _;unfold pG;rw[Yy eS]
    rw[kZ,e1] at i;have s16:St t w14 (Sep [yD K z a c d,oR a c d,jo d ((A4 S C k).set k (((mK S C k).take (j+1)).foldl (oD S k) [])),held z.In,dB J N (mK S C k),ay Z (dD S.s.ps).vs.toArray 50,emp]):=
     St.cat (l:=[yD K z a c d,oR a c d,jo d ((A4 S C k).set k (((mK S C k).take (j+1)).foldl (oD S k) [])),held z.In]) (St.shut (l:=[yD K z a c d,oR a c d,jo d ((A4 S C k).set k (((mK S C k).take (j+1)).foldl (oD S k) [])),held z.In]) i)
    exact⟨_,rfl,(mK S C k).length-(j+1),by omega,j+1,fQ ⟨by omega,by omega⟩,by omega,rfl,s16.aM [4,0,1,2,3,5,6]⟩
   obtain rfl:j=(mK S C k).length:=by omega
   rw[aH,<-eI,Ja (by omega)] at o;exact cF (dF h) (o.aM [1,2,3,4,5,6])
  cases hh:(S.bd.getD k gR).has with
  |false=>
   have e:mK S C k=Cq (p9 C k):=by rw[mK,af (by rw[hh];decide),fu]
   rw[e];exact cF rfl ⟨rfl,by omega,s9⟩
  |true=>
  have e:mK S C k=Cq (p9 C k)++(if qQ (S.bd.getD k gR).x (dD S.s.ps)=0 then qf (S.bd.getD k gR).x (dD S.s.ps) else []):=by rw[mK,ag hh]
  have T:=D.x _ (ak V) hh;have hz:=uM T;have p:=s9.quiet (aZ.drew w9 []);have U:(S.bd.getD k gR).x.In w9.drew:=(hS.h.2 _ (ak V)).aK p.aK;have q:aU w9.drew (Addr.add ⟨b,10,none⟩ (((k:Nat):Int).toNat*11)) 0 (S.bd.getD k gR).x.cells:=fm _ 0 λj v hj=>by
   rw[XV,gW,az];exact O p.aK _ v (acq Y F V j hj)
  generalize(S.bd.getD k gR).x=x at T hz U e q;rw[e];refine cT rfl ⟨by omega,by omega,_,x.u,_,_,_,_,q,_,p.cellsIn 5 rfl,bg (FV hm hp (by omega) U) ?_⟩;rintro _ w15 (⟨hne,rfl,c15⟩|⟨B,hlen,a11,c11,rfl,W⟩)
  .have o:=p.quiet c15;rw[af hne];exact⟨_,_,_,_,rfl,dW vO Of.len Of.one (o.out 0 rfl) (l2:=[]) (λi x h=>by simp at h) (by simp only[aT];omega) (by simp only[aT];omega) λa3 X w3 G=>⟨rfl,by simp only[aA,aT];omega,G⟩⟩
  have o:=p.quiet W.aK;rw[ag B];exact⟨_,_,_,_,rfl,dW vO Of.len Of.one (o.out 0 rfl) (St.rd Of.len W) (by omega) (by omega) λa3 X w3 G=>⟨rfl,by rw[aA];omega,G⟩⟩
 obtain rfl:k=S.s.bd.length:=by omega
 have s7:St t w6 (Sep [yD K z a c d,oR a c d,jo d (A4 S C S.s.bd.length),Sep [held z.In,ay Z (dD S.s.ps).vs.toArray 50,emp]]):=(E.split [_,_,_]).open;refine cF (dF Q) (bg (YC s7 (by rw[qV,R]) (by omega) GU) ?_);rintro _ o ⟨h,i,rfl,s8⟩;have e:dN S C=O0 (A4 S C S.s.bd.length):=by rw[dN,af B]
 rw[e];exact⟨_,_,_,rfl,h,i,rfl,s8.aM [0]⟩
end Go.Proofs.YtmhhlijfepaphaaGreatDoor
namespace Go.Vc
open Go
abbrev K7:=Int×I6
abbrev yT (u:K7):Value:=.agg (iv u.1::u.2.vs).toArray
def K7.beq(u v:K7):Bool:=(u.1==v.1)&&(I6.beq u.2 v.2&&true)
theorem K7.beq_eq(u v:K7):K7.beq u v=decide (u=v):=by
 obtain⟨a,b⟩:=u;obtain⟨c,d⟩:=v;unfold K7.beq;rw[I6.beq_eq,jv];grind
structure Ri (P:Program) (t kt et:TypeId):Prop where
 u:P.underlying t=some (.map kt et)
 k:∃it,P.underlying kt=some (.struct it)
 z:(P.info? et).bind (·.zero)=some (iv 0)
 eq:∀u v:K7,V2 P 12 kt (yT u) (yT v)=some (K7.beq u v)
 ck:∀(b:Bool) (u:K7) (w:World),(Instr.checkKey b 10000 kt (yT u)).run P w=.ok () w
abbrev Lj:=K7×Int
def JL(l:List Lj):List (Value×Value):=l.map λp=>(yT p.1,iv p.2)
structure FF (es:List MapEntry) (cl:Nat) (l:List Lj):Prop where
 kv:kvs es=JL l
 nd:(es.map (·.born)).Nodup
 lt:∀e∈es,e.born<cl
 ky:(l.map (·.1)).Nodup
def pS(r:Nat)(l:List Lj):bP:=V4 λ(x:{p:Array MapEntry×Nat // FF p.1.toList p.2 l})=>iZ r (.map x.1.1 x.1.2)
def p7(l:List Lj)(u:K7):Option Int:=(l.find? λp=>p.1==u).map (·.2)
section
variable {P:Program} {t kt et:TypeId} {w0 w:World} {B:bP} {r:Nat} {l:List Lj}
theorem Nh(eq:∀u v:K7,V2 P 12 kt (yT u) (yT v)=some (K7.beq u v))(u:K7)(w:World):∀(a:List MapEntry) (l:List Lj) (i:Nat),kvs a=JL l ->
  (∃v j,p7 l u=some v/\(Instr.findAsking kt (yT u) a i).run P w=.ok (some (i+j,iv v)) w/\∃e,a[j]?=some e/\e.key=yT u/\l[j]?=some (u,v)) \/
   (p7 l u=none/\(Instr.findAsking kt (yT u) a i).run P w=.ok none w)
 |[],[],i,_=>.inr ⟨rfl,by simp[Instr.findAsking]⟩
 |e::a,p::l,i,h=>by
  simp only[kvs,JL,cD,jc,jF] at h;obtain⟨⟨f,q⟩,o⟩:=h;have b:(Op.equal kt (yT u) e.key).run P w=.ok (K7.beq u p.1) w:=by rw[f];exact DL 12 kt _ _ _ Op.maxDepth (eq u p.1) (by decide)
  have x:K7.beq u p.1=(p.1==u):=by
   grind[K7.beq_eq]
  by_cases g:p.1=u
  .have c:K7.beq u p.1=true:=by grind
   rw[c] at b;refine .inl ⟨p.2,0,?_,?_,e,rfl,by rw[f,g],?_⟩
   .simp[p7,g]
   .rw[Instr.findAsking];simp[b,q]
   grind
  have d:K7.beq u p.1=false:=by grind
  rw[d] at b;have r:p7 (p::l) u=p7 l u:=by
   grind[p7]
  rcases Nh eq u w a l (i+1) o with⟨v,j,m,c,k,s,n,t⟩|⟨m,c⟩
  .refine .inl ⟨v,j+1,by grind,?_,k,by grind,n,by grind⟩;rw[Instr.findAsking];simp[b,c];omega
  exact .inr ⟨by grind,by rw[Instr.findAsking];simp[b,c]⟩
 |[],_::_,_,h=>by simp[kvs,JL] at h
 |_::_,[],_,h=>by simp[kvs,JL] at h
def Bl(c:Ri P t kt et)(u:K7)(w:World){a:List MapEntry}(h:kvs a=JL l):
  (∃v j,p7 l u=some v/\(Instr.findKey kt (yT u) a).run P w=.ok (some (j,iv v)) w/\∃e,a[j]?=some e/\e.key=yT u/\l[j]?=some (u,v))\/(p7 l u=none/\(Instr.findKey kt (yT u) a).run P w=.ok none w):=by
 obtain⟨it,d⟩:=c.k;have g:(Instr.findKey kt (yT u) a).run P w=(Instr.findAsking kt (yT u) a).run P w:=by
  cases a with
  |nil=>simp[Instr.findKey,cW d,Instr.findNow,Instr.findAsking]
  |cons e a=>simp[Instr.findKey,cW d,Instr.findNow,Instr.sameNow]
 rw[g];rcases Nh c.eq u w a l 0 h with⟨v,j,b,e,f⟩|b
 .exact .inl ⟨v,j,b,by rw[e,az],f⟩
 exact .inr b
def PD(a:Ri P t kt et)(s:St w0 w (star (pS r l) B))(u:K7){R:Int->World->Prop}(h:R ((p7 l u).getD 0) w):
  kg P (Instr.lookup t (.map (some r)) (yT u) false) w λe b=>∃n:Int,e=iv n/\R n b:=by
 obtain⟨⟨⟨g,cl⟩,d⟩,m⟩:=s.ex;have f:=m.obj;have k:(zeroValue et).run P w=.ok (iv 0) w:=by
  have:=a.z
  cases hi:P.info? et with
  |none=>simp[hi] at this
  |some i=>simp[hi] at this;simp[zeroValue,typeInfo,hi,this]
 have e:=a.ck g.isEmpty u w;rcases Bl a u w d.kv with⟨v,j,b,c,_⟩|⟨b,c⟩
 .refine⟨iv v,w,?_,v,rfl,by rwa [b] at h⟩;simp[Instr.lookup,cW a.u,f,e,c,getObj,Sem.run]
 refine⟨iv 0,w,?_,0,rfl,by rwa [b] at h⟩;simp[Instr.lookup,cW a.u,f,e,c,k,getObj,Sem.run]
def xG(l:List Lj)(u:K7)(v:Int):List Lj:=if (p7 l u).isSome then l.map λp=>if p.1=u then (u,v) else p else l++[(u,v)]
def Uo{l:List Lj}(g:(l.map (·.1)).Nodup){u:K7}{v v0:Int}{j:Nat}(a:l[j]?=some (u,v0)):l.map (λp=>if p.1=u then (u,v) else p)=l.set j (u,v):=by
 have b:=(ai.1 a).1;refine aX λi=>?_;rw[aL,bW]
 by_cases e:j=i
 .grind
 rw[af e]
 cases hi:l[i]? with
 |none=>rfl
 |some p=>
  have c:p.1≠u:=λh=>by
   have d:(l.map (·.1))[j]?=some u:=by grind
   have f:(l.map (·.1))[i]?=some u:=by grind
   grind[List.getElem?_inj]
  grind
theorem MS{l:List Lj}{u:K7}(h:p7 l u=none):∀p∈l,p.1≠u:=λp a e=>by
 grind[p7,Option.map_eq_none_iff]
def QS{l:List Lj}(a:(l.map (·.1)).Nodup){p:Lj}(b:p∈l):p7 l p.1=some p.2:=by
 induction l with
 |nil=>cases b
 |cons q l d=>
  simp only[cD,gr] at a;unfold p7;rw[List.find?_cons];rcases aP.1 b with rfl|h
  .simp
  have c:q.1≠p.1:=λe=>(by grind);have:(q.1==p.1)=false:=by grind
  rw[this];exact d a.2 h
def Qy(u:K7):Instr.sameBits 10000 (yT u) (yT u)=true:=by
 rw[show(10000:Nat)=9998+1+1 from rfl];simp[Instr.sameBits,I6.vs]
def TN(n:Ri P t kt et)(s:St w0 w (star (pS r l) B))(u:K7)(v:Int){R:World->Prop}(h:∀o,St w0 o (star (pS r (xG l u v)) B)->R o):
  kg P (Instr.mapUpdate t (.map (some r)) (yT u) (iv v)) w λ_ o=>R o:=by
 obtain⟨⟨⟨d,cl⟩,c⟩,A⟩:=s.ex;have F:=A.obj;have E:=n.ck false u w;rcases Bl n u w c.kv with⟨v0,j,C,q,m,D,G,I⟩|⟨C,q⟩
 .have J:=(ai.1 D).1;have b:d[j]?=some m:=by grind
  have z:=A.put (.map (d.modify j λe=>{e with key:=yT u,val:=iv v}) cl);have y:(Instr.mapUpdate t (.map (some r)) (yT u) (iv v)).run P w=.ok () {w with heap:=w.heap.setIfInBounds r (.map (d.modify j λe=>{e with key:=yT u,val:=iv v}) cl)}:=by
   simp[Instr.mapUpdate,cW n.u,F,E,q,b,G,Instr.keyThatStays,Qy,setObj,getObj,Sem.run]
  suffices H:FF (d.modify j λe=>{e with key:=yT u,val:=iv v}).toList cl (xG l u v) from
   ⟨_,_,y,h _ (St.xe (f:=λ(x:{p:Array MapEntry×Nat // FF p.1.toList p.2 (xG l u v)})=>iZ r (.map x.1.1 x.1.2)) ⟨(_,_),H⟩ z)⟩
  have k:xG l u v=l.set j (u,v):=by rw[xG,ag (by rw[C];rfl),Uo c.ky I]
  have em:(d.modify j λe=>{e with key:=yT u,val:=iv v}).toList=d.toList.set j {m with key:=yT u,val:=iv v}:=by
   rw[nt];refine aX λi=>?_;grind
  rw[em,k];have a:=c.kv;refine⟨?_,?_,?_,?_⟩
  .unfold kvs JL at a⊢;rw[dO,dO,a]
  .rw[dO];have:(d.toList.map (·.born)).set j m.born=d.toList.map (·.born):=by
    refine aX λi=>?_;grind
   rw[this];exact c.nd
  .intro e g;rcases cO g with g|rfl
   .exact c.lt e g
   exact c.lt m (ak D)
  rw[dO];have:(l.map (·.1)).set j u=l.map (·.1):=by
   refine aX λi=>?_;grind
  rw[this];exact c.ky
 have z:=A.put (.map (d.push {key:=yT u,val:=iv v,born:=cl}) (cl+1));have y:(Instr.mapUpdate t (.map (some r)) (yT u) (iv v)).run P w=.ok () {w with heap:=w.heap.setIfInBounds r (.map (d.push {key:=yT u,val:=iv v,born:=cl}) (cl+1))}:=by
  simp[Instr.mapUpdate,cW n.u,F,E,q,setObj,getObj,Sem.run]
 suffices H:FF (d.push {key:=yT u,val:=iv v,born:=cl}).toList (cl+1) (xG l u v) from
  ⟨_,_,y,h _ (St.xe (f:=λ(x:{p:Array MapEntry×Nat // FF p.1.toList p.2 (xG l u v)})=>iZ r (.map x.1.1 x.1.2)) ⟨(_,_),H⟩ z)⟩
 have k:xG l u v=l++[(u,v)]:=by simp_all[xG]
 rw[k];have et:(d.push {key:=yT u,val:=iv v,born:=cl}).toList=d.toList++[{key:=yT u,val:=iv v,born:=cl}]:=by simp
 rw[et];refine⟨?_,?_,?_,?_⟩
 .have:=c.kv;unfold kvs JL at this⊢;rw[aS,aS,this];rfl
 .rw[aS,dL];refine⟨c.nd,by simp,λa i b x=>?_⟩;obtain⟨e,g,rfl⟩:=aN.1 i;have:=c.lt e g;grind
 .intro e g;rcases aB.1 g with g|g
  .have:=c.lt e g;omega
  grind
 rw[aS,dL];refine⟨c.ky,by simp,λa i b x=>?_⟩;obtain⟨p,e,rfl⟩:=aN.1 i;grind[MS]
end
section
variable {P:Program} {t kt et:TypeId} {w0 w:World} {B:bP} {r:Nat} {l:List Lj}
def L3(a:Ri P t kt et)(s:St w0 w (star (pS r l) B))(u:K7){R:Int->Bool->World->Prop}(h:R ((p7 l u).getD 0) (p7 l u).isSome w):
  kg P (Instr.lookup t (.map (some r)) (yT u) true) w λe c=>∃(n:Int) (b:Bool),e=.tuple #[iv n,.bool b]/\R n b c:=by
 obtain⟨⟨⟨g,cl⟩,d⟩,m⟩:=s.ex;have f:=m.obj;have k:(zeroValue et).run P w=.ok (iv 0) w:=by
  have:=a.z
  cases hi:P.info? et with
  |none=>simp[hi] at this
  |some i=>simp[hi] at this;simp[zeroValue,typeInfo,hi,this]
 have e:=a.ck g.isEmpty u w;rcases Bl a u w d.kv with⟨v,j,b,c,_⟩|⟨b,c⟩
 .refine⟨.tuple #[iv v,.bool true],w,?_,v,true,rfl,by rwa [b] at h⟩;simp[Instr.lookup,cW a.u,f,e,c,getObj,Sem.run]
 refine⟨.tuple #[iv 0,.bool false],w,?_,0,false,rfl,by rwa [b] at h⟩;simp[Instr.lookup,cW a.u,f,e,c,k,getObj,Sem.run]
def St.aaH(s:St w0 w (star (iZ r (.map #[] 0)) B)):St w0 w (star (pS r []) B):=
 St.xe (f:=λ(x:{p:Array MapEntry×Nat // FF p.1.toList p.2 ([]:List Lj)})=>iZ r (.map x.1.1 x.1.2)) ⟨(#[],0),⟨rfl,by simp,by simp,by simp⟩⟩ s
end
end Go.Vc
namespace Go.Proofs.YtmhhlijfepaphaaGreatDoor
open Go Go.Vc _root_.Go.Proofs.Tryz
def ZF{w:ah}{S:Se}(h:S.In w)(d:S.Ok):
  CP 116 #[.agg S.arr] w (λr a=>r=.tuple #[.agg (qS S.ps S.sa).1.vs.toArray,.agg (qS S.ps S.sa).2.vs.toArray]/\aZ w a []):=by
 refine tO.2.2.1 ((St.start w).one.aY S.arr λm p i=>i.aY z6.vs.toArray λn q j=>j.aY z6.vs.toArray λo r a=>(Ex8<|Ex4<|⟨a.cellsIn 2 rfl,bg (xF (h.aK a.aK)) ?_⟩));rintro v s ⟨⟨e,rfl,g⟩,f⟩;obtain rfl:=g.2 d;have b:=a.quiet f;exact⟨_,rfl,cF rfl (Ex8<|Ex4<|⟨b.cellsIn 2 rfl,b.qu (KW (h.aK b.aK) d) λt k=>⟨_,_,rfl,k.aR 1 rfl _ rfl (I6.one _) λu l=>l.aR 0 rfl _ rfl (I6.one _) λx c=>⟨_,c.cellsIn 1 rfl,_,c.cellsIn 0 rfl,rfl,c.aK⟩⟩⟩)⟩
def AK(l:List Pr)(u:I6):Int:=QK Pr.res l u
def Yi{l:List Pr}(h:iu l):∀p∈l,0<=p.res/\p.res<=1000000:=λp b=>by
 obtain⟨i,a⟩:=dQ b;have:=(h.good i p a).1;simp only[xq,EK,aF,aV] at this;omega
def Ua{l:List Pr}(h:iu l){u:I6}(a:I6.Le u 4):0<=AK l u/\AK l u<=24000000:=by
 have b:=AS (wt:=Pr.res) a (Yi h) l.length h.l2;have c:=h.l2;unfold AK QK;omega
def Qq{w:ah}{a:OA}{c:Nat}{l:List Pr}(h:kf w a l)(d:l.length<=c)(g:iu l){u:I6}(j:I6.Le u 4):
  CP 117 #[.slice a l.length c,.agg u.vs.toArray] w (λr e=>r=iv (AK l u)/\aZ w e []):=by
 refine tO.2.2.2.1 ((St.start w).one.aY u.vs.toArray λn q f=>⟨_,f.cellsIn 0 rfl,bg (M0 (wt:=Pr.res) (h.aK f.aK) d g j (Yi g) ?_) ?_⟩)
 .intro e p R _ _ k;refine iJ (by kernel_rfl) (bg (K:=λr b=>r=iv p.res/\aZ e b []) (tO.2.2.2.2.1 ?_) ?_)
  .skip
   exact(St.start e).one.aY p.cells.toArray λo m i=>⟨_,i.aj 0 rfl 2,rfl,i.aK⟩
  rintro r b ⟨rfl,i⟩;exact k b i
 rintro v m ⟨rfl,b⟩;exact⟨_,rfl,rfl,(f.quiet b).aK⟩
def Uw(w:ah){n:Nat}{x:Of}(h:0<=x.b/\x.b<(n:Int))(i:1<=x.v/\x.v<=1000000)(f:x.want.l.all lX=true):
  CP 115 #[iv n,.agg x.cells.toArray] w (λr a=>r=iv 0/\aZ w a []):=by
 refine @AA _ _ x.want _ _ _ ((St.start w).one.aY x.cells.toArray λj g a=>⟨λb c=>b=false/\c=g,?_,x.b,a.aj 0 rfl 0,cF (dF (by omega)) ⟨x.b,a.aj 0 rfl 0,dF (by omega),rfl⟩⟩);rintro c b ⟨rfl,rfl⟩-;refine cF rfl ⟨λb d=>b=false/\d=c,?_,x.v,a.aj 0 rfl 7,cF (dF (by omega)) ⟨x.v,a.aj 0 rfl 7,dF (by omega),rfl⟩⟩;rintro d b ⟨rfl,rfl⟩-;exact cF rfl ⟨x.want,a.bA 0 1 rfl rfl,bF (lI _ x.want) λk e=>⟨_,rfl,by rw[ag f],(a.quiet e).aK⟩⟩
def G5(b:Bool)(n:Nat)(k:Int)(w:ah):(Instr.checkKey b (n+1) 3 (iv k)).run prog w=.ok () w:=pX underlying3 b n k w
def G4(b:Bool)(m:Nat)(u:I6)(w:ah):(Instr.checkKey b (m+2) 50 (uy u)).run prog w=.ok () w:=by
 obtain⟨i,g,_,_,_⟩:=U9.i;have f:(prog).cellsOf 3=1:=by kernel_rfl
 have e:∀w,(Go.sizeOf 3).run prog w=.ok 1 w:=λw=>by rw[run_sizeOf w g,f]
 have c:∀(w:ah) (j:Nat),j<6->(part 3 u.vs.toArray (j*1)).run prog w=.ok (iv (u.at' j)) w:=λw j d=>by
  have:=u.get j d;simp only[eZ] at this⊢;simp[part,isAgg,cW underlying3,this]
 rw[show m+2=(m+1)+1 from rfl,Instr.checkKey];simp only[Sem.run_bind,run_underlying underlying50,Result.andThen_ok];simp only[fe,Std.Legacy.Range.size,fk,nG,Nat.div_one];have a:∀j∈List.range' 0 6,j<6:=λj d=>by simpa using d
 generalize List.range' 0 6=is at a
 induction is with
 |nil=>simp
 |cons j is k=>
  have p1:=c w j (a j (by simp));have p2:=pX (P:=prog) underlying3 b m (u.at' j) w;simp only[lZ,Sem.run_bind,e,Result.andThen_ok,p1,p2,Sem.run_pure];exact k λy h=>a y (by simp[h])
def kyP:Ri prog 172 175 3 where
 u:=underlying172
 k:=⟨_,underlying175⟩
 z:=by kernel_rfl
 eq u v:=by kernel_rfl
 ck b u w:=by
  have p1:∀w,(part 3 (iv u.1::u.2.vs).toArray 0).run prog w=.ok (iv u.1) w:=λw=>by
   simp[part,isAgg,cW underlying3]
  have p2:∀w,(part 50 (iv u.1::u.2.vs).toArray 1).run prog w=.ok (uy u.2) w:=λw=>by
   simp[part,isAgg,cW underlying50,I6.vs]
  rw[show(10000:Nat)=9999+1 from rfl,Instr.checkKey];simp only[Sem.run_bind,run_underlying underlying175,Result.andThen_ok];have a:∀w,(Instr.checkKey b 9999 3 (iv u.1)).run prog w=.ok () w:=λw=>G5 b 9998 u.1 w;have c:∀w,(Instr.checkKey b 9999 50 (uy u.2)).run prog w=.ok () w:=λw=>G4 b 9997 u.2 w;simp[p1,p2,a,c]
structure Rj (S:Se) (l:List Of):Prop where
 n:l.length<=320
 b:∀o∈l,0<=o.b/\o.b<(S.bd.length:Int)
 v:∀o∈l,1<=o.v/\o.v<=1000000
 q:∀o∈l,o.want.l.all lX=true
 k:(l.map λo=>((o.b,o.want):K7)).Nodup
def uV(o:Of):K7:=(o.b,o.want)
def Cv(l:List Of):Nat->List Lj
 |0=>[]
 |k+1=>Cv l k++[(uV (l.getD k vX),(k:Int))]
theorem D2{l:List Of}:∀{k:Nat},k<=l.length->(Cv l k).map (·.1)=(l.take k).map uV
 |0,_=>rfl
 |k+1,h=>by
  rw[Cv,aS,D2 (by omega),bJ (getD_at (d:=vX) (by omega)),aS];rfl
theorem NN{l:List Of}{j:Nat}:∀{k:Nat},j<k->(uV (l.getD j vX),(j:Int))∈Cv l k
 |0,h=>absurd h (gT j)
 |k+1,h=>by
  rw[Cv]
  by_cases e:j=k
  .subst e;exact cC _ (by simp)
  exact cr _ (NN (by omega))
def SS{l:List Of}(g:(l.map uV).Nodup){k:Nat}(f:k<l.length):p7 (Cv l k) (uV (l.getD k vX))=none:=by
 unfold p7;rw[rq,List.find?_eq_none];intro p h c;have e:p.1=uV (l.getD k vX):=by simpa using c
 have a:p.1∈(l.take k).map uV:=by rw[<-D2 (by omega)];exact bV h
 rw[e] at a;have b:=((List.take_sublist (k+1) l).map uV).nodup g;rw[bJ (getD_at (d:=vX) f),aS,dL] at b;exact b.2.2 _ a _ (by simp) rfl
def SU{l:List Of}(b:(l.map uV).Nodup){k:Nat}(a:k<l.length):p7 (Cv l l.length) (uV (l.getD k vX))=some (k:Int):=
 QS (p:=(uV (l.getD k vX),(k:Int))) (by rw[D2 (aD _),aH];exact b) (NN a)
def yI(S:Se)(x:Of):Of:={x with v:=x.v-AK S.ps x.want}
def oN(S:Se)(x:Of):Bool:=decide (1<=x.v-AK S.ps x.want)&&(decide (x.want≠z6)&&decide (iO S x.b.toNat (S.bd.getD x.b.toNat zN) x.want=0))
def lQ(S:Se)(l:List Of):Nat->List Of
 |0=>[]
 |k+1=>if oN S (l.getD k vX)=true then lQ S l k++[yI S (l.getD k vX)] else lQ S l k
def qY(S:Se)(l:List Of):Nat->List Int
 |0=>[]
 |k+1=>if oN S (l.getD k vX)=true then qY S l k++[(k:Int)] else qY S l k
theorem D1(S:Se)(l:List Of):∀k,(qY S l k).length=(lQ S l k).length/\(lQ S l k).length<=k
 |0=>⟨rfl,aD 0⟩
 |k+1=>by
  have a:=D1 S l k;rw[qY,lQ]
  split
  .rw[aA,aA,aG,aG];omega
  omega
abbrev xm (u1 u2 u3:I6) (v1 a:Value):Array Value:=(u1.on (u2.on (u3.on [v1,a])):List Value).toArray
abbrev vo:Array Value:=xm z6 z6 z6 (.slice none 0 0) (.slice none 0 0)
def nM(u1 u2 u3:I6){v1 b:Value}(c:v1.oneCell'=true)(d:b.oneCell'=true):∀v∈(u1.on (u2.on (u3.on [v1,b])):List Value),v.oneCell'=true:=by
 intro v a;simp only[I6.on,aP,dR,iS] at a;rcases a with rfl|rfl|rfl|rfl|rfl|rfl|rfl|rfl|rfl|rfl|rfl|rfl|rfl|rfl|rfl|rfl|rfl|rfl|rfl|rfl<;>first|rfl|assumption
abbrev pJ (a:OA) (c:Nat) (l:List Int):bP:=iQ 3 1 i1 a c l
def Wo(n:Int)(u:I6):∀v∈(iv n::u.vs:List Value),v.oneCell'=true:=by
 intro v a;rcases aP.1 a with rfl|a
 .rfl
 exact I6.one _ v a
def YK(y:Br):∀v∈y.cells,v.oneCell'=true:=by
 intro v a;simp only[Br.cells,aP,dR,iS] at a;rcases a with rfl|rfl|rfl|rfl<;>rfl
def Nl{w:ah}{S:Se}(h:S.In w)(O:S.Ok){a:OA}{c:Nat}{l:List Of}(hr:Q5 w a l)(J:Rj S l):
  CP 54 #[.agg S.arr,.slice a l.length c] w (λr i=>(160<(lQ S l l.length).length/\r=.tuple #[.agg vo,.slice none 0 0,iv 3]/\aZ w i [])\/((lQ S l l.length).length<=160/\∃(b d e:OA) (f g c3:Nat),r=.tuple #[.agg (xm (dD S.ps) (qS S.ps S.sa).1 (qS S.ps S.sa).2 (.slice b (S.bd.map Br.cls).length f) (.slice d (lQ S l l.length).length g)),.slice e (qY S l l.length).length c3,iv 0] /\
    St w i (Sep [pJ e c3 (qY S l l.length),pJ b f (S.bd.map Br.cls),dB d g (lQ S l l.length),emp]))):=by
 refine tO.2.1 ?_;have z1:=O.ps.l2;have z2:=O.bd.l2;have hn:=J.n;have hk:=J.k;refine(St.start w).one.aY S.arr λr w1 s1=>s1.aY vo λs w2 s2=>(Ex8<|Ex4<|⟨s2.cellsIn 1 rfl,bg (xF (h.aK s2.aK)) ?_⟩);rintro v w3 ⟨⟨e,rfl,he⟩,c3⟩;obtain rfl:=he.2 O;have s3:=s2.quiet c3;refine⟨_,rfl,cF rfl (cF (dF (by omega)) (uY s3 λt w6 _ s6=>?_))⟩;have s6:=St.aaH s6;refine⟨λn w7 m=>∃k:Nat,n=k/\k<=l.length/\m=l.length-k/\St w w7 (Sep [pS t (Cv l k),ay s vo 66,ay r S.arr 34,emp]),⟨l.length,0,rfl,by omega,by omega,s6⟩,?_⟩;clear s6 s3 s2 s1;rintro w7 m n ⟨k,rfl,hkl,hm,U⟩-
 by_cases u:(k:Int)<(l.length:Int)
 .have P:l[k]?=some (l.getD k vX):=getD_at (by omega);have d:=SS hk (k:=k) (by omega);have f:Cv l (k+1)=Cv l k++[(uV (l.getD k vX),(k:Int))]:=rfl;generalize l.getD k vX=x at P d f;have o:=ak P;obtain⟨q,hq,M⟩:=(hr.aK U.aK).at P;refine cT (dT u) ⟨λH=>St w H (Sep [pS t (Cv l (k+1)),ay s vo 66,ay r S.arr 34,emp]),λH I _=>⟨l.length-(k+1),by omega,k+1,fQ ⟨by omega,by omega⟩,by omega,rfl,I⟩,av hq ⟨by omega,by omega,_,x.want,_,M,U.aY vX.cells.toArray λE Q K=>K.aR 0 rfl x.cells rfl x.one λC i=>⟨_,_,_,i.aj 3 rfl 1,_,x.want,_,i.cellsIn 0 rfl,i.qu (Uw C (J.b x o) (J.v x o) (J.q x o)) λL j=>⟨_,rfl,cF rfl ⟨_,j.aj 0 rfl 0,x.want,j.bA 0 1 rfl rfl,j.aY (iv 0::z6.vs:List Value).toArray λG N B=>B.aR 0 rfl (iv x.b::x.want.vs) rfl (Wo _ _) λp g=>⟨_,x.want,g.cellsIn 0 rfl,?_⟩⟩⟩⟩⟩⟩;have g:St w p (Sep [ay G (iv x.b::x.want.vs:List Value).toArray 175,ay E x.cells.toArray 70,pS t (Cv l k),ay s vo 66,ay r S.arr 34,emp]):=g;refine L3 kyP (g.out 2 rfl) (uV x) ?_;rw[d];refine⟨λb A=>b=true/\A=p.drew,?_,cT rfl ⟨rfl,rfl⟩⟩;rintro A b ⟨rfl,rfl⟩-;have y:=g.quiet (aZ.drew p []);refine cT rfl ⟨_,x.want,y.cellsIn 0 rfl,TN kyP (y.out 2 rfl) (uV x) k λD z=>?_⟩;have e:xG (Cv l k) (uV x) k=Cv l (k+1):=by rw[xG,af (by rw[d];decide),f]
  rw[e] at z;have F:St w D (Sep [pS t (Cv l (k+1)),ay G (iv x.b::x.want.vs:List Value).toArray 175,ay E x.cells.toArray 70,ay s vo 66,ay r S.arr 34,emp]):=z;exact F.aM [0,3,4,5]
 obtain rfl:k=l.length:=by omega
 refine cF (dF u) ⟨_,_,_,U.aj 2 rfl 0,U.qu (tG (h.aK U.aK).ps (by omega)) λw18 F=>⟨_,rfl,F.aY vo λr5 w19 s19=>s19.aR 0 rfl (xm (dD S.ps) z6 z6 (.slice none 0 0) (.slice none 0 0)).toList rfl (nM _ _ _ rfl rfl) λw20 G=>(Ex8<|Ex4<|⟨G.cellsIn 3 rfl,G.qu (ZF (h.aK G.aK) O) λw21 s21=>?_⟩)⟩⟩;generalize hop:(qS S.ps S.sa).1=op;generalize hcl:(qS S.ps S.sa).2=cl;refine⟨_,_,rfl,s21.mA 0 6 rfl (vs:=op.vs) (xm (dD S.ps) op z6 (.slice none 0 0) (.slice none 0 0)) (by show 6+6<=20;decide) (I6.one _) rfl λw22 s22=>s22.mA 0 12 rfl (vs:=cl.vs) (xm (dD S.ps) op cl (.slice none 0 0) (.slice none 0 0)) (by show 12+6<=20;decide) (I6.one _) rfl λw23 C=>⟨_,_,_,C.aj 3 rfl 1,?_⟩⟩;have C:St w w23 (Sep [ay r5 (xm (dD S.ps) op cl (.slice none 0 0) (.slice none 0 0)) 66,pS t (Cv l l.length),ay s vo 66,ay r S.arr 34,emp]):=C;refine⟨λn I m=>∃(k:Nat) (g:OA) (j:Nat),n=k/\k<=S.bd.length/\m=S.bd.length-k/\St w I (Sep [pJ g j ((S.bd.take k).map Br.cls),ay r5 (xm (dD S.ps) op cl (.slice g ((S.bd.take k).map Br.cls).length j) (.slice none 0 0)) 66,pS t (Cv l l.length),ay s vo 66,ay r S.arr 34,emp]),⟨S.bd.length,0,none,0,rfl,by omega,by omega,St.gB C⟩,?_⟩
 clear C s21 G F U;rintro I m n ⟨k,g,j,rfl,hkb,hm2,z⟩-;have Y:((S.bd.take k).map Br.cls).length=k:=by rw[bu,aW];omega
 by_cases N:(k:Int)<(S.bd.length:Int)
 .have A:S.bd[k]?=some (S.bd.getD k zN):=getD_at (by omega);generalize S.bd.getD k zN=y at A;obtain⟨_,q,hq,p⟩:=(h.aK z.aK).bd k y A;have e:(S.bd.take (k+1)).map Br.cls=(S.bd.take k).map Br.cls++[y.cls]:=by rw[bJ A,aS];rfl
  refine cT (dT N) (av hq ⟨by omega,by omega,_,_,_,_,p,z.aY #[.string (bs []),iv 0,iv 0,iv 0] λE H i=>i.aR 0 rfl y.cells rfl (YK y) λQ f=>⟨_,_,_,f.aj 2 rfl 18,_,f.aj 0 rfl 1,iT U9 gm (x:=y.cls) (wX _) (f.out 1 rfl) (by omega) (by omega) (λK L D d=>?_) rfl⟩⟩);rw[<-e] at d⊢;have d:St w D (Sep [pJ K L ((S.bd.take (k+1)).map Br.cls),ay E y.cells.toArray 137,ay r5 (xm (dD S.ps) op cl (.slice g ((S.bd.take k).map Br.cls).length j) (.slice none 0 0)) 66,pS t (Cv l l.length),ay s vo 66,ay r S.arr 34,emp]):=d;exact d.cL 2 rfl (by show 18<20;decide) rfl λR B=>⟨S.bd.length-(k+1),by omega,k+1,K,L,fQ ⟨by omega,by omega⟩,by omega,rfl,B.aM [0,2,3,4,5,6]⟩
 obtain rfl:k=S.bd.length:=by omega
 rw[aH] at z;generalize hcls:S.bd.map Br.cls=d at z;refine cF (dF N) ⟨λy l25 A n w30 m=>∃(k:Nat) (p:OA) (co:Nat),n=k/\k<=l.length/\m=l.length-k/\l25=(qY S l k).length /\
   St w w30 (Sep [pJ y A (qY S l k),pJ g j d,dB p co (lQ S l k),ay r5 (xm (dD S.ps) op cl (.slice g d.length j) (.slice p (lQ S l k).length co)) 66,pS t (Cv l l.length),ay s vo 66,ay r S.arr 34,emp]),⟨l.length,0,none,0,rfl,by omega,by omega,rfl,?_⟩,?_⟩
 .have i:St w I (Sep [dB none 0 [],pJ g j d,ay r5 (xm (dD S.ps) op cl (.slice g d.length j) (.slice none 0 0)) 66,pS t (Cv l l.length),ay s vo 66,ay r S.arr 34,emp]):=St.gB z;have f:St w I (Sep [pJ none 0 [],dB none 0 [],pJ g j d,ay r5 (xm (dD S.ps) op cl (.slice g d.length j) (.slice none 0 0)) 66,pS t (Cv l l.length),ay s vo 66,ay r S.arr 34,emp]):=St.gB i;exact f.aM [0,2,1,3,4,5,6,7]
 clear z N hkb hm2 Y;rintro w30 m y l25 A n ⟨k,p,co,rfl,hkl,hm3,rfl,D⟩-;have hkp:=D1 S l k
 by_cases u:(k:Int)<(l.length:Int)
 .have P:l[k]?=some (l.getD k vX):=getD_at (by omega);have B:=SU hk (k:=k) (by omega);have T:qY S l (k+1)=if oN S (l.getD k vX)=true then qY S l k++[(k:Int)] else qY S l k:=rfl
  have X:lQ S l (k+1)=if oN S (l.getD k vX)=true then lQ S l k++[yI S (l.getD k vX)] else lQ S l k:=rfl
  generalize l.getD k vX=x at P B T X;have o:=ak P;have Z:=C9 (J.q x o);have hrb:=Ua O.ps Z;have hv:=J.v x o;have hb:=J.b x o;obtain⟨i,hbi⟩:=cZ hb.1;have hyi:S.bd[i]?=some (S.bd.getD i zN):=getD_at (by omega);have hti:x.b.toNat=i:=by omega
  obtain⟨q,hq,M⟩:=(hr.aK D.aK).at P;refine cT (dT u) ⟨λV l26 W w31=>∃(p:OA) (co:Nat),l26=(qY S l (k+1)).length /\
   St w w31 (Sep [pJ V W (qY S l (k+1)),pJ g j d,dB p co (lQ S l (k+1)),ay r5 (xm (dD S.ps) op cl (.slice g d.length j) (.slice p (lQ S l (k+1)).length co)) 66,pS t (Cv l l.length),ay s vo 66,ay r S.arr 34,emp]),?_,?_⟩
  .rintro w31 V l26 W ⟨p,co,rfl,f⟩-;exact⟨l.length-(k+1),by omega,k+1,p,co,fQ ⟨by omega,by omega⟩,by omega,rfl,rfl,f⟩
  refine av hq ⟨by omega,by omega,_,x.want,_,M,D.aY vX.cells.toArray λr8 w32 s32=>s32.aR 0 rfl x.cells rfl x.one λw33 s33=>?_⟩;have E:=s33.quiet (aZ.drew w33 []);refine⟨_,E.aj 0 rfl 7,_,_,_,E.aj 7 rfl 0,x.want,E.bA 0 1 rfl rfl,E.qu (Qq (h.aK E.aK).ps h.h1 O.ps Z) λw34 s35=>⟨_,rfl,s35.aj 0 rfl 7,?_⟩⟩;rw[fQ (n:=x.v-AK S.ps x.want) ⟨by omega,by omega⟩];refine s35.cL 0 rfl (by show 7<8;decide) rfl λw35 f=>⟨λb w36=>b = !oN S x/\St w w36 (Sep [ay r8 (yI S x).cells.toArray 70,pJ y A (qY S l k),pJ g j d,dB p co (lQ S l k),ay r5 (xm (dD S.ps) op cl (.slice g d.length j) (.slice p (lQ S l k).length co)) 66,pS t (Cv l l.length),ay s vo 66,ay r S.arr 34,emp]),?_,?_⟩
  .rintro w36 b ⟨rfl,H⟩-
   cases hkeep:oN S x with
   |false=>
    rw[af (by rw[hkeep];decide)] at T X;exact cT rfl ⟨p,co,by rw[T],by rw[T,X];exact H.aM [1,2,3,4,5,6,7,8]⟩
   |true=>
    rw[ag hkeep] at T X;rw[T,X];refine cF rfl ⟨_,_,_,H.aj 4 rfl 19,_,x.want,_,H.cellsIn 0 rfl,iT vO Of.len (x:=yI S x) (Of.one _) (H.out 3 rfl) (by omega) (by omega) (λK L w38 Q=>?_) rfl⟩;have Q:St w w38 (Sep [dB K L (lQ S l k++[yI S x]),ay r8 (yI S x).cells.toArray 70,pJ y A (qY S l k),pJ g j d,ay r5 (xm (dD S.ps) op cl (.slice g d.length j) (.slice p (lQ S l k).length co)) 66,pS t (Cv l l.length),ay s vo 66,ay r S.arr 34,emp]):=Q;refine Q.cL 4 rfl (by show 19<20;decide) rfl λw39 s39=>iT U9 gm (x:=(k:Int)) (wX _) (s39.out 2 rfl) (by omega) (by omega) (λa'' c'' w41 R=>?_) rfl;have R:St w w41 (Sep [pJ a'' c'' (qY S l k++[(k:Int)]),dB K L (lQ S l k++[yI S x]),ay r8 (yI S x).cells.toArray 70,pJ g j d,ay r5 (xm (dD S.ps) op cl (.slice g d.length j) (.slice K (lQ S l k++[yI S x]).length L)) 66,pS t (Cv l l.length),ay s vo 66,ay r S.arr 34,emp]):=R;exact⟨K,L,rfl,R.aM [0,3,1,4,5,6,7,8]⟩
  refine⟨_,f.aj 0 rfl 0,x.want,f.bA 0 1 rfl rfl,PD kyP (f.out 5 rfl) (uV x) ?_⟩;rw[B];refine cF (by simp) ⟨_,f.aj 0 rfl 7,?_⟩
  by_cases Q:x.v-AK S.ps x.want<1
  .exact cT (dT Q) ⟨by rw[oN,dF (by omega)];rfl,f⟩
  have R:decide (1<=x.v-AK S.ps x.want)=true:=dT (by omega);refine cF (dF Q) ⟨x.want,f.bA 0 1 rfl rfl,?_⟩;rw[I6.beq_eq]
  by_cases H:x.want=z6
  .exact cT (dT H) ⟨by rw[oN,R,dF (by simpa using H)];rfl,f⟩
  have k2:decide (x.want≠z6)=true:=dT H;refine cF (dF H) (Ex8<|Ex4<|⟨f.cellsIn 7 rfl,(i:Int),by rw[<-hbi];exact f.aj 0 rfl 0,x.want,f.bA 0 1 rfl rfl,bF (xT (h.aK f.aK) O hyi x.want) λw43 K=>⟨_,rfl,?_,f.quiet K⟩⟩);rw[oN,R,k2,hti]
  by_cases L:iO S i (S.bd.getD i zN) x.want=0
  .rw[L];rfl
  rw[dF L];simpa using L
 obtain rfl:k=l.length:=by omega
 by_cases b:160<(lQ S l l.length).length
 .refine cF (dF u) (cT (dT (by omega)) (D.aR 5 rfl vo.toList rfl (nM _ _ _ rfl rfl) λi f=>⟨z6,z6,z6,Ex4 ⟨_,_,f.cellsIn 5 rfl,.inl ⟨b,rfl,f.aK⟩⟩⟩))
 exact cF (dF u) (cF (dF (by omega)) ⟨dD S.ps,op,cl,Ex4 ⟨_,_,D.cellsIn 3 rfl,D.aR 5 rfl (xm (dD S.ps) op cl (.slice g d.length j) (.slice p (lQ S l l.length).length co)).toList rfl (nM _ _ _ rfl rfl) λi f=>⟨dD S.ps,op,cl,Ex4 ⟨_,_,f.cellsIn 5 rfl,.inr ⟨by omega,g,p,y,j,co,A,rfl,f.aM [0,1,2,9]⟩⟩⟩⟩⟩)
def WK(S:Sx)(C:Ck)(i:Nat):mK S.er C.er i=mK S C i:=by
 unfold mK;rw[RR,oW];show Cq (p9 C i)++(if (S.bd.getD i gR).has=true then (if qQ (S.bd.getD i gR).x.er (dD S.s.ps)=0 then qf (S.bd.getD i gR).x.er (dD S.s.ps) else []) else [])=_;rw[HR,HS]
def YF(S:Sx)(C:Ck)(i:Nat):BU S.er C.er i=BU S C i:=by
 unfold BU;rw[WK,oW];rfl
def Ar(S:Sx)(C:Ck):dN S.er C.er=dN S C:=by
 unfold dN A4;have e:(λi=>if i<S.er.s.bd.length then BU S.er C.er i else [])=λi=>if i<S.s.bd.length then BU S C i else []:=by
  funext i
  rw[YF];rfl
 rw[e];rfl
structure FD (S:Se) (i:Nat) (y:Br) (l:List KV):Prop where
 v:∀p∈l,(1<=p.2/\p.2<=1000000)/\iO S i y p.1=0
 n:(l.map (·.1)).Nodup
def Uq{l:List KV}{u:I6}{v:Int}{p:KV}(h:p∈rW l u v):p∈l\/p=(u,v):=by
 unfold rW at h
 split at h
 .obtain⟨q,a,rfl⟩:=aN.1 h
  split
  .exact .inr rfl
  exact .inl a
 rcases aB.1 h with h|h
 .exact .inl h
 exact .inr (aI.1 h)
def yo{l:List KV}(d:(l.map (·.1)).Nodup)(u:I6)(v:Int):((rW l u v).map (·.1)).Nodup:=by
 unfold rW
 split
 .have e:(l.map λp=>if p.1=u then (u,v) else p).map (·.1)=l.map (·.1):=by
   rw[cE];refine bq λp _=>?_;show(if p.1=u then (u,v) else p).1=p.1
   split
   .rename_i h;exact h.symm
   rfl
  rw[e];exact d
 rename_i g;rw[aS,dL];refine⟨d,by simp,λa e b c=>?_⟩;obtain⟨p,f,rfl⟩:=aN.1 e;have h:jW l u=none:=by simpa using g
 have:=BQ h p f;simp at c;subst c;exact this
def PZ{S:Se}{i:Nat}{y:Br}{l:List KV}(h:FD S i y l)(u:I6)(v:Int):FD S i y (pG S i y l u v):=by
 unfold pG
 split
 .exact h
 rename_i g;have c:1<=v/\v<=1000000:=by
  by_cases c:v<1\/v>1000000
  .exact absurd (.inl c) g
  omega
 have a:iO S i y u=0:=by
  by_cases a:iO S i y u=0
  .exact a
  exact absurd (.inr (.inl a)) g
 refine⟨λp b=>?_,yo h.n u _⟩;rcases Uq b with b|rfl
 .exact h.v p b
 refine⟨?_,a⟩;have d:(jW l u).getD 0<=1000000:=by
  cases hx:jW l u with
  |none=>show(0:Int)<=1000000;decide
  |some x=>exact(h.v _ (yx hx)).1.2
 split<;>omega
theorem Gl{S:Sx}{i:Nat}:∀{m:List Of} {l:List KV},FD S.s i (S.s.bd.getD i zN) l->FD S.s i (S.s.bd.getD i zN) (m.foldl (oD S i) l)
 |[],_,h=>h
 |o::m,l,h=>Gl (m:=m) (l:=oD S i l o) (PZ h o.want o.v)
def I9(S:Sx)(C:Ck)(i:Nat):FD S.s i (S.s.bd.getD i zN) (BU S C i):=by
 have a:FD S.s i (S.s.bd.getD i zN) []:=⟨λp b=>(by cases b),by simp⟩;unfold BU
 split
 .exact a
 exact Gl a
def aa6{S:Se}{i:Nat}{y:Br}{u:I6}(h:iO S i y u=0):u.l.all lX=true:=by
 unfold iO at h
 split at h
 .assumption
 cases h
theorem D7{L:List (List KV)}{o:Of}:∀{k:Nat},o∈oz L k->∃i,i<k/\∃p∈L.getD i [],o=Kh i p
 |0,h=>by cases h
 |k+1,h=>by
  rw[oz] at h;rcases aB.1 h with h|h
  .obtain⟨i,b,a⟩:=D7 h;exact⟨i,by omega,a⟩
  have b:=(nL _).mem_iff.1 h;obtain⟨p,a,rfl⟩:=aN.1 b;exact⟨k,by omega,p,a,rfl⟩
theorem Nc{L:List (List KV)}(h:∀l∈L,(l.map (·.1)).Nodup):∀k,((oz L k).map uV).Nodup
 |0=>List.Pairwise.nil
 |k+1=>by
  rw[oz,aS,dL];have c:((L.getD k []).map (·.1)).Nodup:=by
   rw[au]
   cases d:L[k]? with
   |none=>exact List.Pairwise.nil
   |some l=>exact h l (ak d)
  refine⟨Nc h k,?_,λa f b g=>?_⟩
  .refine((nL _).map uV).nodup_iff.2 ?_;rw[cE];unfold List.Nodup at c⊢;rw[iw] at c⊢;exact c.imp λh e=>h (congrArg Prod.snd e)
  obtain⟨x,d,rfl⟩:=aN.1 f;obtain⟨y,j,rfl⟩:=aN.1 g;obtain⟨i,m,p,_,rfl⟩:=D7 d;obtain⟨q,_,rfl⟩:=aN.1 ((nL _).mem_iff.1 j);intro e;have:(i:Int)=(k:Int):=congrArg Prod.fst e;omega
def RG{S:Sx}{C:Ck}{k:Nat}:∀l∈A4 S C k,(l.map (·.1)).Nodup:=λl a=>by
 obtain⟨i,_,rfl⟩:=aN.1 a
 split
 .exact(I9 S C i).n
 exact List.Pairwise.nil
def D8{S:Sx}{C:Ck}{o:Of}(h:o∈dN S C):∃i:Nat,i<S.s.bd.length/\(S.bd.getD i gR).out=false/\o.b=i/\(1<=o.v/\o.v<=1000000)/\iO S.s i (S.s.bd.getD i zN) o.want=0:=by
 unfold dN at h
 split at h
 .cases h
 obtain⟨i,a,p,c,rfl⟩:=D7 h;rw[qV] at a;rw[au,wL a,ag a] at c;have d:=(I9 S C i).v p c;refine⟨i,a,?_,rfl,d.1,d.2⟩
 cases ho:(S.bd.getD i gR).out with
 |false=>rfl
 |true=>
  rw[BU,ag ho] at c
  cases c
def C5{S:Sx}{C:Ck}(e:S.s.Ok):Rj S.s (dN S C):=by
 have f:=e.bd.l2;refine⟨?_,λo h=>?_,λo h=>?_,λo h=>?_,?_⟩
 .unfold dN
  split
  .decide
  have:=zR (L:=A4 S C S.s.bd.length) GU (A4 S C S.s.bd.length).length;rw[qV] at this;show(oz _ (A4 S C S.s.bd.length).length).length<=320;rw[qV];omega
 .obtain⟨i,b,_,a,_⟩:=D8 h;omega
 .obtain⟨i,b,_,a,c,_⟩:=D8 h;exact c
 .obtain⟨i,b,_,a,c,d⟩:=D8 h;exact aa6 d
 unfold dN
 split
 .exact List.Pairwise.nil
 exact Nc RG _
def JK(S:Se)(x:Of):oN S.er x=oN S x:=by unfold oN iO;rfl
theorem HC(S:Se)(l:List Of):∀k,lQ S.er l k=lQ S l k
 |0=>rfl
 |k+1=>by rw[lQ,lQ,JK,HC S l k];rfl
theorem HB(S:Se)(l:List Of):∀k,qY S.er l k=qY S l k
 |0=>rfl
 |k+1=>by rw[qY,qY,JK,HB S l k]
def Da{S:Sx}{C:Ck}{w a:ah}(h:BR S C w)(hc:aZ w a []):BR S C a:=
 ⟨⟨h.h.1.aK hc,λy c=>(h.h.2 y c).aK hc⟩,λq b=>let ⟨g,e,r⟩:=h.k q b;⟨g,e,r.aK hc⟩⟩
section
variable {w0 w:ah} {b:Nat} {S:Sx} {C:Ck} {B:bP}
def N7(s:St w0 w (star (xH b S C) B)):CP 12 #[pt b] w (λr c=>r=iv S.ph/\c=w):=by
 refine oC.1.2.2.1 ?_;obtain⟨e,d,rfl,rfl,f,a⟩:=mz s;exact⟨_,(a.aj 0 rfl 4).trans rfl,rfl,rfl⟩
def aay{S:Sx}(h:S.bd.length=8):S.cells.toArray[100]?=some (.int .u64 S.dig):=by
 obtain⟨o,n,s,k,m,dec,a,b⟩:=S;obtain⟨c,d,e,f,g,i,j,l,rfl⟩:=iU h;rfl
def He(s:St w0 w (star (xH b S C) B))(a:tJ S C):CP 13 #[pt b] w (λr e=>r=.int .u64 S.dig/\e=w):=by
 refine(p6 tO.2).2.2.2.1 ?_;obtain⟨g,f,rfl,rfl,h,d⟩:=mz s;have c:=(rX a).b8;exact⟨_,(d.aj 0 rfl 100).trans (aay c),rfl,rfl⟩
def Gf(s:St w0 w (star (xH b S C) B))(d:tJ S C):CP 17 #[pt b] w (λr g=>∃a c,r=.slice a (dN S C).length c/\St w g (star (dB a c (dN S C)) emp)):=by
 obtain⟨i,h,rfl,rfl,f,e⟩:=mz s;rw[Ar];exact zB (e.cellsIn 0 rfl) (e.eu 1 rfl) (rX d) f
def WY(s:St w0 w (star (xH b S C) B))(y:tJ S C)(L:S.ph=3):CP 18 #[pt b] w (λr I=>
  (160<(lQ S.s (dN S C) (dN S C).length).length/\r=.tuple #[.agg vo,.slice none 0 0,iv 3]/\aZ w I [])\/((lQ S.s (dN S C) (dN S C).length).length<=160/\∃(i j n:OA) (k m o:Nat),r=.tuple #[.agg (xm (dD S.s.ps) (qS S.s.ps S.s.sa).1 (qS S.s.ps S.s.sa).2 (.slice i (S.s.bd.map Br.cls).length k) (.slice j (lQ S.s (dN S C) (dN S C).length).length m)),.slice n (qY S.s (dN S C) (dN S C).length).length o,iv 0] /\
   St w I (Sep [pJ n o (qY S.s (dN S C) (dN S C).length),pJ i k (S.s.bd.map Br.cls),dB j m (lQ S.s (dN S C) (dN S C).length),emp]))):=by
 refine pY ?_;obtain⟨d,e,rfl,rfl,K,H⟩:=mz s;have g:=rX y;have z:d.ph=3:=L;have F:=g.so (by omega);rw[Ar,show lQ d.er.s (dN d e) (dN d e).length=lQ d.s (dN d e) (dN d e).length from HC _ _ _,show qY d.er.s (dN d e) (dN d e).length=qY d.s (dN d e) (dN d e).length from HB _ _ _];refine(St.start w).one.aY vo λQ O G=>?_;have t:=H.cellsIn 0 rfl;have E:=H.eu 1 rfl;refine⟨λx D=>x=false/\D=O,?_,_,yl t G.aK 4 rfl,cF (by rw[z];rfl) ⟨rfl,rfl⟩⟩;rintro D x ⟨rfl,rfl⟩-;have u:=G.quiet (aZ.drew D []);have v:=Da E u.aK;refine cF rfl (Ex8<|Ex4<|⟨Gz t u.aK,bg (zB (ff u.aK t) v g K) ?_⟩);rintro _ R ⟨a,c,rfl,M⟩;have p:=St.cat (l:=[dB a c (dN d e)]) (u.and M);refine⟨_,_,_,rfl,Gz t p.aK,bg (Nl (Da E p.aK).h.1 F (St.rd Of.len p) (C5 F)) ?_⟩;rintro _ T (⟨f,rfl,J⟩|⟨f,i,j,n,k,m,o,rfl,N⟩)
 .have A:=p.quiet J;exact⟨z6,z6,z6,Ex8 ⟨_,_,rfl,A.aR 1 rfl vo.toList rfl (nM _ _ _ rfl rfl) λP q=>⟨z6,z6,z6,Ex4 ⟨_,_,q.cellsIn 1 rfl,.inl ⟨f,rfl,q.aK⟩⟩⟩⟩⟩
 have A:=St.cat (l:=[pJ n o (qY d.s (dN d e) (dN d e).length),pJ i k (d.s.bd.map Br.cls),dB j m (lQ d.s (dN d e) (dN d e).length),emp]) (p.and N);refine⟨dD d.s.ps,(qS d.s.ps d.s.sa).1,(qS d.s.ps d.s.sa).2,Ex8 ⟨_,_,rfl,A.aR 5 rfl (xm (dD d.s.ps) (qS d.s.ps d.s.sa).1 (qS d.s.ps d.s.sa).2 (.slice i (d.s.bd.map Br.cls).length k) (.slice j (lQ d.s (dN d e) (dN d e).length).length m)).toList rfl (nM _ _ _ rfl rfl) λP q=>⟨dD d.s.ps,(qS d.s.ps d.s.sa).1,(qS d.s.ps d.s.sa).2,Ex4 ⟨_,_,q.cellsIn 5 rfl,.inr ⟨f,i,j,n,k,m,o,rfl,q.aM [0,1,2,9]⟩⟩⟩⟩⟩
def abG(s:St w0 w (star (xH b S C) B)){i:Nat}:CP 92 #[pt b,iv i] w (λr d=>r=.bool (decide ((i:Int)<(S.s.bd.length:Int)))/\d=w):=by
 refine uq ?_;obtain⟨a,e,rfl,rfl,f,c⟩:=mz s;exact cT (dT (by omega)) ⟨a.s.a2,a.s.bd.length,a.s.c2,(c.aj 0 rfl 6).trans rfl,rfl,rfl⟩
def ZM(s:St w0 w (star (xH b S C) B))(a:tJ S C){i:Nat}(hi:i<S.s.bd.length)(e:i<8):CP 41 #[pt b,iv i] w (λr g=>r=.bool (S.bd.getD i gR).out/\g=w):=by
 refine tE (kR (abG s) ?_);obtain⟨c,h,rfl,rfl,j,f⟩:=mz s;have d:=(rX a).b8;refine⟨_,rfl,cT (dT (by omega)) ⟨by omega,by omega,(c.bd.getD i gR).out,?_,?_,rfl⟩⟩
 .rw[XV,gW,f.aj 0 rfl];exact MR d e (getD_at (by omega))
 rw[oW];rfl
def Jn(s:St w0 w (star (xH b S C) B))(e:tJ S C):CP 32 #[pt b] w (λr j=>(S.ph=0/\r=.pointer none/\aZ w j [])\/(S.ph≠0/\∃(g:Nat) (c:Ck),r=pt g/\c.er=C/\St w j (held (c.Rd g)))):=by
 obtain⟨k,q,rfl,rfl,o,i⟩:=mz s;have a:=rX e;refine bg (Um (i.cellsIn 0 rfl) a.b8 (i.eu 1 rfl) a o) ?_;rintro v t ⟨p,c,rfl,l,f,h⟩
 by_cases d:k.ph=0
 .have m:=f.1 d;subst m;exact⟨_,rfl,.inl ⟨d,rfl,St.aK h⟩⟩
 obtain⟨g,n⟩:=f.2 d;subst n;have m:=h;exact⟨_,rfl,.inr ⟨d,g,c,rfl,l,m.weak (nY.weak BV)⟩⟩
end
def Wp{b:Nat}{C:Ck}{w:ah}(h:C.Rd b w):CP 37 #[pt b] w (λr a=>r=.bool C.ov/\a=w):=by
 exact(p6 (p6 tO.2)).1 ⟨_,h.cell 18 rfl,rfl,rfl⟩
def adF(b:I6)(v:Int)(x:Of):Int:=if x.v>v/\within x.want b=true then x.v else v
def adE(l:List Of)(b:I6):Int:=l.foldl (adF b) 0
def ac1(x:Of):Bool:=x.want.l.all lX&&(decide (1<=x.v)&&decide (x.v<=1000000))
def ac2(l:List Of):List Of:=l.filter ac1
def aaK(l:List Of)(p b:I6):Int:=if rG p=true/\b.l.all lX=true then adE (ac2 l) b-cost p b else 0
def Mg{b:I6}(h:b.l.all lX=true):I6.Le b 4:=λk a=>by
 have:=bw.1 h _ (ak (b.vG k a));simpa[lX] using this
def ab0(S:Se)(n:Nat)(y:Br)(p u:I6):Bool:=decide (iO S n y u=0)&&decide (yB y ⟨p,u⟩=0)
def abi(S:Se)(n:Nat)(y:Br)(l:List Of)(p:I6)(σ:I6×Int)(u:I6):I6×Int:=if aaK l p u>σ.2/\ab0 S n y p u=true then (u,aaK l p u) else σ
def XZ(S:Se)(n:Nat)(y:Br)(l:List Of)(p m:I6):Nat->I6×Int
 |0=>(z6,aaK l p z6)
 |i+1=>abi S n y l p (XZ S n y l p m i) (cK m i)
def ac0(S:Se)(n:Nat)(y:Br)(l:List Of)(p:I6):I6:=(XZ S n y l p (dD S.ps) (bI (dD S.ps))).1
section
variable {w0 w:ah} {B:bP} {m:I6} {l D:Nat} {lp:Loop}
end
def aaN:Br:=⟨[],0,0,0⟩
def abo(S:Se)(n:Int)(l:List Of)(p:I6):I6×Int:=if yX S≠0 then (z6,yX S) else if n<0\/n>=(S.bd.length:Int) then (z6,6) else if rG p=false then (z6,4) else (ac0 S n.toNat (S.bd.getD n.toNat aaN) l p,0)
def St.pk{w0 w:ah}{l m:List bP}(s:St w0 w (Sep (l++m))):St w0 w (Sep (l++[Sep m])):=(s.split l).open
def St.upk{w0 w:ah}{l m:List bP}(s:St w0 w (Sep (l++[Sep m]))):St w0 w (Sep (l++m)):=s.shut.cat
def Ec(S:Se)(o:Po):Int:=if yX S≠0 then yX S else pV o
structure Lx where
 a:Option Addr
 c:Nat
 l:List Of
def agM(S:Se)(C:Ck)(k:Nat)(l:List Of):Ck:=
 if mb C k (S.bd.getD k aaN) (abo S k l C.p).1=0 then uJ C k (abo S k l C.p).1 else if mb C k (S.bd.getD k aaN) z6=0 then uJ C k z6 else C
def rdN(S:Se)(L:List Lx)(C:Ck):Nat->Ck
 |0=>C
 |k+1=>agM S (rdN S L C k) k ((L[k]?.map Lx.l).getD [])
section
variable {b:Nat} {C:Ck} {w0 w:ah} {B:bP} {S:Se} {al:OA} {cl:Nat} {L:List Lx}
end
def oA(C:Ck)(n:Int):List Ch:=if n<0\/(C.s.bd.length:Int)<=n then [] else p9 C n.toNat
abbrev CG (a:OA) (c:Nat) (l:List Ch):bP:=iQ 158 12 Ch.cells a c l
def RT(C:Ck)(n:Int):(oA C n).length<=C.cl.length:=by
 unfold oA p9
 split<;>simp
end Go.Proofs.YtmhhlijfepaphaaGreatDoor
set_option maxHeartbeats 4000000
namespace Go.Proofs.YtmhhlijfepaphaaGreatDoor
open Go Go.Vc Go.Vt _root_.Go.Proofs.Tryz
def uS:=zl (And.intro (many xP [en func74 [] [(26,[(3,.s (.int .i64))]),(420,[(17,.s .bool)])],en func215 [] [(122,[(3,.s (.int .i64)),(4,.s (.int .i64))])],en func297 [] [(26,[(3,.s (.int .i64))]),(420,[(17,.s .bool)])],en func218 [] [(26,[(5,.s (.int .i64))])],en func298 [] [(58,[(5,.s (.int .i64)),(6,.s (.int .i64))])],en func217 [] [(122,[(3,.s .slice),(4,.s (.int .i64))]),(31306,[(5,.s .slice),(6,.s (.int .i64))]),(2003602,[(5,.s .slice),(7,.s (.int .i64))])],en func97 [] [(58,[(4,.s (.int .i64))]),(232,[(12,.s .bool)])],en func158 [] [(14,[(21,.s .bool)]),(122,[(9,.s (.int .i64)),(10,.s (.int .i64)),(11,.s (.int .i64)),(12,.s (.int .i64))]),(7826,[(9,.s (.int .i64)),(10,.s (.int .i64)),(11,.s (.int .i64)),(13,.s (.int .i64))]),(31305,[(9,.s (.int .i64)),(10,.s (.int .i64)),(11,.s (.int .i64))])],en func157 [] [(122,[(6,.s (.int .i64))]),(250,[(7,.s (.int .i64))])],en func141 [] [(30,[(30,.s .bool)]),(2042,[(11,.s (.int .i64))]),(32676,[(79,.s .bool)]),(4090,[(12,.s (.int .i64))]),(261779,[(116,.s .bool)])],en func197 [] [],en func198 [] [(58,[(5,.s (.int .i64)),(6,.s (.int .i64))])],en func142 [] [(14,[(31,.s .bool)])],en func213 [] []] (by conv=>lhs;reduce) (by kernel_rfl) id) (many xP [en func151 [] [(26,[(3,.s (.int .i64))])],en func214 [] [],en func211 [] [],en func152 [] [(58,[(7,.s (.int .i64)),(8,.s (.int .i64))]),(233,[(7,.s (.int .i64))]),(122,[(7,.s (.int .i64)),(9,.s (.int .i64))]),(489,[(7,.s (.int .i64))]),(1956,[(50,.s .bool)])],en func212 [] [(6,[(16,.s .bool)]),(122,[(7,.s (.int .i64)),(8,.s (.int .i64))]),(489,[(7,.s (.int .i64))])],en func148 [] [(58,[(6,.s (.int .i64))]),(122,[(7,.s (.int .i64))])]] (by conv=>lhs;reduce) (by kernel_rfl) id)) λx=>by
 dsimp only[qq,qm,qk,qj,qy,qA,qB,GH,uv,en,FG,wrap,dc,dn,DH,gU,ID,U.I,U.B,U.S,U.N,U.A,U.O,U.W,U.V,U.L,U.U6,U.C,U.M,U.F,U.E,HV,HA,GM,zS,jU,gJ,vZ,vI,TJ,Nat.reduceSub,Nat.reduceAdd,Int.reduceOfNat,Int.reduceNeg,UInt8.reduceOfNat] at x
 exact x
def Ku:=uS.2.2.2.1
end Go.Proofs.YtmhhlijfepaphaaGreatDoor
namespace Go.Proofs.YtmhhlijfepaphaaGreatDoor
open Go Go.Vc _root_.Go.Proofs.Tryz
def BJ(w:ah)(u:I6):CP 156 #[.agg u.vs.toArray] w (λr j=>r=.bool (u.l.all lX)/\aZ w j []):=by
 refine(p6 rF.1).1 (bE u.vs.toArray λs o d=>⟨λn e m=>∃k:Nat,n=k/\k<=6/\m=6-k/\(u.l.take k).all lX=true/\e=o,⟨6,0,rfl,by omega,by omega,rfl,rfl⟩,?_⟩);rintro e m n ⟨k,rfl,p,q,g,rfl⟩-
 by_cases c:(k:Int)<6
 .have a:k<6:=by omega
  have g2:=u.vG k a;refine di c ⟨λb h=>b = !lX (u.at' k)/\h=e,?_,by omega,by omega,u.at' k,by rw[iC,br d 0 rfl a],?_⟩
  .rintro h b ⟨rfl,rfl⟩-
   cases hx:lX (u.at' k) with
   |true=>exact cF rfl ⟨6-(k+1),by omega,k+1,inc (by decide) a,by omega,rfl,qD g g2 hx,rfl⟩
   |false=>exact cT rfl ⟨by rw[td g2 hx],d.aK⟩
  refine cBq (λi=>⟨by simp[lX];omega,rfl⟩) λi=>⟨by omega,by omega,u.at' k,by rw[iC,br d 0 rfl a],?_,rfl⟩;unfold lX;rw[dT (show 0<=u.at' k by omega),aO]
  by_cases f:u.at' k<=4
  .rw[dT f,dF (by omega)];rfl
  rw[dF f,dT (by omega)];rfl
 obtain rfl:k=6:=by omega
 refine dz c ⟨?_,d.aK⟩;rw[show u.l.all lX=true from g]
def mw(w:ah)(u:I6):CP 74 #[.agg u.vs.toArray] w (λr j=>r=iv (if u.l.all lX then 0 else 4)/\aZ w j []):=by
 refine uS.1.1 (bE u.vs.toArray λs o d=>⟨λn e m=>∃k:Nat,n=k/\k<=6/\m=6-k/\(u.l.take k).all lX=true/\e=o,⟨6,0,rfl,by omega,by omega,rfl,rfl⟩,?_⟩);rintro e m n ⟨k,rfl,p,q,g,rfl⟩-
 by_cases c:(k:Int)<6
 .have a:k<6:=by omega
  have g2:=u.vG k a;refine di c ⟨λb h=>b = !lX (u.at' k)/\h=e,?_,by omega,by omega,u.at' k,by rw[iC,br d 0 rfl a],?_⟩
  .rintro h b ⟨rfl,rfl⟩-
   cases hx:lX (u.at' k) with
   |true=>exact cF rfl ⟨6-(k+1),by omega,k+1,inc (by decide) a,by omega,rfl,qD g g2 hx,rfl⟩
   |false=>exact cT rfl ⟨by rw[td g2 hx];rfl,d.aK⟩
  refine cBq (λi=>⟨by simp[lX];omega,rfl⟩) λi=>⟨by omega,by omega,u.at' k,by rw[iC,br d 0 rfl a],?_,rfl⟩;unfold lX;rw[dT (show 0<=u.at' k by omega),aO]
  by_cases f:u.at' k<=4
  .rw[dT f,dF (by omega)];rfl
  rw[dF f,dT (by omega)];rfl
 obtain rfl:k=6:=by omega
 refine dz c ⟨?_,d.aK⟩;rw[show u.l.all lX=true from g];rfl
def KH(w:ah)(p:I6):CP 297 #[.agg p.vs.toArray] w (λr i=>r=.bool (rG p)/\aZ w i []):=by
 refine uS.1.2.2.1 (bE p.vs.toArray λs j c=>⟨λn e m=>∃k:Nat,n=k/\k<=6/\m=6-k/\(p.l.take k).all rz=true/\e=j,⟨6,0,rfl,by omega,by omega,rfl,rfl⟩,?_⟩);rintro e m n ⟨k,rfl,o,q,f,rfl⟩-
 by_cases d:(k:Int)<6
 .have a:k<6:=by omega
  refine di d ⟨λb h=>b = !rz (p.at' k)/\h=e,?_,by omega,by omega,p.at' k,by rw[iC,br c 0 rfl a],?_⟩
  .rintro h b ⟨rfl,rfl⟩-
   cases hx:rz (p.at' k) with
   |true=>exact cF rfl ⟨6-(k+1),by omega,k+1,inc (by decide) a,by omega,rfl,qD f (p.vG k a) hx,rfl⟩
   |false=>exact cT rfl ⟨by rw[rG,td (p.vG k a) hx],c.aK⟩
  refine cBq (λg=>⟨by simp[rz];omega,rfl⟩) λg=>⟨by omega,by omega,p.at' k,by rw[iC,br c 0 rfl a],?_,rfl⟩
  by_cases g2:p.at' k>1000000
  .rw[dT g2];simp[rz];omega
  rw[dF g2];simp[rz];omega
 obtain rfl:k=6:=by omega
 refine cF (by simp) ⟨?_,c.aK⟩;rw[rG,show p.l.all rz=true from f]
def KN(w:ah)(u v:I6):CP 218 #[.agg u.vs.toArray,.agg v.vs.toArray] w (λr s=>r=.bool (within u v)/\aZ w s []):=by
 refine uS.1.2.2.2.1 (bE u.vs.toArray λl y p=>p.aY v.vs.toArray λo z q=>⟨λn d m=>∃k:Nat,n=k/\k<=6/\m=6-k/\(∀j,j<k->u.at' j<=v.at' j)/\St w d (Sep [ay o v.vs.toArray 50,ay l u.vs.toArray 50,emp]),⟨6,0,rfl,by omega,by omega,λj i=>by omega,q⟩,?_⟩);rintro d m n ⟨k,rfl,t,x,f,h⟩-
 by_cases c:(k:Int)<6
 .have a:k<6:=by omega
  have b:=h.quiet (aZ.drew d []);refine di c ⟨by omega,by omega,u.at' k,by rw[iC,br b 1 rfl a],by omega,by omega,v.at' k,by rw[iC,br b 0 rfl a],cBq (λg=>⟨?_,b.aK⟩) λg=>⟨6-(k+1),by omega,k+1,inc (by decide) a,by omega,rfl,λj i=>?_,b⟩⟩
  .cases hw:within u v with
   |false=>rfl
   |true=>have:=within_iff.1 hw k a;omega
  rcases aQ j k with e |e
  .exact f j e
  obtain rfl:j=k:=by omega
  omega
 obtain rfl:k=6:=by omega
 exact cF (by simp) ⟨by rw[within_iff.2 f],h.aK⟩
def Jq{p u:I6}(f:I6.Le p 1000000)(g:I6.Le u 4){k:Nat}(b:k<6):0<=p.at' k*u.at' k/\p.at' k*u.at' k<=4000000:=by
 obtain⟨c,d⟩:=f k b;obtain⟨a,e⟩:=g k b;refine⟨dh c a,?_⟩;have:=mP d e a (by omega);omega
def P6(w:ah){p u:I6}(i:I6.Le p 1000000)(j:I6.Le u 4):CP 298 #[.agg p.vs.toArray,.agg u.vs.toArray] w (λr v=>r=iv (cost p u)/\aZ w v []):=by
 refine uS.1.2.2.2.2.1 (bE p.vs.toArray λl A q=>q.aY u.vs.toArray λo B t=>⟨λs n e m=>∃k:Nat,n=k/\k<=6/\m=6-k/\(s=Fi p u k/\0<=s/\s<=(k:Int)*4000000)/\St w e (Sep [ay o u.vs.toArray 50,ay l p.vs.toArray 37,emp]),⟨6,0,rfl,by omega,by omega,⟨rfl,by simp,by simp⟩,t⟩,?_⟩);rintro e m s n ⟨k,rfl,y,z,⟨c,g,h⟩,f⟩-
 by_cases b:(k:Int)<6
 .have a:k<6:=by omega
  have d:=f.quiet (aZ.drew e []);have x:=Jq i j a;refine di b ⟨by omega,by omega,p.at' k,by rw[iC,br d 1 rfl a],by omega,by omega,u.at' k,by rw[iC,br d 0 rfl a],6-(k+1),by omega,k+1,inc (by decide) a,by omega,rfl,?_,d⟩;rw[fQ (n:=p.at' k*u.at' k) ⟨by omega,by omega⟩,gC (by omega),uO,c];rw[c] at g h;refine⟨rfl,by omega,by omega⟩
 obtain rfl:k=6:=by omega
 exact cF (by simp) ⟨by rw[c,zZ],f.aK⟩
def BG(w:ah){p u:I6}(i:I6.Le p 1000000)(j:I6.Le u 4):CP 198 #[.agg p.vs.toArray,.agg u.vs.toArray] w (λr v=>r=iv (cost p u)/\aZ w v []):=by
 refine(p6 uS.1).2.2.2.2.2.1 (bE p.vs.toArray λl A q=>q.aY u.vs.toArray λo B t=>⟨λs n e m=>∃k:Nat,n=k/\k<=6/\m=6-k/\(s=Fi p u k/\0<=s/\s<=(k:Int)*4000000)/\St w e (Sep [ay o u.vs.toArray 50,ay l p.vs.toArray 37,emp]),⟨6,0,rfl,by omega,by omega,⟨rfl,by simp,by simp⟩,t⟩,?_⟩);rintro e m s n ⟨k,rfl,y,z,⟨c,g,h⟩,f⟩-
 by_cases b:(k:Int)<6
 .have a:k<6:=by omega
  have d:=f.quiet (aZ.drew e []);have x:=Jq i j a;refine di b ⟨by omega,by omega,p.at' k,by rw[iC,br d 1 rfl a],by omega,by omega,u.at' k,by rw[iC,br d 0 rfl a],6-(k+1),by omega,k+1,inc (by decide) a,by omega,rfl,?_,d⟩;rw[fQ (n:=p.at' k*u.at' k) ⟨by omega,by omega⟩,gC (by omega),uO,c];rw[c] at g h;refine⟨rfl,by omega,by omega⟩
 obtain rfl:k=6:=by omega
 exact cF (by simp) ⟨by rw[c,zZ],f.aK⟩
def DE(m:I6):Int:=if m.l.all lX=true/\pr m.l<=1024 then pr m.l else 0
def zv(w:ah)(m:I6):CP 215 #[.agg m.vs.toArray] w (λr p=>r=iv (DE m)/\aZ w p []):=by
 refine uS.1.2.1 (bE m.vs.toArray λv q j=>⟨m,j.cellsIn 0 rfl,j.qu (mw q m) λs c=>⟨_,rfl,?_⟩⟩)
 cases hq:m.l.all lX with
 |false=>exact cT rfl ⟨by rw[DE,af (by rw[hq];simp)],c.aK⟩
 |true=>
  have f:=Mg hq;have e:∀k,k<=6->1<=CB m k/\CB m k<=15625:=λk b=>by
   have h:=o8 (A3 f) k b;refine⟨by omega,bM h.2.2 ?_⟩
   match k,b with
   |0,_|1,_|2,_|3,_|4,_|5,_|6,_=>decide
  refine cF rfl ⟨λn i h mm=>∃k:Nat,i=k/\k<=6/\mm=6-k/\n=CB m k/\h=s,⟨6,0,rfl,by omega,by omega,rfl,rfl⟩,?_⟩;rintro h mm n i ⟨k,rfl,b,o,rfl,rfl⟩-
  by_cases d:(k:Int)<6
  .have a:k<6:=by omega
   have t:=f k a;have u:=e k b;have g:=e (k+1) (by omega);refine di d ⟨by omega,by omega,m.at' k,by rw[iC,br c 0 rfl a],6-(k+1),by omega,k+1,inc (by decide) a,by omega,rfl,?_,rfl⟩;rw[CB] at g⊢;rw[fQ (n:=m.at' k+1) ⟨by omega,by omega⟩,gC (by omega)]
  obtain rfl:k=6:=by omega
  exact cF (by simp) (cBq (λg=>⟨by rw[DE,af (by rw[uE];omega)],c.aK⟩) λg=>⟨by rw[DE,ag ⟨hq,by rw[uE];omega⟩,uE],c.aK⟩)
abbrev sT (r:List UInt8):List Value:=[sv r]
def jC(l:List UInt8):(bs l).size=l.length:=by simp[bs,ByteArray.size]

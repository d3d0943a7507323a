import Derived.Lib.ItoaLen
import Derived.Test.YtmhhlijfepaphaaGreatDoorH12
set_option linter.all false
set_option maxRecDepth 100000
namespace Go.Proofs.YtmhhlijfepaphaaGreatDoor
open Go Go.Vc _root_.Go.Proofs.Tryz
def rH{w:ah}{s:Se}(h:s.In w):CP 139 #[.agg s.arr] w ((Cj s.Ok (yX s) w)):=by
 refine rF.2.1.1 (dH ?_);have N:=(St.start w).one.jR #[.slice s.a1 s.ps.length s.c1,.slice s.a2 s.bd.length s.c2,.slice s.a3 s.cp.length s.c3,.slice s.a4 s.sa.length s.c4] 34;generalize hw1:w.alloc _=V at N⊢;generalize hr1:w.heap.size=r1 at N⊢;have C:∀{A:ah},aZ V A []->∀(j:Nat) (v:Value),(#[.slice s.a1 s.ps.length s.c1,.slice s.a2 s.bd.length s.c2,.slice s.a3 s.cp.length s.c3,.slice s.a4 s.sa.length s.c4]:Array Value)[j]?=some v->A.cell? ⟨r1,j,none⟩=some v:=λg j v hv=>iV (by rw[N.aj 0 rfl];exact hv) g;have z1:aZ V V []:=aZ.refl _ _;refine⟨_,_,_,C z1 0 _ rfl,bg (xx (h.aK N.aK).ps) ?_⟩;rintro v H ⟨⟨rfl,e1⟩,d2⟩;generalize hn1:Fg s.ps=n1 at e1⊢;refine⟨_,rfl,λn2 w3=>aZ V w3 []/\((n2=0/\(Fg s.ps=0/\FM s.bd=0)/\iu s.ps/\Di s.bd)\/(n2≠0/\yX s=n2/\¬ s.Ok)),?_,?_⟩
 .rintro w3 n2 ⟨d3,hn⟩-;rcases hn with⟨rfl,⟨hz1,hz2⟩,hP,hB⟩|⟨h0,hse,hno⟩
  .have hcE:∀{e:Int},e≠0->LF s.bd.length s.cp=e->yX s=e:=λhe h=>by rw[yX,af (λh=>h hz1),af (λh=>h hz2),h,ag he]
   refine cF rfl ⟨_,_,_,C d3 2 _ rfl,?_⟩;rcases aQ 16 s.cp.length with h6|h6
   .exact di (by omega) (dM (by decide) (λd=>by have:=d.cp.l1;omega) (N.aK.trans d3 (by simp)) (hcE (by decide) (by rw[LF,ag h6])))
   refine dz (by omega) ⟨λn H m=>∃k:Nat,n=k/\k<=s.cp.length/\m=s.cp.length-k/\(∀i p,i<k->s.cp[i]?=some p->FC s.bd.length s.cp i p)/\aZ V H [],⟨s.cp.length,0,rfl,by omega,by omega,λi p Z=>by omega,d3⟩,?_⟩;rintro H m n ⟨k,rfl,hk,hm,O,g⟩-;have E:aZ w H []:=N.aK.trans g (by simp);refine⟨_,_,_,C g 2 _ rfl,?_⟩
   by_cases P:(k:Int)<(s.cp.length:Int)
   .obtain⟨x,Q⟩:=dX s.cp k (by omega);obtain⟨q,U,Y⟩:=(h.cp.aK E) k x Q;have B:¬ FC s.bd.length s.cp k x->¬ s.Ok:=λhb d=>hb (d.cp.good k x Q);have W:∀{e:Int},e≠0->LD s.bd.length s.cp k x=e->yX s=e:=λhe h=>hcE he (by
     have:=nS (f:=LD s.bd.length s.cp) (n:=0) (λi p Z d=>by rw[az];exact zX (O i p Z d)) Q (by rw[az,h];exact he);rw[az,h] at this;rw[LF,af (by omega),this])
    have R:∀{A:ah},aZ w A []->∀(j:Nat) (y:T3),s.cp[j]?=some y->A.cell? (q.add (j*3))=some (iv y.a)/\A.cell? ((q.add (j*3)).add 1)=some (iv y.b):=λX j y G=>by
     obtain⟨q',L,u⟩:=(h.cp.aK X) j y G;rw[U] at L;cases L;have:=u.1;exact⟨by rwa [Addr.add_add] at this,u.2.1⟩
    refine gM P ⟨_,_,_,C g 2 _ rfl,?_⟩;rw[U];refine⟨by omega,by omega,_,_,_,Y,dH (((St.start H).one.jR _ 139).aR 0 rfl x.cells rfl x.one λF s4=>?_)⟩;generalize hr2:H.heap.size=r2 at s4⊢;have d4:aZ V F []:=g.trans s4.aK (by simp);have o:aZ w F []:=N.aK.trans d4 (by simp);have r:∀{A:ah},aZ F A []->∀(j:Nat) (v:Value),x.cells[j]?=some v->A.cell? ⟨r2,j,none⟩=some v:=λg j v hv=>iV (by rw[s4.aj 0 rfl];simpa using hv) g;have S:aZ F F []:=aZ.refl _ _;refine⟨λb D=>D=F/\b = !(decide (-1<=x.a)&&decide (x.a<(s.bd.length:Int))),?_,?_⟩
    .rintro D b ⟨rfl,rfl⟩-
     cases g0:(decide (-1<=x.a)&&decide (x.a<(s.bd.length:Int))) with
     |false=>exact cT rfl (dM (by decide) (B λK=>by have:=K.1;unfold zV at this;rw[g0] at this;cases this) o (W (by decide) (by rw[LD,ag g0])))
     |true=>
      have d45:aZ D D []:=aZ.refl _ _;refine cF rfl ⟨λb w6=>w6=D/\b = !((decide (0<=x.b)&&decide (x.b<=4))&&(decide (0<=x.c)&&decide (x.c<=24))),?_,?_⟩
      .rintro w6 b ⟨rfl,rfl⟩-
       cases g1:((decide (0<=x.b)&&decide (x.b<=4))&&(decide (0<=x.c)&&decide (x.c<=24))) with
       |false=>exact cT rfl (dM (by decide) (B λK=>by have:=K.1;unfold zV at this;rw[g0,g1] at this;cases this) (o.trans d45 (by simp)) (W (by decide) (by rw[LD,g0,g1];rfl)))
       |true=>
        refine cF rfl ⟨λn I m=>∃j:Nat,n=j/\j<=k/\m=k-j/\(s.cp.take j).any (λp=>kI x p)=false/\aZ w6 I [],⟨k,0,rfl,by omega,by omega,rfl,d45⟩,?_⟩;rintro I m7 n7 ⟨j,rfl,hj,hm7,t,c7⟩-
        by_cases hjk:(j:Int)<(k:Int)
        .obtain⟨y,G⟩:=dX s.cp j (by omega);have J:aZ w6 I.drew []:=c7.trans (aZ.drew I []) (by simp);have e8:aZ w I.drew []:=o.trans J (by simp);have z:kI x y=true->((s.cp.take k).any λq=>kI x q)=true:=λM=>jQ (p:=λq=>kI x q) (show(s.cp.take k)[j]?=some y by rw[bz,ag (by omega)];exact G) M;have hit:kI x y=true->¬ s.Ok:=λM=>B λK=>by have h1:=K.2;rw[z M] at h1;cases h1
         refine gM hjk ⟨λb w10=>w10=I.drew/\b=kI x y,?_,_,_,_,C (d4.trans J (by simp)) 2 _ rfl,?_⟩
         .rintro w10 b ⟨rfl,rfl⟩-
          cases M:kI x y with
          |true=>exact cT rfl (dM (by decide) (hit M) e8 (W (by decide) (by rw[LD,g0,g1,z M];rfl)))
          |false=>exact cF rfl ⟨k-(j+1),by omega,j+1,by rw[gC (by omega)];rfl,by omega,rfl,jy t G M,J⟩
         rw[U];refine⟨by omega,by omega,_,(R e8 j y G).1,_,r J 0 _ rfl,cBq (λT=>⟨_,_,_,C (d4.trans J (by simp)) 2 _ rfl,?_⟩) λT=>⟨rfl,by simp[kI,T]⟩⟩;rw[U];refine⟨by omega,by omega,_,(R e8 j y G).2,_,r J 1 _ rfl,rfl,?_⟩;simp[kI,T]
        obtain rfl:j=k:=by omega
        refine cF (by simp) ⟨s.cp.length-(j+1),by omega,j+1,by rw[gC (by omega)];rfl,by omega,rfl,λi p Z d=>?_,d4.trans c7 (by simp)⟩;rcases aQ i j with h' |h'
        .exact O i p h' d
        obtain rfl:i=j:=by omega
        rw[Q] at d;cases d;exact⟨by unfold zV;rw[g0,g1];rfl,t⟩
      have no:¬ (0<=x.b/\x.b<=4/\0<=x.c/\x.c<=24)->true = !((decide (0<=x.b)&&decide (x.b<=4))&&(decide (0<=x.c)&&decide (x.c<=24))):=λhh=>by
       cases hr:((decide (0<=x.b)&&decide (x.b<=4))&&(decide (0<=x.c)&&decide (x.c<=24))) with
       |false=>rfl
       |true=>
        exfalso;apply hh
        simp only[aF,aV] at hr;omega
      refine⟨_,r S 1 _ rfl,?_⟩
      by_cases g1:x.b<0
      .exact di g1 ⟨rfl,no (by omega)⟩
      refine dz g1 ⟨_,r S 1 _ rfl,?_⟩
      by_cases g2:x.b>4
      .exact di g2 ⟨rfl,no (by omega)⟩
      refine dz g2 ⟨_,r S 2 _ rfl,cBq (λg3=>⟨rfl,no (by omega)⟩) λg3=>⟨_,r S 2 _ rfl,rfl,?_⟩⟩
      by_cases g4:x.c>24
      .rw[dT g4];exact no (by omega)
      rw[dF g4,dT (show 0<=x.b by omega),dT (show x.b<=4 by omega),dT (show 0<=x.c by omega),dT (show x.c<=24 by omega)];rfl
    refine⟨_,r S 0 _ rfl,cBq (λg1=>⟨rfl,by rw[dF (show ¬ -1<=x.a by omega)];rfl⟩) λg1=>⟨_,r S 0 _ rfl,_,_,_,C d4 1 _ rfl,rfl,?_⟩⟩;rw[dT (show -1<=x.a by omega),aO]
    by_cases g2:x.a<(s.bd.length:Int)
    .rw[dT g2,dF (by omega)];rfl
    rw[dF g2,dT (by omega)];rfl
   obtain rfl:k=s.cp.length:=by omega
   have hsE:∀{e:Int},QH s.ps s.sa=e->yX s=e:=λh=>by
    have:=kF (f:=LD s.bd.length s.cp) (n:=0) (l:=s.cp) λi p d=>by rw[az];exact zX (O i p (ai.1 d).1 d)
    rw[yX,af (λh=>h hz1),af (λh=>h hz2),show LF s.bd.length s.cp=0 by rw[LF,af (by omega),this],af (by decide),h]
   have hC:Dj s.bd.length s.cp:=⟨h6,λi p d=>O i p (ai.1 d).1 d⟩;clear O;refine cF (by simp) ⟨_,_,_,C g 3 _ rfl,?_⟩;rcases aQ 6 s.sa.length with h7|h7
   .exact di (by omega) (dM (by decide) (λd=>by have:=d.sa.l1;omega) E (hsE (by rw[QH,ag h7])))
   refine dz (by omega) ⟨λn H m=>∃k:Nat,n=k/\k<=s.sa.length/\m=s.sa.length-k/\(∀i p,i<k->s.sa[i]?=some p->FB s.ps s.sa i p)/\aZ V H [],⟨s.sa.length,0,rfl,by omega,by omega,λi p Z=>by omega,g⟩,?_⟩;clear E g P hm hk;rintro H m n ⟨k,rfl,hk,hm,O,g⟩-;have E:aZ w H []:=N.aK.trans g (by simp);refine⟨_,_,_,C g 3 _ rfl,?_⟩
   by_cases P:(k:Int)<(s.sa.length:Int)
   .obtain⟨x,Q⟩:=dX s.sa k (by omega);obtain⟨q,U,Y⟩:=(h.sa.aK E) k x Q;have B:¬ FB s.ps s.sa k x->¬ s.Ok:=λhb d=>hb (d.sa.good k x Q);have W:∀{e:Int},e≠0->Ox s.ps s.sa k x=e->yX s=e:=λhe h=>hsE (by
     have:=nS (f:=Ox s.ps s.sa) (n:=0) (λi p Z d=>by rw[az];exact AM (O i p Z d)) Q (by rw[az,h];exact he);rw[az,h] at this;rw[QH,af (by omega),this])
    have R:∀{A:ah},aZ w A []->∀(j:Nat) (y:T3),s.sa[j]?=some y->A.cell? (q.add (j*3))=some (iv y.a)/\A.cell? ((q.add (j*3)).add 1)=some (iv y.b):=λX j y G=>by
     obtain⟨q',L,u⟩:=(h.sa.aK X) j y G;rw[U] at L;cases L;have:=u.1;exact⟨by rwa [Addr.add_add] at this,u.2.1⟩
    refine gM P ⟨_,_,_,C g 3 _ rfl,?_⟩;rw[U];refine⟨by omega,by omega,_,_,_,Y,dH (((St.start H).one.jR _ 141).aR 0 rfl x.cells rfl x.one λF s4=>?_)⟩;generalize hr2:H.heap.size=r2 at s4⊢;have d4:aZ V F []:=g.trans s4.aK (by simp);have o:aZ w F []:=N.aK.trans d4 (by simp);have r:∀{A:ah},aZ F A []->∀(j:Nat) (v:Value),x.cells[j]?=some v->A.cell? ⟨r2,j,none⟩=some v:=λg j v hv=>iV (by rw[s4.aj 0 rfl];simpa using hv) g;have S:aZ F F []:=aZ.refl _ _;refine⟨λb D=>D=F/\b = !(decide (0<=x.a)&&decide (x.a<(s.ps.length:Int))),?_,?_⟩
    .rintro D b ⟨rfl,rfl⟩-
     cases g0:(decide (0<=x.a)&&decide (x.a<(s.ps.length:Int))) with
     |false=>exact cT rfl (dM (by decide) (B λK=>by have:=K.1;unfold Dw at this;rw[g0] at this;cases this) o (W (by decide) (by rw[Ox,ag g0])))
     |true=>
      have d45:aZ D D.drew []:=aZ.drew D [];refine cF rfl ⟨λb w6=>w6=D.drew/\b = !((decide (1<=x.b)&&decide (x.b<=4))&&(decide (1<=x.c)&&decide (x.c<=((s.ps[x.a.toNat]?.map Pr.sup).getD 0)))),?_,?_⟩
      .rintro w6 b ⟨rfl,rfl⟩-
       cases g1:((decide (1<=x.b)&&decide (x.b<=4))&&(decide (1<=x.c)&&decide (x.c<=((s.ps[x.a.toNat]?.map Pr.sup).getD 0)))) with
       |false=>exact cT rfl (dM (by decide) (B λK=>by have:=K.1;unfold Dw at this;rw[g0,g1] at this;cases this) (o.trans d45 (by simp)) (W (by decide) (by rw[Ox,g0,g1];rfl)))
       |true=>
        refine cF rfl ⟨λn I m=>∃j:Nat,n=j/\j<=k/\m=k-j/\(s.sa.take j).any (λp=>sameAs x p)=false/\aZ D I [],⟨k,0,rfl,by omega,by omega,rfl,d45⟩,?_⟩;rintro I m7 n7 ⟨j,rfl,hj,hm7,t,c7⟩-
        by_cases hjk:(j:Int)<(k:Int)
        .obtain⟨y,G⟩:=dX s.sa j (by omega);have J:aZ D I.drew []:=c7.trans (aZ.drew I []) (by simp);have e8:aZ w I.drew []:=o.trans J (by simp);have z:sameAs x y=true->((s.sa.take k).any λq=>sameAs x q)=true:=λM=>jQ (p:=λq=>sameAs x q) (show(s.sa.take k)[j]?=some y by rw[bz,ag (by omega)];exact G) M;have hit:sameAs x y=true->¬ s.Ok:=λM=>B λK=>by have h1:=K.2;rw[z M] at h1;cases h1
         refine gM hjk ⟨_,_,_,C (d4.trans J (by simp)) 3 _ rfl,?_⟩;rw[U];exact⟨by omega,by omega,_,(R e8 j y G).1,_,r J 0 _ rfl,cBq (λT=>dM (by decide) (hit (by simpa[sameAs] using T)) e8 (W (by decide) (by rw[Ox,g0,g1,z (by simpa[sameAs] using T)];rfl))) λT=>⟨k-(j+1),by omega,j+1,by rw[gC (by omega)];rfl,by omega,rfl,jy t G (by simpa[sameAs] using T),J⟩⟩
        obtain rfl:j=k:=by omega
        refine cF (by simp) ⟨s.sa.length-(j+1),by omega,j+1,by rw[gC (by omega)];rfl,by omega,rfl,λi p Z d=>?_,d4.trans c7 (by simp)⟩;rcases aQ i j with h' |h'
        .exact O i p h' d
        obtain rfl:i=j:=by omega
        rw[Q] at d;cases d;exact⟨by unfold Dw;rw[g0,g1];rfl,t⟩
      simp only[aF,aV] at g0;obtain⟨y,t⟩:=dX s.ps x.a.toNat (by omega);rw[t,cU,fL];have no:¬ (1<=x.b/\x.b<=4/\1<=x.c/\x.c<=y.sup)->true = !((decide (1<=x.b)&&decide (x.b<=4))&&(decide (1<=x.c)&&decide (x.c<=y.sup))):=λhh=>by
       cases hr:((decide (1<=x.b)&&decide (x.b<=4))&&(decide (1<=x.c)&&decide (x.c<=y.sup))) with
       |false=>rfl
       |true=>
        exfalso;apply hh
        simp only[aF,aV] at hr;omega
      refine⟨_,r d45 1 _ rfl,?_⟩
      by_cases g1:x.b<1
      .exact di g1 ⟨rfl,no (by omega)⟩
      refine dz g1 ⟨_,r d45 1 _ rfl,cBq (λg2=>⟨rfl,no (by omega)⟩) λg2=>⟨_,r d45 2 _ rfl,?_⟩⟩
      by_cases g3:x.c<1
      .exact di g3 ⟨rfl,no (by omega)⟩
      obtain⟨_,qp,u,z⟩:=(h.ps.aK (o.trans d45 (by simp))) x.a.toNat y t;refine dz g3 ⟨_,r d45 2 _ rfl,_,_,_,C (d4.trans d45 (by simp)) 0 _ rfl,_,r d45 0 _ rfl,?_⟩;rw[u];refine⟨by omega,by omega,y.sup,z.2.1,rfl,?_⟩
      by_cases g4:x.c>y.sup
      .rw[dT g4];exact no (by omega)
      rw[dF g4,dT (show 1<=x.b by omega),dT (show x.b<=4 by omega),dT (show 1<=x.c by omega),dT (show x.c<=y.sup by omega)];rfl
    refine⟨_,r S 0 _ rfl,cBq (λg1=>⟨rfl,by rw[dF (show ¬ 0<=x.a by omega)];rfl⟩) λg1=>⟨_,r S 0 _ rfl,_,_,_,C d4 0 _ rfl,rfl,?_⟩⟩;rw[dT (show 0<=x.a by omega),aO]
    by_cases g2:x.a<(s.ps.length:Int)
    .rw[dT g2,dF (by omega)];rfl
    rw[dF g2,dT (by omega)];rfl
   obtain rfl:k=s.sa.length:=by omega
   exact cF (by simp) (qG ⟨hP,hB,hC,h7,λi p d=>O i p (ai.1 d).1 d⟩ E (hsE (by rw[QH,af (by omega),kF λi p d=>by rw[az];exact AM (O i p (ai.1 d).1 d)])))
  exact gM h0 (dM h0 hno (N.aK.trans d3 (by simp)) hse)
 refine cBq (λg1=>⟨_,_,_,C d2 1 _ rfl,bg (Ky (h.aK (N.aK.trans d2 (by simp))).bd) ?_⟩) λg1=>⟨d2,.inr ⟨g1,by rw[yX,hn1,ag g1],λhk=>g1 (e1.2 hk.ps)⟩⟩;rintro v i ⟨⟨rfl,d⟩,d17⟩;generalize b:FM s.bd=e at d⊢;refine⟨_,rfl,d2.trans d17 (by simp),?_⟩
 by_cases g2:e=0
 .exact .inl ⟨g2,⟨hn1.trans g1,g2⟩,e1.1 g1,d.1 g2⟩
 exact .inr ⟨g2,by rw[yX,hn1,b,af (λh=>h g1),ag g2],λhk=>g2 (d.2 hk.bd)⟩
def Ml{w:ah}{s:Se}(h:s.In w):CP 139 #[.agg s.arr] w ((Va s.Ok w)):=bg (rH h) λ_ _ h=>⟨_,rfl,h.old⟩
structure Vw where
 ph:Int
 rd:Int
 pr:I6
 ex:I6
 own:List Ch
 oa:Option Addr
 oc:Nat
 dm:List I6
 da:Option Addr
 dc:Nat
 nm:List (List UInt8)
 na:Option Addr
 nc:Nat
section
variable {w0 w:ah} {l:List bP} {r:Nat} {T:TypeId} {v:Vw}
end
section
variable {ps:List Pr} {v:Vw}
end
def ic{r:Nat}{cs:Array Value}{T:TypeId}{n sz:Nat}(a:cs.size=n*sz)(b:n<=maxLen):dU (ay r cs T) (vN T sz (.slice (qs r) n n) n cs.toList):=by
 rintro w F ⟨h,rfl⟩;exact⟨[r],⟨⟨by simp[a],.inr ⟨r,n,cs,rfl,e9 _,h,aD _,b,a,bB (by simp[a])⟩⟩,by simp[Value.ownBlock]⟩,by simp⟩
def We{d:Type}{sz:Nat}{f:d->List Value}{w:ah}{a:OA}{l:List d}(h:iA sz f w a l){c n:Nat}(p:c=n->l.length<=n):iA sz f w (if c=n then a else Option.map (λx=>Addr.add x (n*sz)) a) (l.drop n):=λi x b=>by
 rw[cA] at b;obtain⟨q,cs,g,j,k,m⟩:=h (n+i) x b;have o:=(ai.1 b).1;rw[af λe=>by have:=p e;omega,g];exact⟨_,cs,rfl,by rw[Addr.add_add,<-cH];exact j,k,m⟩
def rR{w:ah}{a:Addr}{c:Ch}(h:aU w a 0 c.cells):aU w (a.add 6) 0 c.want.vs:=
 fm _ 0 λj v b=>by
  have d:=(ai.1 b).1;rw[Addr.add_add,az];have:=bX h (6+j) v (by
   match j,d,b with
   |0,_,b|1,_,b|2,_,b|3,_,b|4,_,b|5,_,b=>simpa[Ch.cells,I6.on,I6.vs] using b)
  rwa [az] at this
def rU{w:ah}{a:Addr}{o:Of}(h:aU w a 0 o.cells):aU w (a.add 1) 0 o.want.vs:=
 fm _ 0 λj v b=>by
  have c:=(ai.1 b).1;rw[Addr.add_add,az];have:=bX h (1+j) v (by
   match j,c,b with
   |0,_,b|1,_,b|2,_,b|3,_,b|4,_,b|5,_,b=>simpa[Of.cells,I6.on,I6.vs] using b)
  rwa [az] at this
def HQ{w:ah}{a:Addr}{o:Of}(h:aU w a 0 o.cells):w.cell? (a.add 7)=some (iv o.v):=by
 have:=bX h 7 (iv o.v) rfl
 rwa [az] at this
def Mx(w:ah){c:Ch}(h:c.Ok):CP 213 #[c.v] w (λr e=>r=.bool true/\aZ w e []):=by
 exact(p6 (p6 uS.1)).2.1 (bE c.cells.toArray λi f a=>⟨c.want,iL a 0 rfl,a.qu (mw f c.want) λg b=>⟨_,rfl,cT (by rw[leq h.w];rfl) ⟨c.p,yE b 0 rfl,bF (KH g c.p) λj d=>⟨_,rfl,by rw[vh.2 h.p],(b.quiet d).aK⟩⟩⟩⟩)
def Em{w:ah}{a:OA}{c:Nat}{l:List Ch}(n:zO w a l)(s:l.length<=1000)(h:∀c∈l,c.Ok):CP 151 #[.slice a l.length c] w (λr o=>r=.bool true/\aZ w o []):=by
 refine uS.2.1 ⟨λi e m=>∃k:Nat,i=k/\k<=l.length/\m=l.length-k/\aZ w e [],⟨l.length,0,rfl,by omega,by omega,aZ.refl _ _⟩,?_⟩;rintro e m i ⟨k,rfl,q,t,d1⟩-
 by_cases b:(k:Int)<(l.length:Int)
 .obtain⟨y,f⟩:=dX l k (by omega);obtain⟨p,j,d⟩:=(n.aK d1).at f;exact di b (av j ⟨by omega,by omega,y.p,y.want,d,bF (Mx e (h y (ak f))) λu g=>⟨_,rfl,cF rfl (mS (by omega) (d1.trans g (by simp)))⟩⟩)
 exact dz b ⟨rfl,d1⟩
def BF(w:ah){c:Ch}{b:I6}(f:I6.Le c.p 1000000)(e:I6.Le b 4):CP 214 #[c.v,.agg b.vs.toArray] w (λr h=>r=iv (cost c.p b)/\aZ w h []):=by
 exact uS.2.2.1 (bE c.cells.toArray λj l g=>g.aY b.vs.toArray λk i a=>⟨c.p,yE a 1 rfl,b,a.cellsIn 0 rfl,bF (P6 i f e) λm d=>⟨_,rfl,rfl,(a.quiet d).aK⟩⟩)
def EC(w:ah)(o:Of):CP 211 #[.agg o.cells.toArray] w (λr d=>r=.bool (tS o)/\aZ w d []):=by
 refine @Ku _ o.want _ _ _ (bE o.cells.toArray λf e c=>⟨o.want,c.bA 0 1 rfl rfl,c.qu (mw e o.want) λi a=>⟨_,rfl,?_⟩⟩)
 cases hq:o.want.l.all lX with
 |false=>exact cF rfl ⟨by rw[tS,hq];rfl,a.aK⟩
 |true=>
  have b:tS o=(decide (o.want≠z6)&&(decide (1<=o.v)&&decide (o.v<=1000000))):=by rw[tS,hq];rfl
  refine cT rfl ⟨o.want,a.bA 0 1 rfl rfl,?_⟩;rw[I6.beq_eq]
  by_cases g:o.want=z6
  .exact cF (by rw[dT g];rfl) ⟨by rw[b,dF λh=>h g];rfl,a.aK⟩
  rw[dT g,aO] at b;refine cT (by rw[dF g];rfl) ⟨_,a.aj 0 rfl 7,?_⟩
  by_cases g1:o.v>=1
  .rw[dT (g1),aO] at b;exact di g1 ⟨_,a.aj 0 rfl 7,by rw[b],a.aK⟩
  exact dz g1 ⟨by rw[b,dF (g1)];rfl,a.aK⟩
set_option maxHeartbeats 1000000 in
theorem zw{w:ah}{a1 a2:OA}{c1 c2:Nat}{l:List Ch}{bids:List Of}(hr:zO w a1 l)(hl:l.length<=1000)(ho:∀c∈l,c.Ok)(hb:Q5 w a2 bids)(hbl:bids.length<=100000)(hok:bids.all tS=true)(q:I6):
  CP 152 #[.slice a1 l.length c1,.slice a2 bids.length c2,.agg q.vs.toArray] w (λr b=>r=iv (Bk l bids q)/\aZ w b []):=by
 refine uS.2.2.2.2.1 (bE q.vs.toArray λD H E=>?_);let M:List bP:=[ay D q.vs.toArray 50,emp];refine⟨λn i x m=>∃k:Nat,i=k/\k<=l.length/\m=l.length-k/\n=(l.take k).foldl (oB q) 0/\St w x (Sep M),⟨l.length,0,rfl,by omega,by omega,rfl,E⟩,?_⟩;rintro x m n i ⟨k,rfl,B,C,rfl,s⟩-
 by_cases d:(k:Int)<(l.length:Int)
 .obtain⟨y,g⟩:=dX l k (by omega);have t:=mM (f:=oB q) (a:=0) g;have e:=s.quiet (aZ.drew x []);have r:=e.quiet (aZ.drew _ []);obtain⟨p,z,o⟩:=(hr.aK e.aK).at g;obtain⟨p2,u,b⟩:=(hr.aK r.aK).at g;refine di d ⟨λn j=>n=(l.take (k+1)).foldl (oB q) 0/\St w j (Sep M),?_,av z ⟨by omega,by omega,y.want,rR o,q,e.cellsIn 0 rfl,?_⟩⟩
  .rintro j n ⟨rfl,e⟩-;exact mS (by omega) ⟨rfl,e⟩
  rw[I6.beq_eq]
  by_cases h:y.want=q
  .have v:=ho y (ak g);exact di h (av u ⟨by omega,by omega,y.p,y.want,b,q,r.cellsIn 0 rfl,bF (BF _ (c:=y) v.p (by rw[<-h];exact v.w)) λF A=>⟨_,rfl,by rw[t,oB,ag h],r.quiet A⟩⟩)
  exact dz h ⟨by rw[t,oB,af h],e⟩
 obtain rfl:l.length=k:=by omega
 rw[aH];refine dz d ⟨λn i x m=>∃k:Nat,i=k/\k<=bids.length/\m=bids.length-k/\n=(bids.take k).foldl (Ae q) (l.foldl (oB q) 0)/\St w x (Sep M),⟨bids.length,0,rfl,by omega,by omega,rfl,s⟩,?_⟩;clear C B d s;rintro F m n i ⟨k,rfl,B,C,rfl,s⟩-
 by_cases d:(k:Int)<(bids.length:Int)
 .obtain⟨y,g⟩:=dX bids k (by omega);have t:=mM (f:=Ae q) (a:=l.foldl (oB q) 0) g;have e:=s.quiet (aZ.drew F []);obtain⟨p,z,o⟩:=(hb.aK e.aK).at g;refine di d ⟨λn j=>n=(bids.take (k+1)).foldl (Ae q) (l.foldl (oB q) 0)/\St w j (Sep M),?_,λb j=>b=decide (y.want=q)/\St w j (Sep M),?_,av z ⟨by omega,by omega,_,y.want,_,o,bg (EC _ y) ?_⟩⟩
  .rintro j n ⟨rfl,e⟩-;exact mS (by omega) ⟨rfl,e⟩
  .rintro j b ⟨rfl,A⟩-;obtain⟨G,v,u⟩:=(hb.aK A.aK).at g;exact cBq (λh=>av v ⟨by omega,by omega,y.v,HQ u,by rw[t,Ae,ag h],A⟩) λh=>⟨by rw[t,Ae,af h],A⟩
  rintro v I ⟨rfl,A⟩;have r:=e.quiet A;obtain⟨G,u,h⟩:=(hb.aK r.aK).at g;exact⟨_,rfl,cT (bw.1 hok y (ak g)) (av u ⟨by omega,by omega,y.want,rU h,q,r.cellsIn 0 rfl,by rw[I6.beq_eq],r⟩)⟩
 obtain rfl:bids.length=k:=by omega
 rw[aH];exact dz d ⟨rfl,s.aK⟩
def Tq{bids:List Of}(h:bids.all tS=true):∀x∈bids,I6.Le x.want 4/\x.v<=1000000:=λx a=>by
 have:=bw.1 h x a;unfold tS at this;simp only[aF,aV] at this;exact⟨C9 this.1,this.2.2.2⟩
set_option maxHeartbeats 1000000 in
theorem Qf{w:ah}{a1 a2:OA}{c1 c2:Nat}{l:List Ch}{bids:List Of}(hr:zO w a1 l)(hl:l.length<=1000)(ho:∀c∈l,c.Ok)(hb:Q5 w a2 bids)(hbl:bids.length<=100000)(hok:bids.all tS=true){b:I6}(hbb:I6.Le b 4):
  CP 212 #[.slice a1 l.length c1,.slice a2 bids.length c2,.agg b.vs.toArray] w (λr d=>r=iv (Tc (Bk l bids) l b)/\aZ w d []):=by
 refine uS.2.2.2.2.2.1 (bE b.vs.toArray λL S F=>?_);let M:List bP:=[ay L b.vs.toArray 50,emp];have I:∀q,I6.Le q 4->0<=Bk l bids q/\Bk l bids q<=24000000:=λq K=>NC ho (λx j=>(Tq hok x j).2) K;refine⟨λx B=>x=false/\St w B (Sep M),?_,bg (Em (hr.aK F.aK) hl ho) ?_⟩
 rotate_left
 .rintro v B ⟨rfl,c2⟩;have z:=F.quiet c2;exact⟨_,rfl,cF rfl ⟨b,z.cellsIn 0 rfl,bF (mw B b) λh d=>⟨_,rfl,by rw[leq hbb];rfl,z.quiet d⟩⟩⟩
 rintro B x ⟨rfl,z⟩-;refine cF rfl ⟨λn i h m=>∃k:Nat,i=k/\k<=l.length/\m=l.length-k/\n=(l.take k).foldl (xg (Bk l bids) b) 1000000/\St w h (Sep M),⟨l.length,0,rfl,by omega,by omega,rfl,z⟩,?_⟩;rintro h m n i ⟨k,rfl,Q,R,rfl,v⟩-
 by_cases s:(k:Int)<(l.length:Int)
 rotate_left
 .obtain rfl:l.length=k:=by omega
  rw[aH];exact dz s ⟨rfl,v.aK⟩
 obtain⟨y,j⟩:=dX l k (by omega);have g:=ho y (ak j);have E:=mM (f:=xg (Bk l bids) b) (a:=1000000) j;have A:=v.quiet (aZ.drew h []);have t:=A.quiet (aZ.drew _ []);obtain⟨p,J,C⟩:=(hr.aK A.aK).at j;obtain⟨p2,e,d⟩:=(hr.aK t.aK).at j;refine di s ⟨λn h=>n=(l.take (k+1)).foldl (xg (Bk l bids) b) 1000000/\St w h (Sep M),?_,av J ⟨by omega,by omega,y.want,rR C,b,A.cellsIn 0 rfl,?_⟩⟩
 .rintro h n ⟨rfl,v⟩-;exact mS (by omega) ⟨rfl,v⟩
 rw[I6.beq_eq]
 by_cases u:y.want=b
 .exact cF (by rw[dT u];rfl) ⟨by rw[E,xg,ag u],A⟩
 refine cT (by rw[dF u];rfl) (av e ⟨by omega,by omega,y.want,rR d,av e ⟨by omega,by omega,y.p,y.want,d,b,t.cellsIn 0 rfl,av e ⟨by omega,by omega,y.p,y.want,d,av e ⟨by omega,by omega,y.want,rR d,bF (zw (hr.aK t.aK) hl ho (hb.aK t.aK) hbl hok y.want) λT o=>?_⟩⟩⟩⟩);have G:=t.quiet o;refine⟨_,rfl,ff o (rR d),ff o d,G.cellsIn 0 rfl,ff o d,bF (BF _ (c:=y) g.p hbb) λU D=>?_⟩;have r:=o.trans D (by simp);refine⟨_,rfl,ff r (rR d),ff r d,bF (BF _ (c:=y) g.p g.w) λV H=>?_⟩;have N:=I y.want g.w;have O:=nh g.p hbb;have P:=nh g.p g.w;refine⟨_,rfl,?_,(G.quiet D).quiet H⟩;rw[fQ (n:=Bk l bids y.want+cost y.p b) ⟨by omega,by omega⟩,gC (by omega),E,xg,af u]
set_option maxHeartbeats 1000000 in
theorem Mm{w:ah}{a1 a2:OA}{c1 c2:Nat}{l:List Ch}{bids:List Of}(hr:zO w a1 l)(hl:l.length<=1000)(ho:∀c∈l,c.Ok)(hb:Q5 w a2 bids)(hbl:bids.length<=100000):
  CP 148 #[.slice a1 l.length c1,.slice a2 bids.length c2] w (λr a=>r=.tuple #[iv (AJ l bids),iv (CE l bids)]/\aZ w a []):=by
 refine uS.2.2.2.2.2.2.1 (bF (Em hr hl ho) λu d1=>⟨_,rfl,cF rfl ⟨λi n m=>∃k:Nat,i=k/\k<=bids.length/\m=bids.length-k/\(bids.take k).all tS=true/\aZ w n [],⟨bids.length,0,rfl,by omega,by omega,rfl,d1⟩,?_⟩⟩);rintro n m i ⟨k,rfl,r,s,f,d2⟩-
 by_cases b:(k:Int)<(bids.length:Int)
 .obtain⟨y,e⟩:=dX bids k (by omega);obtain⟨p,j,d⟩:=(hb.aK d2).at e;refine di b (av j ⟨by omega,by omega,_,y.want,_,d,bF (EC n y) λo a=>?_⟩);have d5:=d2.trans a (by simp);refine⟨_,rfl,?_⟩
  cases hy:tS y with
  |false=>
   have:bids.all tS=false:=fA.2 ⟨y,ak e,by simp[hy]⟩;have h:AJ l bids=k:=by
    rw[AJ,this,af (by decide)];refine Ai ?_ e (by rw[hy];rfl);rw[eG];intro z g;rw[bw.1 f z g];decide
   exact cT rfl ⟨by rw[h,CE,this];rfl,d5⟩
  |true=>
   refine cF rfl (mS (by omega) ⟨?_,d5⟩);rw[bJ e,fq,f];simp[hy]
 obtain rfl:bids.length=k:=by omega
 rw[aH] at f;have q:CE l bids=if bids.any (Aw l bids) then 16 else 0:=by rw[CE,ag f]
 refine dz b ⟨λi o m=>∃k:Nat,i=k/\k<=bids.length/\m=bids.length-k/\(bids.take k).any (Aw l bids)=false/\aZ w o [],⟨bids.length,0,rfl,by omega,by omega,rfl,d2⟩,?_⟩;clear b s r d2;rintro o m i ⟨k,rfl,r,s,a,d7⟩-
 by_cases b:(k:Int)<(bids.length:Int)
 .obtain⟨y,e⟩:=dX bids k (by omega);have d8:=d7.trans (aZ.drew o []) (by simp);obtain⟨p,j,d⟩:=(hb.aK d8).at e;refine di b (av j ⟨by omega,by omega,y.v,HQ d,av j ⟨by omega,by omega,y.want,rU d,bF (Qf (hr.aK d8) hl ho (hb.aK d8) hbl f (Tq f y (ak e)).1) λt g=>⟨_,rfl,iV (HQ d) g,?_⟩⟩⟩);have d10:=d8.trans g (by simp)
  cases ho:Aw l bids y with
  |true=>
   have h:AJ l bids=k:=by rw[AJ,ag f,jQ e ho,ag rfl];exact Ai a e ho
   exact cT ho ⟨by rw[h,q,jQ e ho];rfl,d10⟩
  |false=>exact cF ho (mS (by omega) ⟨jy a e ho,d10⟩)
 obtain rfl:bids.length=k:=by omega
 rw[aH] at a;have h:AJ l bids=0:=by rw[AJ,ag f,a];rfl
 exact dz b ⟨by rw[h,q,a];rfl,d7⟩
def aar{a:OA}{c:Nat}:(if c=0 then a else Option.map (λx=>Addr.add x (0*8)) a)=a:=by
 split
 .rfl
 cases a<;>simp[Addr.add]
def HK{x:Of}(h:S7 x x=true):False:=by
 have a:=QL.irrefl x;have:ltOf G8 x x=true:=h;rw[a] at this;cases this
def UG{l:List Of}(h:GL l):l.Nodup:=List.Pairwise.imp (λ{x y} a e=>by subst e;exact HK a) h
def MM{l m:List Of}(h:GL l)(k:GL m)(e:∀o,o∈l<->o∈m):l=m:=Dd h k ((List.perm_ext_iff_of_nodup (UG h) (UG k)).2 e)
def EY{l:List Of}:GL l<->(l.map Of.want).Pairwise λu v=>IN u v=true:=by
 rw[iw];rfl
def XC{l:List Of}(h:GL l){j k:Nat}{a b:Of}(ha:l[j]?=some a)(d:l[k]?=some b)(e:a.want=b.want):j=k:=by
 have f:(l.map Of.want).Nodup:=List.Pairwise.imp (λ{u v} c e=>by
  subst e;exact HK (x:=⟨0,u,0⟩) c) (EY.1 h)
 refine(mV (l:=l.map Of.want) (by rw[bu];exact(ai.1 ha).1) f).1 ?_;rw[aL,aL,ha,d];exact congrArg some e
def NS{l:List Of}{o:Of}(k:Nat):o∈l<->o∈l.take k\/o∈l.drop k:=by
 conv=>lhs;rw[<-iB k l]
 exact aB
def NL{l:List Of}{x o:Of}{k:Nat}:o∈l.take k++x::l.drop k<->o=x\/o∈l:=by
 rw[aB,aP,NS (l:=l) (o:=o) k];constructor
 .rintro(h|h|h)
  .exact .inr (.inl h)
  .exact .inl h
  exact .inr (.inr h)
 rintro(h|h|h)
 .exact .inr (.inl h)
 .exact .inl h
 exact .inr (.inr h)
def UF{l:List Of}{x:Of}{k:Nat}(h:GL l)(f:∀y∈l.take k,S7 y x=true)(g:∀y,l[k]?=some y->S7 x y=true):GL (l.take k++x::l.drop k):=by
 have m:(l.take k++l.drop k).Pairwise λx y=>S7 x y=true:=by rw[iB];exact h
 obtain⟨p1,p2,o⟩:=List.pairwise_append.1 m;have q:∀y∈l.drop k,S7 x y=true:=λy n=>by
  obtain⟨j,a⟩:=dQ n;rw[cA] at a;have b:k<l.length:=by have:=(ai.1 a).1;omega
  obtain⟨z,d⟩:=dX l k b;have c:=g z d
  cases j with
  |zero=>rw[gX,d] at a;cases a;exact c
  |succ j=>
   have e:l.drop k=z::l.drop (k+1):=by rw[bO b];rw[(ai.1 d).2]
   rw[e] at p2;refine QL.trans x z y c ((List.pairwise_cons.1 p2).1 y (ak (i:=j) ?_));rw[cA];rw[show k+1+j=k+(j+1) by omega];exact a
 refine List.pairwise_append.2 ⟨p1,List.pairwise_cons.2 ⟨q,p2⟩,λa d b c=>?_⟩;rcases aP.1 c with rfl|c
 .exact f a d
 exact o a d b c
def Fw(l:List Ch)(q:I6):Int:=l.foldl (oB q) 0
def Vb(l:List Ch)(c:Ch)(q:I6):Fw (l++[c]) q=oB q (Fw l q) c:=by unfold Fw;rw[cG];rfl
theorem M7{q:I6}:∀{l:List Ch} {n:Int},(∀c∈l,c.want≠q)->l.foldl (oB q) n=n
 |[],_,_=>rfl
 |c::l,n,h=>by
  rw[bD,oB,af (h c (by simp))];exact M7 λd hd=>h d (by simp[hd])
theorem Nt{c:Ch}{x:Of}:∀{o:List Of},(o.map Of.want).Nodup->(x∈zK o c<->(x∈o/\x.want≠c.want)\/(∃y∈o,y.want=c.want/\x={y with v:=if cost c.p c.want>y.v then cost c.p c.want else y.v})\/((∀y∈o,y.want≠c.want)/\x=⟨0,c.want,cost c.p c.want⟩))
 |[],_=>by simp[zK]
 |y::o,d=>by
  rw[cD,gr] at d;have f:=Nt (c:=c) (x:=x) d.2;rw[zK]
  by_cases h:y.want=c.want
  .have b:∀z∈o,z.want≠c.want:=λz a e=>d.1 (by rw[h,<-e];exact bV a);rw[ag h,aP];constructor
   .rintro(e|e)
    .exact .inr (.inl ⟨y,by simp,h,e⟩)
    exact .inl ⟨by simp[e],b x e⟩
   rintro(⟨e,g⟩|⟨z,a,g,e⟩|⟨g,_⟩)
   .rcases aP.1 e with e|e
    .exact absurd (e▸h) g
    exact .inr e
   .rcases aP.1 a with rfl|a
    .exact .inl e
    exact absurd g (b z a)
   exact absurd h (g y (by simp))
  rw[af h,aP,f];constructor
  .rintro(e|⟨e,g⟩|⟨z,a,g,e⟩|⟨g,e⟩)
   .exact .inl ⟨by simp[e],by rw[e];exact h⟩
   .exact .inl ⟨by simp[e],g⟩
   .exact .inr (.inl ⟨z,by simp[a],g,e⟩)
   exact .inr (.inr ⟨λz a=>by rcases aP.1 a with rfl|a;exact h;exact g z a,e⟩)
  rintro(⟨e,g⟩|⟨z,a,g,e⟩|⟨g,e⟩)
  .rcases aP.1 e with e|e
   .exact .inl e
   exact .inr (.inl ⟨e,g⟩)
  .rcases aP.1 a with rfl|a
   .exact absurd g h
   exact .inr (.inr (.inl ⟨z,a,g,e⟩))
  exact .inr (.inr (.inr ⟨λz a=>g z (by simp[a]),e⟩))
def IU(l:List Ch)(o:List Of):Prop:=∀x:Of,x∈o<->x.b=0/\x.v=Fw l x.want/\∃c∈l,c.want=x.want
def LU{l:List Ch}{o:List Of}{c:Ch}(h:IU l o)(n:(o.map Of.want).Nodup)(hc:0<=cost c.p c.want):IU (l++[c]) (zK o c):=λx=>by
 rw[Nt n,Vb]
 by_cases e:c.want=x.want
 .have em:∃d∈l++[c],d.want=x.want:=⟨c,by simp,e⟩
  by_cases g:∃d∈l,d.want=c.want
  .obtain⟨d,hd,gd⟩:=g;have b:(⟨0,c.want,Fw l c.want⟩:Of)∈o:=(h _).2 ⟨rfl,rfl,d,hd,gd⟩;constructor
   .rintro(⟨_,k⟩|⟨y,b,f,rfl⟩|⟨k,_⟩)
    .exact absurd e.symm k
    .obtain⟨a,i,_⟩:=(h y).1 b;refine⟨a,?_,em⟩;show(if cost c.p c.want>y.v then cost c.p c.want else y.v)=oB y.want (Fw l y.want) c;rw[oB,ag f.symm,<-i,f]
    exact absurd rfl (k _ b)
   rintro⟨i,v0,_⟩;refine .inr (.inl ⟨_,b,rfl,?_⟩);rw[oB,ag e,<-e] at v0
   cases x;cases i;cases e;cases v0;rfl
  have j:∀y∈o,y.want≠c.want:=λy b f=>by
   obtain⟨_,_,d,hd,a⟩:=(h y).1 b;exact g ⟨d,hd,a.trans f⟩
  have f0:Fw l c.want=0:=M7 λd hd a=>g ⟨d,hd,a⟩;have m:oB x.want (Fw l x.want) c=cost c.p c.want:=by
   rw[<-e,oB,ag rfl,f0]
   split<;>omega
  rw[m];constructor
  .rintro(⟨_,k⟩|⟨y,b,f,rfl⟩|⟨_,rfl⟩)
   .exact absurd e.symm k
   .exact absurd f (j y b)
   exact⟨rfl,rfl,em⟩
  rintro⟨i,v0,_⟩;refine .inr (.inr ⟨j,?_⟩)
  cases x;cases i;cases e;cases v0;rfl
 have m:oB x.want (Fw l x.want) c=Fw l x.want:=by rw[oB,af e]
 rw[m];constructor
 .rintro(⟨k,_⟩|⟨y,b,f,rfl⟩|⟨_,rfl⟩)
  .obtain⟨i,v0,d,hd,a⟩:=(h x).1 k;exact⟨i,v0,d,by simp[hd],a⟩
  .exact absurd f.symm e
  exact absurd rfl e
 rintro⟨i,v0,d,hd,a⟩;refine .inl ⟨(h x).2 ⟨i,v0,d,?_,a⟩,λk=>e k.symm⟩;rcases aB.1 hd with hd|hd
 .exact hd
 rw[aI.1 hd] at a;exact absurd a e
theorem DX:∀{l2 l1:List Ch} {o:List Of},IU l1 o->(o.map Of.want).Nodup->(∀c∈l2,0<=cost c.p c.want)->IU (l1++l2) (l2.foldl zK o)
 |[],l1,o,h,_,_=>by rw[fu];exact h
 |c::l2,l1,o,h,b,a=>by
  rw[bD,show l1++c::l2=(l1++[c])++l2 by simp];exact DX (LU h b (a c (by simp))) (G0 (l:=[c]) b) λd hd=>a d (by simp[hd])
def VC{l:List Ch}(hc:∀c∈l,0<=cost c.p c.want)(x:Of):x∈Cq l<->x.b=0/\x.v=Fw l x.want/\x.v≠0/\∃c∈l,c.want=x.want:=by
 have h:IU ([]++l) (l.foldl zK []):=DX (λx=>by simp) (by simp) hc;rw[bZ] at h;rw[Cq,(nL _).mem_iff,cS,h x,IP];constructor
 .rintro⟨⟨a,b,c⟩,d⟩;exact⟨a,b,by simpa using d,c⟩
 rintro⟨a,b,d,c⟩;exact⟨⟨a,b,c⟩,by simpa using d⟩
def YN(l:List Ch):GL (Cq l):=Bq (Gb (G0 (by simp)) _)
def wM{i:Nat}{l:List KV}(a:(l.map (·.1)).Nodup)(o:Of):o∈qE i l<->o.b=i/\jW l o.want=some o.v:=by
 rw[qE,(nL _).mem_iff,aN];constructor
 .rintro⟨p,c,rfl⟩;exact⟨rfl,K4 a c⟩
 rintro⟨e,h⟩;exact⟨_,yx h,by cases o;cases e;rfl⟩
def abm{i:Nat}{l:List KV}(a:(l.map (·.1)).Nodup):((l.map (Kh i)).map Of.want).Nodup:=by
 rw[cE];exact a
def Jb{i:Nat}{l:List KV}(a:(l.map (·.1)).Nodup):GL (qE i l):=Bq (abm a)
def YH{i:Nat}{l:List KV}(d:(l.map (·.1)).Nodup){k:Nat}{x:Of}(f:(qE i l)[k]?=some x)(v:Int):(qE i l).set k {x with v:=v}=qE i (rW l x.want v):=by
 have n:=Jb (i:=i) d;have m:=(ai.1 f).1;have g:=((wM d x).1 (ak f)).1;refine MM ?_ (Jb (yo d _ _)) λo=>?_
 .rw[EY,dO];have:((qE i l).map Of.want).set k x.want=(qE i l).map Of.want:=tC (by rw[aL,f];rfl);rw[this];exact EY.1 n
 rw[wM (yo d _ _),E3];constructor
 .intro h;obtain⟨j,a⟩:=dQ h;rw[bW] at a
  by_cases c:k=j
  .rw[ag c,ag m] at a
   cases a
   exact⟨g,by rw[ag rfl]⟩
  rw[af c] at a;obtain⟨p,q⟩:=(wM d o).1 (ak a);exact⟨p,by rw[af (λe=>c (XC n a f e).symm)];exact q⟩
 rintro⟨c,h⟩
 by_cases e:o.want=x.want
 .rw[ag e] at h;have:o={x with v:=v}:=by
   show(⟨o.b,o.want,o.v⟩:Of)=⟨x.b,x.want,v⟩;rw[c,e,g,dP h]
  rw[this];exact ak (i:=k) (by rw[bW,ag rfl,ag m])
 rw[af e] at h;obtain⟨j,a⟩:=dQ ((wM d o).2 ⟨c,h⟩);refine ak (i:=j) ?_;rw[bW,af (λp=>?_)]
 .exact a
 subst p;rw[f] at a;cases a;exact e rfl
def RJ{i:Nat}{l:List KV}(c:(l.map (·.1)).Nodup){k:Nat}{u:I6}{v:Int}(f:∀y∈(qE i l).take k,IN y.want u=true)(j:∀y,(qE i l)[k]?=some y->IN u y.want=true):(qE i l).take k++⟨i,u,v⟩::(qE i l).drop k=qE i (rW l u v)/\jW l u=none:=by
 have m:=Jb (i:=i) c;have g:GL ((qE i l).take k++⟨i,u,v⟩::(qE i l).drop k):=UF m f j;have a:jW l u=none:=by
  cases h:jW l u with
  |none=>rfl
  |some d=>
   exfalso
   have b:(⟨i,u,d⟩:Of)∈qE i l:=(wM c _).2 ⟨rfl,h⟩;rcases(NS k).1 b with b|b
   .exact HK (x:=⟨i,u,d⟩) (f _ b)
   have e:=(List.pairwise_cons.1 (List.pairwise_append.1 g).2.1).1 _ b;exact HK (x:=⟨i,u,d⟩) e
 refine⟨MM g (Jb (yo c _ _)) λo=>?_,a⟩;rw[NL,wM c,wM (yo c _ _),E3];constructor
 .rintro(rfl|⟨b,h⟩)
  .exact⟨rfl,by rw[ag rfl]⟩
  exact⟨b,by rw[af (λe=>by rw[e,a] at h;cases h)];exact h⟩
 rintro⟨b,h⟩
 by_cases e:o.want=u
 .rw[ag e] at h;exact .inl (by cases o;cases e;cases h;cases b;rfl)
 rw[af e] at h;exact .inr ⟨b,h⟩
end Go.Proofs.YtmhhlijfepaphaaGreatDoor
set_option maxHeartbeats 4000000
namespace Go.Proofs.YtmhhlijfepaphaaGreatDoor
open Go Go.Vc Go.Vt _root_.Go.Proofs.Tryz
def yS:=zl (And.intro (many xP [en func46 [] [(26,[(5,.s (.int .i64))]),(104,[(15,.s .bool)])],en func45 [] [(6,[(41,.s .bool)]),(58,[(5,.s (.int .i64))])],en func33 [(0,.k (.s .blk))] [(6,[(12,.s .bool)])],en func42 [] [(6,[(33,.s .bool)]),(58,[(37,.s (.int .i64))])],en func94 [] [(122,[(3,.s .slice),(4,.s (.int .i64))]),(489,[(3,.s .slice)]),(1956,[(5,.s .blk)]),(7826,[(37,.s .bool)]),(62620,[(6,.s (.int .i64))]),(250480,[(52,.s .bool)]),(62622,[(68,.s .bool)])],en func98 [] [(14,[(51,.s .bool)]),(124,[(8,.s (.int .i64))]),(496,[(67,.s .bool)]),(126,[(83,.s .bool)]),(1013,[])],en func43 [] [(58,[(3,.s .slice),(4,.s (.int .i64))]),(233,[(3,.s .slice)]),(3731,[(5,.s .slice)]),(119418,[(8,.s .slice),(9,.s (.int .i64))])],en func44 [] []] (by conv=>lhs;reduce) (by kernel_rfl) id) (many xP [en func99 [] [(250,[(8,.s (.int .i64))]),(8008,[(52,.s .bool)]),(8009,[(76,.s .bool)]),(2042,[(10,.s (.int .i64))]),(8186,[(11,.s .slice),(12,.s (.int .i64))]),(32745,[(11,.s .slice)]),(261961,[(16,.s .bool)]),(4191386,[(16,.s .bool),(17,.s (.int .i64))]),(16765545,[(16,.s .bool)]),(67062180,[(18,.s .bool)]),(134124361,[(217,.s .bool)])],en func153 [] [(26,[(5,.s (.int .i64))])]] (by conv=>lhs;reduce) (by kernel_rfl) id)) λx=>by
 dsimp only[qq,qm,qk,qj,qy,qA,qB,GH,uv,en,FG,wrap,dc,dn,DH,gU,ID,U.I,U.B,U.S,U.N,U.A,U.O,U.W,U.V,U.L,U.U6,U.C,U.M,U.F,U.E,HV,HA,GM,zS,jU,gJ,vZ,vI,TJ,Nat.reduceSub,Nat.reduceAdd,Int.reduceOfNat,Int.reduceNeg,UInt8.reduceOfNat] at x
 exact x
def Fl:=yS.1.2.2.2.1
def P4:=yS.1.2.2.2.2.2.1
def Fp:=(p6 yS.1).1
def Fq:=(p6 yS.1).2.1
end Go.Proofs.YtmhhlijfepaphaaGreatDoor
namespace Go.Proofs.YtmhhlijfepaphaaGreatDoor
open Go Go.Vc _root_.Go.Proofs.Tryz
def AE(w:ah)(u v:I6):CP 153 #[.agg u.vs.toArray,.agg v.vs.toArray] w (λr x=>r=iv (Lz u v)/\aZ w x []):=by
 refine yS.2.2.1 (bE u.vs.toArray λo A q=>q.aY v.vs.toArray λp B t=>?_);let M:List bP:=[ay p v.vs.toArray 50,ay o u.vs.toArray 50,emp];refine⟨λn i m=>∃k:Nat,n=k/\k<=6/\m=6-k/\Lz u v=mR u v (6-k)/\St w i (Sep M),⟨6,0,rfl,by omega,by omega,rfl,t⟩,?_⟩;rintro i m n ⟨k,rfl,y,z,e,s⟩-
 by_cases f:(k:Int)<6
 .have a:k<6:=by omega
  obtain⟨j,l⟩:∃j,6-k=j+1:=⟨5-k,by omega⟩;have b:5-j=k:=by omega
  have h:=s.quiet (aZ.drew _ _);have c:=h.quiet (aZ.drew _ _);refine di f ⟨by omega,by omega,u.at' k,by rw[iC,br h 1 rfl a],by omega,by omega,v.at' k,by rw[iC,br h 0 rfl a],?_⟩;rw[l] at e;rcases um (u.at' k) (v.at' k) (mR u v j) with⟨d,g⟩|⟨d,g⟩|⟨d,g⟩
  .refine di d ⟨?_,h.aK⟩;rw[e];show iv (-1)=iv (Uu (u.at' (5-j)) (v.at' (5-j)) _);rw[b,g]
  .refine dz (by omega) ⟨by omega,by omega,u.at' k,by rw[iC,br c 1 rfl a],by omega,by omega,v.at' k,by rw[iC,br c 0 rfl a],dz (by omega) ⟨6-(k+1),by omega,k+1,inc (by decide) a,by omega,rfl,?_,c⟩⟩;rw[e,Nx (by rw[b];exact d),show 6-(k+1)=j by omega]
  refine dz (by omega) ⟨by omega,by omega,u.at' k,by rw[iC,br c 1 rfl a],by omega,by omega,v.at' k,by rw[iC,br c 0 rfl a],di d ⟨?_,c.aK⟩⟩;rw[e];show iv 1=iv (Uu (u.at' (5-j)) (v.at' (5-j)) _);rw[b,g]
 obtain rfl:k=6:=by omega
 refine dz f ⟨?_,s.aK⟩;rw[e];rfl
abbrev Vk (a1:OA) (l1 c1:Nat) (a2:OA) (l2 c2:Nat) (w:ah) (R:Option Addr->Nat->Nat->ah->Prop):Prop:=kg prog (Builtin.append_ #[62,62] 62 #[.slice a1 l1 c1,.slice a2 l2 c2]) w λe b=>∃(a:OA) (l c:Nat),e=.slice a l c/\R a l c b
section
variable {w0 w:ah} {a:OA} {c k:Nat} {l:List Of} {x:Of} {B:List bP} {R:Option Addr->Nat->Nat->ah->Prop}
def Rw{r1:Nat}(s:St w0 w (Sep (ay r1 #[] 70::dB a c l::B)))(j:k<=l.length)(m:l.length<=1000)(K:∀b d e,St w0 e (Sep (dB b d (l.take k)::dB a c l::B))->R b k d e):
  Vk (qs r1) 0 0 (if c=0 then a else Option.map (λx=>Addr.add x (0*8)) a) ((k:Int).toNat-0) (c-0) w R:=by
 have g:(l.take k).length=k:=by rw[aW];omega
 rw[aar,aq,fk,fk];have h:St w0 w (Sep (dB (qs r1) 0 []::dB a c l::B)):=St.weak s (dU.left (ic (n:=0) (sz:=8) rfl (by decide)));have f:=dW (ty:=62) (c2:=c) (l2:=l.take k) (R:=R) vO Of.len Of.one (h.out 0 rfl) (Dn.take (St.rd Of.len (h.out 1 rfl)) k) (by simp only[aT];omega) (by simp only[aT];omega) λb d e i=>?_
 .rw[g] at f;exact f
 rw[bZ,g];rw[bZ] at i;exact K b d e i
def aa7{a5:OA}{c5 ro:Nat}(s:St w0 w (Sep (ay ro x.cells.toArray 70::dB a5 c5 (l.take k)::dB a c l::B)))(v:k<=l.length)(y:l.length<=1000)(K:∀j n r,St w0 r (Sep (dB j n (l.take k++x::l.drop k)::dB a c l::B))->R j (l.take k++x::l.drop k).length n r):
  Vk a5 k c5 (qs ro) 1 1 w λb i d e=>Vk b i d (if c=(k:Int).toNat then a else Option.map (λx=>Addr.add x ((k:Int).toNat*8)) a) (l.length-(k:Int).toNat) (c-(k:Int).toNat) e R:=by
 have h:(l.take k).length=k:=by rw[aW];omega
 have l2:(l.drop k).length=l.length-k:=bG ..;have u:=(St.nj (s.out 2 rfl)).1;rw[aq];have p:=dW (ty:=62) (a2:=qs ro) (c2:=1) (l2:=[x]) (R:=λb i d e=>Vk b i d (if c=k then a else Option.map (λx=>Addr.add x (k*8)) a) (l.length-k) (c-k) e R) vO Of.len Of.one (s.out 1 rfl) (nJ (s.cellsIn 0 rfl) rfl) (by rw[aG];omega) (by rw[aG];omega) λb d e f=>?_
 .rw[h] at p;exact p
 have f:St w0 e (Sep (dB b d (l.take k++[x])::ay ro x.cells.toArray 70::dB a c l::B)):=f;have q:=dW (ty:=62) (c2:=c-k) (l2:=l.drop k) (R:=R) vO Of.len Of.one (f.out 0 rfl) (We (c:=c) (St.rd Of.len (f.out 2 rfl)) (by omega)) (by rw[aA,h,l2,aG];omega) (by rw[aA,h,l2,aG];omega) λm o t g=>?_
 .rw[l2] at q;exact q
 have g:St w0 t (Sep (dB m o (l.take k++[x]++l.drop k)::ay ro x.cells.toArray 70::dB a c l::B)):=g;rw[dA] at g⊢;exact K m o t ((g.out 1 rfl).second)
abbrev OK (a5:OA) (l5 c5 ro:Nat) (a:OA) (n c:Nat) (k:Int) (w:ah) (R:Option Addr->Nat->Nat->ah->Prop):Prop:=Vk a5 l5 c5 (qs ro) 1 1 w λb e d f=>Vk b e d (if c=k.toNat then a else Option.map (λx=>Addr.add x (k.toNat*8)) a) (n-k.toNat) (c-k.toNat) f R
def JI{r:Nat}(s:St w0 w (Sep (dB a c l::ay r x.cells.toArray 70::B)))(n:k<=l.length)(o:l.length<=1000)(K:∀t u v,St w0 v (Sep (dB t u (l.take k++x::l.drop k)::dB a c l::ay r x.cells.toArray 70::B))->R t (l.take k++x::l.drop k).length u v):
  (gK w (.cells #[] 70) λg i=>aU i ⟨r,0,none⟩ 0 x.cells/\(Vk (qs g) 0 0 (if c=0 then a else Option.map (λx=>Addr.add x (0*8)) a) ((k:Int).toNat-0) (c-0) i λe h f d=>aU d ⟨r,0,none⟩ 0 x.cells/\gK d (.cells x.cells.toArray 70) λb y=>OK e h f b a l.length c k y R) /\
   gK i (.cells x.cells.toArray 70) λb m=>Vk (qs g) 0 0 (if c=0 then a else Option.map (λx=>Addr.add x (0*8)) a) ((k:Int).toNat-0) (c-0) m λe h f d=>OK e h f b a l.length c k d R) /\
  gK w (.cells x.cells.toArray 70) λb i=>gK i (.cells #[] 70) λg m=>Vk (qs g) 0 0 (if c=0 then a else Option.map (λx=>Addr.add x (0*8)) a) ((k:Int).toNat-0) (c-0) m λe h f d=>OK e h f b a l.length c k d R:=by
 have go:∀{b:Nat} {e:OA} {f:Nat} {d:ah},St w0 d (Sep (ay b x.cells.toArray 70::dB e f (l.take k)::dB a c l::ay r x.cells.toArray 70::B))->OK e k f b a l.length c k d R:=λh=>aa7 h n o K;refine⟨s.aY #[] λg i j=>⟨j.cellsIn 2 rfl,Rw j n o λe f d h=>⟨h.cellsIn 2 rfl,h.aY x.cells.toArray λb y z=>go z⟩,j.aY x.cells.toArray λb m p=>?_⟩,s.aY x.cells.toArray λb i j=>j.aY #[] λg m p=>?_⟩
 .have q:=St.cat (l:=[ay g #[] 70,dB a c l,ay b x.cells.toArray 70]) (St.weak (St.split [ay b x.cells.toArray 70,ay g #[] 70,dB a c l] p) (dU.left (dU.pick [1,2,0] _)));exact Rw q n o λe f d h=>go (h.out 2 rfl)
 have q:=St.cat (l:=[ay g #[] 70,dB a c l,ay b x.cells.toArray 70]) (St.weak (St.split [ay g #[] 70,ay b x.cells.toArray 70,dB a c l] p) (dU.left (dU.pick [0,2,1] _)));exact Rw q n o λe f d h=>go (h.out 2 rfl)
end
def Cbk(l:List Ch)(k:Nat)(o:List Of):Prop:=GL o/\o.length<=k/\∀x:Of,x∈o<->x.b=0/\x.v=Fw l x.want/\x.v≠0/\∃c∈l.take k,c.want=x.want
def VN(p:I6):cost p z6=0:=by simp[cost,z6]
theorem Rg:∀(l:List Ch),l.foldl (oB z6) 0=0
 |[]=>rfl
 |c::l=>by
  rw[bD,oB]
  split
  .rw[VN];exact Rg l
  exact Rg l
def RP{l:List Ch}{k:Nat}{o:List Of}{y:Ch}(h:Cbk l k o)(p:l[k]?=some y)(g:Fw l y.want=0\/∃z∈o,z.want=y.want):Cbk l (k+1) o:=by
 obtain⟨n,r,i⟩:=h;refine⟨n,by omega,λx=>?_⟩;rw[i x,bJ p];constructor
 .rintro⟨a,b,c,d,hd,e⟩;exact⟨a,b,c,d,by simp[hd],e⟩
 rintro⟨a,b,c,d,hd,e⟩;refine⟨a,b,c,?_⟩;rcases aB.1 hd with hd|hd
 .exact⟨d,hd,e⟩
 rw[aI.1 hd] at e;rcases g with g|⟨z,q,m⟩
 .rw[e] at g;rw[g] at b;exact absurd b c
 obtain⟨_,_,_,d2,f,j⟩:=(i z).1 q;exact⟨d2,f,by rw[j,m,e]⟩
def VD{l:List Ch}{k j:Nat}{o:List Of}{y:Ch}(h:Cbk l k o)(n:l[k]?=some y)(g:Fw l y.want≠0)(i:∀z∈o.take j,IN z.want y.want=true)(m:∀z,o[j]?=some z->IN y.want z.want=true):Cbk l (k+1) (o.take j++⟨0,y.want,Fw l y.want⟩::o.drop j):=by
 obtain⟨g1,g2,f⟩:=h;refine⟨UF g1 i m,by rw[aA,bN,aW,bG];omega,λx=>?_⟩;rw[NL,f x,bJ n];constructor
 .rintro(rfl|⟨a,b,c,d,hd,e⟩)
  .exact⟨rfl,rfl,g,y,by simp,rfl⟩
  exact⟨a,b,c,d,by simp[hd],e⟩
 rintro⟨a,b,c,d,hd,e⟩;rcases aB.1 hd with hd|hd
 .exact .inr ⟨a,b,c,d,hd,e⟩
 rw[aI.1 hd] at e;refine .inl ?_;show(⟨x.b,x.want,x.v⟩:Of)=_;rw[a,b,e]
set_option maxHeartbeats 4000000 in
theorem Eu{w:ah}{a:OA}{c:Nat}{l:List Ch}(hr:zO w a l)(hl:l.length<=900)(ho:∀c∈l,c.Ok):
  CP 94 #[.slice a l.length c] w (λr E=>∃U V,r=.slice U (Cq l).length V/\St w E (Sep [dB U V (Cq l),emp])):=by
 have hc:∀c∈l,0<=cost c.p c.want:=λc h=>(nh (ho c h).p (ho c h).w).1;refine yS.1.2.2.2.2.1 (bF (Em hr (by omega) ho) λw1 d1=>⟨_,rfl,cF rfl ⟨λL l2 c2 n w2 m=>∃(k:Nat) (o:List Of),l2=o.length/\n=k/\k<=l.length/\m=l.length-k/\Cbk l k o/\St w w2 (Sep [dB L c2 o,emp]),⟨l.length,0,[],rfl,rfl,by omega,by omega,⟨List.Pairwise.nil,aD 0,λx=>by simp⟩,St.gB (St.start' d1).one⟩,?_⟩⟩);rintro w2 m L l2 c2 n ⟨k,o,rfl,rfl,hk,hm,N,s2⟩-
 by_cases O:(k:Int)<(l.length:Int)
 rotate_left
 .obtain rfl:k=l.length:=by omega
  have e:=MM N.1 (YN l) λx=>by rw[N.2.2 x,VC hc,aH]
  exact dz O ⟨L,c2,by rw[e],by rw[<-e];exact s2⟩
 obtain⟨y,P⟩:=dX l k (by omega);have oy:=ho y (ak P);have hol:=N.2.1;let X:Of:=⟨0,y.want,Fw l y.want⟩;let M:Nat->List bP:=λr=>[dB L c2 o,ay r X.cells.toArray 70,emp];let J:Option Addr->Nat->Nat->ah->Prop:=λa3 l3 c3 R=>∃Q:List Of,l3=Q.length/\Cbk l (k+1) Q/\St w R (Sep [dB a3 c3 Q,emp]);have A:=s2.quiet (aZ.drew w2 []);obtain⟨p,hp,hcl⟩:=(hr.aK A.aK).at P;have G:∀{E},aZ w E []->aU E (Addr.add (Addr.add p ((((k:Nat):Int)).toNat*12)) 6) 0 y.want.vs:=λh=>by
  obtain⟨f,d,b⟩:=(hr.aK h).at P;rw[hp] at d;cases d;exact rR b
 refine di O ⟨J,?_,λr R=>St w R (Sep (M r)),?_,av hp ⟨by omega,by omega,y.want,G A.aK,av hp ⟨by omega,by omega,y.want,G A.aK,bg (zw (c2:=0) (bids:=[]) (hr.aK A.aK) (by omega) ho Dn.nil (by simp) rfl y.want) ?_,A.aY vX.cells.toArray λr S C=>⟨G C.aK,G C.aK,bg (zw (c2:=0) (bids:=[]) (hr.aK C.aK) (by omega) ho Dn.nil (by simp) rfl y.want) ?_⟩⟩⟩⟩
 .rintro R a3 l3 c3 ⟨Q,rfl,b,W⟩-;exact⟨l.length-(k+1),by omega,k+1,Q,rfl,gC (by omega),by omega,rfl,b,W⟩
 rotate_left
 .rintro v I ⟨rfl,b⟩;have D:=A.quiet b;exact⟨_,rfl,G D.aK,D.aY vX.cells.toArray λr S C=>⟨G C.aK,C.aR 0 rfl X.cells rfl X.one λK B=>B.aM [1,0,2]⟩⟩
 .rintro v I ⟨rfl,b⟩;have D:=C.quiet b;exact⟨_,rfl,G D.aK,D.aR 0 rfl X.cells rfl X.one λK B=>B.aM [1,0,2]⟩
 rintro R r A -;have v:∀{E} {b:Bool},St w E (Sep (M r))->(Fw l y.want=0\/∃z∈o,z.want=y.want)->J L o.length c2 E:=λs g=>⟨o,rfl,RP N P g,s.aM [0,2]⟩;refine⟨λb S=>b=decide (Fw l y.want=0)/\St w S (Sep (M r)),?_,y.want,A.bA 1 1 rfl rfl,?_⟩
 rotate_left
 .rw[I6.beq_eq]
  by_cases g:y.want=z6
  .have:Fw l y.want=0:=by rw[g];exact Rg l
   exact di g ⟨(dT this).symm,A⟩
  exact dz g ⟨_,A.aj 1 rfl 7,by by_cases h:Fw l y.want=0<;>simp[h,X],A⟩
 rintro S b ⟨rfl,C⟩-;refine cBq (λg=>v (b:=true) C (.inl g)) λg=>⟨λi I m5=>∃j:Nat,i=j/\j<=o.length/\m5=o.length-j/\(∀z∈o.take j,IN z.want y.want=true)/\St w I (Sep (M r)),⟨o.length,0,rfl,by omega,by omega,by simp,C⟩,?_⟩;rintro I m5 i ⟨j,rfl,hj,hm5,hA,D⟩-;refine⟨λb K=>(b=true->∃z,o[j]?=some z/\IN z.want y.want=true)/\(b=false->∀z,o[j]?=some z->IN z.want y.want=false)/\St w K (Sep (M r)),?_,?_⟩
 rotate_left
 .by_cases f:(j:Int)<(o.length:Int)
  .obtain⟨z,d⟩:=dX o j (by omega);have B:=D.quiet (aZ.drew I []);obtain⟨q,hq,F⟩:=(St.rd Of.len (B.out 0 rfl)).at d;exact di f (av hq ⟨by omega,by omega,z.want,rU F,y.want,B.bA 1 1 rfl rfl,bF (AE _ z.want y.want) λT u=>⟨_,rfl,λh=>⟨z,d,h⟩,λh z' t=>by rw[d] at t;cases t;exact h,B.quiet u⟩⟩)
  exact dz f ⟨λh=>(by cases h),λ_ z d=>by have:=(ai.1 d).1;omega,D.quiet (aZ.drew I [])⟩
 rintro K b ⟨Y,Z,B⟩-
 cases b with
 |true=>
  obtain⟨z,d,hlz⟩:=Y rfl;have:=(ai.1 d).1;exact cT rfl (mS (by omega) ⟨λu H=>by
   rw[bJ d] at H;rcases aB.1 H with H|H
   .exact hA u H
   rw[aI.1 H];exact hlz,B⟩)
 |false=>
  have H:=Z rfl;refine cF rfl ⟨λb T=>(b=true->∃z,o[j]?=some z/\z.want=y.want)/\(b=false->∀z,o[j]?=some z->z.want≠y.want)/\St w T (Sep (M r)),?_,?_⟩
  rotate_left
  .by_cases f:(j:Int)<(o.length:Int)
   .obtain⟨z,d⟩:=dX o j (by omega);have u:=B.quiet (aZ.drew K []);obtain⟨q,hq,F⟩:=(St.rd Of.len (u.out 0 rfl)).at d;refine di f (av hq ⟨by omega,by omega,z.want,rU F,y.want,u.bA 1 1 rfl rfl,?_⟩);rw[I6.beq_eq];exact⟨λh=>⟨z,d,dG h⟩,λh z' t=>by rw[d] at t;cases t;exact of_decide_eq_false h,u⟩
   exact dz f ⟨λh=>(by cases h),λ_ z d=>by have:=(ai.1 d).1;omega,B.quiet (aZ.drew K [])⟩
  rintro T b ⟨f,q,u⟩-
  cases b with
  |true=>
   obtain⟨z,d,t⟩:=f rfl;exact cT rfl (v (b:=true) u (.inr ⟨z,ak d,t⟩))
  |false=>
   have hC:=q rfl;have t:=u.quiet (aZ.drew T []);have F:=(St.nj (t.out 0 rfl)).1;have W:∀z,o[j]?=some z->IN y.want z.want=true:=λz d=>HJ (x:=X) (y:=z) (H z d) λe=>hC z d e.symm;exact cF rfl ⟨by omega,by omega,0,y.want,Fw l y.want,t.cellsIn 1 rfl,by omega,by omega,JI t hj (by omega) λU V E s'=>⟨_,rfl,VD N P g hA W,s'.aM [0,3]⟩⟩
end Go.Proofs.YtmhhlijfepaphaaGreatDoor
namespace Go.Vc
def WD(x:Int):List Int->Int
 |[]=>x
 |y::l=>WD (if y<x then y else x) l
theorem L7:∀{l:List Int} {x:Int},WD x l<=x
 |[],x=>bR x
 |y::l,x=>by
  have h:WD x (y::l)<=if y<x then y else x:=L7 (l:=l)
  omega
theorem NW:∀{l:List Int} {x y:Int},y∈l->WD x l<=y
 |z::l,x,y,h=>by
  rcases aP.1 h with h|h
  .subst h;have h:WD x (y::l)<=if y<x then y else x:=L7 (l:=l)
   refine bM h ?_
   split<;>omega
  exact NW (x:=if z<x then z else x) h
theorem Tb:∀{l:List Int} {x:Int},WD x l=x\/WD x l∈l
 |[],x=>.inl rfl
 |y::l,x=>by
  unfold WD;rcases Tb (l:=l) (x:=if y<x then y else x) with h|h
  .grind
  grind
theorem Kg:∀(n:Nat) (l:List Nat),l.Nodup->(∀x∈l,x<n)->l.length<=n
 |0,l,_,h=>by
  cases l with
  |nil=>exact aD _
  |cons x l=>exact absurd (h x (dw ..)) (gT x)
 |n+1,l,hd,h=>by
  have a:=Kg n (l.erase n) (hd.erase n) λx b=>by
   have c:=List.mem_of_mem_erase b;have d:=h x c;have f:x≠n:=λe=>by subst e;exact(List.Nodup.not_mem_erase hd) b
   omega
  rw[List.length_erase] at a
  split at a<;>omega
section
variable (N:Nat) (g:Nat->Nat->List Int)
def dst:Nat->Nat->Int
 |0,_=>0
 |k+1,b=>WD (dst k b) ((List.range N).flatMap λa=>(g a b).map λx=>dst k a+x)
variable {N g}
def Sf(k b:Nat):dst N g (k+1) b<=dst N g k b:=L7
def Js{k a b:Nat}{x:Int}(ha:a<N)(c:x∈g a b):dst N g (k+1) b<=dst N g k a+x:=
 NW (by grind)
def Hg(k b:Nat):dst N g (k+1) b=dst N g k b\/∃a x,a<N/\x∈g a b/\dst N g (k+1) b=dst N g k a+x:=by
 grind[Tb,dst]
theorem Aa{b:Nat}:∀{j k:Nat},j<=k->dst N g k b<=dst N g j b
 |j,0,h=>by
  obtain rfl:j=0:=by omega
  exact bR _
 |j,k+1,h=>by
  rcases aQ j (k+1) with a|a
  .exact bM (Sf k b) (Aa (by omega))
  obtain rfl:j=k+1:=by omega
  exact bR _
def tL(N:Nat)(g:Nat->Nat->List Int)(p:Nat->Int):Prop:=∀a b,a<N->b<N->∀x∈g a b,p b<=p a+x
def Ph{p:Nat->Int}(o:tL N g p):∀(k b:Nat),b<N->dst N g (k+1) b<dst N g k b ->
  ∃L:List Nat,L.length=k+1/\(b::L).Nodup/\(∀c∈L,c<N)/\∀c∈L,∃j,j<=k/\dst N g (k+1) b-dst N g j c>=p b-p c:=λk=>by
 have q:∀{k b:Nat} {L:List Nat},dst N g (k+1) b<dst N g k b->(∀c∈L,∃j,j<=k/\dst N g (k+1) b-dst N g j c>=p b-p c)->b∉L:=λ{k b L} i d f=>by
  obtain⟨j,e,h⟩:=d b f;have:=Aa (N:=N) (g:=g) (b:=b) e;omega
 induction k with
 |zero=>
  intro b f i;rcases Hg (N:=N) (g:=g) 0 b with h|⟨a,x,e,l,h⟩
  .omega
  have d:∀c∈[a],∃j,j<=0/\dst N g (0+1) b-dst N g j c>=p b-p c:=λc d=>by
   cases aI.1 d
   have:=o a b e f x l;grind
  refine⟨[a],rfl,(by grind),λc d=>?_,d⟩;grind
 |succ k t=>
  intro b f i;rcases Hg (N:=N) (g:=g) (k+1) b with h|⟨a,x,e,l,h⟩
  .omega
  have r:dst N g (k+1) a<dst N g k a:=by
   have m:=Js (N:=N) (k:=k) e l;omega
  obtain⟨L,v,hd,u,d⟩:=t a e r;have s:=o a b e f x l;have m:∀c∈a::L,∃j,j<=k+1/\dst N g (k+1+1) b-dst N g j c>=p b-p c:=λc n=>by
   grind
  refine⟨a::L,by grind,(by grind),λc n=>?_,m⟩;grind
theorem Sg{p:Nat->Int}(c:tL N g p){k b:Nat}(a:b<N)(e:N<=k+1):dst N g (k+1) b=dst N g k b:=by
 rcases kY (dst N g (k+1) b) (dst N g k b) with h|h
 .obtain⟨L,f,hd,d,_⟩:=Ph c k b a h;have:=Kg N (b::L) hd λx i=>by
   grind
  simp only[bN] at this;omega
 have:=Sf (N:=N) (g:=g) k b;omega
def Jt{p:Nat->Int}(i:tL N g p){k:Nat}(h:N<=k+1):tL N g (dst N g k):=λa b c f x d=>by
 have e:=Js (N:=N) (k:=k) c d;grind[Sg]
end
section
variable {g:Nat->Nat->Int} {n r a b:Nat} {s t:Lo}
abbrev g1 (g:Nat->Nat->Int):Nat->Nat->List Int:=λa b=>[g a b]
def Qt(h:(Ft g r a b t).ch<0):Ft g r a b t=t/\t.v b<=t.v a+g a b:=by
 unfold Ft at h⊢;grind
theorem F5:∀{m:Nat} {t:Lo},(HF g r a m t).ch<0->HF g r a m t=t/\∀b,b<m->t.v b<=t.v a+g a b
 |0,t,_=>⟨rfl,λb i=>by omega⟩
 |m+1,t,h=>by
  obtain⟨c,e⟩:=Qt (h);have f:(HF g r a m t).ch<0:=by rw[<-c];exact h
  obtain⟨d,j⟩:=F5 f;rw[d] at e;refine⟨c.trans d,λb i=>?_⟩;grind
theorem F4:∀{m:Nat} {t:Lo},(JV g n r m t).ch<0->JV g n r m t=t/\∀a,a<m->∀b,b<n->t.v b<=t.v a+g a b
 |0,t,_=>⟨rfl,λa i=>by omega⟩
 |m+1,t,h=>by
  obtain⟨c,e⟩:=F5 (h);have f:(JV g n r m t).ch<0:=by rw[<-c];exact h
  obtain⟨d,j⟩:=F4 f;rw[d] at e;refine⟨c.trans d,λa i=>?_⟩;grind
theorem PB(h:(Ra g n r s).ch<0):tL n (g1 g) (Ra g n r s).v:=by
 obtain⟨c,d⟩:=F4 h;intro a b e f x i;grind[Ra]
theorem F6:∀{k r:Nat} {s:Lo},0<k->(SZ g n k r s).ch<0->∃p,tL n (g1 g) p
 |k+1,r,s,_,h=>by
  unfold SZ at h
  split at h
  .grind[PB]
  rename_i a
  cases k with
  |zero=>exact absurd h a
  |succ k=>exact F6 (ou k) h
def HH(h:(ua g n).ch<0):∃p,tL n (g1 g) p:=by
 rcases jf n with c|c
 .subst c;exact⟨λ_=>0,λa b d=>by omega⟩
 exact F6 c h
structure Vd (g:Nat->Nat->Int) (n:Nat) (q:Nat->Int) (s t:Lo):Prop where
 le:∀b,t.v b<=s.v b
 ge:(∀b,b<n->q b<=s.v b)->∀b,b<n->q b<=t.v b
def Vd.refl{q:Nat->Int}:Vd g n q s s:=⟨λ_=>bR _,λh=>h⟩
def Vd.trans{q:Nat->Int}{u:Lo}(a:Vd g n q s t)(c:Vd g n q t u):Vd g n q s u:=⟨λb=>bM (c.le b) (a.le b),λh=>c.ge (a.ge h)⟩
def Z6{q:Nat->Int}(f:tL n (g1 g) q)(ha:a<n)(d:b<n):Vd g n q t (Ft g r a b t)/\(Ft g r a b t).v b<=t.v a+g a b:=by
 unfold Ft
 split
 .rename_i k;refine⟨⟨λc=>?_,λh c j=>?_⟩,?_⟩
  .by_cases e:c=b
   .grind[jO]
   simp_all[oE]
  .show q c<=vT t.v b _ c
   by_cases e:c=b
   .subst e;rw[jO];have i:=f a c ha d _ (aI.2 rfl);grind
   grind[oE]
  simp[jO]
 exact⟨.refl,by omega⟩
theorem SY{q:Nat->Int}(f:tL n (g1 g) q)(ha:a<n):∀{m:Nat},m<=n->Vd g n q t (HF g r a m t)/\∀b,b<m->(HF g r a m t).v b<=t.v a+g a b
 |0,_=>⟨.refl,λb i=>by omega⟩
 |m+1,k=>by
  obtain⟨d,h⟩:=SY f ha (m:=m) (by omega);obtain⟨e,j⟩:=Z6 (t:=HF g r a m t) (r:=r) f ha (show m<n by omega);refine⟨d.trans e,λb i=>?_⟩;show(Ft g r a m (HF g r a m t)).v b<=_;rcases aQ b m with c |c
  .exact bM (e.le b) (h b c)
  obtain rfl:b=m:=by omega
  have:=d.le a;omega
theorem SX{q:Nat->Int}(h:tL n (g1 g) q):∀{m:Nat},m<=n->Vd g n q t (JV g n r m t)/\∀a,a<m->∀b,b<n->(JV g n r m t).v b<=t.v a+g a b
 |0,_=>⟨.refl,λa k=>by omega⟩
 |m+1,l=>by
  obtain⟨d,i⟩:=SX h (m:=m) (by omega);obtain⟨e,j⟩:=SY (t:=JV g n r m t) (r:=r) h (show m<n by omega) (aD n);refine⟨d.trans e,λa k b f=>?_⟩;show(HF g r m n (JV g n r m t)).v b<=_;rcases aQ a m with c |c
  .exact bM (e.le b) (i a c b f)
  obtain rfl:a=m:=by omega
  have:=j b f;have:=d.le a;omega
theorem JX(c:∀b,b<n->t.v b<=t.v a+g a b):∀{m:Nat},m<=n->HF g r a m t=t
 |0,_=>rfl
 |m+1,d=>by
  have e:=JX c (m:=m) (by omega);show Ft g r a m (HF g r a m t)=t;rw[e,Ft,af (by have:=c m (by omega);omega)]
theorem JW(c:∀a,a<n->∀b,b<n->t.v b<=t.v a+g a b):∀{m:Nat},m<=n->JV g n r m t=t
 |0,_=>rfl
 |m+1,d=>by
  have e:=JW c (m:=m) (by omega);show HF g r m n (JV g n r m t)=t;rw[e];exact JX (c m (by omega)) (aD n)
theorem JY{p:Nat->Int}(j:tL n (g1 g) p):∀{k r:Nat} {s:Lo},0<k->k+r=n->(∀b,b<n->s.v b<=dst n (g1 g) r b)->(∀b,b<n->dst n (g1 g) (n-1) b<=s.v b)->(SZ g n k r s).ch<0
 |k+1,r,s,_,y,f,m=>by
  have l:=Jt j (k:=n-1) (by omega);obtain⟨i,o⟩:=SX (t:={s with ch:=-1}) (r:=r+1) l (aD n);unfold SZ
  split
  .omega
  rename_i u
  cases k with
  |zero=>
   exfalso;apply u
   have e:∀b,b<n->s.v b=dst n (g1 g) (n-1) b:=λb c=>by
    grind
   have:Ra g n (r+1) s={s with ch:=-1}:=JW (λa d b c=>by
    rw[e a d,e b c];exact l a b d c _ (aI.2 rfl)) (aD n)
   grind
  |succ k=>
   refine JY j (ou k) (by omega) (λb c=>?_) (i.ge m);rcases Hg (N:=n) (g:=g1 g) r b with h|⟨a,x,d,w,h⟩
   .rw[h];exact bM (i.le b) (f b c)
   cases aI.1 w
   rw[h];have e:=o a d b c;have q:=f a d;exact bM e (Int.add_le_add_right q _)
def HG{p:Nat->Int}(d:tL n (g1 g) p):(ua g n).ch<0:=by
 rcases jf n with a|a
 .subst a;show(-1:Int)<0;decide
 exact JY d a (by omega) (λb c=>bR _) λb c=>Aa (j:=0) (by omega)
def J2:(ua g n).ch<0<->∃p,tL n (g1 g) p:=⟨HH,λ⟨_,h⟩=>HG h⟩
end
end Go.Vc
namespace Go.Vc
structure Qs where
 v:Nat->Int
 calm:Bool
section
variable (c:Nat->Nat->Int) (hit:Nat->Nat->Bool) (n N:Nat)
def qJ(x:Int)(h:Nat->Bool):Nat->Qs->Qs
 |0,s=>s
 |m+1,s=>if h m=true/\(qJ x h m s).v m<x then ⟨vT (qJ x h m s).v m x,false⟩ else qJ x h m s
def qK(i:Nat):Nat->Qs->Qs
 |0,s=>s
 |k+1,s=>qJ ((qK i k s).v k+c i k) (hit i) N (qK i k s)
def qI:Nat->Qs->Qs
 |0,s=>s
 |i+1,s=>qK c hit N i N (qI i s)
def qR(s:Qs):Qs:=qI c hit N n {s with calm:=true}
def qF:Nat->Qs->Bool
 |0,_=>false
 |f+1,s=>if (qR c hit n N s).calm=true then true else qF f (qR c hit n N s)
def abx:Bool:=qF c hit n N (N+1) ⟨λ_=>0,true⟩
def gQ:Nat->Nat->List Int:=λa b=>((List.range n).filter λi=>hit i b).map λi=>-(c i a)
variable {c hit n N}
def LS{i a b:Nat}(hi:i<n)(d:hit i b=true):-(c i a)∈gQ c hit n a b:=aN.2 ⟨i,cS.2 ⟨eV.2 hi,d⟩,rfl⟩
def Hy{a b:Nat}{x:Int}(h:x∈gQ c hit n a b):∃i,i<n/\hit i b=true/\x=-(c i a):=by
 obtain⟨i,d,e⟩:=aN.1 h;grind
theorem TQ(x:Int)(h:Nat->Bool)(s:Qs):∀(m j:Nat),(qJ x h m s).v j=if j<m/\h j=true/\s.v j<x then x else s.v j
 |0,j=>by rfl
 |m+1,j=>by
  have b:=TQ x h s m;unfold qJ
  by_cases a:h m=true/\(qJ x h m s).v m<x
  .rw[ag a];show vT (qJ x h m s).v m x j=_
   by_cases e:j=m
   .simp_all[jO]
   rw[oE _ _ e,b j];grind
  grind
theorem Ks{x:Int}{h:Nat->Bool}{s:Qs}:∀{m:Nat},(qJ x h m s).calm=true->qJ x h m s=s/\∀j,j<m->h j=true->x<=s.v j
 |0,_=>⟨rfl,λj e=>by omega⟩
 |m+1,a=>by
  unfold qJ at a⊢
  by_cases b:h m=true/\(qJ x h m s).v m<x
  .grind
  rw[af b] at a⊢;obtain⟨c,d⟩:=Ks a;grind
theorem Oj{x:Int}{h:Nat->Bool}{s:Qs}:∀{m:Nat},(∀j,j<m->h j=true->x<=s.v j)->qJ x h m s=s
 |0,_=>rfl
 |m+1,a=>by
  have e:=Oj (m:=m) λj b=>a j (by omega);simp_all[qJ,af]
theorem Kt{i:Nat}{s:Qs}:∀{m:Nat},(qK c hit N i m s).calm=true->qK c hit N i m s=s/\∀k,k<m->∀j,j<N->hit i j=true->s.v k+c i k<=s.v j
 |0,_=>⟨rfl,λk h=>by omega⟩
 |m+1,d=>by
  obtain⟨a,f⟩:=Ks (d);have g:(qK c hit N i m s).calm=true:=by rw[<-a];exact d
  obtain⟨b,l⟩:=Kt g;rw[b] at f;refine⟨a.trans b,λk h=>?_⟩;rcases aQ k m with e |e
  .grind
  grind
theorem Kr{s:Qs}:∀{m:Nat},(qI c hit N m s).calm=true->qI c hit N m s=s/\∀i,i<m->∀k,k<N->∀j,j<N->hit i j=true->s.v k+c i k<=s.v j
 |0,_=>⟨rfl,λk h=>by omega⟩
 |m+1,d=>by
  obtain⟨a,f⟩:=Kt (d);have g:(qI c hit N m s).calm=true:=by rw[<-a];exact d
  obtain⟨b,l⟩:=Kr g;rw[b] at f;refine⟨a.trans b,λk h=>?_⟩;rcases aQ k m with e |e
  .grind
  grind
theorem Oh:∀{f:Nat} {s:Qs},qF c hit n N f s=true->∃p,tL N (gQ c hit n) p
 |f+1,s,h=>by
  unfold qF at h
  split at h
  .rename_i d;obtain⟨_,g⟩:=Kr (d);refine⟨λj=>-(s.v j),λa b k l x e=>?_⟩;obtain⟨i,o,m,rfl⟩:=Hy e;grind
  exact Oh h
structure Rq (N:Nat) (q:Nat->Int) (s t:Qs):Prop where
 le:∀j,s.v j<=t.v j
 up:(∀j,j<N->s.v j<=-(q j))->∀j,j<N->t.v j<=-(q j)
def Rq.refl{q:Nat->Int}{s:Qs}:Rq N q s s:=⟨λ_=>bR _,λh=>h⟩
def Rq.trans{q:Nat->Int}{s t u:Qs}(a:Rq N q s t)(c:Rq N q t u):Rq N q s u:=⟨λb=>bM (a.le b) (c.le b),λh=>c.up (a.up h)⟩
def ab3{q:Nat->Int}(e:tL N (gQ c hit n) q){i k:Nat}(hi:i<n)(d:k<N){t:Qs}:Rq N q t (qJ (t.v k+c i k) (hit i) N t)/\∀j,j<N->hit i j=true->t.v k+c i k<=(qJ (t.v k+c i k) (hit i) N t).v j:=by
 refine⟨⟨λj=>?_,λh j a=>?_⟩,λj a g=>?_⟩
 .grind[TQ]
 .rw[TQ]
  split
  .rename_i b;have f:=e k j d a _ (LS hi b.2.1);grind
  grind
 rw[TQ];grind
theorem Yh{q:Nat->Int}(d:tL N (gQ c hit n) q){i:Nat}(hi:i<n){s:Qs}:∀{m:Nat},m<=N->Rq N q s (qK c hit N i m s)/\∀k,k<m->∀j,j<N->hit i j=true->s.v k+c i k<=(qK c hit N i m s).v j
 |0,_=>⟨.refl,λk l=>by omega⟩
 |m+1,p=>by
  obtain⟨a,o⟩:=Yh d hi (s:=s) (m:=m) (by omega);obtain⟨b,f⟩:=ab3 d hi (show m<N by omega) (t:=qK c hit N i m s);refine⟨a.trans b,λk l j h g=>?_⟩;show _<=(qJ _ _ N (qK c hit N i m s)).v j;rcases aQ k m with e |e
  .exact bM (by grind) (b.le j)
  obtain rfl:k=m:=by omega
  have:=f j h g;have:=a.le k;omega
theorem Yg{q:Nat->Int}(e:tL N (gQ c hit n) q){s:Qs}:∀{m:Nat},m<=n->Rq N q s (qI c hit N m s)/\∀i,i<m->∀k,k<N->∀j,j<N->hit i j=true->s.v k+c i k<=(qI c hit N m s).v j
 |0,_=>⟨.refl,λk d=>by omega⟩
 |m+1,r=>by
  obtain⟨a,o⟩:=Yg e (s:=s) (m:=m) (by omega);obtain⟨b,g⟩:=Yh e (show m<n by omega) (s:=qI c hit N m s) (aD N);refine⟨a.trans b,λi p k d j l h=>?_⟩;show _<=(qK c hit N m N (qI c hit N m s)).v j;rcases aQ i m with f |f
  .exact bM (by grind) (b.le j)
  obtain rfl:i=m:=by omega
  have:=g k d j l h;have:=a.le k;omega
theorem Ol{i:Nat}{s:Qs}(a:∀k,k<N->∀j,j<N->hit i j=true->s.v k+c i k<=s.v j):∀{m:Nat},m<=N->qK c hit N i m s=s
 |0,_=>rfl
 |m+1,b=>by
  have e:=Ol a (m:=m) (by omega);show qJ ((qK c hit N i m s).v m+c i m) (hit i) N (qK c hit N i m s)=s;rw[e];exact Oj (a m (by omega))
theorem Oi{s:Qs}(a:∀i,i<n->∀k,k<N->∀j,j<N->hit i j=true->s.v k+c i k<=s.v j):∀{m:Nat},m<=n->qI c hit N m s=s
 |0,_=>rfl
 |m+1,b=>by
  have e:=Oi a (m:=m) (by omega);show qK c hit N m N (qI c hit N m s)=s;rw[e];exact Ol (a m (by omega)) (aD N)
theorem Og{p:Nat->Int}(t:tL N (gQ c hit n) p)(z:0<N):∀{f r:Nat} {s:Qs},1<f->f+r=N+1->(∀j,j<N->-(dst N (gQ c hit n) r j)<=s.v j)->(∀j,j<N->s.v j<=-(dst N (gQ c hit n) (N-1) j))->qF c hit n N f s=true
 |f+1,r,s,F,B,m,w=>by
  have u:=Jt t (k:=N-1) (by omega);obtain⟨o,y⟩:=Yg u (s:={s with calm:=true}) (aD n);unfold qF
  by_cases q:(qR c hit n N s).calm=true
  .grind
  rw[af q]
  by_cases A:f=1
  .exfalso;apply q
   have e:∀j,j<N->s.v j=-(dst N (gQ c hit n) (N-1) j):=λj b=>by
    grind
   have:qR c hit n N s={s with calm:=true}:=Oi (λi l k a j b d=>by
    rw[e k a,e j b];have:=u k j a b _ (LS l d);omega) (aD n)
   grind
  refine Og t z (r:=r+1) (by omega) (by omega) (λj b=>?_) (o.up w);rcases Hg (N:=N) (g:=gQ c hit n) r j with h|⟨a,x,e,C,h⟩
  .rw[h];exact bM (m j b) (o.le j)
  obtain⟨i,l,d,rfl⟩:=Hy C;rw[h];have D:=y i l a e j b d;have E:=m a e;show _<=(qI c hit N n {s with calm:=true}).v j;grind
def RX(a:0<N):abx c hit n N=true<->∃p,tL N (gQ c hit n) p:=by
 refine⟨Oh,λ⟨p,d⟩=>Og d a (r:=0) (by omega) (by omega) (λj _=>?_) λj _=>?_⟩
 .show -(0:Int)<=0;decide
 show(0:Int)<=_;have:=Aa (N:=N) (g:=gQ c hit n) (b:=j) (e9 (N-1));have e:dst N (gQ c hit n) 0 j=0:=rfl;omega
end
end Go.Vc
namespace Go.Proofs.YtmhhlijfepaphaaGreatDoor
open Go Go.Vc _root_.Go.Proofs.Tryz
theorem Oo{m u v:I6}:∀{k:Nat},(∀j,j<k->u.at' j=v.at' j)->ku m u k=ku m v k
 |0,_=>rfl
 |k+1,h=>by simp only[ku];rw[Oo λj a=>h j (by omega),h k (by omega)]
def Sa{a b x y M:Int}(h:a*(M+1)+x=b*(M+1)+y)(d:0<=x/\x<=M)(e:0<=y/\y<=M):a=b/\x=y:=by
 rcases kJ a b with c|c|c
 .have:=bt (show a+1<=b by omega) (show 0<=M+1 by omega);rw[eY] at this;omega
 .subst c;omega
 have:=bt (show b+1<=a by omega) (show 0<=M+1 by omega);rw[eY] at this;omega
theorem MB{m u v:I6}(b:rP m u)(c:rP m v):∀{k:Nat},k<=6->ku m u k=ku m v k->∀j,j<k->u.at' j=v.at' j
 |0,_,_,j,f=>by omega
 |k+1,g,h,j,f=>by
  simp only[ku] at h;obtain⟨d,e⟩:=Sa h (b.u k (by omega)) (c.u k (by omega));rcases aQ j k with a |a
  .exact MB b c (by omega) d j a
  obtain rfl:j=k:=by omega
  exact e
def XU(m:I6)(k:Nat)(l:List I6):Prop:=∀(i:Nat) (u:I6),l[i]?=some u->rP m u/\(∀j,k<=j->j<6->u.at' j=0)/\ku m u k=(i:Int)
def J3(m:I6):List I6:=if DE m=0 then [] else (List.range (bI m)).map (cK m)
def XU.done{m:I6}(a:I6.Le m 4){l:List I6}(h:XU m 6 l)(f:(l.length:Int)=CB m 6):l=(List.range (bI m)).map (cK m):=by
 have g:l.length=bI m:=by have:=(lC a).2.1;rw[uE] at this;omega
 apply aX;intro i
 by_cases c:i<l.length
 .have b:=gE c;generalize l[i]'c=u at b;obtain⟨d,_,e⟩:=h i u b;rw[b,aL,jx (by omega)];refine congrArg some (I6.ext' (MB d (gw a i) (by omega) ?_));rw[e];exact(nQ a i (by omega)).symm
 rw[aJ (by omega),aJ (by simp;omega)]
def XU.snoc{m:I6}{k:Nat}(n:k<6){nx:List I6}(h:XU m (k+1) nx){b:I6}{j q:Nat}(l:rP m b)(r:∀i,k<=i->i<6->b.at' i=0)(p:ku m b k=(j:Int))(t:(q:Int)<=m.at' k)(o:(nx.length:Int)=j*(m.at' k+1)+q):XU m (k+1) (nx++[b.put k q]):=λi u d=>by
 rcases aQ i nx.length with f |f
 .rw[dK f] at d;exact h i u d
 rw[dJ f] at d;have c:i=nx.length:=by
  rcases jf (i-nx.length) with a|a
  .omega
  rw[aJ (by simp;omega)] at d;cases d
 subst c;rw[ot] at d
 cases d
 have a:∀i,i<6->(b.put k (q:Int)).at' i=if i=k then (q:Int) else b.at' i:=λi c=>I6.mq _ _ _ _ n c
 refine⟨⟨l.mm,λi c=>?_⟩,λi s g=>?_,?_⟩
 .rw[a i c];have:=l.u i c
  split
  .rename_i e;subst e;omega
  exact this
 .rw[a i g,af (by omega)];exact r i (by omega) g
 simp only[ku];rw[Oo (v:=b) λi c=>by rw[a i (by omega),af (by omega)],a k n,ag rfl,p,o]
set_option maxHeartbeats 1000000 in
theorem Qd(w:ah)(m:I6):CP 217 #[.agg m.vs.toArray] w (λr w'=>∃a c,r=.slice a (J3 m).length c/\St w w' (kO a c (J3 m))):=by
 refine uS.1.2.2.2.2.2.1 (bE m.vs.toArray λP w1 s1=>⟨m,s1.cellsIn 0 rfl,bF (zv w1 m) λw2 D=>?_⟩);have s2:=s1.quiet D;refine⟨_,rfl,?_⟩
 by_cases g:DE m=0
 .refine cT (by rw[g];rfl) ⟨none,0,by rw[J3,ag g];rfl,?_⟩;rw[J3,ag g];exact(St.gB s2).first
 refine iI g (s2.aY z6.vs.toArray λr2 w3 s3=>?_);obtain⟨hq,X⟩:m.l.all lX=true/\pr m.l<=1024:=by
  unfold DE at g
  split at g
  .assumption
  exact absurd rfl g
 have E:=Mg hq;have V:∀k,k<=6->1<=CB m k/\CB m k<=15625:=λk L=>by
  have h:=o8 (A3 E) k L;refine⟨by omega,bM h.2.2 ?_⟩
  match k,L with
  |0,_|1,_|2,_|3,_|4,_|5,_|6,_=>decide
 have F:=St.weak s3 (dU.left (ic (n:=1) (sz:=6) rfl (by decide)));refine⟨λs Z t i w4 mm=>∃(k:Nat) (l:List I6),i=k/\k<=6/\mm=6-k/\(Z=l.length/\(l.length:Int)=CB m k/\XU m k l)/\St w w4 (Sep [kO s t l,ay P m.vs.toArray 50,emp]),⟨6,0,[z6],rfl,by omega,by omega,⟨rfl,rfl,?_⟩,F⟩,?_⟩
 .intro i u B
  match i,B with
  |0,B=>cases B;exact⟨A3 E,λj _ _=>oU j,rfl⟩
 rintro w4 mm s Z t i ⟨k,l,rfl,L,hmm,⟨rfl,e,U⟩,F⟩-
 by_cases z:(k:Int)<6
 rotate_left
 .obtain rfl:k=6:=by omega
  have b:=U.done E e;refine dz z ⟨s,t,?_,?_⟩
  .rw[J3,af g,<-b]
  rw[J3,af g,<-b];exact F.first
 have d:k<6:=by omega
 have hmk:=E k d;obtain⟨M,hM⟩:∃M:Nat,m.at' k=(M:Int):=⟨(m.at' k).toNat,by omega⟩;have hp:=V k (by omega);have hp1:=V (k+1) (by omega);refine di z ⟨λR l2 D j w5 m3=>∃(n:Nat) (nx:List I6),j=n/\n<=l.length/\m3=l.length-n/\(l2=nx.length/\(nx.length:Int)=n*(m.at' k+1)/\XU m (k+1) nx)/\St w w5 (Sep [kO R D nx,kO s t l,ay P m.vs.toArray 50,emp]),⟨l.length,0,[],rfl,by omega,by omega,⟨rfl,by simp,λi u B=>by simp at B⟩,F.gB⟩,?_⟩;rintro w5 m3 R l2 D j ⟨n,nx,rfl,hn,hm3,⟨rfl,N,v⟩,s5⟩-
 by_cases y:(n:Int)<(l.length:Int)
 rotate_left
 .obtain rfl:n=l.length:=by omega
  exact dz y ⟨6-(k+1),by omega,k+1,nx,inc (by decide) d,by omega,rfl,⟨rfl,by rw[N,e,CB],v⟩,s5.aM [0,2,3]⟩
 obtain⟨b,Y⟩:=dX l n (by omega);obtain⟨H,I,J⟩:=U n b Y;refine di y ⟨λS l3 T j w6 m5=>∃(q:Nat) (h:List I6),j=q/\q<=M+1/\m5=M+1-q/\(l3=h.length/\(h.length:Int)=n*(m.at' k+1)+q/\XU m (k+1) h)/\St w w6 (Sep [kO S T h,kO s t l,ay P m.vs.toArray 50,emp]),⟨M+1,0,nx,rfl,by omega,by omega,⟨rfl,by omega,v⟩,s5⟩,?_⟩;rintro w6 m5 S l3 T j ⟨q,h,rfl,hq1,hm5,⟨rfl,A,x⟩,G⟩-;refine⟨by omega,by omega,m.at' k,by rw[iC,br G 2 rfl d],?_⟩
 by_cases f:(q:Int)<=m.at' k
 rotate_left
 .refine dz f ⟨l.length-(n+1),by omega,n+1,h,gC (by omega),by omega,rfl,⟨rfl,?_,x⟩,G⟩;rw[A,show((n+1:Nat):Int)=n+1 by omega,eY];omega
 have W:(n:Int)*(m.at' k+1)<=15625*5:=mP (by omega) (by omega) (by omega) (by omega);obtain⟨p,O,K⟩:=(St.rd fU (G.out 1 rfl)).at Y;refine di f (av O ⟨by omega,by omega,b,K,G.aY z6.vs.toArray λr3 w7 s7=>s7.aR 0 rfl b.vs rfl (I6.one _) λw8 s8=>⟨by omega,by omega,?_⟩⟩);rw[iC];refine s8.cL 0 rfl d rfl λw9 Q=>?_;rw[I6.nW _ _ _ d] at Q;refine⟨b.put k q,Q.cellsIn 0 rfl,Q.aY (b.put k q).vs.toArray λr4 w10 C=>dW (l2:=[b.put k q]) CH fU I6.one (C.out 2 rfl) (nJ (C.cellsIn 0 rfl) rfl) (by simp;omega) (by simp;omega) λa' c' w11 o=>?_⟩;have o:=o.back (i:=2) (by show 2<6;decide);exact⟨M+1-(q+1),by omega,q+1,h++[b.put k q],gC (by omega),by omega,rfl,⟨rfl,by rw[aA];simp;omega,x.snoc d H I J f A⟩,o.aM [2,3,4,5]⟩
def Gj{w:ah}{a:OA}{l:List Pr}(h:kf w a l){k:Nat}{p:Pr}(d:l[k]?=some p)(j:Nat)(v:Value)(c:p.cells[j]?=some v):∃q,a=some q/\w.cell? (Addr.add (Addr.add q (((k:Nat):Int).toNat*5)) j)=some v:=by
 obtain⟨_,q,e,b⟩:=h k p d;have:=bX b j v c;exact⟨q,e,by rw[aq];rwa [az] at this⟩
def NV{l:List Pr}:I6.mix l.length (dD l) z6=dD l:=I6.ext' λj a=>by
 rw[I6.iy _ _ _ _ a]
 split
 .rfl
 rw[oU,vR _ _ a];simp only[au,aL];rw[aJ (by omega)];rfl
def rI{w:ah}{a:OA}{c:Nat}{l:List Pr}(h:kf w a l):
  CP 97 #[.slice a l.length c] w (λr b=>r=.agg (dD l).vs.toArray/\aZ w b []):=by
 refine(p6 uS.1).1 (bE z6.vs.toArray λi B u=>u.aY z6.vs.toArray λj C v=>⟨λn p m=>∃k:Nat,n=k/\(k<=6/\k<=l.length)/\m=6-k/\St w p (Sep [ay j (I6.mix k (dD l) z6).vs.toArray 50,ay i z6.vs.toArray 50,emp]),⟨6,0,rfl,by omega,by omega,v⟩,?_⟩);rintro p m n ⟨k,rfl,z,A,o⟩-;refine⟨λb r=>b=decide (k<l.length/\k<6)/\St w r (Sep [ay j (I6.mix k (dD l) z6).vs.toArray 50,ay i z6.vs.toArray 50,emp]),?_,?_⟩
 .rintro r b ⟨rfl,f⟩-
  by_cases d:k<l.length/\k<6
  .obtain⟨x,g⟩:=dX l k (by omega);obtain⟨q,t,s⟩:=Gj (h.aK f.aK) g 1 _ rfl;refine di d (av t ⟨by omega,by omega,x.sup,s,by omega,by omega,?_⟩);rw[iC,show x.sup=(dD l).at' k by rw[vR l k d.2];simp[aL,g]];refine f.cL 0 rfl d.2 rfl λy e=>⟨6-(k+1),by omega,k+1,inc (by decide) d.2,by omega,rfl,?_⟩;rw[I6.lE _ _ _ d.2] at e;exact e
  refine dz d ⟨_,f.cellsIn 0 rfl,f.aR 1 rfl (I6.mix k (dD l) z6).vs rfl (I6.one _) λy e=>⟨_,e.cellsIn 1 rfl,?_,e.aK⟩⟩
  by_cases g:k=6
  .rw[g,I6.sM]
  rw[show k=l.length by omega,NV]
 by_cases g:k<l.length
 .refine di (by omega) ⟨?_,o⟩
  by_cases g2:k<6
  .rw[dT (show(k:Int)<6 by omega),dT ⟨g,g2⟩]
  rw[dF (show ¬ (k:Int)<6 by omega),dF λh=>g2 h.2]
 exact dz (by omega) ⟨by rw[dF λh=>g h.1],o⟩
def adG{l:List Pr}(b:iu l):∀p∈l,0<=p.res/\p.res<=1000000:=λp c=>by
 obtain⟨i,a,rfl⟩:=dY.1 c;have:=(b.good i _ (gE a)).1;simp only[xq,EK,aF,aV] at this;omega
def De{wt:Pr->Int}{l:List Pr}{u:I6}(b:I6.Le u 4)(c:∀p∈l,0<=wt p/\wt p<=1000000){k:Nat}(d:k<6){x:Pr}(e:l[k]?=some x){q:Nat}(j:(q:Int)<=u.at' k):0<=tU wt l u k+q*wt x/\tU wt l u k+q*wt x<=28000000:=by
 have f:=AS (l:=l) b c k (by omega);have a:=c x (ak e);have g:=b k d;have h:0<=(q:Int)*wt x:=dh (by omega) a.1;have i:(q:Int)*wt x<=4*1000000:=mP (by omega) a.2 a.1 (by omega);omega
def Ie(q:Nat)(x y:Int):x+((q+1:Nat):Int)*y=x+q*y+y:=by rw[show((q+1:Nat):Int)=q+1 by omega,eY];omega
set_option maxHeartbeats 1000000 in
theorem BH{w:ah}{a:OA}{c:Nat}{l:List Pr}(h:kf w a l)(ho:iu l){u:I6}(hq:u.l.all lX=true)(g:Int):
  CP 158 #[.slice a l.length c,iv g,.agg u.vs.toArray] w (λr b=>r=.tuple #[iv (H6 l u),iv (QK Pr.res l u),iv (UU l g u)]/\aZ w b []):=by
 refine(p6 uS.1).2.1 ?_;have s:=Mg hq;have X:=ho.l2;have t:∀p∈l,0<=(λp:Pr=>if p.Bn=g then (1:Int) else 0) p/\(λp:Pr=>if p.Bn=g then (1:Int) else 0) p<=1000000:=λp _=>by
  show 0<=(if p.Bn=g then (1:Int) else 0)/\(if p.Bn=g then (1:Int) else 0)<=1000000
  split<;>omega
 refine bE u.vs.toArray λC w1 R=>⟨λb E=>b=false/\St w E (Sep [ay C u.vs.toArray 50,emp]),?_,bg (xx (h.aK R.aK)) ?_⟩
 rotate_left
 .rintro v E ⟨⟨rfl,f⟩,d⟩;have D:=R.quiet d;exact⟨_,rfl,cF (by rw[f.2 ho];rfl) ⟨u,D.cellsIn 0 rfl,bF (BJ E u) λM e=>⟨_,rfl,by rw[hq];rfl,D.quiet e⟩⟩⟩
 rintro E b ⟨rfl,D⟩-;refine cF rfl ⟨λx y z i M m=>∃k:Nat,i=k/\k<=l.length/\m=l.length-k/\(x=tU Pr.pts l u k/\y=tU Pr.res l u k/\z=tU (λp=>if p.Bn=g then 1 else 0) l u k)/\St w M (Sep [ay C u.vs.toArray 50,emp]),⟨l.length,0,rfl,by omega,by omega,⟨rfl,rfl,rfl⟩,D⟩,?_⟩;rintro M m x y z i ⟨k,rfl,hk,hm,⟨rfl,rfl,rfl⟩,S⟩-
 by_cases r:(k:Int)<(l.length:Int)
 rotate_left
 .obtain rfl:k=l.length:=by omega
  exact dz r ⟨rfl,S.aK⟩
 obtain⟨x,n⟩:=dX l k (by omega);have d:k<6:=by omega
 have huk:=s k d;refine di r ⟨λO P Q j T mm=>∃q:Nat,j=q/\(q:Int)<=u.at' k/\mm=(u.at' k).toNat-q/\(O=tU Pr.pts l u k+q*x.pts/\P=tU Pr.res l u k+q*x.res/\Q=tU (λp=>if p.Bn=g then 1 else 0) l u k+q*(if x.Bn=g then 1 else 0))/\St w T (Sep [ay C u.vs.toArray 50,emp]),⟨(u.at' k).toNat,0,rfl,by omega,by omega,⟨by simp,by simp,by simp⟩,S⟩,?_⟩;rintro T mm O P Q j ⟨q,rfl,Z,Y,⟨rfl,rfl,rfl⟩,o⟩-;refine⟨by omega,by omega,u.at' k,by rw[iC,br o 0 rfl d],?_⟩
 by_cases f:(q:Int)<u.at' k
 .obtain⟨q1,J,G⟩:=Gj (h.aK o.aK) n 3 _ rfl;obtain⟨q2,K,H⟩:=Gj (h.aK o.aK) n 2 _ rfl;obtain⟨q3,L,I⟩:=Gj (h.aK o.aK) n 4 _ rfl;have V:=De (wt:=Pr.pts) s (wts ho) d n (q:=q+1) (by omega);have W:=De (wt:=Pr.res) s (adG ho) d n (q:=q+1) (by omega);have F:=De s t d n (q:=q+1) (by omega);have N:=De s t d n (q:=q) (by omega);rw[Ie] at V W F;refine di f ⟨λe v A U=>(e=tU Pr.pts l u k+((q+1:Nat):Int)*x.pts/\v=tU Pr.res l u k+((q+1:Nat):Int)*x.res/\A=tU (λp=>if p.Bn=g then 1 else 0) l u k+((q+1:Nat):Int)*(if x.Bn=g then 1 else 0))/\St w U (Sep [ay C u.vs.toArray 50,emp]),?_,?_⟩
  .rintro U e v A ⟨⟨rfl,rfl,rfl⟩,B⟩-;exact⟨(u.at' k).toNat-(q+1),by omega,q+1,gC (by omega),by omega,rfl,⟨rfl,rfl,rfl⟩,B⟩
  refine av J ⟨by omega,by omega,x.pts,G,av K ⟨by omega,by omega,x.res,H,av L ⟨by omega,by omega,x.Bn,I,?_⟩⟩⟩;rw[Ie,Ie,Ie]
  by_cases B:x.Bn=g
  .rw[ag B] at F N⊢;exact gM B ⟨⟨gC (by omega),gC (by omega),gC (by omega)⟩,o⟩
  rw[af B] at F N⊢;exact iI B ⟨⟨gC (by omega),gC (by omega),by omega⟩,o⟩
 have e:(q:Int)=u.at' k:=by omega
 refine dz f (mS (by omega) ⟨?_,o⟩);simp only[tU,n,cU,fL,e];exact⟨trivial,trivial,trivial⟩
theorem Uv{ps:List Pr}{l:List T3}(b:iu ps)(h:rj ps l):∀(k:Nat),k<=l.length->∀(j:Nat),j<6->0<=(vq ps l k).1.at' j/\((l.take k).any (λx=>x.a.toNat==j)=false->(vq ps l k).1.at' j=(dD ps).at' j)
 |0,_,j,g=>⟨(sup_le b j g).1,λ_=>rfl⟩
 |k+1,v,j,g=>by
  have o:=Uv b h k (by omega);obtain⟨x,f⟩:=dX l k (by omega);have u:=I4 b.l2 (UJ b) h f;have p:(vq ps l (k+1)).1=(vq ps l k).1.put x.a.toNat ((vq ps l k).1.at' x.a.toNat-x.c):=by rw[vq,f]
  rw[p,I6.mq _ _ _ _ (by omega) g,bJ f,List.any_append,nv,List.any_nil,Bool.or_false];obtain⟨q,r⟩:=o j g
  by_cases e:j=x.a.toNat
  .rw[ag e];have m:(l.take k).any (λy=>y.a.toNat==x.a.toNat)=false:=by
    rw[eG];intro y n;have s:=eG.1 (h.good k x f).2 y n;obtain⟨i,d⟩:=dQ (bC n);have t:=I4 b.l2 (UJ b) h d;simp only[sameAs,bL] at s⊢;omega
   have i:=(o x.a.toNat (by omega)).2 m;have n:=(h.good k x f).1;simp only[Dw,aF,aV] at n;have s:(dD ps).at' x.a.toNat=(ps[x.a.toNat]?.map Pr.sup).getD 0:=by
    rw[vR _ _ (by omega),au,aL]
   refine⟨by rw[i,s];omega,λd=>?_⟩;rw[<-e] at d;simp at d
  rw[af e];refine⟨q,λd=>r ?_⟩;rw[cI] at d;exact d.1
def WO{ps:List Pr}{l:List T3}(b:iu ps)(h:rj ps l)(j:Nat)(a:j<6):0<=(qS ps l).1.at' j:=(Uv b h _ (aD _) j a).1
set_option maxHeartbeats 1000000 in
theorem Gr{w:ah}{S:Se}(h:S.In w)(hs:S.Ok):
  CP 157 #[.agg S.arr] w (λr d=>r=.tuple #[.agg (qS S.ps S.sa).1.vs.toArray,.agg (qS S.ps S.sa).2.vs.toArray]/\aZ w d []):=by
 refine(p6 uS.1).2.2.1 ?_;have hl:=hs.sa.l1;have z:=hs.ps.l2;refine bE S.arr λG w1 R=>R.aY z6.vs.toArray λH w2 T=>T.aY z6.vs.toArray λI w3 U=>U.aY z6.vs.toArray λJ w4 V=>V.aY z6.vs.toArray λr5 w5 D=>(Ex8<|Ex4<|⟨D.cellsIn 4 rfl,bg (rH (h.aK D.aK)) ?_⟩);rintro v w6 ⟨⟨rfl,P⟩,L⟩;have W:=D.quiet L;refine⟨_,rfl,cF (by rw[P.2 hs];rfl) ⟨λn K m=>∃k:Nat,n=k/\k<=S.ps.length/\m=S.ps.length-k/\St w K (Sep [ay r5 z6.vs.toArray 50,ay J (I6.mix k (dD S.ps) z6).vs.toArray 50,ay I z6.vs.toArray 50,ay H z6.vs.toArray 50,ay G S.arr 34,emp]),⟨S.ps.length,0,rfl,by omega,by omega,W⟩,?_⟩⟩;rintro K m n ⟨k,rfl,E,F,r⟩-;refine⟨_,_,_,r.aj 4 rfl 0,?_⟩
 by_cases f:(k:Int)<(S.ps.length:Int)
 .have d:k<6:=by omega
  obtain⟨x,p⟩:=dX S.ps k (by omega);obtain⟨q,A,e⟩:=Gj (h.aK r.aK).ps p 1 _ rfl;refine di f ⟨_,_,_,r.aj 4 rfl 0,av A ⟨by omega,by omega,x.sup,e,by omega,by omega,?_⟩⟩;rw[iC,show x.sup=(dD S.ps).at' k by rw[vR _ k d];simp[aL,p]];refine r.cL 1 rfl d rfl λu l=>(mS (by omega) ?_);rw[I6.lE _ _ _ d] at l;exact l
 obtain rfl:k=S.ps.length:=by omega
 rw[NV] at r;refine dz f ⟨λn u m=>∃k:Nat,n=k/\k<=S.sa.length/\m=S.sa.length-k/\St w u (Sep [ay r5 (vq S.ps S.sa k).2.vs.toArray 50,ay J (vq S.ps S.sa k).1.vs.toArray 50,ay I z6.vs.toArray 50,ay H z6.vs.toArray 50,ay G S.arr 34,emp]),⟨S.sa.length,0,rfl,by omega,by omega,r⟩,?_⟩;clear f F E;rintro u m n ⟨k,rfl,E,F,l⟩-;refine⟨_,_,_,l.aj 4 rfl 3,?_⟩
 by_cases f:(k:Int)<(S.sa.length:Int)
 .obtain⟨x,p⟩:=dX S.sa k (by omega);obtain⟨q,A,y⟩:=(h.aK l.aK).sa k x p;have Q:=I4 z (UJ hs.ps) hs.sa p;obtain⟨i,g⟩:=cZ Q.1;have e:i<6:=by omega
  refine di f ⟨_,_,_,l.aj 4 rfl 3,av A ⟨by omega,by omega,_,_,_,y,l.aY #[iv 0,iv 0,iv 0] λr6 w9 s=>s.aR 0 rfl x.cells rfl x.one λt j=>?_⟩⟩;have d:=j.quiet (aZ.drew t []);have Z:=MJ hs.ps hs.sa k i e;have O:vq S.ps S.sa (k+1)=((vq S.ps S.sa k).1.put i ((vq S.ps S.sa k).1.at' i-x.c),(vq S.ps S.sa k).2.put i x.b):=by
   rw[vq,p];show((vq S.ps S.sa k).1.put x.a.toNat _,_)=_;rw[g,aq]
  refine⟨i,by rw[d.aj 0 rfl 0,<-g];rfl,i,by rw[d.aj 0 rfl 0,<-g];rfl,by omega,by omega,(vq S.ps S.sa k).1.at' i,by rw[iC];exact br d 2 rfl e,x.c,d.aj 0 rfl 2,by omega,by omega,?_⟩;rw[iC,gC (by omega)];refine d.cL 2 rfl e rfl λX o=>⟨i,by rw[o.aj 0 rfl 0,<-g];rfl,x.b,o.aj 0 rfl 1,by omega,by omega,?_⟩;rw[iC];refine o.cL 1 rfl e rfl λY B=>(mS (by omega) ?_);rw[O];have C:=B.aM [1,2,3,4,5,6];have M:=I6.nW (vq S.ps S.sa k).1 i ((vq S.ps S.sa k).1.at' i-x.c) e;have N:=I6.nW (vq S.ps S.sa k).2 i x.b e;rw[<-M,<-N];exact C
 obtain rfl:S.sa.length=k:=by omega
 have s:=l.quiet (aZ.drew u []);exact dz f ⟨_,s.cellsIn 1 rfl,_,s.cellsIn 0 rfl,s.aR 3 rfl _ rfl (I6.one _) λt j=>⟨j.cellsIn 0 rfl,j.aR 2 rfl _ rfl (I6.one _) λe d=>⟨_,d.cellsIn 3 rfl,_,d.cellsIn 2 rfl,rfl,d.aK⟩⟩⟩
def ZC(b:Br)(sup op cls u:I6)(j:Nat):Bool:=decide (u.at' j<=sup.at' j)&&decide ((yJ b cls u).at' j<=op.at' j)
def N4{b:Br}{sup op cls u:I6}:(∀j,j<6->ZC b sup op cls u j=true)<->(within u sup&&within (yJ b cls u) op)=true:=by
 rw[aF,within_iff,within_iff];simp only[ZC,aF,aV];exact⟨λh=>⟨λk a=>(h k a).1,λk a=>(h k a).2⟩,λh k a=>⟨h.1 k a,h.2 k a⟩⟩
def ZD{b:Br}{sup op cls u:I6}{j:Nat}(a:j<6)(c:0<=op.at' j):ZC b sup op cls u j = !(decide (u.at' j>sup.at' j)||(decide (cls.at' j≠0)&&(decide (cls.at' j≠b.cls)&&decide (u.at' j>op.at' j)))):=by
 have e:(yJ b cls u).at' j=if cls.at' j=0\/cls.at' j=b.cls then 0 else u.at' j:=I6.mU _ _ _ _ a
 rw[ZC,e,lY];simp only[aF,jP,cI,eX,aV,ct]
 by_cases g:cls.at' j=0\/cls.at' j=b.cls
 .rw[ag g];omega
 rw[af g];omega
set_option maxHeartbeats 1000000 in
theorem sO{w:ah}{S:Se}(h:S.In w)(hs:S.Ok){n:Nat}{b:Br}(hb:S.bd[n]?=some b)(u:I6):
  CP 141 #[.agg S.arr,iv n,.agg u.vs.toArray] w (λr d=>r=iv (iO S n b u)/\aZ w d []):=by
 refine(p6 uS.1).2.2.2.1 ?_;have hn:=(ai.1 hb).1;have hpl:=hs.ps.l2;have hcl:=hs.cp.l1;have hbl:=hs.bd.l2;refine bE S.arr λH w1 s1=>s1.aY u.vs.toArray λI w2 Q=>(Ex8<|Ex4<|⟨Q.cellsIn 1 rfl,bg (rH (h.aK Q.aK)) ?_⟩);rintro v w3 ⟨⟨rfl,he⟩,Y⟩;have W:=Q.quiet Y;refine⟨_,rfl,cF (by rw[he.2 hs];rfl) ⟨λx R=>x=false/\St w R (Sep [ay I u.vs.toArray 50,ay H S.arr 34,emp]),?_,dz (by omega) ⟨_,_,_,W.aj 1 rfl 1,dF (by omega),W⟩⟩⟩;rintro R x ⟨rfl,X⟩-;refine cF rfl ⟨u,X.cellsIn 0 rfl,X.qu (BJ R u) λw5 N=>⟨_,rfl,?_⟩⟩
 cases hq:u.l.all lX with
 |false=>exact cT rfl ⟨by rw[iO,hq];rfl,N.aK⟩
 |true=>
 refine cF rfl (Ex8<|Ex4<|⟨N.cellsIn 1 rfl,bF (Gr (h.aK N.aK) hs) λw6 Z=>?_⟩);have F:=WO hs.ps hs.sa;refine⟨_,_,rfl,(N.quiet Z).aY z6.vs.toArray λU w7 s7=>s7.aY z6.vs.toArray λV w8 s8=>s8.aR 1 rfl _ rfl (I6.one _) λw9 s9=>s9.aR 0 rfl _ rfl (I6.one _) λw10 B=>⟨_,_,_,B.aj 3 rfl 0,bF (rI (h.aK B.aK).ps) λw11 O=>⟨_,rfl,(B.quiet O).aY z6.vs.toArray λr5 w12 P=>P.aR 0 rfl _ rfl (I6.one _) λw13 r=>?_⟩⟩⟩;generalize G:(qS S.ps S.sa).1=op at r F;generalize t:(qS S.ps S.sa).2=cls at r;generalize A:dD S.ps=sup at r;have M:iO S n b u=if (within u sup&&within (yJ b cls u) op&&!S.cp.any (pL S.ps n u))=true then 0 else 14:=by rw[iO,ag hq,G,t,A]
 refine⟨λi C m=>∃k:Nat,i=k/\k<=6/\m=6-k/\(∀j,j<k->ZC b sup op cls u j=true)/\St w C (Sep [ay r5 sup.vs.toArray 50,ay V cls.vs.toArray 50,ay U op.vs.toArray 50,ay I u.vs.toArray 50,ay H S.arr 34,emp]),⟨6,0,rfl,by omega,by omega,λj hj=>by omega,r⟩,?_⟩;rintro C m i ⟨k,rfl,hk,hm,T,J⟩-
 by_cases g:(k:Int)<6
 .have e:k<6:=by omega
  have d:=J.quiet (aZ.drew C []);have E:=ZD (b:=b) (sup:=sup) (cls:=cls) (u:=u) e (F k e);refine di g ⟨λx p=>x = !ZC b sup op cls u k/\St w p (Sep [ay r5 sup.vs.toArray 50,ay V cls.vs.toArray 50,ay U op.vs.toArray 50,ay I u.vs.toArray 50,ay H S.arr 34,emp]),?_,by omega,by omega,u.at' k,by rw[iC,br d 3 rfl e],by omega,by omega,sup.at' k,by rw[iC,br d 0 rfl e],?_⟩
  .rintro p x ⟨rfl,s⟩-
   cases D:ZC b sup op cls u k with
   |true=>
    refine cF rfl ⟨6-(k+1),by omega,k+1,inc (by decide) e,by omega,rfl,λj hj=>?_,s⟩;rcases aQ j k with f |f
    .exact T j f
    obtain rfl:j=k:=by omega
    exact D
   |false=>
    refine cT rfl ⟨?_,s.aK⟩;rw[M,af];intro f;have:=N4.2 (Bool.and_eq_true_iff.1 f).1 k e;rw[D] at this;cases this
  rw[E,Bool.not_not]
  by_cases g1:u.at' k>sup.at' k
  .exact di g1 ⟨by rw[dT g1];rfl,d⟩
  refine dz g1 ⟨by omega,by omega,cls.at' k,by rw[iC,br d 1 rfl e],?_⟩;rw[dF g1,fO]
  by_cases g2:cls.at' k=0
  .exact iI g2 ⟨by rw[dF (λf=>f g2)];rfl,d⟩
  obtain⟨q,z,y⟩:=FL (h.aK d.aK).bd hb 1 (iv b.cls) rfl;refine gM g2 ⟨by omega,by omega,cls.at' k,by rw[iC,br d 1 rfl e],_,_,_,d.aj 4 rfl 1,av z ⟨by omega,by omega,b.cls,by rw[aq];exact y,?_⟩⟩;rw[dT g2,aO];exact cBq (λo=>⟨by omega,by omega,u.at' k,by rw[iC,br d 3 rfl e],by omega,by omega,op.at' k,by rw[iC,br d 2 rfl e],by rw[dT o,aO],d⟩) λo=>⟨by rw[dF (λf=>f o)];rfl,d⟩
 obtain rfl:k=6:=by omega
 have hw:=N4.1 T;rw[hw,aO] at M;refine dz g ⟨λi p m=>∃k:Nat,i=k/\k<=S.cp.length/\m=S.cp.length-k/\(S.cp.take k).any (pL S.ps n u)=false/\St w p (Sep [ay I u.vs.toArray 50,ay H S.arr 34,emp]),⟨S.cp.length,0,rfl,by omega,by omega,rfl,J.aM [3,4,5]⟩,?_⟩;rintro p m i ⟨k,rfl,hk,hm,f,d⟩-;refine⟨_,_,_,d.aj 1 rfl 2,?_⟩
 by_cases g:(k:Int)<(S.cp.length:Int)
 .obtain⟨x,D⟩:=dX S.cp k (by omega);obtain⟨q,z,E⟩:=(h.aK d.aK).cp k x D;refine di g ⟨_,_,_,d.aj 1 rfl 2,av z ⟨by omega,by omega,_,_,_,E,d.aY #[iv 0,iv 0,iv 0] λr6 w16 s=>s.aR 0 rfl x.cells rfl x.one λw17 o=>⟨_,_,_,o.aj 2 rfl 0,x.b,o.aj 0 rfl 1,u,o.cellsIn 1 rfl,o.qu (BH (h.aK o.aK).ps hs.ps hq x.b) λw18 e=>⟨_,_,_,rfl,λy L=>y=pL S.ps n u x/\St w L (Sep [ay r6 x.cells.toArray 139,ay I u.vs.toArray 50,ay H S.arr 34,emp]),?_,x.a,e.aj 0 rfl 0,?_⟩⟩⟩⟩
  .rintro L y ⟨rfl,K⟩-
   cases hc:pL S.ps n u x with
   |true=>
    refine cT rfl ⟨?_,K.aK⟩;rw[M,jQ D hc];rfl
   |false=>exact cF rfl (mS (by omega) ⟨jy f D hc,K.aM [1,2,3]⟩)
  by_cases g1:x.a=-1
  .exact gM g1 ⟨x.c,e.aj 0 rfl 2,by rw[pL,dT g1,iY,aO],e⟩
  exact iI g1 ⟨x.a,e.aj 0 rfl 0,cBq (λg2=>⟨x.c,e.aj 0 rfl 2,by rw[pL,dT g2,kX,aO],e⟩) λg2=>⟨by rw[pL,dF g1,dF g2];rfl,e⟩⟩
 obtain rfl:k=S.cp.length:=by omega
 rw[aH] at f;exact dz g ⟨by rw[M,f];rfl,d.aK⟩
def xw{w:ah}{s:Se}(n:Int):CP 197 #[.agg s.arr,iv n] w (λr b=>r=.bool (decide (0<=n)&&decide (n<(s.bd.length:Int)))/\aZ w b []):=by
 exact(p6 uS.1).2.2.2.2.1 (bE s.arr λc d a=>cBq (λh=>⟨_,_,_,a.aj 0 rfl 1,by rw[dT (h)];rfl,a.aK⟩) λh=>⟨by rw[dF (h)];rfl,a.aK⟩)
def Kx{w:ah}{s:Se}(h:Ll w s){n:Nat}{b:Br}(j:s.bd[n]?=some b){c:Ch}(hc:c.Ok):
  CP 142 #[.agg s.arr,iv n,c.v] w (λr a=>r=iv (yB b c)/\aZ w a []):=by
 refine(p6 (p6 uS.1)).1 ?_;have u:=(ai.1 j).1;refine bE s.arr λx z r=>r.aY c.cells.toArray λy A l=>(Ex8<|Ex4<|⟨l.cellsIn 1 rfl,bF (xw (s:=s) n) λt o=>?_⟩);have a:=(l.quiet o).quiet (aZ.drew t []);obtain⟨q,k,d⟩:=FL ((h.aK a.aK).i.bd) j 2 _ rfl;refine⟨_,rfl,cF (by simp;omega) ⟨λg m=>g=decide (b.bud≠0/\b.bud<cost c.p c.want)/\aZ w m [],?_,_,_,_,a.aj 1 rfl 1,av k ⟨by omega,by omega,_,by rw[aq];exact d,?_⟩⟩⟩
 .rintro m g ⟨rfl,f⟩-;exact cBq (λe=>⟨by rw[yB,ag e],f⟩) λe=>⟨by rw[yB,af e],f⟩
 by_cases e:b.bud=0
 .exact cF (by simp[e]) ⟨by simp[e],a.aK⟩
 exact gM e ⟨_,_,_,a.aj 1 rfl 1,av k ⟨by omega,by omega,_,by rw[aq];exact d,_,yE a 0 rfl,_,iL a 0 rfl,bF (BG _ hc.p hc.w) λB f=>⟨_,rfl,by rw[aq];exact iV d f,(a.quiet f).aj 1 rfl 1,by simp[e],(a.quiet f).aK⟩⟩⟩
def YQ(p:I6):cost p z6=0:=by simp[cost,z6]
def rdL(S:Se)(L:List (List Of))(C:Ck):Nat->Ck
 |0=>C
 |k+1=>agM S (rdL S L C k) k (L[k]?.getD [])
def exP:List Pr:=[⟨[97],1,0,1,0⟩,⟨[98],1,0,1,0⟩]
def exB(b:Int):List Br:=[⟨[120],0,b,5⟩,⟨[121],0,0,5⟩]
def X1(b:Int)(a1 a2:OA)(c:Nat):Se:=⟨exP,exB b,[],[],a1,c,a2,c,none,0,none,0⟩
theorem Pe{l:List Ch}:oK l=true<->(∀c∈l,c.Ok)/\∃p,tL l.length (g1 (gF l)) p:=by
 rw[oK,aF,Dr,aV];exact lu λ_=>J2
section
variable {S:Se} {n:Nat} {y:Br} {l:List Of} {p p' m:I6}
end
section
variable {S:Se} {L:List Lx} (hs:S.Ok) (hb:∀y∈S.bd,y.bud=0)
include hs hb
end
def zH(l:List Ch):List I6:=z6::l.map Ch.want
def wQ(l:List Ch)(k:Nat):I6:=(zH l).getD k z6
def cQ(l:List Ch)(i k:Nat):Int:=cost (l.getD i tI).p (l.getD i tI).want-cost (l.getD i tI).p (wQ l k)
def hQ(l:List Ch)(i j:Nat):Bool:=decide (wQ l j=(l.getD i tI).want)
def RY(l:List Ch):Bool:=abx (cQ l) (hQ l) l.length (l.length+1)
def yz(l:List Ch){k:Nat}(a:k<l.length):wQ l (k+1)=(l.getD k tI).want:=by
 unfold wQ zH;simp[au,aL,gE a]
def OT(l:List Ch):wQ l 0=z6:=rfl
theorem Jc(f:Nat->Int):∀n,∃B,∀i,i<n->f i<=B
 |0=>⟨0,λi c=>by omega⟩
 |n+1=>by
  obtain⟨B,b⟩:=Jc f n;refine⟨if B<f n then f n else B,λi c=>?_⟩;rcases aQ i n with a |a
  .have:=b i a;split<;>omega
  obtain rfl:i=n:=by omega
  split<;>omega
def SA(l:List Ch):(∃p,tL l.length (g1 (gF l)) p)<->∃p,tL (l.length+1) (gQ (cQ l) (hQ l) l.length) p:=by
 constructor
 .rintro⟨p,z⟩;have j:∀a b,a<l.length->b<l.length->p b<=p a+gF l a b:=λa b f h=>z a b f h _ (aI.2 rfl);have q:∀a b,a<l.length->b<l.length->(l.getD a tI).want=(l.getD b tI).want->p a=p b:=λa b f h e=>by
   have g:=j a b f h;have t:=j b a h f;unfold gF wV at g t;rw[e] at g t;omega
  by_cases A:∃u,u<l.length/\(l.getD u tI).want=z6
  .obtain⟨u,y,B⟩:=A;let d:Nat->Nat:=λk=>if k=0 then u else k-1
   have o:∀k,k<l.length+1->d k<l.length/\wQ l k=(l.getD (d k) tI).want:=λk E=>by
    by_cases i:k=0
    .subst i;exact⟨y,by rw[OT];exact B.symm⟩
    have e:d k=k-1:=af i;rw[e];refine⟨by omega,?_⟩;have:=yz l (k:=k-1) (by omega)
    rwa [show k-1+1=k by omega] at this
   refine⟨λk=>-(p (d k)),λa b f h x s=>?_⟩;obtain⟨i,r,m,rfl⟩:=Hy s;obtain⟨C,v⟩:=o a f;obtain⟨D,w⟩:=o b h;have m:=dG m;have g:=j i (d a) r C;have t:=q (d b) i D r (by rw[<-w];exact m);unfold gF wV at g;show -(p (d b))<=-(p (d a)) + -(cQ l i a);unfold cQ;rw[v];omega
  obtain⟨B,y⟩:=Jc (λi=>-(p i)+cost (l.getD i tI).p (l.getD i tI).want) l.length;refine⟨λk=>if k=0 then B else -(p (k-1)),λa b f h x s=>?_⟩;obtain⟨i,r,m,rfl⟩:=Hy s;have m:=dG m;have o:b≠0:=λe=>by subst e;exact A ⟨i,r,by rw[<-m];rfl⟩
  have w:=yz l (k:=b-1) (by omega);rw[show b-1+1=b by omega] at w;have t:=q (b-1) i (by omega) r (by rw[<-w];exact m);show(if b=0 then B else -(p (b-1)))<=(if a=0 then B else -(p (a-1))) + -(cQ l i a);rw[af o];unfold cQ
  by_cases d:a=0
  .subst d;rw[ag rfl,OT,YQ];have:=y i r;omega
  rw[af d];have v:=yz l (k:=a-1) (by omega);rw[show a-1+1=a by omega] at v;rw[v];have g:=j i (a-1) r (by omega);unfold gF wV at g;omega
 rintro⟨p,z⟩;refine⟨λi=>-(p (i+1)),λa b f h x s=>?_⟩
 cases aI.1 s
 have g:=z (b+1) (a+1) (by omega) (by omega) _ (LS (i:=a) (c:=cQ l) (hit:=hQ l) (n:=l.length) f (dT (yz l f)));unfold cQ at g;rw[yz l h] at g;show -(p (b+1))<=-(p (a+1))+gF l a b;unfold gF wV;omega
def RZ{l:List Ch}(h:∀c∈l,c.Ok):RY l=oK l:=by
 rw[lY,RY,RX (ou _),Pe,SA];exact⟨λa=>⟨h,a⟩,λa=>a.2⟩

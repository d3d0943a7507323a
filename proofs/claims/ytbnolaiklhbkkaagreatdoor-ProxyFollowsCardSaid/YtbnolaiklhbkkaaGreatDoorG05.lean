import Derived.Test.YtbnolaiklhbkkaaGreatDoorG04
set_option linter.unusedVariables false
set_option maxRecDepth 100000
namespace Go.Proofs.YtbnolaiklhbkkaaGreatDoor
open Go Go.Vc _root_.Go.Proofs.Tryz
structure T3 where
 a:Int
 b:Int
 c:Int
def T3.cells(p:T3):List Value:=[iv p.a,iv p.b,iv p.c]
def Dn(w:World)(a:OA)(l:List T3):Prop:=∀ (i:Nat) (p:T3),l[i]?=some p->∃ q,a=some q/\af w (q.add (i*3)) 0 p.cells
theorem Dn.au{w w' : World}{a:OA}{l:List T3}(h:Dn w a l)(hc:ay w w' []):Dn w' a l:=λ i p hp =>
 let ⟨q,hq,h2⟩:=h i p hp
 ⟨q,hq,bu hc h2⟩
theorem T3.one(p:T3):∀ v∈p.cells,v.oneCell' = true:=by
 intro v hv; simp[T3.cells] at hv; rcases hv with rfl|rfl|rfl<;>rfl
theorem slice3{a:OA}{c:Nat}:(if c=0 then a else Option.map (λ x=>Addr.add x (0*3)) a)=a:=by
 split
 ·rfl
 ·cases a<;>simp[Addr.add]
def sJ(n:Nat)(x:T3):Bool:=(decide (-1<=x.a)&&decide (x.a<(n:Int)))&&((decide (0<=x.b)&&decide (x.b<=4))&&(decide (0<=x.c)&&decide (x.c<=24)))
def jX(x y:T3):Bool:=y.a==x.a&&y.b==x.b
def GN(n:Nat)(l:List T3)(i:Nat)(p:T3):Prop:=sJ n p=true/\((l.take i).any λ q=>jX p q)=false
structure BM (n:Nat) (l:List T3):Prop where
 l1:l.length<=16
 good:∀ i p,l[i]?=some p->GN n l i p
def NC(n:Nat)(l:List T3)(i:Nat)(x:T3):Int:=if (decide (-1<=x.a)&&decide (x.a<(n:Int)))=false then 6 else if ((decide (0<=x.b)&&decide (x.b<=4))&&(decide (0<=x.c)&&decide (x.c<=24)))=false then 4 else if ((l.take i).any λ q=>jX x q) then 7 else 0
theorem yA{n:Nat}{l:List T3}{i:Nat}{p:T3}(h:GN n l i p):NC n l i p=0:=by
 obtain⟨h1,h2⟩:=h;unfold sJ at h1;rw[Bool.and_eq_true] at h1;rw[NC,h1.1,h1.2,h2]; rfl
def IE(n:Nat)(l:List T3):Int:=if 16<l.length then 3 else eU (NC n l) 0 l
theorem Nn{w:World}{a1 a2 a3 a4:OA}{l1 c1 l2 c2 c3 l4 c4:Nat}{l:List T3}(h:Dn w a3 l)(hcap:l.length<=c3) :
  CP 82 #[.agg #[.slice a1 l1 c1,.slice a2 l2 c2,.slice a3 l.length c3,.slice a4 l4 c4]] w ((BN (BM l2 l) (IE l2 l) w)):=by
 refine zf ?_;unfold vV;refine aJ ?_;have s1:=(St.start w).one.bW #[.slice a1 l1 c1,.slice a2 l2 c2,.slice a3 l.length c3,.slice a4 l4 c4] 27;generalize hw1:w.alloc _=w1 at s1 ⊢;generalize hr1:w.heap.size=r1 at s1 ⊢;have cb:∀ {w' : World},ay w1 w' []->∀ (j:Nat) (v:Value),(#[.slice a1 l1 c1,.slice a2 l2 c2,.slice a3 l.length c3,.slice a4 l4 c4]:Array Value)[j]?=some v->w'.cell? ⟨r1,j,none⟩=some v:=λ hc j v hv=>bO (by rw[s1.ag 0 rfl]; exact hv) hc;have z1:ay w1 w1 []:=ay.refl _ _;refine⟨_,_,_,cb z1 2 _ rfl,?_⟩;rcases Nat.lt_or_ge 16 l.length with h6|h6
 ·exact cT (dT (by omega)) (aW (by decide) (λ hp=>by have:=hp.l1; omega) s1.au (by rw[IE,if_pos h6]))
 refine cF (dF (by omega)) ⟨_,_,_,cb z1 2 _ rfl,λ n w2 m=>∃ k:Nat,n=k/\k<=l.length/\m=l.length-k/\(∀ i p,i<k->l[i]?=some p->GN l2 l i p)/\ay w1 w2 [],⟨l.length,0,rfl,by omega,by omega,λ i p hi=>by omega,z1⟩,?_⟩;rintro w2 m n ⟨k,rfl,hk,hm,ha,hc⟩ -;have hcw:ay w w2 []:=s1.au.trans hc (by simp)
 by_cases hlt:(k:Int)<(l.length:Int)
 ·have hx:l[k]?=some (l[k]'(by omega)):=gE (by omega);generalize l[k]'(by omega)=x at hx;obtain⟨q,hq,hcl⟩:=(h.au hcw) k x hx;have bad : ¬ GN l2 l k x->¬ BM l2 l:=λ hb hp=>hb (hp.good k x hx);have bk:∀ {e:Int},e≠0->NC l2 l k x=e->IE l2 l=e:=λ he h=>by
   have:=kR (f:=NC l2 l) (n:=0) (λ i p hi hp=>by rw[Nat.zero_add]; exact yA (ha i p hi hp)) hx (by rw[Nat.zero_add,h]; exact he);rw[Nat.zero_add,h] at this;rw[IE,if_neg (by omega),this]
  refine cT (by simpa using hlt) ?_;rw[hq];refine⟨by omega,by omega,_,_,_,hcl,aJ ?_⟩;refine((St.start w2).one.bW _ 98).az 0 rfl x.cells rfl x.one λ w4 s4=>?_;generalize hr2:w2.heap.size=r2 at s4 ⊢;have d4:ay w1 w4 []:=hc.trans s4.au (by simp);have cw4:ay w w4 []:=s1.au.trans d4 (by simp);have cx:∀ {w' : World},ay w4 w' []->∀ (j:Nat) (v:Value),x.cells[j]?=some v->w'.cell? ⟨r2,j,none⟩=some v:=λ hc j v hv=>bO (by rw[s4.ag 0 rfl]; simpa using hv) hc;have z4:ay w4 w4 []:=ay.refl _ _;refine⟨λ b w5=>w5=w4/\b = !(decide (-1<=x.a)&&decide (x.a<(l2:Int))),?_,?_⟩
  ·rintro w5 b ⟨rfl,rfl⟩ -
   cases g0:(decide (-1<=x.a)&&decide (x.a<(l2:Int))) with
   | false=>exact cT rfl (aW (by decide) (bad λ hg=>by have:=hg.1; unfold sJ at this; rw[g0] at this; cases this) cw4 (bk (by decide) (by rw[NC,g0]; rfl)))
   | true =>
    refine cF rfl ⟨λ b w6=>w6=w5/\b = !((decide (0<=x.b)&&decide (x.b<=4))&&(decide (0<=x.c)&&decide (x.c<=24))),?_,?_⟩
    ·rintro w6 b ⟨rfl,rfl⟩ -
     cases g1:((decide (0<=x.b)&&decide (x.b<=4))&&(decide (0<=x.c)&&decide (x.c<=24))) with
     | false=>exact cT rfl (aW (by decide) (bad λ hg=>by have:=hg.1; unfold sJ at this; rw[g0,g1] at this; cases this) cw4 (bk (by decide) (by rw[NC,g0,g1]; rfl)))
     | true =>
      refine cF rfl ⟨_,_,_,cb d4 2 _ rfl,by omega,by omega,λ n w7 m=>∃ j:Nat,n=j/\j<=k/\m=k-j/\(l.take j).any (λ p=>jX x p)=false/\ay w6 w7 [],⟨k,0,rfl,by omega,by omega,rfl,z4⟩,?_⟩;rintro w7 m7 n7 ⟨j,rfl,hj,hm7,hany,c7⟩ -
      by_cases hjk:(j:Int)<(k:Int)
      ·have hy:l[j]?=some (l[j]'(by omega)):=gE (by omega);generalize l[j]'(by omega)=y at hy;obtain⟨q',hq',hcl'⟩:=(h.au (cw4.trans c7 (by simp))) j y hy;rw[hq] at hq'; cases hq';refine cT (by simpa using hjk) ?_;rw[slice3,hq];refine⟨by omega,by simpa using hjk,_,_,_,hcl',aJ ?_⟩;refine((St.start' c7).one.bW _ 98).az 0 rfl y.cells rfl y.one λ w9 s9=>?_;have cy:∀ (j:Nat) (v:Value),y.cells[j]?=some v->w9.cell? ⟨w7.heap.size,j,none⟩=some v:=λ j v hv=>by rw[s9.ag 0 rfl]; simpa using hv
       refine⟨λ b w10=>w10=w9/\b=jX x y,?_,_,cy 0 _ rfl,_,cx s9.au 0 _ rfl,?_⟩
       ·rintro w10 b ⟨rfl,rfl⟩ -
        cases hs:jX x y with
        | true =>
         have h2:(l.take k)[j]?=some y:=by rw[List.getElem?_take,if_pos (by omega)]; exact hy
         have h3:=iq (p:=λ q=>jX x q) h2 hs;refine cT rfl (aW (by decide) (bad λ hg=>?_) (cw4.trans s9.au (by simp)) (bk (by decide) (by rw[NC,g0,g1,h3]; rfl)));have h1:=hg.2;rw[h3] at h1
         cases h1
        | false=>exact cF rfl ⟨k-(j+1),by omega,j+1,by rw[aB ⟨by omega,by omega⟩]; rfl,by omega,rfl,fS hany hy hs,s9.au⟩
       ·by_cases hA:y.a=x.a
        ·refine cT (by simpa using hA) ⟨_,cy 1 _ rfl,_,cx s9.au 1 _ rfl,rfl,?_⟩;simp[jX,hA]
        ·exact cF (by simpa using hA) ⟨rfl,by simp[jX,hA]⟩
      ·obtain rfl:j=k:=by omega
       refine cF (by simp) ⟨l.length-(j+1),by omega,j+1,by rw[aB ⟨by omega,by omega⟩]; rfl,by omega,rfl,λ i p hi hp=>?_,d4.trans c7 (by simp)⟩;rcases Nat.lt_or_ge i j with h' | h'
       ·exact ha i p h' hp
       ·obtain rfl:i=j:=by omega
        rw[hx] at hp; cases hp;exact⟨by unfold sJ; rw[g0,g1]; rfl,hany⟩
    ·have no : ¬ (0<=x.b/\x.b<=4/\0<=x.c/\x.c<=24)->true = !((decide (0<=x.b)&&decide (x.b<=4))&&(decide (0<=x.c)&&decide (x.c<=24))):=λ hh=>by
      cases hr:((decide (0<=x.b)&&decide (x.b<=4))&&(decide (0<=x.c)&&decide (x.c<=24))) with
      | false=>rfl
      | true =>
       exfalso; apply hh
       simp only[Bool.and_eq_true,decide_eq_true_eq] at hr;omega
     refine⟨_,cx z4 1 _ rfl,?_⟩
     by_cases g1:x.b<0
     ·exact cT (dT g1) ⟨rfl,no (by omega)⟩
     refine cF (dF g1) ⟨_,cx z4 1 _ rfl,?_⟩
     by_cases g2:x.b>4
     ·exact cT (dT g2) ⟨rfl,no (by omega)⟩
     refine cF (dF g2) ⟨_,cx z4 2 _ rfl,?_⟩
     by_cases g3:x.c<0
     ·exact cT (dT g3) ⟨rfl,no (by omega)⟩
     refine cF (dF g3) ⟨_,cx z4 2 _ rfl,rfl,?_⟩
     by_cases g4:x.c>24
     ·rw[dT g4]; exact no (by omega)
     ·rw[dF g4,dT (show 0<=x.b by omega),dT (show x.b<=4 by omega),dT (show 0<=x.c by omega),dT (show x.c<=24 by omega)];rfl
  ·refine⟨_,cx z4 0 _ rfl,?_⟩
   by_cases g1:x.a < -1
   ·exact cT (dT g1) ⟨rfl,by rw[dF (show ¬ -1<=x.a by omega)]; rfl⟩
   ·refine cF (dF g1) ⟨_,cx z4 0 _ rfl,_,_,_,cb d4 1 _ rfl,rfl,?_⟩;rw[dT (show -1<=x.a by omega),Bool.true_and]
    by_cases g2:x.a<(l2:Int)
    ·rw[dT g2,dF (by omega)]; rfl
    ·rw[dF g2,dT (by omega)]; rfl
 ·obtain rfl:k=l.length:=by omega
  exact cF (by simp) (pW ⟨h6,λ i p hp=>ha i p (List.getElem?_eq_some_iff.1 hp).1 hp⟩ hcw (by rw[IE,if_neg (by omega),bP λ i p hp=>by rw[Nat.zero_add]; exact yA (ha i p (List.getElem?_eq_some_iff.1 hp).1 hp)]))
def Am(ps:List Pr)(x:T3):Bool:=(decide (0<=x.a)&&decide (x.a<(ps.length:Int)))&&((decide (1<=x.b)&&decide (x.b<=4))&&(decide (1<=x.c)&&decide (x.c<=((ps[x.a.toNat]?.map Pr.sup).getD 0))))
def sameAs(x y:T3):Bool:=y.a==x.a
def GL(ps:List Pr)(l:List T3)(i:Nat)(p:T3):Prop:=Am ps p=true/\((l.take i).any λ q=>sameAs p q)=false
structure fN (ps:List Pr) (l:List T3):Prop where
 l1:l.length<=6
 good:∀ i p,l[i]?=some p->GL ps l i p
def Pa(ps:List Pr)(l:List T3)(i:Nat)(x:T3):Int:=if (decide (0<=x.a)&&decide (x.a<(ps.length:Int)))=false then 6 else if ((decide (1<=x.b)&&decide (x.b<=4))&&(decide (1<=x.c)&&decide (x.c<=((ps[x.a.toNat]?.map Pr.sup).getD 0))))=false then 4 else if ((l.take i).any λ q=>sameAs x q) then 7 else 0
theorem zz{ps:List Pr}{l:List T3}{i:Nat}{p:T3}(h:GL ps l i p):Pa ps l i p=0:=by
 obtain⟨h1,h2⟩:=h;unfold Am at h1;rw[Bool.and_eq_true] at h1;rw[Pa,h1.1,h1.2,h2]; rfl
def Mp(ps:List Pr)(l:List T3):Int:=if 6<l.length then 3 else eU (Pa ps l) 0 l
theorem Iv{w:World}{a1 a2 a3 a4:OA}{c1 l2 c2 l3 c3 c4:Nat}{ps:List Pr}{l:List T3}(hP:dH w a1 ps)(h:Dn w a4 l)(hcap:l.length<=c4) :
  CP 83 #[.agg #[.slice a1 ps.length c1,.slice a2 l2 c2,.slice a3 l3 c3,.slice a4 l.length c4]] w ((BN (fN ps l) (Mp ps l) w)):=by
 refine uY ?_;unfold qS;refine aJ ?_;have s1:=(St.start w).one.bW #[.slice a1 ps.length c1,.slice a2 l2 c2,.slice a3 l3 c3,.slice a4 l.length c4] 27;generalize hw1:w.alloc _=w1 at s1 ⊢;generalize hr1:w.heap.size=r1 at s1 ⊢;have cb:∀ {w' : World},ay w1 w' []->∀ (j:Nat) (v:Value),(#[.slice a1 ps.length c1,.slice a2 l2 c2,.slice a3 l3 c3,.slice a4 l.length c4]:Array Value)[j]?=some v->w'.cell? ⟨r1,j,none⟩=some v:=λ hc j v hv=>bO (by rw[s1.ag 0 rfl]; exact hv) hc;have z1:ay w1 w1 []:=ay.refl _ _;refine⟨_,_,_,cb z1 3 _ rfl,?_⟩;rcases Nat.lt_or_ge 6 l.length with h6|h6
 ·exact cT (dT (by omega)) (aW (by decide) (λ hp=>by have:=hp.l1; omega) s1.au (by rw[Mp,if_pos h6]))
 refine cF (dF (by omega)) ⟨_,_,_,cb z1 3 _ rfl,λ n w2 m=>∃ k:Nat,n=k/\k<=l.length/\m=l.length-k/\(∀ i p,i<k->l[i]?=some p->GL ps l i p)/\ay w1 w2 [],⟨l.length,0,rfl,by omega,by omega,λ i p hi=>by omega,z1⟩,?_⟩;rintro w2 m n ⟨k,rfl,hk,hm,ha,hc⟩ -;have hcw:ay w w2 []:=s1.au.trans hc (by simp)
 by_cases hlt:(k:Int)<(l.length:Int)
 ·have hx:l[k]?=some (l[k]'(by omega)):=gE (by omega);generalize l[k]'(by omega)=x at hx;obtain⟨q,hq,hcl⟩:=(h.au hcw) k x hx;have bad : ¬ GL ps l k x->¬ fN ps l:=λ hb hp=>hb (hp.good k x hx);have bk:∀ {e:Int},e≠0->Pa ps l k x=e->Mp ps l=e:=λ he h=>by
   have:=kR (f:=Pa ps l) (n:=0) (λ i p hi hp=>by rw[Nat.zero_add]; exact zz (ha i p hi hp)) hx (by rw[Nat.zero_add,h]; exact he);rw[Nat.zero_add,h] at this;rw[Mp,if_neg (by omega),this]
  refine cT (by simpa using hlt) ?_;rw[hq];refine⟨by omega,by omega,_,_,_,hcl,aJ ?_⟩;refine((St.start w2).one.bW _ 100).az 0 rfl x.cells rfl x.one λ w4 s4=>?_;generalize hr2:w2.heap.size=r2 at s4 ⊢;have d4:ay w1 w4 []:=hc.trans s4.au (by simp);have cw4:ay w w4 []:=s1.au.trans d4 (by simp);have cx:∀ {w' : World},ay w4 w' []->∀ (j:Nat) (v:Value),x.cells[j]?=some v->w'.cell? ⟨r2,j,none⟩=some v:=λ hc j v hv=>bO (by rw[s4.ag 0 rfl]; simpa using hv) hc;have z4:ay w4 w4 []:=ay.refl _ _;refine⟨λ b w5=>w5=w4/\b = !(decide (0<=x.a)&&decide (x.a<(ps.length:Int))),?_,?_⟩
  ·rintro w5 b ⟨rfl,rfl⟩ -
   cases g0:(decide (0<=x.a)&&decide (x.a<(ps.length:Int))) with
   | false=>exact cT rfl (aW (by decide) (bad λ hg=>by have:=hg.1; unfold Am at this; rw[g0] at this; cases this) cw4 (bk (by decide) (by rw[Pa,g0]; rfl)))
   | true =>
    have d45:ay w5 w5.drew []:=ay.drew w5 [];refine cF rfl ⟨λ b w6=>w6=w5.drew/\b = !((decide (1<=x.b)&&decide (x.b<=4))&&(decide (1<=x.c)&&decide (x.c<=((ps[x.a.toNat]?.map Pr.sup).getD 0)))),?_,?_⟩
    ·rintro w6 b ⟨rfl,rfl⟩ -
     cases g1:((decide (1<=x.b)&&decide (x.b<=4))&&(decide (1<=x.c)&&decide (x.c<=((ps[x.a.toNat]?.map Pr.sup).getD 0)))) with
     | false=>exact cT rfl (aW (by decide) (bad λ hg=>by have:=hg.1; unfold Am at this; rw[g0,g1] at this; cases this) (cw4.trans d45 (by simp)) (bk (by decide) (by rw[Pa,g0,g1]; rfl)))
     | true =>
      refine cF rfl ⟨_,_,_,cb (d4.trans d45 (by simp)) 3 _ rfl,by omega,by omega,λ n w7 m=>∃ j:Nat,n=j/\j<=k/\m=k-j/\(l.take j).any (λ p=>sameAs x p)=false/\ay w5 w7 [],⟨k,0,rfl,by omega,by omega,rfl,d45⟩,?_⟩;rintro w7 m7 n7 ⟨j,rfl,hj,hm7,hany,c7⟩ -
      by_cases hjk:(j:Int)<(k:Int)
      ·have hy:l[j]?=some (l[j]'(by omega)):=gE (by omega);generalize l[j]'(by omega)=y at hy;obtain⟨q',hq',hcl'⟩:=(h.au (cw4.trans c7 (by simp))) j y hy;rw[hq] at hq'; cases hq';refine cT (by simpa using hjk) ?_;rw[slice3,hq];refine⟨by omega,by simpa using hjk,_,_,_,hcl',aJ ?_⟩;refine((St.start' c7).one.bW _ 100).az 0 rfl y.cells rfl y.one λ w9 s9=>?_;have cy:∀ (j:Nat) (v:Value),y.cells[j]?=some v->w9.cell? ⟨w7.heap.size,j,none⟩=some v:=λ j v hv=>by rw[s9.ag 0 rfl]; simpa using hv
       refine⟨_,cy 0 _ rfl,_,cx s9.au 0 _ rfl,?_⟩
       by_cases hA:y.a=x.a
       ·have h2:(l.take k)[j]?=some y:=by rw[List.getElem?_take,if_pos (by omega)]; exact hy
        have h3:=iq (p:=λ q=>sameAs x q) h2 (by simpa[sameAs] using hA);refine cT (by simpa using hA) (aW (by decide) (bad λ hg=>?_) (cw4.trans s9.au (by simp)) (bk (by decide) (by rw[Pa,g0,g1,h3]; rfl)));have h1:=hg.2;rw[h3] at h1
        cases h1
       ·exact cF (by simpa using hA) ⟨k-(j+1),by omega,j+1,by rw[aB ⟨by omega,by omega⟩]; rfl,by omega,rfl,fS hany hy (by simpa[sameAs] using hA),s9.au⟩
      ·obtain rfl:j=k:=by omega
       refine cF (by simp) ⟨l.length-(j+1),by omega,j+1,by rw[aB ⟨by omega,by omega⟩]; rfl,by omega,rfl,λ i p hi hp=>?_,d4.trans c7 (by simp)⟩;rcases Nat.lt_or_ge i j with h' | h'
       ·exact ha i p h' hp
       ·obtain rfl:i=j:=by omega
        rw[hx] at hp; cases hp;exact⟨by unfold Am; rw[g0,g1]; rfl,hany⟩
    ·simp only[Bool.and_eq_true,decide_eq_true_eq] at g0;have hpx:ps[x.a.toNat]?=some (ps[x.a.toNat]'(by omega)):=gE (by omega);generalize ps[x.a.toNat]'(by omega)=y at hpx;rw[hpx,Option.map_some,Option.getD_some];have no : ¬ (1<=x.b/\x.b<=4/\1<=x.c/\x.c<=y.sup)->true = !((decide (1<=x.b)&&decide (x.b<=4))&&(decide (1<=x.c)&&decide (x.c<=y.sup))):=λ hh=>by
      cases hr:((decide (1<=x.b)&&decide (x.b<=4))&&(decide (1<=x.c)&&decide (x.c<=y.sup))) with
      | false=>rfl
      | true =>
       exfalso; apply hh
       simp only[Bool.and_eq_true,decide_eq_true_eq] at hr;omega
     refine⟨_,cx d45 1 _ rfl,?_⟩
     by_cases g1:x.b<1
     ·exact cT (dT g1) ⟨rfl,no (by omega)⟩
     refine cF (dF g1) ⟨_,cx d45 1 _ rfl,?_⟩
     by_cases g2:x.b>4
     ·exact cT (dT g2) ⟨rfl,no (by omega)⟩
     refine cF (dF g2) ⟨_,cx d45 2 _ rfl,?_⟩
     by_cases g3:x.c<1
     ·exact cT (dT g3) ⟨rfl,no (by omega)⟩
     obtain⟨_,qp,hqp,hyc⟩:=(hP.au (cw4.trans d45 (by simp))) x.a.toNat y hpx;refine cF (dF g3) ⟨_,cx d45 2 _ rfl,_,_,_,cb (d4.trans d45 (by simp)) 0 _ rfl,_,cx d45 0 _ rfl,?_⟩;rw[hqp];refine⟨by omega,by omega,y.sup,hyc.2.1,rfl,?_⟩
     by_cases g4:x.c>y.sup
     ·rw[dT g4]; exact no (by omega)
     ·rw[dF g4,dT (show 1<=x.b by omega),dT (show x.b<=4 by omega),dT (show 1<=x.c by omega),dT (show x.c<=y.sup by omega)];rfl
  ·refine⟨_,cx z4 0 _ rfl,?_⟩
   by_cases g1:x.a<0
   ·exact cT (dT g1) ⟨rfl,by rw[dF (show ¬ 0<=x.a by omega)]; rfl⟩
   ·refine cF (dF g1) ⟨_,cx z4 0 _ rfl,_,_,_,cb d4 0 _ rfl,rfl,?_⟩;rw[dT (show 0<=x.a by omega),Bool.true_and]
    by_cases g2:x.a<(ps.length:Int)
    ·rw[dT g2,dF (by omega)]; rfl
    ·rw[dF g2,dT (by omega)]; rfl
 ·obtain rfl:k=l.length:=by omega
  exact cF (by simp) (pW ⟨h6,λ i p hp=>ha i p (List.getElem?_eq_some_iff.1 hp).1 hp⟩ hcw (by rw[Mp,if_neg (by omega),bP λ i p hp=>by rw[Nat.zero_add]; exact zz (ha i p (List.getElem?_eq_some_iff.1 hp).1 hp)]))
structure Se where
 ps:List Pr
 bd:List Br
 cp:List T3
 sa:List T3
 a1:Option Addr
 c1:Nat
 a2:Option Addr
 c2:Nat
 a3:Option Addr
 c3:Nat
 a4:Option Addr
 c4:Nat
def Se.arr(s:Se):Array Value:=#[.slice s.a1 s.ps.length s.c1,.slice s.a2 s.bd.length s.c2,.slice s.a3 s.cp.length s.c3,.slice s.a4 s.sa.length s.c4]
structure Se.In (s:Se) (w:World):Prop where
 ps:dH w s.a1 s.ps
 bd:ku w s.a2 s.bd
 cp:Dn w s.a3 s.cp
 sa:Dn w s.a4 s.sa
 h1:s.ps.length<=s.c1
 h2:s.bd.length<=s.c2
 h3:s.cp.length<=s.c3
 h4:s.sa.length<=s.c4
theorem Se.In.au{s:Se}{w w' : World}(h:s.In w)(hc:ay w w' []):s.In w':=⟨h.ps.au hc,h.bd.au hc,h.cp.au hc,h.sa.au hc,h.h1,h.h2,h.h3,h.h4⟩
structure Se.Ok (s:Se):Prop where
 ps:bZ s.ps
 bd:GM s.bd
 cp:BM s.bd.length s.cp
 sa:fN s.ps s.sa
def vp(s:Se):Int:=if Ga s.ps≠0 then Ga s.ps else if GV s.bd≠0 then GV s.bd else if IE s.bd.length s.cp≠0 then IE s.bd.length s.cp else Mp s.ps s.sa
theorem lF{w:World}{s:Se}(h:s.In w):CP 42 #[.agg s.arr] w ((BN s.Ok (vp s) w)):=by
 refine FZ ?_;unfold HK;refine aJ ?_;have s1:=(St.start w).one.bW #[.slice s.a1 s.ps.length s.c1,.slice s.a2 s.bd.length s.c2,.slice s.a3 s.cp.length s.c3,.slice s.a4 s.sa.length s.c4] 27;generalize hw1:w.alloc _=w1 at s1 ⊢;generalize hr1:w.heap.size=r1 at s1 ⊢;refine⟨_,_,_,by rw[s1.ag 0 rfl]; rfl,ak (AP (h.au s1.au).ps h.h1) ?_⟩;rintro v w2 ⟨⟨rfl,e1⟩,d2⟩;have s2:=s1.quiet d2;refine⟨_,rfl,?_⟩
 by_cases g1:Ga s.ps=0
 ·refine cF (by simpa using g1) ⟨_,_,_,by rw[s2.ag 0 rfl]; rfl,ak (Jp (h.au s2.au).bd h.h2) ?_⟩;rintro v w3 ⟨⟨rfl,e2⟩,d3⟩;have s3:=s2.quiet d3;refine⟨_,rfl,?_⟩
  by_cases g2:GV s.bd=0
  ·refine cF (by simpa using g2) ⟨_,_,_,_,_,_,_,_,_,_,_,_,s3.cellsIn 0 rfl,ak (Nn (h.au s3.au).cp h.h3) ?_⟩;rintro v w4 ⟨⟨rfl,e3⟩,d4⟩;have s4:=s3.quiet d4;refine⟨_,rfl,?_⟩
   by_cases g3:IE s.bd.length s.cp=0
   ·refine cF (by simpa using g3) ⟨_,_,_,_,_,_,_,_,_,_,_,_,s4.cellsIn 0 rfl,ak (Iv (h.au s4.au).ps (h.au s4.au).sa h.h4) ?_⟩;rintro v w5 ⟨⟨rfl,e4⟩,d5⟩;have s5:=s4.quiet d5;have e0:vp s=Mp s.ps s.sa:=by rw[vp,if_neg (λ h=>h g1),if_neg (λ h=>h g2),if_neg (λ h=>h g3)]
    exact⟨_,rfl,⟨by rw[e0],by rw[e0]; exact⟨λ h0=>⟨e1.1 g1,e2.1 g2,e3.1 g3,e4.1 h0⟩,λ hk=>e4.2 hk.sa⟩⟩,s5.au⟩
   ·exact cT (by simpa using g3) (aW g3 (λ hk=>g3 (e3.2 hk.cp)) s4.au (by rw[vp,if_neg (λ h=>h g1),if_neg (λ h=>h g2),if_pos g3]))
  ·exact cT (by simpa using g2) (aW g2 (λ hk=>g2 (e2.2 hk.bd)) s3.au (by rw[vp,if_neg (λ h=>h g1),if_pos g2]))
 ·exact cT (by simpa using g1) (aW g1 (λ hk=>g1 (e1.2 hk.ps)) s2.au (by rw[vp,if_pos g1]))
theorem ER{w:World}{s:Se}(h:s.In w):CP 42 #[.agg s.arr] w ((Ql s.Ok w)):=ak (lF h) λ _ _ h=>⟨_,rfl,h.old⟩
def qK(a:OA)(b c:Nat)(d:Int)(e:I6)(w:World)(K:KP):=aq w (.cells #[iv d] 3) λ d f=>aq f (.cells e.vs.toArray 44) λ e f=>∃ g:I6,af f (qd e 0) 0 g.vs/\CC 160 #[.agg (.slice a b c :: g.vs:List Value).toArray,.func (.func 161) #[] #[qp d]] f λ a b=>∃ c,a=.returned (iv c)/\K (iv c) b
theorem uC{a1 l1 c1 n1 u1 w K}(h:qK a1 l1 c1 n1 u1 w K):CP 122 #[.slice a1 l1 c1,iv n1,.agg u1.vs.toArray] w K:=ah (aA []) func122 (by kernel_rfl) (by kernel_rfl) h
def jB(a:OA)(b c:Nat)(d:I6)(e:Value)(w:World)(K:KP):=aq w (.cells (.slice a b c :: d.vs:List Value).toArray 234) λ a b=>∃ c:Bool->qW,(∀ d f,c f d->∀ g:qv,cond f (K qz d) (∃ f g h,d.cell? (qd a 0)=some (.slice f g h)/\∃ h:Int->Int->qN,(∃ i,h 0 (0:Int) d i)/\∀ d i j k,h j k d i->∀ l:qv,cond (decide (k<(g:Int))) (an f λ f=>0<=k/\k<(g:Int)/\∃ g l m n o,af d (Addr.add f ((k).toNat*5)) 0 [.string g,iv l,iv m,iv n,iv o]/\aq d (.cells #[.string (bs []),qz,qz,qz,qz] 94) λ f p=>aL (qd f 0) 0 [.string g,iv l,iv m,iv n,iv o] p λ g=>0<=k/\k<6/\∃ l,g.drew.cell? (Addr.add (qd a 1) ((k).toNat*1))=some (iv l)/\∃ m n o p q,af g.drew (qd f 0) 0 [.string m,iv n,iv o,iv p,iv q]/\cU prog e #[.agg #[.string m,iv n,iv o,iv p,iv q]] g.drew λ e f=>∃ g,e=.returned (iv g)/\f.cell? (Addr.add (qd a 1) ((k).toNat*1))=some (iv l)/\∃ e,e<i/\h (IntKind.i64.wrap (j+(IntKind.i64.wrap (l*g)))) (IntKind.i64.wrap (k+1)) f e) (K (iv j) d)))/\∃ d e f,b.cell? (qd a 0)=some (.slice d e f)/\CC 80 #[.slice d e f] b λ b d=>∃ e,b=.returned (iv e)/\cond (e !=0) (c true d) (∃ b:I6,af d (qd a 1) 0 b.vs/\CC 65 #[.agg b.vs.toArray] d λ a b=>∃ d,a=.returned (iv d)/\c (d !=0) b)
theorem og{a1 l1 c1 u1 v1 w K}(h:jB a1 l1 c1 u1 v1 w K):CP 160 #[.agg (.slice a1 l1 c1 :: u1.vs:List Value).toArray,v1] w K:=ah (aA [(6,[(17,.s .bool)]),(122,[(5,.s (.int .i64)),(21,.s (.int .i64))])]) func160 (by kernel_rfl) (by kernel_rfl) h
def mT(a:ByteArray)(b c d e:Int)(f:Nat)(w:World)(K:KP):=aq w (.cells #[.string a,iv b,iv c,iv d,iv e] 94) λ a b=>∃ c,b.cell? (qd a 4)=some (iv c)/\∃ a,b.cell? (qd f 0)=some (iv a)/\cond (c==a) (K (iv 1) b) (K qz b)
theorem rz{s1 n1 n2 n3 n4 b1 w K}(h:mT s1 n1 n2 n3 n4 b1 w K):CP 161 #[.agg #[.string s1,iv n1,iv n2,iv n3,iv n4],.pointer (some ⟨b1,0,none⟩)] w K:=ah (aA []) func161 (by kernel_rfl) (by kernel_rfl) h
def oe(a:OA)(b c:Nat)(d:I6)(w:World)(K:KP):=aq w (.cells d.vs.toArray 44) λ d e=>∃ f:I6,af e (qd d 0) 0 f.vs/\CC 160 #[.agg (.slice a b c :: f.vs:List Value).toArray,.func (.func 225) #[] #[]] e λ a b=>∃ c,a=.returned (iv c)/\K (iv c) b
theorem sK{a1 l1 c1 u1 w K}(h:oe a1 l1 c1 u1 w K):CP 196 #[.slice a1 l1 c1,.agg u1.vs.toArray] w K:=ah (aA []) func196 (by kernel_rfl) (by kernel_rfl) h
def sL(a:OA)(b c d:Nat)(w:World)(K:KP):=aq w (.cells z6.vs.toArray 44) λ e f=>CC 213 #[qp d] f λ f g=>∃ h,f=.returned (iv h)/\cond (h !=0) (aL (qd e 0) 0 z6.vs g λ f=>∃ h:I6,af f (qd e 0) 0 h.vs/\K (.agg h.vs.toArray) f) (CC 80 #[.slice a b c] g λ f g=>∃ h,f=.returned (iv h)/\cond (h !=0) (CC 206 #[qp d,iv h] g λ f h=>f=.returned (.tuple #[])/\aL (qd e 0) 0 z6.vs h λ f=>∃ h:I6,af f (qd e 0) 0 h.vs/\K (.agg h.vs.toArray) f) (aq g (.cells z6.vs.toArray 44) λ f g=>CC 209 #[qp d,.string (bs [123])] g λ g h=>g=.returned (.tuple #[])/\CC 211 #[qp d,.string (bs [125])] h λ g h=>∃ i,g=.returned (.bool i)/\cond i (∃ g:I6,af h (qd f 0) 0 g.vs/\aL (qd e 0) 0 g.vs h λ g=>∃ i:I6,af g (qd e 0) 0 i.vs/\K (.agg i.vs.toArray) g) (∃ g:I6,af h (qd f 0) 0 g.vs/\CC 252 #[.slice a b c,qp d,.agg g.vs.toArray] h λ g h=>∃ i:I6,g=.returned (.agg i.vs.toArray)/\aL (qd f 0) 0 i.vs h λ g=>∃ h:qN,(∃ i,h g i)/\∀ g i,h g i->∀ j:qv,CC 211 #[qp d,.string (bs [44])] g λ g j=>∃ k,g=.returned (.bool k)/\cond k (∃ g:I6,af j (qd f 0) 0 g.vs/\CC 252 #[.slice a b c,qp d,.agg g.vs.toArray] j λ a b=>∃ c:I6,a=.returned (.agg c.vs.toArray)/\aL (qd f 0) 0 c.vs b λ a=>∃ b,b<i/\h a b) (CC 209 #[qp d,.string (bs [125])] j λ a b=>a=.returned (.tuple #[])/\CC 213 #[qp d] b λ a b=>∃ c,a=.returned (iv c)/\cond (c !=0) (aL (qd e 0) 0 z6.vs b λ a=>∃ c:I6,af a (qd e 0) 0 c.vs/\K (.agg c.vs.toArray) a) (∃ a:I6,af b (qd f 0) 0 a.vs/\aL (qd e 0) 0 a.vs b λ a=>∃ b:I6,af a (qd e 0) 0 b.vs/\K (.agg b.vs.toArray) a)))))
theorem wE{a1 l1 c1 b1 w K}(h:sL a1 l1 c1 b1 w K):CP 234 #[.slice a1 l1 c1,.pointer (some ⟨b1,0,none⟩)] w K:=ah (aA [(1020,[])]) func234 (by kernel_rfl) (by kernel_rfl) h
def kD(a:ByteArray)(b c d e:Int)(w:World)(K:KP):=aq w (.cells #[.string a,iv b,iv c,iv d,iv e] 94) λ a b=>∃ c,b.cell? (qd a 3)=some (iv c)/\K (iv c) b
theorem ql{s1 n1 n2 n3 n4 w K}(h:kD s1 n1 n2 n3 n4 w K):CP 225 #[.agg #[.string s1,iv n1,iv n2,iv n3,iv n4]] w K:=ah (aA []) func225 (by kernel_rfl) (by kernel_rfl) h
def mU(a:OA)(b c d:Nat)(e:I6)(w:World)(K:KP):=aq w (.cells e.vs.toArray 44) λ e f=>aq f (.cells z6.vs.toArray 44) λ f g=>CC 263 #[qp d] g λ g h=>∃ i,g=.returned (.string i)/\CC 213 #[qp d] h λ g h=>∃ j,g=.returned (iv j)/\cond (j !=0) (∃ g:I6,af h (qd e 0) 0 g.vs/\aL (qd f 0) 0 g.vs h λ g=>∃ j:I6,af g (qd f 0) 0 j.vs/\K (.agg j.vs.toArray) g) (CC 116 #[.slice a b c,.string i] h λ a b=>∃ c g,a=.returned (.tuple #[iv c,.bool g])/\∃ a:qW,(∀ h,a h->∀ i:qv,CC 209 #[qp d,.string (bs [58])] h λ h i=>h=.returned (.tuple #[])/\CC 212 #[qp d,iv 4] i λ h i=>∃ j,h=.returned (iv j)/\∃ h:qW,(∀ k,h k->∀ l:qv,0<=c/\c<6/\aP k (Addr.add (qd e 0) ((c).toNat*1)) (iv j) λ k=>∃ l:I6,af k (qd e 0) 0 l.vs/\aL (qd f 0) 0 l.vs k λ k=>∃ l:I6,af k (qd f 0) 0 l.vs/\K (.agg l.vs.toArray) k)/\cond (j==0) (CC 206 #[qp d,iv 4] i λ f j=>f=.returned (.tuple #[])/\h j) (h i))/\cond (!g) (CC 206 #[qp d,iv 6] b λ f g=>f=.returned (.tuple #[])/\a g) (0<=c/\c<6/\∃ f,b.cell? (Addr.add (qd e 0) ((c).toNat*1))=some (iv f)/\cond (f !=0) (CC 206 #[qp d,iv 7] b λ c d=>c=.returned (.tuple #[])/\a d) (a b)))
theorem rA{a1 l1 c1 b1 u1 w K}(h:mU a1 l1 c1 b1 u1 w K):CP 252 #[.slice a1 l1 c1,.pointer (some ⟨b1,0,none⟩),.agg u1.vs.toArray] w K:=ah (aA [(31,[]),(255,[])]) func252 (by kernel_rfl) (by kernel_rfl) h
def xm(wt:Pr->Int)(l:List Pr)(u:I6):Nat->Int
 | 0=>0
 | k+1=>xm wt l u k+u.at' k*((l[k]?.map wt).getD 0)
def Mx(wt:Pr->Int)(l:List Pr)(u:I6):Int:=xm wt l u l.length
theorem xR{wt:Pr->Int}{l:List Pr}{u:I6}(hu:I6.Le u 4)(hw:∀ p∈l,0<=wt p/\wt p<=1000000):∀ k,k<=6->0<=xm wt l u k/\xm wt l u k<=(k:Int)*4000000
 | 0,_=>by simp[xm]
 | k+1,hk=>by
  have ih:=xR hu hw k (by omega);have h1:=hu k (by omega);have h2:0<=(l[k]?.map wt).getD 0/\(l[k]?.map wt).getD 0<=1000000:=by
   cases hg:l[k]? with
   | none=>simp
   | some p=>exact hw p (List.mem_of_getElem? hg)
  simp only[xm];generalize(l[k]?.map wt).getD 0=y at h2 ⊢;generalize u.at' k=x at h1 ⊢;have h3:0<=x*y:=Int.mul_nonneg h1.1 h2.1;have h4:x*y<=4*1000000:=Int.le_trans (Int.mul_le_mul_of_nonneg_right h1.2 h2.1) (Int.mul_le_mul_of_nonneg_left h2.2 (by omega));omega
theorem MQ{w:World}{a:OA}{c:Nat}{l:List Pr}(h:dH w a l)(hcap:l.length<=c)(ho:bZ l){u:I6}(hu:I6.Le u 4){wt:Pr->Int}(hw:∀ p∈l,0<=wt p/\wt p<=1000000){v:Value}(hv:∀ (w' : World) (p:Pr) (R:Ending->World->Prop),ay w w' []->p∈l->(∀ w'',ay w' w'' []->R (.returned (iv (wt p))) w'')->cU prog v #[.agg p.cells.toArray] w' R) :
  CP 160 #[.agg ((.slice a l.length c) :: u.vs:List Value).toArray,v] w (λ r w'=>r=iv (Mx wt l u)/\ay w w' []):=by
 refine og ?_;unfold jB;have h6:=ho.l2;refine(St.start w).one.ax ((.slice a l.length c) :: u.vs:List Value).toArray λ r1 w1 s1=>?_;refine⟨λ b w2=>b=false/\St w w2 (Sep [ai r1 ((.slice a l.length c) :: u.vs:List Value).toArray 234,emp]),?_,_,_,_,s1.ag 0 rfl 0,ak (yw (h.au s1.au) hcap) ?_⟩
 ·rintro w2 b ⟨rfl,s2⟩ -;refine cF rfl ⟨_,_,_,s2.ag 0 rfl 0,λ s n w3 m=>∃ k:Nat,n=k/\k<=l.length/\m=l.length-k/\s=xm wt l u k/\St w w3 (Sep [ai r1 ((.slice a l.length c) :: u.vs:List Value).toArray 234,emp]),⟨l.length,0,rfl,by omega,by omega,rfl,s2⟩,?_⟩;rintro w3 m s n ⟨k,rfl,hk,hm,rfl,s3⟩ -
  by_cases hlt:(k:Int)<(l.length:Int)
  ·have hx:l[k]?=some (l[k]'(by omega)):=gE (by omega);generalize l[k]'(by omega)=x at hx;have hk6:k<6:=by omega
   obtain⟨_,q,rfl,hcl⟩:=(h.au s3.au) k x hx;refine cT (by simpa using hlt) ?_;refine⟨by omega,by omega,_,_,_,_,_,hcl,s3.ax ({ nm:=[],sup:=0,res:=0,pts:=0,grp:=0 }:Pr).cells.toArray λ r2 w4 s4=>s4.az 0 rfl x.cells rfl x.one λ w5 s5=>?_⟩;have s6:=s5.quiet (ay.drew _ _);have cu:∀ {w' : World} {ls:List aC},St w w' (Sep (ai r2 x.cells.toArray 94 :: ai r1 ((.slice (some q) l.length c) :: u.vs:List Value).toArray 234 :: ls))->w'.cell? (Addr.add ⟨r1,1,none⟩ (((k:Nat):Int).toNat*1))=some (iv (u.at' k)):=λ t=>by
    rw[bq,t.ag 1 rfl];have:=u.get k hk6;rw[Int.toNat_natCast,Nat.mul_one,Nat.add_comm];simpa using this
   refine⟨by omega,by omega,u.at' k,cu s6,_,_,_,_,_,s6.cellsIn 0 rfl,?_⟩;refine hv _ x _ s6.au (List.mem_of_getElem? hx) λ w6 c6=>?_;have s7:=s6.quiet c6;have b0:=xR (l:=l) hu hw k (by omega);have b1:=xR (l:=l) hu hw (k+1) (by omega);have e1:xm wt l u (k+1)=xm wt l u k+u.at' k*wt x:=by simp only[xm,hx,Option.map_some,Option.getD_some]
   refine⟨_,rfl,cu s7,l.length-(k+1),by omega,k+1,aB ⟨by omega,by omega⟩,by omega,rfl,?_,s7.av [1,2]⟩;rw[aB (n:=u.at' k*wt x) ⟨by omega,by omega⟩,aB ⟨by omega,by omega⟩,e1]
  ·obtain rfl:k=l.length:=by omega
   exact cF (by simp) ⟨rfl,s3.au⟩
 ·rintro v w7 ⟨⟨n,rfl,hn⟩,c7⟩;have s7:=s1.quiet c7;refine⟨_,rfl,cF (by rw[hn.2 ho]; rfl) ⟨u,?_,ak (bN w7 u) ?_⟩⟩
  ·exact br _ 0 λ j v hj=>by
    rw[bq,Nat.zero_add,s7.ag 0 rfl,Nat.add_comm];simpa using hj
  ·rintro v w8 ⟨rfl,c8⟩;exact⟨_,rfl,by rw[leq hu]; rfl,s7.quiet c8⟩
theorem UL{l:List Pr}(ho:bZ l):∀ p∈l,0<=p.pts/\p.pts<=1000000:=λ p hp=>by
 obtain⟨i,hi,rfl⟩:=List.mem_iff_getElem.1 hp;have:=(ho.good i _ (gE hi)).1;simp only[tJ,Gq,Bool.and_eq_true,decide_eq_true_eq] at this;omega
def zm(l:List Pr)(u:I6):Int:=Mx Pr.pts l u
def Ih(l:List Pr)(g:Int)(u:I6):Int:=Mx (λ p=>if p.grp=g then 1 else 0) l u
theorem LQ{w:World}{a:OA}{c:Nat}{l:List Pr}(h:dH w a l)(hcap:l.length<=c)(ho:bZ l){u:I6}(hu:I6.Le u 4) :
  CP 196 #[.slice a l.length c,.agg u.vs.toArray] w (λ r w'=>r=iv (zm l u)/\ay w w' []):=by
 refine sK ?_;unfold oe;refine(St.start w).one.ax u.vs.toArray λ r1 w1 s1=>⟨_,s1.cellsIn 0 rfl,ak (MQ (wt:=Pr.pts) (h.au s1.au) hcap ho hu (UL ho) ?_) ?_⟩
 ·intro w' p R _ _ k;refine bx (by kernel_rfl) (ak (K:=λ r w''=>r=iv p.pts/\ay w' w'' []) (ql ?_) ?_)
  ·unfold kD;exact(St.start w').one.ax p.cells.toArray λ r2 w2 s2=>⟨_,s2.ag 0 rfl 3,rfl,s2.au⟩
  ·rintro r w'' ⟨rfl,hc⟩; exact k w'' hc
 ·rintro v w2 ⟨rfl,c2⟩;exact⟨_,rfl,rfl,(s1.quiet c2).au⟩
theorem PA{w:World}{a:OA}{c:Nat}{l:List Pr}(h:dH w a l)(hcap:l.length<=c)(ho:bZ l){u:I6}(hu:I6.Le u 4)(g:Int) :
  CP 122 #[.slice a l.length c,iv g,.agg u.vs.toArray] w (λ r w'=>r=iv (Ih l g u)/\ay w w' []):=by
 refine uC ?_;unfold qK;refine(St.start w).one.ax #[iv g] λ r0 w0 s0=>s0.ax u.vs.toArray λ r1 w1 s1=>⟨_,s1.cellsIn 0 rfl,ak (MQ (wt:=λ p=>if p.grp=g then 1 else 0) (h.au s1.au) hcap ho hu (λ p _=>by split<;>omega) ?_) ?_⟩
 ·intro w' p R hc _ k;refine bx (by kernel_rfl) (ak (K:=λ r w''=>r=iv (if p.grp=g then 1 else 0)/\ay w' w'' []) (rz ?_) ?_)
  ·unfold mT;refine(St.start w').one.ax p.cells.toArray λ r2 w2 s2=>⟨_,s2.ag 0 rfl 4,g,?_,?_⟩
   ·exact bO (s1.ag 1 rfl 0) (hc.trans s2.au (by simp))
   ·by_cases e:p.grp=g
    ·exact cT (by simpa using e) ⟨by rw[if_pos e],s2.au⟩
    ·exact cF (by simpa using e) ⟨by rw[if_neg e],s2.au⟩
  ·rintro r w'' ⟨rfl,hc⟩; exact k w'' hc
 ·rintro v w2 ⟨rfl,c2⟩;exact⟨_,rfl,rfl,(s1.quiet c2).au⟩
structure Ch where
 p:I6
 want:I6
def Ch.cells(c:Ch):List Value:=c.p.on c.want.vs
def Ch.v(c:Ch):Value:=.agg c.cells.toArray
theorem Ch.one(c:Ch):∀ v∈c.cells,v.oneCell' = true:=by
 intro v hv;simp only[Ch.cells,I6.on,I6.vs,List.mem_cons,List.mem_nil_iff,or_false] at hv;rcases hv with rfl|rfl|rfl|rfl|rfl|rfl|rfl|rfl|rfl|rfl|rfl|rfl<;>rfl
theorem Ch.len(c:Ch):c.cells.length=12:=rfl
abbrev nD:Ch:=⟨z6,z6⟩
structure Ch.Ok (c:Ch):Prop where
 p:I6.Le c.p 1000000
 w:I6.Le c.want 4
abbrev Dm (w:World) (a:OA) (l:List Ch):Prop:=cG 12 Ch.cells w a l
theorem bY{w0 w:World}{l:List aC}{r:Nat}{c:Ch}{T:TypeId}(h:St w0 w (Sep l))(i:Nat)(e:l[i]?=some (ai r c.cells.toArray T)):af w ⟨r,6,none⟩ 0 c.want.vs :=
 br _ 0 λ j v hj=>by
  have h6:j<6:=(List.getElem?_eq_some_iff.1 hj).1;rw[bq,Nat.zero_add,h.ag i e]
  match j,h6,hj with
  | 0,_,hj|1,_,hj|2,_,hj|3,_,hj|4,_,hj|5,_,hj=>simpa[Ch.cells,I6.on,I6.vs] using hj
theorem wF{w0 w:World}{l:List aC}{r:Nat}{c:Ch}{T:TypeId}(h:St w0 w (Sep l))(i:Nat)(e:l[i]?=some (ai r c.cells.toArray T)):af w ⟨r,0,none⟩ 0 c.p.vs :=
 br _ 0 λ j v hj=>by
  have h6:j<6:=(List.getElem?_eq_some_iff.1 hj).1;rw[bq,Nat.zero_add,Nat.zero_add,h.ag i e]
  match j,h6,hj with
  | 0,_,hj|1,_,hj|2,_,hj|3,_,hj|4,_,hj|5,_,hj=>simpa[Ch.cells,I6.on,I6.vs] using hj
theorem gr(w:World){p u:I6}(hp:I6.Le p 1000000)(hu:I6.Le u 4):CP 86 #[.agg p.vs.toArray,.agg u.vs.toArray] w (λ r w'=>r=iv (cost p u)/\ay w w' []) :=
 QK w p u 1000000 (by omega) (λ k hk=>by have:=hp k hk; omega) hu
theorem mq{p u:I6}(hp:I6.Le p 1000000)(hu:I6.Le u 4):0<=cost p u/\cost p u<=24000000:=by
 have H:∀ k,k<6->0<=p.at' k*u.at' k/\p.at' k*u.at' k<=4000000:=λ k hk=>by
  have h1:=hp k hk;have h2:=hu k hk;exact⟨Int.mul_nonneg h1.1 h2.1,Int.le_trans (Int.mul_le_mul_of_nonneg_right h1.2 h2.1) (by omega)⟩
 have h0:=H 0 (by decide); have h1:=H 1 (by decide); have h2:=H 2 (by decide); have h3:=H 3 (by decide); have h4:=H 4 (by decide); have h5:=H 5 (by decide);simp only[I6.at'] at h0 h1 h2 h3 h4 h5;unfold cost; omega
theorem K2{w:World}{s:Se}(n:Int):CP 85 #[.agg s.arr,iv n] w (λ r w'=>r=.bool (decide (0<=n)&&decide (n<(s.bd.length:Int)))/\ay w w' []):=by
 refine wB ?_;unfold sx;refine(St.start w).one.ax s.arr λ r1 w1 s1=>?_
 by_cases h:n>=0
 ·exact cT (dT h) ⟨_,_,_,s1.ag 0 rfl 1,by rw[dT (show 0<=n from h)]; rfl,s1.au⟩
 ·exact cF (dF h) ⟨by rw[dF (show ¬ 0<=n from h)]; rfl,s1.au⟩
theorem GU{w:World}{a:OA}{l:List Br}(h:ku w a l){k:Nat}{b:Br}(hk:l[k]?=some b)(j:Nat)(v:Value)(hj:b.cells[j]?=some v):∃ q,a=some q/\w.cell? (Addr.add (Addr.add q (k*4)) j)=some v:=by
 obtain⟨_,q,hq,hc⟩:=h k b hk;have:=aS hc j v hj;exact⟨q,hq,by rwa [Nat.zero_add] at this⟩
def xY(b:Br)(c:Ch):Int:=if b.bud≠0/\b.bud<cost c.p c.want then 17 else 0
def cr(l:List Pr)(nm:List UInt8):Nat×Bool:=((l.findIdx? λ p=>p.nm==nm).getD 0,l.any λ p=>p.nm==nm)
theorem gy{α:Type}{p:α->Bool}:∀ {l:List α} {k:Nat} {x:α},l[k]?=some x->p x=true->(l.take k).any p=false->l.findIdx? p=some k
 | [],_,_,h,_,_=>by simp at h
 | y :: l,0,x,h,hp,_=>by
  simp at h; subst h;rw[List.findIdx?_cons,if_pos hp]
 | y :: l,k+1,x,h,hp,ha=>by
  rw[List.take_succ_cons,List.any_cons,Bool.or_eq_false_iff] at ha;rw[List.findIdx?_cons,if_neg (by rw[ha.1]; decide),gy (by simpa using h) hp ha.2]; rfl
theorem mz{α:Type}{p:α->Bool}{l:List α}(ha:l.any p=false):l.findIdx? p=none:=by
 rw[List.findIdx?_eq_none_iff];intro x hx;simpa using(List.any_eq_false.1 ha) x hx
theorem KM{l:List Pr}{nm:List UInt8}(h:(cr l nm).2=true):(cr l nm).1<l.length:=by
 unfold cr at h ⊢;simp only at h ⊢
 cases hf:l.findIdx? λ p=>p.nm==nm with
 | none =>
  rw[List.findIdx?_eq_none_iff] at hf;obtain⟨x,hx,hp⟩:=List.any_eq_true.1 h;have:=hf x hx;rw[hp] at this; cases this
 | some k =>
  have:=List.of_findIdx?_eq_some hf;show k<l.length;rcases Nat.lt_or_ge k l.length with h|h
  ·exact h
  ·rw[List.getElem?_eq_none h] at this; exact absurd this (by simp)
theorem Hj{w:World}{a:OA}{c:Nat}{l:List Pr}(h:dH w a l)(hl:l.length<=100000)(nm:List UInt8) :
  CP 116 #[.slice a l.length c,sv nm] w (λ r w'=>r=.tuple #[iv (cr l nm).1,.bool (cr l nm).2]/\ay w w' []):=by
 refine Bl ?_;unfold F5;refine⟨λ n w1 m=>∃ k:Nat,n=k/\k<=l.length/\m=l.length-k/\(l.take k).any (λ p=>p.nm==nm)=false/\ay w w1 [],⟨l.length,0,rfl,by omega,by omega,rfl,ay.refl _ _⟩,?_⟩;rintro w1 m n ⟨k,rfl,hk,hm,ha,hc⟩ -
 by_cases hlt:(k:Int)<(l.length:Int)
 ·have hx:l[k]?=some (l[k]'(by omega)):=gE (by omega);generalize l[k]'(by omega)=x at hx;obtain⟨_,q,rfl,hcl⟩:=(h.au hc) k x hx;refine cT (by simpa using hlt) ⟨by omega,by omega,_,_,_,_,_,hcl,(St.start' hc).one.ax _ λ r1 w2 s2=>s2.az 0 rfl x.cells rfl x.one λ w3 s3=>?_⟩;refine⟨_,by rw[s3.ag 0 rfl]; rfl,?_⟩
  by_cases hn:x.nm=nm
  ·refine cT (by rw[hn]; simp) ⟨?_,s3.au⟩;have hp:(λ p:Pr=>p.nm==nm) x=true:=by simpa using hn
   rw[cr,gy hx hp ha,iq hx hp]; rfl
  ·exact cF (by rw[iI,iI]; simpa using hn) ⟨l.length-(k+1),by omega,k+1,by rw[aB ⟨by omega,by omega⟩]; rfl,by omega,rfl,fS ha hx (by simpa using hn),s3.au⟩
 ·refine cF (by simpa using hlt) ⟨?_,hc⟩;rw[List.take_of_length_le (by omega)] at ha;rw[cr,mz ha,ha]; rfl
abbrev Sc:=List Tk×Int
def Sc.acc(m:List UInt8)(σ:Sc):Sc:=(sw m σ.1 σ.2,σ.2)
def Sc.exp(m:List UInt8)(σ:Sc):Sc:=(sw m σ.1 σ.2,KI m σ.1 σ.2)
def Sc.fail(k:Int)(σ:Sc):Sc:=(σ.1,ng σ.2 k)
def Sc.jq(m:Int)(σ:Sc):Sc:=(Fj m σ.1 σ.2,J5 m σ.1 σ.2)
def Sc.name(σ:Sc):Sc:=(Bw σ.1 σ.2,HX σ.1 σ.2)
def Sc.next(σ:Sc):Sc:=(fC σ.1 σ.2,σ.2)
abbrev fH (w0 w:World) (b:Nat) (σ:Sc) (B:aC):Prop:=kf w0 w b σ.1 σ.2 B
def PU(ps:List Pr)(b:I6)(nm:List UInt8)(σ:Sc):Sc:=if (cr ps nm).2 then (if b.at' (cr ps nm).1≠0 then σ.fail 7 else σ) else σ.fail 6
def Kx(ps:List Pr)(b:I6)(nm:List UInt8)(σ:Sc):Sc:=(PU ps b nm σ).exp [58]
def QV(σ:Sc):Sc:=if uw 4 σ.1 σ.2=0 then (σ.jq 4).fail 4 else σ.jq 4
def fu(ps:List Pr)(b:I6)(σ:Sc):I6×Sc :=
 if σ.name.2≠0 then (b,σ.name)
 else (b.put (cr ps (tV σ.1 σ.2)).1 (uw 4 (Kx ps b (tV σ.1 σ.2) σ.name).1 (Kx ps b (tV σ.1 σ.2) σ.name).2),QV (Kx ps b (tV σ.1 σ.2) σ.name))
theorem Ky{w0 w:World}{p:Nat}{σ:Sc}{B:aC}{a:OA}{c:Nat}{l:List Pr}(h:fH w0 w p σ B)(hr:∀ {w'},ay w0 w' []->dH w' a l)(hl:l.length<=6)(h0:1<=l.length)(b:I6) :
  CP 252 #[.slice a l.length c,pt p,.agg b.vs.toArray] w (λ r w'=>r=.agg (fu l b σ).1.vs.toArray/\fH w0 w' p (fu l b σ).2 B):=by
 refine rA ?_;unfold mU;refine(St.start w).one.ax b.vs.toArray λ r1 w1 s1=>s1.ax z6.vs.toArray λ r2 w2 s2=>?_;let Fr:aC:=star (Sep [ai r2 z6.vs.toArray 44,ai r1 b.vs.toArray 44,emp]) B;have h2:fH w0 w2 p σ Fr:=h.add s2;generalize hnm:tV σ.1 σ.2=nm;refine ak (Pj h2) ?_;rintro v w3 ⟨rfl,h3⟩;have h3:fH w0 w3 p σ.name Fr:=h3;refine⟨_,rfl,ak (zD h3) ?_⟩;rintro v _ ⟨rfl,rfl⟩;have fr:∀ {w' : World} {σ' : Sc} {cs cs' : Array Value},fH w0 w' p σ' (star (Sep [ai r2 cs 44,ai r1 cs' 44,emp]) B)->St w0 w' (Sep [ai r2 cs 44,ai r1 cs' 44,emp]):=λ h=>h.frame.first;refine⟨_,rfl,?_⟩
 by_cases he:σ.name.2=0
 ·have em:fu l b σ=(b.put (cr l nm).1 (uw 4 (Kx l b nm σ.name).1 (Kx l b nm σ.name).2),QV (Kx l b nm σ.name)):=by rw[fu,if_neg (by simpa using he),hnm]
  refine cF (by simpa using he) (ak (Hj (hr h3.au) (by omega) _) ?_);rintro v w6 ⟨rfl,c6⟩;rw[hnm];have h6:=h3.quiet c6;have hk6:(cr l nm).1<6:=by
   cases hf:(cr l nm).2 with
   | true=>have:=KM hf; omega
   | false =>
    have:l.findIdx? (λ p=>p.nm==nm)=none:=mz hf;rw[cr,this]; show 0<6; decide
  have e2:(PU l b nm σ.name)=if (cr l nm).2 then (if b.at' (cr l nm).1≠0 then σ.name.fail 7 else σ.name) else σ.name.fail 6:=rfl
  refine⟨_,_,rfl,λ w7=>fH w0 w7 p (PU l b nm σ.name) Fr,?_,?_⟩
  ·rintro w7 h7 -;refine ak (eG h7 [58]) ?_;rintro v w8 ⟨rfl,h8⟩;have h8:fH w0 w8 p (Kx l b nm σ.name) Fr:=h8;refine⟨rfl,ak (vn h8 4) ?_⟩;rintro v w9 ⟨rfl,h9⟩;generalize hn:uw 4 (Kx l b nm σ.name).1 (Kx l b nm σ.name).2=n at em ⊢;refine⟨_,rfl,λ w10=>fH w0 w10 p (QV (Kx l b nm σ.name)) Fr,?_,?_⟩
   ·rintro w10 h10 -;obtain⟨B',s10,back⟩:=h10.out;refine⟨by omega,by omega,?_⟩;rw[fm];refine s10.aK 1 rfl hk6 rfl λ w11 s11=>?_;rw[I6.mG _ _ _ hk6] at s11;exact⟨_,s11.cellsIn 1 rfl,s11.az 0 rfl _ rfl (I6.one _) λ w12 s12=>⟨_,s12.cellsIn 0 rfl,by rw[em],by rw[em]; exact(back (m':=[_,_,_]) s12).drop⟩⟩
   ·by_cases h0n:n=0
    ·refine cT (by simpa using h0n) (ak (iA h9 4) ?_);rintro v w13 ⟨rfl,h13⟩;exact⟨rfl,by rw[QV,if_pos (by rw[hn]; exact h0n)]; exact h13⟩
    ·exact cF (by simpa using h0n) (by rw[QV,if_neg (by rw[hn]; exact h0n)]; exact h9)
  ·cases hf:(cr l nm).2 with
   | false =>
    rw[hf] at e2;refine cT rfl (ak (iA h6 6) ?_);rintro v w14 ⟨rfl,h14⟩;exact⟨rfl,by rw[e2]; exact h14⟩
   | true =>
    rw[hf,if_pos rfl] at e2;have s6:=fr h6;refine cF rfl ⟨by omega,by omega,_,by rw[fm]; exact aI s6 1 rfl hk6,?_⟩
    by_cases hb:b.at' (cr l nm).1=0
    ·rw[if_neg (by simpa using hb)] at e2;exact cF (by simpa using hb) (by rw[e2]; exact h6)
    ·rw[if_pos hb] at e2;refine cT (by simpa using hb) (ak (iA h6 7) ?_);rintro v w15 ⟨rfl,h15⟩;exact⟨rfl,by rw[e2]; exact h15⟩
 ·have em:fu l b σ=(b,σ.name):=by rw[fu,if_pos he]
  obtain⟨B',s4,back⟩:=h3.out;exact cT (by simpa using he) ⟨_,s4.cellsIn 1 rfl,s4.az 0 rfl _ rfl (I6.one _) λ w12 s12=>⟨_,s12.cellsIn 0 rfl,by rw[em],by rw[em]; exact(back (m':=[_,_,_]) s12).drop⟩⟩
def tW(ps:List Pr):Nat->I6->Sc->I6×Sc
 | 0,b,σ=>(b,σ)
 | f+1,b,σ=>if nE [44] σ.1 σ.2 then tW ps f (fu ps b (σ.acc [44])).1 (fu ps b (σ.acc [44])).2 else (b,σ)
def EO(r:I6×Sc):I6×Sc:=if (r.2.exp [125]).2≠0 then (z6,r.2.exp [125]) else (r.1,r.2.exp [125])
def EN(ps:List Pr)(σ:Sc):I6×Sc:=EO (tW ps (fu ps z6 σ).2.1.length (fu ps z6 σ).1 (fu ps z6 σ).2)
def jY(ps:List Pr)(σ:Sc):I6×Sc :=
 if σ.2≠0 then (z6,σ) else if nE [125] (σ.exp [123]).1 (σ.exp [123]).2 then (z6,(σ.exp [123]).acc [125]) else EN ps (σ.exp [123])
theorem BP{m:List UInt8}{σ:Sc}(h:nE m σ.1 σ.2=true):(σ.acc m).1.length+1=σ.1.length:=by
 show(sw m σ.1 σ.2).length+1=_;rw[sw,if_pos h];have h1:(aN σ.1 σ.2).k=3:=by
  unfold nE at h;rw[Bool.and_eq_true] at h;exact of_decide_eq_true h.1
 unfold aN at h1;unfold fC
 split
 ·rename_i he;rw[if_pos he] at h1
  cases hl:σ.1 with
  | nil=>rw[hl] at h1; cases h1
  | cons x l=>simp
 ·rename_i he; rw[if_neg he] at h1; cases h1
theorem xK(l:List Tk)(e:Int):(fC l e).length<=l.length:=by unfold fC; split<;>simp
theorem cQ(m:List UInt8)(l:List Tk)(e:Int):(sw m l e).length<=l.length:=by unfold sw; split; exact xK _ _; exact Nat.le_refl _
theorem xJ(l:List Tk)(e:Int):(Bw l e).length<=l.length:=by unfold Bw; split; exact xK _ _; exact Nat.le_refl _
theorem yd(m:Int)(l:List Tk)(e:Int):(Fj m l e).length<=l.length:=by unfold Fj; split; exact xK _ _; exact Nat.le_refl _
theorem B8(ps:List Pr)(b:I6)(σ:Sc):(fu ps b σ).2.1.length<=σ.1.length:=by
 unfold fu
 split
 ·exact xJ _ _
 ·generalize tV σ.1 σ.2=nm;have h1:(PU ps b nm σ.name).1.length<=σ.1.length:=by unfold PU; split; split; exact xJ _ _; exact xJ _ _; exact xJ _ _
  have h2:(Kx ps b nm σ.name).1.length<=σ.1.length:=Nat.le_trans (cQ _ _ _) h1;show(QV _).1.length<=_;unfold QV
  split
  ·exact Nat.le_trans (yd _ _ _) h2
  ·exact Nat.le_trans (yd _ _ _) h2
theorem Fh{m:List UInt8}{σ:Sc}(h:nE m σ.1 σ.2=false):σ.acc m=σ:=by
 show(sw m σ.1 σ.2,σ.2)=σ;rw[sw,h]; rfl
theorem RQ{w0 w:World}{p:Nat}{σ:Sc}{B:aC}{a:OA}{c:Nat}{l:List Pr}(h:fH w0 w p σ B)(hr:∀ {w'},ay w0 w' []->dH w' a l)(hc:l.length<=c)(ho:bZ l) :
  CP 234 #[.slice a l.length c,pt p] w (λ r w'=>r=.agg (jY l σ).1.vs.toArray/\fH w0 w' p (jY l σ).2 B):=by
 refine wE ?_;unfold sL;have hl:=ho.l2; have hl1:=ho.l1;refine(St.start w).one.ax z6.vs.toArray λ r1 w1 s1=>?_;have h1:=h.add s1;refine ak (zD h1) ?_;rintro v w2 ⟨rfl,rfl⟩;refine⟨_,rfl,?_⟩
 by_cases he:σ.2=0
 ·have e0:jY l σ=if nE [125] (σ.exp [123]).1 (σ.exp [123]).2 then (z6,(σ.exp [123]).acc [125]) else EN l (σ.exp [123]):=by rw[jY,if_neg (by simpa using he)]
  refine cF (by simpa using he) (ak (yw (hr h1.au) hc) ?_);rintro v w4 ⟨⟨e,rfl,hee⟩,c4⟩;obtain rfl:=hee.2 ho;have h4:=h1.quiet c4;refine⟨_,rfl,cF rfl ((St.start w4).one.ax z6.vs.toArray λ r2 w7 s7=>?_)⟩;let Fr:I6->aC:=λ b=>star (Sep [ai r2 b.vs.toArray 44,emp]) (star (Sep [ai r1 z6.vs.toArray 44,emp]) B);have h7:fH w0 w7 p σ (Fr z6):=h4.add s7;refine ak (eG h7 [123]) ?_;rintro v w8 ⟨rfl,h8⟩;have h8:fH w0 w8 p (σ.exp [123]) (Fr z6):=h8;refine⟨rfl,ak (qe h8 [125]) ?_⟩;rintro v w9 ⟨rfl,h9⟩;have h9:fH w0 w9 p ((σ.exp [123]).acc [125]) (Fr z6):=h9;refine⟨_,rfl,?_⟩;have rd:∀ {w' : World} {σ' : Sc} {b:I6},fH w0 w' p σ' (Fr b)->af w' ⟨r2,0,none⟩ 0 b.vs:=λ {w' σ' b} h=>(show St w0 w' (Sep [ai r2 b.vs.toArray 44,emp]) from h.frame.first).cellsIn 0 rfl;have wr:∀ {w' : World} {σ' : Sc} {b b' : I6} {K:World->Prop},fH w0 w' p σ' (Fr b)->(∀ w2,fH w0 w2 p σ' (Fr b')->K w2)->aL ⟨r2,0,none⟩ 0 b'.vs w' K:=λ {w' σ' b b' K} h k=>by
   obtain⟨B',s4,back⟩:=h.out;exact s4.az 0 rfl b'.vs rfl (I6.one _) λ w12 s12=>k w12 (back (m':=[_,_]) s12)
  have fin:∀ {w' : World} {σ' : Sc} {b b' : I6},fH w0 w' p σ' (Fr b)->jY l σ=(b',σ')->aL ⟨r1,0,none⟩ 0 b'.vs w' λ w3=>∃ u1:I6,af w3 ⟨r1,0,none⟩ 0 u1.vs/\(Value.agg u1.vs.toArray=.agg (jY l σ).1.vs.toArray/\fH w0 w3 p (jY l σ).2 B):=λ {w' σ' b b'} h hs=>by
   obtain⟨B',s4,back⟩:=h.drop.out;exact s4.az 0 rfl b'.vs rfl (I6.one _) λ w12 s12=>⟨_,s12.cellsIn 0 rfl,by rw[hs],by rw[hs]; exact(back (m':=[_,_]) s12).drop⟩
  cases ha:nE [125] (σ.exp [123]).1 (σ.exp [123]).2 with
  | true =>
   rw[if_pos ha] at e0;exact cT rfl ⟨_,rd h9,fin h9 e0⟩
  | false =>
   rw[if_neg (by rw[ha]; decide)] at e0;have ea:=Fh ha;rw[ea] at h9;generalize σ.exp [123]=τ at *;refine cF rfl ⟨_,rd h9,ak (Ky h9 hr hl hl1 z6) ?_⟩;rintro v w11 ⟨rfl,h11⟩;refine⟨_,rfl,wr h11 λ w12 h12=>?_⟩;refine⟨λ w13 m=>∃ (f:Nat) (b:I6) (σ' : Sc),m=σ'.1.length/\σ'.1.length<=f/\EO (tW l f b σ')=EN l τ/\fH w0 w13 p σ' (Fr b),⟨_,_,(fu l z6 τ).1,(fu l z6 τ).2,rfl,Nat.le_refl _,rfl,h12⟩,?_⟩;rintro w13 m ⟨f,b,σ',rfl,hf,hs,h13⟩ -;refine ak (qe h13 [44]) ?_;rintro v w14 ⟨rfl,h14⟩;have h14:fH w0 w14 p (σ'.acc [44]) (Fr b):=h14;refine⟨_,rfl,?_⟩
   cases hb:nE [44] σ'.1 σ'.2 with
   | true =>
    have hlen:=BP hb;obtain⟨f,rfl⟩:∃ g,f=g+1:=⟨f-1,by omega⟩;rw[tW,if_pos hb] at hs;refine cT rfl ⟨_,rd h14,ak (Ky h14 hr hl hl1 b) ?_⟩;rintro v w15 ⟨rfl,h15⟩;have hle:=B8 l b (σ'.acc [44]);exact⟨_,rfl,wr h15 λ w16 h16=>⟨_,by omega,f,_,_,rfl,by omega,hs,h16⟩⟩
   | false =>
    have ea:=Fh hb;rw[ea] at h14;have ef:tW l f b σ' = (b,σ'):=by
     cases f with
     | zero=>rfl
     | succ f=>rw[tW,if_neg (by rw[hb]; decide)]
    rw[ef] at hs;refine cF rfl (ak (eG h14 [125]) ?_);rintro v w17 ⟨rfl,h17⟩;have h17:fH w0 w17 p (σ'.exp [125]) (Fr b):=h17;refine⟨rfl,ak (zD h17) ?_⟩;rintro v w18 ⟨rfl,rfl⟩;refine⟨_,rfl,?_⟩
    by_cases h0:(σ'.exp [125]).2=0
    ·rw[EO,if_neg (by simpa using h0)] at hs;exact cF (by simpa using h0) ⟨_,rd h17,fin h17 (by rw[e0,<- hs])⟩
    ·rw[EO,if_pos h0] at hs;exact cT (by simpa using h0) (fin h17 (by rw[e0,<- hs]))
 ·obtain⟨B',s4,back⟩:=h1.out;exact cT (by simpa using he) (s4.az 0 rfl z6.vs rfl (I6.one _) λ w12 s12=>⟨_,s12.cellsIn 0 rfl,by rw[jY,if_pos he],by rw[jY,if_pos he]; exact(back (m':=[_,_]) s12).drop⟩)

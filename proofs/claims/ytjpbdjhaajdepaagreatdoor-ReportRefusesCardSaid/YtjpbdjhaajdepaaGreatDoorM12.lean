import Derived.Test.YtjpbdjhaajdepaaGreatDoorProg
import Derived.KernelRfl
import Derived.Test.YtjpbdjhaajdepaaGreatDoorM02
import Derived.Test.YtjpbdjhaajdepaaGreatDoorM08
set_option linter.unusedVariables false
set_option maxRecDepth 100000
namespace Go.Proofs.YtjpbdjhaajdepaaGreatDoor
open Go Go.Vc Tryz
structure Br where
  nm:List UInt8
  cls:Int
  bud:Int
  pts:Int
def Br.cells(p:Br):List Value:=[sv p.nm,iv p.cls,iv p.bud,iv p.pts]
def Br.In(p:Br):Prop:=Go.Vc.In p.cls/\Go.Vc.In p.bud/\Go.Vc.In p.pts
def kE(w:World)(a:OA)(l:List Br):Prop:=∀ (i:Nat) (p:Br),l[i]? = some p->p.In/\∃ q,a=some q/\af w (q.add (i*4)) 0 p.cells
theorem kE.aC{w w' : World}{a:OA}{l:List Br}(h:kE w a l)(hc:aF w w' []):kE w' a l:=λ i p hp =>
  let ⟨h1,q,hq,h2⟩:=h i p hp
  ⟨h1,q,hq,bG hc h2⟩
theorem kE.take{w:World}{a:OA}{l:List Br}(h:kE w a l)(n:Nat):kE w a (l.take n):=λ i p hp=>by
  rw[List.getElem?_take] at hp
  split at hp
  · exact h i p hp
  · cases hp
theorem Br.one(p:Br):∀ v∈p.cells,v.oneCell' = true:=by
  intro v hv; simp[Br.cells] at hv; rcases hv with rfl | rfl | rfl | rfl<;>rfl
theorem RN{a:OA}{c:Nat}:(if c=0 then a else Option.map (λ x=>Addr.add x (0*4)) a)=a:=by
  split
  · rfl
  · cases a<;>simp[Addr.add]
theorem Ow{w:World}{a:OA}{c:Nat}{l:List Br}(h:kE w a l)(hl:l.length<=1000)(nm:List UInt8) :
    CP 173 #[.slice a l.length c,sv nm] w (λ r w'=>(∃ k:Int,r=.tuple #[iv k,.bool (l.any λ p=>p.nm==nm)])/\aF w w' []):=by
  refine AK ?_;unfold FE;refine⟨λ n w1 m=>∃ k:Nat,n=k/\k<=l.length/\m=l.length-k/\(l.take k).any (λ p=>p.nm==nm)=false/\aF w w1 [],⟨l.length,0,rfl,by omega,by omega,rfl,aF.refl _ _⟩,?_⟩;rintro w1 m n ⟨k,rfl,hk,hm,ha,hc⟩ -
  by_cases hlt:(k:Int)<(l.length:Int)
  · have hx:l[k]? = some (l[k]'(by omega)):=gE (by omega);generalize l[k]'(by omega)=x at hx;obtain⟨_,q,rfl,hcl⟩:=(h.aC hc) k x hx;refine cT (by simpa using hlt) ⟨by omega,by omega,_,_,_,_,hcl,aK ?_⟩;refine((St.start' hc).one.cD _ 79).aD 0 rfl x.cells rfl x.one λ w3 s3=>?_;refine⟨_,by rw[s3.ag 0 rfl]; rfl,?_⟩
    by_cases hn:x.nm=nm
    · exact cT (by rw[hn]; simp) ⟨⟨k,by rw[jL hx (by simpa using hn)]⟩,s3.aC⟩
    · exact cF (by rw[iV,iV]; simpa using hn) ⟨l.length-(k+1),by omega,k+1,by rw[aG ⟨by omega,by omega⟩]; rfl,by omega,rfl,gD ha hx (by simpa using hn),s3.aC⟩
  · refine cF (by simpa using hlt) ⟨⟨0,?_⟩,hc⟩;rw[List.take_of_length_le (by omega)] at ha;rw[ha]
def Bw(x:Br):Bool:=(decide (0<=x.cls)&&decide (x.cls<=4))&&((decide (0<=x.bud)&&decide (x.bud<=1000000))&&(decide (0<=x.pts)&&decide (x.pts<=24000)))
def xd(l:List Br)(i:Nat)(p:Br):Prop:=(fH p.nm&&Bw p)=true/\((l.take i).any λ q=>q.nm==p.nm)=false
structure Gd (l:List Br):Prop where
  l1:1<=l.length
  l2:l.length<=8
  good:∀ i p,l[i]? = some p->xd l i p
theorem pY{x:Br}(hh : ¬ (0<=x.cls/\x.cls<=4/\0<=x.bud/\x.bud<=1000000/\0<=x.pts/\x.pts<=24000)):true = !Bw x:=by
  cases hr:Bw x with
  | false=>rfl
  | true =>
    exfalso; apply hh
    simp only[Bw,Bool.and_eq_true,decide_eq_true_eq] at hr;omega
def MA(l:List Br)(i:Nat)(p:Br):Int:=if fH p.nm=false then 5 else if ((l.take i).any λ q=>q.nm==p.nm) then 7 else if Bw p=false then 4 else 0
theorem Da{l:List Br}{i:Nat}{p:Br}(h:xd l i p):MA l i p=0:=by
  obtain⟨h1,h2⟩:=h;rw[Bool.and_eq_true] at h1;rw[MA,h1.1,h2,h1.2]; rfl
def Jg(l:List Br):Int:=if l.length=0 then 1 else if 8<l.length then 3 else fE (MA l) 0 l
theorem IJ{w:World}{a:OA}{c:Nat}{l:List Br}(h:kE w a l)(hcap:l.length<=c) :
    CP 138 #[.slice a l.length c] w ((Bi (Gd l) (Jg l) w)):=by
  refine Fz ?_;unfold G7
  by_cases h0:l.length=0
  · exact cT (by rw[h0]; rfl) (bh (by decide) (λ hp=>by have:=hp.l1; omega) (aF.refl _ _) (by rw[Jg,if_pos h0]))
  refine cF (by simpa using h0) ?_;rcases Nat.lt_or_ge 8 l.length with h6 | h6
  · exact cT (dT (by omega)) (bh (by decide) (λ hp=>by have:=hp.l2; omega) (aF.refl _ _) (by rw[Jg,if_neg h0,if_pos h6]))
  refine cF (dF (by omega)) ⟨λ n w1 m=>∃ k:Nat,n=k/\k<=l.length/\m=l.length-k/\(∀ i p,i<k->l[i]? = some p->xd l i p)/\aF w w1 [],⟨l.length,0,rfl,by omega,by omega,λ i p hi=>by omega,aF.refl _ _⟩,?_⟩;rintro w1 m n ⟨k,rfl,hk,hm,ha,hc⟩ -
  by_cases hlt:(k:Int)<(l.length:Int)
  · have hx:l[k]? = some (l[k]'(by omega)):=gE (by omega);generalize l[k]'(by omega)=x at hx;obtain⟨_,q,hq,hcl⟩:=(h.aC hc) k x hx;have bad : ¬ xd l k x->¬ Gd l:=λ hb hp=>hb (hp.good k x hx);have bk:∀ {e:Int},e≠0->MA l k x=e->Jg l=e:=λ he h=>by
      have:=kW (f:=MA l) (n:=0) (λ i p hi hp=>by rw[Nat.zero_add]; exact Da (ha i p hi hp)) hx (by rw[Nat.zero_add,h]; exact he);rw[Nat.zero_add,h] at this;rw[Jg,if_neg h0,if_neg (by omega),this]
    refine cT (by simpa using hlt) ?_;rw[hq];refine⟨by omega,by omega,_,_,_,_,hcl,aK ?_⟩;refine((St.start' hc).one.cD _ 79).aD 0 rfl x.cells rfl x.one λ w3 s3=>?_;generalize hr1:w1.heap.size=r1 at s3 ⊢;have cx:∀ {w' : World},aF w3 w' []->∀ (j:Nat) (v:Value),x.cells[j]? = some v->w'.cell? ⟨r1,j,none⟩=some v:=λ hc j v hv=>cU (by rw[s3.ag 0 rfl]; simpa using hv) hc;refine⟨_,cx (aF.refl _ _) 0 _ rfl,au (yE w3 x.nm) ?_⟩;rintro v w4 ⟨rfl,rfl⟩;refine⟨_,rfl,?_⟩
    cases hn:fH x.nm with
    | false=>exact cT rfl (bh (by decide) (bad λ hg=>by have:=hg.1; simp[hn] at this) s3.aC (bk (by decide) (by rw[MA,hn]; rfl)))
    | true =>
      have d4:aF w4 w4.drew []:=aF.drew w4 [];refine cF rfl ⟨by omega,by omega,_,cx d4 0 _ rfl,?_⟩;rw[<- hq,RN];have hf:=Ow (c:=c-0) ((h.aC (s3.aC.trans d4 (by simp))).take k) (by rw[List.length_take]; omega) x.nm;rw[List.length_take,Nat.min_eq_left hk] at hf;refine au hf ?_;rintro v w5 ⟨⟨kk,rfl⟩,c5⟩;have d5:aF w4 w5 []:=d4.trans c5 (by simp);refine⟨_,_,rfl,?_⟩
      cases hany:((l.take k).any λ p=>p.nm==x.nm) with
      | true=>exact cT rfl (bh (by decide) (bad λ hg=>by have:=hg.2; rw[hany] at this; cases this) (s3.aC.trans d5 (by simp)) (bk (by decide) (by rw[MA,hn,hany]; rfl)))
      | false =>
        refine cF rfl ⟨λ b w6=>w6=w5/\b = !Bw x,?_,?_⟩
        · rintro w6 b ⟨rfl,rfl⟩ -;have c7:=s3.aC.trans d5 (by simp)
          cases hr:Bw x with
          | false=>exact cT rfl (bh (by decide) (bad λ hg=>by have:=hg.1; simp[hr] at this) c7 (bk (by decide) (by rw[MA,hn,hany,hr]; rfl)))
          | true =>
            refine cF rfl ⟨l.length-(k+1),by omega,k+1,by rw[aG ⟨by omega,by omega⟩]; rfl,by omega,rfl,λ i p hi hp=>?_,c7⟩;rcases Nat.lt_or_ge i k with h' | h'
            · exact ha i p h' hp
            · obtain rfl:i=k:=by omega
              rw[hx] at hp; cases hp;exact⟨by simp[hn,hr],hany⟩
        · refine⟨_,cx d5 1 _ rfl,?_⟩
          by_cases g1:x.cls<0
          · exact cT (dT g1) ⟨rfl,pY (by omega)⟩
          refine cF (dF g1) ⟨_,cx d5 1 _ rfl,?_⟩
          by_cases g2:x.cls>4
          · exact cT (dT g2) ⟨rfl,pY (by omega)⟩
          refine cF (dF g2) ⟨_,cx d5 2 _ rfl,?_⟩
          by_cases g3:x.bud<0
          · exact cT (dT g3) ⟨rfl,pY (by omega)⟩
          refine cF (dF g3) ⟨_,cx d5 2 _ rfl,?_⟩
          by_cases g4:x.bud>1000000
          · exact cT (dT g4) ⟨rfl,pY (by omega)⟩
          refine cF (dF g4) ⟨_,cx d5 3 _ rfl,?_⟩
          by_cases g5:x.pts<0
          · exact cT (dT g5) ⟨rfl,pY (by omega)⟩
          refine cF (dF g5) ⟨_,cx d5 3 _ rfl,rfl,?_⟩
          by_cases g6:x.pts>24000
          · rw[dT g6]; exact pY (by omega)
          · rw[dF g6];have:Bw x=true:=by simp only[Bw,Bool.and_eq_true,decide_eq_true_eq]; omega
            rw[this]; rfl
  · obtain rfl:k=l.length:=by omega
    exact cF (by simp) (p5 ⟨by omega,h6,λ i p hp=>ha i p (List.getElem?_eq_some_iff.1 hp).1 hp⟩ hc (by rw[Jg,if_neg h0,if_neg (by omega),gM λ i p hp=>by rw[Nat.zero_add]; exact Da (ha i p (List.getElem?_eq_some_iff.1 hp).1 hp)]))
structure T3 where
  a:Int
  b:Int
  c:Int
def T3.cells(p:T3):List Value:=[iv p.a,iv p.b,iv p.c]
def CV(w:World)(a:OA)(l:List T3):Prop:=∀ (i:Nat) (p:T3),l[i]? = some p->∃ q,a=some q/\af w (q.add (i*3)) 0 p.cells
theorem CV.aC{w w' : World}{a:OA}{l:List T3}(h:CV w a l)(hc:aF w w' []):CV w' a l:=λ i p hp =>
  let ⟨q,hq,h2⟩:=h i p hp
  ⟨q,hq,bG hc h2⟩
theorem T3.one(p:T3):∀ v∈p.cells,v.oneCell' = true:=by
  intro v hv; simp[T3.cells] at hv; rcases hv with rfl | rfl | rfl<;>rfl
theorem slice3{a:OA}{c:Nat}:(if c=0 then a else Option.map (λ x=>Addr.add x (0*3)) a)=a:=by
  split
  · rfl
  · cases a<;>simp[Addr.add]
def Af(n:Nat)(x:T3):Bool:=(decide (-1<=x.a)&&decide (x.a<(n:Int)))&&((decide (0<=x.b)&&decide (x.b<=4))&&(decide (0<=x.c)&&decide (x.c<=24)))
def j0(x y:T3):Bool:=y.a==x.a&&y.b==x.b
def Ge(n:Nat)(l:List T3)(i:Nat)(p:T3):Prop:=Af n p=true/\((l.take i).any λ q=>j0 p q)=false
structure Bh (n:Nat) (l:List T3):Prop where
  l1:l.length<=16
  good:∀ i p,l[i]? = some p->Ge n l i p
def MK(n:Nat)(l:List T3)(i:Nat)(x:T3):Int:=if (decide (-1<=x.a)&&decide (x.a<(n:Int)))=false then 6 else if ((decide (0<=x.b)&&decide (x.b<=4))&&(decide (0<=x.c)&&decide (x.c<=24)))=false then 4 else if ((l.take i).any λ q=>j0 x q) then 7 else 0
theorem Dk{n:Nat}{l:List T3}{i:Nat}{p:T3}(h:Ge n l i p):MK n l i p=0:=by
  obtain⟨h1,h2⟩:=h;unfold Af at h1;rw[Bool.and_eq_true] at h1;rw[MK,h1.1,h1.2,h2]; rfl
def JK(n:Nat)(l:List T3):Int:=if 16<l.length then 3 else fE (MK n l) 0 l
theorem MB{w:World}{a1 a2 a3 a4:OA}{l1 c1 l2 c2 c3 l4 c4:Nat}{l:List T3}(h:CV w a3 l)(hcap:l.length<=c3) :
    CP 139 #[.agg #[.slice a1 l1 c1,.slice a2 l2 c2,.slice a3 l.length c3,.slice a4 l4 c4]] w ((Bi (Bh l2 l) (JK l2 l) w)):=by
  refine yU ?_;unfold vU;refine aK ?_;have s1:=(St.start w).one.cD #[.slice a1 l1 c1,.slice a2 l2 c2,.slice a3 l.length c3,.slice a4 l4 c4] 68;generalize hw1:w.alloc _=w1 at s1 ⊢;generalize hr1:w.heap.size=r1 at s1 ⊢;have cb:∀ {w' : World},aF w1 w' []->∀ (j:Nat) (v:Value),(#[.slice a1 l1 c1,.slice a2 l2 c2,.slice a3 l.length c3,.slice a4 l4 c4]:Array Value)[j]? = some v->w'.cell? ⟨r1,j,none⟩=some v:=λ hc j v hv=>cU (by rw[s1.ag 0 rfl]; exact hv) hc;have z1:aF w1 w1 []:=aF.refl _ _;refine⟨_,_,_,cb z1 2 _ rfl,?_⟩;rcases Nat.lt_or_ge 16 l.length with h6 | h6
  · exact cT (dT (by omega)) (bh (by decide) (λ hp=>by have:=hp.l1; omega) s1.aC (by rw[JK,if_pos h6]))
  refine cF (dF (by omega)) ⟨_,_,_,cb z1 2 _ rfl,λ n w2 m=>∃ k:Nat,n=k/\k<=l.length/\m=l.length-k/\(∀ i p,i<k->l[i]? = some p->Ge l2 l i p)/\aF w1 w2 [],⟨l.length,0,rfl,by omega,by omega,λ i p hi=>by omega,z1⟩,?_⟩;rintro w2 m n ⟨k,rfl,hk,hm,ha,hc⟩ -;have hcw:aF w w2 []:=s1.aC.trans hc (by simp)
  by_cases hlt:(k:Int)<(l.length:Int)
  · have hx:l[k]? = some (l[k]'(by omega)):=gE (by omega);generalize l[k]'(by omega)=x at hx;obtain⟨q,hq,hcl⟩:=(h.aC hcw) k x hx;have bad : ¬ Ge l2 l k x->¬ Bh l2 l:=λ hb hp=>hb (hp.good k x hx);have bk:∀ {e:Int},e≠0->MK l2 l k x=e->JK l2 l=e:=λ he h=>by
      have:=kW (f:=MK l2 l) (n:=0) (λ i p hi hp=>by rw[Nat.zero_add]; exact Dk (ha i p hi hp)) hx (by rw[Nat.zero_add,h]; exact he);rw[Nat.zero_add,h] at this;rw[JK,if_neg (by omega),this]
    refine cT (by simpa using hlt) ?_;rw[hq];refine⟨by omega,by omega,_,_,_,hcl,aK ?_⟩;refine((St.start w2).one.cD _ 125).aD 0 rfl x.cells rfl x.one λ w4 s4=>?_;generalize hr2:w2.heap.size=r2 at s4 ⊢;have d4:aF w1 w4 []:=hc.trans s4.aC (by simp);have cw4:aF w w4 []:=s1.aC.trans d4 (by simp);have cx:∀ {w' : World},aF w4 w' []->∀ (j:Nat) (v:Value),x.cells[j]? = some v->w'.cell? ⟨r2,j,none⟩=some v:=λ hc j v hv=>cU (by rw[s4.ag 0 rfl]; simpa using hv) hc;have z4:aF w4 w4 []:=aF.refl _ _;refine⟨λ b w5=>w5=w4/\b = !(decide (-1<=x.a)&&decide (x.a<(l2:Int))),?_,?_⟩
    · rintro w5 b ⟨rfl,rfl⟩ -
      cases g0:(decide (-1<=x.a)&&decide (x.a<(l2:Int))) with
      | false=>exact cT rfl (bh (by decide) (bad λ hg=>by have:=hg.1; unfold Af at this; rw[g0] at this; cases this) cw4 (bk (by decide) (by rw[MK,g0]; rfl)))
      | true =>
        refine cF rfl ⟨λ b w6=>w6=w5/\b = !((decide (0<=x.b)&&decide (x.b<=4))&&(decide (0<=x.c)&&decide (x.c<=24))),?_,?_⟩
        · rintro w6 b ⟨rfl,rfl⟩ -
          cases g1:((decide (0<=x.b)&&decide (x.b<=4))&&(decide (0<=x.c)&&decide (x.c<=24))) with
          | false=>exact cT rfl (bh (by decide) (bad λ hg=>by have:=hg.1; unfold Af at this; rw[g0,g1] at this; cases this) cw4 (bk (by decide) (by rw[MK,g0,g1]; rfl)))
          | true =>
            refine cF rfl ⟨_,_,_,cb d4 2 _ rfl,by omega,by omega,λ n w7 m=>∃ j:Nat,n=j/\j<=k/\m=k-j/\(l.take j).any (λ p=>j0 x p)=false/\aF w6 w7 [],⟨k,0,rfl,by omega,by omega,rfl,z4⟩,?_⟩;rintro w7 m7 n7 ⟨j,rfl,hj,hm7,hany,c7⟩ -
            by_cases hjk:(j:Int)<(k:Int)
            · have hy:l[j]? = some (l[j]'(by omega)):=gE (by omega);generalize l[j]'(by omega)=y at hy;obtain⟨q',hq',hcl'⟩:=(h.aC (cw4.trans c7 (by simp))) j y hy;rw[hq] at hq'; cases hq';refine cT (by simpa using hjk) ?_;rw[slice3,hq];refine⟨by omega,by simpa using hjk,_,_,_,hcl',aK ?_⟩;refine((St.start' c7).one.cD _ 125).aD 0 rfl y.cells rfl y.one λ w9 s9=>?_;have cy:∀ (j:Nat) (v:Value),y.cells[j]? = some v->w9.cell? ⟨w7.heap.size,j,none⟩=some v:=λ j v hv=>by rw[s9.ag 0 rfl]; simpa using hv
              refine⟨λ b w10=>w10=w9/\b=j0 x y,?_,_,cy 0 _ rfl,_,cx s9.aC 0 _ rfl,?_⟩
              · rintro w10 b ⟨rfl,rfl⟩ -
                cases hs:j0 x y with
                | true =>
                  have h2:(l.take k)[j]? = some y:=by rw[List.getElem?_take,if_pos (by omega)]; exact hy
                  have h3:=jL (p:=λ q=>j0 x q) h2 hs;refine cT rfl (bh (by decide) (bad λ hg=>?_) (cw4.trans s9.aC (by simp)) (bk (by decide) (by rw[MK,g0,g1,h3]; rfl)));have h1:=hg.2;rw[h3] at h1
                  cases h1
                | false=>exact cF rfl ⟨k-(j+1),by omega,j+1,by rw[aG ⟨by omega,by omega⟩]; rfl,by omega,rfl,gD hany hy hs,s9.aC⟩
              · by_cases hA:y.a=x.a
                · refine cT (by simpa using hA) ⟨_,cy 1 _ rfl,_,cx s9.aC 1 _ rfl,rfl,?_⟩;simp[j0,hA]
                · exact cF (by simpa using hA) ⟨rfl,by simp[j0,hA]⟩
            · obtain rfl:j=k:=by omega
              refine cF (by simp) ⟨l.length-(j+1),by omega,j+1,by rw[aG ⟨by omega,by omega⟩]; rfl,by omega,rfl,λ i p hi hp=>?_,d4.trans c7 (by simp)⟩;rcases Nat.lt_or_ge i j with h' | h'
              · exact ha i p h' hp
              · obtain rfl:i=j:=by omega
                rw[hx] at hp; cases hp;exact⟨by unfold Af; rw[g0,g1]; rfl,hany⟩
        · have no : ¬ (0<=x.b/\x.b<=4/\0<=x.c/\x.c<=24)->true = !((decide (0<=x.b)&&decide (x.b<=4))&&(decide (0<=x.c)&&decide (x.c<=24))):=λ hh=>by
            cases hr:((decide (0<=x.b)&&decide (x.b<=4))&&(decide (0<=x.c)&&decide (x.c<=24))) with
            | false=>rfl
            | true =>
              exfalso; apply hh
              simp only[Bool.and_eq_true,decide_eq_true_eq] at hr;omega
          refine⟨_,cx z4 1 _ rfl,?_⟩
          by_cases g1:x.b<0
          · exact cT (dT g1) ⟨rfl,no (by omega)⟩
          refine cF (dF g1) ⟨_,cx z4 1 _ rfl,?_⟩
          by_cases g2:x.b>4
          · exact cT (dT g2) ⟨rfl,no (by omega)⟩
          refine cF (dF g2) ⟨_,cx z4 2 _ rfl,?_⟩
          by_cases g3:x.c<0
          · exact cT (dT g3) ⟨rfl,no (by omega)⟩
          refine cF (dF g3) ⟨_,cx z4 2 _ rfl,rfl,?_⟩
          by_cases g4:x.c>24
          · rw[dT g4]; exact no (by omega)
          · rw[dF g4,dT (show 0<=x.b by omega),dT (show x.b<=4 by omega),dT (show 0<=x.c by omega),dT (show x.c<=24 by omega)];rfl
    · refine⟨_,cx z4 0 _ rfl,?_⟩
      by_cases g1:x.a < -1
      · exact cT (dT g1) ⟨rfl,by rw[dF (show ¬ -1<=x.a by omega)]; rfl⟩
      · refine cF (dF g1) ⟨_,cx z4 0 _ rfl,_,_,_,cb d4 1 _ rfl,rfl,?_⟩;rw[dT (show -1<=x.a by omega),Bool.true_and]
        by_cases g2:x.a<(l2:Int)
        · rw[dT g2,dF (by omega)]; rfl
        · rw[dF g2,dT (by omega)]; rfl
  · obtain rfl:k=l.length:=by omega
    exact cF (by simp) (p5 ⟨h6,λ i p hp=>ha i p (List.getElem?_eq_some_iff.1 hp).1 hp⟩ hcw (by rw[JK,if_neg (by omega),gM λ i p hp=>by rw[Nat.zero_add]; exact Dk (ha i p (List.getElem?_eq_some_iff.1 hp).1 hp)]))
def EX(ps:List Pr)(x:T3):Bool:=(decide (0<=x.a)&&decide (x.a<(ps.length:Int)))&&((decide (1<=x.b)&&decide (x.b<=4))&&(decide (1<=x.c)&&decide (x.c<=((ps[x.a.toNat]?.map Pr.sup).getD 0))))
def sameAs(x y:T3):Bool:=y.a==x.a
def Gc(ps:List Pr)(l:List T3)(i:Nat)(p:T3):Prop:=EX ps p=true/\((l.take i).any λ q=>sameAs p q)=false
structure kC (ps:List Pr) (l:List T3):Prop where
  l1:l.length<=6
  good:∀ i p,l[i]? = some p->Gc ps l i p
def OB(ps:List Pr)(l:List T3)(i:Nat)(x:T3):Int:=if (decide (0<=x.a)&&decide (x.a<(ps.length:Int)))=false then 6 else if ((decide (1<=x.b)&&decide (x.b<=4))&&(decide (1<=x.c)&&decide (x.c<=((ps[x.a.toNat]?.map Pr.sup).getD 0))))=false then 4 else if ((l.take i).any λ q=>sameAs x q) then 7 else 0
theorem El{ps:List Pr}{l:List T3}{i:Nat}{p:T3}(h:Gc ps l i p):OB ps l i p=0:=by
  obtain⟨h1,h2⟩:=h;unfold EX at h1;rw[Bool.and_eq_true] at h1;rw[OB,h1.1,h1.2,h2]; rfl
def ON(ps:List Pr)(l:List T3):Int:=if 6<l.length then 3 else fE (OB ps l) 0 l
theorem HV{w:World}{a1 a2 a3 a4:OA}{c1 l2 c2 l3 c3 c4:Nat}{ps:List Pr}{l:List T3}(hP:eB w a1 ps)(h:CV w a4 l)(hcap:l.length<=c4) :
    CP 140 #[.agg #[.slice a1 ps.length c1,.slice a2 l2 c2,.slice a3 l3 c3,.slice a4 l.length c4]] w ((Bi (kC ps l) (ON ps l) w)):=by
  refine uS ?_;unfold qR;refine aK ?_;have s1:=(St.start w).one.cD #[.slice a1 ps.length c1,.slice a2 l2 c2,.slice a3 l3 c3,.slice a4 l.length c4] 68;generalize hw1:w.alloc _=w1 at s1 ⊢;generalize hr1:w.heap.size=r1 at s1 ⊢;have cb:∀ {w' : World},aF w1 w' []->∀ (j:Nat) (v:Value),(#[.slice a1 ps.length c1,.slice a2 l2 c2,.slice a3 l3 c3,.slice a4 l.length c4]:Array Value)[j]? = some v->w'.cell? ⟨r1,j,none⟩=some v:=λ hc j v hv=>cU (by rw[s1.ag 0 rfl]; exact hv) hc;have z1:aF w1 w1 []:=aF.refl _ _;refine⟨_,_,_,cb z1 3 _ rfl,?_⟩;rcases Nat.lt_or_ge 6 l.length with h6 | h6
  · exact cT (dT (by omega)) (bh (by decide) (λ hp=>by have:=hp.l1; omega) s1.aC (by rw[ON,if_pos h6]))
  refine cF (dF (by omega)) ⟨_,_,_,cb z1 3 _ rfl,λ n w2 m=>∃ k:Nat,n=k/\k<=l.length/\m=l.length-k/\(∀ i p,i<k->l[i]? = some p->Gc ps l i p)/\aF w1 w2 [],⟨l.length,0,rfl,by omega,by omega,λ i p hi=>by omega,z1⟩,?_⟩;rintro w2 m n ⟨k,rfl,hk,hm,ha,hc⟩ -;have hcw:aF w w2 []:=s1.aC.trans hc (by simp)
  by_cases hlt:(k:Int)<(l.length:Int)
  · have hx:l[k]? = some (l[k]'(by omega)):=gE (by omega);generalize l[k]'(by omega)=x at hx;obtain⟨q,hq,hcl⟩:=(h.aC hcw) k x hx;have bad : ¬ Gc ps l k x->¬ kC ps l:=λ hb hp=>hb (hp.good k x hx);have bk:∀ {e:Int},e≠0->OB ps l k x=e->ON ps l=e:=λ he h=>by
      have:=kW (f:=OB ps l) (n:=0) (λ i p hi hp=>by rw[Nat.zero_add]; exact El (ha i p hi hp)) hx (by rw[Nat.zero_add,h]; exact he);rw[Nat.zero_add,h] at this;rw[ON,if_neg (by omega),this]
    refine cT (by simpa using hlt) ?_;rw[hq];refine⟨by omega,by omega,_,_,_,hcl,aK ?_⟩;refine((St.start w2).one.cD _ 128).aD 0 rfl x.cells rfl x.one λ w4 s4=>?_;generalize hr2:w2.heap.size=r2 at s4 ⊢;have d4:aF w1 w4 []:=hc.trans s4.aC (by simp);have cw4:aF w w4 []:=s1.aC.trans d4 (by simp);have cx:∀ {w' : World},aF w4 w' []->∀ (j:Nat) (v:Value),x.cells[j]? = some v->w'.cell? ⟨r2,j,none⟩=some v:=λ hc j v hv=>cU (by rw[s4.ag 0 rfl]; simpa using hv) hc;have z4:aF w4 w4 []:=aF.refl _ _;refine⟨λ b w5=>w5=w4/\b = !(decide (0<=x.a)&&decide (x.a<(ps.length:Int))),?_,?_⟩
    · rintro w5 b ⟨rfl,rfl⟩ -
      cases g0:(decide (0<=x.a)&&decide (x.a<(ps.length:Int))) with
      | false=>exact cT rfl (bh (by decide) (bad λ hg=>by have:=hg.1; unfold EX at this; rw[g0] at this; cases this) cw4 (bk (by decide) (by rw[OB,g0]; rfl)))
      | true =>
        have d45:aF w5 w5.drew []:=aF.drew w5 [];refine cF rfl ⟨λ b w6=>w6=w5.drew/\b = !((decide (1<=x.b)&&decide (x.b<=4))&&(decide (1<=x.c)&&decide (x.c<=((ps[x.a.toNat]?.map Pr.sup).getD 0)))),?_,?_⟩
        · rintro w6 b ⟨rfl,rfl⟩ -
          cases g1:((decide (1<=x.b)&&decide (x.b<=4))&&(decide (1<=x.c)&&decide (x.c<=((ps[x.a.toNat]?.map Pr.sup).getD 0)))) with
          | false=>exact cT rfl (bh (by decide) (bad λ hg=>by have:=hg.1; unfold EX at this; rw[g0,g1] at this; cases this) (cw4.trans d45 (by simp)) (bk (by decide) (by rw[OB,g0,g1]; rfl)))
          | true =>
            refine cF rfl ⟨_,_,_,cb (d4.trans d45 (by simp)) 3 _ rfl,by omega,by omega,λ n w7 m=>∃ j:Nat,n=j/\j<=k/\m=k-j/\(l.take j).any (λ p=>sameAs x p)=false/\aF w5 w7 [],⟨k,0,rfl,by omega,by omega,rfl,d45⟩,?_⟩;rintro w7 m7 n7 ⟨j,rfl,hj,hm7,hany,c7⟩ -
            by_cases hjk:(j:Int)<(k:Int)
            · have hy:l[j]? = some (l[j]'(by omega)):=gE (by omega);generalize l[j]'(by omega)=y at hy;obtain⟨q',hq',hcl'⟩:=(h.aC (cw4.trans c7 (by simp))) j y hy;rw[hq] at hq'; cases hq';refine cT (by simpa using hjk) ?_;rw[slice3,hq];refine⟨by omega,by simpa using hjk,_,_,_,hcl',aK ?_⟩;refine((St.start' c7).one.cD _ 128).aD 0 rfl y.cells rfl y.one λ w9 s9=>?_;have cy:∀ (j:Nat) (v:Value),y.cells[j]? = some v->w9.cell? ⟨w7.heap.size,j,none⟩=some v:=λ j v hv=>by rw[s9.ag 0 rfl]; simpa using hv
              refine⟨_,cy 0 _ rfl,_,cx s9.aC 0 _ rfl,?_⟩
              by_cases hA:y.a=x.a
              · have h2:(l.take k)[j]? = some y:=by rw[List.getElem?_take,if_pos (by omega)]; exact hy
                have h3:=jL (p:=λ q=>sameAs x q) h2 (by simpa[sameAs] using hA);refine cT (by simpa using hA) (bh (by decide) (bad λ hg=>?_) (cw4.trans s9.aC (by simp)) (bk (by decide) (by rw[OB,g0,g1,h3]; rfl)));have h1:=hg.2;rw[h3] at h1
                cases h1
              · exact cF (by simpa using hA) ⟨k-(j+1),by omega,j+1,by rw[aG ⟨by omega,by omega⟩]; rfl,by omega,rfl,gD hany hy (by simpa[sameAs] using hA),s9.aC⟩
            · obtain rfl:j=k:=by omega
              refine cF (by simp) ⟨l.length-(j+1),by omega,j+1,by rw[aG ⟨by omega,by omega⟩]; rfl,by omega,rfl,λ i p hi hp=>?_,d4.trans c7 (by simp)⟩;rcases Nat.lt_or_ge i j with h' | h'
              · exact ha i p h' hp
              · obtain rfl:i=j:=by omega
                rw[hx] at hp; cases hp;exact⟨by unfold EX; rw[g0,g1]; rfl,hany⟩
        · simp only[Bool.and_eq_true,decide_eq_true_eq] at g0;have hpx:ps[x.a.toNat]? = some (ps[x.a.toNat]'(by omega)):=gE (by omega);generalize ps[x.a.toNat]'(by omega)=y at hpx;rw[hpx,Option.map_some,Option.getD_some];have no : ¬ (1<=x.b/\x.b<=4/\1<=x.c/\x.c<=y.sup)->true = !((decide (1<=x.b)&&decide (x.b<=4))&&(decide (1<=x.c)&&decide (x.c<=y.sup))):=λ hh=>by
            cases hr:((decide (1<=x.b)&&decide (x.b<=4))&&(decide (1<=x.c)&&decide (x.c<=y.sup))) with
            | false=>rfl
            | true =>
              exfalso; apply hh
              simp only[Bool.and_eq_true,decide_eq_true_eq] at hr;omega
          refine⟨_,cx d45 1 _ rfl,?_⟩
          by_cases g1:x.b<1
          · exact cT (dT g1) ⟨rfl,no (by omega)⟩
          refine cF (dF g1) ⟨_,cx d45 1 _ rfl,?_⟩
          by_cases g2:x.b>4
          · exact cT (dT g2) ⟨rfl,no (by omega)⟩
          refine cF (dF g2) ⟨_,cx d45 2 _ rfl,?_⟩
          by_cases g3:x.c<1
          · exact cT (dT g3) ⟨rfl,no (by omega)⟩
          obtain⟨_,qp,hqp,hyc⟩:=(hP.aC (cw4.trans d45 (by simp))) x.a.toNat y hpx;refine cF (dF g3) ⟨_,cx d45 2 _ rfl,_,_,_,cb (d4.trans d45 (by simp)) 0 _ rfl,_,cx d45 0 _ rfl,?_⟩;rw[hqp];refine⟨by omega,by omega,y.sup,hyc.2.1,rfl,?_⟩
          by_cases g4:x.c>y.sup
          · rw[dT g4]; exact no (by omega)
          · rw[dF g4,dT (show 1<=x.b by omega),dT (show x.b<=4 by omega),dT (show 1<=x.c by omega),dT (show x.c<=y.sup by omega)];rfl
    · refine⟨_,cx z4 0 _ rfl,?_⟩
      by_cases g1:x.a<0
      · exact cT (dT g1) ⟨rfl,by rw[dF (show ¬ 0<=x.a by omega)]; rfl⟩
      · refine cF (dF g1) ⟨_,cx z4 0 _ rfl,_,_,_,cb d4 0 _ rfl,rfl,?_⟩;rw[dT (show 0<=x.a by omega),Bool.true_and]
        by_cases g2:x.a<(ps.length:Int)
        · rw[dT g2,dF (by omega)]; rfl
        · rw[dF g2,dT (by omega)]; rfl
  · obtain rfl:k=l.length:=by omega
    exact cF (by simp) (p5 ⟨h6,λ i p hp=>ha i p (List.getElem?_eq_some_iff.1 hp).1 hp⟩ hcw (by rw[ON,if_neg (by omega),gM λ i p hp=>by rw[Nat.zero_add]; exact El (ha i p (List.getElem?_eq_some_iff.1 hp).1 hp)]))
structure Se where
  ps:List Pr
  bd:List Br
  cp:List T3
  sa:List T3
  a1:Option Addr
  c1:Nat
  a2:Option Addr
  c2:Nat
  a3:Option Addr
  c3:Nat
  a4:Option Addr
  c4:Nat
def Se.arr(s:Se):Array Value:=#[.slice s.a1 s.ps.length s.c1,.slice s.a2 s.bd.length s.c2,.slice s.a3 s.cp.length s.c3,.slice s.a4 s.sa.length s.c4]
structure Se.In (s:Se) (w:World):Prop where
  ps:eB w s.a1 s.ps
  bd:kE w s.a2 s.bd
  cp:CV w s.a3 s.cp
  sa:CV w s.a4 s.sa
  h1:s.ps.length<=s.c1
  h2:s.bd.length<=s.c2
  h3:s.cp.length<=s.c3
  h4:s.sa.length<=s.c4
theorem Se.In.aC{s:Se}{w w' : World}(h:s.In w)(hc:aF w w' []):s.In w':=⟨h.ps.aC hc,h.bd.aC hc,h.cp.aC hc,h.sa.aC hc,h.h1,h.h2,h.h3,h.h4⟩
structure Se.Ok (s:Se):Prop where
  ps:di s.ps
  bd:Gd s.bd
  cp:Bh s.bd.length s.cp
  sa:kC s.ps s.sa
def FT(s:Se):Int:=if IG s.ps≠0 then IG s.ps else if Jg s.bd≠0 then Jg s.bd else if JK s.bd.length s.cp≠0 then JK s.bd.length s.cp else ON s.ps s.sa
theorem AY{w:World}{s:Se}(h:s.In w):CP 112 #[.agg s.arr] w ((Bi s.Ok (FT s) w)):=by
  refine FA ?_;unfold G8;refine aK ?_;have s1:=(St.start w).one.cD #[.slice s.a1 s.ps.length s.c1,.slice s.a2 s.bd.length s.c2,.slice s.a3 s.cp.length s.c3,.slice s.a4 s.sa.length s.c4] 68;generalize hw1:w.alloc _=w1 at s1 ⊢;generalize hr1:w.heap.size=r1 at s1 ⊢;refine⟨_,_,_,by rw[s1.ag 0 rfl]; rfl,au (Ag (h.aC s1.aC).ps h.h1) ?_⟩;rintro v w2 ⟨⟨rfl,e1⟩,d2⟩;have s2:=s1.quiet d2;refine⟨_,rfl,?_⟩
  by_cases g1:IG s.ps=0
  · refine cF (by simpa using g1) ⟨_,_,_,by rw[s2.ag 0 rfl]; rfl,au (IJ (h.aC s2.aC).bd h.h2) ?_⟩;rintro v w3 ⟨⟨rfl,e2⟩,d3⟩;have s3:=s2.quiet d3;refine⟨_,rfl,?_⟩
    by_cases g2:Jg s.bd=0
    · refine cF (by simpa using g2) ⟨_,_,_,_,_,_,_,_,_,_,_,_,s3.cellsIn 0 rfl,au (MB (h.aC s3.aC).cp h.h3) ?_⟩;rintro v w4 ⟨⟨rfl,e3⟩,d4⟩;have s4:=s3.quiet d4;refine⟨_,rfl,?_⟩
      by_cases g3:JK s.bd.length s.cp=0
      · refine cF (by simpa using g3) ⟨_,_,_,_,_,_,_,_,_,_,_,_,s4.cellsIn 0 rfl,au (HV (h.aC s4.aC).ps (h.aC s4.aC).sa h.h4) ?_⟩;rintro v w5 ⟨⟨rfl,e4⟩,d5⟩;have s5:=s4.quiet d5;have e0:FT s=ON s.ps s.sa:=by rw[FT,if_neg (λ h=>h g1),if_neg (λ h=>h g2),if_neg (λ h=>h g3)]
        exact⟨_,rfl,⟨by rw[e0],by rw[e0]; exact⟨λ h0=>⟨e1.1 g1,e2.1 g2,e3.1 g3,e4.1 h0⟩,λ hk=>e4.2 hk.sa⟩⟩,s5.aC⟩
      · exact cT (by simpa using g3) (bh g3 (λ hk=>g3 (e3.2 hk.cp)) s4.aC (by rw[FT,if_neg (λ h=>h g1),if_neg (λ h=>h g2),if_pos g3]))
    · exact cT (by simpa using g2) (bh g2 (λ hk=>g2 (e2.2 hk.bd)) s3.aC (by rw[FT,if_neg (λ h=>h g1),if_pos g2]))
  · exact cT (by simpa using g1) (bh g1 (λ hk=>g1 (e1.2 hk.ps)) s2.aC (by rw[FT,if_pos g1]))
theorem Ep{w:World}{s:Se}(h:s.In w):CP 112 #[.agg s.arr] w ((PW s.Ok w)):=au (AY h) λ _ _ h=>⟨_,rfl,h.old⟩
def qK(a:OA)(b c:Nat)(d:Int)(e:I6)(w:World)(K:KP):Prop:=av w (.cells #[iv d] 3) λ d f=>av f (.cells e.vs.toArray 42) λ e f=>∃ (g:I6),af f ⟨e,0,none⟩ 0 g.vs/\Calls prog 50 #[.agg (.slice a b c :: g.vs:List Value).toArray,.func (.func 215) #[] #[.pointer (some ⟨d,0,none⟩)]] f λ a b=>∃ c,a=.returned (iv c)/\K (iv c) b
theorem uz{a1 l1 c1 n1 u1 w K}(h:qK a1 l1 c1 n1 u1 w K):CP 178 #[.slice a1 l1 c1,iv n1,.agg u1.vs.toArray] w (K):=an (aH []) func178 (by kernel_rfl) (by kernel_rfl) h
def jN(a:OA)(b c:Nat)(d:I6)(e:Value)(w:World)(K:KP):Prop:=av w (.cells (.slice a b c :: d.vs:List Value).toArray 136) λ a b=>∃ c:Bool->World->Prop,(∀ d f,c f d->∀ g:Nat->Value,cond f (K (iv 0) d) (∃ f g h,d.cell? ⟨a,0,none⟩=some (.slice f g h)/\∃ h:Int->Int->World->Nat->Prop,(∃ i,h 0 (0:Int) d i)/\∀ d i j k,h j k d i->∀ l:Nat->Value,cond (decide (k<(g:Int))) (ay f λ f=>0<=k/\k<(g:Int)/\∃ g l m n o,af d (Addr.add f ((k).toNat*5)) 0 [.string g,iv l,iv m,iv n,iv o]/\av d (.cells #[.string (bs []),iv 0,iv 0,iv 0,iv 0] 121) λ f p=>aP ⟨f,0,none⟩ 0 [.string g,iv l,iv m,iv n,iv o] p λ g=>0<=k/\k<6/\∃ l,g.drew.cell? (Addr.add ⟨a,1,none⟩ ((k).toNat*1))=some (iv l)/\∃ m n o p q,af g.drew ⟨f,0,none⟩ 0 [.string m,iv n,iv o,iv p,iv q]/\dy prog e #[.agg #[.string m,iv n,iv o,iv p,iv q]] g.drew λ e f=>∃ g,e=.returned (iv g)/\f.cell? (Addr.add ⟨a,1,none⟩ ((k).toNat*1))=some (iv l)/\∃ e,e<i/\h (IntKind.i64.wrap (j+(IntKind.i64.wrap (l*g)))) (IntKind.i64.wrap (k+1)) f e) (K (iv j) d)))/\∃ d e f,b.cell? ⟨a,0,none⟩=some (.slice d e f)/\Calls prog 78 #[.slice d e f] b λ b d=>∃ e,b=.returned (iv e)/\cond (e !=0) (c true d) (∃ (b:I6),af d ⟨a,1,none⟩ 0 b.vs/\Calls prog 63 #[.agg b.vs.toArray] d λ a b=>∃ d,a=.returned (iv d)/\c (d !=0) b)
theorem oh{a1 l1 c1 u1 v1 w K}(h:jN a1 l1 c1 u1 v1 w K):CP 50 #[.agg (.slice a1 l1 c1 :: u1.vs:List Value).toArray,v1] w (K):=an (aH [(6,[(17,.s .bool)]),(122,[(5,.s (.int .i64)),(21,.s (.int .i64))])]) func50 (by kernel_rfl) (by kernel_rfl) h
def mT(a:ByteArray)(b c d e:Int)(f:Nat)(w:World)(K:KP):Prop:=av w (.cells #[.string a,iv b,iv c,iv d,iv e] 121) λ a b=>∃ c,b.cell? ⟨a,4,none⟩=some (iv c)/\∃ a,b.cell? ⟨f,0,none⟩=some (iv a)/\cond (c==a) (K (iv 1) b) (K (iv 0) b)
theorem rB{s1 n1 n2 n3 n4 b1 w K}(h:mT s1 n1 n2 n3 n4 b1 w K):CP 215 #[.agg #[.string s1,iv n1,iv n2,iv n3,iv n4],.pointer (some ⟨b1,0,none⟩)] w (K):=an (aH []) func215 (by kernel_rfl) (by kernel_rfl) h
def og(a:OA)(b c:Nat)(d:I6)(w:World)(K:KP):Prop:=av w (.cells d.vs.toArray 42) λ d e=>∃ (f:I6),af e ⟨d,0,none⟩ 0 f.vs/\Calls prog 50 #[.agg (.slice a b c :: f.vs:List Value).toArray,.func (.func 51) #[] #[]] e λ a b=>∃ c,a=.returned (iv c)/\K (iv c) b
theorem sK{a1 l1 c1 u1 w K}(h:og a1 l1 c1 u1 w K):CP 22 #[.slice a1 l1 c1,.agg u1.vs.toArray] w (K):=an (aH []) func22 (by kernel_rfl) (by kernel_rfl) h
def sL(a:OA)(b c d:Nat)(w:World)(K:KP):Prop:=av w (.cells z6.vs.toArray 42) λ e f=>Calls prog 194 #[.pointer (some ⟨d,0,none⟩)] f λ f g=>∃ h,f=.returned (iv h)/\cond (h !=0) (aP ⟨e,0,none⟩ 0 z6.vs g λ f=>∃ (h:I6),af f ⟨e,0,none⟩ 0 h.vs/\K (.agg h.vs.toArray) f) (Calls prog 78 #[.slice a b c] g λ f g=>∃ h,f=.returned (iv h)/\cond (h !=0) (Calls prog 187 #[.pointer (some ⟨d,0,none⟩),iv h] g λ f h=>f=.returned (.tuple #[])/\aP ⟨e,0,none⟩ 0 z6.vs h λ f=>∃ (h:I6),af f ⟨e,0,none⟩ 0 h.vs/\K (.agg h.vs.toArray) f) (av g (.cells z6.vs.toArray 42) λ f g=>Calls prog 190 #[.pointer (some ⟨d,0,none⟩),.string (bs [123])] g λ g h=>g=.returned (.tuple #[])/\Calls prog 192 #[.pointer (some ⟨d,0,none⟩),.string (bs [125])] h λ g h=>∃ i,g=.returned (.bool i)/\cond i (∃ (g:I6),af h ⟨f,0,none⟩ 0 g.vs/\aP ⟨e,0,none⟩ 0 g.vs h λ g=>∃ (i:I6),af g ⟨e,0,none⟩ 0 i.vs/\K (.agg i.vs.toArray) g) (∃ (g:I6),af h ⟨f,0,none⟩ 0 g.vs/\Calls prog 246 #[.slice a b c,.pointer (some ⟨d,0,none⟩),.agg g.vs.toArray] h λ g h=>∃ (i:I6),g=.returned (.agg i.vs.toArray)/\aP ⟨f,0,none⟩ 0 i.vs h λ g=>∃ h:World->Nat->Prop,(∃ i,h g i)/\∀ g i,h g i->∀ j:Nat->Value,Calls prog 192 #[.pointer (some ⟨d,0,none⟩),.string (bs [44])] g λ g j=>∃ k,g=.returned (.bool k)/\cond k (∃ (g:I6),af j ⟨f,0,none⟩ 0 g.vs/\Calls prog 246 #[.slice a b c,.pointer (some ⟨d,0,none⟩),.agg g.vs.toArray] j λ a b=>∃ (c:I6),a=.returned (.agg c.vs.toArray)/\aP ⟨f,0,none⟩ 0 c.vs b λ a=>∃ b,b<i/\h a b) (Calls prog 190 #[.pointer (some ⟨d,0,none⟩),.string (bs [125])] j λ a b=>a=.returned (.tuple #[])/\Calls prog 194 #[.pointer (some ⟨d,0,none⟩)] b λ a b=>∃ c,a=.returned (iv c)/\cond (c !=0) (aP ⟨e,0,none⟩ 0 z6.vs b λ a=>∃ (c:I6),af a ⟨e,0,none⟩ 0 c.vs/\K (.agg c.vs.toArray) a) (∃ (a:I6),af b ⟨f,0,none⟩ 0 a.vs/\aP ⟨e,0,none⟩ 0 a.vs b λ a=>∃ (b:I6),af a ⟨e,0,none⟩ 0 b.vs/\K (.agg b.vs.toArray) a)))))
theorem wC{a1 l1 c1 b1 w K}(h:sL a1 l1 c1 b1 w K):CP 221 #[.slice a1 l1 c1,.pointer (some ⟨b1,0,none⟩)] w (K):=an (aH [(1020,[])]) func221 (by kernel_rfl) (by kernel_rfl) h
def kK(a:ByteArray)(b c d e:Int)(w:World)(K:KP):Prop:=av w (.cells #[.string a,iv b,iv c,iv d,iv e] 121) λ a b=>∃ c,b.cell? ⟨a,3,none⟩=some (iv c)/\K (iv c) b
theorem qo{s1 n1 n2 n3 n4 w K}(h:kK s1 n1 n2 n3 n4 w K):CP 51 #[.agg #[.string s1,iv n1,iv n2,iv n3,iv n4]] w (K):=an (aH []) func51 (by kernel_rfl) (by kernel_rfl) h
def mU(a:OA)(b c d:Nat)(e:I6)(w:World)(K:KP):Prop:=av w (.cells e.vs.toArray 42) λ e f=>av f (.cells z6.vs.toArray 42) λ f g=>Calls prog 259 #[.pointer (some ⟨d,0,none⟩)] g λ g h=>∃ i,g=.returned (.string i)/\Calls prog 194 #[.pointer (some ⟨d,0,none⟩)] h λ g h=>∃ j,g=.returned (iv j)/\cond (j !=0) (∃ (g:I6),af h ⟨e,0,none⟩ 0 g.vs/\aP ⟨f,0,none⟩ 0 g.vs h λ g=>∃ (j:I6),af g ⟨f,0,none⟩ 0 j.vs/\K (.agg j.vs.toArray) g) (Calls prog 100 #[.slice a b c,.string i] h λ a b=>∃ c g,a=.returned (.tuple #[iv c,.bool g])/\∃ a:World->Prop,(∀ h,a h->∀ i:Nat->Value,Calls prog 190 #[.pointer (some ⟨d,0,none⟩),.string (bs [58])] h λ h i=>h=.returned (.tuple #[])/\Calls prog 193 #[.pointer (some ⟨d,0,none⟩),iv 4] i λ h i=>∃ j,h=.returned (iv j)/\∃ h:World->Prop,(∀ k,h k->∀ l:Nat->Value,0<=c/\c<6/\aQ k (Addr.add ⟨e,0,none⟩ ((c).toNat*1)) (iv j) λ k=>∃ (l:I6),af k ⟨e,0,none⟩ 0 l.vs/\aP ⟨f,0,none⟩ 0 l.vs k λ k=>∃ (l:I6),af k ⟨f,0,none⟩ 0 l.vs/\K (.agg l.vs.toArray) k)/\cond (j==0) (Calls prog 187 #[.pointer (some ⟨d,0,none⟩),iv 4] i λ f j=>f=.returned (.tuple #[])/\h j) (h i))/\cond (!g) (Calls prog 187 #[.pointer (some ⟨d,0,none⟩),iv 6] b λ f g=>f=.returned (.tuple #[])/\a g) (0<=c/\c<6/\∃ f,b.cell? (Addr.add ⟨e,0,none⟩ ((c).toNat*1))=some (iv f)/\cond (f !=0) (Calls prog 187 #[.pointer (some ⟨d,0,none⟩),iv 7] b λ c d=>c=.returned (.tuple #[])/\a d) (a b)))
theorem rC{a1 l1 c1 b1 u1 w K}(h:mU a1 l1 c1 b1 u1 w K):CP 246 #[.slice a1 l1 c1,.pointer (some ⟨b1,0,none⟩),.agg u1.vs.toArray] w (K):=an (aH [(31,[]),(255,[])]) func246 (by kernel_rfl) (by kernel_rfl) h
end Go.Proofs.YtjpbdjhaajdepaaGreatDoor

import Derived.Test.YtpihmghnbplohaaGreatDoorProg
import Derived.KernelRfl
import Derived.Test.YtpihmghnbplohaaGreatDoorM02
import Derived.Test.YtpihmghnbplohaaGreatDoorM08
set_option linter.unusedVariables false
set_option maxRecDepth 100000
namespace Go.Proofs.YtpihmghnbplohaaGreatDoor
open Go Go.Vc Tryz
structure Br where
  nm:List UInt8
  cls:Int
  bud:Int
  pts:Int
def Br.cells(p:Br):List Value:=[sv p.nm,iv p.cls,iv p.bud,iv p.pts]
def Br.In(p:Br):Prop:=Go.Vc.In p.cls/\Go.Vc.In p.bud/\Go.Vc.In p.pts
def j7(w:World)(a:OA)(l:List Br):Prop:=∀ (i:Nat) (p:Br),l[i]? = some p->p.In/\∃ q,a=some q/\af w (q.add (i*4)) 0 p.cells
theorem j7.av{w w' : World}{a:OA}{l:List Br}(h:j7 w a l)(hc:az w w' []):j7 w' a l:=λ i p hp =>
  let ⟨h1,q,hq,h2⟩:=h i p hp
  ⟨h1,q,hq,br hc h2⟩
theorem j7.take{w:World}{a:OA}{l:List Br}(h:j7 w a l)(n:Nat):j7 w a (l.take n):=λ i p hp=>by
  rw[List.getElem?_take] at hp
  split at hp
  · exact h i p hp
  · cases hp
theorem Br.one(p:Br):∀ v∈p.cells,v.oneCell' = true:=by
  intro v hv; simp[Br.cells] at hv; rcases hv with rfl | rfl | rfl | rfl<;>rfl
theorem Rb{a:OA}{c:Nat}:(if c=0 then a else Option.map (λ x=>Addr.add x (0*4)) a)=a:=by
  split
  · rfl
  · cases a<;>simp[Addr.add]
theorem NU{w:World}{a:OA}{c:Nat}{l:List Br}(h:j7 w a l)(hl:l.length<=1000)(nm:List UInt8) :
    CP 220 #[.slice a l.length c,sv nm] w (λ r w'=>(∃ k:Int,r=.tuple #[iv k,.bool (l.any λ p=>p.nm==nm)])/\az w w' []):=by
  refine Ay ?_;unfold Fx;refine⟨λ n w1 m=>∃ k:Nat,n=k/\k<=l.length/\m=l.length-k/\(l.take k).any (λ p=>p.nm==nm)=false/\az w w1 [],⟨l.length,0,rfl,by omega,by omega,rfl,az.refl _ _⟩,?_⟩;rintro w1 m n ⟨k,rfl,hk,hm,ha,hc⟩ -
  by_cases hlt:(k:Int)<(l.length:Int)
  · have hx:l[k]? = some (l[k]'(by omega)):=gE (by omega);generalize l[k]'(by omega)=x at hx;obtain⟨_,q,rfl,hcl⟩:=(h.av hc) k x hx;refine cT (by simpa using hlt) ⟨by omega,by omega,_,_,_,_,hcl,aG ?_⟩;refine((St.start' hc).one.bI _ 159).aA 0 rfl x.cells rfl x.one λ w3 s3=>?_;refine⟨_,by rw[s3.ag 0 rfl]; rfl,?_⟩
    by_cases hn:x.nm=nm
    · exact cT (by rw[hn]; simp) ⟨⟨k,by rw[jr hx (by simpa using hn)]⟩,s3.av⟩
    · exact cF (by rw[ia,ia]; simpa using hn) ⟨l.length-(k+1),by omega,k+1,by rw[aC ⟨by omega,by omega⟩]; rfl,by omega,rfl,fV ha hx (by simpa using hn),s3.av⟩
  · refine cF (by simpa using hlt) ⟨⟨0,?_⟩,hc⟩;rw[List.take_of_length_le (by omega)] at ha;rw[ha]
def Bm(x:Br):Bool:=(decide (0<=x.cls)&&decide (x.cls<=4))&&((decide (0<=x.bud)&&decide (x.bud<=1000000))&&(decide (0<=x.pts)&&decide (x.pts<=24000)))
def wC(l:List Br)(i:Nat)(p:Br):Prop:=(eW p.nm&&Bm p)=true/\((l.take i).any λ q=>q.nm==p.nm)=false
structure Gh (l:List Br):Prop where
  l1:1<=l.length
  l2:l.length<=8
  good:∀ i p,l[i]? = some p->wC l i p
theorem oZ{x:Br}(hh : ¬ (0<=x.cls/\x.cls<=4/\0<=x.bud/\x.bud<=1000000/\0<=x.pts/\x.pts<=24000)):true = !Bm x:=by
  cases hr:Bm x with
  | false=>rfl
  | true =>
    exfalso; apply hh
    simp only[Bm,Bool.and_eq_true,decide_eq_true_eq] at hr;omega
def MD(l:List Br)(i:Nat)(p:Br):Int:=if eW p.nm=false then 5 else if ((l.take i).any λ q=>q.nm==p.nm) then 7 else if Bm p=false then 4 else 0
theorem CV{l:List Br}{i:Nat}{p:Br}(h:wC l i p):MD l i p=0:=by
  obtain⟨h1,h2⟩:=h;rw[Bool.and_eq_true] at h1;rw[MD,h1.1,h2,h1.2]; rfl
def Jg(l:List Br):Int:=if l.length=0 then 1 else if 8<l.length then 3 else eU (MD l) 0 l
theorem IL{w:World}{a:OA}{c:Nat}{l:List Br}(h:j7 w a l)(hcap:l.length<=c) :
    CP 175 #[.slice a l.length c] w ((A8 (Gh l) (Jg l) w)):=by
  refine Fs ?_;unfold G3
  by_cases h0:l.length=0
  · exact cT (by rw[h0]; rfl) (bg (by decide) (λ hp=>by have:=hp.l1; omega) (az.refl _ _) (by rw[Jg,if_pos h0]))
  refine cF (by simpa using h0) ?_;rcases Nat.lt_or_ge 8 l.length with h6 | h6
  · exact cT (dT (by omega)) (bg (by decide) (λ hp=>by have:=hp.l2; omega) (az.refl _ _) (by rw[Jg,if_neg h0,if_pos h6]))
  refine cF (dF (by omega)) ⟨λ n w1 m=>∃ k:Nat,n=k/\k<=l.length/\m=l.length-k/\(∀ i p,i<k->l[i]? = some p->wC l i p)/\az w w1 [],⟨l.length,0,rfl,by omega,by omega,λ i p hi=>by omega,az.refl _ _⟩,?_⟩;rintro w1 m n ⟨k,rfl,hk,hm,ha,hc⟩ -
  by_cases hlt:(k:Int)<(l.length:Int)
  · have hx:l[k]? = some (l[k]'(by omega)):=gE (by omega);generalize l[k]'(by omega)=x at hx;obtain⟨_,q,hq,hcl⟩:=(h.av hc) k x hx;have bad : ¬ wC l k x->¬ Gh l:=λ hb hp=>hb (hp.good k x hx);have bk:∀ {e:Int},e≠0->MD l k x=e->Jg l=e:=λ he h=>by
      have:=kE (f:=MD l) (n:=0) (λ i p hi hp=>by rw[Nat.zero_add]; exact CV (ha i p hi hp)) hx (by rw[Nat.zero_add,h]; exact he);rw[Nat.zero_add,h] at this;rw[Jg,if_neg h0,if_neg (by omega),this]
    refine cT (by simpa using hlt) ?_;rw[hq];refine⟨by omega,by omega,_,_,_,_,hcl,aG ?_⟩;refine((St.start' hc).one.bI _ 159).aA 0 rfl x.cells rfl x.one λ w3 s3=>?_;generalize hr1:w1.heap.size=r1 at s3 ⊢;have cx:∀ {w' : World},az w3 w' []->∀ (j:Nat) (v:Value),x.cells[j]? = some v->w'.cell? ⟨r1,j,none⟩=some v:=λ hc j v hv=>bT (by rw[s3.ag 0 rfl]; simpa using hv) hc;refine⟨_,cx (az.refl _ _) 0 _ rfl,aj (yb w3 x.nm) ?_⟩;rintro v w4 ⟨rfl,rfl⟩;refine⟨_,rfl,?_⟩
    cases hn:eW x.nm with
    | false=>exact cT rfl (bg (by decide) (bad λ hg=>by have:=hg.1; simp[hn] at this) s3.av (bk (by decide) (by rw[MD,hn]; rfl)))
    | true =>
      have d4:az w4 w4.drew []:=az.drew w4 [];refine cF rfl ⟨by omega,by omega,_,cx d4 0 _ rfl,?_⟩;rw[<- hq,Rb];have hf:=NU (c:=c-0) ((h.av (s3.av.trans d4 (by simp))).take k) (by rw[List.length_take]; omega) x.nm;rw[List.length_take,Nat.min_eq_left hk] at hf;refine aj hf ?_;rintro v w5 ⟨⟨kk,rfl⟩,c5⟩;have d5:az w4 w5 []:=d4.trans c5 (by simp);refine⟨_,_,rfl,?_⟩
      cases hany:((l.take k).any λ p=>p.nm==x.nm) with
      | true=>exact cT rfl (bg (by decide) (bad λ hg=>by have:=hg.2; rw[hany] at this; cases this) (s3.av.trans d5 (by simp)) (bk (by decide) (by rw[MD,hn,hany]; rfl)))
      | false =>
        refine cF rfl ⟨λ b w6=>w6=w5/\b = !Bm x,?_,?_⟩
        · rintro w6 b ⟨rfl,rfl⟩ -;have c7:=s3.av.trans d5 (by simp)
          cases hr:Bm x with
          | false=>exact cT rfl (bg (by decide) (bad λ hg=>by have:=hg.1; simp[hr] at this) c7 (bk (by decide) (by rw[MD,hn,hany,hr]; rfl)))
          | true =>
            refine cF rfl ⟨l.length-(k+1),by omega,k+1,by rw[aC ⟨by omega,by omega⟩]; rfl,by omega,rfl,λ i p hi hp=>?_,c7⟩;rcases Nat.lt_or_ge i k with h' | h'
            · exact ha i p h' hp
            · obtain rfl:i=k:=by omega
              rw[hx] at hp; cases hp;exact⟨by simp[hn,hr],hany⟩
        · refine⟨_,cx d5 1 _ rfl,?_⟩
          by_cases g1:x.cls<0
          · exact cT (dT g1) ⟨rfl,oZ (by omega)⟩
          refine cF (dF g1) ⟨_,cx d5 1 _ rfl,?_⟩
          by_cases g2:x.cls>4
          · exact cT (dT g2) ⟨rfl,oZ (by omega)⟩
          refine cF (dF g2) ⟨_,cx d5 2 _ rfl,?_⟩
          by_cases g3:x.bud<0
          · exact cT (dT g3) ⟨rfl,oZ (by omega)⟩
          refine cF (dF g3) ⟨_,cx d5 2 _ rfl,?_⟩
          by_cases g4:x.bud>1000000
          · exact cT (dT g4) ⟨rfl,oZ (by omega)⟩
          refine cF (dF g4) ⟨_,cx d5 3 _ rfl,?_⟩
          by_cases g5:x.pts<0
          · exact cT (dT g5) ⟨rfl,oZ (by omega)⟩
          refine cF (dF g5) ⟨_,cx d5 3 _ rfl,rfl,?_⟩
          by_cases g6:x.pts>24000
          · rw[dT g6]; exact oZ (by omega)
          · rw[dF g6];have:Bm x=true:=by simp only[Bm,Bool.and_eq_true,decide_eq_true_eq]; omega
            rw[this]; rfl
  · obtain rfl:k=l.length:=by omega
    exact cF (by simp) (o4 ⟨by omega,h6,λ i p hp=>ha i p (List.getElem?_eq_some_iff.1 hp).1 hp⟩ hc (by rw[Jg,if_neg h0,if_neg (by omega),gj λ i p hp=>by rw[Nat.zero_add]; exact CV (ha i p (List.getElem?_eq_some_iff.1 hp).1 hp)]))
structure T3 where
  a:Int
  b:Int
  c:Int
def T3.cells(p:T3):List Value:=[iv p.a,iv p.b,iv p.c]
def CH(w:World)(a:OA)(l:List T3):Prop:=∀ (i:Nat) (p:T3),l[i]? = some p->∃ q,a=some q/\af w (q.add (i*3)) 0 p.cells
theorem CH.av{w w' : World}{a:OA}{l:List T3}(h:CH w a l)(hc:az w w' []):CH w' a l:=λ i p hp =>
  let ⟨q,hq,h2⟩:=h i p hp
  ⟨q,hq,br hc h2⟩
theorem T3.one(p:T3):∀ v∈p.cells,v.oneCell' = true:=by
  intro v hv; simp[T3.cells] at hv; rcases hv with rfl | rfl | rfl<;>rfl
theorem slice3{a:OA}{c:Nat}:(if c=0 then a else Option.map (λ x=>Addr.add x (0*3)) a)=a:=by
  split
  · rfl
  · cases a<;>simp[Addr.add]
def zX(n:Nat)(x:T3):Bool:=(decide (-1<=x.a)&&decide (x.a<(n:Int)))&&((decide (0<=x.b)&&decide (x.b<=4))&&(decide (0<=x.c)&&decide (x.c<=24)))
def jM(x y:T3):Bool:=y.a==x.a&&y.b==x.b
def Gi(n:Nat)(l:List T3)(i:Nat)(p:T3):Prop:=zX n p=true/\((l.take i).any λ q=>jM p q)=false
structure A7 (n:Nat) (l:List T3):Prop where
  l1:l.length<=16
  good:∀ i p,l[i]? = some p->Gi n l i p
def MO(n:Nat)(l:List T3)(i:Nat)(x:T3):Int:=if (decide (-1<=x.a)&&decide (x.a<(n:Int)))=false then 6 else if ((decide (0<=x.b)&&decide (x.b<=4))&&(decide (0<=x.c)&&decide (x.c<=24)))=false then 4 else if ((l.take i).any λ q=>jM x q) then 7 else 0
theorem C8{n:Nat}{l:List T3}{i:Nat}{p:T3}(h:Gi n l i p):MO n l i p=0:=by
  obtain⟨h1,h2⟩:=h;unfold zX at h1;rw[Bool.and_eq_true] at h1;rw[MO,h1.1,h1.2,h2]; rfl
def JP(n:Nat)(l:List T3):Int:=if 16<l.length then 3 else eU (MO n l) 0 l
theorem ME{w:World}{a1 a2 a3 a4:OA}{l1 c1 l2 c2 c3 l4 c4:Nat}{l:List T3}(h:CH w a3 l)(hcap:l.length<=c3) :
    CP 176 #[.agg #[.slice a1 l1 c1,.slice a2 l2 c2,.slice a3 l.length c3,.slice a4 l4 c4]] w ((A8 (A7 l2 l) (JP l2 l) w)):=by
  refine yz ?_;unfold vm;refine aG ?_;have s1:=(St.start w).one.bI #[.slice a1 l1 c1,.slice a2 l2 c2,.slice a3 l.length c3,.slice a4 l4 c4] 100;generalize hw1:w.alloc _=w1 at s1 ⊢;generalize hr1:w.heap.size=r1 at s1 ⊢;have cb:∀ {w' : World},az w1 w' []->∀ (j:Nat) (v:Value),(#[.slice a1 l1 c1,.slice a2 l2 c2,.slice a3 l.length c3,.slice a4 l4 c4]:Array Value)[j]? = some v->w'.cell? ⟨r1,j,none⟩=some v:=λ hc j v hv=>bT (by rw[s1.ag 0 rfl]; exact hv) hc;have z1:az w1 w1 []:=az.refl _ _;refine⟨_,_,_,cb z1 2 _ rfl,?_⟩;rcases Nat.lt_or_ge 16 l.length with h6 | h6
  · exact cT (dT (by omega)) (bg (by decide) (λ hp=>by have:=hp.l1; omega) s1.av (by rw[JP,if_pos h6]))
  refine cF (dF (by omega)) ⟨_,_,_,cb z1 2 _ rfl,λ n w2 m=>∃ k:Nat,n=k/\k<=l.length/\m=l.length-k/\(∀ i p,i<k->l[i]? = some p->Gi l2 l i p)/\az w1 w2 [],⟨l.length,0,rfl,by omega,by omega,λ i p hi=>by omega,z1⟩,?_⟩;rintro w2 m n ⟨k,rfl,hk,hm,ha,hc⟩ -;have hcw:az w w2 []:=s1.av.trans hc (by simp)
  by_cases hlt:(k:Int)<(l.length:Int)
  · have hx:l[k]? = some (l[k]'(by omega)):=gE (by omega);generalize l[k]'(by omega)=x at hx;obtain⟨q,hq,hcl⟩:=(h.av hcw) k x hx;have bad : ¬ Gi l2 l k x->¬ A7 l2 l:=λ hb hp=>hb (hp.good k x hx);have bk:∀ {e:Int},e≠0->MO l2 l k x=e->JP l2 l=e:=λ he h=>by
      have:=kE (f:=MO l2 l) (n:=0) (λ i p hi hp=>by rw[Nat.zero_add]; exact C8 (ha i p hi hp)) hx (by rw[Nat.zero_add,h]; exact he);rw[Nat.zero_add,h] at this;rw[JP,if_neg (by omega),this]
    refine cT (by simpa using hlt) ?_;rw[hq];refine⟨by omega,by omega,_,_,_,hcl,aG ?_⟩;refine((St.start w2).one.bI _ 174).aA 0 rfl x.cells rfl x.one λ w4 s4=>?_;generalize hr2:w2.heap.size=r2 at s4 ⊢;have d4:az w1 w4 []:=hc.trans s4.av (by simp);have cw4:az w w4 []:=s1.av.trans d4 (by simp);have cx:∀ {w' : World},az w4 w' []->∀ (j:Nat) (v:Value),x.cells[j]? = some v->w'.cell? ⟨r2,j,none⟩=some v:=λ hc j v hv=>bT (by rw[s4.ag 0 rfl]; simpa using hv) hc;have z4:az w4 w4 []:=az.refl _ _;refine⟨λ b w5=>w5=w4/\b = !(decide (-1<=x.a)&&decide (x.a<(l2:Int))),?_,?_⟩
    · rintro w5 b ⟨rfl,rfl⟩ -
      cases g0:(decide (-1<=x.a)&&decide (x.a<(l2:Int))) with
      | false=>exact cT rfl (bg (by decide) (bad λ hg=>by have:=hg.1; unfold zX at this; rw[g0] at this; cases this) cw4 (bk (by decide) (by rw[MO,g0]; rfl)))
      | true =>
        refine cF rfl ⟨λ b w6=>w6=w5/\b = !((decide (0<=x.b)&&decide (x.b<=4))&&(decide (0<=x.c)&&decide (x.c<=24))),?_,?_⟩
        · rintro w6 b ⟨rfl,rfl⟩ -
          cases g1:((decide (0<=x.b)&&decide (x.b<=4))&&(decide (0<=x.c)&&decide (x.c<=24))) with
          | false=>exact cT rfl (bg (by decide) (bad λ hg=>by have:=hg.1; unfold zX at this; rw[g0,g1] at this; cases this) cw4 (bk (by decide) (by rw[MO,g0,g1]; rfl)))
          | true =>
            refine cF rfl ⟨_,_,_,cb d4 2 _ rfl,by omega,by omega,λ n w7 m=>∃ j:Nat,n=j/\j<=k/\m=k-j/\(l.take j).any (λ p=>jM x p)=false/\az w6 w7 [],⟨k,0,rfl,by omega,by omega,rfl,z4⟩,?_⟩;rintro w7 m7 n7 ⟨j,rfl,hj,hm7,hany,c7⟩ -
            by_cases hjk:(j:Int)<(k:Int)
            · have hy:l[j]? = some (l[j]'(by omega)):=gE (by omega);generalize l[j]'(by omega)=y at hy;obtain⟨q',hq',hcl'⟩:=(h.av (cw4.trans c7 (by simp))) j y hy;rw[hq] at hq'; cases hq';refine cT (by simpa using hjk) ?_;rw[slice3,hq];refine⟨by omega,by simpa using hjk,_,_,_,hcl',aG ?_⟩;refine((St.start' c7).one.bI _ 174).aA 0 rfl y.cells rfl y.one λ w9 s9=>?_;have cy:∀ (j:Nat) (v:Value),y.cells[j]? = some v->w9.cell? ⟨w7.heap.size,j,none⟩=some v:=λ j v hv=>by rw[s9.ag 0 rfl]; simpa using hv
              refine⟨λ b w10=>w10=w9/\b=jM x y,?_,_,cy 0 _ rfl,_,cx s9.av 0 _ rfl,?_⟩
              · rintro w10 b ⟨rfl,rfl⟩ -
                cases hs:jM x y with
                | true =>
                  have h2:(l.take k)[j]? = some y:=by rw[List.getElem?_take,if_pos (by omega)]; exact hy
                  have h3:=jr (p:=λ q=>jM x q) h2 hs;refine cT rfl (bg (by decide) (bad λ hg=>?_) (cw4.trans s9.av (by simp)) (bk (by decide) (by rw[MO,g0,g1,h3]; rfl)));have h1:=hg.2;rw[h3] at h1
                  cases h1
                | false=>exact cF rfl ⟨k-(j+1),by omega,j+1,by rw[aC ⟨by omega,by omega⟩]; rfl,by omega,rfl,fV hany hy hs,s9.av⟩
              · by_cases hA:y.a=x.a
                · refine cT (by simpa using hA) ⟨_,cy 1 _ rfl,_,cx s9.av 1 _ rfl,rfl,?_⟩;simp[jM,hA]
                · exact cF (by simpa using hA) ⟨rfl,by simp[jM,hA]⟩
            · obtain rfl:j=k:=by omega
              refine cF (by simp) ⟨l.length-(j+1),by omega,j+1,by rw[aC ⟨by omega,by omega⟩]; rfl,by omega,rfl,λ i p hi hp=>?_,d4.trans c7 (by simp)⟩;rcases Nat.lt_or_ge i j with h' | h'
              · exact ha i p h' hp
              · obtain rfl:i=j:=by omega
                rw[hx] at hp; cases hp;exact⟨by unfold zX; rw[g0,g1]; rfl,hany⟩
        · have no : ¬ (0<=x.b/\x.b<=4/\0<=x.c/\x.c<=24)->true = !((decide (0<=x.b)&&decide (x.b<=4))&&(decide (0<=x.c)&&decide (x.c<=24))):=λ hh=>by
            cases hr:((decide (0<=x.b)&&decide (x.b<=4))&&(decide (0<=x.c)&&decide (x.c<=24))) with
            | false=>rfl
            | true =>
              exfalso; apply hh
              simp only[Bool.and_eq_true,decide_eq_true_eq] at hr;omega
          refine⟨_,cx z4 1 _ rfl,?_⟩
          by_cases g1:x.b<0
          · exact cT (dT g1) ⟨rfl,no (by omega)⟩
          refine cF (dF g1) ⟨_,cx z4 1 _ rfl,?_⟩
          by_cases g2:x.b>4
          · exact cT (dT g2) ⟨rfl,no (by omega)⟩
          refine cF (dF g2) ⟨_,cx z4 2 _ rfl,?_⟩
          by_cases g3:x.c<0
          · exact cT (dT g3) ⟨rfl,no (by omega)⟩
          refine cF (dF g3) ⟨_,cx z4 2 _ rfl,rfl,?_⟩
          by_cases g4:x.c>24
          · rw[dT g4]; exact no (by omega)
          · rw[dF g4,dT (show 0<=x.b by omega),dT (show x.b<=4 by omega),dT (show 0<=x.c by omega),dT (show x.c<=24 by omega)];rfl
    · refine⟨_,cx z4 0 _ rfl,?_⟩
      by_cases g1:x.a < -1
      · exact cT (dT g1) ⟨rfl,by rw[dF (show ¬ -1<=x.a by omega)]; rfl⟩
      · refine cF (dF g1) ⟨_,cx z4 0 _ rfl,_,_,_,cb d4 1 _ rfl,rfl,?_⟩;rw[dT (show -1<=x.a by omega),Bool.true_and]
        by_cases g2:x.a<(l2:Int)
        · rw[dT g2,dF (by omega)]; rfl
        · rw[dF g2,dT (by omega)]; rfl
  · obtain rfl:k=l.length:=by omega
    exact cF (by simp) (o4 ⟨h6,λ i p hp=>ha i p (List.getElem?_eq_some_iff.1 hp).1 hp⟩ hcw (by rw[JP,if_neg (by omega),gj λ i p hp=>by rw[Nat.zero_add]; exact C8 (ha i p (List.getElem?_eq_some_iff.1 hp).1 hp)]))
def EO(ps:List Pr)(x:T3):Bool:=(decide (0<=x.a)&&decide (x.a<(ps.length:Int)))&&((decide (1<=x.b)&&decide (x.b<=4))&&(decide (1<=x.c)&&decide (x.c<=((ps[x.a.toNat]?.map Pr.sup).getD 0))))
def sameAs(x y:T3):Bool:=y.a==x.a
def Gg(ps:List Pr)(l:List T3)(i:Nat)(p:T3):Prop:=EO ps p=true/\((l.take i).any λ q=>sameAs p q)=false
structure j6 (ps:List Pr) (l:List T3):Prop where
  l1:l.length<=6
  good:∀ i p,l[i]? = some p->Gg ps l i p
def N1(ps:List Pr)(l:List T3)(i:Nat)(x:T3):Int:=if (decide (0<=x.a)&&decide (x.a<(ps.length:Int)))=false then 6 else if ((decide (1<=x.b)&&decide (x.b<=4))&&(decide (1<=x.c)&&decide (x.c<=((ps[x.a.toNat]?.map Pr.sup).getD 0))))=false then 4 else if ((l.take i).any λ q=>sameAs x q) then 7 else 0
theorem Ed{ps:List Pr}{l:List T3}{i:Nat}{p:T3}(h:Gg ps l i p):N1 ps l i p=0:=by
  obtain⟨h1,h2⟩:=h;unfold EO at h1;rw[Bool.and_eq_true] at h1;rw[N1,h1.1,h1.2,h2]; rfl
def Og(ps:List Pr)(l:List T3):Int:=if 6<l.length then 3 else eU (N1 ps l) 0 l
theorem HR{w:World}{a1 a2 a3 a4:OA}{c1 l2 c2 l3 c3 c4:Nat}{ps:List Pr}{l:List T3}(hP:dL w a1 ps)(h:CH w a4 l)(hcap:l.length<=c4) :
    CP 177 #[.agg #[.slice a1 ps.length c1,.slice a2 l2 c2,.slice a3 l3 c3,.slice a4 l.length c4]] w ((A8 (j6 ps l) (Og ps l) w)):=by
  refine uo ?_;unfold qm;refine aG ?_;have s1:=(St.start w).one.bI #[.slice a1 ps.length c1,.slice a2 l2 c2,.slice a3 l3 c3,.slice a4 l.length c4] 100;generalize hw1:w.alloc _=w1 at s1 ⊢;generalize hr1:w.heap.size=r1 at s1 ⊢;have cb:∀ {w' : World},az w1 w' []->∀ (j:Nat) (v:Value),(#[.slice a1 ps.length c1,.slice a2 l2 c2,.slice a3 l3 c3,.slice a4 l.length c4]:Array Value)[j]? = some v->w'.cell? ⟨r1,j,none⟩=some v:=λ hc j v hv=>bT (by rw[s1.ag 0 rfl]; exact hv) hc;have z1:az w1 w1 []:=az.refl _ _;refine⟨_,_,_,cb z1 3 _ rfl,?_⟩;rcases Nat.lt_or_ge 6 l.length with h6 | h6
  · exact cT (dT (by omega)) (bg (by decide) (λ hp=>by have:=hp.l1; omega) s1.av (by rw[Og,if_pos h6]))
  refine cF (dF (by omega)) ⟨_,_,_,cb z1 3 _ rfl,λ n w2 m=>∃ k:Nat,n=k/\k<=l.length/\m=l.length-k/\(∀ i p,i<k->l[i]? = some p->Gg ps l i p)/\az w1 w2 [],⟨l.length,0,rfl,by omega,by omega,λ i p hi=>by omega,z1⟩,?_⟩;rintro w2 m n ⟨k,rfl,hk,hm,ha,hc⟩ -;have hcw:az w w2 []:=s1.av.trans hc (by simp)
  by_cases hlt:(k:Int)<(l.length:Int)
  · have hx:l[k]? = some (l[k]'(by omega)):=gE (by omega);generalize l[k]'(by omega)=x at hx;obtain⟨q,hq,hcl⟩:=(h.av hcw) k x hx;have bad : ¬ Gg ps l k x->¬ j6 ps l:=λ hb hp=>hb (hp.good k x hx);have bk:∀ {e:Int},e≠0->N1 ps l k x=e->Og ps l=e:=λ he h=>by
      have:=kE (f:=N1 ps l) (n:=0) (λ i p hi hp=>by rw[Nat.zero_add]; exact Ed (ha i p hi hp)) hx (by rw[Nat.zero_add,h]; exact he);rw[Nat.zero_add,h] at this;rw[Og,if_neg (by omega),this]
    refine cT (by simpa using hlt) ?_;rw[hq];refine⟨by omega,by omega,_,_,_,hcl,aG ?_⟩;refine((St.start w2).one.bI _ 177).aA 0 rfl x.cells rfl x.one λ w4 s4=>?_;generalize hr2:w2.heap.size=r2 at s4 ⊢;have d4:az w1 w4 []:=hc.trans s4.av (by simp);have cw4:az w w4 []:=s1.av.trans d4 (by simp);have cx:∀ {w' : World},az w4 w' []->∀ (j:Nat) (v:Value),x.cells[j]? = some v->w'.cell? ⟨r2,j,none⟩=some v:=λ hc j v hv=>bT (by rw[s4.ag 0 rfl]; simpa using hv) hc;have z4:az w4 w4 []:=az.refl _ _;refine⟨λ b w5=>w5=w4/\b = !(decide (0<=x.a)&&decide (x.a<(ps.length:Int))),?_,?_⟩
    · rintro w5 b ⟨rfl,rfl⟩ -
      cases g0:(decide (0<=x.a)&&decide (x.a<(ps.length:Int))) with
      | false=>exact cT rfl (bg (by decide) (bad λ hg=>by have:=hg.1; unfold EO at this; rw[g0] at this; cases this) cw4 (bk (by decide) (by rw[N1,g0]; rfl)))
      | true =>
        have d45:az w5 w5.drew []:=az.drew w5 [];refine cF rfl ⟨λ b w6=>w6=w5.drew/\b = !((decide (1<=x.b)&&decide (x.b<=4))&&(decide (1<=x.c)&&decide (x.c<=((ps[x.a.toNat]?.map Pr.sup).getD 0)))),?_,?_⟩
        · rintro w6 b ⟨rfl,rfl⟩ -
          cases g1:((decide (1<=x.b)&&decide (x.b<=4))&&(decide (1<=x.c)&&decide (x.c<=((ps[x.a.toNat]?.map Pr.sup).getD 0)))) with
          | false=>exact cT rfl (bg (by decide) (bad λ hg=>by have:=hg.1; unfold EO at this; rw[g0,g1] at this; cases this) (cw4.trans d45 (by simp)) (bk (by decide) (by rw[N1,g0,g1]; rfl)))
          | true =>
            refine cF rfl ⟨_,_,_,cb (d4.trans d45 (by simp)) 3 _ rfl,by omega,by omega,λ n w7 m=>∃ j:Nat,n=j/\j<=k/\m=k-j/\(l.take j).any (λ p=>sameAs x p)=false/\az w5 w7 [],⟨k,0,rfl,by omega,by omega,rfl,d45⟩,?_⟩;rintro w7 m7 n7 ⟨j,rfl,hj,hm7,hany,c7⟩ -
            by_cases hjk:(j:Int)<(k:Int)
            · have hy:l[j]? = some (l[j]'(by omega)):=gE (by omega);generalize l[j]'(by omega)=y at hy;obtain⟨q',hq',hcl'⟩:=(h.av (cw4.trans c7 (by simp))) j y hy;rw[hq] at hq'; cases hq';refine cT (by simpa using hjk) ?_;rw[slice3,hq];refine⟨by omega,by simpa using hjk,_,_,_,hcl',aG ?_⟩;refine((St.start' c7).one.bI _ 177).aA 0 rfl y.cells rfl y.one λ w9 s9=>?_;have cy:∀ (j:Nat) (v:Value),y.cells[j]? = some v->w9.cell? ⟨w7.heap.size,j,none⟩=some v:=λ j v hv=>by rw[s9.ag 0 rfl]; simpa using hv
              refine⟨_,cy 0 _ rfl,_,cx s9.av 0 _ rfl,?_⟩
              by_cases hA:y.a=x.a
              · have h2:(l.take k)[j]? = some y:=by rw[List.getElem?_take,if_pos (by omega)]; exact hy
                have h3:=jr (p:=λ q=>sameAs x q) h2 (by simpa[sameAs] using hA);refine cT (by simpa using hA) (bg (by decide) (bad λ hg=>?_) (cw4.trans s9.av (by simp)) (bk (by decide) (by rw[N1,g0,g1,h3]; rfl)));have h1:=hg.2;rw[h3] at h1
                cases h1
              · exact cF (by simpa using hA) ⟨k-(j+1),by omega,j+1,by rw[aC ⟨by omega,by omega⟩]; rfl,by omega,rfl,fV hany hy (by simpa[sameAs] using hA),s9.av⟩
            · obtain rfl:j=k:=by omega
              refine cF (by simp) ⟨l.length-(j+1),by omega,j+1,by rw[aC ⟨by omega,by omega⟩]; rfl,by omega,rfl,λ i p hi hp=>?_,d4.trans c7 (by simp)⟩;rcases Nat.lt_or_ge i j with h' | h'
              · exact ha i p h' hp
              · obtain rfl:i=j:=by omega
                rw[hx] at hp; cases hp;exact⟨by unfold EO; rw[g0,g1]; rfl,hany⟩
        · simp only[Bool.and_eq_true,decide_eq_true_eq] at g0;have hpx:ps[x.a.toNat]? = some (ps[x.a.toNat]'(by omega)):=gE (by omega);generalize ps[x.a.toNat]'(by omega)=y at hpx;rw[hpx,Option.map_some,Option.getD_some];have no : ¬ (1<=x.b/\x.b<=4/\1<=x.c/\x.c<=y.sup)->true = !((decide (1<=x.b)&&decide (x.b<=4))&&(decide (1<=x.c)&&decide (x.c<=y.sup))):=λ hh=>by
            cases hr:((decide (1<=x.b)&&decide (x.b<=4))&&(decide (1<=x.c)&&decide (x.c<=y.sup))) with
            | false=>rfl
            | true =>
              exfalso; apply hh
              simp only[Bool.and_eq_true,decide_eq_true_eq] at hr;omega
          refine⟨_,cx d45 1 _ rfl,?_⟩
          by_cases g1:x.b<1
          · exact cT (dT g1) ⟨rfl,no (by omega)⟩
          refine cF (dF g1) ⟨_,cx d45 1 _ rfl,?_⟩
          by_cases g2:x.b>4
          · exact cT (dT g2) ⟨rfl,no (by omega)⟩
          refine cF (dF g2) ⟨_,cx d45 2 _ rfl,?_⟩
          by_cases g3:x.c<1
          · exact cT (dT g3) ⟨rfl,no (by omega)⟩
          obtain⟨_,qp,hqp,hyc⟩:=(hP.av (cw4.trans d45 (by simp))) x.a.toNat y hpx;refine cF (dF g3) ⟨_,cx d45 2 _ rfl,_,_,_,cb (d4.trans d45 (by simp)) 0 _ rfl,_,cx d45 0 _ rfl,?_⟩;rw[hqp];refine⟨by omega,by omega,y.sup,hyc.2.1,rfl,?_⟩
          by_cases g4:x.c>y.sup
          · rw[dT g4]; exact no (by omega)
          · rw[dF g4,dT (show 1<=x.b by omega),dT (show x.b<=4 by omega),dT (show 1<=x.c by omega),dT (show x.c<=y.sup by omega)];rfl
    · refine⟨_,cx z4 0 _ rfl,?_⟩
      by_cases g1:x.a<0
      · exact cT (dT g1) ⟨rfl,by rw[dF (show ¬ 0<=x.a by omega)]; rfl⟩
      · refine cF (dF g1) ⟨_,cx z4 0 _ rfl,_,_,_,cb d4 0 _ rfl,rfl,?_⟩;rw[dT (show 0<=x.a by omega),Bool.true_and]
        by_cases g2:x.a<(ps.length:Int)
        · rw[dT g2,dF (by omega)]; rfl
        · rw[dF g2,dT (by omega)]; rfl
  · obtain rfl:k=l.length:=by omega
    exact cF (by simp) (o4 ⟨h6,λ i p hp=>ha i p (List.getElem?_eq_some_iff.1 hp).1 hp⟩ hcw (by rw[Og,if_neg (by omega),gj λ i p hp=>by rw[Nat.zero_add]; exact Ed (ha i p (List.getElem?_eq_some_iff.1 hp).1 hp)]))
structure Se where
  ps:List Pr
  bd:List Br
  cp:List T3
  sa:List T3
  a1:Option Addr
  c1:Nat
  a2:Option Addr
  c2:Nat
  a3:Option Addr
  c3:Nat
  a4:Option Addr
  c4:Nat
def Se.arr(s:Se):Array Value:=#[.slice s.a1 s.ps.length s.c1,.slice s.a2 s.bd.length s.c2,.slice s.a3 s.cp.length s.c3,.slice s.a4 s.sa.length s.c4]
structure Se.In (s:Se) (w:World):Prop where
  ps:dL w s.a1 s.ps
  bd:j7 w s.a2 s.bd
  cp:CH w s.a3 s.cp
  sa:CH w s.a4 s.sa
  h1:s.ps.length<=s.c1
  h2:s.bd.length<=s.c2
  h3:s.cp.length<=s.c3
  h4:s.sa.length<=s.c4
theorem Se.In.av{s:Se}{w w' : World}(h:s.In w)(hc:az w w' []):s.In w':=⟨h.ps.av hc,h.bd.av hc,h.cp.av hc,h.sa.av hc,h.h1,h.h2,h.h3,h.h4⟩
structure Se.Ok (s:Se):Prop where
  ps:cY s.ps
  bd:Gh s.bd
  cp:A7 s.bd.length s.cp
  sa:j6 s.ps s.sa
def FN(s:Se):Int:=if IJ s.ps≠0 then IJ s.ps else if Jg s.bd≠0 then Jg s.bd else if JP s.bd.length s.cp≠0 then JP s.bd.length s.cp else Og s.ps s.sa
theorem AM{w:World}{s:Se}(h:s.In w):CP 140 #[.agg s.arr] w ((A8 s.Ok (FN s) w)):=by
  refine Ft ?_;unfold G4;refine aG ?_;have s1:=(St.start w).one.bI #[.slice s.a1 s.ps.length s.c1,.slice s.a2 s.bd.length s.c2,.slice s.a3 s.cp.length s.c3,.slice s.a4 s.sa.length s.c4] 100;generalize hw1:w.alloc _=w1 at s1 ⊢;generalize hr1:w.heap.size=r1 at s1 ⊢;refine⟨_,_,_,by rw[s1.ag 0 rfl]; rfl,aj (zY (h.av s1.av).ps h.h1) ?_⟩;rintro v w2 ⟨⟨rfl,e1⟩,d2⟩;have s2:=s1.quiet d2;refine⟨_,rfl,?_⟩
  by_cases g1:IJ s.ps=0
  · refine cF (by simpa using g1) ⟨_,_,_,by rw[s2.ag 0 rfl]; rfl,aj (IL (h.av s2.av).bd h.h2) ?_⟩;rintro v w3 ⟨⟨rfl,e2⟩,d3⟩;have s3:=s2.quiet d3;refine⟨_,rfl,?_⟩
    by_cases g2:Jg s.bd=0
    · refine cF (by simpa using g2) ⟨_,_,_,_,_,_,_,_,_,_,_,_,s3.cellsIn 0 rfl,aj (ME (h.av s3.av).cp h.h3) ?_⟩;rintro v w4 ⟨⟨rfl,e3⟩,d4⟩;have s4:=s3.quiet d4;refine⟨_,rfl,?_⟩
      by_cases g3:JP s.bd.length s.cp=0
      · refine cF (by simpa using g3) ⟨_,_,_,_,_,_,_,_,_,_,_,_,s4.cellsIn 0 rfl,aj (HR (h.av s4.av).ps (h.av s4.av).sa h.h4) ?_⟩;rintro v w5 ⟨⟨rfl,e4⟩,d5⟩;have s5:=s4.quiet d5;have e0:FN s=Og s.ps s.sa:=by rw[FN,if_neg (λ h=>h g1),if_neg (λ h=>h g2),if_neg (λ h=>h g3)]
        exact⟨_,rfl,⟨by rw[e0],by rw[e0]; exact⟨λ h0=>⟨e1.1 g1,e2.1 g2,e3.1 g3,e4.1 h0⟩,λ hk=>e4.2 hk.sa⟩⟩,s5.av⟩
      · exact cT (by simpa using g3) (bg g3 (λ hk=>g3 (e3.2 hk.cp)) s4.av (by rw[FN,if_neg (λ h=>h g1),if_neg (λ h=>h g2),if_pos g3]))
    · exact cT (by simpa using g2) (bg g2 (λ hk=>g2 (e2.2 hk.bd)) s3.av (by rw[FN,if_neg (λ h=>h g1),if_pos g2]))
  · exact cT (by simpa using g1) (bg g1 (λ hk=>g1 (e1.2 hk.ps)) s2.av (by rw[FN,if_pos g1]))
theorem Eh{w:World}{s:Se}(h:s.In w):CP 140 #[.agg s.arr] w ((Pu s.Ok w)):=aj (AM h) λ _ _ h=>⟨_,rfl,h.old⟩
def qf(a:OA)(b c:Nat)(d:Int)(e:I6)(w:World)(K:KP):Prop:=ak w (.cells #[iv d] 3) λ d f=>ak f (.cells e.vs.toArray 41) λ e f=>∃ (g:I6),af f ⟨e,0,none⟩ 0 g.vs/\Calls prog 117 #[.agg (.slice a b c :: g.vs:List Value).toArray,.func (.func 266) #[] #[.pointer (some ⟨d,0,none⟩)]] f λ a b=>∃ c,a=.returned (iv c)/\K (iv c) b
theorem tS{a1 l1 c1 n1 u1 w K}(h:qf a1 l1 c1 n1 u1 w K):CP 225 #[.slice a1 l1 c1,iv n1,.agg u1.vs.toArray] w (K):=ah (ay []) func225 (by kernel_rfl) (by kernel_rfl) h
def jt(a:OA)(b c:Nat)(d:I6)(e:Value)(w:World)(K:KP):Prop:=ak w (.cells (.slice a b c :: d.vs:List Value).toArray 206) λ a b=>∃ c:Bool->World->Prop,(∀ d f,c f d->∀ g:Nat->Value,cond f (K (iv 0) d) (∃ f g h,d.cell? ⟨a,0,none⟩=some (.slice f g h)/\∃ h:Int->Int->World->Nat->Prop,(∃ i,h 0 (0:Int) d i)/\∀ d i j k,h j k d i->∀ l:Nat->Value,cond (decide (k<(g:Int))) (an f λ f=>0<=k/\k<(g:Int)/\∃ g l m n o,af d (Addr.add f ((k).toNat*5)) 0 [.string g,iv l,iv m,iv n,iv o]/\ak d (.cells #[.string (bs []),iv 0,iv 0,iv 0,iv 0] 170) λ f p=>aQ ⟨f,0,none⟩ 0 [.string g,iv l,iv m,iv n,iv o] p λ g=>0<=k/\k<6/\∃ l,g.drew.cell? (Addr.add ⟨a,1,none⟩ ((k).toNat*1))=some (iv l)/\∃ m n o p q,af g.drew ⟨f,0,none⟩ 0 [.string m,iv n,iv o,iv p,iv q]/\cC prog e #[.agg #[.string m,iv n,iv o,iv p,iv q]] g.drew λ e f=>∃ g,e=.returned (iv g)/\f.cell? (Addr.add ⟨a,1,none⟩ ((k).toNat*1))=some (iv l)/\∃ e,e<i/\h (IntKind.i64.wrap (j+(IntKind.i64.wrap (l*g)))) (IntKind.i64.wrap (k+1)) f e) (K (iv j) d)))/\∃ d e f,b.cell? ⟨a,0,none⟩=some (.slice d e f)/\Calls prog 137 #[.slice d e f] b λ b d=>∃ e,b=.returned (iv e)/\cond (e !=0) (c true d) (∃ (b:I6),af d ⟨a,1,none⟩ 0 b.vs/\Calls prog 86 #[.agg b.vs.toArray] d λ a b=>∃ d,a=.returned (iv d)/\c (d !=0) b)
theorem nE{a1 l1 c1 u1 v1 w K}(h:jt a1 l1 c1 u1 v1 w K):CP 117 #[.agg (.slice a1 l1 c1 :: u1.vs:List Value).toArray,v1] w (K):=ah (ay [(6,[(17,.s .bool)]),(122,[(5,.s (.int .i64)),(21,.s (.int .i64))])]) func117 (by kernel_rfl) (by kernel_rfl) h
def mj(a:ByteArray)(b c d e:Int)(f:Nat)(w:World)(K:KP):Prop:=ak w (.cells #[.string a,iv b,iv c,iv d,iv e] 170) λ a b=>∃ c,b.cell? ⟨a,4,none⟩=some (iv c)/\∃ a,b.cell? ⟨f,0,none⟩=some (iv a)/\cond (c==a) (K (iv 1) b) (K (iv 0) b)
theorem qE{s1 n1 n2 n3 n4 b1 w K}(h:mj s1 n1 n2 n3 n4 b1 w K):CP 266 #[.agg #[.string s1,iv n1,iv n2,iv n3,iv n4],.pointer (some ⟨b1,0,none⟩)] w (K):=ah (ay []) func266 (by kernel_rfl) (by kernel_rfl) h
def nD(a:OA)(b c:Nat)(d:I6)(w:World)(K:KP):Prop:=ak w (.cells d.vs.toArray 41) λ d e=>∃ (f:I6),af e ⟨d,0,none⟩ 0 f.vs/\Calls prog 117 #[.agg (.slice a b c :: f.vs:List Value).toArray,.func (.func 118) #[] #[]] e λ a b=>∃ c,a=.returned (iv c)/\K (iv c) b
theorem rG{a1 l1 c1 u1 w K}(h:nD a1 l1 c1 u1 w K):CP 75 #[.slice a1 l1 c1,.agg u1.vs.toArray] w (K):=ah (ay []) func75 (by kernel_rfl) (by kernel_rfl) h
def rH(a:OA)(b c d:Nat)(w:World)(K:KP):Prop:=ak w (.cells z6.vs.toArray 41) λ e f=>Calls prog 241 #[.pointer (some ⟨d,0,none⟩)] f λ f g=>∃ h,f=.returned (iv h)/\cond (h !=0) (aQ ⟨e,0,none⟩ 0 z6.vs g λ f=>∃ (h:I6),af f ⟨e,0,none⟩ 0 h.vs/\K (.agg h.vs.toArray) f) (Calls prog 137 #[.slice a b c] g λ f g=>∃ h,f=.returned (iv h)/\cond (h !=0) (Calls prog 234 #[.pointer (some ⟨d,0,none⟩),iv h] g λ f h=>f=.returned (.tuple #[])/\aQ ⟨e,0,none⟩ 0 z6.vs h λ f=>∃ (h:I6),af f ⟨e,0,none⟩ 0 h.vs/\K (.agg h.vs.toArray) f) (ak g (.cells z6.vs.toArray 41) λ f g=>Calls prog 237 #[.pointer (some ⟨d,0,none⟩),.string (bs [123])] g λ g h=>g=.returned (.tuple #[])/\Calls prog 239 #[.pointer (some ⟨d,0,none⟩),.string (bs [125])] h λ g h=>∃ i,g=.returned (.bool i)/\cond i (∃ (g:I6),af h ⟨f,0,none⟩ 0 g.vs/\aQ ⟨e,0,none⟩ 0 g.vs h λ g=>∃ (i:I6),af g ⟨e,0,none⟩ 0 i.vs/\K (.agg i.vs.toArray) g) (∃ (g:I6),af h ⟨f,0,none⟩ 0 g.vs/\Calls prog 297 #[.slice a b c,.pointer (some ⟨d,0,none⟩),.agg g.vs.toArray] h λ g h=>∃ (i:I6),g=.returned (.agg i.vs.toArray)/\aQ ⟨f,0,none⟩ 0 i.vs h λ g=>∃ h:World->Nat->Prop,(∃ i,h g i)/\∀ g i,h g i->∀ j:Nat->Value,Calls prog 239 #[.pointer (some ⟨d,0,none⟩),.string (bs [44])] g λ g j=>∃ k,g=.returned (.bool k)/\cond k (∃ (g:I6),af j ⟨f,0,none⟩ 0 g.vs/\Calls prog 297 #[.slice a b c,.pointer (some ⟨d,0,none⟩),.agg g.vs.toArray] j λ a b=>∃ (c:I6),a=.returned (.agg c.vs.toArray)/\aQ ⟨f,0,none⟩ 0 c.vs b λ a=>∃ b,b<i/\h a b) (Calls prog 237 #[.pointer (some ⟨d,0,none⟩),.string (bs [125])] j λ a b=>a=.returned (.tuple #[])/\Calls prog 241 #[.pointer (some ⟨d,0,none⟩)] b λ a b=>∃ c,a=.returned (iv c)/\cond (c !=0) (aQ ⟨e,0,none⟩ 0 z6.vs b λ a=>∃ (c:I6),af a ⟨e,0,none⟩ 0 c.vs/\K (.agg c.vs.toArray) a) (∃ (a:I6),af b ⟨f,0,none⟩ 0 a.vs/\aQ ⟨e,0,none⟩ 0 a.vs b λ a=>∃ (b:I6),af a ⟨e,0,none⟩ 0 b.vs/\K (.agg b.vs.toArray) a)))))
theorem vH{a1 l1 c1 b1 w K}(h:rH a1 l1 c1 b1 w K):CP 272 #[.slice a1 l1 c1,.pointer (some ⟨b1,0,none⟩)] w (K):=ah (ay [(1020,[])]) func272 (by kernel_rfl) (by kernel_rfl) h
def kg(a:ByteArray)(b c d e:Int)(w:World)(K:KP):Prop:=ak w (.cells #[.string a,iv b,iv c,iv d,iv e] 170) λ a b=>∃ c,b.cell? ⟨a,3,none⟩=some (iv c)/\K (iv c) b
theorem pK{s1 n1 n2 n3 n4 w K}(h:kg s1 n1 n2 n3 n4 w K):CP 118 #[.agg #[.string s1,iv n1,iv n2,iv n3,iv n4]] w (K):=ah (ay []) func118 (by kernel_rfl) (by kernel_rfl) h
def mq(a:OA)(b c d:Nat)(e:I6)(w:World)(K:KP):Prop:=ak w (.cells e.vs.toArray 41) λ e f=>ak f (.cells z6.vs.toArray 41) λ f g=>Calls prog 310 #[.pointer (some ⟨d,0,none⟩)] g λ g h=>∃ i,g=.returned (.string i)/\Calls prog 241 #[.pointer (some ⟨d,0,none⟩)] h λ g h=>∃ j,g=.returned (iv j)/\cond (j !=0) (∃ (g:I6),af h ⟨e,0,none⟩ 0 g.vs/\aQ ⟨f,0,none⟩ 0 g.vs h λ g=>∃ (j:I6),af g ⟨f,0,none⟩ 0 j.vs/\K (.agg j.vs.toArray) g) (Calls prog 168 #[.slice a b c,.string i] h λ a b=>∃ c g,a=.returned (.tuple #[iv c,.bool g])/\∃ a:World->Prop,(∀ h,a h->∀ i:Nat->Value,Calls prog 237 #[.pointer (some ⟨d,0,none⟩),.string (bs [58])] h λ h i=>h=.returned (.tuple #[])/\Calls prog 240 #[.pointer (some ⟨d,0,none⟩),iv 4] i λ h i=>∃ j,h=.returned (iv j)/\∃ h:World->Prop,(∀ k,h k->∀ l:Nat->Value,0<=c/\c<6/\aN k (Addr.add ⟨e,0,none⟩ ((c).toNat*1)) (iv j) λ k=>∃ (l:I6),af k ⟨e,0,none⟩ 0 l.vs/\aQ ⟨f,0,none⟩ 0 l.vs k λ k=>∃ (l:I6),af k ⟨f,0,none⟩ 0 l.vs/\K (.agg l.vs.toArray) k)/\cond (j==0) (Calls prog 234 #[.pointer (some ⟨d,0,none⟩),iv 4] i λ f j=>f=.returned (.tuple #[])/\h j) (h i))/\cond (!g) (Calls prog 234 #[.pointer (some ⟨d,0,none⟩),iv 6] b λ f g=>f=.returned (.tuple #[])/\a g) (0<=c/\c<6/\∃ f,b.cell? (Addr.add ⟨e,0,none⟩ ((c).toNat*1))=some (iv f)/\cond (f !=0) (Calls prog 234 #[.pointer (some ⟨d,0,none⟩),iv 7] b λ c d=>c=.returned (.tuple #[])/\a d) (a b)))
theorem qF{a1 l1 c1 b1 u1 w K}(h:mq a1 l1 c1 b1 u1 w K):CP 297 #[.slice a1 l1 c1,.pointer (some ⟨b1,0,none⟩),.agg u1.vs.toArray] w (K):=ah (ay [(31,[]),(255,[])]) func297 (by kernel_rfl) (by kernel_rfl) h
end Go.Proofs.YtpihmghnbplohaaGreatDoor

import Derived.Test.YtemiicbbbojdiaaGreatDoorProg
import Derived.KernelRfl
import Derived.Maps.RangeRun
import Derived.Test.YtemiicbbbojdiaaGreatDoorTie
import Derived.Test.YtemiicbbbojdiaaGreatDoorCards
import Derived.DataReads
import Derived.ProofKit
import Derived.OpenShut
import Derived.ChangeOld
import Derived.ChangeSlices
import Derived.Below
import Derived.Lay
import Derived.Lib.SmallJoins
import Derived.Lib.LaidTab
import Derived.ChangeSame
import Derived.ChangeVars
import Derived.JoinedOf
import Derived.LaidLaws
import Derived.LaidHandle
import Derived.Stop.Joined
import Derived.Stop.LaidErr
import Derived.SevenTiedAt
import Derived.Lib.AtoiBound
import Derived.Lib.ItoaLen
import Derived.Test.YtemiicbbbojdiaaGreatDoorT01
import Derived.Test.YtemiicbbbojdiaaGreatDoorT02
set_option linter.unusedVariables false
set_option maxRecDepth 100000
namespace Go.Proofs.YtemiicbbbojdiaaGreatDoor
open Go Go.Vc _root_.Go.Proofs.Tryz
def lu(ps:List Pr)(x:T3):Bool:=(decide (0<=x.a)&&decide (x.a<(ps.length:Int)))&&((decide (1<=x.b)&&decide (x.b<=4))&&(decide (1<=x.c)&&decide (x.c<=((ps[x.a.toNat]?.map Pr.sup).getD 0))))
def sameAs(x y:T3):Bool:=y.a==x.a
def jo(ps:List Pr)(l:List T3)(i:Nat)(p:T3):Prop:=lu ps p=true/\((l.take i).any λ q=>sameAs p q)=false
structure gX (ps:List Pr) (l:List T3):Prop where
  l1:l.length<=6
  good:∀ i p,l[i]? = some p->jo ps l i p
def vA(ps:List Pr)(l:List T3)(i:Nat)(x:T3):Int:=if (decide (0<=x.a)&&decide (x.a<(ps.length:Int)))=false then 6 else if ((decide (1<=x.b)&&decide (x.b<=4))&&(decide (1<=x.c)&&decide (x.c<=((ps[x.a.toNat]?.map Pr.sup).getD 0))))=false then 4 else if ((l.take i).any λ q=>sameAs x q) then 7 else 0
theorem mR{ps:List Pr}{l:List T3}{i:Nat}{p:T3}(h:jo ps l i p):vA ps l i p=0:=by
  obtain⟨h1,h2⟩:=h;unfold lu at h1;rw[Bool.and_eq_true] at h1;rw[vA,h1.1,h1.2,h2]; rfl
def wV(ps:List Pr)(l:List T3):Int:=if 6<l.length then 3 else cX (vA ps l) 0 l
theorem pI{w:World}{a1 a2 a3 a4:OA}{c1 l2 c2 l3 c3 c4:Nat}{ps:List Pr}{l:List T3}(hP:ff w a1 ps)(h:vI w a4 l)(hcap:l.length<=c4) :
    CP 82 #[.agg #[.slice a1 ps.length c1,.slice a2 l2 c2,.slice a3 l3 c3,.slice a4 l.length c4]] w ((jP (gX ps l) (wV ps l) w)):=by
  refine gq ?_;unfold fk;refine aE ?_;have s1:=(St.start w).one.cr #[.slice a1 ps.length c1,.slice a2 l2 c2,.slice a3 l3 c3,.slice a4 l.length c4] 34;generalize hw1:w.alloc _=w1 at s1 ⊢;generalize hr1:w.heap.size=r1 at s1 ⊢;have cb:∀ {w' : World},an w1 w' []->∀ (j:Nat) (v:Value),(#[.slice a1 ps.length c1,.slice a2 l2 c2,.slice a3 l3 c3,.slice a4 l.length c4]:Array Value)[j]? = some v->w'.cell? ⟨r1,j,none⟩=some v:=λ hc j v hv=>bG (by rw[s1.af 0 rfl]; exact hv) hc;have z1:an w1 w1 []:=an.refl _ _;refine⟨_,_,_,cb z1 3 _ rfl,?_⟩;rcases Nat.lt_or_ge 6 l.length with h6 | h6
  · exact cT (dT (by omega)) (aC (by decide) (λ hp=>by have:=hp.l1; omega) s1.au (by rw[wV,if_pos h6]))
  refine cF (dF (by omega)) ⟨_,_,_,cb z1 3 _ rfl,λ n w2 m=>∃ k:Nat,n=k/\k<=l.length/\m=l.length-k/\(∀ i p,i<k->l[i]? = some p->jo ps l i p)/\an w1 w2 [],⟨l.length,0,rfl,by omega,by omega,λ i p hi=>by omega,z1⟩,?_⟩;rintro w2 m n ⟨k,rfl,hk,hm,ha,hc⟩ -;have hcw:an w w2 []:=s1.au.trans hc (by simp)
  by_cases hlt:(k:Int)<(l.length:Int)
  · have hx:l[k]? = some (l[k]'(by omega)):=gE (by omega);generalize l[k]'(by omega)=x at hx;obtain⟨q,hq,hcl⟩:=(h.au hcw) k x hx;have bad : ¬ jo ps l k x->¬ gX ps l:=λ hb hp=>hb (hp.good k x hx);have bk:∀ {e:Int},e≠0->vA ps l k x=e->wV ps l=e:=λ he h=>by
      have:=dG (f:=vA ps l) (n:=0) (λ i p hi hp=>by rw[Nat.zero_add]; exact mR (ha i p hi hp)) hx (by rw[Nat.zero_add,h]; exact he);rw[Nat.zero_add,h] at this;rw[wV,if_neg (by omega),this]
    refine cT (by simpa using hlt) ?_;rw[hq];refine⟨by omega,by omega,_,_,_,hcl,aE ?_⟩;refine((St.start w2).one.cr _ 98).bP 0 rfl x.cells rfl x.one λ w4 s4=>?_;generalize hr2:w2.heap.size=r2 at s4 ⊢;have d4:an w1 w4 []:=hc.trans s4.au (by simp);have cw4:an w w4 []:=s1.au.trans d4 (by simp);have cx:∀ {w' : World},an w4 w' []->∀ (j:Nat) (v:Value),x.cells[j]? = some v->w'.cell? ⟨r2,j,none⟩=some v:=λ hc j v hv=>bG (by rw[s4.af 0 rfl]; simpa using hv) hc;have z4:an w4 w4 []:=an.refl _ _;refine⟨λ b w5=>w5=w4/\b = !(decide (0<=x.a)&&decide (x.a<(ps.length:Int))),?_,?_⟩
    · rintro w5 b ⟨rfl,rfl⟩ -
      cases g0:(decide (0<=x.a)&&decide (x.a<(ps.length:Int))) with
      | false=>exact cT rfl (aC (by decide) (bad λ hg=>by have:=hg.1; unfold lu at this; rw[g0] at this; cases this) cw4 (bk (by decide) (by rw[vA,g0]; rfl)))
      | true =>
        have d45:an w5 w5.drew []:=an.drew w5 [];refine cF rfl ⟨λ b w6=>w6=w5.drew/\b = !((decide (1<=x.b)&&decide (x.b<=4))&&(decide (1<=x.c)&&decide (x.c<=((ps[x.a.toNat]?.map Pr.sup).getD 0)))),?_,?_⟩
        · rintro w6 b ⟨rfl,rfl⟩ -
          cases g1:((decide (1<=x.b)&&decide (x.b<=4))&&(decide (1<=x.c)&&decide (x.c<=((ps[x.a.toNat]?.map Pr.sup).getD 0)))) with
          | false=>exact cT rfl (aC (by decide) (bad λ hg=>by have:=hg.1; unfold lu at this; rw[g0,g1] at this; cases this) (cw4.trans d45 (by simp)) (bk (by decide) (by rw[vA,g0,g1]; rfl)))
          | true =>
            refine cF rfl ⟨_,_,_,cb (d4.trans d45 (by simp)) 3 _ rfl,by omega,by omega,λ n w7 m=>∃ j:Nat,n=j/\j<=k/\m=k-j/\(l.take j).any (λ p=>sameAs x p)=false/\an w5 w7 [],⟨k,0,rfl,by omega,by omega,rfl,d45⟩,?_⟩;rintro w7 m7 n7 ⟨j,rfl,hj,hm7,hany,c7⟩ -
            by_cases hjk:(j:Int)<(k:Int)
            · have hy:l[j]? = some (l[j]'(by omega)):=gE (by omega);generalize l[j]'(by omega)=y at hy;obtain⟨q',hq',hcl'⟩:=(h.au (cw4.trans c7 (by simp))) j y hy;rw[hq] at hq'; cases hq';refine cT (by simpa using hjk) ?_;rw[slice3,hq];refine⟨by omega,by simpa using hjk,_,_,_,hcl',aE ?_⟩;refine((St.start' c7).one.cr _ 98).bP 0 rfl y.cells rfl y.one λ w9 s9=>?_;have cy:∀ (j:Nat) (v:Value),y.cells[j]? = some v->w9.cell? ⟨w7.heap.size,j,none⟩=some v:=λ j v hv=>by rw[s9.af 0 rfl]; simpa using hv
              refine⟨_,cy 0 _ rfl,_,cx s9.au 0 _ rfl,?_⟩
              by_cases hA:y.a=x.a
              · have h2:(l.take k)[j]? = some y:=by rw[List.getElem?_take,if_pos (by omega)]; exact hy
                have h3:=de (p:=λ q=>sameAs x q) h2 (by simpa[sameAs] using hA);refine cT (by simpa using hA) (aC (by decide) (bad λ hg=>?_) (cw4.trans s9.au (by simp)) (bk (by decide) (by rw[vA,g0,g1,h3]; rfl)));have h1:=hg.2;rw[h3] at h1
                cases h1
              · exact cF (by simpa using hA) ⟨k-(j+1),by omega,j+1,by rw[aH ⟨by omega,by omega⟩]; rfl,by omega,rfl,cq hany hy (by simpa[sameAs] using hA),s9.au⟩
            · obtain rfl:j=k:=by omega
              refine cF (by simp) ⟨l.length-(j+1),by omega,j+1,by rw[aH ⟨by omega,by omega⟩]; rfl,by omega,rfl,λ i p hi hp=>?_,d4.trans c7 (by simp)⟩;rcases Nat.lt_or_ge i j with h' | h'
              · exact ha i p h' hp
              · obtain rfl:i=j:=by omega
                rw[hx] at hp; cases hp;exact⟨by unfold lu; rw[g0,g1]; rfl,hany⟩
        · simp only[Bool.and_eq_true,decide_eq_true_eq] at g0;have hpx:ps[x.a.toNat]? = some (ps[x.a.toNat]'(by omega)):=gE (by omega);generalize ps[x.a.toNat]'(by omega)=y at hpx;rw[hpx,Option.map_some,Option.getD_some];have no : ¬ (1<=x.b/\x.b<=4/\1<=x.c/\x.c<=y.sup)->true = !((decide (1<=x.b)&&decide (x.b<=4))&&(decide (1<=x.c)&&decide (x.c<=y.sup))):=λ hh=>by
            cases hr:((decide (1<=x.b)&&decide (x.b<=4))&&(decide (1<=x.c)&&decide (x.c<=y.sup))) with
            | false=>rfl
            | true =>
              exfalso; apply hh
              simp only[Bool.and_eq_true,decide_eq_true_eq] at hr;omega
          refine⟨_,cx d45 1 _ rfl,?_⟩
          by_cases g1:x.b<1
          · exact cT (dT g1) ⟨rfl,no (by omega)⟩
          refine cF (dF g1) ⟨_,cx d45 1 _ rfl,?_⟩
          by_cases g2:x.b>4
          · exact cT (dT g2) ⟨rfl,no (by omega)⟩
          refine cF (dF g2) ⟨_,cx d45 2 _ rfl,?_⟩
          by_cases g3:x.c<1
          · exact cT (dT g3) ⟨rfl,no (by omega)⟩
          obtain⟨_,qp,hqp,hyc⟩:=(hP.au (cw4.trans d45 (by simp))) x.a.toNat y hpx;refine cF (dF g3) ⟨_,cx d45 2 _ rfl,_,_,_,cb (d4.trans d45 (by simp)) 0 _ rfl,_,cx d45 0 _ rfl,?_⟩;rw[hqp];refine⟨by omega,by omega,y.sup,hyc.2.1,rfl,?_⟩
          by_cases g4:x.c>y.sup
          · rw[dT g4]; exact no (by omega)
          · rw[dF g4,dT (show 1<=x.b by omega),dT (show x.b<=4 by omega),dT (show 1<=x.c by omega),dT (show x.c<=y.sup by omega)];rfl
    · refine⟨_,cx z4 0 _ rfl,?_⟩
      by_cases g1:x.a<0
      · exact cT (dT g1) ⟨rfl,by rw[dF (show ¬ 0<=x.a by omega)]; rfl⟩
      · refine cF (dF g1) ⟨_,cx z4 0 _ rfl,_,_,_,cb d4 0 _ rfl,rfl,?_⟩;rw[dT (show 0<=x.a by omega),Bool.true_and]
        by_cases g2:x.a<(ps.length:Int)
        · rw[dT g2,dF (by omega)]; rfl
        · rw[dF g2,dT (by omega)]; rfl
  · obtain rfl:k=l.length:=by omega
    exact cF (by simp) (eV ⟨h6,λ i p hp=>ha i p (List.getElem?_eq_some_iff.1 hp).1 hp⟩ hcw (by rw[wV,if_neg (by omega),cu λ i p hp=>by rw[Nat.zero_add]; exact mR (ha i p (List.getElem?_eq_some_iff.1 hp).1 hp)]))
structure Se where
  ps:List Pr
  bd:List Br
  cp:List T3
  sa:List T3
  a1:Option Addr
  c1:Nat
  a2:Option Addr
  c2:Nat
  a3:Option Addr
  c3:Nat
  a4:Option Addr
  c4:Nat
def Se.arr(s:Se):Array Value:=#[.slice s.a1 s.ps.length s.c1,.slice s.a2 s.bd.length s.c2,.slice s.a3 s.cp.length s.c3,.slice s.a4 s.sa.length s.c4]
structure Se.In (s:Se) (w:World):Prop where
  ps:ff w s.a1 s.ps
  bd:gZ w s.a2 s.bd
  cp:vI w s.a3 s.cp
  sa:vI w s.a4 s.sa
  h1:s.ps.length<=s.c1
  h2:s.bd.length<=s.c2
  h3:s.cp.length<=s.c3
  h4:s.sa.length<=s.c4
theorem Se.In.au{s:Se}{w w' : World}(h:s.In w)(hc:an w w' []):s.In w':=⟨h.ps.au hc,h.bd.au hc,h.cp.au hc,h.sa.au hc,h.h1,h.h2,h.h3,h.h4⟩
structure Se.Ok (s:Se):Prop where
  ps:bn s.ps
  bd:jr s.bd
  cp:jO s.bd.length s.cp
  sa:gX s.ps s.sa
def xp(s:Se):Int:=if sC s.ps≠0 then sC s.ps else if sO s.bd≠0 then sO s.bd else if u5 s.bd.length s.cp≠0 then u5 s.bd.length s.cp else wV s.ps s.sa
theorem qc{w:World}{s:Se}(h:s.In w):CP 53 #[.agg s.arr] w ((jP s.Ok (xp s) w)):=by
  refine nM ?_;unfold oS;refine aE ?_;have s1:=(St.start w).one.cr #[.slice s.a1 s.ps.length s.c1,.slice s.a2 s.bd.length s.c2,.slice s.a3 s.cp.length s.c3,.slice s.a4 s.sa.length s.c4] 34;generalize hw1:w.alloc _=w1 at s1 ⊢;generalize hr1:w.heap.size=r1 at s1 ⊢;refine⟨_,_,_,by rw[s1.af 0 rfl]; rfl,aD (jw (h.au s1.au).ps h.h1) ?_⟩;rintro v w2 ⟨⟨rfl,e1⟩,d2⟩;have s2:=s1.quiet d2;refine⟨_,rfl,?_⟩
  by_cases g1:sC s.ps=0
  · refine cF (by simpa using g1) ⟨_,_,_,by rw[s2.af 0 rfl]; rfl,aD (qa (h.au s2.au).bd h.h2) ?_⟩;rintro v w3 ⟨⟨rfl,e2⟩,d3⟩;have s3:=s2.quiet d3;refine⟨_,rfl,?_⟩
    by_cases g2:sO s.bd=0
    · refine cF (by simpa using g2) ⟨_,_,_,_,_,_,_,_,_,_,_,_,s3.cellsIn 0 rfl,aD (sP (h.au s3.au).cp h.h3) ?_⟩;rintro v w4 ⟨⟨rfl,e3⟩,d4⟩;have s4:=s3.quiet d4;refine⟨_,rfl,?_⟩
      by_cases g3:u5 s.bd.length s.cp=0
      · refine cF (by simpa using g3) ⟨_,_,_,_,_,_,_,_,_,_,_,_,s4.cellsIn 0 rfl,aD (pI (h.au s4.au).ps (h.au s4.au).sa h.h4) ?_⟩;rintro v w5 ⟨⟨rfl,e4⟩,d5⟩;have s5:=s4.quiet d5;have e0:xp s=wV s.ps s.sa:=by rw[xp,if_neg (λ h=>h g1),if_neg (λ h=>h g2),if_neg (λ h=>h g3)]
        exact⟨_,rfl,⟨by rw[e0],by rw[e0]; exact⟨λ h0=>⟨e1.1 g1,e2.1 g2,e3.1 g3,e4.1 h0⟩,λ hk=>e4.2 hk.sa⟩⟩,s5.au⟩
      · exact cT (by simpa using g3) (aC g3 (λ hk=>g3 (e3.2 hk.cp)) s4.au (by rw[xp,if_neg (λ h=>h g1),if_neg (λ h=>h g2),if_pos g3]))
    · exact cT (by simpa using g2) (aC g2 (λ hk=>g2 (e2.2 hk.bd)) s3.au (by rw[xp,if_neg (λ h=>h g1),if_pos g2]))
  · exact cT (by simpa using g1) (aC g1 (λ hk=>g1 (e1.2 hk.ps)) s2.au (by rw[xp,if_pos g1]))
theorem rV{w:World}{s:Se}(h:s.In w):CP 53 #[.agg s.arr] w ((k7 s.Ok w)):=aD (qc h) λ _ _ h=>⟨_,rfl,h.old⟩
structure Ch where
  p:I6
  want:I6
def Ch.cells(c:Ch):List Value:=c.p.on c.want.vs
theorem Ch.one(c:Ch):∀ v∈c.cells,v.oneCell' = true:=by
  intro v hv;simp only[Ch.cells,I6.on,I6.vs,List.mem_cons,List.mem_nil_iff,or_false] at hv;rcases hv with rfl | rfl | rfl | rfl | rfl | rfl | rfl | rfl | rfl | rfl | rfl | rfl<;>rfl
abbrev z7:Ch:=⟨z6,z6⟩
abbrev zR (w:World) (a:OA) (l:List Ch):Prop:=jg 12 Ch.cells w a l
theorem tj{w0 w:World}{l:List aQ}{r:Nat}{c:Ch}{T:TypeId}(h:St w0 w (Sep l))(i:Nat)(e:l[i]? = some (aG r c.cells.toArray T)):aa w ⟨r,6,none⟩ 0 c.want.vs :=
  cQ _ 0 λ j v hj=>by
    have h6:j<6:=(List.getElem?_eq_some_iff.1 hj).1;rw[cD,Nat.zero_add,h.af i e]
    match j,h6,hj with
    | 0,_,hj | 1,_,hj | 2,_,hj | 3,_,hj | 4,_,hj | 5,_,hj=>simpa[Ch.cells,I6.on,I6.vs] using hj
abbrev Sc:=List Tk×Int
inductive Xv where
  | mk (op:Int) (u:I6) (v:Int) (a:OA) (c:Nat) (args:List Xv)
section
variable {g:Sc->Xv×Sc} (hg:∀ σ,(g σ).2.1.length<=σ.1.length)
include hg
end
end Go.Proofs.YtemiicbbbojdiaaGreatDoor
namespace Go.Vc
structure Lo where
  v:Nat->Int
  f:Nat->Int
  lr:Nat->Nat
  ch:Int
def eI{α:Type}(f:Nat->α)(i:Nat)(x:α):Nat->α:=λ j=>if j=i then x else f j
section
variable {g:Nat->Nat->Int} {n:Nat} {G T:Int} {r a b:Nat} {s:Lo}
end
end Go.Vc
namespace Go.Proofs.YtemiicbbbojdiaaGreatDoor
open Go Go.Vc _root_.Go.Proofs.Tryz
abbrev i1 (x:Int):List Value:=[iv x]
structure Rn where
  p:I6
  ask:List I6
  got:List I6
  bd:List Bool
  xa:Option Addr
  xc:Nat
  ga:Option Addr
  gc:Nat
  ba:Option Addr
  bc:Nat
structure Ck where
  s:Se
  o:Po
  cl:List Rn
  p:I6
  ask:List I6
  bd:List Bool
  dp:List Bool
  ov:Bool
  ka:Option Addr
  kc:Nat
  xa:Option Addr
  xc:Nat
  ya:Option Addr
  yc:Nat
  za:Option Addr
  zc:Nat
section
variable {b:Nat} {C:Ck} {w:World}
end
structure Bd where
  x:Xv
  has:Bool
  out:Bool
structure Sx where
  o:Po
  ph:Int
  s:Se
  k:Option Addr
  bd:List Bd
  dec:Int
  cnt:Int
  dig:Int
structure Ev where
  kind:Int
  bidder:Int
  round:Int
  want:I6
  text:List UInt8
  digest:Int
theorem Ev.ext'{a b:Ev}(h1:a.kind=b.kind)(h2:a.bidder=b.bidder)(h3:a.round=b.round)(h4:a.want=b.want)(h5:a.text=b.text)(h6:a.digest=b.digest):a=b:=by
  cases a; cases b; simp_all
instance:DecidableEq Ev:=λ a b =>
  if h:a.kind=b.kind/\a.bidder=b.bidder/\a.round=b.round/\a.want=b.want/\a.text=b.text/\a.digest=b.digest then .isTrue (Ev.ext' h.1 h.2.1 h.2.2.1 h.2.2.2.1 h.2.2.2.2.1 h.2.2.2.2.2)
  else .isFalse λ e=>h (by subst e; exact⟨rfl,rfl,rfl,rfl,rfl,rfl⟩)
end Go.Proofs.YtemiicbbbojdiaaGreatDoor
namespace Go.Vc
open Go
abbrev KV:=I6×Int
section
variable {P:Program} {t kt et:TypeId} {w0 w:World} {B:aQ} {r:Nat} {l:List KV}
end
end Go.Vc
namespace Go.Proofs.YtemiicbbbojdiaaGreatDoor
open Go Go.Vc _root_.Go.Proofs.Tryz
def vB:Xv->Nat
  | .mk _ _ _ _ _ args=>1+(args.map vB).sum
section
variable {w0:World}
variable {S:Type} {step:S->Xv->S×Bool} {A:S->aQ} {v:Value}
end
abbrev Wf:=I6->Int
def r5:List Int:=[0,1,2,3,4]
end Go.Proofs.YtemiicbbbojdiaaGreatDoor
namespace Go.Proofs.YtemiicbbbojdiaaGreatDoor
open Go Go.Vc Go.RowKit Go.Deep
theorem av{P:Program}{w:World}{d:Nat}{t:TypeId}{cs:List Value}{fs:Array Field}(h:cw P w (d+1) t cs)(hu:P.underlying t=some (.struct fs))(i:Nat)(f:Field)(hf:fs[i]? = some f) :
    cw P w d f.type ((cs.drop f.offset).take (P.cellsOf f.type)):=by
  unfold cw at h;simp only[hu] at h;exact h.2 f (by simpa using Array.mem_of_getElem? hf)
theorem oK{α:Type}{Q:Nat->α->Prop}:∀ {l:Nat},(∀ i,i<l->∃ a,Q i a)->∃ L:List α,L.length=l/\∀ i a,L[i]? = some a->Q i a
  | 0,_=>⟨[],rfl,λ i a h=>by simp at h⟩
  | l+1,h=>by
    obtain⟨L,h1,h2⟩:=oK (l:=l) λ i hi=>h i (by omega);obtain⟨a,ha⟩:=h l (by omega);refine⟨L++[a],by simp[h1],λ i b hb=>?_⟩;rcases Nat.lt_or_ge i L.length with hi | hi
    · rw[List.getElem?_append_left hi] at hb; exact h2 i b hb
    · rw[List.getElem?_append_right hi] at hb;have h0:i-L.length=0:=by
        have:=(List.getElem?_eq_some_iff.1 hb).1;simp at this; omega
      rw[h0] at hb;simp at hb;subst hb;rw[show i=l by omega]; exact ha
theorem oH:∀ {cs:List Value},(∀ v∈cs,∃ n,v=iv n/\In n)->∃ ns:List Int,cs=ns.map iv/\∀ n∈ns,In n
  | [],_=>⟨[],rfl,by simp⟩
  | v :: cs,h=>by
    obtain⟨n,rfl,hn⟩:=h v (List.mem_cons_self ..);obtain⟨ns,rfl,hs⟩:=oH (cs:=cs) λ u hu=>h u (List.mem_cons_of_mem _ hu);refine⟨n :: ns,rfl,λ x hx=>?_⟩;rcases List.mem_cons.1 hx with rfl | hx
    · exact hn
    · exact hs x hx
theorem bD{w:World}{d t:Nat}{cs:List Value}(h:cw Tryz.prog w (d+1) t cs)(hu:Tryz.prog.underlying t=some (.int .i64)):∃ n,cs=[iv n]/\In n:=by
  unfold cw at h;simp only[hu] at h;obtain⟨n,rfl,hw⟩:=h;refine⟨n,rfl,?_⟩;simp[Lit.wf,IntKind.min,IntKind.max,IntKind.signed,IntKind.bits] at hw;exact⟨by omega,by omega⟩
theorem uC{w:World}{d t k e:Nat}{cs:List Value}(h:cw Tryz.prog w (d+2) t cs)(hu:Tryz.prog.underlying t=some (.array k e))(he:Tryz.prog.underlying e=some (.int .i64))(hc:Tryz.prog.cellsOf t=k)(h1:Tryz.prog.cellsOf e=1) :
    ∃ ns:List Int,cs=ns.map iv/\ns.length=k/\∀ n∈ns,In n:=by
  unfold cw at h;simp only[hu] at h;obtain⟨hl,hi⟩:=h;rw[hc] at hl;obtain⟨ns,rfl,hs⟩:=oH (cs:=cs) λ v hv=>by
    obtain⟨i,hlt,rfl⟩:=List.mem_iff_getElem.1 hv;obtain⟨n,hn,hI⟩:=bD (hi i (by omega)) he;rw[h1,Nat.mul_one] at hn;have e1:(cs.drop i).take 1=[cs[i]]:=by
      rw[List.drop_eq_getElem_cons hlt]; rfl
    rw[e1] at hn;exact⟨n,by simpa using hn,hI⟩
  exact⟨ns,rfl,by simpa using hl,hs⟩
theorem pW{w:World}{d t e:Nat}{cs:List Value}(h:cw Tryz.prog w (d+1) t cs)(hu:Tryz.prog.underlying t=some (.slice e)) :
    ∃ (a:OA) (l c:Nat),cs=[.slice a l c]/\l<=c/\l<=9223372036854775807/\l*Tryz.prog.bytesOf e<=140737488351232 /\
      ∀ i,i<l->∃ q cs',a=some q/\cs'.length=Tryz.prog.cellsOf e/\aa w (q.add (i*Tryz.prog.cellsOf e)) 0 cs'/\cw Tryz.prog w d e cs':=by
  unfold cw at h;simp only[hu] at h;obtain⟨a,l,c,rfl,hlc,hcm,_,hb,hi⟩:=h;refine⟨a,l,c,rfl,hlc,by unfold maxLen at hcm; omega,hb,λ i hl=>?_⟩;obtain⟨q,cs',ha,hcs,ho⟩:=hi i hl;obtain⟨_,hlen,hg⟩:=World.cells?_some hcs;exact⟨q,cs',ha,hlen,cQ _ 0 λ j v hj=>by
    rw[Nat.zero_add,hg j (by have:=(List.getElem?_eq_some_iff.1 hj).1; omega)]; exact hj,ho⟩
theorem fq:Tryz.prog.cellsOf 3=1:=by kernel_rfl
theorem fH:Tryz.prog.cellsOf 2=1:=by kernel_rfl
theorem eT:Tryz.prog.cellsOf 39=6:=by kernel_rfl
theorem j0:Tryz.prog.cellsOf 9=1:=by kernel_rfl
end Go.Proofs.YtemiicbbbojdiaaGreatDoor
namespace Go.Proofs.YtemiicbbbojdiaaGreatDoor
open Go Go.Vc _root_.Go.Proofs.Tryz
def mo(a:OA)(b c:Nat)(d:I6)(w:World)(K:KP):Prop:=aI w (.cells d.vs.toArray 39) λ d e=>∃ f:Bool->World->Prop,(∀ g h,f h g->∀ i:Nat->Value,cond h (K (.string (bs [])) g) (∃ h:OA->Nat->Nat->Int->World->Nat->Prop,(∃ i,h none 0 0 0 g i)/\∀ g i j k l m,h j k l m g i->∀ n:Nat->Value,cond (decide (m<(b:Int))) (∃ n:OA->Nat->Nat->World->Prop,(∀ o p q r,n p q r o->∀ s:Nat->Value,∃ s,s<i/\h p q r (IntKind.i64.wrap (m+1)) o s)/\ah a λ h=>0<=m/\m<(b:Int)/\∃ i o p q r,aa g (Addr.add h ((m).toNat*5)) 0 [.string i,iv o,iv p,iv q,iv r]/\aI g (.cells #[.string (bs []),iv 0,iv 0,iv 0,iv 0] 89) λ h s=>fS ⟨h,0,none⟩ 0 [.string i,iv o,iv p,iv q,iv r] s λ i=>0<=m/\m<6/\∃ o,i.cell? (Addr.add ⟨d,0,none⟩ ((m).toNat*1))=some (iv o)/\cond (decide (o>0)) (∃ o,i.drew.cell? ⟨h,0,none⟩=some (.string o)/\((o.size+(bs [58]).size:Nat):Int)<=IntKind.i64.max/\0<=m/\m<6/\∃ p,i.drew.cell? (Addr.add ⟨d,0,none⟩ ((m).toNat*1))=some (iv p)/\i.drew.cell? ⟨h,0,none⟩=some (.string o)/\aI i.drew (.cells #[.int .u8 (IntKind.u8.wrap (IntKind.i64.wrap ((48:Int)+p)))] 5) λ m p=>p.cell? ⟨h,0,none⟩=some (.string o)/\iT prog (convert 148 9 (.slice (some ⟨m,0,none⟩) 1 1)) p λ m p=>∃ q,m=(.string q)/\p.cell? ⟨h,0,none⟩=some (.string o)/\(((o++(bs [58])).size+q.size:Nat):Int)<=IntKind.i64.max/\aI p (.cells #[.string ((o++(bs [58]))++q)] 9) λ h m=>iT prog (Builtin.append_ #[42,42] 42 #[.slice j k l,.slice (some ⟨h,0,none⟩) 1 1]) m λ h m=>∃ o p q,h=(.slice o p q)/\n o p q m) (n j k l i)) (Calls prog 83 #[.slice j k l,.string (bs [44])] g λ g h=>∃ i,g=.returned (.string i)/\(((bs [123]).size+i.size:Nat):Int)<=IntKind.i64.max/\((((bs [123])++i).size+(bs [125]).size:Nat):Int)<=IntKind.i64.max/\K (.string (((bs [123])++i)++(bs [125]))) h)))/\Calls prog 79 #[.slice a b c] e λ e g=>∃ h,e=.returned (iv h)/\cond (h !=0) (f true g) (∃ (e:I6),aa g ⟨d,0,none⟩ 0 e.vs/\Calls prog 86 #[.slice a b c,.agg e.vs.toArray] g λ a b=>∃ c,a=.returned (.bool c)/\f (!c) b)
theorem mq{a1 l1 c1 u1 w K}(h:mo a1 l1 c1 u1 w K):CP 57 #[.slice a1 l1 c1,.agg u1.vs.toArray] w (K):=ai (aZ [(6,[(16,.s .bool)]),(122,[(5,.s .slice),(19,.s (.int .i64))]),(979,[(5,.s .slice)])]) func57 (by kernel_rfl) (by kernel_rfl) h
def vu(a:OA)(b c:Nat)(w:World)(K:KP):Prop:=Calls prog 83 #[.slice a b c,.string (bs [32])] w λ a b=>∃ c,a=.returned (.string c)/\((c.size+(bs [10]).size:Nat):Int)<=IntKind.i64.max/\K (.string (c++(bs [10]))) b
theorem rC{a1 l1 c1 w K}(h:vu a1 l1 c1 w K):CP 54 #[.slice a1 l1 c1] w (K):=ai (aZ []) func54 (by kernel_rfl) (by kernel_rfl) h
def oV(a:OA)(b c:Nat)(d:OA)(e f:Nat)(g:OA)(h i:Nat)(j:OA)(k l:Nat)(m n:Int)(o p:I6)(q:OA)(r s:Nat)(t:OA)(u v:Nat)(x:OA)(y z:Nat)(w:World)(K:KP):Prop:=aI w (.cells #[.slice a b c,.slice d e f,.slice g h i,.slice j k l] 34) λ a b=>aI b (.cells (iv m :: iv n :: o.on (p.on [.slice q r s,.slice t u v,.slice x y z]):List Value).toArray 44) λ b c=>∃ d e f g h i j k l m n o,aa c ⟨a,0,none⟩ 0 [.slice d e f,.slice g h i,.slice j k l,.slice m n o]/\Calls prog 53 #[.agg #[.slice d e f,.slice g h i,.slice j k l,.slice m n o]] c λ c d=>∃ e,c=.returned (iv e)/\cond (e !=0) (K (.string (bs [])) d) (∃ c,d.drew.cell? ⟨b,0,none⟩=some (iv c)/\∃ e,d.drew.cell? ⟨b,1,none⟩=some (iv e)/\Calls prog 55 #[iv c] d.drew λ c d=>∃ f,c=.returned (.string f)/\d.cell? ⟨b,1,none⟩=some (iv e)/\Calls prog 55 #[iv e] d λ c d=>∃ e,c=.returned (.string e)/\aI d (.cells #[.string (bs [112,104,97,115,101]),.string f,.string (bs [114,111,117,110,100]),.string e] 9) λ c d=>Calls prog 54 #[.slice (some ⟨c,0,none⟩) 4 4] d λ c d=>∃ e,c=.returned (.string e)/\∃ c f g,d.cell? ⟨a,0,none⟩=some (.slice c f g)/\∃ g:ByteArray->Int->World->Nat->Prop,(∃ h,g e 0 d h)/\∀ d h e i,g e i d h->∀ j:Nat->Value,cond (decide (i<(f:Int))) (ah c λ c=>0<=i/\i<(f:Int)/\∃ f j k l m,aa d (Addr.add c ((i).toNat*5)) 0 [.string f,iv j,iv k,iv l,iv m]/\aI d (.cells #[.string (bs []),iv 0,iv 0,iv 0,iv 0] 89) λ c n=>fS ⟨c,0,none⟩ 0 [.string f,iv j,iv k,iv l,iv m] n λ f=>∃ j,f.drew.cell? ⟨c,0,none⟩=some (.string j)/\0<=i/\i<6/\∃ k,f.drew.cell? (Addr.add ⟨b,2,none⟩ ((i).toNat*1))=some (iv k)/\0<=i/\i<6/\∃ l,f.drew.cell? (Addr.add ⟨b,8,none⟩ ((i).toNat*1))=some (iv l)/\Calls prog 56 #[iv k,iv 10] f.drew λ f k=>∃ m,f=.returned (.string m)/\k.cell? (Addr.add ⟨b,8,none⟩ ((i).toNat*1))=some (iv l)/\k.cell? ⟨c,0,none⟩=some (.string j)/\Calls prog 55 #[iv l] k λ f k=>∃ l,f=.returned (.string l)/\k.cell? ⟨c,0,none⟩=some (.string j)/\aI k (.cells #[.string (bs [112,114,111,100,117,99,116]),.string j,.string m,.string l] 9) λ c f=>Calls prog 54 #[.slice (some ⟨c,0,none⟩) 4 4] f λ c f=>∃ j,c=.returned (.string j)/\((e.size+j.size:Nat):Int)<=IntKind.i64.max/\∃ c,c<h/\g (e++j) (IntKind.i64.wrap (i+1)) f c) (∃ c f g,d.cell? ⟨b,14,none⟩=some (.slice c f g)/\∃ g:ByteArray->Int->World->Nat->Prop,(∃ h,g e 0 d h)/\∀ d h e i,g e i d h->∀ j:Nat->Value,cond (decide (i<(f:Int))) (ah c λ c=>0<=i/\i<(f:Int)/\∃ (f j:I6),aa d (Addr.add c ((i).toNat*12)) 0 (f.on (j.vs))/\aI d (.cells #[iv 0,iv 0,iv 0,iv 0,iv 0,iv 0,iv 0,iv 0,iv 0,iv 0,iv 0,iv 0] 78) λ c k=>fS ⟨c,0,none⟩ 0 (f.on (j.vs)) k λ f=>∃ j k l,f.cell? ⟨a,0,none⟩=some (.slice j k l)/\∃ (m:I6),aa f ⟨c,6,none⟩ 0 m.vs/\Calls prog 57 #[.slice j k l,.agg m.vs.toArray] f λ c f=>∃ j,c=.returned (.string j)/\aI f (.cells #[.string (bs [111,119,110]),.string j] 9) λ c f=>Calls prog 54 #[.slice (some ⟨c,0,none⟩) 2 2] f λ c f=>∃ j,c=.returned (.string j)/\((e.size+j.size:Nat):Int)<=IntKind.i64.max/\∃ c,c<h/\g (e++j) (IntKind.i64.wrap (i+1)) f c) (∃ c f g,d.cell? ⟨b,15,none⟩=some (.slice c f g)/\∃ g:ByteArray->Int->World->Nat->Prop,(∃ h,g e 0 d h)/\∀ d h e i,g e i d h->∀ j:Nat->Value,cond (decide (i<(f:Int))) (ah c λ c=>0<=i/\i<(f:Int)/\∃ (f:I6),aa d (Addr.add c ((i).toNat*6)) 0 f.vs/\aI d (.cells z6.vs.toArray 39) λ c j=>fS ⟨c,0,none⟩ 0 f.vs j λ f=>∃ j k l,f.cell? ⟨a,0,none⟩=some (.slice j k l)/\∃ (a:I6),aa f ⟨c,0,none⟩ 0 a.vs/\Calls prog 57 #[.slice j k l,.agg a.vs.toArray] f λ a c=>∃ f,a=.returned (.string f)/\aI c (.cells #[.string (bs [100,101,109,97,110,100]),.string f] 9) λ a c=>∃ f:OA->Nat->Nat->World->Prop,(∀ j k l m,f k l m j->∀ n:Nat->Value,Calls prog 54 #[.slice k l m] j λ j k=>∃ l,j=.returned (.string l)/\((e.size+l.size:Nat):Int)<=IntKind.i64.max/\∃ j,j<h/\g (e++l) (IntKind.i64.wrap (i+1)) k j)/\∃ g h j,c.cell? ⟨b,16,none⟩=some (.slice g h j)/\cond (decide (i<(h:Int))) (∃ g h j,c.cell? ⟨b,16,none⟩=some (.slice g h j)/\ah g λ b=>0<=i/\i<(h:Int)/\∃ g,c.cell? (Addr.add b ((i).toNat*1))=some (.string g)/\aI c (.cells #[.string g] 9) λ b g=>iT prog (Builtin.append_ #[42,42] 42 #[.slice (some ⟨a,0,none⟩) 2 2,.slice (some ⟨b,0,none⟩) 1 1]) g λ b g=>∃ h i j,b=(.slice h i j)/\f h i j g) (f (some ⟨a,0,none⟩) 2 2 c)) (K (.string e) d))))
theorem nP{a1 l1 c1 a2 l2 c2 a3 l3 c3 a4 l4 c4 n1 n2 u1 u2 a5 l5 c5 a6 l6 c6 a7 l7 c7 w K}(h:oV a1 l1 c1 a2 l2 c2 a3 l3 c3 a4 l4 c4 n1 n2 u1 u2 a5 l5 c5 a6 l6 c6 a7 l7 c7 w K):CP 25 #[.agg #[.slice a1 l1 c1,.slice a2 l2 c2,.slice a3 l3 c3,.slice a4 l4 c4],.agg (iv n1 :: iv n2 :: u1.on (u2.on [.slice a5 l5 c5,.slice a6 l6 c6,.slice a7 l7 c7]):List Value).toArray] w (K):=ai (aZ [(122,[(5,.s .str),(27,.s (.int .i64))]),(250,[(5,.s .str),(52,.s (.int .i64))]),(506,[(5,.s .str),(69,.s (.int .i64))]),(64819,[(12,.s .slice)])]) func25 (by kernel_rfl) (by kernel_rfl) h
def rB(a:Int)(w:World)(K:KP):Prop:=cond (a==0) (aI w (.cells #[.string (bs [101,120,99,101,115,115]),.string (bs [100,101,109,97,110,100,115]),.string (bs [110,97,109,101,115])] 9) λ b c=>K (.slice (some ⟨b,0,none⟩) 3 3) c) (cond (a==1) (aI w (.cells #[.string (bs [110,97,109,101,115])] 9) λ b c=>K (.slice (some ⟨b,0,none⟩) 1 1) c) (cond (a==2) (aI w (.cells #[.string (bs [100,101,109,97,110,100,115]),.string (bs [110,97,109,101,115])] 9) λ a b=>K (.slice (some ⟨a,0,none⟩) 2 2) b) (K (.slice none 0 0) w)))
theorem p5{n1 w K}(h:rB n1 w K):CP 28 #[iv n1] w (K):=ai (aZ []) func28 (by kernel_rfl) (by kernel_rfl) h
def jH(a:OA)(b c:Nat)(d:I6)(w:World)(K:KP):Prop:=aI w (.cells d.vs.toArray 39) λ d e=>∃ (f:I6),aa e ⟨d,0,none⟩ 0 f.vs/\Calls prog 90 #[.slice a b c,.agg f.vs.toArray] e λ c e=>∃ f,c=.returned (.bool f)/\cond (!f) (K (.string (bs [])) e) (∃ c:ByteArray->Int->World->Nat->Prop,(∃ f,c (bs []) (0:Int) e f)/\∀ e f g h,c g h e f->∀ i:Nat->Value,cond (decide (h<(b:Int))) (∃ i:ByteArray->World->Prop,(∀ j k,i k j->∀ l:Nat->Value,∃ l,l<f/\c k (IntKind.i64.wrap (h+1)) j l)/\0<=h/\h<6/\∃ c,e.cell? (Addr.add ⟨d,0,none⟩ ((h).toNat*1))=some (iv c)/\cond (decide (c>0)) (∃ c:ByteArray->World->Prop,(∀ f j,c j f->∀ k:Nat->Value,ah a λ a=>0<=h/\h<(b:Int)/\∃ b,f.drew.cell? (Addr.add a ((h).toNat*5))=some (.string b)/\((j.size+b.size:Nat):Int)<=IntKind.i64.max/\(((j++b).size+(bs [58]).size:Nat):Int)<=IntKind.i64.max/\0<=h/\h<6/\∃ a,f.drew.cell? (Addr.add ⟨d,0,none⟩ ((h).toNat*1))=some (iv a)/\0<=h/\h<6/\∃ k,f.drew.cell? (Addr.add ⟨d,0,none⟩ ((h).toNat*1))=some (iv k)/\0<=(IntKind.i64.wrap (k+1))/\(IntKind.i64.wrap (k+1))<=(((bs [48,49,50,51,52]).size:Nat):Int)/\0<=a/\a<=((((IntKind.i64.wrap (k+1))).toNat:Nat):Int)/\((((j++b)++(bs [58])).size+((bs [48,49,50,51,52]).extract ((a).toNat) (((IntKind.i64.wrap (k+1))).toNat)).size:Nat):Int)<=IntKind.i64.max/\i (((j++b)++(bs [58]))++((bs [48,49,50,51,52]).extract ((a).toNat) (((IntKind.i64.wrap (k+1))).toNat))) f.drew)/\cond (!(g.toList==(bs []).toList)) (((g.size+(bs [44]).size:Nat):Int)<=IntKind.i64.max/\c (g++(bs [44])) e) (c g e)) (i g e)) ((((bs [123]).size+g.size:Nat):Int)<=IntKind.i64.max/\((((bs [123])++g).size+(bs [125]).size:Nat):Int)<=IntKind.i64.max/\K (.string (((bs [123])++g)++(bs [125]))) e))
theorem kH{a1 l1 c1 u1 w K}(h:jH a1 l1 c1 u1 w K):CP 60 #[.slice a1 l1 c1,.agg u1.vs.toArray] w (K):=ai (aZ [(122,[(5,.s .str),(6,.s (.int .i64))]),(489,[(5,.s .str)]),(7826,[(5,.s .str)])]) func60 (by kernel_rfl) (by kernel_rfl) h
def o6(a:Int)(w:World)(K:KP):Prop:=cond (decide (a<0)) (Calls prog 89 #[.int .u64 (IntKind.u64.wrap ((IntKind.u64.wrap (IntKind.i64.wrap (0-(IntKind.i64.wrap (a+1)))))+(1:Int)))] w λ b c=>∃ d,b=.returned (.string d)/\(((bs [45]).size+d.size:Nat):Int)<=IntKind.i64.max/\K (.string ((bs [45])++d)) c) (Calls prog 89 #[.int .u64 (IntKind.u64.wrap a)] w λ a b=>∃ c,a=.returned (.string c)/\K (.string c) b)
theorem nW{n1 w K}(h:o6 n1 w K):CP 59 #[iv n1] w (K):=ai (aZ []) func59 (by kernel_rfl) (by kernel_rfl) h
def oY(a:Int)(w:World)(K:KP):Prop:=∃ b:Int->ByteArray->World->Nat->Prop,(∃ c,b a (bs []) w c)/\∀ a c d e,b d e a c->∀ f:Nat->Value,cond (decide (d>9)) ((10:Int)≠0/\aI a (.cells #[.int .u8 (IntKind.u8.wrap (IntKind.u64.wrap ((48:Int)+(Int.tmod d 10))))] 5) λ f g=>iT prog (convert 148 9 (.slice (some ⟨f,0,none⟩) 1 1)) g λ f g=>∃ h,f=(.string h)/\((h.size+e.size:Nat):Int)<=IntKind.i64.max/\(10:Int)≠0/\∃ f,f<c/\b (IntKind.u64.wrap (Int.tdiv d 10)) (h++e) g f) (aI a (.cells #[.int .u8 (IntKind.u8.wrap (IntKind.u64.wrap ((48:Int)+d)))] 5) λ a b=>iT prog (convert 148 9 (.slice (some ⟨a,0,none⟩) 1 1)) b λ a b=>∃ c,a=(.string c)/\((c.size+e.size:Nat):Int)<=IntKind.i64.max/\K (.string (c++e)) b)
theorem nS{n1 w K}(h:oY n1 w K):CP 89 #[.int .u64 n1] w (K):=ai (aZ [(28,[(0,.s (.int .u64)),(3,.s .str)])]) func89 (by kernel_rfl) (by kernel_rfl) h
def o5(a:OA)(b c:Nat)(d:OA)(e f:Nat)(g:OA)(h i:Nat)(j:OA)(k l:Nat)(m n:Int)(o p:I6)(q:OA)(r s:Nat)(t:OA)(u v:Nat)(x:OA)(y z:Nat)(w:World)(K:KP):Prop:=aI w (.cells #[.slice a b c,.slice d e f,.slice g h i,.slice j k l] 34) λ a b=>aI b (.cells (iv m :: iv n :: o.on (p.on [.slice q r s,.slice t u v,.slice x y z]):List Value).toArray 51) λ b c=>∃ d e f g h i j k l m n o,aa c ⟨a,0,none⟩ 0 [.slice d e f,.slice g h i,.slice j k l,.slice m n o]/\Calls prog 58 #[.agg #[.slice d e f,.slice g h i,.slice j k l,.slice m n o]] c λ c d=>∃ e,c=.returned (iv e)/\cond (e !=0) (K (.string (bs [])) d) (∃ c,d.drew.cell? ⟨b,0,none⟩=some (iv c)/\∃ e,d.drew.cell? ⟨b,1,none⟩=some (iv e)/\Calls prog 59 #[iv c] d.drew λ c d=>∃ f,c=.returned (.string f)/\d.cell? ⟨b,1,none⟩=some (iv e)/\(((bs [112,104,97,115,101,32]).size+f.size:Nat):Int)<=IntKind.i64.max/\((((bs [112,104,97,115,101,32])++f).size+(bs [32,114,111,117,110,100,32]).size:Nat):Int)<=IntKind.i64.max/\Calls prog 59 #[iv e] d λ c d=>∃ e,c=.returned (.string e)/\(((((bs [112,104,97,115,101,32])++f)++(bs [32,114,111,117,110,100,32])).size+e.size:Nat):Int)<=IntKind.i64.max/\((((((bs [112,104,97,115,101,32])++f)++(bs [32,114,111,117,110,100,32]))++e).size+(bs [10]).size:Nat):Int)<=IntKind.i64.max/\∃ c:ByteArray->Int->World->Nat->Prop,(∃ g,c (((((bs [112,104,97,115,101,32])++f)++(bs [32,114,111,117,110,100,32]))++e)++(bs [10])) (0:Int) d g)/\∀ d g e f,c e f d g->∀ h:Nat->Value,∃ h:Bool->World->Prop,(∀ i j,h j i->∀ k:Nat->Value,cond j (((e.size+(bs [112,114,111,100,117,99,116,32]).size:Nat):Int)<=IntKind.i64.max/\∃ j k l,i.drew.cell? ⟨a,0,none⟩=some (.slice j k l)/\ah j λ m=>0<=f/\f<(k:Int)/\∃ n,i.drew.cell? (Addr.add m ((f).toNat*5))=some (.string n)/\(((e++(bs [112,114,111,100,117,99,116,32])).size+n.size:Nat):Int)<=IntKind.i64.max/\((((e++(bs [112,114,111,100,117,99,116,32]))++n).size+(bs [32]).size:Nat):Int)<=IntKind.i64.max/\0<=f/\f<6/\∃ o,i.drew.cell? (Addr.add ⟨b,2,none⟩ ((f).toNat*1))=some (iv o)/\0<=f/\f<6/\∃ p,i.drew.cell? (Addr.add ⟨b,8,none⟩ ((f).toNat*1))=some (iv p)/\Calls prog 59 #[iv o] i.drew λ o q=>∃ r,o=.returned (.string r)/\q.cell? (Addr.add ⟨b,8,none⟩ ((f).toNat*1))=some (iv p)/\q.cell? (Addr.add m ((f).toNat*5))=some (.string n)/\q.cell? ⟨a,0,none⟩=some (.slice j k l)/\(((((e++(bs [112,114,111,100,117,99,116,32]))++n)++(bs [32])).size+r.size:Nat):Int)<=IntKind.i64.max/\((((((e++(bs [112,114,111,100,117,99,116,32]))++n)++(bs [32]))++r).size+(bs [32]).size:Nat):Int)<=IntKind.i64.max/\Calls prog 59 #[iv p] q λ o p=>∃ q,o=.returned (.string q)/\p.cell? (Addr.add m ((f).toNat*5))=some (.string n)/\p.cell? ⟨a,0,none⟩=some (.slice j k l)/\(((((((e++(bs [112,114,111,100,117,99,116,32]))++n)++(bs [32]))++r)++(bs [32])).size+q.size:Nat):Int)<=IntKind.i64.max/\((((((((e++(bs [112,114,111,100,117,99,116,32]))++n)++(bs [32]))++r)++(bs [32]))++q).size+(bs [10]).size:Nat):Int)<=IntKind.i64.max/\∃ j,j<g/\c (((((((e++(bs [112,114,111,100,117,99,116,32]))++n)++(bs [32]))++r)++(bs [32]))++q)++(bs [10])) (IntKind.i64.wrap (f+1)) p j) (∃ c:ByteArray->Int->World->Nat->Prop,(∃ g,c e 0 i g)/\∀ e g i j,c i j e g->∀ k:Nat->Value,∃ k l m,e.cell? ⟨b,14,none⟩=some (.slice k l m)/\cond (decide (j<(l:Int))) (((i.size+(bs [111,119,110,32]).size:Nat):Int)<=IntKind.i64.max/\∃ k l m,e.drew.cell? ⟨a,0,none⟩=some (.slice k l m)/\∃ n o p,e.drew.cell? ⟨b,14,none⟩=some (.slice n o p)/\ah n λ n=>0<=j/\j<(o:Int)/\∃ (o:I6),aa e.drew (Addr.add (Addr.add n ((j).toNat*12)) 6) 0 o.vs/\Calls prog 60 #[.slice k l m,.agg o.vs.toArray] e.drew λ k l=>∃ m,k=.returned (.string m)/\(((i++(bs [111,119,110,32])).size+m.size:Nat):Int)<=IntKind.i64.max/\((((i++(bs [111,119,110,32]))++m).size+(bs [10]).size:Nat):Int)<=IntKind.i64.max/\∃ k,k<g/\c (((i++(bs [111,119,110,32]))++m)++(bs [10])) (IntKind.i64.wrap (j+1)) l k) (∃ c:ByteArray->Int->World->Nat->Prop,(∃ g,c i 0 e g)/\∀ e g i j,c i j e g->∀ k:Nat->Value,∃ k l m,e.cell? ⟨b,15,none⟩=some (.slice k l m)/\cond (decide (j<(l:Int))) (((i.size+(bs [100,101,109,97,110,100,32]).size:Nat):Int)<=IntKind.i64.max/\∃ k l m,e.drew.cell? ⟨a,0,none⟩=some (.slice k l m)/\∃ n o p,e.drew.cell? ⟨b,15,none⟩=some (.slice n o p)/\ah n λ n=>0<=j/\j<(o:Int)/\∃ (o:I6),aa e.drew (Addr.add n ((j).toNat*6)) 0 o.vs/\Calls prog 60 #[.slice k l m,.agg o.vs.toArray] e.drew λ k l=>∃ m,k=.returned (.string m)/\(((i++(bs [100,101,109,97,110,100,32])).size+m.size:Nat):Int)<=IntKind.i64.max/\∃ k:ByteArray->World->Prop,(∀ n o,k o n->∀ p:Nat->Value,((o.size+(bs [10]).size:Nat):Int)<=IntKind.i64.max/\∃ p,p<g/\c (o++(bs [10])) (IntKind.i64.wrap (j+1)) n p)/\∃ c g n,l.cell? ⟨b,16,none⟩=some (.slice c g n)/\cond (decide (j<(g:Int))) (((((i++(bs [100,101,109,97,110,100,32]))++m).size+(bs [32]).size:Nat):Int)<=IntKind.i64.max/\∃ c g n,l.cell? ⟨b,16,none⟩=some (.slice c g n)/\ah c λ b=>0<=j/\j<(g:Int)/\∃ c,l.cell? (Addr.add b ((j).toNat*1))=some (.string c)/\(((((i++(bs [100,101,109,97,110,100,32]))++m)++(bs [32])).size+c.size:Nat):Int)<=IntKind.i64.max/\k ((((i++(bs [100,101,109,97,110,100,32]))++m)++(bs [32]))++c) l) (k ((i++(bs [100,101,109,97,110,100,32]))++m) l)) (K (.string i) e))))/\∃ b c e,d.cell? ⟨a,0,none⟩=some (.slice b c e)/\cond (decide (f<(c:Int))) (h (decide (f<6)) d) (h false d))
theorem nV{a1 l1 c1 a2 l2 c2 a3 l3 c3 a4 l4 c4 n1 n2 u1 u2 a5 l5 c5 a6 l6 c6 a7 l7 c7 w K}(h:o5 a1 l1 c1 a2 l2 c2 a3 l3 c3 a4 l4 c4 n1 n2 u1 u2 a5 l5 c5 a6 l6 c6 a7 l7 c7 w K):CP 26 #[.agg #[.slice a1 l1 c1,.slice a2 l2 c2,.slice a3 l3 c3,.slice a4 l4 c4],.agg (iv n1 :: iv n2 :: u1.on (u2.on [.slice a5 l5 c5,.slice a6 l6 c6,.slice a7 l7 c7]):List Value).toArray] w (K):=ai (aZ [(122,[(5,.s .str),(6,.s (.int .i64))]),(488,[(30,.s .bool)]),(250,[(5,.s .str),(7,.s (.int .i64))]),(506,[(5,.s .str),(8,.s (.int .i64))]),(16201,[(5,.s .str)])]) func26 (by kernel_rfl) (by kernel_rfl) h
def rH(a:Int)(w:World)(K:KP):Prop:=cond (a==0) (aI w (.cells #[.string (bs [101,120,99,101,115,115]),.string (bs [100,101,109,97,110,100,115]),.string (bs [110,97,109,101,115])] 9) λ b c=>K (.slice (some ⟨b,0,none⟩) 3 3) c) (cond (a==1) (aI w (.cells #[.string (bs [110,97,109,101,115])] 9) λ b c=>K (.slice (some ⟨b,0,none⟩) 1 1) c) (cond (a==2) (aI w (.cells #[.string (bs [100,101,109,97,110,100,115]),.string (bs [110,97,109,101,115])] 9) λ a b=>K (.slice (some ⟨a,0,none⟩) 2 2) b) (K (.slice none 0 0) w)))
theorem p6{n1 w K}(h:rH n1 w K):CP 29 #[iv n1] w (K):=ai (aZ []) func29 (by kernel_rfl) (by kernel_rfl) h
def iP(a:OA)(b c:Nat)(d:OA)(e f:Nat)(w:World)(K:KP):Prop:=cond ((b:Int) !=(e:Int)) (K (.bool false) w) (∃ c:Int->World->Nat->Prop,(∃ f,c 0 w f)/\∀ g f h,c h g f->∀ i:Nat->Value,cond (decide (h<(b:Int))) (ah a λ a=>0<=h/\h<(b:Int)/\∃ b,g.drew.cell? (Addr.add a ((h).toNat*1))=some (.string b)/\ah d λ a=>0<=h/\h<(e:Int)/\∃ d,g.drew.cell? (Addr.add a ((h).toNat*1))=some (.string d)/\cond (!(b.toList==d.toList)) (K (.bool false) g.drew) (∃ a,a<f/\c (IntKind.i64.wrap (h+1)) g.drew a)) (K (.bool true) g))
theorem jm{a1 l1 c1 a2 l2 c2 w K}(h:iP a1 l1 c1 a2 l2 c2 w K):CP 27 #[.slice a1 l1 c1,.slice a2 l2 c2] w (K):=ai (aZ [(58,[(5,.s (.int .i64))])]) func27 (by kernel_rfl) (by kernel_rfl) h
def vk(a b:Int)(c d:I6)(e:OA)(f g:Nat)(h:OA)(i j:Nat)(k:OA)(l m:Nat)(w:World)(K:KP):Prop:=aI w (.cells (iv a :: iv b :: c.on (d.on [.slice e f g,.slice h i j,.slice k l m]):List Value).toArray 44) λ a b=>aI b (.cells #[iv 0,iv 0,iv 0,iv 0,iv 0,iv 0,iv 0,iv 0,iv 0,iv 0,iv 0,iv 0,iv 0,iv 0,.slice none 0 0,.slice none 0 0,.slice none 0 0] 51) λ b c=>∃ d,c.cell? ⟨a,0,none⟩=some (iv d)/\∃ e,c.cell? ⟨a,1,none⟩=some (iv e)/\∃ (f:I6),aa c ⟨a,2,none⟩ 0 f.vs/\∃ (g:I6),aa c ⟨a,8,none⟩ 0 g.vs/\∃ h i j,c.cell? ⟨a,14,none⟩=some (.slice h i j)/\∃ k l m,c.cell? ⟨a,15,none⟩=some (.slice k l m)/\∃ n o p,c.cell? ⟨a,16,none⟩=some (.slice n o p)/\fS ⟨b,0,none⟩ 0 (iv d :: iv e :: f.on (g.on [.slice h i j,.slice k l m,.slice n o p])) c λ a=>∃ (c d:Int) (e f:I6) (g:OA) (h i:Nat) (j:OA) (k l:Nat) (m:OA) (n o:Nat),aa a ⟨b,0,none⟩ 0 (iv c :: iv d :: e.on (f.on [.slice g h i,.slice j k l,.slice m n o]))/\K (.agg (iv c :: iv d :: e.on (f.on [.slice g h i,.slice j k l,.slice m n o]):List Value).toArray) a
theorem qT{n1 n2 u1 u2 a1 l1 c1 a2 l2 c2 a3 l3 c3 w K}(h:vk n1 n2 u1 u2 a1 l1 c1 a2 l2 c2 a3 l3 c3 w K):CP 16 #[.agg (iv n1 :: iv n2 :: u1.on (u2.on [.slice a1 l1 c1,.slice a2 l2 c2,.slice a3 l3 c3]):List Value).toArray] w (K):=ai (aZ []) func16 (by kernel_rfl) (by kernel_rfl) h
end Go.Proofs.YtemiicbbbojdiaaGreatDoor
namespace Go.Proofs.YtemiicbbbojdiaaGreatDoor
open Go Go.Vc Go.Sort Go.RowKit _root_.Go.Proofs.Tryz
def sE(w:World):Prop:=Lib.TabIs prog w "internal/strconv.uint64pow10" .u64 Lib.pow10Tab
theorem lH(w:World)(k:Nat)(os:Array Obj):an w (grow (w.drewN k) os) [] :=
  ⟨by simp[grow,World.drewN],λ i hi _=>Array.getElem?_append_left hi,⟨rfl,rfl,rfl⟩⟩
theorem jy{w w' : World}(h:Below w.heap.size w w'):an w w' []:=⟨h.size,λ i hi _=>h.block i hi,⟨h.os,h.tape,h.output⟩⟩
theorem sE.au{w w' : World}(h:sE w)(hc:an w w' []):sE w':=by
  unfold sE Lib.TabIs World.var? at h ⊢
  cases hg:prog.globalNamed "internal/strconv.uint64pow10" with
  | none=>simp[hg] at h
  | some g =>
    simp only[hg,Option.bind_some] at h ⊢;have hlt:g<w.heap.size:=by
      rcases Nat.lt_or_ge g w.heap.size with h' | h'
      · exact h'
      · simp[Array.getElem?_eq_none h'] at h
    rw[hc.same g hlt (by simp)];exact h
section
variable {w:World}
theorem nF(ht:sE w){n:Int}(hn:In n):CP 55 #[iv n] w (λ r w'=>r=sv (Lib.itoa n)/\an w w' []) :=
  (Tryz.strconv_Itoa n hn.1 hn.2 w ht).mono λ _ _ ⟨he,k,os,hw⟩=>⟨_,he,rfl,hw▸lH w k os⟩
theorem vY(ht:sE w){n:Int}(hn:In n):CP 56 #[iv n,iv 10] w (λ r w'=>r=sv (Lib.itoa n)/\an w w' []) :=
  (Tryz.strconv_FormatInt_10 n hn.1 hn.2 w ht).mono λ _ _ ⟨he,k,os,hw⟩=>⟨_,he,rfl,hw▸lH w k os⟩
def kY(xs:List (List UInt8)):List UInt8:=Lib.join xs [32]++[10]
theorem wB{g o c:Nat}{xs:List (List UInt8)}(hcells:∀ (j:Nat) x,xs[j]? = some x->w.cell? ⟨g,o+j,none⟩=some (sv x))(hg:g<w.heap.size)(hc:xs.length<=c)(hN:xs.length<=1000000)(hl:(Lib.join xs [32]).length<=140737488355328) :
    CP 54 #[.slice (some ⟨g,o,none⟩) xs.length c] w (λ r w'=>r=sv (kY xs)/\an w w' []):=by
  refine rC ?_;unfold vu;have e1:(xs.map bs).map (·.data.toList)=xs:=by
    rw[List.map_map]
    conv=>rhs; rw[<- List.map_id xs]
    exact List.map_congr_left λ x _=>by simp[bs]
  have hj:=Tryz.strings_Join g o c (xs.map bs) (bs [32]) w (λ j x hx=>by
    rw[List.getElem?_map,Option.map_eq_some_iff] at hx;obtain⟨y,hy,rfl⟩:=hx;exact hcells j y hy) hg (by simp; omega) (by simpa using hc) (by rw[e1]; exact hl)
  rw[e1,List.length_map] at hj;refine hj.mono λ e w' ⟨he,hb⟩=>⟨_,he,?_,?_,jy hb⟩
  · have:(⟨(Lib.join xs (bs [32]).data.toList).toArray⟩:ByteArray).size=(Lib.join xs [32]).length:=by simp[ByteArray.size,bs]
    rw[this];have h2:(bs [10]).size=1:=rfl;rw[h2];have:IntKind.i64.max=9223372036854775807:=rfl;omega
  · congr 1
end
theorem mZ{n:Int}(h0:0<=n)(h1:n<18446744073709551616):IntKind.u64.wrap n=n:=by
  simp only[IntKind.wrap,IntKind.signed,IntKind.bits]
  simp
  omega
theorem nr{w0 w:World}{r:Nat}{x:Int}{R:KP}(h:St w0 w (Sep [aG r #[.int .u8 x] 5]))(k:R (.string ⟨#[UInt8.ofNat x.toNat]⟩) w):iT prog (convert 148 9 (.slice (some ⟨r,0,none⟩) 1 1)) w R:=by
  refine⟨_,w,?_,k⟩;have hr:=run_convert_bytes_arg (P:=prog) w 148 5 underlying148 underlying5 r 0 1 1 [x] rfl (λ i hi=>by
    obtain rfl:i=0:=by omega
    rw[h.af 0 rfl];rfl) 9 underlying9
  rw[hr];rfl
theorem xV:∀ (k u:Nat),u<10 ^ (k+1)->Lib.nDigits u<=k+1
  | 0,u,h=>by unfold Lib.nDigits; rw[dif_pos (by simpa using h)]; exact Nat.le_refl _
  | k+1,u,h=>by
    unfold Lib.nDigits
    split
    · omega
    · have:=xV k (u / 10) (by rw[Nat.pow_succ] at h; omega);omega
theorem qw{u:Nat}(h:u<18446744073709551616):(Lib.decDigits u).length<=20:=by
  rw[Lib.decDigits_length];exact xV 19 u (by omega)
theorem tr{v:Nat}(h : ¬ v<10):Lib.decDigits v=Lib.decDigits (v / 10)++[UInt8.ofNat (48+v%10)]:=by rw[Lib.decDigits,dif_neg h]
theorem lB{v:Nat}(h:v<10):UInt8.ofNat (IntKind.u8.wrap (IntKind.u64.wrap ((48:Int)+(v:Int)))).toNat=UInt8.ofNat (48+v):=by
  have:(IntKind.u8.wrap (IntKind.u64.wrap ((48:Int)+(v:Int))))=((48+v:Nat):Int):=by
    rw[mZ (by omega) (by omega)];simp only[IntKind.wrap,IntKind.signed,IntKind.bits]
    simp
    omega
  rw[this];rfl
theorem rJ(w:World)(u:Nat)(hu:u<18446744073709551616):CP 89 #[.int .u64 u] w (λ r w'=>r=sv (Lib.decDigits u)/\an w w' []):=by
  refine nS ?_;unfold oY;refine⟨λ n s w' m=>∃ (v:Nat) (l:List UInt8),n=v/\s=bs l/\v<=u/\m=v/\Lib.decDigits u=Lib.decDigits v++l/\an w w' [],⟨u,u,[],rfl,rfl,Nat.le_refl _,rfl,by simp,an.refl _ _⟩,?_⟩;rintro w1 m n s ⟨v,l,rfl,rfl,hv,hm,hd,hc⟩ -;have hl:l.length<=20:=by
    have:=qw hu;rw[hd,List.length_append] at this;omega
  have hls:(bs l).size=l.length:=by simp[bs,ByteArray.size]
  have hmax:IntKind.i64.max=9223372036854775807:=rfl
  by_cases h9:(v:Int)>9
  · refine cT (by simpa using h9) ⟨by omega,aE ?_⟩;have e1:Int.tmod (v:Int) 10=((v%10:Nat):Int):=by rw[Int.tmod_eq_emod_of_nonneg (by omega)]; rfl
    have e2:Int.tdiv (v:Int) 10=((v / 10:Nat):Int):=by rw[Int.tdiv_eq_ediv_of_nonneg (by omega)]; rfl
    have st:=(St.start' hc).one.cr #[(.int .u8 (IntKind.u8.wrap (IntKind.u64.wrap ((48:Int)+(Int.tmod (v:Int) (10:Int))))))] 5;have st0:St w1 (w1.alloc (.cells #[(.int .u8 (IntKind.u8.wrap (IntKind.u64.wrap ((48:Int)+(Int.tmod (v:Int) (10:Int))))))] 5)) (Sep [aG w1.heap.size #[(.int .u8 (IntKind.u8.wrap (IntKind.u64.wrap ((48:Int)+(Int.tmod (v:Int) (10:Int))))))] 5]) :=
      ((St.start w1).one.cr _ 5).weak (b6.pick [0] _)
    refine nr st0 ⟨_,rfl,?_,by omega,v / 10,?_,v / 10,UInt8.ofNat (48+v%10) :: l,?_,?_,by omega,rfl,?_,hc.trans st0.au (by simp)⟩
    · rw[hls,hmax];have:(⟨#[UInt8.ofNat (IntKind.u8.wrap (IntKind.u64.wrap ((48:Int)+(Int.tmod (v:Int) (10:Int))))).toNat]⟩:ByteArray).size=1:=rfl;rw[this];omega
    · omega
    · rw[e2,mZ (by omega) (by omega)]
    · rw[e1,lB (by omega)];apply ByteArray.ext;simp[bs]
    · rw[hd,tr (by omega)]
      simp
  · refine cF (by simpa using h9) (aE ?_);have st0:St w1 (w1.alloc (.cells #[(.int .u8 (IntKind.u8.wrap (IntKind.u64.wrap ((48:Int)+(v:Int)))))] 5)) (Sep [aG w1.heap.size #[(.int .u8 (IntKind.u8.wrap (IntKind.u64.wrap ((48:Int)+(v:Int)))))] 5]) :=
      ((St.start w1).one.cr _ 5).weak (b6.pick [0] _)
    refine nr st0 ⟨_,rfl,?_,?_,hc.trans st0.au (by simp)⟩
    · rw[hls,hmax];have:(⟨#[UInt8.ofNat (IntKind.u8.wrap (IntKind.u64.wrap ((48:Int)+(v:Int)))).toNat]⟩:ByteArray).size=1:=rfl;rw[this];omega
    · rw[lB (by omega),hd,Lib.decDigits_one (by omega)]
      congr 1
theorem kL(w:World){n:Int}(hn:In n):CP 59 #[iv n] w (λ r w'=>r=sv (Lib.itoa n)/\an w w' []):=by
  obtain⟨h0,h1⟩:=hn;refine nW ?_;unfold o6
  by_cases hneg:n<0
  · refine cT (by simpa using hneg) ?_;have hw1:IntKind.i64.wrap (n+1)=n+1:=by
      simp only[IntKind.wrap,IntKind.signed,IntKind.bits]; simp; omega
    have hw2:IntKind.i64.wrap (0-(n+1))=-(n+1):=by
      simp only[IntKind.wrap,IntKind.signed,IntKind.bits]; simp; omega
    have e:(IntKind.u64.wrap ((IntKind.u64.wrap (IntKind.i64.wrap (0-(IntKind.i64.wrap (n+(1:Int))))))+(1:Int)))=((n.natAbs:Nat):Int):=by
      rw[hw1,hw2,mZ (n:=-(n+1)) (by omega) (by omega),mZ (by omega) (by omega)];omega
    rw[e];refine aD (rJ w n.natAbs (by omega)) ?_;rintro _ w1 ⟨rfl,hc⟩;have hl:=qw (u:=n.natAbs) (by omega);refine⟨_,rfl,?_,?_,hc⟩
    · have h1:(bs [45]).size=1:=rfl;have h2:(bs (Lib.decDigits n.natAbs)).size=(Lib.decDigits n.natAbs).length:=by simp[bs,ByteArray.size]
      have hmax:IntKind.i64.max=9223372036854775807:=rfl;rw[h1,h2,hmax];omega
    · congr 1
      unfold Lib.itoa;rw[if_pos hneg];apply ByteArray.ext;simp[bs]
  · refine cF (by simpa using hneg) ?_;have e:IntKind.u64.wrap n=((n.toNat:Nat):Int):=by
      rw[mZ (by omega) (by omega)]; omega
    rw[e];refine aD (rJ w n.toNat (by omega)) ?_;rintro _ w1 ⟨rfl,hc⟩;refine⟨_,rfl,?_,hc⟩;unfold Lib.itoa;rw[if_neg hneg]
end Go.Proofs.YtemiicbbbojdiaaGreatDoor
namespace Go.Proofs.YtemiicbbbojdiaaGreatDoor
open Go Go.Vc _root_.Go.Proofs.Tryz
abbrev sT (r:List UInt8):List Value:=[sv r]
theorem cY(r:List UInt8):(sT r).length=1:=rfl
theorem rU(r:List UInt8):∀ v∈sT r,v.oneCell' = true:=by intro v hv; simp at hv; subst hv; rfl
theorem ym:qi prog 42 9 (sv []) 1 16:=qi.mk' underlying42 (by kernel_rfl) rfl (by decide)
abbrev n9 (a:OA) (c:Nat) (l:List (List UInt8)):aQ:=xo 9 1 sT a c l
theorem eZ{w:World}{a:OA}{l:List (List UInt8)}(h:jg 1 sT w a l){i:Nat}{x:List UInt8}(hx:l[i]? = some x):∃ q,a=some q/\w.cell? (Addr.add q (i*1))=some (sv x):=by
  obtain⟨q,hq,hc⟩:=h.at hx;exact⟨q,hq,by have:=hc.1; rwa [Addr.add_add,Nat.add_zero] at this⟩
theorem bF(l:List UInt8):(bs l).size=l.length:=by simp[bs,ByteArray.size]
theorem bI:IntKind.i64.max=9223372036854775807:=rfl
theorem oM{w:World}{b i:Nat}{v:Value}(h:w.cell? ⟨b,i,none⟩=some v):b<w.heap.size:=by
  rcases Nat.lt_or_ge b w.heap.size with h' | h'
  · exact h'
  · rw[cP,Array.getElem?_eq_none h'] at h;simp[tL] at h
def fK(n:Nat)(u:I6):Bool:=u.l.all eE&&(List.range 6).all λ k=>decide (k<n)||decide (u.at' k=0)
theorem ox{n:Nat}{u:I6}(hq:u.l.all eE=true)(h:∀ j,j<6->n<=j->u.at' j=0):fK n u=true:=by
  unfold fK;rw[hq,Bool.true_and];refine List.all_eq_true.2 λ k hk=>?_;have hk:=List.mem_range.1 hk
  by_cases g:k<n
  · simp[g]
  · simp[h k hk (by omega)]
theorem qB{n k:Nat}{u:I6}(hk:k<6)(hz : ¬ (n<=k->u.at' k=0)):fK n u=false:=by
  unfold fK;have:((List.range 6).all λ k=>decide (k<n)||decide (u.at' k=0))=false:=by
    refine List.all_eq_false.2 ⟨k,List.mem_range.2 hk,?_⟩;have h1 : ¬ k<n:=λ h=>hz λ h2=>by omega
    have h2 : ¬ u.at' k=0:=λ h=>hz λ _=>h;simp[h1,h2]
  rw[this,Bool.and_false]
theorem ow{n:Nat}{u:I6}(hq : ¬ u.l.all eE=true):fK n u=false:=by unfold fK; rw[(Bool.not_eq_true _).mp hq]; rfl
theorem ve{n:Nat}{u:I6}(h:fK n u=true):u.l.all eE=true:=by unfold fK at h; exact(Bool.and_eq_true_iff.1 h).1
def cg(l:List Pr)(u:I6):Nat->List (List UInt8)
  | 0=>[]
  | k+1=>cg l u k++(if 0<u.at' k then [((l[k]?.map Pr.nm).getD [])++[58]++[UInt8.ofNat (48+(u.at' k).toNat)]] else [])
theorem kE{l:List Pr}{u:I6}{k:Nat}{x:Pr}(hx:l[k]? = some x)(h:u.at' k>0):cg l u (k+1)=cg l u k++[x.nm++[58]++[UInt8.ofNat (48+(u.at' k).toNat)]]:=by
  show cg l u k++_=_;rw[if_pos h,hx]; rfl
theorem kD{l:List Pr}{u:I6}{k:Nat}(h : ¬ u.at' k>0):cg l u (k+1)=cg l u k:=by
  show cg l u k++_=_;rw[if_neg h,List.append_nil]
theorem gW(l:List Pr)(u:I6):∀ k,(cg l u k).length<=k
  | 0=>Nat.le_refl _
  | k+1=>by
    have:=gW l u k
    by_cases h:u.at' k>0
    · show(cg l u k++_).length<=_;rw[if_pos h,List.length_append,List.length_singleton]; omega
    · rw[kD h]; omega
theorem iJ{l:List Pr}(ho:bn l){k:Nat}{x:Pr}(hx:l[k]? = some x):x.nm.length<=12:=by
  have:=(ho.good k x hx).1;simp only[gL,aK,Bool.and_eq_true,decide_eq_true_eq] at this;exact this.1.2.1
theorem eX{l:List Pr}{u:I6}(ho:bn l):∀ {k:Nat},k<=l.length->∀ y∈cg l u k,1<=y.length/\y.length<=14
  | 0,_,y,hy=>by simp[cg] at hy
  | k+1,hk,y,hy=>by
    have hx:l[k]? = some (l[k]'(by omega)):=gE (by omega);generalize l[k]'(by omega)=x at hx
    by_cases h:u.at' k>0
    · rw[kE hx h] at hy;rcases List.mem_append.1 hy with hy | hy
      · exact eX ho (by omega) y hy
      · have hn:=iJ ho hx;rw[List.mem_singleton.1 hy];simp only[List.length_append,List.length_singleton]; omega
    · rw[kD h] at hy;exact eX ho (by omega) y hy
theorem pP(xs:List (List UInt8))(x sep:List UInt8):Lib.join (xs++[x]) sep=if xs=[] then x else Lib.join xs sep++sep++x:=by
  cases xs with
  | nil=>rw[if_pos rfl,List.nil_append,Lib.join_one]
  | cons y r =>
    rw[if_neg (by simp),List.cons_append,Lib.join_cons,Lib.join_cons];simp[Lib.joinTail]
theorem join_le:∀ {xs:List (List UInt8)} {sep:List UInt8} {m:Nat},(∀ y∈xs,y.length<=m)->(Lib.join xs sep).length<=xs.length*(m+sep.length)
  | [],_,_,_=>by simp[Lib.join_nil]
  | x :: r,sep,m,h=>by
    have hx:=h x (by simp);have hl:Lib.lens r<=r.length*m:=by
      clear hx
      induction r with
      | nil=>simp[Lib.lens]
      | cons y r ih =>
        have h1:=ih λ z hz=>h z (by rcases List.mem_cons.1 hz with rfl | hz; exact List.mem_cons_self ..; exact List.mem_cons_of_mem _ (List.mem_cons_of_mem _ hz));have h2:=h y (by simp);simp only[Lib.lens,List.map_cons,List.sum_cons,List.length_cons] at h1 ⊢;rw[Nat.succ_mul]; omega
    rw[Lib.join_length];have e:Lib.lens (x :: r)=x.length+Lib.lens r:=by simp[Lib.lens]
    have e2:sep.length*r.length=r.length*sep.length:=Nat.mul_comm _ _;rw[e,List.length_cons,Nat.succ_mul,Nat.mul_add,e2];omega
def j7(l:List Pr)(u:I6):List UInt8:=if fK l.length u=true then [123]++Lib.join (cg l u l.length) [44]++[125] else []
theorem gQ{l:List Pr}(ho:bn l)(u:I6):(j7 l u).length<=100:=by
  unfold j7
  split
  · have h1:=join_le (xs:=cg l u l.length) (sep:=[44]) (m:=14) λ y hy=>(eX ho (Nat.le_refl _) y hy).2;have h2:=gW l u l.length;have h3:=ho.l2;simp only[List.length_append,List.length_singleton] at h1 ⊢;omega
  · simp
theorem vZ(w:World)(a:OA)(c n:Nat)(u:I6):CP 86 #[.slice a n c,.agg u.vs.toArray] w (λ r w'=>r=.bool (fK n u)/\an w w' []):=by
  refine p4 ?_;unfold rA;refine(St.start w).one.bX u.vs.toArray λ r1 w1 s1=>?_;refine⟨u,s1.cellsIn 0 rfl,aD (lz w1 u) ?_⟩;rintro v w2 ⟨rfl,c2⟩;have s2:=s1.quiet c2;refine⟨_,rfl,?_⟩
  by_cases hq:u.l.all eE=true
  · rw[if_pos hq];refine cF rfl ⟨u,s2.cellsIn 0 rfl,λ n2 w3 m=>∃ k:Nat,n2=k/\k<=6/\m=6-k/\(∀ j,j<k->n<=j->u.at' j=0)/\an w w3 [],⟨6,0,rfl,by omega,by omega,λ j hj=>by omega,s2.au⟩,?_⟩;rintro w3 m n2 ⟨k,rfl,hk,hm,ha,hc⟩ -
    by_cases hlt:(k:Int)<6
    · have hk' : k<6:=by omega
      refine cT (dT hlt) ⟨by omega,by omega,u.at' k,u.get k hk',λ b w4=>w4=w3/\b = !decide (n<=k->u.at' k=0),?_,?_⟩
      · rintro w4 b ⟨rfl,rfl⟩ -
        by_cases hz:n<=k->u.at' k=0
        · rw[dT hz];refine cF rfl ⟨6-(k+1),by omega,k+1,inc (by decide) hk',by omega,rfl,λ j hj hn=>?_,hc⟩;rcases Nat.lt_or_ge j k with h | h
          · exact ha j h hn
          · obtain rfl:j=k:=by omega
            exact hz hn
        · rw[dF hz];exact cT rfl ⟨by rw[qB hk' hz],hc⟩
      · by_cases hn:n<=k
        · refine cT (dT (by omega)) ⟨rfl,?_⟩
          by_cases h0:u.at' k=0
          · simp[h0]
          · simp[h0,hn]
        · exact cF (dF (by omega)) ⟨rfl,by simp[hn]⟩
    · obtain rfl:k=6:=by omega
      exact cF (dF hlt) ⟨by rw[ox hq ha],hc⟩
  · rw[if_neg hq];exact cT rfl ⟨by rw[ow hq],s2.au⟩
theorem xB{n:Int}(h0:0<=n)(h4:n<=4):UInt8.ofNat (IntKind.u8.wrap (IntKind.i64.wrap ((48:Int)+n))).toNat=UInt8.ofNat (48+n.toNat):=by
  have:IntKind.u8.wrap (IntKind.i64.wrap ((48:Int)+n))=((48+n.toNat:Nat):Int):=by
    rw[aH ⟨by omega,by omega⟩];simp only[IntKind.wrap,IntKind.signed,IntKind.bits]
    simp
    omega
  rw[this]; rfl
theorem uK{w0 w:World}{a:OA}{c:Nat}{xs:List (List UInt8)}{B:aQ}(s:St w0 w (star (n9 a c xs) B))(sep:List UInt8)(hN:xs.length<=1000000)(hl:(Lib.join xs sep).length<=140737488355328) :
    CP 83 #[.slice a xs.length c,sv sep] w (λ r w'=>r=sv (Lib.join xs sep)/\an w w' []):=by
  have own:=s.rowOf
  cases xs with
  | nil =>
    exact(Tryz.strings_Join_none a c (bs sep) w).mono λ _ _ ⟨he,hw⟩=>⟨_,he,rfl,hw▸an.refl _ _⟩
  | cons x r =>
    obtain⟨g,rfl,hget⟩:=kO own (by simp);have e1:((x :: r).map bs).map (·.data.toList)=x :: r:=by
      rw[List.map_map]
      conv=>rhs; rw[<- List.map_id (x :: r)]
      exact List.map_congr_left λ x _=>by simp[bs]
    have hg:g<w.heap.size:=oM (hget 0 (sv x) rfl);have hj:=Tryz.strings_Join g 0 c ((x :: r).map bs) (bs sep) w (λ j y hy=>by
      rw[List.getElem?_map,Option.map_eq_some_iff] at hy;obtain⟨z,hz,rfl⟩:=hy;have:=(s.rd cY).at hz;obtain⟨q,hq,hc⟩:=this
      cases hq
      have:=hc.1;rw[cD,cD] at this;simpa using this) hg (by simp; simp at hN; omega) (by simpa using(mQ own).1) (by rw[e1]; simpa[bs] using hl)
    rw[e1,List.length_map] at hj;refine hj.mono λ e w' ⟨he,hb⟩=>⟨_,he,?_,jy hb⟩;simp[bs]
theorem jx{w:World}{a:OA}{c:Nat}{l:List Pr}(h:ff w a l)(hcap:l.length<=c)(ho:bn l)(u:I6) :
    CP 57 #[.slice a l.length c,.agg u.vs.toArray] w (λ r w'=>r=sv (j7 l u)/\an w w' []):=by
  refine mq ?_;unfold mo;have h6:=ho.l2;refine(St.start w).one.bX u.vs.toArray λ r1 w1 s1=>?_;refine⟨λ b w2=>b = !fK l.length u/\St w w2 (Sep [aG r1 u.vs.toArray 39,emp]),?_,aD (qv (h.au s1.au) hcap) ?_⟩
  · rintro w2 b ⟨rfl,s2⟩ -
    cases hf:fK l.length u with
    | false=>exact cT rfl ⟨by unfold j7; rw[hf]; rfl,s2.au⟩
    | true =>
      have hle:=zL (ve hf);refine cF rfl ⟨λ a2 l2 c2 n1 w3 m=>∃ k:Nat,n1=k/\k<=l.length/\m=l.length-k/\l2=(cg l u k).length/\St w w3 (Sep [n9 a2 c2 (cg l u k),aG r1 u.vs.toArray 39,emp]),⟨l.length,0,rfl,by omega,by omega,rfl,St.yh s2⟩,?_⟩;rintro w3 m a2 l2 c2 n1 ⟨k,rfl,hk,hm,rfl,s3⟩ -;have hpl:=gW l u k
      by_cases hlt:(k:Int)<(l.length:Int)
      · have hx:l[k]? = some (l[k]'(by omega)):=gE (by omega);generalize l[k]'(by omega)=x at hx;have hk6:k<6:=by omega
        have hn:=iJ ho hx;obtain⟨h0,h4⟩:=hle k hk6;obtain⟨_,q,rfl,hcl⟩:=(h.au s3.au) k x hx;refine cT (dT hlt) ⟨λ a3 l3 c3 w4=>l3=(cg l u (k+1)).length/\St w w4 (Sep [n9 a3 c3 (cg l u (k+1)),aG r1 u.vs.toArray 39,emp]),?_,?_⟩
        · rintro w4 a3 l3 c3 ⟨rfl,s4⟩ -;exact⟨l.length-(k+1),by omega,k+1,aH ⟨by omega,by omega⟩,by omega,rfl,rfl,s4⟩
        · refine⟨by omega,by omega,_,_,_,_,_,hcl,s3.bX ({ nm:=[],sup:=0,res:=0,pts:=0,grp:=0 }:Pr).cells.toArray λ r2 w4 s4=>s4.bP 0 rfl x.cells rfl x.one λ w5 s5=>?_⟩;refine⟨by omega,by omega,u.at' k,by rw[uV,cv s5 2 rfl hk6],?_⟩
          by_cases hp:u.at' k>0
          · have s6:=s5.quiet (an.drew _ _);refine cT (dT hp) ⟨bs x.nm,s6.af 0 rfl 0,by rw[bF,bF,bI]; simp only[List.length_singleton]; omega,by omega,by omega,u.at' k,by rw[uV,cv s6 2 rfl hk6],s6.af 0 rfl 0,s6.bX _ λ r3 w7 s7=>⟨s7.af 1 rfl 0,?_⟩⟩;refine nr (s7.dn [0]) ⟨_,rfl,s7.af 1 rfl 0,?_,?_⟩
            · rw[ay,bF,bI];have e2:∀ b:UInt8,(⟨#[b]⟩:ByteArray).size=1:=λ _=>rfl;rw[e2,List.length_append,List.length_singleton]; omega
            · rw[kE hx hp];refine lg ym cY (x:=x.nm++[58]++[UInt8.ofNat (48+(u.at' k).toNat)]) (rU _) ((s7.out 2 rfl)) (by omega) (by omega) (λ a' c' w' s8=>?_) ?_
              · have s9:St w w' (Sep [aG r3 _ _,aG r2 _ _,n9 a' c' _,aG r1 u.vs.toArray 39,emp]):=s8.back (i:=2) (by show 2<5; decide);exact⟨rfl,s9.dn [2,3,4]⟩
              · rw[xB h0 h4,ay]
                congr 1
          · refine cF (dF hp) ?_;rw[kD hp];exact⟨rfl,s5.dn [1,2,3]⟩
      · obtain rfl:k=l.length:=by omega
        have hj:=join_le (xs:=cg l u l.length) (sep:=[44]) (m:=14) λ y hy=>(eX ho (Nat.le_refl _) y hy).2;have hj:(Lib.join (cg l u l.length) [44]).length<=100:=by simp only[List.length_singleton] at hj; omega
        refine cF (dF hlt) (aD (uK (s3.out 0 rfl) [44] (by omega) (by omega)) ?_);rintro v w4 ⟨rfl,c4⟩;refine⟨_,rfl,?_,?_,?_,s3.au.trans c4 (by simp)⟩
        · rw[bF,bF,bI]; simp only[List.length_singleton]; omega
        · rw[ay,bF,bF,bI]; simp only[List.length_append,List.length_singleton]; omega
        · rw[ay,ay]; unfold j7; rw[if_pos hf]
  · rintro v w2 ⟨⟨n,rfl,hn⟩,c2⟩;have s2:=s1.quiet c2;refine⟨_,rfl,cF (by rw[hn.2 ho]; rfl) ⟨u,s2.cellsIn 0 rfl,aD (vZ w2 a c l.length u) ?_⟩⟩;rintro v w3 ⟨rfl,c3⟩;exact⟨_,rfl,rfl,s2.quiet c3⟩
theorem rM(w:World)(u:I6):CP 130 #[.agg u.vs.toArray] w (λ r w'=>r=.bool (u.l.all eE)/\an w w' []):=by
  refine mO ?_;unfold mN;refine(St.start w).one.bX u.vs.toArray λ r1 w1 s1=>?_;refine⟨λ n w2 m=>∃ k:Nat,n=k/\k<=6/\m=6-k/\(u.l.take k).all eE=true/\St w w2 (Sep [aG r1 u.vs.toArray 39,emp]),⟨6,0,rfl,by omega,by omega,rfl,s1⟩,?_⟩;rintro w2 m n ⟨k,rfl,hk,hm,ha,s2⟩ -
  by_cases hlt:(k:Int)<6
  · have hk' : k<6:=by omega
    have g2:=u.gK k hk';refine cT (dT hlt) ⟨λ b w3=>b = !eE (u.at' k)/\St w w3 (Sep [aG r1 u.vs.toArray 39,emp]),?_,by omega,by omega,u.at' k,by rw[uV,cv s2 0 rfl hk'],?_⟩
    · rintro w3 b ⟨rfl,s3⟩ -
      cases hx:eE (u.at' k) with
      | true=>exact cF rfl ⟨6-(k+1),by omega,k+1,inc (by decide) hk',by omega,rfl,jt ha g2 hx,s3⟩
      | false=>exact cT rfl ⟨by rw[k9 g2 hx],St.au s3⟩
    · by_cases h0:u.at' k<0
      · exact cT (dT h0) ⟨by simp[eE]; omega,s2⟩
      · refine cF (dF h0) ⟨by omega,by omega,u.at' k,by rw[uV,cv s2 0 rfl hk'],?_,s2⟩;unfold eE;rw[dT (show 0<=u.at' k by omega),Bool.true_and]
        by_cases h4:u.at' k<=4
        · rw[dT h4,dF (by omega)]; rfl
        · rw[dF h4,dT (by omega)]; rfl
  · obtain rfl:k=6:=by omega
    refine cF (dF hlt) ⟨?_,St.au s2⟩;rw[show u.l.all eE=true from ha]
theorem uD{w:World}{a:OA}{c:Nat}{l:List Pr}(h:ff w a l)(ho:bn l)(u:I6) :
    CP 90 #[.slice a l.length c,.agg u.vs.toArray] w (λ r w'=>r=.bool (fK l.length u)/\an w w' []):=by
  refine nU ?_;unfold o4;have h6:=ho.l2;refine(St.start w).one.bX u.vs.toArray λ r1 w1 s1=>?_;refine⟨λ n w2 m=>∃ k:Nat,n=k/\k<=6/\l.length<=k/\m=6-k/\(∀ j,j<k->l.length<=j->u.at' j=0)/\St w w2 (Sep [aG r1 u.vs.toArray 39,emp]),⟨6-l.length,l.length,rfl,by omega,Nat.le_refl _,rfl,λ j hj hn=>by omega,s1⟩,?_⟩;rintro w2 m n ⟨k,rfl,hk,hlk,hm,ha,s2⟩ -
  by_cases hlt:(k:Int)<6
  · have hk' : k<6:=by omega
    refine cT (dT hlt) ⟨by omega,by omega,u.at' k,by rw[uV,cv s2 0 rfl hk'],?_⟩
    by_cases h0:u.at' k=0
    · refine cF (by simp[h0]) ⟨6-(k+1),by omega,k+1,inc (by decide) hk',by omega,by omega,rfl,λ j hj hn=>?_,s2⟩;rcases Nat.lt_or_ge j k with h' | h'
      · exact ha j h' hn
      · obtain rfl:j=k:=by omega
        exact h0
    · exact cT (by simpa using h0) ⟨by rw[qB hk' (λ h=>h0 (h hlk))],s2.au⟩
  · obtain rfl:k=6:=by omega
    refine cF (dF hlt) (aD (iQ (h.au s2.au)) ?_);rintro v w3 ⟨⟨n,rfl,hn⟩,c3⟩;have s3:=s2.quiet c3;refine⟨_,rfl,cT (by rw[hn.2 ho]; rfl) ⟨u,s3.cellsIn 0 rfl,aD (rM w3 u) ?_⟩⟩;rintro v w4 ⟨rfl,c4⟩;refine⟨_,rfl,?_,(s3.quiet c4).au⟩
    congr 1
    by_cases hq:u.l.all eE=true
    · rw[hq,ox hq ha]
    · rw[ow hq]; exact(Bool.not_eq_true _).mp hq
theorem oq{n:Int}(h0:0<=n)(h4:n<=4):(bs [48,49,50,51,52]).extract n.toNat (IntKind.i64.wrap (n+(1:Int))).toNat=bs [UInt8.ofNat (48+n.toNat)]:=by
  rw[aH ⟨by omega,by omega⟩,qq];have:n=0\/n=1\/n=2\/n=3\/n=4:=by omega
  rcases this with rfl | rfl | rfl | rfl | rfl<;>rfl
theorem ur{xs:List (List UInt8)}{sep:List UInt8}(h:xs≠[])(h1:∀ y∈xs,1<=y.length):Lib.join xs sep≠[]:=by
  cases xs with
  | nil=>exact absurd rfl h
  | cons x r =>
    intro e;have:=congrArg List.length e;rw[Lib.join_cons,List.length_append,List.length_nil] at this;have:=h1 x (by simp);omega
theorem gC{w:World}{a:OA}{c:Nat}{l:List Pr}(h:ff w a l)(ho:bn l)(u:I6) :
    CP 60 #[.slice a l.length c,.agg u.vs.toArray] w (λ r w'=>r=sv (j7 l u)/\an w w' []):=by
  refine kH ?_;unfold jH;have h6:=ho.l2;refine(St.start w).one.bX u.vs.toArray λ r1 w1 s1=>⟨u,s1.cellsIn 0 rfl,aD (uD (h.au s1.au) ho u) ?_⟩;rintro v w2 ⟨rfl,c2⟩;have s2:=s1.quiet c2;refine⟨_,rfl,?_⟩
  cases hf:fK l.length u with
  | false=>exact cT rfl ⟨by unfold j7; rw[hf]; rfl,s2.au⟩
  | true =>
    have hle:=zL (ve hf);have jl:∀ k,k<=l.length->(Lib.join (cg l u k) [44]).length<=100:=λ k hk=>by
      have h1:=join_le (xs:=cg l u k) (sep:=[44]) (m:=14) λ y hy=>(eX ho hk y hy).2;have h2:=gW l u k;simp only[List.length_singleton] at h1;omega
    refine cF rfl ⟨λ s n w3 m=>∃ k:Nat,n=k/\s=bs (Lib.join (cg l u k) [44])/\k<=l.length/\m=l.length-k/\St w w3 (Sep [aG r1 u.vs.toArray 39,emp]),⟨l.length,0,rfl,rfl,by omega,by omega,s2⟩,?_⟩;rintro w3 m s n ⟨k,rfl,rfl,hk,hm,s3⟩ -;have hjk:=jl k hk
    by_cases hlt:(k:Int)<(l.length:Int)
    · have hx:l[k]? = some (l[k]'(by omega)):=gE (by omega);generalize l[k]'(by omega)=x at hx;have hk6:k<6:=by omega
      have hn:=iJ ho hx;obtain⟨h0,h4⟩:=hle k hk6;refine cT (dT hlt) ⟨λ s2 w4=>s2=bs (Lib.join (cg l u (k+1)) [44])/\St w w4 (Sep [aG r1 u.vs.toArray 39,emp]),?_,by omega,by omega,u.at' k,by rw[uV,cv s3 0 rfl hk6],?_⟩
      · rintro w4 s2 ⟨rfl,s4⟩ -;exact⟨l.length-(k+1),by omega,k+1,aH ⟨by omega,by omega⟩,rfl,by omega,rfl,s4⟩
      · by_cases hp:u.at' k>0
        · obtain⟨p,hpe,hpl⟩:∃ p:List UInt8,p=(if cg l u k=[] then [] else Lib.join (cg l u k) [44]++[44])/\p.length<=101:=by
            refine⟨_,rfl,?_⟩
            split
            · simp
            · rw[List.length_append,List.length_singleton]; omega
          refine cT (dT hp) ⟨λ s3 w5=>s3=bs p/\St w w5 (Sep [aG r1 u.vs.toArray 39,emp]),?_,?_⟩
          · rintro w5 s3 ⟨rfl,s5⟩ -;have s6:=s5.quiet (an.drew _ _);obtain⟨_,q,rfl,hcl⟩:=(h.au s6.au) k x hx;refine⟨by omega,by omega,bs x.nm,by have:=hcl.1; rwa [Addr.add_add] at this,?_,?_,by omega,by omega,u.at' k,by rw[uV,cv s6 0 rfl hk6],by omega,by omega,u.at' k,by rw[uV,cv s6 0 rfl hk6],?_,?_,h0,?_,?_,?_,s6⟩
            · rw[bF,bF,bI]; omega
            · rw[ay,bF,bF,bI,List.length_append,List.length_singleton]; omega
            · rw[aH ⟨by omega,by omega⟩]; omega
            · rw[aH ⟨by omega,by omega⟩,bF]; simp only[List.length_cons,List.length_nil]; omega
            · rw[aH ⟨by omega,by omega⟩]; omega
            · rw[oq h0 h4,ay,ay,bF,bF,bI]; simp only[List.length_append,List.length_singleton]; omega
            · rw[oq h0 h4,ay,ay,ay,kE hx hp,pP,hpe]
              congr 1
              split
              · simp
              · simp
          · by_cases he:cg l u k=[]
            · refine cF (by rw[gO,gO,he]; rfl) ⟨by rw[hpe,if_pos he,he]; rfl,s3⟩
            · have hne:Lib.join (cg l u k) [44]≠[]:=ur he λ y hy=>(eX ho hk y hy).1;refine cT (by rw[gO,gO]; simpa using hne) ⟨by rw[bF,bF,bI]; simp only[List.length_singleton]; omega,by rw[hpe,if_neg he,ay],s3⟩
        · refine cF (dF hp) ⟨by rw[kD hp],s3⟩
    · obtain rfl:k=l.length:=by omega
      refine cF (dF hlt) ⟨?_,?_,?_,s3.au⟩
      · rw[bF,bF,bI]; simp only[List.length_singleton]; omega
      · rw[ay,bF,bF,bI]; simp only[List.length_append,List.length_singleton]; omega
      · rw[ay,ay]; unfold j7; rw[if_pos hf]
theorem nY{w:World}{s:Se}(h:s.In w):CP 58 #[.agg s.arr] w ((k7 s.Ok w)):=by
  refine mK ?_;unfold mJ;refine aE ?_;have s1:=(St.start w).one.cr #[.slice s.a1 s.ps.length s.c1,.slice s.a2 s.bd.length s.c2,.slice s.a3 s.cp.length s.c3,.slice s.a4 s.sa.length s.c4] 34;generalize hw1:w.alloc _=w1 at s1 ⊢;generalize hr1:w.heap.size=r1 at s1 ⊢;have cb:∀ {w' : World},an w1 w' []->∀ (j:Nat) (v:Value),(#[.slice s.a1 s.ps.length s.c1,.slice s.a2 s.bd.length s.c2,.slice s.a3 s.cp.length s.c3,.slice s.a4 s.sa.length s.c4]:Array Value)[j]? = some v->w'.cell? ⟨r1,j,none⟩=some v:=λ hc j v hv=>bG (by rw[s1.af 0 rfl]; exact hv) hc;have z1:an w1 w1 []:=an.refl _ _;refine⟨_,_,_,cb z1 0 _ rfl,aD (iQ (h.au s1.au).ps) ?_⟩;rintro v w2 ⟨⟨n1,rfl,e1⟩,d2⟩;refine⟨_,rfl,λ n2 w3=>an w1 w3 []/\((n2=0/\bn s.ps/\jr s.bd)\/(n2≠0/\¬ s.Ok)),?_,?_⟩
  · rintro w3 n2 ⟨d3,hn⟩ -;rcases hn with⟨rfl,hP,hB⟩ | ⟨h0,hno⟩
    · refine cF rfl ⟨_,_,_,cb d3 2 _ rfl,?_⟩;rcases Nat.lt_or_ge 16 s.cp.length with h6 | h6
      · exact cT (dT (by omega)) (aO (by decide) (λ hp=>by have:=hp.cp.l1; omega) (s1.au.trans d3 (by simp)))
      refine cF (dF (by omega)) ⟨λ n w2 m=>∃ k:Nat,n=k/\k<=s.cp.length/\m=s.cp.length-k/\(∀ i p,i<k->s.cp[i]? = some p->js s.bd.length s.cp i p)/\an w1 w2 [],⟨s.cp.length,0,rfl,by omega,by omega,λ i p hi=>by omega,d3⟩,?_⟩;rintro w2 m n ⟨k,rfl,hk,hm,ha,hc⟩ -;have hcw:an w w2 []:=s1.au.trans hc (by simp);refine⟨_,_,_,cb hc 2 _ rfl,?_⟩
      by_cases hlt:(k:Int)<(s.cp.length:Int)
      · have hx:s.cp[k]? = some (s.cp[k]'(by omega)):=gE (by omega);generalize s.cp[k]'(by omega)=x at hx;obtain⟨q,hq,hcl⟩:=(h.cp.au hcw) k x hx;have bad : ¬ js s.bd.length s.cp k x->¬ s.Ok:=λ hb hp=>hb (hp.cp.good k x hx);have tAt:∀ {w' : World},an w w' []->∀ (j:Nat) (y:T3),s.cp[j]? = some y->w'.cell? (q.add (j*3))=some (iv y.a)/\w'.cell? ((q.add (j*3)).add 1)=some (iv y.b):=λ hc' j y hy=>by
          obtain⟨q',hq',hcl'⟩:=(h.cp.au hc') j y hy;rw[hq] at hq'; cases hq';have:=hcl'.1;exact⟨by rwa [Addr.add_add] at this,hcl'.2.1⟩
        refine cT (by simpa using hlt) ⟨_,_,_,cb hc 2 _ rfl,?_⟩;rw[hq];refine⟨by omega,by omega,_,_,_,hcl,aE ?_⟩;refine((St.start w2).one.cr _ 95).bP 0 rfl x.cells rfl x.one λ w4 s4=>?_;generalize hr2:w2.heap.size=r2 at s4 ⊢;have d4:an w1 w4 []:=hc.trans s4.au (by simp);have cw4:an w w4 []:=s1.au.trans d4 (by simp);have cx:∀ {w' : World},an w4 w' []->∀ (j:Nat) (v:Value),x.cells[j]? = some v->w'.cell? ⟨r2,j,none⟩=some v:=λ hc j v hv=>bG (by rw[s4.af 0 rfl]; simpa using hv) hc;have z4:an w4 w4 []:=an.refl _ _;refine⟨λ b w5=>w5=w4/\b = !(decide (-1<=x.a)&&decide (x.a<(s.bd.length:Int))),?_,?_⟩
        · rintro w5 b ⟨rfl,rfl⟩ -
          cases g0:(decide (-1<=x.a)&&decide (x.a<(s.bd.length:Int))) with
          | false=>exact cT rfl (aO (by decide) (bad λ hg=>by have:=hg.1; unfold gx at this; rw[g0] at this; cases this) cw4)
          | true =>
            have d45:an w5 w5 []:=an.refl _ _;refine cF rfl ⟨λ b w6=>w6=w5/\b = !((decide (0<=x.b)&&decide (x.b<=4))&&(decide (0<=x.c)&&decide (x.c<=24))),?_,?_⟩
            · rintro w6 b ⟨rfl,rfl⟩ -
              cases g1:((decide (0<=x.b)&&decide (x.b<=4))&&(decide (0<=x.c)&&decide (x.c<=24))) with
              | false=>exact cT rfl (aO (by decide) (bad λ hg=>by have:=hg.1; unfold gx at this; rw[g0,g1] at this; cases this) (cw4.trans d45 (by simp)))
              | true =>
                refine cF rfl ⟨λ n w7 m=>∃ j:Nat,n=j/\j<=k/\m=k-j/\(s.cp.take j).any (λ p=>bq x p)=false/\an w6 w7 [],⟨k,0,rfl,by omega,by omega,rfl,d45⟩,?_⟩;rintro w7 m7 n7 ⟨j,rfl,hj,hm7,hany,c7⟩ -
                by_cases hjk:(j:Int)<(k:Int)
                · have hy:s.cp[j]? = some (s.cp[j]'(by omega)):=gE (by omega);generalize s.cp[j]'(by omega)=y at hy;have c8:an w6 w7.drew []:=c7.trans (an.drew w7 []) (by simp);have e8:an w w7.drew []:=cw4.trans c8 (by simp);have hit:bq x y=true->¬ s.Ok:=λ hs=>bad λ hg=>by
                    have h1:=hg.2;have h2:(s.cp.take k)[j]? = some y:=by rw[List.getElem?_take,if_pos (by omega)]; exact hy
                    rw[de (p:=λ q=>bq x q) h2 hs] at h1
                    cases h1
                  refine cT (by simpa using hjk) ⟨λ b w10=>w10=w7.drew/\b=bq x y,?_,_,_,_,cb (d4.trans c8 (by simp)) 2 _ rfl,?_⟩
                  · rintro w10 b ⟨rfl,rfl⟩ -
                    cases hs:bq x y with
                    | true=>exact cT rfl (aO (by decide) (hit hs) e8)
                    | false=>exact cF rfl ⟨k-(j+1),by omega,j+1,by rw[aH ⟨by omega,by omega⟩]; rfl,by omega,rfl,cq hany hy hs,c8⟩
                  · rw[hq];refine⟨by omega,by omega,_,(tAt e8 j y hy).1,_,cx c8 0 _ rfl,?_⟩
                    by_cases hA:y.a=x.a
                    · refine cT (by simpa using hA) ⟨_,_,_,cb (d4.trans c8 (by simp)) 2 _ rfl,?_⟩;rw[hq];refine⟨by omega,by omega,_,(tAt e8 j y hy).2,_,cx c8 1 _ rfl,rfl,?_⟩;simp[bq,hA]
                    · exact cF (by simpa using hA) ⟨rfl,by simp[bq,hA]⟩
                · obtain rfl:j=k:=by omega
                  refine cF (by simp) ⟨s.cp.length-(j+1),by omega,j+1,by rw[aH ⟨by omega,by omega⟩]; rfl,by omega,rfl,λ i p hi hp=>?_,d4.trans c7 (by simp)⟩;rcases Nat.lt_or_ge i j with h' | h'
                  · exact ha i p h' hp
                  · obtain rfl:i=j:=by omega
                    rw[hx] at hp; cases hp;exact⟨by unfold gx; rw[g0,g1]; rfl,hany⟩
            · have no : ¬ (0<=x.b/\x.b<=4/\0<=x.c/\x.c<=24)->true = !((decide (0<=x.b)&&decide (x.b<=4))&&(decide (0<=x.c)&&decide (x.c<=24))):=λ hh=>by
                cases hr:((decide (0<=x.b)&&decide (x.b<=4))&&(decide (0<=x.c)&&decide (x.c<=24))) with
                | false=>rfl
                | true =>
                  exfalso; apply hh
                  simp only[Bool.and_eq_true,decide_eq_true_eq] at hr;omega
              refine⟨_,cx z4 1 _ rfl,?_⟩
              by_cases g1:x.b<0
              · exact cT (dT g1) ⟨rfl,no (by omega)⟩
              refine cF (dF g1) ⟨_,cx z4 1 _ rfl,?_⟩
              by_cases g2:x.b>4
              · exact cT (dT g2) ⟨rfl,no (by omega)⟩
              refine cF (dF g2) ⟨_,cx z4 2 _ rfl,?_⟩
              by_cases g3:x.c<0
              · exact cT (dT g3) ⟨rfl,no (by omega)⟩
              refine cF (dF g3) ⟨_,cx z4 2 _ rfl,rfl,?_⟩
              by_cases g4:x.c>24
              · rw[dT g4]; exact no (by omega)
              · rw[dF g4,dT (show 0<=x.b by omega),dT (show x.b<=4 by omega),dT (show 0<=x.c by omega),dT (show x.c<=24 by omega)];rfl
        · refine⟨_,cx z4 0 _ rfl,?_⟩
          by_cases g1:x.a < -1
          · exact cT (dT g1) ⟨rfl,by rw[dF (show ¬ -1<=x.a by omega)]; rfl⟩
          · refine cF (dF g1) ⟨_,cx z4 0 _ rfl,_,_,_,cb d4 1 _ rfl,rfl,?_⟩;rw[dT (show -1<=x.a by omega),Bool.true_and]
            by_cases g2:x.a<(s.bd.length:Int)
            · rw[dT g2,dF (by omega)]; rfl
            · rw[dF g2,dT (by omega)]; rfl
      · obtain rfl:k=s.cp.length:=by omega
        have hC:jO s.bd.length s.cp:=⟨h6,λ i p hp=>ha i p (List.getElem?_eq_some_iff.1 hp).1 hp⟩;clear ha;refine cF (by simp) ⟨_,_,_,cb hc 3 _ rfl,?_⟩;rcases Nat.lt_or_ge 6 s.sa.length with h7 | h7
        · exact cT (dT (by omega)) (aO (by decide) (λ hp=>by have:=hp.sa.l1; omega) hcw)
        refine cF (dF (by omega)) ⟨λ n w2 m=>∃ k:Nat,n=k/\k<=s.sa.length/\m=s.sa.length-k/\(∀ i p,i<k->s.sa[i]? = some p->jo s.ps s.sa i p)/\an w1 w2 [],⟨s.sa.length,0,rfl,by omega,by omega,λ i p hi=>by omega,hc⟩,?_⟩;clear hcw hc hlt hm hk;rintro w2 m n ⟨k,rfl,hk,hm,ha,hc⟩ -;have hcw:an w w2 []:=s1.au.trans hc (by simp);refine⟨_,_,_,cb hc 3 _ rfl,?_⟩
        by_cases hlt:(k:Int)<(s.sa.length:Int)
        · have hx:s.sa[k]? = some (s.sa[k]'(by omega)):=gE (by omega);generalize s.sa[k]'(by omega)=x at hx;obtain⟨q,hq,hcl⟩:=(h.sa.au hcw) k x hx;have bad : ¬ jo s.ps s.sa k x->¬ s.Ok:=λ hb hp=>hb (hp.sa.good k x hx);have tAt:∀ {w' : World},an w w' []->∀ (j:Nat) (y:T3),s.sa[j]? = some y->w'.cell? (q.add (j*3))=some (iv y.a)/\w'.cell? ((q.add (j*3)).add 1)=some (iv y.b):=λ hc' j y hy=>by
            obtain⟨q',hq',hcl'⟩:=(h.sa.au hc') j y hy;rw[hq] at hq'; cases hq';have:=hcl'.1;exact⟨by rwa [Addr.add_add] at this,hcl'.2.1⟩
          refine cT (by simpa using hlt) ⟨_,_,_,cb hc 3 _ rfl,?_⟩;rw[hq];refine⟨by omega,by omega,_,_,_,hcl,aE ?_⟩;refine((St.start w2).one.cr _ 98).bP 0 rfl x.cells rfl x.one λ w4 s4=>?_;generalize hr2:w2.heap.size=r2 at s4 ⊢;have d4:an w1 w4 []:=hc.trans s4.au (by simp);have cw4:an w w4 []:=s1.au.trans d4 (by simp);have cx:∀ {w' : World},an w4 w' []->∀ (j:Nat) (v:Value),x.cells[j]? = some v->w'.cell? ⟨r2,j,none⟩=some v:=λ hc j v hv=>bG (by rw[s4.af 0 rfl]; simpa using hv) hc;have z4:an w4 w4 []:=an.refl _ _;refine⟨λ b w5=>w5=w4/\b = !(decide (0<=x.a)&&decide (x.a<(s.ps.length:Int))),?_,?_⟩
          · rintro w5 b ⟨rfl,rfl⟩ -
            cases g0:(decide (0<=x.a)&&decide (x.a<(s.ps.length:Int))) with
            | false=>exact cT rfl (aO (by decide) (bad λ hg=>by have:=hg.1; unfold lu at this; rw[g0] at this; cases this) cw4)
            | true =>
              have d45:an w5 w5.drew []:=an.drew w5 [];refine cF rfl ⟨λ b w6=>w6=w5.drew/\b = !((decide (1<=x.b)&&decide (x.b<=4))&&(decide (1<=x.c)&&decide (x.c<=((s.ps[x.a.toNat]?.map Pr.sup).getD 0)))),?_,?_⟩
              · rintro w6 b ⟨rfl,rfl⟩ -
                cases g1:((decide (1<=x.b)&&decide (x.b<=4))&&(decide (1<=x.c)&&decide (x.c<=((s.ps[x.a.toNat]?.map Pr.sup).getD 0)))) with
                | false=>exact cT rfl (aO (by decide) (bad λ hg=>by have:=hg.1; unfold lu at this; rw[g0,g1] at this; cases this) (cw4.trans d45 (by simp)))
                | true =>
                  refine cF rfl ⟨λ n w7 m=>∃ j:Nat,n=j/\j<=k/\m=k-j/\(s.sa.take j).any (λ p=>sameAs x p)=false/\an w5 w7 [],⟨k,0,rfl,by omega,by omega,rfl,d45⟩,?_⟩;rintro w7 m7 n7 ⟨j,rfl,hj,hm7,hany,c7⟩ -
                  by_cases hjk:(j:Int)<(k:Int)
                  · have hy:s.sa[j]? = some (s.sa[j]'(by omega)):=gE (by omega);generalize s.sa[j]'(by omega)=y at hy;have c8:an w5 w7.drew []:=c7.trans (an.drew w7 []) (by simp);have e8:an w w7.drew []:=cw4.trans c8 (by simp);have hit:sameAs x y=true->¬ s.Ok:=λ hs=>bad λ hg=>by
                      have h1:=hg.2;have h2:(s.sa.take k)[j]? = some y:=by rw[List.getElem?_take,if_pos (by omega)]; exact hy
                      rw[de (p:=λ q=>sameAs x q) h2 hs] at h1
                      cases h1
                    refine cT (by simpa using hjk) ⟨_,_,_,cb (d4.trans c8 (by simp)) 3 _ rfl,?_⟩;rw[hq];refine⟨by omega,by omega,_,(tAt e8 j y hy).1,_,cx c8 0 _ rfl,?_⟩
                    by_cases hA:y.a=x.a
                    · exact cT (by simpa using hA) (aO (by decide) (hit (by simpa[sameAs] using hA)) e8)
                    · exact cF (by simpa using hA) ⟨k-(j+1),by omega,j+1,by rw[aH ⟨by omega,by omega⟩]; rfl,by omega,rfl,cq hany hy (by simpa[sameAs] using hA),c8⟩
                  · obtain rfl:j=k:=by omega
                    refine cF (by simp) ⟨s.sa.length-(j+1),by omega,j+1,by rw[aH ⟨by omega,by omega⟩]; rfl,by omega,rfl,λ i p hi hp=>?_,d4.trans c7 (by simp)⟩;rcases Nat.lt_or_ge i j with h' | h'
                    · exact ha i p h' hp
                    · obtain rfl:i=j:=by omega
                      rw[hx] at hp; cases hp;exact⟨by unfold lu; rw[g0,g1]; rfl,hany⟩
              · simp only[Bool.and_eq_true,decide_eq_true_eq] at g0;have hpx:s.ps[x.a.toNat]? = some (s.ps[x.a.toNat]'(by omega)):=gE (by omega);generalize s.ps[x.a.toNat]'(by omega)=y at hpx;rw[hpx,Option.map_some,Option.getD_some];have no : ¬ (1<=x.b/\x.b<=4/\1<=x.c/\x.c<=y.sup)->true = !((decide (1<=x.b)&&decide (x.b<=4))&&(decide (1<=x.c)&&decide (x.c<=y.sup))):=λ hh=>by
                  cases hr:((decide (1<=x.b)&&decide (x.b<=4))&&(decide (1<=x.c)&&decide (x.c<=y.sup))) with
                  | false=>rfl
                  | true =>
                    exfalso; apply hh
                    simp only[Bool.and_eq_true,decide_eq_true_eq] at hr;omega
                refine⟨_,cx d45 1 _ rfl,?_⟩
                by_cases g1:x.b<1
                · exact cT (dT g1) ⟨rfl,no (by omega)⟩
                refine cF (dF g1) ⟨_,cx d45 1 _ rfl,?_⟩
                by_cases g2:x.b>4
                · exact cT (dT g2) ⟨rfl,no (by omega)⟩
                refine cF (dF g2) ⟨_,cx d45 2 _ rfl,?_⟩
                by_cases g3:x.c<1
                · exact cT (dT g3) ⟨rfl,no (by omega)⟩
                obtain⟨_,qp,hqp,hyc⟩:=(h.ps.au (cw4.trans d45 (by simp))) x.a.toNat y hpx;refine cF (dF g3) ⟨_,cx d45 2 _ rfl,_,_,_,cb (d4.trans d45 (by simp)) 0 _ rfl,_,cx d45 0 _ rfl,?_⟩;rw[hqp];refine⟨by omega,by omega,y.sup,hyc.2.1,rfl,?_⟩
                by_cases g4:x.c>y.sup
                · rw[dT g4]; exact no (by omega)
                · rw[dF g4,dT (show 1<=x.b by omega),dT (show x.b<=4 by omega),dT (show 1<=x.c by omega),dT (show x.c<=y.sup by omega)];rfl
          · refine⟨_,cx z4 0 _ rfl,?_⟩
            by_cases g1:x.a<0
            · exact cT (dT g1) ⟨rfl,by rw[dF (show ¬ 0<=x.a by omega)]; rfl⟩
            · refine cF (dF g1) ⟨_,cx z4 0 _ rfl,_,_,_,cb d4 0 _ rfl,rfl,?_⟩;rw[dT (show 0<=x.a by omega),Bool.true_and]
              by_cases g2:x.a<(s.ps.length:Int)
              · rw[dT g2,dF (by omega)]; rfl
              · rw[dF g2,dT (by omega)]; rfl
        · obtain rfl:k=s.sa.length:=by omega
          exact cF (by simp) (iq ⟨hP,hB,hC,h7,λ i p hp=>ha i p (List.getElem?_eq_some_iff.1 hp).1 hp⟩ hcw)
    · exact cT (by simpa using h0) (aO h0 hno (s1.au.trans d3 (by simp)))
  · by_cases g1:n1=0
    · refine cT (by simpa using g1) ⟨_,_,_,cb d2 1 _ rfl,aD (nX (h.au (s1.au.trans d2 (by simp))).bd) ?_⟩;rintro v w17 ⟨⟨n33,rfl,e2⟩,d17⟩;refine⟨_,rfl,d2.trans d17 (by simp),?_⟩
      by_cases g2:n33=0
      · exact .inl ⟨g2,e1.1 g1,e2.1 g2⟩
      · exact .inr ⟨g2,λ hk=>g2 (e2.2 hk.bd)⟩
    · exact cF (by simpa using g1) ⟨d2,.inr ⟨g1,λ hk=>g1 (e1.2 hk.ps)⟩⟩
structure Vw where
  ph:Int
  rd:Int
  pr:I6
  ex:I6
  own:List Ch
  oa:Option Addr
  oc:Nat
  dm:List I6
  da:Option Addr
  dc:Nat
  nm:List (List UInt8)
  na:Option Addr
  nc:Nat
def Vw.vals(v:Vw):List Value:=iv v.ph :: iv v.rd :: v.pr.on (v.ex.on [.slice v.oa v.own.length v.oc,.slice v.da v.dm.length v.dc,.slice v.na v.nm.length v.nc])
def Vw.val(v:Vw):Value:=.agg v.vals.toArray
theorem Vw.one(v:Vw):∀ x∈v.vals,x.oneCell' = true:=by
  intro x hx;simp only[Vw.vals,I6.on,List.mem_cons,List.mem_nil_iff,or_false] at hx;rcases hx with rfl | rfl | rfl | rfl | rfl | rfl | rfl | rfl | rfl | rfl | rfl | rfl | rfl | rfl | rfl | rfl | rfl<;>rfl
structure Vw.Rd (v:Vw) (w:World):Prop where
  own:zR w v.oa v.own
  dm:jg 6 I6.vs w v.da v.dm
  nm:jg 1 sT w v.na v.nm
theorem Vw.Rd.au{v:Vw}{w w' : World}(h:v.Rd w)(hc:an w w' []):v.Rd w':=⟨jg.au h.own hc,jg.au h.dm hc,jg.au h.nm hc⟩
structure Vw.xq (v:Vw):Prop where
  l1:v.own.length<=20
  l2:v.dm.length<=20
  l3:v.nm.length<=20
  nm:∀ x∈v.nm,x.length<=100
structure Vw.Ns (v:Vw):Prop where
  ph:In v.ph
  rd:In v.rd
  pr:∀ k,k<6->In (v.pr.at' k)
  ex:∀ k,k<6->In (v.ex.at' k)
section
variable {w0 w:World} {l:List aQ} {r:Nat} {T:TypeId} {v:Vw}
theorem vF(h:St w0 w (Sep l))(i:Nat)(e:l[i]? = some (aG r v.vals.toArray T)){k:Nat}(hk:k<6):w.cell? (Addr.add ⟨r,2,none⟩ (((k:Nat):Int).toNat*1))=some (iv (v.pr.at' k)):=by
  rw[cD,h.af i e,Int.toNat_natCast,Nat.mul_one,List.getElem?_toArray]
  match k,hk with
  | 0,_ | 1,_ | 2,_ | 3,_ | 4,_ | 5,_=>rfl
theorem pn(h:St w0 w (Sep l))(i:Nat)(e:l[i]? = some (aG r v.vals.toArray T)){k:Nat}(hk:k<6):w.cell? (Addr.add ⟨r,8,none⟩ (((k:Nat):Int).toNat*1))=some (iv (v.ex.at' k)):=by
  rw[cD,h.af i e,Int.toNat_natCast,Nat.mul_one,List.getElem?_toArray]
  match k,hk with
  | 0,_ | 1,_ | 2,_ | 3,_ | 4,_ | 5,_=>rfl
end
abbrev od:List UInt8:=[112,104,97,115,101]
abbrev oe:List UInt8:=[114,111,117,110,100]
abbrev je:List UInt8:=[112,114,111,100,117,99,116]
abbrev xd:List UInt8:=[111,119,110]
abbrev dw:List UInt8:=[100,101,109,97,110,100]
def xk(x:Pr)(p e:Int):List UInt8:=kY [je,x.nm,Lib.itoa p,Lib.itoa e]
def xj(ps:List Pr)(c:Ch):List UInt8:=kY [xd,j7 ps c.want]
def xh(ps:List Pr)(b:I6)(n:Option (List UInt8)):List UInt8:=kY ([dw,j7 ps b]++n.toList)
def sx(ps:List Pr)(v:Vw):Nat->List UInt8
  | 0=>kY [od,Lib.itoa v.ph,oe,Lib.itoa v.rd]
  | k+1=>sx ps v k++((ps[k]?.map λ x=>xk x (v.pr.at' k) (v.ex.at' k)).getD [])
def su(ps:List Pr)(v:Vw):Nat->List UInt8
  | 0=>sx ps v ps.length
  | k+1=>su ps v k++((v.own[k]?.map λ c=>xj ps c).getD [])
def qe(ps:List Pr)(v:Vw):Nat->List UInt8
  | 0=>su ps v v.own.length
  | k+1=>qe ps v k++((v.dm[k]?.map λ b=>xh ps b v.nm[k]?).getD [])
def xu(s:Se)(v:Vw)(t:List UInt8):Prop:=(s.Ok/\t=qe s.ps v v.dm.length)\/(¬ s.Ok/\t=[])
def zJ(s:Se)(v:Vw)(r:Value):Prop:=∃ t,r=sv t/\xu s v t
theorem xu.uniq{s:Se}{v:Vw}{t u:List UInt8}(h:xu s v t)(k:xu s v u):t=u:=by
  rcases h with⟨h1,rfl⟩ | ⟨h1,rfl⟩<;>rcases k with⟨k1,rfl⟩ | ⟨k1,rfl⟩
  · rfl
  · exact absurd h1 k1
  · exact absurd k1 h1
  · rfl
theorem kr{xs:List (List UInt8)}(h:∀ y∈xs,y.length<=100):(kY xs).length<=xs.length*101+1:=by
  have:=join_le (sep:=[32]) h;unfold kY;rw[List.length_append,List.length_singleton];simpa using this
theorem wA{xs:List (List UInt8)}(h:∀ y∈xs,y.length<=100)(hn:xs.length<=1000):(Lib.join xs [32]).length<=140737488355328:=by
  have:=join_le (sep:=[32]) h;simp only[List.length_singleton] at this;omega
theorem vj{n:Int}(h:In n):(Lib.itoa n).length<=21:=Lib.itoa_length_le n h.1 h.2
section
variable {ps:List Pr} {v:Vw}
theorem zN(hn:v.Ns):∀ y∈[od,Lib.itoa v.ph,oe,Lib.itoa v.rd],y.length<=100:=by
  have h1:=vj hn.ph; have h2:=vj hn.rd;intro y hy;simp only[List.mem_cons,List.mem_nil_iff,or_false] at hy;rcases hy with rfl | rfl | rfl | rfl<;>(try simp only[List.length_cons,List.length_nil])<;>omega
theorem zQ(hn:v.Ns)(ho:bn ps){k:Nat}{x:Pr}(hx:ps[k]? = some x):∀ y∈[je,x.nm,Lib.itoa (v.pr.at' k),Lib.itoa (v.ex.at' k)],y.length<=100:=by
  have h6:=ho.l2;have hk:k<6:=by have:=(List.getElem?_eq_some_iff.1 hx).1; omega
  have h1:=vj (hn.pr k hk); have h2:=vj (hn.ex k hk); have h3:=iJ ho hx;intro y hy;simp only[List.mem_cons,List.mem_nil_iff,or_false] at hy;rcases hy with rfl | rfl | rfl | rfl<;>(try simp only[List.length_cons,List.length_nil])<;>omega
theorem zP(ho:bn ps)(c:Ch):∀ y∈[xd,j7 ps c.want],y.length<=100:=by
  have h1:=gQ ho c.want;intro y hy;simp only[List.mem_cons,List.mem_nil_iff,or_false] at hy;rcases hy with rfl | rfl<;>(try simp only[List.length_cons,List.length_nil])<;>omega
theorem zO(ho:bn ps)(hF:v.xq)(b:I6)(k:Nat):∀ y∈[dw,j7 ps b]++v.nm[k]?.toList,y.length<=100:=by
  have h1:=gQ ho b;intro y hy;rcases List.mem_append.1 hy with hy | hy
  · simp only[List.mem_cons,List.mem_nil_iff,or_false] at hy;rcases hy with rfl | rfl<;>(try simp only[List.length_cons,List.length_nil])<;>omega
  · exact hF.nm y (List.mem_of_getElem? (Option.mem_toList.1 hy))
theorem ja(hn:v.Ns)(ho:bn ps):∀ k,(sx ps v k).length<=405*(k+1)
  | 0=>by have:=kr (zN hn); simp only[List.length_cons,List.length_nil] at this; show(kY _).length<=_; omega
  | k+1=>by
    have ih:=ja hn ho k;have e:sx ps v (k+1)=sx ps v k++((ps[k]?.map λ x=>xk x (v.pr.at' k) (v.ex.at' k)).getD []):=rfl;rw[e,List.length_append]
    cases hx:ps[k]? with
    | none=>simp; omega
    | some x =>
      have:=kr (zQ hn ho hx);simp only[List.length_cons,List.length_nil] at this;simp only[Option.map_some,Option.getD_some];unfold xk;omega
theorem iY(hn:v.Ns)(ho:bn ps):∀ k,(su ps v k).length<=2835+405*k
  | 0=>by have h:=ja hn ho ps.length; have:=ho.l2; show(sx ps v ps.length).length<=_; omega
  | k+1=>by
    have ih:=iY hn ho k;have e:su ps v (k+1)=su ps v k++((v.own[k]?.map λ c=>xj ps c).getD []):=rfl;rw[e,List.length_append]
    cases hx:v.own[k]? with
    | none=>simp; omega
    | some c =>
      have:=kr (zP ho c);simp only[List.length_cons,List.length_nil] at this;simp only[Option.map_some,Option.getD_some];unfold xj;omega
theorem kT(hn:v.Ns)(ho:bn ps)(hF:v.xq):∀ k,(qe ps v k).length<=10935+405*k
  | 0=>by have h:=iY hn ho v.own.length; have:=hF.l1; show(su ps v v.own.length).length<=_; omega
  | k+1=>by
    have ih:=kT hn ho hF k;have e:qe ps v (k+1)=qe ps v k++((v.dm[k]?.map λ b=>xh ps b v.nm[k]?).getD []):=rfl;rw[e,List.length_append]
    cases hx:v.dm[k]? with
    | none=>simp; omega
    | some b =>
      have:=kr (zO ho hF b k);have h2:([dw,j7 ps b]++v.nm[k]?.toList).length<=3:=by cases v.nm[k]? <;> simp
      simp only[Option.map_some,Option.getD_some];unfold xh;omega
theorem jb{k:Nat}{x:Pr}(hx:ps[k]? = some x):sx ps v (k+1)=sx ps v k++xk x (v.pr.at' k) (v.ex.at' k):=by
  show sx ps v k++_=_;rw[hx]; rfl
theorem iZ{k:Nat}{c:Ch}(hx:v.own[k]? = some c):su ps v (k+1)=su ps v k++xj ps c:=by
  show su ps v k++_=_;rw[hx]; rfl
theorem iX{k:Nat}{b:I6}(hx:v.dm[k]? = some b):qe ps v (k+1)=qe ps v k++xh ps b v.nm[k]?:=by
  show qe ps v k++_=_;rw[hx]; rfl
end
theorem gS{w0 w:World}{a:OA}{c:Nat}{xs:List (List UInt8)}{B:aQ}(s:St w0 w (star (n9 a c xs) B))(h0:xs≠[])(hn:xs.length<=1000)(hl:∀ y∈xs,y.length<=100) :
    CP 54 #[.slice a xs.length c] w (λ r w'=>r=sv (kY xs)/\an w w' []):=by
  have own:=s.rowOf;have hpos:0<xs.length:=by cases xs with | nil=>exact absurd rfl h0 | cons x r=>simp
  obtain⟨g,rfl,hget⟩:=kO own hpos;have cells:∀ (j:Nat) x,xs[j]? = some x->w.cell? ⟨g,0+j,none⟩=some (sv x):=λ j x hx=>by
    obtain⟨q,hq,hc⟩:=eZ (s.rd cY) hx
    cases hq
    rw[cD,Nat.mul_one] at hc;exact hc
  obtain⟨x,hx⟩:∃ x,xs[0]? = some x:=⟨_,gE hpos⟩;exact wB cells (oM (cells 0 x hx)) (mQ own).1 (by omega) (wA hl hn)
theorem ck{w0 w:World}{L:List aQ}(s:St w0 w (Sep L))(i:Nat){r:Nat}{cs:Array Value}(e:L[i]? = some (aG r cs 9)){xs:List (List UInt8)}(hcs:cs.toList=xs.flatMap sT)(hn:xs.length<=1000) :
    St w0 w (star (n9 (some ⟨r,0,none⟩) xs.length xs) (Sep (L.eraseIdx i))):=by
  have h1:cs.size=xs.length:=by
    rw[<- Array.length_toList,hcs];exact(lN cY xs).trans (Nat.mul_one _)
  have:=(s.out i e).weak (b6.left (vO h1 (by unfold maxLen; omega)));rw[hcs] at this;exact this
set_option maxHeartbeats 1000000 in
theorem pJ{w:World}{s:Se}{v:Vw}(hs:s.In w)(hv:v.Rd w)(hn:v.Ns)(hF:v.xq)(ht:sE w) :
    CP 25 #[.agg s.arr,v.val] w (λ r w'=>zJ s v r/\an w w' []):=by
  refine nP ?_;unfold oV;refine(St.start w).one.bX s.arr λ r1 w1 s1=>s1.bX v.vals.toArray λ r2 w2 s2=>?_;refine⟨_,_,_,_,_,_,_,_,_,_,_,_,s2.cellsIn 1 rfl,aD (rV (hs.au s2.au)) ?_⟩;rintro _ w3 ⟨⟨e,rfl,he⟩,c3⟩;have s3:=s2.quiet c3;refine⟨e,rfl,?_⟩
  by_cases h0:e=0
  rotate_left
  · exact cT (by simpa using h0) ⟨⟨[],rfl,.inr ⟨λ h=>h0 (he.2 h),rfl⟩⟩,s3.au⟩
  have hok:=he.1 h0;have ho:=hok.ps;have h6:=ho.l2;have hl1:=hF.l1; have hl2:=hF.l2; have hl3:=hF.l3;have s4:=s3.quiet (an.drew _ _);refine cF (by simp[h0]) ⟨v.ph,s4.af 0 rfl 0,v.rd,s4.af 0 rfl 1,aD (nF (ht.au s4.au) hn.ph) ?_⟩;rintro _ w5 ⟨rfl,c5⟩;have s5:=s4.quiet c5;refine⟨_,rfl,s5.af 0 rfl 1,aD (nF (ht.au s5.au) hn.rd) ?_⟩;rintro _ w6 ⟨rfl,c6⟩;have s6:=s5.quiet c6;refine⟨_,rfl,s6.bX _ λ r3 w7 s7=>?_⟩;have b_s7:=ck s7 0 rfl (xs:=[od,Lib.itoa v.ph,oe,Lib.itoa v.rd]) rfl (by simp);have k_s7:=gS b_s7 (by simp) (by simp) (zN hn);refine aD k_s7 ?_;rintro _ w8 ⟨rfl,c8⟩;have s8:=s7.quiet c8;refine⟨_,rfl,_,_,_,s8.af 2 rfl 0,λ t n w9 m=>∃ k:Nat,n=k/\t=bs (sx s.ps v k)/\k<=s.ps.length/\m=s.ps.length-k/\St w w9 (Sep [aG r2 v.vals.toArray 44,aG r1 s.arr 34,emp]),⟨s.ps.length,0,rfl,rfl,by omega,by omega,s8.dn [1,2,3]⟩,?_⟩;rintro w9 m t n ⟨k,rfl,rfl,hk,hm,s9⟩ -;have hP:=ja hn ho k
  by_cases hlt:(k:Int)<(s.ps.length:Int)
  · have hx:s.ps[k]? = some (s.ps[k]'(by omega)):=gE (by omega);generalize s.ps[k]'(by omega)=x at hx;have hk6:k<6:=by omega
    obtain⟨_,q,hq,hcl⟩:=(hs.au s9.au).ps k x hx;refine cT (dT hlt) (bl hq ⟨by omega,by omega,bs x.nm,_,_,_,_,hcl,s9.bX ({ nm:=[],sup:=0,res:=0,pts:=0,grp:=0 }:Pr).cells.toArray λ r4 w10 s10=>s10.bP 0 rfl x.cells rfl x.one λ w11 s11=>?_⟩);have s12:=s11.quiet (an.drew _ _);refine⟨bs x.nm,s12.af 0 rfl 0,by omega,by omega,v.pr.at' k,vF s12 1 rfl hk6,by omega,by omega,v.ex.at' k,pn s12 1 rfl hk6,aD (vY (ht.au s12.au) (hn.pr k hk6)) ?_⟩;rintro _ w13 ⟨rfl,c13⟩;have s13:=s12.quiet c13;refine⟨_,rfl,pn s13 1 rfl hk6,s13.af 0 rfl 0,aD (nF (ht.au s13.au) (hn.ex k hk6)) ?_⟩;rintro _ w14 ⟨rfl,c14⟩;have s14:=s13.quiet c14;refine⟨_,rfl,s14.af 0 rfl 0,s14.bX _ λ r5 w15 s15=>?_⟩;have b_s15:=ck s15 0 rfl (xs:=[je,x.nm,Lib.itoa (v.pr.at' k),Lib.itoa (v.ex.at' k)]) rfl (by simp);have k_s15:=gS b_s15 (by simp) (by simp) (zQ hn ho hx);refine aD k_s15 ?_;rintro _ w16 ⟨rfl,c16⟩;have s16:=s15.quiet c16;have hP':=ja hn ho (k+1);rw[jb hx,List.length_append] at hP';unfold xk at hP';refine⟨_,rfl,by rw[bF,bF,bI]; omega,s.ps.length-(k+1),by omega,k+1,aH ⟨by omega,by omega⟩,by rw[ay,jb hx]; rfl,by omega,rfl,s16.dn [2,3,4]⟩
  · obtain rfl:k=s.ps.length:=by omega
    refine cF (dF hlt) ⟨_,_,_,s9.af 0 rfl 14,λ t n w10 m=>∃ j:Nat,n=j/\t=bs (su s.ps v j)/\j<=v.own.length/\m=v.own.length-j/\St w w10 (Sep [aG r2 v.vals.toArray 44,aG r1 s.arr 34,emp]),⟨v.own.length,0,rfl,rfl,by omega,by omega,s9⟩,?_⟩;rintro w10 m t n ⟨j,rfl,rfl,hj,hm,s10⟩ -;have hO:=iY hn ho j
    by_cases hlt:(j:Int)<(v.own.length:Int)
    · have hx:v.own[j]? = some (v.own[j]'(by omega)):=gE (by omega);generalize v.own[j]'(by omega)=x at hx;obtain⟨q,hq,hcl⟩:=(hv.au s10.au).own.at hx;refine cT (dT hlt) (bl hq ⟨by omega,by omega,x.p,x.want,hcl,s10.bX z7.cells.toArray λ r6 w11 s11=>s11.bP 0 rfl x.cells rfl x.one λ w12 s12=>⟨_,_,_,s12.af 2 rfl 0,x.want,tj s12 0 rfl,aD (jx (hs.au s12.au).ps (hs.h1) ho x.want) ?_⟩⟩);rintro _ w13 ⟨rfl,c13⟩;have s13:=s12.quiet c13;refine⟨_,rfl,s13.bX _ λ r7 w14 s14=>?_⟩;have b_s14:=ck s14 0 rfl (xs:=[xd,j7 s.ps x.want]) rfl (by simp);have k_s14:=gS b_s14 (by simp) (by simp) (zP ho x);refine aD k_s14 ?_;rintro _ w15 ⟨rfl,c15⟩;have s15:=s14.quiet c15;have hO':=iY hn ho (j+1);rw[iZ hx,List.length_append] at hO';unfold xj at hO';refine⟨_,rfl,by rw[bF,bF,bI]; omega,v.own.length-(j+1),by omega,j+1,aH ⟨by omega,by omega⟩,by rw[ay,iZ hx]; rfl,by omega,rfl,s15.dn [2,3,4]⟩
    · obtain rfl:j=v.own.length:=by omega
      refine cF (dF hlt) ⟨_,_,_,s10.af 0 rfl 15,λ t n w11 m=>∃ i:Nat,n=i/\t=bs (qe s.ps v i)/\i<=v.dm.length/\m=v.dm.length-i/\St w w11 (Sep [aG r2 v.vals.toArray 44,aG r1 s.arr 34,emp]),⟨v.dm.length,0,rfl,rfl,by omega,by omega,s10⟩,?_⟩;rintro w11 m t n ⟨i,rfl,rfl,hi,hm,s11⟩ -;have hD:=kT hn ho hF i
      by_cases hlt:(i:Int)<(v.dm.length:Int)
      · have hx:v.dm[i]? = some (v.dm[i]'(by omega)):=gE (by omega);generalize v.dm[i]'(by omega)=b at hx;obtain⟨q,hq,hcl⟩:=(hv.au s11.au).dm.at hx;refine cT (dT hlt) (bl hq ⟨by omega,by omega,b,hcl,s11.bX z6.vs.toArray λ r8 w12 s12=>s12.bP 0 rfl b.vs rfl (I6.one b) λ w13 s13=>⟨_,_,_,s13.af 2 rfl 0,b,s13.cellsIn 0 rfl,aD (jx (hs.au s13.au).ps (hs.h1) ho b) ?_⟩⟩);rintro _ w14 ⟨rfl,c14⟩;have s14:=s13.quiet c14;refine⟨_,rfl,s14.bX _ λ r9 w15 s15=>?_⟩;have s16:=ck s15 0 rfl (xs:=[dw,j7 s.ps b]) rfl (by simp);refine⟨λ a l c w16=>l=([dw,j7 s.ps b]++v.nm[i]?.toList).length/\St w w16 (Sep [n9 a c ([dw,j7 s.ps b]++v.nm[i]?.toList),aG r8 b.vs.toArray 39,aG r2 v.vals.toArray 44,aG r1 s.arr 34,emp]),?_,_,_,_,s15.af 2 rfl 16,?_⟩
        · rintro w16 a l c ⟨rfl,s17⟩ -;refine aD (gS (s17.out 0 rfl) (by simp) (by cases v.nm[i]? <;> simp) (zO ho hF b i)) ?_;rintro _ w17 ⟨rfl,c17⟩;have s18:=s17.quiet c17;have hD':=kT hn ho hF (i+1);rw[iX hx,List.length_append] at hD';unfold xh at hD';refine⟨_,rfl,by rw[bF,bF,bI]; omega,v.dm.length-(i+1),by omega,i+1,aH ⟨by omega,by omega⟩,by rw[ay,iX hx]; rfl,by omega,rfl,s18.dn [2,3,4]⟩
        · by_cases hnm:(i:Int)<(v.nm.length:Int)
          · have hy:v.nm[i]? = some (v.nm[i]'(by omega)):=gE (by omega);generalize v.nm[i]'(by omega)=y at hy;obtain⟨q2,hq2,hc2⟩:=eZ (hv.au s15.au).nm hy;refine cT (dT hnm) ⟨_,_,_,s15.af 2 rfl 16,bl hq2 ⟨by omega,by omega,bs y,hc2,?_⟩⟩;rw[hy];exact lg ym cY (x:=y) (rU y) s16 (by simp) (by simp) (λ a' c' w' s17=>⟨rfl,s17⟩) rfl
          · have hy:v.nm[i]? = none:=List.getElem?_eq_none (by omega);refine cF (dF hnm) ?_;rw[hy];exact⟨rfl,s16⟩
      · obtain rfl:i=v.dm.length:=by omega
        exact cF (dF hlt) ⟨⟨_,rfl,.inl ⟨hok,rfl⟩⟩,s11.au⟩
end Go.Proofs.YtemiicbbbojdiaaGreatDoor

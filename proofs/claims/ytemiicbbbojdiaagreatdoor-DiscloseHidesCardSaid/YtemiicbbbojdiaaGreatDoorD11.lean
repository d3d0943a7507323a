import Derived.LaidEql
import Derived.Test.YtemiicbbbojdiaaGreatDoorD10
set_option linter.unusedVariables false
set_option maxRecDepth 100000
noncomputable section
namespace Go.Proofs.YtemiicbbbojdiaaGreatDoor
open Go Go.Vc _root_.Go.Proofs.Tryz
theorem RB{w:World}{a1:OA}{c1:Nat}{a2:OA}{c2:Nat}{l1 l2:List (List UInt8)}(h1:bG 1 sT w a1 l1)(h2:bG 1 sT w a2 l2)(hl:l1.length<=1000000) :
  CP 27 #[.slice a1 l1.length c1,.slice a2 l2.length c2] w (λ r w'=>(∃ b:Bool,r=.bool b/\(b=true<->l1=l2))/\Chg w w' []):=by
 refine B7 ?_;unfold Bh
 by_cases hle:l1.length=l2.length
 rotate_left
 ·exact cT (by simpa using λ h=>hle (by omega)) ⟨⟨false,rfl,λ h=>(by cases h),λ h=>absurd (congrArg List.length h) hle⟩,Chg.refl _ _⟩
 refine cF (by simp[hle]) ⟨λ n w' m=>∃ k:Nat,n=k/\k<=l1.length/\m=l1.length-k/\l1.take k=l2.take k/\Chg w w' [],⟨l1.length,0,rfl,by omega,by omega,rfl,Chg.refl _ _⟩,?_⟩;rintro w1 m n ⟨k,rfl,hk,hm,ht,hc⟩ -
 by_cases hlt:(k:Int)<(l1.length:Int)
 ·have hx:l1[k]?=some (l1[k]'(by omega)):=gE (by omega);generalize l1[k]'(by omega)=x at hx;have hy:l2[k]?=some (l2[k]'(by omega)):=gE (by omega);generalize l2[k]'(by omega)=y at hy;have hd:Chg w w1.drew []:=hc.trans (Chg.drew w1 []) (by simp);obtain⟨q1,hq1,hc1⟩:=J2 (bG.aA h1 hd) hx;obtain⟨q2,hq2,hc2⟩:=J2 (bG.aA h2 hd) hy;refine cT (dT hlt) (aq hq1 ⟨by omega,by omega,bs x,hc1,aq hq2 ⟨by omega,by omega,bs y,hc2,?_⟩⟩)
  by_cases hxy:x=y
  ·subst hxy;exact cF (by simp) ⟨l1.length-(k+1),by omega,k+1,aF ⟨by omega,by omega⟩,by omega,rfl,by rw[aH hx,aH hy,ht],hd⟩
  ·exact cT (by rw[jy,jy]; simpa using hxy) ⟨⟨false,rfl,λ h=>(by cases h),λ h=>absurd (by rw[h] at hx; exact Option.some.inj (hx.symm.trans hy)) hxy⟩,hd⟩
 ·obtain rfl:k=l1.length:=by omega
  exact cF (dF hlt) ⟨⟨true,rfl,λ _=>by rw[List.take_length,List.take_of_length_le (by omega)] at ht; exact ht,λ _=>rfl⟩,hc⟩
theorem RA{w:World}{a1:OA}{c1:Nat}{a2:OA}{c2:Nat}{l1 l2:List I6}(h1:bG 6 I6.vs w a1 l1)(h2:bG 6 I6.vs w a2 l2)(hl:l1.length<=1000000) :
  CP 48 #[.slice a1 l1.length c1,.slice a2 l2.length c2] w (λ r w'=>(∃ b:Bool,r=.bool b/\(b=true<->l1=l2))/\Chg w w' []):=by
 refine zb ?_;unfold vE
 by_cases hle:l1.length=l2.length
 rotate_left
 ·exact cT (by simpa using λ h=>hle (by omega)) ⟨⟨false,rfl,λ h=>(by cases h),λ h=>absurd (congrArg List.length h) hle⟩,Chg.refl _ _⟩
 refine cF (by simp[hle]) ⟨λ n w' m=>∃ k:Nat,n=k/\k<=l1.length/\m=l1.length-k/\l1.take k=l2.take k/\Chg w w' [],⟨l1.length,0,rfl,by omega,by omega,rfl,Chg.refl _ _⟩,?_⟩;rintro w1 m n ⟨k,rfl,hk,hm,ht,hc⟩ -
 by_cases hlt:(k:Int)<(l1.length:Int)
 ·have hx:l1[k]?=some (l1[k]'(by omega)):=gE (by omega);generalize l1[k]'(by omega)=x at hx;have hy:l2[k]?=some (l2[k]'(by omega)):=gE (by omega);generalize l2[k]'(by omega)=y at hy;have hd:Chg w w1.drew []:=hc.trans (Chg.drew w1 []) (by simp);obtain⟨q1,hq1,hc1⟩:=(bG.aA h1 hd).at hx;obtain⟨q2,hq2,hc2⟩:=(bG.aA h2 hd).at hy;refine cT (dT hlt) (aq hq1 ⟨by omega,by omega,x,hc1,aq hq2 ⟨by omega,by omega,y,hc2,?_⟩⟩)
  by_cases hxy:x=y
  ·subst hxy;exact cF (by rw[I6.beq_eq]; simp) ⟨l1.length-(k+1),by omega,k+1,aF ⟨by omega,by omega⟩,by omega,rfl,by rw[aH hx,aH hy,ht],hd⟩
  ·exact cT (by rw[I6.beq_eq]; simpa using hxy) ⟨⟨false,rfl,λ h=>(by cases h),λ h=>absurd (by rw[h] at hx; exact Option.some.inj (hx.symm.trans hy)) hxy⟩,hd⟩
 ·obtain rfl:k=l1.length:=by omega
  exact cF (dF hlt) ⟨⟨true,rfl,λ _=>by rw[List.take_length,List.take_of_length_le (by omega)] at ht; exact ht,λ _=>rfl⟩,hc⟩
theorem J4{w:World}{a1:OA}{c1:Nat}{a2:OA}{c2:Nat}{l1 l2:List Ch}(h1:bG 12 Ch.cells w a1 l1)(h2:bG 12 Ch.cells w a2 l2)(hl:l1.length<=1000000) :
  CP 23 #[.slice a1 l1.length c1,.slice a2 l2.length c2] w (λ r w'=>(∃ b:Bool,r=.bool b/\(b=true<->l1=l2))/\Chg w w' []):=by
 refine ze ?_;unfold vF
 by_cases hle:l1.length=l2.length
 rotate_left
 ·exact cT (by simpa using λ h=>hle (by omega)) ⟨⟨false,rfl,λ h=>(by cases h),λ h=>absurd (congrArg List.length h) hle⟩,Chg.refl _ _⟩
 refine cF (by simp[hle]) ⟨λ n w' m=>∃ k:Nat,n=k/\k<=l1.length/\m=l1.length-k/\l1.take k=l2.take k/\Chg w w' [],⟨l1.length,0,rfl,by omega,by omega,rfl,Chg.refl _ _⟩,?_⟩;rintro w1 m n ⟨k,rfl,hk,hm,ht,hc⟩ -
 by_cases hlt:(k:Int)<(l1.length:Int)
 ·have hx:l1[k]?=some (l1[k]'(by omega)):=gE (by omega);generalize l1[k]'(by omega)=x at hx;have hy:l2[k]?=some (l2[k]'(by omega)):=gE (by omega);generalize l2[k]'(by omega)=y at hy;have hd:Chg w w1.drew []:=hc.trans (Chg.drew w1 []) (by simp);obtain⟨q1,hq1,hc1⟩:=(bG.aA h1 hd).at hx;obtain⟨q2,hq2,hc2⟩:=(bG.aA h2 hd).at hy;refine cT (dT hlt) (aq hq1 ⟨by omega,by omega,x.p,x.want,hc1,aq hq2 ⟨by omega,by omega,y.p,y.want,hc2,?_⟩⟩)
  by_cases hxy:x=y
  ·subst hxy;exact cF (by rw[I6.beq_eq,I6.beq_eq]; simp) ⟨l1.length-(k+1),by omega,k+1,aF ⟨by omega,by omega⟩,by omega,rfl,by rw[aH hx,aH hy,ht],hd⟩
  ·exact cT (by
          rw[I6.beq_eq,I6.beq_eq]
          have : ¬ (x.p=y.p/\x.want=y.want):=λ h=>hxy (by cases x; cases y; cases h.1; cases h.2; rfl);rw[Bool.and_true,Bool.not_eq_true',Bool.and_eq_false_iff,decide_eq_false_iff_not,decide_eq_false_iff_not]
          by_cases g:x.p=y.p
          ·exact .inr λ h=>this ⟨g,h⟩
          ·exact .inl g) ⟨⟨false,rfl,λ h=>(by cases h),λ h=>absurd (by rw[h] at hx; exact Option.some.inj (hx.symm.trans hy)) hxy⟩,hd⟩
 ·obtain rfl:k=l1.length:=by omega
  exact cF (dF hlt) ⟨⟨true,rfl,λ _=>by rw[List.take_length,List.take_of_length_le (by omega)] at ht; exact ht,λ _=>rfl⟩,hc⟩
theorem IM{w0 w:World}{l:List aG}{r:Nat}{T:TypeId}{v:Vw}(h:St w0 w (Sep l))(i:Nat)(e:l[i]?=some (ai r v.vals.toArray T)):af w ⟨r,2,none⟩ 0 v.pr.vs:=h.aN i 2 e rfl
theorem IL{w0 w:World}{l:List aG}{r:Nat}{T:TypeId}{v:Vw}(h:St w0 w (Sep l))(i:Nat)(e:l[i]?=some (ai r v.vals.toArray T)):af w ⟨r,8,none⟩ 0 v.ex.vs:=h.aN i 8 e rfl
theorem EV(v:Vw)(w:World):CP 16 #[v.val] w (λ r w'=>r=v.val/\Chg w w' []):=by
 refine Nj ?_;unfold Sw;refine(St.start w).one.aB v.vals.toArray λ r1 w1 s1=>s1.aB _ λ r2 w2 s2=>?_;exact⟨v.ph,s2.ag 1 rfl 0,v.rd,s2.ag 1 rfl 1,v.pr,IM s2 1 rfl,v.ex,IL s2 1 rfl,_,_,_,s2.ag 1 rfl 14,_,_,_,s2.ag 1 rfl 15,_,_,_,s2.ag 1 rfl 16,s2.aC 0 rfl v.vals rfl v.one λ w3 s3=>⟨v.ph,v.rd,v.pr,v.ex,_,_,_,_,_,_,_,_,_,s3.cellsIn 0 rfl,rfl,s3.aA⟩⟩
def Vw.er(v:Vw):Vw:={ v with oa:=none,oc:=0,da:=none,dc:=0,na:=none,nc:=0 }
theorem Vw.je{a b:Vw}:a.er=b.er<->a.ph=b.ph/\a.rd=b.rd/\a.pr=b.pr/\a.ex=b.ex/\a.own=b.own/\a.dm=b.dm/\a.nm=b.nm:=by
 unfold Vw.er;rw[Vw.mk.injEq]
 simp
theorem vQ{w:World}{v1 v2:Vw}(h1:v1.Rd w)(h2:v2.Rd w)(l1:v1.own.length<=1000000)(l2:v1.dm.length<=1000000)(l3:v1.nm.length<=1000000) :
  CP 15 #[v1.val,v2.val] w (λ r w'=>(∃ b:Bool,r=.bool b/\(b=true<->v1.er=v2.er))/\Chg w w' []):=by
 refine Il ?_;unfold JX;refine(St.start w).one.aB v1.vals.toArray λ r1 w1 s1=>s1.aB v2.vals.toArray λ r2 w2 s2=>?_;have no:∀ {w' : World},Chg w w' []->¬ (v1.er=v2.er)->(∃ b:Bool,(Value.bool false)=.bool b/\(b=true<->v1.er=v2.er))/\Chg w w' []:=λ hc hn=>⟨⟨false,rfl,λ h=>(by cases h),λ h=>absurd h hn⟩,hc⟩;refine⟨_,s2.ag 1 rfl 0,_,s2.ag 0 rfl 0,?_⟩
 by_cases g1:v1.ph=v2.ph
 rotate_left
 ·exact cF (by simpa using g1) (no s2.aA λ h=>g1 (Vw.je.1 h).1)
 refine cT (by simpa using g1) ⟨_,s2.ag 1 rfl 1,_,s2.ag 0 rfl 1,?_⟩
 by_cases g2:v1.rd=v2.rd
 rotate_left
 ·exact cF (by simpa using g2) (no s2.aA λ h=>g2 (Vw.je.1 h).2.1)
 refine cT (by simpa using g2) ⟨v1.pr,IM s2 1 rfl,v2.pr,IM s2 0 rfl,?_⟩;rw[I6.beq_eq]
 by_cases g3:v1.pr=v2.pr
 rotate_left
 ·exact cF (dF g3) (no s2.aA λ h=>g3 (Vw.je.1 h).2.2.1)
 refine cT (dT g3) ⟨v1.ex,IL s2 1 rfl,v2.ex,IL s2 0 rfl,?_⟩;rw[I6.beq_eq]
 by_cases g4:v1.ex=v2.ex
 rotate_left
 ·exact cF (dF g4) (no s2.aA λ h=>g4 (Vw.je.1 h).2.2.2.1)
 refine cT (dT g4) ⟨_,_,_,s2.ag 1 rfl 14,_,_,_,s2.ag 0 rfl 14,an (J4 (h1.aA s2.aA).own (h2.aA s2.aA).own l1) ?_⟩;rintro _ w3 ⟨⟨b1,rfl,e1⟩,c3⟩;have s3:=s2.quiet c3;refine⟨b1,rfl,?_⟩
 cases b1 with
 | false=>exact cF rfl (no s3.aA λ h=>by have:=e1.2 (Vw.je.1 h).2.2.2.2.1; cases this)
 | true =>
 refine cT rfl ⟨_,_,_,s3.ag 1 rfl 15,_,_,_,s3.ag 0 rfl 15,an (RA (h1.aA s3.aA).dm (h2.aA s3.aA).dm l2) ?_⟩;rintro _ w4 ⟨⟨b2,rfl,e2⟩,c4⟩;have s4:=s3.quiet c4;refine⟨b2,rfl,?_⟩
 cases b2 with
 | false=>exact cF rfl (no s4.aA λ h=>by have:=e2.2 (Vw.je.1 h).2.2.2.2.2.1; cases this)
 | true =>
 refine cT rfl ⟨_,_,_,s4.ag 1 rfl 16,_,_,_,s4.ag 0 rfl 16,an (RB (h1.aA s4.aA).nm (h2.aA s4.aA).nm l3) ?_⟩;rintro _ w5 ⟨⟨b3,rfl,e3⟩,c5⟩;exact⟨b3,rfl,⟨b3,rfl,λ h=>Vw.je.2 ⟨g1,g2,g3,g4,e1.1 rfl,e2.1 rfl,e3.1 h⟩,λ h=>e3.2 (Vw.je.1 h).2.2.2.2.2.2⟩,(s4.quiet c5).aA⟩
end Go.Proofs.YtemiicbbbojdiaaGreatDoor
namespace Go.Proofs.YtemiicbbbojdiaaGreatDoor
open Go Go.Vc Go.ChangeShapes Go.WideShapes Go.ChangeAt Go.RowKit _root_.Go.Proofs.Tryz
theorem own:ownKnob prog.godebug=none:=by kernel_rfl
theorem laidOut:laidOutB prog=true:=by kernel_rfl
theorem W2:mapsRowed prog=true:=by kernel_rfl
theorem W3:(prog.stops==[])=true:=by kernel_rfl
theorem W4:(prog.stopKnobs==[])=true:=by kernel_rfl
theorem Re:prog.stopsHeard=true:=by kernel_rfl
theorem Rf:prog.mayEnter=true:=by kernel_rfl
theorem W5:true=Tryz.pinned.checked.prog.looks []:=by kernel_rfl
theorem below_of{w w' : World}(h:Chg w w' []):Below w.heap.size w w':=⟨h.env.os,h.env.tape,h.env.out,h.size,λ k hk=>h.same k hk (by simp)⟩
theorem Ns(P:Program)(laid:List (String×DataW Unit))(w:World)(h:(laid.all λ x=>x.2.handleName?.isNone)=true):laidMetH P laid w=laidMet P laid w:=by
 have e:(laid.filter λ x=>x.2.handleName?.isSome)=[]:=by
  rw[List.filter_eq_nil_iff];intro x hx hs;have:=List.all_eq_true.1 h x hx;rw[Option.isNone_iff_eq_none] at this;rw[this] at hs
  cases hs
 unfold laidMetH;rw[e]
def sW:List (String×DataW Unit):=Rows.discloseTextsRow.laid.filter λ x=>x.2.handleName?.isNone
def laidWorld(os:Os):World:=(World.holding prog os ⟨#[],#[],[]⟩).layVars prog sW
theorem laidWorld_os(os:Os):(laidWorld os).os=os:=(World.layVars_os _ _ _).trans rfl
theorem KW(os:Os)(args:Array Value):laidMet prog sW ((laidWorld os).forCall (λ _ _=>0) ⟨#[],args,[]⟩).memory:=by
 have e1:(sW.filter λ x=>(sW.map (·.1)).contains x.1)=sW:=List.filter_eq_self.2 λ x hx=>List.contains_iff_mem.2 (List.mem_map.2 ⟨x,hx,rfl⟩);have e2:(sW.filter λ x=>!(sW.map (·.1)).contains x.1)=[]:=List.filter_eq_nil_iff.2 λ x hx=>by rw[List.contains_iff_mem.2 (List.mem_map.2 ⟨x,hx,rfl⟩)]; simp
 have h:laidMet prog sW (laidWorld os):=laidMet_layVars (w0:=World.holding prog os ⟨#[],#[],[]⟩) (sW.map (·.1)) [] (by rw[e1]; rfl) (by rw[e1]; kernel_rfl) (by rw[e1]; kernel_rfl) (by rw[e2]; exact LaidIn.none);exact h.of_heap (by simp[World.memory,World.forCall,Input.heap])
theorem Gn:(Rows.discloseTextsRow.laid.all λ x=>x.2.handleName?.isNone)=true:=by kernel_rfl
theorem laidWorld_met(os:Os)(args:Array Value):laidMetH prog Rows.discloseTextsRow.laid ((laidWorld os).forCall (λ _ _=>0) ⟨#[],args,[]⟩).memory:=by
 rw[Ns _ _ _ Gn];have e:sW=Rows.discloseTextsRow.laid:=List.filter_eq_self.2 (List.all_eq_true.1 Gn);rw[<- e]; exact KW os args
end Go.Proofs.YtemiicbbbojdiaaGreatDoor
namespace Go.Gx
open Go Go.Vc
inductive Tr (α:Type) where
 | leaf (l:List (Nat×α))
 | node (a b:Tr α)
def look{α:Type}(l:List (Nat×α)):Nat->Option α :=
 List.rec (motive:=λ _=>Nat->Option α) (λ _=>none) (λ p _ ih i=>Bool.rec (motive:=λ _=>Option α) (ih i) (some p.2) (Nat.beq p.1 i)) l
def K0{α:Type}(l:List (Nat×α)):Nat->α->List (Nat×α) :=
 List.rec (motive:=λ _=>Nat->α->List (Nat×α)) (λ i v=>[(i,v)]) (λ p l ih i v=>Bool.rec (motive:=λ _=>List (Nat×α)) (Bool.rec (motive:=λ _=>List (Nat×α)) (p :: ih i v) ((i,v) :: p :: l) (Nat.ble i p.1)) ((i,v) :: l) (Nat.beq p.1 i)) l
def Tr.get{α:Type}(t:Tr α):Nat->Option α :=
 Tr.rec (motive:=λ _=>Nat->Option α) (λ l=>look l) (λ _ _ iha ihb i=>Bool.rec (motive:=λ _=>Option α) (ihb (Nat.div i 2)) (iha (Nat.div i 2)) (Nat.beq (Nat.mod i 2) 0)) t
def Tr.put{α:Type}(t:Tr α):Nat->α->Tr α :=
 Tr.rec (motive:=λ _=>Nat->α->Tr α) (λ l i v=>.leaf (K0 l i v)) (λ a b iha ihb i v=>Bool.rec (motive:=λ _=>Tr α) (.node a (ihb (Nat.div i 2) v)) (.node (iha (Nat.div i 2) v) b) (Nat.beq (Nat.mod i 2) 0)) t
theorem look_nil{α:Type}(i:Nat):look ([]:List (Nat×α)) i=none:=rfl
theorem jJ{α:Type}(p:Nat×α)(l:List (Nat×α))(i:Nat):look (p :: l) i=cond (Nat.beq p.1 i) (some p.2) (look l i):=by
 show Bool.rec (motive:=λ _=>Option α) (look l i) (some p.2) (Nat.beq p.1 i)=_
 cases Nat.beq p.1 i<;>rfl
theorem Nq{α:Type}(i:Nat)(v:α):K0 [] i v=[(i,v)]:=rfl
theorem K3{α:Type}(p:Nat×α)(l:List (Nat×α))(i:Nat)(v:α):K0 (p :: l) i v=cond (Nat.beq p.1 i) ((i,v) :: l) (cond (Nat.ble i p.1) ((i,v) :: p :: l) (p :: K0 l i v)):=by
 show Bool.rec (motive:=λ _=>List (Nat×α)) (Bool.rec (motive:=λ _=>List (Nat×α)) (p :: K0 l i v) ((i,v) :: p :: l) (Nat.ble i p.1)) ((i,v) :: l) (Nat.beq p.1 i)=_
 cases Nat.beq p.1 i<;>cases Nat.ble i p.1<;>rfl
theorem Tr.qc{α:Type}(a b:Tr α)(i:Nat):(Tr.node a b).get i=cond (Nat.beq (Nat.mod i 2) 0) (a.get (Nat.div i 2)) (b.get (Nat.div i 2)):=by
 show Bool.rec (motive:=λ _=>Option α) (b.get (Nat.div i 2)) (a.get (Nat.div i 2)) (Nat.beq (Nat.mod i 2) 0)=_
 cases Nat.beq (Nat.mod i 2) 0<;>rfl
theorem Tr.NZ{α:Type}(a b:Tr α)(i:Nat)(v:α):(Tr.node a b).put i v=cond (Nat.beq (Nat.mod i 2) 0) (.node (a.put (Nat.div i 2) v) b) (.node a (b.put (Nat.div i 2) v)):=by
 show Bool.rec (motive:=λ _=>Tr α) (.node a (b.put (Nat.div i 2) v)) (.node (a.put (Nat.div i 2) v) b) (Nat.beq (Nat.mod i 2) 0)=_
 cases Nat.beq (Nat.mod i 2) 0<;>rfl
def Tr.full{α:Type}:Nat->Tr α
 | 0=>.leaf []
 | n+1=>.node (Tr.full n) (Tr.full n)
theorem beq_iff{a b:Nat}:Nat.beq a b=true<->a=b:=⟨Nat.eq_of_beq_eq_true,λ h=>h▸Nat.beq_refl a⟩
theorem DD{a b:Nat}(h:a≠b):Nat.beq a b=false:=by
 cases hb:Nat.beq a b with
 | false=>rfl
 | true=>exact absurd (beq_iff.1 hb) h
theorem CL{α:Type}:∀ (l:List (Nat×α)) (i:Nat) (v:α) (j:Nat),look (K0 l i v) j=if j=i then some v else look l j
 | [],i,v,j=>by
  rw[Nq,jJ]
  by_cases h:j=i
  ·subst h; simp[Nat.beq_refl]
  ·simp[look_nil,h,DD (Ne.symm h)]
 | p :: l,i,v,j=>by
  rw[K3]
  cases hb:Nat.beq p.1 i with
  | true =>
   have:=beq_iff.1 hb
   by_cases h:j=i
   ·subst h; simp[jJ,Nat.beq_refl]
   ·simp[jJ,h,DD (Ne.symm h),this]
  | false =>
   simp only[cond_false]
   cases Nat.ble i p.1 with
   | true =>
    by_cases h:j=i
    ·subst h; simp[jJ,Nat.beq_refl]
    ·simp[jJ,h,DD (Ne.symm h)]
   | false =>
    simp only[cond_false,jJ];rw[CL l i v j]
    by_cases h:j=i
    ·subst h; simp[hb]
    ·simp[h]
theorem Ju{i j:Nat}(hm:Nat.mod j 2=Nat.mod i 2):Nat.div j 2=Nat.div i 2<->j=i:=by
 refine⟨λ h=>?_,λ h=>by rw[h]⟩;have h1:j%2=i%2:=hm;have h2:j / 2=i / 2:=h;omega
theorem SN(i:Nat):Nat.mod i 2=0\/Nat.mod i 2=1:=by
 have:i%2=0\/i%2=1:=by omega
 exact this
theorem bL{α:Type}:∀ (t:Tr α) (i:Nat) (v:α) (j:Nat),(t.put i v).get j=if j=i then some v else t.get j
 | .leaf l,i,v,j=>CL l i v j
 | .node a b,i,v,j=>by
  rw[Tr.NZ];rcases SN i with hi|hi<;>rcases SN j with hj|hj
  ·have e:Nat.beq (Nat.mod i 2) 0=true:=beq_iff.2 hi;have e' : Nat.beq (Nat.mod j 2) 0=true:=beq_iff.2 hj;rw[e];simp only[cond_true,Tr.qc,e',bL a]
   by_cases h:j=i
   ·simp[h]
   ·have:=(not_congr (Ju (hj.trans hi.symm))).2 h;simp[h,this]
  ·have e:Nat.beq (Nat.mod i 2) 0=true:=beq_iff.2 hi;have e' : Nat.beq (Nat.mod j 2) 0=false:=by rw[hj]; rfl
   rw[e];have h:j≠i:=λ h=>by rw[h,hi] at hj; cases hj
   simp[Tr.qc,e',h]
  ·have e:Nat.beq (Nat.mod i 2) 0=false:=by rw[hi]; rfl
   have e' : Nat.beq (Nat.mod j 2) 0=true:=beq_iff.2 hj;rw[e];have h:j≠i:=λ h=>by rw[h,hi] at hj; cases hj
   simp[Tr.qc,e',h]
  ·have e:Nat.beq (Nat.mod i 2) 0=false:=by rw[hi]; rfl
   have e' : Nat.beq (Nat.mod j 2) 0=false:=by rw[hj]; rfl
   rw[e];simp only[cond_false,Tr.qc,e',bL b]
   by_cases h:j=i
   ·simp[h]
   ·have:=(not_congr (Ju (hj.trans hi.symm))).2 h;simp[h,this]
theorem p9{α:Type}:∀ (n i:Nat),(Tr.full n:Tr α).get i=none
 | 0,_=>rfl
 | n+1,i=>by
  unfold Tr.full;rw[Tr.qc,p9 n]
  cases Nat.beq (Nat.mod i 2) 0<;>rfl
inductive AV where
 | int (k:IntKind) (n:Int)
 | bool (b:Bool)
 | str (l:List UInt8)
 | nilp
 | ptr (i o:Nat)
 | nils
 | sli (i o l z:Nat)
 | nili
 | iface (T:TypeId) (v:AV)
 | nilf
 | fn (f:FuncId) (x y:List AV)
 | yld (i:Nat)
 | agg (cs:List AV)
 | tup (vs:List AV)
structure Loc where
 b:Nat
 esz:Nat
 tot:Nat
abbrev Names:=Nat->Option Loc
mutual
def rv(ρ:Names):AV->Option Value
 | .int k n=>some (.int k n)
 | .bool b=>some (.bool b)
 | .str l=>some (.string ⟨l.toArray⟩)
 | .nilp=>some (.pointer none)
 | .ptr i o=>(ρ i).map λ L=>.pointer (some ⟨L.b,o,none⟩)
 | .nils=>some (.slice none 0 0)
 | .sli i o l z=>(ρ i).bind λ L=>if o+l<=L.tot/\L.esz=z then some (.slice (some ⟨L.b,o*z,none⟩) l (L.tot-o)) else none
 | .nili=>some .nilIface
 | .iface T v=>(rv ρ v).map (.iface T)
 | .nilf=>some .nilFunc
 | .fn f x y=>match dI ρ x,dI ρ y with
  | some xs,some ys=>some (.func (.func f) xs.toArray ys.toArray)
  | _,_=>none
 | .yld i=>(ρ i).map λ L=>.func (.yield L.b) #[] #[]
 | .agg cs=>(dI ρ cs).map λ l=>.agg l.toArray
 | .tup vs=>(dI ρ vs).map λ l=>.tuple l.toArray
def dI(ρ:Names):List AV->Option (List Value)
 | []=>some []
 | a :: l=>match rv ρ a,dI ρ l with
  | some v,some vs=>some (v :: vs)
  | _,_=>none
end
def Ext(ρ σ:Names):Prop:=∀ i L,ρ i=some L->σ i=some L
theorem Ext.refl(ρ:Names):Ext ρ ρ:=λ _ _ h=>h
theorem Ext.trans{ρ σ τ:Names}(h:Ext ρ σ)(k:Ext σ τ):Ext ρ τ:=λ i L hi=>k i L (h i L hi)
mutual
theorem EA{ρ σ:Names}(hx:Ext ρ σ):∀ {a:AV} {v:Value},rv ρ a=some v->rv σ a=some v
 | .int _ _,_,h=>h
 | .bool _,_,h=>h
 | .str _,_,h=>h
 | .nilp,_,h=>h
 | .nils,_,h=>h
 | .nili,_,h=>h
 | .nilf,_,h=>h
 | .ptr i o,v,h=>by
  simp only[rv,Option.map_eq_some_iff] at h ⊢;obtain⟨L,hL,rfl⟩:=h;exact⟨L,hx _ _ hL,rfl⟩
 | .yld i,v,h=>by
  simp only[rv,Option.map_eq_some_iff] at h ⊢;obtain⟨L,hL,rfl⟩:=h;exact⟨L,hx _ _ hL,rfl⟩
 | .sli i o l z,v,h=>by
  simp only[rv,Option.bind_eq_some_iff] at h ⊢;obtain⟨L,hL,h⟩:=h;exact⟨L,hx _ _ hL,h⟩
 | .iface T a,v,h=>by
  simp only[rv,Option.map_eq_some_iff] at h ⊢;obtain⟨u,hu,rfl⟩:=h;exact⟨u,EA hx hu,rfl⟩
 | .fn f x y,v,h=>by
  simp only[rv] at h ⊢
  cases hx' : dI ρ x with
  | none=>rw[hx'] at h; cases h
  | some xs =>
   cases hy:dI ρ y with
   | none=>rw[hx',hy] at h; cases h
   | some ys =>
    rw[hx',hy] at h;rw[cG hx hx',cG hx hy];exact h
 | .agg cs,v,h=>by
  simp only[rv,Option.map_eq_some_iff] at h ⊢;obtain⟨l,hl,rfl⟩:=h;exact⟨l,cG hx hl,rfl⟩
 | .tup cs,v,h=>by
  simp only[rv,Option.map_eq_some_iff] at h ⊢;obtain⟨l,hl,rfl⟩:=h;exact⟨l,cG hx hl,rfl⟩
theorem cG{ρ σ:Names}(hx:Ext ρ σ):∀ {l:List AV} {vs:List Value},dI ρ l=some vs->dI σ l=some vs
 | [],_,h=>h
 | a :: l,vs,h=>by
  simp only[dI] at h ⊢
  cases ha:rv ρ a with
  | none=>rw[ha] at h; cases h
  | some v =>
   cases hl:dI ρ l with
   | none=>rw[ha,hl] at h; cases h
   | some us =>
    rw[ha,hl] at h;rw[EA hx ha,cG hx hl];exact h
end
theorem aM{ρ:Names}{a:AV}{l:List AV}{vs:List Value}(h:dI ρ (a :: l)=some vs):∃ v us,vs=v :: us/\rv ρ a=some v/\dI ρ l=some us:=by
 simp only[dI] at h
 cases ha:rv ρ a with
 | none=>rw[ha] at h; cases h
 | some v =>
  cases hl:dI ρ l with
  | none=>rw[ha,hl] at h; cases h
  | some us=>rw[ha,hl] at h; cases h; exact⟨v,us,rfl,rfl,rfl⟩
theorem fG{ρ:Names}{a:AV}{l:List AV}{v:Value}{us:List Value}(h1:rv ρ a=some v)(h2:dI ρ l=some us):dI ρ (a :: l)=some (v :: us):=by
 simp only[dI,h1,h2]
theorem bA{ρ:Names}:∀ {l:List AV} {vs:List Value},dI ρ l=some vs->vs.length=l.length
 | [],_,h=>by cases h; rfl
 | a :: l,vs,h=>by
  obtain⟨v,us,rfl,_,h2⟩:=aM h;simp[bA h2]
theorem vO{ρ:Names}:∀ {l:List AV} {vs:List Value} {i:Nat} {a:AV},dI ρ l=some vs->l[i]?=some a->∃ v,vs[i]?=some v/\rv ρ a=some v
 | [],_,_,_,_,h=>by simp at h
 | b :: l,vs,i,a,h,hi=>by
  obtain⟨v,us,rfl,h1,h2⟩:=aM h
  cases i with
  | zero=>simp at hi; subst hi; exact⟨v,rfl,h1⟩
  | succ i =>
   have hi' : l[i]?=some a:=by simpa using hi
   obtain⟨x,hx,hr⟩:=vO h2 hi';exact⟨x,by simpa using hx,hr⟩
theorem lu{ρ:Names}:∀ {l m:List AV} {vs us:List Value},dI ρ l=some vs->dI ρ m=some us->dI ρ (l++m)=some (vs++us)
 | [],_,_,_,h,k=>by cases h; exact k
 | a :: l,m,vs,us,h,k=>by
  obtain⟨v,ws,rfl,h1,h2⟩:=aM h;exact fG h1 (lu h2 k)
theorem qG{ρ:Names}:∀ {l:List AV} {vs:List Value} (n:Nat),dI ρ l=some vs->dI ρ (l.take n)=some (vs.take n)
 | [],_,_,h=>by cases h; simp[dI]
 | a :: l,vs,0,h=>rfl
 | a :: l,vs,n+1,h=>by
  obtain⟨v,ws,rfl,h1,h2⟩:=aM h;exact fG h1 (qG n h2)
theorem Bq{ρ:Names}:∀ {l:List AV} {vs:List Value} (n:Nat),dI ρ l=some vs->dI ρ (l.drop n)=some (vs.drop n)
 | [],_,_,h=>by cases h; simp[dI]
 | a :: l,vs,0,h=>h
 | a :: l,vs,n+1,h=>by
  obtain⟨v,ws,rfl,_,h2⟩:=aM h;exact Bq n h2
structure AO where
 T:TypeId
 cells:List AV
 ro:Bool
abbrev AH:=Tr (Option AO)
def dW(ρ:Names)(i:Nat)(L:Loc):Names:=λ j=>if j=i then some L else ρ j
structure Live (ρ:Names) (w0 w:World) (i:Nat) (ao:AO) (L:Loc) (cur:Array Value) (vs:List Value):Prop where
 at_:ρ i=some L
 new:w0.heap.size<=L.b
 blk:∃ fz,w.heap[L.b]?=some (.cells cur ao.T fz)/\(ao.ro=false->fz=(0,0))
 val:dI ρ ao.cells=some vs
 here:cur.toList.take vs.length=vs
 room:L.tot*L.esz=cur.size
 most:L.tot<=maxLen
structure fO (w0 w:World) (ρ:Names) (h:AH):Prop where
 aA:Chg w0 w []
 dom:∀ (i:Nat) (L:Loc),ρ i=some L->∃ x,h.get i=some x
 live:∀ (i:Nat) (ao:AO),h.get i=some (some ao)->∃ L cur vs,Live ρ w0 w i ao L cur vs
 inj:∀ (i j:Nat) (ao ao' : AO) (L L' : Loc),i≠j->h.get i=some (some ao)->h.get j=some (some ao')->ρ i=some L->ρ j=some L'->L.b≠L'.b
theorem Live.cell{ρ:Names}{w0 w:World}{i:Nat}{ao:AO}{L:Loc}{cur:Array Value}{vs:List Value}(h:Live ρ w0 w i ao L cur vs){o:Nat}{a:AV}(ho:ao.cells[o]?=some a) :
  ∃ v,rv ρ a=some v/\w.cell? ⟨L.b,o,none⟩=some v:=by
 obtain⟨v,hv,ha⟩:=vO h.val ho;refine⟨v,ha,?_⟩;obtain⟨fz,hblk,_⟩:=h.blk;rw[jR,hblk,fu,<- Array.getElem?_toList];have h1:(cur.toList.take vs.length)[o]?=some v:=by rw[h.here]; exact hv
 rw[List.getElem?_take] at h1
 split at h1
 ·exact h1
 ·cases h1
theorem fO.rewrite{w0 w w' : World}{ρ:Names}{h:AH}(hr:fO w0 w ρ h){i:Nat}{ao:AO}(hi:h.get i=some (some ao)){L:Loc}(hL:ρ i=some L){cells:List AV}{cur' : Array Value}{vs' : List Value}(hc:Chg w w' [L.b])(hb:w'.heap[L.b]?=some (.cells cur' ao.T (0,0)))(hv:dI ρ cells=some vs')(hh:cur'.toList.take vs'.length=vs')(hs:L.tot*L.esz=cur'.size) :
  fO w0 w' ρ (h.put i (some { ao with cells:=cells })):=by
 obtain⟨L1,cur,vs,hl⟩:=hr.live i ao hi;obtain rfl:L=L1:=Option.some.inj (hL.symm.trans hl.at_);have get:∀ {x:Nat} {ax:AO},(h.put i (some { ao with cells:=cells })).get x=some (some ax)->∃ ax',h.get x=some (some ax'):=λ {x ax} hx=>by
  rw[bL] at hx
  split at hx
  ·rename_i e; subst e; exact⟨ao,hi⟩
  ·exact⟨ax,hx⟩
 refine⟨hr.aA.trans hc (λ x hx=>.inr (by simp at hx; subst hx; exact hl.new)),λ j Lj hj=>?_,λ j aj hj=>?_,λ j k aj ak Lj Lk hjk hj hk hLj hLk=>?_⟩
 ·rw[bL]
  split
  ·exact⟨_,rfl⟩
  ·exact hr.dom j Lj hj
 ·by_cases hji:j=i
  ·subst hji;rw[bL,if_pos rfl] at hj
   cases hj
   exact⟨L,cur',vs',hl.at_,hl.new,⟨_,hb,λ _=>rfl⟩,hv,hh,hs,hl.most⟩
  ·rw[bL,if_neg hji] at hj;obtain⟨L2,cur2,vs2,hl2⟩:=hr.live j aj hj;refine⟨L2,cur2,vs2,hl2.at_,hl2.new,?_,hl2.val,hl2.here,hl2.room,hl2.most⟩;have:=hr.inj j i aj ao L2 L hji hj hi hl2.at_ hL;obtain⟨fz,hblk,hfz⟩:=hl2.blk;exact⟨fz,hc.keep hblk (by simpa using this),hfz⟩
 ·obtain⟨aj',hj'⟩:=get hj;obtain⟨ak',hk'⟩:=get hk;exact hr.inj j k aj' ak' Lj Lk hjk hj' hk' hLj hLk
theorem bX{w0 w:World}{ρ:Names}{h:AH}(hr:fO w0 w ρ h){i:Nat}(hi:h.get i=none):ρ i=none:=by
 cases hρ:ρ i with
 | none=>rfl
 | some L=>obtain⟨x,hx⟩:=hr.dom i L hρ; rw[hi] at hx; cases hx
theorem Ext.dW{ρ:Names}{i:Nat}{L:Loc}(h:ρ i=none):Ext ρ (dW ρ i L):=λ j L' hj=>by
 unfold Gx.dW;rw[if_neg (λ e=>by rw[e,h] at hj; cases hj)];exact hj
theorem fO.below{w0 w:World}{ρ:Names}{h:AH}(hr:fO w0 w ρ h){j:Nat}{ao:AO}{L:Loc}(hj:h.get j=some (some ao))(hL:ρ j=some L):L.b<w.heap.size:=by
 obtain⟨L1,cur,vs,hl⟩:=hr.live j ao hj;obtain rfl:L=L1:=Option.some.inj (hL.symm.trans hl.at_);obtain⟨fz,hblk,_⟩:=hl.blk;exact ke hblk
theorem fO.Es{w0 w w' : World}{ρ:Names}{h:AH}(hr:fO w0 w ρ h){F:List Nat}(hc:Chg w w' F)(hF:∀ f∈F,w0.heap.size<=f/\∀ (j:Nat) (ao:AO) (L:Loc),h.get j=some (some ao)->ρ j=some L->L.b≠f):fO w0 w' ρ h :=
 ⟨hr.aA.trans hc (λ f hf=>.inr (hF f hf).1),hr.dom,λ i ao hi=>by
  obtain⟨L,cur,vs,hl⟩:=hr.live i ao hi;obtain⟨fz,hblk,hfz⟩:=hl.blk;exact⟨L,cur,vs,hl.at_,hl.new,⟨fz,hc.keep hblk (λ hf=>(hF _ hf).2 i ao L hi hl.at_ rfl),hfz⟩,hl.val,hl.here,hl.room,hl.most⟩,hr.inj⟩
theorem fO.name{w0 w:World}{ρ:Names}{h:AH}(hr:fO w0 w ρ h){i:Nat}(hi:h.get i=none){L:Loc}{T:TypeId}{cells:List AV}{cur:Array Value}{vs:List Value}{ro:Bool}{fz:Nat×Nat}(hnew:w0.heap.size<=L.b)(hb:w.heap[L.b]?=some (.cells cur T fz))(hfz:ro=false->fz=(0,0))(hno:∀ (j:Nat) (ao:AO) (L' : Loc),h.get j=some (some ao)->ρ j=some L'->L'.b≠L.b)(hv:dI (dW ρ i L) cells=some vs)(hh:cur.toList.take vs.length=vs)(hs:L.tot*L.esz=cur.size)(hm:L.tot<=maxLen) :
  fO w0 w (dW ρ i L) (h.put i (some ⟨T,cells,ro⟩)):=by
 have hρ:=bX hr hi;have hx:Ext ρ (dW ρ i L):=Ext.dW hρ;refine⟨hr.aA,λ j Lj hj=>?_,λ j aj hj=>?_,λ j k aj ak Lj Lk hjk hj hk hLj hLk=>?_⟩
 ·rw[bL]
  split
  ·exact⟨_,rfl⟩
  ·rename_i e;unfold Gx.dW at hj;rw[if_neg e] at hj;exact hr.dom j Lj hj
 ·by_cases hji:j=i
  ·subst hji;rw[bL,if_pos rfl] at hj
   cases hj
   exact⟨L,cur,vs,by simp[Gx.dW],hnew,⟨fz,hb,hfz⟩,hv,hh,hs,hm⟩
  ·rw[bL,if_neg hji] at hj;obtain⟨L2,cur2,vs2,hl2⟩:=hr.live j aj hj;exact⟨L2,cur2,vs2,hx _ _ hl2.at_,hl2.new,hl2.blk,cG hx hl2.val,hl2.here,hl2.room,hl2.most⟩
 ·have side:∀ {k:Nat} {ak:AO} {Lk:Loc},(h.put i (some ⟨T,cells,ro⟩)).get k=some (some ak)->dW ρ i L k=some Lk->(k≠i/\h.get k=some (some ak)/\ρ k=some Lk)\/(k=i/\Lk=L):=λ {k ak Lk} hk hLk=>by
   by_cases hki:k=i
   ·subst hki;simp[Gx.dW] at hLk;exact .inr ⟨rfl,hLk.symm⟩
   ·rw[bL,if_neg hki] at hk;simp[Gx.dW,hki] at hLk;exact .inl ⟨hki,hk,hLk⟩
  rcases side hj hLj with⟨h1,h2,h3⟩|⟨h1,h2⟩<;>rcases side hk hLk with⟨k1,k2,k3⟩|⟨k1,k2⟩
  ·exact hr.inj j k aj ak Lj Lk hjk h2 k2 h3 k3
  ·subst k2; exact hno j aj Lj h2 h3
  ·subst h2; exact(hno k ak Lk k2 k3).symm
  ·exact absurd (h1.trans k1.symm) hjk
theorem fO.new{w0 w w' : World}{ρ:Names}{h:AH}(hr:fO w0 w ρ h){i:Nat}(hi:h.get i=none){L:Loc}{T:TypeId}{cells:List AV}{cur:Array Value}{vs:List Value}{ro:Bool}{fz:Nat×Nat}(hc:Chg w w' [])(hb:w'.heap[L.b]?=some (.cells cur T fz))(hfz:ro=false->fz=(0,0))(hn:w.heap.size<=L.b)(hv:dI (dW ρ i L) cells=some vs)(hh:cur.toList.take vs.length=vs)(hs:L.tot*L.esz=cur.size)(hm:L.tot<=maxLen) :
  fO w0 w' (dW ρ i L) (h.put i (some ⟨T,cells,ro⟩)) :=
 (hr.Es hc (by simp)).name hi (Nat.le_trans hr.aA.size hn) hb hfz (λ j ao L' hj hL=>by have:=hr.below hj hL; omega) hv hh hs hm
theorem fO.alloc{w0 w:World}{ρ:Names}{h:AH}(hr:fO w0 w ρ h){i:Nat}(hi:h.get i=none){T:TypeId}{cells:List AV}{vs:List Value}(hv:dI ρ cells=some vs){esz tot:Nat}(hs:tot*esz=vs.length)(hm:tot<=maxLen) :
  fO w0 (w.alloc (.cells vs.toArray T)) (dW ρ i ⟨w.heap.size,esz,tot⟩) (h.put i (some ⟨T,cells,false⟩)) :=
 hr.new hi (Chg.new w _ []) (by rw[gj,if_pos rfl]) (λ _=>rfl) (Nat.le_refl _) (cG (Ext.dW (bX hr hi)) hv) (by simp) (by simpa using hs) hm
theorem fO.OD{w0 w:World}{ρ:Names}{h:AH}(hr:fO w0 w ρ h)(i:Nat):fO w0 w ρ (h.put i none):=by
 have get:∀ {x:Nat} {ax:AO},(h.put i none).get x=some (some ax)->h.get x=some (some ax):=λ {x ax} hx=>by
  rw[bL] at hx
  split at hx
  ·cases hx
  ·exact hx
 exact⟨hr.aA,λ j Lj hj=>by
  rw[bL]
  split
  ·exact⟨_,rfl⟩
  ·exact hr.dom j Lj hj,λ j aj hj=>hr.live j aj (get hj),λ j k aj ak Lj Lk hjk hj hk hLj hLk=>hr.inj j k aj ak Lj Lk hjk (get hj) (get hk) hLj hLk⟩
theorem fO.quiet{w0 w w' : World}{ρ:Names}{h:AH}(hr:fO w0 w ρ h)(hc:Chg w w' []):fO w0 w' ρ h :=
 ⟨hr.aA.trans hc (by simp),hr.dom,λ i ao hi=>by
  obtain⟨L,cur,vs,hl⟩:=hr.live i ao hi;obtain⟨fz,hblk,hfz⟩:=hl.blk;exact⟨L,cur,vs,hl.at_,hl.new,⟨fz,hc.keep hblk (by simp),hfz⟩,hl.val,hl.here,hl.room,hl.most⟩,hr.inj⟩
def Gl(P:Program)(K:Value->List Deferred->World->Prop):Next->World->Prop
 | .value v,w=>K v [] w
 | .skip,w=>K undef [] w
 | .defer d,w=>K undef [d] w
 | .enter f args,w=>Calls P f args w λ e w'=>∃ v,e=.returned v/\K v [] w'
 | .round l f tmps assign body,w=>RoundIn Fence.wide 0 P l f tmps assign body w λ e w'=>∃ v,e=.returned v/\K v [] w'
 | _,_=>False
def LR(P:Program)(o:Oper)(t:Tm)(w:World)(K:Value->List Deferred->World->Prop):Prop:=∃ n w',(execOp (ev t) o).run P w=.ok n w'/\Gl P K n w'
def Yj(P:Program)(o:Oper)(t:Tm)(w:World)(K:Value->List (World->Prop)->Prop):Prop:=∃ v T,K v T/\holds T w/\∀ w',holds T w'->(execOp (ev t) o).run P w' = .ok (.value v) w'
theorem LC{ro:Option Nat}{o:Oper}(hd:ro=none\/cX o.op=true)(r:Operand->Value):o.semAt (FW ro).round r=execOp r o:=by
 rcases hd with rfl|hd
 ·rfl
 ·exact Oper.semAt_eq _ _ _ (ic hd)
theorem NK{P:Program}{ro:Option Nat}{o:Oper}{t:Tm}{d:List Deferred}{w:World}{K:Value->List Deferred->World->Prop}{N:Act->World->Prop}{Q:Exit->Act->World->Prop}(hd:ro=none\/cX o.op=true)(hN:∀ v nd w',K v nd w'->N (eY (pt t o.dst v) (nd++d)) w')(h:LR P o t w K):o.wpIn (FW ro) 0 P (eY t d) w N Q:=by
 obtain⟨n,w',hr,hk⟩:=h;refine⟨λ _ _=>trivial,?_⟩;rw[LC hd,gk,hr]
 cases n<;>simp only[Gl] at hk<;>simp only[Oper.uponIn]
 ·rw[cE]; exact hN _ _ _ hk
 ·rw[cE]; exact hN _ _ _ hk
 ·rename_i f args;refine⟨λ h=>(by cases h),?_⟩;have h1:CallsIn Fence.wide 0 P _ _ w' _:=callsIn_wide.2 hk;refine CallsIn.mono (show CallsIn (FW ro) 0 P _ _ w' _ from h1) λ e w'' he=>?_;obtain⟨v,rfl,hv⟩:=he;show N ((eY t d).put o.dst v) w'';rw[cE];exact hN _ _ _ hv
 ·refine⟨λ h=>(by cases h),RoundIn.mono (show RoundIn (FW ro) 0 P _ _ _ _ _ w' _ from hk) λ e w'' he=>?_⟩;obtain⟨v,rfl,hv⟩:=he;show N ((eY t d).put o.dst v) w'';rw[cE];exact hN _ _ _ hv
 ·rename_i dd;have:({ (eY t d) with defers:=dd :: (eY t d).defers }:Act)=eY t (dd :: d):=rfl;rw[this,cE];exact hN _ _ _ hk
def vA(P:Program)(ops:Array Oper):List Oper->Tm->List Deferred->World->(Tm->List Deferred->World->Prop)->Prop
 | [],t,d,w,K=>K t d w
 | o :: rest,t,d,w,K=>gd ops t o (λ t=>LR P o t w λ v nd w'=>vA P ops rest (pt t o.dst v) (nd++d) w' K) (λ t=>vA P ops rest (pt t o.dst undef) d w K)
theorem zP{P:Program}{ro:Option Nat}{ops:Array Oper}{Q:Exit->Act->World->Prop}:∀ (l:List Oper) (t:Tm) (d:List Deferred) (w:World) (K:Tm->List Deferred->World->Prop),(ro=none\/cR l=true)->(∀ t d w,K t d w->Q .normal (eY t d) w)->vA P ops l t d w K->wpListIn (FW ro) 0 P ops Q l (eY t d) w
 | [],t,d,w,K,_,hK,h=>hK _ _ _ h
 | o :: rest,t,d,w,K,hn,hK,h=>by
  have hn1:ro=none\/cX o.op=true:=hn.imp id λ h=>by simp only[cR,List.all_cons,Bool.and_eq_true] at h; exact h.1
  have hn2:ro=none\/cR rest=true:=hn.imp id λ h=>by simp only[cR,List.all_cons,Bool.and_eq_true] at h; exact h.2
  unfold wpListIn;rcases nF (dd:=d) h with⟨hw,h⟩|⟨hw,h⟩
  ·rw[if_pos hw];exact NK hn1 (λ v nd w' h'=>zP rest _ _ _ K hn2 hK h') h
  ·rw[if_neg (by simpa using hw),cE];exact⟨λ _ _=>trivial,zP rest _ _ _ K hn2 hK h⟩
def fZ(P:Program)(ops:Array Oper):Nat->Array Bool->lI->Tm->World->(Tm->World->Prop)->Prop
 | 0,listed,_,t,w,K=>cond (Region.ready .any ops listed).isEmpty (K t w) False
 | n+1,listed,pend,t,w,K =>
  match pick ops (Region.ready .any ops listed) with
  | some i=>match ops[i]? with
   | none=>False
   | some o=>cond (Region.free .any ops listed i) (gd ops t o (λ t=>Yj P o t w λ v T=>fZ P ops n (listed.setIfInBounds i true) ((i,T) :: pend) (pt t o.dst v) w K)
     (λ t=>fZ P ops n (listed.setIfInBounds i true) pend (pt t o.dst undef) w K)) False
  | none=>match Region.ready .any ops listed with
   | []=>K t w
   | i :: is=>Ma ((i :: is).map λ i=>match ops[i]? with
    | none=>False
    | some o=>gd ops t o
     (λ t=>LR P o t w λ v nd w'=>nd=[]/\BU (drop ops i pend) w' (fZ P ops n (listed.setIfInBounds i true) (drop ops i pend) (pt t o.dst v) w' K))
     (λ t=>fZ P ops n (listed.setIfInBounds i true) (drop ops i pend) (pt t o.dst undef) w K))
theorem uN{ro:Option Nat}{P:Program}{ops:Array Oper}{dd:List Deferred}{Q:Exit->Act->World->Prop}(hnd:∀ (j:Nat) (o:Oper),ops[j]?=some o->cX o.op=true)(hs:Region.noSelect ops=true)(hQ:∀ c a w,¬ Q (.panic c) a w){K:Tm->World->Prop}(hK:∀ t w,K t w->Q .normal (eY t dd) w) :
  ∀ (n:Nat) (listed:Array Bool) (pend:lI) (t:Tm) (w:World),closed ops listed->(∀ p∈pend,holds p.2 w) ->
  fZ P ops n listed pend t w K->lR ro P ops Q n listed pend (eY t dd) w
 | 0,listed,pend,t,w,_,_,h=>by
  obtain⟨h1,h2⟩:=gO h;exact⟨List.isEmpty_iff.1 h1,hK _ _ h2⟩
 | n+1,listed,pend,t,w,hc,hp,h=>by
  unfold fZ at h
  split at h
  ·rename_i i hi;have hir:=vC hi
   split at h
   ·exact h.elim
   ·rename_i o ho;obtain⟨hf,h⟩:=gO h;rcases nF h with⟨hw,h⟩|⟨hw,h⟩
    ·obtain⟨v,T,hk,hT,hr⟩:=h;refine jG hnd ho (Region.noSelect_spec hs) hQ n listed pend (eY t dd) w hc (Region.free_spec ho hf) hir (.inl ⟨hw,λ w' hw'=>by rw[gk]; exact hr w' hw'⟩) hT hp ?_;rw[cE];refine uN hnd hs hQ hK n _ _ _ _ (hJ hc hir) ?_ hk;intro p hp';rcases List.mem_cons.1 hp' with rfl|hp'
     ·exact hT
     ·exact hp p hp'
    ·refine jG (T:=[]) hnd ho (Region.noSelect_spec hs) hQ n listed pend (eY t dd) w hc (Region.free_spec ho hf) hir (.inr ⟨hw,rfl⟩) (λ f hf=>by cases hf) hp ?_;rw[cE];refine oe n _ pend _ _ _ (λ p hp'=>?_) (uN hnd hs hQ hK n _ _ _ _ (hJ hc hir) hp h);rcases List.mem_cons.1 hp' with rfl|hp'
     ·exact .inr rfl
     ·exact .inl hp'
  ·split at h
   ·rename_i hr;exact⟨λ _=>hK _ _ h,λ i hi=>by rw[hr] at hi; cases hi⟩
   ·rename_i i0 is hr;refine⟨λ h0=>(by rw[h0] at hr; cases hr),λ i hi=>?_⟩;have hm:(match ops[i]? with
     | none=>False
     | some o=>gd ops t o
      (λ t=>LR P o t w λ v nd w'=>nd=[]/\BU (drop ops i pend) w' (fZ P ops n (listed.setIfInBounds i true) (drop ops i pend) (pt t o.dst v) w' K)) (λ t=>fZ P ops n (listed.setIfInBounds i true) (drop ops i pend) (pt t o.dst undef) w K)):=by
     refine qX h _ (List.mem_map.2 ⟨i,by rw[<- hr]; exact hi,rfl⟩)
    have hcs:=hJ hc hi;unfold wpOpIn
    cases ho:ops[i]? with
    | none=>rw[ho] at hm; exact hm.elim
    | some o =>
     simp only[ho] at hm ⊢;rcases nF hm with⟨hw,hm⟩|⟨hw,hm⟩
     ·rw[if_pos hw];refine(NK (.inr (hnd _ _ ho)) (λ v nd w' hv=>?_) hm);obtain⟨rfl,hv⟩:=hv;obtain⟨h1,h2⟩:=qY hv;exact⟨h1,uN hnd hs hQ hK n _ _ _ _ hcs h1 h2⟩
     ·rw[if_neg (by simp[hw]),cE];have h1:∀ p∈drop ops i pend,holds p.2 w:=λ p hp'=>hp p ((List.mem_filter.1 hp').1);exact⟨λ _ _=>trivial,h1,uN hnd hs hQ hK n _ _ _ _ hcs h1 hm⟩
def Wl:Value->Option AV
 | .int k n=>some (.int k n)
 | .bool b=>some (.bool b)
 | .string s=>some (.str s.data.toList)
 | .pointer none=>some .nilp
 | .slice none 0 0=>some .nils
 | .nilIface=>some .nili
 | .nilFunc=>some .nilf
 | .func (.func f) ⟨[]⟩ ⟨[]⟩=>some (.fn f [] [])
 | .tuple ⟨[]⟩=>some (.tup [])
 | _=>none
def QZ:List Value->Option (List AV)
 | []=>some []
 | v :: l=>match Wl v,QZ l with
  | some a,some az=>some (a :: az)
  | _,_=>none
def Wm:Value->Option AV
 | .agg ⟨cs⟩=>(QZ cs).map .agg
 | v=>Wl v
theorem NH{ρ:Names}{v:Value}{a:AV}(h:Wl v=some a):rv ρ a=some v:=by
 unfold Wl at h
 split at h<;>first|(cases h; done)|(cases h; rfl)
theorem NG{ρ:Names}:∀ {l:List Value} {az:List AV},QZ l=some az->dI ρ az=some l
 | [],_,h=>by cases h; rfl
 | v :: l,az,h=>by
  simp only[QZ] at h
  cases ha:Wl v with
  | none=>rw[ha] at h; cases h
  | some a =>
   cases hl:QZ l with
   | none=>rw[ha,hl] at h; cases h
   | some bs =>
    rw[ha,hl] at h
    cases h
    exact fG (NH ha) (NG hl)
theorem NI{ρ:Names}{v:Value}{a:AV}(h:Wm v=some a):rv ρ a=some v:=by
 unfold Wm at h
 split at h
 ·rename_i cs
  cases hl:QZ cs with
  | none=>rw[hl] at h; cases h
  | some az =>
   rw[hl] at h
   cases h
   simp only[rv,NG hl,Option.map_some]
 ·exact NH h
def dX(ρ:Names)(e:Tr AV)(t:Tm):Prop:=∀ i a,e.get i=some a->rv ρ a=some (gt t i)
theorem dX.mono{ρ σ:Names}{e:Tr AV}{t:Tm}(h:dX ρ e t)(hx:Ext ρ σ):dX σ e t:=λ i a hi=>EA hx (h i a hi)
def fe(e:Tr AV):Operand->Option AV
 | .tmp i=>e.get i
 | .const v=>Wm v
 | .func f=>some (.fn f [] [])
 | .global _=>none
theorem aV{ρ:Names}{e:Tr AV}{t:Tm}{x:Operand}{a:AV}(he:dX ρ e t)(h:fe e x=some a):rv ρ a=some (ev t x):=by
 cases x with
 | tmp i=>exact he i a h
 | const v=>exact NI h
 | func f=>cases h; rfl
 | global g=>cases h
def lY(e:Tr AV):List Operand->Option (List AV)
 | []=>some []
 | x :: l=>match fe e x,lY e l with
  | some a,some az=>some (a :: az)
  | _,_=>none
theorem fU{ρ:Names}{e:Tr AV}{t:Tm}(he:dX ρ e t):∀ {l:List Operand} {az:List AV},lY e l=some az->dI ρ az=some (l.map (ev t))
 | [],_,h=>by cases h; rfl
 | x :: l,az,h=>by
  simp only[lY] at h
  cases ha:fe e x with
  | none=>rw[ha] at h; cases h
  | some a =>
   cases hl:lY e l with
   | none=>rw[ha,hl] at h; cases h
   | some bs =>
    rw[ha,hl] at h
    cases h
    exact fG (aV he ha) (fU he hl)
theorem FT:∀ (t:Tm) (i:Nat) (v:Value),i<t.length->gt (st t i v) i=v
 | [],i,_,h=>by simp at h
 | x :: t,0,v,_=>rfl
 | x :: t,i+1,v,h=>FT t i v (by simpa using h)
def yO(N:Nat)(e:Tr AV)(d:Option Nat)(v:AV):Option (Tr AV):=match d with
 | none=>some e
 | some d=>cond (Nat.ble (Nat.succ d) N) (some (e.put d v)) none
theorem qZ{ρ:Names}{N:Nat}{e e' : Tr AV}{d:Option Nat}{a:AV}{v:Value}{t:Tm}(h:yO N e d a=some e')(hN:t.length=N)(he:dX ρ e t)(hv:rv ρ a=some v) :
  dX ρ e' (pt t d v)/\(pt t d v).length=N:=by
 cases d with
 | none=>cases h; exact⟨he,hN⟩
 | some d =>
  unfold yO at h
  cases hb:Nat.ble (Nat.succ d) N with
  | false=>simp only[hb,cond_false] at h; cases h
  | true =>
   simp only[hb,cond_true,Option.some.injEq] at h;have hd:d<t.length:=by rw[hN]; exact Nat.le_of_ble_eq_true hb
   subst h;refine⟨λ i b hi=>?_,by rw[show pt t (some d) v=st t d v from rfl,CJ]; exact hN⟩;show rv ρ b=some (gt (st t d v) i);rw[bL] at hi
   split at hi
   ·rename_i e1;subst e1
    cases hi
    rw[FT t i v hd]; exact hv
   ·rename_i e1;rw[FU t d i v (Ne.symm e1)];exact he i b hi
def V0(n:Nat)(f:Nat->AV):AV:=match n with
 | 0=>f 0
 | m+1=>f (Nat.succ m)
def D2(k:IntKind):Int->AV
 | .ofNat n=>V0 n λ n=>.int k (.ofNat n)
 | .negSucc n=>V0 n λ n=>.int k (.negSucc n)
theorem fq(k:IntKind)(n:Int):D2 k n=.int k n:=by
 cases n with
 | ofNat n=>cases n<;>rfl
 | negSucc n=>cases n<;>rfl
def uw(M:Nat):Int->Int
 | .ofNat a=>.ofNat (Nat.mod a M)
 | .negSucc a=>.ofNat (Nat.sub (Nat.sub M 1) (Nat.mod a M))
def sw(H M:Nat):Int->Int
 | .ofNat a=>cond (Nat.ble (Nat.succ (Nat.mod a M)) H) (.ofNat (Nat.mod a M)) (.negSucc (Nat.sub (Nat.sub M 1) (Nat.mod a M)))
 | .negSucc a=>cond (Nat.ble (Nat.succ (Nat.mod a M)) H) (.negSucc (Nat.mod a M)) (.ofNat (Nat.sub (Nat.sub M 1) (Nat.mod a M)))
def jn:IntKind->Int->Int
 | .u64,n=>uw 18446744073709551616 n
 | .i64,n=>sw 9223372036854775808 18446744073709551616 n
 | .u8,n=>uw 256 n
 | .i8,n=>sw 128 256 n
 | .u16,n=>uw 65536 n
 | .i16,n=>sw 32768 65536 n
 | .u32,n=>uw 4294967296 n
 | .i32,n=>sw 2147483648 4294967296 n
theorem G0(M:Nat)(hM:0<M)(n:Int):uw M n=n%(M:Int):=by
 cases n with
 | ofNat a=>rfl
 | negSucc a =>
  show((M-1-a%M:Nat):Int)=_;have h1:=Nat.mod_lt a hM;have h2:Int.negSucc a=-((a:Int)+1):=Int.negSucc_eq a;rw[h2];have h3:=Nat.div_add_mod a M;have h4 : -((a:Int)+1)=((M-1-a%M:Nat):Int)+(M:Int)*(-((a / M:Nat):Int)-1):=by
   have:((M-1-a%M:Nat):Int)=(M:Int)-1-((a%M:Nat):Int):=by omega
   rw[this];have h5:(a:Int)=(M:Int)*((a / M:Nat):Int)+((a%M:Nat):Int):=by
    rw[<- Int.natCast_mul,<- Int.natCast_add,h3]
   rw[Int.mul_sub,Int.mul_neg];omega
  rw[h4,Int.add_mul_emod_self_left,Int.emod_eq_of_lt (by omega) (by omega)]
theorem Kc(H M:Nat)(hM:M=2*H)(hH:0<H)(n:Int):sw H M n=if n%(M:Int)>=(H:Int) then n%(M:Int)-(M:Int) else n%(M:Int):=by
 have hMp:0<M:=by omega
 rw[<- G0 M hMp]
 cases n with
 | ofNat a =>
  have h1:=Nat.mod_lt a hMp;show cond (Nat.ble (Nat.succ (a%M)) H) (Int.ofNat (a%M)) (Int.negSucc (M-1-a%M))=if (Int.ofNat (a%M))>=(H:Int) then Int.ofNat (a%M)-(M:Int) else Int.ofNat (a%M)
  cases hb:Nat.ble (Nat.succ (a%M)) H with
  | true =>
   have:=Nat.le_of_ble_eq_true hb;rw[if_neg (by simp only[Int.ofNat_eq_natCast]; omega)]; rfl
  | false =>
   have : ¬ (a%M+1<=H):=λ h=>by rw[Nat.ble_eq_true_of_le h] at hb; cases hb
   rw[if_pos (by simp only[Int.ofNat_eq_natCast]; omega)];simp only[cond_false,Int.negSucc_eq,Int.ofNat_eq_natCast];omega
 | negSucc a =>
  have h1:=Nat.mod_lt a hMp;show cond (Nat.ble (Nat.succ (a%M)) H) (Int.negSucc (a%M)) (Int.ofNat (M-1-a%M))=if (Int.ofNat (M-1-a%M))>=(H:Int) then Int.ofNat (M-1-a%M)-(M:Int) else Int.ofNat (M-1-a%M)
  cases hb:Nat.ble (Nat.succ (a%M)) H with
  | true =>
   have:=Nat.le_of_ble_eq_true hb;rw[if_pos (by simp only[Int.ofNat_eq_natCast]; omega)];simp only[cond_true,Int.negSucc_eq,Int.ofNat_eq_natCast];omega
  | false =>
   have : ¬ (a%M+1<=H):=λ h=>by rw[Nat.ble_eq_true_of_le h] at hb; cases hb
   rw[if_neg (by simp only[Int.ofNat_eq_natCast]; omega)]; rfl
theorem dO(k:IntKind)(n:Int):jn k n=k.wrap n:=by
 cases k<;>simp only[jn,IntKind.wrap,IntKind.signed,IntKind.bits,Bool.true_and,Bool.false_and,Bool.false_eq_true,if_false]
 ·rw[Kc _ _ rfl (by decide)]; simp
 ·rw[Kc _ _ rfl (by decide)]; simp
 ·rw[Kc _ _ rfl (by decide)]; simp
 ·rw[Kc _ _ rfl (by decide)]; simp
 ·rw[G0 _ (by decide)]; rfl
 ·rw[G0 _ (by decide)]; rfl
 ·rw[G0 _ (by decide)]; rfl
 ·rw[G0 _ (by decide)]; rfl
def LW:Int->Int->Bool
 | .ofNat a,.ofNat b=>Nat.beq a b
 | .negSucc a,.negSucc b=>Nat.beq a b
 | _,_=>false
def FZ:Int->Int->Bool
 | .ofNat a,.ofNat b=>Nat.ble a b
 | .negSucc a,.negSucc b=>Nat.ble b a
 | .negSucc _,.ofNat _=>true
 | .ofNat _,.negSucc _=>false
theorem Nx(a b:Nat):Nat.beq a b=decide (a=b):=by
 by_cases h:a=b
 ·subst h; simp[Nat.beq_refl]
 ·simp[h,DD h]
theorem UG(a b:Nat):Nat.ble a b=decide (a<=b):=by
 cases hb:Nat.ble a b with
 | true=>simp[Nat.le_of_ble_eq_true hb]
 | false =>
  have : ¬ a<=b:=λ h=>by rw[Nat.ble_eq_true_of_le h] at hb; cases hb
  simp[this]
theorem wX(a b:Int):LW a b=(a==b):=by
 cases a<;>cases b<;>simp only[LW,Nx]<;>rw[Bool.eq_iff_iff]<;>simp<;>omega
theorem wY(a b:Int):FZ a b=decide (a<=b):=by
 cases a<;>cases b<;>simp only[FZ,UG]<;>rw[Bool.eq_iff_iff]<;>simp[Int.negSucc_eq]<;>omega
def D4(op:BinOp)(k:IntKind)(a b:Int):Option AV:=match op with
 | .add=>some (D2 k (jn k (Int.add a b)))
 | .sub=>some (D2 k (jn k (Int.sub a b)))
 | .mul=>some (D2 k (jn k (Int.mul a b)))
 | .quo=>cond (LW b 0) none (some (D2 k (jn k (Int.tdiv a b))))
 | .rem=>cond (LW b 0) none (some (D2 k (Int.tmod a b)))
 | .and=>some (D2 k (jn k ((BitVec.ofInt k.bits a &&& BitVec.ofInt k.bits b).toNat:Int)))
 | .or=>some (D2 k (jn k ((BitVec.ofInt k.bits a ||| BitVec.ofInt k.bits b).toNat:Int)))
 | .xor=>some (D2 k (jn k ((BitVec.ofInt k.bits a ^^^ BitVec.ofInt k.bits b).toNat:Int)))
 | .andNot=>some (D2 k (jn k ((BitVec.ofInt k.bits a &&& ~~~BitVec.ofInt k.bits b).toNat:Int)))
 | .eql=>some (.bool (LW a b))
 | .neq=>some (.bool (not (LW a b)))
 | .leq=>some (.bool (FZ a b))
 | .geq=>some (.bool (FZ b a))
 | .lss=>some (.bool (not (FZ b a)))
 | .gtr=>some (.bool (not (FZ a b)))
 | _=>none
def KM(op:BinOp)(k:IntKind)(a b:Int):Option AV:=cond (FZ 0 b) (match op with
 | .shl=>some (D2 k (jn k (a*2 ^ (min b.toNat k.bits))))
 | .shr=>some (D2 k (a.fdiv (2 ^ (min b.toNat k.bits))))
 | _=>none) none
def D9:List UInt8->List UInt8->Bool
 | [],[]=>true
 | a :: l,b :: m=>cond (Nat.beq a.toNat b.toNat) (D9 l m) false
 | _,_=>false
theorem nL:∀ (l m:List UInt8),D9 l m=(l==m)
 | [],[]=>rfl
 | [],_ :: _=>rfl
 | _ :: _,[]=>rfl
 | a :: l,b :: m=>by
  unfold D9;rw[Nx,nL l m]
  by_cases h:a=b
  ·subst h; simp
  ·have : ¬ a.toNat=b.toNat:=λ e=>h (UInt8.toNat.inj e);simp[this,h]
def Uk(op:BinOp)(a b:List UInt8):Option AV:=match op with
 | .add=>cond (Nat.ble (a.length+b.length) 9223372036854775807) (some (.str (a++b))) none
 | .eql=>some (.bool (D9 a b))
 | .neq=>some (.bool (not (D9 a b)))
 | .lss=>some (.bool (Op.bytesLess a b))
 | .leq=>some (.bool (or (Op.bytesLess a b) (D9 a b)))
 | .gtr=>some (.bool (not (or (Op.bytesLess a b) (D9 a b))))
 | .geq=>some (.bool (not (Op.bytesLess a b)))
 | _=>none
def ym(P:Program)(e:TypeId)(cs:List AV)(off:Nat):Option AV :=
 match P.underlying e,dw P e with
 | some d,some sz=>cond (wZ d) (some (.agg ((cs.drop off).take sz))) cs[off]?
 | _,_=>none
def geq(P:Program):Nat->TypeId->AV->AV->Option Bool
 | 0,_,_,_=>none
 | d+1,t,x,y =>
  match P.underlying t with
  | some .bool=>match x,y with
   | .bool a,.bool b=>some (a==b)
   | _,_=>none
  | some (.int _)=>match x,y with
   | .int k a,.int k' b=>cond (FE k k') (some (LW a b)) none
   | _,_=>none
  | some .string=>match x,y with
   | .str a,.str b=>some (D9 a b)
   | _,_=>none
  | some (.struct fs)=>match x,y with
   | .agg xs,.agg ys=>cond (P.stoodInHeld t||fs.toList.any λ f=>f.name== "_") none
     (tG (fs.toList.map λ f=>match ym P f.type xs f.offset,ym P f.type ys f.offset with
      | some a,some b=>geq P d f.type a b
      | _,_=>none))
   | _,_=>none
  | some (.array n e)=>match x,y with
   | .agg xs,.agg ys=>match dw P e with
    | none=>none
    | some sz=>tG ((List.range n).map λ i=>match ym P e xs (i*sz),ym P e ys (i*sz) with
      | some a,some b=>geq P d e a b
      | _,_=>none)
   | _,_=>none
  | _=>none
theorem mI{P:Program}{ρ:Names}{e:TypeId}{cs:List AV}{vs:List Value}{off:Nat}{a:AV}(h:ym P e cs off=some a)(hv:dI ρ cs=some vs) :
  ∃ v,qu P e vs.toArray off=some v/\rv ρ a=some v:=by
 unfold ym at h;unfold qu
 split at h
 ·rename_i d sz hu hs;simp only[hu,hs]
  cases hd:wZ d with
  | true =>
   rw[hd] at h
   cases h
   refine⟨_,rfl,?_⟩;simp only[rv,qG sz (Bq off hv),Option.map_some]
   congr 2
   simp
  | false =>
   rw[hd] at h;obtain⟨v,h1,h2⟩:=vO hv h;exact⟨v,by simpa using h1,h2⟩
 ·cases h
theorem z8{α:Type}{f g:α->Option Bool}(hfg:∀ a b,f a=some b->g a=some b):∀ (l:List α) (b:Bool),tG (l.map f)=some b->tG (l.map g)=some b
 | [],_,h=>h
 | a :: l,b,h=>by
  simp only[List.map_cons] at h ⊢
  cases hf:f a with
  | none=>rw[hf] at h; simp[tG] at h
  | some c =>
   rw[hf] at h;rw[hfg a c hf];simp only[tG] at h ⊢
   cases hr:tG (l.map f) with
   | none=>rw[hr] at h; cases h
   | some r=>rw[hr] at h; rw[z8 hfg l r hr]; exact h
theorem cw{ρ:Names}{k:IntKind}{n:Int}{v:Value}(h:rv ρ (.int k n)=some v):v=.int k n:=(Option.some.inj h).symm
theorem ff{ρ:Names}{b:Bool}{v:Value}(h:rv ρ (.bool b)=some v):v=.bool b:=(Option.some.inj h).symm
theorem gw{ρ:Names}{l:List UInt8}{v:Value}(h:rv ρ (.str l)=some v):v=.string ⟨l.toArray⟩:=(Option.some.inj h).symm
theorem nP{ρ:Names}{cs:List AV}{v:Value}(h:rv ρ (.agg cs)=some v):∃ vs,dI ρ cs=some vs/\v=.agg vs.toArray:=by
 simp only[rv,Option.map_eq_some_iff] at h;obtain⟨l,hl,rfl⟩:=h;exact⟨l,hl,rfl⟩
theorem Iw{ρ:Names}{cs:List AV}{v:Value}(h:rv ρ (.tup cs)=some v):∃ vs,dI ρ cs=some vs/\v=.tuple vs.toArray:=by
 simp only[rv,Option.map_eq_some_iff] at h;obtain⟨l,hl,rfl⟩:=h;exact⟨l,hl,rfl⟩
theorem gu{ρ:Names}{i o:Nat}{v:Value}(h:rv ρ (.ptr i o)=some v):∃ L,ρ i=some L/\v=.pointer (some ⟨L.b,o,none⟩):=by
 simp only[rv,Option.map_eq_some_iff] at h;obtain⟨l,hl,rfl⟩:=h;exact⟨l,hl,rfl⟩
theorem dD{ρ:Names}{i o l z:Nat}{v:Value}(h:rv ρ (.sli i o l z)=some v):∃ L,ρ i=some L/\o+l<=L.tot/\L.esz=z/\v=.slice (some ⟨L.b,o*z,none⟩) l (L.tot-o):=by
 simp only[rv,Option.bind_eq_some_iff] at h;obtain⟨L,hL,h⟩:=h
 split at h
 ·rename_i hc;exact⟨L,hL,hc.1,hc.2,(Option.some.inj h).symm⟩
 ·cases h
theorem D3{P:Program}{ρ:Names}:∀ (d:Nat) (t:TypeId) (x y:AV) (vx vy:Value) (b:Bool),geq P d t x y=some b->rv ρ x=some vx->rv ρ y=some vy->O6 P d t vx vy=some b
 | 0,_,_,_,_,_,_,h,_,_=>by cases h
 | d+1,t,x,y,vx,vy,b,h,hx,hy=>by
  unfold geq at h;unfold O6
  split at h
  ·rename_i hu;simp only[hu]
   split at h
   ·cases ff hx; cases ff hy; exact h
   ·cases h
  ·rename_i k hu;simp only[hu]
   split at h
   ·cases cw hx; cases cw hy
    rw[wX] at h; exact h
   ·cases h
  ·rename_i hu;simp only[hu]
   split at h
   ·rename_i a b'
    cases gw hx; cases gw hy
    rw[nL] at h;simp only[Option.some.injEq] at h ⊢;rw[<- h];rw[Bool.eq_iff_iff];show(a.toArray==b'.toArray)=true<->(a==b')=true
    simp
   ·cases h
  ·rename_i fs hu;simp only[hu]
   split at h
   ·rename_i xs ys;obtain⟨vxs,hxs,rfl⟩:=nP hx;obtain⟨vys,hys,rfl⟩:=nP hy
    cases hs:(P.stoodInHeld t||fs.toList.any λ f=>f.name== "_") with
    | true=>rw[hs] at h; cases h
    | false =>
     rw[hs] at h;simp only[cond_false] at h ⊢;refine z8 (λ f c hf=>?_) _ _ h
     split at hf
     ·rename_i a b' ha hb;obtain⟨va,h1,h2⟩:=mI ha hxs;obtain⟨vb,h3,h4⟩:=mI hb hys;simp only[h1,h3];exact D3 d f.type a b' va vb c hf h2 h4
     ·cases hf
   ·cases h
  ·rename_i n e hu;simp only[hu]
   split at h
   ·rename_i xs ys;obtain⟨vxs,hxs,rfl⟩:=nP hx;obtain⟨vys,hys,rfl⟩:=nP hy
    split at h
    ·cases h
    ·rename_i sz hsz;simp only[hsz];refine z8 (λ f c hf=>?_) _ _ h
     split at hf
     ·rename_i a b' ha hb;obtain⟨va,h1,h2⟩:=mI ha hxs;obtain⟨vb,h3,h4⟩:=mI hb hys;simp only[h1,h3];exact D3 d e a b' va vb c hf h2 h4
     ·cases hf
   ·cases h
  ·cases h
def gV(P:Program)(ρ:Names)(s:Sem Value)(a:AV):Prop:=∃ v,rv ρ a=some v/\∀ w,s.run P w=.ok v w
def Ss:Operand->Bool
 | .const _=>true
 | _=>false
def Qj(P:Program)(ty:TypeId)(cn:Bool)(a b:AV):Option Bool:=match P.underlying ty with
 | some (.pointer e)=>match a,b with
  | .nilp,.nilp=>some true
  | .nilp,.ptr _ _=>some false
  | .ptr _ _,.nilp=>some false
  | .ptr i o,.ptr j p=>cond (Nat.beq i j&&Nat.beq o p&&(P.info? e).isSome) (some true) none
  | _,_=>none
 | some (.slice _)=>match a,b with
  | .nils,.nils=>some true
  | .nils,.sli _ _ _ _=>some false
  | .sli _ _ _ _,.nils=>some false
  | _,_=>none
 | some (.interface _)=>match a,b with
  | .nili,.nili=>cond cn (some true) none
  | .nili,.iface _ _=>some false
  | .iface _ _,.nili=>some false
  | _,_=>none
 | some .bool=>match a,b with
  | .bool x,.bool y=>some (x==y)
  | _,_=>none
 | _=>match a,b with
  | .agg xs,.agg ys=>cond (P.eqGuardType P.depth ty) none (geq P 12 ty (.agg xs) (.agg ys))
  | _,_=>none
theorem bN{P:Program}{ty:TypeId}{x y:Operand}{vx vy:Value}{b neg:Bool}{w:World}(h:(Op.equal ty vx vy).run P w=.ok b w)(hb:(binOp (cond neg .neq .eql) ty vx vy)=(do let r <- Op.equal ty vx vy; pure (.bool (cond neg (!r) r))))(hg:(eqGuard (cond neg .neq .eql) ty x y vx vy).run P w=.ok () w):(do eqGuard (cond neg .neq .eql) ty x y vx vy; binOp (cond neg .neq .eql) ty vx vy:Sem Value).run P w=.ok (.bool (cond neg (!b) b)) w:=by
 have h3:=jz (neg:=neg) h hb;simp only[Sem.run_bind,hg,Result.andThen_ok,h3]
theorem Jq{P:Program}{ρ:Names}{ty:TypeId}{x y:Operand}{a b:AV}{vx vy:Value}{r:Bool}(h:Qj P ty (Ss x||Ss y) a b=some r)(ha:rv ρ a=some vx)(hb:rv ρ b=some vy)(neg:Bool)(w:World):(do eqGuard (cond neg .neq .eql) ty x y vx vy; binOp (cond neg .neq .eql) ty vx vy:Sem Value).run P w=.ok (.bool (cond neg (!r) r)) w:=by
 unfold Qj at h
 split at h
 ·rename_i e hu
  split at h
  ·cases h; cases ha; cases hb
   exact bN (cq λ d=>by simp[Op.equalIn,aD hu]) (by cases neg<;>rfl) (by cases neg<;>simp[eqGuard])
  ·cases h; cases ha
   obtain⟨L,_,rfl⟩:=gu hb;exact bN (cq λ d=>by simp[Op.equalIn,aD hu]) (by cases neg<;>rfl) (by cases neg<;>simp[eqGuard])
  ·cases h; cases hb
   obtain⟨L,_,rfl⟩:=gu ha;exact bN (cq λ d=>by simp[Op.equalIn,aD hu]) (by cases neg<;>rfl) (by cases neg<;>simp[eqGuard])
  ·rename_i i o j p
   cases hc:(Nat.beq i j&&Nat.beq o p&&(P.info? e).isSome) with
   | false=>rw[hc] at h; cases h
   | true =>
    rw[hc] at h
    cases h
    simp only[Bool.and_eq_true] at hc;obtain⟨⟨q1,q2⟩,q3⟩:=hc;obtain rfl:=beq_iff.1 q1;obtain rfl:=beq_iff.1 q2;obtain⟨inf,hte⟩:=Option.isSome_iff_exists.1 q3;obtain⟨L,hL,rfl⟩:=gu ha;obtain⟨L',hL',rfl⟩:=gu hb;obtain rfl:L=L':=Option.some.inj (hL.symm.trans hL');exact bN (cq λ d=>by simp[Op.equalIn,aD hu,sizeOf,typeInfo,hte,run_sameAddr_same]) (by cases neg<;>rfl) (by cases neg<;>simp[eqGuard])
  ·cases h
 ·rename_i e hu
  split at h
  ·cases h; cases ha; cases hb
   exact bN (cq λ d=>by simp[Op.equalIn,aD hu]) (by cases neg<;>rfl) (by cases neg<;>simp[eqGuard])
  ·cases h; cases ha
   obtain⟨L,_,_,_,rfl⟩:=dD hb;exact bN (cq λ d=>by simp[Op.equalIn,aD hu]) (by cases neg<;>rfl) (by cases neg<;>simp[eqGuard])
  ·cases h; cases hb
   obtain⟨L,_,_,_,rfl⟩:=dD ha;exact bN (cq λ d=>by simp[Op.equalIn,aD hu]) (by cases neg<;>rfl) (by cases neg<;>simp[eqGuard])
  ·cases h
 ·rename_i ms hu
  split at h
  ·cases ha; cases hb
   cases hc:(Ss x||Ss y) with
   | false=>rw[hc] at h; cases h
   | true =>
    rw[hc] at h
    cases h
    refine bN (cq λ d=>by simp[Op.equalIn,aD hu]) (by cases neg<;>rfl) ?_
    cases x<;>cases y<;>first|(cases hc; done)|(cases neg<;>simp[eqGuard])
  ·cases h; cases ha
   simp only[rv,Option.map_eq_some_iff] at hb;obtain⟨u,_,rfl⟩:=hb;exact bN (cq λ d=>by simp[Op.equalIn,aD hu]) (by cases neg<;>rfl) (by cases neg<;>simp[eqGuard])
  ·cases h; cases hb
   simp only[rv,Option.map_eq_some_iff] at ha;obtain⟨u,_,rfl⟩:=ha;exact bN (cq λ d=>by simp[Op.equalIn,aD hu]) (by cases neg<;>rfl) (by cases neg<;>simp[eqGuard])
  ·cases h
 ·rename_i hu
  split at h
  ·cases h
   cases ff ha; cases ff hb
   exact bN (cq λ d=>by simp[Op.equalIn,aD hu]) (by cases neg<;>rfl) (by cases neg<;>simp[eqGuard])
  ·cases h
 ·split at h
  ·rename_i xs ys
   cases hg:P.eqGuardType P.depth ty with
   | true=>rw[hg] at h; cases h
   | false =>
    rw[hg] at h;simp only[cond_false] at h;obtain⟨vxs,hxs,rfl⟩:=nP ha;obtain⟨vys,hys,rfl⟩:=nP hb;have he:=D3 12 ty _ _ _ _ r h ha hb;have hF:Kr P ty neg (.agg vxs.toArray) (.agg vys.toArray)=some λ K=>K (.bool (cond neg (!r) r)):=by
     unfold Kr;simp only[hg,cond_false,he]
    obtain⟨v,hr,rfl⟩:=tF (x:=x) (y:=y) hF (K:=λ v=>v=.bool (cond neg (!r) r)) rfl;exact hr w
  ·cases h
def KI(P:Program)(op:BinOp)(ty:TypeId)(x y:Operand)(a b:AV):Option AV:=match a with
 | .int k n=>match b with
  | .int k' m=>match op with
   | .shl=>KM .shl k n m
   | .shr=>KM .shr k n m
   | op=>cond (FE k k') (D4 op k n m) none
  | _=>none
 | .str l=>match b with
  | .str m=>Uk op l m
  | _=>none
 | a=>match op with
  | .eql=>(Qj P ty (Ss x||Ss y) a b).map .bool
  | .neq=>(Qj P ty (Ss x||Ss y) a b).map λ b=>.bool (not b)
  | _=>none
theorem Js{op:BinOp}{k k' : IntKind}{n m:Int}{r:AV}(h:KM op k n m=some r)(P:Program)(ρ:Names):∃ v,rv ρ r=some v/\∀ w,(Op.shift op k n k' m).run P w=.ok v w:=by
 unfold KM at h
 cases hm:FZ 0 m with
 | false=>rw[hm] at h; cases h
 | true =>
  rw[hm] at h;have hm' : (0:Int)<=m:=by rw[wY] at hm; simpa using hm
  simp only[cond_true] at h
  split at h
  ·cases h
   exact⟨_,by rw[fq]; rfl,λ w=>by simp[Op.shift,Int.not_lt.2 hm',dO]⟩
  ·cases h
   exact⟨_,by rw[fq]; rfl,λ w=>by simp[Op.shift,Int.not_lt.2 hm']⟩
  ·cases h
theorem Qf{op:BinOp}{k:IntKind}{n m:Int}{r:AV}(h:D4 op k n m=some r)(P:Program)(ρ:Names)(ty:TypeId):∃ v,rv ρ r=some v/\∀ w,(binOp op ty (.int k n) (.int k m)).run P w=.ok v w:=by
 have hlt:∀ a b:Int,(!FZ b a)=decide (a<b):=λ a b=>by rw[wY,Bool.eq_iff_iff]; simp
 cases op<;>simp only[D4] at h
 case add=>cases h; refine⟨_,by rw[fq]; rfl,λ w=>?_⟩; simp[binOp,Op.intArith,dO]
 case sub=>cases h; refine⟨_,by rw[fq]; rfl,λ w=>?_⟩; simp[binOp,Op.intArith,dO]; rfl
 case mul=>cases h; refine⟨_,by rw[fq]; rfl,λ w=>?_⟩; simp[binOp,Op.intArith,dO]
 case quo =>
  cases hb:LW m 0 with
  | true=>rw[hb] at h; cases h
  | false =>
   rw[hb] at h
   cases h
   have hz:m≠0:=by rw[wX] at hb; simpa using hb
   refine⟨_,by rw[fq]; rfl,λ w=>?_⟩;simp[binOp,Op.intDiv,hz,dO]
 case rem =>
  cases hb:LW m 0 with
  | true=>rw[hb] at h; cases h
  | false =>
   rw[hb] at h
   cases h
   have hz:m≠0:=by rw[wX] at hb; simpa using hb
   refine⟨_,by rw[fq]; rfl,λ w=>?_⟩;simp[binOp,Op.intDiv,hz]
 case and=>cases h; refine⟨_,by rw[fq]; rfl,λ w=>?_⟩; simp only[binOp,dO]; simp[Op.intBits]
 case or=>cases h; refine⟨_,by rw[fq]; rfl,λ w=>?_⟩; simp only[binOp,dO]; simp[Op.intBits]
 case xor=>cases h; refine⟨_,by rw[fq]; rfl,λ w=>?_⟩; simp only[binOp,dO]; simp[Op.intBits]
 case andNot=>cases h; refine⟨_,by rw[fq]; rfl,λ w=>?_⟩; simp only[binOp,dO]; simp[Op.intBits]
 case shl=>cases h
 case shr=>cases h
 case eql=>cases h; refine⟨_,rfl,λ w=>?_⟩; simp[binOp,Op.intCmp,wX]
 case neq=>cases h; refine⟨_,rfl,λ w=>?_⟩; simp[binOp,Op.intCmp,wX,bne]
 case lss=>cases h; refine⟨_,rfl,λ w=>?_⟩; rw[hlt]; simp[binOp,Op.intCmp]
 case leq=>cases h; refine⟨_,rfl,λ w=>?_⟩; rw[wY]; simp[binOp,Op.intCmp]
 case gtr=>cases h; refine⟨_,rfl,λ w=>?_⟩; rw[hlt]; simp[binOp,Op.intCmp]
 case geq=>cases h; refine⟨_,rfl,λ w=>?_⟩; rw[wY]; simp[binOp,Op.intCmp]
theorem Qq{op:BinOp}{a b:List UInt8}{r:AV}(h:Uk op a b=some r)(P:Program)(ρ:Names)(ty:TypeId):∃ v,rv ρ r=some v/\∀ w,(binOp op ty (.string ⟨a.toArray⟩) (.string ⟨b.toArray⟩)).run P w=.ok v w:=by
 have e1:(⟨a.toArray⟩:ByteArray).size=a.length:=by simp[ByteArray.size]
 have e2:(⟨b.toArray⟩:ByteArray).size=b.length:=by simp[ByteArray.size]
 cases op<;>simp only[Uk] at h
 case add =>
  cases hb:Nat.ble (a.length+b.length) 9223372036854775807 with
  | false=>rw[hb] at h; cases h
  | true =>
   rw[hb] at h
   cases h
   have hl:=Nat.le_of_ble_eq_true hb;refine⟨.string (⟨a.toArray⟩++⟨b.toArray⟩),?_,λ w=>?_⟩
   ·simp only[rv]
    congr 2
   ·have hm:IntKind.i64.max=9223372036854775807:=rfl;have hs : ¬ ((((⟨a.toArray⟩:ByteArray).size+(⟨b.toArray⟩:ByteArray).size:Nat):Int)>IntKind.i64.max):=by
     rw[hm,e1,e2];omega
    simp only[binOp,Op.stringOp,if_neg hs,Sem.run_pure]
 case eql=>cases h; exact⟨_,rfl,λ w=>by simp[binOp,Op.stringOp,nL,ByteArray.toList_mk]⟩
 case neq=>cases h; exact⟨_,rfl,λ w=>by simp[binOp,Op.stringOp,nL,ByteArray.toList_mk]⟩
 case lss=>cases h; exact⟨_,rfl,λ w=>by simp[binOp,Op.stringOp,ByteArray.toList_mk]⟩
 case leq=>cases h; exact⟨_,rfl,λ w=>by simp[binOp,Op.stringOp,nL,ByteArray.toList_mk]⟩
 case gtr=>cases h; exact⟨_,rfl,λ w=>by simp[binOp,Op.stringOp,nL,ByteArray.toList_mk]⟩
 case geq=>cases h; exact⟨_,rfl,λ w=>by simp[binOp,Op.stringOp,ByteArray.toList_mk]⟩
 all_goals cases h
theorem HO{P:Program}{op:BinOp}{ty:TypeId}{x y:Operand}{k k' : IntKind}{n m:Int}{w:World}:(eqGuard op ty x y (.int k n) (.int k' m)).run P w=.ok () w:=by
 cases op<;>simp[eqGuard]
theorem FV{P:Program}{op:BinOp}{ty:TypeId}{x y:Operand}{a b:ByteArray}{w:World}:(eqGuard op ty x y (.string a) (.string b)).run P w=.ok () w:=by
 cases op<;>simp[eqGuard]
theorem P6{P:Program}{ρ:Names}{op:BinOp}{ty:TypeId}{x y:Operand}{a b r:AV}{vx vy:Value}(h:KI P op ty x y a b=some r)(ha:rv ρ a=some vx)(hb:rv ρ b=some vy) :
  gV P ρ (do eqGuard op ty x y vx vy; binOp op ty vx vy) r:=by
 unfold KI at h
 split at h
 ·rename_i k n
  cases cw ha
  split at h
  ·rename_i k' m
   cases cw hb
   have key:∀ {s:Sem Value},binOp op ty (.int k n) (.int k' m)=s->(∃ v,rv ρ r=some v/\∀ w,s.run P w=.ok v w)->gV P ρ (do eqGuard op ty x y (.int k n) (.int k' m); binOp op ty (.int k n) (.int k' m)) r:=λ {s} he hs=>by
    obtain⟨v,h1,h2⟩:=hs;exact⟨v,h1,λ w=>by simp only[Sem.run_bind,HO,Result.andThen_ok,he,h2]⟩
   split at h
   ·exact key rfl (Js (k':=k') h P ρ)
   ·exact key rfl (Js (k':=k') h P ρ)
   ·cases he:FE k k' with
    | false=>rw[he] at h; cases h
    | true =>
     have:=jY he;subst this;rw[he] at h;exact key rfl (Qf h P ρ ty)
  ·cases h
 ·rename_i l
  cases gw ha
  split at h
  ·rename_i m
   cases gw hb
   obtain⟨v,h1,h2⟩:=Qq h P ρ ty;exact⟨v,h1,λ w=>by simp only[Sem.run_bind,FV,Result.andThen_ok,h2]⟩
  ·cases h
 ·split at h
  ·simp only[Option.map_eq_some_iff] at h;obtain⟨c,hc,rfl⟩:=h;exact⟨_,rfl,λ w=>Jq hc ha hb false w⟩
  ·simp only[Option.map_eq_some_iff] at h;obtain⟨c,hc,rfl⟩:=h;exact⟨_,rfl,λ w=>Jq hc ha hb true w⟩
  ·cases h
def KK(P:Program)(ty:TypeId)(f:Nat):Option Nat:=match P.underlying ty with
 | some (.struct fs)=>match fs[f]? with
  | some fd=>match dw P fd.type with
   | some (_+1)=>some fd.offset
   | _=>none
  | none=>none
 | _=>none
theorem Ql{P:Program}{ty:TypeId}{f off b o:Nat}(h:KK P ty f=some off)(w:World):(Instr.fieldAt ty (.pointer (some ⟨b,o,none⟩)) f).run P w=.ok (.pointer (some ⟨b,o+off,none⟩)) w:=by
 unfold KK at h
 split at h
 ·rename_i fs hu
  split at h
  ·rename_i fd hf
   split at h
   ·rename_i k hs
    cases h
    simp[Instr.fieldAt,aD hu,hf,Instr.sureAddr,fieldPlace,bT hs,bq]
   ·cases h
  ·cases h
 ·cases h
def MS(P:Program)(ty:TypeId)(a:AV)(f:Nat):Option AV:=match P.underlying ty,a with
 | some (.struct fs),.agg cs=>match fs[f]? with
  | some fd=>ym P fd.type cs fd.offset
  | none=>none
 | _,_=>none
theorem Qd{P:Program}{ρ:Names}{ty:TypeId}{a r:AV}{f:Nat}{v:Value}(h:MS P ty a f=some r)(ha:rv ρ a=some v):gV P ρ (Instr.field ty v f) r:=by
 unfold MS at h
 split at h
 ·rename_i fs cs hu
  split at h
  ·rename_i fd hf;obtain⟨vs,hvs,rfl⟩:=nP ha;obtain⟨u,h1,h2⟩:=mI h hvs;exact⟨u,h2,λ w=>by simp[Instr.field,aD hu,hf,asAgg,mJ h1]⟩
  ·cases h
 ·cases h
def oY{α:Type}:List α->Nat->Option α
 | [],_=>none
 | a :: _,0=>some a
 | _ :: l,n+1=>oY l n
theorem zH{α:Type}:∀ (l:List α) (i:Nat),oY l i=l[i]?
 | [],_=>rfl
 | _ :: _,0=>rfl
 | _ :: l,i+1=>by rw[List.getElem?_cons_succ]; exact zH l i
def MT(P:Program)(ty:TypeId)(a i:AV):Option AV:=match i with
 | .int _ (.ofNat n)=>match P.underlying ty,a with
  | some .string,.str l=>match oY l n with
   | some b=>some (.int .u8 (.ofNat b.toNat))
   | none=>none
  | some (.array len e),.agg cs=>match dw P e with
   | some sz=>cond (Nat.ble (Nat.succ n) len) (ym P e cs (Nat.mul n sz)) none
   | none=>none
  | _,_=>none
 | _=>none
theorem Qe{P:Program}{ρ:Names}{ty:TypeId}{a i r:AV}{v vi:Value}(h:MT P ty a i=some r)(ha:rv ρ a=some v)(hi:rv ρ i=some vi):gV P ρ (Instr.index ty v vi) r:=by
 unfold MT at h
 split at h
 ·rename_i k n
  cases cw hi
  split at h
  ·rename_i l hu
   cases gw ha
   split at h
   ·rename_i b hb
    cases h
    refine⟨_,rfl,λ w=>?_⟩;have hb' : (⟨l.toArray⟩:ByteArray)[n]?=some b:=by
     rw[zH] at hb;obtain⟨h1,h2⟩:=List.getElem?_eq_some_iff.1 hb;have:n<(⟨l.toArray⟩:ByteArray).size:=by simpa[ByteArray.size] using h1
     rw[getElem?_pos (⟨l.toArray⟩:ByteArray) n this,<- h2];rfl
    simp[Instr.index,asIntOf,aD hu,hb']
   ·cases h
  ·rename_i len e cs hu
   split at h
   ·rename_i sz hsz
    cases hb:Nat.ble (Nat.succ n) len with
    | false=>rw[hb] at h; cases h
    | true =>
     rw[hb] at h;have hlt:n<len:=Nat.le_of_ble_eq_true hb;obtain⟨vs,hvs,rfl⟩:=nP ha;obtain⟨u,h1,h2⟩:=mI h hvs;have h1:qu P e vs.toArray (n*sz)=some u:=h1;exact⟨u,h2,λ w=>by simp[Instr.index,asIntOf,aD hu,hlt,bT hsz,mJ h1]⟩
   ·cases h
  ·cases h
 ·cases h
def MV(P:Program)(ty:TypeId)(a i:AV):Option AV:=match i with
 | .int _ (.ofNat n)=>match P.underlying ty,a with
  | some (.slice e),.sli j o l z=>match dw P e with
   | some sz=>cond (Nat.ble (Nat.succ n) l&&Nat.beq sz z) (some (.ptr j (Nat.mul (Nat.add o n) z))) none
   | none=>none
  | some (.array len e),.ptr j o=>match dw P e with
   | some sz=>cond (Nat.ble (Nat.succ n) len) (some (.ptr j (Nat.add o (Nat.mul n sz)))) none
   | none=>none
  | _,_=>none
 | _=>none
theorem Qg{P:Program}{ρ:Names}{ty:TypeId}{a i r:AV}{v vi:Value}(h:MV P ty a i=some r)(ha:rv ρ a=some v)(hi:rv ρ i=some vi):gV P ρ (Instr.indexAt ty v vi) r:=by
 unfold MV at h
 split at h
 ·rename_i k n
  cases cw hi
  split at h
  ·rename_i e j o l z hu
   split at h
   ·rename_i sz hsz
    cases hb:(Nat.ble (Nat.succ n) l&&Nat.beq sz z) with
    | false=>rw[hb] at h; cases h
    | true =>
     rw[hb] at h
     cases h
     simp only[Bool.and_eq_true] at hb;have hlt:n<l:=Nat.le_of_ble_eq_true hb.1;obtain rfl:=beq_iff.1 hb.2;obtain⟨L,hL,_,_,rfl⟩:=dD ha;refine⟨.pointer (some ⟨L.b,(o+n)*sz,none⟩),?_,λ w=>?_⟩
     ·simp only[rv,hL,Option.map_some]; rfl
     ·have hadd:(⟨L.b,o*sz,none⟩:Addr).add (n*sz)=⟨L.b,(o+n)*sz,none⟩:=by rw[bq,Nat.add_mul]
      simp[Instr.indexAt,asIntOf,aD hu,hlt,bT hsz,hadd]
   ·cases h
  ·rename_i len e j o hu
   split at h
   ·rename_i sz hsz
    cases hb:Nat.ble (Nat.succ n) len with
    | false=>rw[hb] at h; cases h
    | true =>
     rw[hb] at h
     cases h
     have hlt:n<len:=Nat.le_of_ble_eq_true hb;obtain⟨L,hL,rfl⟩:=gu ha;refine⟨.pointer (some ⟨L.b,o+n*sz,none⟩),?_,λ w=>?_⟩
     ·simp only[rv,hL,Option.map_some]; rfl
     ·simp[Instr.indexAt,Instr.sureAddr,asIntOf,aD hu,hlt,bT hsz,bq]
   ·cases h
  ·cases h
 ·cases h
def wV(x:Option AV)(d top:Nat):Option Nat:=match x with
 | none=>some d
 | some (.int _ (.ofNat n))=>cond (Nat.ble n top) (some n) none
 | some _=>none
theorem jB{ρ:Names}{x:Option AV}{vx:Option Value}{d top n:Nat}{F:Nat->Prop}(h:wV x d top=some n)(hx:∀ a,x=some a->∃ v,vx=some v/\rv ρ a=some v)(hn:x=none->vx=none)(k:F n){top' : Nat}(ht:top<=top') :
  lN vx d top' F:=by
 unfold wV at h
 split at h
 ·cases h
  rw[hn rfl];exact k
 ·rename_i kk m
  cases hb:Nat.ble m top with
  | false=>rw[hb] at h; cases h
  | true =>
   rw[hb] at h
   cases h
   obtain⟨v,rfl,hv⟩:=hx _ rfl
   cases cw hv
   refine⟨by simp,?_,by simpa using k⟩;have:=Nat.le_of_ble_eq_true hb;simp only[Int.ofNat_eq_natCast];omega
 ·cases h
theorem kW{x:Option AV}{d top n:Nat}(h:wV x d top=some n)(hd:d<=top):n<=top:=by
 unfold wV at h
 split at h
 ·cases h; exact hd
 ·rename_i kk m
  cases hb:Nat.ble m top with
  | false=>rw[hb] at h; cases h
  | true=>rw[hb] at h; cases h; exact Nat.le_of_ble_eq_true hb
 ·cases h
def Uj(P:Program)(ty:TypeId)(a:AV)(lo hi:Option AV):Option AV:=match P.underlying ty,a with
 | some .string,.str s=>match wV hi s.length s.length with
  | some h=>match wV lo 0 h with
   | some l=>some (.str ((s.drop l).take (Nat.sub h l)))
   | none=>none
  | none=>none
 | some (.slice e),.sli i o len z=>match dw P e,wV hi len len with
  | some sz,some h=>match wV lo 0 h with
   | some l=>cond (Nat.beq sz z&&(Nat.beq l 0||Nat.ble (Nat.succ l) len)) (some (.sli i (Nat.add o l) (Nat.sub h l) z)) none
   | none=>none
  | _,_=>none
 | some (.slice e),.nils=>match dw P e,wV hi 0 0 with
  | some _,some h=>match wV lo 0 h with
   | some _=>some .nils
   | none=>none
  | _,_=>none
 | _,_=>none
theorem Qo{P:Program}{ρ:Names}{ty:TypeId}{a r:AV}{lo hi:Option AV}{v:Value}{vlo vhi:Option Value}(h:Uj P ty a lo hi=some r)(ha:rv ρ a=some v)(hlo:∀ a,lo=some a->∃ v,vlo=some v/\rv ρ a=some v)(hlo0:lo=none->vlo=none)(hhi:∀ a,hi=some a->∃ v,vhi=some v/\rv ρ a=some v)(hhi0:hi=none->vhi=none):gV P ρ (Instr.sliceAt ty v vlo vhi none) r:=by
 have key:∀ u,rv ρ r=some u->RM P ty v vlo vhi none (λ x=>x=u)->gV P ρ (Instr.sliceAt ty v vlo vhi none) r:=λ u hu hs=>by
  obtain⟨x,hr,rfl⟩:=EG hs;exact⟨x,hu,hr⟩
 unfold Uj at h
 split at h
 ·rename_i s hu
  cases gw ha
  split at h
  ·rename_i hh hhe
   split at h
   ·rename_i l hle
    cases h
    refine key _ rfl ?_;unfold RM;simp only[hu];have hs:(⟨s.toArray⟩:ByteArray).size=s.length:=by simp[ByteArray.size]
    rw[hs];refine jB hhe hhi hhi0 (jB hle hlo hlo0 ?_ (Nat.le_refl _)) (Nat.le_refl _)
    congr 1
    apply ByteArray.ext;have h1:=kW hhe (Nat.le_refl _);simp only[ByteArray.data_extract];simp[List.extract_eq_take_drop]
    try rfl
   ·cases h
  ·cases h
 ·rename_i e i o len z hu
  split at h
  ·rename_i sz hh hsz hhe
   split at h
   ·rename_i l hle
    cases hb:(Nat.beq sz z&&(Nat.beq l 0||Nat.ble (Nat.succ l) len)) with
    | false=>rw[hb] at h; cases h
    | true =>
     rw[hb] at h
     cases h
     simp only[Bool.and_eq_true,Bool.or_eq_true] at hb;obtain rfl:=beq_iff.1 hb.1;obtain⟨L,hL,hle1,hesz,rfl⟩:=dD ha;have h1:=kW hhe (Nat.le_refl _);have h2:=kW hle (Nat.zero_le _);refine key (.slice (some ⟨L.b,(o+l)*sz,none⟩) (hh-l) (L.tot-(o+l))) ?_ ?_
     ·have e1:Nat.add o l=o+l:=rfl;have e2:Nat.sub hh l=hh-l:=rfl;simp only[rv,hL,Option.bind_some,e1,e2];rw[if_pos ⟨by omega,hesz⟩]
     ·unfold RM;simp only[hu,Option.isSome_none,Bool.false_and,cond_false,hsz,au];show lN vhi len (L.tot-o) (λ h=>lN vlo 0 h λ l_1=>Value.slice (if (L.tot-o)=l_1 then some (⟨L.b,o*sz,none⟩:Addr) else Option.map (λ x:Addr=>x.add (l_1*sz)) (some (⟨L.b,o*sz,none⟩:Addr))) (h-l_1) (L.tot-o-l_1)=Value.slice (some (⟨L.b,(o+l)*sz,none⟩:Addr)) (hh-l) (L.tot-(o+l)));refine jB hhe hhi hhi0 (jB hle hlo hlo0 ?_ (Nat.le_refl _)) (by omega);have hc:(L.tot-o-l)=L.tot-(o+l):=by omega
      rw[hc]
      congr 1
      rcases hb.2 with h0|h0
      ·have:=beq_iff.1 h0;subst this
       split
       ·simp
       ·simp[bq]
      ·have:=Nat.le_of_ble_eq_true h0;rw[if_neg (by omega)];simp[bq,Nat.add_mul]
   ·cases h
  ·cases h
 ·rename_i e hu
  cases ha
  split at h
  ·rename_i sz hh hsz hhe
   split at h
   ·rename_i l hle
    cases h
    have h1:=kW hhe (Nat.le_refl _);have h2:=kW hle (Nat.zero_le _);have e1:hh=0:=by omega
    have e2:l=0:=by omega
    subst e1 e2;refine key (.slice none 0 0) rfl ?_;unfold RM;simp only[hu,Option.isSome_none,Bool.false_and,cond_false,hsz,au];show lN vhi 0 0 (λ h=>lN vlo 0 h λ l=>Value.slice (if 0=l then none else Option.map (λ x:Addr=>x.add (l*sz)) none) (h-l) (0-l)=Value.slice none 0 0);exact jB hhe hhi hhi0 (jB hle hlo hlo0 (by simp) (Nat.le_refl _)) (Nat.le_refl _)
   ·cases h
  ·cases h
 ·cases h
theorem Ob{ρ:Names}{v:Value}(h:rv ρ .nils=some v):v=.slice none 0 0:=(Option.some.inj h).symm
def M5(P:Program)(ty:TypeId)(a:AV)(lo hi:Option AV)(mx:AV):Option AV:=match P.underlying ty,a,hi with
 | some (.slice e),.nils,some hv=>match dw P e,wV (some mx) 0 0,wV (some hv) 0 0,wV lo 0 0 with
  | some _,some _,some _,some _=>some .nils
  | _,_,_,_=>none
 | _,_,_=>none
theorem M6{P:Program}{ρ:Names}{ty:TypeId}{a r mx:AV}{lo hi:Option AV}{v vm:Value}{vlo vhi:Option Value}(h:M5 P ty a lo hi mx=some r)(ha:rv ρ a=some v)(hlo:∀ a,lo=some a->∃ v,vlo=some v/\rv ρ a=some v)(hlo0:lo=none->vlo=none)(hhi:∀ a,hi=some a->∃ v,vhi=some v/\rv ρ a=some v)(hm:rv ρ mx=some vm):gV P ρ (Instr.sliceAt ty v vlo vhi (some vm)) r:=by
 have key:∀ u,rv ρ r=some u->RM P ty v vlo vhi (some vm) (λ x=>x=u)->gV P ρ (Instr.sliceAt ty v vlo vhi (some vm)) r:=λ u hu hs=>by
  obtain⟨x,hr,rfl⟩:=EG hs;exact⟨x,hu,hr⟩
 unfold M5 at h
 split at h
 ·rename_i e hv hu
  cases Ob ha
  split at h
  ·rename_i sz mm hh ll hsz hme hhe hle
   cases h
   obtain⟨vh,rfl,hvh⟩:=hhi _ rfl;have e0:mm=0:=by have:=kW hme (Nat.le_refl _); omega
   have e1:hh=0:=by have:=kW hhe (Nat.le_refl _); omega
   have e2:ll=0:=by have:=kW hle (Nat.le_refl _); omega
   subst e0 e1 e2;refine key (.slice none 0 0) rfl ?_;unfold RM;simp only[hu,Option.isSome_some,Option.isNone_some,Bool.and_false,cond_false,hsz,au];show lN (some vm) 0 0 (λ m=>lN (some vh) 0 m λ h=>lN vlo 0 h λ l=>Value.slice (if m=l then none else Option.map (λ x:Addr=>x.add (l*sz)) none) (h-l) (m-l)=Value.slice none 0 0);exact jB hme (λ a ha=>by cases ha; exact⟨vm,rfl,hm⟩) (λ h=>by cases h) (jB hhe (λ a ha=>by cases ha; exact⟨vh,rfl,hvh⟩) (λ h=>by cases h) (jB hle hlo hlo0 (by simp) (Nat.le_refl _)) (Nat.le_refl _)) (Nat.le_refl _)
  ·cases h
 ·cases h
def setAt{α:Type}:List α->Nat->List α->List α
 | [],_,_=>[]
 | x :: l,0,[]=>x :: l
 | _ :: l,0,c :: cs=>c :: setAt l 0 cs
 | x :: l,n+1,cs=>x :: setAt l n cs
theorem mN{α:Type}:∀ (l:List α) (n:Nat),setAt l n []=l
 | [],_=>rfl
 | _ :: _,0=>rfl
 | _ :: l,n+1=>by simp[setAt,mN l n]
theorem Bx{α:Type}:∀ (l:List α) (n:Nat) (c:α) (cs:List α),setAt l n (c :: cs)=setAt (l.set n c) (n+1) cs
 | [],_,_,_=>rfl
 | _ :: _,0,_,_=>rfl
 | x :: l,n+1,c,cs=>by simp[setAt,Bx l n c cs]
theorem cY{α:Type}:∀ (l:List α) (n:Nat) (cs:List α),(setAt l n cs).length=l.length
 | [],_,_=>rfl
 | _ :: _,0,[]=>rfl
 | _ :: l,0,_ :: cs=>by simp[setAt,cY l 0 cs]
 | _ :: l,n+1,cs=>by simp[setAt,cY l n cs]
theorem vT{α:Type}:∀ (l:List α) (n:Nat) (cs:List α),n+cs.length<=l.length->setAt l n cs=l.take n++cs++l.drop (n+cs.length)
 | [],n,cs,h=>by
  have h:n+cs.length<=0:=h;obtain⟨rfl,h2⟩:n=0/\cs.length=0:=by omega
  have:cs=[]:=List.eq_nil_of_length_eq_zero h2;subst this;rfl
 | _ :: _,0,[],_=>by simp[setAt]
 | _ :: l,0,_ :: cs,h=>by
  simp at h;simp[setAt,vT l 0 cs (by simpa using h)]
 | _ :: l,n+1,cs,h=>by
  simp at h;rw[setAt,vT l n cs (by omega),show n+1+cs.length=(n+cs.length)+1 by omega]
  simp
theorem nR{α:Type}:∀ (l:List α) (n:Nat) (cs:List α) (m:Nat),n+cs.length<=m->(setAt l n cs).take m=setAt (l.take m) n cs
 | [],_,_,_,_=>by simp[setAt]
 | _ :: _,0,[],m,_=>by simp[mN]
 | _ :: l,0,_ :: cs,m,h=>by
  simp at h;obtain⟨m',rfl⟩:∃ m',m=m' + 1:=⟨m-1,by omega⟩;simp[setAt,nR l 0 cs m' (by omega)]
 | _ :: l,n+1,cs,m,h=>by
  obtain⟨m',rfl⟩:∃ m',m=m' + 1:=⟨m-1,by omega⟩;simp[setAt,nR l n cs m' (by omega)]
theorem mO{ρ:Names}:∀ {l:List AV} {vs:List Value} (n:Nat) {cs:List AV} {us:List Value},dI ρ l=some vs->dI ρ cs=some us->dI ρ (setAt l n cs)=some (setAt vs n us)
 | [],_,_,_,_,h,_=>by cases h; rfl
 | x :: l,vs,0,[],us,h,k=>by
  cases k
  rw[mN,mN]; exact h
 | x :: l,vs,0,c :: cs,us,h,k=>by
  obtain⟨v,vs',rfl,h1,h2⟩:=aM h;obtain⟨u,us',rfl,k1,k2⟩:=aM k;exact fG k1 (mO 0 h2 k2)
 | x :: l,vs,n+1,cs,us,h,k=>by
  obtain⟨v,vs',rfl,h1,h2⟩:=aM h;exact fG h1 (mO n h2 k)
def ct:AV->List AV
 | .agg cs=>cs
 | v=>[v]
theorem jH{ρ:Names}{a:AV}{v:Value}(h:rv ρ a=some v):dI ρ (ct a)=some v.cells.toList:=by
 cases a with
 | agg cs =>
  obtain⟨vs,hvs,rfl⟩:=nP h;simpa[ct,Value.cells] using hvs
 | int k n=>cases cw h; rfl
 | bool b=>cases ff h; rfl
 | str l=>cases gw h; rfl
 | nilp=>cases h; rfl
 | nils=>cases h; rfl
 | nili=>cases h; rfl
 | nilf=>cases h; rfl
 | ptr i o=>obtain⟨L,hL,rfl⟩:=gu h; exact fG h rfl
 | sli i o l z=>obtain⟨L,hL,_,_,rfl⟩:=dD h; exact fG h rfl
 | iface T x =>
  have h':=h;simp only[rv,Option.map_eq_some_iff] at h';obtain⟨u,_,rfl⟩:=h';exact fG h rfl
 | fn f x y =>
  have h':=h;simp only[rv] at h'
  split at h'
  ·cases h'; exact fG h rfl
  ·cases h'
 | yld i =>
  have h':=h;simp only[rv,Option.map_eq_some_iff] at h';obtain⟨u,_,rfl⟩:=h';exact fG h rfl
 | tup vs=>obtain⟨us,_,rfl⟩:=Iw h; exact fG h rfl
def xN(place:Nat->Option (Nat×Nat))(cells:List AV):List (Nat×AV)->Option (List AV)
 | []=>some cells
 | (i,v) :: rest=>match place i with
  | none=>none
  | some (off,size)=>cond (Nat.beq (ct v).length size&&Nat.ble (Nat.add off (ct v).length) cells.length) (xN place (setAt cells off (ct v)) rest) none
theorem Ko(l:List Value):∀ (cs:List Value) (off j:Nat) ,((cs.zipIdx j).foldl (λ (a:Array Value) (x:Value×Nat)=>a.setIfInBounds (off+x.2) x.1) l.toArray)=(setAt l (off+j) cs).toArray
 | [],off,j=>by simp[mN]
 | c :: cs,off,j=>by
  simp only[List.zipIdx_cons,List.foldl_cons,Bx];have:l.toArray.setIfInBounds (off+j) c=(l.set (off+j) c).toArray:=by simp
  rw[this,Ko (l.set (off+j) c) cs off (j+1)];rfl
def Bc(ρ:Names):List (Nat×AV)->List (Nat×Value)->Prop
 | [],[]=>True
 | p :: ps,q :: qs=>p.1=q.1/\rv ρ p.2=some q.2/\Bc ρ ps qs
 | _,_=>False
theorem uv{ρ:Names}{place:Nat->Option (Nat×Nat)}:∀ {ps:List (Nat×AV)} {qs:List (Nat×Value)} {cells res:List AV} {vs:List Value},xN place cells ps=some res->dI ρ cells=some vs->Bc ρ ps qs ->
  ∃ us,dI ρ res=some us/\Instr.fill place vs.toArray qs=some us.toArray
 | [],[],cells,res,vs,h,hv,_=>by cases h; exact⟨vs,hv,rfl⟩
 | [],_ :: _,_,_,_,_,_,hp=>hp.elim
 | _ :: _,[],_,_,_,_,_,hp=>hp.elim
 | (i,a) :: ps,(j,v) :: qs,cells,res,vs,h,hv,hp=>by
  obtain⟨rfl,ha,hp⟩:=hp;simp only[xN] at h;unfold Instr.fill
  split at h
  ·cases h
  ·rename_i off size hpl;simp only at hpl ha;simp only[hpl]
   cases hb:(Nat.beq (ct a).length size&&Nat.ble (Nat.add off (ct a).length) cells.length) with
   | false=>rw[hb] at h; cases h
   | true =>
    rw[hb] at h;simp only[Bool.and_eq_true] at hb;have h1:=beq_iff.1 hb.1;have h2:off+(ct a).length<=cells.length:=Nat.le_of_ble_eq_true hb.2;have hc:=jH ha;have hcl:=bA hc;have hvl:=bA hv;have hcl' : v.cells.size=size:=by rw[<- h1,<- hcl]; simp
    have hno : ¬ (v.cells.size≠size||decide (off+v.cells.size>vs.toArray.size))=true:=by
     simp[hcl'];rw[<- h1,hvl]; omega
    rw[if_neg hno];have hz:(v.cells.zipIdx.foldl (λ (cs:Array Value) (x:Value×Nat)=>cs.setIfInBounds (off+x.2) x.1) vs.toArray)=(setAt vs off v.cells.toList).toArray:=by
     have:=Ko vs v.cells.toList off 0;rw[Nat.add_zero] at this;rw[<- this,<- Array.foldl_toList]
     congr 1
     simp
    obtain⟨us,h3,h4⟩:=uv (ps:=ps) (qs:=qs) h (mO off hv hc) hp;exact⟨us,h3,by rw[<- h4,<- hz]⟩
def yI(P:Program)(t:TypeId):Option AV:=match P.info? t with
 | some i=>match i.zero with
  | some v=>Wm v
  | none=>none
 | none=>none
theorem wu{P:Program}{t:TypeId}{a:AV}(h:yI P t=some a)(ρ:Names):∃ v,rv ρ a=some v/\(∃ i,P.info? t=some i/\i.zero=some v)/\∀ w,(zeroValue t).run P w=.ok v w:=by
 unfold yI at h
 split at h
 ·rename_i i hi
  split at h
  ·rename_i v hz;exact⟨v,NI h,⟨i,hi,hz⟩,λ w=>by simp[zeroValue,typeInfo,hi,hz]⟩
  ·cases h
 ·cases h
def NV(P:Program):List Field->Option (List (Nat×Nat))
 | []=>some []
 | f :: fs=>match dw P f.type,NV P fs with
  | some s,some l=>some ((f.offset,s) :: l)
  | _,_=>none
theorem JT{P:Program}{w:World}:∀ {fs:List Field} {l:List (Nat×Nat)},NV P fs=some l->(fs.mapM λ f=>(do pure (f.offset,<- sizeOf f.type):Sem (Nat×Nat))).run P w=.ok l w
 | [],l,h=>by cases h; simp
 | f :: fs,l,h=>by
  simp only[NV] at h
  cases hs:dw P f.type with
  | none=>rw[hs] at h; cases h
  | some s =>
   cases hl:NV P fs with
   | none=>rw[hs,hl] at h; cases h
   | some l' =>
    rw[hs,hl] at h
    cases h
    have ih:=JT (w:=w) hl;simp only[List.mapM_cons,Sem.run_bind,bT hs,Sem.run_pure,Result.andThen_ok,ih]
def MP(P:Program)(ty:TypeId)(ps:List (Nat×AV)):Option AV:=match yI P ty with
 | some z=>match P.underlying ty with
  | some (.struct fs)=>match NV P fs.toList with
   | some pl=>(xN (λ i=>oY pl i) (ct z) ps).map .agg
   | none=>none
  | some (.array _ e)=>match dw P e with
   | some sz=>(xN (λ i=>some (Nat.mul i sz,sz)) (ct z) ps).map .agg
   | none=>none
  | _=>none
 | none=>none
theorem P7{P:Program}{ρ:Names}{ty:TypeId}{ps:List (Nat×AV)}{qs:Array (Nat×Value)}{r:AV}(h:MP P ty ps=some r)(hp:Bc ρ ps qs.toList):gV P ρ (Instr.build ty qs) r:=by
 unfold MP at h
 split at h
 ·rename_i z hz;obtain⟨v,hv,_,hzr⟩:=wu hz ρ;have hvc:=jH hv
  split at h
  ·rename_i fs hu
   split at h
   ·rename_i pl hpl;simp only[Option.map_eq_some_iff] at h;obtain⟨res,hres,rfl⟩:=h;obtain⟨us,h1,h2⟩:=uv hres hvc hp;refine⟨.agg us.toArray,by simp only[rv,h1,Option.map_some],λ w=>?_⟩;have hm:(fs.mapM λ f=>(do pure (f.offset,<- sizeOf f.type):Sem (Nat×Nat))).run P w=.ok pl.toArray w:=by
     rw[Array.mapM_eq_mapM_toList];simp only[Sem.run_map,JT hpl,Result.andThen_ok]
    have h2' : Instr.fill (λ x=>pl.toArray[x]?) v.cells qs.toList=some us.toArray:=by
     rw[<- h2]
     congr 1
     ·funext x; rw[zH]; simp
    simp only[Instr.build,Sem.run_bind,hzr,aD hu,Result.andThen_ok,hm,h2']
    simp
   ·cases h
  ·rename_i n e hu
   split at h
   ·rename_i sz hsz;simp only[Option.map_eq_some_iff] at h;obtain⟨res,hres,rfl⟩:=h;obtain⟨us,h1,h2⟩:=uv hres hvc hp;refine⟨.agg us.toArray,by simp only[rv,h1,Option.map_some],λ w=>?_⟩;have h2' : Instr.fill (λ i=>some (i*sz,sz)) v.cells qs.toList=some us.toArray:=by
     rw[<- h2]; rfl
    simp only[Instr.build,Sem.run_bind,hzr,aD hu,bT hsz,Result.andThen_ok,h2']
    simp
   ·cases h
  ·cases h
 ·cases h
def yM(e:Tr AV):List (Nat×Operand)->Option (List (Nat×AV))
 | []=>some []
 | (i,x) :: l=>match fe e x,yM e l with
  | some a,some az=>some ((i,a) :: az)
  | _,_=>none
theorem Dv{ρ:Names}{e:Tr AV}{t:Tm}(he:dX ρ e t):∀ {l:List (Nat×Operand)} {az:List (Nat×AV)},yM e l=some az->Bc ρ az (l.map λ x=>(x.1,ev t x.2))
 | [],_,h=>by cases h; trivial
 | (i,x) :: l,az,h=>by
  simp only[yM] at h
  cases ha:fe e x with
  | none=>rw[ha] at h; cases h
  | some a =>
   cases hl:yM e l with
   | none=>rw[ha,hl] at h; cases h
   | some bs =>
    rw[ha,hl] at h
    cases h
    exact⟨rfl,aV he ha,Dv he hl⟩
def KJ(P:Program)(ty:TypeId)(a:AV):Option AV:=match P.underlying ty,a with
 | some .string,.str s=>some (.int .i64 (.ofNat s.length))
 | some (.slice _),.sli _ _ l _=>some (.int .i64 (.ofNat l))
 | some (.slice _),.nils=>some (.int .i64 (.ofNat 0))
 | some (.array n _),_=>some (.int .i64 (.ofNat n))
 | some (.pointer b),_=>match P.underlying b with
  | some (.array n _)=>some (.int .i64 (.ofNat n))
  | _=>none
 | _,_=>none
theorem Qh{P:Program}{ρ:Names}{ty dst:TypeId}{a r:AV}{v:Value}{tys:Array TypeId}(h:KJ P ty a=some r)(ha:rv ρ a=some v)(ht:tys[0]?=some ty):gV P ρ (Builtin.len_ tys dst #[v]) r:=by
 unfold KJ at h
 split at h
 ·rename_i s hu
  cases gw ha; cases h
  refine⟨_,rfl,λ w=>?_⟩;have hs:(⟨s.toArray⟩:ByteArray).size=s.length:=by simp[ByteArray.size]
  simp[Builtin.len_,ht,aD hu,hs,goInt]
 ·rename_i e i o l z hu;obtain⟨L,_,_,_,rfl⟩:=dD ha
  cases h
  exact⟨_,rfl,λ w=>by simp[Builtin.len_,ht,aD hu,goInt]⟩
 ·rename_i e hu
  cases ha; cases h
  exact⟨_,rfl,λ w=>by simp[Builtin.len_,ht,aD hu,goInt]⟩
 ·rename_i n e hu
  cases h
  exact⟨_,rfl,λ w=>by simp[Builtin.len_,ht,aD hu,goInt]⟩
 ·rename_i b hu
  split at h
  ·rename_i n e hb
   cases h
   exact⟨_,rfl,λ w=>by simp[Builtin.len_,ht,aD hu,aD hb,goInt]⟩
  ·cases h
 ·cases h
def V3(mx:Bool):AV->List AV->Option AV
 | a,[]=>some a
 | a,b :: l=>match a,b with
  | .int k x,.int _ y=>V3 mx (.int k (cond mx (cond (FZ y x) x y) (cond (FZ x y) x y))) l
  | _,_=>none
theorem HN{P:Program}{ρ:Names}{mx:Bool}:∀ {l:List AV} {a r:AV} {vs:List Value} {v:Value},V3 mx a l=some r->rv ρ a=some v->dI ρ l=some vs ->
  ∃ u,rv ρ r=some u/\∀ w,(vs.foldlM (cond mx Builtin.max2 Builtin.min2) v).run P w=.ok u w
 | [],a,r,vs,v,h,ha,hl=>by
  cases h; cases hl
  exact⟨v,ha,λ w=>by simp⟩
 | b :: l,a,r,vs,v,h,ha,hl=>by
  obtain⟨vb,vs',rfl,hb,hl'⟩:=aM hl;unfold V3 at h
  split at h
  ·rename_i k x k' y
   cases cw ha; cases cw hb
   obtain⟨u,h1,h2⟩:=HN (P:=P) h rfl hl';refine⟨u,h1,λ w=>?_⟩;rw[List.foldlM_cons,Sem.run_bind];have h3:((cond mx Builtin.max2 Builtin.min2) (.int k x) (.int k' y)).run P w=.ok (.int k (cond mx (cond (FZ y x) x y) (cond (FZ x y) x y))) w:=by
    cases mx with
    | true =>
     simp only[cond_true,Builtin.max2,Sem.run_pure,wY]
     by_cases hc:y<=x
     ·simp[hc,Int.not_lt.2 hc]
     ·simp[hc,Int.not_le.1 hc]
    | false =>
     simp only[cond_false,Builtin.min2,Sem.run_pure,wY]
     by_cases hc:x<=y
     ·simp[hc,Int.not_lt.2 hc]
     ·simp[hc,Int.not_le.1 hc]
   rw[h3];exact h2 w
  ·cases h
def Kq(e:Tr AV):Option Operand->Option (Option AV)
 | none=>some none
 | some x=>match fe e x with
  | some a=>some (some a)
  | none=>none
theorem zy{ρ:Names}{e:Tr AV}{t:Tm}(he:dX ρ e t){x:Option Operand}{r:Option AV}(h:Kq e x=some r):(∀ a,r=some a->∃ v,x.map (ev t)=some v/\rv ρ a=some v)/\(r=none->x.map (ev t)=none):=by
 cases x with
 | none=>cases h; exact⟨λ a h=>(by cases h),λ _=>rfl⟩
 | some x =>
  simp only[Kq] at h
  cases ha:fe e x with
  | none=>rw[ha] at h; cases h
  | some a =>
   rw[ha] at h
   cases h
   exact⟨λ b hb=>by cases hb; exact⟨_,rfl,aV he ha⟩,λ h=>(by cases h)⟩
def Hh(P:Program)(o:Oper)(e:Tr AV):Option AV:=match o.op with
 | .move x=>fe e x
 | .assign x=>fe e x
 | .pick c a b=>match fe e c with
  | some (.bool x)=>fe e (cond x a b)
  | _=>none
 | .nilCheck x=>match fe e x with
  | some (.ptr i j)=>some (.ptr i j)
  | _=>none
 | .convert src dst x=>match P.underlying src,P.underlying dst,fe e x with
  | some _,some (.int k),some (.int _ n)=>some (D2 k (jn k n))
  | some .string,some .string,some (.str s)=>some (.str s)
  | _,_,_=>none
 | .fieldAddr ty x f=>match KK P ty f,fe e x with
  | some off,some (.ptr i j)=>some (.ptr i (Nat.add j off))
  | _,_=>none
 | .field ty x f=>match fe e x with
  | some a=>MS P ty a f
  | none=>none
 | .extract x i=>match fe e x with
  | some (.tup vs)=>oY vs i
  | _=>none
 | .makeInterface ty x=>match P.underlying ty,fe e x with
  | some (.interface _),_=>none
  | some _,some a=>some (.iface ty a)
  | _,_=>none
 | .makeFunc fn first cap=>match fn,lY e first.toList,lY e cap.toList with
  | .func f,some xs,some ys=>some (.fn f xs ys)
  | _,_,_=>none
 | .unOp op _ x=>match op,fe e x with
  | .not,some (.bool b)=>some (.bool (not b))
  | .neg,some (.int k n)=>some (D2 k (jn k (Int.sub 0 n)))
  | _,_=>none
 | .binOp op ty x y _=>match fe e x,fe e y with
  | some a,some b=>KI P op ty x y a b
  | _,_=>none
 | .index ty x i=>match fe e x,fe e i with
  | some a,some b=>MT P ty a b
  | _,_=>none
 | .indexAddr ty x i=>match fe e x,fe e i with
  | some a,some b=>MV P ty a b
  | _,_=>none
 | .slice ty x lo hi none=>match fe e x,Kq e lo,Kq e hi with
  | some a,some l,some h=>Uj P ty a l h
  | _,_,_=>none
 | .slice ty x lo hi (some mx)=>match fe e x,Kq e lo,Kq e hi,fe e mx with
  | some a,some l,some h,some m=>M5 P ty a l h m
  | _,_,_,_=>none
 | .build ty ps=>match yM e ps.toList with
  | some ps=>MP P ty ps
  | none=>none
 | .call { callee:=.builtin .len,args:=args,argTypes:=tys }=>match args.toList,tys[0]? with
  | [x],some ty=>match fe e x with
   | some a=>KJ P ty a
   | none=>none
  | _,_=>none
 | .call { callee:=.builtin .min,args:=args,argTypes:=_ }=>match lY e args.toList with
  | some (a :: l)=>V3 false a l
  | _=>none
 | .call { callee:=.builtin .max,args:=args,argTypes:=_ }=>match lY e args.toList with
  | some (a :: l)=>V3 true a l
  | _=>none
 | .call { callee:=.builtin .cap,args:=args,argTypes:=tys }=>match args.toList,tys[0]? with
  | [x],some ty=>match fe e x,P.underlying ty with
   | some .nils,some (.slice _)=>some (.int .i64 (.ofNat 0))
   | _,_=>none
  | _,_=>none
 | _=>none
theorem Rw{ρ:Names}{v:Value}(h:rv ρ .nils=some v):v=.slice none 0 0:=(Option.some.inj h).symm
theorem M1{P:Program}{ρ:Names}{o:Oper}{e:Tr AV}{t:Tm}{a:AV}(h:Hh P o e=some a)(he:dX ρ e t) :
  ∃ v,rv ρ a=some v/\∀ w,(execOp (ev t) o).run P w=.ok (.value v) w:=by
 have lift:∀ {s:Sem Value},(execOp (ev t) o=do pure (.value (<- s)))->gV P ρ s a->∃ v,rv ρ a=some v/\∀ w,(execOp (ev t) o).run P w=.ok (.value v) w:=λ {s} hs hp=>by
  obtain⟨v,h1,h2⟩:=hp;exact⟨v,h1,λ w=>by rw[hs]; simp only[Sem.run_bind,h2,Result.andThen_ok,Sem.run_pure]⟩
 unfold Hh at h
 split at h
 ·rename_i x hx;exact⟨_,aV he h,λ w=>by simp[execOp,hx]⟩
 ·rename_i x hx;exact⟨_,aV he h,λ w=>by simp[execOp,hx]⟩
 ·rename_i c x y hx
  split at h
  ·rename_i b hc;have hcv:ev t c=.bool b:=ff (aV he hc);refine⟨_,aV he h,λ w=>?_⟩
   cases b<;>simp[execOp,hx,hcv,asBool]
  ·cases h
 ·rename_i x hx
  split at h
  ·rename_i i j ha
   cases h
   have hv:=aV he ha;obtain⟨L,hL,hv'⟩:=gu hv;exact⟨_,hv,λ w=>by simp[execOp,hx,hv']⟩
  ·cases h
 ·rename_i src dst x hx
  split at h
  ·rename_i d k k' n hs hd ha
   cases h
   have hv:ev t x=.int k' n:=cw (aV he ha);exact⟨_,by rw[fq]; rfl,λ w=>by simp[execOp,hx,hv,convert,aD hs,aD hd,Conv.intToInt,dO]⟩
  ·rename_i s hs hd ha
   cases h
   have hv:=aV he ha;have hv':=gw hv;exact⟨_,hv,λ w=>by simp[execOp,hx,hv',convert,aD hs,aD hd]⟩
  ·cases h
 ·rename_i ty x f hx
  split at h
  ·rename_i off i j ho ha
   cases h
   obtain⟨L,hL,hv⟩:=gu (aV he ha);refine lift (s:=Instr.fieldAt ty (ev t x) f) (by simp[execOp,hx]) ⟨.pointer (some ⟨L.b,j+off,none⟩),by simp only[rv,hL,Option.map_some]; rfl,λ w=>by rw[hv]; exact Ql ho w⟩
  ·cases h
 ·rename_i ty x f hx
  split at h
  ·rename_i a' ha;exact lift (s:=Instr.field ty (ev t x) f) (by simp[execOp,hx]) (Qd h (aV he ha))
  ·cases h
 ·rename_i x i hx
  split at h
  ·rename_i vs ha;obtain⟨us,hus,hv⟩:=Iw (aV he ha);rw[zH] at h;obtain⟨u,h1,h2⟩:=vO hus h;exact lift (s:=Instr.extract (ev t x) i) (by simp[execOp,hx]) ⟨u,h2,λ w=>by rw[hv]; simp[Instr.extract,h1]⟩
  ·cases h
 ·rename_i ty x hx
  split at h
  ·cases h
  ·rename_i d a' hni hu ha
   cases h
   refine lift (s:=Instr.makeInterface ty (ev t x)) (by simp[execOp,hx]) ⟨.iface ty (ev t x),by simp only[rv,aV he ha,Option.map_some],λ w=>?_⟩;simp only[Instr.makeInterface,Sem.run_bind,aD hu,Result.andThen_ok]
   cases d<;>first|rfl|exact absurd rfl (hni _)
  ·cases h
 ·rename_i fn first cap hx
  split at h
  ·rename_i f xs ys h1 h2
   cases h
   have g1:=fU he h1;have g2:=fU he h2;refine lift (s:=Instr.makeFunc (.func f) (first.map (ev t)) (cap.map (ev t))) (by simp[execOp,hx]) ⟨.func (.func f) (first.toList.map (ev t)).toArray (cap.toList.map (ev t)).toArray,by simp only[rv,g1,g2],λ w=>?_⟩;have e1:first.map (ev t)=(first.toList.map (ev t)).toArray:=Array.ext' (by rw[Array.toList_map])
   have e2:cap.map (ev t)=(cap.toList.map (ev t)).toArray:=Array.ext' (by rw[Array.toList_map]);simp only[Instr.makeFunc,Sem.run_pure,e1,e2]
  ·cases h
 ·rename_i op ty x hx
  split at h
  ·rename_i b ha
   cases h
   have hv:ev t x=.bool b:=ff (aV he ha);exact lift (s:=Op.unary .not (ev t x)) (by simp[execOp,hx]) ⟨_,rfl,λ w=>by simp[hv,Op.unary]⟩
  ·rename_i k n ha
   cases h
   have hv:ev t x=.int k n:=cw (aV he ha);exact lift (s:=Op.unary .neg (ev t x)) (by simp[execOp,hx]) ⟨_,by rw[fq]; rfl,λ w=>by rw[hv,dO]; rfl⟩
  ·cases h
 ·rename_i op ty x y yt hx
  split at h
  ·rename_i a' b' ha hb;exact lift (s:=do eqGuard op ty x y (ev t x) (ev t y); binOp op ty (ev t x) (ev t y)) (by simp only[execOp,hx]) (P6 h (aV he ha) (aV he hb))
  ·cases h
 ·rename_i ty x i hx
  split at h
  ·rename_i a' b' ha hb;exact lift (s:=Instr.index ty (ev t x) (ev t i)) (by simp[execOp,hx]) (Qe h (aV he ha) (aV he hb))
  ·cases h
 ·rename_i ty x i hx
  split at h
  ·rename_i a' b' ha hb;exact lift (s:=Instr.indexAt ty (ev t x) (ev t i)) (by simp[execOp,hx]) (Qg h (aV he ha) (aV he hb))
  ·cases h
 ·rename_i ty x lo hi hx
  split at h
  ·rename_i a' l' h' ha hl hh;obtain⟨l1,l2⟩:=zy he hl;obtain⟨h1,h2⟩:=zy he hh;exact lift (s:=Instr.sliceAt ty (ev t x) (lo.map (ev t)) (hi.map (ev t)) none) (by simp[execOp,hx]) (Qo h (aV he ha) l1 l2 h1 h2)
  ·cases h
 ·rename_i ty x lo hi mx hx
  split at h
  ·rename_i a' l' h' m' ha hl hh hm;obtain⟨l1,l2⟩:=zy he hl;obtain⟨h1,_⟩:=zy he hh;exact lift (s:=Instr.sliceAt ty (ev t x) (lo.map (ev t)) (hi.map (ev t)) (some (ev t mx))) (by simp[execOp,hx]) (M6 h (aV he ha) l1 l2 h1 (aV he hm))
  ·cases h
 ·rename_i ty ps hx
  split at h
  ·rename_i az hps;have hp:=Dv he hps;refine lift (s:=Instr.build ty (ps.map λ (i,x)=>(i,ev t x))) (by simp[execOp,hx]) (P7 h ?_);simpa using hp
  ·cases h
 ·rename_i args tys hx
  split at h
  ·rename_i x ty hargs ht
   split at h
   ·rename_i a' ha;refine lift (s:=Builtin.len_ tys o.type #[ev t x]) ?_ (Qh h (aV he ha) ht);have:args.map (ev t) = #[ev t x]:=by
     have:args = #[x]:=by rw[<- hargs]
     rw[this]; simp
    simp[execOp,hx,resolve,invoke,builtin,this]
   ·cases h
  ·cases h
 ·rename_i args tys hx
  split at h
  ·rename_i a' l hl;have hv:=fU he hl;obtain⟨u,us,hm,h1,h2⟩:=aM hv;obtain⟨r,g1,g2⟩:=HN (P:=P) h h1 h2;refine lift (s:=Builtin.min_ tys o.type (args.map (ev t))) (by simp[execOp,hx,resolve,invoke,builtin]) ⟨r,g1,λ w=>?_⟩;have:(args.map (ev t)).toList=u :: us:=by simpa using hm
   simp only[Builtin.min_,this];exact g2 w
  ·cases h
 ·rename_i args tys hx
  split at h
  ·rename_i a' l hl;have hv:=fU he hl;obtain⟨u,us,hm,h1,h2⟩:=aM hv;obtain⟨r,g1,g2⟩:=HN (P:=P) h h1 h2;refine lift (s:=Builtin.max_ tys o.type (args.map (ev t))) (by simp[execOp,hx,resolve,invoke,builtin]) ⟨r,g1,λ w=>?_⟩;have:(args.map (ev t)).toList=u :: us:=by simpa using hm
   simp only[Builtin.max_,this];exact g2 w
  ·cases h
 ·rename_i args tys hx
  split at h
  ·rename_i x ty hargs ht
   split at h
   ·rename_i e' ha hu
    cases h
    refine lift (s:=Builtin.cap_ tys o.type #[.slice none 0 0]) ?_ ⟨_,rfl,λ w=>by simp[Builtin.cap_,ht,aD hu,goInt]⟩;have:args.map (ev t) = #[ev t x]:=by
     have:args = #[x]:=by rw[<- hargs]
     rw[this]; simp
    simp[execOp,hx,resolve,invoke,builtin,this,Rw (aV he ha)]
   ·cases h
  ·cases h
 ·cases h
structure Hp where
 i:Nat
 o:Nat
 vs:List AV
def nC(ρ:Names)(d:Hp):World->Prop:=λ w=>∃ L vs,ρ d.i=some L/\dI ρ d.vs=some vs/\af w ⟨L.b,d.o,none⟩ 0 vs
def cP(h:AH)(i o n:Nat):Option (List AV):=match h.get i with
 | some (some ao)=>cond (Nat.ble (Nat.add o n) ao.cells.length) (some ((ao.cells.drop o).take n)) none
 | _=>none
theorem gX{w0 w:World}{ρ:Names}{h:AH}(hr:fO w0 w ρ h){i o n:Nat}{az:List AV}(hc:cP h i o n=some az) :
  ∃ L vs,ρ i=some L/\dI ρ az=some vs/\vs.length=n/\af w ⟨L.b,o,none⟩ 0 vs:=by
 unfold cP at hc
 split at hc
 ·rename_i ao hi
  cases hb:Nat.ble (Nat.add o n) ao.cells.length with
  | false=>rw[hb] at hc; cases hc
  | true =>
   rw[hb] at hc
   cases hc
   have hle:o+n<=ao.cells.length:=Nat.le_of_ble_eq_true hb;obtain⟨L,cur,vs,hl⟩:=hr.live i ao hi;have hv:=qG n (Bq o hl.val);refine⟨L,_,hl.at_,hv,?_,bE _ 0 λ j u hj=>?_⟩
   ·have:=bA hl.val
    simp; omega
   ·rw[List.getElem?_take] at hj
    split at hj
    ·rw[List.getElem?_drop] at hj;have ha:∃ a,ao.cells[o+j]?=some a:=⟨ao.cells[o+j]'(by omega),by simp[show o+j<ao.cells.length by omega]⟩;obtain⟨a,ha⟩:=ha;obtain⟨v,hv1,hv2⟩:=vO hl.val ha;rw[hv1] at hj;have hj:v=u:=Option.some.inj hj;subst hj;obtain⟨v',hv',hcell⟩:=hl.cell ha;have:v' = v:=Option.some.inj (hv'.symm.trans hv2);subst this;have e:(⟨L.b,o,none⟩:Addr).add (0+j)=⟨L.b,o+j,none⟩:=by rw[bq]; congr 1; omega
     rw[e];exact hcell
    ·cases hj
 ·cases hc
def S4(P:Program)(ty:TypeId):Option (Nat×Bool):=match P.underlying ty,dw P ty with
 | some d,some n=>cond (wZ d) (some (n,true)) (some (1,false))
 | _,_=>none
def NS(b:Bool)(az:List AV):Option AV:=match b,az with
 | true,az=>some (.agg az)
 | false,[a]=>some a
 | false,_=>none
def Uh(P:Program)(ty:TypeId)(a:AV)(h:AH):Option (AV×List Hp):=match a,S4 P ty with
 | .ptr i o,some (n,b)=>match cP h i o n with
  | some az=>match NS b az with
   | some r=>some (r,[⟨i,o,az⟩])
   | none=>none
  | none=>none
 | _,_=>none
theorem MW{P:Program}{ty:TypeId}{a r:AV}{h:AH}{ds:List Hp}(hg:Uh P ty a h=some (r,ds)){w0 w:World}{ρ:Names}(hr:fO w0 w ρ h){va:Value}(ha:rv ρ a=some va) :
  ∃ v,rv ρ r=some v/\holds (ds.map (nC ρ)) w/\∀ w',holds (ds.map (nC ρ)) w'->(Instr.loadAt ty va).run P w' = .ok v w':=by
 unfold Uh at hg
 split at hg
 ·rename_i i o n b hs
  split at hg
  ·rename_i az hc
   split at hg
   ·rename_i r' hp
    cases hg
    obtain⟨L,hL,rfl⟩:=gu ha;obtain⟨L',vs,hL',hvs,hlen,hat⟩:=gX hr hc;obtain rfl:L=L':=Option.some.inj (hL.symm.trans hL');have hT:holds (([⟨i,o,az⟩]:List Hp).map (nC ρ)) w:=λ f hf=>by
     simp at hf; subst hf;exact⟨L,vs,hL,hvs,hat⟩
    have hfact:∀ w',holds (([⟨i,o,az⟩]:List Hp).map (nC ρ)) w'->af w' ⟨L.b,o,none⟩ 0 vs:=by
     intro w' hw';obtain⟨L2,vs2,h1,h2,h3⟩:=hw' (nC ρ ⟨i,o,az⟩) (List.mem_cons_self ..);obtain rfl:L=L2:=Option.some.inj (hL.symm.trans h1);obtain rfl:vs=vs2:=Option.some.inj (hvs.symm.trans h2);exact h3
    unfold S4 at hs
    split at hs
    ·rename_i d n' hu hsz
     cases hd:wZ d with
     | false =>
      rw[hd] at hs
      cases hs
      have hag:∀ w,(isAgg ty).run P w=.ok false w:=λ w=>by cases d<;>first|(cases hd; done)|simp[isAgg,aD hu]
      unfold NS at hp
      split at hp
      ·rename_i heq; cases heq
      ·rename_i a0
       cases hp
       obtain⟨v0,us,rfl,hv0,hu'⟩:=aM hvs
       cases hu'
       refine⟨v0,hv0,hT,λ w' hw'=>?_⟩;have h3:=(hfact w' hw').1;have h3:w'.cell? ⟨L.b,o,none⟩=some v0:=by simpa[Addr.add] using h3
       simp[Instr.loadAt,Instr.sureAddr,loadVar,hag,h3]
      ·cases hp
     | true =>
      rw[hd] at hs
      cases hs
      have hag:∀ w,(isAgg ty).run P w=.ok true w:=λ w=>by cases d<;>first|(cases hd; done)|simp[isAgg,aD hu]
      unfold NS at hp
      split at hp
      ·cases hp
       refine⟨.agg vs.toArray,by simp only[rv,hvs,Option.map_some],hT,λ w' hw'=>?_⟩;have h3:=hfact w' hw';have hn:dw P ty=some vs.length:=by rw[hlen]; exact hsz
       simp only[Instr.loadAt,Instr.sureAddr,loadVar,Sem.run_bind,Sem.run_pure,Result.andThen_ok,hag,if_true,bT hn,loadCells,ru vs 0 _ h3]
       simp
      ·rename_i heq; cases heq
      ·rename_i heq _; cases heq
    ·cases hs
   ·cases hg
  ·cases hg
 ·cases hg
def Qn(P:Program)(o:Oper)(e:Tr AV)(h:AH):Option (AV×List Hp):=match o.op with
 | .load ty x=>match fe e x with
  | some a=>Uh P ty a h
  | none=>none
 | _=>match Hh P o e with
  | some a=>some (a,[])
  | none=>none
theorem M4{P:Program}{o:Oper}{e:Tr AV}{h:AH}{a:AV}{ds:List Hp}(hg:Qn P o e h=some (a,ds)){w0 w:World}{ρ:Names}(hr:fO w0 w ρ h){t:Tm}(he:dX ρ e t) :
  ∃ v,rv ρ a=some v/\holds (ds.map (nC ρ)) w/\∀ w',holds (ds.map (nC ρ)) w'->(execOp (ev t) o).run P w' = .ok (.value v) w':=by
 unfold Qn at hg
 split at hg
 ·rename_i ty x hx
  split at hg
  ·rename_i a' ha;obtain⟨v,h1,h2,h3⟩:=MW hg hr (aV he ha);exact⟨v,h1,h2,λ w' hw'=>by simp[execOp,hx,h3 w' hw']⟩
  ·cases hg
 ·split at hg
  ·rename_i a' ha
   cases hg
   obtain⟨v,h1,h2⟩:=M1 ha he;exact⟨v,h1,λ f hf=>(by cases hf),λ w' _=>h2 w'⟩
  ·cases hg

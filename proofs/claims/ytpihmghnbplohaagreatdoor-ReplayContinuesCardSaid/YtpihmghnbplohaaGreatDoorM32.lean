import Derived.Test.YtpihmghnbplohaaGreatDoorM24
import Derived.Test.YtpihmghnbplohaaGreatDoorM30
import Derived.Test.YtpihmghnbplohaaGreatDoorM31
set_option linter.unusedVariables false
set_option maxRecDepth 100000
namespace Go.Proofs.YtpihmghnbplohaaGreatDoor
open Go Go.Vc Tryz
theorem vA{P:Program}{l:Nat}{args:Array Value}{w:World}{K K' : Bool->World->Prop}(h:cq P l args w K)(k:∀ b w',K b w'->K' b w'):cq P l args w K':=by
  obtain⟨fn,tmps,asg,bdy,hrun,hR⟩:=h;exact⟨fn,tmps,asg,bdy,hrun,hR.mono λ e w4 ⟨g,he,hg⟩=>⟨g,he,k g w4 hg⟩⟩
theorem xg{w0 w:World}{m:List aD}(l:List aD)(h:St w0 w (Sep (l++m))):St w0 w (Sep (l++[Sep m])):=St.cat ((h.split l).eqv (aS.right (aS.unit _)))
theorem J3{w0 w:World}{l b1 b2 x m dur:Nat}{most:Int}{es:List eJ}{bh:Bool}{R S:Nat->aD}{B:aD} (hY:∀ (i:Nat) (r:eJ) (w1:World) (Fr:aD),es[i]? = some r->i<min most.toNat es.length->St w0 w1 (star (R i) Fr) ->
      cq prog l #[(aW r.s).1.v,iv (aW r.s).2] w1 λ g w2=>(g=true/\St w0 w2 (star (R (i+1)) Fr))\/(g=false/\St w0 w2 (star (S i) Fr))) (hl:es.length<=1000000) (h:St w0 w (Sep [R 0,bU x m es dur bh,ai b1 #[iv most] 3,ai b2 #[pt x] 27,B])) :
    CP 119 #[.func (.yield l) #[] #[],pt b1,pt b2] w (λ r w'=>r=.tuple #[] /\
      (St w0 w' (Sep [R (min most.toNat es.length),bU x m es dur bh,ai b1 #[iv most] 3,ai b2 #[pt x] 27,B]) \/
       ∃ i,i<min most.toNat es.length/\St w0 w' (Sep [S i,bU x m es dur bh,ai b1 #[iv most] 3,ai b2 #[pt x] 27,B]))):=by
  refine qU ?_;unfold mH;refine⟨λ n w' k=>∃ i:Nat,n=i/\i<=min most.toNat es.length/\k=min most.toNat es.length-i/\St w0 w' (Sep [R i,bU x m es dur bh,ai b1 #[iv most] 3,ai b2 #[pt x] 27,B]),⟨_,0,rfl,Nat.zero_le _,rfl,h⟩,?_⟩;rintro w1 k n ⟨i,rfl,hi,rfl,s⟩ -;refine⟨λ b w'=>b=decide (i<min most.toNat es.length)/\w' = w1,?_,?_⟩
  · rintro w2 b ⟨rfl,rfl⟩ -
    by_cases hlt:i<min most.toNat es.length
    · have hr:es[i]? = some (es[i]'(by omega)):=gE (by omega);generalize es[i]'(by omega)=r at hr;refine cT (dT hlt) ⟨_,s.ag 3 rfl 0,aj (Li (s.out 1 rfl) hr) ?_⟩;rintro _ w3 ⟨rfl,rfl⟩;refine⟨_,_,rfl,cF rfl (aj (rO w3 r.s) ?_)⟩;rintro _ w5 ⟨rfl,c5⟩;refine⟨_,_,_,(aW r.s).1.want,_,_,_,rfl,?_⟩;refine vA (hY i r w5 _ hr hlt (s.quiet c5)) ?_;rintro b w6 (⟨rfl,s6⟩ | ⟨rfl,s6⟩)
      · exact⟨_,rfl,cF rfl ⟨min most.toNat es.length-(i+1),by omega,i+1,aC ⟨by omega,by omega⟩,by omega,rfl,s6⟩⟩
      · exact⟨_,rfl,cT rfl ⟨rfl,.inr ⟨i,hlt,s6⟩⟩⟩
    · obtain rfl:i=min most.toNat es.length:=by omega
      exact cF (dF hlt) ⟨rfl,.inl s⟩
  · refine⟨_,s.ag 2 rfl 0,?_⟩
    by_cases hm:(i:Int)<most
    · refine cT (dT hm) ⟨_,s.ag 3 rfl 0,aj (Gt (s.out 1 rfl)) ?_⟩;rintro _ w3 ⟨rfl,rfl⟩;exact⟨_,rfl,decide_eq_decide.2 (by omega),rfl⟩
    · exact cF (dF hm) ⟨(dF (by omega)).symm,rfl⟩
def NV(T:List Int->aD)(v1:Value)(b r2 r3 r4 r5 r6 r7 D:Nat)(σ:Fo):List aD :=
  [ai r6 #[pt b] 33,eI b σ.S σ.C,ai r7 #[iv (σ.n:Nat)] 3,ai r5 #[iv 0] 30,ai r4 #[iv 0] 3,ai r3 #[.pointer none] 33,ai r2 #[v1] 80,aK D (.deferred (some [])),T σ.ds]
def RC(T:List Int->aD)(v1:Value)(b r2 r3 r4 r5 r6 r7 D:Nat)(σ:Fo):List aD :=
  [ai r6 #[pt b] 33,eI b σ.S σ.C,ai r7 #[iv (σ.n:Nat)] 3,ai r5 #[iv σ.e] 30,ai r4 #[iv (σ.n:Nat)] 3,ai r3 #[pt b] 33,ai r2 #[v1] 80,aK D (.deferred (some [])),T σ.ds]
def Gl(w0:World)(T:List Int->aD)(v1:Value):Prop:=∀ (b:Nat) (S:Sx) (C:Ck) (ds:List Int) (w:World) (Fr:aD) (R:Ending->World->Prop),ds.length<=1000000->S.bd.length=8->St w0 w (Sep [eI b S C,T ds,Fr]) ->
  (∀ w',St w0 w' (Sep [eI b S C,T (ds++[S.dig]),Fr])->R (.returned (.tuple #[])) w')->cC prog v1 #[pt b] w R
section
variable {w0 w:World} {T:List Int->aD} {v1:Value} {l b r2 r3 r4 r5 r6 r7 D:Nat} {lp:Loop} {σ:Fo} {Fr:aD}
set_option maxHeartbeats 2000000 in
theorem IU{n1:Int}{n2:Int}{n3:Int}{n4:Int}{n5:Int}{b1:Nat}{r1:Nat}{n6:Int}{n7:Int}{n8:Int}{n9:Int}{p1:OA}{v1:Value}{p2:OA}{v2:Value}{fn:FuncId}{f1:Fn}{y1 y2:Array Value}(hlp:lp=dj n1 n2 n3 n4 n5 f1 y1 y2 b1 r1 r2 r3 r4 r5 n6 n7 n8 n9 p1 r6 v1 p2 r7 v2 fn D)(hstep:Gl w0 T (.func f1 y1 y2))(hok:σ.Ok)(he:σ.e=0)(hn:σ.n<=100000)(r:List UInt8)(h:St w0 w (star (Sep (aK l (.loop lp) :: NV T (.func f1 y1 y2) b r2 r3 r4 r5 r6 r7 D σ)) Fr)) :
    cq prog l #[(aW r).1.v,iv (aW r).2] w λ g w2=>(g=true/\(aU σ r).e=0/\St w0 w2 (star (Sep (aK l (.loop lp) :: NV T (.func f1 y1 y2) b r2 r3 r4 r5 r6 r7 D (aU σ r))) Fr))\/(g=false/\(aU σ r).e≠0/\St w0 w2 (star (Sep (aK l (.loop { lp with state:=.done,pending:=some .ret }) :: RC T (.func f1 y1 y2) b r2 r3 r4 r5 r6 r7 D (aU σ r))) Fr)):=by
  have s:St w0 w (Sep (aK l (.loop lp) :: NV T (.func f1 y1 y2) b r2 r3 r4 r5 r6 r7 D σ++[Fr])):=h.open;refine pX (n1:=n1) (n2:=n2) (n3:=n3) (n4:=n4) (n5:=n5) (f1:=f1) (y1:=y1) (y2:=y2) (b1:=b1) (r1:=r1) (r2:=r2) (r3:=r3) (r4:=r4) (r5:=r5) (n6:=n6) (n7:=n7) (n8:=n8) (n9:=n9) (p1:=p1) (r6:=r6) (v1:=v1) (p2:=p2) (r7:=r7) (v2:=v2) (u1:=(aW r).1.want) (s.dY 0 rfl) (by rw[hlp]; rfl) (by rw[hlp]; rfl) (by rw[hlp]; rfl) (by rw[hlp]; rfl) ?_;unfold kO;have hst:lp.state=.ready:=by rw[hlp]; rfl
  have hpd:({ ({ lp with state:=.busy }:Loop) with state:=.ready,pending:=none }:Loop)=lp:=by rw[hlp]; rfl
  clear hlp;refine s.ax p8.cells.toArray λ r8 w1 s1=>s1.aA 0 rfl (aW r).1.cells rfl (Ev.one _) λ w2 s2=>?_;have s2:St w0 w2 (Sep (ai r8 (aW r).1.cells.toArray 43 :: aK l (.loop lp) :: NV T (.func f1 y1 y2) b r2 r3 r4 r5 r6 r7 D σ++[Fr])):=s2;refine⟨lp,s2.dY 1 rfl,hst,?_⟩;have s3:=s2.putAt 1 rfl (.loop { lp with state:=.busy });let L:Sx->Ck->List aD:=λ S C=>[ai r8 (aW r).1.cells.toArray 43,aK l (.loop { lp with state:=.busy }),ai r6 #[pt b] 33,eI b S C,ai r7 #[iv (σ.n:Nat)] 3,ai r5 #[iv 0] 30,ai r4 #[iv 0] 3,ai r3 #[.pointer none] 33,ai r2 #[.func f1 y1 y2] 80,aK D (.deferred (some [])),T σ.ds,Fr];have s3:St w0 _ (Sep (L σ.S σ.C)):=s3;refine⟨λ n w'=>n=(aU σ r).e/\St w0 w' (Sep (L (aU σ r).S (aU σ r).C)),?_,?_⟩
  · rintro w20 n ⟨rfl,s20⟩ -
    by_cases hE:(aU σ r).e=0
    · obtain⟨_,g1,g2⟩:=xd hE;have hS:=gI he g1 g2;refine cF (by simpa using hE) ⟨_,s20.ag 4 rfl 0,?_⟩;rw[aC (n:=((σ.n:Nat):Int)+1) ⟨by omega,by omega⟩];refine s20.aH 4 rfl (by show 0<1; decide) rfl λ w24 s24=>⟨_,s24.ag 8 rfl 0,_,s24.ag 2 rfl 0,?_⟩;have s25:St w0 w24 (Sep [eI b (aU σ r).S (aU σ r).C,T σ.ds,Sep [ai r8 (aW r).1.cells.toArray 43,aK l (.loop { lp with state:=.busy }),ai r6 #[pt b] 33,ai r7 #[iv (((σ.n:Nat):Int)+1)] 3,ai r5 #[iv 0] 30,ai r4 #[iv 0] 3,ai r3 #[.pointer none] 33,ai r2 #[.func f1 y1 y2] 80,aK D (.deferred (some [])),Fr]]) :=
        St.cat (((s24.aq [3,10,0,1,2,4,5,6,7,8,9,11]).split [_,_]).eqv (aS.right (aS.unit _)))
      refine hstep b _ _ _ _ _ _ (by have:=hok.ln; omega) (En hok r).ok.b8 s25 λ w25 s26=>⟨rfl,?_⟩;have s26:St w0 w25 (Sep ([eI b (aU σ r).S (aU σ r).C,T (σ.ds++[(aU σ r).S.dig])]++[ai r8 (aW r).1.cells.toArray 43,aK l (.loop { lp with state:=.busy }),ai r6 #[pt b] 33,ai r7 #[iv (((σ.n:Nat):Int)+1)] 3,ai r5 #[iv 0] 30,ai r4 #[iv 0] 3,ai r3 #[.pointer none] 33,ai r2 #[.func f1 y1 y2] 80,aK D (.deferred (some [])),Fr])):=s26.bN [_,_];refine⟨_,s26.dY 3 rfl,.inl ⟨rfl,hE,?_⟩⟩;rw[hpd];have s27:=s26.putAt 3 rfl (.loop lp);have eN:(((aU σ r).n:Nat):Int)=((σ.n:Nat):Int)+1:=by rw[hS]; rfl
      have eD:(aU σ r).ds=σ.ds++[(aU σ r).S.dig]:=by rw[hS]; rfl
      refine St.shut (l:=aK l (.loop lp) :: NV T (.func f1 y1 y2) b r2 r3 r4 r5 r6 r7 D (aU σ r)) ?_;unfold NV;rw[eN,eD];exact s27.aq [3,4,0,5,6,7,8,9,10,1,11]
    · have s21:=s20.quiet (az.drew w20 []);have hn' : (aU σ r).n=σ.n/\(aU σ r).ds=σ.ds:=by
        unfold aU at hE ⊢;rw[if_neg (λ h=>h he)] at hE ⊢
        split
        · exact⟨rfl,rfl⟩
        · split
          · exact⟨rfl,rfl⟩
          · rename_i g1 g2;rw[if_neg g1,if_neg g2] at hE;exact absurd rfl hE
      refine cT (by simpa using hE) ⟨_,s21.ag 2 rfl 0,_,s21.ag 4 rfl 0,s21.aH 7 rfl (by show 0<1; decide) rfl λ w21 s22=>⟨s22.ag 4 rfl 0,s22.aH 6 rfl (by show 0<1; decide) rfl λ w22 s23=>s23.aH 5 rfl (by show 0<1; decide) rfl λ w23 s24=>⟨_,s24.dY 1 rfl,.inr ⟨rfl,hE,?_⟩⟩⟩⟩;have s27:=s24.putAt 1 rfl (.loop { lp with state:=.done,pending:=some .ret });refine St.shut (l:=aK l (.loop { lp with state:=.done,pending:=some .ret }) :: RC T (.func f1 y1 y2) b r2 r3 r4 r5 r6 r7 D (aU σ r)) ?_;unfold RC;rw[hn'.1,hn'.2];exact s27.aq [1,2,3,4,5,6,7,8,9,10,11]
  · by_cases hd:(aW r).2=0
    · refine cT (by simpa using hd) ⟨_,s3.ag 2 rfl 0,_,_,_,(aW r).1.want,_,_,s3.cellsIn 0 rfl,aj (xp (s3.out 3 rfl) hok.ok (wG r)) ?_⟩;rintro v w26 ⟨rfl,s26⟩;have s26:=s26.back (i:=3) (by show 3<12; decide);refine⟨_,rfl,?_⟩
      by_cases ha:uP σ.S σ.C (aW r).1=0
      · rw[gI he hd ha,ha];have e:Ml σ.S σ.C (aW r).1=((EF σ.S σ.C (aW r).1).er,(OF σ.S σ.C (aW r).1).er):=if_pos ha;rw[e] at s26;exact⟨rfl,s26⟩
      · rw[y4 he hd ha];have e:Ml σ.S σ.C (aW r).1=(σ.S,σ.C):=if_neg ha;rw[e] at s26;exact⟨rfl,s26⟩
    · rw[pE he hd];exact cF (by simpa using hd) ⟨rfl,s3⟩
end
theorem FE{P:Program}{gf:FuncId}{lb:List Value}{rec:FuncId->Nat->Loop}{w0 w:World}{N R:World->Prop}{X:List (Nat×(World->Prop))}{L:List aD}(s:St w0 w (Sep L)) (k:∀ (fn:FuncId) (l:Nat) (w1:World),St w0 w1 (Sep (aK l (.loop (rec fn w.heap.size)) :: aK w.heap.size (.deferred (some [])) :: L)) ->
      Calls P gf (Value.func (.yield l) #[] #[] :: lb).toArray w1 (qw λ _ w2=>∃ (lp:Loop) (L' : List aD),lp.state≠.busy/\St w0 w2 (Sep (aK l (.loop lp) :: L'))/\((lp.pending=none/\∀ w3,St w0 w3 (Sep L')->N w3)\/(lp.pending=some .ret/\∀ w3,St w0 w3 (Sep L')->R w3)))):qR P gf lb rec w N R X:=by
  intro fn;have s1:=s.Fk (.deferred (some []));have hD:(w.alloc (.deferred (some []))).heap.size=w.heap.size+1:=by rw[World.size_alloc]
  have s2:=s1.Fk (.loop (rec fn w.heap.size));rw[hD] at s2;refine(k fn _ _ s2).mono λ e w2 ⟨v,he,lp,L',hb,s3,hN⟩=>⟨⟨v,he⟩,_,s3.dY 0 rfl,hb,?_⟩;rcases hN with⟨hp,hN⟩ | ⟨hp,hN⟩
  · rw[hp];exact hN _ ((s3.putAt 0 rfl _).second)
  · rw[hp];exact hN _ ((s3.putAt 0 rfl _).second)
section
variable {w0 w:World} {T:List Int->aD} {v1:Value} {l b r2 r3 r4 r5 r6 r7 D:Nat} {lp:Loop} {o:Po} {recs:List (List UInt8)} {i:Nat} {Fr:aD}
def Tz(o:Po)(recs:List (List UInt8))(T:List Int->aD)(v1:Value)(b r2 r3 r4 r5 r6 r7 D l:Nat)(lp:Loop)(i:Nat):aD:=Jh λ _:{ _u:Unit // (aB o (recs.take i)).e=0 }=>Sep (aK l (.loop lp) :: NV T v1 b r2 r3 r4 r5 r6 r7 D (aB o (recs.take i)))
def TA(o:Po)(recs:List (List UInt8))(T:List Int->aD)(v1:Value)(b r2 r3 r4 r5 r6 r7 D l:Nat)(lp:Loop)(i:Nat):aD:=Jh λ _:{ _u:Unit // (aB o (recs.take (i+1))).e≠0 }=>Sep (aK l (.loop { lp with state:=.done,pending:=some .ret }) :: RC T v1 b r2 r3 r4 r5 r6 r7 D (aB o (recs.take (i+1))))
theorem Lr(h:(aB o (recs.take i)).e=0)(s:St w0 w (star (Sep (aK l (.loop lp) :: NV T v1 b r2 r3 r4 r5 r6 r7 D (aB o (recs.take i)))) Fr)):St w0 w (star (Tz o recs T v1 b r2 r3 r4 r5 r6 r7 D l lp i) Fr) :=
  St.kK (f:=λ _:{ _u:Unit // (aB o (recs.take i)).e=0 }=>Sep (aK l (.loop lp) :: NV T v1 b r2 r3 r4 r5 r6 r7 D (aB o (recs.take i)))) ⟨(),h⟩ s
theorem QW(h:(aB o (recs.take (i+1))).e≠0)(s:St w0 w (star (Sep (aK l (.loop { lp with state:=.done,pending:=some .ret }) :: RC T v1 b r2 r3 r4 r5 r6 r7 D (aB o (recs.take (i+1))))) Fr)):St w0 w (star (TA o recs T v1 b r2 r3 r4 r5 r6 r7 D l lp i) Fr) :=
  St.kK (f:=λ _:{ _u:Unit // (aB o (recs.take (i+1))).e≠0 }=>Sep (aK l (.loop { lp with state:=.done,pending:=some .ret }) :: RC T v1 b r2 r3 r4 r5 r6 r7 D (aB o (recs.take (i+1))))) ⟨(),h⟩ s
end
theorem AT{α:Type}(l:List α)(i:Nat):l.take (min i l.length)=l.take i:=by rw[<- List.take_take,List.take_length]
set_option maxHeartbeats 1000000 in
theorem Ls{w0 w:World}{T:List Int->aD}{f1:Fn}{y1 y2:Array Value}{x m dur:Nat}{es:List eJ}{bh:Bool}{B:aD}(hstep:Gl w0 T (.func f1 y1 y2))(hl:es.length<=100000)(o:Po){most:Int}(s:St w0 w (Sep [T [],bU x m es dur bh,B])) :
    CP 28 #[pt x,o.v,iv most,.func f1 y1 y2] w (λ r w'=>∃ b,r=.tuple #[pt b,iv ((aB o ((es.map eJ.s).take most.toNat)).n:Nat),iv (aB o ((es.map eJ.s).take most.toNat)).e] /\
      St w0 w' (Sep [eI b (aB o ((es.map eJ.s).take most.toNat)).S (aB o ((es.map eJ.s).take most.toNat)).C,T (aB o ((es.map eJ.s).take most.toNat)).ds,bU x m es dur bh,B])):=by
  obtain⟨recs,hrecs⟩:∃ recs,es.map eJ.s=recs:=⟨_,rfl⟩;have hrl:recs.length=es.length:=by rw[<- hrecs,List.length_map]
  rw[hrecs];refine zI ?_;unfold yJ;refine s.ax o.cells.toArray λ r1 w1 s1=>s1.ax #[.func f1 y1 y2] λ r2 w2 s2=>s2.ax #[.pointer none] λ r3 w3 s3=>s3.ax #[iv 0] λ r4 w4 s4=>s4.ax #[iv 0] λ r5 w5 s5=>?_;have s5:St w0 w5 (Sep [ai r5 #[iv 0] 30,ai r4 #[iv 0] 3,ai r3 #[.pointer none] 33,ai r2 #[.func f1 y1 y2] 80,ai r1 o.cells.toArray 23,T [],bU x m es dur bh,B]):=s5;refine⟨_,_,_,_,s5.cellsIn 4 rfl,aj (LI w5 o) ?_⟩;rintro v w6 ⟨b,rfl,k6⟩;have s6:St w0 w6 (Sep ([ai b (ij o).cells.toArray 114]++[ai r5 #[iv 0] 30,ai r4 #[iv 0] 3,ai r3 #[.pointer none] 33,ai r2 #[.func f1 y1 y2] 80,ai r1 o.cells.toArray 23,T [],bU x m es dur bh,B])):=St.cat (s5.and k6);have s7:=((s6.su (GW o)).aq [1,0,2,3,4,5,6,7,8,9]).AS;have s8:St w0 w6 (Sep [eI b (ij o) Jo,ai r5 #[iv 0] 30,ai r4 #[iv 0] 3,ai r3 #[.pointer none] 33,ai r2 #[.func f1 y1 y2] 80,ai r1 o.cells.toArray 23,T [],bU x m es dur bh,B]):=wY (GV o) rfl ⟨λ _=>rfl,λ h=>absurd rfl h⟩ s7;refine⟨_,rfl,s8.ax #[.pointer none] λ r6 w7 s9=>s9.aH 0 rfl (by show 0<1; decide) rfl λ w8 s10=>?_⟩;have s10:St w0 w8 (Sep [ai r6 #[pt b] 33,eI b (ij o) Jo,ai r5 #[iv 0] 30,ai r4 #[iv 0] 3,ai r3 #[.pointer none] 33,ai r2 #[.func f1 y1 y2] 80,ai r1 o.cells.toArray 23,T [],bU x m es dur bh,B]):=s10;refine⟨_,s10.ag 5 rfl 0,_,s10.ag 0 rfl 0,?_⟩;have s11:St w0 w8 (Sep [eI b (ij o) Jo,T [],Sep [ai r6 #[pt b] 33,ai r5 #[iv 0] 30,ai r4 #[iv 0] 3,ai r3 #[.pointer none] 33,ai r2 #[.func f1 y1 y2] 80,ai r1 o.cells.toArray 23,bU x m es dur bh,B]]) :=
    (s10.aq [1,7,0,2,3,4,5,6,8,9]).AS
  refine hstep b _ _ _ _ _ _ (by decide) rfl s11 λ w9 s12=>⟨rfl,?_⟩;have s12:St w0 w9 (Sep ([eI b (ij o) Jo,T [0]]++[ai r6 #[pt b] 33,ai r5 #[iv 0] 30,ai r4 #[iv 0] 3,ai r3 #[.pointer none] 33,ai r2 #[.func f1 y1 y2] 80,ai r1 o.cells.toArray 23,bU x m es dur bh,B])):=s12.bN [_,_];refine s12.ax #[iv 0] λ r7 w10 s13=>s13.aH 0 rfl (by show 0<1; decide) rfl λ w11 s14=>?_;have s14:St w0 w11 (Sep [ai r7 #[iv 0] 3,eI b (ij o) Jo,T [0],ai r6 #[pt b] 33,ai r5 #[iv 0] 30,ai r4 #[iv 0] 3,ai r3 #[.pointer none] 33,ai r2 #[.func f1 y1 y2] 80,ai r1 o.cells.toArray 23,bU x m es dur bh,B]):=s14;refine aj (uz (K:=λ v w'=>∃ e1 e2,v=.func (.func 119) #[] #[pt e2,pt e1]/\St w0 w' (Sep [ai e2 #[iv most] 3,ai e1 #[pt x] 27,ai r7 #[iv 0] 3,eI b (ij o) Jo,T [0],ai r6 #[pt b] 33,ai r5 #[iv 0] 30,ai r4 #[iv 0] 3,ai r3 #[.pointer none] 33,ai r2 #[.func f1 y1 y2] 80,ai r1 o.cells.toArray 23,bU x m es dur bh,B])) (s14.ax _ λ e1 _ t1=>t1.ax _ λ e2 _ t2=>⟨e1,e2,rfl,t2⟩)) ?_;rintro _ w12 ⟨e1,e2,rfl,s15⟩;refine⟨_,rfl,ux (by kernel_rfl) ?_⟩;refine FE s15 λ fn l w13 s16=>?_;obtain⟨lp,hlp⟩:∃ lp,lp=dj o.step o.pct o.und o.rule most f1 y1 y2 x r1 r2 r3 r4 r5 o.step o.pct o.und o.rule (some ⟨b,0,none⟩) r6 (.func f1 y1 y2) (some ⟨b,0,none⟩) r7 (.func (.func 119) #[] #[pt e2,pt e1]) fn w12.heap.size:=⟨_,rfl⟩;have hpd:lp.pending=none/\lp.state=.ready:=by rw[hlp]; exact⟨rfl,rfl⟩
  have s16:St w0 w13 (Sep [aK l (.loop lp),aK w12.heap.size (.deferred (some [])),ai e2 #[iv most] 3,ai e1 #[pt x] 27,ai r7 #[iv 0] 3,eI b (ij o) Jo,T [0],ai r6 #[pt b] 33,ai r5 #[iv 0] 30,ai r4 #[iv 0] 3,ai r3 #[.pointer none] 33,ai r2 #[.func f1 y1 y2] 80,ai r1 o.cells.toArray 23,bU x m es dur bh,B]):=by rw[hlp]; exact s16
  have s17:=(s16.aq [0,7,5,4,8,9,10,11,1,6,13,2,3,12,14]).split [_,_,_,_,_,_,_,_,_,_];have s18:=Lr (o:=o) (recs:=recs) (i:=0) (T:=T) (v1:=.func f1 y1 y2) (b:=b) (r2:=r2) (r3:=r3) (r4:=r4) (r5:=r5) (r6:=r6) (r7:=r7) (D:=w12.heap.size) rfl s17;have s19:=xg (m:=[ai r1 o.cells.toArray 23,B]) [_,bU x m es dur bh,ai e2 #[iv most] 3,ai e1 #[pt x] 27] s18;refine aj (J3 (R:=Tz o recs T (.func f1 y1 y2) b r2 r3 r4 r5 r6 r7 w12.heap.size l lp) (S:=TA o recs T (.func f1 y1 y2) b r2 r3 r4 r5 r6 r7 w12.heap.size l lp) (λ i r w1 Fr hr hi h=>?_) (by omega) s19) ?_
  · obtain⟨⟨_,he⟩,h1⟩:=h.ex;have hr' : recs[i]? = some r.s:=by rw[<- hrecs,List.getElem?_map,hr]; rfl
    have e1:aB o (recs.take (i+1))=aU (aB o (recs.take i)) r.s:=by rw[aL hr',fF]
    have hn:(aB o (recs.take i)).n<=100000:=Nat.le_trans (BR o _) (by rw[List.length_take]; omega);refine vA (IU hlp hstep (jC o _) he hn r.s h1) ?_;rintro g w2 (⟨rfl,h2,h3⟩ | ⟨rfl,h2,h3⟩)
    · exact .inl ⟨rfl,Lr (by rw[e1]; exact h2) (by rw[e1]; exact h3)⟩
    · exact .inr ⟨rfl,QW (by rw[e1]; exact h2) (by rw[e1]; exact h3)⟩
  · have hM:recs.take (min most.toNat es.length)=recs.take most.toNat:=by rw[<- hrl]; exact AT recs _
    rintro _ w14 ⟨rfl,s20 | ⟨i,hi,s20⟩⟩
    · obtain⟨⟨_,he⟩,s21⟩:=s20.ex;rw[hM] at he s21;refine⟨_,rfl,_,_,?_,St.cat s21,.inl ⟨hpd.1,λ w15 s23=>?_⟩⟩
      · rw[hpd.2]; intro h; cases h
      have s24:=s23.quiet (az.drew w15 []);refine⟨_,s24.ag 0 rfl 0,_,s24.ag 2 rfl 0,s24.aH 5 rfl (by show 0<1; decide) rfl λ w16 s25=>⟨s25.ag 2 rfl 0,s25.aH 4 rfl (by show 0<1; decide) rfl λ w17 s26=>s26.aH 3 rfl (by show 0<1; decide) rfl λ w18 s27=>⟨s27.dY 7 rfl,?_⟩⟩⟩;have s28:=s27.putAt 7 rfl (.deferred none);refine⟨_,s28.ag 5 rfl 0,_,s28.ag 4 rfl 0,_,s28.ag 3 rfl 0,b,by rw[he],?_⟩;exact((s28.aq [1,8,9,12]).bN [_,_,_]).aq [0,1,2,4]
    · obtain⟨⟨_,he⟩,s21⟩:=s20.ex;have hσ:aB o (recs.take most.toNat)=aB o (recs.take (i+1)):=by
        have e:(recs.take most.toNat).take (i+1)=recs.take (i+1):=by rw[List.take_take,Nat.min_eq_left (by omega)]
        rw[<- e];exact o7 (by rw[e]; exact he)
      rw[hσ];refine⟨_,rfl,_,_,?_,St.cat s21,.inr ⟨rfl,λ w15 s23=>⟨s23.dY 7 rfl,?_⟩⟩⟩
      · intro h; cases h
      have s28:=s23.putAt 7 rfl (.deferred none);refine⟨_,s28.ag 5 rfl 0,_,s28.ag 4 rfl 0,_,s28.ag 3 rfl 0,b,rfl,?_⟩;exact((s28.aq [1,8,9,12]).bN [_,_,_]).aq [0,1,2,4]
abbrev u1 (d:Int):List Value:=[.int .u64 d]
theorem F6(d:Int):(u1 d).length=1:=rfl
theorem Rp(d:Int):∀ v∈u1 d,v.oneCell' = true:=by intro v hv; simp at hv; subst hv; rfl
theorem TE:gL prog 29 37 (.int .u64 0) 1 8:=gL.mk' underlying29 (by kernel_rfl) rfl (by decide)
abbrev Pd (a:OA) (c:Nat) (l:List Int):aD:=bW 37 1 u1 a c l
theorem Iz{w:World}{o:Obj}{A B:Nat->World->Prop}(h:ak w o A)(k:ak w o B):ak w o λ r w'=>A r w'/\B r w':=⟨h,k⟩
section
variable {w0 w:World} {b:Nat} {S:Sx} {C:Ck} {B:aD}
theorem El(s:St w0 w (star (eI b S C) B))(h8:S.bd.length=8):w.cell? ⟨b,100,none⟩=some (.int .u64 S.dig)/\w.cell? ⟨b,4,none⟩=some (iv S.ph):=by
  obtain⟨S',C',rfl,rfl,hk,s1⟩:=wX s;have h8' : S'.bd.length=8:=by have:S'.er.bd.length=S'.bd.length:=List.length_map _; omega
  refine⟨?_,?_⟩
  · rw[s1.ag 0 rfl]; exact Ht h8'
  · exact(s1.ag 0 rfl 4).trans rfl
theorem FM(s:St w0 w (star (eI b S C) B))(h8:S.bd.length=8):CP 31 #[pt b] w (λ r w'=>r=.int .u64 S.dig/\w' = w):=by
  refine nu ?_;unfold jb;exact⟨_,(El s h8).1,rfl,rfl⟩
theorem LR(s:St w0 w (star (eI b S C) B))(h8:S.bd.length=8):CP 43 #[pt b] w (λ r w'=>r=iv S.ph/\w' = w):=by
  refine oI ?_;unfold jQ;exact⟨_,(El s h8).2,rfl,rfl⟩
end
theorem Oh(w0:World):Gl w0 (λ _=>emp) (.func (.func 42) #[] #[]):=by
  intro b S C ds w Fr R _ _ s k;refine bx (by kernel_rfl) ?_;refine(wk (p1:=some ⟨b,0,none⟩) (w:=w) (K:=λ r w'=>r=.tuple #[]/\w' = w) ⟨rfl,rfl⟩).mono ?_;rintro e w' ⟨v,rfl,rfl,rfl⟩;exact k _ s
theorem CI{w0 w:World}{x m dur:Nat}{es:List eJ}{bh:Bool}{B:aD}(hl:es.length<=100000)(o:Po){most:Int}(s:St w0 w (Sep [bU x m es dur bh,B])) :
    CP 15 #[pt x,o.v,iv most] w (λ r w'=>∃ b,r=.tuple #[pt b,iv ((aB o ((es.map eJ.s).take most.toNat)).n:Nat),iv (aB o ((es.map eJ.s).take most.toNat)).e] /\
      St w0 w' (Sep [eI b (aB o ((es.map eJ.s).take most.toNat)).S (aB o ((es.map eJ.s).take most.toNat)).C,bU x m es dur bh,B])):=by
  refine zG ?_;unfold yI;refine s.ax o.cells.toArray λ r1 w1 s1=>?_;have s2:St w0 w1 (Sep [emp,bU x m es dur bh,Sep [ai r1 o.cells.toArray 23,B]]):=(s1.aq [3,1,0,2]).AS;refine⟨_,_,_,_,s1.cellsIn 0 rfl,aj (Ls (Oh w0) hl o s2) ?_⟩;rintro _ w2 ⟨b,rfl,s3⟩;exact⟨_,_,_,rfl,b,rfl,((s3.aq [0,2,3]).bN [_,_]).aq [0,1,3]⟩
def RD(r:Nat)(ds:List Int):aD:=Jh λ p:Option Addr×Nat=>star (ai r #[.slice p.1 ds.length p.2] 29) (Pd p.1 p.2 ds)
theorem I2(w0:World)(r:Nat):Gl w0 (RD r) (.func (.func 30) #[] #[pt r]):=by
  intro b S C ds w Fr R hl h8 s k;refine bx (by kernel_rfl) ?_;refine aj (K:=λ v w'=>v=.tuple #[]/\St w0 w' (Sep [eI b S C,RD r (ds++[S.dig]),Fr])) (sX (b1:=b) (b2:=r) ?_) ?_
  rotate_left
  · rintro v w' ⟨rfl,s'⟩;exact k _ s'
  unfold ow;obtain⟨⟨a,c⟩,s1⟩:=(s.out 1 rfl).ex;have s2:St w0 w (Sep [ai r #[.slice a ds.length c] 29,Pd a c ds,eI b S C,Fr]):=s1.two;have s3:=s2.quiet (az.drew w []);refine⟨a,ds.length,c,s3.ag 0 rfl 0,aj (FM (s3.out 2 rfl) h8) ?_⟩;rintro _ w1 ⟨rfl,rfl⟩;refine⟨_,rfl,s3.ag 0 rfl 0,Iz (s3.ax _ λ r w' s'=>s'.ag 1 rfl 0) (iC TE F6 (Rp S.dig) (s3.out 1 rfl) (by omega) (by omega) (λ a' c' w' s4=>?_) rfl)⟩;have s4:St w0 w' (Sep [ai r #[.slice a ds.length c] 29,Pd a' c' (ds++[S.dig]),eI b S C,Fr]):=s4.back (i:=1) (by show 1<4; decide);refine s4.aH 0 rfl (by show 0<1; decide) rfl λ w5 s5=>⟨rfl,?_⟩;have s6:St w0 w5 (star (RD r (ds++[S.dig])) (Sep [eI b S C,Fr])):=St.kK (f:=λ p:Option Addr×Nat=>star (ai r #[.slice p.1 (ds++[S.dig]).length p.2] 29) (Pd p.1 p.2 (ds++[S.dig]))) (a',c') s5.join;have s7:St w0 w5 (Sep [RD r (ds++[S.dig]),eI b S C,Fr]):=s6;exact s7.aq [1,0,2]
theorem Ba{w0 w:World}{x m dur:Nat}{es:List eJ}{bh:Bool}{B:aD}(hl:es.length<=100000)(o:Po)(s:St w0 w (Sep [bU x m es dur bh,B])) :
    CP 10 #[pt x,o.v] w (λ r w'=>((aB o (es.map eJ.s)).e≠0/\r=.tuple #[.slice none 0 0,iv (aB o (es.map eJ.s)).e]/\St w0 w' (Sep [bU x m es dur bh,B]))\/((aB o (es.map eJ.s)).e=0/\∃ a c,r=.tuple #[.slice a (aB o (es.map eJ.s)).ds.length c,iv 0]/\St w0 w' (Sep [Pd a c (aB o (es.map eJ.s)).ds,bU x m es dur bh,B]))):=by
  refine wm ?_;unfold sW;refine s.ax o.cells.toArray λ r1 w1 s1=>s1.ax #[.slice none 0 0] λ r2 w2 s2=>?_;have s3:=s2.quiet (az.drew w2 []);refine⟨_,_,_,_,s3.cellsIn 1 rfl,aj (Gt (s3.out 2 rfl)) ?_⟩;rintro _ w3 ⟨rfl,rfl⟩;have s4:St w0 w2.drew (Sep (Pd none 0 [] :: ai r2 #[.slice none 0 0] 29 :: ai r1 o.cells.toArray 23 :: [bU x m es dur bh,B])):=s3.eZ;have s5:St w0 w2.drew (star (RD r2 []) (Sep [bU x m es dur bh,ai r1 o.cells.toArray 23,B])):=St.kK (f:=λ p:Option Addr×Nat=>star (ai r2 #[.slice p.1 ([]:List Int).length p.2] 29) (Pd p.1 p.2 [])) (none,0) (s4.aq [1,0,3,2,4]).join;have s6:St w0 w2.drew (Sep [RD r2 [],bU x m es dur bh,Sep [ai r1 o.cells.toArray 23,B]]):=St.AS (m:=[_,_]) s5;refine⟨_,rfl,s3.cellsIn 1 rfl,aj (Ls (most:=(es.length:Int)) (I2 w0 r2) hl o s6) ?_⟩;rw[Int.toNat_natCast,show(es.map eJ.s).take es.length=es.map eJ.s from List.take_of_length_le (by simp)];generalize aB o (es.map eJ.s)=σ;rintro _ w4 ⟨b,rfl,s7⟩;refine⟨_,_,_,rfl,?_⟩
  by_cases he:σ.e=0
  · obtain⟨⟨a,c⟩,s8⟩:=(s7.out 1 rfl).ex;have s9:St w0 w4 (Sep [ai r2 #[.slice a σ.ds.length c] 29,Pd a c σ.ds,eI b σ.S σ.C,bU x m es dur bh,Sep [ai r1 o.cells.toArray 23,B]]):=s8.two;refine cF (by simpa using he) ⟨a,_,c,s9.ag 0 rfl 0,.inr ⟨he,a,c,rfl,?_⟩⟩;exact((s9.aq [1,3,4]).bN [_,_]).aq [0,1,3]
  · exact cT (by simpa using he) (.inl ⟨he,rfl,((s7.aq [2,3]).bN [_]).aq [0,2]⟩)
def MV(e:eJ):Value:=.agg #[.string (bs e.s),.int .u64 (e.head:Int),.int .i64 (e.till:Int)]
theorem Rt{w0 w:World}{A:aD}(h:St w0 w A)(l:List UInt8):CP 36 #[.string (bs l)] w (λ r w'=>∃ x,r=.pointer (some ⟨x,0,none⟩)/\St w0 w' (star (AE x l 0) A)) :=
  HC ⟨_,rfl,(h.box _ _).swap⟩
theorem Qk{w0 w:World}{b l:Nat}{L:List UInt8}(hL:L.length<=2305843009213693952){R:List eJ->aD}{B:aD}(hY:∀ (pre:List eJ) (e:eJ) (w1:World) (Fr:aD),pre++[e] <+: cV L->St w0 w1 (star (R pre) Fr)->cq prog l #[MV e] w1 λ g w2=>g=true/\St w0 w2 (star (R (pre++[e])) Fr))(h:St w0 w (star (R []) (star (ai b #[.string (bs L)] 9) B))) :
    CP 106 #[.func (.yield l) #[] #[],.pointer (some ⟨b,0,none⟩)] w (λ r w'=>r=.tuple #[]/\St w0 w' (star (R (cV L)) (star (ai b #[.string (bs L)] 9) B))):=by
  refine Ky ?_;unfold OR;refine⟨λ n1 n2 w' m=>∃ (pre:List eJ) (k at_ hd:Nat),n1=(at_:Int)/\n2=(hd:Int)/\at_<=L.length/\m=L.length-at_/\m<=k/\cV L=pre++gq k (L.drop at_) at_ hd/\St w0 w' (star (R pre) (star (ai b #[.string (bs L)] 9) B)),
    ⟨L.length,[],L.length,0,0,rfl,rfl,by omega,by omega,by omega,rfl,h⟩,?_⟩
  rintro w1 m n1 n2 ⟨pre,k,at_,hd,rfl,rfl,hat,rfl,hk,hp,hst⟩ -;have hcell:∀ {w' : World} {A:aD},St w0 w' (star A (star (ai b #[.string (bs L)] 9) B))->w'.cell? ⟨b,0,none⟩=some (.string (bs L)):=λ h=>h.AJ.boxed 0;refine⟨_,hcell hst,by omega,by rw[bY]; omega,?_⟩;rw[Int.toNat_natCast,Bo];obtain⟨rest,hrest⟩:∃ rest,L.drop at_=rest:=⟨_,rfl⟩;have hlen:rest.length=L.length-at_:=by rw[<- hrest,List.length_drop]
  rw[hrest] at hp ⊢;refine aj (Rt hst rest) ?_;rintro _ w2 ⟨x,rfl,h2⟩;refine⟨_,rfl,aj (NW h2 (by omega)) ?_⟩;intro r w3 h3
  cases hr:oQ rest with
  | none =>
    rw[hr] at h3;obtain⟨s,e,l',rfl,he,h3⟩:=h3;have hend:cV L=pre:=by rw[hp,yf hr,List.append_nil]
    refine⟨_,rfl,λ g w'=>g=true/\w' = w3,?_,aj (J2 h3) ?_⟩
    · rintro w4 g ⟨rfl,rfl⟩ -;exact cT rfl ⟨rfl,by rw[hend]; exact h3.second⟩
    · rintro _ w4 ⟨rfl,rfl⟩;exact⟨_,rfl,cT (by simpa using he) ⟨rfl,rfl⟩⟩
  | some p =>
    obtain⟨s,t⟩:=p;rw[hr] at h3;obtain⟨rfl,h3⟩:=h3;obtain⟨hcan,hs4⟩:=oR hr;have htl:rest.length=(cN s).length+t.length:=by rw[hcan,List.length_append]
    refine⟨_,rfl,λ g w'=>g=decide (t.length<8)/\w' = w3,?_,aj (J2 h3) ?_⟩
    rotate_left
    · rintro _ w4 ⟨rfl,rfl⟩;refine⟨_,rfl,cF rfl (aj (KE h3) ?_)⟩;rintro _ w5 ⟨rfl,rfl⟩;refine⟨_,rfl,?_,rfl⟩;rw[if_pos rfl];exact decide_eq_decide.2 ⟨λ h=>by omega,λ h=>by omega⟩
    · rintro w4 g ⟨rfl,rfl⟩ -
      by_cases ht8:t.length<8
      · have hend:cV L=pre:=by
          rw[hp,uf hr (λ hh=>by have:=congrArg List.length hh; rw[aJ,List.length_take] at this; omega),List.append_nil]
        exact cT (dT ht8) ⟨rfl,by rw[hend]; exact h3.second⟩
      · refine cF (dF ht8) (l7 (Dt hd (bs s) (by rw[bY]; omega)) λ w5 hc5=>⟨_,rfl,?_⟩);have h5:=(h3.quiet hc5).quiet (az.drew w5 []);have e0:(bs s).data.toList=s:=rfl;rw[e0];refine⟨_,hcell h5.second,aj (KE h5) ?_⟩;rintro _ w6 ⟨rfl,rfl⟩;refine⟨_,rfl,hcell h5.second,?_⟩;rw[if_pos rfl];have hE:IntKind.i64.wrap ((IntKind.i64.wrap ((((bs L).size:Nat):Int)-((t.length:Nat):Int)))+(8:Int))=((L.length-t.length+8:Nat):Int):=by
          rw[bY,IntWalk.i64_in ((L.length:Int)-(t.length:Int)) (by omega),IntWalk.i64_in _ (by omega)]; omega
        rw[hE];have h6:=h5.quiet (az.drew w5.drew []);refine⟨λ g w'=>(g=false/\t.take 8=sA 8 (aE hd s)/\St w0 w' (star (R (pre++[⟨s,aE hd s,at_+(aO s (aE hd s)).length⟩])) (star (ai b #[.string (bs L)] 9) B))) \/
            (g=true/\t.take 8≠sA 8 (aE hd s)/\St w0 w' (star (R pre) (star (ai b #[.string (bs L)] 9) B))),?_,_,hcell h6.second,by omega,by rw[bY]; omega,by omega,by omega,?_⟩
        · rintro w7 g (⟨rfl,hgood,h7⟩ | ⟨rfl,hbad,h7⟩) -
          · obtain⟨hfr,_,hfl⟩:=lK hr hgood;obtain⟨k',rfl⟩:∃ k',k=k' + 1:=⟨k-1,by omega⟩;have hat' : at_+(aO s (aE hd s)).length=L.length-t.length+8:=by omega
            refine cF rfl ⟨L.length-(L.length-t.length+8),by omega,_,k',L.length-t.length+8,aE hd s,rfl,rfl,by omega,rfl,by omega,?_,h7⟩;rw[hp,qN hr hgood,<- hat',List.append_assoc]
            congr 2
            rw[hat',show L.drop (L.length-t.length+8)=t.drop 8 from ?_]
            · rfl
            · have:L.drop (L.length-t.length+8)=(L.drop at_).drop ((cN s).length+8):=by rw[List.drop_drop]; congr 1; omega
              rw[this,hrest,hcan,<- List.drop_drop,List.drop_left]
          · have hend:cV L=pre:=by rw[hp,uf hr hbad,List.append_nil]
            exact cT rfl ⟨rfl,by rw[hend]; exact h7⟩
        · refine l7 (GF (bs s) (by rw[bY]; omega) (aE hd s)) λ w8 hc8=>⟨_,rfl,?_⟩;rw[e0];have h8:=h6.quiet hc8;refine⟨hcell h8.second,?_⟩;have hcmp:((bs L).extract at_ ((L.length-t.length+8:Nat):Int).toNat).data.toList=cN s++t.take 8:=by
            rw[Int.toNat_natCast,ByteArray.data_extract,Array.toList_extract,List.extract_eq_drop_take'];have e1:(bs L).data.toList=L:=rfl;rw[e1,List.drop_take,hrest,hcan,show L.length-t.length+8-at_=(cN s).length+8 by omega,List.take_append,List.take_of_length_le (by omega)]
            congr 2
            omega
          by_cases hgood:t.take 8=sA 8 (aE hd s)
          · refine cF (HS _ _ (by rw[hcmp,hgood]; rfl)) ?_;have hmem:pre++[⟨s,aE hd s,at_+(aO s (aE hd s)).length⟩] <+: cV L:=by
              obtain⟨k',rfl⟩:∃ k',k=k' + 1:=⟨k-1,by omega⟩;rw[hp,qN hr hgood];exact⟨_,by rw[List.append_assoc]; rfl⟩
            obtain⟨_,_,hfl⟩:=lK hr hgood;have hv:Value.agg #[.string (bs s),.int .u64 ((aE hd s:Nat):Int),.int .i64 ((L.length-t.length+8:Nat):Int)]=MV ⟨s,aE hd s,at_+(aO s (aE hd s)).length⟩:=by
              unfold MV;rw[show at_+(aO s (aE hd s)).length=L.length-t.length+8 by omega]
            have:=hY pre _ w8 _ hmem h8.second;rw[<- hv] at this;obtain⟨fn,tmps,asg,bdy,hrun,hR⟩:=this;refine⟨fn,tmps,asg,bdy,hrun,hR.mono λ e w9 ⟨g,he,hg,h9⟩=>⟨g,he,g,rfl,?_⟩⟩;subst hg;exact .inl ⟨rfl,hgood,h9⟩
          · refine cT ?_ (.inr ⟨rfl,hgood,h8.second⟩);have hne:cN s++t.take 8≠aO s (aE hd s):=λ hh=>hgood (List.append_cancel_left hh);rw[Go.ByteArray.toList_eq,Go.ByteArray.toList_eq,hcmp];simpa using hne
def R5(l D x b r2 r3:Nat)(lp:Loop)(pre:List eJ):aD :=
  Jh λ v:Value=>Sep [aK l (.loop lp),ai x #[.pointer (some ⟨b,0,none⟩),v,.int .i64 0,.bool false] 131,cw 136 3 v pre.length (pre.flatMap cX),ai r2 #[.pointer (some ⟨x,0,none⟩)] 27,
    ai r3 #[.int .i64 (bt pre:Int)] 3,aK D (.deferred (some []))]
theorem K2{w0 w:World}{s:ByteArray}{n1:Int}{x b r2 r3 l D:Nat}{v1:Value}{fn:FuncId}{pre:List eJ}{e:eJ}{Fr:aD}(hlen:pre.length<=230584300921)(h:St w0 w (star (R5 l D x b r2 r3 (aF b s n1 x r2 r3 v1 fn D) pre) Fr)) :
    cq prog l #[MV e] w λ g w2=>g=true/\St w0 w2 (star (R5 l D x b r2 r3 (aF b s n1 x r2 r3 v1 fn D) (pre++[e])) Fr):=by
  obtain⟨v,h⟩:=h.ex;have h:=h.flat;refine vT (b1:=b) (s1:=s) (n1:=n1) (r1:=x) (r2:=r2) (r3:=r3) (v1:=v1) (St.obj h) rfl rfl rfl rfl ?_;unfold sw;obtain⟨a,c,hv⟩:=bA (St.rowOf (h.pull 2));refine aG ?_;have h3:=h.box #[.string (bs []),.int .u64 0,.int .i64 0] 136;obtain⟨y,hy⟩:∃ y,w.heap.size=y:=⟨_,rfl⟩;rw[hy] at h3 ⊢;refine MB h3.swap _ rfl (by simp[Value.oneCell']) λ w8 h8=>?_;have h8:St w0 w8 (Sep [ai y #[.string (bs e.s),.int .u64 (e.head:Int),.int .i64 (e.till:Int)] 136,aK l (.loop (aF b s n1 x r2 r3 v1 fn D)),ai x #[.pointer (some ⟨b,0,none⟩),v,.int .i64 0,.bool false] 131,cw 136 3 v pre.length (pre.flatMap cX),ai r2 #[.pointer (some ⟨x,0,none⟩)] 27,ai r3 #[.int .i64 (bt pre:Int)] 3,aK D (.deferred (some [])),Fr]):=h8;refine⟨_,St.obj (h8.pull 1),rfl,?_⟩;have p9:=(St.put (h8.pull 1) (.loop { aF b s n1 x r2 r3 v1 fn D with state:=.busy })).quiet (az.drew _ []);have h9:St w0 _ (Sep [aK l (.loop { aF b s n1 x r2 r3 v1 fn D with state:=.busy }),ai y #[.string (bs e.s),.int .u64 (e.head:Int),.int .i64 (e.till:Int)] 136,ai x #[.pointer (some ⟨b,0,none⟩),v,.int .i64 0,.bool false] 131,cw 136 3 v pre.length (pre.flatMap cX),ai r2 #[.pointer (some ⟨x,0,none⟩)] 27,ai r3 #[.int .i64 (bt pre:Int)] 3,aK D (.deferred (some [])),Fr]):=p9;have c2:=St.boxed (h9.pull 4) 0;have cx:=St.boxed (h9.pull 2) 1;refine⟨_,c2,_,c2,a,pre.length,c,by rw[fQ,<- hv]; exact cx,bs e.s,_,_,⟨by rw[fQ]; exact St.boxed (h9.pull 1) 0,by rw[fQ]; exact St.boxed (h9.pull 1) 1,by rw[fQ]; exact St.boxed (h9.pull 1) 2,trivial⟩,?_⟩;refine aG ?_;have n9:=h9.quiet (az.new _ (.cells #[.string (bs e.s),.int .u64 (e.head:Int),.int .i64 (e.till:Int)] 136) []);have d2:=St.boxed (n9.pull 4) 0;refine⟨by rw[fQ,<- hv]; exact St.boxed (n9.pull 2) 1,d2,d2,?_⟩;rw[<- hv];refine Bi Sl (n9.pull 3) (m:=1) (news:=cX e) rfl (λ j u hj=>?_) (by simp[cX,Value.oneCell']) (by omega) (by omega) λ v' w19 h19=>?_
  · rw[fQ,cK,ct,if_pos rfl,cG];simpa[cX] using hj
  obtain⟨a3,c3,rfl⟩:=bA (St.rowOf h19);have h19:St w0 w19 (Sep [cw 136 3 (.slice a3 (pre.length+1) c3) (pre.length+1) (pre.flatMap cX++cX e),aK l (.loop { aF b s n1 x r2 r3 v1 fn D with state:=.busy }),ai y #[.string (bs e.s),.int .u64 (e.head:Int),.int .i64 (e.till:Int)] 136,ai x #[.pointer (some ⟨b,0,none⟩),v,.int .i64 0,.bool false] 131,ai r2 #[.pointer (some ⟨x,0,none⟩)] 27,ai r3 #[.int .i64 (bt pre:Int)] 3,aK D (.deferred (some [])),Fr]):=h19;refine⟨a3,_,c3,rfl,St.boxed (h19.pull 4) 0,?_⟩
  dsimp only[an]
  rw[fQ];refine xy (h19.pull 3) (by simp) rfl λ w20 h20=>?_;have h20:St w0 w20 (Sep [ai x #[.pointer (some ⟨b,0,none⟩),(.slice a3 (pre.length+1) c3),.int .i64 0,.bool false] 131,cw 136 3 (.slice a3 (pre.length+1) c3) (pre.length+1) (pre.flatMap cX++cX e),aK l (.loop { aF b s n1 x r2 r3 v1 fn D with state:=.busy }),ai y #[.string (bs e.s),.int .u64 (e.head:Int),.int .i64 (e.till:Int)] 136,ai r2 #[.pointer (some ⟨x,0,none⟩)] 27,ai r3 #[.int .i64 (bt pre:Int)] 3,aK D (.deferred (some [])),Fr]):=h20;refine⟨_,St.boxed (h20.pull 3) 2,xy (h20.pull 5) (by simp) rfl λ w21 h21=>?_⟩;have h21:St w0 w21 (Sep [ai r3 #[.int .i64 (e.till:Int)] 3,ai x #[.pointer (some ⟨b,0,none⟩),(.slice a3 (pre.length+1) c3),.int .i64 0,.bool false] 131,cw 136 3 (.slice a3 (pre.length+1) c3) (pre.length+1) (pre.flatMap cX++cX e),aK l (.loop { aF b s n1 x r2 r3 v1 fn D with state:=.busy }),ai y #[.string (bs e.s),.int .u64 (e.head:Int),.int .i64 (e.till:Int)] 136,ai r2 #[.pointer (some ⟨x,0,none⟩)] 27,aK D (.deferred (some [])),Fr]):=h21;refine⟨_,St.obj (h21.pull 3),rfl,?_⟩;have h22:=St.put (h21.pull 3) (.loop (aF b s n1 x r2 r3 v1 fn D));have h22:St w0 _ (Sep [aK l (.loop (aF b s n1 x r2 r3 v1 fn D)),ai r3 #[.int .i64 (e.till:Int)] 3,ai x #[.pointer (some ⟨b,0,none⟩),(.slice a3 (pre.length+1) c3),.int .i64 0,.bool false] 131,cw 136 3 (.slice a3 (pre.length+1) c3) (pre.length+1) (pre.flatMap cX++cX e),ai y #[.string (bs e.s),.int .u64 (e.head:Int),.int .i64 (e.till:Int)] 136,ai r2 #[.pointer (some ⟨x,0,none⟩)] 27,aK D (.deferred (some [])),Fr]):=h22;have h23:=((h22.pull 4).second);have h23:St w0 _ (Sep [aK l (.loop (aF b s n1 x r2 r3 v1 fn D)),ai r3 #[.int .i64 (e.till:Int)] 3,ai x #[.pointer (some ⟨b,0,none⟩),(.slice a3 (pre.length+1) c3),.int .i64 0,.bool false] 131,cw 136 3 (.slice a3 (pre.length+1) c3) (pre.length+1) (pre.flatMap cX++cX e),ai r2 #[.pointer (some ⟨x,0,none⟩)] 27,aK D (.deferred (some [])),Fr]):=h23;refine St.kK (.slice a3 (pre.length+1) c3) (St.Cy _ ?_);have hl:(pre++[e]).length=pre.length+1:=by simp
  have hm:(pre++[e]).flatMap cX=pre.flatMap cX++cX e:=by simp
  rw[hl,hm,F5];exact(((h23.pull 1).push 4).pull 0)
def QE(s:MS):MS:={ s with b:=s.b.take (bt (cV s.b)),dur:=bt (cV s.b) }
theorem Eo{s:MS}(hl:s.left=none):s.bh=(true,s):=by unfold MS.bh; rw[hl]
theorem BU(h:Nat)(l:List (List UInt8))(s:List UInt8):aR h (l++[s])=aR h l++aO s (aE (gR h l) s):=by
  rw[iN,eV,Dl,List.append_nil]
theorem xX(h:Nat)(l:List (List UInt8))(i:Nat):(aR h (l.take i)).length<=(aR h l).length:=by
  conv=>rhs; rw[<- List.take_append_drop i l,iN]
  simp
theorem zV:∀ (x:List UInt8) (s:MS),s.left=none->MS.qz x s=(0,{ s with b:=s.b++x })
  | [],s,_=>by unfold MS.qz; simp
  | c :: cs,s,h=>by
    unfold MS.qz;rw[h]
    dsimp only
    rw[zV cs _ rfl]
    simp
theorem CQ{s:MS}{x:List UInt8}(hd:s.down=false)(hl:s.left=none)(hx:(s.b.length:Int)+x.length<=s.size):s.app x=(0,{ s with b:=s.b++x }):=by
  rw[MS.JA hd (by omega),zV x s hl]
theorem HM{es:List eJ}{s:MS}{rc:List UInt8}(h4:rc.length<=4000)(hd:s.down=false)(hl:s.left=none)(hx:(s.b.length:Int)+(aO rc (aE (cM es) rc)).length<=s.size) :
    Bg es false s rc=⟨aE (cM es) rc,0,es++[⟨rc,aE (cM es) rc,0⟩],false,{ s with b:=s.b++aO rc (aE (cM es) rc) }⟩:=by
  unfold Bg;rw[if_neg (by omega),if_neg (by decide),CQ hd hl hx,if_pos rfl]
theorem Du{es:List eJ}{l:List (List UInt8)}(h:es.map (·.head)=xZ 0 l):cM es=gR 0 l:=by
  unfold cM;rw[<- List.getLast?_map,h,Al]
structure Has (es:List eJ) (l:List (List UInt8)):Prop where
  s:es.map (·.s)=l
  h:es.map (·.head)=xZ 0 l
theorem Has.len{es:List eJ}{l:List (List UInt8)}(h:Has es l):es.length=l.length:=by rw[<- h.s]; simp
theorem Has.head{es:List eJ}{l:List (List UInt8)}(h:Has es l):cM es=gR 0 l:=Du h.h
theorem Has.snoc{es:List eJ}{l:List (List UInt8)}(h:Has es l)(x:List UInt8)(t:Nat):Has (es++[⟨x,aE (cM es) x,t⟩]) (l++[x]):=by
  refine⟨by simp[h.s],?_⟩;rw[vg,<- h.head,<- h.h];simp[xZ]
theorem Has.nil:Has [] []:=⟨rfl,rfl⟩
structure Good (es:List eJ) (l:List (List UInt8)) (s:MS) (n:Int):Prop where
  has:Has es l
  b:s.b=aR 0 l
  ok:s.Ok
  dn:s.down=false
  lf:s.left=none
  sz:s.size=n
theorem Good.snoc{es:List eJ}{l:List (List UInt8)}{s:MS}{n:Int}(h:Good es l s n){x:List UInt8}(hx:x.length<=4000)(hn:((aR 0 (l++[x])).length:Int)<=n) :
    Bg es false s x=⟨gR 0 (l++[x]),0,es++[⟨x,gR 0 (l++[x]),0⟩],false,{ s with b:=aR 0 (l++[x]) }⟩/\Good (es++[⟨x,gR 0 (l++[x]),0⟩]) (l++[x]) { s with b:=aR 0 (l++[x]) } n/\(s.app (aO x (aE (cM es) x))).1=0:=by
  have hh:aE (cM es) x=gR 0 (l++[x]):=by rw[h.has.head,BV,lM,Ib]
  have hb:s.b++aO x (aE (cM es) x)=aR 0 (l++[x]):=by rw[BU,h.b,<- h.has.head]
  have hbl:=congrArg List.length hb;rw[List.length_append] at hbl;have hfit:(s.b.length:Int)+(aO x (aE (cM es) x)).length<=s.size:=by rw[h.sz]; omega
  have hap:=CQ h.dn h.lf hfit;have hok:=MS.PE h.ok (aO x (aE (cM es) x));refine⟨?_,⟨?_,rfl,?_,h.dn,h.lf,h.sz⟩,by rw[hap]⟩
  · rw[HM hx h.dn h.lf hfit,hb,hh]
  · rw[<- hh]; exact h.has.snoc x 0
  · rw[hap,hb] at hok;exact hok
def ms0(n:Int):MS:=⟨n,[],0,false,none⟩
theorem Good.init(n:Int)(hn : ¬ (n<1\/262144<n)):Good [] [] (ms0 n) n:=⟨Has.nil,rfl,O9 hn,rfl,rfl,rfl⟩
theorem E3(x:List UInt8)(h:Nat):(aO x h).length<=x.length+18:=by
  have h1:=AV x;unfold aO;rw[List.length_append,aJ]; omega
theorem ud:∀ (l:List (List UInt8)) (h m:Nat),(∀ x∈l,x.length<=m)->(aR h l).length<=(m+18)*l.length
  | [],_,_,_=>by simp[aR]
  | x :: l,h,m,hl=>by
    have h1:=ud l (aE h x) m λ y hy=>hl y (by simp[hy]);have h2:=E3 x (aE h x);have h3:=hl x (by simp);rw[eV,List.length_append,List.length_cons,Nat.mul_add]; omega
end Go.Proofs.YtpihmghnbplohaaGreatDoor

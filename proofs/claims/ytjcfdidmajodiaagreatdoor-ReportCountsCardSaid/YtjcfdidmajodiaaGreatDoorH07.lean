import Derived.Test.YtjcfdidmajodiaaGreatDoorH06
set_option linter.unusedVariables false
set_option linter.defProp false
set_option maxRecDepth 100000
set_option maxHeartbeats 4000000
namespace Go.Proofs.YtjcfdidmajodiaaGreatDoor
open Go Go.Vc Go.Vt _root_.Go.Proofs.Tryz
def ym:=many uj [en func46 [] [],en func47 [] [],en func48 [] [],en func49 [] [],en func218 [] [],en func269 [] [],en func53 [] [(6,[(17,.s .bool)]),(122,[(5,.s (.int .i64)),(21,.s (.int .i64))])],en func320 [(1,.k (.s .blk))] [],en func23 [] [],en func326 [(1,.k (.s .blk))] [(1020,[])],en func54 [] [],en func354 [(1,.k (.s .blk))] [(31,[]),(255,[])]] (by conv=>lhs;reduce) (by kernel_rfl) λ x=>by
 dsimp only[fj,fh,ff,fe,fk,fm,fq,tF,iP,en,sV,wrap,dc,dn,qA,gU,tW,U.I,U.B,U.S,U.N,U.A,U.O,U.W,U.V,U.L,U.U6,U.C,U.M,U.F,U.E,tP,tN,tI,oo,jU,gJ,kr,jq,TJ,Nat.reduceSub,Nat.reduceAdd,Int.reduceOfNat,Int.reduceNeg,UInt8.reduceOfNat] at x
 exact x
end Go.Proofs.YtjcfdidmajodiaaGreatDoor
namespace Go.Proofs.YtjcfdidmajodiaaGreatDoor
open Go Go.Vc _root_.Go.Proofs.Tryz
def yB:j7 prog 77 42 (.agg z6.vs.toArray) 6 48:=j7.mk' underlying77 (by kernel_rfl) rfl (by decide)
def bE(u:I6):u.vs.length=6:=rfl
abbrev eV (a:OA) (c:Nat) (l:List I6):aI:=dK 42 6 I6.vs a c l
def NM{w0 w:af}{B:aI}(s:St w0 w B){a:OA}{c:Nat}{l:List I6}(h:Nq w a l)(d:l.length<=1000) :
  CP 218 #[.slice a l.length c] w (λ r w'=>∃ a' c',r=.slice a' l.length c'/\St w0 w' (star (eV a' c' l) B)):=by
 refine ym.2.2.2.2.1 ?_;exact rj (c:=c) (K:=λ r w'=>∃ a' c',r=.slice a' l.length c'/\St w0 w' (star (eV a' c' l) B)) yB bE I6.one s h (by omega) (by omega) λ a' c' w' b=>⟨a',c',rfl,b⟩
def AN(sup tot now ask:I6)(k:Nat):Bool:=decide (ask.at' k<now.at' k)&&decide (tot.at' k-now.at' k+ask.at' k<sup.at' k)
def iz(sup tot now ask:I6):Bool:=(List.range 6).any (AN sup tot now ask)
def MB(w:af)(sup tot now ask:I6)(h1:I6.Le sup 1000000)(h2:I6.Le tot 1000000)(h3:I6.Le now 1000000)(h4:I6.Le ask 1000000) :
  CP 220 #[.agg sup.vs.toArray,.agg tot.vs.toArray,.agg now.vs.toArray,.agg ask.vs.toArray] w (λ r w'=>r=.bool (iz sup tot now ask)/\aC w w' []):=by
 refine vL.1 ?_;refine aG sup.vs.toArray λ r1 C s1=>s1.aB tot.vs.toArray λ r2 D s2=>s2.aB now.vs.toArray λ r3 E v=>v.aB ask.vs.toArray λ r4 q p=>?_;refine⟨λ n f m=>∃ k:Nat,n=k/\k<=6/\m=6-k/\(∀ j,j<k->AN sup tot now ask j=false)/\aC q f [],⟨6,0,rfl,by omega,by omega,λ j l=>by omega,aC.refl _ _⟩,?_⟩;rintro f m n ⟨k,rfl,x,hm,ha,hc⟩ -
 by_cases o:(k:Int)<6
 ·have a:k<6:=by omega
  have c5:aC q f.drew []:=hc.trans (aC.drew f []) (by simp);have e:=p.quiet c5;have y:=h1 k a; have z:=h2 k a; have A:=h3 k a; have B:=h4 k a;have h:=aF e 3 rfl a; have i:=aF e 2 rfl a; have c:=aF e 1 rfl a; have d:=aF e 0 rfl a;refine aP o ⟨λ b u=>b=AN sup tot now ask k/\aC q u [],?_,by omega,by omega,_,by rw[dM,d],by omega,by omega,_,by rw[dM,c],?_⟩
  ·rintro u b ⟨rfl,s⟩ -
   cases hr:AN sup tot now ask k with
   | true=>exact cT rfl ⟨by rw[iz,yN.2 ⟨k,iH.2 a,hr⟩],(p.quiet s).av⟩
   | false =>
    refine cF rfl ⟨6-(k+1),by omega,k+1,inc (by decide) a,by omega,rfl,λ j l=>?_,s⟩;rcases bw j k with t | t
    ·exact ha j t
    ·obtain rfl:j=k:=by omega
     exact hr
  ·by_cases g:ask.at' k<now.at' k
   ·refine aP g ⟨by omega,by omega,_,by rw[dM,i],by omega,by omega,_,by rw[dM,c],by omega,by omega,_,by rw[dM,d],by omega,by omega,_,by rw[dM,h],?_,c5⟩;rw[cW (n:=tot.at' k-now.at' k) ⟨by omega,by omega⟩,cA (by omega),AN,dT g,bt]
   ·exact aU g ⟨by rw[AN,dF g,Dg],c5⟩
 ·obtain rfl:k=6:=by omega
  refine cF (by simp) ⟨?_,(p.quiet hc).av⟩;have:iz sup tot now ask=false:=by
   rw[iz,tY];intro j l;rw[ha j (iH.1 l)]; simp
  rw[this]
def oX(sup tot now ask:Int):Int:=if ask<now then now-(if (if 0>tot-sup then 0 else tot-sup)<now-ask then (if 0>tot-sup then 0 else tot-sup) else now-ask) else ask
def nX(sup tot now ask:I6):I6:=I6.of λ k=>oX (sup.at' k) (tot.at' k) (now.at' k) (ask.at' k)
def As{s t n a B:Int}(h3:0<=n/\n<=B)(h4:0<=a/\a<=B):0<=oX s t n a/\oX s t n a<=B:=by
 unfold oX
 split
 ·split<;>split<;>omega
 ·omega
def Pk{s t n a:I6}{B:Int}(h3:I6.Le n B)(h4:I6.Le a B):I6.Le (nX s t n a) B:=λ k b=>by
 rw[nX,I6.rP _ _ b]; exact As (h3 k b) (h4 k b)
def Pp(w:af)(sup tot now ask:I6)(h1:I6.Le sup 1000000)(h2:I6.Le tot 1000000)(h3:I6.Le now 1000000)(h4:I6.Le ask 1000000) :
  CP 221 #[.agg sup.vs.toArray,.agg tot.vs.toArray,.agg now.vs.toArray,.agg ask.vs.toArray] w (λ r w'=>r=.agg (nX sup tot now ask).vs.toArray/\aC w w' []):=by
 refine vL.2.1 ?_;refine aG sup.vs.toArray λ r1 B s1=>s1.aB tot.vs.toArray λ r2 C s2=>s2.aB now.vs.toArray λ r3 D q=>q.aB ask.vs.toArray λ r4 E u=>u.aB z6.vs.toArray λ r5 F v=>?_;let I:Nat->af->Prop:=λ k w'=>St w w' (Sep [aj r5 z6.vs.toArray 42,aj r4 (I6.mix k (nX sup tot now ask) ask).vs.toArray 42,aj r3 now.vs.toArray 42,aj r2 tot.vs.toArray 42,aj r1 sup.vs.toArray 42,emp]);refine⟨λ n l m=>∃ k:Nat,n=k/\k<=6/\m=6-k/\I k l,⟨6,0,rfl,by omega,by omega,v⟩,?_⟩;rintro l m n ⟨k,rfl,y,hm,h⟩ -
 by_cases f:(k:Int)<6
 ·have a:k<6:=by omega
  have d:=St.quiet h (aC.drew _ _);have b:=d.quiet (aC.drew _ _);have z:=h1 k a; have A:=h2 k a; have o:=h3 k a; have p:=h4 k a;have ea:(I6.mix k (nX sup tot now ask) ask).at' k=ask.at' k:=by rw[I6.cX _ _ _ _ a,ah (by omega)]
  have c:(nX sup tot now ask).at' k=oX (sup.at' k) (tot.at' k) (now.at' k) (ask.at' k):=I6.rP _ _ a;refine aP f ⟨I (k+1),?_,by omega,by omega,ask.at' k,by rw[dM,aF d 1 rfl a,ea],by omega,by omega,now.at' k,by rw[dM,aF d 2 rfl a],?_⟩
  ·rintro x e -;exact⟨6-(k+1),by omega,k+1,inc (by decide) a,by omega,rfl,e⟩
  ·by_cases g:ask.at' k<now.at' k
   ·refine aP g ⟨by omega,by omega,now.at' k,by rw[dM,aF b 2 rfl a],by omega,by omega,now.at' k,by rw[dM,aF b 2 rfl a],by omega,by omega,ask.at' k,by rw[dM,aF b 1 rfl a,ea],by omega,by omega,tot.at' k,by rw[dM,aF b 3 rfl a],by omega,by omega,sup.at' k,by rw[dM,aF b 4 rfl a],by omega,by omega,?_⟩
    have hp:=As (s:=sup.at' k) (t:=tot.at' k) o p;rw[oX,ak g] at c hp;rw[dM,cW (n:=tot.at' k-sup.at' k) ⟨by omega,by omega⟩,cW (n:=now.at' k-ask.at' k) ⟨by omega,by omega⟩,cA (by omega),<- c];refine b.aN 1 rfl a rfl λ x e=>?_;rw[I6.gD _ _ _ a] at e;exact e
   ·refine aU g ?_;rw[oX,ah g] at c;have:I6.mix (k+1) (nX sup tot now ask) ask=I6.mix k (nX sup tot now ask) ask:=by
     refine I6.ext' λ j i=>?_;rw[I6.cX _ _ _ _ i,I6.cX _ _ _ _ i]
     by_cases h3:j<k
     ·rw[ak (by omega),ak h3]
     ·rw[ah h3]
      split
      ·obtain rfl:j=k:=by omega
       exact c
      ·rfl
    show I (k+1) _;simp only[I];rw[this]; exact d
 ·obtain rfl:k=6:=by omega
  exact cF (by simp) ⟨_,St.cellsIn h 1 rfl,St.az h 0 rfl (nX sup tot now ask).vs rfl (I6.one _) λ G b=>⟨_,b.cellsIn 0 rfl,rfl,b.av⟩⟩
def QA{w:af}{p:Int}(hp:1<=p/\p<=3){sup:I6}(L:I6.Le sup 4){a1 a2:OA}{c1 c2:Nat}{l1 l2:List I6}(h1:Nq w a1 l1)(h2:Nq w a2 l2)(G:l2.length=l1.length)(E:l1.length<=8)(A:∀ u∈l1,I6.Le u 4)(B:∀ u∈l2,I6.Le u 4) :
  CP 217 #[iv p,.agg sup.vs.toArray,.slice a1 l1.length c1,.slice a2 l2.length c2] w (λ r w'=>r=iv 0/\aC w w' []):=by
 refine(p6 (p6 rE)).2.2.2.1 ?_;refine aG sup.vs.toArray λ r1 O s1=>⟨λ b i=>b=false/\i=O,?_,aU (by omega) ⟨dF (by omega),rfl⟩⟩;rintro i b ⟨rfl,rfl⟩ -;refine cF rfl ⟨λ b o=>b=false/\o=i,?_,cF (by simp[G]) ⟨dF (by omega),rfl⟩⟩;rintro o b ⟨rfl,rfl⟩ -;refine cF rfl ⟨_,s1.cellsIn 0 rfl,au (iq o sup) ?_⟩;rintro v S ⟨rfl,c4⟩;have M:=s1.quiet c4;refine⟨_,rfl,cF (by rw[leq L]; rfl) ⟨λ n y m=>∃ k:Nat,n=k/\k<=2/\m=2-k/\aC w y [],⟨2,0,rfl,by omega,by omega,M.av⟩,?_⟩⟩;rintro y m n ⟨k,rfl,R,hm,c5⟩ -
 by_cases f:(k:Int)<2
 ·have e:k<2:=by omega
  obtain⟨a,c,l,D,K,F,H⟩:∃ (a:OA) (c:Nat) (l:List I6),(#[.slice a1 l1.length c1,.slice a2 l2.length c2]:Array Value)[(k:Int).toNat*1]?=some (.slice a l.length c)/\Nq w a l/\(∀ u∈l,I6.Le u 4)/\l.length<=8:=by
   match k,e with
   | 0,_=>exact⟨a1,c1,l1,rfl,h1,A,E⟩
   | 1,_=>exact⟨a2,c2,l2,rfl,h2,B,by omega⟩
  refine aP f ⟨by omega,by omega,_,_,_,D,λ n z m=>∃ j:Nat,n=j/\j<=l.length/\m=l.length-j/\aC w z [],⟨l.length,0,rfl,by omega,by omega,c5⟩,?_⟩;rintro z m6 n6 ⟨j,rfl,Q,I,g⟩ -
  by_cases d:(j:Int)<(l.length:Int)
  ·obtain⟨x,s⟩:=bx l j (by omega);obtain⟨q,J,h⟩:=(K.av g).at s;refine cT (by simpa using d) ?_;rw[J];refine⟨by omega,by omega,x,h,(St.start' g).one.aB z6.vs.toArray λ r2 T N=>N.az 0 rfl x.vs rfl (I6.one _) λ P t=>⟨_,t.cellsIn 0 rfl,au (iq P x) ?_⟩⟩;rintro v U ⟨rfl,C⟩;exact⟨_,rfl,cF (by rw[leq (F x (bf s))]; rfl) (jZ (by omega) ((t.quiet C).av))⟩
  ·exact cF (by simpa using d) ⟨2-(k+1),by omega,k+1,inc (by decide) e,by omega,rfl,g⟩
 ·exact aU f ⟨rfl,c5⟩
def jQ(p:Int)(sup:I6)(out:List I6)(i:Nat)(ask:I6):List I6 :=
 if p=2 then (if iz sup (fy out) (out.getD i z6) ask then out else out.set i ask)
 else if p=3 then out.set i (nX sup (fy out) (out.getD i z6) ask) else out.set i ask
def qO(p:Int)(sup:I6)(a asked:List I6):Nat->List I6
 | 0=>a
 | k+1=>jQ p sup (qO p sup a asked k) k (asked.getD k z6)
def UF(p:Int)(sup:I6)(a asked:List I6):List I6:=qO p sup a asked asked.length
def ze{l:List I6}{B:Int}(h:∀ u∈l,I6.Le u B)(a:0<=B)(i:Nat):I6.Le (l.getD i z6) B:=by
 rw[aJ]
 cases hg:l[i]? with
 | none=>exact λ k _=>by rw[show(none:Option I6).getD z6=z6 from rfl,jB]; omega
 | some u=>exact h u (bf hg)
def I9{l:List I6}{B:Int}(h:∀ u∈l,I6.Le u B){x:I6}(b:I6.Le x B)(i:Nat):∀ u∈l.set i x,I6.Le u B:=λ u hu=>by
 rcases lY hu with a | rfl
 ·exact h u a
 ·exact b
def MX{p:Int}{sup:I6}{out:List I6}{i:Nat}{ask:I6}{B:Int}(a:0<=B)(h:∀ u∈out,I6.Le u B)(ha:I6.Le ask B):(jQ p sup out i ask).length=out.length/\∀ u∈jQ p sup out i ask,I6.Le u B:=by
 unfold jQ
 split
 ·split
  ·exact⟨rfl,h⟩
  ·exact⟨by simp,I9 h ha i⟩
 ·split
  ·exact⟨by simp,I9 h (Pk (ze h a i) ha) i⟩
  ·exact⟨by simp,I9 h ha i⟩
theorem xG{p:Int}{sup:I6}{a asked:List I6}{B:Int}(b:0<=B)(h:∀ u∈a,I6.Le u B)(ha:∀ u∈asked,I6.Le u B):∀ k,(qO p sup a asked k).length=a.length/\∀ u∈qO p sup a asked k,I6.Le u B
 | 0=>⟨rfl,h⟩
 | k+1=>by
  obtain⟨h1,h2⟩:=xG (p:=p) (sup:=sup) b h ha k;obtain⟨h3,h4⟩:=MX (p:=p) (sup:=sup) (i:=k) b h2 (ze ha b k);exact⟨h3.trans h1,h4⟩
def Qz{w0 w:af}{B:aI}(s:St w0 w B){p:Int}(hp:1<=p/\p<=3){sup:I6}(S:I6.Le sup 4){a1 a2:OA}{c1 c2:Nat}{l1 l2:List I6}(h1:Nq w a1 l1)(h2:Nq w a2 l2)(hl:l2.length=l1.length)(h8:l1.length<=8)(K:∀ u∈l1,I6.Le u 4)(H:∀ u∈l2,I6.Le u 4) :
  CP 165 #[iv p,.agg sup.vs.toArray,.slice a1 l1.length c1,.slice a2 l2.length c2] w (λ r w'=>∃ a c,r=.tuple #[.slice a l1.length c,iv 0]/\St w0 w' (star (eV a c (UF p sup l1 l2)) B)/\aC w w' []):=by
 refine(p6 rE).2.1 ?_;refine aG sup.vs.toArray λ r1 w1 t1=>⟨_,t1.cellsIn 0 rfl,au (QA hp S (h1.av t1.av) (h2.av t1.av) hl h8 K H) ?_⟩;rintro v w2 ⟨rfl,c2⟩;have t2:=t1.quiet c2;refine⟨_,rfl,cF rfl (au (NM t2 (h1.av t2.av) (by omega)) ?_)⟩;rintro v w3 ⟨a,c,rfl,t3⟩;refine⟨_,_,_,rfl,?_⟩;have len:∀ k,(qO p sup l1 l2 k).length=l1.length:=λ k=>(xG (B:=4) (by omega) K H k).1;have z:∀ k,∀ u∈qO p sup l1 l2 k,I6.Le u 4:=λ k=>(xG (B:=4) (by omega) K H k).2;have up:∀ {u:I6},I6.Le u 4->I6.Le u 1000000:=λ h k Z=>by have:=h k Z; omega
 have F:∀ k,I6.Le (fy (qO p sup l1 l2 k)) 1000000:=λ k j Y=>by
  have:=tD (z k) j Y;rw[fy,I6.rP _ _ Y];have:=len k;omega
 let Q:Nat->aI:=λ k=>Sep [eV a c (qO p sup l1 l2 k),aj r1 sup.vs.toArray 42,emp];refine⟨λ n w4 m=>∃ k:Nat,n=k/\k<=l2.length/\m=l2.length-k/\St w w4 (Q k),⟨l2.length,0,rfl,by omega,by omega,t3⟩,?_⟩;rintro w4 m n ⟨k,rfl,Z,hm,t4⟩ -
 by_cases P:(k:Int)<(l2.length:Int)
 ·obtain⟨x,T⟩:=bx l2 k (by omega);have U:l2.getD k z6=x:=by rw[aJ,T]; rfl
  have E:=H x (bf T);have A:k<l1.length:=by omega
  obtain⟨q,hq,O⟩:=(h2.av (St.av t4)).at T;have hg:∃ g,a=qs g:=St.iS (l:=qO p sup l1 l2 k) (St.out t4 0 rfl) (by rw[len]; omega);obtain⟨g,rfl⟩:=hg;have C:(qO p sup l1 l2 k)[k]?=some ((qO p sup l1 l2 k).getD k z6):=by
   rw[aJ,gE (by rw[len]; exact A)]; rfl
  have d:=ze (z k) (by omega) k;refine cT (by simpa using P) ⟨λ w5=>St w w5 (Q (k+1)),?_,?_⟩
  ·rintro w5 t5 -;exact jZ (by omega) t5
  rw[hq];refine⟨by omega,by omega,x,O,St.aB t4 z6.vs.toArray λ r2 w6 t6=>t6.az 0 rfl x.vs rfl (I6.one _) λ w7 t7=>?_⟩;have V:Nq w7 (qs g) (qO p sup l1 l2 k):=St.rd bE (t7.out 1 rfl);have f:=Yz (c:=c) V (λ u hu=>up (z k u hu)) (by rw[len]; omega);rw[len] at f;refine au f ?_;rintro v w8 ⟨rfl,c8⟩;refine⟨_,rfl,(t7.quiet c8).aB z6.vs.toArray λ r3 w9 t9=>t9.az 0 rfl (fy (qO p sup l1 l2 k)).vs rfl (I6.one _) λ G t10=>?_⟩;generalize e:fy (qO p sup l1 l2 k)=tot at t10;have D:I6.Le tot 1000000:=e▸F k;let now:=(qO p sup l1 l2 k).getD k z6;have YX:∀ {w':af} {l:List aI} {y:I6},St w w' (Sep (aj r3 tot.vs.toArray 42 :: aj r2 y.vs.toArray 42 :: eV (qs g) c (qO p sup l1 l2 k) :: l))->aA w' (Addr.add ⟨g,0,none⟩ (((k:Nat):Int).toNat*6)) 0 now.vs:=λ t=>by
   obtain⟨q',R,N⟩:=cP.at (St.rd bE (t.out 2 rfl)) C
   cases R; exact N
  have o:St w G (Sep [aj r3 tot.vs.toArray 42,aj r2 x.vs.toArray 42,eV (qs g) c (qO p sup l1 l2 k),aj r1 sup.vs.toArray 42,emp]):=t10;have t11:=o.quiet (aC.drew G []);refine⟨λ w'=>∃ y:I6,qO p sup l1 l2 (k+1)=(qO p sup l1 l2 k).set k y/\St w w' (Sep [aj r3 tot.vs.toArray 42,aj r2 y.vs.toArray 42,eV (qs g) c (qO p sup l1 l2 k),aj r1 sup.vs.toArray 42,emp]),?_,?_⟩
  ·rintro w11 ⟨y,ey,t⟩ -;refine⟨_,t.cellsIn 1 rfl,by omega,by omega,?_⟩;rw[aD];refine St.su bE (I6.one y) (t.out 2 rfl) (i:=k) (by rw[len]; exact A) λ W t12=>?_;show St w W (Q (k+1));simp only[Q];rw[ey];exact(t12.back (l:=[aj r3 tot.vs.toArray 42,aj r2 y.vs.toArray 42,eV (qs g) c (qO p sup l1 l2 k),aj r1 sup.vs.toArray 42,emp]) (i:=2) (by simp)).ay [2,3,4]
  ·have b:qO p sup l1 l2 (k+1)=jQ p sup (qO p sup l1 l2 k) k x:=by show jQ _ _ _ _ (l2.getD k z6)=_; rw[U]
   by_cases p2:p=2
   ·refine cT (by simpa using p2) ⟨_,t11.cellsIn 3 rfl,_,t11.cellsIn 0 rfl,by omega,by omega,_,YX t11,_,t11.cellsIn 1 rfl,au (MB _ sup tot now x (up S) D (up d) (up E)) ?_⟩;rintro v X ⟨rfl,L⟩;refine⟨_,rfl,?_⟩;have t13:=t11.quiet L;have I:qO p sup l1 l2 (k+1)=if iz sup tot now x then qO p sup l1 l2 k else (qO p sup l1 l2 k).set k x:=by
     rw[b,jQ,ak p2,e]
    cases hr:iz sup tot now x with
    | true =>
     refine cT rfl ?_;rw[hr,ak rfl] at I;show St w X (Q (k+1));simp only[Q];rw[I];exact t13.ay [2,3,4]
    | false =>
     rw[hr] at I;exact cF rfl ⟨x,I,t13⟩
   ·refine cF (by simpa using p2) ?_
    by_cases J:p=3
    ·refine cT (by simpa using J) ⟨_,t11.cellsIn 3 rfl,_,t11.cellsIn 0 rfl,by omega,by omega,_,YX t11,_,t11.cellsIn 1 rfl,au (Pp _ sup tot now x (up S) D (up d) (up E)) ?_⟩;rintro v w14 ⟨rfl,M⟩;refine⟨_,rfl,(t11.quiet M).az 1 rfl (nX sup tot now x).vs rfl (I6.one _) λ w15 t15=>⟨_,?_,t15⟩⟩;rw[b,jQ,ah p2,ak J,e]
    ·refine cF (by simpa using J) ⟨x,?_,o⟩;rw[b,jQ,ah p2,ah J]
 ·obtain rfl:k=l2.length:=by omega
  refine cF (by simp) ⟨a,c,rfl,?_,St.av t4⟩;exact(s.after (St.ay t4 [0]).single)
def rU{w:af}{a:OA}{c:Nat}{l:List Pr}(h:fS w a l) :
  CP 60 #[.slice a l.length c] w ((yb (dH l) (Bk l) w)):=by
 refine(p6 BA).2.1 ?_
 by_cases C:l.length=0
 ·exact cT (by rw[C]; rfl) (bq (by decide) (λ hp=>by have:=hp.l1; omega) (aC.refl _ _) (by rw[Bk,ak C]))
 refine cF (by simpa using C) ?_;rcases bw 6 l.length with H|H
 ·exact aP (by omega) (bq (by decide) (λ hp=>by have:=hp.l2; omega) (aC.refl _ _) (by rw[Bk,ah C,ak H]))
 refine aU (by omega) ⟨λ n K m=>∃ k:Nat,n=k/\k<=l.length/\m=l.length-k/\(∀ i p,i<k->l[i]?=some p->pz l i p)/\aC w K [],⟨l.length,0,rfl,by omega,by omega,λ i p hi=>by omega,aC.refl _ _⟩,?_⟩;rintro K m n ⟨k,rfl,V,hm,ha,hc⟩ -
 by_cases B:(k:Int)<(l.length:Int)
 ·obtain⟨x,g⟩:=bx l k (by omega);obtain⟨_,q,E,D⟩:=(h.av hc) k x g;have bad : ¬ pz l k x->¬ dH l:=λ I hp=>I (hp.good k x g);have L:∀ {e:Int},e≠0->E0 l k x=e->Bk l=e:=λ he h=>by
   have:=jc (f:=E0 l) (n:=0) (λ i p hi hp=>by rw[aL]; exact vZ (ha i p hi hp)) g (by rw[aL,h]; exact he);rw[aL,h] at this;rw[Bk,ah C,ah (by omega),this,ak he]
  have s:∀ {w':af},aC w w' []->∀ (j:Nat) (y:Pr),l[j]?=some y->w'.cell? (q.add (j*5))=some (sv y.nm):=λ N j y F=>by
   obtain⟨_,q',d,r⟩:=(h.av N) j y F;rw[E] at d; cases d;have:=r.1
   rwa [Addr.add_add] at this
  refine cT (by simpa using B) ?_;rw[E];refine⟨by omega,by omega,_,s hc k x g,au (Ae K x.nm) ?_⟩;rintro v w2 ⟨rfl,rfl⟩;refine⟨_,rfl,?_⟩
  cases hn:cY x.nm with
  | false=>exact cT rfl (bq (by decide) (bad λ t=>by have:=t.1; simp[tQ,hn] at this) hc (L (by decide) (by rw[E0,hn]; rfl)))
  | true =>
   refine cF rfl ⟨λ n G m=>∃ j:Nat,n=j/\j<=k/\m=k-j/\(l.take j).any (λ p=>p.nm==x.nm)=false/\aC w G [],⟨k,0,rfl,by omega,by omega,rfl,hc⟩,?_⟩;rintro G m3 n2 ⟨j,rfl,hj,Y,o,c3⟩ -
   by_cases P:(j:Int)<(k:Int)
   ·obtain⟨y,F⟩:=bx l j (by omega);have c4:aC w G.drew []:=c3.trans (aC.drew G []) (by simp);refine cT (by simpa using P) ⟨by omega,by omega,_,s c4 j y F,by omega,by omega,_,s c4 k x g,?_⟩
    by_cases u:y.nm=x.nm
    ·have A:=eZ (p:=λ q=>q.nm==x.nm) (show(l.take k)[j]?=some y by rw[gV,ak (by omega)]; exact F) (by simpa using u);exact cT (by rw[u]; simp) (bq (by decide) (bad λ t=>by have:=t.2; rw[A] at this; cases this) c4 (L (by decide) (by rw[E0,hn,A]; rfl)))
    ·exact cF (by rw[fG,fG]; simpa using u) ⟨k-(j+1),by omega,j+1,by rw[cA (by omega)]; rfl,by omega,rfl,dY o F (by simpa using u),c4⟩
   ·obtain rfl:j=k:=by omega
    obtain⟨_,q',d,r⟩:=(h.av c3) j x g;rw[E] at d; cases d;refine cF (by simp) ⟨by omega,by omega,Ex4 ⟨_,r,bg ?_⟩⟩;refine((St.start' c3).one.fu _ 134).az 0 rfl x.cells rfl x.one λ S J=>?_;generalize hr1:G.heap.size=r1 at J ⊢;have z:∀ (j:Nat) (v:Value),x.cells[j]?=some v->S.cell? ⟨r1,j,none⟩=some v:=λ j v hv=>by rw[J.ag 0 rfl]; simpa using hv
    refine⟨λ b T=>T=S/\b = !Bn x,?_,?_⟩
    ·rintro T b ⟨rfl,rfl⟩ -
     cases hr:Bn x with
     | false=>exact cT rfl (bq (by decide) (bad λ t=>by have:=t.1; simp[tQ,hr] at this) J.av (L (by decide) (by rw[E0,hn,o,hr]; rfl)))
     | true =>
      refine cF rfl ⟨l.length-(j+1),by omega,j+1,by rw[cA (by omega)]; rfl,by omega,rfl,λ i p hi hp=>?_,J.av⟩;rcases bw i j with R | R
      ·exact ha i p R hp
      ·obtain rfl:i=j:=by omega
       rw[g] at hp; cases hp;exact⟨by simp[tQ,hn,hr],o⟩
    ·have no:(¬ (1<=x.sup/\x.sup<=4/\0<=x.res/\x.res<=1000000/\0<=x.pts/\x.pts<=1000/\0<=x.vM/\x.vM<=4))->true = !Bn x:=λ O=>by
      cases hr:Bn x with
      | false=>rfl
      | true =>
       exfalso; apply O
       simp only[Bn,aX,bN] at hr;omega
     refine⟨_,z 1 _ rfl,?_⟩
     by_cases g1:x.sup<1
     ·exact aP g1 ⟨rfl,no (by omega)⟩
     refine aU g1 ⟨_,z 1 _ rfl,?_⟩
     by_cases g2:x.sup>4
     ·exact aP g2 ⟨rfl,no (by omega)⟩
     refine aU g2 ⟨_,z 2 _ rfl,?_⟩
     by_cases g3:x.res<0
     ·exact aP g3 ⟨rfl,no (by omega)⟩
     refine aU g3 ⟨_,z 2 _ rfl,?_⟩
     by_cases g4:x.res>1000000
     ·exact aP g4 ⟨rfl,no (by omega)⟩
     refine aU g4 ⟨_,z 3 _ rfl,?_⟩
     by_cases g5:x.pts<0
     ·exact aP g5 ⟨rfl,no (by omega)⟩
     refine aU g5 ⟨_,z 3 _ rfl,?_⟩
     by_cases g6:x.pts>1000
     ·exact aP g6 ⟨rfl,no (by omega)⟩
     refine aU g6 ⟨_,z 4 _ rfl,?_⟩
     by_cases g7:x.vM<0
     ·exact aP g7 ⟨rfl,no (by omega)⟩
     refine aU g7 ⟨_,z 4 _ rfl,rfl,?_⟩
     by_cases g8:x.vM>4
     ·rw[dT g8]; exact no (by omega)
     ·rw[dF g8];have:Bn x=true:=by simp only[Bn,aX,bN]; omega
      rw[this]; rfl
 ·obtain rfl:k=l.length:=by omega
  have t:∀ i p,l[i]?=some p->pz l i p:=λ i p hp=>ha i p (aR.1 hp).1 hp;have E:∀ k,((l.take k).map Pr.sup).all iy=true:=λ k=>by
   rw[dS];intro x g;obtain⟨p,hp,rfl⟩:=bL.1 g;obtain⟨i,hi,rfl⟩:=qQ.1 (eX hp);have:=(t i _ (gE hi)).1;simp only[tQ,Bn,aX,bN] at this;simp only[iy,aX,bN];omega
  refine cF (by simp) ⟨λ p n U m=>∃ k:Nat,n=k/\k<=l.length/\m=l.length-k/\p=pr ((l.take k).map Pr.sup)/\U=K,⟨l.length,0,rfl,by omega,by omega,rfl,rfl⟩,?_⟩;rintro U m5 p n ⟨k,rfl,V,Z,rfl,rfl⟩ -;have I:1<=pr ((l.take k).map Pr.sup)/\pr ((l.take k).map Pr.sup)<=15625:=by
   obtain⟨h2,h3⟩:=oY (E k);refine⟨h2,cM h3 ?_⟩;have h4:((l.take k).map Pr.sup).length=k:=by simp; omega
   rw[h4];have Q:k<=6:=by omega
   match k,Q with
   | 0,_|1,_|2,_|3,_|4,_|5,_|6,_=>decide
  by_cases B:(k:Int)<(l.length:Int)
  ·obtain⟨x,g⟩:=bx l k (by omega);obtain⟨_,q,d,D⟩:=(h.av hc) k x g;have hxs:0<=x.sup/\x.sup<=4:=by
    have:=(t k x g).1;simp only[tQ,Bn,aX,bN] at this;omega
   have X:pr ((l.take k).map Pr.sup)*(x.sup+1)<=15625*5:=cM (kQ (show x.sup+1<=5 by omega) (by omega)) (gR I.2 (by omega));have W:0<=pr ((l.take k).map Pr.sup)*(x.sup+1):=gS (by omega) (by omega);refine cT (by simpa using B) ?_;rw[d];refine⟨by omega,by omega,x.sup,D.2.1,l.length-(k+1),by omega,k+1,by rw[cA (by omega)]; rfl,by omega,rfl,?_,rfl⟩;rw[cW (n:=x.sup+1) ⟨by omega,by omega⟩,cA (by omega),aH g,bP,jm,yP,zl]
  ·obtain rfl:k=l.length:=by omega
   rw[br] at I ⊢;refine cF (by simp) ?_;have M:Bk l=if pr (BF l)<=1024 then 0 else 12:=by
    have:=fV (f:=E0 l) (n:=0) (l:=l) λ i p hp=>by rw[aL]; exact vZ (t i p hp)
    rw[Bk,ah C,ah (by omega),this,ah (by decide)]
   rw[zv H] at M
   by_cases hp:pr (l.map Pr.sup)<=1024
   ·exact aU (by omega) (kK ⟨by omega,H,t,hp⟩ hc (by rw[M,ak hp]))
   ·exact aP (by omega) (bq (by decide) (λ O=>hp O.lim) hc (by rw[M,ah hp]))
structure Br where
 nm:List UInt8
 cls:Int
 bud:Int
 pts:Int
def Br.cells(p:Br):List Value:=[sv p.nm,iv p.cls,iv p.bud,iv p.pts]
def Br.In(p:Br):Prop:=Go.Vc.In p.cls/\Go.Vc.In p.bud/\Go.Vc.In p.pts
def mj(w:af)(a:OA)(l:List Br):Prop:=∀ (i:Nat) (p:Br),l[i]?=some p->p.In/\∃ q,a=some q/\aA w (q.add (i*4)) 0 p.cells
def mj.av{w w':af}{a:OA}{l:List Br}(h:mj w a l)(hc:aC w w' []):mj w' a l:=λ i p hp =>
 let ⟨h1,q,hq,h2⟩:=h i p hp
 ⟨h1,q,hq,bB hc h2⟩
def mj.take{w:af}{a:OA}{l:List Br}(h:mj w a l)(n:Nat):mj w a (l.take n):=λ i p hp=>by
 rw[gV] at hp
 split at hp
 ·exact h i p hp
 ·cases hp
def Br.one(p:Br):∀ v∈p.cells,v.oneCell'=true:=by
 intro v a; simp[Br.cells] at a; rcases a with rfl|rfl|rfl|rfl<;>rfl
def WC{a:OA}{c:Nat}:(if c=0 then a else Option.map (λ x=>Addr.add x (0*4)) a)=a:=by
 split
 ·rfl
 ·cases a<;>simp[Addr.add]
def Te{w:af}{a:OA}{c:Nat}{l:List Br}(h:mj w a l)(o:l.length<=1000)(nm:List UInt8) :
  CP 264 #[.slice a l.length c,sv nm] w (λ r w'=>(∃ k:Int,r=.tuple #[iv k,.bool (l.any λ p=>p.nm==nm)])/\aC w w' []):=by
 refine Cy ?_;refine⟨λ n i m=>∃ k:Nat,n=k/\k<=l.length/\m=l.length-k/\(l.take k).any (λ p=>p.nm==nm)=false/\aC w i [],⟨l.length,0,rfl,by omega,by omega,rfl,aC.refl _ _⟩,?_⟩;rintro i m n ⟨k,rfl,j,hm,ha,hc⟩ -
 by_cases b:(k:Int)<(l.length:Int)
 ·obtain⟨x,f⟩:=bx l k (by omega);obtain⟨_,q,rfl,e⟩:=(h.av hc) k x f;refine cT (by simpa using b) ⟨by omega,by omega,_,_,_,_,e,bg ?_⟩;refine((St.start' hc).one.fu _ 82).az 0 rfl x.cells rfl x.one λ s g=>?_;refine⟨_,by rw[g.ag 0 rfl]; rfl,?_⟩
  by_cases d:x.nm=nm
  ·exact cT (by rw[d]; simp) ⟨⟨k,by rw[eZ f (by simpa using d)]⟩,g.av⟩
  ·exact cF (by rw[fG,fG]; simpa using d) ⟨l.length-(k+1),by omega,k+1,by rw[cA (by omega)]; rfl,by omega,rfl,dY ha f (by simpa using d),g.av⟩
 ·refine cF (by simpa using b) ⟨⟨0,?_⟩,hc⟩;rw[fN (by omega)] at ha;rw[ha]
def wR(x:Br):Bool:=(decide (0<=x.cls)&&decide (x.cls<=4))&&((decide (0<=x.bud)&&decide (x.bud<=1000000))&&(decide (0<=x.pts)&&decide (x.pts<=24000)))
def sP(l:List Br)(i:Nat)(p:Br):Prop:=(cY p.nm&&wR p)=true/\((l.take i).any λ q=>q.nm==p.nm)=false
structure zz (l:List Br):Prop where
 l1:1<=l.length
 l2:l.length<=8
 good:∀ i p,l[i]?=some p->sP l i p
def jF{x:Br}(a : ¬ (0<=x.cls/\x.cls<=4/\0<=x.bud/\x.bud<=1000000/\0<=x.pts/\x.pts<=24000)):true = !wR x:=by
 cases hr:wR x with
 | false=>rfl
 | true =>
  exfalso; apply a
  simp only[wR,aX,bN] at hr;omega
def JT(l:List Br)(i:Nat)(p:Br):Int:=if cY p.nm=false then 5 else if ((l.take i).any λ q=>q.nm==p.nm) then 7 else if wR p=false then 4 else 0
def vr{l:List Br}{i:Nat}{p:Br}(h:sP l i p):JT l i p=0:=by
 obtain⟨h1,h2⟩:=h;rw[aX] at h1;rw[JT,h1.1,h2,h1.2]; rfl
def BS(l:List Br):Int:=if l.length=0 then 1 else if 8<l.length then 3 else ke (JT l) 0 l
def Mz{w:af}{a:OA}{c:Nat}{l:List Br}(h:mj w a l)(E:l.length<=c) :
  CP 206 #[.slice a l.length c] w ((yb (zz l) (BS l) w)):=by
 refine(p6 (p6 uB)).1 ?_
 by_cases g:l.length=0
 ·exact cT (by rw[g]; rfl) (bq (by decide) (λ hp=>by have:=hp.l1; omega) (aC.refl _ _) (by rw[BS,ak g]))
 refine cF (by simpa using g) ?_;rcases bw 8 l.length with y|y
 ·exact aP (by omega) (bq (by decide) (λ hp=>by have:=hp.l2; omega) (aC.refl _ _) (by rw[BS,ah g,ak y]))
 refine aU (by omega) ⟨λ n B m=>∃ k:Nat,n=k/\k<=l.length/\m=l.length-k/\(∀ i p,i<k->l[i]?=some p->sP l i p)/\aC w B [],⟨l.length,0,rfl,by omega,by omega,λ i p hi=>by omega,aC.refl _ _⟩,?_⟩;rintro B m n ⟨k,rfl,L,hm,ha,hc⟩ -
 by_cases A:(k:Int)<(l.length:Int)
 ·obtain⟨x,s⟩:=bx l k (by omega);obtain⟨_,q,G,z⟩:=(h.av hc) k x s;have bad : ¬ sP l k x->¬ zz l:=λ K hp=>K (hp.good k x s);have u:∀ {e:Int},e≠0->JT l k x=e->BS l=e:=λ he h=>by
   have:=jc (f:=JT l) (n:=0) (λ i p hi hp=>by rw[aL]; exact vr (ha i p hi hp)) s (by rw[aL,h]; exact he);rw[aL,h] at this;rw[BS,ah g,ah (by omega),this]
  refine cT (by simpa using A) ?_;rw[G];refine⟨by omega,by omega,_,_,_,_,z,bg ?_⟩;refine((St.start' hc).one.fu _ 82).az 0 rfl x.cells rfl x.one λ H o=>?_;generalize M:B.heap.size=r1 at o ⊢;have d:∀ {w':af},aC H w' []->∀ (j:Nat) (v:Value),x.cells[j]?=some v->w'.cell? ⟨r1,j,none⟩=some v:=λ hc j v N=>dI (by rw[o.ag 0 rfl]; simpa using N) hc;refine⟨_,d (aC.refl _ _) 0 _ rfl,au (Af H x.nm) ?_⟩;rintro v t ⟨rfl,rfl⟩;refine⟨_,rfl,?_⟩
  cases hn:cY x.nm with
  | false=>exact cT rfl (bq (by decide) (bad λ r=>by have:=r.1; simp[hn] at this) o.av (u (by decide) (by rw[JT,hn]; rfl)))
  | true =>
   have d4:aC t t.drew []:=aC.drew t [];refine cF rfl ⟨by omega,by omega,_,d d4 0 _ rfl,?_⟩;rw[<- G,WC];have F:=Te (c:=c-0) ((h.av (o.av.trans d4 (by simp))).take k) (by rw[di]; omega) x.nm;rw[di,wM L] at F;refine au F ?_;rintro v I ⟨⟨kk,rfl⟩,c5⟩;have d5:aC t I []:=d4.trans c5 (by simp);refine⟨_,_,rfl,?_⟩
   cases hany:((l.take k).any λ p=>p.nm==x.nm) with
   | true=>exact cT rfl (bq (by decide) (bad λ r=>by have:=r.2; rw[hany] at this; cases this) (o.av.trans d5 (by simp)) (u (by decide) (by rw[JT,hn,hany]; rfl)))
   | false =>
    refine cF rfl ⟨λ b J=>J=I/\b = !wR x,?_,?_⟩
    ·rintro J b ⟨rfl,rfl⟩ -;have C:=o.av.trans d5 (by simp)
     cases hr:wR x with
     | false=>exact cT rfl (bq (by decide) (bad λ r=>by have:=r.1; simp[hr] at this) C (u (by decide) (by rw[JT,hn,hany,hr]; rfl)))
     | true =>
      refine cF rfl ⟨l.length-(k+1),by omega,k+1,by rw[cA (by omega)]; rfl,by omega,rfl,λ i p hi hp=>?_,C⟩;rcases bw i k with D | D
      ·exact ha i p D hp
      ·obtain rfl:i=k:=by omega
       rw[s] at hp; cases hp;exact⟨by simp[hn,hr],hany⟩
    ·refine⟨_,d d5 1 _ rfl,?_⟩
     by_cases g1:x.cls<0
     ·exact aP g1 ⟨rfl,jF (by omega)⟩
     refine aU g1 ⟨_,d d5 1 _ rfl,?_⟩
     by_cases g2:x.cls>4
     ·exact aP g2 ⟨rfl,jF (by omega)⟩
     refine aU g2 ⟨_,d d5 2 _ rfl,?_⟩
     by_cases g3:x.bud<0
     ·exact aP g3 ⟨rfl,jF (by omega)⟩
     refine aU g3 ⟨_,d d5 2 _ rfl,?_⟩
     by_cases g4:x.bud>1000000
     ·exact aP g4 ⟨rfl,jF (by omega)⟩
     refine aU g4 ⟨_,d d5 3 _ rfl,?_⟩
     by_cases g5:x.pts<0
     ·exact aP g5 ⟨rfl,jF (by omega)⟩
     refine aU g5 ⟨_,d d5 3 _ rfl,rfl,?_⟩
     by_cases g6:x.pts>24000
     ·rw[dT g6]; exact jF (by omega)
     ·rw[dF g6];have:wR x=true:=by simp only[wR,aX,bN]; omega
      rw[this]; rfl
 ·obtain rfl:k=l.length:=by omega
  exact cF (by simp) (kK ⟨by omega,y,λ i p hp=>ha i p (aR.1 hp).1 hp⟩ hc (by rw[BS,ah g,ah (by omega),fV λ i p hp=>by rw[aL]; exact vr (ha i p (aR.1 hp).1 hp)]))
def Mn{w:af}{a:OA}{c:Nat}{l:List Br}(h:mj w a l)(B:l.length<=1000){k:Nat}{x:Br}(t:l[k]?=some x) :
  CP 240 #[.slice a l.length c,sv x.nm] w (λ r w'=>(∃ j:Nat,r=.tuple #[iv j,.bool true]/\(j=k<->((l.take k).any λ p=>p.nm==x.nm)=false))/\w'=w):=by
 have z:=(aR.1 t).1;refine(p6 BA).2.2.1 ?_;refine⟨λ n u m=>∃ i:Nat,n=i/\i<=k/\m=l.length-i/\(l.take i).any (λ p=>p.nm==x.nm)=false/\u=w,⟨l.length,0,rfl,by omega,by omega,rfl,rfl⟩,?_⟩;rintro u m n ⟨i,rfl,hi,hm,ha,rfl⟩ -;have g:(i:Int)<(l.length:Int):=by omega
 obtain⟨y,d⟩:=bx l i (by omega);obtain⟨_,q,A,f⟩:=h i y d;refine cT (by simpa using g) ?_;rw[A];refine⟨by omega,by omega,bs y.nm,by have:=f.1; rwa [Addr.add_add] at this,?_⟩
 by_cases b:y.nm=x.nm
 ·refine cT (by rw[b]; simp) ⟨⟨i,rfl,?_,?_⟩,rfl⟩
  ·rintro rfl; exact ha
  ·intro s;rcases bw i k with o | o
   ·have h2:(l.take k)[i]?=some y:=by rw[gV,ak o]; exact d
    rw[eZ (p:=λ q=>q.nm==x.nm) h2 (by simpa using b)] at s
    cases s
   ·omega
 ·have v:i≠k:=λ e=>by subst e; rw[t] at d; cases d; exact b rfl
  exact cF (by show((bs y.nm).toList==(bs x.nm).toList)=false; rw[fG,fG]; simpa using b) ⟨l.length-(i+1),by omega,i+1,by rw[cA (by omega)]; rfl,by omega,rfl,dY ha d (by simpa using b),rfl⟩
def GD{w:af}{a:OA}{c:Nat}{l:List Br}(h:mj w a l) :
  CP 178 #[.slice a l.length c] w ((yb (zz l) (BS l) w)):=by
 refine(p6 BA).2.2.2.1 ?_
 by_cases s:l.length=0
 ·exact cT (by rw[s]; rfl) (bq (by decide) (λ hp=>by have:=hp.l1; omega) (aC.refl _ _) (by rw[BS,ak s]))
 refine cF (by simpa using s) ?_;rcases bw 8 l.length with B|B
 ·exact aP (by omega) (bq (by decide) (λ hp=>by have:=hp.l2; omega) (aC.refl _ _) (by rw[BS,ah s,ak B]))
 refine aU (by omega) ⟨λ n z m=>∃ k:Nat,n=k/\k<=l.length/\m=l.length-k/\(∀ i p,i<k->l[i]?=some p->sP l i p)/\aC w z [],⟨l.length,0,rfl,by omega,by omega,λ i p hi=>by omega,aC.refl _ _⟩,?_⟩;rintro z m n ⟨k,rfl,K,hm,ha,hc⟩ -
 by_cases E:(k:Int)<(l.length:Int)
 ·obtain⟨x,y⟩:=bx l k (by omega);obtain⟨_,q,F,g⟩:=(h.av hc) k x y;have bad : ¬ sP l k x->¬ zz l:=λ I hp=>I (hp.good k x y);have A:∀ {e:Int},e≠0->JT l k x=e->BS l=e:=λ he h=>by
   have:=jc (f:=JT l) (n:=0) (λ i p hi hp=>by rw[aL]; exact vr (ha i p hi hp)) y (by rw[aL,h]; exact he);rw[aL,h] at this;rw[BS,ah s,ah (by omega),this]
  have t:∀ {w':af},aC z w' []->w'.cell? (q.add (k*4))=some (sv x.nm):=λ C=>by
   have:=(bB C g).1
   rwa [Addr.add_add] at this
  refine cT (by simpa using E) ?_;rw[F];refine⟨by omega,by omega,bs x.nm,t (aC.refl _ _),au (Ik z x.nm) ?_⟩;rintro v L ⟨rfl,c2⟩;have d:=hc.trans c2 (by simp);refine⟨_,rfl,?_⟩
  cases hn:cY x.nm with
  | false=>exact cT rfl (bq (by decide) (bad λ u=>by have:=u.1; simp[hn] at this) d (A (by decide) (by rw[JT,hn]; rfl)))
  | true =>
   refine cF rfl ⟨by omega,by omega,bs x.nm,t c2,?_⟩;rw[<- F];refine au (Mn (h.av d) (by omega) y) ?_;rintro v J ⟨⟨j,rfl,D⟩,rfl⟩;refine⟨_,_,rfl,?_⟩
   by_cases o:j=k
   ·have r:=D.1 o;have c1:=(bB c2 g).2.1;have c3:=(bB c2 g).2.2.1;have c5:=(bB c2 g).2.2.2.1;refine cF (by rw[o]; simp) ⟨λ b H=>H=J/\b = !wR x,?_,?_⟩
    ·rintro H b ⟨rfl,rfl⟩ -
     cases hr:wR x with
     | false=>exact cT rfl (bq (by decide) (bad λ u=>by have:=u.1; simp[hr] at this) d (A (by decide) (by rw[JT,hn,r,hr]; rfl)))
     | true =>
      refine cF rfl ⟨l.length-(k+1),by omega,k+1,by rw[cA (by omega)]; rfl,by omega,rfl,λ i p hi hp=>?_,d⟩;rcases bw i k with G | G
      ·exact ha i p G hp
      ·obtain rfl:i=k:=by omega
       rw[y] at hp; cases hp;exact⟨by simp[hn,hr],r⟩
    ·rw[F];refine⟨by omega,by omega,_,c1,?_⟩
     by_cases g1:x.cls<0
     ·exact aP g1 ⟨rfl,jF (by omega)⟩
     refine aU g1 ⟨by omega,by omega,_,c1,?_⟩
     by_cases g2:x.cls>4
     ·exact aP g2 ⟨rfl,jF (by omega)⟩
     refine aU g2 ⟨by omega,by omega,_,c3,?_⟩
     by_cases g3:x.bud<0
     ·exact aP g3 ⟨rfl,jF (by omega)⟩
     refine aU g3 ⟨by omega,by omega,_,c3,?_⟩
     by_cases g4:x.bud>1000000
     ·exact aP g4 ⟨rfl,jF (by omega)⟩
     refine aU g4 ⟨by omega,by omega,_,c5,?_⟩
     by_cases g5:x.pts<0
     ·exact aP g5 ⟨rfl,jF (by omega)⟩
     refine aU g5 ⟨by omega,by omega,_,c5,rfl,?_⟩
     by_cases g6:x.pts>24000
     ·rw[dT g6]; exact jF (by omega)
     ·rw[dF g6];have:wR x=true:=by simp only[wR,aX,bN]; omega
      rw[this]; rfl
   ·refine cT (by simp; omega) (bq (by decide) (bad λ u=>o (D.2 u.2)) d (A (by decide) (by rw[JT,hn,show((l.take k).any λ q=>q.nm==x.nm)=true from by cases h:((l.take k).any λ q=>q.nm==x.nm)<;>first|rfl|exact absurd (D.2 h) o]; rfl)))
 ·obtain rfl:k=l.length:=by omega
  exact cF (by simp) (kK ⟨by omega,B,λ i p hp=>ha i p (aR.1 hp).1 hp⟩ hc (by rw[BS,ah s,ah (by omega),fV λ i p hp=>by rw[aL]; exact vr (ha i p (aR.1 hp).1 hp)]))
structure T3 where
 a:Int
 b:Int
 c:Int
def T3.cells(p:T3):List Value:=[iv p.a,iv p.b,iv p.c]
def Bp(w:af)(a:OA)(l:List T3):Prop:=∀ (i:Nat) (p:T3),l[i]?=some p->∃ q,a=some q/\aA w (q.add (i*3)) 0 p.cells
def Bp.av{w w':af}{a:OA}{l:List T3}(h:Bp w a l)(hc:aC w w' []):Bp w' a l:=λ i p hp =>
 let ⟨q,hq,h2⟩:=h i p hp
 ⟨q,hq,bB hc h2⟩
def T3.one(p:T3):∀ v∈p.cells,v.oneCell'=true:=by
 intro v a; simp[T3.cells] at a; rcases a with rfl|rfl|rfl<;>rfl
def slice3{a:OA}{c:Nat}:(if c=0 then a else Option.map (λ x=>Addr.add x (0*3)) a)=a:=by
 split
 ·rfl
 ·cases a<;>simp[Addr.add]
def vu(n:Nat)(x:T3):Bool:=(decide (-1<=x.a)&&decide (x.a<(n:Int)))&&((decide (0<=x.b)&&decide (x.b<=4))&&(decide (0<=x.c)&&decide (x.c<=24)))
def gj(x y:T3):Bool:=y.a==x.a&&y.b==x.b
def BI(n:Nat)(l:List T3)(i:Nat)(p:T3):Prop:=vu n p=true/\((l.take i).any λ q=>gj p q)=false
structure zA (n:Nat) (l:List T3):Prop where
 l1:l.length<=16
 good:∀ i p,l[i]?=some p->BI n l i p
def HT(n:Nat)(l:List T3)(i:Nat)(x:T3):Int:=if (decide (-1<=x.a)&&decide (x.a<(n:Int)))=false then 6 else if ((decide (0<=x.b)&&decide (x.b<=4))&&(decide (0<=x.c)&&decide (x.c<=24)))=false then 4 else if ((l.take i).any λ q=>gj x q) then 7 else 0
def vv{n:Nat}{l:List T3}{i:Nat}{p:T3}(h:BI n l i p):HT n l i p=0:=by
 obtain⟨h1,h2⟩:=h;unfold vu at h1;rw[aX] at h1;rw[HT,h1.1,h1.2,h2]; rfl
def Ht(n:Nat)(l:List T3):Int:=if 16<l.length then 3 else ke (HT n l) 0 l
def Ro{w:af}{a1 a2 a3 a4:OA}{l1 c1 l2 c2 c3 l4 c4:Nat}{l:List T3}(h:Bp w a3 l)(X:l.length<=c3) :
  CP 207 #[.agg #[.slice a1 l1 c1,.slice a2 l2 c2,.slice a3 l.length c3,.slice a4 l4 c4]] w ((yb (zA l2 l) (Ht l2 l) w)):=by
 refine(p6 (p6 uB)).2.1 ?_;refine bg ?_;have s1:=(St.start w).one.fu #[.slice a1 l1 c1,.slice a2 l2 c2,.slice a3 l.length c3,.slice a4 l4 c4] 73;generalize hw1:w.alloc _=D at s1 ⊢;generalize hr1:w.heap.size=r1 at s1 ⊢;have G:∀ {w':af},aC D w' []->∀ (j:Nat) (v:Value),(#[.slice a1 l1 c1,.slice a2 l2 c2,.slice a3 l.length c3,.slice a4 l4 c4]:Array Value)[j]?=some v->w'.cell? ⟨r1,j,none⟩=some v:=λ hc j v B=>dI (by rw[s1.ag 0 rfl]; exact B) hc;have U:aC D D []:=aC.refl _ _;refine⟨_,_,_,G U 2 _ rfl,?_⟩;rcases bw 16 l.length with L|L
 ·exact aP (by omega) (bq (by decide) (λ hp=>by have:=hp.l1; omega) s1.av (by rw[Ht,ak L]))
 refine aU (by omega) ⟨_,_,_,G U 2 _ rfl,λ n F m=>∃ k:Nat,n=k/\k<=l.length/\m=l.length-k/\(∀ i p,i<k->l[i]?=some p->BI l2 l i p)/\aC D F [],⟨l.length,0,rfl,by omega,by omega,λ i p hi=>by omega,U⟩,?_⟩;rintro F m n ⟨k,rfl,hk,hm,ha,hc⟩ -;have t:aC w F []:=s1.av.trans hc (by simp)
 by_cases N:(k:Int)<(l.length:Int)
 ·obtain⟨x,I⟩:=bx l k (by omega);obtain⟨q,O,M⟩:=(h.av t) k x I;have bad : ¬ BI l2 l k x->¬ zA l2 l:=λ Z hp=>Z (hp.good k x I);have J:∀ {e:Int},e≠0->HT l2 l k x=e->Ht l2 l=e:=λ he h=>by
   have:=jc (f:=HT l2 l) (n:=0) (λ i p hi hp=>by rw[aL]; exact vv (ha i p hi hp)) I (by rw[aL,h]; exact he);rw[aL,h] at this;rw[Ht,ah (by omega),this]
  refine cT (by simpa using N) ?_;rw[O];refine⟨by omega,by omega,_,_,_,M,bg ?_⟩;refine((St.start F).one.fu _ 138).az 0 rfl x.cells rfl x.one λ r Q=>?_;generalize hr2:F.heap.size=r2 at Q ⊢;have d4:aC D r []:=hc.trans Q.av (by simp);have d:aC w r []:=s1.av.trans d4 (by simp);have g:∀ {w':af},aC r w' []->∀ (j:Nat) (v:Value),x.cells[j]?=some v->w'.cell? ⟨r2,j,none⟩=some v:=λ hc j v B=>dI (by rw[Q.ag 0 rfl]; simpa using B) hc;have z4:aC r r []:=aC.refl _ _;refine⟨λ b R=>R=r/\b = !(decide (-1<=x.a)&&decide (x.a<(l2:Int))),?_,?_⟩
  ·rintro R b ⟨rfl,rfl⟩ -
   cases g0:(decide (-1<=x.a)&&decide (x.a<(l2:Int))) with
   | false=>exact cT rfl (bq (by decide) (bad λ u=>by have:=u.1; unfold vu at this; rw[g0] at this; cases this) d (J (by decide) (by rw[HT,g0]; rfl)))
   | true =>
    refine cF rfl ⟨λ b S=>S=R/\b = !((decide (0<=x.b)&&decide (x.b<=4))&&(decide (0<=x.c)&&decide (x.c<=24))),?_,?_⟩
    ·rintro S b ⟨rfl,rfl⟩ -
     cases g1:((decide (0<=x.b)&&decide (x.b<=4))&&(decide (0<=x.c)&&decide (x.c<=24))) with
     | false=>exact cT rfl (bq (by decide) (bad λ u=>by have:=u.1; unfold vu at this; rw[g0,g1] at this; cases this) d (J (by decide) (by rw[HT,g0,g1]; rfl)))
     | true =>
      refine cF rfl ⟨_,_,_,G d4 2 _ rfl,by omega,by omega,λ n T m=>∃ j:Nat,n=j/\j<=k/\m=k-j/\(l.take j).any (λ p=>gj x p)=false/\aC S T [],⟨k,0,rfl,by omega,by omega,rfl,z4⟩,?_⟩;rintro T m7 n7 ⟨j,rfl,hj,hm7,o,K⟩ -
      by_cases z:(j:Int)<(k:Int)
      ·obtain⟨y,P⟩:=bx l j (by omega);obtain⟨q',A,s⟩:=(h.av (d.trans K (by simp))) j y P;rw[O] at A; cases A;refine cT (by simpa using z) ?_;rw[slice3,O];refine⟨by omega,by simpa using z,_,_,_,s,bg ?_⟩;refine((St.start' K).one.fu _ 138).az 0 rfl y.cells rfl y.one λ Y C=>?_;have V:∀ (j:Nat) (v:Value),y.cells[j]?=some v->Y.cell? ⟨T.heap.size,j,none⟩=some v:=λ j v B=>by rw[C.ag 0 rfl]; simpa using B
       refine⟨λ b E=>E=Y/\b=gj x y,?_,_,V 0 _ rfl,_,g C.av 0 _ rfl,?_⟩
       ·rintro E b ⟨rfl,rfl⟩ -
        cases hs:gj x y with
        | true =>
         have h2:(l.take k)[j]?=some y:=by rw[gV,ak (by omega)]; exact P
         have h3:=eZ (p:=λ q=>gj x q) h2 hs;refine cT rfl (bq (by decide) (bad λ u=>?_) (d.trans C.av (by simp)) (J (by decide) (by rw[HT,g0,g1,h3]; rfl)));have h1:=u.2;rw[h3] at h1
         cases h1
        | false=>exact cF rfl ⟨k-(j+1),by omega,j+1,by rw[cA (by omega)]; rfl,by omega,rfl,dY o P hs,C.av⟩
       ·by_cases H:y.a=x.a
        ·refine cT (by simpa using H) ⟨_,V 1 _ rfl,_,g C.av 1 _ rfl,rfl,?_⟩;simp[gj,H]
        ·exact cF (by simpa using H) ⟨rfl,by simp[gj,H]⟩
      ·obtain rfl:j=k:=by omega
       refine cF (by simp) ⟨l.length-(j+1),by omega,j+1,by rw[cA (by omega)]; rfl,by omega,rfl,λ i p hi hp=>?_,d4.trans K (by simp)⟩;rcases bw i j with W | W
       ·exact ha i p W hp
       ·obtain rfl:i=j:=by omega
        rw[I] at hp; cases hp;exact⟨by unfold vu; rw[g0,g1]; rfl,o⟩
    ·have no : ¬ (0<=x.b/\x.b<=4/\0<=x.c/\x.c<=24)->true = !((decide (0<=x.b)&&decide (x.b<=4))&&(decide (0<=x.c)&&decide (x.c<=24))):=λ hh=>by
      cases hr:((decide (0<=x.b)&&decide (x.b<=4))&&(decide (0<=x.c)&&decide (x.c<=24))) with
      | false=>rfl
      | true =>
       exfalso; apply hh
       simp only[aX,bN] at hr;omega
     refine⟨_,g z4 1 _ rfl,?_⟩
     by_cases g1:x.b<0
     ·exact aP g1 ⟨rfl,no (by omega)⟩
     refine aU g1 ⟨_,g z4 1 _ rfl,?_⟩
     by_cases g2:x.b>4
     ·exact aP g2 ⟨rfl,no (by omega)⟩
     refine aU g2 ⟨_,g z4 2 _ rfl,?_⟩
     by_cases g3:x.c<0
     ·exact aP g3 ⟨rfl,no (by omega)⟩
     refine aU g3 ⟨_,g z4 2 _ rfl,rfl,?_⟩
     by_cases g4:x.c>24
     ·rw[dT g4]; exact no (by omega)
     ·rw[dF g4,dT (show 0<=x.b by omega),dT (show x.b<=4 by omega),dT (show 0<=x.c by omega),dT (show x.c<=24 by omega)];rfl
  ·refine⟨_,g z4 0 _ rfl,?_⟩
   by_cases g1:x.a < -1
   ·exact aP g1 ⟨rfl,by rw[dF (show ¬ -1<=x.a by omega)]; rfl⟩
   ·refine aU g1 ⟨_,g z4 0 _ rfl,_,_,_,G d4 1 _ rfl,rfl,?_⟩;rw[dT (show -1<=x.a by omega),bt]
    by_cases g2:x.a<(l2:Int)
    ·rw[dT g2,dF (by omega)]; rfl
    ·rw[dF g2,dT (by omega)]; rfl
 ·obtain rfl:k=l.length:=by omega
  exact cF (by simp) (kK ⟨L,λ i p hp=>ha i p (aR.1 hp).1 hp⟩ t (by rw[Ht,ah (by omega),fV λ i p hp=>by rw[aL]; exact vv (ha i p (aR.1 hp).1 hp)]))
def zQ(ps:List Pr)(x:T3):Bool:=(decide (0<=x.a)&&decide (x.a<(ps.length:Int)))&&((decide (1<=x.b)&&decide (x.b<=4))&&(decide (1<=x.c)&&decide (x.c<=((ps[x.a.toNat]?.map Pr.sup).getD 0))))
def sameAs(x y:T3):Bool:=y.a==x.a
def BG(ps:List Pr)(l:List T3)(i:Nat)(p:T3):Prop:=zQ ps p=true/\((l.take i).any λ q=>sameAs p q)=false
structure kW (ps:List Pr) (l:List T3):Prop where
 l1:l.length<=6
 good:∀ i p,l[i]?=some p->BG ps l i p
def KW(ps:List Pr)(l:List T3)(i:Nat)(x:T3):Int:=if (decide (0<=x.a)&&decide (x.a<(ps.length:Int)))=false then 6 else if ((decide (1<=x.b)&&decide (x.b<=4))&&(decide (1<=x.c)&&decide (x.c<=((ps[x.a.toNat]?.map Pr.sup).getD 0))))=false then 4 else if ((l.take i).any λ q=>sameAs x q) then 7 else 0
def wm{ps:List Pr}{l:List T3}{i:Nat}{p:T3}(h:BG ps l i p):KW ps l i p=0:=by
 obtain⟨h1,h2⟩:=h;unfold zQ at h1;rw[aX] at h1;rw[KW,h1.1,h1.2,h2]; rfl
def MQ(ps:List Pr)(l:List T3):Int:=if 6<l.length then 3 else ke (KW ps l) 0 l
def Lz{w:af}{a1 a2 a3 a4:OA}{c1 l2 c2 l3 c3 c4:Nat}{ps:List Pr}{l:List T3}(hP:fS w a1 ps)(h:Bp w a4 l)(X:l.length<=c4) :
  CP 208 #[.agg #[.slice a1 ps.length c1,.slice a2 l2 c2,.slice a3 l3 c3,.slice a4 l.length c4]] w ((yb (kW ps l) (MQ ps l) w)):=by
 refine(p6 (p6 uB)).2.2.1 ?_;refine bg ?_;have s1:=(St.start w).one.fu #[.slice a1 ps.length c1,.slice a2 l2 c2,.slice a3 l3 c3,.slice a4 l.length c4] 73;generalize hw1:w.alloc _=F at s1 ⊢;generalize hr1:w.heap.size=r1 at s1 ⊢;have t:∀ {w':af},aC F w' []->∀ (j:Nat) (v:Value),(#[.slice a1 ps.length c1,.slice a2 l2 c2,.slice a3 l3 c3,.slice a4 l.length c4]:Array Value)[j]?=some v->w'.cell? ⟨r1,j,none⟩=some v:=λ hc j v E=>dI (by rw[s1.ag 0 rfl]; exact E) hc;have V:aC F F []:=aC.refl _ _;refine⟨_,_,_,t V 3 _ rfl,?_⟩;rcases bw 6 l.length with M|M
 ·exact aP (by omega) (bq (by decide) (λ hp=>by have:=hp.l1; omega) s1.av (by rw[MQ,ak M]))
 refine aU (by omega) ⟨_,_,_,t V 3 _ rfl,λ n G m=>∃ k:Nat,n=k/\k<=l.length/\m=l.length-k/\(∀ i p,i<k->l[i]?=some p->BG ps l i p)/\aC F G [],⟨l.length,0,rfl,by omega,by omega,λ i p hi=>by omega,V⟩,?_⟩;rintro G m n ⟨k,rfl,hk,hm,ha,hc⟩ -;have z:aC w G []:=s1.av.trans hc (by simp)
 by_cases O:(k:Int)<(l.length:Int)
 ·obtain⟨x,I⟩:=bx l k (by omega);obtain⟨q,P,N⟩:=(h.av z) k x I;have bad : ¬ BG ps l k x->¬ kW ps l:=λ hb hp=>hb (hp.good k x I);have K:∀ {e:Int},e≠0->KW ps l k x=e->MQ ps l=e:=λ he h=>by
   have:=jc (f:=KW ps l) (n:=0) (λ i p hi hp=>by rw[aL]; exact wm (ha i p hi hp)) I (by rw[aL,h]; exact he);rw[aL,h] at this;rw[MQ,ah (by omega),this]
  refine cT (by simpa using O) ?_;rw[P];refine⟨by omega,by omega,_,_,_,N,bg ?_⟩;refine((St.start G).one.fu _ 141).az 0 rfl x.cells rfl x.one λ s T=>?_;generalize hr2:G.heap.size=r2 at T ⊢;have d4:aC F s []:=hc.trans T.av (by simp);have d:aC w s []:=s1.av.trans d4 (by simp);have g:∀ {w':af},aC s w' []->∀ (j:Nat) (v:Value),x.cells[j]?=some v->w'.cell? ⟨r2,j,none⟩=some v:=λ hc j v E=>dI (by rw[T.ag 0 rfl]; simpa using E) hc;have z4:aC s s []:=aC.refl _ _;refine⟨λ b r=>r=s/\b = !(decide (0<=x.a)&&decide (x.a<(ps.length:Int))),?_,?_⟩
  ·rintro r b ⟨rfl,rfl⟩ -
   cases g0:(decide (0<=x.a)&&decide (x.a<(ps.length:Int))) with
   | false=>exact cT rfl (bq (by decide) (bad λ A=>by have:=A.1; unfold zQ at this; rw[g0] at this; cases this) d (K (by decide) (by rw[KW,g0]; rfl)))
   | true =>
    have d45:aC r r.drew []:=aC.drew r [];refine cF rfl ⟨λ b Y=>Y=r.drew/\b = !((decide (1<=x.b)&&decide (x.b<=4))&&(decide (1<=x.c)&&decide (x.c<=((ps[x.a.toNat]?.map Pr.sup).getD 0)))),?_,?_⟩
    ·rintro Y b ⟨rfl,rfl⟩ -
     cases g1:((decide (1<=x.b)&&decide (x.b<=4))&&(decide (1<=x.c)&&decide (x.c<=((ps[x.a.toNat]?.map Pr.sup).getD 0)))) with
     | false=>exact cT rfl (bq (by decide) (bad λ A=>by have:=A.1; unfold zQ at this; rw[g0,g1] at this; cases this) (d.trans d45 (by simp)) (K (by decide) (by rw[KW,g0,g1]; rfl)))
     | true =>
      refine cF rfl ⟨_,_,_,t (d4.trans d45 (by simp)) 3 _ rfl,by omega,by omega,λ n U m=>∃ j:Nat,n=j/\j<=k/\m=k-j/\(l.take j).any (λ p=>sameAs x p)=false/\aC r U [],⟨k,0,rfl,by omega,by omega,rfl,d45⟩,?_⟩;rintro U m7 n7 ⟨j,rfl,hj,hm7,o,L⟩ -
      by_cases B:(j:Int)<(k:Int)
      ·obtain⟨y,R⟩:=bx l j (by omega);obtain⟨q',D,u⟩:=(h.av (d.trans L (by simp))) j y R;rw[P] at D; cases D;refine cT (by simpa using B) ?_;rw[slice3,P];refine⟨by omega,by simpa using B,_,_,_,u,bg ?_⟩;refine((St.start' L).one.fu _ 141).az 0 rfl y.cells rfl y.one λ w9 J=>?_;have Z:∀ (j:Nat) (v:Value),y.cells[j]?=some v->w9.cell? ⟨U.heap.size,j,none⟩=some v:=λ j v E=>by rw[J.ag 0 rfl]; simpa using E
       refine⟨_,Z 0 _ rfl,_,g J.av 0 _ rfl,?_⟩
       by_cases H:y.a=x.a
       ·have h2:(l.take k)[j]?=some y:=by rw[gV,ak (by omega)]; exact R
        have h3:=eZ (p:=λ q=>sameAs x q) h2 (by simpa[sameAs] using H);refine cT (by simpa using H) (bq (by decide) (bad λ A=>?_) (d.trans J.av (by simp)) (K (by decide) (by rw[KW,g0,g1,h3]; rfl)));have h1:=A.2;rw[h3] at h1
        cases h1
       ·exact cF (by simpa using H) ⟨k-(j+1),by omega,j+1,by rw[cA (by omega)]; rfl,by omega,rfl,dY o R (by simpa[sameAs] using H),J.av⟩
      ·obtain rfl:j=k:=by omega
       refine cF (by simp) ⟨l.length-(j+1),by omega,j+1,by rw[cA (by omega)]; rfl,by omega,rfl,λ i p hi hp=>?_,d4.trans L (by simp)⟩;rcases bw i j with W | W
       ·exact ha i p W hp
       ·obtain rfl:i=j:=by omega
        rw[I] at hp; cases hp;exact⟨by unfold zQ; rw[g0,g1]; rfl,o⟩
    ·simp only[aX,bN] at g0;obtain⟨y,C⟩:=bx ps x.a.toNat (by omega);rw[C,nL,nH];have no : ¬ (1<=x.b/\x.b<=4/\1<=x.c/\x.c<=y.sup)->true = !((decide (1<=x.b)&&decide (x.b<=4))&&(decide (1<=x.c)&&decide (x.c<=y.sup))):=λ hh=>by
      cases hr:((decide (1<=x.b)&&decide (x.b<=4))&&(decide (1<=x.c)&&decide (x.c<=y.sup))) with
      | false=>rfl
      | true =>
       exfalso; apply hh
       simp only[aX,bN] at hr;omega
     refine⟨_,g d45 1 _ rfl,?_⟩
     by_cases g1:x.b<1
     ·exact aP g1 ⟨rfl,no (by omega)⟩
     refine aU g1 ⟨_,g d45 1 _ rfl,?_⟩
     by_cases g2:x.b>4
     ·exact aP g2 ⟨rfl,no (by omega)⟩
     refine aU g2 ⟨_,g d45 2 _ rfl,?_⟩
     by_cases g3:x.c<1
     ·exact aP g3 ⟨rfl,no (by omega)⟩
     obtain⟨_,qp,Q,S⟩:=(hP.av (d.trans d45 (by simp))) x.a.toNat y C;refine aU g3 ⟨_,g d45 2 _ rfl,_,_,_,t (d4.trans d45 (by simp)) 0 _ rfl,_,g d45 0 _ rfl,?_⟩;rw[Q];refine⟨by omega,by omega,y.sup,S.2.1,rfl,?_⟩
     by_cases g4:x.c>y.sup
     ·rw[dT g4]; exact no (by omega)
     ·rw[dF g4,dT (show 1<=x.b by omega),dT (show x.b<=4 by omega),dT (show 1<=x.c by omega),dT (show x.c<=y.sup by omega)];rfl
  ·refine⟨_,g z4 0 _ rfl,?_⟩
   by_cases g1:x.a<0
   ·exact aP g1 ⟨rfl,by rw[dF (show ¬ 0<=x.a by omega)]; rfl⟩
   ·refine aU g1 ⟨_,g z4 0 _ rfl,_,_,_,t d4 0 _ rfl,rfl,?_⟩;rw[dT (show 0<=x.a by omega),bt]
    by_cases g2:x.a<(ps.length:Int)
    ·rw[dT g2,dF (by omega)]; rfl
    ·rw[dF g2,dT (by omega)]; rfl
 ·obtain rfl:k=l.length:=by omega
  exact cF (by simp) (kK ⟨M,λ i p hp=>ha i p (aR.1 hp).1 hp⟩ z (by rw[MQ,ah (by omega),fV λ i p hp=>by rw[aL]; exact wm (ha i p (aR.1 hp).1 hp)]))
structure Se where
 ps:List Pr
 bd:List Br
 cp:List T3
 sa:List T3
 a1:Option Addr
 c1:Nat
 a2:Option Addr
 c2:Nat
 a3:Option Addr
 c3:Nat
 a4:Option Addr
 c4:Nat
def Se.arr(s:Se):Array Value:=#[.slice s.a1 s.ps.length s.c1,.slice s.a2 s.bd.length s.c2,.slice s.a3 s.cp.length s.c3,.slice s.a4 s.sa.length s.c4]
structure Se.In (s:Se) (w:af):Prop where
 ps:fS w s.a1 s.ps
 bd:mj w s.a2 s.bd
 cp:Bp w s.a3 s.cp
 sa:Bp w s.a4 s.sa
 h1:s.ps.length<=s.c1
 h2:s.bd.length<=s.c2
 h3:s.cp.length<=s.c3
 h4:s.sa.length<=s.c4
def Se.In.av{s:Se}{w w':af}(h:s.In w)(hc:aC w w' []):s.In w':=⟨h.ps.av hc,h.bd.av hc,h.cp.av hc,h.sa.av hc,h.h1,h.h2,h.h3,h.h4⟩
structure Se.Ok (s:Se):Prop where
 ps:dH s.ps
 bd:zz s.bd
 cp:zA s.bd.length s.cp
 sa:kW s.ps s.sa
def tv(s:Se):Int:=if Bk s.ps≠0 then Bk s.ps else if BS s.bd≠0 then BS s.bd else if Ht s.bd.length s.cp≠0 then Ht s.bd.length s.cp else MQ s.ps s.sa
def CR{w:af}{s:Se}(h:s.In w):CP 157 #[.agg s.arr] w ((yb s.Ok (tv s) w)):=by
 refine Zs.1 ?_;refine bg ?_;have s1:=(St.start w).one.fu #[.slice s.a1 s.ps.length s.c1,.slice s.a2 s.bd.length s.c2,.slice s.a3 s.cp.length s.c3,.slice s.a4 s.sa.length s.c4] 73;generalize l:w.alloc _=n at s1 ⊢;generalize k:w.heap.size=r1 at s1 ⊢;refine⟨_,_,_,by rw[s1.ag 0 rfl]; rfl,au (BU (h.av s1.av).ps h.h1) ?_⟩;rintro v o ⟨⟨rfl,e⟩,d2⟩;have s2:=s1.quiet d2;refine⟨_,rfl,?_⟩
 by_cases g1:Bk s.ps=0
 ·refine cF (by simpa using g1) ⟨_,_,_,by rw[s2.ag 0 rfl]; rfl,au (Mz (h.av s2.av).bd h.h2) ?_⟩;rintro v p ⟨⟨rfl,f⟩,d3⟩;have c:=s2.quiet d3;refine⟨_,rfl,?_⟩
  by_cases g2:BS s.bd=0
  ·refine cF (by simpa using g2) (Ex8<|Ex4<|⟨c.cellsIn 0 rfl,au (Ro (h.av c.av).cp h.h3) ?_⟩);rintro v q ⟨⟨rfl,g⟩,d4⟩;have b:=c.quiet d4;refine⟨_,rfl,?_⟩
   by_cases g3:Ht s.bd.length s.cp=0
   ·refine cF (by simpa using g3) (Ex8<|Ex4<|⟨b.cellsIn 0 rfl,au (Lz (h.av b.av).ps (h.av b.av).sa h.h4) ?_⟩);rintro v r ⟨⟨rfl,i⟩,d5⟩;have m:=b.quiet d5;have d:tv s=MQ s.ps s.sa:=by rw[tv,ah (λ h=>h g1),ah (λ h=>h g2),ah (λ h=>h g3)]
    exact⟨_,rfl,⟨by rw[d],by rw[d]; exact⟨λ j=>⟨e.1 g1,f.1 g2,g.1 g3,i.1 j⟩,λ a=>i.2 a.sa⟩⟩,m.av⟩
   ·exact cT (by simpa using g3) (bq g3 (λ a=>g3 (g.2 a.cp)) b.av (by rw[tv,ah (λ h=>h g1),ah (λ h=>h g2),ak g3]))
  ·exact cT (by simpa using g2) (bq g2 (λ a=>g2 (f.2 a.bd)) c.av (by rw[tv,ah (λ h=>h g1),ak g2]))
 ·exact cT (by simpa using g1) (bq g1 (λ a=>g1 (e.2 a.ps)) s2.av (by rw[tv,ak g1]))
def G0{w:af}{s:Se}(h:s.In w):CP 157 #[.agg s.arr] w ((UH s.Ok w)):=au (CR h) λ _ _ h=>⟨_,rfl,h.old⟩
def nE(wt:Pr->Int)(l:List Pr)(u:I6):Nat->Int
 | 0=>0
 | k+1=>nE wt l u k+u.at' k*((l[k]?.map wt).getD 0)
def TG(wt:Pr->Int)(l:List Pr)(u:I6):Int:=nE wt l u l.length
theorem zq{wt:Pr->Int}{l:List Pr}{u:I6}(hu:I6.Le u 4)(hw:∀ p∈l,0<=wt p/\wt p<=1000000):∀ k,k<=6->0<=nE wt l u k/\nE wt l u k<=(k:Int)*4000000
 | 0,_=>by simp[nE]
 | k+1,a=>by
  have b:=zq hu hw k (by omega);have h1:=hu k (by omega);have h2:0<=(l[k]?.map wt).getD 0/\(l[k]?.map wt).getD 0<=1000000:=by
   cases hg:l[k]? with
   | none=>simp
   | some p=>exact hw p (bf hg)
  simp only[nE];generalize(l[k]?.map wt).getD 0=y at h2 ⊢;generalize u.at' k=x at h1 ⊢;have h3:0<=x*y:=gS h1.1 h2.1;have h4:x*y<=4*1000000:=cM (gR h1.2 h2.1) (kQ h2.2 (by omega));omega
def QH{w:af}{a:OA}{c:Nat}{l:List Pr}(h:fS w a l)(d:l.length<=c)(B:dH l){u:I6}(hu:I6.Le u 4){wt:Pr->Int}(hw:∀ p∈l,0<=wt p/\wt p<=1000000){v:Value}(J:∀ (w':af) (p:Pr) (R:Ending->af->Prop),aC w w' []->p∈l->(∀ f,aC w' f []->R (.returned (iv (wt p))) f)->lK prog v #[.agg p.cells.toArray] w' R) :
  CP 53 #[.agg ((.slice a l.length c) :: u.vs:List Value).toArray,v] w (λ r w'=>r=iv (TG wt l u)/\aC w w' []):=by
 refine(p6 ym).1 ?_;have P:=B.l2;refine aG ((.slice a l.length c) :: u.vs:List Value).toArray λ r1 S s1=>?_;refine⟨λ b C=>b=false/\St w C (Sep [aj r1 ((.slice a l.length c) :: u.vs:List Value).toArray 149,emp]),?_,_,_,_,s1.ag 0 rfl 0,au (zU (h.av s1.av) d) ?_⟩
 ·rintro C b ⟨rfl,s2⟩ -;refine cF rfl ⟨_,_,_,s2.ag 0 rfl 0,λ s n D m=>∃ k:Nat,n=k/\k<=l.length/\m=l.length-k/\s=nE wt l u k/\St w D (Sep [aj r1 ((.slice a l.length c) :: u.vs:List Value).toArray 149,emp]),⟨l.length,0,rfl,by omega,by omega,rfl,s2⟩,?_⟩;rintro D m s n ⟨k,rfl,Q,hm,rfl,A⟩ -
  by_cases y:(k:Int)<(l.length:Int)
  ·obtain⟨x,z⟩:=bx l k (by omega);have o:k<6:=by omega
   obtain⟨_,q,rfl,i⟩:=(h.av A.av) k x z;refine cT (by simpa using y) ?_;refine⟨by omega,by omega,Ex4 ⟨_,i,A.aB ({ nm:=[],sup:=0,res:=0,pts:=0,vM:=0 }:Pr).cells.toArray λ r2 T K=>K.az 0 rfl x.cells rfl x.one λ U L=>?_⟩⟩;have g:=L.quiet (aC.drew _ _);have cu:∀ {w':af} {ls:List aI},St w w' (Sep (aj r2 x.cells.toArray 134 :: aj r1 ((.slice (some q) l.length c) :: u.vs:List Value).toArray 149 :: ls))->w'.cell? (Addr.add ⟨r1,1,none⟩ (((k:Nat):Int).toNat*1))=some (iv (u.at' k)):=λ t=>by
    rw[bY,t.ag 1 rfl];have:=u.get k o;rw[aD,gG,vh];simpa using this
   refine⟨by omega,by omega,u.at' k,cu g,Ex4 ⟨_,g.cellsIn 0 rfl,?_⟩⟩;refine J _ x _ g.av (bf z) λ V E=>?_;have e:=g.quiet E;have N:=zq (l:=l) hu hw k (by omega);have O:=zq (l:=l) hu hw (k+1) (by omega);have G:nE wt l u (k+1)=nE wt l u k+u.at' k*wt x:=by simp only[nE,z,nL,nH]
   refine⟨_,rfl,cu e,l.length-(k+1),by omega,k+1,cA (by omega),by omega,rfl,?_,e.ay [1,2]⟩;rw[cW (n:=u.at' k*wt x) ⟨by omega,by omega⟩,cA (by omega),G]
  ·obtain rfl:k=l.length:=by omega
   exact cF (by simp) ⟨rfl,A.av⟩
 ·rintro v M ⟨⟨n,rfl,I⟩,F⟩;have e:=s1.quiet F;refine⟨_,rfl,cF (by rw[I.2 B]; rfl) ⟨u,?_,au (iq M u) ?_⟩⟩
  ·exact bM _ 0 λ j v H=>by
    rw[bY,aL,e.ag 0 rfl,vh];simpa using H
  ·rintro v W ⟨rfl,c8⟩;exact⟨_,rfl,by rw[leq hu]; rfl,e.quiet c8⟩
def wts{l:List Pr}(a:dH l):∀ p∈l,0<=p.pts/\p.pts<=1000000:=λ p hp=>by
 obtain⟨i,hi,rfl⟩:=qQ.1 hp;have:=(a.good i _ (gE hi)).1;simp only[tQ,Bn,aX,bN] at this;omega
def yw(l:List Pr)(u:I6):Int:=TG Pr.pts l u
def Lf(l:List Pr)(g:Int)(u:I6):Int:=TG (λ p=>if p.vM=g then 1 else 0) l u
def Gl{w:af}{a:OA}{c:Nat}{l:List Pr}(h:fS w a l)(d:l.length<=c)(e:dH l){u:I6}(hu:I6.Le u 4) :
  CP 23 #[.slice a l.length c,.agg u.vs.toArray] w (λ r w'=>r=iv (yw l u)/\aC w w' []):=by
 refine(p6 ym).2.2.1 ?_;refine aG u.vs.toArray λ r1 g s1=>⟨_,s1.cellsIn 0 rfl,au (QH (wt:=Pr.pts) (h.av s1.av) d e hu (wts e) ?_) ?_⟩
 ·intro w' p R _ _ k;refine dZ (by kernel_rfl) (au (K:=λ r b=>r=iv p.pts/\aC w' b []) ((p6 ym).2.2.2.2.1 ?_) ?_)
  ·skip
   exact aG p.cells.toArray λ r2 f s2=>⟨_,s2.ag 0 rfl 3,rfl,s2.av⟩
  ·rintro r b ⟨rfl,hc⟩; exact k b hc
 ·rintro v f ⟨rfl,c2⟩;exact⟨_,rfl,rfl,(s1.quiet c2).av⟩
def TP{w:af}{a:OA}{c:Nat}{l:List Pr}(h:fS w a l)(d:l.length<=c)(f:dH l){u:I6}(hu:I6.Le u 4)(g:Int) :
  CP 269 #[.slice a l.length c,iv g,.agg u.vs.toArray] w (λ r w'=>r=iv (Lf l g u)/\aC w w' []):=by
 refine ym.2.2.2.2.2.1 ?_;refine aG #[iv g] λ m w0 i=>i.aB u.vs.toArray λ r1 n s1=>⟨_,s1.cellsIn 0 rfl,au (QH (wt:=λ p=>if p.vM=g then 1 else 0) (h.av s1.av) d f hu (λ p _=>by split<;>omega) ?_) ?_⟩
 ·intro w' p R hc _ k;refine dZ (by kernel_rfl) (au (K:=λ r b=>r=iv (if p.vM=g then 1 else 0)/\aC w' b []) ((p6 ym).2.1 ?_) ?_)
  ·skip
   refine aG p.cells.toArray λ r2 j s2=>⟨_,s2.ag 0 rfl 4,g,?_,?_⟩
   ·exact dI (s1.ag 1 rfl 0) (hc.trans s2.av (by simp))
   ·by_cases e:p.vM=g
    ·exact cT (by simpa using e) ⟨by rw[ak e],s2.av⟩
    ·exact cF (by simpa using e) ⟨by rw[ah e],s2.av⟩
  ·rintro r b ⟨rfl,hc⟩; exact k b hc
 ·rintro v j ⟨rfl,c2⟩;exact⟨_,rfl,rfl,(s1.quiet c2).av⟩
structure Ch where
 p:I6
 want:I6
def Ch.cells(c:Ch):List Value:=c.p.on c.want.vs
def Ch.v(c:Ch):Value:=.agg c.cells.toArray
def Ch.one(c:Ch):∀ v∈c.cells,v.oneCell'=true:=by
 intro v a;simp only[Ch.cells,I6.on,I6.vs,cJ,mb,mc] at a;rcases a with rfl|rfl|rfl|rfl|rfl|rfl|rfl|rfl|rfl|rfl|rfl|rfl<;>rfl
def Ch.len(c:Ch):c.cells.length=12:=rfl
abbrev nt:Ch:=⟨z6,z6⟩
structure Ch.Ok (c:Ch):Prop where
 p:I6.Le c.p 1000000
 w:I6.Le c.want 4
abbrev xH (w:af) (a:OA) (l:List Ch):Prop:=cP 12 Ch.cells w a l
def dV{w0 w:af}{l:List aI}{r:Nat}{c:Ch}{T:TypeId}(h:St w0 w (Sep l))(i:Nat)(e:l[i]?=some (aj r c.cells.toArray T)):aA w ⟨r,6,none⟩ 0 c.want.vs :=
 bM _ 0 λ j v a=>by
  have b:j<6:=(aR.1 a).1;rw[bY,aL,h.ag i e]
  match j,b,a with
  | 0,_,a|1,_,a|2,_,a|3,_,a|4,_,a|5,_,a=>simpa[Ch.cells,I6.on,I6.vs] using a
def uu{w0 w:af}{l:List aI}{r:Nat}{c:Ch}{T:TypeId}(h:St w0 w (Sep l))(i:Nat)(e:l[i]?=some (aj r c.cells.toArray T)):aA w ⟨r,0,none⟩ 0 c.p.vs :=
 bM _ 0 λ j v a=>by
  have b:j<6:=(aR.1 a).1;rw[bY,aL,aL,h.ag i e]
  match j,b,a with
  | 0,_,a|1,_,a|2,_,a|3,_,a|4,_,a|5,_,a=>simpa[Ch.cells,I6.on,I6.vs] using a
def mP(w:af){p u:I6}(hp:I6.Le p 1000000)(hu:I6.Le u 4):CP 211 #[.agg p.vs.toArray,.agg u.vs.toArray] w (λ r w'=>r=iv (cost p u)/\aC w w' []) :=
 U1 w p u 1000000 (by omega) (λ k a=>by have:=hp k a; omega) hu
def ja{p u:I6}(hp:I6.Le p 1000000)(hu:I6.Le u 4):0<=cost p u/\cost p u<=24000000:=by
 have H:∀ k,k<6->0<=p.at' k*u.at' k/\p.at' k*u.at' k<=4000000:=λ k a=>by
  have h1:=hp k a;have h2:=hu k a;exact⟨gS h1.1 h2.1,cM (gR h1.2 h2.1) (by omega)⟩
 have b:=H 0 (by decide); have h1:=H 1 (by decide); have h2:=H 2 (by decide); have h3:=H 3 (by decide); have h4:=H 4 (by decide); have c:=H 5 (by decide);simp only[I6.at'] at b h1 h2 h3 h4 c;unfold cost; omega
def Oo{w:af}{s:Se}(n:Int):CP 210 #[.agg s.arr,iv n] w (λ r w'=>r=.bool (decide (0<=n)&&decide (n<(s.bd.length:Int)))/\aC w w' []):=by
 refine(p6 rE).2.2.2.1 ?_;refine aG s.arr λ r1 a s1=>?_
 by_cases h:n>=0
 ·exact aP h ⟨_,_,_,s1.ag 0 rfl 1,by rw[dT (show 0<=n from h)]; rfl,s1.av⟩
 ·exact aU h ⟨by rw[dF (show ¬ 0<=n from h)]; rfl,s1.av⟩
def BR{w:af}{a:OA}{l:List Br}(h:mj w a l){k:Nat}{b:Br}(d:l[k]?=some b)(j:Nat)(v:Value)(c:b.cells[j]?=some v):∃ q,a=some q/\w.cell? (Addr.add (Addr.add q (k*4)) j)=some v:=by
 obtain⟨_,q,e,hc⟩:=h k b d;have:=aM hc j v c;exact⟨q,e,by rwa [aL] at this⟩
def tJ(b:Br)(c:Ch):Int:=if b.bud≠0/\b.bud<cost c.p c.want then 17 else 0
def cO(l:List Pr)(nm:List UInt8):Nat×Bool:=((l.findIdx? λ p=>p.nm==nm).getD 0,l.any λ p=>p.nm==nm)
theorem kY{α:Type}{p:α->Bool}:∀ {l:List α} {k:Nat} {x:α},l[k]?=some x->p x=true->(l.take k).any p=false->l.findIdx? p=some k
 | [],_,_,h,_,_=>by simp at h
 | y :: l,0,x,h,hp,_=>by
  simp at h; subst h;rw[JB,ak hp]
 | y :: l,k+1,x,h,hp,ha=>by
  rw[pF,Dh,oF] at ha;rw[JB,ah (by rw[ha.1]; decide),kY (by simpa using h) hp ha.2]; rfl
def mB{α:Type}{p:α->Bool}{l:List α}(ha:l.any p=false):l.findIdx? p=none:=by
 rw[JC];intro x a;simpa using(tY.1 ha) x a
def FD{l:List Pr}{nm:List UInt8}(h:(cO l nm).2=true):(cO l nm).1<l.length:=by
 unfold cO at h ⊢;simp only at h ⊢
 cases hf:l.findIdx? λ p=>p.nm==nm with
 | none =>
  rw[JC] at hf;obtain⟨x,a,hp⟩:=yN.1 h;have:=hf x a;rw[hp] at this; cases this
 | some k =>
  have:=List.of_findIdx?_eq_some hf;show k<l.length;rcases bw k l.length with h|h
  ·exact h
  ·rw[cr h] at this; exact absurd this (by simp)
def J8{w:af}{a:OA}{c:Nat}{l:List Pr}(h:fS w a l)(o:l.length<=100000)(nm:List UInt8) :
  CP 126 #[.slice a l.length c,sv nm] w (λ r w'=>r=.tuple #[iv (cO l nm).1,.bool (cO l nm).2]/\aC w w' []):=by
 refine Cx ?_;refine⟨λ n i m=>∃ k:Nat,n=k/\k<=l.length/\m=l.length-k/\(l.take k).any (λ p=>p.nm==nm)=false/\aC w i [],⟨l.length,0,rfl,by omega,by omega,rfl,aC.refl _ _⟩,?_⟩;rintro i m n ⟨k,rfl,j,hm,ha,hc⟩ -
 by_cases b:(k:Int)<(l.length:Int)
 ·obtain⟨x,e⟩:=bx l k (by omega);obtain⟨_,q,rfl,f⟩:=(h.av hc) k x e;refine cT (by simpa using b) ⟨by omega,by omega,Ex4 ⟨_,f,(St.start' hc).one.aB _ λ r1 s s2=>s2.az 0 rfl x.cells rfl x.one λ t g=>?_⟩⟩;refine⟨_,by rw[g.ag 0 rfl]; rfl,?_⟩
  by_cases d:x.nm=nm
  ·refine cT (by rw[d]; simp) ⟨?_,g.av⟩;have hp:(λ p:Pr=>p.nm==nm) x=true:=by simpa using d
   rw[cO,kY e hp ha,eZ e hp]; rfl
  ·exact cF (by rw[fG,fG]; simpa using d) ⟨l.length-(k+1),by omega,k+1,by rw[cA (by omega)]; rfl,by omega,rfl,dY ha e (by simpa using d),g.av⟩
 ·refine cF (by simpa using b) ⟨?_,hc⟩;rw[fN (by omega)] at ha;rw[cO,mB ha,ha]; rfl
abbrev Sc:=List Tk×Int
def Sc.acc(m:List UInt8)(σ:Sc):Sc:=(jX m σ.1 σ.2,σ.2)
def Sc.exp(m:List UInt8)(σ:Sc):Sc:=(jX m σ.1 σ.2,vB m σ.1 σ.2)
def Sc.fail(k:Int)(σ:Sc):Sc:=(σ.1,cK σ.2 k)
def Sc.kJ(m:Int)(σ:Sc):Sc:=(qV m σ.1 σ.2,nv m σ.1 σ.2)
def Sc.name(σ:Sc):Sc:=(lg σ.1 σ.2,nj σ.1 σ.2)
def Sc.next(σ:Sc):Sc:=(eL σ.1 σ.2,σ.2)
abbrev kR (w0 w:af) (b:Nat) (σ:Sc) (B:aI):Prop:=oh w0 w b σ.1 σ.2 B
def HZ(ps:List Pr)(b:I6)(nm:List UInt8)(σ:Sc):Sc:=if (cO ps nm).2 then (if b.at' (cO ps nm).1≠0 then σ.fail 7 else σ) else σ.fail 6
def y6(ps:List Pr)(b:I6)(nm:List UInt8)(σ:Sc):Sc:=(HZ ps b nm σ).exp [58]
def Bx(σ:Sc):Sc:=if gW 4 σ.1 σ.2=0 then (σ.kJ 4).fail 4 else σ.kJ 4
def eu(ps:List Pr)(b:I6)(σ:Sc):I6×Sc :=
 if σ.name.2≠0 then (b,σ.name)
 else (b.put (cO ps (fK σ.1 σ.2)).1 (gW 4 (y6 ps b (fK σ.1 σ.2) σ.name).1 (y6 ps b (fK σ.1 σ.2) σ.name).2),Bx (y6 ps b (fK σ.1 σ.2) σ.name))
def N3{w0 w:af}{p:Nat}{σ:Sc}{B:aI}{a:OA}{c:Nat}{l:List Pr}(h:kR w0 w p σ B)(K:∀ {w'},aC w0 w' []->fS w' a l)(U:l.length<=6)(T:1<=l.length)(b:I6) :
  CP 354 #[.slice a l.length c,pt p,.agg b.vs.toArray] w (λ r w'=>r=.agg (eu l b σ).1.vs.toArray/\kR w0 w' p (eu l b σ).2 B):=by
 refine(p6 ym).2.2.2.2.2.1 ?_;refine aG b.vs.toArray λ r1 V s1=>s1.aB z6.vs.toArray λ r2 Q s2=>?_;let Fr:aI:=star (Sep [aj r2 z6.vs.toArray 42,aj r1 b.vs.toArray 42,emp]) B;have h2:kR w0 Q p σ Fr:=h.add s2;generalize k:fK σ.1 σ.2=nm;refine au (Ty h2) ?_;rintro v R ⟨rfl,h3⟩;have h3:kR w0 R p σ.name Fr:=h3;refine⟨_,rfl,au (AW h3) ?_⟩;rintro v _ ⟨rfl,rfl⟩;have I:∀ {w':af} {σ':Sc} {cs j:Array Value},kR w0 w' p σ' (star (Sep [aj r2 cs 42,aj r1 j 42,emp]) B)->St w0 w' (Sep [aj r2 cs 42,aj r1 j 42,emp]):=λ h=>h.frame.first;refine⟨_,rfl,?_⟩
 by_cases he:σ.name.2=0
 ·have em:eu l b σ=(b.put (cO l nm).1 (gW 4 (y6 l b nm σ.name).1 (y6 l b nm σ.name).2),Bx (y6 l b nm σ.name)):=by rw[eu,ah (by simpa using he),k]
  refine cF (by simpa using he) (au (J8 (K h3.av) (by omega) _) ?_);rintro v W ⟨rfl,H⟩;rw[k];have o:=h3.quiet H;have g:(cO l nm).1<6:=by
   cases hf:(cO l nm).2 with
   | true=>have:=FD hf; omega
   | false =>
    have:l.findIdx? (λ p=>p.nm==nm)=none:=mB hf;rw[cO,this]; show 0<6; decide
  have f:(HZ l b nm σ.name)=if (cO l nm).2 then (if b.at' (cO l nm).1≠0 then σ.name.fail 7 else σ.name) else σ.name.fail 6:=rfl
  refine⟨_,_,rfl,λ F=>kR w0 F p (HZ l b nm σ.name) Fr,?_,?_⟩
  ·rintro F J -;refine au (jT J [58]) ?_;rintro v S ⟨rfl,y⟩;have y:kR w0 S p (y6 l b nm σ.name) Fr:=y;refine⟨rfl,au (xC y 4) ?_⟩;rintro v X ⟨rfl,C⟩;generalize D:gW 4 (y6 l b nm σ.name).1 (y6 l b nm σ.name).2=n at em ⊢;refine⟨_,rfl,λ m=>kR w0 m p (Bx (y6 l b nm σ.name)) Fr,?_,?_⟩
   ·rintro m s -;obtain⟨G,z,back⟩:=s.out;refine⟨by omega,by omega,?_⟩;rw[dM];refine z.aN 1 rfl g rfl λ M i=>?_;rw[I6.jf _ _ _ g] at i;exact⟨_,i.cellsIn 1 rfl,i.az 0 rfl _ rfl (I6.one _) λ A d=>⟨_,d.cellsIn 0 rfl,by rw[em],by rw[em]; exact(back (m':=[_,_,_]) d).drop⟩⟩
   ·by_cases e:n=0
    ·refine cT (by simpa using e) (au (mH C 4) ?_);rintro v N ⟨rfl,t⟩;exact⟨rfl,by rw[Bx,ak (by rw[D]; exact e)]; exact t⟩
    ·exact cF (by simpa using e) (by rw[Bx,ah (by rw[D]; exact e)]; exact C)
  ·cases hf:(cO l nm).2 with
   | false =>
    rw[hf] at f;refine cT rfl (au (mH o 6) ?_);rintro v O ⟨rfl,u⟩;exact⟨rfl,by rw[f]; exact u⟩
   | true =>
    rw[hf,ak rfl] at f;have L:=I o;refine cF rfl ⟨by omega,by omega,_,by rw[dM]; exact aF L 1 rfl g,?_⟩
    by_cases q:b.at' (cO l nm).1=0
    ·rw[ah (by simpa using q)] at f;exact cF (by simpa using q) (by rw[f]; exact o)
    ·rw[ak q] at f;refine cT (by simpa using q) (au (mH o 7) ?_);rintro v P ⟨rfl,x⟩;exact⟨rfl,by rw[f]; exact x⟩
 ·have em:eu l b σ=(b,σ.name):=by rw[eu,ak he]
  obtain⟨G,E,back⟩:=h3.out;exact cT (by simpa using he) ⟨_,E.cellsIn 1 rfl,E.az 0 rfl _ rfl (I6.one _) λ A d=>⟨_,d.cellsIn 0 rfl,by rw[em],by rw[em]; exact(back (m':=[_,_,_]) d).drop⟩⟩
def lR(ps:List Pr):Nat->I6->Sc->I6×Sc
 | 0,b,σ=>(b,σ)
 | f+1,b,σ=>if fO [44] σ.1 σ.2 then lR ps f (eu ps b (σ.acc [44])).1 (eu ps b (σ.acc [44])).2 else (b,σ)
def ob(r:I6×Sc):I6×Sc:=if (r.2.exp [125]).2≠0 then (z6,r.2.exp [125]) else (r.1,r.2.exp [125])
def xY(ps:List Pr)(σ:Sc):I6×Sc:=ob (lR ps (eu ps z6 σ).2.1.length (eu ps z6 σ).1 (eu ps z6 σ).2)
def fF(ps:List Pr)(σ:Sc):I6×Sc :=
 if σ.2≠0 then (z6,σ) else if fO [125] (σ.exp [123]).1 (σ.exp [123]).2 then (z6,(σ.exp [123]).acc [125]) else xY ps (σ.exp [123])
def yX{m:List UInt8}{σ:Sc}(h:fO m σ.1 σ.2=true):(σ.acc m).1.length+1=σ.1.length:=by
 show(jX m σ.1 σ.2).length+1=_;rw[jX,ak h];have h1:(aT σ.1 σ.2).k=3:=by
  unfold fO at h;rw[aX] at h;exact iI h.1
 unfold aT at h1;unfold eL
 split
 ·rename_i he;rw[ak he] at h1
  cases hl:σ.1 with
  | nil=>rw[hl] at h1; cases h1
  | cons x l=>simp
 ·rename_i he; rw[ah he] at h1; cases h1
def zi(l:List Tk)(e:Int):(eL l e).length<=l.length:=by unfold eL; split<;>simp
def iD(m:List UInt8)(l:List Tk)(e:Int):(jX m l e).length<=l.length:=by unfold jX; split; exact zi _ _; exact aO _
def vQ(l:List Tk)(e:Int):(lg l e).length<=l.length:=by unfold lg; split; exact zi _ _; exact aO _
def wN(m:Int)(l:List Tk)(e:Int):(qV m l e).length<=l.length:=by unfold qV; split; exact zi _ _; exact aO _
def y7(ps:List Pr)(b:I6)(σ:Sc):(eu ps b σ).2.1.length<=σ.1.length:=by
 unfold eu
 split
 ·exact vQ _ _
 ·generalize fK σ.1 σ.2=nm;have h1:(HZ ps b nm σ.name).1.length<=σ.1.length:=by unfold HZ; split; split; exact vQ _ _; exact vQ _ _; exact vQ _ _
  have h2:(y6 ps b nm σ.name).1.length<=σ.1.length:=cC (iD _ _ _) h1;show(Bx _).1.length<=_;unfold Bx
  split
  ·exact cC (wN _ _ _) h2
  ·exact cC (wN _ _ _) h2
def zM{m:List UInt8}{σ:Sc}(h:fO m σ.1 σ.2=false):σ.acc m=σ:=by
 show(jX m σ.1 σ.2,σ.2)=σ;rw[jX,h]; rfl
def Wp{w0 w:af}{p:Nat}{σ:Sc}{B:aI}{a:OA}{c:Nat}{l:List Pr}(h:kR w0 w p σ B)(J:∀ {w'},aC w0 w' []->fS w' a l)(hc:l.length<=c)(I:dH l) :
  CP 326 #[.slice a l.length c,pt p] w (λ r w'=>r=.agg (fF l σ).1.vs.toArray/\kR w0 w' p (fF l σ).2 B):=by
 refine(p6 ym).2.2.2.1 ?_;have P:=I.l2; have u:=I.l1;refine aG z6.vs.toArray λ r1 w1 s1=>?_;have h1:=h.add s1;refine au (AW h1) ?_;rintro v N ⟨rfl,rfl⟩;refine⟨_,rfl,?_⟩
 by_cases he:σ.2=0
 ·have t:fF l σ=if fO [125] (σ.exp [123]).1 (σ.exp [123]).2 then (z6,(σ.exp [123]).acc [125]) else xY l (σ.exp [123]):=by rw[fF,ah (by simpa using he)]
  refine cF (by simpa using he) (au (zU (J h1.av) hc) ?_);rintro v w4 ⟨⟨e,rfl,H⟩,c4⟩;obtain rfl:=H.2 I;have h4:=h1.quiet c4;refine⟨_,rfl,cF rfl (aG z6.vs.toArray λ r2 Y T=>?_)⟩;let Fr:I6->aI:=λ b=>star (Sep [aj r2 b.vs.toArray 42,emp]) (star (Sep [aj r1 z6.vs.toArray 42,emp]) B);have S:kR w0 Y p σ (Fr z6):=h4.add T;refine au (jT S [123]) ?_;rintro v Z ⟨rfl,G⟩;have G:kR w0 Z p (σ.exp [123]) (Fr z6):=G;refine⟨rfl,au (tr G [125]) ?_⟩;rintro v w9 ⟨rfl,s⟩;have s:kR w0 w9 p ((σ.exp [123]).acc [125]) (Fr z6):=s;refine⟨_,rfl,?_⟩;have rd:∀ {w':af} {σ':Sc} {b:I6},kR w0 w' p σ' (Fr b)->aA w' ⟨r2,0,none⟩ 0 b.vs:=λ {w' σ' b} h=>(show St w0 w' (Sep [aj r2 b.vs.toArray 42,emp]) from h.frame.first).cellsIn 0 rfl;have wr:∀ {w':af} {σ':Sc} {b o:I6} {K:af->Prop},kR w0 w' p σ' (Fr b)->(∀ N,kR w0 N p σ' (Fr o)->K N)->uP ⟨r2,0,none⟩ 0 o.vs w' K:=λ {w' σ' b o K} h k=>by
   obtain⟨O,x,back⟩:=h.out;exact x.az 0 rfl o.vs rfl (I6.one _) λ q d=>k q (back (m':=[_,_]) d)
  have fin:∀ {w':af} {σ':Sc} {b o:I6},kR w0 w' p σ' (Fr b)->fF l σ=(o,σ')->uP ⟨r1,0,none⟩ 0 o.vs w' λ Q=>∃ u1:I6,aA Q ⟨r1,0,none⟩ 0 u1.vs/\(Value.agg u1.vs.toArray=.agg (fF l σ).1.vs.toArray/\kR w0 Q p (fF l σ).2 B):=λ {w' σ' b o} h n=>by
   obtain⟨O,x,back⟩:=h.drop.out;exact x.az 0 rfl o.vs rfl (I6.one _) λ q d=>⟨_,d.cellsIn 0 rfl,by rw[n],by rw[n]; exact(back (m':=[_,_]) d).drop⟩
  cases ha:fO [125] (σ.exp [123]).1 (σ.exp [123]).2 with
  | true =>
   rw[ak ha] at t;exact cT rfl ⟨_,rd s,fin s t⟩
  | false =>
   rw[ah (by rw[ha]; decide)] at t;have ea:=zM ha;rw[ea] at s;generalize σ.exp [123]=τ at *;refine cF rfl ⟨_,rd s,au (N3 s J P u z6) ?_⟩;rintro v U ⟨rfl,A⟩;refine⟨_,rfl,wr A λ q C=>?_⟩;refine⟨λ y m=>∃ (f:Nat) (b:I6) (σ':Sc),m=σ'.1.length/\σ'.1.length<=f/\ob (lR l f b σ')=xY l τ/\kR w0 y p σ' (Fr b),⟨_,_,(eu l z6 τ).1,(eu l z6 τ).2,rfl,aO _,rfl,C⟩,?_⟩;rintro y m ⟨f,b,σ',rfl,hf,n,D⟩ -;refine au (tr D [44]) ?_;rintro v L ⟨rfl,i⟩;have i:kR w0 L p (σ'.acc [44]) (Fr b):=i;refine⟨_,rfl,?_⟩
   cases hb:fO [44] σ'.1 σ'.2 with
   | true =>
    have hlen:=yX hb;obtain⟨f,rfl⟩:∃ g,f=g+1:=⟨f-1,by omega⟩;rw[lR,ak hb] at n;refine cT rfl ⟨_,rd i,au (N3 i J P u b) ?_⟩;rintro v V ⟨rfl,E⟩;have hle:=y7 l b (σ'.acc [44]);exact⟨_,rfl,wr E λ W F=>⟨_,by omega,f,_,_,rfl,by omega,n,F⟩⟩
   | false =>
    have ea:=zM hb;rw[ea] at i;have R:lR l f b σ'=(b,σ'):=by
     cases f with
     | zero=>rfl
     | succ f=>rw[lR,ah (by rw[hb]; decide)]
    rw[R] at n;refine cF rfl (au (jT i [125]) ?_);rintro v M ⟨rfl,j⟩;have j:kR w0 M p (σ'.exp [125]) (Fr b):=j;refine⟨rfl,au (AW j) ?_⟩;rintro v X ⟨rfl,rfl⟩;refine⟨_,rfl,?_⟩
    by_cases z:(σ'.exp [125]).2=0
    ·rw[ob,ah (by simpa using z)] at n;exact cF (by simpa using z) ⟨_,rd j,fin j (by rw[t,<- n])⟩
    ·rw[ob,ak z] at n;exact cT (by simpa using z) (fin j (by rw[t,<- n]))
 ·obtain⟨O,x,back⟩:=h1.out;exact cT (by simpa using he) (x.az 0 rfl z6.vs rfl (I6.one _) λ q d=>⟨_,d.cellsIn 0 rfl,by rw[fF,ak he],by rw[fF,ak he]; exact(back (m':=[_,_]) d).drop⟩)

import Derived.Test.YtpddenfeaadgpaaGreatDoorF03
set_option linter.unusedVariables false
set_option maxRecDepth 100000
namespace Go.Proofs.YtpddenfeaadgpaaGreatDoor
open Go Go.Vc _root_.Go.Proofs.Tryz
theorem eZ:gW prog 46 35 (.agg z6.vs.toArray) 6 48:=gW.mk' underlying46 (by kernel_rfl) rfl (by decide)
theorem aM(u:I6):u.vs.length=6:=rfl
abbrev bn (a:OA) (c:Nat) (l:List I6):aJ:=dA 35 6 I6.vs a c l
theorem DS{w0 w:World}{B:aJ}(s:St w0 w B){a:OA}{c:Nat}{l:List I6}(h:DC w a l)(hl:l.length<=1000) :
  CP 168 #[.slice a l.length c] w (λ r w'=>∃ a' c',r=.slice a' l.length c'/\St w0 w' (star (bn a' c' l) B)):=by
 refine jh ?_;unfold fo;exact iD (c:=c) (K:=λ r w'=>∃ a' c',r=.slice a' l.length c'/\St w0 w' (star (bn a' c' l) B)) eZ aM I6.one s h (by omega) (by omega) λ a' c' w' s'=>⟨a',c',rfl,s'⟩
def sM(sup tot now ask:I6)(k:Nat):Bool:=decide (ask.at' k<now.at' k)&&decide (tot.at' k-now.at' k+ask.at' k<sup.at' k)
def ct(sup tot now ask:I6):Bool:=(List.range 6).any (sM sup tot now ask)
theorem Dk(w:World)(sup tot now ask:I6)(h1:I6.Le sup 1000000)(h2:I6.Le tot 1000000)(h3:I6.Le now 1000000)(h4:I6.Le ask 1000000) :
  CP 170 #[.agg sup.vs.toArray,.agg tot.vs.toArray,.agg now.vs.toArray,.agg ask.vs.toArray] w (λ r w'=>r=.bool (ct sup tot now ask)/\ax w w' []):=by
 refine kT ?_;unfold gV;refine(St.start w).one.av sup.vs.toArray λ r1 w1 s1=>s1.av tot.vs.toArray λ r2 w2 s2=>s2.av now.vs.toArray λ r3 w3 s3=>s3.av ask.vs.toArray λ r4 w4 s4=>?_;refine⟨λ n w5 m=>∃ k:Nat,n=k/\k<=6/\m=6-k/\(∀ j,j<k->sM sup tot now ask j=false)/\ax w4 w5 [],⟨6,0,rfl,by omega,by omega,λ j hj=>by omega,ax.refl _ _⟩,?_⟩;rintro w5 m n ⟨k,rfl,hk,hm,ha,hc⟩ -
 by_cases hlt:(k:Int)<6
 ·have hk' : k<6:=by omega
  have c5:ax w4 w5.drew []:=hc.trans (ax.drew w5 []) (by simp);have s5:=s4.quiet c5;have q1:=h1 k hk'; have q2:=h2 k hk'; have q3:=h3 k hk'; have q4:=h4 k hk';have ge1:=aB s5 3 rfl hk'; have ge2:=aB s5 2 rfl hk'; have ge3:=aB s5 1 rfl hk'; have ge4:=aB s5 0 rfl hk';refine cT (dT hlt) ⟨λ b w6=>b=sM sup tot now ask k/\ax w4 w6 [],?_,by omega,by omega,_,by rw[bV,ge4],by omega,by omega,_,by rw[bV,ge3],?_⟩
  ·rintro w6 b ⟨rfl,c6⟩ -
   cases hr:sM sup tot now ask k with
   | true=>exact cT rfl ⟨by rw[ct,List.any_eq_true.2 ⟨k,List.mem_range.2 hk',hr⟩],(s4.quiet c6).an⟩
   | false =>
    refine cF rfl ⟨6-(k+1),by omega,k+1,inc (by decide) hk',by omega,rfl,λ j hj=>?_,c6⟩;rcases Nat.lt_or_ge j k with h' | h'
    ·exact ha j h'
    ·obtain rfl:j=k:=by omega
     exact hr
  ·by_cases g:ask.at' k<now.at' k
   ·refine cT (dT g) ⟨by omega,by omega,_,by rw[bV,ge2],by omega,by omega,_,by rw[bV,ge3],by omega,by omega,_,by rw[bV,ge4],by omega,by omega,_,by rw[bV,ge1],?_,c5⟩;rw[ay (n:=tot.at' k-now.at' k) ⟨by omega,by omega⟩,ay ⟨by omega,by omega⟩,sM,dT g,Bool.true_and]
   ·exact cF (dF g) ⟨by rw[sM,dF g,Bool.false_and],c5⟩
 ·obtain rfl:k=6:=by omega
  refine cF (by simp) ⟨?_,(s4.quiet hc).an⟩;have:ct sup tot now ask=false:=by
   rw[ct,List.any_eq_false];intro j hj;rw[ha j (List.mem_range.1 hj)]; simp
  rw[this]
def iI(sup tot now ask:Int):Int:=if ask<now then now-(if (if 0>tot-sup then 0 else tot-sup)<now-ask then (if 0>tot-sup then 0 else tot-sup) else now-ask) else ask
def gL(sup tot now ask:I6):I6:=I6.of λ k=>iI (sup.at' k) (tot.at' k) (now.at' k) (ask.at' k)
theorem sw{s t n a B:Int}(h3:0<=n/\n<=B)(h4:0<=a/\a<=B):0<=iI s t n a/\iI s t n a<=B:=by
 unfold iI
 split
 ·split<;>split<;>omega
 ·omega
theorem EM{s t n a:I6}{B:Int}(h3:I6.Le n B)(h4:I6.Le a B):I6.Le (gL s t n a) B:=λ k hk=>by
 rw[gL,I6.kq _ _ hk]; exact sw (h3 k hk) (h4 k hk)
theorem EO(w:World)(sup tot now ask:I6)(h1:I6.Le sup 1000000)(h2:I6.Le tot 1000000)(h3:I6.Le now 1000000)(h4:I6.Le ask 1000000) :
  CP 171 #[.agg sup.vs.toArray,.agg tot.vs.toArray,.agg now.vs.toArray,.agg ask.vs.toArray] w (λ r w'=>r=.agg (gL sup tot now ask).vs.toArray/\ax w w' []):=by
 refine lW ?_;unfold iO;refine(St.start w).one.av sup.vs.toArray λ r1 w1 s1=>s1.av tot.vs.toArray λ r2 w2 s2=>s2.av now.vs.toArray λ r3 w3 s3=>s3.av ask.vs.toArray λ r4 w4 s4=>s4.av z6.vs.toArray λ r5 w5 s5=>?_;let I:Nat->World->Prop:=λ k w'=>St w w' (Sep [ah r5 z6.vs.toArray 35,ah r4 (I6.mix k (gL sup tot now ask) ask).vs.toArray 35,ah r3 now.vs.toArray 35,ah r2 tot.vs.toArray 35,ah r1 sup.vs.toArray 35,emp]);refine⟨λ n w6 m=>∃ k:Nat,n=k/\k<=6/\m=6-k/\I k w6,⟨6,0,rfl,by omega,by omega,s5⟩,?_⟩;rintro w6 m n ⟨k,rfl,hk,hm,s6⟩ -
 by_cases hlt:(k:Int)<6
 ·have hk' : k<6:=by omega
  have s7:=St.quiet s6 (ax.drew _ _);have s8:=s7.quiet (ax.drew _ _);have q1:=h1 k hk'; have q2:=h2 k hk'; have q3:=h3 k hk'; have q4:=h4 k hk';have ea:(I6.mix k (gL sup tot now ask) ask).at' k=ask.at' k:=by rw[I6.bh _ _ _ _ hk',if_neg (by omega)]
  have ep:(gL sup tot now ask).at' k=iI (sup.at' k) (tot.at' k) (now.at' k) (ask.at' k):=I6.kq _ _ hk';refine cT (dT hlt) ⟨I (k+1),?_,by omega,by omega,ask.at' k,by rw[bV,aB s7 1 rfl hk',ea],by omega,by omega,now.at' k,by rw[bV,aB s7 2 rfl hk'],?_⟩
  ·rintro w9 s9 -;exact⟨6-(k+1),by omega,k+1,inc (by decide) hk',by omega,rfl,s9⟩
  ·by_cases g:ask.at' k<now.at' k
   ·refine cT (dT g) ⟨by omega,by omega,now.at' k,by rw[bV,aB s8 2 rfl hk'],by omega,by omega,now.at' k,by rw[bV,aB s8 2 rfl hk'],by omega,by omega,ask.at' k,by rw[bV,aB s8 1 rfl hk',ea],by omega,by omega,tot.at' k,by rw[bV,aB s8 3 rfl hk'],by omega,by omega,sup.at' k,by rw[bV,aB s8 4 rfl hk'],by omega,by omega,?_⟩
    have hp:=sw (s:=sup.at' k) (t:=tot.at' k) q3 q4;rw[iI,if_pos g] at ep hp;rw[bV,ay (n:=tot.at' k-sup.at' k) ⟨by omega,by omega⟩,ay (n:=now.at' k-ask.at' k) ⟨by omega,by omega⟩,ay ⟨by omega,by omega⟩,<- ep];refine s8.bL 1 rfl hk' rfl λ w9 s9=>?_;rw[I6.cE _ _ _ hk'] at s9;exact s9
   ·refine cF (dF g) ?_;rw[iI,if_neg g] at ep;have:I6.mix (k+1) (gL sup tot now ask) ask=I6.mix k (gL sup tot now ask) ask:=by
     refine I6.ext' λ j hj=>?_;rw[I6.bh _ _ _ _ hj,I6.bh _ _ _ _ hj]
     by_cases h3:j<k
     ·rw[if_pos (by omega),if_pos h3]
     ·rw[if_neg h3]
      split
      ·obtain rfl:j=k:=by omega
       exact ep
      ·rfl
    show I (k+1) _;simp only[I];rw[this]; exact s7
 ·obtain rfl:k=6:=by omega
  exact cF (by simp) ⟨_,St.cellsIn s6 1 rfl,St.az s6 0 rfl (gL sup tot now ask).vs rfl (I6.one _) λ w8 s8=>⟨_,s8.cellsIn 0 rfl,rfl,s8.an⟩⟩
theorem FG{w:World}{p:Int}(hp:1<=p/\p<=3){sup:I6}(hs:I6.Le sup 4){a1 a2:OA}{c1 c2:Nat}{l1 l2:List I6}(h1:DC w a1 l1)(h2:DC w a2 l2)(hl:l2.length=l1.length)(h8:l1.length<=8)(b1:∀ u∈l1,I6.Le u 4)(b2:∀ u∈l2,I6.Le u 4) :
  CP 167 #[iv p,.agg sup.vs.toArray,.slice a1 l1.length c1,.slice a2 l2.length c2] w (λ r w'=>r=iv 0/\ax w w' []):=by
 refine nA ?_;unfold jE;refine(St.start w).one.av sup.vs.toArray λ r1 w1 s1=>⟨λ b w2=>b=false/\w2=w1,?_,cF (dF (by omega)) ⟨dF (by omega),rfl⟩⟩;rintro w2 b ⟨rfl,rfl⟩ -;refine cF rfl ⟨λ b w3=>b=false/\w3=w2,?_,cF (by simp[hl]) ⟨dF (by omega),rfl⟩⟩;rintro w3 b ⟨rfl,rfl⟩ -;refine cF rfl ⟨_,s1.cellsIn 0 rfl,aq (dr w3 sup) ?_⟩;rintro v w4 ⟨rfl,c4⟩;have s4:=s1.quiet c4;refine⟨_,rfl,cF (by rw[leq hs]; rfl) ⟨λ n w5 m=>∃ k:Nat,n=k/\k<=2/\m=2-k/\ax w w5 [],⟨2,0,rfl,by omega,by omega,s4.an⟩,?_⟩⟩;rintro w5 m n ⟨k,rfl,hk,hm,c5⟩ -
 by_cases hlt:(k:Int)<2
 ·have hk' : k<2:=by omega
  obtain⟨a,c,l,e1,hr,hb,hl8⟩:∃ (a:OA) (c:Nat) (l:List I6),(#[.slice a1 l1.length c1,.slice a2 l2.length c2]:Array Value)[(k:Int).toNat*1]?=some (.slice a l.length c)/\DC w a l/\(∀ u∈l,I6.Le u 4)/\l.length<=8:=by
   match k,hk' with
   | 0,_=>exact⟨a1,c1,l1,rfl,h1,b1,h8⟩
   | 1,_=>exact⟨a2,c2,l2,rfl,h2,b2,by omega⟩
  refine cT (dT hlt) ⟨by omega,by omega,_,_,_,e1,λ n w6 m=>∃ j:Nat,n=j/\j<=l.length/\m=l.length-j/\ax w w6 [],⟨l.length,0,rfl,by omega,by omega,c5⟩,?_⟩;rintro w6 m6 n6 ⟨j,rfl,hj,hm6,c6⟩ -
  by_cases hlt6:(j:Int)<(l.length:Int)
  ·have hx:l[j]?=some (l[j]'(by omega)):=gE (by omega);generalize l[j]'(by omega)=x at hx;obtain⟨q,hq,hcl⟩:=(hr.an c6).at hx;refine cT (by simpa using hlt6) ?_;rw[hq];refine⟨by omega,by omega,x,hcl,(St.start' c6).one.av z6.vs.toArray λ r2 w7 s7=>s7.az 0 rfl x.vs rfl (I6.one _) λ w8 s8=>⟨_,s8.cellsIn 0 rfl,aq (dr w8 x) ?_⟩⟩;rintro v w9 ⟨rfl,c9⟩;exact⟨_,rfl,cF (by rw[leq (hb x (List.mem_of_getElem? hx))]; rfl) ⟨l.length-(j+1),by omega,j+1,ay ⟨by omega,by omega⟩,by omega,rfl,(s8.quiet c9).an⟩⟩
  ·exact cF (by simpa using hlt6) ⟨2-(k+1),by omega,k+1,inc (by decide) hk',by omega,rfl,c6⟩
 ·exact cF (dF hlt) ⟨rfl,c5⟩
def dG(p:Int)(sup:I6)(out:List I6)(i:Nat)(ask:I6):List I6 :=
 if p=2 then (if ct sup (bF out) (out.getD i z6) ask then out else out.set i ask)
 else if p=3 then out.set i (gL sup (bF out) (out.getD i z6) ask) else out.set i ask
def jQ(p:Int)(sup:I6)(bef asked:List I6):Nat->List I6
 | 0=>bef
 | k+1=>dG p sup (jQ p sup bef asked k) k (asked.getD k z6)
def HQ(p:Int)(sup:I6)(bef asked:List I6):List I6:=jQ p sup bef asked asked.length
theorem q7{l:List I6}{B:Int}(h:∀ u∈l,I6.Le u B)(hB:0<=B)(i:Nat):I6.Le (l.getD i z6) B:=by
 rw[List.getD_eq_getElem?_getD]
 cases hg:l[i]? with
 | none=>exact λ k _=>by rw[show(none:Option I6).getD z6=z6 from rfl,fu]; omega
 | some u=>exact h u (List.mem_of_getElem? hg)
theorem AQ{l:List I6}{B:Int}(h:∀ u∈l,I6.Le u B){x:I6}(hx:I6.Le x B)(i:Nat):∀ u∈l.set i x,I6.Le u B:=λ u hu=>by
 rcases List.mem_or_eq_of_mem_set hu with h' | rfl
 ·exact h u h'
 ·exact hx
theorem Du{p:Int}{sup:I6}{out:List I6}{i:Nat}{ask:I6}{B:Int}(hB:0<=B)(h:∀ u∈out,I6.Le u B)(ha:I6.Le ask B):(dG p sup out i ask).length=out.length/\∀ u∈dG p sup out i ask,I6.Le u B:=by
 unfold dG
 split
 ·split
  ·exact⟨rfl,h⟩
  ·exact⟨by simp,AQ h ha i⟩
 ·split
  ·exact⟨by simp,AQ h (EM (q7 h hB i) ha) i⟩
  ·exact⟨by simp,AQ h ha i⟩
theorem pV{p:Int}{sup:I6}{bef asked:List I6}{B:Int}(hB:0<=B)(h:∀ u∈bef,I6.Le u B)(ha:∀ u∈asked,I6.Le u B):∀ k,(jQ p sup bef asked k).length=bef.length/\∀ u∈jQ p sup bef asked k,I6.Le u B
 | 0=>⟨rfl,h⟩
 | k+1=>by
  obtain⟨h1,h2⟩:=pV (p:=p) (sup:=sup) hB h ha k;obtain⟨h3,h4⟩:=Du (p:=p) (sup:=sup) (i:=k) hB h2 (q7 ha hB k);exact⟨h3.trans h1,h4⟩
theorem FF{w0 w:World}{B:aJ}(s:St w0 w B){p:Int}(hp:1<=p/\p<=3){sup:I6}(hs:I6.Le sup 4){a1 a2:OA}{c1 c2:Nat}{l1 l2:List I6}(h1:DC w a1 l1)(h2:DC w a2 l2)(hl:l2.length=l1.length)(h8:l1.length<=8)(b1:∀ u∈l1,I6.Le u 4)(b2:∀ u∈l2,I6.Le u 4) :
  CP 131 #[iv p,.agg sup.vs.toArray,.slice a1 l1.length c1,.slice a2 l2.length c2] w (λ r w'=>∃ a c,r=.tuple #[.slice a l1.length c,iv 0]/\St w0 w' (star (bn a c (HQ p sup l1 l2)) B)/\ax w w' []):=by
 refine nw ?_;unfold jD;refine(St.start w).one.av sup.vs.toArray λ r1 w1 t1=>⟨_,t1.cellsIn 0 rfl,aq (FG hp hs (h1.an t1.an) (h2.an t1.an) hl h8 b1 b2) ?_⟩;rintro v w2 ⟨rfl,c2⟩;have t2:=t1.quiet c2;refine⟨_,rfl,cF rfl (aq (DS t2 (h1.an t2.an) (by omega)) ?_)⟩;rintro v w3 ⟨a,c,rfl,t3⟩;refine⟨_,_,_,rfl,?_⟩;have len:∀ k,(jQ p sup l1 l2 k).length=l1.length:=λ k=>(pV (B:=4) (by omega) b1 b2 k).1;have le4:∀ k,∀ u∈jQ p sup l1 l2 k,I6.Le u 4:=λ k=>(pV (B:=4) (by omega) b1 b2 k).2;have up:∀ {u:I6},I6.Le u 4->I6.Le u 1000000:=λ h k hk=>by have:=h k hk; omega
 have tsum:∀ k,I6.Le (bF (jQ p sup l1 l2 k)) 1000000:=λ k j hj=>by
  have:=lC (le4 k) j hj;rw[bF,I6.kq _ _ hj];have:=len k;omega
 let Q:Nat->aJ:=λ k=>Sep [bn a c (jQ p sup l1 l2 k),ah r1 sup.vs.toArray 35,emp];refine⟨λ n w4 m=>∃ k:Nat,n=k/\k<=l2.length/\m=l2.length-k/\St w w4 (Q k),⟨l2.length,0,rfl,by omega,by omega,t3⟩,?_⟩;rintro w4 m n ⟨k,rfl,hk,hm,t4⟩ -
 by_cases hlt:(k:Int)<(l2.length:Int)
 ·have hx:l2[k]?=some (l2[k]'(by omega)):=gE (by omega);generalize l2[k]'(by omega)=x at hx;have hxD:l2.getD k z6=x:=by rw[List.getD_eq_getElem?_getD,hx]; rfl
  have hx4:=b2 x (List.mem_of_getElem? hx);have hk1:k<l1.length:=by omega
  obtain⟨q,hq,hcl⟩:=(h2.an (St.an t4)).at hx;have hg:∃ g,a=some ⟨g,0,none⟩:=St.kO (l:=jQ p sup l1 l2 k) (St.out t4 0 rfl) (by rw[len]; omega);obtain⟨g,rfl⟩:=hg;have hnow:(jQ p sup l1 l2 k)[k]?=some ((jQ p sup l1 l2 k).getD k z6):=by
   rw[List.getD_eq_getElem?_getD,gE (by rw[len]; exact hk1)]; rfl
  have hnow4:=q7 (le4 k) (by omega) k;refine cT (by simpa using hlt) ⟨λ w5=>St w w5 (Q (k+1)),?_,?_⟩
  ·rintro w5 t5 -;exact⟨l2.length-(k+1),by omega,k+1,ay ⟨by omega,by omega⟩,by omega,rfl,t5⟩
  rw[hq];refine⟨by omega,by omega,x,hcl,St.av t4 z6.vs.toArray λ r2 w6 t6=>t6.az 0 rfl x.vs rfl (I6.one _) λ w7 t7=>?_⟩;have rd7:DC w7 (some ⟨g,0,none⟩) (jQ p sup l1 l2 k):=St.rd aM (t7.out 1 rfl);have hsum:=JM (c:=c) rd7 (λ u hu=>up (le4 k u hu)) (by rw[len]; omega);rw[len] at hsum;refine aq hsum ?_;rintro v w8 ⟨rfl,c8⟩;refine⟨_,rfl,(t7.quiet c8).av z6.vs.toArray λ r3 w9 t9=>t9.az 0 rfl (bF (jQ p sup l1 l2 k)).vs rfl (I6.one _) λ w10 t10=>?_⟩;generalize htot:bF (jQ p sup l1 l2 k)=tot at t10;have ht6:I6.Le tot 1000000:=htot▸tsum k;let now:=(jQ p sup l1 l2 k).getD k z6;have cv:∀ {w' : World} {l:List aJ} {y:I6},St w w' (Sep (ah r3 tot.vs.toArray 35 :: ah r2 y.vs.toArray 35 :: bn (some ⟨g,0,none⟩) c (jQ p sup l1 l2 k) :: l))->af w' (Addr.add ⟨g,0,none⟩ (((k:Nat):Int).toNat*6)) 0 now.vs:=λ t=>by
   obtain⟨q',hq',hc'⟩:=bU.at (St.rd aM (t.out 2 rfl)) hnow
   cases hq'; exact hc'
  have t10' : St w w10 (Sep [ah r3 tot.vs.toArray 35,ah r2 x.vs.toArray 35,bn (some ⟨g,0,none⟩) c (jQ p sup l1 l2 k),ah r1 sup.vs.toArray 35,emp]):=t10;have t11:=t10'.quiet (ax.drew w10 []);refine⟨λ w'=>∃ y:I6,jQ p sup l1 l2 (k+1)=(jQ p sup l1 l2 k).set k y/\St w w' (Sep [ah r3 tot.vs.toArray 35,ah r2 y.vs.toArray 35,bn (some ⟨g,0,none⟩) c (jQ p sup l1 l2 k),ah r1 sup.vs.toArray 35,emp]),?_,?_⟩
  ·rintro w11 ⟨y,ey,t⟩ -;refine⟨_,t.cellsIn 1 rfl,by omega,by omega,?_⟩;rw[Int.toNat_natCast];refine St.tc aM (I6.one y) (t.out 2 rfl) (i:=k) (by rw[len]; exact hk1) λ w12 t12=>?_;show St w w12 (Q (k+1));simp only[Q];rw[ey];exact(t12.back (l:=[ah r3 tot.vs.toArray 35,ah r2 y.vs.toArray 35,bn (some ⟨g,0,none⟩) c (jQ p sup l1 l2 k),ah r1 sup.vs.toArray 35,emp]) (i:=2) (by simp)).aA [2,3,4]
  ·have estep:jQ p sup l1 l2 (k+1)=dG p sup (jQ p sup l1 l2 k) k x:=by show dG _ _ _ _ (l2.getD k z6)=_; rw[hxD]
   by_cases p2:p=2
   ·refine cT (by simpa using p2) ⟨_,t11.cellsIn 3 rfl,_,t11.cellsIn 0 rfl,by omega,by omega,_,cv t11,_,t11.cellsIn 1 rfl,aq (Dk _ sup tot now x (up hs) ht6 (up hnow4) (up hx4)) ?_⟩;rintro v w13 ⟨rfl,c13⟩;refine⟨_,rfl,?_⟩;have t13:=t11.quiet c13;have e2:jQ p sup l1 l2 (k+1)=if ct sup tot now x then jQ p sup l1 l2 k else (jQ p sup l1 l2 k).set k x:=by
     rw[estep,dG,if_pos p2,htot]
    cases hr:ct sup tot now x with
    | true =>
     refine cT rfl ?_;rw[hr,if_pos rfl] at e2;show St w w13 (Q (k+1));simp only[Q];rw[e2];exact t13.aA [2,3,4]
    | false =>
     rw[hr] at e2;exact cF rfl ⟨x,e2,t13⟩
   ·refine cF (by simpa using p2) ?_
    by_cases p3:p=3
    ·refine cT (by simpa using p3) ⟨_,t11.cellsIn 3 rfl,_,t11.cellsIn 0 rfl,by omega,by omega,_,cv t11,_,t11.cellsIn 1 rfl,aq (EO _ sup tot now x (up hs) ht6 (up hnow4) (up hx4)) ?_⟩;rintro v w14 ⟨rfl,c14⟩;refine⟨_,rfl,(t11.quiet c14).az 1 rfl (gL sup tot now x).vs rfl (I6.one _) λ w15 t15=>⟨_,?_,t15⟩⟩;rw[estep,dG,if_neg p2,if_pos p3,htot]
    ·refine cF (by simpa using p3) ⟨x,?_,t10'⟩;rw[estep,dG,if_neg p2,if_neg p3]
 ·obtain rfl:k=l2.length:=by omega
  refine cF (by simp) ⟨a,c,rfl,?_,St.an t4⟩;exact(s.after (St.aA t4 [0]).single)
theorem qh{w:World}{a:OA}{c:Nat}{l:List Pr}(h:dX w a l) :
  CP 55 #[.slice a l.length c] w ((qx (bZ l) (tJ l) w)):=by
 refine yy ?_;unfold yx
 by_cases h0:l.length=0
 ·exact cT (by rw[h0]; rfl) (aH (by decide) (λ hp=>by have:=hp.l1; omega) (ax.refl _ _) (by rw[tJ,if_pos h0]))
 refine cF (by simpa using h0) ?_;rcases Nat.lt_or_ge 6 l.length with h6|h6
 ·exact cT (dT (by omega)) (aH (by decide) (λ hp=>by have:=hp.l2; omega) (ax.refl _ _) (by rw[tJ,if_neg h0,if_pos h6]))
 refine cF (dF (by omega)) ⟨λ n w1 m=>∃ k:Nat,n=k/\k<=l.length/\m=l.length-k/\(∀ i p,i<k->l[i]?=some p->iR l i p)/\ax w w1 [],⟨l.length,0,rfl,by omega,by omega,λ i p hi=>by omega,ax.refl _ _⟩,?_⟩;rintro w1 m n ⟨k,rfl,hk,hm,ha,hc⟩ -
 by_cases hlt:(k:Int)<(l.length:Int)
 ·have hx:l[k]?=some (l[k]'(by omega)):=gE (by omega);generalize l[k]'(by omega)=x at hx;obtain⟨_,q,hq,hcl⟩:=(h.an hc) k x hx;have bad : ¬ iR l k x->¬ bZ l:=λ hb hp=>hb (hp.good k x hx);have bk:∀ {e:Int},e≠0->zF l k x=e->tJ l=e:=λ he h=>by
   have:=cU (f:=zF l) (n:=0) (λ i p hi hp=>by rw[Nat.zero_add]; exact ku (ha i p hi hp)) hx (by rw[Nat.zero_add,h]; exact he);rw[Nat.zero_add,h] at this;rw[tJ,if_neg h0,if_neg (by omega),this,if_pos he]
  have nmAt:∀ {w' : World},ax w w' []->∀ (j:Nat) (y:Pr),l[j]?=some y->w'.cell? (q.add (j*5))=some (sv y.nm):=λ hc' j y hy=>by
   obtain⟨_,q',hq',hcl'⟩:=(h.an hc') j y hy;rw[hq] at hq'; cases hq';have:=hcl'.1
   rwa [Addr.add_add] at this
  refine cT (by simpa using hlt) ?_;rw[hq];refine⟨by omega,by omega,_,nmAt hc k x hx,aq (zZ w1 x.nm) ?_⟩;rintro v w2 ⟨rfl,rfl⟩;refine⟨_,rfl,?_⟩
  cases hn:bq x.nm with
  | false=>exact cT rfl (aH (by decide) (bad λ hg=>by have:=hg.1; simp[jK,hn] at this) hc (bk (by decide) (by rw[zF,hn]; rfl)))
  | true =>
   refine cF rfl ⟨λ n w3 m=>∃ j:Nat,n=j/\j<=k/\m=k-j/\(l.take j).any (λ p=>p.nm==x.nm)=false/\ax w w3 [],⟨k,0,rfl,by omega,by omega,rfl,hc⟩,?_⟩;rintro w3 m3 n2 ⟨j,rfl,hj,hm3,hany,c3⟩ -
   by_cases hjk:(j:Int)<(k:Int)
   ·have hy:l[j]?=some (l[j]'(by omega)):=gE (by omega);generalize l[j]'(by omega)=y at hy;have c4:ax w w3.drew []:=c3.trans (ax.drew w3 []) (by simp);refine cT (by simpa using hjk) ⟨by omega,by omega,_,nmAt c4 j y hy,by omega,by omega,_,nmAt c4 k x hx,?_⟩
    by_cases hxy:y.nm=x.nm
    ·have hitq:=cC (p:=λ q=>q.nm==x.nm) (show(l.take k)[j]?=some y by rw[List.getElem?_take,if_pos (by omega)]; exact hy) (by simpa using hxy);exact cT (by rw[hxy]; simp) (aH (by decide) (bad λ hg=>by have:=hg.2; rw[hitq] at this; cases this) c4 (bk (by decide) (by rw[zF,hn,hitq]; rfl)))
    ·exact cF (by rw[wW,wW]; simpa using hxy) ⟨k-(j+1),by omega,j+1,by rw[ay ⟨by omega,by omega⟩]; rfl,by omega,rfl,ck hany hy (by simpa using hxy),c4⟩
   ·obtain rfl:j=k:=by omega
    obtain⟨_,q',hq',hcl'⟩:=(h.an c3) j x hx;rw[hq] at hq'; cases hq';refine cF (by simp) ⟨by omega,by omega,_,_,_,_,_,hcl',aR ?_⟩;refine((St.start' c3).one.cm _ 117).az 0 rfl x.cells rfl x.one λ w5 s5=>?_;generalize hr1:w3.heap.size=r1 at s5 ⊢;have cx:∀ (j:Nat) (v:Value),x.cells[j]?=some v->w5.cell? ⟨r1,j,none⟩=some v:=λ j v hv=>by rw[s5.ag 0 rfl]; simpa using hv
    refine⟨λ b w6=>w6=w5/\b = !rA x,?_,?_⟩
    ·rintro w6 b ⟨rfl,rfl⟩ -
     cases hr:rA x with
     | false=>exact cT rfl (aH (by decide) (bad λ hg=>by have:=hg.1; simp[jK,hr] at this) s5.an (bk (by decide) (by rw[zF,hn,hany,hr]; rfl)))
     | true =>
      refine cF rfl ⟨l.length-(j+1),by omega,j+1,by rw[ay ⟨by omega,by omega⟩]; rfl,by omega,rfl,λ i p hi hp=>?_,s5.an⟩;rcases Nat.lt_or_ge i j with h' | h'
      ·exact ha i p h' hp
      ·obtain rfl:i=j:=by omega
       rw[hx] at hp; cases hp;exact⟨by simp[jK,hn,hr],hany⟩
    ·have no:(¬ (1<=x.sup/\x.sup<=4/\0<=x.res/\x.res<=1000000/\0<=x.pts/\x.pts<=1000/\0<=x.grp/\x.grp<=4))->true = !rA x:=λ hh=>by
      cases hr:rA x with
      | false=>rfl
      | true =>
       exfalso; apply hh
       simp only[rA,Bool.and_eq_true,decide_eq_true_eq] at hr;omega
     refine⟨_,cx 1 _ rfl,?_⟩
     by_cases g1:x.sup<1
     ·exact cT (dT g1) ⟨rfl,no (by omega)⟩
     refine cF (dF g1) ⟨_,cx 1 _ rfl,?_⟩
     by_cases g2:x.sup>4
     ·exact cT (dT g2) ⟨rfl,no (by omega)⟩
     refine cF (dF g2) ⟨_,cx 2 _ rfl,?_⟩
     by_cases g3:x.res<0
     ·exact cT (dT g3) ⟨rfl,no (by omega)⟩
     refine cF (dF g3) ⟨_,cx 2 _ rfl,?_⟩
     by_cases g4:x.res>1000000
     ·exact cT (dT g4) ⟨rfl,no (by omega)⟩
     refine cF (dF g4) ⟨_,cx 3 _ rfl,?_⟩
     by_cases g5:x.pts<0
     ·exact cT (dT g5) ⟨rfl,no (by omega)⟩
     refine cF (dF g5) ⟨_,cx 3 _ rfl,?_⟩
     by_cases g6:x.pts>1000
     ·exact cT (dT g6) ⟨rfl,no (by omega)⟩
     refine cF (dF g6) ⟨_,cx 4 _ rfl,?_⟩
     by_cases g7:x.grp<0
     ·exact cT (dT g7) ⟨rfl,no (by omega)⟩
     refine cF (dF g7) ⟨_,cx 4 _ rfl,rfl,?_⟩
     by_cases g8:x.grp>4
     ·rw[dT g8]; exact no (by omega)
     ·rw[dF g8];have:rA x=true:=by simp only[rA,Bool.and_eq_true,decide_eq_true_eq]; omega
      rw[this]; rfl
 ·obtain rfl:k=l.length:=by omega
  have hg:∀ i p,l[i]?=some p->iR l i p:=λ i p hp=>ha i p (List.getElem?_eq_some_iff.1 hp).1 hp;have hq:∀ k,((l.take k).map Pr.sup).all dD=true:=λ k=>by
   rw[List.all_eq_true];intro x hx;obtain⟨p,hp,rfl⟩:=List.mem_map.1 hx;obtain⟨i,hi,rfl⟩:=List.mem_iff_getElem.1 (List.mem_of_mem_take hp);have:=(hg i _ (gE hi)).1;simp only[jK,rA,Bool.and_eq_true,decide_eq_true_eq] at this;simp only[dD,Bool.and_eq_true,decide_eq_true_eq];omega
  refine cF (by simp) ⟨λ p n w7 m=>∃ k:Nat,n=k/\k<=l.length/\m=l.length-k/\p=pr ((l.take k).map Pr.sup)/\w7=w1,⟨l.length,0,rfl,by omega,by omega,rfl,rfl⟩,?_⟩;rintro w7 m5 p n ⟨k,rfl,hk,hm5,rfl,rfl⟩ -;have hb:1<=pr ((l.take k).map Pr.sup)/\pr ((l.take k).map Pr.sup)<=15625:=by
   obtain⟨h2,h3⟩:=kz (hq k);refine⟨h2,Int.le_trans h3 ?_⟩;have h4:((l.take k).map Pr.sup).length=k:=by simp; omega
   rw[h4];have hk6:k<=6:=by omega
   match k,hk6 with
   | 0,_|1,_|2,_|3,_|4,_|5,_|6,_=>decide
  by_cases hlt:(k:Int)<(l.length:Int)
  ·have hx:l[k]?=some (l[k]'(by omega)):=gE (by omega);generalize l[k]'(by omega)=x at hx;obtain⟨_,q,hq',hcl⟩:=(h.an hc) k x hx;have hxs:0<=x.sup/\x.sup<=4:=by
    have:=(hg k x hx).1;simp only[jK,rA,Bool.and_eq_true,decide_eq_true_eq] at this;omega
   have hm1:pr ((l.take k).map Pr.sup)*(x.sup+1)<=15625*5:=Int.le_trans (Int.mul_le_mul_of_nonneg_left (show x.sup+1<=5 by omega) (by omega)) (Int.mul_le_mul_of_nonneg_right hb.2 (by omega));have hm0:0<=pr ((l.take k).map Pr.sup)*(x.sup+1):=Int.mul_nonneg (by omega) (by omega);refine cT (by simpa using hlt) ?_;rw[hq'];refine⟨by omega,by omega,x.sup,hcl.2.1,l.length-(k+1),by omega,k+1,by rw[ay ⟨by omega,by omega⟩]; rfl,by omega,rfl,?_,rfl⟩;rw[ay (n:=x.sup+1) ⟨by omega,by omega⟩,ay ⟨by omega,by omega⟩,aQ hx,List.map_append,List.map_cons,List.map_nil,rz]
  ·obtain rfl:k=l.length:=by omega
   rw[List.take_length] at hb ⊢;refine cF (by simp) ?_;have e0:tJ l=if pr (wP l)<=1024 then 0 else 12:=by
    have:=bf (f:=zF l) (n:=0) (l:=l) λ i p hp=>by rw[Nat.zero_add]; exact ku (hg i p hp)
    rw[tJ,if_neg h0,if_neg (by omega),this,if_neg (by decide)]
   rw[rC h6] at e0
   by_cases hp:pr (l.map Pr.sup)<=1024
   ·exact cF (dF (by omega)) (en ⟨by omega,h6,hg,hp⟩ hc (by rw[e0,if_pos hp]))
   ·exact cT (dT (by omega)) (aH (by decide) (λ hh=>hp hh.lim) hc (by rw[e0,if_neg hp]))
structure Br where
 nm:List UInt8
 cls:Int
 bud:Int
 pts:Int
def Br.cells(p:Br):List Value:=[sv p.nm,iv p.cls,iv p.bud,iv p.pts]
def Br.In(p:Br):Prop:=Go.Vc.In p.cls/\Go.Vc.In p.bud/\Go.Vc.In p.pts
def iS(w:World)(a:OA)(l:List Br):Prop:=∀ (i:Nat) (p:Br),l[i]?=some p->p.In/\∃ q,a=some q/\af w (q.add (i*4)) 0 p.cells
theorem iS.an{w w' : World}{a:OA}{l:List Br}(h:iS w a l)(hc:ax w w' []):iS w' a l:=λ i p hp =>
 let ⟨h1,q,hq,h2⟩:=h i p hp
 ⟨h1,q,hq,aK hc h2⟩
theorem iS.take{w:World}{a:OA}{l:List Br}(h:iS w a l)(n:Nat):iS w a (l.take n):=λ i p hp=>by
 rw[List.getElem?_take] at hp
 split at hp
 ·exact h i p hp
 ·cases hp
theorem Br.one(p:Br):∀ v∈p.cells,v.oneCell' = true:=by
 intro v hv; simp[Br.cells] at hv; rcases hv with rfl|rfl|rfl|rfl<;>rfl
theorem IN{a:OA}{c:Nat}:(if c=0 then a else Option.map (λ x=>Addr.add x (0*4)) a)=a:=by
 split
 ·rfl
 ·cases a<;>simp[Addr.add]
theorem G9{w:World}{a:OA}{c:Nat}{l:List Br}(h:iS w a l)(hl:l.length<=1000)(nm:List UInt8) :
  CP 117 #[.slice a l.length c,sv nm] w (λ r w'=>(∃ k:Int,r=.tuple #[iv k,.bool (l.any λ p=>p.nm==nm)])/\ax w w' []):=by
 refine CW ?_;unfold EJ;refine⟨λ n w1 m=>∃ k:Nat,n=k/\k<=l.length/\m=l.length-k/\(l.take k).any (λ p=>p.nm==nm)=false/\ax w w1 [],⟨l.length,0,rfl,by omega,by omega,rfl,ax.refl _ _⟩,?_⟩;rintro w1 m n ⟨k,rfl,hk,hm,ha,hc⟩ -
 by_cases hlt:(k:Int)<(l.length:Int)
 ·have hx:l[k]?=some (l[k]'(by omega)):=gE (by omega);generalize l[k]'(by omega)=x at hx;obtain⟨_,q,rfl,hcl⟩:=(h.an hc) k x hx;refine cT (by simpa using hlt) ⟨by omega,by omega,_,_,_,_,hcl,aR ?_⟩;refine((St.start' hc).one.cm _ 66).az 0 rfl x.cells rfl x.one λ w3 s3=>?_;refine⟨_,by rw[s3.ag 0 rfl]; rfl,?_⟩
  by_cases hn:x.nm=nm
  ·exact cT (by rw[hn]; simp) ⟨⟨k,by rw[cC hx (by simpa using hn)]⟩,s3.an⟩
  ·exact cF (by rw[wW,wW]; simpa using hn) ⟨l.length-(k+1),by omega,k+1,by rw[ay ⟨by omega,by omega⟩]; rfl,by omega,rfl,ck ha hx (by simpa using hn),s3.an⟩
 ·refine cF (by simpa using hlt) ⟨⟨0,?_⟩,hc⟩;rw[List.take_of_length_le (by omega)] at ha;rw[ha]
def lH(x:Br):Bool:=(decide (0<=x.cls)&&decide (x.cls<=4))&&((decide (0<=x.bud)&&decide (x.bud<=1000000))&&(decide (0<=x.pts)&&decide (x.pts<=24000)))
def kW(l:List Br)(i:Nat)(p:Br):Prop:=(bq p.nm&&lH p)=true/\((l.take i).any λ q=>q.nm==p.nm)=false
structure tX (l:List Br):Prop where
 l1:1<=l.length
 l2:l.length<=8
 good:∀ i p,l[i]?=some p->kW l i p
theorem dB{x:Br}(hh : ¬ (0<=x.cls/\x.cls<=4/\0<=x.bud/\x.bud<=1000000/\0<=x.pts/\x.pts<=24000)):true = !lH x:=by
 cases hr:lH x with
 | false=>rfl
 | true =>
  exfalso; apply hh
  simp only[lH,Bool.and_eq_true,decide_eq_true_eq] at hr;omega
def Cq(l:List Br)(i:Nat)(p:Br):Int:=if bq p.nm=false then 5 else if ((l.take i).any λ q=>q.nm==p.nm) then 7 else if lH p=false then 4 else 0
theorem jT{l:List Br}{i:Nat}{p:Br}(h:kW l i p):Cq l i p=0:=by
 obtain⟨h1,h2⟩:=h;rw[Bool.and_eq_true] at h1;rw[Cq,h1.1,h2,h1.2]; rfl
def vt(l:List Br):Int:=if l.length=0 then 1 else if 8<l.length then 3 else fT (Cq l) 0 l
theorem Di{w:World}{a:OA}{c:Nat}{l:List Br}(h:iS w a l)(hcap:l.length<=c) :
  CP 66 #[.slice a l.length c] w ((qx (tX l) (vt l) w)):=by
 refine Ak ?_;unfold BC
 by_cases h0:l.length=0
 ·exact cT (by rw[h0]; rfl) (aH (by decide) (λ hp=>by have:=hp.l1; omega) (ax.refl _ _) (by rw[vt,if_pos h0]))
 refine cF (by simpa using h0) ?_;rcases Nat.lt_or_ge 8 l.length with h6|h6
 ·exact cT (dT (by omega)) (aH (by decide) (λ hp=>by have:=hp.l2; omega) (ax.refl _ _) (by rw[vt,if_neg h0,if_pos h6]))
 refine cF (dF (by omega)) ⟨λ n w1 m=>∃ k:Nat,n=k/\k<=l.length/\m=l.length-k/\(∀ i p,i<k->l[i]?=some p->kW l i p)/\ax w w1 [],⟨l.length,0,rfl,by omega,by omega,λ i p hi=>by omega,ax.refl _ _⟩,?_⟩;rintro w1 m n ⟨k,rfl,hk,hm,ha,hc⟩ -
 by_cases hlt:(k:Int)<(l.length:Int)
 ·have hx:l[k]?=some (l[k]'(by omega)):=gE (by omega);generalize l[k]'(by omega)=x at hx;obtain⟨_,q,hq,hcl⟩:=(h.an hc) k x hx;have bad : ¬ kW l k x->¬ tX l:=λ hb hp=>hb (hp.good k x hx);have bk:∀ {e:Int},e≠0->Cq l k x=e->vt l=e:=λ he h=>by
   have:=cU (f:=Cq l) (n:=0) (λ i p hi hp=>by rw[Nat.zero_add]; exact jT (ha i p hi hp)) hx (by rw[Nat.zero_add,h]; exact he);rw[Nat.zero_add,h] at this;rw[vt,if_neg h0,if_neg (by omega),this]
  refine cT (by simpa using hlt) ?_;rw[hq];refine⟨by omega,by omega,_,_,_,_,hcl,aR ?_⟩;refine((St.start' hc).one.cm _ 66).az 0 rfl x.cells rfl x.one λ w3 s3=>?_;generalize hr1:w1.heap.size=r1 at s3 ⊢;have cx:∀ {w' : World},ax w3 w' []->∀ (j:Nat) (v:Value),x.cells[j]?=some v->w'.cell? ⟨r1,j,none⟩=some v:=λ hc j v hv=>br (by rw[s3.ag 0 rfl]; simpa using hv) hc;refine⟨_,cx (ax.refl _ _) 0 _ rfl,aq (xP w3 x.nm) ?_⟩;rintro v w4 ⟨rfl,rfl⟩;refine⟨_,rfl,?_⟩
  cases hn:bq x.nm with
  | false=>exact cT rfl (aH (by decide) (bad λ hg=>by have:=hg.1; simp[hn] at this) s3.an (bk (by decide) (by rw[Cq,hn]; rfl)))
  | true =>
   have d4:ax w4 w4.drew []:=ax.drew w4 [];refine cF rfl ⟨by omega,by omega,_,cx d4 0 _ rfl,?_⟩;rw[<- hq,IN];have hf:=G9 (c:=c-0) ((h.an (s3.an.trans d4 (by simp))).take k) (by rw[List.length_take]; omega) x.nm;rw[List.length_take,Nat.min_eq_left hk] at hf;refine aq hf ?_;rintro v w5 ⟨⟨kk,rfl⟩,c5⟩;have d5:ax w4 w5 []:=d4.trans c5 (by simp);refine⟨_,_,rfl,?_⟩
   cases hany:((l.take k).any λ p=>p.nm==x.nm) with
   | true=>exact cT rfl (aH (by decide) (bad λ hg=>by have:=hg.2; rw[hany] at this; cases this) (s3.an.trans d5 (by simp)) (bk (by decide) (by rw[Cq,hn,hany]; rfl)))
   | false =>
    refine cF rfl ⟨λ b w6=>w6=w5/\b = !lH x,?_,?_⟩
    ·rintro w6 b ⟨rfl,rfl⟩ -;have c7:=s3.an.trans d5 (by simp)
     cases hr:lH x with
     | false=>exact cT rfl (aH (by decide) (bad λ hg=>by have:=hg.1; simp[hr] at this) c7 (bk (by decide) (by rw[Cq,hn,hany,hr]; rfl)))
     | true =>
      refine cF rfl ⟨l.length-(k+1),by omega,k+1,by rw[ay ⟨by omega,by omega⟩]; rfl,by omega,rfl,λ i p hi hp=>?_,c7⟩;rcases Nat.lt_or_ge i k with h' | h'
      ·exact ha i p h' hp
      ·obtain rfl:i=k:=by omega
       rw[hx] at hp; cases hp;exact⟨by simp[hn,hr],hany⟩
    ·refine⟨_,cx d5 1 _ rfl,?_⟩
     by_cases g1:x.cls<0
     ·exact cT (dT g1) ⟨rfl,dB (by omega)⟩
     refine cF (dF g1) ⟨_,cx d5 1 _ rfl,?_⟩
     by_cases g2:x.cls>4
     ·exact cT (dT g2) ⟨rfl,dB (by omega)⟩
     refine cF (dF g2) ⟨_,cx d5 2 _ rfl,?_⟩
     by_cases g3:x.bud<0
     ·exact cT (dT g3) ⟨rfl,dB (by omega)⟩
     refine cF (dF g3) ⟨_,cx d5 2 _ rfl,?_⟩
     by_cases g4:x.bud>1000000
     ·exact cT (dT g4) ⟨rfl,dB (by omega)⟩
     refine cF (dF g4) ⟨_,cx d5 3 _ rfl,?_⟩
     by_cases g5:x.pts<0
     ·exact cT (dT g5) ⟨rfl,dB (by omega)⟩
     refine cF (dF g5) ⟨_,cx d5 3 _ rfl,rfl,?_⟩
     by_cases g6:x.pts>24000
     ·rw[dT g6]; exact dB (by omega)
     ·rw[dF g6];have:lH x=true:=by simp only[lH,Bool.and_eq_true,decide_eq_true_eq]; omega
      rw[this]; rfl
 ·obtain rfl:k=l.length:=by omega
  exact cF (by simp) (en ⟨by omega,h6,λ i p hp=>ha i p (List.getElem?_eq_some_iff.1 hp).1 hp⟩ hc (by rw[vt,if_neg h0,if_neg (by omega),bf λ i p hp=>by rw[Nat.zero_add]; exact jT (ha i p (List.getElem?_eq_some_iff.1 hp).1 hp)]))
theorem C8{w:World}{a:OA}{c:Nat}{l:List Br}(h:iS w a l)(hl:l.length<=1000){k:Nat}{x:Br}(hx:l[k]?=some x) :
  CP 107 #[.slice a l.length c,sv x.nm] w (λ r w'=>(∃ j:Nat,r=.tuple #[iv j,.bool true]/\(j=k<->((l.take k).any λ p=>p.nm==x.nm)=false))/\w' = w):=by
 have hkl:=(List.getElem?_eq_some_iff.1 hx).1;refine Aw ?_;unfold BO;refine⟨λ n w1 m=>∃ i:Nat,n=i/\i<=k/\m=l.length-i/\(l.take i).any (λ p=>p.nm==x.nm)=false/\w1=w,⟨l.length,0,rfl,by omega,by omega,rfl,rfl⟩,?_⟩;rintro w1 m n ⟨i,rfl,hi,hm,ha,rfl⟩ -;have hlt:(i:Int)<(l.length:Int):=by omega
 have hy:l[i]?=some (l[i]'(by omega)):=gE (by omega);generalize l[i]'(by omega)=y at hy;obtain⟨_,q,hq,hcl⟩:=h i y hy;refine cT (by simpa using hlt) ?_;rw[hq];refine⟨by omega,by omega,bs y.nm,by have:=hcl.1; rwa [Addr.add_add] at this,?_⟩
 by_cases hn:y.nm=x.nm
 ·refine cT (by rw[hn]; simp) ⟨⟨i,rfl,?_,?_⟩,rfl⟩
  ·rintro rfl; exact ha
  ·intro hk;rcases Nat.lt_or_ge i k with h' | h'
   ·have h2:(l.take k)[i]?=some y:=by rw[List.getElem?_take,if_pos h']; exact hy
    rw[cC (p:=λ q=>q.nm==x.nm) h2 (by simpa using hn)] at hk
    cases hk
   ·omega
 ·have hik:i≠k:=λ e=>by subst e; rw[hx] at hy; cases hy; exact hn rfl
  exact cF (by show((bs y.nm).toList==(bs x.nm).toList)=false; rw[wW,wW]; simpa using hn) ⟨l.length-(i+1),by omega,i+1,by rw[ay ⟨by omega,by omega⟩]; rfl,by omega,rfl,ck ha hy (by simpa using hn),rfl⟩
theorem zb{w:World}{a:OA}{c:Nat}{l:List Br}(h:iS w a l) :
  CP 56 #[.slice a l.length c] w ((qx (tX l) (vt l) w)):=by
 refine yA ?_;unfold yz
 by_cases h0:l.length=0
 ·exact cT (by rw[h0]; rfl) (aH (by decide) (λ hp=>by have:=hp.l1; omega) (ax.refl _ _) (by rw[vt,if_pos h0]))
 refine cF (by simpa using h0) ?_;rcases Nat.lt_or_ge 8 l.length with h6|h6
 ·exact cT (dT (by omega)) (aH (by decide) (λ hp=>by have:=hp.l2; omega) (ax.refl _ _) (by rw[vt,if_neg h0,if_pos h6]))
 refine cF (dF (by omega)) ⟨λ n w1 m=>∃ k:Nat,n=k/\k<=l.length/\m=l.length-k/\(∀ i p,i<k->l[i]?=some p->kW l i p)/\ax w w1 [],⟨l.length,0,rfl,by omega,by omega,λ i p hi=>by omega,ax.refl _ _⟩,?_⟩;rintro w1 m n ⟨k,rfl,hk,hm,ha,hc⟩ -
 by_cases hlt:(k:Int)<(l.length:Int)
 ·have hx:l[k]?=some (l[k]'(by omega)):=gE (by omega);generalize l[k]'(by omega)=x at hx;obtain⟨_,q,hq,hcl⟩:=(h.an hc) k x hx;have bad : ¬ kW l k x->¬ tX l:=λ hb hp=>hb (hp.good k x hx);have bk:∀ {e:Int},e≠0->Cq l k x=e->vt l=e:=λ he h=>by
   have:=cU (f:=Cq l) (n:=0) (λ i p hi hp=>by rw[Nat.zero_add]; exact jT (ha i p hi hp)) hx (by rw[Nat.zero_add,h]; exact he);rw[Nat.zero_add,h] at this;rw[vt,if_neg h0,if_neg (by omega),this]
  have at0:∀ {w' : World},ax w1 w' []->w'.cell? (q.add (k*4))=some (sv x.nm):=λ hc'=>by
   have:=(aK hc' hcl).1
   rwa [Addr.add_add] at this
  refine cT (by simpa using hlt) ?_;rw[hq];refine⟨by omega,by omega,bs x.nm,at0 (ax.refl _ _),aq (zY w1 x.nm) ?_⟩;rintro v w2 ⟨rfl,c2⟩;have c02:=hc.trans c2 (by simp);refine⟨_,rfl,?_⟩
  cases hn:bq x.nm with
  | false=>exact cT rfl (aH (by decide) (bad λ hg=>by have:=hg.1; simp[hn] at this) c02 (bk (by decide) (by rw[Cq,hn]; rfl)))
  | true =>
   refine cF rfl ⟨by omega,by omega,bs x.nm,at0 c2,?_⟩;rw[<- hq];refine aq (C8 (h.an c02) (by omega) hx) ?_;rintro v w3 ⟨⟨j,rfl,hj⟩,rfl⟩;refine⟨_,_,rfl,?_⟩
   by_cases hjk:j=k
   ·have hany:=hj.1 hjk;have c1:=(aK c2 hcl).2.1;have c3:=(aK c2 hcl).2.2.1;have c5:=(aK c2 hcl).2.2.2.1;refine cF (by rw[hjk]; simp) ⟨λ b w4=>w4=w3/\b = !lH x,?_,?_⟩
    ·rintro w4 b ⟨rfl,rfl⟩ -
     cases hr:lH x with
     | false=>exact cT rfl (aH (by decide) (bad λ hg=>by have:=hg.1; simp[hr] at this) c02 (bk (by decide) (by rw[Cq,hn,hany,hr]; rfl)))
     | true =>
      refine cF rfl ⟨l.length-(k+1),by omega,k+1,by rw[ay ⟨by omega,by omega⟩]; rfl,by omega,rfl,λ i p hi hp=>?_,c02⟩;rcases Nat.lt_or_ge i k with h' | h'
      ·exact ha i p h' hp
      ·obtain rfl:i=k:=by omega
       rw[hx] at hp; cases hp;exact⟨by simp[hn,hr],hany⟩
    ·rw[hq];refine⟨by omega,by omega,_,c1,?_⟩
     by_cases g1:x.cls<0
     ·exact cT (dT g1) ⟨rfl,dB (by omega)⟩
     refine cF (dF g1) ⟨by omega,by omega,_,c1,?_⟩
     by_cases g2:x.cls>4
     ·exact cT (dT g2) ⟨rfl,dB (by omega)⟩
     refine cF (dF g2) ⟨by omega,by omega,_,c3,?_⟩
     by_cases g3:x.bud<0
     ·exact cT (dT g3) ⟨rfl,dB (by omega)⟩
     refine cF (dF g3) ⟨by omega,by omega,_,c3,?_⟩
     by_cases g4:x.bud>1000000
     ·exact cT (dT g4) ⟨rfl,dB (by omega)⟩
     refine cF (dF g4) ⟨by omega,by omega,_,c5,?_⟩
     by_cases g5:x.pts<0
     ·exact cT (dT g5) ⟨rfl,dB (by omega)⟩
     refine cF (dF g5) ⟨by omega,by omega,_,c5,rfl,?_⟩
     by_cases g6:x.pts>24000
     ·rw[dT g6]; exact dB (by omega)
     ·rw[dF g6];have:lH x=true:=by simp only[lH,Bool.and_eq_true,decide_eq_true_eq]; omega
      rw[this]; rfl
   ·refine cT (by simp; omega) (aH (by decide) (bad λ hg=>hjk (hj.2 hg.2)) c02 (bk (by decide) (by rw[Cq,hn,show((l.take k).any λ q=>q.nm==x.nm)=true from by cases h:((l.take k).any λ q=>q.nm==x.nm)<;>first|rfl|exact absurd (hj.2 h) hjk]; rfl)))
 ·obtain rfl:k=l.length:=by omega
  exact cF (by simp) (en ⟨by omega,h6,λ i p hp=>ha i p (List.getElem?_eq_some_iff.1 hp).1 hp⟩ hc (by rw[vt,if_neg h0,if_neg (by omega),bf λ i p hp=>by rw[Nat.zero_add]; exact jT (ha i p (List.getElem?_eq_some_iff.1 hp).1 hp)]))
structure T3 where
 a:Int
 b:Int
 c:Int
def T3.cells(p:T3):List Value:=[iv p.a,iv p.b,iv p.c]
def Ci(w:World)(a:OA)(l:List T3):Prop:=∀ (i:Nat) (p:T3),l[i]?=some p->∃ q,a=some q/\af w (q.add (i*3)) 0 p.cells
theorem Ci.an{w w' : World}{a:OA}{l:List T3}(h:Ci w a l)(hc:ax w w' []):Ci w' a l:=λ i p hp =>
 let ⟨q,hq,h2⟩:=h i p hp
 ⟨q,hq,aK hc h2⟩
theorem T3.one(p:T3):∀ v∈p.cells,v.oneCell' = true:=by
 intro v hv; simp[T3.cells] at hv; rcases hv with rfl|rfl|rfl<;>rfl
theorem slice3{a:OA}{c:Nat}:(if c=0 then a else Option.map (λ x=>Addr.add x (0*3)) a)=a:=by
 split
 ·rfl
 ·cases a<;>simp[Addr.add]
def lZ(n:Nat)(x:T3):Bool:=(decide (-1<=x.a)&&decide (x.a<(n:Int)))&&((decide (0<=x.b)&&decide (x.b<=4))&&(decide (0<=x.c)&&decide (x.c<=24)))
def bS(x y:T3):Bool:=y.a==x.a&&y.b==x.b
def tY(n:Nat)(l:List T3)(i:Nat)(p:T3):Prop:=lZ n p=true/\((l.take i).any λ q=>bS p q)=false
structure vo (n:Nat) (l:List T3):Prop where
 l1:l.length<=16
 good:∀ i p,l[i]?=some p->tY n l i p
def Bb(n:Nat)(l:List T3)(i:Nat)(x:T3):Int:=if (decide (-1<=x.a)&&decide (x.a<(n:Int)))=false then 6 else if ((decide (0<=x.b)&&decide (x.b<=4))&&(decide (0<=x.c)&&decide (x.c<=24)))=false then 4 else if ((l.take i).any λ q=>bS x q) then 7 else 0
theorem j7{n:Nat}{l:List T3}{i:Nat}{p:T3}(h:tY n l i p):Bb n l i p=0:=by
 obtain⟨h1,h2⟩:=h;unfold lZ at h1;rw[Bool.and_eq_true] at h1;rw[Bb,h1.1,h1.2,h2]; rfl
def zO(n:Nat)(l:List T3):Int:=if 16<l.length then 3 else fT (Bb n l) 0 l
theorem F9{w:World}{a1 a2 a3 a4:OA}{l1 c1 l2 c2 c3 l4 c4:Nat}{l:List T3}(h:Ci w a3 l)(hcap:l.length<=c3) :
  CP 67 #[.agg #[.slice a1 l1 c1,.slice a2 l2 c2,.slice a3 l.length c3,.slice a4 l4 c4]] w ((qx (vo l2 l) (zO l2 l) w)):=by
 refine su ?_;unfold qc;refine aR ?_;have s1:=(St.start w).one.cm #[.slice a1 l1 c1,.slice a2 l2 c2,.slice a3 l.length c3,.slice a4 l4 c4] 27;generalize hw1:w.alloc _=w1 at s1 ⊢;generalize hr1:w.heap.size=r1 at s1 ⊢;have cb:∀ {w' : World},ax w1 w' []->∀ (j:Nat) (v:Value),(#[.slice a1 l1 c1,.slice a2 l2 c2,.slice a3 l.length c3,.slice a4 l4 c4]:Array Value)[j]?=some v->w'.cell? ⟨r1,j,none⟩=some v:=λ hc j v hv=>br (by rw[s1.ag 0 rfl]; exact hv) hc;have z1:ax w1 w1 []:=ax.refl _ _;refine⟨_,_,_,cb z1 2 _ rfl,?_⟩;rcases Nat.lt_or_ge 16 l.length with h6|h6
 ·exact cT (dT (by omega)) (aH (by decide) (λ hp=>by have:=hp.l1; omega) s1.an (by rw[zO,if_pos h6]))
 refine cF (dF (by omega)) ⟨_,_,_,cb z1 2 _ rfl,λ n w2 m=>∃ k:Nat,n=k/\k<=l.length/\m=l.length-k/\(∀ i p,i<k->l[i]?=some p->tY l2 l i p)/\ax w1 w2 [],⟨l.length,0,rfl,by omega,by omega,λ i p hi=>by omega,z1⟩,?_⟩;rintro w2 m n ⟨k,rfl,hk,hm,ha,hc⟩ -;have hcw:ax w w2 []:=s1.an.trans hc (by simp)
 by_cases hlt:(k:Int)<(l.length:Int)
 ·have hx:l[k]?=some (l[k]'(by omega)):=gE (by omega);generalize l[k]'(by omega)=x at hx;obtain⟨q,hq,hcl⟩:=(h.an hcw) k x hx;have bad : ¬ tY l2 l k x->¬ vo l2 l:=λ hb hp=>hb (hp.good k x hx);have bk:∀ {e:Int},e≠0->Bb l2 l k x=e->zO l2 l=e:=λ he h=>by
   have:=cU (f:=Bb l2 l) (n:=0) (λ i p hi hp=>by rw[Nat.zero_add]; exact j7 (ha i p hi hp)) hx (by rw[Nat.zero_add,h]; exact he);rw[Nat.zero_add,h] at this;rw[zO,if_neg (by omega),this]
  refine cT (by simpa using hlt) ?_;rw[hq];refine⟨by omega,by omega,_,_,_,hcl,aR ?_⟩;refine((St.start w2).one.cm _ 113).az 0 rfl x.cells rfl x.one λ w4 s4=>?_;generalize hr2:w2.heap.size=r2 at s4 ⊢;have d4:ax w1 w4 []:=hc.trans s4.an (by simp);have cw4:ax w w4 []:=s1.an.trans d4 (by simp);have cx:∀ {w' : World},ax w4 w' []->∀ (j:Nat) (v:Value),x.cells[j]?=some v->w'.cell? ⟨r2,j,none⟩=some v:=λ hc j v hv=>br (by rw[s4.ag 0 rfl]; simpa using hv) hc;have z4:ax w4 w4 []:=ax.refl _ _;refine⟨λ b w5=>w5=w4/\b = !(decide (-1<=x.a)&&decide (x.a<(l2:Int))),?_,?_⟩
  ·rintro w5 b ⟨rfl,rfl⟩ -
   cases g0:(decide (-1<=x.a)&&decide (x.a<(l2:Int))) with
   | false=>exact cT rfl (aH (by decide) (bad λ hg=>by have:=hg.1; unfold lZ at this; rw[g0] at this; cases this) cw4 (bk (by decide) (by rw[Bb,g0]; rfl)))
   | true =>
    refine cF rfl ⟨λ b w6=>w6=w5/\b = !((decide (0<=x.b)&&decide (x.b<=4))&&(decide (0<=x.c)&&decide (x.c<=24))),?_,?_⟩
    ·rintro w6 b ⟨rfl,rfl⟩ -
     cases g1:((decide (0<=x.b)&&decide (x.b<=4))&&(decide (0<=x.c)&&decide (x.c<=24))) with
     | false=>exact cT rfl (aH (by decide) (bad λ hg=>by have:=hg.1; unfold lZ at this; rw[g0,g1] at this; cases this) cw4 (bk (by decide) (by rw[Bb,g0,g1]; rfl)))
     | true =>
      refine cF rfl ⟨_,_,_,cb d4 2 _ rfl,by omega,by omega,λ n w7 m=>∃ j:Nat,n=j/\j<=k/\m=k-j/\(l.take j).any (λ p=>bS x p)=false/\ax w6 w7 [],⟨k,0,rfl,by omega,by omega,rfl,z4⟩,?_⟩;rintro w7 m7 n7 ⟨j,rfl,hj,hm7,hany,c7⟩ -
      by_cases hjk:(j:Int)<(k:Int)
      ·have hy:l[j]?=some (l[j]'(by omega)):=gE (by omega);generalize l[j]'(by omega)=y at hy;obtain⟨q',hq',hcl'⟩:=(h.an (cw4.trans c7 (by simp))) j y hy;rw[hq] at hq'; cases hq';refine cT (by simpa using hjk) ?_;rw[slice3,hq];refine⟨by omega,by simpa using hjk,_,_,_,hcl',aR ?_⟩;refine((St.start' c7).one.cm _ 113).az 0 rfl y.cells rfl y.one λ w9 s9=>?_;have cy:∀ (j:Nat) (v:Value),y.cells[j]?=some v->w9.cell? ⟨w7.heap.size,j,none⟩=some v:=λ j v hv=>by rw[s9.ag 0 rfl]; simpa using hv
       refine⟨λ b w10=>w10=w9/\b=bS x y,?_,_,cy 0 _ rfl,_,cx s9.an 0 _ rfl,?_⟩
       ·rintro w10 b ⟨rfl,rfl⟩ -
        cases hs:bS x y with
        | true =>
         have h2:(l.take k)[j]?=some y:=by rw[List.getElem?_take,if_pos (by omega)]; exact hy
         have h3:=cC (p:=λ q=>bS x q) h2 hs;refine cT rfl (aH (by decide) (bad λ hg=>?_) (cw4.trans s9.an (by simp)) (bk (by decide) (by rw[Bb,g0,g1,h3]; rfl)));have h1:=hg.2;rw[h3] at h1
         cases h1
        | false=>exact cF rfl ⟨k-(j+1),by omega,j+1,by rw[ay ⟨by omega,by omega⟩]; rfl,by omega,rfl,ck hany hy hs,s9.an⟩
       ·by_cases hA:y.a=x.a
        ·refine cT (by simpa using hA) ⟨_,cy 1 _ rfl,_,cx s9.an 1 _ rfl,rfl,?_⟩;simp[bS,hA]
        ·exact cF (by simpa using hA) ⟨rfl,by simp[bS,hA]⟩
      ·obtain rfl:j=k:=by omega
       refine cF (by simp) ⟨l.length-(j+1),by omega,j+1,by rw[ay ⟨by omega,by omega⟩]; rfl,by omega,rfl,λ i p hi hp=>?_,d4.trans c7 (by simp)⟩;rcases Nat.lt_or_ge i j with h' | h'
       ·exact ha i p h' hp
       ·obtain rfl:i=j:=by omega
        rw[hx] at hp; cases hp;exact⟨by unfold lZ; rw[g0,g1]; rfl,hany⟩
    ·have no : ¬ (0<=x.b/\x.b<=4/\0<=x.c/\x.c<=24)->true = !((decide (0<=x.b)&&decide (x.b<=4))&&(decide (0<=x.c)&&decide (x.c<=24))):=λ hh=>by
      cases hr:((decide (0<=x.b)&&decide (x.b<=4))&&(decide (0<=x.c)&&decide (x.c<=24))) with
      | false=>rfl
      | true =>
       exfalso; apply hh
       simp only[Bool.and_eq_true,decide_eq_true_eq] at hr;omega
     refine⟨_,cx z4 1 _ rfl,?_⟩
     by_cases g1:x.b<0
     ·exact cT (dT g1) ⟨rfl,no (by omega)⟩
     refine cF (dF g1) ⟨_,cx z4 1 _ rfl,?_⟩
     by_cases g2:x.b>4
     ·exact cT (dT g2) ⟨rfl,no (by omega)⟩
     refine cF (dF g2) ⟨_,cx z4 2 _ rfl,?_⟩
     by_cases g3:x.c<0
     ·exact cT (dT g3) ⟨rfl,no (by omega)⟩
     refine cF (dF g3) ⟨_,cx z4 2 _ rfl,rfl,?_⟩
     by_cases g4:x.c>24
     ·rw[dT g4]; exact no (by omega)
     ·rw[dF g4,dT (show 0<=x.b by omega),dT (show x.b<=4 by omega),dT (show 0<=x.c by omega),dT (show x.c<=24 by omega)];rfl
  ·refine⟨_,cx z4 0 _ rfl,?_⟩
   by_cases g1:x.a < -1
   ·exact cT (dT g1) ⟨rfl,by rw[dF (show ¬ -1<=x.a by omega)]; rfl⟩
   ·refine cF (dF g1) ⟨_,cx z4 0 _ rfl,_,_,_,cb d4 1 _ rfl,rfl,?_⟩;rw[dT (show -1<=x.a by omega),Bool.true_and]
    by_cases g2:x.a<(l2:Int)
    ·rw[dT g2,dF (by omega)]; rfl
    ·rw[dF g2,dT (by omega)]; rfl
 ·obtain rfl:k=l.length:=by omega
  exact cF (by simp) (en ⟨h6,λ i p hp=>ha i p (List.getElem?_eq_some_iff.1 hp).1 hp⟩ hcw (by rw[zO,if_neg (by omega),bf λ i p hp=>by rw[Nat.zero_add]; exact j7 (ha i p (List.getElem?_eq_some_iff.1 hp).1 hp)]))
def rJ(ps:List Pr)(x:T3):Bool:=(decide (0<=x.a)&&decide (x.a<(ps.length:Int)))&&((decide (1<=x.b)&&decide (x.b<=4))&&(decide (1<=x.c)&&decide (x.c<=((ps[x.a.toNat]?.map Pr.sup).getD 0))))
def sameAs(x y:T3):Bool:=y.a==x.a
def tV(ps:List Pr)(l:List T3)(i:Nat)(p:T3):Prop:=rJ ps p=true/\((l.take i).any λ q=>sameAs p q)=false
structure fG (ps:List Pr) (l:List T3):Prop where
 l1:l.length<=6
 good:∀ i p,l[i]?=some p->tV ps l i p
def Dp(ps:List Pr)(l:List T3)(i:Nat)(x:T3):Int:=if (decide (0<=x.a)&&decide (x.a<(ps.length:Int)))=false then 6 else if ((decide (1<=x.b)&&decide (x.b<=4))&&(decide (1<=x.c)&&decide (x.c<=((ps[x.a.toNat]?.map Pr.sup).getD 0))))=false then 4 else if ((l.take i).any λ q=>sameAs x q) then 7 else 0
theorem kP{ps:List Pr}{l:List T3}{i:Nat}{p:T3}(h:tV ps l i p):Dp ps l i p=0:=by
 obtain⟨h1,h2⟩:=h;unfold rJ at h1;rw[Bool.and_eq_true] at h1;rw[Dp,h1.1,h1.2,h2]; rfl
def Dr(ps:List Pr)(l:List T3):Int:=if 6<l.length then 3 else fT (Dp ps l) 0 l
theorem Cp{w:World}{a1 a2 a3 a4:OA}{c1 l2 c2 l3 c3 c4:Nat}{ps:List Pr}{l:List T3}(hP:dX w a1 ps)(h:Ci w a4 l)(hcap:l.length<=c4) :
  CP 68 #[.agg #[.slice a1 ps.length c1,.slice a2 l2 c2,.slice a3 l3 c3,.slice a4 l.length c4]] w ((qx (fG ps l) (Dr ps l) w)):=by
 refine pz ?_;unfold mo;refine aR ?_;have s1:=(St.start w).one.cm #[.slice a1 ps.length c1,.slice a2 l2 c2,.slice a3 l3 c3,.slice a4 l.length c4] 27;generalize hw1:w.alloc _=w1 at s1 ⊢;generalize hr1:w.heap.size=r1 at s1 ⊢;have cb:∀ {w' : World},ax w1 w' []->∀ (j:Nat) (v:Value),(#[.slice a1 ps.length c1,.slice a2 l2 c2,.slice a3 l3 c3,.slice a4 l.length c4]:Array Value)[j]?=some v->w'.cell? ⟨r1,j,none⟩=some v:=λ hc j v hv=>br (by rw[s1.ag 0 rfl]; exact hv) hc;have z1:ax w1 w1 []:=ax.refl _ _;refine⟨_,_,_,cb z1 3 _ rfl,?_⟩;rcases Nat.lt_or_ge 6 l.length with h6|h6
 ·exact cT (dT (by omega)) (aH (by decide) (λ hp=>by have:=hp.l1; omega) s1.an (by rw[Dr,if_pos h6]))
 refine cF (dF (by omega)) ⟨_,_,_,cb z1 3 _ rfl,λ n w2 m=>∃ k:Nat,n=k/\k<=l.length/\m=l.length-k/\(∀ i p,i<k->l[i]?=some p->tV ps l i p)/\ax w1 w2 [],⟨l.length,0,rfl,by omega,by omega,λ i p hi=>by omega,z1⟩,?_⟩;rintro w2 m n ⟨k,rfl,hk,hm,ha,hc⟩ -;have hcw:ax w w2 []:=s1.an.trans hc (by simp)
 by_cases hlt:(k:Int)<(l.length:Int)
 ·have hx:l[k]?=some (l[k]'(by omega)):=gE (by omega);generalize l[k]'(by omega)=x at hx;obtain⟨q,hq,hcl⟩:=(h.an hcw) k x hx;have bad : ¬ tV ps l k x->¬ fG ps l:=λ hb hp=>hb (hp.good k x hx);have bk:∀ {e:Int},e≠0->Dp ps l k x=e->Dr ps l=e:=λ he h=>by
   have:=cU (f:=Dp ps l) (n:=0) (λ i p hi hp=>by rw[Nat.zero_add]; exact kP (ha i p hi hp)) hx (by rw[Nat.zero_add,h]; exact he);rw[Nat.zero_add,h] at this;rw[Dr,if_neg (by omega),this]
  refine cT (by simpa using hlt) ?_;rw[hq];refine⟨by omega,by omega,_,_,_,hcl,aR ?_⟩;refine((St.start w2).one.cm _ 115).az 0 rfl x.cells rfl x.one λ w4 s4=>?_;generalize hr2:w2.heap.size=r2 at s4 ⊢;have d4:ax w1 w4 []:=hc.trans s4.an (by simp);have cw4:ax w w4 []:=s1.an.trans d4 (by simp);have cx:∀ {w' : World},ax w4 w' []->∀ (j:Nat) (v:Value),x.cells[j]?=some v->w'.cell? ⟨r2,j,none⟩=some v:=λ hc j v hv=>br (by rw[s4.ag 0 rfl]; simpa using hv) hc;have z4:ax w4 w4 []:=ax.refl _ _;refine⟨λ b w5=>w5=w4/\b = !(decide (0<=x.a)&&decide (x.a<(ps.length:Int))),?_,?_⟩
  ·rintro w5 b ⟨rfl,rfl⟩ -
   cases g0:(decide (0<=x.a)&&decide (x.a<(ps.length:Int))) with
   | false=>exact cT rfl (aH (by decide) (bad λ hg=>by have:=hg.1; unfold rJ at this; rw[g0] at this; cases this) cw4 (bk (by decide) (by rw[Dp,g0]; rfl)))
   | true =>
    have d45:ax w5 w5.drew []:=ax.drew w5 [];refine cF rfl ⟨λ b w6=>w6=w5.drew/\b = !((decide (1<=x.b)&&decide (x.b<=4))&&(decide (1<=x.c)&&decide (x.c<=((ps[x.a.toNat]?.map Pr.sup).getD 0)))),?_,?_⟩
    ·rintro w6 b ⟨rfl,rfl⟩ -
     cases g1:((decide (1<=x.b)&&decide (x.b<=4))&&(decide (1<=x.c)&&decide (x.c<=((ps[x.a.toNat]?.map Pr.sup).getD 0)))) with
     | false=>exact cT rfl (aH (by decide) (bad λ hg=>by have:=hg.1; unfold rJ at this; rw[g0,g1] at this; cases this) (cw4.trans d45 (by simp)) (bk (by decide) (by rw[Dp,g0,g1]; rfl)))
     | true =>
      refine cF rfl ⟨_,_,_,cb (d4.trans d45 (by simp)) 3 _ rfl,by omega,by omega,λ n w7 m=>∃ j:Nat,n=j/\j<=k/\m=k-j/\(l.take j).any (λ p=>sameAs x p)=false/\ax w5 w7 [],⟨k,0,rfl,by omega,by omega,rfl,d45⟩,?_⟩;rintro w7 m7 n7 ⟨j,rfl,hj,hm7,hany,c7⟩ -
      by_cases hjk:(j:Int)<(k:Int)
      ·have hy:l[j]?=some (l[j]'(by omega)):=gE (by omega);generalize l[j]'(by omega)=y at hy;obtain⟨q',hq',hcl'⟩:=(h.an (cw4.trans c7 (by simp))) j y hy;rw[hq] at hq'; cases hq';refine cT (by simpa using hjk) ?_;rw[slice3,hq];refine⟨by omega,by simpa using hjk,_,_,_,hcl',aR ?_⟩;refine((St.start' c7).one.cm _ 115).az 0 rfl y.cells rfl y.one λ w9 s9=>?_;have cy:∀ (j:Nat) (v:Value),y.cells[j]?=some v->w9.cell? ⟨w7.heap.size,j,none⟩=some v:=λ j v hv=>by rw[s9.ag 0 rfl]; simpa using hv
       refine⟨_,cy 0 _ rfl,_,cx s9.an 0 _ rfl,?_⟩
       by_cases hA:y.a=x.a
       ·have h2:(l.take k)[j]?=some y:=by rw[List.getElem?_take,if_pos (by omega)]; exact hy
        have h3:=cC (p:=λ q=>sameAs x q) h2 (by simpa[sameAs] using hA);refine cT (by simpa using hA) (aH (by decide) (bad λ hg=>?_) (cw4.trans s9.an (by simp)) (bk (by decide) (by rw[Dp,g0,g1,h3]; rfl)));have h1:=hg.2;rw[h3] at h1
        cases h1
       ·exact cF (by simpa using hA) ⟨k-(j+1),by omega,j+1,by rw[ay ⟨by omega,by omega⟩]; rfl,by omega,rfl,ck hany hy (by simpa[sameAs] using hA),s9.an⟩
      ·obtain rfl:j=k:=by omega
       refine cF (by simp) ⟨l.length-(j+1),by omega,j+1,by rw[ay ⟨by omega,by omega⟩]; rfl,by omega,rfl,λ i p hi hp=>?_,d4.trans c7 (by simp)⟩;rcases Nat.lt_or_ge i j with h' | h'
       ·exact ha i p h' hp
       ·obtain rfl:i=j:=by omega
        rw[hx] at hp; cases hp;exact⟨by unfold rJ; rw[g0,g1]; rfl,hany⟩
    ·simp only[Bool.and_eq_true,decide_eq_true_eq] at g0;have hpx:ps[x.a.toNat]?=some (ps[x.a.toNat]'(by omega)):=gE (by omega);generalize ps[x.a.toNat]'(by omega)=y at hpx;rw[hpx,Option.map_some,Option.getD_some];have no : ¬ (1<=x.b/\x.b<=4/\1<=x.c/\x.c<=y.sup)->true = !((decide (1<=x.b)&&decide (x.b<=4))&&(decide (1<=x.c)&&decide (x.c<=y.sup))):=λ hh=>by
      cases hr:((decide (1<=x.b)&&decide (x.b<=4))&&(decide (1<=x.c)&&decide (x.c<=y.sup))) with
      | false=>rfl
      | true =>
       exfalso; apply hh
       simp only[Bool.and_eq_true,decide_eq_true_eq] at hr;omega
     refine⟨_,cx d45 1 _ rfl,?_⟩
     by_cases g1:x.b<1
     ·exact cT (dT g1) ⟨rfl,no (by omega)⟩
     refine cF (dF g1) ⟨_,cx d45 1 _ rfl,?_⟩
     by_cases g2:x.b>4
     ·exact cT (dT g2) ⟨rfl,no (by omega)⟩
     refine cF (dF g2) ⟨_,cx d45 2 _ rfl,?_⟩
     by_cases g3:x.c<1
     ·exact cT (dT g3) ⟨rfl,no (by omega)⟩
     obtain⟨_,qp,hqp,hyc⟩:=(hP.an (cw4.trans d45 (by simp))) x.a.toNat y hpx;refine cF (dF g3) ⟨_,cx d45 2 _ rfl,_,_,_,cb (d4.trans d45 (by simp)) 0 _ rfl,_,cx d45 0 _ rfl,?_⟩;rw[hqp];refine⟨by omega,by omega,y.sup,hyc.2.1,rfl,?_⟩
     by_cases g4:x.c>y.sup
     ·rw[dT g4]; exact no (by omega)
     ·rw[dF g4,dT (show 1<=x.b by omega),dT (show x.b<=4 by omega),dT (show 1<=x.c by omega),dT (show x.c<=y.sup by omega)];rfl
  ·refine⟨_,cx z4 0 _ rfl,?_⟩
   by_cases g1:x.a<0
   ·exact cT (dT g1) ⟨rfl,by rw[dF (show ¬ 0<=x.a by omega)]; rfl⟩
   ·refine cF (dF g1) ⟨_,cx z4 0 _ rfl,_,_,_,cb d4 0 _ rfl,rfl,?_⟩;rw[dT (show 0<=x.a by omega),Bool.true_and]
    by_cases g2:x.a<(ps.length:Int)
    ·rw[dT g2,dF (by omega)]; rfl
    ·rw[dF g2,dT (by omega)]; rfl
 ·obtain rfl:k=l.length:=by omega
  exact cF (by simp) (en ⟨h6,λ i p hp=>ha i p (List.getElem?_eq_some_iff.1 hp).1 hp⟩ hcw (by rw[Dr,if_neg (by omega),bf λ i p hp=>by rw[Nat.zero_add]; exact kP (ha i p (List.getElem?_eq_some_iff.1 hp).1 hp)]))
structure Se where
 ps:List Pr
 bd:List Br
 cp:List T3
 sa:List T3
 a1:Option Addr
 c1:Nat
 a2:Option Addr
 c2:Nat
 a3:Option Addr
 c3:Nat
 a4:Option Addr
 c4:Nat
def Se.arr(s:Se):Array Value:=#[.slice s.a1 s.ps.length s.c1,.slice s.a2 s.bd.length s.c2,.slice s.a3 s.cp.length s.c3,.slice s.a4 s.sa.length s.c4]
structure Se.In (s:Se) (w:World):Prop where
 ps:dX w s.a1 s.ps
 bd:iS w s.a2 s.bd
 cp:Ci w s.a3 s.cp
 sa:Ci w s.a4 s.sa
 h1:s.ps.length<=s.c1
 h2:s.bd.length<=s.c2
 h3:s.cp.length<=s.c3
 h4:s.sa.length<=s.c4
theorem Se.In.an{s:Se}{w w' : World}(h:s.In w)(hc:ax w w' []):s.In w':=⟨h.ps.an hc,h.bd.an hc,h.cp.an hc,h.sa.an hc,h.h1,h.h2,h.h3,h.h4⟩
structure Se.Ok (s:Se):Prop where
 ps:bZ s.ps
 bd:tX s.bd
 cp:vo s.bd.length s.cp
 sa:fG s.ps s.sa
def jP(s:Se):Int:=if tJ s.ps≠0 then tJ s.ps else if vt s.bd≠0 then vt s.bd else if zO s.bd.length s.cp≠0 then zO s.bd.length s.cp else Dr s.ps s.sa
theorem lB{w:World}{s:Se}(h:s.In w):CP 34 #[.agg s.arr] w ((qx s.Ok (jP s) w)):=by
 refine Al ?_;unfold BD;refine aR ?_;have s1:=(St.start w).one.cm #[.slice s.a1 s.ps.length s.c1,.slice s.a2 s.bd.length s.c2,.slice s.a3 s.cp.length s.c3,.slice s.a4 s.sa.length s.c4] 27;generalize hw1:w.alloc _=w1 at s1 ⊢;generalize hr1:w.heap.size=r1 at s1 ⊢;refine⟨_,_,_,by rw[s1.ag 0 rfl]; rfl,aq (uf (h.an s1.an).ps h.h1) ?_⟩;rintro v w2 ⟨⟨rfl,e1⟩,d2⟩;have s2:=s1.quiet d2;refine⟨_,rfl,?_⟩
 by_cases g1:tJ s.ps=0
 ·refine cF (by simpa using g1) ⟨_,_,_,by rw[s2.ag 0 rfl]; rfl,aq (Di (h.an s2.an).bd h.h2) ?_⟩;rintro v w3 ⟨⟨rfl,e2⟩,d3⟩;have s3:=s2.quiet d3;refine⟨_,rfl,?_⟩
  by_cases g2:vt s.bd=0
  ·refine cF (by simpa using g2) ⟨_,_,_,_,_,_,_,_,_,_,_,_,s3.cellsIn 0 rfl,aq (F9 (h.an s3.an).cp h.h3) ?_⟩;rintro v w4 ⟨⟨rfl,e3⟩,d4⟩;have s4:=s3.quiet d4;refine⟨_,rfl,?_⟩
   by_cases g3:zO s.bd.length s.cp=0
   ·refine cF (by simpa using g3) ⟨_,_,_,_,_,_,_,_,_,_,_,_,s4.cellsIn 0 rfl,aq (Cp (h.an s4.an).ps (h.an s4.an).sa h.h4) ?_⟩;rintro v w5 ⟨⟨rfl,e4⟩,d5⟩;have s5:=s4.quiet d5;have e0:jP s=Dr s.ps s.sa:=by rw[jP,if_neg (λ h=>h g1),if_neg (λ h=>h g2),if_neg (λ h=>h g3)]
    exact⟨_,rfl,⟨by rw[e0],by rw[e0]; exact⟨λ h0=>⟨e1.1 g1,e2.1 g2,e3.1 g3,e4.1 h0⟩,λ hk=>e4.2 hk.sa⟩⟩,s5.an⟩
   ·exact cT (by simpa using g3) (aH g3 (λ hk=>g3 (e3.2 hk.cp)) s4.an (by rw[jP,if_neg (λ h=>h g1),if_neg (λ h=>h g2),if_pos g3]))
  ·exact cT (by simpa using g2) (aH g2 (λ hk=>g2 (e2.2 hk.bd)) s3.an (by rw[jP,if_neg (λ h=>h g1),if_pos g2]))
 ·exact cT (by simpa using g1) (aH g1 (λ hk=>g1 (e1.2 hk.ps)) s2.an (by rw[jP,if_pos g1]))
theorem zn{w:World}{s:Se}(h:s.In w):CP 34 #[.agg s.arr] w ((HR s.Ok w)):=aq (lB h) λ _ _ h=>⟨_,rfl,h.old⟩
def mb(a:OA)(b c:Nat)(d:Int)(e:I6)(w:World)(K:KP):=au w (.cells #[iv d] 3) λ d f=>au f (.cells e.vs.toArray 35) λ e f=>∃ g:I6,af f (qd e 0) 0 g.vs/\CC 160 #[.agg (.slice a b c :: g.vs:List Value).toArray,.func (.func 161) #[] #[qp d]] f λ a b=>∃ c,a=.returned (iv c)/\K (iv c) b
theorem oV{a1 l1 c1 n1 u1 w K}(h:mb a1 l1 c1 n1 u1 w K):CP 121 #[.slice a1 l1 c1,iv n1,.agg u1.vs.toArray] w K:=aj (aC []) func121 (by kernel_rfl) (by kernel_rfl) h
def gx(a:OA)(b c:Nat)(d:I6)(e:Value)(w:World)(K:KP):=au w (.cells (.slice a b c :: d.vs:List Value).toArray 198) λ a b=>∃ c:Bool->qW,(∀ d f,c f d->∀ g:qv,cond f (K qz d) (∃ f g h,d.cell? (qd a 0)=some (.slice f g h)/\∃ h:Int->Int->qN,(∃ i,h 0 (0:Int) d i)/\∀ d i j k,h j k d i->∀ l:qv,cond (decide (k<(g:Int))) (ak f λ f=>0<=k/\k<(g:Int)/\∃ g l m n o,af d (Addr.add f ((k).toNat*5)) 0 [.string g,iv l,iv m,iv n,iv o]/\au d (.cells #[.string (bs []),qz,qz,qz,qz] 117) λ f p=>aN (qd f 0) 0 [.string g,iv l,iv m,iv n,iv o] p λ g=>0<=k/\k<6/\∃ l,g.drew.cell? (Addr.add (qd a 1) ((k).toNat*1))=some (iv l)/\∃ m n o p q,af g.drew (qd f 0) 0 [.string m,iv n,iv o,iv p,iv q]/\gw prog e #[.agg #[.string m,iv n,iv o,iv p,iv q]] g.drew λ e f=>∃ g,e=.returned (iv g)/\f.cell? (Addr.add (qd a 1) ((k).toNat*1))=some (iv l)/\∃ e,e<i/\h (IntKind.i64.wrap (j+(IntKind.i64.wrap (l*g)))) (IntKind.i64.wrap (k+1)) f e) (K (iv j) d)))/\∃ d e f,b.cell? (qd a 0)=some (.slice d e f)/\CC 65 #[.slice d e f] b λ b d=>∃ e,b=.returned (iv e)/\cond (e !=0) (c true d) (∃ b:I6,af d (qd a 1) 0 b.vs/\CC 73 #[.agg b.vs.toArray] d λ a b=>∃ d,a=.returned (iv d)/\c (d !=0) b)
theorem jX{a1 l1 c1 u1 v1 w K}(h:gx a1 l1 c1 u1 v1 w K):CP 160 #[.agg (.slice a1 l1 c1 :: u1.vs:List Value).toArray,v1] w K:=aj (aC [(6,[(17,.s .bool)]),(122,[(5,.s (.int .i64)),(21,.s (.int .i64))])]) func160 (by kernel_rfl) (by kernel_rfl) h
def jq(a:ByteArray)(b c d e:Int)(f:Nat)(w:World)(K:KP):=au w (.cells #[.string a,iv b,iv c,iv d,iv e] 117) λ a b=>∃ c,b.cell? (qd a 4)=some (iv c)/\∃ a,b.cell? (qd f 0)=some (iv a)/\cond (c==a) (K (iv 1) b) (K qz b)
theorem mN{s1 n1 n2 n3 n4 b1 w K}(h:jq s1 n1 n2 n3 n4 b1 w K):CP 161 #[.agg #[.string s1,iv n1,iv n2,iv n3,iv n4],.pointer (some ⟨b1,0,none⟩)] w K:=aj (aC []) func161 (by kernel_rfl) (by kernel_rfl) h
def jW(a:OA)(b c:Nat)(d:I6)(w:World)(K:KP):=au w (.cells d.vs.toArray 35) λ d e=>∃ f:I6,af e (qd d 0) 0 f.vs/\CC 160 #[.agg (.slice a b c :: f.vs:List Value).toArray,.func (.func 209) #[] #[]] e λ a b=>∃ c,a=.returned (iv c)/\K (iv c) b
theorem nN{a1 l1 c1 u1 w K}(h:jW a1 l1 c1 u1 w K):CP 202 #[.slice a1 l1 c1,.agg u1.vs.toArray] w K:=aj (aC []) func202 (by kernel_rfl) (by kernel_rfl) h
def iu(a:ByteArray)(b c d e:Int)(w:World)(K:KP):=au w (.cells #[.string a,iv b,iv c,iv d,iv e] 117) λ a b=>∃ c,b.cell? (qd a 3)=some (iv c)/\K (iv c) b
theorem lJ{s1 n1 n2 n3 n4 w K}(h:iu s1 n1 n2 n3 n4 w K):CP 209 #[.agg #[.string s1,iv n1,iv n2,iv n3,iv n4]] w K:=aj (aC []) func209 (by kernel_rfl) (by kernel_rfl) h
def fE(wt:Pr->Int)(l:List Pr)(u:I6):Nat->Int
 | 0=>0
 | k+1=>fE wt l u k+u.at' k*((l[k]?.map wt).getD 0)
def Dt(wt:Pr->Int)(l:List Pr)(u:I6):Int:=fE wt l u l.length
theorem oM{wt:Pr->Int}{l:List Pr}{u:I6}(hu:I6.Le u 4)(hw:∀ p∈l,0<=wt p/\wt p<=1000000):∀ k,k<=6->0<=fE wt l u k/\fE wt l u k<=(k:Int)*4000000
 | 0,_=>by simp[fE]
 | k+1,hk=>by
  have ih:=oM hu hw k (by omega);have h1:=hu k (by omega);have h2:0<=(l[k]?.map wt).getD 0/\(l[k]?.map wt).getD 0<=1000000:=by
   cases hg:l[k]? with
   | none=>simp
   | some p=>exact hw p (List.mem_of_getElem? hg)
  simp only[fE];generalize(l[k]?.map wt).getD 0=y at h2 ⊢;generalize u.at' k=x at h1 ⊢;have h3:0<=x*y:=Int.mul_nonneg h1.1 h2.1;have h4:x*y<=4*1000000:=Int.le_trans (Int.mul_le_mul_of_nonneg_right h1.2 h2.1) (Int.mul_le_mul_of_nonneg_left h2.2 (by omega));omega
theorem FO{w:World}{a:OA}{c:Nat}{l:List Pr}(h:dX w a l)(hcap:l.length<=c)(ho:bZ l){u:I6}(hu:I6.Le u 4){wt:Pr->Int}(hw:∀ p∈l,0<=wt p/\wt p<=1000000){v:Value}(hv:∀ (w' : World) (p:Pr) (R:Ending->World->Prop),ax w w' []->p∈l->(∀ w'',ax w' w'' []->R (.returned (iv (wt p))) w'')->gw prog v #[.agg p.cells.toArray] w' R) :
  CP 160 #[.agg ((.slice a l.length c) :: u.vs:List Value).toArray,v] w (λ r w'=>r=iv (Dt wt l u)/\ax w w' []):=by
 refine jX ?_;unfold gx;have h6:=ho.l2;refine(St.start w).one.av ((.slice a l.length c) :: u.vs:List Value).toArray λ r1 w1 s1=>?_;refine⟨λ b w2=>b=false/\St w w2 (Sep [ah r1 ((.slice a l.length c) :: u.vs:List Value).toArray 198,emp]),?_,_,_,_,s1.ag 0 rfl 0,aq (DO (h.an s1.an) hcap) ?_⟩
 ·rintro w2 b ⟨rfl,s2⟩ -;refine cF rfl ⟨_,_,_,s2.ag 0 rfl 0,λ s n w3 m=>∃ k:Nat,n=k/\k<=l.length/\m=l.length-k/\s=fE wt l u k/\St w w3 (Sep [ah r1 ((.slice a l.length c) :: u.vs:List Value).toArray 198,emp]),⟨l.length,0,rfl,by omega,by omega,rfl,s2⟩,?_⟩;rintro w3 m s n ⟨k,rfl,hk,hm,rfl,s3⟩ -
  by_cases hlt:(k:Int)<(l.length:Int)
  ·have hx:l[k]?=some (l[k]'(by omega)):=gE (by omega);generalize l[k]'(by omega)=x at hx;have hk6:k<6:=by omega
   obtain⟨_,q,rfl,hcl⟩:=(h.an s3.an) k x hx;refine cT (by simpa using hlt) ?_;refine⟨by omega,by omega,_,_,_,_,_,hcl,s3.av ({ nm:=[],sup:=0,res:=0,pts:=0,grp:=0 }:Pr).cells.toArray λ r2 w4 s4=>s4.az 0 rfl x.cells rfl x.one λ w5 s5=>?_⟩;have s6:=s5.quiet (ax.drew _ _);have cu:∀ {w' : World} {ls:List aJ},St w w' (Sep (ah r2 x.cells.toArray 117 :: ah r1 ((.slice (some q) l.length c) :: u.vs:List Value).toArray 198 :: ls))->w'.cell? (Addr.add ⟨r1,1,none⟩ (((k:Nat):Int).toNat*1))=some (iv (u.at' k)):=λ t=>by
    rw[dN,t.ag 1 rfl];have:=u.get k hk6;rw[Int.toNat_natCast,Nat.mul_one,Nat.add_comm];simpa using this
   refine⟨by omega,by omega,u.at' k,cu s6,_,_,_,_,_,s6.cellsIn 0 rfl,?_⟩;refine hv _ x _ s6.an (List.mem_of_getElem? hx) λ w6 c6=>?_;have s7:=s6.quiet c6;have b0:=oM (l:=l) hu hw k (by omega);have b1:=oM (l:=l) hu hw (k+1) (by omega);have e1:fE wt l u (k+1)=fE wt l u k+u.at' k*wt x:=by simp only[fE,hx,Option.map_some,Option.getD_some]
   refine⟨_,rfl,cu s7,l.length-(k+1),by omega,k+1,ay ⟨by omega,by omega⟩,by omega,rfl,?_,s7.aA [1,2]⟩;rw[ay (n:=u.at' k*wt x) ⟨by omega,by omega⟩,ay ⟨by omega,by omega⟩,e1]
  ·obtain rfl:k=l.length:=by omega
   exact cF (by simp) ⟨rfl,s3.an⟩
 ·rintro v w7 ⟨⟨n,rfl,hn⟩,c7⟩;have s7:=s1.quiet c7;refine⟨_,rfl,cF (by rw[hn.2 ho]; rfl) ⟨u,?_,aq (dr w7 u) ?_⟩⟩
  ·exact bt _ 0 λ j v hj=>by
    rw[dN,Nat.zero_add,s7.ag 0 rfl,Nat.add_comm];simpa using hj
  ·rintro v w8 ⟨rfl,c8⟩;exact⟨_,rfl,by rw[leq hu]; rfl,s7.quiet c8⟩
theorem Kv{l:List Pr}(ho:bZ l):∀ p∈l,0<=p.pts/\p.pts<=1000000:=λ p hp=>by
 obtain⟨i,hi,rfl⟩:=List.mem_iff_getElem.1 hp;have:=(ho.good i _ (gE hi)).1;simp only[jK,rA,Bool.and_eq_true,decide_eq_true_eq] at this;omega
def nh(l:List Pr)(u:I6):Int:=Dt Pr.pts l u
def zw(l:List Pr)(g:Int)(u:I6):Int:=Dt (λ p=>if p.grp=g then 1 else 0) l u
theorem ET{w:World}{a:OA}{c:Nat}{l:List Pr}(h:dX w a l)(hcap:l.length<=c)(ho:bZ l){u:I6}(hu:I6.Le u 4) :
  CP 202 #[.slice a l.length c,.agg u.vs.toArray] w (λ r w'=>r=iv (nh l u)/\ax w w' []):=by
 refine nN ?_;unfold jW;refine(St.start w).one.av u.vs.toArray λ r1 w1 s1=>⟨_,s1.cellsIn 0 rfl,aq (FO (wt:=Pr.pts) (h.an s1.an) hcap ho hu (Kv ho) ?_) ?_⟩
 ·intro w' p R _ _ k;refine cI (by kernel_rfl) (aq (K:=λ r w''=>r=iv p.pts/\ax w' w'' []) (lJ ?_) ?_)
  ·unfold iu;exact(St.start w').one.av p.cells.toArray λ r2 w2 s2=>⟨_,s2.ag 0 rfl 3,rfl,s2.an⟩
  ·rintro r w'' ⟨rfl,hc⟩; exact k w'' hc
 ·rintro v w2 ⟨rfl,c2⟩;exact⟨_,rfl,rfl,(s1.quiet c2).an⟩
theorem Ho{w:World}{a:OA}{c:Nat}{l:List Pr}(h:dX w a l)(hcap:l.length<=c)(ho:bZ l){u:I6}(hu:I6.Le u 4)(g:Int) :
  CP 121 #[.slice a l.length c,iv g,.agg u.vs.toArray] w (λ r w'=>r=iv (zw l g u)/\ax w w' []):=by
 refine oV ?_;unfold mb;refine(St.start w).one.av #[iv g] λ r0 w0 s0=>s0.av u.vs.toArray λ r1 w1 s1=>⟨_,s1.cellsIn 0 rfl,aq (FO (wt:=λ p=>if p.grp=g then 1 else 0) (h.an s1.an) hcap ho hu (λ p _=>by split<;>omega) ?_) ?_⟩
 ·intro w' p R hc _ k;refine cI (by kernel_rfl) (aq (K:=λ r w''=>r=iv (if p.grp=g then 1 else 0)/\ax w' w'' []) (mN ?_) ?_)
  ·unfold jq;refine(St.start w').one.av p.cells.toArray λ r2 w2 s2=>⟨_,s2.ag 0 rfl 4,g,?_,?_⟩
   ·exact br (s1.ag 1 rfl 0) (hc.trans s2.an (by simp))
   ·by_cases e:p.grp=g
    ·exact cT (by simpa using e) ⟨by rw[if_pos e],s2.an⟩
    ·exact cF (by simpa using e) ⟨by rw[if_neg e],s2.an⟩
  ·rintro r w'' ⟨rfl,hc⟩; exact k w'' hc
 ·rintro v w2 ⟨rfl,c2⟩;exact⟨_,rfl,rfl,(s1.quiet c2).an⟩
structure Ch where
 p:I6
 want:I6
def Ch.cells(c:Ch):List Value:=c.p.on c.want.vs
def Ch.v(c:Ch):Value:=.agg c.cells.toArray
theorem Ch.one(c:Ch):∀ v∈c.cells,v.oneCell' = true:=by
 intro v hv;simp only[Ch.cells,I6.on,I6.vs,List.mem_cons,List.mem_nil_iff,or_false] at hv;rcases hv with rfl|rfl|rfl|rfl|rfl|rfl|rfl|rfl|rfl|rfl|rfl|rfl<;>rfl
theorem Ch.len(c:Ch):c.cells.length=12:=rfl
abbrev dj:Ch:=⟨z6,z6⟩
structure Ch.Ok (c:Ch):Prop where
 p:I6.Le c.p 1000000
 w:I6.Le c.want 4
abbrev nG (w:World) (a:OA) (l:List Ch):Prop:=bU 12 Ch.cells w a l
theorem bz{w0 w:World}{l:List aJ}{r:Nat}{c:Ch}{T:TypeId}(h:St w0 w (Sep l))(i:Nat)(e:l[i]?=some (ah r c.cells.toArray T)):af w ⟨r,6,none⟩ 0 c.want.vs :=
 bt _ 0 λ j v hj=>by
  have h6:j<6:=(List.getElem?_eq_some_iff.1 hj).1;rw[dN,Nat.zero_add,h.ag i e]
  match j,h6,hj with
  | 0,_,hj|1,_,hj|2,_,hj|3,_,hj|4,_,hj|5,_,hj=>simpa[Ch.cells,I6.on,I6.vs] using hj
theorem mO{w0 w:World}{l:List aJ}{r:Nat}{c:Ch}{T:TypeId}(h:St w0 w (Sep l))(i:Nat)(e:l[i]?=some (ah r c.cells.toArray T)):af w ⟨r,0,none⟩ 0 c.p.vs :=
 bt _ 0 λ j v hj=>by
  have h6:j<6:=(List.getElem?_eq_some_iff.1 hj).1;rw[dN,Nat.zero_add,Nat.zero_add,h.ag i e]
  match j,h6,hj with
  | 0,_,hj|1,_,hj|2,_,hj|3,_,hj|4,_,hj|5,_,hj=>simpa[Ch.cells,I6.on,I6.vs] using hj
theorem eV(w:World){p u:I6}(hp:I6.Le p 1000000)(hu:I6.Le u 4):CP 71 #[.agg p.vs.toArray,.agg u.vs.toArray] w (λ r w'=>r=iv (cost p u)/\ax w w' []) :=
 Ia w p u 1000000 (by omega) (λ k hk=>by have:=hp k hk; omega) hu
theorem cS{p u:I6}(hp:I6.Le p 1000000)(hu:I6.Le u 4):0<=cost p u/\cost p u<=24000000:=by
 have H:∀ k,k<6->0<=p.at' k*u.at' k/\p.at' k*u.at' k<=4000000:=λ k hk=>by
  have h1:=hp k hk;have h2:=hu k hk;exact⟨Int.mul_nonneg h1.1 h2.1,Int.le_trans (Int.mul_le_mul_of_nonneg_right h1.2 h2.1) (by omega)⟩
 have h0:=H 0 (by decide); have h1:=H 1 (by decide); have h2:=H 2 (by decide); have h3:=H 3 (by decide); have h4:=H 4 (by decide); have h5:=H 5 (by decide);simp only[I6.at'] at h0 h1 h2 h3 h4 h5;unfold cost; omega
theorem Ej{w:World}{s:Se}(n:Int):CP 70 #[.agg s.arr,iv n] w (λ r w'=>r=.bool (decide (0<=n)&&decide (n<(s.bd.length:Int)))/\ax w w' []):=by
 refine qA ?_;unfold nI;refine(St.start w).one.av s.arr λ r1 w1 s1=>?_
 by_cases h:n>=0
 ·exact cT (dT h) ⟨_,_,_,s1.ag 0 rfl 1,by rw[dT (show 0<=n from h)]; rfl,s1.an⟩
 ·exact cF (dF h) ⟨by rw[dF (show ¬ 0<=n from h)]; rfl,s1.an⟩
theorem nL{w:World}{a:OA}{l:List Br}(h:iS w a l){k:Nat}{b:Br}(hk:l[k]?=some b)(j:Nat)(v:Value)(hj:b.cells[j]?=some v):∃ q,a=some q/\w.cell? (Addr.add (Addr.add q (k*4)) j)=some v:=by
 obtain⟨_,q,hq,hc⟩:=h k b hk;have:=aL hc j v hj;exact⟨q,hq,by rwa [Nat.zero_add] at this⟩
def gY(b:Br)(c:Ch):Int:=if b.bud≠0/\b.bud<cost c.p c.want then 17 else 0
abbrev Sc:=List Tk×Int
def oB(a:OA)(b c:Nat)(d:OA)(e f:Nat)(w:World)(K:KP):=CC 59 #[.slice a b c] w λ g h=>∃ i,g=.returned (.bool i)/\cond (!i) (K (.tuple #[qz,iv 4]) h) (∃ g:Int->qN,(∃ i,g 0 h i)/\∀ h i j,g j h i->∀ k:qv,cond (decide (j<(e:Int))) (ak d λ k=>0<=j/\j<(e:Int)/\∃ l,∃ m:I6,∃ n,af h (Addr.add k ((j).toNat*8)) 0 (iv l :: m.on [iv n])/\au h (.cells #[qz,qz,qz,qz,qz,qz,qz,qz] 81) λ k o=>aN (qd k 0) 0 (iv l :: m.on [iv n]) o λ l=>∃ m,∃ n:I6,∃ o,af l (qd k 0) 0 (iv m :: n.on [iv o])/\CC 60 #[.agg (iv m :: n.on [iv o]:List Value).toArray] l λ k l=>∃ m,k=.returned (.bool m)/\cond (!m) (K (.tuple #[iv j,iv 4]) l) (∃ k,k<i/\g (IntKind.i64.wrap (j+1)) l k)) (CC 61 #[.slice a b c,.slice d e f] h λ f g=>∃ h:Value,f=.returned h/\∃ f:Int->qN,(∃ i,f 0 g i)/\∀ g i j,f j g i->∀ k:qv,cond (decide (j<(e:Int))) (ak d λ d=>0<=j/\j<(e:Int)/\∃ e,∃ k:I6,∃ l,af g (Addr.add d ((j).toNat*8)) 0 (iv e :: k.on [iv l])/\au g (.cells #[qz,qz,qz,qz,qz,qz,qz,qz] 81) λ d m=>aN (qd d 0) 0 (iv e :: k.on [iv l]) m λ e=>∃ k,e.drew.cell? (qd d 7)=some (iv k)/\∃ l:I6,af e.drew (qd d 1) 0 l.vs/\CC 62 #[.slice a b c,h,.agg l.vs.toArray] e.drew λ a b=>∃ c,a=.returned (iv c)/\b.cell? (qd d 7)=some (iv k)/\cond (decide (k>c)) (K (.tuple #[iv j,iv 16]) b) (∃ a,a<i/\f (IntKind.i64.wrap (j+1)) b a)) (K (.tuple #[qz,qz]) g)))
theorem qO{a1 l1 c1 a2 l2 c2 w K}(h:oB a1 l1 c1 a2 l2 c2 w K):CP 26 #[.slice a1 l1 c1,.slice a2 l2 c2] w K:=aj (aC [(58,[(16,.s (.int .i64))]),(250,[(31,.s (.int .i64))])]) func26 (by kernel_rfl) (by kernel_rfl) h
def oC(a:OA)(b c:Nat)(w:World)(K:KP):=∃ c:Int->qN,(∃ d,c 0 w d)/\∀ e d f,c f e d->∀ g:qv,cond (decide (f<(b:Int))) (ak a λ a=>0<=f/\f<(b:Int)/\∃ b g:I6,af e (Addr.add a ((f).toNat*12)) 0 (b.on (g.vs))/\au e (.cells #[qz,qz,qz,qz,qz,qz,qz,qz,qz,qz,qz,qz] 90) λ a h=>aN (qd a 0) 0 (b.on (g.vs)) h λ b=>∃ g h:I6,af b (qd a 0) 0 (g.on (h.vs))/\au b (.cells (g.on (h.vs):List Value).toArray 90) λ a b=>CC 110 #[.slice (some (qd a 0)) 1 1,.agg #[qn,qn]] b λ a b=>∃ g,a=.returned (iv g)/\cond (g==4) (K (.bool false) b) (∃ a,a<d/\c (IntKind.i64.wrap (f+1)) b a)) (K (.bool true) e)
theorem qP{a1 l1 c1 w K}(h:oC a1 l1 c1 w K):CP 59 #[.slice a1 l1 c1] w K:=aj (aC [(26,[(7,.s (.int .i64))])]) func59 (by kernel_rfl) (by kernel_rfl) h
def oD(a:Int)(b:I6)(c:Int)(w:World)(K:KP):=au w (.cells (iv a :: b.on [iv c]:List Value).toArray 81) λ a b=>∃ c:I6,af b (qd a 1) 0 c.vs/\CC 73 #[.agg c.vs.toArray] b λ b c=>∃ d,b=.returned (iv d)/\cond (d==0) (∃ b:I6,af c (qd a 1) 0 b.vs/\cond (!(I6.beq b z6)) (∃ b,c.cell? (qd a 7)=some (iv b)/\cond (decide (b>=1)) (∃ b,c.cell? (qd a 7)=some (iv b)/\K (.bool (decide (b<=1000000))) c) (K (.bool false) c)) (K (.bool false) c)) (K (.bool false) c)
theorem qQ{n1 u1 n2 w K}(h:oD n1 u1 n2 w K):CP 60 #[.agg (iv n1 :: u1.on [iv n2]:List Value).toArray] w K:=aj (aC []) func60 (by kernel_rfl) (by kernel_rfl) h
def mB(a:OA)(b c:Nat)(d:OA)(e f:Nat)(w:World)(K:KP):=au w (.cells #[.slice a b c] 68) λ a b=>au b (.cells #[.slice d e f] 28) λ b c=>K (.func (.func 111) #[] #[qp a,qp b]) c
theorem pQ{a1 l1 c1 a2 l2 c2 w K}(h:mB a1 l1 c1 a2 l2 c2 w K):CP 61 #[.slice a1 l1 c1,.slice a2 l2 c2] w K:=aj (aC []) func61 (by kernel_rfl) (by kernel_rfl) h
def qq(a:OA)(b c:Nat)(d:Value)(e:I6)(w:World)(K:KP):=au w (.cells e.vs.toArray 35) λ c e=>∃ f:Int->Int->qN,(∃ g,f 1000000 (0:Int) e g)/\∀ e g h i,f h i e g->∀ j:qv,cond (decide (i<(b:Int))) (∃ j:Int->qW,(∀ k l,j l k->∀ m:qv,∃ m,m<g/\f l (IntKind.i64.wrap (i+1)) k m)/\ak a λ a=>0<=i/\i<(b:Int)/\∃ b f:I6,af e (Addr.add a ((i).toNat*12)) 0 (b.on (f.vs))/\au e (.cells #[qz,qz,qz,qz,qz,qz,qz,qz,qz,qz,qz,qz] 90) λ a g=>aN (qd a 0) 0 (b.on (f.vs)) g λ b=>∃ f:I6,af b (qd a 6) 0 f.vs/\∃ g:I6,af b (qd c 0) 0 g.vs/\cond (!(I6.beq f g)) (∃ f:I6,af b.drew (qd a 6) 0 f.vs/\∃ g:I6,af b.drew (qd a 0) 0 g.vs/\∃ i:I6,af b.drew (qd c 0) 0 i.vs/\∃ k:I6,af b.drew (qd a 0) 0 k.vs/\∃ l:I6,af b.drew (qd a 6) 0 l.vs/\gw prog d #[.agg f.vs.toArray] b.drew λ d f=>∃ m,d=.returned (iv m)/\af f (qd a 6) 0 l.vs/\af f (qd a 0) 0 k.vs/\af f (qd c 0) 0 i.vs/\af f (qd a 0) 0 g.vs/\CC 71 #[.agg g.vs.toArray,.agg i.vs.toArray] f λ c d=>∃ f,c=.returned (iv f)/\af d (qd a 6) 0 l.vs/\af d (qd a 0) 0 k.vs/\CC 71 #[.agg k.vs.toArray,.agg l.vs.toArray] d λ a c=>∃ d,a=.returned (iv d)/\j (if (IntKind.i64.wrap ((IntKind.i64.wrap (m+f))-d))<h then (IntKind.i64.wrap ((IntKind.i64.wrap (m+f))-d)) else h) c) (j h b)) (K (iv h) e)
theorem sP{a1 l1 c1 v1 u1 w K}(h:qq a1 l1 c1 v1 u1 w K):CP 62 #[.slice a1 l1 c1,v1,.agg u1.vs.toArray] w K:=aj (aC [(58,[(7,.s (.int .i64)),(12,.s (.int .i64))]),(467,[(7,.s (.int .i64))])]) func62 (by kernel_rfl) (by kernel_rfl) h
def jA(a:I6)(b c:Nat)(w:World)(K:KP):=au w (.cells a.vs.toArray 35) λ a d=>∃ e f g,d.cell? (qd b 0)=some (.slice e f g)/\∃ b:Int->Int->qN,(∃ g,b 0 (0:Int) d g)/\∀ d g h i,b h i d g->∀ j:qv,cond (decide (i<(f:Int))) (∃ j:Int->qW,(∀ k l,j l k->∀ m:qv,∃ m,m<g/\b l (IntKind.i64.wrap (i+1)) k m)/\ak e λ b=>0<=i/\i<(f:Int)/\∃ e f:I6,af d (Addr.add b ((i).toNat*12)) 0 (e.on (f.vs))/\au d (.cells #[qz,qz,qz,qz,qz,qz,qz,qz,qz,qz,qz,qz] 90) λ b g=>aN (qd b 0) 0 (e.on (f.vs)) g λ e=>∃ f:I6,af e (qd b 6) 0 f.vs/\∃ g:I6,af e (qd a 0) 0 g.vs/\cond (I6.beq f g) (∃ f:I6,af e (qd b 0) 0 f.vs/\∃ b:I6,af e (qd a 0) 0 b.vs/\CC 71 #[.agg f.vs.toArray,.agg b.vs.toArray] e λ b f=>∃ g,b=.returned (iv g)/\j (if g>h then g else h) f) (j h e)) (∃ b e f,d.cell? (qd c 0)=some (.slice b e f)/\∃ c:Int->Int->qN,(∃ f,c h 0 d f)/\∀ d f g h,c g h d f->∀ i:qv,cond (decide (h<(e:Int))) (∃ i:Int->qW,(∀ j k,i k j->∀ l:qv,∃ l,l<f/\c k (IntKind.i64.wrap (h+1)) j l)/\ak b λ b=>0<=h/\h<(e:Int)/\∃ c,∃ e:I6,∃ f,af d (Addr.add b ((h).toNat*8)) 0 (iv c :: e.on [iv f])/\au d (.cells #[qz,qz,qz,qz,qz,qz,qz,qz] 81) λ b h=>aN (qd b 0) 0 (iv c :: e.on [iv f]) h λ c=>∃ e:I6,af c (qd b 1) 0 e.vs/\∃ f:I6,af c (qd a 0) 0 f.vs/\cond (I6.beq e f) (∃ a,c.cell? (qd b 7)=some (iv a)/\i (if a>g then a else g) c) (i g c)) (K (iv g) d))
theorem nq{u1 b1 b2 w K}(h:jA u1 b1 b2 w K):CP 111 #[.agg u1.vs.toArray,.pointer (some ⟨b1,0,none⟩),.pointer (some ⟨b2,0,none⟩)] w K:=aj (aC [(58,[(5,.s (.int .i64)),(12,.s (.int .i64))]),(467,[(5,.s (.int .i64))]),(122,[(5,.s (.int .i64)),(29,.s (.int .i64))]),(979,[(5,.s (.int .i64))])]) func111 (by kernel_rfl) (by kernel_rfl) h
inductive Xv where
 | mk (op:Int) (u:I6) (v:Int) (a:OA) (c:Nat) (args:List Xv)
section
variable {g:Sc->Xv×Sc} (hg:∀ σ,(g σ).2.1.length<=σ.1.length)
include hg
end
mutual
def HN:Xv->Nat
 | .mk _ _ _ _ _ args=>1+(HM args).sum
def HM:List Xv->List Nat
 | []=>[]
 | x :: l=>HN x :: HM l
end
section
variable {w0:World}
variable {S:Type} {step:S->Xv->S×Bool} {A:S->aJ} {v:Value}
end
structure xe (w:World) (s:Se):Prop where
 i:s.In w
 o:s.Ok
theorem xe.an{w w' : World}{s:Se}(h:xe w s)(hc:ax w w' []):xe w' s:=⟨h.i.an hc,h.o⟩
theorem xg{w:World}{s:Se}(h:xe w s){n:Nat}{b:Br}(hb:s.bd[n]?=some b){c:Ch}(hc:c.Ok) :
  CP 38 #[.agg s.arr,iv n,c.v] w (λ r w'=>r=iv (gY b c)/\ax w w' []):=by
 refine iU ?_;unfold ff;have hn:=(List.getElem?_eq_some_iff.1 hb).1;refine(St.start w).one.av s.arr λ r1 w1 s1=>s1.av c.cells.toArray λ r2 w2 s2=>⟨_,_,_,_,_,_,_,_,_,_,_,_,s2.cellsIn 1 rfl,aq (Ej (s:=s) n) ?_⟩;rintro v w3 ⟨rfl,c3⟩;have s3:=s2.quiet c3;obtain⟨q,hq,hcl⟩:=nL ((h.an s3.an).i.bd) hb 2 _ rfl;refine⟨_,rfl,cF (by simp; omega) ⟨_,_,_,s3.ag 1 rfl 1,?_⟩⟩;rw[hq];refine⟨by omega,by omega,_,hcl,λ g w4=>g=decide (b.bud≠0/\b.bud<cost c.p c.want)/\ax w w4 [],?_,?_⟩
 ·rintro w4 g ⟨rfl,c4⟩ -
  by_cases hg:b.bud≠0/\b.bud<cost c.p c.want
  ·exact cT (dT hg) ⟨by rw[gY,if_pos hg],c4⟩
  ·exact cF (dF hg) ⟨by rw[gY,if_neg hg],c4⟩
 ·by_cases h0:b.bud=0
  ·exact cF (by simp[h0]) ⟨by simp[h0],s3.an⟩
  ·refine cT (by simpa using h0) ⟨_,mO s3 0 rfl,_,bz s3 0 rfl,aq (eV w3 hc.p hc.w) ?_⟩;rintro v w5 ⟨rfl,c5⟩;exact⟨_,rfl,by simp[h0],(s3.quiet c5).an⟩
def eW(l:List Ch):Bool:=(l.getLast?.map λ c=>decide (c.want=z6)).getD false
theorem Ea{w:World}{a:OA}{c:Nat}{l:List Ch}(h:nG w a l)(hl:l.length<=1000):CP 165 #[.slice a l.length c] w (λ r w'=>r=.bool (eW l)/\w' = w):=by
 refine mL ?_;unfold jo
 by_cases h0:l.length=0
 ·have:l=[]:=List.eq_nil_of_length_eq_zero h0;subst this;exact cF rfl ⟨rfl,rfl⟩
 ·have hx:l[l.length-1]?=some (l[l.length-1]'(by omega)):=gE (by omega);have hlast:l.getLast? = some (l[l.length-1]'(by omega)):=by rw[List.getLast?_eq_getElem?,hx]
  generalize l[l.length-1]'(by omega)=x at hx hlast;obtain⟨q,hq,hcl⟩:=h.at hx;rw[hq];have e:IntKind.i64.wrap ((l.length:Int)-1)=((l.length-1:Nat):Int):=by rw[ay ⟨by omega,by omega⟩]; omega
  rw[e];refine cT (dT (by omega)) ⟨by omega,by omega,x.want,?_,?_,rfl⟩
  ·refine bt _ 0 λ j v hj=>?_;have h6:j<6:=(List.getElem?_eq_some_iff.1 hj).1;have:=aL hcl (6+j) v (by
    match j,h6,hj with
    | 0,_,hj|1,_,hj|2,_,hj|3,_,hj|4,_,hj|5,_,hj=>simpa[Ch.cells,I6.on,I6.vs] using hj)
   rw[Nat.zero_add] at this;rw[Addr.add_add,Nat.zero_add,Int.toNat_natCast];exact this
  ·rw[eW,hlast]; simp[I6.beq_eq]
def DB(s:Se)(n:Int)(a:OA)(c:Nat)(l:List Ch):List Value:=[.slice s.a1 s.ps.length s.c1,.slice s.a2 s.bd.length s.c2,.slice s.a3 s.cp.length s.c3,.slice s.a4 s.sa.length s.c4,iv n,.slice a l.length c]
theorem El{w0 w:World}{s:Se}{n:Int}{a:OA}{c:Nat}{l:List Ch}{ls:List aJ}{r:Nat}{T:TypeId}(h:St w0 w (Sep ls))(i:Nat)(e:ls[i]?=some (ah r (DB s n a c l).toArray T)):af w ⟨r,0,none⟩ 0 s.arr.toList :=
 bt _ 0 λ j v hj=>by
  have h6:j<4:=(List.getElem?_eq_some_iff.1 hj).1;rw[dN,Nat.zero_add,Nat.zero_add,h.ag i e]
  match j,h6,hj with
  | 0,_,hj|1,_,hj|2,_,hj|3,_,hj=>simpa[DB,Se.arr] using hj
theorem uo{w:World}{s:Se}(h:xe w s){n:Int}{a:OA}{k:Nat}{l:List Ch}{c:Ch}(hc:c.Ok) :
  CP 190 #[.agg (DB s n a k l).toArray,c.v] w (λ r w'=>r=iv (nh s.ps c.want)/\ax w w' []):=by
 refine fJ ?_;unfold dJ;refine(St.start w).one.av (DB s n a k l).toArray λ r1 w1 s1=>s1.av c.cells.toArray λ r2 w2 s2=>⟨_,_,_,s2.ag 1 rfl 0,_,bz s2 0 rfl,aq (ET ((h.an s2.an).i.ps) h.i.h1 h.o.ps hc.w) ?_⟩;rintro v w3 ⟨rfl,c3⟩;exact⟨_,rfl,rfl,(s2.quiet c3).an⟩
def xJ(s:Se)(b:Br)(l:List Ch):Int:=l.foldl (λ m c=>if nh s.ps c.want<m then nh s.ps c.want else m) b.pts
theorem Ig{w:World}{s:Se}(h:xe w s){n:Nat}{b:Br}(hb:s.bd[n]?=some b){a:OA}{k:Nat}{l:List Ch}(hr:nG w a l)(hl:l.length<=1000)(ho:∀ c∈l,c.Ok) :
  CP 191 #[.agg s.arr,iv n,.slice a l.length k] w (λ r w'=>r=iv (xJ s b l)/\ax w w' []):=by
 refine ig ?_;unfold eO;have hn:=(List.getElem?_eq_some_iff.1 hb).1;refine(St.start w).one.av s.arr λ r1 w1 s1=>⟨_,_,_,_,_,_,_,_,_,_,_,_,s1.cellsIn 0 rfl,aq (Ej (s:=s) n) ?_⟩;rintro v w2 ⟨rfl,c2⟩;have s2:=(s1.quiet c2).quiet (ax.drew w2 []);obtain⟨q,hq,hcl⟩:=nL ((h.an s2.an).i.bd) hb 3 _ rfl;refine⟨_,rfl,cF (by simp; omega) ⟨_,_,_,_,_,_,_,_,_,_,_,_,s2.cellsIn 0 rfl,_,_,_,s2.ag 0 rfl 1,?_⟩⟩;refine ai hq ⟨by omega,by omega,_,hcl,λ m n4 w3 x=>∃ j:Nat,n4=j/\j<=l.length/\x=l.length-j/\m=xJ s b (l.take j)/\St w w3 (Sep [ah r1 s.arr 27,emp]),⟨l.length,0,rfl,by omega,by omega,rfl,s2⟩,?_⟩;rintro w3 x m n4 ⟨j,rfl,hj,hx',rfl,s3⟩ -
 by_cases hlt:(j:Int)<(l.length:Int)
 ·have hx:l[j]?=some (l[j]'(by omega)):=gE (by omega);generalize l[j]'(by omega)=y at hx;obtain⟨q2,rfl,hcl2⟩:=(hr.an s3.an).at hx;refine cT (by simpa using hlt) ⟨by omega,by omega,y.p,y.want,hcl2,s3.av dj.cells.toArray λ r2 w4 s4=>s4.az 0 rfl y.cells rfl y.one λ w5 s5=>⟨y.p,y.want,s5.cellsIn 0 rfl,?_⟩⟩;have hp:=uo (n:=(n:Int)) (a:=some q2) (k:=k) (l:=l) (h.an s5.an) (ho y (List.mem_of_getElem? hx));refine aq hp ?_;rintro v w6 ⟨rfl,c6⟩;refine⟨_,rfl,l.length-(j+1),by omega,j+1,ay ⟨by omega,by omega⟩,by omega,rfl,?_,(s5.quiet c6).aA [1,2]⟩;rw[aQ hx]; unfold xJ; rw[List.foldl_append,List.foldl_cons,List.foldl_nil]
 ·obtain rfl:j=l.length:=by omega
  exact cF (by simp) ⟨by rw[List.take_length],s3.an⟩
def mg(s:Se)(b:Br)(l:List Ch)(c:Ch):Bool:=decide (nh s.ps c.want<=xJ s b l)
theorem Bn{w:World}{s:Se}(h:xe w s){n:Nat}{b:Br}(hb:s.bd[n]?=some b){a:OA}{k:Nat}{l:List Ch}(hr:nG w a l)(hl:l.length<=1000)(ho:∀ c∈l,c.Ok){c:Ch}(hc:c.Ok) :
  CP 162 #[.agg (DB s n a k l).toArray,c.v] w (λ r w'=>r=.bool (mg s b l c)/\ax w w' []):=by
 refine gX ?_;unfold dZ;refine(St.start w).one.av (DB s n a k l).toArray λ r1 w1 s1=>s1.av c.cells.toArray λ r2 w2 s2=>?_;have s3:=s2.quiet (ax.drew w2 []);refine⟨_,_,_,_,_,_,_,_,_,_,_,_,_,_,_,_,s3.cellsIn 1 rfl,c.p,c.want,s3.cellsIn 0 rfl,_,_,_,_,_,_,_,_,_,_,_,_,El s3 1 rfl,_,s3.ag 1 rfl 4,_,_,_,s3.ag 1 rfl 5,aq (uo (n:=n) (a:=a) (k:=k) (l:=l) (h.an s3.an) hc) ?_⟩;rintro v w3 ⟨rfl,c3⟩;have s4:=s3.quiet c3;refine⟨_,rfl,s4.ag 1 rfl 5,s4.ag 1 rfl 4,El s4 1 rfl,aq (Ig (h.an s4.an) hb (hr.an s4.an) hl ho) ?_⟩;rintro v w5 ⟨rfl,c5⟩;exact⟨_,rfl,rfl,(s4.quiet c5).an⟩
def oX(c:Ch):Bool:=c.p.l.all fy&&c.want.l.all dD
theorem xA{c:Ch}:oX c=true<->c.Ok:=by
 unfold oX;rw[Bool.and_eq_true];exact⟨λ h=>⟨eY.1 h.1,HK h.2⟩,λ h=>⟨eY.2 h.p,leq h.w⟩⟩
theorem Fq(w:World)(c:Ch):CP 186 #[c.v] w (λ r w'=>r=.bool (oX c)/\ax w w' []):=by
 refine oG ?_;unfold kL;refine(St.start w).one.av c.cells.toArray λ r1 w1 s1=>⟨c.p,mO s1 0 rfl,λ n w2 m=>∃ k:Nat,n=k/\k<=6/\m=6-k/\(c.p.l.take k).all fy=true/\w2=w1,⟨6,0,rfl,by omega,by omega,rfl,rfl⟩,?_⟩;rintro w2 m n ⟨k,rfl,hk,hm,ha,rfl⟩ -
 by_cases hlt:(k:Int)<6
 ·have hk' : k<6:=by omega
  refine cT (dT hlt) ⟨by omega,by omega,_,c.p.get k hk',λ b w3=>b=(!fy (c.p.at' k))/\w3=w2,?_,?_⟩
  ·rintro w3 b ⟨rfl,rfl⟩ -
   cases hx:fy (c.p.at' k) with
   | true=>exact cF rfl ⟨6-(k+1),by omega,k+1,inc (by decide) hk',by omega,rfl,cN ha (c.p.ia k hk') hx,rfl⟩
   | false=>exact cT rfl ⟨by rw[oX,dO (c.p.ia k hk') hx]; rfl,s1.an⟩
  ·by_cases h0:c.p.at' k<0
   ·exact cT (dT h0) ⟨by simp[fy]; omega,rfl⟩
   ·refine cF (dF h0) ⟨?_,rfl⟩;rw[fy,dT (show 0<=c.p.at' k by omega),Bool.true_and]
    by_cases h1:c.p.at' k<=1000000
    ·rw[dT h1,dF (by omega)]; rfl
    ·rw[dF h1,dT (by omega)]; rfl
 ·obtain rfl:k=6:=by omega
  refine cF (by simp) ⟨_,bz s1 0 rfl,aq (dr w2 c.want) ?_⟩;rintro v w4 ⟨rfl,c4⟩;refine⟨_,rfl,?_,(s1.quiet c4).an⟩;rw[oX,show c.p.l.all fy=true from ha]
  cases c.want.l.all dD<;>rfl
theorem rH{w:World}{a:OA}{k:Nat}{l:List Ch}(hr:nG w a l)(hl:l.length<=1000) :
  CP 149 #[.slice a l.length k] w (λ r w'=>r=.bool (l.all oX)/\ax w w' []):=by
 refine kI ?_;unfold gS;refine⟨λ n w1 m=>∃ j:Nat,n=j/\j<=l.length/\m=l.length-j/\(l.take j).all oX=true/\ax w w1 [],⟨l.length,0,rfl,by omega,by omega,rfl,ax.refl _ _⟩,?_⟩;rintro w1 m n ⟨j,rfl,hj,hm,ha,hc⟩ -
 by_cases hlt:(j:Int)<(l.length:Int)
 ·have hx:l[j]?=some (l[j]'(by omega)):=gE (by omega);generalize l[j]'(by omega)=y at hx;obtain⟨q2,rfl,hcl2⟩:=(hr.an hc).at hx;refine cT (by simpa using hlt) ⟨by omega,by omega,y.p,y.want,hcl2,(St.start' hc).one.av dj.cells.toArray λ r2 w4 s4=>s4.az 0 rfl y.cells rfl y.one λ w5 s5=>⟨y.p,y.want,s5.cellsIn 0 rfl,aq (Fq w5 y) ?_⟩⟩;rintro v w6 ⟨rfl,c6⟩;refine⟨_,rfl,?_⟩
  cases hy:oX y with
  | true =>
   refine cF rfl ⟨l.length-(j+1),by omega,j+1,ay ⟨by omega,by omega⟩,by omega,rfl,?_,(s5.quiet c6).an⟩;rw[aQ hx,List.all_append,ha]; simp[hy]
  | false =>
   refine cT rfl ⟨?_,(s5.quiet c6).an⟩;rw[List.all_eq_false.2 ⟨y,List.mem_of_getElem? hx,by simp[hy]⟩]
 ·obtain rfl:j=l.length:=by omega
  rw[List.take_length] at ha;exact cF (by simp) ⟨by rw[ha],hc⟩
def iF(a b:Ch):Int:=cost a.p b.want-cost a.p a.want
theorem GF{a b:Ch}(ha:a.Ok)(hb:b.Ok) : -24000000<=iF a b/\iF a b<=24000000:=by
 have h1:=cS ha.p hb.w;have h2:=cS ha.p ha.w;unfold iF; omega
theorem Ij(w:World){a b:Ch}(ha:a.Ok)(hb:b.Ok):CP 152 #[a.v,b.v] w (λ r w'=>r=iv (iF a b)/\ax w w' []):=by
 refine pR ?_;unfold mC;have h1:=cS ha.p hb.w;have h2:=cS ha.p ha.w;refine(St.start w).one.av a.cells.toArray λ r1 w1 s1=>s1.av b.cells.toArray λ r2 w2 s2=>?_;have s3:=s2.quiet (ax.drew w2 []);refine⟨_,mO s3 1 rfl,_,bz s3 0 rfl,_,mO s3 1 rfl,_,bz s3 1 rfl,aq (eV _ ha.p hb.w) ?_⟩;rintro v w3 ⟨rfl,c3⟩;have s4:=s3.quiet c3;refine⟨_,rfl,bz s4 1 rfl,mO s4 1 rfl,aq (eV _ ha.p ha.w) ?_⟩;rintro v w5 ⟨rfl,c5⟩;refine⟨_,rfl,?_,(s4.quiet c5).an⟩;rw[ay ⟨by omega,by omega⟩]; rfl
abbrev i1 (x:Int):List Value:=[iv x]
theorem hO(x:Int):(i1 x).length=1:=rfl
theorem Ik(x:Int):∀ v∈i1 x,v.oneCell' = true:=by intro v hv; simp at hv; subst hv; rfl
theorem JI:gW prog 161 2 (iv 0) 1 8:=gW.mk' underlying161 (by kernel_rfl) rfl (by decide)
theorem Kp:gW prog 160 3 (iv 0) 1 8:=gW.mk' underlying160 (by kernel_rfl) rfl (by decide)
theorem Jq:JV prog 251 3 4 (.bool false):=⟨underlying251,by kernel_rfl⟩
theorem nW{w:World}{a:OA}{l:List Int}(h:bU 1 i1 w a l){i:Nat}{x:Int}(hi:l[i]?=some x):∃ q,a=some q/\w.cell? (Addr.add q (i*1))=some (iv x):=by
 obtain⟨q,hq,hc⟩:=h.at hi;have:=aL hc 0 _ rfl;rw[Nat.zero_add,Addr.add_add,Nat.add_zero] at this;exact⟨q,hq,this⟩
def b8(f:Nat->Int)(n:Nat):List Int:=(List.range n).map f
theorem cq(f:Nat->Int)(n:Nat):(b8 f n).length=n:=by simp[b8]
theorem nT(f:Nat->Int){n i:Nat}(h:i<n):(b8 f n)[i]?=some (f i):=by simp[b8,h]
theorem pn:∀ (n:Nat) (l:List Nat),l.Nodup->(∀ x∈l,x<n)->l.length<=n
 | 0,[],_,_=>Nat.le_refl _
 | 0,x :: _,_,h=>absurd (h x (by simp)) (by omega)
 | n+1,l,hd,h=>by
  by_cases hm:n∈l
  ·have h1:=pn n (l.erase n) (hd.erase n) λ x hx=>by
    have h2:=(hd.mem_erase_iff).1 hx;have:=h x h2.2;omega
   rw[List.length_erase_of_mem hm] at h1;omega
  ·have h1:=pn n l hd λ x hx=>by
    have:=h x hx;have:x≠n:=λ e=>hm (e▸hx);omega
   omega
theorem od{l:List Int}{n:Nat}(hd:l.Nodup)(h:∀ x∈l,0<=x/\x<n):l.length<=n:=by
 have h2:(l.map Int.toNat).Nodup:=by
  rw[List.nodup_iff_pairwise_ne] at *;rw[List.pairwise_map];exact hd.imp_of_mem λ {a b} ha hb hne e=>hne (by have:=h a ha; have:=h b hb; omega)
 have h3:∀ x∈l.map Int.toNat,x<n:=λ x hx=>by
  obtain⟨y,hy,rfl⟩:=List.mem_map.1 hx;have:=h y hy;omega
 have:=pn n _ h2 h3;simpa using this
theorem Gr{w:World}{n:Nat}(hn:n<=1000){a:OA}{c:Nat}{st:Lo}(hr:bU 1 i1 w a (b8 st.f n)){G T:Int}{g:Nat->Nat->Int}(hs:AZ g n G T n n 0 st){ch:Nat}(hc:ch<n)(hl:st.lr ch=n) :
  CP 210 #[.slice a n c,iv ch] w (λ r w'=>(∃ q l c,r=.slice (some q) l c)/\ax w w' []):=by
 refine oF ?_;unfold kJ;have link:∀ {w' : World} {x:Nat},ax w w' []->x<n->∃ q,a=some q/\w'.cell? (Addr.add q (x*1))=some (iv (st.f x)):=λ hc hx=>nW (hr.an hc) (nT _ hx);refine CQ (St.start w) λ m w1 c1 s1=>?_;have s1:=St.JP s1;refine⟨λ x w2 k=>∃ (ks:List Int) (y:Nat),x=y/\y<n/\ks.Nodup/\(∀ z∈ks,0<=z/\z<n)/\k+ks.length=n+1/\n<=st.lr y+ks.length/\(∀ z:Nat,(z:Int)∈ks->st.f z=y\/st.f z∈ks)/\St w w2 (star (sX m ks) emp),⟨n+1,[],ch,rfl,hc,List.nodup_nil,by simp,by simp,by rw[hl]; simp,by simp,s1⟩,?_⟩
 rintro w2 k x ⟨ks,y,rfl,hy,hd,hb,hk,hlr,hcl,s2⟩ -;refine si Jq underlying3 s2 (y:Int) ?_
 by_cases hm:(y:Int)∈ks
 ·refine cF (by rw[dT hm]; rfl) (xC Jq s2 λ w5 c5 s5=>?_);have cl2:∀ z:Nat,(z:Int)∈ks->st.f z∈ks:=λ z hz=>(hcl z hz).elim (λ e=>by rw[e]; exact hm) id;refine⟨λ x a2 l2 c2 w6 k=>∃ (ms:List Int) (y:Nat),x=y/\(y:Int)∈ks/\ms.Nodup/\(∀ z∈ms,z∈ks)/\k+ms.length=n+1/\l2=ms.length/\St w w6 (Sep [sX m ms,dA 3 1 i1 a2 c2 ms,emp]),⟨n+1,[],y,rfl,hm,List.nodup_nil,by simp,by simp,rfl,(s5.gU (e:=3) (sz:=1) (f:=i1)).IY.Ca⟩,?_⟩
  rintro w6 k2 x a2 l2 c2 ⟨ms,z,rfl,hz,hd2,hb2,hk2,rfl,s6⟩ -;refine si Jq underlying3 s6 (z:Int) ?_;have hms:ms.length<=n:=od hd2 λ v hv=>hb v (hb2 v hv)
  by_cases hm2:(z:Int)∈ms
  ·refine cF (by rw[dT hm2]; rfl) ?_;refine aE Kp hO (x:=0) rfl s6 (n:=ms.length) (by omega) (by omega) λ gg w11 c11 s11=>?_;refine⟨λ x w12 k=>∃ (j:Nat) (out:List Int),x=j/\j<=ms.length/\k=ms.length-j/\out.length=ms.length/\St w w12 (star (dA 3 1 i1 (some ⟨gg,0,none⟩) ms.length out) (Sep [sX m ms,dA 3 1 i1 a2 c2 ms,emp])),⟨ms.length,0,_,rfl,by omega,by omega,by simp,s11⟩,?_⟩
   rintro w12 k3 x ⟨j,out,rfl,hj,hk3,ho,s12⟩ -
   by_cases hlt:(j:Int)<(ms.length:Int)
   ·have hx:ms[j]?=some (ms[j]'(by omega)):=gE (by omega);generalize ms[j]'(by omega)=v at hx;have s13:St w w12 (Sep [dA 3 1 i1 (some ⟨gg,0,none⟩) ms.length out,sX m ms,dA 3 1 i1 a2 c2 ms,emp]):=s12;obtain⟨q,hq,hcq⟩:=nW (St.rd hO (s13.out 2 rfl)) hx;have e1:IntKind.i64.wrap ((IntKind.i64.wrap ((ms.length:Int)-1))-(j:Int))=((ms.length-1-j:Nat):Int):=by
     rw[ay (n:=(ms.length:Int)-1) ⟨by omega,by omega⟩,ay ⟨by omega,by omega⟩]; omega
    rw[e1];refine cT (dT hlt) (ai hq ⟨by omega,by omega,v,hcq,by omega,by omega,?_⟩);rw[Int.toNat_natCast];exact St.kQ (v:=iv) rfl s12 (i:=ms.length-1-j) (by omega) λ w13 s14=>⟨ms.length-(j+1),by omega,j+1,_,ay ⟨by omega,by omega⟩,by omega,rfl,by simpa using ho,s14⟩
   ·exact cF (dF hlt) ⟨⟨_,_,_,rfl⟩,s12.an⟩
  ·have hks:ks.length<=n:=od hd hb;have hd3:(ms++[(z:Int)]).Nodup:=List.nodup_append.2 ⟨hd2,by simp,λ a ha b hb e=>by simp at hb; subst hb; subst e; exact hm2 ha⟩;have hms2:(ms++[(z:Int)]).length<=n:=od hd3 λ v hv=>by
    rcases List.mem_append.1 hv with h|h
    ·exact hb v (hb2 v h)
    ·simp at h; subst h; exact hb _ hz
   simp only[List.length_append,List.length_singleton] at hms2;refine cT (by rw[dF hm2]; rfl) (uH Jq underlying3 s6 (z:Int) hm2 λ w8 c8 s8=>?_);have s8' : St w w8 (star (dA 3 1 i1 a2 c2 ms) (star (sX m (ms++[(z:Int)])) (Sep [emp]))):=s8.IY;refine rI (x:=(z:Int)) Kp hO (Ik _) s8' (by omega) (by omega) (λ a' c' w10 s10=>?_) rfl;have zr:=hb _ hz;obtain⟨q,hq,hcq⟩:=link s10.an (show z<n by omega);have hfz:=cl2 z hz;have hfr:=hb _ hfz;refine ai hq ⟨by omega,by omega,_,hcq,k2-1,?_,ms++[(z:Int)],(st.f z).toNat,by omega,by rw[Int.toNat_of_nonneg hfr.1]; exact hfz,hd3,?_,?_,rfl,s10.IY⟩
   ·omega
   ·intro v hv;rcases List.mem_append.1 hv with h|h
    ·exact hb2 v h
    ·simp at h; subst h; exact hz
   ·simp only[List.length_append,List.length_singleton]; omega
 ·have hd3:(ks++[(y:Int)]).Nodup:=List.nodup_append.2 ⟨hd,by simp,λ a ha b hb e=>by simp at hb; subst hb; subst e; exact hm ha⟩;have hb3:∀ z∈ks++[(y:Int)],0<=z/\z<n:=λ z hz=>by
   rcases List.mem_append.1 hz with h|h
   ·exact hb z h
   ·simp at h; subst h; omega
  have hms2:=od hd3 hb3;simp only[List.length_append,List.length_singleton] at hms2;refine cT (by rw[dF hm]; rfl) (uH Jq underlying3 s2 (y:Int) hm λ w4 c4 s4=>?_);obtain⟨q,hq,hcq⟩:=link s4.an hy;rcases hs.f y hy with⟨_,h0⟩|⟨p,hp,hfp,h1,h2⟩
  ·omega
  ·refine ai hq ⟨by omega,by omega,_,hcq,k-1,by omega,ks++[(y:Int)],p,hfp,hp,hd3,hb3,?_,?_,?_,s4⟩
   ·simp only[List.length_append,List.length_singleton]; omega
   ·simp only[List.length_append,List.length_singleton]; omega
   ·intro z hz;rcases List.mem_append.1 hz with h|h
    ·rcases hcl z h with e|e
     ·exact .inr (by rw[e]; simp)
     ·exact .inr (List.mem_append_left _ e)
    ·simp at h;have h:z=y:=by omega
     subst h; exact .inl hfp
def gF(l:List Ch)(a b:Nat):Int:=iF (l.getD a dj) (l.getD b dj)
theorem Bk(l:List Ch)(a:Nat):gF l a a=0:=by unfold gF iF; omega
theorem Ji{l:List Ch}(h:∀ c∈l,c.Ok)(a b:Nat)(ha:a<l.length)(hb:b<l.length) : -24000000<=gF l a b/\gF l a b<=24000000:=by
 have e:∀ i,i<l.length->(l.getD i dj).Ok:=λ i hi=>by
  rw[List.getD_eq_getElem?_getD,gE hi];exact h _ (List.getElem_mem hi)
 exact GF (e a ha) (e b hb)
def ic(l:List Ch):Lo:=gI (gF l) l.length
theorem CL{w:World}{a:OA}{c:Nat}{l:List Ch}(hr:nG w a l)(hl:l.length<=100)(ho:∀ c∈l,c.Ok) :
  CP 203 #[.slice a l.length c] w (λ r w' =>
   ((ic l).ch<0/\(∃ g c,r=.tuple #[.slice (some ⟨g,0,none⟩) l.length c,.slice none 0 0]/\St w w' (star (dA 2 1 i1 (some ⟨g,0,none⟩) c (b8 (ic l).v l.length)) emp)))\/(0<=(ic l).ch/\(∃ q m c,r=.tuple #[.slice none 0 0,.slice (some q) m c])/\ax w w' [])):=by
 refine lT ?_;unfold iK;generalize hn:l.length=n at *;have hG:(0:Int)<=24000000:=by omega
 have g0:=Bk l;have gb:∀ a b,a<n->b<n->-24000000<=gF l a b/\gF l a b<=24000000:=λ a b ha hb=>Ji ho a b (by omega) (by omega);refine aE JI hO (x:=0) rfl (St.start w) (n:=n) (by omega) (by omega) λ gv w1 c1 s1=>?_;refine aE Kp hO (x:=0) rfl s1 (n:=n) (by omega) (by omega) λ gf w2 c2 s2=>?_;let L:Nat->(Nat->Int)->(Nat->Int)->List aJ:=λ _ v f=>[dA 3 1 i1 (some ⟨gf,0,none⟩) n (b8 f n),dA 2 1 i1 (some ⟨gv,0,none⟩) n (b8 v n)];have z1:List.replicate n (0:Int)=b8 (λ _=>0) n:=by unfold b8; rw[List.map_const']; simp
 have z2:b8 (λ i=>if i<0 then (-1:Int) else 0) n=b8 (λ _=>0) n:=by simp
 rw[z1] at s1 s2;refine⟨λ x w3 k=>∃ (j:Nat),x=j/\j<=n/\k=n-j/\St w w3 (Sep (L 0 (λ _=>0) λ i=>if i<j then -1 else 0)),⟨n,0,rfl,by omega,by omega,by
  show St w w2 (Sep [dA 3 1 i1 (some ⟨gf,0,none⟩) n (b8 (λ i=>if i<0 then (-1:Int) else 0) n),_]);rw[z2]; exact s2⟩,?_⟩
 rintro w3 k x ⟨j,rfl,hj,hk,s3⟩ -
 by_cases hlt:(j:Int)<((b8 (λ _=>(0:Int)) n).length:Int)
 ·have hjn:j<n:=by rw[cq] at hlt; omega
  refine cT (dT (by rw[cq] at hlt; exact hlt)) (ai rfl ⟨by omega,by omega,?_⟩);rw[Int.toNat_natCast];refine St.kQ (v:=iv) (x:=-1) rfl (s3.out 0 rfl) (i:=j) (by rw[cq]; exact hjn) λ w4 s4=>⟨n-(j+1),by omega,j+1,ay ⟨by omega,by omega⟩,by omega,rfl,?_⟩;have e:(b8 (λ i=>if i<j then (-1:Int) else 0) n).set j (-1)=b8 (λ i=>if i<j+1 then -1 else 0) n:=by
   unfold b8;rw[ri]
   congr 1
   funext i
   by_cases h:i=j
   ·subst h; simp[bD]
   ·rw[di _ _ h]
    by_cases h2:i<j
    ·rw[if_pos h2,if_pos (by omega)]
    ·rw[if_neg h2,if_neg (by omega)]
  rw[e] at s4;exact s4.back (l:=L 0 (λ _=>0) λ i=>if i<j then -1 else 0) (i:=0) (by simp[L])
 rw[cq] at hlt;obtain rfl:n=j:=by omega
 have e1:b8 (λ i=>if i<n then (-1:Int) else 0) n=b8 (λ _=>-1) n:=by
  unfold b8;refine List.map_congr_left λ i hi=>?_;rw[if_pos (List.mem_range.1 hi)]
 have s3' : St w w3 (Sep (L 0 IX.v IX.f)):=by
  show St w w3 (Sep [dA 3 1 i1 (some ⟨gf,0,none⟩) n (b8 (λ _=>-1) n),_]);rw[<- e1]; exact s3
 refine cF (dF hlt) ⟨λ x w5=>x=(ic l).ch/\St w w5 (Sep (L 0 (ic l).v (ic l).f)),?_,?_⟩
 ·rintro w5 x ⟨rfl,s5⟩ -
  by_cases hc:(ic l).ch<0
  ·refine cT (dT hc) (.inl ⟨hc,gv,n,rfl,?_⟩);have:=(s5.aA [1]).EL;exact((s5.aA [1,2]).pair)
  ·refine cF (dF hc) ?_;obtain⟨r',T',hS,hrn⟩:=CK (g:=gF l) (n:=n) hG g0 gb;have hch:0<=(ic l).ch:=by omega
   have hst:gI (gF l) n=ic l:=by unfold ic; rw[hn]
   rw[hst] at hS hrn;have hrn':=hrn hch;subst hrn';rcases hS.i.ch with h1|⟨cc,hcc,h1,h2⟩
   ·omega
   ·rw[h1];have rd5:=St.rd hO (s5.out 0 rfl);refine aq (Gr (by omega) rd5 hS.i hcc h2) ?_;rintro v w6 ⟨⟨q,m,cap,rfl⟩,c6⟩;exact⟨_,_,_,rfl,.inr ⟨by omega,⟨q,m,cap,rfl⟩,s5.an.trans c6 (by simp)⟩⟩
 refine⟨λ ch x w7 k=>∃ (r:Nat) (T:Int) (s:Lo),x=r/\r<=n/\k=n-r/\ch=s.ch/\T=(r:Int)*n/\Ew (gF l) n (n-r) r s=ic l/\Cg (gF l) n 24000000 T r n s/\St w w7 (Sep (L 0 s.v s.f)),⟨n,0,0,IX,rfl,by omega,by omega,rfl,by simp,by unfold ic gI; rw[hn]; rfl,HD hG,s3'⟩,?_⟩
 rintro w7 k7 ch x ⟨r,T,s,rfl,hr7,hk7,rfl,hT,hfin,hS,s7⟩ -
 by_cases hlt:(r:Int)<(n:Int)
 ·have hrn:r<n:=by omega
  have hnr:n-r=(n-(r+1))+1:=by omega
  have hT2:T<=10000/\0<=T:=by
   have h1:(r:Int)*n<=100*n:=Int.mul_le_mul_of_nonneg_right (by omega) (by omega);have h2:(0:Int)<=(r:Int)*n:=Int.mul_nonneg (by omega) (by omega);omega
  have hS1:Cg (gF l) n 24000000 T (r+1) 0 { s with ch:=-1 }:=⟨hS.i.HF hS.b,hS.b⟩;refine cT (dT hlt) ⟨λ ch x w8 k=>∃ (a:Nat) (t:Lo),x=a/\a<=n/\k=n-a/\ch=t.ch/\t=wY (gF l) n (r+1) a { s with ch:=-1 }/\St w w8 (Sep (L 0 t.v t.f)),⟨n,0,_,rfl,by omega,by omega,rfl,rfl,s7⟩,?_⟩;rintro w8 k8 ch x ⟨aa,t,rfl,ha8,hk8,rfl,ht,s8⟩ -;have hSa:=hS1.wY hG g0 gb (by omega) aa ha8;rw[<- ht] at hSa
  by_cases hlt8:(aa:Int)<(n:Int)
  ·have han:aa<n:=by omega
   refine cT (dT hlt8) ⟨λ ch x w9 k=>∃ (b:Nat) (t' : Lo),x=b/\b<=n/\k=n-b/\ch=t'.ch/\t' = tH (gF l) (r+1) aa b t/\St w w9 (Sep (L 0 t'.v t'.f)),⟨n,0,t,rfl,by omega,by omega,rfl,rfl,s8⟩,?_⟩;rintro w9 k9 ch x ⟨bb,t',rfl,hb9,hk9,rfl,ht',s9⟩ -;have hIb:=hSa.i.tH g0 gb (by omega) han bb hb9;rw[<- ht'] at hIb
   by_cases hlt9:(bb:Int)<(n:Int)
   ·have hbn:bb<n:=by omega
    have xa:l[aa]?=some (l.getD aa dj):=by rw[List.getD_eq_getElem?_getD,gE (by omega)]; rfl
    have xb:l[bb]?=some (l.getD bb dj):=by rw[List.getD_eq_getElem?_getD,gE (by omega)]; rfl
    have s10:St w w9.drew (Sep (L 0 t'.v t'.f)):=s9.quiet (ax.drew w9 []);obtain⟨qa,hqa,hca⟩:=(hr.an s10.an).at xa;obtain⟨qb,hqb,hcb⟩:=(hr.an s10.an).at xb;have val:∀ {w' : World} {i:Nat},i<n->St w w' (Sep (L 0 t'.v t'.f))->w'.cell? (Addr.add ⟨gv,0,none⟩ (((i:Nat):Int).toNat*1))=some (iv (t'.v i)):=λ hi s=>by
     obtain⟨q,hq,hc⟩:=nW (St.rd hO (s.out 1 rfl)) (nT t'.v hi)
     cases hq; exact hc
    refine cT (dT hlt9) ⟨λ ch w10=>ch=(tA (gF l) (r+1) aa bb t').ch/\St w w10 (Sep (L 0 (tA (gF l) (r+1) aa bb t').v (tA (gF l) (r+1) aa bb t').f)),?_,?_⟩
    ·rintro w10 ch ⟨rfl,s11⟩ -;refine⟨n-(bb+1),by omega,bb+1,_,ay ⟨by omega,by omega⟩,by omega,rfl,rfl,?_,s11⟩;rw[ht']; rfl
    ·refine ai rfl ⟨by omega,by omega,_,val han s10,ai hqa ⟨by omega,by omega,(l.getD aa dj).p,(l.getD aa dj).want,hca,ai hqb ⟨by omega,by omega,(l.getD bb dj).p,(l.getD bb dj).want,hcb,aq (Ij _ (ho _ (List.mem_of_getElem? xa)) (ho _ (List.mem_of_getElem? xb))) ?_⟩⟩⟩;rintro v w11 ⟨rfl,c11⟩;have s11:=s10.quiet c11;have ba:=hIb.lo aa han;have hla:=hIb.la han;have hg1:=gb aa bb han hbn;have hTa:(aa:Int)<=100:=by omega
     have ew:IntKind.i64.wrap (t'.v aa+iF (l.getD aa dj) (l.getD bb dj))=t'.v aa+gF l aa bb:=ay ⟨by show _<=t'.v aa+gF l aa bb; omega,by show t'.v aa+gF l aa bb<=_; omega⟩;refine⟨_,rfl,val han s11,ai rfl ⟨by omega,by omega,_,val hbn s11,?_⟩⟩;rw[ew]
     by_cases hrl:t'.v aa+gF l aa bb<t'.v bb
     ·have er:tA (gF l) (r+1) aa bb t' = { v:=iP t'.v bb (t'.v aa+gF l aa bb),f:=iP t'.f bb aa,lr:=iP t'.lr bb (r+1),ch:=bb }:=by unfold tA; rw[if_pos hrl]
      rw[er];refine cT (dT hrl) (ai rfl ⟨by omega,by omega,?_⟩);rw[Int.toNat_natCast];refine St.kQ (v:=iv) (x:=t'.v aa+gF l aa bb) rfl (s11.out 1 rfl) (i:=bb) (by rw[cq]; exact hbn) λ w12 s12=>?_;have e2:(b8 t'.v n).set bb (t'.v aa+gF l aa bb)=b8 (iP t'.v bb (t'.v aa+gF l aa bb)) n:=ri _ _ _ _;rw[e2] at s12;have s13:St w w12 (Sep [dA 3 1 i1 (some ⟨gf,0,none⟩) n (b8 t'.f n),dA 2 1 i1 (some ⟨gv,0,none⟩) n (b8 (iP t'.v bb (t'.v aa+gF l aa bb)) n)]):=s12.back (l:=L 0 t'.v t'.f) (i:=1) (by simp[L]);refine ai rfl ⟨by omega,by omega,?_⟩;refine St.kQ (v:=iv) (x:=(aa:Int)) rfl (s13.out 0 rfl) (i:=bb) (by rw[cq]; exact hbn) λ w14 s14=>⟨rfl,?_⟩;have e3:(b8 t'.f n).set bb (aa:Int)=b8 (iP t'.f bb aa) n:=ri _ _ _ _;rw[e3] at s14;exact s14.back (l:=[dA 3 1 i1 (some ⟨gf,0,none⟩) n (b8 t'.f n),dA 2 1 i1 (some ⟨gv,0,none⟩) n (b8 (iP t'.v bb (t'.v aa+gF l aa bb)) n)]) (i:=0) (by simp)
     ·have er:tA (gF l) (r+1) aa bb t' = t':=by unfold tA; rw[if_neg hrl]
      rw[er];exact cF (dF hrl) ⟨rfl,s11⟩
   ·obtain rfl:n=bb:=by omega
    refine cF (dF hlt9) ⟨n-(aa+1),by omega,aa+1,_,ay ⟨by omega,by omega⟩,by omega,rfl,rfl,?_,s9⟩;rw[ht',ht]; rfl
  ·obtain rfl:n=aa:=by omega
   have eR:t=CI (gF l) n (r+1) s:=ht;have hfin2:(if (CI (gF l) n (r+1) s).ch<0 then CI (gF l) n (r+1) s else Ew (gF l) n (n-(r+1)) (r+1) (CI (gF l) n (r+1) s))=ic l:=by
    rw[<- hfin,hnr]; rfl
   rw[<- eR] at hfin2;refine cF (dF hlt8) ?_
   by_cases hc:t.ch<0
   ·rw[if_pos hc] at hfin2;refine cT (dT hc) ?_;rw[<- hfin2];exact⟨rfl,s8⟩
   ·rw[if_neg hc] at hfin2;refine cF (dF hc) ⟨n-(r+1),by omega,r+1,T+n,t,ay ⟨by omega,by omega⟩,by omega,rfl,rfl,?_,hfin2,hSa,s8⟩;rw[hT,Int.natCast_add,Int.add_mul]; omega
 ·obtain rfl:n=r:=by omega
  rw[Nat.sub_self] at hfin;have hfin:s=ic l:=hfin;subst hfin;exact cF (dF hlt) ⟨rfl,s7⟩

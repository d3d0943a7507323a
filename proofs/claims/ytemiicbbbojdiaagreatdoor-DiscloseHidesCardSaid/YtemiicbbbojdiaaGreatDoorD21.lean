import Derived.Test.YtemiicbbbojdiaaGreatDoorD19
set_option linter.unusedVariables false
set_option maxRecDepth 100000
namespace Go.Proofs.YtemiicbbbojdiaaGreatDoor
open Go Go.Vc _root_.Go.Proofs.Tryz
theorem Im(w:World)(u v:I6):CP 76 #[.agg u.vs.toArray,.agg v.vs.toArray] w (λ r w'=>r=iv (KA u v)/\Chg w w' []):=by
 refine xx ?_;unfold th;refine(St.start w).one.aB u.vs.toArray λ r1 w1 s1=>s1.aB v.vs.toArray λ r2 w2 s2=>?_;have s2:St w w2 (Sep [ai r2 v.vs.toArray 39,ai r1 u.vs.toArray 39,emp]):=s2;refine⟨λ n w3 m=>∃ k:Nat,n=k/\k<=6/\m=6-k/\KA u v=fY u v (6-k)/\St w w3 (Sep [ai r2 v.vs.toArray 39,ai r1 u.vs.toArray 39,emp]),⟨6,0,rfl,by omega,by omega,rfl,s2⟩,?_⟩;rintro w3 m n ⟨k,rfl,hk,hm,ha,s⟩ -
 by_cases hlt:(k:Int)<6
 ·have hk' : k<6:=by omega
  obtain⟨j,hj⟩:∃ j,6-k=j+1:=⟨5-k,by omega⟩;have hk5:5-j=k:=by omega
  have s3:=s.quiet (Chg.drew _ _);have s4:=s3.quiet (Chg.drew _ _);refine cT (dT hlt) ⟨by omega,by omega,u.at' k,by rw[fj,aI s3 1 rfl hk'],by omega,by omega,v.at' k,by rw[fj,aI s3 0 rfl hk'],?_⟩;rw[hj] at ha;rcases nS (u.at' k) (v.at' k) (fY u v j) with⟨a1,e1⟩|⟨a1,e1⟩|⟨a1,e1⟩
  ·refine cT (dT a1) ⟨?_,s3.aA⟩;rw[ha];show iv (-1)=iv (Oi (u.at' (5-j)) (v.at' (5-j)) _);rw[hk5,e1]
  ·refine cF (dF (by omega)) ⟨by omega,by omega,u.at' k,by rw[fj,aI s4 1 rfl hk'],by omega,by omega,v.at' k,by rw[fj,aI s4 0 rfl hk'],?_⟩;refine cF (dF (by omega)) ⟨6-(k+1),by omega,k+1,inc (by decide) hk',by omega,rfl,?_,s4⟩;rw[ha,Ja (by rw[hk5]; exact a1),show 6-(k+1)=j by omega]
  ·refine cF (dF (by omega)) ⟨by omega,by omega,u.at' k,by rw[fj,aI s4 1 rfl hk'],by omega,by omega,v.at' k,by rw[fj,aI s4 0 rfl hk'],?_⟩;refine cT (dT a1) ⟨?_,s4.aA⟩;rw[ha];show iv 1=iv (Oi (u.at' (5-j)) (v.at' (5-j)) _);rw[hk5,e1]
 ·obtain rfl:k=6:=by omega
  refine cF (dF hlt) ⟨?_,s.aA⟩;rw[ha]; rfl
theorem F5{x:I6}{q:List I6}:∀ {p:List I6},(p.any λ y=>oZ x y)=true->fy x (p++q)=fy x p++q
 | [],h=>by simp at h
 | y :: p,h=>by
  show(if oZ x y=true then x :: y :: (p++q) else y :: fy x (p++q))=(if oZ x y=true then x :: y :: p else y :: fy x p)++q
  by_cases g:oZ x y=true
  ·rw[if_pos g,if_pos g]; rfl
  ·rw[if_neg g,if_neg g,F5 (by rw[List.any_cons] at h; simpa[g] using h)]; rfl
theorem Nd{x:I6}{p:List I6}(h:(p.any λ y=>oZ x y)=false):fy x p=p++[x]:=by
 have:=vf (x:=x) (q:=[]) (λ y hy=>by cases hy) (p:=p) λ y hy=>by
  rw[List.any_eq_false] at h;exact(Bool.not_eq_true _).mp (h y hy)
 rwa [List.append_nil] at this
theorem Nf{x y:I6}{p:List I6}(h:(p.any λ y=>oZ x y)=false)(g:oZ x y=true):fy x (p++[y])=p++[x]++[y]:=by
 have:=vf (x:=x) (q:=[y]) (λ z hz=>by rw[List.mem_singleton.1 hz]; exact g) (p:=p) λ y hy=>by
  rw[List.any_eq_false] at h;exact(Bool.not_eq_true _).mp (h y hy)
 rw[this]; simp
theorem Ly{w:World}{a:OA}{c:Nat}{l:List I6}(h:bG 6 I6.vs w a l)(hl:l.length<=1000) :
  CP 50 #[.slice a l.length c] w (λ r w'=>∃ a' c',r=.slice a' (bz (l.filter iQ)).length c'/\St w w' (eJ a' c' (bz (l.filter iQ)))):=by
 refine zf ?_;unfold vG;refine⟨λ a2 l2 c2 n w1 m=>∃ k:Nat,n=k/\k<=l.length/\m=l.length-k/\l2=(bz ((l.take k).filter iQ)).length/\St w w1 (Sep [eJ a2 c2 (bz ((l.take k).filter iQ)),emp]),⟨l.length,0,rfl,by omega,by omega,rfl,(St.start w).one.cV⟩,?_⟩;rintro w1 m a2 l2 c2 n ⟨k,rfl,hk,hm,rfl,s1⟩ -
 by_cases hlt:(k:Int)<(l.length:Int)
 rotate_left
 ·obtain rfl:k=l.length:=by omega
  rw[List.take_length] at s1 ⊢;exact cF (dF hlt) ⟨_,_,rfl,s1.first⟩
 have hx:l[k]?=some (l[k]'(by omega)):=gE (by omega);generalize l[k]'(by omega)=x at hx;have rdx:∀ {w' : World},Chg w w' []->∃ q,a=some q/\af w' (q.add (k*6)) 0 x.vs:=λ hc=>(bG.aA h hc).at hx;have hol:(bz ((l.take k).filter iQ)).length<=k:=by
  rw[jK];have:=List.length_filter_le iQ (l.take k);rw[List.length_take] at this;omega
 have hnext:(l.take (k+1)).filter iQ=(l.take k).filter iQ++(if iQ x then [x] else []):=by
  rw[aH hx,List.filter_append]
  cases hn:iQ x<;>simp[hn]
 generalize hout:bz ((l.take k).filter iQ)=out at s1 hol ⊢;refine cT (dT hlt) ⟨λ a3 l3 c3 w2=>l3=(bz ((l.take (k+1)).filter iQ)).length/\St w w2 (Sep [eJ a3 c3 (bz ((l.take (k+1)).filter iQ)),emp]),?_,?_⟩
 ·rintro w2 a3 l3 c3 ⟨rfl,s2⟩ -;exact⟨l.length-(k+1),by omega,k+1,aF ⟨by omega,by omega⟩,by omega,rfl,rfl,s2⟩
 obtain⟨q,hq,hcl⟩:=rdx s1.aA;refine aq hq ⟨by omega,by omega,x,hcl,?_⟩;rw[I6.beq_eq]
 by_cases hz:x=z6
 ·have e:bz ((l.take (k+1)).filter iQ)=out:=by
   rw[hnext,<- hout];subst hz;simp[iQ]
  rw[e];exact cT (dT hz) ⟨rfl,s1⟩
 have e:bz ((l.take (k+1)).filter iQ)=fy x out:=by
  rw[hnext,if_pos (by simp[iQ,hz]),BE,hout]
 rw[e];refine cF (dF hz) ⟨λ a4 l4 c4 b n w2 m=>∃ (j:Nat) (N:List I6),n=j/\j<=out.length/\m=out.length-j/\l4=N.length/\N=(if b=true then fy x (out.take j) else out.take j)/\b=((out.take j).any λ y=>oZ x y)/\St w w2 (Sep [eJ a4 c4 N,eJ a2 c2 out,emp]),⟨out.length,0,[],rfl,by omega,by omega,rfl,rfl,rfl,St.cV s1⟩,?_⟩;rintro w2 m2 a4 l4 c4 b n ⟨j,N,rfl,hj,hm2,rfl,hN,hb,s2⟩ -;have hNl:N.length<=j+1:=by
  rw[hN]
  split
  ·rw[AQ,List.length_take]; omega
  ·rw[List.length_take]; omega
 by_cases hlj:(j:Int)<(out.length:Int)
 rotate_left
 ·obtain rfl:j=out.length:=by omega
  rw[List.take_length] at hN hb;refine cF (dF hlj) ⟨λ a8 l8 c8 w3=>l8=(fy x out).length/\St w w3 (Sep [eJ a8 c8 (fy x out),emp]),?_,?_⟩
  ·rintro w3 a8 l8 c8 ⟨rfl,s3⟩ -;exact⟨rfl,s3⟩
  ·cases b with
   | true =>
    rw[if_pos rfl] at hN;subst hN;exact cF rfl ⟨rfl,s2.ay [0,2]⟩
   | false =>
    rw[if_neg (by decide)] at hN;have hN':=hN.symm;subst hN';obtain⟨q,hq,hcl⟩:=rdx s2.aA;refine cT rfl (aq hq ⟨by omega,by omega,x,hcl,?_⟩);rw[Nd hb.symm];refine eK RJ aR (x:=x) (I6.one x) (s2.out 0 rfl) (by omega) (by omega) (λ a' c' w3 s3=>⟨rfl,?_⟩) rfl;have s4:St w w3 (Sep [eJ a' c' (out++[x]),eJ a2 c2 out,emp]):=s3;exact s4.ay [0,2]
 have hy:out[j]?=some (out[j]'(by omega)):=gE (by omega);generalize out[j]'(by omega)=y at hy;refine cT (dT hlj) ⟨λ a5 l5 c5 b2 w3=>∃ M:List I6,l5=M.length/\M.length<=j+2/\M++[y]=(if b2=true then fy x (out.take (j+1)) else out.take (j+1))/\b2=((out.take (j+1)).any λ y=>oZ x y)/\St w w3 (Sep [eJ a5 c5 M,eJ a2 c2 out,emp]),?_,?_⟩
 ·rintro w3 a5 l5 c5 b2 ⟨M,rfl,hMl,hM,hb2,s3⟩ -;obtain⟨q2,hq2,hc2⟩:=(St.rd aR (s3.out 1 rfl)).at hy;refine aq hq2 ⟨by omega,by omega,y,hc2,?_⟩;refine eK RJ aR (x:=y) (I6.one y) (s3.out 0 rfl) (by omega) (by omega) (λ a' c' w4 s4=>⟨out.length-(j+1),by omega,j+1,M++[y],aF ⟨by omega,by omega⟩,by omega,rfl,rfl,hM,hb2,s4⟩) rfl
 have htk:out.take (j+1)=out.take j++[y]:=aH hy;have hany:((out.take (j+1)).any λ y=>oZ x y)=(((out.take j).any λ y=>oZ x y)||oZ x y):=by rw[htk,List.any_append]; simp
 refine⟨λ b3 w3=>b3=(!b&&oZ x y)/\St w w3 (Sep [eJ a4 c4 N,eJ a2 c2 out,emp]),?_,?_⟩
 ·rintro w3 b3 ⟨hb3,s3⟩ -
  cases b with
  | true =>
   rw[if_pos rfl] at hN;subst hN;rw[hb3];refine cF rfl ⟨_,rfl,by omega,?_,by rw[hany,<- hb]; rfl,s3⟩;rw[if_pos rfl,htk,F5 hb.symm]
  | false =>
   rw[if_neg (by decide)] at hN;subst hN
   cases g:oZ x y with
   | true =>
    rw[g] at hb3;rw[hb3];obtain⟨q3,hq3,hc3⟩:=rdx s3.aA;refine cT rfl (aq hq3 ⟨by omega,by omega,x,hc3,?_⟩);refine eK RJ aR (x:=x) (I6.one x) (s3.out 0 rfl) (by omega) (by omega) (λ a' c' w4 s4=>⟨out.take j++[x],rfl,by rw[List.length_append,List.length_singleton]; omega,?_,by rw[hany,g,Bool.or_true],s4⟩) rfl;rw[if_pos rfl,htk,Nf hb.symm g]
   | false =>
    rw[g] at hb3;rw[hb3];refine cF rfl ⟨_,rfl,by omega,?_,by rw[hany,<- hb,g]; rfl,s3⟩;rw[if_neg (by decide),htk]
 ·cases b with
  | true=>exact cF rfl ⟨rfl,s2.quiet (Chg.drew w2 [])⟩
  | false =>
   have s3:=s2.quiet (Chg.drew w2 []);obtain⟨q,hq,hcl⟩:=rdx s3.aA;obtain⟨q2,hq2,hc2⟩:=(St.rd aR (s3.out 1 rfl)).at hy;refine cT rfl (aq hq ⟨by omega,by omega,x,hcl,aq hq2 ⟨by omega,by omega,y,hc2,an (Im _ x y) ?_⟩⟩);rintro _ w4 ⟨rfl,c4⟩;exact⟨_,rfl,rfl,s3.quiet c4⟩
def HG(n:Nat)(ph pol vw:Int):Int:=if pol<0\/3<pol then 4 else if vw < -1\/(n:Int)<=vw then 6 else if ph=0 then 10 else 0
theorem PT(w:World)(n:Nat)(ph pol vw:Int):CP 13 #[iv n,iv ph,iv pol,iv vw] w (λ r w'=>r=iv (HG n ph pol vw)/\w' = w):=by
 refine Bj ?_;unfold yp;refine⟨λ b w1=>b=decide (pol<0\/3<pol)/\w1=w,?_,?_⟩
 ·rintro w1 b ⟨rfl,rfl⟩ -
  by_cases hp:pol<0\/3<pol
  ·exact cT (dT hp) ⟨by unfold HG; rw[if_pos hp],rfl⟩
  refine cF (dF hp) ⟨λ b w2=>b=decide (vw < -1\/(n:Int)<=vw)/\w2=w1,?_,?_⟩
  ·rintro w2 b ⟨rfl,rfl⟩ -
   by_cases hv:vw < -1\/(n:Int)<=vw
   ·exact cT (dT hv) ⟨by unfold HG; rw[if_neg hp,if_pos hv],rfl⟩
   refine cF (dF hv) ?_
   by_cases h0:ph=0
   ·exact cT (by simpa using h0) ⟨by unfold HG; rw[if_neg hp,if_neg hv,if_pos h0],rfl⟩
   ·exact cF (by simpa using h0) ⟨by unfold HG; rw[if_neg hp,if_neg hv,if_neg h0],rfl⟩
  ·by_cases hv:vw < -1
   ·exact cT (dT hv) ⟨(dT (.inl hv)).symm,rfl⟩
   ·refine cF (dF hv) ⟨?_,rfl⟩
    by_cases hl:(n:Int)<=vw
    ·rw[dT (show vw>=(n:Int) from hl),dT (.inr hl)]
    ·rw[dF (show ¬ vw>=(n:Int) from hl),dF (λ h=>h.elim hv hl)]
 ·by_cases hp:pol<0
  ·exact cT (dT hp) ⟨(dT (.inl hp)).symm,rfl⟩
  ·refine cF (dF hp) ⟨?_,rfl⟩
   by_cases hl:3<pol
   ·rw[dT (show pol>3 from hl),dT (.inr hl)]
   ·rw[dF (show ¬ pol>3 from hl),dF (λ h=>h.elim hp hl)]
def UP(ph rd:Int)(pr:I6)(own:List Ch)(got:List I6)(ps:List Pr)(bn:List (List UInt8))(k:Int):Vw :=
 ⟨ph,rd,pr,if IS k=true/\got≠[] then eZ (dr got) (bK ps) else z6,own,none,0,if Hi k=true then bz (got.filter iQ) else if E0 k=true then got else [],none,0,if JH k=true then bn else [],none,0⟩
theorem Wq{got:List I6}{ps:List Pr}{k:Nat}(hk:k<6):(eZ (dr got) (bK ps)).at' k=(if (0:Int)>nZ got k-(ps.map Pr.sup).getD k 0 then (0:Int) else nZ got k-(ps.map Pr.sup).getD k 0):=by
 unfold eZ;rw[I6.ji _ _ _ _ hk,v7 _ _ hk,show(dr got).at' k=nZ got k from I6.yh _ _ hk]
 by_cases h:nZ got k>(ps.map Pr.sup).getD k 0
 ·rw[if_pos h,if_neg (by omega)]
 ·rw[if_neg h]
  by_cases h2:(0:Int)>nZ got k-(ps.map Pr.sup).getD k 0
  ·rw[if_pos h2]
  ·rw[if_neg h2]; omega
theorem OX{v:Vw}{u:I6}{k:Nat}(hk:k<6){y:I6}(hv:v.ex=I6.mix k u y):v.vals.toArray.setIfInBounds (8+k) (iv (u.at' k))=({ v with ex:=I6.mix (k+1) u y }:Vw).vals.toArray:=by
 obtain⟨ph,rd,pr,ex,own,oa,oc,dm,da,dc,nm,na,nc⟩:=v;subst hv
 match k,hk with
 | 0,_|1,_|2,_|3,_|4,_|5,_=>rfl
theorem JS{w:World}{s:Se}(hs:s.In w){ph rd:Int}{pr:I6}{own:List Ch}{oa:OA}{oc:Nat}(ho:zw w oa own){got:List I6}{ga:OA}{gc:Nat}(hg:bG 6 I6.vs w ga got)(hgl:got.length<=1000)(hgb:∀ u∈got,I6.Le u 1000000)(hsup:∀ p∈s.ps,0<=p.sup/\p.sup<=1000000)(hbl:s.bd.length<=1000){pol vw:Int}(hp:0<=pol/\pol<=3)(hv : -1<=vw) :
  CP 18 #[.agg s.arr,iv ph,iv rd,.agg pr.vs.toArray,.slice oa own.length oc,.slice ga got.length gc,iv pol,iv vw] w (λ r w'=>∃ (v:Vw) (Q:World->Prop),r=v.val/\v.er=UP ph rd pr (if vw<0 then [] else own) got s.ps (s.bd.map Br.nm) (bS pol vw)/\(∀ w'',zw w'' oa own->bG 6 I6.vs w'' ga got->Q w''->v.Rd w'')/\St w w' (held Q)):=by
 refine Bk ?_;unfold yq;refine(St.start w).one.aB s.arr λ r1 w1 s1=>s1.aB pr.vs.toArray λ r2 w2 s2=>s2.aB lT.vals.toArray λ r3 w3 s3=>⟨pr,s3.cellsIn 1 rfl,s3.aB lT.vals.toArray λ r4 w4 s4=>s4.aC 0 rfl ({ lT with ph:=ph,rd:=rd,pr:=pr }:Vw).vals rfl (Vw.one _) λ w5 s5=>?_⟩;let V:I6->List Ch->Option Addr->Nat->List I6->Option Addr->Nat->List (List UInt8)->Option Addr->Nat->Vw:=λ ex ow oa oc dm da dc nm na nc=>⟨ph,rd,pr,ex,ow,oa,oc,dm,da,dc,nm,na,nc⟩;let T4:Vw->List aG->List aG:=λ vv L=>ai r4 vv.vals.toArray 51 :: ai r3 lT.vals.toArray 51 :: ai r1 s.arr 34 :: L;have t5:St w w5 (Sep (T4 (V z6 [] none 0 [] none 0 [] none 0) [emp])):=s5.ay [0,1,3,4];let all:Bool:=(pol==3)||decide (vw<0);let ow:List Ch:=if vw<0 then [] else own
 have hk3:JH (bS pol vw)=all:=by
  show((if vw=-1 then (3:Int) else pol)==3)=((pol==3)||decide (vw<0))
  by_cases h:vw=-1
  ·rw[if_pos h,dT (by omega:vw<0),Bool.or_true]; rfl
  ·rw[if_neg h,dF (by omega : ¬ vw<0),Bool.or_false]
 have hkx:IS (bS pol vw)=(decide (pol>0)||all):=by
  show IS (if vw=-1 then (3:Int) else pol)=(decide (pol>0)||((pol==3)||decide (vw<0)))
  by_cases h:vw=-1
  ·rw[if_pos h,dT (by omega:vw<0),Bool.or_true,Bool.or_true]; rfl
  ·rw[if_neg h,dF (by omega : ¬ vw<0),Bool.or_false];have:pol=0\/pol=1\/pol=2\/pol=3:=by omega
   rcases this with rfl|rfl|rfl|rfl<;>decide
 have hk1:all=false->Hi (bS pol vw)=(pol==1)/\(E0 (bS pol vw)=(pol==1)):=λ hall=>by
  have h1:=Bool.or_eq_false_iff.1 hall;have h2 : ¬ vw<0:=of_decide_eq_false h1.2;have e:bS pol vw=pol:=by unfold bS; rw[if_neg (by omega)]
  rw[e];exact⟨rfl,by unfold E0; rw[h1.1,Bool.or_false]⟩
 have hk2:all=true->bS pol vw=3:=λ hall=>by
  unfold bS
  by_cases h:vw=-1
  ·rw[if_pos h]
  ·rw[if_neg h];rcases Bool.or_eq_true_iff.1 hall with h1|h1
   ·simpa using h1
   ·have:=of_decide_eq_true h1; omega
 let EX:I6:=if IS (bS pol vw)=true/\got≠[] then eZ (dr got) (bK s.ps) else z6
 let oaE:Option Addr:=if vw<0 then none else oa
 let ocE:Nat:=if vw<0 then 0 else oc
 have hOw:∀ w'',zw w'' oa own/\bG 6 I6.vs w'' ga got->zw w'' oaE ow:=λ w'' hc=>by
  show zw w'' (if vw<0 then none else oa) (if vw<0 then [] else own)
  by_cases h:vw<0
  ·rw[if_pos h,if_pos h]; exact λ i x hx=>by simp at hx
  ·rw[if_neg h,if_neg h]; exact hc.1
 let VV:I6->List I6->Option Addr->Nat->List (List UInt8)->Option Addr->Nat->Vw:=λ ex dm da dc nm na nc=>V ex ow oaE ocE dm da dc nm na nc;let DM:List I6:=if Hi (bS pol vw)=true then bz (got.filter iQ) else if E0 (bS pol vw)=true then got else []
 let NM:List (List UInt8):=if JH (bS pol vw)=true then s.bd.map Br.nm else []
 refine⟨λ w'=>St w w' (Sep (T4 (VV z6 [] none 0 [] none 0) [emp])),?_,?_⟩
 rotate_left
 ·by_cases h:vw>=0
  ·have e1:ow=own:=if_neg (by omega);have e2:oaE=oa:=if_neg (by omega);have e3:ocE=oc:=if_neg (by omega);refine cT (dT h) (t5.aJ 0 rfl (j:=14) (by show 14<17; decide) rfl λ w6 t6=>?_);show St w w6 (Sep (T4 (V z6 ow oaE ocE [] none 0 [] none 0) [emp]));rw[e1,e2,e3];exact t6
  ·have e1:ow=[]:=if_pos (by omega);have e2:oaE=none:=if_pos (by omega);have e3:ocE=0:=if_pos (by omega);refine cF (dF h) ?_;show St w w5 (Sep (T4 (V z6 ow oaE ocE [] none 0 [] none 0) [emp]));rw[e1,e2,e3];exact t5
 rintro w6 t6 -;refine⟨λ b w'=>b=all/\St w w' (Sep (T4 (VV z6 [] none 0 [] none 0) [emp])),?_,?_⟩
 rotate_left
 ·by_cases h:pol=3
  ·exact cT (by simpa using h) ⟨by show true=((pol==3)||decide (vw<0)); rw[h]; rfl,t6⟩
  ·exact cF (by simpa using h) ⟨by show decide (vw<0)=((pol==3)||decide (vw<0)); rw[show(pol==3)=false by simpa using h,Bool.false_or],t6⟩
 rintro w7 b1 ⟨hb1,t7⟩ -;refine⟨λ w'=>St w w' (Sep (T4 (VV EX [] none 0 [] none 0) [emp])),?_,?_⟩
 rotate_left
 ·
  refine⟨λ b w'=>b=IS (bS pol vw)/\St w w' (Sep (T4 (VV z6 [] none 0 [] none 0) [emp])),?_,?_⟩
  rotate_left
  ·by_cases h:pol>0
   ·exact cT (dT h) ⟨by rw[hkx,dT h,Bool.true_or],t7⟩
   ·exact cF (dF h) ⟨by rw[hkx,dF h,Bool.false_or,hb1],t7⟩
  rintro w8 b2 ⟨hb2,t8⟩ -
  by_cases hx:IS (bS pol vw)=true
  rotate_left
  ·have e:EX=z6:=if_neg λ h=>hx h.1;refine cF (by rw[hb2]; exact(Bool.not_eq_true _).mp hx) ?_;rw[e]; exact t8
  have em:I6.mix 0 (eZ (dr got) (bK s.ps)) z6=z6:=I6.ext' λ k hk=>by rw[I6.cv _ _ _ _ hk,if_neg (by omega)]
  refine cT (by rw[hb2]; exact hx) ⟨λ n w' m=>∃ k:Nat,n=k/\k<=6/\m=6-k/\(got=[]->k=0)/\St w w' (Sep (T4 (VV (I6.mix k (eZ (dr got) (bK s.ps)) z6) [] none 0 [] none 0) [emp])),⟨6,0,rfl,by omega,by omega,λ _=>rfl,by rw[em]; exact t8⟩,?_⟩;rintro w9 m n ⟨k,rfl,hk,hm,hk0,t9⟩ -;refine⟨λ b w'=>b=(decide (k<6)&&decide (0<got.length))/\St w w' (Sep (T4 (VV (I6.mix k (eZ (dr got) (bK s.ps)) z6) [] none 0 [] none 0) [emp])),?_,?_⟩
  rotate_left
  ·by_cases h:(k:Int)<6
   ·refine cT (dT h) ⟨?_,t9⟩;rw[dT (show k<6 by omega),Bool.true_and]
    by_cases h2:0<got.length
    ·rw[dT h2,dT (by omega)]
    ·rw[dF h2,dF (by omega)]
   ·exact cF (dF h) ⟨by rw[dF (show ¬ k<6 by omega),Bool.false_and],t9⟩
  rintro w10 b3 ⟨hb3,t10⟩ -
  by_cases hgo:k<6/\0<got.length
  rotate_left
  ·have e:I6.mix k (eZ (dr got) (bK s.ps)) z6=EX:=by
    by_cases h0:got=[]
    ·rw[hk0 h0,em]; exact(if_neg λ h=>h.2 h0).symm
    ·have hpos:0<got.length:=by cases got with|nil=>exact absurd rfl h0|cons x l=>simp
     obtain rfl:k=6:=by omega
     rw[show EX=eZ (dr got) (bK s.ps) from if_pos ⟨hx,h0⟩];exact I6.ext' λ j hj=>by rw[I6.cv _ _ _ _ hj,if_pos hj]
   rw[e] at t10;refine cF ?_ t10;rw[hb3]
   by_cases h6:k<6
   ·rw[dF (λ h=>hgo ⟨h6,h⟩),Bool.and_false]
   ·rw[dF h6,Bool.false_and]
  obtain⟨hk6,hpos⟩:=hgo;refine cT (by rw[hb3,dT hk6,dT hpos]; rfl) ⟨λ n1 n2 w' m=>∃ j:Nat,n2=j/\n1=nZ (got.take j) k/\j<=got.length/\m=got.length-j/\w' = w10,⟨got.length,0,rfl,rfl,by omega,by omega,rfl⟩,?_⟩;rintro w11 m5 n11 n12 ⟨j,rfl,rfl,hj,hm5,rfl⟩ -;have hbd:∀ l:List I6,(∀ u∈l,u∈got)->l.length<=1000->0<=nZ l k/\nZ l k<=1000000000:=λ l hl hn=>by
   have:=zS (l:=l) (B:=1000000) (λ u hu=>hgb u (hl u hu)) k hk6;omega
  have hb0:=hbd (got.take j) (λ u hu=>List.mem_of_mem_take hu) (by rw[List.length_take]; omega)
  by_cases hlt:(j:Int)<(got.length:Int)
  ·have hx' : got[j]?=some (got[j]'(by omega)):=gE (by omega);generalize got[j]'(by omega)=x at hx';obtain⟨q,hq,hcl⟩:=(bG.aA hg t10.aA).at hx';have hb1:=hbd (got.take (j+1)) (λ u hu=>List.mem_of_mem_take hu) (by rw[List.length_take]; omega);have e1:nZ (got.take (j+1)) k=nZ (got.take j) k+x.at' k:=by rw[aH hx',Dg]
   refine cT (dT hlt) (aq hq ⟨by omega,by omega,by omega,by omega,x.at' k,?_,got.length-(j+1),by omega,j+1,aF ⟨by omega,by omega⟩,by rw[aF ⟨by omega,by omega⟩,e1],by omega,rfl,rfl⟩);have hgx:=x.get k hk6;have:=aO hcl k (iv (x.at' k)) (by rw[Nat.mul_one] at hgx; simpa using hgx);rw[Addr.add_add];rw[Nat.zero_add] at this;rw[Addr.add_add] at this;simpa using this
  ·obtain rfl:j=got.length:=by omega
   rw[List.take_length] at hb0 ⊢;have hov:=Wq (got:=got) (ps:=s.ps) hk6;refine cF (dF hlt) ⟨λ n w'=>n=nZ got k-(s.ps.map Pr.sup).getD k 0/\w' = w11,?_,?_⟩
   ·rintro w12 n14 ⟨rfl,rfl⟩ -;rw[<- hov,bq,Int.toNat_natCast,Nat.mul_one];refine⟨by omega,by omega,t10.aJ 0 rfl (j:=8+k) (by show 8+k<17; omega) rfl λ w13 t13=>⟨6-(k+1),by omega,k+1,inc (by decide) hk6,by omega,rfl,λ h=>by rw[h] at hpos; simp at hpos,?_⟩⟩;rw[OX (v:=VV (I6.mix k (eZ (dr got) (bK s.ps)) z6) [] none 0 [] none 0) (y:=z6) hk6 rfl] at t13;exact t13
   ·refine⟨_,_,_,t10.ag 2 rfl 0,?_⟩
    by_cases hkp:(k:Int)<(s.ps.length:Int)
    ·have hxp:s.ps[k]?=some (s.ps[k]'(by omega)):=gE (by omega);generalize s.ps[k]'(by omega)=p at hxp;have hsp:=hsup p (List.mem_of_getElem? hxp);obtain⟨_,q,hq,hcl⟩:=(hs.aA t10.aA).ps k p hxp;refine cT (dT hkp) ⟨_,_,_,t10.ag 2 rfl 0,aq hq ⟨by omega,by omega,p.sup,by have:=hcl.2.1; exact this,?_,rfl⟩⟩;rw[aF ⟨by omega,by omega⟩,List.getD_eq_getElem?_getD,List.getElem?_map,hxp]; rfl
    ·refine cF (dF hkp) ⟨?_,rfl⟩;rw[List.getD_eq_getElem?_getD,List.getElem?_map,List.getElem?_eq_none (by omega)]
     simp
 rintro w8 t8 -;refine⟨λ w'=>∃ (Q:World->Prop) (da:OA) (dc:Nat) (na:OA) (nc:Nat),(∀ w'',zw w'' oa own/\bG 6 I6.vs w'' ga got->Q w''->(VV EX DM da dc NM na nc).Rd w'')/\St w w' (Sep (T4 (VV EX DM da dc NM na nc) [held Q,emp])),?_,?_⟩
 ·rintro w9 ⟨Q,da,dc,na,nc,hQ,t9⟩ -;exact⟨ph,rd,pr,EX,_,_,_,_,_,_,_,_,_,t9.cellsIn 0 rfl,t9.aC 1 rfl (VV EX DM da dc NM na nc).vals rfl (Vw.one _) λ w10 t10 =>
   ⟨ph,rd,pr,EX,_,_,_,_,_,_,_,_,_,t10.cellsIn 1 rfl,VV EX DM da dc NM na nc,Q,rfl,rfl,λ w'' h1 h2 h3=>hQ w'' ⟨h1,h2⟩ h3,(t10.out 3 rfl).first⟩⟩
 have zt:∀ {w' : World} {vv:Vw},St w w' (Sep (T4 vv [emp]))->St w w' (Sep (T4 vv [held λ _=>True,emp])):=λ {w' vv} q=>by
  have:=q.qf (Q:=λ _=>True) λ _=>trivial;exact this.ay [1,2,3,0,4]
 rw[hb1]
 by_cases hall:all=true
 rotate_left
 ·have hall':=(Bool.not_eq_true _).mp hall;obtain⟨e1,e2⟩:=hk1 hall';have hNM:NM=[]:=if_neg (by rw[hk3,hall']; decide);refine cF hall' ?_
  by_cases hp1:pol=1
  ·have hDM:DM=bz (got.filter iQ):=if_pos (by rw[e1]; simpa using hp1);refine cT (by simpa using hp1) (an (Ly (bG.aA hg t8.aA) hgl) ?_);rintro _ w9 ⟨a',c',rfl,k9⟩;have t9:St w w9 (Sep (eJ a' c' (bz (got.filter iQ)) :: T4 (VV EX [] none 0 [] none 0) [emp])):=t8.and k9;refine⟨_,_,_,rfl,t9.aJ 1 rfl (j:=15) (by show 15<17; decide) rfl λ w10 t10=>⟨λ w'=>bG 6 I6.vs w' a' (bz (got.filter iQ)),a',c',none,0,λ w'' hc hq=>?_,?_⟩⟩
   ·rw[hDM,hNM];exact⟨hOw _ hc,hq,λ i x hx=>by simp[VV,V] at hx⟩
   ·rw[hDM,hNM];exact(t10.AP (bh aR)).ay [1,2,3,0,4]
  ·have hDM:DM=[]:=by
    show(if Hi (bS pol vw)=true then bz (got.filter iQ) else if E0 (bS pol vw)=true then got else [])=[];rw[e1,e2,show(pol==1)=false by simpa using hp1]; rfl
   refine cF (by simpa using hp1) ⟨λ _=>True,none,0,none,0,λ w'' hc _=>?_,?_⟩
   ·rw[hDM,hNM];exact⟨hOw _ hc,λ i x hx=>by simp[VV,V] at hx,λ i x hx=>by simp[VV,V] at hx⟩
   ·rw[hDM,hNM];exact zt t8
 ·have hpe:=hk2 hall;have hDM:DM=got:=by
   show(if Hi (bS pol vw)=true then bz (got.filter iQ) else if E0 (bS pol vw)=true then got else [])=got;rw[hpe]; rfl
  have hNM:NM=s.bd.map Br.nm:=if_pos (by rw[hk3,hall]);refine cT hall (t8.aJ 0 rfl (j:=15) (by show 15<17; decide) rfl λ w9 t9=>?_);have t9:St w w9 (Sep (T4 (VV EX got ga gc [] none 0) [emp])):=t9;refine⟨λ n w' m=>∃ (k:Nat) (na:OA) (nc:Nat),n=k/\k<=s.bd.length/\m=s.bd.length-k/\St w w' (Sep (T4 (VV EX got ga gc ((s.bd.map Br.nm).take k) na nc) [zk na nc ((s.bd.map Br.nm).take k),emp])),⟨s.bd.length,0,none,0,rfl,by omega,by omega,?_⟩,?_⟩
  ·have h:=(St.cV (e:=9) (sz:=1) (f:=sT) t9);have h2:St w w9 (Sep (zk none 0 [] :: T4 (VV EX got ga gc [] none 0) [emp])):=h;exact h2.ay [1,2,3,0,4]
  rintro w10 m n ⟨k,na,nc,rfl,hk,hm,t10⟩ -;refine⟨_,_,_,t10.ag 2 rfl 1,?_⟩
  by_cases hlt:(k:Int)<(s.bd.length:Int)
  ·have hx:s.bd[k]?=some (s.bd[k]'(by omega)):=gE (by omega);generalize s.bd[k]'(by omega)=x at hx;have hn:(s.bd.map Br.nm)[k]?=some x.nm:=by rw[List.getElem?_map,hx]; rfl
   have hlen:((s.bd.map Br.nm).take k).length=k:=by simp; omega
   have t11:=t10.quiet (Chg.drew _ _);obtain⟨_,q,hq,hcl⟩:=(hs.aA t11.aA).bd k x hx;refine cT (dT hlt) ⟨_,_,_,t11.ag 0 rfl 16,_,_,_,t11.ag 2 rfl 1,aq hq ⟨by omega,by omega,bs x.nm,by have:=hcl.1; rwa [Addr.add_add] at this,t11.aB _ λ r5 w13 t13=>⟨t13.ag 1 rfl 16,?_⟩⟩⟩;have hr:bG 1 sT w13 (some ⟨r5,0,none⟩) [x.nm]:=wF (f:=sT) (t13.cellsIn 0 rfl) rfl;refine ij WH EC Od (t13.out 4 rfl) hr (by rw[hlen]; simp; omega) (by rw[hlen]; simp; omega) λ a' c' w14 t14=>?_;rw[<- aH hn] at t14 ⊢;have t14:St w w14 (Sep (ai r5 _ _ :: T4 (VV EX got ga gc ((s.bd.map Br.nm).take k) na nc) [zk a' c' ((s.bd.map Br.nm).take (k+1)),emp])):=t14.back (i:=4) (by show 4<6; decide);refine t14.aJ 1 rfl (j:=16) (by show 16<17; decide) rfl λ w15 t15=>⟨s.bd.length-(k+1),by omega,k+1,a',c',aF ⟨by omega,by omega⟩,by omega,rfl,?_⟩;exact t15.ay [1,2,3,4,5]
  ·obtain rfl:k=s.bd.length:=by omega
   have e:(s.bd.map Br.nm).take s.bd.length=s.bd.map Br.nm:=List.take_of_length_le (by simp);rw[e] at t10;refine cF (dF hlt) ⟨λ w'=>bG 1 sT w' na (s.bd.map Br.nm),ga,gc,na,nc,λ w'' hc hq=>?_,?_⟩
   ·rw[hDM,hNM];exact⟨hOw _ hc,hc.2,hq⟩
   ·rw[hDM,hNM];have h:St w w10 (Sep (zk na nc (s.bd.map Br.nm) :: T4 (VV EX got ga gc (s.bd.map Br.nm) na nc) [emp])):=t10.ay [3,0,1,2,4];exact(h.AP (bh EC)).ay [1,2,3,0,4]
def jr(a b c d:Int)(e:OA)(f g:Nat)(h i:Int)(w:World)(K:KP):=av w (.cells #[iv a,iv b,iv c,iv d] 23) λ a b=>CC 8 #[.slice e f g] b λ b c=>∃ d,b=.returned (.bool d)/\cond (!d) (CC 9 #[] c λ b d=>∃ j,b=.returned (.bool j)/\K (.bool j) d) (∃ b d j k,af c (qd a 0) 0 [iv b,iv d,iv j,iv k]/\CC 10 #[.agg #[iv b,iv d,iv j,iv k],.slice e f g] c λ a b=>∃ c,a=.returned (.pointer c)/\cond (c).isNone (K (.bool false) b) (CC 11 #[.pointer c] b λ a b=>∃ d e f g j k l m n o p q,a=.returned (.agg #[.slice d e f,.slice g j k,.slice l m n,.slice o p q])/\av b (.cells #[qn,qn,qn,qn] 34) λ a b=>aK (qd a 0) 0 [.slice d e f,.slice g j k,.slice l m n,.slice o p q] b λ b=>CC 12 #[.pointer c,iv h,iv i] b λ b d=>∃ e f,∃ g j:I6,∃ k l m n o p q r s t,b=.returned (.tuple #[.agg (iv e :: iv f :: g.on (j.on [.slice k l m,.slice n o p,.slice q r s]):List Value).toArray,iv t])/\av d (.cells #[qz,qz,qz,qz,qz,qz,qz,qz,qz,qz,qz,qz,qz,qz,qn,qn,qn] 44) λ b d=>aK (qd b 0) 0 (iv e :: iv f :: g.on (j.on [.slice k l m,.slice n o p,.slice q r s])) d λ d=>∃ e f g,d.drew.cell? (qd a 1)=some (.slice e f g)/\CC 14 #[.pointer c] d.drew λ d j=>∃ k,d=.returned (iv k)/\j.cell? (qd a 1)=some (.slice e f g)/\CC 13 #[iv (f:Int),iv k,iv h,iv i] j λ d e=>∃ f,d=.returned (iv f)/\cond (f !=0) (cond (t==f) (∃ d f,∃ g j:I6,∃ k l m n o p q r s,af e (qd b 0) 0 (iv d :: iv f :: g.on (j.on [.slice k l m,.slice n o p,.slice q r s]))/\CC 16 #[.agg (iv d :: iv f :: g.on (j.on [.slice k l m,.slice n o p,.slice q r s]):List Value).toArray] e λ d f=>∃ g j,∃ k l:I6,∃ m n o p q r s u v,d=.returned (.agg (iv g :: iv j :: k.on (l.on [.slice m n o,.slice p q r,.slice s u v]):List Value).toArray)/\CC 15 #[.agg (iv g :: iv j :: k.on (l.on [.slice m n o,.slice p q r,.slice s u v]):List Value).toArray,.agg #[qz,qz,qz,qz,qz,qz,qz,qz,qz,qz,qz,qz,qz,qz,qn,qn,qn]] f λ d f=>∃ g,d=.returned (.bool g)/\cond g (CC 9 #[] f λ d g=>∃ j,d=.returned (.bool j)/\K (.bool j) g) (K (.bool false) f)) (K (.bool false) e)) (CC 17 #[.pointer c] e λ d e=>∃ f,d=.returned (.pointer f)/\cond (f).isNone (K (.bool false) e) (cond (t==0) (∃ d g,∃ j k:I6,∃ l m n o p q r s t,af e.drew (qd b 0) 0 (iv d :: iv g :: j.on (k.on [.slice l m n,.slice o p q,.slice r s t]))/\∃ b u v x y z A B C D E F,af e.drew (qd a 0) 0 [.slice b u v,.slice x y z,.slice A B C,.slice D E F]/\CC 16 #[.agg (iv d :: iv g :: j.on (k.on [.slice l m n,.slice o p q,.slice r s t]):List Value).toArray] e.drew λ d g=>∃ j k,∃ l m:I6,∃ n o p q r s t G H,d=.returned (.agg (iv j :: iv k :: l.on (m.on [.slice n o p,.slice q r s,.slice t G H]):List Value).toArray)/\af g (qd a 0) 0 [.slice b u v,.slice x y z,.slice A B C,.slice D E F]/\CC 14 #[.pointer c] g λ c d=>∃ g,c=.returned (iv g)/\af d (qd a 0) 0 [.slice b u v,.slice x y z,.slice A B C,.slice D E F]/\CC 19 #[.pointer f] d λ c d=>∃ I,c=.returned (iv I)/\af d (qd a 0) 0 [.slice b u v,.slice x y z,.slice A B C,.slice D E F]/\CC 20 #[.pointer f] d λ c d=>∃ J:I6,c=.returned (.agg J.vs.toArray)/\af d (qd a 0) 0 [.slice b u v,.slice x y z,.slice A B C,.slice D E F]/\CC 21 #[.pointer f,iv i] d λ c d=>∃ L M N,c=.returned (.slice L M N)/\af d (qd a 0) 0 [.slice b u v,.slice x y z,.slice A B C,.slice D E F]/\CC 22 #[.pointer f] d λ c d=>∃ f O P,c=.returned (.slice f O P)/\af d (qd a 0) 0 [.slice b u v,.slice x y z,.slice A B C,.slice D E F]/\CC 18 #[.agg #[.slice b u v,.slice x y z,.slice A B C,.slice D E F],iv g,iv I,.agg J.vs.toArray,.slice L M N,.slice f O P,iv h,iv i] d λ a b=>∃ c d,∃ f g:I6,∃ h i u v x y z A B,a=.returned (.agg (iv c :: iv d :: f.on (g.on [.slice h i u,.slice v x y,.slice z A B]):List Value).toArray)/\CC 15 #[.agg (iv j :: iv k :: l.on (m.on [.slice n o p,.slice q r s,.slice t G H]):List Value).toArray,.agg (iv c :: iv d :: f.on (g.on [.slice h i u,.slice v x y,.slice z A B]):List Value).toArray] b λ a b=>∃ c,a=.returned (.bool c)/\cond c (CC 9 #[] b λ a c=>∃ d,a=.returned (.bool d)/\K (.bool d) c) (K (.bool false) b)) (K (.bool false) e.drew)))))
theorem nK{n1 n2 n3 n4 a1 l1 c1 n5 n6 w K}(h:jr n1 n2 n3 n4 a1 l1 c1 n5 n6 w K):CP 3 #[.agg #[iv n1,iv n2,iv n3,iv n4],.slice a1 l1 c1,iv n5,iv n6] w K:=ah (aE []) func3 (by kernel_rfl) (by kernel_rfl) h
def jo(a b c d:Int)(e:OA)(f g:Nat)(h:OA)(i j:Nat)(k l:Int)(w:World)(K:KP):=av w (.cells #[iv a,iv b,iv c,iv d] 23) λ a b=>∃ c:Bool->qW,(∀ d m,c m d->∀ n:qv,cond m (CC 9 #[] d λ m n=>∃ o,m=.returned (.bool o)/\K (.bool o) n) (∃ m n o p,af d.drew (qd a 0) 0 [iv m,iv n,iv o,iv p]/\∃ q r s t,af d.drew (qd a 0) 0 [iv q,iv r,iv s,iv t]/\CC 10 #[.agg #[iv m,iv n,iv o,iv p],.slice e f g] d.drew λ d m=>∃ n,d=.returned (.pointer n)/\af m (qd a 0) 0 [iv q,iv r,iv s,iv t]/\CC 10 #[.agg #[iv q,iv r,iv s,iv t],.slice h i j] m λ a d=>∃ m,a=.returned (.pointer m)/\∃ a:Bool->qW,(∀ o p,a p o->∀ q:qv,cond p (K (.bool false) o) (CC 11 #[.pointer n] o λ o p=>∃ q r s t u v x y z A B C,o=.returned (.agg #[.slice q r s,.slice t u v,.slice x y z,.slice A B C])/\CC 11 #[.pointer m] p λ o p=>∃ D E F G H I J L M N O P,o=.returned (.agg #[.slice D E F,.slice G H I,.slice J L M,.slice N O P])/\av p (.cells #[qn,qn,qn,qn] 34) λ o p=>av p (.cells #[qn,qn,qn,qn] 34) λ p Q=>aK (qd o 0) 0 [.slice q r s,.slice t u v,.slice x y z,.slice A B C] Q λ q=>aK (qd p 0) 0 [.slice D E F,.slice G H I,.slice J L M,.slice N O P] q λ q=>CC 17 #[.pointer n] q λ q r=>∃ s,q=.returned (.pointer s)/\CC 17 #[.pointer m] r λ q r=>∃ t,q=.returned (.pointer t)/\∃ q:Bool->qW,(∀ u v,q v u->∀ x:qv,cond v (CC 9 #[] u λ v x=>∃ y,v=.returned (.bool y)/\K (.bool y) x) (∃ v:Bool->qW,(∀ x y,v y x->∀ z:qv,cond y (K (.bool false) x) (∃ y:Bool->qW,(∀ z A,y A z->∀ B:qv,cond A (CC 9 #[] z λ A B=>∃ C,A=.returned (.bool C)/\K (.bool C) B) (∃ A:Nat->qW,(∀ B C,A C B->∀ D:qv,∃ D:Nat->qW,(∀ E F,D F E->∀ G:qv,∃ G H,∃ I J:I6,∃ L M N O P Q R S T,af E (qd C 0) 0 (iv G :: iv H :: I.on (J.on [.slice L M N,.slice O P Q,.slice R S T]))/\∃ C U,∃ V W:I6,∃ X Y Z a1 a2 a3 a4 a5 a6,af E (qd F 0) 0 (iv C :: iv U :: V.on (W.on [.slice X Y Z,.slice a1 a2 a3,.slice a4 a5 a6]))/\CC 15 #[.agg (iv G :: iv H :: I.on (J.on [.slice L M N,.slice O P Q,.slice R S T]):List Value).toArray,.agg (iv C :: iv U :: V.on (W.on [.slice X Y Z,.slice a1 a2 a3,.slice a4 a5 a6]):List Value).toArray] E λ C E=>∃ F,C=.returned (.bool F)/\cond (!F) (CC 9 #[] E λ C F=>∃ G,C=.returned (.bool G)/\K (.bool G) F) (CC 12 #[.pointer n,iv k,iv l] E λ C E=>∃ F G,∃ H I:I6,∃ J L M N O P Q R S T,C=.returned (.tuple #[.agg (iv F :: iv G :: H.on (I.on [.slice J L M,.slice N O P,.slice Q R S]):List Value).toArray,iv T])/\av E (.cells #[qz,qz,qz,qz,qz,qz,qz,qz,qz,qz,qz,qz,qz,qz,qn,qn,qn] 44) λ C E=>aK (qd C 0) 0 (iv F :: iv G :: H.on (I.on [.slice J L M,.slice N O P,.slice Q R S])) E λ E=>CC 12 #[.pointer m,iv k,iv l] E λ E F=>∃ G H,∃ I J:I6,∃ L M N O P Q R S U V,E=.returned (.tuple #[.agg (iv G :: iv H :: I.on (J.on [.slice L M N,.slice O P Q,.slice R S U]):List Value).toArray,iv V])/\av F (.cells #[qz,qz,qz,qz,qz,qz,qz,qz,qz,qz,qz,qz,qz,qz,qn,qn,qn] 44) λ E F=>aK (qd E 0) 0 (iv G :: iv H :: I.on (J.on [.slice L M N,.slice O P Q,.slice R S U])) F λ F=>cond (T==0) (cond (V==0) (∃ G H,∃ I J:I6,∃ L M N O P Q R S T,af F.drew (qd C 0) 0 (iv G :: iv H :: I.on (J.on [.slice L M N,.slice O P Q,.slice R S T]))/\∃ C U,∃ V W:I6,∃ X Y Z a1 a2 a3 a4 a5 a6,af F.drew (qd E 0) 0 (iv C :: iv U :: V.on (W.on [.slice X Y Z,.slice a1 a2 a3,.slice a4 a5 a6]))/\CC 16 #[.agg (iv G :: iv H :: I.on (J.on [.slice L M N,.slice O P Q,.slice R S T]):List Value).toArray] F.drew λ G H=>∃ I J,∃ L M:I6,∃ N O P Q R S T a7 a8,G=.returned (.agg (iv I :: iv J :: L.on (M.on [.slice N O P,.slice Q R S,.slice T a7 a8]):List Value).toArray)/\af H (qd E 0) 0 (iv C :: iv U :: V.on (W.on [.slice X Y Z,.slice a1 a2 a3,.slice a4 a5 a6]))/\CC 16 #[.agg (iv C :: iv U :: V.on (W.on [.slice X Y Z,.slice a1 a2 a3,.slice a4 a5 a6]):List Value).toArray] H λ C E=>∃ G H,∃ U V:I6,∃ W X Y Z a1 a2 a3 a4 a5,C=.returned (.agg (iv G :: iv H :: U.on (V.on [.slice W X Y,.slice Z a1 a2,.slice a3 a4 a5]):List Value).toArray)/\CC 15 #[.agg (iv I :: iv J :: L.on (M.on [.slice N O P,.slice Q R S,.slice T a7 a8]):List Value).toArray,.agg (iv G :: iv H :: U.on (V.on [.slice W X Y,.slice Z a1 a2,.slice a3 a4 a5]):List Value).toArray] E λ C E=>∃ G,C=.returned (.bool G)/\cond G (CC 9 #[] E λ C G=>∃ H,C=.returned (.bool H)/\K (.bool H) G) (K (.bool false) E)) (K (.bool false) F.drew)) (K (.bool false) F.drew)))/\∃ C E F G H I J L M N O P,af B.drew (qd p 0) 0 [.slice C E F,.slice G H I,.slice J L M,.slice N O P]/\(CC 22 #[.pointer t] B.drew λ Q R=>∃ S T U,Q=.returned (.slice S T U)/\af R (qd p 0) 0 [.slice C E F,.slice G H I,.slice J L M,.slice N O P]/\(CC 18 #[.agg #[.slice C E F,.slice G H I,.slice J L M,.slice N O P],iv 1,qz,.agg z6.vs.toArray,qn,.slice S T U,iv k,iv l] R λ Q V=>∃ W X,∃ Y Z:I6,∃ a1 a2 a3 a4 a5 a6 a7 a8 a9,Q=.returned (.agg (iv W :: iv X :: Y.on (Z.on [.slice a1 a2 a3,.slice a4 a5 a6,.slice a7 a8 a9]):List Value).toArray)/\av V (.cells #[qz,qz,qz,qz,qz,qz,qz,qz,qz,qz,qz,qz,qz,qz,qn,qn,qn] 51) λ Q V=>aK (qd Q 0) 0 (iv W :: iv X :: Y.on (Z.on [.slice a1 a2 a3,.slice a4 a5 a6,.slice a7 a8 a9])) V λ V=>D Q V)/\av R (.cells #[qz,qz,qz,qz,qz,qz,qz,qz,qz,qz,qz,qz,qz,qz,qn,qn,qn] 51) λ Q R=>af R (qd p 0) 0 [.slice C E F,.slice G H I,.slice J L M,.slice N O P]/\CC 18 #[.agg #[.slice C E F,.slice G H I,.slice J L M,.slice N O P],iv 1,qz,.agg z6.vs.toArray,qn,.slice S T U,iv k,iv l] R λ R S=>∃ T U,∃ V W:I6,∃ X Y Z a1 a2 a3 a4 a5 a6,R=.returned (.agg (iv T :: iv U :: V.on (W.on [.slice X Y Z,.slice a1 a2 a3,.slice a4 a5 a6]):List Value).toArray)/\aK (qd Q 0) 0 (iv T :: iv U :: V.on (W.on [.slice X Y Z,.slice a1 a2 a3,.slice a4 a5 a6])) S λ R=>D Q R)/\av B.drew (.cells #[qz,qz,qz,qz,qz,qz,qz,qz,qz,qz,qz,qz,qz,qz,qn,qn,qn] 51) λ B Q=>af Q (qd p 0) 0 [.slice C E F,.slice G H I,.slice J L M,.slice N O P]/\CC 22 #[.pointer t] Q λ Q R=>∃ S T U,Q=.returned (.slice S T U)/\af R (qd p 0) 0 [.slice C E F,.slice G H I,.slice J L M,.slice N O P]/\CC 18 #[.agg #[.slice C E F,.slice G H I,.slice J L M,.slice N O P],iv 1,qz,.agg z6.vs.toArray,qn,.slice S T U,iv k,iv l] R λ C E=>∃ F G,∃ H I:I6,∃ J L M N O P Q R S,C=.returned (.agg (iv F :: iv G :: H.on (I.on [.slice J L M,.slice N O P,.slice Q R S]):List Value).toArray)/\aK (qd B 0) 0 (iv F :: iv G :: H.on (I.on [.slice J L M,.slice N O P,.slice Q R S])) E λ C=>D B C)/\∃ B C D E F G H I J L M N,af z.drew (qd o 0) 0 [.slice B C D,.slice E F G,.slice H I J,.slice L M N]/\(CC 22 #[.pointer s] z.drew λ O P=>∃ Q R S,O=.returned (.slice Q R S)/\af P (qd o 0) 0 [.slice B C D,.slice E F G,.slice H I J,.slice L M N]/\(CC 18 #[.agg #[.slice B C D,.slice E F G,.slice H I J,.slice L M N],iv 1,qz,.agg z6.vs.toArray,qn,.slice Q R S,iv k,iv l] P λ O T=>∃ U V,∃ W X:I6,∃ Y Z a1 a2 a3 a4 a5 a6 a7,O=.returned (.agg (iv U :: iv V :: W.on (X.on [.slice Y Z a1,.slice a2 a3 a4,.slice a5 a6 a7]):List Value).toArray)/\av T (.cells #[qz,qz,qz,qz,qz,qz,qz,qz,qz,qz,qz,qz,qz,qz,qn,qn,qn] 51) λ O T=>aK (qd O 0) 0 (iv U :: iv V :: W.on (X.on [.slice Y Z a1,.slice a2 a3 a4,.slice a5 a6 a7])) T λ T=>A O T)/\av P (.cells #[qz,qz,qz,qz,qz,qz,qz,qz,qz,qz,qz,qz,qz,qz,qn,qn,qn] 51) λ O P=>af P (qd o 0) 0 [.slice B C D,.slice E F G,.slice H I J,.slice L M N]/\CC 18 #[.agg #[.slice B C D,.slice E F G,.slice H I J,.slice L M N],iv 1,qz,.agg z6.vs.toArray,qn,.slice Q R S,iv k,iv l] P λ P Q=>∃ R S,∃ T U:I6,∃ V W X Y Z a1 a2 a3 a4,P=.returned (.agg (iv R :: iv S :: T.on (U.on [.slice V W X,.slice Y Z a1,.slice a2 a3 a4]):List Value).toArray)/\aK (qd O 0) 0 (iv R :: iv S :: T.on (U.on [.slice V W X,.slice Y Z a1,.slice a2 a3 a4])) Q λ P=>A O P)/\av z.drew (.cells #[qz,qz,qz,qz,qz,qz,qz,qz,qz,qz,qz,qz,qz,qz,qn,qn,qn] 51) λ z O=>af O (qd o 0) 0 [.slice B C D,.slice E F G,.slice H I J,.slice L M N]/\CC 22 #[.pointer s] O λ O P=>∃ Q R S,O=.returned (.slice Q R S)/\af P (qd o 0) 0 [.slice B C D,.slice E F G,.slice H I J,.slice L M N]/\CC 18 #[.agg #[.slice B C D,.slice E F G,.slice H I J,.slice L M N],iv 1,qz,.agg z6.vs.toArray,qn,.slice Q R S,iv k,iv l] P λ B C=>∃ D E,∃ F G:I6,∃ H I J L M N O P Q,B=.returned (.agg (iv D :: iv E :: F.on (G.on [.slice H I J,.slice L M N,.slice O P Q]):List Value).toArray)/\aK (qd z 0) 0 (iv D :: iv E :: F.on (G.on [.slice H I J,.slice L M N,.slice O P Q])) C λ B=>A z B))/\CC 14 #[.pointer n] x λ x z=>∃ A,x=.returned (iv A)/\CC 14 #[.pointer m] z λ x z=>∃ B,x=.returned (iv B)/\cond (A !=B) (y true z) (CC 19 #[.pointer s] z λ x z=>∃ A,x=.returned (iv A)/\CC 19 #[.pointer t] z λ x z=>∃ B,x=.returned (iv B)/\cond (A !=B) (y true z) (CC 20 #[.pointer s] z λ x z=>∃ A:I6,x=.returned (.agg A.vs.toArray)/\CC 20 #[.pointer t] z λ x z=>∃ B:I6,x=.returned (.agg B.vs.toArray)/\cond (!(I6.beq A B)) (y true z) (CC 24 #[.pointer s,iv l] z λ x z=>∃ A B C,x=.returned (.slice A B C)/\CC 24 #[.pointer t,iv l] z λ x z=>∃ D E F,x=.returned (.slice D E F)/\CC 23 #[.slice A B C,.slice D E F] z λ x z=>∃ A,x=.returned (.bool A)/\y (!A) z)))))/\cond (s).isNone (v true u) (v (t).isNone u)))/\CC 14 #[.pointer n] r λ r s=>∃ t,r=.returned (iv t)/\cond (t==0) (q true s) (CC 14 #[.pointer m] s λ r s=>∃ t,r=.returned (iv t)/\cond (t==0) (q true s) (∃ r t u,s.cell? (qd o 1)=some (.slice r t u)/\cond (decide (l>=(t:Int))) (q true s) (∃ r t u,s.cell? (qd o 1)=some (.slice r t u)/\∃ r u v,s.cell? (qd p 1)=some (.slice r u v)/\cond ((t:Int) !=(u:Int)) (q true s) (∃ r t u,s.cell? (qd o 0)=some (.slice r t u)/\∃ o r u,s.cell? (qd p 0)=some (.slice o r u)/\q ((t:Int) !=(r:Int)) s))))))/\cond (n).isNone (a true d) (a (m).isNone d)))/\CC 8 #[.slice e f g] b λ a b=>∃ d,a=.returned (.bool d)/\cond (!d) (c true b) (CC 8 #[.slice h i j] b λ a b=>∃ d,a=.returned (.bool d)/\cond (!d) (c true b) (cond (decide (l<0)) (c true b) (cond (decide (k<0)) (c true b) (c (decide (k>3)) b))))
theorem nI{n1 n2 n3 n4 a1 l1 c1 a2 l2 c2 n5 n6 w K}(h:jo n1 n2 n3 n4 a1 l1 c1 a2 l2 c2 n5 n6 w K):CP 4 #[.agg #[iv n1,iv n2,iv n3,iv n4],.slice a1 l1 c1,.slice a2 l2 c2,iv n5,iv n6] w K:=ah (aE [(6,[(42,.s .bool)]),(30,[(55,.s .bool)]),(254,[(96,.s .bool)]),(510,[(103,.s .bool)]),(1022,[(132,.s .bool)]),(1023,[(17,.s (.blk))]),(2047,[(18,.s (.blk))])]) func4 (by kernel_rfl) (by kernel_rfl) h
def eX(a b c d:Int)(e:OA)(f g:Nat)(h i:Int)(w:World)(K:KP):=av w (.cells #[iv a,iv b,iv c,iv d] 23) λ a b=>∃ c:Bool->qW,(∀ d j,c j d->∀ k:qv,cond j (CC 9 #[] d λ j k=>∃ l,j=.returned (.bool l)/\K (.bool l) k) (∃ j k l m,af d (qd a 0) 0 [iv j,iv k,iv l,iv m]/\CC 10 #[.agg #[iv j,iv k,iv l,iv m],.slice e f g] d λ a d=>∃ j,a=.returned (.pointer j)/\cond (j).isNone (K (.bool false) d) (CC 12 #[.pointer j,iv 3,iv (-1)] d λ a d=>∃ k l,∃ m n:I6,∃ o p q r s t u v x y,a=.returned (.tuple #[.agg (iv k :: iv l :: m.on (n.on [.slice o p q,.slice r s t,.slice u v x]):List Value).toArray,iv y])/\av d (.cells #[qz,qz,qz,qz,qz,qz,qz,qz,qz,qz,qz,qz,qz,qz,qn,qn,qn] 44) λ a d=>aK (qd a 0) 0 (iv k :: iv l :: m.on (n.on [.slice o p q,.slice r s t,.slice u v x])) d λ d=>CC 12 #[.pointer j,iv h,iv (-1)] d λ d k=>∃ l m,∃ n o:I6,∃ p q r s t u v x z A,d=.returned (.tuple #[.agg (iv l :: iv m :: n.on (o.on [.slice p q r,.slice s t u,.slice v x z]):List Value).toArray,iv A])/\av k (.cells #[qz,qz,qz,qz,qz,qz,qz,qz,qz,qz,qz,qz,qz,qz,qn,qn,qn] 44) λ d k=>aK (qd d 0) 0 (iv l :: iv m :: n.on (o.on [.slice p q r,.slice s t u,.slice v x z])) k λ k=>CC 12 #[.pointer j,iv 3,iv i] k λ j k=>∃ l m,∃ n o:I6,∃ p q r s t u v x z B,j=.returned (.tuple #[.agg (iv l :: iv m :: n.on (o.on [.slice p q r,.slice s t u,.slice v x z]):List Value).toArray,iv B])/\av k (.cells #[qz,qz,qz,qz,qz,qz,qz,qz,qz,qz,qz,qz,qz,qz,qn,qn,qn] 44) λ j k=>aK (qd j 0) 0 (iv l :: iv m :: n.on (o.on [.slice p q r,.slice s t u,.slice v x z])) k λ k=>∃ l:Bool->qW,(∀ m n,l n m->∀ o:qv,cond n (K (.bool false) m) (cond (B !=0) (CC 9 #[] m λ n o=>∃ p,n=.returned (.bool p)/\K (.bool p) o) (aQ m (qd j 14) qn λ m=>cond (y==0) (∃ n o,∃ p q:I6,∃ r s t u v x z B C,af m.drew (qd a 0) 0 (iv n :: iv o :: p.on (q.on [.slice r s t,.slice u v x,.slice z B C]))/\∃ D E,∃ F G:I6,∃ H I J L M N O P Q,af m.drew (qd j 0) 0 (iv D :: iv E :: F.on (G.on [.slice H I J,.slice L M N,.slice O P Q]))/\CC 16 #[.agg (iv n :: iv o :: p.on (q.on [.slice r s t,.slice u v x,.slice z B C]):List Value).toArray] m.drew λ n o=>∃ p q,∃ r s:I6,∃ t u v x z B C R S,n=.returned (.agg (iv p :: iv q :: r.on (s.on [.slice t u v,.slice x z B,.slice C R S]):List Value).toArray)/\af o (qd j 0) 0 (iv D :: iv E :: F.on (G.on [.slice H I J,.slice L M N,.slice O P Q]))/\CC 16 #[.agg (iv D :: iv E :: F.on (G.on [.slice H I J,.slice L M N,.slice O P Q]):List Value).toArray] o λ j n=>∃ o D,∃ E F:I6,∃ G H I J L M N O P,j=.returned (.agg (iv o :: iv D :: E.on (F.on [.slice G H I,.slice J L M,.slice N O P]):List Value).toArray)/\CC 15 #[.agg (iv p :: iv q :: r.on (s.on [.slice t u v,.slice x z B,.slice C R S]):List Value).toArray,.agg (iv o :: iv D :: E.on (F.on [.slice G H I,.slice J L M,.slice N O P]):List Value).toArray] n λ j n=>∃ o,j=.returned (.bool o)/\cond o (CC 9 #[] n λ j o=>∃ p,j=.returned (.bool p)/\K (.bool p) o) (K (.bool false) n)) (K (.bool false) m.drew))))/\cond (y !=A) (l true k.drew) (∃ j m,∃ n o:I6,∃ p q r s t u v x y,af k.drew (qd a 0) 0 (iv j :: iv m :: n.on (o.on [.slice p q r,.slice s t u,.slice v x y]))/\∃ z A,∃ B C:I6,∃ D E F G H I J L M,af k.drew (qd d 0) 0 (iv z :: iv A :: B.on (C.on [.slice D E F,.slice G H I,.slice J L M]))/\CC 16 #[.agg (iv j :: iv m :: n.on (o.on [.slice p q r,.slice s t u,.slice v x y]):List Value).toArray] k.drew λ j k=>∃ m n,∃ o p:I6,∃ q r s t u v x y N,j=.returned (.agg (iv m :: iv n :: o.on (p.on [.slice q r s,.slice t u v,.slice x y N]):List Value).toArray)/\af k (qd d 0) 0 (iv z :: iv A :: B.on (C.on [.slice D E F,.slice G H I,.slice J L M]))/\CC 16 #[.agg (iv z :: iv A :: B.on (C.on [.slice D E F,.slice G H I,.slice J L M]):List Value).toArray] k λ d j=>∃ k z,∃ A B:I6,∃ C D E F G H I J L,d=.returned (.agg (iv k :: iv z :: A.on (B.on [.slice C D E,.slice F G H,.slice I J L]):List Value).toArray)/\CC 15 #[.agg (iv m :: iv n :: o.on (p.on [.slice q r s,.slice t u v,.slice x y N]):List Value).toArray,.agg (iv k :: iv z :: A.on (B.on [.slice C D E,.slice F G H,.slice I J L]):List Value).toArray] j λ d j=>∃ k,d=.returned (.bool k)/\cond (!k) (l true j) (∃ d k m,j.cell? (qd a 14)=some (.slice d k m)/\l (decide ((k:Int)>(0:Int))) j)))))/\CC 8 #[.slice e f g] b λ a b=>∃ d,a=.returned (.bool d)/\cond (!d) (c true b) (cond (decide (h<0)) (c true b) (cond (decide (h>3)) (c true b) (c (decide (i<0)) b)))
theorem jC{n1 n2 n3 n4 a1 l1 c1 n5 n6 w K}(h:eX n1 n2 n3 n4 a1 l1 c1 n5 n6 w K):CP 5 #[.agg #[iv n1,iv n2,iv n3,iv n4],.slice a1 l1 c1,iv n5,iv n6] w K:=ah (aE [(6,[(30,.s .bool)]),(510,[(70,.s .bool)])]) func5 (by kernel_rfl) (by kernel_rfl) h
set_option maxHeartbeats 1000000 in
theorem shows45_c(aw:pG){w:World}{a:OA}{c:Nat}{l:List Ev}(o:Po)(kind vw:Int)(h:bG 11 Ev.cells w a l)(hi:∀ e∈l,e.In) :
  CP 3 #[o.v,.slice a l.length c,iv kind,iv vw] w (λ r w'=>r=.bool true/\Chg w w' []):=by
 refine nK ?_;unfold jr;refine(St.start w).one.aB o.cells.toArray λ r1 w1 s1=>an (uX (bG.aA h s1.aA)) ?_;rintro _ w2 ⟨b,rfl,rfl,hb⟩;refine⟨b,rfl,?_⟩
 cases b with
 | false=>exact cT rfl (gW aw s1.aA)
 | true =>
 have hl:=hb rfl;refine cF rfl ⟨_,_,_,_,s1.cellsIn 0 rfl,an (qj s1 o (bG.aA h) hi (by omega)) ?_⟩;rintro _ w3 ⟨b,rfl,s3⟩;have hok:=rF o l hi;generalize(made o l).1=S at s3 hok;generalize(made o l).2=C at s3 hok;refine⟨_,rfl,cF rfl (an (vU s3 hok) ?_)⟩;rintro _ w4 ⟨S',eS,rfl,k4⟩;have s4:St w w4 (Sep [held S'.In,tA b S C,ai r1 o.cells.toArray 23,emp]):=s3.and k4;refine⟨_,_,_,_,_,_,_,_,_,_,_,_,rfl,s4.aB fP.arr λ r2 w5 s5=>s5.aC 0 rfl S'.arr.toList rfl (by simp[Se.arr,Value.oneCell']) λ w6 s6=>?_⟩;have s6:St w w6 (Sep [ai r2 S'.arr 34,held S'.In,tA b S C,ai r1 o.cells.toArray 23,emp]):=s6;refine an (qH (s6.out 2 rfl) hok kind vw) ?_;rintro _ w7 ⟨v,rfl,ev,k7⟩;have s7:St w w7 (Sep [held v.Rd,ai r2 S'.arr 34,held S'.In,tA b S C,ai r1 o.cells.toArray 23,emp]):=s6.and k7;obtain⟨n1,n2,n3⟩:=R9 hok ev;refine⟨v.ph,v.rd,v.pr,v.ex,_,_,_,_,_,_,_,_,_,_,rfl,s7.aB lT.vals.toArray λ r3 w8 s8=>s8.aC 0 rfl v.vals rfl v.one λ w9 s9=>?_⟩;have s9:St w w9 (Sep [ai r3 v.vals.toArray 44,held v.Rd,ai r2 S'.arr 34,held S'.In,tA b S C,ai r1 o.cells.toArray 23,emp]):=s9;have s10:=s9.quiet (Chg.drew _ _);refine⟨_,_,_,s10.ag 2 rfl 1,an (yo (s10.out 4 rfl)) ?_⟩;rintro _ w11 ⟨rfl,rfl⟩;refine⟨_,rfl,s10.ag 2 rfl 1,an (PT _ _ _ kind vw) ?_⟩;rintro _ w12 ⟨rfl,rfl⟩;have ebd:S'.bd=S.s.bd:=show S'.er.bd=S.s.bd by rw[eS]
 have eps:S'.ps=S.s.ps:=show S'.er.ps=S.s.ps by rw[eS]
 have eE:HG S'.bd.length S.ph kind vw=o8 S kind vw:=by unfold HG o8; rw[ebd]
 refine⟨_,rfl,?_⟩;rw[eE]
 by_cases hE:o8 S kind vw=0
 rotate_left
 ·rw[if_neg hE] at ev;refine cT (by simpa using hE) (cT (by simp) ⟨v.ph,v.rd,v.pr,v.ex,_,_,_,_,_,_,_,_,_,s10.cellsIn 0 rfl,an (EV v _) ?_⟩);rintro _ w13 ⟨rfl,c13⟩;have s13:=s10.quiet c13;refine⟨v.ph,v.rd,v.pr,v.ex,_,_,_,_,_,_,_,_,_,rfl,an (vQ (v1:=v) (v2:=lT) (s13.aP 1 rfl) (O4 _) n1 n2 n3) ?_⟩;rintro _ w14 ⟨⟨bb,rfl,hbb⟩,c14⟩;have hbb:=hbb.2 ev;subst hbb;exact⟨true,rfl,cT rfl (gW aw (s13.quiet c14).aA)⟩
 rw[if_pos hE] at ev;obtain⟨hp,hv,h0⟩:=Oj hE;refine cF (by rw[hE]; rfl) (an (Ao (s10.out 4 rfl) hok h0) ?_);rintro _ w13 ⟨g,C1,rfl,e1,k13⟩;have hC1:=uI hok h0 e1;have s13:St w w13 (Sep [held (C1.Rd g),ai r3 v.vals.toArray 44,held v.Rd,ai r2 S'.arr 34,held S'.In,tA b S C,ai r1 o.cells.toArray 23,emp]):=s10.and k13;have s14:=s13.quiet (Chg.drew _ _);refine⟨_,rfl,cF rfl (cT (by rw[hE]; rfl) ⟨v.ph,v.rd,v.pr,v.ex,_,_,_,_,_,_,_,_,_,s14.cellsIn 1 rfl,_,_,_,_,_,_,_,_,_,_,_,_,s14.cellsIn 3 rfl,an (EV v _) ?_⟩)⟩;rintro _ w15 ⟨rfl,c15⟩;have s15:=s14.quiet c15;refine⟨v.ph,v.rd,v.pr,v.ex,_,_,_,_,_,_,_,_,_,rfl,s15.cellsIn 3 rfl,an (yo (s15.out 5 rfl)) ?_⟩;rintro _ w16 ⟨rfl,rfl⟩;refine⟨_,rfl,s15.cellsIn 3 rfl,an (vg (s15.aP 0 rfl)) ?_⟩;rintro _ w17 ⟨rfl,rfl⟩;refine⟨_,rfl,s15.cellsIn 3 rfl,an (rE (s15.aP 0 rfl)) ?_⟩;rintro _ w18 ⟨rfl,c18⟩;have s18:=s15.quiet c18;have es1:C1.s.bd.length=S.s.bd.length:=by
  have h2:=hok.cs h0;rw[<- e1] at h2;rw[jQ (show C1.s.er=S.s.er from h2)]
 refine⟨C1.p,rfl,s18.cellsIn 3 rfl,an (PB (s18.aP 0 rfl) hC1 (n:=vw) (by omega)) ?_⟩;rintro _ w19 ⟨a6,c6,rfl,k19⟩;have s19:St w w19 (Sep [O9 a6 c6 (dA C1 vw),held (C1.Rd g),ai r3 v.vals.toArray 44,held v.Rd,ai r2 S'.arr 34,held S'.In,tA b S C,ai r1 o.cells.toArray 23,emp]):=s18.and k19;refine⟨_,_,_,rfl,s19.cellsIn 4 rfl,an (HR (s19.aP 1 rfl) hC1) ?_⟩;rintro _ w20 ⟨a7,c7,rfl,k20⟩;have s20:St w w20 (Sep [eJ a7 c7 (aW C1.cl),O9 a6 c6 (dA C1 vw),held (C1.Rd g),ai r3 v.vals.toArray 44,held v.Rd,ai r2 S'.arr 34,held S'.In,tA b S C,ai r1 o.cells.toArray 23,emp]):=s19.and k20;have eg:aW C1.cl=aW C.cl:=by rw[<- e1]; exact(iL C1.cl).symm
 obtain⟨hg1,hg2⟩:=zF hok h0;have hso:=hok.so h0;have h8:=VK hok;refine⟨_,_,_,rfl,s20.cellsIn 5 rfl,an (JS (s:=S') (s20.aP 6 rfl) (St.rd Ch.len (s20.out 1 rfl)) (St.rd aR (s20.out 0 rfl)) (by rw[eg]; omega) (by rw[eg]; exact λ u hu j hj=>by have:=hg2 u hu j hj; omega) (by
  rw[eps];intro p hp;obtain⟨i,hi,rfl⟩:=List.mem_iff_getElem.1 hp;have:=(hso.ps.good i _ (gE hi)).1;simp only[xp,Iu,Bool.and_eq_true,decide_eq_true_eq] at this;omega) (by rw[ebd]; omega) hp hv.1) ?_⟩
 rintro _ w21 ⟨v2,Q,rfl,ev2,hQ,kQ⟩;have s21:=s20.quiet kQ.aA;have rd2:v2.Rd w21:=hQ _ (St.rd Ch.len (s21.out 1 rfl)) (St.rd aR (s21.out 0 rfl)) (kQ.one.aP 0 rfl);refine⟨v2.ph,v2.rd,v2.pr,v2.ex,_,_,_,_,_,_,_,_,_,rfl,an (vQ (v1:=v) (v2:=v2) (s21.aP 4 rfl) rd2 n1 n2 n3) ?_⟩;rintro _ w22 ⟨⟨bb,rfl,hbb⟩,c22⟩;have hcho:(if vw<0 then [] else dA C1 vw)=dA C vw:=by
  by_cases hn:vw<0
  ·rw[if_pos hn]; unfold dA; rw[if_pos hn]
  ·rw[if_neg hn]; exact zB e1 vw
 have ecl:C1.cl.length=C.cl.length:=by rw[<- e1]; exact(tT C1).symm
 have ep:C1.p=C.p:=by rw[<- e1]; rfl
 have hbb:=hbb.2 (by rw[ev,ev2,hcho,eg,ecl,ep,eps,ebd]; rfl);subst hbb;exact⟨true,rfl,cT rfl (gW aw (s21.quiet c22).aA)⟩
theorem IC{S:Sx}{k:Int}(h:0<=k/\k<=3):o8 S k (-1)=if S.ph=0 then 10 else 0:=by
 unfold o8;rw[if_neg (by omega),if_neg (by omega)]
theorem U8{S:Sx}{C:Ck}{k:Int}:EF S C k (-1)=EF S C 3 (-1):=rfl
def Vw.no(v:Vw):Vw:={ v with own:=[],oa:=none,oc:=0 }
theorem Vw.Wj{v:Vw}{w:World}(h:v.Rd w):v.no.Rd w:=⟨λ i x hx=>by simp[Vw.no] at hx,h.dm,h.nm⟩
theorem Vw.Wi(v:Vw):v.no.er=v.er.no:=rfl
theorem U9{S:Sx}{C:Ck}{vw:Int}(h:0<=vw):(EF S C 3 vw).no=EF S C 3 (-1):=by
 have e1:bS 3 vw=3:=by unfold bS; split<;>rfl
 have e2:bS 3 (-1)=3:=rfl;unfold EF;rw[e1,e2]; rfl
set_option maxHeartbeats 1000000 in
theorem Mi(aw:pG){w:World}{a:OA}{c:Nat}{l:List Ev}(o:Po)(kind vw:Int)(h:bG 11 Ev.cells w a l)(hi:∀ e∈l,e.In) :
  CP 5 #[o.v,.slice a l.length c,iv kind,iv vw] w (λ r w'=>r=.bool true/\Chg w w' []):=by
 refine jC ?_;unfold eX;refine(St.start w).one.aB o.cells.toArray λ r1 w1 s1=>⟨λ b w2=>(b=false->l.length<=60/\(0<=kind/\kind<=3)/\0<=vw)/\St w w2 (Sep [ai r1 o.cells.toArray 23,emp]),?_,an (uX (bG.aA h s1.aA)) ?_⟩
 rotate_left
 ·rintro _ w2 ⟨b,rfl,rfl,hb⟩;refine⟨b,rfl,?_⟩
  cases b with
  | false=>exact cT rfl ⟨λ h=>(by cases h),s1⟩
  | true =>
  refine cF rfl ?_
  by_cases g1:kind<0
  ·exact cT (dT g1) ⟨λ h=>(by cases h),s1⟩
  refine cF (dF g1) ?_
  by_cases g2:kind>3
  ·exact cT (dT g2) ⟨λ h=>(by cases h),s1⟩
  exact cF (dF g2) ⟨λ h=>⟨hb rfl,⟨by omega,by omega⟩,by have:=of_decide_eq_false h; omega⟩,s1⟩
 rintro w2 b ⟨hb,s2⟩ -
 cases b with
 | true=>exact cT rfl (gW aw s2.aA)
 | false =>
 obtain⟨hl,hk,hv0⟩:=hb rfl;refine cF rfl ⟨_,_,_,_,s2.cellsIn 0 rfl,an (qj s2 o (bG.aA h) hi (by omega)) ?_⟩;rintro _ w3 ⟨b,rfl,s3⟩;have hok:=rF o l hi;generalize(made o l).1=S at s3 hok;generalize(made o l).2=C at s3 hok;refine⟨_,rfl,cF rfl (an (qH s3 hok 3 (-1)) ?_)⟩;rintro _ w4 ⟨v1,rfl,ev1,k4⟩;have s4:St w w4 (Sep [held v1.Rd,tA b S C,ai r1 o.cells.toArray 23,emp]):=s3.and k4;obtain⟨n1,n2,n3⟩:=R9 hok ev1;refine⟨v1.ph,v1.rd,v1.pr,v1.ex,_,_,_,_,_,_,_,_,_,_,rfl,s4.aB lT.vals.toArray λ r2 w5 s5=>s5.aC 0 rfl v1.vals rfl v1.one λ w6 s6=>?_⟩;have s6:St w w6 (Sep [ai r2 v1.vals.toArray 44,held v1.Rd,tA b S C,ai r1 o.cells.toArray 23,emp]):=s6;refine an (qH (s6.out 2 rfl) hok kind (-1)) ?_;rintro _ w7 ⟨v2,rfl,ev2,k7⟩;have s7:St w w7 (Sep [held v2.Rd,ai r2 v1.vals.toArray 44,held v1.Rd,tA b S C,ai r1 o.cells.toArray 23,emp]):=s6.and k7;refine⟨v2.ph,v2.rd,v2.pr,v2.ex,_,_,_,_,_,_,_,_,_,_,rfl,s7.aB lT.vals.toArray λ r3 w8 s8=>s8.aC 0 rfl v2.vals rfl v2.one λ w9 s9=>?_⟩;have s9:St w w9 (Sep [ai r3 v2.vals.toArray 44,held v2.Rd,ai r2 v1.vals.toArray 44,held v1.Rd,tA b S C,ai r1 o.cells.toArray 23,emp]):=s9;refine an (qH (s9.out 4 rfl) hok 3 vw) ?_;rintro _ w10 ⟨v3,rfl,ev3,k10⟩;have s10:St w w10 (Sep [held v3.Rd,ai r3 v2.vals.toArray 44,held v2.Rd,ai r2 v1.vals.toArray 44,held v1.Rd,tA b S C,ai r1 o.cells.toArray 23,emp]):=s9.and k10;refine⟨v3.ph,v3.rd,v3.pr,v3.ex,_,_,_,_,_,_,_,_,_,_,rfl,s10.aB lT.vals.toArray λ r4 w11 s11=>s11.aC 0 rfl v3.vals rfl v3.one λ w12 s12=>?_⟩;have s12:St w w12 (Sep [ai r4 v3.vals.toArray 44,held v3.Rd,ai r3 v2.vals.toArray 44,held v2.Rd,ai r2 v1.vals.toArray 44,held v1.Rd,tA b S C,ai r1 o.cells.toArray 23,emp]):=s12;have eE:o8 S kind (-1)=o8 S 3 (-1):=by rw[IC hk,IC (by decide)]
 have e12:v1.er=v2.er:=by rw[ev1,ev2,eE,U8 (k:=kind)]
 have hown:v1.own=[]:=by
  by_cases hz:o8 S 3 (-1)=0
  ·rw[if_pos hz] at ev1;exact(Vw.je (b:=EF S C 3 (-1)).1 ev1).2.2.2.2.1
  ·rw[if_neg hz] at ev1;exact(Vw.je (b:=lT).1 ev1).2.2.2.2.1
 refine⟨λ b' w'=>b' = false/\St w w' (Sep [ai r4 v3.vals.toArray 44,held v3.Rd,ai r3 v2.vals.toArray 44,held v2.Rd,ai r2 v1.vals.toArray 44,held v1.Rd,tA b S C,ai r1 o.cells.toArray 23,emp]),?_,?_⟩
 rotate_left
 ·have s13:=s12.quiet (Chg.drew _ _);refine cF (by rw[eE]; simp) (W8 s13 4 2 rfl rfl (s13.aP 5 rfl) (s13.aP 3 rfl) n1 n2 n3 λ bb w' hbb hc=>?_);have hbb:=hbb.2 e12;subst hbb;have s14:=s13.quiet hc;refine cF rfl ⟨_,_,_,s14.ag 4 rfl 14,?_,s14⟩;rw[hown]; rfl
 rintro w13 b' ⟨rfl,s13⟩ -;refine cF rfl ?_
 by_cases hE:o8 S 3 vw=0
 rotate_left
 ·exact cT (by simpa using hE) (gW aw s13.aA)
 obtain⟨_,_,h0⟩:=Oj hE;have hE1:o8 S 3 (-1)=0:=by rw[IC (by decide),if_neg h0]
 refine cF (by simpa using hE) (s13.aJ 0 rfl (j:=14) (by show 14<17; decide) rfl λ w14 s14=>?_);have s14:St w w14 (Sep [ai r4 v3.no.vals.toArray 44,held v3.Rd,ai r3 v2.vals.toArray 44,held v2.Rd,ai r2 v1.vals.toArray 44,held v1.Rd,tA b S C,ai r1 o.cells.toArray 23,emp]):=s14;have s15:=s14.quiet (Chg.drew _ _);refine cT (by rw[hE1]; rfl) (W8 s15 4 0 rfl rfl (s15.aP 5 rfl) (Vw.Wj (s15.aP 1 rfl)) n1 n2 n3 λ bb w' hbb hc=>?_);rw[if_pos hE1] at ev1;rw[if_pos hE] at ev3;have hbb:=hbb.2 (by rw[Vw.Wi,ev3,U9 hv0,ev1]);subst hbb;exact cT rfl (gW aw (s15.quiet hc).aA)
section
variable {w0 w:World} {b:Nat} {S:Sx} {C:Ck} {B:aG}
theorem Fw(s:St w0 w (star (tA b S C) B))(hok:lW S C):CP 17 #[pt b] w (λ r w'=>∃ (p:OA) (C' : Ck),r=.pointer p/\C'.er=C/\(S.ph≠0->∃ g,p=some ⟨g,0,none⟩)/\St w w' (held λ w=>∀ g,p=some ⟨g,0,none⟩->C'.Rd g w)):=by
 obtain⟨S1,C1,rfl,rfl,hk,s1⟩:=rQ s;have hok' : lW S1 C1:=BD hok;refine an (GU (s1.cellsIn 0 rfl) hok'.b8 (s1.aP 1 rfl) hok' hk) ?_;rintro v w1 ⟨p,C',rfl,e1,e2,e3⟩;refine⟨_,rfl,p,C',rfl,e1,e2.2,?_⟩
 cases p with
 | none=>exact e3.weak (gU.weak λ _ _ _ g hg=>by cases hg)
 | some q =>
  have e4:St w w1 (Sep (dR q.block C')):=e3;exact e4.weak (gU.weak (gU.mono sV λ w' h g hg=>by cases hg; exact h))
end
theorem SX{w0 w:World}{L:List aG}{a:OA}{c:Nat}{G:List I6}{s:Se}(t:St w0 w (Sep (eJ a c G :: L)))(hs:s.In w)(hgl:G.length<=1000)(hgb:∀ u∈G,I6.Le u 1000000)(hsup:∀ p∈s.ps,0<=p.sup/\p.sup<=1000000)(hbl:s.bd.length<=1000){pol vw:Int}(hp:0<=pol/\pol<=3)(hv : -1<=vw) :
  CP 18 #[.agg s.arr,iv 1,iv 0,.agg z6.vs.toArray,.slice none 0 0,.slice a G.length c,iv pol,iv vw] w (λ r w'=>∃ v:Vw,r=v.val/\v.er=UP 1 0 z6 [] G s.ps (s.bd.map Br.nm) (bS pol vw)/\St w0 w' (Sep (held v.Rd :: L))):=by
 have ho:zw w none ([]:List Ch):=λ i x hx=>by simp at hx
 refine an (JS (own:=[]) (oa:=none) (oc:=0) hs ho (St.rd aR (t.out 0 rfl)) hgl hgb hsup hbl hp hv) ?_;rintro _ w1 ⟨v,Q,rfl,ev,hQ,kQ⟩;have t1:St w0 w1 (Sep (held Q :: eJ a c G :: L)):=t.and kQ;refine⟨_,rfl,v,rfl,?_,?_⟩
 ·rw[ev]; split<;>rfl
 ·exact t1.j4 (aU Q) (bh aR) λ w' h1 h2=>hQ w' (λ i x hx=>by simp at hx) h2 h1
theorem Yi{w0 w:World}{L:List aG}{g:Nat}{K:Ck}{s:Se}{rr ix:Nat}{kind vw:Int}(t:St w0 w (Sep L))(hK:K.Ok)(e:L[ix]?=some (ai rr s.arr 34))(cl:∀ {w' : World},St w0 w' (Sep L)->K.Rd g w')(si:∀ {w' : World},St w0 w' (Sep L)->s.In w')(hgl:(aW K.cl).length<=1000)(hgb:∀ u∈aW K.cl,I6.Le u 1000000)(hsup:∀ p∈s.ps,0<=p.sup/\p.sup<=1000000)(hbl:s.bd.length<=1000)(hp:0<=kind/\kind<=3)(hv : -1<=vw){J:Nat->World->Prop}(k:∀ (r:Nat) (w' : World) (v:Vw),v.er=UP 1 0 z6 [] (aW K.cl) s.ps (s.bd.map Br.nm) (bS kind vw)->St w0 w' (Sep (ai r v.vals.toArray 51 :: held v.Rd :: L))->J r w') :
  ∃ (a50:OA) (l50 c50:Nat) (a51:OA) (l51 c51:Nat) (a52:OA) (l52 c52:Nat) (a53:OA) (l53 c53:Nat),af w ⟨rr,0,none⟩ 0 [(.slice a50 l50 c50),(.slice a51 l51 c51),(.slice a52 l52 c52),(.slice a53 l53 c53)] /\
  (CC 22 #[(pt g)] w λ e23 w45=>∃ (a54:OA) (l54 c54:Nat),e23=.returned (.slice a54 l54 c54) /\
  af w45 ⟨rr,0,none⟩ 0 [(.slice a50 l50 c50),(.slice a51 l51 c51),(.slice a52 l52 c52),(.slice a53 l53 c53)] /\
  (CC 18 #[(.agg #[(.slice a50 l50 c50),(.slice a51 l51 c51),(.slice a52 l52 c52),(.slice a53 l53 c53)]),(iv 1),(iv 0),(.agg z6.vs.toArray),(.slice none 0 0),(.slice a54 l54 c54),(iv kind),(iv vw)] w45 λ e24 w46=>∃ (n39 n40:Int) (u23 u24:I6) (a55:OA) (l55 c55:Nat) (a56:OA) (l56 c56:Nat) (a57:OA) (l57 c57:Nat),e24=.returned (.agg ((iv n39) :: ((iv n40) :: (u23.on (u24.on [(.slice a55 l55 c55),(.slice a56 l56 c56),(.slice a57 l57 c57)]))):List Value).toArray) /\
  av w46 (.cells #[(iv 0),(iv 0),(iv 0),(iv 0),(iv 0),(iv 0),(iv 0),(iv 0),(iv 0),(iv 0),(iv 0),(iv 0),(iv 0),(iv 0),(.slice none 0 0),(.slice none 0 0),(.slice none 0 0)] 51) λ r11 w47 =>
  aK ⟨r11,0,none⟩ 0 ((iv n39) :: ((iv n40) :: (u23.on (u24.on [(.slice a55 l55 c55),(.slice a56 l56 c56),(.slice a57 l57 c57)])))) w47 λ w48 =>
  J r11 w48) /\
  av w45 (.cells #[(iv 0),(iv 0),(iv 0),(iv 0),(iv 0),(iv 0),(iv 0),(iv 0),(iv 0),(iv 0),(iv 0),(iv 0),(iv 0),(iv 0),(.slice none 0 0),(.slice none 0 0),(.slice none 0 0)] 51) λ r12 w49 =>
  af w49 ⟨rr,0,none⟩ 0 [(.slice a50 l50 c50),(.slice a51 l51 c51),(.slice a52 l52 c52),(.slice a53 l53 c53)] /\
  CC 18 #[(.agg #[(.slice a50 l50 c50),(.slice a51 l51 c51),(.slice a52 l52 c52),(.slice a53 l53 c53)]),(iv 1),(iv 0),(.agg z6.vs.toArray),(.slice none 0 0),(.slice a54 l54 c54),(iv kind),(iv vw)] w49 λ e25 w50=>∃ (n41 n42:Int) (u25 u26:I6) (a58:OA) (l58 c58:Nat) (a59:OA) (l59 c59:Nat) (a60:OA) (l60 c60:Nat),e25=.returned (.agg ((iv n41) :: ((iv n42) :: (u25.on (u26.on [(.slice a58 l58 c58),(.slice a59 l59 c59),(.slice a60 l60 c60)]))):List Value).toArray) /\
  aK ⟨r12,0,none⟩ 0 ((iv n41) :: ((iv n42) :: (u25.on (u26.on [(.slice a58 l58 c58),(.slice a59 l59 c59),(.slice a60 l60 c60)])))) w50 λ w51 =>
  J r12 w51) /\
  av w (.cells #[(iv 0),(iv 0),(iv 0),(iv 0),(iv 0),(iv 0),(iv 0),(iv 0),(iv 0),(iv 0),(iv 0),(iv 0),(iv 0),(iv 0),(.slice none 0 0),(.slice none 0 0),(.slice none 0 0)] 51) λ r13 w52 =>
  af w52 ⟨rr,0,none⟩ 0 [(.slice a50 l50 c50),(.slice a51 l51 c51),(.slice a52 l52 c52),(.slice a53 l53 c53)] /\
  CC 22 #[(pt g)] w52 λ e26 w53=>∃ (a61:OA) (l61 c61:Nat),e26=.returned (.slice a61 l61 c61) /\
  af w53 ⟨rr,0,none⟩ 0 [(.slice a50 l50 c50),(.slice a51 l51 c51),(.slice a52 l52 c52),(.slice a53 l53 c53)] /\
  CC 18 #[(.agg #[(.slice a50 l50 c50),(.slice a51 l51 c51),(.slice a52 l52 c52),(.slice a53 l53 c53)]),(iv 1),(iv 0),(.agg z6.vs.toArray),(.slice none 0 0),(.slice a61 l61 c61),(iv kind),(iv vw)] w53 λ e27 w54=>∃ (n43 n44:Int) (u27 u28:I6) (a62:OA) (l62 c62:Nat) (a63:OA) (l63 c63:Nat) (a64:OA) (l64 c64:Nat),e27=.returned (.agg ((iv n43) :: ((iv n44) :: (u27.on (u28.on [(.slice a62 l62 c62),(.slice a63 l63 c63),(.slice a64 l64 c64)]))):List Value).toArray) /\
  aK ⟨r13,0,none⟩ 0 ((iv n43) :: ((iv n44) :: (u27.on (u28.on [(.slice a62 l62 c62),(.slice a63 l63 c63),(.slice a64 l64 c64)])))) w54 λ w55 =>
  J r13 w55:=by
 have cs:∀ {w' : World},St w0 w' (Sep L)->af w' ⟨rr,0,none⟩ 0 s.arr.toList:=λ q=>q.cellsIn ix e;have late:∀ {w1:World} {r:Nat} {a:OA} {c:Nat},St w0 w1 (Sep (eJ a c (aW K.cl) :: ai r lT.vals.toArray 51 :: L)) ->
   CC 18 #[.agg s.arr,iv 1,iv 0,.agg z6.vs.toArray,.slice none 0 0,.slice a (aW K.cl).length c,iv kind,iv vw] w1 λ e27 w54=>∃ (n43 n44:Int) (u27 u28:I6) (a62:OA) (l62 c62:Nat) (a63:OA) (l63 c63:Nat) (a64:OA) (l64 c64:Nat),e27=.returned (.agg ((iv n43) :: ((iv n44) :: (u27.on (u28.on [(.slice a62 l62 c62),(.slice a63 l63 c63),(.slice a64 l64 c64)]))):List Value).toArray) /\
    aK ⟨r,0,none⟩ 0 ((iv n43) :: ((iv n44) :: (u27.on (u28.on [(.slice a62 l62 c62),(.slice a63 l63 c63),(.slice a64 l64 c64)])))) w54 λ w55=>J r w55:=λ {w1 r a c} q=>by
  refine an (SX q (si q.second.second) hgl hgb hsup hbl hp hv) ?_;rintro _ w3 ⟨v,rfl,ev,t4⟩;exact⟨v.ph,v.rd,v.pr,v.ex,_,_,_,_,_,_,_,_,_,rfl,t4.aC 1 rfl v.vals rfl v.one λ w4 t5=>k r w4 v ev (St.Hl t5)⟩
 refine⟨_,_,_,_,_,_,_,_,_,_,_,_,cs t,?_,?_⟩
 ·refine an (HR (cl t) hK) ?_;rintro _ w1 ⟨a,c,rfl,k1⟩;have t1:St w0 w1 (Sep (eJ a c (aW K.cl) :: L)):=t.and k1;refine⟨_,_,_,rfl,cs t1.second,?_,?_⟩
  ·refine an (SX t1 (si t1.second) hgl hgb hsup hbl hp hv) ?_;rintro _ w2 ⟨v,rfl,ev,t2⟩;exact⟨v.ph,v.rd,v.pr,v.ex,_,_,_,_,_,_,_,_,_,rfl,t2.aB lT.vals.toArray λ r w3 t3=>t3.aC 0 rfl v.vals rfl v.one λ w4 t4=>k r w4 v ev t4⟩
  ·exact t1.aB lT.vals.toArray λ r w2 t2=>⟨cs t2.second.second,late (St.Hl t2)⟩
 ·refine t.aB lT.vals.toArray λ r w1 t1=>⟨cs t1.second,an (HR (cl t1.second) hK) ?_⟩;rintro _ w2 ⟨a,c,rfl,k2⟩;have t2:St w0 w2 (Sep (eJ a c (aW K.cl) :: ai r lT.vals.toArray 51 :: L)):=t1.and k2;exact⟨_,_,_,rfl,cs t2.second.second,late t2⟩
theorem Rg{G:List I6}{ps:List Pr}{bn:List (List UInt8)}{k:Int}{v:Vw}(e:v.er=UP 1 0 z6 [] G ps bn k)(h1:G.length<=1000)(h2:bn.length<=1000):v.own.length<=1000000/\v.dm.length<=1000000/\v.nm.length<=1000000:=by
 have h:=Vw.je.1 (show v.er=(UP 1 0 z6 [] G ps bn k).er from e);rw[h.2.2.2.2.1,h.2.2.2.2.2.1,h.2.2.2.2.2.2];refine⟨Nat.zero_le _,?_,?_⟩
 ·show(if Hi k=true then bz (G.filter iQ) else if E0 k=true then G else []).length<=1000000
  split
  ·rw[jK];have:=List.length_filter_le iQ G;omega
  ·split
   ·omega
   ·simp
 ·show(if JH k=true then bn else []).length<=1000000
  split
  ·omega
  ·simp
theorem OG{S:Sx}{C:Ck}(hok:lW S C)(h0:S.ph≠0):∀ p∈S.s.ps,0<=p.sup/\p.sup<=1000000:=λ p hp=>by
 obtain⟨i,hi,rfl⟩:=List.mem_iff_getElem.1 hp;have:=((hok.so h0).ps.good i _ (gE hi)).1;simp only[xp,Iu,Bool.and_eq_true,decide_eq_true_eq] at this;omega
set_option maxHeartbeats 4000000 in
theorem KQ(aw:pG){w:World}{a1:OA}{c1:Nat}{l:List Ev}{a2:OA}{c2:Nat}{m:List Ev}(o:Po)(kind vw:Int)(h:bG 11 Ev.cells w a1 l)(hi:∀ e∈l,e.In)(h2:bG 11 Ev.cells w a2 m)(hi2:∀ e∈m,e.In) :
  CP 4 #[o.v,.slice a1 l.length c1,.slice a2 m.length c2,iv kind,iv vw] w (λ r w'=>r=.bool true/\Chg w w' []):=by
 refine nI ?_;unfold jo;refine(St.start w).one.aB o.cells.toArray λ r1 w1 s1=>⟨λ b w2=>(b=false->l.length<=60/\m.length<=60/\(0<=kind/\kind<=3)/\0<=vw)/\St w w2 (Sep [ai r1 o.cells.toArray 23,emp]),?_,an (uX (bG.aA h s1.aA)) ?_⟩
 rotate_left
 ·rintro _ w2 ⟨b,rfl,rfl,hb⟩;refine⟨b,rfl,?_⟩
  cases b with
  | false=>exact cT rfl ⟨λ h=>(by cases h),s1⟩
  | true =>
  refine cF rfl (an (uX (bG.aA h2 s1.aA)) ?_);rintro _ w3 ⟨b',rfl,rfl,hb'⟩;refine⟨b',rfl,?_⟩
  cases b' with
  | false=>exact cT rfl ⟨λ h=>(by cases h),s1⟩
  | true =>
  refine cF rfl ?_
  by_cases g0:vw<0
  ·exact cT (dT g0) ⟨λ h=>(by cases h),s1⟩
  refine cF (dF g0) ?_
  by_cases g1:kind<0
  ·exact cT (dT g1) ⟨λ h=>(by cases h),s1⟩
  exact cF (dF g1) ⟨λ h=>⟨hb rfl,hb' rfl,⟨by omega,by have:=of_decide_eq_false h; omega⟩,by omega⟩,s1⟩
 rintro w2 b ⟨hb,s2⟩ -
 cases b with
 | true=>exact cT rfl (gW aw s2.aA)
 | false =>
 obtain⟨hl,hm,hk,hv0⟩:=hb rfl;have s3:=s2.quiet (Chg.drew _ _);refine cF rfl ⟨_,_,_,_,s3.cellsIn 0 rfl,_,_,_,_,s3.cellsIn 0 rfl,an (qj s3 o (bG.aA h) hi (by omega)) ?_⟩;rintro _ w4 ⟨b1,rfl,s4⟩;have hok:=rF o l hi;generalize(made o l).1=S at s4 hok;generalize(made o l).2=C at s4 hok;refine⟨_,rfl,s4.cellsIn 1 rfl,an (qj s4 o (bG.aA h2) hi2 (by omega)) ?_⟩;rintro _ w5 ⟨b2,rfl,s5⟩;have hok2:=rF o m hi2;generalize(made o m).1=S2 at s5 hok2;generalize(made o m).2=C2 at s5 hok2;let Z:List aG:=[tA b2 S2 C2,tA b1 S C,ai r1 o.cells.toArray 23,emp];have s5:St w w5 (Sep Z):=s5;refine⟨_,rfl,λ b w6=>b=false/\St w w6 (Sep Z),?_,cF rfl ⟨rfl,s5⟩⟩;rintro w6 b ⟨rfl,s6⟩ -;refine cF rfl (an (vU (s6.out 1 rfl) hok) ?_);rintro _ w7 ⟨SA,eA,rfl,k7⟩;have s7:St w w7 (Sep (held SA.In :: Z)):=s6.and k7;refine⟨_,_,_,_,_,_,_,_,_,_,_,_,rfl,an (vU (s7.out 1 rfl) hok2) ?_⟩;rintro _ w8 ⟨SB,eB,rfl,k8⟩;have s8:St w w8 (Sep (held SB.In :: held SA.In :: Z)):=s7.and k8;refine⟨_,_,_,_,_,_,_,_,_,_,_,_,rfl,s8.aB fP.arr λ r2 w9 s9=>s9.aB fP.arr λ r3 w10 s10=>s10.aC 1 rfl SA.arr.toList rfl (by simp[Se.arr,Value.oneCell']) λ w11 s11=>s11.aC 0 rfl SB.arr.toList rfl (by simp[Se.arr,Value.oneCell']) λ w12 s12=>?_⟩;have s12:St w w12 (Sep (ai r3 SB.arr 34 :: ai r2 SA.arr 34 :: held SB.In :: held SA.In :: Z)):=s12;refine an (Fw (s12.out 5 rfl) hok) ?_;rintro _ w13 ⟨p3,K1,rfl,e1,hp3,k13⟩;let H1:World->Prop:=λ w=>∀ g,p3=some ⟨g,0,none⟩->K1.Rd g w;have s13:St w w13 (Sep (held H1 :: ai r3 SB.arr 34 :: ai r2 SA.arr 34 :: held SB.In :: held SA.In :: Z)):=s12.and k13;refine⟨_,rfl,an (Fw (s13.out 5 rfl) hok2) ?_⟩;rintro _ w14 ⟨p4,K2,rfl,e2,hp4,k14⟩;let H2:World->Prop:=λ w=>∀ g,p4=some ⟨g,0,none⟩->K2.Rd g w;let Y:List aG:=held H2 :: held H1 :: ai r3 SB.arr 34 :: ai r2 SA.arr 34 :: held SB.In :: held SA.In :: Z;have s14:St w w14 (Sep Y):=s13.and k14;have ebA:SA.bd=S.s.bd:=show SA.er.bd=S.s.bd by rw[eA]
 have epA:SA.ps=S.s.ps:=show SA.er.ps=S.s.ps by rw[eA]
 have ebB:SB.bd=S2.s.bd:=show SB.er.bd=S2.s.bd by rw[eB]
 have epB:SB.ps=S2.s.ps:=show SB.er.ps=S2.s.ps by rw[eB]
 refine⟨_,rfl,λ b w'=>(b=false->S.ph≠0/\S2.ph≠0/\vw<(S.s.bd.length:Int)/\S.s.bd.length=S2.s.bd.length)/\St w w' (Sep Y),?_,an (yo (s14.out 7 rfl)) ?_⟩
 rotate_left
 ·rintro _ w15 ⟨rfl,rfl⟩;refine⟨_,rfl,?_⟩
  by_cases g1:S.ph=0
  ·exact cT (by simpa using g1) ⟨λ h=>(by cases h),s14⟩
  refine cF (by simpa using g1) (an (yo (s14.out 6 rfl)) ?_);rintro _ w16 ⟨rfl,rfl⟩;refine⟨_,rfl,?_⟩
  by_cases g2:S2.ph=0
  ·exact cT (by simpa using g2) ⟨λ h=>(by cases h),s14⟩
  refine cF (by simpa using g2) ⟨_,_,_,s14.ag 3 rfl 1,?_⟩
  by_cases g3:vw>=(SA.bd.length:Int)
  ·exact cT (dT g3) ⟨λ h=>(by cases h),s14⟩
  refine cF (dF g3) ⟨_,_,_,s14.ag 3 rfl 1,_,_,_,s14.ag 2 rfl 1,?_⟩
  by_cases g4:SA.bd.length=SB.bd.length
  rotate_left
  ·exact cT (by simpa using λ h=>g4 (by omega)) ⟨λ h=>(by cases h),s14⟩
  refine cF (by simp[g4]) ⟨_,_,_,s14.ag 3 rfl 0,_,_,_,s14.ag 2 rfl 0,λ _=>⟨g1,g2,?_,?_⟩,s14⟩
  ·rw[<- ebA]; omega
  ·rw[<- ebA,<- ebB]; exact g4
 rintro w15 b ⟨hb,s15⟩ -
 cases b with
 | true=>exact cT rfl (gW aw s15.aA)
 | false =>
 obtain⟨h0,h02,hv1,hbb⟩:=hb rfl;obtain⟨g1,rfl⟩:=hp3 h0;obtain⟨g2,rfl⟩:=hp4 h02;have hK1:=uI hok h0 e1;have hK2:=uI hok2 h02 e2;have r1d:∀ {w'},St w w' (Sep Y)->K1.Rd g1 w':=λ q=>(q.aP 1 rfl:H1 _) g1 rfl;have r2d:∀ {w'},St w w' (Sep Y)->K2.Rd g2 w':=λ q=>(q.aP 0 rfl:H2 _) g2 rfl;have es1:K1.s.bd.length=S.s.bd.length:=by
  have h2:=hok.cs h0;rw[<- e1] at h2;rw[jQ (show K1.s.er=S.s.er from h2)]
 have es2:K2.s.bd.length=S2.s.bd.length:=by
  have h2:=hok2.cs h02;rw[<- e2] at h2;rw[jQ (show K2.s.er=S2.s.er from h2)]
 refine cF rfl ⟨λ b w'=>b=false/\St w w' (Sep Y),?_,cF rfl ⟨rfl,s15⟩⟩;rintro w16 b ⟨rfl,s16⟩ -;refine cF rfl ⟨λ b w'=>(b=false->S.ph=S2.ph/\K1.cl.length=K2.cl.length/\K1.p=K2.p/\dA K1 vw=dA K2 vw)/\St w w' (Sep Y),?_,an (yo (s16.out 7 rfl)) ?_⟩
 rotate_left
 ·rintro _ w17 ⟨rfl,rfl⟩;refine⟨_,rfl,an (yo (s16.out 6 rfl)) ?_⟩;rintro _ w18 ⟨rfl,rfl⟩;refine⟨_,rfl,?_⟩
  by_cases q1:S.ph=S2.ph
  rotate_left
  ·exact cT (by simpa using q1) ⟨λ h=>(by cases h),s16⟩
  refine cF (by simp[q1]) (an (vg (r1d s16)) ?_);rintro _ w19 ⟨rfl,rfl⟩;refine⟨_,rfl,an (vg (r2d s16)) ?_⟩;rintro _ w20 ⟨rfl,rfl⟩;refine⟨_,rfl,?_⟩
  by_cases q2:K1.cl.length=K2.cl.length
  rotate_left
  ·exact cT (by simpa using λ h=>q2 (by omega)) ⟨λ h=>(by cases h),s16⟩
  refine cF (by simp[q2]) (an (rE (r1d s16)) ?_);rintro _ w21 ⟨rfl,c21⟩;have s21:=s16.quiet c21;refine⟨K1.p,rfl,an (rE (r2d s21)) ?_⟩;rintro _ w22 ⟨rfl,c22⟩;have s22:=s21.quiet c22;refine⟨K2.p,rfl,?_⟩;rw[I6.beq_eq]
  by_cases q3:K1.p=K2.p
  rotate_left
  ·exact cT (by simpa using q3) ⟨λ h=>(by cases h),s22⟩
  refine cF (by simp[q3]) (an (nu (r1d s22) hK1 (n:=vw) (by omega)) ?_);rintro _ w23 ⟨a6,c6,rfl,k23⟩;have s23:St w w23 (Sep (O9 a6 c6 (dA K1 vw) :: Y)):=s22.and k23;refine⟨_,_,_,rfl,an (nu ((s23.aP 1 rfl:H2 _) g2 rfl) hK2 (n:=vw) (by omega)) ?_⟩;rintro _ w24 ⟨a7,c7,rfl,k24⟩;have s24:St w w24 (Sep (O9 a7 c7 (dA K2 vw) :: O9 a6 c6 (dA K1 vw) :: Y)):=s23.and k24;have hcl:=Ft K1 vw;have hc30:=hK1.cl;refine⟨_,_,_,rfl,an (J4 (St.rd Ch.len (s24.out 1 rfl)) (St.rd Ch.len (s24.out 0 rfl)) (by omega)) ?_⟩;rintro _ w25 ⟨⟨bb,rfl,hbb'⟩,c25⟩;have s25:St w w25 (Sep Y):=(s24.quiet c25).second.second;refine⟨bb,rfl,λ hh=>⟨q1,q2,q3,hbb'.1 (by cases bb; cases hh; rfl)⟩,s25⟩
 rintro w17 b ⟨hb,s17⟩ -
 cases b with
 | true=>exact cT rfl (gW aw s17.aA)
 | false =>
 obtain⟨q1,q2,q3,q4⟩:=hb rfl;have hb8:=VK hok;have hb8':=VK hok2;have eg1:aW K1.cl=aW C.cl:=by rw[<- e1]; exact(iL K1.cl).symm
 have eg2:aW K2.cl=aW C2.cl:=by rw[<- e2]; exact(iL K2.cl).symm
 obtain⟨hgl,hgb⟩:=zF hok h0;obtain⟨hgl2,hgb2⟩:=zF hok2 h02;have s18:=s17.quiet (Chg.drew _ _);refine cF rfl ⟨λ r4 w'=>∃ vp:Vw,vp.er=UP 1 0 z6 [] (aW K1.cl) SA.ps (SA.bd.map Br.nm) (bS kind vw)/\St w w' (Sep (ai r4 vp.vals.toArray 51 :: held vp.Rd :: Y)),?_,Yi (ix:=3) s18 hK1 rfl r1d (λ q=>q.aP 5 rfl) (by rw[eg1]; omega) (by rw[eg1]; exact λ u hu j hj=>by have:=hgb u hu j hj; omega) (by rw[epA]; exact OG hok h0) (by rw[ebA]; omega) hk (by omega) λ r w' v ev q=>⟨v,ev,q⟩⟩
 rintro w19 r4 ⟨vp,evp,s19⟩ -;have s20:=s19.quiet (Chg.drew _ _);refine⟨λ r5 w'=>∃ vq:Vw,vq.er=UP 1 0 z6 [] (aW K2.cl) SB.ps (SB.bd.map Br.nm) (bS kind vw)/\St w w' (Sep (ai r5 vq.vals.toArray 51 :: held vq.Rd :: ai r4 vp.vals.toArray 51 :: held vp.Rd :: Y)),?_,Yi (ix:=4) s20 hK2 rfl (λ q=>r2d q.second.second) (λ q=>q.aP 6 rfl) (by rw[eg2]; omega) (by rw[eg2]; exact λ u hu j hj=>by have:=hgb2 u hu j hj; omega) (by rw[epB]; exact OG hok2 h02) (by rw[ebB]; omega) hk (by omega) λ r w' v ev q=>⟨v,ev,q⟩⟩
 rintro w21 r5 ⟨vq,evq,s21⟩ -;obtain⟨m1,m2,m3⟩:=Rg evp (by rw[eg1]; omega) (by rw[List.length_map,ebA]; omega);refine⟨vp.ph,vp.rd,vp.pr,vp.ex,_,_,_,_,_,_,_,_,_,s21.cellsIn 2 rfl,vq.ph,vq.rd,vq.pr,vq.ex,_,_,_,_,_,_,_,_,_,s21.cellsIn 0 rfl,an (vQ (v1:=vp) (v2:=vq) (s21.aP 3 rfl) (s21.aP 1 rfl) m1 m2 m3) ?_⟩;rintro _ w22 ⟨⟨b9,rfl,h9⟩,c22⟩;have s22:=s21.quiet c22;refine⟨b9,rfl,?_⟩
 cases b9 with
 | false=>exact cT rfl (gW aw s22.aA)
 | true =>
 have hh:=h9.1 rfl;rw[evp,evq,eg1,epA,ebA,eg2,epB,ebB] at hh;have hE:o8 S kind vw=0:=by unfold o8; rw[if_neg (by omega),if_neg (by omega),if_neg h0]
 have hE2:o8 S2 kind vw=0:=by unfold o8; rw[if_neg (by omega),if_neg (by omega),if_neg h02]
 let X:List aG:=ai r5 vq.vals.toArray 51 :: held vq.Rd :: ai r4 vp.vals.toArray 51 :: held vp.Rd :: Y;have s22:St w w22 (Sep X):=s22;refine cF rfl (an (qH (s22.out 11 rfl) hok kind vw) ?_);rintro _ w23 ⟨v,rfl,ev,k23⟩;have s23:St w w23 (Sep (held v.Rd :: X)):=s22.and k23;obtain⟨n1,n2,n3⟩:=R9 hok ev;refine⟨v.ph,v.rd,v.pr,v.ex,_,_,_,_,_,_,_,_,_,_,rfl,s23.aB lT.vals.toArray λ r6 w24 s24=>s24.aC 0 rfl v.vals rfl v.one λ w25 s25=>?_⟩;have s25:St w w25 (Sep (ai r6 v.vals.toArray 44 :: held v.Rd :: X)):=s25;refine an (qH (s25.out 12 rfl) hok2 kind vw) ?_;rintro _ w26 ⟨v',rfl,ev',k26⟩;have s26:St w w26 (Sep (held v'.Rd :: ai r6 v.vals.toArray 44 :: held v.Rd :: X)):=s25.and k26;refine⟨v'.ph,v'.rd,v'.pr,v'.ex,_,_,_,_,_,_,_,_,_,_,rfl,s26.aB lT.vals.toArray λ r7 w27 s27=>s27.aC 0 rfl v'.vals rfl v'.one λ w28 s28=>?_⟩;have s28:St w w28 (Sep (ai r7 v'.vals.toArray 44 :: held v'.Rd :: ai r6 v.vals.toArray 44 :: held v.Rd :: X)):=s28;have s29:=s28.quiet (Chg.drew _ _);refine cT (by rw[hE]; rfl) (cT (by rw[hE2]; rfl) (W8 s29 2 0 rfl rfl (s29.aP 3 rfl) (s29.aP 1 rfl) n1 n2 n3 λ bb w' hbb' hc=>?_));rw[if_pos hE] at ev;rw[if_pos hE2] at ev';have x0:S.ph=S2.ph:=q1;have x1:C.cl.length=C2.cl.length:=by rw[<- e1,<- e2,tT,tT]; exact q2
 have x2:C.p=C2.p:=by rw[<- e1,<- e2]; exact q3
 have x3:jf S C (bS kind vw)=jf S2 C2 (bS kind vw):=congrArg Vw.ex hh;have x4:dA C vw=dA C2 vw:=by rw[<- zB e1,<- zB e2]; exact q4
 have x5:wN C (bS kind vw)=wN C2 (bS kind vw):=congrArg Vw.dm hh;have x6:sE S (bS kind vw)=sE S2 (bS kind vw):=congrArg Vw.nm hh;have hbb':=hbb'.2 (by rw[ev,ev']; unfold EF; rw[x0,x1,x2,x3,x4,x5,x6]);subst hbb';exact cT rfl (gW aw (s29.quiet hc).aA)

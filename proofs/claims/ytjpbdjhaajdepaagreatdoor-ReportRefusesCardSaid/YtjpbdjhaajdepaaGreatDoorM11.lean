import Derived.Test.YtjpbdjhaajdepaaGreatDoorProg
import Derived.KernelRfl
import Derived.Test.YtjpbdjhaajdepaaGreatDoorM02
import Derived.Test.YtjpbdjhaajdepaaGreatDoorM04
import Derived.Test.YtjpbdjhaajdepaaGreatDoorM08
import Derived.Test.YtjpbdjhaajdepaaGreatDoorM09
import Derived.Test.YtjpbdjhaajdepaaGreatDoorM10
set_option linter.unusedVariables false
set_option maxRecDepth 100000
namespace Go.Proofs.YtjpbdjhaajdepaaGreatDoor
open Go Go.Vc Tryz
def I6.of(f:Nat->Int):I6:=⟨f 0,f 1,f 2,f 3,f 4,f 5⟩
theorem I6.yS(f:Nat->Int)(k:Nat)(hk:k<6):(I6.of f).at' k=f k:=by
  match k,hk with
  | 0,_ | 1,_ | 2,_ | 3,_ | 4,_ | 5,_=>rfl
def Eu(l:List I6)(k:Nat):Int:=l.foldl (λ s u=>s+u.at' k) 0
def gZ(l:List I6):I6:=I6.of (Eu l)
theorem I5(l:List I6)(u:I6)(k:Nat):Eu (l++[u]) k=Eu l k+u.at' k:=by simp[Eu]
theorem I4(l:List I6)(u:I6):gZ (l++[u])=(gZ l).zip (· + ·) u:=by
  refine I6.ext' λ k hk=>?_;rw[I6.jC _ _ _ _ hk,gZ,I6.yS _ _ hk,gZ,I6.yS _ _ hk,I5]
theorem CD{B:Int}{l:List I6}(h:∀ u∈l,I6.Le u B)(k:Nat)(hk:k<6):0<=Eu l k/\Eu l k<=B*l.length:=by
  suffices H:∀ (l:List I6) (s:Int),(∀ u∈l,I6.Le u B)->s<=l.foldl (λ s u=>s+u.at' k) s/\l.foldl (λ s u=>s+u.at' k) s<=s+B*l.length by
    have:=H l 0 h;unfold Eu; omega
  intro l
  induction l with
  | nil=>intro s _; simp
  | cons u l ih =>
    intro s hl;have h1:=hl u (by simp) k hk;have h2:=ih (s+u.at' k) λ v hv=>hl v (by simp[hv]);simp only[List.foldl_cons,List.length_cons];rw[Int.natCast_add,Int.mul_add];omega
def tE(a b:I6):I6:=a.zip (λ x y=>if x>y then x-y else 0) b
abbrev Jq (w:World) (a:OA) (l:List I6):Prop:=cN 6 I6.vs w a l
theorem A8{w:World}{a:OA}{c:Nat}{l:List I6}(h:Jq w a l)(hb:∀ u∈l,I6.Le u 1000000)(hl:l.length<=1000) :
    CP 155 #[.slice a l.length c] w (λ r w'=>r=.agg (gZ l).vs.toArray/\aF w w' []):=by
  refine zB ?_;unfold we;refine(St.start w).one.aB z6.vs.toArray λ r1 w1 s1=>s1.aB z6.vs.toArray λ r2 w2 s2=>?_;refine⟨λ n w3 m=>∃ k:Nat,n=k/\k<=l.length/\m=l.length-k/\St w w3 (Sep [ah r2 (gZ (l.take k)).vs.toArray 244,ah r1 z6.vs.toArray 244,emp]),⟨l.length,0,rfl,by omega,by omega,s2⟩,?_⟩;rintro w3 m n ⟨k,rfl,hk,hm,s3⟩ -
  by_cases hlt:(k:Int)<(l.length:Int)
  · have hx:l[k]? = some (l[k]'(by omega)):=gE (by omega);generalize l[k]'(by omega)=x at hx;have hxm:=hb x (List.mem_of_getElem? hx);obtain⟨q,hq,hcl⟩:=(h.aC s3.aC).at hx;refine cT (by simpa using hlt) ?_;rw[hq];refine⟨by omega,by omega,x,hcl,s3.aB z6.vs.toArray λ r3 w4 s4=>s4.aD 0 rfl x.vs rfl (I6.one _) λ w5 s5=>?_⟩;refine⟨λ n w6 m=>∃ j:Nat,n=j/\j<=6/\m=6-j/\St w w6 (Sep [ah r3 x.vs.toArray 42,ah r2 (I6.mix j ((gZ (l.take k)).zip (· + ·) x) (gZ (l.take k))).vs.toArray 244,ah r1 z6.vs.toArray 244,emp]),⟨6,0,rfl,by omega,by omega,s5⟩,?_⟩;rintro w6 m6 n6 ⟨j,rfl,hj,hm6,s6⟩ -
    by_cases hlt6:(j:Int)<6
    · have hj' : j<6:=by omega
      have s7:=s6.quiet (aF.drew _ _);have hs:=CD (l:=l.take k) (B:=1000000) (λ u hu=>hb u (List.mem_of_mem_take hu)) j hj';have hx6:=hxm j hj';have hlen:(l.take k).length<=1000:=by simp; omega
      have e1:(gZ (l.take k)).at' j=Eu (l.take k) j:=I6.yS _ _ hj';refine cT (dT hlt6) ⟨by omega,by omega,(gZ (l.take k)).at' j,?_,by omega,by omega,x.at' j,?_,by omega,by omega,?_⟩
      · rw[hU,aN s7 1 rfl hj',I6.cI _ _ _ _ hj',if_neg (by omega)]
      · rw[hU,aN s7 0 rfl hj']
      · rw[hU,aG ⟨by omega,by omega⟩];refine s7.aJ 1 rfl hj' rfl λ w8 s8=>⟨6-(j+1),by omega,j+1,inc (by decide) hj',by omega,rfl,?_⟩;rw[show(gZ (l.take k)).at' j+x.at' j=((gZ (l.take k)).zip (· + ·) x).at' j by rw[I6.jC _ _ _ _ hj'],I6.gB _ _ _ hj'] at s8;exact s8
    · obtain rfl:j=6:=by omega
      refine cF (by simp) ⟨l.length-(k+1),by omega,k+1,aG ⟨by omega,by omega⟩,by omega,rfl,?_⟩;rw[aO hx,I4];exact s6.aA [1,2,3]
  · obtain rfl:k=l.length:=by omega
    rw[List.take_length] at s3;exact cF (by simp) ⟨_,s3.cellsIn 0 rfl,s3.aD 1 rfl (gZ l).vs rfl (I6.one _) λ w8 s8=>⟨_,s8.cellsIn 1 rfl,rfl,s8.aC⟩⟩
theorem Tt{w:World}{a:OA}{c:Nat}{l:List I6}(h:Jq w a l)(hb:∀ u∈l,I6.Le u 1000000)(hl:l.length<=1000) :
    CP 151 #[.slice a l.length c] w (λ r w'=>r=.agg (gZ l).vs.toArray/\aF w w' []):=by
  refine CL ?_;unfold A6;refine(St.start w).one.aB z6.vs.toArray λ r1 w1 s1=>au (A8 (h.aC s1.aC) hb hl) ?_;rintro v w2 ⟨rfl,c2⟩;exact⟨_,rfl,(s1.quiet c2).aD 0 rfl (gZ l).vs rfl (I6.one _) λ w8 s8=>⟨_,s8.cellsIn 0 rfl,rfl,s8.aC⟩⟩
theorem Rm(w:World)(u v:I6)(hu:I6.Le u 1000000000)(hv:I6.Le v 1000000000):CP 154 #[.agg u.vs.toArray,.agg v.vs.toArray] w (λ r w'=>r=.agg (tE u v).vs.toArray/\aF w w' []):=by
  refine zZ ?_;unfold zA;refine(St.start w).one.aB u.vs.toArray λ r1 w1 s1=>s1.aB v.vs.toArray λ r2 w2 s2=>s2.aB z6.vs.toArray λ r3 w3 s3=>s3.aB z6.vs.toArray λ r4 w4 s4=>?_;let I:Nat->World->Prop:=λ k w'=>St w w' (Sep [ah r4 (I6.mix k (tE u v) z6).vs.toArray 42,ah r3 z6.vs.toArray 42,ah r2 v.vs.toArray 244,ah r1 u.vs.toArray 244,emp]);refine⟨λ n w5 m=>∃ k:Nat,n=k/\k<=6/\m=6-k/\I k w5,⟨6,0,rfl,by omega,by omega,s4⟩,?_⟩;rintro w5 m n ⟨k,rfl,hk,hm,s5⟩ -
  by_cases hlt:(k:Int)<6
  · have hk' : k<6:=by omega
    have s6:=St.quiet s5 (aF.drew _ _);have s7:=s6.quiet (aF.drew _ _);have h1:=hu k hk';have h2:=hv k hk';have e:(tE u v).at' k=if u.at' k>v.at' k then u.at' k-v.at' k else 0:=I6.jC _ _ _ _ hk'
    refine cT (dT hlt) ⟨I (k+1),?_,by omega,by omega,u.at' k,by rw[hU,aN s6 3 rfl hk'],by omega,by omega,v.at' k,by rw[hU,aN s6 2 rfl hk'],?_⟩
    · rintro w6 s6 -;exact⟨6-(k+1),by omega,k+1,inc (by decide) hk',by omega,rfl,s6⟩
    · by_cases g:u.at' k>v.at' k
      · refine cT (dT g) ⟨by omega,by omega,u.at' k,by rw[hU,aN s7 3 rfl hk'],by omega,by omega,v.at' k,by rw[hU,aN s7 2 rfl hk'],by omega,by omega,?_⟩;rw[hU,aG ⟨by omega,by omega⟩];refine s7.aJ 0 rfl hk' rfl λ w8 s8=>?_;rw[if_pos g] at e;rw[<- e,I6.gB _ _ _ hk'] at s8;exact s8
      · refine cF (dF g) ?_;rw[if_neg g] at e;have:I6.mix (k+1) (tE u v) z6=I6.mix k (tE u v) z6:=by
          refine I6.ext' λ j hj=>?_;rw[I6.cI _ _ _ _ hj,I6.cI _ _ _ _ hj,uj]
          by_cases h3:j<k
          · rw[if_pos (by omega),if_pos h3]
          · rw[if_neg h3]
            split
            · obtain rfl:j=k:=by omega
              exact e
            · rfl
        show I (k+1) _;simp only[I];rw[this]; exact s6
  · obtain rfl:k=6:=by omega
    exact cF (by simp) ⟨_,St.cellsIn s5 0 rfl,St.aD s5 1 rfl (tE u v).vs rfl (I6.one _) λ w8 s8=>⟨_,s8.cellsIn 1 rfl,rfl,s8.aC⟩⟩
theorem OQ{l:List I6}(h:∀ u∈l,I6.Le u 1000000)(hl:l.length<=1000):I6.Le (gZ l) 1000000000:=λ k hk=>by
  have:=CD h k hk;rw[gZ,I6.yS _ _ hk];omega
theorem JY{w:World}{a:OA}{c:Nat}{l:List I6}(u:I6)(hu:I6.Le u 1000000000)(h:Jq w a l)(hb:∀ u∈l,I6.Le u 1000000)(hl:l.length<=1000) :
    CP 122 #[.agg u.vs.toArray,.slice a l.length c] w (λ r w'=>r=.agg (tE (gZ l) u).vs.toArray/\aF w w' []):=by
  refine wY ?_;unfold tZ;refine(St.start w).one.aB u.vs.toArray λ r1 w1 s1=>s1.aB z6.vs.toArray λ r2 w2 s2=>?_;have s3:=s2.quiet (aF.drew _ _);refine⟨_,s3.cellsIn 1 rfl,au (A8 (h.aC s3.aC) hb hl) ?_⟩;rintro v w3 ⟨rfl,c3⟩;have s4:=s3.quiet c3;refine⟨_,rfl,s4.cellsIn 1 rfl,au (Rm w3 _ _ (OQ hb hl) hu) ?_⟩;rintro v w4 ⟨rfl,c4⟩;exact⟨_,rfl,(s4.quiet c4).aD 0 rfl (tE (gZ l) u).vs rfl (I6.one _) λ w8 s8=>⟨_,s8.cellsIn 0 rfl,rfl,s8.aC⟩⟩
def qH(n:Int):Bool:=decide (0<=n)&&decide (n<=1000000)
theorem UL(w:World)(n:Int):CP 218 #[iv n] w (λ r w'=>r=.bool (qH n)/\w' = w):=by
  refine Bm ?_;unfold Ab
  by_cases h:n>=0
  · exact cT (dT h) ⟨by simp[qH,h],rfl⟩
  · exact cF (dF h) ⟨by simp[qH]; omega,rfl⟩
theorem Jt(w:World)(n:Int):CP 183 #[iv n] w (λ r w'=>r=iv (if qH n then 0 else 4)/\w' = w):=by
  refine wz ?_;unfold sC;refine au (UL w n) ?_;rintro v w1 ⟨rfl,rfl⟩;refine⟨_,rfl,?_⟩
  cases h:qH n with
  | true=>exact cF rfl ⟨rfl,rfl⟩
  | false=>exact cT rfl ⟨rfl,rfl⟩
def nS(p:I6):Bool:=p.l.all qH
theorem CN(w:World)(p:I6):CP 157 #[.agg p.vs.toArray] w (λ r w'=>r=.bool (nS p)/\aF w w' []):=by
  refine qz ?_;unfold kS;refine(St.start w).one.aB p.vs.toArray λ r1 w1 s1=>⟨p,s1.cellsIn 0 rfl,λ n w2 m=>∃ k:Nat,n=k/\k<=6/\m=6-k/\(p.l.take k).all qH=true/\w2=w1,⟨6,0,rfl,by omega,by omega,rfl,rfl⟩,?_⟩;rintro w2 m n ⟨k,rfl,hk,hm,ha,rfl⟩ -
  by_cases hlt:(k:Int)<6
  · have hk' : k<6:=by omega
    refine cT (dT hlt) ⟨by omega,by omega,_,p.get k hk',au (Jt w2 _) ?_⟩;rintro v w3 ⟨rfl,rfl⟩;refine⟨_,rfl,?_⟩
    cases hx:qH (p.at' k) with
    | true=>exact cF rfl ⟨6-(k+1),by omega,k+1,inc (by decide) hk',by omega,rfl,uu ha (p.nP k hk') hx,rfl⟩
    | false=>exact cT rfl ⟨by rw[nS,xG (p.nP k hk') hx],s1.aC⟩
  · obtain rfl:k=6:=by omega
    refine cF (by simp) ⟨?_,s1.aC⟩;rw[nS,show p.l.all qH=true from ha]
theorem tG{p:I6}:nS p=true<->I6.Le p 1000000:=by
  constructor
  · intro h k hk;have:=List.all_eq_true.1 h _ (List.mem_of_getElem? (p.nP k hk));simpa[qH] using this
  · intro h;have h0:=h 0 (by decide); have h1:=h 1 (by decide); have h2:=h 2 (by decide); have h3:=h 3 (by decide); have h4:=h 4 (by decide); have h5:=h 5 (by decide);simp only[I6.at'] at h0 h1 h2 h3 h4 h5;simp[nS,I6.l,qH,h0,h1,h2,h3,h4,h5]
structure Po where
  step:Int
  pct:Int
  und:Int
  rule:Int
def Po.cells(o:Po):List Value:=[iv o.step,iv o.pct,iv o.und,iv o.rule]
def Po.v(o:Po):Value:=.agg o.cells.toArray
def Po.ok(o:Po):Prop:=1<=o.step/\o.step<=1000000/\0<=o.pct/\o.pct<=100/\1<=o.und/\o.und<=3/\1<=o.rule/\o.rule<=3
instance (o:Po):Decidable o.ok:=by unfold Po.ok; infer_instance
def oV(o:Po):Int:=if o.ok then 0 else 4
theorem uT(w:World)(o:Po):CP 89 #[o.v] w (λ r w'=>r=iv (oV o)/\aF w w' []):=by
  refine qw ?_;unfold kQ;refine(St.start w).one.aB o.cells.toArray λ r1 w1 s1=>?_;refine⟨λ b w2=>w2=w1/\(b=true<->¬ o.ok),?_,?_⟩
  · rintro w2 b ⟨rfl,hb⟩ -
    by_cases h:o.ok
    · obtain rfl:b=false:=by
        cases b with
        | false=>rfl
        | true=>exact absurd h (hb.1 rfl)
      exact cF rfl ⟨by rw[oV,if_pos h],s1.aC⟩
    · obtain rfl:=hb.2 h;exact cT rfl ⟨by rw[oV,if_neg h],s1.aC⟩
  have bad : ¬ o.ok->(true=true<->¬ o.ok):=λ h=>⟨λ _=>h,λ _=>rfl⟩;refine⟨_,s1.ag 0 rfl 0,?_⟩
  by_cases g1:o.step<1
  · exact cT (dT g1) ⟨rfl,bad λ h=>by unfold Po.ok at h; omega⟩
  refine cF (dF g1) ⟨_,s1.ag 0 rfl 0,?_⟩
  by_cases g2:o.step>1000000
  · exact cT (dT g2) ⟨rfl,bad λ h=>by unfold Po.ok at h; omega⟩
  refine cF (dF g2) ⟨_,s1.ag 0 rfl 1,?_⟩
  by_cases g3:o.pct<0
  · exact cT (dT g3) ⟨rfl,bad λ h=>by unfold Po.ok at h; omega⟩
  refine cF (dF g3) ⟨_,s1.ag 0 rfl 1,?_⟩
  by_cases g4:o.pct>100
  · exact cT (dT g4) ⟨rfl,bad λ h=>by unfold Po.ok at h; omega⟩
  refine cF (dF g4) ⟨_,s1.ag 0 rfl 2,?_⟩
  by_cases g5:o.und<1
  · exact cT (dT g5) ⟨rfl,bad λ h=>by unfold Po.ok at h; omega⟩
  refine cF (dF g5) ⟨_,s1.ag 0 rfl 2,?_⟩
  by_cases g6:o.und>3
  · exact cT (dT g6) ⟨rfl,bad λ h=>by unfold Po.ok at h; omega⟩
  refine cF (dF g6) ⟨_,s1.ag 0 rfl 3,?_⟩
  by_cases g7:o.rule<1
  · exact cT (dT g7) ⟨rfl,bad λ h=>by unfold Po.ok at h; omega⟩
  refine cF (dF g7) ⟨_,s1.ag 0 rfl 3,rfl,?_⟩;rw[decide_eq_true_eq];unfold Po.ok;omega
def jw(l:List Pr):I6:=I6.N4 (l.map Pr.res)
theorem vq(l:List Pr)(k:Nat)(hk:k<6):(jw l).at' k=(l.map Pr.res).getD k 0:=by
  match k,hk with
  | 0,_ | 1,_ | 2,_ | 3,_ | 4,_ | 5,_=>rfl
theorem CB{w:World}{a:OA}{c:Nat}{l:List Pr}(h:eB w a l)(hl:l.length<=6)(hc:l.length<=c) :
    CP 113 #[.slice a l.length c] w (λ r w'=>r=.agg (jw l).vs.toArray/\aF w w' []):=by
  refine qx ?_;unfold kR;have e:(if (6:Int)<((l.length:Nat):Int) then (6:Int) else ((l.length:Nat):Int))=(l.length:Int):=by rw[if_neg (by omega)]
  rw[e,Lt,Int.toNat_natCast,Nat.sub_zero];refine(St.start w).one.aB z6.vs.toArray λ r1 w1 s1=>s1.aB z6.vs.toArray λ r2 w2 s2=>⟨by omega,by omega,?_⟩;refine⟨λ n w3 m=>∃ k:Nat,n=k/\k<=l.length/\m=l.length-k/\St w w3 (Sep [ah r2 (I6.mix k (jw l) z6).vs.toArray 73,ah r1 z6.vs.toArray 73,emp]),⟨l.length,0,rfl,by omega,by omega,s2⟩,?_⟩;rintro w3 m n ⟨k,rfl,hk,hm,s3⟩ -
  by_cases hlt:(k:Int)<(l.length:Int)
  · have hx:l[k]? = some (l[k]'(by omega)):=gE (by omega);generalize l[k]'(by omega)=x at hx;obtain⟨_,q,hq,hcl⟩:=(h.aC s3.aC) k x hx;have h6:k<6:=by omega
    refine cT (by simpa using hlt) ?_;rw[hq];refine⟨by omega,by omega,_,_,_,_,_,hcl,aK ?_⟩;refine(s3.cD _ 121).aD 0 rfl x.cells rfl x.one λ w6 s6=>⟨_,s6.ag 0 rfl 2,by omega,by omega,?_⟩;rw[hU];refine s6.aJ 1 rfl h6 rfl λ w7 s7=>⟨l.length-(k+1),by omega,k+1,aG ⟨by omega,by omega⟩,by omega,rfl,?_⟩;have e1:x.res=(jw l).at' k:=by rw[vq l k h6]; simp[List.getElem?_map,hx]
    rw[e1,I6.gB _ _ _ h6] at s7;exact s7.aA [1,2,3]
  · obtain rfl:k=l.length:=by omega
    have hcn:I6.mix l.length (jw l) z6=jw l:=by
      refine I6.ext' λ j hj=>?_;rw[I6.cI _ _ _ _ hj,uj]
      split
      · rfl
      · rw[vq l j hj,List.getD_eq_getElem?_getD,List.getElem?_eq_none (by simp; omega)]; rfl
    rw[hcn] at s3;exact cF (by simp) ⟨_,s3.cellsIn 0 rfl,s3.aD 1 rfl (jw l).vs rfl (I6.one _) λ w8 s8=>⟨_,s8.cellsIn 1 rfl,rfl,s8.aC⟩⟩
def FL(o:Po)(p:Int):Int:=p+o.step+(p*o.pct+99) / 100
theorem Ol{w0 w:World}{l:List aI}{o:Po}(ho:o.ok){p:Int}(hp:0<=p/\p<=1000000){r:Nat}{T:TypeId}(s:St w0 w (Sep l))(i:Nat)(e:l[i]? = some (ah r o.cells.toArray T)) :
    CP 182 #[iv p,.pointer (some ⟨r,0,none⟩)] w (λ v w'=>v=iv (FL o p)/\w' = w):=by
  refine l9 ⟨_,s.ag i e 0,_,s.ag i e 1,by decide,?_,rfl⟩;obtain⟨h1,h2,h3,h4,_⟩:=ho;have h5:0<=p*o.pct:=Int.mul_nonneg hp.1 h3;have h6:p*o.pct<=1000000*100:=Int.le_trans (Int.mul_le_mul_of_nonneg_left h4 hp.1) (Int.mul_le_mul_of_nonneg_right hp.2 (by omega));have h7:Int.tdiv (p*o.pct+99) 100=(p*o.pct+99) / 100:=Int.tdiv_eq_ediv_of_nonneg (by omega);rw[aG (n:=p+o.step) ⟨by omega,by omega⟩,aG (n:=p*o.pct) ⟨by omega,by omega⟩,aG (n:=p*o.pct+99) ⟨by omega,by omega⟩,h7,aG (n:=(p*o.pct+99) / 100) ⟨by omega,by omega⟩,aG ⟨by omega,by omega⟩];rfl
def bK(o:Po)(p ex:I6):I6:=p.zip (λ x n=>if n>0 then FL o x else x) ex
def vT(o:Po)(p ex:I6):I6×Int:=if bK o p ex≠p/\nS (bK o p ex)=false then (z6,4) else (bK o p ex,0)
theorem KJ(w:World){o:Po}(ho:o.ok){p:I6}(hp:nS p=true)(ex:I6):CP 123 #[o.v,.agg p.vs.toArray,.agg ex.vs.toArray] w (λ r w'=>r=.tuple #[.agg (vT o p ex).1.vs.toArray,iv (vT o p ex).2]/\aF w w' []):=by
  refine rF ?_;unfold mX;have hle:=tG.1 hp;refine(St.start w).one.aB o.cells.toArray λ r1 w1 s1=>s1.aB p.vs.toArray λ r2 w2 s2=>s2.aB ex.vs.toArray λ r3 w3 s3=>s3.aB z6.vs.toArray λ r4 w4 s4=>?_;refine⟨_,_,_,_,s4.cellsIn 3 rfl,au (uT w4 o) ?_⟩;rintro v w5 ⟨rfl,c5⟩;have s5:=s4.quiet c5;have s6:=s5.quiet (aF.drew _ _);let L:Nat->Nat->I6->List aI:=λ b r out=>[ah r out.vs.toArray 73,ah b o.cells.toArray 24,ah r4 z6.vs.toArray 73,ah r3 ex.vs.toArray 42,ah r2 p.vs.toArray 73,emp];refine⟨_,rfl,cF (by rw[oV,if_pos ho]; rfl) ⟨λ v r w'=>∃ b,v=.func (.func 182) #[] #[.pointer (some ⟨b,0,none⟩)]/\St w w' (Sep (L b r p)),?_,?_⟩⟩
  · rintro w7 v r5 ⟨b,rfl,s7⟩ -;refine⟨ex,s7.cellsIn 3 rfl,λ n w8 m=>∃ k:Nat,n=k/\k<=6/\m=6-k/\St w w8 (Sep (L b r5 (I6.mix k (bK o p ex) p))),⟨6,0,rfl,by omega,by omega,s7⟩,?_⟩;rintro w8 m n ⟨k,rfl,hk,hm,s8⟩ -
    by_cases hlt:(k:Int)<6
    · have hk' : k<6:=by omega
      have er:(bK o p ex).at' k=if ex.at' k>0 then FL o (p.at' k) else p.at' k:=I6.jC _ _ _ _ hk'
      refine cT (dT hlt) ⟨λ w9=>St w w9 (Sep (L b r5 (I6.mix (k+1) (bK o p ex) p))),?_,by omega,by omega,_,ex.get k hk',λ g w10=>g=decide (ex.at' k>0)/\St w w10 (Sep (L b r5 (I6.mix k (bK o p ex) p))),?_,?_⟩
      · rintro w9 s9 -;exact⟨6-(k+1),by omega,k+1,inc (by decide) hk',by omega,rfl,s9⟩
      · rintro w10 g ⟨rfl,s10⟩ -
        by_cases hg:ex.at' k>0
        · refine cT (dT hg) ⟨by omega,by omega,p.at' k,by rw[hU,aN s10 4 rfl hk'],bF (by kernel_rfl) (au (Ol ho (hle k hk') s10 1 rfl) ?_)⟩;rintro v w11 ⟨rfl,rfl⟩;refine⟨_,rfl,by omega,by omega,?_⟩;rw[hU];refine s10.aJ 0 rfl hk' rfl λ w12 s12=>?_;rw[if_pos hg] at er;rw[<- er,I6.gB _ _ _ hk'] at s12;exact s12
        · refine cF (dF hg) ?_;rw[if_neg hg] at er;have:I6.mix (k+1) (bK o p ex) p=I6.mix k (bK o p ex) p:=by
            refine I6.ext' λ j hj=>?_;rw[I6.cI _ _ _ _ hj,I6.cI _ _ _ _ hj]
            by_cases h3:j<k
            · rw[if_pos (by omega),if_pos h3]
            · rw[if_neg h3]
              split
              · obtain rfl:j=k:=by omega
                exact er
              · rfl
          rw[this]; exact s10
      · by_cases hg:ex.at' k>0
        · refine cT (dT hg) ⟨_,s8.cellsIn 4 rfl,au (CN w8 p) ?_⟩;rintro v w13 ⟨rfl,c13⟩;exact⟨_,rfl,by rw[hp,dT hg],s8.quiet c13⟩
        · exact cF (dF hg) ⟨by rw[dF hg],s8⟩
    · obtain rfl:k=6:=by omega
      refine cF (by simp) ⟨λ g w14=>g=decide (bK o p ex≠p/\nS (bK o p ex)=false)/\St w w14 (Sep (L b r5 (bK o p ex))),?_,p,s8.cellsIn 4 rfl,au (CN w8 p) ?_⟩
      · rintro w14 g ⟨rfl,s14⟩ -
        by_cases hg:bK o p ex≠p/\nS (bK o p ex)=false
        · refine cT (dT hg) (s14.aD 2 rfl z6.vs rfl (I6.one _) λ w15 s15=>⟨_,s15.cellsIn 2 rfl,?_,s15.aC⟩);rw[vT,if_pos hg]
        · refine cF (dF hg) ⟨_,s14.cellsIn 0 rfl,s14.aD 2 rfl (bK o p ex).vs rfl (I6.one _) λ w15 s15=>⟨_,s15.cellsIn 2 rfl,?_,s15.aC⟩⟩;rw[vT,if_neg hg]
      · rintro v w17 ⟨rfl,c17⟩;have s17:=s8.quiet c17;refine⟨_,rfl,cF (by rw[hp]; rfl) ⟨_,s17.cellsIn 0 rfl,_,s17.cellsIn 4 rfl,?_⟩⟩;rw[I6.B6,I6.beq_eq]
        by_cases hne:bK o p ex=p
        · exact cF (by simp[hne]) ⟨by simp[hne],s17⟩
        · refine cT (by simp[hne]) ⟨_,s17.cellsIn 0 rfl,au (CN w17 _) ?_⟩;rintro v w18 ⟨rfl,c18⟩;refine⟨_,rfl,?_,s17.quiet c18⟩;rw[I6.B6]
          cases nS (bK o p ex)<;>simp[hne]
  · refine⟨_,_,_,_,s6.cellsIn 3 rfl,p,s6.cellsIn 2 rfl,?_,?_⟩
    · refine au (K:=λ v w'=>∃ b,v=.func (.func 182) #[] #[.pointer (some ⟨b,0,none⟩)]/\St w w' (Sep (ah b o.cells.toArray 24 :: [ah r4 z6.vs.toArray 73,ah r3 ex.vs.toArray 42,ah r2 p.vs.toArray 73,ah r1 o.cells.toArray 24,emp]))) (gK ?_) ?_
      · exact s6.aB o.cells.toArray λ b w' s'=>⟨b,rfl,s'⟩
      · rintro v w19 ⟨b,rfl,s19⟩;refine⟨_,rfl,s19.cellsIn 3 rfl,s19.aB z6.vs.toArray λ r6 w20 s20=>⟨s20.cellsIn 4 rfl,s20.aD 0 rfl p.vs rfl (I6.one _) λ w21 s21=>⟨b,rfl,s21.aA [0,1,2,3,4,6]⟩⟩⟩
    · refine s6.aB z6.vs.toArray λ r7 w22 s22=>⟨s22.cellsIn 3 rfl,s22.cellsIn 4 rfl,?_⟩;refine au (K:=λ v w'=>∃ b,v=.func (.func 182) #[] #[.pointer (some ⟨b,0,none⟩)]/\St w w' (Sep (ah b o.cells.toArray 24 :: [ah r7 z6.vs.toArray 73,ah r4 z6.vs.toArray 73,ah r3 ex.vs.toArray 42,ah r2 p.vs.toArray 73,ah r1 o.cells.toArray 24,emp]))) (gK ?_) ?_
      · exact s22.aB o.cells.toArray λ b w' s'=>⟨b,rfl,s'⟩
      · rintro v w23 ⟨b,rfl,s23⟩;exact⟨_,rfl,s23.cellsIn 4 rfl,s23.aD 1 rfl p.vs rfl (I6.one _) λ w24 s24=>⟨b,rfl,s24.aA [1,0,2,3,4,6]⟩⟩
def gV(a:OA)(b c:Nat)(w:World)(K:KP):Prop:=cond (a).isNone (K (.slice none 0 0) w) (av w (.cells #[] 121) λ d e=>bg prog (Builtin.append_ #[63,63] 63 #[.slice (some ⟨d,0,none⟩) 0 0,.slice a b c]) e λ a b=>∃ c d e,a=(.slice c d e)/\K (.slice c d e) b)
theorem lH{a1 l1 c1 w K}(h:gV a1 l1 c1 w K):CP 43 #[.slice a1 l1 c1] w (K):=an (aH []) func43 (by kernel_rfl) (by kernel_rfl) h
def iB(a:OA)(b c:Nat)(w:World)(K:KP):Prop:=cond (a).isNone (K (.slice none 0 0) w) (av w (.cells #[] 79) λ d e=>bg prog (Builtin.append_ #[64,64] 64 #[.slice (some ⟨d,0,none⟩) 0 0,.slice a b c]) e λ a b=>∃ c d e,a=(.slice c d e)/\K (.slice c d e) b)
theorem mH{a1 l1 c1 w K}(h:iB a1 l1 c1 w K):CP 44 #[.slice a1 l1 c1] w (K):=an (aH []) func44 (by kernel_rfl) (by kernel_rfl) h
def lG(a:OA)(b c:Nat)(w:World)(K:KP):Prop:=cond (a).isNone (K (.slice none 0 0) w) (av w (.cells #[] 125) λ d e=>bg prog (Builtin.append_ #[65,65] 65 #[.slice (some ⟨d,0,none⟩) 0 0,.slice a b c]) e λ a b=>∃ c d e,a=(.slice c d e)/\K (.slice c d e) b)
theorem qD{a1 l1 c1 w K}(h:lG a1 l1 c1 w K):CP 45 #[.slice a1 l1 c1] w (K):=an (aH []) func45 (by kernel_rfl) (by kernel_rfl) h
def ju(a:OA)(b c:Nat)(w:World)(K:KP):Prop:=cond (a).isNone (K (.slice none 0 0) w) (av w (.cells #[] 128) λ d e=>bg prog (Builtin.append_ #[66,66] 66 #[.slice (some ⟨d,0,none⟩) 0 0,.slice a b c]) e λ a b=>∃ c d e,a=(.slice c d e)/\K (.slice c d e) b)
theorem nW{a1 l1 c1 w K}(h:ju a1 l1 c1 w K):CP 46 #[.slice a1 l1 c1] w (K):=an (aH []) func46 (by kernel_rfl) (by kernel_rfl) h
def iC(a:OA)(b c:Nat)(w:World)(K:KP):Prop:=cond (a).isNone (K (.slice none 0 0) w) (av w (.cells #[] 42) λ d e=>bg prog (Builtin.append_ #[74,74] 74 #[.slice (some ⟨d,0,none⟩) 0 0,.slice a b c]) e λ a b=>∃ c d e,a=(.slice c d e)/\K (.slice c d e) b)
theorem mI{a1 l1 c1 w K}(h:iC a1 l1 c1 w K):CP 150 #[.slice a1 l1 c1] w (K):=an (aH []) func150 (by kernel_rfl) (by kernel_rfl) h
theorem OG:fZ prog 74 42 (.agg z6.vs.toArray) 6 48:=fZ.mk' underlying74 (by kernel_rfl) rfl (by decide)
theorem cL(u:I6):u.vs.length=6:=rfl
abbrev AW (a:OA) (c:Nat) (l:List I6):aI:=bY 42 6 I6.vs a c l
theorem JH{w0 w:World}{B:aI}(s:St w0 w B){a:OA}{c:Nat}{l:List I6}(h:Jq w a l)(hl:l.length<=1000) :
    CP 150 #[.slice a l.length c] w (λ r w'=>∃ a' c',r=.slice a' l.length c'/\St w0 w' (star (AW a' c' l) B)):=by
  refine mI ?_;unfold iC;exact oz (c:=c) (K:=λ r w'=>∃ a' c',r=.slice a' l.length c'/\St w0 w' (star (AW a' c' l) B)) OG cL I6.one s h (by omega) (by omega) λ a' c' w' s'=>⟨a',c',rfl,s'⟩
def IL(sup tot now ask:I6)(k:Nat):Bool:=decide (ask.at' k<now.at' k)&&decide (tot.at' k-now.at' k+ask.at' k<sup.at' k)
def js(sup tot now ask:I6):Bool:=(List.range 6).any (IL sup tot now ask)
theorem IM(w:World)(sup tot now ask:I6)(h1:I6.Le sup 1000000)(h2:I6.Le tot 1000000)(h3:I6.Le now 1000000)(h4:I6.Le ask 1000000) :
    CP 152 #[.agg sup.vs.toArray,.agg tot.vs.toArray,.agg now.vs.toArray,.agg ask.vs.toArray] w (λ r w'=>r=.bool (js sup tot now ask)/\aF w w' []):=by
  refine pL ?_;unfold kf;refine(St.start w).one.aB sup.vs.toArray λ r1 w1 s1=>s1.aB tot.vs.toArray λ r2 w2 s2=>s2.aB now.vs.toArray λ r3 w3 s3=>s3.aB ask.vs.toArray λ r4 w4 s4=>?_;refine⟨λ n w5 m=>∃ k:Nat,n=k/\k<=6/\m=6-k/\(∀ j,j<k->IL sup tot now ask j=false)/\aF w4 w5 [],⟨6,0,rfl,by omega,by omega,λ j hj=>by omega,aF.refl _ _⟩,?_⟩;rintro w5 m n ⟨k,rfl,hk,hm,ha,hc⟩ -
  by_cases hlt:(k:Int)<6
  · have hk' : k<6:=by omega
    have c5:aF w4 w5.drew []:=hc.trans (aF.drew w5 []) (by simp);have s5:=s4.quiet c5;have q1:=h1 k hk'; have q2:=h2 k hk'; have q3:=h3 k hk'; have q4:=h4 k hk';have ge1:=aN s5 3 rfl hk'; have ge2:=aN s5 2 rfl hk'; have ge3:=aN s5 1 rfl hk'; have ge4:=aN s5 0 rfl hk';refine cT (dT hlt) ⟨λ b w6=>b=IL sup tot now ask k/\aF w4 w6 [],?_,by omega,by omega,_,by rw[hU,ge4],by omega,by omega,_,by rw[hU,ge3],?_⟩
    · rintro w6 b ⟨rfl,c6⟩ -
      cases hr:IL sup tot now ask k with
      | true=>exact cT rfl ⟨by rw[js,List.any_eq_true.2 ⟨k,List.mem_range.2 hk',hr⟩],(s4.quiet c6).aC⟩
      | false =>
        refine cF rfl ⟨6-(k+1),by omega,k+1,inc (by decide) hk',by omega,rfl,λ j hj=>?_,c6⟩;rcases Nat.lt_or_ge j k with h' | h'
        · exact ha j h'
        · obtain rfl:j=k:=by omega
          exact hr
    · by_cases g:ask.at' k<now.at' k
      · refine cT (dT g) ⟨by omega,by omega,_,by rw[hU,ge2],by omega,by omega,_,by rw[hU,ge3],by omega,by omega,_,by rw[hU,ge4],by omega,by omega,_,by rw[hU,ge1],?_,c5⟩;rw[aG (n:=tot.at' k-now.at' k) ⟨by omega,by omega⟩,aG ⟨by omega,by omega⟩,IL,dT g,Bool.true_and]
      · exact cF (dF g) ⟨by rw[IL,dF g,Bool.false_and],c5⟩
  · obtain rfl:k=6:=by omega
    refine cF (by simp) ⟨?_,(s4.quiet hc).aC⟩;have:js sup tot now ask=false:=by
      rw[js,List.any_eq_false];intro j hj;rw[ha j (List.mem_range.1 hj)]; simp
    rw[this]
def yV(sup tot now ask:Int):Int:=if ask<now then now-(if (if 0>tot-sup then 0 else tot-sup)<now-ask then (if 0>tot-sup then 0 else tot-sup) else now-ask) else ask
def oU(sup tot now ask:I6):I6:=I6.of λ k=>yV (sup.at' k) (tot.at' k) (now.at' k) (ask.at' k)
theorem Ec{s t n a B:Int}(h3:0<=n/\n<=B)(h4:0<=a/\a<=B):0<=yV s t n a/\yV s t n a<=B:=by
  unfold yV
  split
  · split<;>split<;>omega
  · omega
theorem K2{s t n a:I6}{B:Int}(h3:I6.Le n B)(h4:I6.Le a B):I6.Le (oU s t n a) B:=λ k hk=>by
  rw[oU,I6.yS _ _ hk]; exact Ec (h3 k hk) (h4 k hk)
theorem K3(w:World)(sup tot now ask:I6)(h1:I6.Le sup 1000000)(h2:I6.Le tot 1000000)(h3:I6.Le now 1000000)(h4:I6.Le ask 1000000) :
    CP 153 #[.agg sup.vs.toArray,.agg tot.vs.toArray,.agg now.vs.toArray,.agg ask.vs.toArray] w (λ r w'=>r=.agg (oU sup tot now ask).vs.toArray/\aF w w' []):=by
  refine qG ?_;unfold lQ;refine(St.start w).one.aB sup.vs.toArray λ r1 w1 s1=>s1.aB tot.vs.toArray λ r2 w2 s2=>s2.aB now.vs.toArray λ r3 w3 s3=>s3.aB ask.vs.toArray λ r4 w4 s4=>s4.aB z6.vs.toArray λ r5 w5 s5=>?_;let I:Nat->World->Prop:=λ k w'=>St w w' (Sep [ah r5 z6.vs.toArray 42,ah r4 (I6.mix k (oU sup tot now ask) ask).vs.toArray 42,ah r3 now.vs.toArray 42,ah r2 tot.vs.toArray 42,ah r1 sup.vs.toArray 42,emp]);refine⟨λ n w6 m=>∃ k:Nat,n=k/\k<=6/\m=6-k/\I k w6,⟨6,0,rfl,by omega,by omega,s5⟩,?_⟩;rintro w6 m n ⟨k,rfl,hk,hm,s6⟩ -
  by_cases hlt:(k:Int)<6
  · have hk' : k<6:=by omega
    have s7:=St.quiet s6 (aF.drew _ _);have s8:=s7.quiet (aF.drew _ _);have q1:=h1 k hk'; have q2:=h2 k hk'; have q3:=h3 k hk'; have q4:=h4 k hk';have ea:(I6.mix k (oU sup tot now ask) ask).at' k=ask.at' k:=by rw[I6.cI _ _ _ _ hk',if_neg (by omega)]
    have ep:(oU sup tot now ask).at' k=yV (sup.at' k) (tot.at' k) (now.at' k) (ask.at' k):=I6.yS _ _ hk';refine cT (dT hlt) ⟨I (k+1),?_,by omega,by omega,ask.at' k,by rw[hU,aN s7 1 rfl hk',ea],by omega,by omega,now.at' k,by rw[hU,aN s7 2 rfl hk'],?_⟩
    · rintro w9 s9 -;exact⟨6-(k+1),by omega,k+1,inc (by decide) hk',by omega,rfl,s9⟩
    · by_cases g:ask.at' k<now.at' k
      · refine cT (dT g) ⟨by omega,by omega,now.at' k,by rw[hU,aN s8 2 rfl hk'],by omega,by omega,now.at' k,by rw[hU,aN s8 2 rfl hk'],by omega,by omega,ask.at' k,by rw[hU,aN s8 1 rfl hk',ea],
          by omega,by omega,tot.at' k,by rw[hU,aN s8 3 rfl hk'],by omega,by omega,sup.at' k,by rw[hU,aN s8 4 rfl hk'],by omega,by omega,?_⟩
        have hp:=Ec (s:=sup.at' k) (t:=tot.at' k) q3 q4;rw[yV,if_pos g] at ep hp;rw[hU,aG (n:=tot.at' k-sup.at' k) ⟨by omega,by omega⟩,aG (n:=now.at' k-ask.at' k) ⟨by omega,by omega⟩,aG ⟨by omega,by omega⟩,<- ep];refine s8.aJ 1 rfl hk' rfl λ w9 s9=>?_;rw[I6.gB _ _ _ hk'] at s9;exact s9
      · refine cF (dF g) ?_;rw[yV,if_neg g] at ep;have:I6.mix (k+1) (oU sup tot now ask) ask=I6.mix k (oU sup tot now ask) ask:=by
          refine I6.ext' λ j hj=>?_;rw[I6.cI _ _ _ _ hj,I6.cI _ _ _ _ hj]
          by_cases h3:j<k
          · rw[if_pos (by omega),if_pos h3]
          · rw[if_neg h3]
            split
            · obtain rfl:j=k:=by omega
              exact ep
            · rfl
        show I (k+1) _;simp only[I];rw[this]; exact s7
  · obtain rfl:k=6:=by omega
    exact cF (by simp) ⟨_,St.cellsIn s6 1 rfl,St.aD s6 0 rfl (oU sup tot now ask).vs rfl (I6.one _) λ w8 s8=>⟨_,s8.cellsIn 0 rfl,rfl,s8.aC⟩⟩
theorem LY{w:World}{p:Int}(hp:1<=p/\p<=3){sup:I6}(hs:I6.Le sup 4){a1 a2:OA}{c1 c2:Nat}{l1 l2:List I6}(h1:Jq w a1 l1)(h2:Jq w a2 l2)(hl:l2.length=l1.length)(h8:l1.length<=8)(b1:∀ u∈l1,I6.Le u 4)(b2:∀ u∈l2,I6.Le u 4) :
    CP 149 #[iv p,.agg sup.vs.toArray,.slice a1 l1.length c1,.slice a2 l2.length c2] w (λ r w'=>r=iv 0/\aF w w' []):=by
  refine rX ?_;unfold nw;refine(St.start w).one.aB sup.vs.toArray λ r1 w1 s1=>⟨λ b w2=>b=false/\w2=w1,?_,cF (dF (by omega)) ⟨dF (by omega),rfl⟩⟩;rintro w2 b ⟨rfl,rfl⟩ -;refine cF rfl ⟨λ b w3=>b=false/\w3=w2,?_,cF (by simp[hl]) ⟨dF (by omega),rfl⟩⟩;rintro w3 b ⟨rfl,rfl⟩ -;refine cF rfl ⟨_,s1.cellsIn 0 rfl,au (cS w3 sup) ?_⟩;rintro v w4 ⟨rfl,c4⟩;have s4:=s1.quiet c4;refine⟨_,rfl,cF (by rw[leq hs]; rfl) ⟨λ n w5 m=>∃ k:Nat,n=k/\k<=2/\m=2-k/\aF w w5 [],⟨2,0,rfl,by omega,by omega,s4.aC⟩,?_⟩⟩;rintro w5 m n ⟨k,rfl,hk,hm,c5⟩ -
  by_cases hlt:(k:Int)<2
  · have hk' : k<2:=by omega
    obtain⟨a,c,l,e1,hr,hb,hl8⟩:∃ (a:OA) (c:Nat) (l:List I6),(#[.slice a1 l1.length c1,.slice a2 l2.length c2]:Array Value)[(k:Int).toNat*1]? = some (.slice a l.length c)/\Jq w a l/\(∀ u∈l,I6.Le u 4)/\l.length<=8:=by
      match k,hk' with
      | 0,_=>exact⟨a1,c1,l1,rfl,h1,b1,h8⟩
      | 1,_=>exact⟨a2,c2,l2,rfl,h2,b2,by omega⟩
    refine cT (dT hlt) ⟨by omega,by omega,_,_,_,e1,λ n w6 m=>∃ j:Nat,n=j/\j<=l.length/\m=l.length-j/\aF w w6 [],⟨l.length,0,rfl,by omega,by omega,c5⟩,?_⟩;rintro w6 m6 n6 ⟨j,rfl,hj,hm6,c6⟩ -
    by_cases hlt6:(j:Int)<(l.length:Int)
    · have hx:l[j]? = some (l[j]'(by omega)):=gE (by omega);generalize l[j]'(by omega)=x at hx;obtain⟨q,hq,hcl⟩:=(hr.aC c6).at hx;refine cT (by simpa using hlt6) ?_;rw[hq];refine⟨by omega,by omega,x,hcl,(St.start' c6).one.aB z6.vs.toArray λ r2 w7 s7=>s7.aD 0 rfl x.vs rfl (I6.one _) λ w8 s8=>⟨_,s8.cellsIn 0 rfl,au (cS w8 x) ?_⟩⟩;rintro v w9 ⟨rfl,c9⟩;exact⟨_,rfl,cF (by rw[leq (hb x (List.mem_of_getElem? hx))]; rfl) ⟨l.length-(j+1),by omega,j+1,aG ⟨by omega,by omega⟩,by omega,rfl,(s8.quiet c9).aC⟩⟩
    · exact cF (by simpa using hlt6) ⟨2-(k+1),by omega,k+1,inc (by decide) hk',by omega,rfl,c6⟩
  · exact cF (dF hlt) ⟨rfl,c5⟩
def mL(p:Int)(sup:I6)(out:List I6)(i:Nat)(ask:I6):List I6 :=
  if p=2 then (if js sup (gZ out) (out.getD i z6) ask then out else out.set i ask)
  else if p=3 then out.set i (oU sup (gZ out) (out.getD i z6) ask) else out.set i ask
def wj(p:Int)(sup:I6)(bef asked:List I6):Nat->List I6
  | 0=>bef
  | k+1=>mL p sup (wj p sup bef asked k) k (asked.getD k z6)
def U7(p:Int)(sup:I6)(bef asked:List I6):List I6:=wj p sup bef asked asked.length
theorem xh{l:List I6}{B:Int}(h:∀ u∈l,I6.Le u B)(hB:0<=B)(i:Nat):I6.Le (l.getD i z6) B:=by
  rw[List.getD_eq_getElem?_getD]
  cases hg:l[i]? with
  | none=>exact λ k _=>by rw[show(none:Option I6).getD z6=z6 from rfl,uj]; omega
  | some u=>exact h u (List.mem_of_getElem? hg)
theorem FV{l:List I6}{B:Int}(h:∀ u∈l,I6.Le u B){x:I6}(hx:I6.Le x B)(i:Nat):∀ u∈l.set i x,I6.Le u B:=λ u hu=>by
  rcases List.mem_or_eq_of_mem_set hu with h' | rfl
  · exact h u h'
  · exact hx
theorem Jb{p:Int}{sup:I6}{out:List I6}{i:Nat}{ask:I6}{B:Int}(hB:0<=B)(h:∀ u∈out,I6.Le u B)(ha:I6.Le ask B):(mL p sup out i ask).length=out.length/\∀ u∈mL p sup out i ask,I6.Le u B:=by
  unfold mL
  split
  · split
    · exact⟨rfl,h⟩
    · exact⟨by simp,FV h ha i⟩
  · split
    · exact⟨by simp,FV h (K2 (xh h hB i) ha) i⟩
    · exact⟨by simp,FV h ha i⟩
theorem CM{p:Int}{sup:I6}{bef asked:List I6}{B:Int}(hB:0<=B)(h:∀ u∈bef,I6.Le u B)(ha:∀ u∈asked,I6.Le u B):∀ k,(wj p sup bef asked k).length=bef.length/\∀ u∈wj p sup bef asked k,I6.Le u B
  | 0=>⟨rfl,h⟩
  | k+1=>by
    obtain⟨h1,h2⟩:=CM (p:=p) (sup:=sup) hB h ha k;obtain⟨h3,h4⟩:=Jb (p:=p) (sup:=sup) (i:=k) hB h2 (xh ha hB k);exact⟨h3.trans h1,h4⟩
theorem LX{w0 w:World}{B:aI}(s:St w0 w B){p:Int}(hp:1<=p/\p<=3){sup:I6}(hs:I6.Le sup 4){a1 a2:OA}{c1 c2:Nat}{l1 l2:List I6}(h1:Jq w a1 l1)(h2:Jq w a2 l2)(hl:l2.length=l1.length)(h8:l1.length<=8)(b1:∀ u∈l1,I6.Le u 4)(b2:∀ u∈l2,I6.Le u 4) :
    CP 120 #[iv p,.agg sup.vs.toArray,.slice a1 l1.length c1,.slice a2 l2.length c2] w (λ r w'=>∃ a c,r=.tuple #[.slice a l1.length c,iv 0]/\St w0 w' (star (AW a c (U7 p sup l1 l2)) B)/\aF w w' []):=by
  refine rW ?_;unfold nv;refine(St.start w).one.aB sup.vs.toArray λ r1 w1 t1=>⟨_,t1.cellsIn 0 rfl,au (LY hp hs (h1.aC t1.aC) (h2.aC t1.aC) hl h8 b1 b2) ?_⟩;rintro v w2 ⟨rfl,c2⟩;have t2:=t1.quiet c2;refine⟨_,rfl,cF rfl (au (JH t2 (h1.aC t2.aC) (by omega)) ?_)⟩;rintro v w3 ⟨a,c,rfl,t3⟩;refine⟨_,_,_,rfl,?_⟩;have len:∀ k,(wj p sup l1 l2 k).length=l1.length:=λ k=>(CM (B:=4) (by omega) b1 b2 k).1;have le4:∀ k,∀ u∈wj p sup l1 l2 k,I6.Le u 4:=λ k=>(CM (B:=4) (by omega) b1 b2 k).2;have up:∀ {u:I6},I6.Le u 4->I6.Le u 1000000:=λ h k hk=>by have:=h k hk; omega
  have tsum:∀ k,I6.Le (gZ (wj p sup l1 l2 k)) 1000000:=λ k j hj=>by
    have:=CD (le4 k) j hj;rw[gZ,I6.yS _ _ hj];have:=len k;omega
  let Q:Nat->aI:=λ k=>Sep [AW a c (wj p sup l1 l2 k),ah r1 sup.vs.toArray 42,emp];refine⟨λ n w4 m=>∃ k:Nat,n=k/\k<=l2.length/\m=l2.length-k/\St w w4 (Q k),⟨l2.length,0,rfl,by omega,by omega,t3⟩,?_⟩;rintro w4 m n ⟨k,rfl,hk,hm,t4⟩ -
  by_cases hlt:(k:Int)<(l2.length:Int)
  · have hx:l2[k]? = some (l2[k]'(by omega)):=gE (by omega);generalize l2[k]'(by omega)=x at hx;have hxD:l2.getD k z6=x:=by rw[List.getD_eq_getElem?_getD,hx]; rfl
    have hx4:=b2 x (List.mem_of_getElem? hx);have hk1:k<l1.length:=by omega
    obtain⟨q,hq,hcl⟩:=(h2.aC (St.aC t4)).at hx;have hg:∃ g,a=some ⟨g,0,none⟩:=St.ve (l:=wj p sup l1 l2 k) (St.out t4 0 rfl) (by rw[len]; omega);obtain⟨g,rfl⟩:=hg;have hnow:(wj p sup l1 l2 k)[k]? = some ((wj p sup l1 l2 k).getD k z6):=by
      rw[List.getD_eq_getElem?_getD,gE (by rw[len]; exact hk1)]; rfl
    have hnow4:=xh (le4 k) (by omega) k;refine cT (by simpa using hlt) ⟨λ w5=>St w w5 (Q (k+1)),?_,?_⟩
    · rintro w5 t5 -;exact⟨l2.length-(k+1),by omega,k+1,aG ⟨by omega,by omega⟩,by omega,rfl,t5⟩
    rw[hq];refine⟨by omega,by omega,x,hcl,St.aB t4 z6.vs.toArray λ r2 w6 t6=>t6.aD 0 rfl x.vs rfl (I6.one _) λ w7 t7=>?_⟩;have rd7:Jq w7 (some ⟨g,0,none⟩) (wj p sup l1 l2 k):=St.rd cL (t7.out 1 rfl);have hsum:=Tt (c:=c) rd7 (λ u hu=>up (le4 k u hu)) (by rw[len]; omega);rw[len] at hsum;refine au hsum ?_;rintro v w8 ⟨rfl,c8⟩;refine⟨_,rfl,(t7.quiet c8).aB z6.vs.toArray λ r3 w9 t9=>t9.aD 0 rfl (gZ (wj p sup l1 l2 k)).vs rfl (I6.one _) λ w10 t10=>?_⟩;generalize htot:gZ (wj p sup l1 l2 k)=tot at t10;have ht6:I6.Le tot 1000000:=htot▸tsum k;let now:=(wj p sup l1 l2 k).getD k z6;have rdN:∀ {w' : World} {l:List aI} {y:I6},St w w' (Sep (ah r3 tot.vs.toArray 42 :: ah r2 y.vs.toArray 42 :: AW (some ⟨g,0,none⟩) c (wj p sup l1 l2 k) :: l))->af w' (Addr.add ⟨g,0,none⟩ (((k:Nat):Int).toNat*6)) 0 now.vs:=λ t=>by
      obtain⟨q',hq',hc'⟩:=cN.at (St.rd cL (t.out 2 rfl)) hnow
      cases hq'; exact hc'
    have t10' : St w w10 (Sep [ah r3 tot.vs.toArray 42,ah r2 x.vs.toArray 42,AW (some ⟨g,0,none⟩) c (wj p sup l1 l2 k),ah r1 sup.vs.toArray 42,emp]):=t10;have t11:=t10'.quiet (aF.drew w10 []);refine⟨λ w'=>∃ y:I6,wj p sup l1 l2 (k+1)=(wj p sup l1 l2 k).set k y/\St w w' (Sep [ah r3 tot.vs.toArray 42,ah r2 y.vs.toArray 42,AW (some ⟨g,0,none⟩) c (wj p sup l1 l2 k),ah r1 sup.vs.toArray 42,emp]),?_,?_⟩
    · rintro w11 ⟨y,ey,t⟩ -;refine⟨_,t.cellsIn 1 rfl,by omega,by omega,?_⟩;rw[Int.toNat_natCast];refine St.Et cL (I6.one y) (t.out 2 rfl) (i:=k) (by rw[len]; exact hk1) λ w12 t12=>?_;show St w w12 (Q (k+1));simp only[Q];rw[ey];exact(t12.back (l:=[ah r3 tot.vs.toArray 42,ah r2 y.vs.toArray 42,AW (some ⟨g,0,none⟩) c (wj p sup l1 l2 k),ah r1 sup.vs.toArray 42,emp]) (i:=2) (by simp)).aA [2,3,4]
    · have estep:wj p sup l1 l2 (k+1)=mL p sup (wj p sup l1 l2 k) k x:=by show mL _ _ _ _ (l2.getD k z6)=_; rw[hxD]
      by_cases p2:p=2
      · refine cT (by simpa using p2) ⟨_,t11.cellsIn 3 rfl,_,t11.cellsIn 0 rfl,by omega,by omega,_,rdN t11,_,t11.cellsIn 1 rfl,au (IM _ sup tot now x (up hs) ht6 (up hnow4) (up hx4)) ?_⟩;rintro v w13 ⟨rfl,c13⟩;refine⟨_,rfl,?_⟩;have t13:=t11.quiet c13;have e2:wj p sup l1 l2 (k+1)=if js sup tot now x then wj p sup l1 l2 k else (wj p sup l1 l2 k).set k x:=by
          rw[estep,mL,if_pos p2,htot]
        cases hr:js sup tot now x with
        | true =>
          refine cT rfl ?_;rw[hr,if_pos rfl] at e2;show St w w13 (Q (k+1));simp only[Q];rw[e2];exact t13.aA [2,3,4]
        | false =>
          rw[hr] at e2;exact cF rfl ⟨x,e2,t13⟩
      · refine cF (by simpa using p2) ?_
        by_cases p3:p=3
        · refine cT (by simpa using p3) ⟨_,t11.cellsIn 3 rfl,_,t11.cellsIn 0 rfl,by omega,by omega,_,rdN t11,_,t11.cellsIn 1 rfl,au (K3 _ sup tot now x (up hs) ht6 (up hnow4) (up hx4)) ?_⟩;rintro v w14 ⟨rfl,c14⟩;refine⟨_,rfl,(t11.quiet c14).aD 1 rfl (oU sup tot now x).vs rfl (I6.one _) λ w15 t15=>⟨_,?_,t15⟩⟩;rw[estep,mL,if_neg p2,if_pos p3,htot]
        · refine cF (by simpa using p3) ⟨x,?_,t10'⟩;rw[estep,mL,if_neg p2,if_neg p3]
  · obtain rfl:k=l2.length:=by omega
    refine cF (by simp) ⟨a,c,rfl,?_,St.aC t4⟩;exact(s.after (St.aA t4 [0]).single)
end Go.Proofs.YtjpbdjhaajdepaaGreatDoor

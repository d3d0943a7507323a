import Derived.Test.YtpihmghnbplohaaGreatDoorProg
import Derived.KernelRfl
import Derived.Test.YtpihmghnbplohaaGreatDoorM02
import Derived.Test.YtpihmghnbplohaaGreatDoorM04
import Derived.Test.YtpihmghnbplohaaGreatDoorM08
import Derived.Test.YtpihmghnbplohaaGreatDoorM09
import Derived.Test.YtpihmghnbplohaaGreatDoorM10
set_option linter.unusedVariables false
set_option maxRecDepth 100000
namespace Go.Proofs.YtpihmghnbplohaaGreatDoor
open Go Go.Vc Tryz
def I6.of(f:Nat->Int):I6:=⟨f 0,f 1,f 2,f 3,f 4,f 5⟩
theorem I6.yx(f:Nat->Int)(k:Nat)(hk:k<6):(I6.of f).at' k=f k:=by
  match k,hk with
  | 0,_ | 1,_ | 2,_ | 3,_ | 4,_ | 5,_=>rfl
def Ep(l:List I6)(k:Nat):Int:=l.foldl (λ s u=>s+u.at' k) 0
def gK(l:List I6):I6:=I6.of (Ep l)
theorem I5(l:List I6)(u:I6)(k:Nat):Ep (l++[u]) k=Ep l k+u.at' k:=by simp[Ep]
theorem I4(l:List I6)(u:I6):gK (l++[u])=(gK l).zip (· + ·) u:=by
  refine I6.ext' λ k hk=>?_;rw[I6.jh _ _ _ _ hk,gK,I6.yx _ _ hk,gK,I6.yx _ _ hk,I5]
theorem Cr{B:Int}{l:List I6}(h:∀ u∈l,I6.Le u B)(k:Nat)(hk:k<6):0<=Ep l k/\Ep l k<=B*l.length:=by
  suffices H:∀ (l:List I6) (s:Int),(∀ u∈l,I6.Le u B)->s<=l.foldl (λ s u=>s+u.at' k) s/\l.foldl (λ s u=>s+u.at' k) s<=s+B*l.length by
    have:=H l 0 h;unfold Ep; omega
  intro l
  induction l with
  | nil=>intro s _; simp
  | cons u l ih =>
    intro s hl;have h1:=hl u (by simp) k hk;have h2:=ih (s+u.at' k) λ v hv=>hl v (by simp[hv]);simp only[List.foldl_cons,List.length_cons];rw[Int.natCast_add,Int.mul_add];omega
def sN(a b:I6):I6:=a.zip (λ x y=>if x>y then x-y else 0) b
abbrev Jp (w:World) (a:OA) (l:List I6):Prop:=cH 6 I6.vs w a l
theorem AW{w:World}{a:OA}{c:Nat}{l:List I6}(h:Jp w a l)(hb:∀ u∈l,I6.Le u 1000000)(hl:l.length<=1000) :
    CP 192 #[.slice a l.length c] w (λ r w'=>r=.agg (gK l).vs.toArray/\az w w' []):=by
  refine zb ?_;unfold vw;refine(St.start w).one.ax z6.vs.toArray λ r1 w1 s1=>s1.ax z6.vs.toArray λ r2 w2 s2=>?_;refine⟨λ n w3 m=>∃ k:Nat,n=k/\k<=l.length/\m=l.length-k/\St w w3 (Sep [ai r2 (gK (l.take k)).vs.toArray 305,ai r1 z6.vs.toArray 305,emp]),⟨l.length,0,rfl,by omega,by omega,s2⟩,?_⟩;rintro w3 m n ⟨k,rfl,hk,hm,s3⟩ -
  by_cases hlt:(k:Int)<(l.length:Int)
  · have hx:l[k]? = some (l[k]'(by omega)):=gE (by omega);generalize l[k]'(by omega)=x at hx;have hxm:=hb x (List.mem_of_getElem? hx);obtain⟨q,hq,hcl⟩:=(h.av s3.av).at hx;refine cT (by simpa using hlt) ?_;rw[hq];refine⟨by omega,by omega,x,hcl,s3.ax z6.vs.toArray λ r3 w4 s4=>s4.aA 0 rfl x.vs rfl (I6.one _) λ w5 s5=>?_⟩;refine⟨λ n w6 m=>∃ j:Nat,n=j/\j<=6/\m=6-j/\St w w6 (Sep [ai r3 x.vs.toArray 41,ai r2 (I6.mix j ((gK (l.take k)).zip (· + ·) x) (gK (l.take k))).vs.toArray 305,ai r1 z6.vs.toArray 305,emp]),⟨6,0,rfl,by omega,by omega,s5⟩,?_⟩;rintro w6 m6 n6 ⟨j,rfl,hj,hm6,s6⟩ -
    by_cases hlt6:(j:Int)<6
    · have hj' : j<6:=by omega
      have s7:=s6.quiet (az.drew _ _);have hs:=Cr (l:=l.take k) (B:=1000000) (λ u hu=>hb u (List.mem_of_mem_take hu)) j hj';have hx6:=hxm j hj';have hlen:(l.take k).length<=1000:=by simp; omega
      have e1:(gK (l.take k)).at' j=Ep (l.take k) j:=I6.yx _ _ hj';refine cT (dT hlt6) ⟨by omega,by omega,(gK (l.take k)).at' j,?_,by omega,by omega,x.at' j,?_,by omega,by omega,?_⟩
      · rw[gM,aM s7 1 rfl hj',I6.bS _ _ _ _ hj',if_neg (by omega)]
      · rw[gM,aM s7 0 rfl hj']
      · rw[gM,aC ⟨by omega,by omega⟩];refine s7.aH 1 rfl hj' rfl λ w8 s8=>⟨6-(j+1),by omega,j+1,inc (by decide) hj',by omega,rfl,?_⟩;rw[show(gK (l.take k)).at' j+x.at' j=((gK (l.take k)).zip (· + ·) x).at' j by rw[I6.jh _ _ _ _ hj'],I6.fM _ _ _ hj'] at s8;exact s8
    · obtain rfl:j=6:=by omega
      refine cF (by simp) ⟨l.length-(k+1),by omega,k+1,aC ⟨by omega,by omega⟩,by omega,rfl,?_⟩;rw[aL hx,I4];exact s6.aq [1,2,3]
  · obtain rfl:k=l.length:=by omega
    rw[List.take_length] at s3;exact cF (by simp) ⟨_,s3.cellsIn 0 rfl,s3.aA 1 rfl (gK l).vs rfl (I6.one _) λ w8 s8=>⟨_,s8.cellsIn 1 rfl,rfl,s8.av⟩⟩
theorem Sv{w:World}{a:OA}{c:Nat}{l:List I6}(h:Jp w a l)(hb:∀ u∈l,I6.Le u 1000000)(hl:l.length<=1000) :
    CP 188 #[.slice a l.length c] w (λ r w'=>r=.agg (gK l).vs.toArray/\az w w' []):=by
  refine Cx ?_;unfold AU;refine(St.start w).one.ax z6.vs.toArray λ r1 w1 s1=>aj (AW (h.av s1.av) hb hl) ?_;rintro v w2 ⟨rfl,c2⟩;exact⟨_,rfl,(s1.quiet c2).aA 0 rfl (gK l).vs rfl (I6.one _) λ w8 s8=>⟨_,s8.cellsIn 0 rfl,rfl,s8.av⟩⟩
theorem QH(w:World)(u v:I6)(hu:I6.Le u 1000000000)(hv:I6.Le v 1000000000):CP 191 #[.agg u.vs.toArray,.agg v.vs.toArray] w (λ r w'=>r=.agg (sN u v).vs.toArray/\az w w' []):=by
  refine zL ?_;unfold y9;refine(St.start w).one.ax u.vs.toArray λ r1 w1 s1=>s1.ax v.vs.toArray λ r2 w2 s2=>s2.ax z6.vs.toArray λ r3 w3 s3=>s3.ax z6.vs.toArray λ r4 w4 s4=>?_;let I:Nat->World->Prop:=λ k w'=>St w w' (Sep [ai r4 (I6.mix k (sN u v) z6).vs.toArray 41,ai r3 z6.vs.toArray 41,ai r2 v.vs.toArray 305,ai r1 u.vs.toArray 305,emp]);refine⟨λ n w5 m=>∃ k:Nat,n=k/\k<=6/\m=6-k/\I k w5,⟨6,0,rfl,by omega,by omega,s4⟩,?_⟩;rintro w5 m n ⟨k,rfl,hk,hm,s5⟩ -
  by_cases hlt:(k:Int)<6
  · have hk' : k<6:=by omega
    have s6:=St.quiet s5 (az.drew _ _);have s7:=s6.quiet (az.drew _ _);have h1:=hu k hk';have h2:=hv k hk';have e:(sN u v).at' k=if u.at' k>v.at' k then u.at' k-v.at' k else 0:=I6.jh _ _ _ _ hk'
    refine cT (dT hlt) ⟨I (k+1),?_,by omega,by omega,u.at' k,by rw[gM,aM s6 3 rfl hk'],by omega,by omega,v.at' k,by rw[gM,aM s6 2 rfl hk'],?_⟩
    · rintro w6 s6 -;exact⟨6-(k+1),by omega,k+1,inc (by decide) hk',by omega,rfl,s6⟩
    · by_cases g:u.at' k>v.at' k
      · refine cT (dT g) ⟨by omega,by omega,u.at' k,by rw[gM,aM s7 3 rfl hk'],by omega,by omega,v.at' k,by rw[gM,aM s7 2 rfl hk'],by omega,by omega,?_⟩;rw[gM,aC ⟨by omega,by omega⟩];refine s7.aH 0 rfl hk' rfl λ w8 s8=>?_;rw[if_pos g] at e;rw[<- e,I6.fM _ _ _ hk'] at s8;exact s8
      · refine cF (dF g) ?_;rw[if_neg g] at e;have:I6.mix (k+1) (sN u v) z6=I6.mix k (sN u v) z6:=by
          refine I6.ext' λ j hj=>?_;rw[I6.bS _ _ _ _ hj,I6.bS _ _ _ _ hj,tJ]
          by_cases h3:j<k
          · rw[if_pos (by omega),if_pos h3]
          · rw[if_neg h3]
            split
            · obtain rfl:j=k:=by omega
              exact e
            · rfl
        show I (k+1) _;simp only[I];rw[this]; exact s6
  · obtain rfl:k=6:=by omega
    exact cF (by simp) ⟨_,St.cellsIn s5 0 rfl,St.aA s5 1 rfl (sN u v).vs rfl (I6.one _) λ w8 s8=>⟨_,s8.cellsIn 1 rfl,rfl,s8.av⟩⟩
theorem Oj{l:List I6}(h:∀ u∈l,I6.Le u 1000000)(hl:l.length<=1000):I6.Le (gK l) 1000000000:=λ k hk=>by
  have:=Cr h k hk;rw[gK,I6.yx _ _ hk];omega
theorem J9{w:World}{a:OA}{c:Nat}{l:List I6}(u:I6)(hu:I6.Le u 1000000000)(h:Jp w a l)(hb:∀ u∈l,I6.Le u 1000000)(hl:l.length<=1000) :
    CP 151 #[.agg u.vs.toArray,.slice a l.length c] w (λ r w'=>r=.agg (sN (gK l) u).vs.toArray/\az w w' []):=by
  refine wA ?_;unfold tu;refine(St.start w).one.ax u.vs.toArray λ r1 w1 s1=>s1.ax z6.vs.toArray λ r2 w2 s2=>?_;have s3:=s2.quiet (az.drew _ _);refine⟨_,s3.cellsIn 1 rfl,aj (AW (h.av s3.av) hb hl) ?_⟩;rintro v w3 ⟨rfl,c3⟩;have s4:=s3.quiet c3;refine⟨_,rfl,s4.cellsIn 1 rfl,aj (QH w3 _ _ (Oj hb hl) hu) ?_⟩;rintro v w4 ⟨rfl,c4⟩;exact⟨_,rfl,(s4.quiet c4).aA 0 rfl (sN (gK l) u).vs rfl (I6.one _) λ w8 s8=>⟨_,s8.cellsIn 0 rfl,rfl,s8.av⟩⟩
def qc(n:Int):Bool:=decide (0<=n)&&decide (n<=1000000)
theorem S9(w:World)(n:Int):CP 269 #[iv n] w (λ r w'=>r=.bool (qc n)/\w' = w):=by
  refine Be ?_;unfold zQ
  by_cases h:n>=0
  · exact cT (dT h) ⟨by simp[qc,h],rfl⟩
  · exact cF (dF h) ⟨by simp[qc]; omega,rfl⟩
theorem Js(w:World)(n:Int):CP 230 #[iv n] w (λ r w'=>r=iv (if qc n then 0 else 4)/\w' = w):=by
  refine vF ?_;unfold rA;refine aj (S9 w n) ?_;rintro v w1 ⟨rfl,rfl⟩;refine⟨_,rfl,?_⟩
  cases h:qc n with
  | true=>exact cF rfl ⟨rfl,rfl⟩
  | false=>exact cT rfl ⟨rfl,rfl⟩
def nr(p:I6):Bool:=p.l.all qc
theorem CA(w:World)(p:I6):CP 194 #[.agg p.vs.toArray] w (λ r w'=>r=.bool (nr p)/\az w w' []):=by
  refine pT ?_;unfold kA;refine(St.start w).one.ax p.vs.toArray λ r1 w1 s1=>⟨p,s1.cellsIn 0 rfl,λ n w2 m=>∃ k:Nat,n=k/\k<=6/\m=6-k/\(p.l.take k).all qc=true/\w2=w1,⟨6,0,rfl,by omega,by omega,rfl,rfl⟩,?_⟩;rintro w2 m n ⟨k,rfl,hk,hm,ha,rfl⟩ -
  by_cases hlt:(k:Int)<6
  · have hk' : k<6:=by omega
    refine cT (dT hlt) ⟨by omega,by omega,_,p.get k hk',aj (Js w2 _) ?_⟩;rintro v w3 ⟨rfl,rfl⟩;refine⟨_,rfl,?_⟩
    cases hx:qc (p.at' k) with
    | true=>exact cF rfl ⟨6-(k+1),by omega,k+1,inc (by decide) hk',by omega,rfl,tN ha (p.vY k hk') hx,rfl⟩
    | false=>exact cT rfl ⟨by rw[nr,xk (p.vY k hk') hx],s1.av⟩
  · obtain rfl:k=6:=by omega
    refine cF (by simp) ⟨?_,s1.av⟩;rw[nr,show p.l.all qc=true from ha]
theorem sP{p:I6}:nr p=true<->I6.Le p 1000000:=by
  constructor
  · intro h k hk;have:=List.all_eq_true.1 h _ (List.mem_of_getElem? (p.vY k hk));simpa[qc] using this
  · intro h;have h0:=h 0 (by decide); have h1:=h 1 (by decide); have h2:=h 2 (by decide); have h3:=h 3 (by decide); have h4:=h 4 (by decide); have h5:=h 5 (by decide);simp only[I6.at'] at h0 h1 h2 h3 h4 h5;simp[nr,I6.l,qc,h0,h1,h2,h3,h4,h5]
structure Po where
  step:Int
  pct:Int
  und:Int
  rule:Int
def Po.cells(o:Po):List Value:=[iv o.step,iv o.pct,iv o.und,iv o.rule]
def Po.v(o:Po):Value:=.agg o.cells.toArray
def Po.ok(o:Po):Prop:=1<=o.step/\o.step<=1000000/\0<=o.pct/\o.pct<=100/\1<=o.und/\o.und<=3/\1<=o.rule/\o.rule<=3
instance (o:Po):Decidable o.ok:=by unfold Po.ok; infer_instance
def oo(o:Po):Int:=if o.ok then 0 else 4
theorem uq(w:World)(o:Po):CP 120 #[o.v] w (λ r w'=>r=iv (oo o)/\az w w' []):=by
  refine pQ ?_;unfold ku;refine(St.start w).one.ax o.cells.toArray λ r1 w1 s1=>?_;refine⟨λ b w2=>w2=w1/\(b=true<->¬ o.ok),?_,?_⟩
  · rintro w2 b ⟨rfl,hb⟩ -
    by_cases h:o.ok
    · obtain rfl:b=false:=by
        cases b with
        | false=>rfl
        | true=>exact absurd h (hb.1 rfl)
      exact cF rfl ⟨by rw[oo,if_pos h],s1.av⟩
    · obtain rfl:=hb.2 h;exact cT rfl ⟨by rw[oo,if_neg h],s1.av⟩
  have bad : ¬ o.ok->(true=true<->¬ o.ok):=λ h=>⟨λ _=>h,λ _=>rfl⟩;refine⟨_,s1.ag 0 rfl 0,?_⟩
  by_cases g1:o.step<1
  · exact cT (dT g1) ⟨rfl,bad λ h=>by unfold Po.ok at h; omega⟩
  refine cF (dF g1) ⟨_,s1.ag 0 rfl 0,?_⟩
  by_cases g2:o.step>1000000
  · exact cT (dT g2) ⟨rfl,bad λ h=>by unfold Po.ok at h; omega⟩
  refine cF (dF g2) ⟨_,s1.ag 0 rfl 1,?_⟩
  by_cases g3:o.pct<0
  · exact cT (dT g3) ⟨rfl,bad λ h=>by unfold Po.ok at h; omega⟩
  refine cF (dF g3) ⟨_,s1.ag 0 rfl 1,?_⟩
  by_cases g4:o.pct>100
  · exact cT (dT g4) ⟨rfl,bad λ h=>by unfold Po.ok at h; omega⟩
  refine cF (dF g4) ⟨_,s1.ag 0 rfl 2,?_⟩
  by_cases g5:o.und<1
  · exact cT (dT g5) ⟨rfl,bad λ h=>by unfold Po.ok at h; omega⟩
  refine cF (dF g5) ⟨_,s1.ag 0 rfl 2,?_⟩
  by_cases g6:o.und>3
  · exact cT (dT g6) ⟨rfl,bad λ h=>by unfold Po.ok at h; omega⟩
  refine cF (dF g6) ⟨_,s1.ag 0 rfl 3,?_⟩
  by_cases g7:o.rule<1
  · exact cT (dT g7) ⟨rfl,bad λ h=>by unfold Po.ok at h; omega⟩
  refine cF (dF g7) ⟨_,s1.ag 0 rfl 3,rfl,?_⟩;rw[decide_eq_true_eq];unfold Po.ok;omega
def ja(l:List Pr):I6:=I6.Tx (l.map Pr.res)
theorem uK(l:List Pr)(k:Nat)(hk:k<6):(ja l).at' k=(l.map Pr.res).getD k 0:=by
  match k,hk with
  | 0,_ | 1,_ | 2,_ | 3,_ | 4,_ | 5,_=>rfl
theorem Cp{w:World}{a:OA}{c:Nat}{l:List Pr}(h:dL w a l)(hl:l.length<=6)(hc:l.length<=c) :
    CP 141 #[.slice a l.length c] w (λ r w'=>r=.agg (ja l).vs.toArray/\az w w' []):=by
  refine pR ?_;unfold kz;have e:(if (6:Int)<((l.length:Nat):Int) then (6:Int) else ((l.length:Nat):Int))=(l.length:Int):=by rw[if_neg (by omega)]
  rw[e,LG,Int.toNat_natCast,Nat.sub_zero];refine(St.start w).one.ax z6.vs.toArray λ r1 w1 s1=>s1.ax z6.vs.toArray λ r2 w2 s2=>⟨by omega,by omega,?_⟩;refine⟨λ n w3 m=>∃ k:Nat,n=k/\k<=l.length/\m=l.length-k/\St w w3 (Sep [ai r2 (I6.mix k (ja l) z6).vs.toArray 103,ai r1 z6.vs.toArray 103,emp]),⟨l.length,0,rfl,by omega,by omega,s2⟩,?_⟩;rintro w3 m n ⟨k,rfl,hk,hm,s3⟩ -
  by_cases hlt:(k:Int)<(l.length:Int)
  · have hx:l[k]? = some (l[k]'(by omega)):=gE (by omega);generalize l[k]'(by omega)=x at hx;obtain⟨_,q,hq,hcl⟩:=(h.av s3.av) k x hx;have h6:k<6:=by omega
    refine cT (by simpa using hlt) ?_;rw[hq];refine⟨by omega,by omega,_,_,_,_,_,hcl,aG ?_⟩;refine(s3.bI _ 170).aA 0 rfl x.cells rfl x.one λ w6 s6=>⟨_,s6.ag 0 rfl 2,by omega,by omega,?_⟩;rw[gM];refine s6.aH 1 rfl h6 rfl λ w7 s7=>⟨l.length-(k+1),by omega,k+1,aC ⟨by omega,by omega⟩,by omega,rfl,?_⟩;have e1:x.res=(ja l).at' k:=by rw[uK l k h6]; simp[List.getElem?_map,hx]
    rw[e1,I6.fM _ _ _ h6] at s7;exact s7.aq [1,2,3]
  · obtain rfl:k=l.length:=by omega
    have hcn:I6.mix l.length (ja l) z6=ja l:=by
      refine I6.ext' λ j hj=>?_;rw[I6.bS _ _ _ _ hj,tJ]
      split
      · rfl
      · rw[uK l j hj,List.getD_eq_getElem?_getD,List.getElem?_eq_none (by simp; omega)]; rfl
    rw[hcn] at s3;exact cF (by simp) ⟨_,s3.cellsIn 0 rfl,s3.aA 1 rfl (ja l).vs rfl (I6.one _) λ w8 s8=>⟨_,s8.cellsIn 1 rfl,rfl,s8.av⟩⟩
def FC(o:Po)(p:Int):Int:=p+o.step+(p*o.pct+99) / 100
theorem NO{w0 w:World}{l:List aD}{o:Po}(ho:o.ok){p:Int}(hp:0<=p/\p<=1000000){r:Nat}{T:TypeId}(s:St w0 w (Sep l))(i:Nat)(e:l[i]? = some (ai r o.cells.toArray T)) :
    CP 229 #[iv p,.pointer (some ⟨r,0,none⟩)] w (λ v w'=>v=iv (FC o p)/\w' = w):=by
  refine lE ⟨_,s.ag i e 0,_,s.ag i e 1,by decide,?_,rfl⟩;obtain⟨h1,h2,h3,h4,_⟩:=ho;have h5:0<=p*o.pct:=Int.mul_nonneg hp.1 h3;have h6:p*o.pct<=1000000*100:=Int.le_trans (Int.mul_le_mul_of_nonneg_left h4 hp.1) (Int.mul_le_mul_of_nonneg_right hp.2 (by omega));have h7:Int.tdiv (p*o.pct+99) 100=(p*o.pct+99) / 100:=Int.tdiv_eq_ediv_of_nonneg (by omega);rw[aC (n:=p+o.step) ⟨by omega,by omega⟩,aC (n:=p*o.pct) ⟨by omega,by omega⟩,aC (n:=p*o.pct+99) ⟨by omega,by omega⟩,h7,aC (n:=(p*o.pct+99) / 100) ⟨by omega,by omega⟩,aC ⟨by omega,by omega⟩];rfl
def bL(o:Po)(p ex:I6):I6:=p.zip (λ x n=>if n>0 then FC o x else x) ex
def vl(o:Po)(p ex:I6):I6×Int:=if bL o p ex≠p/\nr (bL o p ex)=false then (z6,4) else (bL o p ex,0)
theorem KW(w:World){o:Po}(ho:o.ok){p:I6}(hp:nr p=true)(ex:I6):CP 152 #[o.v,.agg p.vs.toArray,.agg ex.vs.toArray] w (λ r w'=>r=.tuple #[.agg (vl o p ex).1.vs.toArray,iv (vl o p ex).2]/\az w w' []):=by
  refine qI ?_;unfold mz;have hle:=sP.1 hp;refine(St.start w).one.ax o.cells.toArray λ r1 w1 s1=>s1.ax p.vs.toArray λ r2 w2 s2=>s2.ax ex.vs.toArray λ r3 w3 s3=>s3.ax z6.vs.toArray λ r4 w4 s4=>?_;refine⟨_,_,_,_,s4.cellsIn 3 rfl,aj (uq w4 o) ?_⟩;rintro v w5 ⟨rfl,c5⟩;have s5:=s4.quiet c5;have s6:=s5.quiet (az.drew _ _);let L:Nat->Nat->I6->List aD:=λ b r out=>[ai r out.vs.toArray 103,ai b o.cells.toArray 23,ai r4 z6.vs.toArray 103,ai r3 ex.vs.toArray 41,ai r2 p.vs.toArray 103,emp];refine⟨_,rfl,cF (by rw[oo,if_pos ho]; rfl) ⟨λ v r w'=>∃ b,v=.func (.func 229) #[] #[.pointer (some ⟨b,0,none⟩)]/\St w w' (Sep (L b r p)),?_,?_⟩⟩
  · rintro w7 v r5 ⟨b,rfl,s7⟩ -;refine⟨ex,s7.cellsIn 3 rfl,λ n w8 m=>∃ k:Nat,n=k/\k<=6/\m=6-k/\St w w8 (Sep (L b r5 (I6.mix k (bL o p ex) p))),⟨6,0,rfl,by omega,by omega,s7⟩,?_⟩;rintro w8 m n ⟨k,rfl,hk,hm,s8⟩ -
    by_cases hlt:(k:Int)<6
    · have hk' : k<6:=by omega
      have er:(bL o p ex).at' k=if ex.at' k>0 then FC o (p.at' k) else p.at' k:=I6.jh _ _ _ _ hk'
      refine cT (dT hlt) ⟨λ w9=>St w w9 (Sep (L b r5 (I6.mix (k+1) (bL o p ex) p))),?_,by omega,by omega,_,ex.get k hk',λ g w10=>g=decide (ex.at' k>0)/\St w w10 (Sep (L b r5 (I6.mix k (bL o p ex) p))),?_,?_⟩
      · rintro w9 s9 -;exact⟨6-(k+1),by omega,k+1,inc (by decide) hk',by omega,rfl,s9⟩
      · rintro w10 g ⟨rfl,s10⟩ -
        by_cases hg:ex.at' k>0
        · refine cT (dT hg) ⟨by omega,by omega,p.at' k,by rw[gM,aM s10 4 rfl hk'],bx (by kernel_rfl) (aj (NO ho (hle k hk') s10 1 rfl) ?_)⟩;rintro v w11 ⟨rfl,rfl⟩;refine⟨_,rfl,by omega,by omega,?_⟩;rw[gM];refine s10.aH 0 rfl hk' rfl λ w12 s12=>?_;rw[if_pos hg] at er;rw[<- er,I6.fM _ _ _ hk'] at s12;exact s12
        · refine cF (dF hg) ?_;rw[if_neg hg] at er;have:I6.mix (k+1) (bL o p ex) p=I6.mix k (bL o p ex) p:=by
            refine I6.ext' λ j hj=>?_;rw[I6.bS _ _ _ _ hj,I6.bS _ _ _ _ hj]
            by_cases h3:j<k
            · rw[if_pos (by omega),if_pos h3]
            · rw[if_neg h3]
              split
              · obtain rfl:j=k:=by omega
                exact er
              · rfl
          rw[this]; exact s10
      · by_cases hg:ex.at' k>0
        · refine cT (dT hg) ⟨_,s8.cellsIn 4 rfl,aj (CA w8 p) ?_⟩;rintro v w13 ⟨rfl,c13⟩;exact⟨_,rfl,by rw[hp,dT hg],s8.quiet c13⟩
        · exact cF (dF hg) ⟨by rw[dF hg],s8⟩
    · obtain rfl:k=6:=by omega
      refine cF (by simp) ⟨λ g w14=>g=decide (bL o p ex≠p/\nr (bL o p ex)=false)/\St w w14 (Sep (L b r5 (bL o p ex))),?_,p,s8.cellsIn 4 rfl,aj (CA w8 p) ?_⟩
      · rintro w14 g ⟨rfl,s14⟩ -
        by_cases hg:bL o p ex≠p/\nr (bL o p ex)=false
        · refine cT (dT hg) (s14.aA 2 rfl z6.vs rfl (I6.one _) λ w15 s15=>⟨_,s15.cellsIn 2 rfl,?_,s15.av⟩);rw[vl,if_pos hg]
        · refine cF (dF hg) ⟨_,s14.cellsIn 0 rfl,s14.aA 2 rfl (bL o p ex).vs rfl (I6.one _) λ w15 s15=>⟨_,s15.cellsIn 2 rfl,?_,s15.av⟩⟩;rw[vl,if_neg hg]
      · rintro v w17 ⟨rfl,c17⟩;have s17:=s8.quiet c17;refine⟨_,rfl,cF (by rw[hp]; rfl) ⟨_,s17.cellsIn 0 rfl,_,s17.cellsIn 4 rfl,?_⟩⟩;rw[I6.wM,I6.beq_eq]
        by_cases hne:bL o p ex=p
        · exact cF (by simp[hne]) ⟨by simp[hne],s17⟩
        · refine cT (by simp[hne]) ⟨_,s17.cellsIn 0 rfl,aj (CA w17 _) ?_⟩;rintro v w18 ⟨rfl,c18⟩;refine⟨_,rfl,?_,s17.quiet c18⟩;rw[I6.wM]
          cases nr (bL o p ex)<;>simp[hne]
  · refine⟨_,_,_,_,s6.cellsIn 3 rfl,p,s6.cellsIn 2 rfl,?_,?_⟩
    · refine aj (K:=λ v w'=>∃ b,v=.func (.func 229) #[] #[.pointer (some ⟨b,0,none⟩)]/\St w w' (Sep (ai b o.cells.toArray 23 :: [ai r4 z6.vs.toArray 103,ai r3 ex.vs.toArray 41,ai r2 p.vs.toArray 103,ai r1 o.cells.toArray 23,emp]))) (gh ?_) ?_
      · exact s6.ax o.cells.toArray λ b w' s'=>⟨b,rfl,s'⟩
      · rintro v w19 ⟨b,rfl,s19⟩;refine⟨_,rfl,s19.cellsIn 3 rfl,s19.ax z6.vs.toArray λ r6 w20 s20=>⟨s20.cellsIn 4 rfl,s20.aA 0 rfl p.vs rfl (I6.one _) λ w21 s21=>⟨b,rfl,s21.aq [0,1,2,3,4,6]⟩⟩⟩
    · refine s6.ax z6.vs.toArray λ r7 w22 s22=>⟨s22.cellsIn 3 rfl,s22.cellsIn 4 rfl,?_⟩;refine aj (K:=λ v w'=>∃ b,v=.func (.func 229) #[] #[.pointer (some ⟨b,0,none⟩)]/\St w w' (Sep (ai b o.cells.toArray 23 :: [ai r7 z6.vs.toArray 103,ai r4 z6.vs.toArray 103,ai r3 ex.vs.toArray 41,ai r2 p.vs.toArray 103,ai r1 o.cells.toArray 23,emp]))) (gh ?_) ?_
      · exact s22.ax o.cells.toArray λ b w' s'=>⟨b,rfl,s'⟩
      · rintro v w23 ⟨b,rfl,s23⟩;exact⟨_,rfl,s23.cellsIn 4 rfl,s23.aA 1 rfl p.vs rfl (I6.one _) λ w24 s24=>⟨b,rfl,s24.aq [1,0,2,3,4,6]⟩⟩
def gD(a:OA)(b c:Nat)(w:World)(K:KP):Prop:=cond (a).isNone (K (.slice none 0 0) w) (ak w (.cells #[] 170) λ d e=>aZ prog (Builtin.append_ #[95,95] 95 #[.slice (some ⟨d,0,none⟩) 0 0,.slice a b c]) e λ a b=>∃ c d e,a=(.slice c d e)/\K (.slice c d e) b)
theorem kR{a1 l1 c1 w K}(h:gD a1 l1 c1 w K):CP 80 #[.slice a1 l1 c1] w (K):=ah (ay []) func80 (by kernel_rfl) (by kernel_rfl) h
def gY(a:OA)(b c:Nat)(w:World)(K:KP):Prop:=cond (a).isNone (K (.slice none 0 0) w) (ak w (.cells #[] 159) λ d e=>aZ prog (Builtin.append_ #[96,96] 96 #[.slice (some ⟨d,0,none⟩) 0 0,.slice a b c]) e λ a b=>∃ c d e,a=(.slice c d e)/\K (.slice c d e) b)
theorem lU{a1 l1 c1 w K}(h:gY a1 l1 c1 w K):CP 81 #[.slice a1 l1 c1] w (K):=ah (ay []) func81 (by kernel_rfl) (by kernel_rfl) h
def kQ(a:OA)(b c:Nat)(w:World)(K:KP):Prop:=cond (a).isNone (K (.slice none 0 0) w) (ak w (.cells #[] 174) λ d e=>aZ prog (Builtin.append_ #[97,97] 97 #[.slice (some ⟨d,0,none⟩) 0 0,.slice a b c]) e λ a b=>∃ c d e,a=(.slice c d e)/\K (.slice c d e) b)
theorem pZ{a1 l1 c1 w K}(h:kQ a1 l1 c1 w K):CP 82 #[.slice a1 l1 c1] w (K):=ah (ay []) func82 (by kernel_rfl) (by kernel_rfl) h
def iY(a:OA)(b c:Nat)(w:World)(K:KP):Prop:=cond (a).isNone (K (.slice none 0 0) w) (ak w (.cells #[] 177) λ d e=>aZ prog (Builtin.append_ #[98,98] 98 #[.slice (some ⟨d,0,none⟩) 0 0,.slice a b c]) e λ a b=>∃ c d e,a=(.slice c d e)/\K (.slice c d e) b)
theorem nt{a1 l1 c1 w K}(h:iY a1 l1 c1 w K):CP 83 #[.slice a1 l1 c1] w (K):=ah (ay []) func83 (by kernel_rfl) (by kernel_rfl) h
def gZ(a:OA)(b c:Nat)(w:World)(K:KP):Prop:=cond (a).isNone (K (.slice none 0 0) w) (ak w (.cells #[] 41) λ d e=>aZ prog (Builtin.append_ #[154,154] 154 #[.slice (some ⟨d,0,none⟩) 0 0,.slice a b c]) e λ a b=>∃ c d e,a=(.slice c d e)/\K (.slice c d e) b)
theorem lV{a1 l1 c1 w K}(h:gZ a1 l1 c1 w K):CP 187 #[.slice a1 l1 c1] w (K):=ah (ay []) func187 (by kernel_rfl) (by kernel_rfl) h
theorem N9:gL prog 154 41 (.agg z6.vs.toArray) 6 48:=gL.mk' underlying154 (by kernel_rfl) rfl (by decide)
theorem cS(u:I6):u.vs.length=6:=rfl
abbrev AK (a:OA) (c:Nat) (l:List I6):aD:=bW 41 6 I6.vs a c l
theorem JM{w0 w:World}{B:aD}(s:St w0 w B){a:OA}{c:Nat}{l:List I6}(h:Jp w a l)(hl:l.length<=1000) :
    CP 187 #[.slice a l.length c] w (λ r w'=>∃ a' c',r=.slice a' l.length c'/\St w0 w' (star (AK a' c' l) B)):=by
  refine lV ?_;unfold gZ;exact nM (c:=c) (K:=λ r w'=>∃ a' c',r=.slice a' l.length c'/\St w0 w' (star (AK a' c' l) B)) N9 cS I6.one s h (by omega) (by omega) λ a' c' w' s'=>⟨a',c',rfl,s'⟩
def IP(sup tot now ask:I6)(k:Nat):Bool:=decide (ask.at' k<now.at' k)&&decide (tot.at' k-now.at' k+ask.at' k<sup.at' k)
def iX(sup tot now ask:I6):Bool:=(List.range 6).any (IP sup tot now ask)
theorem IQ(w:World)(sup tot now ask:I6)(h1:I6.Le sup 1000000)(h2:I6.Le tot 1000000)(h3:I6.Le now 1000000)(h4:I6.Le ask 1000000) :
    CP 189 #[.agg sup.vs.toArray,.agg tot.vs.toArray,.agg now.vs.toArray,.agg ask.vs.toArray] w (λ r w'=>r=.bool (iX sup tot now ask)/\az w w' []):=by
  refine oS ?_;unfold jU;refine(St.start w).one.ax sup.vs.toArray λ r1 w1 s1=>s1.ax tot.vs.toArray λ r2 w2 s2=>s2.ax now.vs.toArray λ r3 w3 s3=>s3.ax ask.vs.toArray λ r4 w4 s4=>?_;refine⟨λ n w5 m=>∃ k:Nat,n=k/\k<=6/\m=6-k/\(∀ j,j<k->IP sup tot now ask j=false)/\az w4 w5 [],⟨6,0,rfl,by omega,by omega,λ j hj=>by omega,az.refl _ _⟩,?_⟩;rintro w5 m n ⟨k,rfl,hk,hm,ha,hc⟩ -
  by_cases hlt:(k:Int)<6
  · have hk' : k<6:=by omega
    have c5:az w4 w5.drew []:=hc.trans (az.drew w5 []) (by simp);have s5:=s4.quiet c5;have q1:=h1 k hk'; have q2:=h2 k hk'; have q3:=h3 k hk'; have q4:=h4 k hk';have ge1:=aM s5 3 rfl hk'; have ge2:=aM s5 2 rfl hk'; have ge3:=aM s5 1 rfl hk'; have ge4:=aM s5 0 rfl hk';refine cT (dT hlt) ⟨λ b w6=>b=IP sup tot now ask k/\az w4 w6 [],?_,by omega,by omega,_,by rw[gM,ge4],by omega,by omega,_,by rw[gM,ge3],?_⟩
    · rintro w6 b ⟨rfl,c6⟩ -
      cases hr:IP sup tot now ask k with
      | true=>exact cT rfl ⟨by rw[iX,List.any_eq_true.2 ⟨k,List.mem_range.2 hk',hr⟩],(s4.quiet c6).av⟩
      | false =>
        refine cF rfl ⟨6-(k+1),by omega,k+1,inc (by decide) hk',by omega,rfl,λ j hj=>?_,c6⟩;rcases Nat.lt_or_ge j k with h' | h'
        · exact ha j h'
        · obtain rfl:j=k:=by omega
          exact hr
    · by_cases g:ask.at' k<now.at' k
      · refine cT (dT g) ⟨by omega,by omega,_,by rw[gM,ge2],by omega,by omega,_,by rw[gM,ge3],by omega,by omega,_,by rw[gM,ge4],by omega,by omega,_,by rw[gM,ge1],?_,c5⟩;rw[aC (n:=tot.at' k-now.at' k) ⟨by omega,by omega⟩,aC ⟨by omega,by omega⟩,IP,dT g,Bool.true_and]
      · exact cF (dF g) ⟨by rw[IP,dF g,Bool.false_and],c5⟩
  · obtain rfl:k=6:=by omega
    refine cF (by simp) ⟨?_,(s4.quiet hc).av⟩;have:iX sup tot now ask=false:=by
      rw[iX,List.any_eq_false];intro j hj;rw[ha j (List.mem_range.1 hj)]; simp
    rw[this]
def yA(sup tot now ask:Int):Int:=if ask<now then now-(if (if 0>tot-sup then 0 else tot-sup)<now-ask then (if 0>tot-sup then 0 else tot-sup) else now-ask) else ask
def om(sup tot now ask:I6):I6:=I6.of λ k=>yA (sup.at' k) (tot.at' k) (now.at' k) (ask.at' k)
theorem DZ{s t n a B:Int}(h3:0<=n/\n<=B)(h4:0<=a/\a<=B):0<=yA s t n a/\yA s t n a<=B:=by
  unfold yA
  split
  · split<;>split<;>omega
  · omega
theorem K7{s t n a:I6}{B:Int}(h3:I6.Le n B)(h4:I6.Le a B):I6.Le (om s t n a) B:=λ k hk=>by
  rw[om,I6.yx _ _ hk]; exact DZ (h3 k hk) (h4 k hk)
theorem K8(w:World)(sup tot now ask:I6)(h1:I6.Le sup 1000000)(h2:I6.Le tot 1000000)(h3:I6.Le now 1000000)(h4:I6.Le ask 1000000) :
    CP 190 #[.agg sup.vs.toArray,.agg tot.vs.toArray,.agg now.vs.toArray,.agg ask.vs.toArray] w (λ r w'=>r=.agg (om sup tot now ask).vs.toArray/\az w w' []):=by
  refine p7 ?_;unfold kY;refine(St.start w).one.ax sup.vs.toArray λ r1 w1 s1=>s1.ax tot.vs.toArray λ r2 w2 s2=>s2.ax now.vs.toArray λ r3 w3 s3=>s3.ax ask.vs.toArray λ r4 w4 s4=>s4.ax z6.vs.toArray λ r5 w5 s5=>?_;let I:Nat->World->Prop:=λ k w'=>St w w' (Sep [ai r5 z6.vs.toArray 41,ai r4 (I6.mix k (om sup tot now ask) ask).vs.toArray 41,ai r3 now.vs.toArray 41,ai r2 tot.vs.toArray 41,ai r1 sup.vs.toArray 41,emp]);refine⟨λ n w6 m=>∃ k:Nat,n=k/\k<=6/\m=6-k/\I k w6,⟨6,0,rfl,by omega,by omega,s5⟩,?_⟩;rintro w6 m n ⟨k,rfl,hk,hm,s6⟩ -
  by_cases hlt:(k:Int)<6
  · have hk' : k<6:=by omega
    have s7:=St.quiet s6 (az.drew _ _);have s8:=s7.quiet (az.drew _ _);have q1:=h1 k hk'; have q2:=h2 k hk'; have q3:=h3 k hk'; have q4:=h4 k hk';have ea:(I6.mix k (om sup tot now ask) ask).at' k=ask.at' k:=by rw[I6.bS _ _ _ _ hk',if_neg (by omega)]
    have ep:(om sup tot now ask).at' k=yA (sup.at' k) (tot.at' k) (now.at' k) (ask.at' k):=I6.yx _ _ hk';refine cT (dT hlt) ⟨I (k+1),?_,by omega,by omega,ask.at' k,by rw[gM,aM s7 1 rfl hk',ea],by omega,by omega,now.at' k,by rw[gM,aM s7 2 rfl hk'],?_⟩
    · rintro w9 s9 -;exact⟨6-(k+1),by omega,k+1,inc (by decide) hk',by omega,rfl,s9⟩
    · by_cases g:ask.at' k<now.at' k
      · refine cT (dT g) ⟨by omega,by omega,now.at' k,by rw[gM,aM s8 2 rfl hk'],by omega,by omega,now.at' k,by rw[gM,aM s8 2 rfl hk'],by omega,by omega,ask.at' k,by rw[gM,aM s8 1 rfl hk',ea],
          by omega,by omega,tot.at' k,by rw[gM,aM s8 3 rfl hk'],by omega,by omega,sup.at' k,by rw[gM,aM s8 4 rfl hk'],by omega,by omega,?_⟩
        have hp:=DZ (s:=sup.at' k) (t:=tot.at' k) q3 q4;rw[yA,if_pos g] at ep hp;rw[gM,aC (n:=tot.at' k-sup.at' k) ⟨by omega,by omega⟩,aC (n:=now.at' k-ask.at' k) ⟨by omega,by omega⟩,aC ⟨by omega,by omega⟩,<- ep];refine s8.aH 1 rfl hk' rfl λ w9 s9=>?_;rw[I6.fM _ _ _ hk'] at s9;exact s9
      · refine cF (dF g) ?_;rw[yA,if_neg g] at ep;have:I6.mix (k+1) (om sup tot now ask) ask=I6.mix k (om sup tot now ask) ask:=by
          refine I6.ext' λ j hj=>?_;rw[I6.bS _ _ _ _ hj,I6.bS _ _ _ _ hj]
          by_cases h3:j<k
          · rw[if_pos (by omega),if_pos h3]
          · rw[if_neg h3]
            split
            · obtain rfl:j=k:=by omega
              exact ep
            · rfl
        show I (k+1) _;simp only[I];rw[this]; exact s7
  · obtain rfl:k=6:=by omega
    exact cF (by simp) ⟨_,St.cellsIn s6 1 rfl,St.aA s6 0 rfl (om sup tot now ask).vs rfl (I6.one _) λ w8 s8=>⟨_,s8.cellsIn 0 rfl,rfl,s8.av⟩⟩
theorem L7{w:World}{p:Int}(hp:1<=p/\p<=3){sup:I6}(hs:I6.Le sup 4){a1 a2:OA}{c1 c2:Nat}{l1 l2:List I6}(h1:Jp w a1 l1)(h2:Jp w a2 l2)(hl:l2.length=l1.length)(h8:l1.length<=8)(b1:∀ u∈l1,I6.Le u 4)(b2:∀ u∈l2,I6.Le u 4) :
    CP 186 #[iv p,.agg sup.vs.toArray,.slice a1 l1.length c1,.slice a2 l2.length c2] w (λ r w'=>r=iv 0/\az w w' []):=by
  refine qZ ?_;unfold mN;refine(St.start w).one.ax sup.vs.toArray λ r1 w1 s1=>⟨λ b w2=>b=false/\w2=w1,?_,cF (dF (by omega)) ⟨dF (by omega),rfl⟩⟩;rintro w2 b ⟨rfl,rfl⟩ -;refine cF rfl ⟨λ b w3=>b=false/\w3=w2,?_,cF (by simp[hl]) ⟨dF (by omega),rfl⟩⟩;rintro w3 b ⟨rfl,rfl⟩ -;refine cF rfl ⟨_,s1.cellsIn 0 rfl,aj (cJ w3 sup) ?_⟩;rintro v w4 ⟨rfl,c4⟩;have s4:=s1.quiet c4;refine⟨_,rfl,cF (by rw[leq hs]; rfl) ⟨λ n w5 m=>∃ k:Nat,n=k/\k<=2/\m=2-k/\az w w5 [],⟨2,0,rfl,by omega,by omega,s4.av⟩,?_⟩⟩;rintro w5 m n ⟨k,rfl,hk,hm,c5⟩ -
  by_cases hlt:(k:Int)<2
  · have hk' : k<2:=by omega
    obtain⟨a,c,l,e1,hr,hb,hl8⟩:∃ (a:OA) (c:Nat) (l:List I6),(#[.slice a1 l1.length c1,.slice a2 l2.length c2]:Array Value)[(k:Int).toNat*1]? = some (.slice a l.length c)/\Jp w a l/\(∀ u∈l,I6.Le u 4)/\l.length<=8:=by
      match k,hk' with
      | 0,_=>exact⟨a1,c1,l1,rfl,h1,b1,h8⟩
      | 1,_=>exact⟨a2,c2,l2,rfl,h2,b2,by omega⟩
    refine cT (dT hlt) ⟨by omega,by omega,_,_,_,e1,λ n w6 m=>∃ j:Nat,n=j/\j<=l.length/\m=l.length-j/\az w w6 [],⟨l.length,0,rfl,by omega,by omega,c5⟩,?_⟩;rintro w6 m6 n6 ⟨j,rfl,hj,hm6,c6⟩ -
    by_cases hlt6:(j:Int)<(l.length:Int)
    · have hx:l[j]? = some (l[j]'(by omega)):=gE (by omega);generalize l[j]'(by omega)=x at hx;obtain⟨q,hq,hcl⟩:=(hr.av c6).at hx;refine cT (by simpa using hlt6) ?_;rw[hq];refine⟨by omega,by omega,x,hcl,(St.start' c6).one.ax z6.vs.toArray λ r2 w7 s7=>s7.aA 0 rfl x.vs rfl (I6.one _) λ w8 s8=>⟨_,s8.cellsIn 0 rfl,aj (cJ w8 x) ?_⟩⟩;rintro v w9 ⟨rfl,c9⟩;exact⟨_,rfl,cF (by rw[leq (hb x (List.mem_of_getElem? hx))]; rfl) ⟨l.length-(j+1),by omega,j+1,aC ⟨by omega,by omega⟩,by omega,rfl,(s8.quiet c9).av⟩⟩
    · exact cF (by simpa using hlt6) ⟨2-(k+1),by omega,k+1,inc (by decide) hk',by omega,rfl,c6⟩
  · exact cF (dF hlt) ⟨rfl,c5⟩
def lZ(p:Int)(sup:I6)(out:List I6)(i:Nat)(ask:I6):List I6 :=
  if p=2 then (if iX sup (gK out) (out.getD i z6) ask then out else out.set i ask)
  else if p=3 then out.set i (om sup (gK out) (out.getD i z6) ask) else out.set i ask
def vz(p:Int)(sup:I6)(bef asked:List I6):Nat->List I6
  | 0=>bef
  | k+1=>lZ p sup (vz p sup bef asked k) k (asked.getD k z6)
def Tq(p:Int)(sup:I6)(bef asked:List I6):List I6:=vz p sup bef asked asked.length
theorem wI{l:List I6}{B:Int}(h:∀ u∈l,I6.Le u B)(hB:0<=B)(i:Nat):I6.Le (l.getD i z6) B:=by
  rw[List.getD_eq_getElem?_getD]
  cases hg:l[i]? with
  | none=>exact λ k _=>by rw[show(none:Option I6).getD z6=z6 from rfl,tJ]; omega
  | some u=>exact h u (List.mem_of_getElem? hg)
theorem FO{l:List I6}{B:Int}(h:∀ u∈l,I6.Le u B){x:I6}(hx:I6.Le x B)(i:Nat):∀ u∈l.set i x,I6.Le u B:=λ u hu=>by
  rcases List.mem_or_eq_of_mem_set hu with h' | rfl
  · exact h u h'
  · exact hx
theorem Ja{p:Int}{sup:I6}{out:List I6}{i:Nat}{ask:I6}{B:Int}(hB:0<=B)(h:∀ u∈out,I6.Le u B)(ha:I6.Le ask B):(lZ p sup out i ask).length=out.length/\∀ u∈lZ p sup out i ask,I6.Le u B:=by
  unfold lZ
  split
  · split
    · exact⟨rfl,h⟩
    · exact⟨by simp,FO h ha i⟩
  · split
    · exact⟨by simp,FO h (K7 (wI h hB i) ha) i⟩
    · exact⟨by simp,FO h ha i⟩
theorem Cz{p:Int}{sup:I6}{bef asked:List I6}{B:Int}(hB:0<=B)(h:∀ u∈bef,I6.Le u B)(ha:∀ u∈asked,I6.Le u B):∀ k,(vz p sup bef asked k).length=bef.length/\∀ u∈vz p sup bef asked k,I6.Le u B
  | 0=>⟨rfl,h⟩
  | k+1=>by
    obtain⟨h1,h2⟩:=Cz (p:=p) (sup:=sup) hB h ha k;obtain⟨h3,h4⟩:=Ja (p:=p) (sup:=sup) (i:=k) hB h2 (wI ha hB k);exact⟨h3.trans h1,h4⟩
theorem L6{w0 w:World}{B:aD}(s:St w0 w B){p:Int}(hp:1<=p/\p<=3){sup:I6}(hs:I6.Le sup 4){a1 a2:OA}{c1 c2:Nat}{l1 l2:List I6}(h1:Jp w a1 l1)(h2:Jp w a2 l2)(hl:l2.length=l1.length)(h8:l1.length<=8)(b1:∀ u∈l1,I6.Le u 4)(b2:∀ u∈l2,I6.Le u 4) :
    CP 149 #[iv p,.agg sup.vs.toArray,.slice a1 l1.length c1,.slice a2 l2.length c2] w (λ r w'=>∃ a c,r=.tuple #[.slice a l1.length c,iv 0]/\St w0 w' (star (AK a c (Tq p sup l1 l2)) B)/\az w w' []):=by
  refine qY ?_;unfold mM;refine(St.start w).one.ax sup.vs.toArray λ r1 w1 t1=>⟨_,t1.cellsIn 0 rfl,aj (L7 hp hs (h1.av t1.av) (h2.av t1.av) hl h8 b1 b2) ?_⟩;rintro v w2 ⟨rfl,c2⟩;have t2:=t1.quiet c2;refine⟨_,rfl,cF rfl (aj (JM t2 (h1.av t2.av) (by omega)) ?_)⟩;rintro v w3 ⟨a,c,rfl,t3⟩;refine⟨_,_,_,rfl,?_⟩;have len:∀ k,(vz p sup l1 l2 k).length=l1.length:=λ k=>(Cz (B:=4) (by omega) b1 b2 k).1;have le4:∀ k,∀ u∈vz p sup l1 l2 k,I6.Le u 4:=λ k=>(Cz (B:=4) (by omega) b1 b2 k).2;have up:∀ {u:I6},I6.Le u 4->I6.Le u 1000000:=λ h k hk=>by have:=h k hk; omega
  have tsum:∀ k,I6.Le (gK (vz p sup l1 l2 k)) 1000000:=λ k j hj=>by
    have:=Cr (le4 k) j hj;rw[gK,I6.yx _ _ hj];have:=len k;omega
  let Q:Nat->aD:=λ k=>Sep [AK a c (vz p sup l1 l2 k),ai r1 sup.vs.toArray 41,emp];refine⟨λ n w4 m=>∃ k:Nat,n=k/\k<=l2.length/\m=l2.length-k/\St w w4 (Q k),⟨l2.length,0,rfl,by omega,by omega,t3⟩,?_⟩;rintro w4 m n ⟨k,rfl,hk,hm,t4⟩ -
  by_cases hlt:(k:Int)<(l2.length:Int)
  · have hx:l2[k]? = some (l2[k]'(by omega)):=gE (by omega);generalize l2[k]'(by omega)=x at hx;have hxD:l2.getD k z6=x:=by rw[List.getD_eq_getElem?_getD,hx]; rfl
    have hx4:=b2 x (List.mem_of_getElem? hx);have hk1:k<l1.length:=by omega
    obtain⟨q,hq,hcl⟩:=(h2.av (St.av t4)).at hx;have hg:∃ g,a=some ⟨g,0,none⟩:=St.uC (l:=vz p sup l1 l2 k) (St.out t4 0 rfl) (by rw[len]; omega);obtain⟨g,rfl⟩:=hg;have hnow:(vz p sup l1 l2 k)[k]? = some ((vz p sup l1 l2 k).getD k z6):=by
      rw[List.getD_eq_getElem?_getD,gE (by rw[len]; exact hk1)]; rfl
    have hnow4:=wI (le4 k) (by omega) k;refine cT (by simpa using hlt) ⟨λ w5=>St w w5 (Q (k+1)),?_,?_⟩
    · rintro w5 t5 -;exact⟨l2.length-(k+1),by omega,k+1,aC ⟨by omega,by omega⟩,by omega,rfl,t5⟩
    rw[hq];refine⟨by omega,by omega,x,hcl,St.ax t4 z6.vs.toArray λ r2 w6 t6=>t6.aA 0 rfl x.vs rfl (I6.one _) λ w7 t7=>?_⟩;have rd7:Jp w7 (some ⟨g,0,none⟩) (vz p sup l1 l2 k):=St.rd cS (t7.out 1 rfl);have hsum:=Sv (c:=c) rd7 (λ u hu=>up (le4 k u hu)) (by rw[len]; omega);rw[len] at hsum;refine aj hsum ?_;rintro v w8 ⟨rfl,c8⟩;refine⟨_,rfl,(t7.quiet c8).ax z6.vs.toArray λ r3 w9 t9=>t9.aA 0 rfl (gK (vz p sup l1 l2 k)).vs rfl (I6.one _) λ w10 t10=>?_⟩;generalize htot:gK (vz p sup l1 l2 k)=tot at t10;have ht6:I6.Le tot 1000000:=htot▸tsum k;let now:=(vz p sup l1 l2 k).getD k z6;have rdN:∀ {w' : World} {l:List aD} {y:I6},St w w' (Sep (ai r3 tot.vs.toArray 41 :: ai r2 y.vs.toArray 41 :: AK (some ⟨g,0,none⟩) c (vz p sup l1 l2 k) :: l))->af w' (Addr.add ⟨g,0,none⟩ (((k:Nat):Int).toNat*6)) 0 now.vs:=λ t=>by
      obtain⟨q',hq',hc'⟩:=cH.at (St.rd cS (t.out 2 rfl)) hnow
      cases hq'; exact hc'
    have t10' : St w w10 (Sep [ai r3 tot.vs.toArray 41,ai r2 x.vs.toArray 41,AK (some ⟨g,0,none⟩) c (vz p sup l1 l2 k),ai r1 sup.vs.toArray 41,emp]):=t10;have t11:=t10'.quiet (az.drew w10 []);refine⟨λ w'=>∃ y:I6,vz p sup l1 l2 (k+1)=(vz p sup l1 l2 k).set k y/\St w w' (Sep [ai r3 tot.vs.toArray 41,ai r2 y.vs.toArray 41,AK (some ⟨g,0,none⟩) c (vz p sup l1 l2 k),ai r1 sup.vs.toArray 41,emp]),?_,?_⟩
    · rintro w11 ⟨y,ey,t⟩ -;refine⟨_,t.cellsIn 1 rfl,by omega,by omega,?_⟩;rw[Int.toNat_natCast];refine St.Em cS (I6.one y) (t.out 2 rfl) (i:=k) (by rw[len]; exact hk1) λ w12 t12=>?_;show St w w12 (Q (k+1));simp only[Q];rw[ey];exact(t12.back (l:=[ai r3 tot.vs.toArray 41,ai r2 y.vs.toArray 41,AK (some ⟨g,0,none⟩) c (vz p sup l1 l2 k),ai r1 sup.vs.toArray 41,emp]) (i:=2) (by simp)).aq [2,3,4]
    · have estep:vz p sup l1 l2 (k+1)=lZ p sup (vz p sup l1 l2 k) k x:=by show lZ _ _ _ _ (l2.getD k z6)=_; rw[hxD]
      by_cases p2:p=2
      · refine cT (by simpa using p2) ⟨_,t11.cellsIn 3 rfl,_,t11.cellsIn 0 rfl,by omega,by omega,_,rdN t11,_,t11.cellsIn 1 rfl,aj (IQ _ sup tot now x (up hs) ht6 (up hnow4) (up hx4)) ?_⟩;rintro v w13 ⟨rfl,c13⟩;refine⟨_,rfl,?_⟩;have t13:=t11.quiet c13;have e2:vz p sup l1 l2 (k+1)=if iX sup tot now x then vz p sup l1 l2 k else (vz p sup l1 l2 k).set k x:=by
          rw[estep,lZ,if_pos p2,htot]
        cases hr:iX sup tot now x with
        | true =>
          refine cT rfl ?_;rw[hr,if_pos rfl] at e2;show St w w13 (Q (k+1));simp only[Q];rw[e2];exact t13.aq [2,3,4]
        | false =>
          rw[hr] at e2;exact cF rfl ⟨x,e2,t13⟩
      · refine cF (by simpa using p2) ?_
        by_cases p3:p=3
        · refine cT (by simpa using p3) ⟨_,t11.cellsIn 3 rfl,_,t11.cellsIn 0 rfl,by omega,by omega,_,rdN t11,_,t11.cellsIn 1 rfl,aj (K8 _ sup tot now x (up hs) ht6 (up hnow4) (up hx4)) ?_⟩;rintro v w14 ⟨rfl,c14⟩;refine⟨_,rfl,(t11.quiet c14).aA 1 rfl (om sup tot now x).vs rfl (I6.one _) λ w15 t15=>⟨_,?_,t15⟩⟩;rw[estep,lZ,if_neg p2,if_pos p3,htot]
        · refine cF (by simpa using p3) ⟨x,?_,t10'⟩;rw[estep,lZ,if_neg p2,if_neg p3]
  · obtain rfl:k=l2.length:=by omega
    refine cF (by simp) ⟨a,c,rfl,?_,St.av t4⟩;exact(s.after (St.aq t4 [0]).single)
end Go.Proofs.YtpihmghnbplohaaGreatDoor

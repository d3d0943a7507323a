import Derived.Test.YtpihmghnbplohaaGreatDoorM08
import Derived.Test.YtpihmghnbplohaaGreatDoorM11
import Derived.Test.YtpihmghnbplohaaGreatDoorM12
set_option linter.unusedVariables false
set_option maxRecDepth 100000
namespace Go.Proofs.YtpihmghnbplohaaGreatDoor
open Go Go.Vc Tryz
def zK(wt:Pr->Int)(l:List Pr)(u:I6):Nat->Int
  | 0=>0
  | k+1=>zK wt l u k+u.at' k*((l[k]?.map wt).getD 0)
def Rh(wt:Pr->Int)(l:List Pr)(u:I6):Int:=zK wt l u l.length
theorem Cs{wt:Pr->Int}{l:List Pr}{u:I6}(hu:I6.Le u 4)(hw:∀ p∈l,0<=wt p/\wt p<=1000000):∀ k,k<=6->0<=zK wt l u k/\zK wt l u k<=(k:Int)*4000000
  | 0,_=>by simp[zK]
  | k+1,hk=>by
    have ih:=Cs hu hw k (by omega);have h1:=hu k (by omega);have h2:0<=(l[k]?.map wt).getD 0/\(l[k]?.map wt).getD 0<=1000000:=by
      cases hg:l[k]? with
      | none=>simp
      | some p=>exact hw p (List.mem_of_getElem? hg)
    simp only[zK];generalize(l[k]?.map wt).getD 0=y at h2 ⊢;generalize u.at' k=x at h1 ⊢;have h3:0<=x*y:=Int.mul_nonneg h1.1 h2.1;have h4:x*y<=4*1000000:=Int.le_trans (Int.mul_le_mul_of_nonneg_right h1.2 h2.1) (Int.mul_le_mul_of_nonneg_left h2.2 (by omega));omega
theorem Mg{w:World}{a:OA}{c:Nat}{l:List Pr}(h:dL w a l)(hcap:l.length<=c)(ho:cY l){u:I6}(hu:I6.Le u 4){wt:Pr->Int}(hw:∀ p∈l,0<=wt p/\wt p<=1000000){v:Value}(hv:∀ (w' : World) (p:Pr) (R:Ending->World->Prop),az w w' []->p∈l->(∀ w'',az w' w'' []->R (.returned (iv (wt p))) w'')->cC prog v #[.agg p.cells.toArray] w' R) :
    CP 117 #[.agg ((.slice a l.length c) :: u.vs:List Value).toArray,v] w (λ r w'=>r=iv (Rh wt l u)/\az w w' []):=by
  refine nE ?_;unfold jt;have h6:=ho.l2;refine(St.start w).one.ax ((.slice a l.length c) :: u.vs:List Value).toArray λ r1 w1 s1=>?_;refine⟨λ b w2=>b=false/\St w w2 (Sep [ai r1 ((.slice a l.length c) :: u.vs:List Value).toArray 206,emp]),?_,_,_,_,s1.ag 0 rfl 0,aj (xG (h.av s1.av) hcap) ?_⟩
  · rintro w2 b ⟨rfl,s2⟩ -;refine cF rfl ⟨_,_,_,s2.ag 0 rfl 0,λ s n w3 m=>∃ k:Nat,n=k/\k<=l.length/\m=l.length-k/\s=zK wt l u k/\St w w3 (Sep [ai r1 ((.slice a l.length c) :: u.vs:List Value).toArray 206,emp]),⟨l.length,0,rfl,by omega,by omega,rfl,s2⟩,?_⟩;rintro w3 m s n ⟨k,rfl,hk,hm,rfl,s3⟩ -
    by_cases hlt:(k:Int)<(l.length:Int)
    · have hx:l[k]? = some (l[k]'(by omega)):=gE (by omega);generalize l[k]'(by omega)=x at hx;have hk6:k<6:=by omega
      obtain⟨_,q,rfl,hcl⟩:=(h.av s3.av) k x hx;refine cT (by simpa using hlt) ?_;refine⟨by omega,by omega,_,_,_,_,_,hcl,s3.ax ({ nm:=[],sup:=0,res:=0,pts:=0,grp:=0 }:Pr).cells.toArray λ r2 w4 s4=>s4.aA 0 rfl x.cells rfl x.one λ w5 s5=>?_⟩;have s6:=s5.quiet (az.drew _ _);have cu:∀ {w' : World} {ls:List aD},St w w' (Sep (ai r2 x.cells.toArray 170 :: ai r1 ((.slice (some q) l.length c) :: u.vs:List Value).toArray 206 :: ls))->w'.cell? (Addr.add ⟨r1,1,none⟩ (((k:Nat):Int).toNat*1))=some (iv (u.at' k)):=λ t=>by
        rw[bG,t.ag 1 rfl];have:=u.get k hk6;rw[Int.toNat_natCast,Nat.mul_one,Nat.add_comm];simpa using this
      refine⟨by omega,by omega,u.at' k,cu s6,_,_,_,_,_,s6.cellsIn 0 rfl,?_⟩;refine hv _ x _ s6.av (List.mem_of_getElem? hx) λ w6 c6=>?_;have s7:=s6.quiet c6;have b0:=Cs (l:=l) hu hw k (by omega);have b1:=Cs (l:=l) hu hw (k+1) (by omega);have e1:zK wt l u (k+1)=zK wt l u k+u.at' k*wt x:=by simp only[zK,hx,Option.map_some,Option.getD_some]
      refine⟨_,rfl,cu s7,l.length-(k+1),by omega,k+1,aC ⟨by omega,by omega⟩,by omega,rfl,?_,s7.aq [1,2]⟩;rw[aC (n:=u.at' k*wt x) ⟨by omega,by omega⟩,aC ⟨by omega,by omega⟩,e1]
    · obtain rfl:k=l.length:=by omega
      exact cF (by simp) ⟨rfl,s3.av⟩
  · rintro v w7 ⟨⟨n,rfl,hn⟩,c7⟩;have s7:=s1.quiet c7;refine⟨_,rfl,cF (by rw[hn.2 ho]; rfl) ⟨u,?_,aj (cJ w7 u) ?_⟩⟩
    · exact bE _ 0 λ j v hj=>by
        rw[bG,Nat.zero_add,s7.ag 0 rfl,Nat.add_comm];simpa using hj
    · rintro v w8 ⟨rfl,c8⟩;exact⟨_,rfl,by rw[leq hu]; rfl,s7.quiet c8⟩
theorem TG{l:List Pr}(ho:cY l):∀ p∈l,0<=p.pts/\p.pts<=1000000:=λ p hp=>by
  obtain⟨i,hi,rfl⟩:=List.mem_iff_getElem.1 hp;have:=(ho.good i _ (gE hi)).1;simp only[zE,Jn,Bool.and_eq_true,decide_eq_true_eq] at this;omega
def Lb(l:List Pr)(u:I6):Int:=Rh Pr.pts l u
def L9(l:List Pr)(g:Int)(u:I6):Int:=Rh (λ p=>if p.grp=g then 1 else 0) l u
theorem K9{w:World}{a:OA}{c:Nat}{l:List Pr}(h:dL w a l)(hcap:l.length<=c)(ho:cY l){u:I6}(hu:I6.Le u 4) :
    CP 75 #[.slice a l.length c,.agg u.vs.toArray] w (λ r w'=>r=iv (Lb l u)/\az w w' []):=by
  refine rG ?_;unfold nD;refine(St.start w).one.ax u.vs.toArray λ r1 w1 s1=>⟨_,s1.cellsIn 0 rfl,aj (Mg (wt:=Pr.pts) (h.av s1.av) hcap ho hu (TG ho) ?_) ?_⟩
  · intro w' p R _ _ k;refine bx (by kernel_rfl) (aj (K:=λ r w''=>r=iv p.pts/\az w' w'' []) (pK ?_) ?_)
    · unfold kg;exact(St.start w').one.ax p.cells.toArray λ r2 w2 s2=>⟨_,s2.ag 0 rfl 3,rfl,s2.av⟩
    · rintro r w'' ⟨rfl,hc⟩; exact k w'' hc
  · rintro v w2 ⟨rfl,c2⟩;exact⟨_,rfl,rfl,(s1.quiet c2).av⟩
theorem Ou{w:World}{a:OA}{c:Nat}{l:List Pr}(h:dL w a l)(hcap:l.length<=c)(ho:cY l){u:I6}(hu:I6.Le u 4)(g:Int) :
    CP 225 #[.slice a l.length c,iv g,.agg u.vs.toArray] w (λ r w'=>r=iv (L9 l g u)/\az w w' []):=by
  refine tS ?_;unfold qf;refine(St.start w).one.ax #[iv g] λ r0 w0 s0=>s0.ax u.vs.toArray λ r1 w1 s1=>⟨_,s1.cellsIn 0 rfl,aj (Mg (wt:=λ p=>if p.grp=g then 1 else 0) (h.av s1.av) hcap ho hu (λ p _=>by split<;>omega) ?_) ?_⟩
  · intro w' p R hc _ k;refine bx (by kernel_rfl) (aj (K:=λ r w''=>r=iv (if p.grp=g then 1 else 0)/\az w' w'' []) (qE ?_) ?_)
    · unfold mj;refine(St.start w').one.ax p.cells.toArray λ r2 w2 s2=>⟨_,s2.ag 0 rfl 4,g,?_,?_⟩
      · exact bT (s1.ag 1 rfl 0) (hc.trans s2.av (by simp))
      · by_cases e:p.grp=g
        · exact cT (by simpa using e) ⟨by rw[if_pos e],s2.av⟩
        · exact cF (by simpa using e) ⟨by rw[if_neg e],s2.av⟩
    · rintro r w'' ⟨rfl,hc⟩; exact k w'' hc
  · rintro v w2 ⟨rfl,c2⟩;exact⟨_,rfl,rfl,(s1.quiet c2).av⟩
structure Ch where
  p:I6
  want:I6
def Ch.cells(c:Ch):List Value:=c.p.on c.want.vs
def Ch.v(c:Ch):Value:=.agg c.cells.toArray
theorem Ch.one(c:Ch):∀ v∈c.cells,v.oneCell' = true:=by
  intro v hv;simp only[Ch.cells,I6.on,I6.vs,List.mem_cons,List.mem_nil_iff,or_false] at hv;rcases hv with rfl | rfl | rfl | rfl | rfl | rfl | rfl | rfl | rfl | rfl | rfl | rfl<;>rfl
theorem Ch.len(c:Ch):c.cells.length=12:=rfl
abbrev A6:Ch:=⟨z6,z6⟩
structure Ch.Ok (c:Ch):Prop where
  p:I6.Le c.p 1000000
  w:I6.Le c.want 4
abbrev EE (w:World) (a:OA) (l:List Ch):Prop:=cH 12 Ch.cells w a l
theorem bZ{w0 w:World}{l:List aD}{r:Nat}{c:Ch}{T:TypeId}(h:St w0 w (Sep l))(i:Nat)(e:l[i]? = some (ai r c.cells.toArray T)):af w ⟨r,6,none⟩ 0 c.want.vs :=
  bE _ 0 λ j v hj=>by
    have h6:j<6:=(List.getElem?_eq_some_iff.1 hj).1;rw[bG,Nat.zero_add,h.ag i e]
    match j,h6,hj with
    | 0,_,hj | 1,_,hj | 2,_,hj | 3,_,hj | 4,_,hj | 5,_,hj=>simpa[Ch.cells,I6.on,I6.vs] using hj
theorem vI{w0 w:World}{l:List aD}{r:Nat}{c:Ch}{T:TypeId}(h:St w0 w (Sep l))(i:Nat)(e:l[i]? = some (ai r c.cells.toArray T)):af w ⟨r,0,none⟩ 0 c.p.vs :=
  bE _ 0 λ j v hj=>by
    have h6:j<6:=(List.getElem?_eq_some_iff.1 hj).1;rw[bG,Nat.zero_add,Nat.zero_add,h.ag i e]
    match j,h6,hj with
    | 0,_,hj | 1,_,hj | 2,_,hj | 3,_,hj | 4,_,hj | 5,_,hj=>simpa[Ch.cells,I6.on,I6.vs] using hj
theorem iJ(w:World){p u:I6}(hp:I6.Le p 1000000)(hu:I6.Le u 4):CP 180 #[.agg p.vs.toArray,.agg u.vs.toArray] w (λ r w'=>r=iv (cost p u)/\az w w' []) :=
  PT w p u 1000000 (by omega) (λ k hk=>by have:=hp k hk; omega) hu
theorem lG{p u:I6}(hp:I6.Le p 1000000)(hu:I6.Le u 4):0<=cost p u/\cost p u<=24000000:=by
  have H:∀ k,k<6->0<=p.at' k*u.at' k/\p.at' k*u.at' k<=4000000:=λ k hk=>by
    have h1:=hp k hk;have h2:=hu k hk;exact⟨Int.mul_nonneg h1.1 h2.1,Int.le_trans (Int.mul_le_mul_of_nonneg_right h1.2 h2.1) (by omega)⟩
  have h0:=H 0 (by decide); have h1:=H 1 (by decide); have h2:=H 2 (by decide); have h3:=H 3 (by decide); have h4:=H 4 (by decide); have h5:=H 5 (by decide);simp only[I6.at'] at h0 h1 h2 h3 h4 h5;unfold cost; omega
theorem Kp{w:World}{s:Se}(n:Int):CP 179 #[.agg s.arr,iv n] w (λ r w'=>r=.bool (decide (0<=n)&&decide (n<(s.bd.length:Int)))/\az w w' []):=by
  refine vE ?_;unfold rz;refine(St.start w).one.ax s.arr λ r1 w1 s1=>?_
  by_cases h:n>=0
  · exact cT (dT h) ⟨_,_,_,s1.ag 0 rfl 1,by rw[dT (show 0<=n from h)]; rfl,s1.av⟩
  · exact cF (dF h) ⟨by rw[dF (show ¬ 0<=n from h)]; rfl,s1.av⟩
theorem JF{w:World}{a:OA}{l:List Br}(h:j7 w a l){k:Nat}{b:Br}(hk:l[k]? = some b)(j:Nat)(v:Value)(hj:b.cells[j]? = some v):∃ q,a=some q/\w.cell? (Addr.add (Addr.add q (k*4)) j)=some v:=by
  obtain⟨_,q,hq,hc⟩:=h k b hk;have:=bC hc j v hj;exact⟨q,hq,by rwa [Nat.zero_add] at this⟩
def CJ(b:Br)(c:Ch):Int:=if b.bud≠0/\b.bud<cost c.p c.want then 17 else 0
def de(l:List Pr)(nm:List UInt8):Nat×Bool:=((l.findIdx? λ p=>p.nm==nm).getD 0,l.any λ p=>p.nm==nm)
theorem nS{α:Type}{p:α->Bool}:∀ {l:List α} {k:Nat} {x:α},l[k]? = some x->p x=true->(l.take k).any p=false->l.findIdx? p=some k
  | [],_,_,h,_,_=>by simp at h
  | y :: l,0,x,h,hp,_=>by
    simp at h; subst h;rw[List.findIdx?_cons,if_pos hp]
  | y :: l,k+1,x,h,hp,ha=>by
    rw[List.take_succ_cons,List.any_cons,Bool.or_eq_false_iff] at ha;rw[List.findIdx?_cons,if_neg (by rw[ha.1]; decide),nS (by simpa using h) hp ha.2]; rfl
theorem lI{α:Type}{p:α->Bool}{l:List α}(ha:l.any p=false):l.findIdx? p=none:=by
  rw[List.findIdx?_eq_none_iff];intro x hx;simpa using(List.any_eq_false.1 ha) x hx
theorem Kg{l:List Pr}{nm:List UInt8}(h:(de l nm).2=true):(de l nm).1<l.length:=by
  unfold de at h ⊢;simp only at h ⊢
  cases hf:l.findIdx? λ p=>p.nm==nm with
  | none =>
    rw[List.findIdx?_eq_none_iff] at hf;obtain⟨x,hx,hp⟩:=List.any_eq_true.1 h;have:=hf x hx;rw[hp] at this; cases this
  | some k =>
    have:=List.of_findIdx?_eq_some hf;show k<l.length;rcases Nat.lt_or_ge k l.length with h | h
    · exact h
    · rw[List.getElem?_eq_none h] at this; exact absurd this (by simp)
theorem GA{w:World}{a:OA}{c:Nat}{l:List Pr}(h:dL w a l)(hl:l.length<=100000)(nm:List UInt8) :
    CP 168 #[.slice a l.length c,sv nm] w (λ r w'=>r=.tuple #[iv (de l nm).1,.bool (de l nm).2]/\az w w' []):=by
  refine Ax ?_;unfold Fw;refine⟨λ n w1 m=>∃ k:Nat,n=k/\k<=l.length/\m=l.length-k/\(l.take k).any (λ p=>p.nm==nm)=false/\az w w1 [],⟨l.length,0,rfl,by omega,by omega,rfl,az.refl _ _⟩,?_⟩;rintro w1 m n ⟨k,rfl,hk,hm,ha,hc⟩ -
  by_cases hlt:(k:Int)<(l.length:Int)
  · have hx:l[k]? = some (l[k]'(by omega)):=gE (by omega);generalize l[k]'(by omega)=x at hx;obtain⟨_,q,rfl,hcl⟩:=(h.av hc) k x hx;refine cT (by simpa using hlt) ⟨by omega,by omega,_,_,_,_,_,hcl,(St.start' hc).one.ax _ λ r1 w2 s2=>s2.aA 0 rfl x.cells rfl x.one λ w3 s3=>?_⟩;refine⟨_,by rw[s3.ag 0 rfl]; rfl,?_⟩
    by_cases hn:x.nm=nm
    · refine cT (by rw[hn]; simp) ⟨?_,s3.av⟩;have hp:(λ p:Pr=>p.nm==nm) x=true:=by simpa using hn
      rw[de,nS hx hp ha,jr hx hp]; rfl
    · exact cF (by rw[ia,ia]; simpa using hn) ⟨l.length-(k+1),by omega,k+1,by rw[aC ⟨by omega,by omega⟩]; rfl,by omega,rfl,fV ha hx (by simpa using hn),s3.av⟩
  · refine cF (by simpa using hlt) ⟨?_,hc⟩;rw[List.take_of_length_le (by omega)] at ha;rw[de,lI ha,ha]; rfl
abbrev Sc:=List Tk×Int
def Sc.acc(m:List UInt8)(σ:Sc):Sc:=(ry m σ.1 σ.2,σ.2)
def Sc.exp(m:List UInt8)(σ:Sc):Sc:=(ry m σ.1 σ.2,Kb m σ.1 σ.2)
def Sc.fail(k:Int)(σ:Sc):Sc:=(σ.1,mB σ.2 k)
def Sc.qc(m:Int)(σ:Sc):Sc:=(EM m σ.1 σ.2,Ju m σ.1 σ.2)
def Sc.name(σ:Sc):Sc:=(AL σ.1 σ.2,Hl σ.1 σ.2)
def Sc.next(σ:Sc):Sc:=(fE σ.1 σ.2,σ.2)
abbrev fI (w0 w:World) (b:Nat) (σ:Sc) (B:aD):Prop:=jW w0 w b σ.1 σ.2 B
def Rz(ps:List Pr)(b:I6)(nm:List UInt8)(σ:Sc):Sc:=if (de ps nm).2 then (if b.at' (de ps nm).1≠0 then σ.fail 7 else σ) else σ.fail 6
def JY(ps:List Pr)(b:I6)(nm:List UInt8)(σ:Sc):Sc:=(Rz ps b nm σ).exp [58]
def P3(σ:Sc):Sc:=if tO 4 σ.1 σ.2=0 then (σ.qc 4).fail 4 else σ.qc 4
def fu(ps:List Pr)(b:I6)(σ:Sc):I6×Sc :=
  if σ.name.2≠0 then (b,σ.name)
  else (b.put (de ps (tg σ.1 σ.2)).1 (tO 4 (JY ps b (tg σ.1 σ.2) σ.name).1 (JY ps b (tg σ.1 σ.2) σ.name).2),P3 (JY ps b (tg σ.1 σ.2) σ.name))
theorem JZ{w0 w:World}{p:Nat}{σ:Sc}{B:aD}{a:OA}{c:Nat}{l:List Pr}(h:fI w0 w p σ B)(hr:∀ {w'},az w0 w' []->dL w' a l)(hl:l.length<=6)(h0:1<=l.length)(b:I6) :
    CP 297 #[.slice a l.length c,pt p,.agg b.vs.toArray] w (λ r w'=>r=.agg (fu l b σ).1.vs.toArray/\fI w0 w' p (fu l b σ).2 B):=by
  refine qF ?_;unfold mq;refine(St.start w).one.ax b.vs.toArray λ r1 w1 s1=>s1.ax z6.vs.toArray λ r2 w2 s2=>?_;let Fr:aD:=star (Sep [ai r2 z6.vs.toArray 41,ai r1 b.vs.toArray 41,emp]) B;have h2:fI w0 w2 p σ Fr:=h.add s2;generalize hnm:tg σ.1 σ.2=nm;refine aj (Ob h2) ?_;rintro v w3 ⟨rfl,h3⟩;have h3:fI w0 w3 p σ.name Fr:=h3;refine⟨_,rfl,aj (yQ h3) ?_⟩;rintro v _ ⟨rfl,rfl⟩;have fr:∀ {w' : World} {σ' : Sc} {cs cs' : Array Value},fI w0 w' p σ' (star (Sep [ai r2 cs 41,ai r1 cs' 41,emp]) B)->St w0 w' (Sep [ai r2 cs 41,ai r1 cs' 41,emp]):=λ h=>h.frame.first;refine⟨_,rfl,?_⟩
  by_cases he:σ.name.2=0
  · have em:fu l b σ=(b.put (de l nm).1 (tO 4 (JY l b nm σ.name).1 (JY l b nm σ.name).2),P3 (JY l b nm σ.name)):=by rw[fu,if_neg (by simpa using he),hnm]
    refine cF (by simpa using he) (aj (GA (hr h3.av) (by omega) _) ?_);rintro v w6 ⟨rfl,c6⟩;rw[hnm];have h6:=h3.quiet c6;have hk6:(de l nm).1<6:=by
      cases hf:(de l nm).2 with
      | true=>have:=Kg hf; omega
      | false =>
        have:l.findIdx? (λ p=>p.nm==nm)=none:=lI hf;rw[de,this]; show 0<6; decide
    have e2:(Rz l b nm σ.name)=if (de l nm).2 then (if b.at' (de l nm).1≠0 then σ.name.fail 7 else σ.name) else σ.name.fail 6:=rfl
    refine⟨_,_,rfl,λ w7=>fI w0 w7 p (Rz l b nm σ.name) Fr,?_,?_⟩
    · rintro w7 h7 -;refine aj (eB h7 [58]) ?_;rintro v w8 ⟨rfl,h8⟩;have h8:fI w0 w8 p (JY l b nm σ.name) Fr:=h8;refine⟨rfl,aj (uD h8 4) ?_⟩;rintro v w9 ⟨rfl,h9⟩;generalize hn:tO 4 (JY l b nm σ.name).1 (JY l b nm σ.name).2=n at em ⊢;refine⟨_,rfl,λ w10=>fI w0 w10 p (P3 (JY l b nm σ.name)) Fr,?_,?_⟩
      · rintro w10 h10 -;obtain⟨B',s10,back⟩:=h10.out;refine⟨by omega,by omega,?_⟩;rw[gM];refine s10.aH 1 rfl hk6 rfl λ w11 s11=>?_;rw[I6.pg _ _ _ hk6] at s11;exact⟨_,s11.cellsIn 1 rfl,s11.aA 0 rfl _ rfl (I6.one _) λ w12 s12=>⟨_,s12.cellsIn 0 rfl,by rw[em],by rw[em]; exact(back (m':=[_,_,_]) s12).drop⟩⟩
      · by_cases h0n:n=0
        · refine cT (by simpa using h0n) (aj (iq h9 4) ?_);rintro v w13 ⟨rfl,h13⟩;exact⟨rfl,by rw[P3,if_pos (by rw[hn]; exact h0n)]; exact h13⟩
        · exact cF (by simpa using h0n) (by rw[P3,if_neg (by rw[hn]; exact h0n)]; exact h9)
    · cases hf:(de l nm).2 with
      | false =>
        rw[hf] at e2;refine cT rfl (aj (iq h6 6) ?_);rintro v w14 ⟨rfl,h14⟩;exact⟨rfl,by rw[e2]; exact h14⟩
      | true =>
        rw[hf,if_pos rfl] at e2;have s6:=fr h6;refine cF rfl ⟨by omega,by omega,_,by rw[gM]; exact aM s6 1 rfl hk6,?_⟩
        by_cases hb:b.at' (de l nm).1=0
        · rw[if_neg (by simpa using hb)] at e2;exact cF (by simpa using hb) (by rw[e2]; exact h6)
        · rw[if_pos hb] at e2;refine cT (by simpa using hb) (aj (iq h6 7) ?_);rintro v w15 ⟨rfl,h15⟩;exact⟨rfl,by rw[e2]; exact h15⟩
  · have em:fu l b σ=(b,σ.name):=by rw[fu,if_pos he]
    obtain⟨B',s4,back⟩:=h3.out;exact cT (by simpa using he) ⟨_,s4.cellsIn 1 rfl,s4.aA 0 rfl _ rfl (I6.one _) λ w12 s12=>⟨_,s12.cellsIn 0 rfl,by rw[em],by rw[em]; exact(back (m':=[_,_,_]) s12).drop⟩⟩
def th(ps:List Pr):Nat->I6->Sc->I6×Sc
  | 0,b,σ=>(b,σ)
  | f+1,b,σ=>if mQ [44] σ.1 σ.2 then th ps f (fu ps b (σ.acc [44])).1 (fu ps b (σ.acc [44])).2 else (b,σ)
def Ef(r:I6×Sc):I6×Sc:=if (r.2.exp [125]).2≠0 then (z6,r.2.exp [125]) else (r.1,r.2.exp [125])
def Ee(ps:List Pr)(σ:Sc):I6×Sc:=Ef (th ps (fu ps z6 σ).2.1.length (fu ps z6 σ).1 (fu ps z6 σ).2)
def jN(ps:List Pr)(σ:Sc):I6×Sc :=
  if σ.2≠0 then (z6,σ) else if mQ [125] (σ.exp [123]).1 (σ.exp [123]).2 then (z6,(σ.exp [123]).acc [125]) else Ee ps (σ.exp [123])
theorem Bb{m:List UInt8}{σ:Sc}(h:mQ m σ.1 σ.2=true):(σ.acc m).1.length+1=σ.1.length:=by
  show(ry m σ.1 σ.2).length+1=_;rw[ry,if_pos h];have h1:(aT σ.1 σ.2).k=3:=by
    unfold mQ at h;rw[Bool.and_eq_true] at h;exact of_decide_eq_true h.1
  unfold aT at h1;unfold fE
  split
  · rename_i he;rw[if_pos he] at h1
    cases hl:σ.1 with
    | nil=>rw[hl] at h1; cases h1
    | cons x l=>simp
  · rename_i he; rw[if_neg he] at h1; cases h1
theorem wO(l:List Tk)(e:Int):(fE l e).length<=l.length:=by unfold fE; split<;>simp
theorem cQ(m:List UInt8)(l:List Tk)(e:Int):(ry m l e).length<=l.length:=by unfold ry; split; exact wO _ _; exact Nat.le_refl _
theorem wN(l:List Tk)(e:Int):(AL l e).length<=l.length:=by unfold AL; split; exact wO _ _; exact Nat.le_refl _
theorem xo(m:Int)(l:List Tk)(e:Int):(EM m l e).length<=l.length:=by unfold EM; split; exact wO _ _; exact Nat.le_refl _
theorem BG(ps:List Pr)(b:I6)(σ:Sc):(fu ps b σ).2.1.length<=σ.1.length:=by
  unfold fu
  split
  · exact wN _ _
  · generalize tg σ.1 σ.2=nm;have h1:(Rz ps b nm σ.name).1.length<=σ.1.length:=by unfold Rz; split; split; exact wN _ _; exact wN _ _; exact wN _ _
    have h2:(JY ps b nm σ.name).1.length<=σ.1.length:=Nat.le_trans (cQ _ _ _) h1;show(P3 _).1.length<=_;unfold P3
    split
    · exact Nat.le_trans (xo _ _ _) h2
    · exact Nat.le_trans (xo _ _ _) h2
theorem EK{m:List UInt8}{σ:Sc}(h:mQ m σ.1 σ.2=false):σ.acc m=σ:=by
  show(ry m σ.1 σ.2,σ.2)=σ;rw[ry,h]; rfl
theorem QY{w0 w:World}{p:Nat}{σ:Sc}{B:aD}{a:OA}{c:Nat}{l:List Pr}(h:fI w0 w p σ B)(hr:∀ {w'},az w0 w' []->dL w' a l)(hc:l.length<=c)(ho:cY l) :
    CP 272 #[.slice a l.length c,pt p] w (λ r w'=>r=.agg (jN l σ).1.vs.toArray/\fI w0 w' p (jN l σ).2 B):=by
  refine vH ?_;unfold rH;have hl:=ho.l2; have hl1:=ho.l1;refine(St.start w).one.ax z6.vs.toArray λ r1 w1 s1=>?_;have h1:=h.add s1;refine aj (yQ h1) ?_;rintro v w2 ⟨rfl,rfl⟩;refine⟨_,rfl,?_⟩
  by_cases he:σ.2=0
  · have e0:jN l σ=if mQ [125] (σ.exp [123]).1 (σ.exp [123]).2 then (z6,(σ.exp [123]).acc [125]) else Ee l (σ.exp [123]):=by rw[jN,if_neg (by simpa using he)]
    refine cF (by simpa using he) (aj (xG (hr h1.av) hc) ?_);rintro v w4 ⟨⟨e,rfl,hee⟩,c4⟩;obtain rfl:=hee.2 ho;have h4:=h1.quiet c4;refine⟨_,rfl,cF rfl ((St.start w4).one.ax z6.vs.toArray λ r2 w7 s7=>?_)⟩;let Fr:I6->aD:=λ b=>star (Sep [ai r2 b.vs.toArray 41,emp]) (star (Sep [ai r1 z6.vs.toArray 41,emp]) B);have h7:fI w0 w7 p σ (Fr z6):=h4.add s7;refine aj (eB h7 [123]) ?_;rintro v w8 ⟨rfl,h8⟩;have h8:fI w0 w8 p (σ.exp [123]) (Fr z6):=h8;refine⟨rfl,aj (pq h8 [125]) ?_⟩;rintro v w9 ⟨rfl,h9⟩;have h9:fI w0 w9 p ((σ.exp [123]).acc [125]) (Fr z6):=h9;refine⟨_,rfl,?_⟩;have rd:∀ {w' : World} {σ' : Sc} {b:I6},fI w0 w' p σ' (Fr b)->af w' ⟨r2,0,none⟩ 0 b.vs:=λ {w' σ' b} h=>(show St w0 w' (Sep [ai r2 b.vs.toArray 41,emp]) from h.frame.first).cellsIn 0 rfl;have wr:∀ {w' : World} {σ' : Sc} {b b' : I6} {K:World->Prop},fI w0 w' p σ' (Fr b)->(∀ w2,fI w0 w2 p σ' (Fr b')->K w2)->aQ ⟨r2,0,none⟩ 0 b'.vs w' K:=λ {w' σ' b b' K} h k=>by
      obtain⟨B',s4,back⟩:=h.out;exact s4.aA 0 rfl b'.vs rfl (I6.one _) λ w12 s12=>k w12 (back (m':=[_,_]) s12)
    have fin:∀ {w' : World} {σ' : Sc} {b b' : I6},fI w0 w' p σ' (Fr b)->jN l σ=(b',σ')->aQ ⟨r1,0,none⟩ 0 b'.vs w' λ w3=>∃ u1:I6,af w3 ⟨r1,0,none⟩ 0 u1.vs/\(Value.agg u1.vs.toArray=.agg (jN l σ).1.vs.toArray/\fI w0 w3 p (jN l σ).2 B):=λ {w' σ' b b'} h hs=>by
      obtain⟨B',s4,back⟩:=h.drop.out;exact s4.aA 0 rfl b'.vs rfl (I6.one _) λ w12 s12=>⟨_,s12.cellsIn 0 rfl,by rw[hs],by rw[hs]; exact(back (m':=[_,_]) s12).drop⟩
    cases ha:mQ [125] (σ.exp [123]).1 (σ.exp [123]).2 with
    | true =>
      rw[if_pos ha] at e0;exact cT rfl ⟨_,rd h9,fin h9 e0⟩
    | false =>
      rw[if_neg (by rw[ha]; decide)] at e0;have ea:=EK ha;rw[ea] at h9;generalize σ.exp [123]=τ at *;refine cF rfl ⟨_,rd h9,aj (JZ h9 hr hl hl1 z6) ?_⟩;rintro v w11 ⟨rfl,h11⟩;refine⟨_,rfl,wr h11 λ w12 h12=>?_⟩;refine⟨λ w13 m=>∃ (f:Nat) (b:I6) (σ' : Sc),m=σ'.1.length/\σ'.1.length<=f/\Ef (th l f b σ')=Ee l τ/\fI w0 w13 p σ' (Fr b),⟨_,_,(fu l z6 τ).1,(fu l z6 τ).2,rfl,Nat.le_refl _,rfl,h12⟩,?_⟩;rintro w13 m ⟨f,b,σ',rfl,hf,hs,h13⟩ -;refine aj (pq h13 [44]) ?_;rintro v w14 ⟨rfl,h14⟩;have h14:fI w0 w14 p (σ'.acc [44]) (Fr b):=h14;refine⟨_,rfl,?_⟩
      cases hb:mQ [44] σ'.1 σ'.2 with
      | true =>
        have hlen:=Bb hb;obtain⟨f,rfl⟩:∃ g,f=g+1:=⟨f-1,by omega⟩;rw[th,if_pos hb] at hs;refine cT rfl ⟨_,rd h14,aj (JZ h14 hr hl hl1 b) ?_⟩;rintro v w15 ⟨rfl,h15⟩;have hle:=BG l b (σ'.acc [44]);exact⟨_,rfl,wr h15 λ w16 h16=>⟨_,by omega,f,_,_,rfl,by omega,hs,h16⟩⟩
      | false =>
        have ea:=EK hb;rw[ea] at h14;have ef:th l f b σ' = (b,σ'):=by
          cases f with
          | zero=>rfl
          | succ f=>rw[th,if_neg (by rw[hb]; decide)]
        rw[ef] at hs;refine cF rfl (aj (eB h14 [125]) ?_);rintro v w17 ⟨rfl,h17⟩;have h17:fI w0 w17 p (σ'.exp [125]) (Fr b):=h17;refine⟨rfl,aj (yQ h17) ?_⟩;rintro v w18 ⟨rfl,rfl⟩;refine⟨_,rfl,?_⟩
        by_cases h0:(σ'.exp [125]).2=0
        · rw[Ef,if_neg (by simpa using h0)] at hs;exact cF (by simpa using h0) ⟨_,rd h17,fin h17 (by rw[e0,<- hs])⟩
        · rw[Ef,if_pos h0] at hs;exact cT (by simpa using h0) (fin h17 (by rw[e0,<- hs]))
  · obtain⟨B',s4,back⟩:=h1.out;exact cT (by simpa using he) (s4.aA 0 rfl z6.vs rfl (I6.one _) λ w12 s12=>⟨_,s12.cellsIn 0 rfl,by rw[jN,if_pos he],by rw[jN,if_pos he]; exact(back (m':=[_,_]) s12).drop⟩)
end Go.Proofs.YtpihmghnbplohaaGreatDoor

import Derived.DataElems
import Derived.Test.YtpddenfeaadgpaaGreatDoorF02
set_option linter.unusedVariables false
set_option maxRecDepth 100000
namespace Go.Proofs.YtpddenfeaadgpaaGreatDoor
open Go Go.Vc _root_.Go.Proofs.Tryz
structure Pr where
 nm:List UInt8
 sup:Int
 res:Int
 pts:Int
 grp:Int
def Pr.cells(p:Pr):List Value:=[sv p.nm,iv p.sup,iv p.res,iv p.pts,iv p.grp]
def Pr.In(p:Pr):Prop:=Go.Vc.In p.sup/\Go.Vc.In p.res/\Go.Vc.In p.pts/\Go.Vc.In p.grp
def dX(w:World)(a:OA)(l:List Pr):Prop:=∀ (i:Nat) (p:Pr),l[i]?=some p->p.In/\∃ q,a=some q/\af w (q.add (i*5)) 0 p.cells
theorem dX.an{w w' : World}{a:OA}{l:List Pr}(h:dX w a l)(hc:ax w w' []):dX w' a l:=λ i p hp =>
 let ⟨h1,q,hq,h2⟩:=h i p hp
 ⟨h1,q,hq,aK hc h2⟩
theorem dX.take{w:World}{a:OA}{l:List Pr}(h:dX w a l)(n:Nat):dX w a (l.take n):=λ i p hp=>by
 rw[List.getElem?_take] at hp
 split at hp
 ·exact h i p hp
 ·cases hp
theorem Pr.one(p:Pr):∀ v∈p.cells,v.oneCell' = true:=by
 intro v hv; simp[Pr.cells] at hv; rcases hv with rfl|rfl|rfl|rfl|rfl<;>rfl
theorem Fv{a:OA}{c:Nat}:(if c=0 then a else Option.map (λ x=>Addr.add x (0*5)) a)=a:=by
 split
 ·rfl
 ·cases a<;>simp[Addr.add]
theorem ck{α:Type}{l:List α}{p:α->Bool}{k:Nat}{x:α}(h:(l.take k).any p=false)(hx:l[k]?=some x)(hp:p x=false):(l.take (k+1)).any p=false:=by
 rw[aQ hx,List.any_append,h]; simp[hp]
theorem cC{α:Type}{l:List α}{p:α->Bool}{k:Nat}{x:α}(hx:l[k]?=some x)(hp:p x=true):l.any p=true:=List.any_eq_true.2 ⟨x,List.mem_of_getElem? hx,hp⟩
theorem Ii{w:World}{a:OA}{c:Nat}{l:List Pr}(h:dX w a l)(hl:l.length<=1000)(nm:List UInt8) :
  CP 115 #[.slice a l.length c,sv nm] w (λ r w'=>(∃ k:Int,r=.tuple #[iv k,.bool (l.any λ p=>p.nm==nm)])/\ax w w' []):=by
 refine CV ?_;unfold EI;refine⟨λ n w1 m=>∃ k:Nat,n=k/\k<=l.length/\m=l.length-k/\(l.take k).any (λ p=>p.nm==nm)=false/\ax w w1 [],⟨l.length,0,rfl,by omega,by omega,rfl,ax.refl _ _⟩,?_⟩;rintro w1 m n ⟨k,rfl,hk,hm,ha,hc⟩ -
 by_cases hlt:(k:Int)<(l.length:Int)
 ·have hx:l[k]?=some (l[k]'(by omega)):=gE (by omega);generalize l[k]'(by omega)=x at hx;obtain⟨_,q,rfl,hcl⟩:=(h.an hc) k x hx;refine cT (by simpa using hlt) ⟨by omega,by omega,_,_,_,_,_,hcl,aR ?_⟩;refine((St.start' hc).one.cm _ 117).az 0 rfl x.cells rfl x.one λ w3 s3=>?_;refine⟨_,by rw[s3.ag 0 rfl]; rfl,?_⟩
  by_cases hn:x.nm=nm
  ·exact cT (by rw[hn]; simp) ⟨⟨k,by rw[cC hx (by simpa using hn)]⟩,s3.an⟩
  ·exact cF (by rw[wW,wW]; simpa using hn) ⟨l.length-(k+1),by omega,k+1,by rw[ay ⟨by omega,by omega⟩]; rfl,by omega,rfl,ck ha hx (by simpa using hn),s3.an⟩
 ·refine cF (by simpa using hlt) ⟨⟨0,?_⟩,hc⟩;rw[List.take_of_length_le (by omega)] at ha;rw[ha]
theorem kY(w:World)(n x y:Int):CP 116 #[iv n,iv x,iv y] w (λ r w'=>r=.bool (decide (x<=n)&&decide (n<=y))/\w' = w):=by
 refine vS ?_;unfold uE
 by_cases h:n>=x
 ·exact cT (dT h) ⟨by rw[dT (show x<=n from h)]; rfl,rfl⟩
 ·exact cF (dF h) ⟨by rw[dF (show ¬ x<=n from h)]; rfl,rfl⟩
def wP(l:List Pr):List Int:=(l.map Pr.sup++List.replicate (6-l.length) 0).take 6
def aG(l:List Pr):I6:=I6.KA (l.map Pr.sup)
theorem jj(l:List Pr)(k:Nat)(hk:k<6):(aG l).at' k=(l.map Pr.sup).getD k 0:=by
 match k,hk with
 | 0,_|1,_|2,_|3,_|4,_|5,_=>rfl
theorem AT(l:List Pr):(aG l).l=wP l:=by
 apply List.ext_getElem?;intro k;unfold wP
 by_cases hk:k<6
 ·rw[I6.ia _ k hk,jj l k hk,List.getElem?_take,if_pos hk]
  by_cases hl:k<l.length
  ·rw[List.getElem?_append_left (by simpa using hl)];simp[hl]
  ·rw[List.getElem?_append_right (by simp; omega),List.getElem?_replicate,if_pos (by simp; omega)];simp[hl]
 ·rw[List.getElem?_eq_none (by rw[I6.len]; omega),List.getElem?_take,if_neg hk]
theorem kR{w:World}{a:OA}{c:Nat}{l:List Pr}(h:dX w a l)(hl:l.length<=1000) :
  CP 41 #[.slice a l.length c] w (λ r w'=>r=.agg (aG l).vs.toArray/\ax w w' []):=by
 refine yl ?_;unfold yj;refine aR (aR ?_);have s2:=((St.start w).one.cm z6.vs.toArray 35).cm z6.vs.toArray 35;generalize hw2:((w.alloc _).alloc _)=w2 at s2 ⊢;generalize hr1:w.heap.size=r1 at s2 ⊢;generalize hr2:(w.alloc _).heap.size=r2 at s2 ⊢;refine⟨λ n w3 m=>∃ k:Nat,n=k/\k<=l.length/\m=l.length-k/\St w w3 (Sep [ah r2 (I6.mix (min k 6) (aG l) z6).vs.toArray 35,ah r1 z6.vs.toArray 35,emp]),⟨l.length,0,rfl,by omega,by omega,s2⟩,?_⟩;rintro w3 m n ⟨k,rfl,hk,hm,s3⟩ -
 by_cases hlt:(k:Int)<(l.length:Int)
 ·have hx:l[k]?=some (l[k]'(by omega)):=gE (by omega);generalize l[k]'(by omega)=x at hx;obtain⟨_,q,hq,hcl⟩:=(h.an s3.an) k x hx;refine cT (by simpa using hlt) ⟨λ w4=>St w w4 (Sep [ah r2 (I6.mix (min (k+1) 6) (aG l) z6).vs.toArray 35,ah r1 z6.vs.toArray 35,emp]),?_,?_⟩
  ·rintro w4 s4 -;exact⟨l.length-(k+1),by omega,k+1,ay ⟨by omega,by omega⟩,by omega,rfl,s4⟩
  rw[hq];refine⟨by omega,by omega,_,_,_,_,_,hcl,aR ?_⟩;refine(s3.cm _ 117).az 0 rfl x.cells rfl x.one λ w6 s6=>?_
  by_cases h6:k<6
  ·refine cT (dT (by omega)) ⟨_,by rw[s6.ag 0 rfl]; rfl,by omega,by omega,?_⟩;have ea:Addr.add ⟨r2,0,none⟩ (((k:Nat):Int).toNat*1)=⟨r2,k,none⟩:=by rw[dN]; simp
   rw[ea];refine s6.bL 1 rfl (by rw[I6.size]; exact h6) rfl λ w7 s7=>?_;have e1:x.sup=(aG l).at' k:=by rw[jj l k h6]; simp[List.getElem?_map,hx]
   rw[Nat.min_eq_left (by omega),e1,I6.cE _ _ _ h6] at s7;rw[Nat.min_eq_left (by omega)];exact s7.aA [1,2,3]
  ·rw[Nat.min_eq_right (by omega)] at s6 ⊢;exact cF (dF (by omega)) (s6.aA [1,2,3])
 ·obtain rfl:k=l.length:=by omega
  have hcn:I6.mix (min l.length 6) (aG l) z6=aG l:=by
   refine I6.ext' λ j hj=>?_;rw[I6.bh _ _ _ _ hj,jj l j hj]
   split
   ·rfl
   ·rw[List.getD_eq_getElem?_getD,List.getElem?_eq_none (by simp; omega)]
    match j,hj with
    | 0,_|1,_|2,_|3,_|4,_|5,_=>rfl
  rw[hcn] at s3;refine cF (by simp) ⟨_,s3.cellsIn 0 rfl,?_⟩;refine s3.az 1 rfl (aG l).vs rfl (I6.one _) λ w8 s8=>?_;exact⟨_,s8.cellsIn 1 rfl,rfl,s8.an⟩
def rA(p:Pr):Bool:=(decide (1<=p.sup)&&decide (p.sup<=4))&&((decide (0<=p.res)&&decide (p.res<=1000000))&&((decide (0<=p.pts)&&decide (p.pts<=1000))&&(decide (0<=p.grp)&&decide (p.grp<=4))))
def jK(p:Pr):Bool:=bq p.nm&&rA p
def iR(l:List Pr)(i:Nat)(p:Pr):Prop:=jK p=true/\((l.take i).any λ q=>q.nm==p.nm)=false
structure bZ (l:List Pr):Prop where
 l1:1<=l.length
 l2:l.length<=6
 good:∀ i p,l[i]?=some p->iR l i p
 lim:pr (l.map Pr.sup)<=1024
theorem ym(l:List Int):∀ n,pr (l++List.replicate n 0)=pr l
 | 0=>by simp
 | n+1=>by
  rw[List.replicate_succ',<- List.append_assoc,rz,ym l n];omega
theorem rC{l:List Pr}(h:l.length<=6):pr (wP l)=pr (l.map Pr.sup):=by
 unfold wP;rw[List.take_of_length_le (by simp; omega),ym]
theorem B8{l:List Pr}(h:∀ i p,l[i]?=some p->iR l i p):(wP l).all dD=true:=by
 rw[List.all_eq_true];intro x hx;have hx:=List.mem_of_mem_take hx;rcases List.mem_append.1 hx with hx|hx
 ·obtain⟨p,hp,rfl⟩:=List.mem_map.1 hx;obtain⟨i,hi,rfl⟩:=List.mem_iff_getElem.1 hp;have:=(h i _ (gE hi)).1;simp only[jK,rA,Bool.and_eq_true,decide_eq_true_eq] at this;simp only[dD,Bool.and_eq_true,decide_eq_true_eq];omega
 ·obtain⟨_,rfl⟩:=List.mem_replicate.1 hx
  decide
def HR(Q:Prop)(w:World):KP:=λ r w'=>(∃ e:Int,r=iv e/\(e=0<->Q))/\ax w w' []
def qx(Q:Prop)(k:Int)(w:World):KP:=λ r w'=>(r=iv k/\(k=0<->Q))/\ax w w' []
theorem aH{Q:Prop}{w w' : World}{e k:Int}(he:e≠0)(h : ¬ Q)(hc:ax w w' [])(hk:k=e):qx Q k w (iv e) w':=by subst hk; exact⟨⟨rfl,λ h'=>absurd h' he,λ h'=>absurd h' h⟩,hc⟩
theorem en{Q:Prop}{w w' : World}{k:Int}(h:Q)(hc:ax w w' [])(hk:k=0):qx Q k w (iv 0) w':=by subst hk; exact⟨⟨rfl,λ _=>h,λ _=>rfl⟩,hc⟩
theorem qx.old{Q:Prop}{w w' : World}{k:Int}{r:Value}(h:qx Q k w r w'):HR Q w r w':=⟨⟨k,h.1⟩,h.2⟩
def fT{α:Type}(f:Nat->α->Int):Nat->List α->Int
 | _,[]=>0
 | i,x :: l=>if f i x≠0 then f i x else fT f (i+1) l
theorem cU{α:Type}{f:Nat->α->Int}:∀ {l:List α} {n k:Nat} {x:α},(∀ i p,i<k->l[i]?=some p->f (n+i) p=0)->l[k]?=some x->f (n+k) x≠0->fT f n l=f (n+k) x
 | y :: l,n,0,x,_,hx,h=>by cases hx; rw[Nat.add_zero] at h ⊢; rw[fT,if_pos h]
 | y :: l,n,k+1,x,ha,hx,h=>by
  rw[fT,if_neg (by simpa using ha 0 y (by omega) rfl),cU (l:=l) (k:=k) (x:=x) (λ i p hi hp=>by have:=ha (i+1) p (by omega) (by simpa using hp); rwa [show n+(i+1)=n+1+i by omega] at this) (by simpa using hx) (by rwa [show n+1+k=n+(k+1) by omega])];rw[show n+1+k=n+(k+1) by omega]
theorem bf{α:Type}{f:Nat->α->Int}:∀ {l:List α} {n:Nat},(∀ i p,l[i]?=some p->f (n+i) p=0)->fT f n l=0
 | [],_,_=>rfl
 | y :: l,n,ha=>by
  rw[fT,if_neg (by simpa using ha 0 y rfl)];exact bf λ i p hp=>by have:=ha (i+1) p (by simpa using hp); rwa [show n+(i+1)=n+1+i by omega] at this
def zF(l:List Pr)(i:Nat)(p:Pr):Int:=if bq p.nm=false then 5 else if ((l.take i).any λ q=>q.nm==p.nm) then 7 else if rA p=false then 4 else 0
theorem ku{l:List Pr}{i:Nat}{p:Pr}(h:iR l i p):zF l i p=0:=by
 obtain⟨h1,h2⟩:=h;unfold jK at h1;rw[Bool.and_eq_true] at h1;rw[zF,h1.1,h2,h1.2]; rfl
def tJ(l:List Pr):Int:=if l.length=0 then 1 else if 6<l.length then 3 else if fT (zF l) 0 l≠0 then fT (zF l) 0 l else if pr (wP l)<=1024 then 0 else 12
theorem uf{w:World}{a:OA}{c:Nat}{l:List Pr}(h:dX w a l)(hcap:l.length<=c) :
  CP 65 #[.slice a l.length c] w ((qx (bZ l) (tJ l) w)):=by
 refine Aj ?_;unfold BB
 by_cases h0:l.length=0
 ·exact cT (by rw[h0]; rfl) (aH (by decide) (λ hp=>by have:=hp.l1; omega) (ax.refl _ _) (by rw[tJ,if_pos h0]))
 refine cF (by simpa using h0) ?_;rcases Nat.lt_or_ge 6 l.length with h6|h6
 ·exact cT (dT (by omega)) (aH (by decide) (λ hp=>by have:=hp.l2; omega) (ax.refl _ _) (by rw[tJ,if_neg h0,if_pos h6]))
 refine cF (dF (by omega)) ⟨λ n w1 m=>∃ k:Nat,n=k/\k<=l.length/\m=l.length-k/\(∀ i p,i<k->l[i]?=some p->iR l i p)/\ax w w1 [],⟨l.length,0,rfl,by omega,by omega,λ i p hi=>by omega,ax.refl _ _⟩,?_⟩;rintro w1 m n ⟨k,rfl,hk,hm,ha,hc⟩ -
 by_cases hlt:(k:Int)<(l.length:Int)
 ·have hx:l[k]?=some (l[k]'(by omega)):=gE (by omega);generalize l[k]'(by omega)=x at hx;obtain⟨_,q,hq,hcl⟩:=(h.an hc) k x hx;have bad : ¬ iR l k x->¬ bZ l:=λ hb hp=>hb (hp.good k x hx);have bk:∀ {e:Int},e≠0->zF l k x=e->tJ l=e:=λ he h=>by
   have:=cU (f:=zF l) (n:=0) (λ i p hi hp=>by rw[Nat.zero_add]; exact ku (ha i p hi hp)) hx (by rw[Nat.zero_add,h]; exact he);rw[Nat.zero_add,h] at this;rw[tJ,if_neg h0,if_neg (by omega),this,if_pos he]
  refine cT (by simpa using hlt) ?_;rw[hq];refine⟨by omega,by omega,_,_,_,_,_,hcl,aR ?_⟩;refine((St.start' hc).one.cm _ 117).az 0 rfl x.cells rfl x.one λ w3 s3=>?_;generalize hr1:w1.heap.size=r1 at s3 ⊢;have cx:∀ {w' : World},ax w3 w' []->∀ (j:Nat) (v:Value),x.cells[j]?=some v->w'.cell? ⟨r1,j,none⟩=some v:=λ hc j v hv=>br (by rw[s3.ag 0 rfl]; simpa using hv) hc;refine⟨_,cx (ax.refl _ _) 0 _ rfl,aq (xP w3 x.nm) ?_⟩;rintro v w4 ⟨rfl,rfl⟩;refine⟨_,rfl,?_⟩
  cases hn:bq x.nm with
  | false=>exact cT rfl (aH (by decide) (bad λ hg=>by have:=hg.1; simp[jK,hn] at this) s3.an (bk (by decide) (by rw[zF,hn]; rfl)))
  | true =>
   have d4:ax w4 w4.drew []:=ax.drew w4 [];refine cF rfl ⟨by omega,by omega,_,cx d4 0 _ rfl,?_⟩;rw[<- hq,Fv];have hf:=Ii (c:=c-0) ((h.an (s3.an.trans d4 (by simp))).take k) (by rw[List.length_take]; omega) x.nm;rw[List.length_take,Nat.min_eq_left hk] at hf;refine aq hf ?_;rintro v w5 ⟨⟨kk,rfl⟩,c5⟩;have d5:ax w4 w5 []:=d4.trans c5 (by simp);refine⟨_,_,rfl,?_⟩
   cases hany:((l.take k).any λ p=>p.nm==x.nm) with
   | true=>exact cT rfl (aH (by decide) (bad λ hg=>by have:=hg.2; rw[hany] at this; cases this) (s3.an.trans d5 (by simp)) (bk (by decide) (by rw[zF,hn,hany]; rfl)))
   | false =>
    refine cF rfl ⟨λ b w6=>ax w5 w6 []/\b = !rA x,?_,?_⟩
    ·rintro w6 b ⟨c6,rfl⟩ -;have c7:=s3.an.trans (d5.trans c6 (by simp)) (by simp)
     cases hr:rA x with
     | false=>exact cT rfl (aH (by decide) (bad λ hg=>by have:=hg.1; simp[jK,hr] at this) c7 (bk (by decide) (by rw[zF,hn,hany,hr]; rfl)))
     | true =>
      refine cF rfl ⟨l.length-(k+1),by omega,k+1,by rw[ay ⟨by omega,by omega⟩]; rfl,by omega,rfl,λ i p hi hp=>?_,c7⟩;rcases Nat.lt_or_ge i k with h' | h'
      ·exact ha i p h' hp
      ·obtain rfl:i=k:=by omega
       rw[hx] at hp; cases hp;exact⟨by simp[jK,hn,hr],hany⟩
    ·refine⟨_,cx d5 1 _ rfl,aq (kY w5 _ _ _) ?_⟩;rintro v w6 ⟨rfl,rfl⟩;refine⟨_,rfl,?_⟩
     cases g1:(decide (1<=x.sup)&&decide (x.sup<=4)) with
     | false=>exact cT rfl ⟨ax.refl _ _,by simp only[rA,g1]; rfl⟩
     | true =>
      refine cF rfl ⟨_,cx d5 2 _ rfl,aq (kY w6 _ _ _) ?_⟩;rintro v w7 ⟨rfl,rfl⟩;refine⟨_,rfl,?_⟩
      cases g2:(decide (0<=x.res)&&decide (x.res<=1000000)) with
      | false=>exact cT rfl ⟨ax.refl _ _,by simp only[rA,g1,g2]; rfl⟩
      | true =>
       refine cF rfl ⟨_,cx d5 3 _ rfl,aq (kY w7 _ _ _) ?_⟩;rintro v w8 ⟨rfl,rfl⟩;refine⟨_,rfl,?_⟩
       cases g3:(decide (0<=x.pts)&&decide (x.pts<=1000)) with
       | false=>exact cT rfl ⟨ax.refl _ _,by simp only[rA,g1,g2,g3]; rfl⟩
       | true =>
        refine cF rfl ⟨_,cx d5 4 _ rfl,aq (kY w8 _ _ _) ?_⟩;rintro v w9 ⟨rfl,rfl⟩;exact⟨_,rfl,ax.refl _ _,by simp only[rA,g1,g2,g3]; rfl⟩
 ·obtain rfl:k=l.length:=by omega
  have hg:∀ i p,l[i]?=some p->iR l i p:=λ i p hp=>ha i p (List.getElem?_eq_some_iff.1 hp).1 hp;refine cF (by simp) (aq (kR (h.an hc) (by omega)) ?_);rintro v w2 ⟨rfl,c2⟩;refine⟨_,rfl,aq (Ba w2 _) ?_⟩;rintro v w3 ⟨rfl,c3⟩;have c4:ax w w3 []:=hc.trans (c2.trans c3 (by simp)) (by simp);refine⟨_,rfl,?_⟩;have hall:=B8 hg;have hpr:=rC h6;rw[AT];have hb:=(kz hall).1;have e0:tJ l=if pr (wP l)<=1024 then 0 else 12:=by
   have:=bf (f:=zF l) (n:=0) (l:=l) λ i p hp=>by rw[Nat.zero_add]; exact ku (hg i p hp)
   rw[tJ,if_neg h0,if_neg (by omega),this,if_neg (by decide)]
  by_cases hlim:pr (wP l)<=1024
  ·rw[if_pos ⟨hall,hlim⟩];exact cF (by simp; omega) (en ⟨by omega,h6,hg,by rw[<- hpr]; exact hlim⟩ c4 (by rw[e0,if_pos hlim]))
  ·rw[if_neg λ h=>hlim h.2];exact cT rfl (aH (by decide) (λ hp=>hlim (by rw[hpr]; exact hp.lim)) c4 (by rw[e0,if_neg hlim]))
theorem DO{w:World}{a:OA}{c:Nat}{l:List Pr}(h:dX w a l)(hcap:l.length<=c) :
  CP 65 #[.slice a l.length c] w ((HR (bZ l) w)):=aq (uf h hcap) λ _ _ h=>⟨_,rfl,h.old⟩
def pX(a b:I6)(w:World)(K:KP):=au w (.cells a.vs.toArray 30) λ a c=>au c (.cells b.vs.toArray 35) λ b c=>∃ d:I6,af c (qd b 0) 0 d.vs/\∃ b:Int->Int->qN,(∃ e,b 0 (0:Int) c e)/\∀ c e f g,b f g c e->∀ h:qv,cond (decide (g<6)) (0<=g/\g<6/\∃ h,(d.vs.toArray:Array Value)[(g).toNat*1]?=some (iv h)/\0<=g/\g<6/\∃ d,c.cell? (Addr.add (qd a 0) ((g).toNat*1))=some (iv d)/\∃ a,a<e/\b (IntKind.i64.wrap (f+(IntKind.i64.wrap (d*h)))) (IntKind.i64.wrap (g+1)) c a) (K (iv f) c)
theorem rN{u1 u2 w K}(h:pX u1 u2 w K):CP 71 #[.agg u1.vs.toArray,.agg u2.vs.toArray] w K:=aj (aC [(58,[(5,.s (.int .i64)),(9,.s (.int .i64))])]) func71 (by kernel_rfl) (by kernel_rfl) h
def lX(a b:I6)(w:World)(K:KP):=au w (.cells a.vs.toArray 35) λ a c=>au c (.cells b.vs.toArray 35) λ b c=>∃ d:I6,af c.drew (qd a 0) 0 d.vs/\∃ e:I6,af c.drew (qd b 0) 0 e.vs/\∃ b:I6,af c.drew (qd a 0) 0 b.vs/\CC 159 #[.agg d.vs.toArray,.agg e.vs.toArray] c.drew λ c d=>∃ e:I6,c=.returned (.agg e.vs.toArray)/\af d (qd a 0) 0 b.vs/\K (.bool (I6.beq e b)) d
theorem oT{u1 u2 w K}(h:lX u1 u2 w K):CP 119 #[.agg u1.vs.toArray,.agg u2.vs.toArray] w K:=aj (aC []) func119 (by kernel_rfl) (by kernel_rfl) h
def rM(a:I6)(w:World)(K:KP):=au w (.cells a.vs.toArray 35) λ a b=>∃ c:I6,af b (qd a 0) 0 c.vs/\CC 76 #[.agg c.vs.toArray] b λ b c=>∃ d,b=.returned (iv d)/\cond (d==0) (K (.func (.func 77) #[] #[]) c) (∃ b:I6,af c (qd a 0) 0 b.vs/\CC 78 #[.agg b.vs.toArray] c λ a b=>∃ c:Value,a=.returned c/\K c b)
theorem tC{u1 w K}(h:rM u1 w K):CP 40 #[.agg u1.vs.toArray] w K:=aj (aC []) func40 (by kernel_rfl) (by kernel_rfl) h
def pY(a b:I6)(w:World)(K:KP):=au w (.cells a.vs.toArray 35) λ a c=>au c (.cells b.vs.toArray 35) λ b c=>au c (.cells z6.vs.toArray 35) λ c d=>∃ e:Int->qN,(∃ f,e 0 d f)/\∀ d f g,e g d f->∀ h:qv,cond (decide (g<6)) (0<=g/\g<6/\∃ h,d.drew.cell? (Addr.add (qd a 0) ((g).toNat*1))=some (iv h)/\0<=g/\g<6/\∃ i,d.drew.cell? (Addr.add (qd b 0) ((g).toNat*1))=some (iv i)/\0<=g/\g<6/\dW d.drew (Addr.add (qd a 0) ((g).toNat*1)) (iv (if i<h then i else h)) λ b=>∃ h,h<f/\e (IntKind.i64.wrap (g+1)) b h) (∃ b:I6,af d (qd a 0) 0 b.vs/\aN (qd c 0) 0 b.vs d λ a=>∃ b:I6,af a (qd c 0) 0 b.vs/\K (.agg b.vs.toArray) a)
theorem rO{u1 u2 w K}(h:pY u1 u2 w K):CP 159 #[.agg u1.vs.toArray,.agg u2.vs.toArray] w K:=aj (aC [(26,[(6,.s (.int .i64))])]) func159 (by kernel_rfl) (by kernel_rfl) h
def pZ(a:I6)(w:World)(K:KP):=au w (.cells a.vs.toArray 35) λ a b=>K (.func (.func 123) #[] #[qp a]) b
theorem rP{u1 w K}(h:pZ u1 w K):CP 78 #[.agg u1.vs.toArray] w K:=aj (aC []) func78 (by kernel_rfl) (by kernel_rfl) h
def lY(a b:Nat)(w:World)(K:KP):=au w (.cells z6.vs.toArray 35) λ c d=>aN (qd c 0) 0 z6.vs d λ d=>∃ e:qN,(∃ f,e d f)/\∀ d f,e d f->∀ g:qv,∃ g:I6,af d (qd c 0) 0 g.vs/\mI prog a #[.agg g.vs.toArray] d λ a d=>∃ g,.returned (.bool a)=Ending.returned (.bool g)/\cond g (∃ a:I6,af d (qd c 0) 0 a.vs/\∃ g:I6,af d (qd b 0) 0 g.vs/\CC 124 #[.agg a.vs.toArray,.agg g.vs.toArray] d λ a b=>∃ g:I6,a=.returned (.agg g.vs.toArray)/\aN (qd c 0) 0 g.vs b λ a=>∃ b:I6,af a (qd c 0) 0 b.vs/\cond (I6.beq b z6) (K (.tuple #[]) a) (∃ b,b<f/\e a b)) (K (.tuple #[]) d)
theorem oU{l1 b1 w K}(h:lY l1 b1 w K):CP 123 #[.func (.yield l1) #[] #[],.pointer (some ⟨b1,0,none⟩)] w K:=aj (aC [(6,[])]) func123 (by kernel_rfl) (by kernel_rfl) h
def ir(a b:I6)(w:World)(K:KP):=au w (.cells a.vs.toArray 35) λ a c=>au c (.cells b.vs.toArray 35) λ b c=>au c (.cells z6.vs.toArray 35) λ c d=>∃ e:Int->qN,(∃ f,e 5 d f)/\∀ d f g,e g d f->∀ h:qv,cond (decide (g>=0)) (0<=g/\g<6/\∃ h,d.drew.cell? (Addr.add (qd a 0) ((g).toNat*1))=some (iv h)/\0<=g/\g<6/\∃ i,d.drew.cell? (Addr.add (qd b 0) ((g).toNat*1))=some (iv i)/\cond (decide (h<i)) (0<=g/\g<6/\∃ b,d.drew.cell? (Addr.add (qd a 0) ((g).toNat*1))=some (iv b)/\0<=g/\g<6/\dW d.drew (Addr.add (qd a 0) ((g).toNat*1)) (iv (IntKind.i64.wrap (b+1))) λ b=>∃ h:I6,af b (qd a 0) 0 h.vs/\aN (qd c 0) 0 h.vs b λ b=>∃ h:I6,af b (qd c 0) 0 h.vs/\K (.agg h.vs.toArray) b) (0<=g/\g<6/\dW d.drew (Addr.add (qd a 0) ((g).toNat*1)) qz λ b=>∃ h,h<f/\e (IntKind.i64.wrap (g-1)) b h)) (∃ b:I6,af d (qd a 0) 0 b.vs/\aN (qd c 0) 0 b.vs d λ a=>∃ b:I6,af a (qd c 0) 0 b.vs/\K (.agg b.vs.toArray) a)
theorem lI{u1 u2 w K}(h:ir u1 u2 w K):CP 124 #[.agg u1.vs.toArray,.agg u2.vs.toArray] w K:=aj (aC [(26,[(5,.s (.int .i64))])]) func124 (by kernel_rfl) (by kernel_rfl) h
theorem bV(r k:Nat):Addr.add ⟨r,0,none⟩ (((k:Nat):Int).toNat*1)=⟨r,k,none⟩:=by rw[dN]; simp
theorem aB{w0 w:World}{l:List aJ}{r:Nat}{u:I6}{T:TypeId}(h:St w0 w (Sep l))(i:Nat)(e:l[i]?=some (ah r u.vs.toArray T)){k:Nat}(hk:k<6):w.cell? ⟨r,k,none⟩=some (iv (u.at' k)):=by
 rw[h.ag i e]; simpa using u.get k hk
def xF(p u:I6)(k:Nat):Int:=(List.range k).foldl (λ s j=>s+p.at' j*u.at' j) 0
theorem oZ(p u:I6)(k:Nat):xF p u (k+1)=xF p u k+p.at' k*u.at' k:=by simp[xF,List.range_succ]
def cost(p u:I6):Int:=p.a*u.a+p.b*u.b+p.c*u.c+p.d*u.d+p.e*u.e+p.f*u.f
theorem vz(p u:I6):xF p u 6=cost p u:=by simp[xF,cost,List.range_succ,I6.at']
def tot(u:I6):Int:=u.a+u.b+u.c+u.d+u.e+u.f
def I6.Le(u:I6)(n:Int):Prop:=∀ k,k<6->0<=u.at' k/\u.at' k<=n
theorem HK{u:I6}(h:u.l.all dD=true):I6.Le u 4:=λ k hk=>by
 have:=List.all_eq_true.1 h _ (List.mem_of_getElem? (u.ia k hk));simpa[dD] using this
theorem leq{u:I6}(h:I6.Le u 4):u.l.all dD=true:=by
 have h0:=h 0 (by decide); have h1:=h 1 (by decide); have h2:=h 2 (by decide); have h3:=h 3 (by decide); have h4:=h 4 (by decide); have h5:=h 5 (by decide);simp only[I6.at'] at h0 h1 h2 h3 h4 h5;simp[I6.l,dD,h0,h1,h2,h3,h4,h5]
theorem Ir(w:World)(u v:I6):CP 159 #[.agg u.vs.toArray,.agg v.vs.toArray] w (λ r w'=>r=.agg (u.zip (λ x y=>if y<x then y else x) v).vs.toArray/\ax w w' []):=by
 refine rO ?_;unfold pY;refine aR (aR (aR ?_));have s3:=(((St.start w).one.cm u.vs.toArray 35).cm v.vs.toArray 35).cm z6.vs.toArray 35;generalize hw3:World.alloc _ _=w3 at s3 ⊢;generalize hr1:w.heap.size=r1 at s3 ⊢;generalize hr2:(w.alloc _).heap.size=r2 at s3 ⊢;generalize hr3:((w.alloc _).alloc _).heap.size=r3 at s3 ⊢;refine⟨λ n w4 m=>∃ k:Nat,n=k/\k<=6/\m=6-k/\St w w4 (Sep [ah r3 z6.vs.toArray 35,ah r2 v.vs.toArray 35,ah r1 (I6.mix k (u.zip (λ x y=>if y<x then y else x) v) u).vs.toArray 35,emp]),⟨6,0,rfl,by omega,by omega,s3⟩,?_⟩;rintro w4 m n ⟨k,rfl,hk,hm,s4⟩ -
 by_cases hlt:(k:Int)<6
 ·have hk' : k<6:=by omega
  have s5:=s4.quiet (ax.drew _ _);refine cT (dT hlt) ⟨by omega,by omega,u.at' k,?_,by omega,by omega,v.at' k,?_,by omega,by omega,?_⟩
  ·rw[bV,aB s5 2 rfl hk',I6.bh _ _ _ _ hk',if_neg (by omega)]
  ·rw[bV,aB s5 1 rfl hk']
  ·rw[bV];refine s5.bL 2 rfl hk' rfl λ w6 s6=>⟨6-(k+1),by omega,k+1,inc (by decide) hk',by omega,rfl,?_⟩;rw[show(if v.at' k<u.at' k then v.at' k else u.at' k)=(u.zip (λ x y=>if y<x then y else x) v).at' k by rw[I6.fY _ _ _ _ hk'],I6.cE _ _ _ hk'] at s6;exact s6
 ·obtain rfl:k=6:=by omega
  refine cF (by simp) ⟨_,s4.cellsIn 2 rfl,?_⟩;exact s4.az 0 rfl (u.zip (λ x y=>if y<x then y else x) v).vs rfl (I6.one _) λ w8 s8=>⟨_,s8.cellsIn 0 rfl,rfl,s8.an⟩
def within(u v:I6):Bool:=decide (u.a<=v.a)&&(decide (u.b<=v.b)&&(decide (u.c<=v.c)&&(decide (u.d<=v.d)&&(decide (u.e<=v.e)&&decide (u.f<=v.f)))))
theorem within_iff{u v:I6}:within u v=true<->∀ k,k<6->u.at' k<=v.at' k:=by
 simp only[within,Bool.and_eq_true,decide_eq_true_eq];constructor
 ·rintro⟨h0,h1,h2,h3,h4,h5⟩ k hk
  match k,hk with
  | 0,_=>exact h0
  | 1,_=>exact h1
  | 2,_=>exact h2
  | 3,_=>exact h3
  | 4,_=>exact h4
  | 5,_=>exact h5
 ·exact λ h=>⟨h 0 (by decide),h 1 (by decide),h 2 (by decide),h 3 (by decide),h 4 (by decide),h 5 (by decide)⟩
theorem tq(w:World)(u v:I6):CP 119 #[.agg u.vs.toArray,.agg v.vs.toArray] w (λ r w'=>r=.bool (within u v)/\ax w w' []):=by
 refine oT ?_;unfold lX;refine aR (aR ?_);have s2:=(((St.start w).one.cm u.vs.toArray 35).cm v.vs.toArray 35).quiet (ax.drew _ _);refine⟨_,s2.cellsIn 1 rfl,_,s2.cellsIn 0 rfl,_,s2.cellsIn 1 rfl,aq (Ir _ u v) ?_⟩;rintro r w3 ⟨rfl,c3⟩;refine⟨_,rfl,aK c3 (s2.cellsIn 1 rfl),?_,(s2.quiet c3).an⟩;have m:∀ x y:Int,((if y<x then y else x)==x)=decide (x<=y):=λ x y=>by
  by_cases h:y<x
  ·rw[if_pos h,dF (by omega)]; simp; omega
  ·rw[if_neg h,dT (by omega)]; simp
 simp only[I6.beq,I6.zip,within,m,Bool.and_true]
theorem Ia(w:World)(p u:I6)(B:Int)(hB:B<=1000000000000)(hp:∀ k,k<6->-B<=p.at' k/\p.at' k<=B)(hu:I6.Le u 4):CP 71 #[.agg p.vs.toArray,.agg u.vs.toArray] w (λ r w'=>r=iv (cost p u)/\ax w w' []):=by
 refine rN ?_;unfold pX;refine aR (aR ?_);have s2:=((St.start w).one.cm p.vs.toArray 30).cm u.vs.toArray 35;generalize hw2:World.alloc _ _=w2 at s2 ⊢;generalize hr1:w.heap.size=r1 at s2 ⊢;generalize hr2:(w.alloc _).heap.size=r2 at s2 ⊢;have b1:∀ k,k<6->-(4*B)<=p.at' k*u.at' k/\p.at' k*u.at' k<=4*B:=λ k hk=>by
  have h1:=hp k hk;have h2:=hu k hk;have h3:0<=B:=by omega
  obtain⟨j,hj⟩:∃ j:Nat,u.at' k=(j:Int):=⟨(u.at' k).toNat,by omega⟩;rw[hj] at h2 ⊢;have h4:j<=4:=by omega
  match j,h4 with
  | 0,_|1,_|2,_|3,_|4,_=>omega
 refine⟨u,s2.cellsIn 0 rfl,λ s n w3 m=>∃ k:Nat,n=k/\k<=6/\m=6-k/\s=xF p u k/\-((k:Int)*(4*B))<=s/\s<=(k:Int)*(4*B)/\w3=w2,⟨6,0,rfl,by omega,by omega,rfl,by simp,by simp,rfl⟩,?_⟩;rintro w3 m s n ⟨k,rfl,hk,hm,hs,h0,h1,rfl⟩ -
 by_cases hlt:(k:Int)<6
 ·have hk' : k<6:=by omega
  have h2:=b1 k hk';have h3:((k+1:Nat):Int)*(4*B)=(k:Int)*(4*B)+4*B:=by rw[Int.natCast_add,Int.add_mul]; omega
  have h4:(k:Int)*(4*B)<=5*(4*B)/\0<=(k:Int)*(4*B):=by
   have h0:0<=B:=by have:=hp k hk'; omega
   exact⟨Int.mul_le_mul_of_nonneg_right (by omega) (by omega),Int.mul_nonneg (by omega) (by omega)⟩
  refine cT (dT hlt) ⟨by omega,by omega,u.at' k,u.get k hk',by omega,by omega,p.at' k,?_,6-(k+1),by omega,k+1,inc (by decide) hk',by omega,rfl,?_,?_,?_,rfl⟩
  ·rw[bV,aB s2 1 rfl hk']
  ·rw[ay (n:=p.at' k*u.at' k) ⟨by omega,by omega⟩,ay ⟨by omega,by omega⟩,oZ,hs]
  ·rw[ay (n:=p.at' k*u.at' k) ⟨by omega,by omega⟩,ay ⟨by omega,by omega⟩]; omega
  ·rw[ay (n:=p.at' k*u.at' k) ⟨by omega,by omega⟩,ay ⟨by omega,by omega⟩]; omega
 ·obtain rfl:k=6:=by omega
  refine cF (by simp) ⟨?_,s2.an⟩;rw[hs,vz]
def jO(m u:I6):Nat->Int
 | 0=>0
 | k+1=>jO m u k*(m.at' k+1)+u.at' k
def tw(m:I6):Nat->Int
 | 0=>1
 | k+1=>tw m k*(m.at' k+1)
abbrev rk (m u:I6):Int:=jO m u 6
theorem EU(m:I6):∀ k,k<=6->pr (m.l.take k)=tw m k
 | 0,_=>rfl
 | k+1,h=>by rw[aQ (m.ia k (by omega)),rz,EU m k (by omega)]; rfl
theorem pF(m:I6):pr m.l=tw m 6:=EU m 6 (by omega)
structure Cf (m u:I6):Prop where
 mm:I6.Le m 4
 u:∀ k,k<6->0<=u.at' k/\u.at' k<=m.at' k
theorem Cf.le{m u:I6}(h:Cf m u):I6.Le u 4:=λ k hk=>by have:=h.mm k hk; have:=h.u k hk; omega
theorem wI{m u:I6}(h:Cf m u):∀ k,k<=6->0<=jO m u k/\jO m u k+1<=tw m k/\tw m k<=5 ^ k
 | 0,_=>⟨by simp[jO],by simp[jO,tw],by simp[tw]⟩
 | k+1,hk=>by
  obtain⟨h1,h2,h3⟩:=wI h k (by omega);have hm:=h.mm k (by omega);have hu:=h.u k (by omega);simp only[jO,tw];refine⟨?_,?_,?_⟩
  ·have:=Int.mul_nonneg h1 (show(0:Int)<=m.at' k+1 by omega); omega
  ·have h4:(jO m u k+1)*(m.at' k+1)<=tw m k*(m.at' k+1):=Int.mul_le_mul_of_nonneg_right h2 (by omega);rw[Int.add_mul] at h4; omega
  ·have h4:tw m k*(m.at' k+1)<=5 ^ k*(m.at' k+1):=Int.mul_le_mul_of_nonneg_right h3 (by omega);have h5:(5:Int) ^ k*(m.at' k+1)<=5 ^ k*5:=Int.mul_le_mul_of_nonneg_left (by omega) (Int.pow_nonneg (by omega));rw[Int.pow_succ]; omega
def jz(u m:I6):Nat->I6
 | 0=>z6
 | k+1=>if u.at' k<m.at' k then (I6.mix (k+1) u z6).put k (u.at' k+1) else jz u m k
abbrev gK (u m:I6):I6:=jz u m 6
theorem fu(k:Nat):z6.at' k=0:=by
 match k with
 | 0|1|2|3|4|5=>rfl
 | n+6=>rfl
theorem xN(w:World){u m:I6}(h:Cf m u):CP 124 #[.agg u.vs.toArray,.agg m.vs.toArray] w (λ r w'=>r=.agg (gK u m).vs.toArray/\ax w w' []):=by
 refine lI ?_;unfold ir;refine aR (aR (aR ?_));have s3:=(((St.start w).one.cm u.vs.toArray 35).cm m.vs.toArray 35).cm z6.vs.toArray 35;generalize hw3:World.alloc _ _=w3 at s3 ⊢;generalize hr1:w.heap.size=r1 at s3 ⊢;generalize hr2:(w.alloc _).heap.size=r2 at s3 ⊢;generalize hr3:((w.alloc _).alloc _).heap.size=r3 at s3 ⊢;refine⟨λ n w4 x=>∃ k:Nat,n=(k:Int)-1/\k<=6/\x=k/\gK u m=jz u m k/\St w w4 (Sep [ah r3 z6.vs.toArray 35,ah r2 m.vs.toArray 35,ah r1 (I6.mix k u z6).vs.toArray 35,emp]),⟨6,6,rfl,by omega,rfl,rfl,s3⟩,?_⟩;rintro w4 x n ⟨k,rfl,hk,hx,hn,s4⟩ -
 by_cases hlt:(0:Int)<=(k:Int)-1
 ·obtain⟨j,rfl⟩:∃ j,k=j+1:=⟨k-1,by omega⟩;have hj:j<6:=by omega
  rw[show((j+1:Nat):Int)-1=(j:Int) by omega] at *;have s5:=s4.quiet (ax.drew _ _);have hu:=h.u j hj;have hm:=h.mm j hj;have cu:w4.drew.cell? (Addr.add ⟨r1,0,none⟩ ((j:Int).toNat*1))=some (iv (u.at' j)):=by
   rw[bV,aB s5 2 rfl hj,I6.bh _ _ _ _ hj,if_pos (by omega)]
  refine cT (dT (show(j:Int)>=0 by omega)) ⟨by omega,by omega,u.at' j,cu,by omega,by omega,m.at' j,by rw[bV,aB s5 1 rfl hj],?_⟩
  by_cases g:u.at' j<m.at' j
  ·refine cT (dT g) ⟨by omega,by omega,u.at' j,cu,by omega,by omega,?_⟩;rw[bV,ay ⟨by omega,by omega⟩];refine s5.bL 2 rfl hj rfl λ w6 s6=>?_;rw[I6.gP _ _ _ hj] at s6;have e:gK u m=(I6.mix (j+1) u z6).put j (u.at' j+1):=by rw[hn]; unfold jz; rw[if_pos g]
   rw[<- e] at s6;exact⟨_,s6.cellsIn 2 rfl,s6.az 0 rfl (gK u m).vs rfl (I6.one _) λ w8 s8=>⟨_,s8.cellsIn 0 rfl,rfl,s8.an⟩⟩
  ·refine cF (dF g) ⟨by omega,by omega,?_⟩;rw[bV];refine s5.bL 2 rfl hj rfl λ w6 s6=>⟨j,by omega,j,ay ⟨by omega,by omega⟩,by omega,rfl,?_,?_⟩
   ·rw[hn]; conv=>lhs; unfold jz
    rw[if_neg g]
   ·have e:(I6.mix (j+1) u z6).put j 0=I6.mix j u z6:=by
     refine I6.ext' λ i hi=>?_;rw[I6.fc _ _ _ _ hj hi,I6.bh _ _ _ _ hi,I6.bh _ _ _ _ hi,fu]
     by_cases h1:i=j
     ·rw[if_pos h1,if_neg (by omega)]
     ·rw[if_neg h1]
      by_cases h2:i<j
      ·rw[if_pos (by omega),if_pos h2]
      ·rw[if_neg (by omega),if_neg h2]
    rw[I6.gP _ _ _ hj,e] at s6;exact s6
 ·obtain rfl:k=0:=by omega
  have e:gK u m=z6:=hn;refine cF (dF hlt) ⟨_,s4.cellsIn 2 rfl,?_⟩;rw[I6.Ey] at *;exact s4.az 0 rfl z6.vs rfl (I6.one _) λ w8 s8=>⟨_,s8.cellsIn 0 rfl,by rw[e],s8.an⟩
theorem Fj(m:I6):∀ k,jO m z6 k=0
 | 0=>rfl
 | k+1=>by simp[jO,Fj m k,fu]
theorem Bu{u m:I6}(h:Cf m u):Cf m (gK u m):=by
 suffices H:∀ k,k<=6->∀ j,j<6->0<=(jz u m k).at' j/\(jz u m k).at' j<=m.at' j from⟨h.mm,H 6 (by omega)⟩
 intro k
 induction k with
 | zero=>intro _ j hj; have:=h.mm j hj; simp only[jz,fu]; omega
 | succ k ih =>
  intro hk j hj;unfold jz;have hu:=h.u j hj
  split
  ·rename_i g;rw[I6.fc _ _ _ _ (by omega) hj]
   split
   ·rename_i e; subst e; have:=h.u j hj; omega
   ·rw[I6.bh _ _ _ _ hj,fu]
    split<;>omega
  ·exact ih (by omega) j hj
theorem vO{u m:I6}(h:Cf m u):(gK u m=z6/\∀ k,k<6->u.at' k=m.at' k)\/(rk m (gK u m)=rk m u+1):=by
 suffices H:∀ k,k<=6->(∀ j,k<=j->j<6->u.at' j=m.at' j)->(jz u m k=z6/\∀ j,j<6->u.at' j=m.at' j)\/(rk m (jz u m k)=rk m u+1) from H 6 (by omega) λ j h1 h2=>by omega
 intro k
 induction k with
 | zero=>exact λ _ ha=>.inl ⟨rfl,λ j hj=>ha j (by omega) hj⟩
 | succ k ih =>
  intro hk ha;unfold jz
  by_cases g:u.at' k<m.at' k
  ·rw[if_pos g];refine .inr ?_;have at1:∀ j,j<6->((I6.mix (k+1) u z6).put k (u.at' k+1)).at' j=if j=k then u.at' k+1 else if j<k then u.at' j else 0:=λ j hj=>by
    rw[I6.fc _ _ _ _ (by omega) hj]
    split
    ·rfl
    ·rw[I6.bh _ _ _ _ hj,fu]
     by_cases h2:j<k
     ·rw[if_pos (by omega),if_pos h2]
     ·rw[if_neg (by omega),if_neg h2]
   have low:∀ i,i<=k->jO m ((I6.mix (k+1) u z6).put k (u.at' k+1)) i=jO m u i:=by
    intro i
    induction i with
    | zero=>intro _; rfl
    | succ i ih2 =>
     intro hi;simp only[jO];rw[ih2 (by omega),at1 i (by omega),if_neg (by omega),if_pos (by omega)]
   have high:∀ d,k+1+d<=6->jO m ((I6.mix (k+1) u z6).put k (u.at' k+1)) (k+1+d)=jO m u (k+1+d)+1:=by
    intro d
    induction d with
    | zero =>
     intro _;show jO m _ (k+1)=jO m u (k+1)+1;simp only[jO];rw[low k (by omega),at1 k (by omega),if_pos rfl];omega
    | succ d ih2 =>
     intro hd;show jO m _ (k+1+d+1)=jO m u (k+1+d+1)+1;simp only[jO];rw[ih2 (by omega),at1 _ (by omega),if_neg (by omega),if_neg (by omega),ha (k+1+d) (by omega) (by omega),Int.add_mul];omega
   have:=high (6-(k+1)) (by omega);rw[show k+1+(6-(k+1))=6 by omega] at this;exact this
  ·rw[if_neg g];refine ih (by omega) λ j h1 h2=>?_;rcases Nat.lt_or_ge k j with h3|h3
   ·exact ha j (by omega) h2
   ·obtain rfl:j=k:=by omega
    have:=h.u j h2;omega
def bx(m:I6):Nat->I6
 | 0=>z6
 | i+1=>gK (bx m i) m
def cR(m:I6):Nat:=(pr m.l).toNat
theorem vT(m:I6)(h:I6.Le m 4):∀ k,k<=6->jO m m k+1=tw m k
 | 0,_=>rfl
 | k+1,hk=>by
  simp only[jO,tw];rw[<- vT m h k (by omega),Int.add_mul];omega
theorem Cd{m:I6}(h:I6.Le m 4):Cf m z6:=⟨h,λ k hk=>by have:=h k hk; rw[fu]; omega⟩
theorem eI{m:I6}(h:I6.Le m 4):∀ i,Cf m (bx m i)
 | 0=>Cd h
 | i+1=>Bu (eI h i)
theorem iZ{m:I6}(h:I6.Le m 4):0<cR m/\(cR m:Int)=pr m.l/\cR m<=15625:=by
 have h1:=kz (leq h);have h2:m.l.length=6:=rfl;rw[h2] at h1;have h3:(5:Int) ^ 6=15625:=by decide
 unfold cR;omega
theorem vu{m:I6}(h:I6.Le m 4):∀ i,i<cR m->rk m (bx m i)=i
 | 0,_=>Fj m 6
 | i+1,hi=>by
  have h1:=vu h i (by omega);rcases vO (eI h i) with⟨_,h2⟩|h2
  ·exfalso
   have h3:bx m i=m:=I6.ext' h2;rw[h3] at h1;have h4:=vT m h 6 (by omega);have h5:=(iZ h).2.1;rw[pF] at h5;have h6:jO m m 6=(i:Int):=h1;omega
  ·show rk m (gK (bx m i) m)=_;rw[h2,h1]; omega
theorem xw{m:I6}(h:I6.Le m 4){i:Nat}(hi:i<cR m):gK (bx m i) m=z6<->i+1=cR m:=by
 have h1:=vu h i hi;have h5:=(iZ h).2.1;have h4:=vT m h 6 (by omega);rw[pF] at h5;constructor
 ·intro e;rcases vO (eI h i) with⟨_,h2⟩|h2
  ·have h3:bx m i=m:=I6.ext' h2;rw[h3] at h1;have h6:jO m m 6=(i:Int):=h1;omega
  ·rw[e] at h2;have h6:jO m z6 6=rk m (bx m i)+1:=h2;rw[Fj,h1] at h6;omega
 ·intro e;rcases vO (eI h i) with⟨h2,_⟩|h2
  ·exact h2
  ·exfalso
   have h7:=wI (Bu (eI h i)) 6 (by omega);have h6:jO m (gK (bx m i) m) 6=rk m (bx m i)+1:=h2;rw[h1] at h6;omega
theorem Gu{w0 w:World}{b l:Nat}{m:I6}(hm:I6.Le m 4){R:Nat->aJ}{B:aJ}(hY:∀ (i:Nat) (w1:World) (Fr:aJ),i<cR m->St w0 w1 (star (R i) Fr)->mI prog l #[.agg (bx m i).vs.toArray] w1 λ g w2=>g=true/\St w0 w2 (star (R (i+1)) Fr))(h:St w0 w (star (R 0) (star (ah b m.vs.toArray 35) B))) :
  CP 123 #[.func (.yield l) #[] #[],.pointer (some ⟨b,0,none⟩)] w (λ r w'=>r=.tuple #[]/\St w0 w' (star (R (cR m)) (star (ah b m.vs.toArray 35) B))):=by
 refine oU ?_;unfold lY;refine aR ?_;obtain⟨hc0,_,_⟩:=iZ hm;have s1:St w0 (w.alloc (.cells z6.vs.toArray 35)) (Sep [ah w.heap.size z6.vs.toArray 35,R 0,ah b m.vs.toArray 35,B]):=h.Ca.cm _ _;generalize World.alloc _ _=w1 at s1 ⊢;generalize w.heap.size=r1 at s1 ⊢;refine s1.az 0 rfl z6.vs rfl (I6.one _) λ w2 s2=>?_;refine⟨λ w3 x=>∃ i,i<cR m/\x=cR m-i/\St w0 w3 (Sep [ah r1 (bx m i).vs.toArray 35,R i,ah b m.vs.toArray 35,B]),⟨cR m,0,hc0,by omega,s2⟩,?_⟩;rintro w3 x ⟨i,hi,rfl,s3⟩ -;refine⟨_,s3.cellsIn 0 rfl,?_⟩;have s3' : St w0 w3 (star (R i) (Sep [ah r1 (bx m i).vs.toArray 35,ah b m.vs.toArray 35,B])):=s3.out 1 rfl;have hy:=hY i w3 _ hi s3';obtain⟨fn,tmps,asg,bdy,hrun,hR⟩:=hy;refine⟨fn,tmps,asg,bdy,hrun,hR.mono λ e w4 ⟨g,he,hg,s4⟩=>⟨g,he,g,rfl,?_⟩⟩;subst hg;have s5:St w0 w4 (Sep [R (i+1),ah r1 (bx m i).vs.toArray 35,ah b m.vs.toArray 35,B]):=s4;refine cT rfl ⟨_,s5.cellsIn 1 rfl,_,s5.cellsIn 2 rfl,aq (xN w4 (eI hm i)) ?_⟩;rintro v w5 ⟨rfl,c5⟩;refine⟨_,rfl,(s5.quiet c5).az 1 rfl _ rfl (I6.one _) λ w6 s6=>⟨_,s6.cellsIn 1 rfl,?_⟩⟩;have s6' : St w0 w6 (Sep [R (i+1),ah r1 (gK (bx m i) m).vs.toArray 35,ah b m.vs.toArray 35,B]):=s6
 by_cases hz:gK (bx m i) m=z6
 ·have e:=(xw hm hi).1 hz;rw[<- e];exact cT (by rw[hz]; rfl) ⟨rfl,(s6'.aA [0,2,3]).triple⟩
 ·refine cF (by rw[I6.beq_eq]; exact dF hz) ⟨cR m-(i+1),by omega,i+1,?_,rfl,s6'.aA [1,0,2,3]⟩;have:i+1≠cR m:=λ e=>hz ((xw hm hi).2 e);omega
theorem I4{w0 w:World}{A:aJ}(s:St w0 w A)(m:I6)(hm:I6.Le m 4)(hp:pr m.l<=1024):CP 40 #[.agg m.vs.toArray] w (λ r w'=>∃ b,r=.func (.func 123) #[] #[.pointer (some ⟨b,0,none⟩)]/\St w0 w' (star (ah b m.vs.toArray 35) A)):=by
 refine tC ?_;unfold rM;refine aR ?_;have s1:=s.one.cm m.vs.toArray 35;generalize World.alloc _ _=w1 at s1 ⊢;generalize w.heap.size=r1 at s1 ⊢;refine⟨_,s1.cellsIn 0 rfl,aq (Ba w1 m) ?_⟩;rintro v w2 ⟨rfl,c2⟩;refine⟨_,rfl,?_⟩;have h1:=(kz (leq hm)).1;rw[if_pos ⟨leq hm,hp⟩];have s2:=s1.quiet c2;refine cF (by simp; omega) ⟨_,s2.cellsIn 0 rfl,?_⟩;refine aq (K:=λ r w'=>∃ b,r=.func (.func 123) #[] #[.pointer (some ⟨b,0,none⟩)]/\St w0 w' (star (ah b m.vs.toArray 35) A)) (rP ?_) ?_
 ·unfold pZ;exact aR ⟨_,rfl,((s2.aA [1]).cm m.vs.toArray 35).pair⟩
 ·exact λ v w' h=>⟨v,rfl,h⟩
def oN(a:I6)(b:OA)(c d:Nat)(w:World)(K:KP):=au w (.cells a.vs.toArray 35) λ a e=>au e (.cells z6.vs.toArray 35) λ e f=>∃ g:I6,af f.drew (qd a 0) 0 g.vs/\CC 173 #[.slice b c d] f.drew λ b c=>∃ d:I6,b=.returned (.agg d.vs.toArray)/\af c (qd a 0) 0 g.vs/\CC 172 #[.agg d.vs.toArray,.agg g.vs.toArray] c λ a b=>∃ c:I6,a=.returned (.agg c.vs.toArray)/\aN (qd e 0) 0 c.vs b λ a=>∃ b:I6,af a (qd e 0) 0 b.vs/\K (.agg b.vs.toArray) a
theorem qV{u1 a1 l1 c1 w K}(h:oN u1 a1 l1 c1 w K):CP 133 #[.agg u1.vs.toArray,.slice a1 l1 c1] w K:=aj (aC []) func133 (by kernel_rfl) (by kernel_rfl) h
def tf(a b:I6)(w:World)(K:KP):=au w (.cells a.vs.toArray 207) λ a c=>au c (.cells b.vs.toArray 207) λ b c=>au c (.cells z6.vs.toArray 35) λ c d=>au d (.cells z6.vs.toArray 35) λ d e=>∃ f:Int->qN,(∃ g,f 0 e g)/\∀ e g h,f h e g->∀ i:qv,cond (decide (h<6)) (∃ i:qW,(∀ j,i j->∀ k:qv,∃ k,k<g/\f (IntKind.i64.wrap (h+1)) j k)/\0<=h/\h<6/\∃ f,e.drew.cell? (Addr.add (qd a 0) ((h).toNat*1))=some (iv f)/\0<=h/\h<6/\∃ g,e.drew.cell? (Addr.add (qd b 0) ((h).toNat*1))=some (iv g)/\cond (decide (f>g)) (0<=h/\h<6/\∃ f,e.drew.drew.cell? (Addr.add (qd a 0) ((h).toNat*1))=some (iv f)/\0<=h/\h<6/\∃ a,e.drew.drew.cell? (Addr.add (qd b 0) ((h).toNat*1))=some (iv a)/\0<=h/\h<6/\dW e.drew.drew (Addr.add (qd d 0) ((h).toNat*1)) (iv (IntKind.i64.wrap (f-a))) λ a=>i a) (i e.drew)) (∃ a:I6,af e (qd d 0) 0 a.vs/\aN (qd c 0) 0 a.vs e λ a=>∃ b:I6,af a (qd c 0) 0 b.vs/\K (.agg b.vs.toArray) a)
theorem tS{u1 u2 w K}(h:tf u1 u2 w K):CP 172 #[.agg u1.vs.toArray,.agg u2.vs.toArray] w K:=aj (aC [(58,[(7,.s (.int .i64))]),(467,[])]) func172 (by kernel_rfl) (by kernel_rfl) h
def qt(a:OA)(b c:Nat)(w:World)(K:KP):=au w (.cells z6.vs.toArray 207) λ c d=>au d (.cells z6.vs.toArray 207) λ d e=>∃ f:Int->qN,(∃ g,f 0 e g)/\∀ e g h,f h e g->∀ i:qv,cond (decide (h<(b:Int))) (ak a λ a=>0<=h/\h<(b:Int)/\∃ b:I6,af e (Addr.add a ((h).toNat*6)) 0 b.vs/\au e (.cells z6.vs.toArray 35) λ a i=>aN (qd a 0) 0 b.vs i λ b=>∃ i:Int->qN,(∃ j,i 0 b j)/\∀ b j k,i k b j->∀ l:qv,cond (decide (k<6)) (0<=k/\k<6/\∃ l,b.drew.cell? (Addr.add (qd d 0) ((k).toNat*1))=some (iv l)/\0<=k/\k<6/\∃ m,b.drew.cell? (Addr.add (qd a 0) ((k).toNat*1))=some (iv m)/\0<=k/\k<6/\dW b.drew (Addr.add (qd d 0) ((k).toNat*1)) (iv (IntKind.i64.wrap (l+m))) λ a=>∃ l,l<j/\i (IntKind.i64.wrap (k+1)) a l) (∃ a,a<g/\f (IntKind.i64.wrap (h+1)) b a)) (∃ a:I6,af e (qd d 0) 0 a.vs/\aN (qd c 0) 0 a.vs e λ a=>∃ b:I6,af a (qd c 0) 0 b.vs/\K (.agg b.vs.toArray) a)
theorem tg{a1 l1 c1 w K}(h:qt a1 l1 c1 w K):CP 173 #[.slice a1 l1 c1] w K:=aj (aC [(58,[(9,.s (.int .i64))]),(14950,[(13,.s (.int .i64))])]) func173 (by kernel_rfl) (by kernel_rfl) h
def iA(a b c d:Int)(w:World)(K:KP):=au w (.cells #[iv a,iv b,iv c,iv d] 41) λ a b=>∃ c:Bool->qW,(∀ d e,c e d->∀ f:qv,cond e (K (iv 4) d) (K qz d))/\∃ d,b.cell? (qd a 0)=some (iv d)/\cond (decide (d<1)) (c true b) (∃ d,b.cell? (qd a 0)=some (iv d)/\cond (decide (d>1000000)) (c true b) (∃ d,b.cell? (qd a 1)=some (iv d)/\cond (decide (d<0)) (c true b) (∃ d,b.cell? (qd a 1)=some (iv d)/\cond (decide (d>100)) (c true b) (∃ d,b.cell? (qd a 2)=some (iv d)/\cond (decide (d<1)) (c true b) (∃ d,b.cell? (qd a 2)=some (iv d)/\cond (decide (d>3)) (c true b) (∃ d,b.cell? (qd a 3)=some (iv d)/\cond (decide (d<1)) (c true b) (∃ d,b.cell? (qd a 3)=some (iv d)/\c (decide (d>3)) b)))))))
theorem lN{n1 n2 n3 n4 w K}(h:iA n1 n2 n3 n4 w K):CP 87 #[.agg #[iv n1,iv n2,iv n3,iv n4]] w K:=aj (aC [(6,[(40,.s .bool)])]) func87 (by kernel_rfl) (by kernel_rfl) h
def iB(a:OA)(b c:Nat)(w:World)(K:KP):=au w (.cells z6.vs.toArray 30) λ d e=>au e (.cells z6.vs.toArray 30) λ e f=>0<=(if (6:Int)<(b:Int) then (6:Int) else (b:Int))/\(if (6:Int)<(b:Int) then (6:Int) else (b:Int))<=(c:Int)/\∃ g:Int->qN,(∃ h,g 0 f h)/\∀ f h i,g i f h->∀ j:qv,cond (decide (i<(((((if (6:Int)<(b:Int) then (6:Int) else (b:Int))).toNat-0):Nat):Int))) (ak (if c=0 then a else Option.map (λ x=>Addr.add x (0*5)) a) λ a=>0<=i/\i<(((((if (6:Int)<(b:Int) then (6:Int) else (b:Int))).toNat-0):Nat):Int)/\∃ b c j k l,af f (Addr.add a ((i).toNat*5)) 0 [.string b,iv c,iv j,iv k,iv l]/\au f (.cells #[.string (bs []),qz,qz,qz,qz] 117) λ a m=>aN (qd a 0) 0 [.string b,iv c,iv j,iv k,iv l] m λ b=>∃ c,b.cell? (qd a 2)=some (iv c)/\0<=i/\i<6/\dW b (Addr.add (qd e 0) ((i).toNat*1)) (iv c) λ a=>∃ b,b<h/\g (IntKind.i64.wrap (i+1)) a b) (∃ a:I6,af f (qd e 0) 0 a.vs/\aN (qd d 0) 0 a.vs f λ a=>∃ b:I6,af a (qd d 0) 0 b.vs/\K (.agg b.vs.toArray) a)
theorem lP{a1 l1 c1 w K}(h:iB a1 l1 c1 w K):CP 89 #[.slice a1 l1 c1] w K:=aj (aC [(58,[(12,.s (.int .i64))])]) func89 (by kernel_rfl) (by kernel_rfl) h
def ff(a:OA)(b c:Nat)(d:OA)(e f:Nat)(g:OA)(h i:Nat)(j:OA)(k l:Nat)(m:Int)(n o:I6)(w:World)(K:KP):=au w (.cells #[.slice a b c,.slice d e f,.slice g h i,.slice j k l] 27) λ a b=>au b (.cells (n.on (o.vs):List Value).toArray 90) λ b c=>∃ d e f g h i j k l n o p,af c (qd a 0) 0 [.slice d e f,.slice g h i,.slice j k l,.slice n o p]/\CC 70 #[.agg #[.slice d e f,.slice g h i,.slice j k l,.slice n o p],iv m] c λ c d=>∃ e,c=.returned (.bool e)/\cond (!e) (K (iv 6) d) (∃ c e f,d.cell? (qd a 1)=some (.slice c e f)/\ak c λ a=>0<=m/\m<(e:Int)/\∃ c,d.cell? (Addr.add (Addr.add a ((m).toNat*4)) 2)=some (iv c)/\∃ a:Bool->qW,(∀ e f,a f e->∀ g:qv,cond f (K (iv 17) e) (K qz e))/\cond (c !=0) (∃ e:I6,af d (qd b 0) 0 e.vs/\∃ f:I6,af d (qd b 6) 0 f.vs/\CC 71 #[.agg e.vs.toArray,.agg f.vs.toArray] d λ b e=>∃ f,b=.returned (iv f)/\a (decide (c<f)) e) (a false d))
theorem iU{a1 l1 c1 a2 l2 c2 a3 l3 c3 a4 l4 c4 n1 u1 u2 w K}(h:ff a1 l1 c1 a2 l2 c2 a3 l3 c3 a4 l4 c4 n1 u1 u2 w K):CP 38 #[.agg #[.slice a1 l1 c1,.slice a2 l2 c2,.slice a3 l3 c3,.slice a4 l4 c4],iv n1,.agg (u1.on (u2.vs):List Value).toArray] w K:=aj (aC [(29,[(28,.s .bool)])]) func38 (by kernel_rfl) (by kernel_rfl) h
def jn(a:OA)(b c:Nat)(d:OA)(e f:Nat)(g:OA)(h i:Nat)(j:OA)(k l:Nat)(m n:Int)(o:OA)(p q:Nat)(r s:I6)(w:World)(K:KP):=au w (.cells #[.slice a b c,.slice d e f,.slice g h i,.slice j k l] 27) λ a b=>au b (.cells (r.on (s.vs):List Value).toArray 90) λ b c=>∃ d e f g h i j k l r s t,af c (qd a 0) 0 [.slice d e f,.slice g h i,.slice j k l,.slice r s t]/\au c (.cells #[qn,qn,qn,qn,qz,qn] 201) λ c u=>aN (qd c 0) 0 [.slice d e f,.slice g h i,.slice j k l,.slice r s t,iv n,.slice o p q] u λ d=>∃ e f g h i j k l r s t u v x y z,af d (qd c 0) 0 [.slice e f g,.slice h i j,.slice k l r,.slice s t u,iv v,.slice x y z]/\∃ A:KP,(∀ B,∀ C:Value,A C B->∀ D:qv,∃ D E F G H I J L M N O P,af B (qd a 0) 0 [.slice D E F,.slice G H I,.slice J L M,.slice N O P]/\CC 70 #[.agg #[.slice D E F,.slice G H I,.slice J L M,.slice N O P],iv n] B λ a n=>∃ B,a=.returned (.bool B)/\cond (!B) (K (iv 6) n) (∃ a:I6,af n (qd b 6) 0 a.vs/\CC 73 #[.agg a.vs.toArray] n λ a n=>∃ B,a=.returned (iv B)/\cond (B !=0) (K (iv B) n) (∃ a:KP,(∀ B,∀ D:Value,a D B->∀ E:qv,∃ E F:I6,af B (qd b 0) 0 (E.on (F.vs))/\gw prog D #[.agg (E.on (F.vs):List Value).toArray] B λ b B=>∃ D,b=.returned (.bool D)/\cond (!D) (K (iv 15) B) (K qz B))/\CC 165 #[.slice o p q] n λ b n=>∃ o,b=.returned (.bool o)/\cond o (a (.func (.func 166) #[] #[]) n) (a C n))))/\cond (m==1) (A (.func (.func 162) #[.agg #[.slice e f g,.slice h i j,.slice k l r,.slice s t u,iv v,.slice x y z]] #[]) d) (cond (m==2) (∃ a b e f g h i j k l n o p q r s,af d (qd c 0) 0 [.slice a b e,.slice f g h,.slice i j k,.slice l n o,iv p,.slice q r s]/\A (.func (.func 163) #[.agg #[.slice a b e,.slice f g h,.slice i j k,.slice l n o,iv p,.slice q r s]] #[]) d) (cond (m==3) (∃ a b e f g h i j k l m n o p q r,af d (qd c 0) 0 [.slice a b e,.slice f g h,.slice i j k,.slice l m n,iv o,.slice p q r]/\A (.func (.func 164) #[.agg #[.slice a b e,.slice f g h,.slice i j k,.slice l m n,iv o,.slice p q r]] #[]) d) (K (iv 4) d)))
theorem mK{a1 l1 c1 a2 l2 c2 a3 l3 c3 a4 l4 c4 n1 n2 a5 l5 c5 u1 u2 w K}(h:jn a1 l1 c1 a2 l2 c2 a3 l3 c3 a4 l4 c4 n1 n2 a5 l5 c5 u1 u2 w K):CP 130 #[.agg #[.slice a1 l1 c1,.slice a2 l2 c2,.slice a3 l3 c3,.slice a4 l4 c4],iv n1,iv n2,.slice a5 l5 c5,.agg (u1.on (u2.vs):List Value).toArray] w K:=aj (aC [(15,[(12,.s (.raw))]),(127,[(12,.s (.raw))])]) func130 (by kernel_rfl) (by kernel_rfl) h
def jD(a:Int)(b:I6)(c:OA)(d e:Nat)(f:OA)(g h:Nat)(w:World)(K:KP):=au w (.cells b.vs.toArray 35) λ b i=>∃ j:I6,af i (qd b 0) 0 j.vs/\CC 167 #[iv a,.agg j.vs.toArray,.slice c d e,.slice f g h] i λ h i=>∃ j,h=.returned (iv j)/\cond (j !=0) (K (.tuple #[qn,iv j]) i) (CC 168 #[.slice c d e] i λ c d=>∃ e h i,c=.returned (.slice e h i)/\∃ c:Int->qN,(∃ j,c 0 d j)/\∀ d j k,c k d j->∀ l:qv,cond (decide (k<(g:Int))) (∃ l:qW,(∀ m,l m->∀ n:qv,∃ n,n<j/\c (IntKind.i64.wrap (k+1)) m n)/\ak f λ c=>0<=k/\k<(g:Int)/\∃ f:I6,af d (Addr.add c ((k).toNat*6)) 0 f.vs/\au d (.cells z6.vs.toArray 35) λ c g=>aN (qd c 0) 0 f.vs g λ f=>CC 169 #[.slice e h i] f λ f g=>∃ j:I6,f=.returned (.agg j.vs.toArray)/\au g (.cells z6.vs.toArray 35) λ f g=>aN (qd f 0) 0 j.vs g λ g=>∃ j:qW,(∀ m,j m->∀ n:qv,∃ n:I6,af m (qd c 0) 0 n.vs/\ak e λ o=>0<=k/\k<(h:Int)/\aN (Addr.add o ((k).toNat*6)) 0 n.vs m λ m=>l m)/\cond (a==2) (∃ m:I6,af g.drew (qd b 0) 0 m.vs/\∃ n:I6,af g.drew (qd f 0) 0 n.vs/\ak e λ o=>0<=k/\k<(h:Int)/\∃ p:I6,af g.drew (Addr.add o ((k).toNat*6)) 0 p.vs/\∃ o:I6,af g.drew (qd c 0) 0 o.vs/\CC 170 #[.agg m.vs.toArray,.agg n.vs.toArray,.agg p.vs.toArray,.agg o.vs.toArray] g.drew λ m n=>∃ o,m=.returned (.bool o)/\cond o (l n) (j n)) (cond (a==3) (∃ a:I6,af g.drew (qd b 0) 0 a.vs/\∃ b:I6,af g.drew (qd f 0) 0 b.vs/\ak e λ f=>0<=k/\k<(h:Int)/\∃ l:I6,af g.drew (Addr.add f ((k).toNat*6)) 0 l.vs/\∃ f:I6,af g.drew (qd c 0) 0 f.vs/\CC 171 #[.agg a.vs.toArray,.agg b.vs.toArray,.agg l.vs.toArray,.agg f.vs.toArray] g.drew λ a b=>∃ f:I6,a=.returned (.agg f.vs.toArray)/\aN (qd c 0) 0 f.vs b λ a=>j a) (j g))) (K (.tuple #[.slice e h i,qz]) d))
theorem nw{n1 u1 a1 l1 c1 a2 l2 c2 w K}(h:jD n1 u1 a1 l1 c1 a2 l2 c2 w K):CP 131 #[iv n1,.agg u1.vs.toArray,.slice a1 l1 c1,.slice a2 l2 c2] w K:=aj (aC [(122,[(27,.s (.int .i64))]),(979,[]),(15667,[])]) func131 (by kernel_rfl) (by kernel_rfl) h
def jt(a b c d:Int)(e f:I6)(w:World)(K:KP):=au w (.cells #[iv a,iv b,iv c,iv d] 41) λ a b=>au b (.cells e.vs.toArray 30) λ b c=>au c (.cells f.vs.toArray 35) λ c d=>au d (.cells z6.vs.toArray 30) λ d e=>∃ f g h i,af e (qd a 0) 0 [iv f,iv g,iv h,iv i]/\CC 87 #[.agg #[iv f,iv g,iv h,iv i]] e λ e f=>∃ g,e=.returned (iv g)/\cond (g !=0) (aN (qd d 0) 0 z6.vs f λ e=>∃ h:I6,af e (qd d 0) 0 h.vs/\K (.tuple #[.agg h.vs.toArray,iv g]) e) (∃ e:Value->Nat->qW,(∀ g,∀ h:Value,∀ i,e h i g->∀ j:qv,∃ j:I6,af g (qd c 0) 0 j.vs/\∃ c:Int->qN,(∃ k,c 0 g k)/\∀ g k l,c l g k->∀ m:qv,cond (decide (l<6)) (∃ m:qW,(∀ n,m n->∀ o:qv,∃ o,o<k/\c (IntKind.i64.wrap (l+1)) n o)/\0<=l/\l<6/\∃ c,(j.vs.toArray:Array Value)[(l).toNat*1]?=some (iv c)/\∃ j:Bool->qW,(∀ k n,j n k->∀ o:qv,cond n (0<=l/\l<6/\∃ n,k.cell? (Addr.add (qd b 0) ((l).toNat*1))=some (iv n)/\gw prog h #[iv n] k λ h n=>∃ o,h=.returned (iv o)/\0<=l/\l<6/\dW n (Addr.add (qd i 0) ((l).toNat*1)) (iv o) λ h=>m h) (m k))/\cond (decide (c>0)) (∃ c:I6,af g (qd b 0) 0 c.vs/\CC 175 #[.agg c.vs.toArray] g λ c h=>∃ k,c=.returned (.bool k)/\j k h) (j false g)) (∃ c:Bool->qW,(∀ h j,c j h->∀ k:qv,cond j (aN (qd d 0) 0 z6.vs h λ j=>∃ k:I6,af j (qd d 0) 0 k.vs/\K (.tuple #[.agg k.vs.toArray,iv 4]) j) (∃ j:I6,af h (qd i 0) 0 j.vs/\aN (qd d 0) 0 j.vs h λ h=>∃ j:I6,af h (qd d 0) 0 j.vs/\K (.tuple #[.agg j.vs.toArray,qz]) h))/\∃ d:I6,af g (qd b 0) 0 d.vs/\CC 175 #[.agg d.vs.toArray] g λ d g=>∃ h,d=.returned (.bool h)/\cond (!h) (c true g) (∃ d:I6,af g (qd i 0) 0 d.vs/\∃ h:I6,af g (qd b 0) 0 h.vs/\cond (!(I6.beq d h)) (∃ d:I6,af g (qd i 0) 0 d.vs/\CC 175 #[.agg d.vs.toArray] g λ d h=>∃ i,d=.returned (.bool i)/\c (!i) h) (c false g))))/\∃ c d g h,af f.drew (qd a 0) 0 [iv c,iv d,iv g,iv h]/\∃ i:I6,af f.drew (qd b 0) 0 i.vs/\(CC 174 #[.agg #[iv c,iv d,iv g,iv h]] f.drew λ j k=>∃ l:Value,j=.returned l/\af k (qd b 0) 0 i.vs/\au k (.cells z6.vs.toArray 30) λ j k=>af k (qd b 0) 0 i.vs/\aN (qd j 0) 0 i.vs k λ k=>e l j k)/\au f.drew (.cells z6.vs.toArray 30) λ f j=>af j (qd b 0) 0 i.vs/\af j (qd a 0) 0 [iv c,iv d,iv g,iv h]/\CC 174 #[.agg #[iv c,iv d,iv g,iv h]] j λ a c=>∃ d:Value,a=.returned d/\af c (qd b 0) 0 i.vs/\aN (qd f 0) 0 i.vs c λ a=>e d f a)
theorem mR{n1 n2 n3 n4 u1 u2 w K}(h:jt n1 n2 n3 n4 u1 u2 w K):CP 134 #[.agg #[iv n1,iv n2,iv n3,iv n4],.agg u1.vs.toArray,.agg u2.vs.toArray] w K:=aj (aC [(7,[(9,.s (.raw)),(10,.s (.blk))]),(122,[(23,.s (.int .i64))]),(979,[]),(7833,[(32,.s .bool)]),(62,[(53,.s .bool)])]) func134 (by kernel_rfl) (by kernel_rfl) h
def nI(a:OA)(b c:Nat)(d:OA)(e f:Nat)(g:OA)(h i:Nat)(j:OA)(k l:Nat)(m:Int)(w:World)(K:KP):=au w (.cells #[.slice a b c,.slice d e f,.slice g h i,.slice j k l] 27) λ a b=>cond (decide (m>=0)) (∃ c d e,b.cell? (qd a 1)=some (.slice c d e)/\K (.bool (decide (m<(d:Int)))) b) (K (.bool false) b)
theorem qA{a1 l1 c1 a2 l2 c2 a3 l3 c3 a4 l4 c4 n1 w K}(h:nI a1 l1 c1 a2 l2 c2 a3 l3 c3 a4 l4 c4 n1 w K):CP 70 #[.agg #[.slice a1 l1 c1,.slice a2 l2 c2,.slice a3 l3 c3,.slice a4 l4 c4],iv n1] w K:=aj (aC []) func70 (by kernel_rfl) (by kernel_rfl) h
def dZ(a:OA)(b c:Nat)(d:OA)(e f:Nat)(g:OA)(h i:Nat)(j:OA)(k l:Nat)(m:Int)(n:OA)(o p:Nat)(q r:I6)(w:World)(K:KP):=au w (.cells #[.slice a b c,.slice d e f,.slice g h i,.slice j k l,iv m,.slice n o p] 201) λ a b=>au b (.cells (q.on (r.vs):List Value).toArray 90) λ b c=>∃ d e f g h i j k l m n o p q r s,af c.drew (qd a 0) 0 [.slice d e f,.slice g h i,.slice j k l,.slice m n o,iv p,.slice q r s]/\∃ t u:I6,af c.drew (qd b 0) 0 (t.on (u.vs))/\∃ b v x y z A B C D E F G,af c.drew (qd a 0) 0 [.slice b v x,.slice y z A,.slice B C D,.slice E F G]/\∃ H,c.drew.cell? (qd a 4)=some (iv H)/\∃ I J L,c.drew.cell? (qd a 5)=some (.slice I J L)/\CC 190 #[.agg #[.slice d e f,.slice g h i,.slice j k l,.slice m n o,iv p,.slice q r s],.agg (t.on (u.vs):List Value).toArray] c.drew λ c d=>∃ e,c=.returned (iv e)/\d.cell? (qd a 5)=some (.slice I J L)/\d.cell? (qd a 4)=some (iv H)/\af d (qd a 0) 0 [.slice b v x,.slice y z A,.slice B C D,.slice E F G]/\CC 191 #[.agg #[.slice b v x,.slice y z A,.slice B C D,.slice E F G],iv H,.slice I J L] d λ a b=>∃ c,a=.returned (iv c)/\K (.bool (decide (e<=c))) b
theorem gX{a1 l1 c1 a2 l2 c2 a3 l3 c3 a4 l4 c4 n1 a5 l5 c5 u1 u2 w K}(h:dZ a1 l1 c1 a2 l2 c2 a3 l3 c3 a4 l4 c4 n1 a5 l5 c5 u1 u2 w K):CP 162 #[.agg #[.slice a1 l1 c1,.slice a2 l2 c2,.slice a3 l3 c3,.slice a4 l4 c4,iv n1,.slice a5 l5 c5],.agg (u1.on (u2.vs):List Value).toArray] w K:=aj (aC []) func162 (by kernel_rfl) (by kernel_rfl) h
def dH(a:OA)(b c:Nat)(d:OA)(e f:Nat)(g:OA)(h i:Nat)(j:OA)(k l:Nat)(m:Int)(n:OA)(o p:Nat)(q r:I6)(w:World)(K:KP):=au w (.cells #[.slice a b c,.slice d e f,.slice g h i,.slice j k l,iv m,.slice n o p] 201) λ a b=>au b (.cells (q.on (r.vs):List Value).toArray 90) λ b c=>∃ d:Bool->qW,(∀ e f,d f e->∀ g:qv,K (.bool f) e)/\∃ e f g,c.drew.cell? (qd a 5)=some (.slice e f g)/\∃ h i j,c.drew.cell? (qd a 5)=some (.slice h i j)/\∃ k l m,c.drew.cell? (qd a 5)=some (.slice k l m)/\0<=(l:Int)/\(l:Int)<=(g:Int)/\0<=(i:Int)/\(i:Int)<=((((l:Int)).toNat:Nat):Int)/\∃ n o:I6,af c.drew (qd b 0) 0 (n.on (o.vs))/\(au c.drew (.cells (n.on (o.vs):List Value).toArray 90) λ p q=>q.cell? (qd a 5)=some (.slice k l m)/\q.cell? (qd a 5)=some (.slice h i j)/\q.cell? (qd a 5)=some (.slice e f g)/\(aW prog (Builtin.append_ #[68,68] 68 #[.slice (if ((l:Int)).toNat=0 then e else Option.map (λ x=>Addr.add x (0*12)) e) (((i:Int)).toNat-0) (((l:Int)).toNat-0),.slice (some (qd p 0)) 1 1]) q λ r s=>∃ t u v,r=(.slice t u v)/\(CC 192 #[.slice t u v] s λ r y=>∃ z A B C D E F,r=.returned (.tuple #[.agg #[.slice z A B,.slice C D E],.bool F])/\au y (.cells #[qn,qn] 163) λ r y=>aN (qd r 0) 0 [.slice z A B,.slice C D E] y λ r=>d F r)/\au s (.cells #[qn,qn] 163) λ r s=>CC 192 #[.slice t u v] s λ s t=>∃ u v y z A B C,s=.returned (.tuple #[.agg #[.slice u v y,.slice z A B],.bool C])/\aN (qd r 0) 0 [.slice u v y,.slice z A B] t λ r=>d C r)/\au q (.cells #[qn,qn] 163) λ q r=>r.cell? (qd a 5)=some (.slice k l m)/\r.cell? (qd a 5)=some (.slice h i j)/\r.cell? (qd a 5)=some (.slice e f g)/\aW prog (Builtin.append_ #[68,68] 68 #[.slice (if ((l:Int)).toNat=0 then e else Option.map (λ x=>Addr.add x (0*12)) e) (((i:Int)).toNat-0) (((l:Int)).toNat-0),.slice (some (qd p 0)) 1 1]) r λ p r=>∃ s t u,p=(.slice s t u)/\CC 192 #[.slice s t u] r λ p r=>∃ s t u v y z A,p=.returned (.tuple #[.agg #[.slice s t u,.slice v y z],.bool A])/\aN (qd q 0) 0 [.slice s t u,.slice v y z] r λ p=>d A p)/\au c.drew (.cells #[qn,qn] 163) λ c p=>af p (qd b 0) 0 (n.on (o.vs))/\p.cell? (qd a 5)=some (.slice k l m)/\p.cell? (qd a 5)=some (.slice h i j)/\p.cell? (qd a 5)=some (.slice e f g)/\au p (.cells (n.on (o.vs):List Value).toArray 90) λ b n=>n.cell? (qd a 5)=some (.slice k l m)/\n.cell? (qd a 5)=some (.slice h i j)/\n.cell? (qd a 5)=some (.slice e f g)/\aW prog (Builtin.append_ #[68,68] 68 #[.slice (if ((l:Int)).toNat=0 then e else Option.map (λ x=>Addr.add x (0*12)) e) (((i:Int)).toNat-0) (((l:Int)).toNat-0),.slice (some (qd b 0)) 1 1]) n λ a b=>∃ e f g,a=(.slice e f g)/\CC 192 #[.slice e f g] b λ a b=>∃ e f g h i j k,a=.returned (.tuple #[.agg #[.slice e f g,.slice h i j],.bool k])/\aN (qd c 0) 0 [.slice e f g,.slice h i j] b λ a=>d k a
theorem fH{a1 l1 c1 a2 l2 c2 a3 l3 c3 a4 l4 c4 n1 a5 l5 c5 u1 u2 w K}(h:dH a1 l1 c1 a2 l2 c2 a3 l3 c3 a4 l4 c4 n1 a5 l5 c5 u1 u2 w K):CP 163 #[.agg #[.slice a1 l1 c1,.slice a2 l2 c2,.slice a3 l3 c3,.slice a4 l4 c4,iv n1,.slice a5 l5 c5],.agg (u1.on (u2.vs):List Value).toArray] w K:=aj (aC [(3,[(6,.s .bool)])]) func163 (by kernel_rfl) (by kernel_rfl) h
def dI(a:OA)(b c:Nat)(d:OA)(e f:Nat)(g:OA)(h i:Nat)(j:OA)(k l:Nat)(m:Int)(n:OA)(o p:Nat)(q r:I6)(w:World)(K:KP):=au w (.cells #[.slice a b c,.slice d e f,.slice g h i,.slice j k l,iv m,.slice n o p] 201) λ a b=>au b (.cells (q.on (r.vs):List Value).toArray 90) λ b c=>∃ d e f g h i j k l m n o p q r s,af c (qd a 0) 0 [.slice d e f,.slice g h i,.slice j k l,.slice m n o,iv p,.slice q r s]/\∃ t u:I6,af c (qd b 0) 0 (t.on (u.vs))/\CC 162 #[.agg #[.slice d e f,.slice g h i,.slice j k l,.slice m n o,iv p,.slice q r s],.agg (t.on (u.vs):List Value).toArray] c λ c d=>∃ e,c=.returned (.bool e)/\cond e (K (.bool true) d) (∃ c e f g h i j k l m n o p q r s,af d (qd a 0) 0 [.slice c e f,.slice g h i,.slice j k l,.slice m n o,iv p,.slice q r s]/\∃ a t:I6,af d (qd b 0) 0 (a.on (t.vs))/\CC 163 #[.agg #[.slice c e f,.slice g h i,.slice j k l,.slice m n o,iv p,.slice q r s],.agg (a.on (t.vs):List Value).toArray] d λ a b=>∃ c,a=.returned (.bool c)/\K (.bool c) b)
theorem fI{a1 l1 c1 a2 l2 c2 a3 l3 c3 a4 l4 c4 n1 a5 l5 c5 u1 u2 w K}(h:dI a1 l1 c1 a2 l2 c2 a3 l3 c3 a4 l4 c4 n1 a5 l5 c5 u1 u2 w K):CP 164 #[.agg #[.slice a1 l1 c1,.slice a2 l2 c2,.slice a3 l3 c3,.slice a4 l4 c4,iv n1,.slice a5 l5 c5],.agg (u1.on (u2.vs):List Value).toArray] w K:=aj (aC []) func164 (by kernel_rfl) (by kernel_rfl) h
def jo(a:OA)(b c:Nat)(w:World)(K:KP):=cond (decide ((b:Int)>(0:Int))) (ak a λ a=>0<=(IntKind.i64.wrap ((b:Int)-(1:Int)))/\(IntKind.i64.wrap ((b:Int)-(1:Int)))<(b:Int)/\∃ c:I6,af w (Addr.add (Addr.add a (((IntKind.i64.wrap ((b:Int)-(1:Int)))).toNat*12)) 6) 0 c.vs/\K (.bool (I6.beq c z6)) w) (K (.bool false) w)
theorem mL{a1 l1 c1 w K}(h:jo a1 l1 c1 w K):CP 165 #[.slice a1 l1 c1] w K:=aj (aC []) func165 (by kernel_rfl) (by kernel_rfl) h
def gr(a b:I6)(w:World)(K:KP):=au w (.cells (a.on (b.vs):List Value).toArray 90) λ a b=>∃ c:I6,af b (qd a 6) 0 c.vs/\K (.bool (I6.beq c z6)) b
theorem jR{u1 u2 w K}(h:gr u1 u2 w K):CP 166 #[.agg (u1.on (u2.vs):List Value).toArray] w K:=aj (aC []) func166 (by kernel_rfl) (by kernel_rfl) h
def jE(a:Int)(b:I6)(c:OA)(d e:Nat)(f:OA)(g h:Nat)(w:World)(K:KP):=au w (.cells b.vs.toArray 35) λ b i=>∃ j:Bool->qW,(∀ k l,j l k->∀ m:qv,cond l (K (iv 4) k) (∃ l:Bool->qW,(∀ m n,l n m->∀ o:qv,cond n (K (iv 3) m) (∃ n:I6,af m (qd b 0) 0 n.vs/\CC 73 #[.agg n.vs.toArray] m λ b m=>∃ n,b=.returned (iv n)/\cond (n !=0) (K (iv 4) m) (∃ b:Int->qN,(∃ n,b 0 m n)/\∀ m n o,b o m n->∀ p:qv,cond (decide (o<2)) (0<=o/\o<2/\∃ p q r,(#[.slice c d e,.slice f g h]:Array Value)[(o).toNat*1]?=some (.slice p q r)/\∃ c:Int->qN,(∃ e,c 0 m e)/\∀ f e h,c h f e->∀ r:qv,cond (decide (h<(q:Int))) (ak p λ p=>0<=h/\h<(q:Int)/\∃ q:I6,af f (Addr.add p ((h).toNat*6)) 0 q.vs/\au f (.cells z6.vs.toArray 35) λ p r=>aN (qd p 0) 0 q.vs r λ q=>∃ r:I6,af q (qd p 0) 0 r.vs/\CC 73 #[.agg r.vs.toArray] q λ p q=>∃ r,p=.returned (iv r)/\cond (r !=0) (K (iv 4) q) (∃ p,p<e/\c (IntKind.i64.wrap (h+1)) q p)) (∃ c,c<n/\b (IntKind.i64.wrap (o+1)) f c)) (K qz m))))/\cond ((d:Int) !=(g:Int)) (l true k) (l (decide ((d:Int)>(8:Int))) k)))/\cond (decide (a<1)) (j true i) (j (decide (a>3)) i)
theorem nA{n1 u1 a1 l1 c1 a2 l2 c2 w K}(h:jE n1 u1 a1 l1 c1 a2 l2 c2 w K):CP 167 #[iv n1,.agg u1.vs.toArray,.slice a1 l1 c1,.slice a2 l2 c2] w K:=aj (aC [(12,[(13,.s .bool)]),(51,[(20,.s .bool)]),(58,[(38,.s (.int .i64))]),(14950,[(43,.s (.int .i64))])]) func167 (by kernel_rfl) (by kernel_rfl) h
def vj(a:OA)(b c:Nat)(w:World)(K:KP):=au w (.cells z6.vs.toArray 35) λ d e=>CC 173 #[.slice a b c] e λ a b=>∃ c:I6,a=.returned (.agg c.vs.toArray)/\aN (qd d 0) 0 c.vs b λ a=>∃ b:I6,af a (qd d 0) 0 b.vs/\K (.agg b.vs.toArray) a
theorem wR{a1 l1 c1 w K}(h:vj a1 l1 c1 w K):CP 169 #[.slice a1 l1 c1] w K:=aj (aC []) func169 (by kernel_rfl) (by kernel_rfl) h
def gV(a b c d:I6)(w:World)(K:KP):=au w (.cells a.vs.toArray 35) λ a e=>au e (.cells b.vs.toArray 35) λ b e=>au e (.cells c.vs.toArray 35) λ c e=>au e (.cells d.vs.toArray 35) λ d e=>∃ f:Int->qN,(∃ g,f 0 e g)/\∀ e g h,f h e g->∀ i:qv,cond (decide (h<6)) (∃ i:Bool->qW,(∀ j k,i k j->∀ l:qv,cond k (K (.bool true) j) (∃ k,k<g/\f (IntKind.i64.wrap (h+1)) j k))/\0<=h/\h<6/\∃ f,e.drew.cell? (Addr.add (qd d 0) ((h).toNat*1))=some (iv f)/\0<=h/\h<6/\∃ g,e.drew.cell? (Addr.add (qd c 0) ((h).toNat*1))=some (iv g)/\cond (decide (f<g)) (0<=h/\h<6/\∃ f,e.drew.cell? (Addr.add (qd b 0) ((h).toNat*1))=some (iv f)/\0<=h/\h<6/\∃ b,e.drew.cell? (Addr.add (qd c 0) ((h).toNat*1))=some (iv b)/\0<=h/\h<6/\∃ c,e.drew.cell? (Addr.add (qd d 0) ((h).toNat*1))=some (iv c)/\0<=h/\h<6/\∃ d,e.drew.cell? (Addr.add (qd a 0) ((h).toNat*1))=some (iv d)/\i (decide ((IntKind.i64.wrap ((IntKind.i64.wrap (f-b))+c))<d)) e.drew) (i false e.drew)) (K (.bool false) e)
theorem kT{u1 u2 u3 u4 w K}(h:gV u1 u2 u3 u4 w K):CP 170 #[.agg u1.vs.toArray,.agg u2.vs.toArray,.agg u3.vs.toArray,.agg u4.vs.toArray] w K:=aj (aC [(26,[(10,.s (.int .i64))]),(1689,[(36,.s .bool)])]) func170 (by kernel_rfl) (by kernel_rfl) h
def iO(a b c d:I6)(w:World)(K:KP):=au w (.cells a.vs.toArray 35) λ a e=>au e (.cells b.vs.toArray 35) λ b e=>au e (.cells c.vs.toArray 35) λ c e=>au e (.cells d.vs.toArray 35) λ d e=>au e (.cells z6.vs.toArray 35) λ e f=>∃ g:Int->qN,(∃ h,g 0 f h)/\∀ f h i,g i f h->∀ j:qv,cond (decide (i<6)) (∃ j:qW,(∀ k,j k->∀ l:qv,∃ l,l<h/\g (IntKind.i64.wrap (i+1)) k l)/\0<=i/\i<6/\∃ g,f.drew.cell? (Addr.add (qd d 0) ((i).toNat*1))=some (iv g)/\0<=i/\i<6/\∃ h,f.drew.cell? (Addr.add (qd c 0) ((i).toNat*1))=some (iv h)/\cond (decide (g<h)) (0<=i/\i<6/\∃ g,f.drew.drew.cell? (Addr.add (qd c 0) ((i).toNat*1))=some (iv g)/\0<=i/\i<6/\∃ h,f.drew.drew.cell? (Addr.add (qd c 0) ((i).toNat*1))=some (iv h)/\0<=i/\i<6/\∃ c,f.drew.drew.cell? (Addr.add (qd d 0) ((i).toNat*1))=some (iv c)/\0<=i/\i<6/\∃ k,f.drew.drew.cell? (Addr.add (qd b 0) ((i).toNat*1))=some (iv k)/\0<=i/\i<6/\∃ b,f.drew.drew.cell? (Addr.add (qd a 0) ((i).toNat*1))=some (iv b)/\0<=i/\i<6/\dW f.drew.drew (Addr.add (qd d 0) ((i).toNat*1)) (iv (IntKind.i64.wrap (g-(if (if (0:Int)>(IntKind.i64.wrap (k-b)) then (0:Int) else (IntKind.i64.wrap (k-b)))<(IntKind.i64.wrap (h-c)) then (if (0:Int)>(IntKind.i64.wrap (k-b)) then (0:Int) else (IntKind.i64.wrap (k-b))) else (IntKind.i64.wrap (h-c)))))) λ a=>j a) (j f.drew)) (∃ a:I6,af f (qd d 0) 0 a.vs/\aN (qd e 0) 0 a.vs f λ a=>∃ b:I6,af a (qd e 0) 0 b.vs/\K (.agg b.vs.toArray) a)
theorem lW{u1 u2 u3 u4 w K}(h:iO u1 u2 u3 u4 w K):CP 171 #[.agg u1.vs.toArray,.agg u2.vs.toArray,.agg u3.vs.toArray,.agg u4.vs.toArray] w K:=aj (aC [(26,[(10,.s (.int .i64))]),(211,[])]) func171 (by kernel_rfl) (by kernel_rfl) h
def nQ(a b c d:Int)(w:World)(K:KP):=au w (.cells #[iv a,iv b,iv c,iv d] 41) λ a b=>K (.func (.func 193) #[] #[qp a]) b
theorem eU{n1 n2 n3 n4 w K}(h:nQ n1 n2 n3 n4 w K):CP 174 #[.agg #[iv n1,iv n2,iv n3,iv n4]] w K:=aj (aC []) func174 (by kernel_rfl) (by kernel_rfl) h
def iC(a:I6)(w:World)(K:KP):=au w (.cells a.vs.toArray 30) λ a b=>∃ c:I6,af b (qd a 0) 0 c.vs/\∃ a:Int->qN,(∃ d,a 0 b d)/\∀ b d e,a e b d->∀ f:qv,cond (decide (e<6)) (0<=e/\e<6/\∃ f,(c.vs.toArray:Array Value)[(e).toNat*1]?=some (iv f)/\CC 194 #[iv f] b λ c f=>∃ g,c=.returned (iv g)/\cond (g !=0) (K (.bool false) f) (∃ c,c<d/\a (IntKind.i64.wrap (e+1)) f c)) (K (.bool true) b)
theorem lR{u1 w K}(h:iC u1 w K):CP 175 #[.agg u1.vs.toArray] w K:=aj (aC [(26,[(6,.s (.int .i64))])]) func175 (by kernel_rfl) (by kernel_rfl) h
def dJ(a:OA)(b c:Nat)(d:OA)(e f:Nat)(g:OA)(h i:Nat)(j:OA)(k l:Nat)(m:Int)(n:OA)(o p:Nat)(q r:I6)(w:World)(K:KP):=au w (.cells #[.slice a b c,.slice d e f,.slice g h i,.slice j k l,iv m,.slice n o p] 201) λ a b=>au b (.cells (q.on (r.vs):List Value).toArray 90) λ b c=>∃ d e f,c.cell? (qd a 0)=some (.slice d e f)/\∃ a:I6,af c (qd b 6) 0 a.vs/\CC 202 #[.slice d e f,.agg a.vs.toArray] c λ a b=>∃ c,a=.returned (iv c)/\K (iv c) b
theorem fJ{a1 l1 c1 a2 l2 c2 a3 l3 c3 a4 l4 c4 n1 a5 l5 c5 u1 u2 w K}(h:dJ a1 l1 c1 a2 l2 c2 a3 l3 c3 a4 l4 c4 n1 a5 l5 c5 u1 u2 w K):CP 190 #[.agg #[.slice a1 l1 c1,.slice a2 l2 c2,.slice a3 l3 c3,.slice a4 l4 c4,iv n1,.slice a5 l5 c5],.agg (u1.on (u2.vs):List Value).toArray] w K:=aj (aC []) func190 (by kernel_rfl) (by kernel_rfl) h
def eO(a:OA)(b c:Nat)(d:OA)(e f:Nat)(g:OA)(h i:Nat)(j:OA)(k l:Nat)(m:Int)(n:OA)(o p:Nat)(w:World)(K:KP):=au w (.cells #[.slice a b c,.slice d e f,.slice g h i,.slice j k l] 27) λ a b=>∃ c d e f g h i j k l q r,af b (qd a 0) 0 [.slice c d e,.slice f g h,.slice i j k,.slice l q r]/\CC 70 #[.agg #[.slice c d e,.slice f g h,.slice i j k,.slice l q r],iv m] b λ b c=>∃ d,b=.returned (.bool d)/\cond (!d) (K qz c) (∃ b d e f g h i j k l q r,af c.drew (qd a 0) 0 [.slice b d e,.slice f g h,.slice i j k,.slice l q r]/\∃ s t u,c.drew.cell? (qd a 1)=some (.slice s t u)/\ak s λ a=>0<=m/\m<(t:Int)/\∃ s,c.drew.cell? (Addr.add (Addr.add a ((m).toNat*4)) 3)=some (iv s)/\∃ a:Int->Int->qN,(∃ t,a s 0 c.drew t)/\∀ c t s u,a s u c t->∀ v:qv,cond (decide (u<(o:Int))) (ak n λ v=>0<=u/\u<(o:Int)/\∃ x y:I6,af c (Addr.add v ((u).toNat*12)) 0 (x.on (y.vs))/\au c (.cells #[qz,qz,qz,qz,qz,qz,qz,qz,qz,qz,qz,qz] 90) λ v z=>aN (qd v 0) 0 (x.on (y.vs)) z λ x=>∃ y z:I6,af x (qd v 0) 0 (y.on (z.vs))/\CC 190 #[.agg #[.slice b d e,.slice f g h,.slice i j k,.slice l q r,iv m,.slice n o p],.agg (y.on (z.vs):List Value).toArray] x λ b d=>∃ e,b=.returned (iv e)/\∃ b,b<t/\a (if e<s then e else s) (IntKind.i64.wrap (u+1)) d b) (K (iv s) c))
theorem ig{a1 l1 c1 a2 l2 c2 a3 l3 c3 a4 l4 c4 n1 a5 l5 c5 w K}(h:eO a1 l1 c1 a2 l2 c2 a3 l3 c3 a4 l4 c4 n1 a5 l5 c5 w K):CP 191 #[.agg #[.slice a1 l1 c1,.slice a2 l2 c2,.slice a3 l3 c3,.slice a4 l4 c4],iv n1,.slice a5 l5 c5] w K:=aj (aC [(122,[(8,.s (.int .i64)),(28,.s (.int .i64))])]) func191 (by kernel_rfl) (by kernel_rfl) h
def kH(a:OA)(b c:Nat)(w:World)(K:KP):=au w (.cells #[qn,qn] 163) λ d e=>CC 149 #[.slice a b c] e λ e f=>∃ g,e=.returned (.bool g)/\cond (!g) (aN (qd d 0) 0 [qn,qn] f λ e=>∃ g h i j k l,af e (qd d 0) 0 [.slice g h i,.slice j k l]/\K (.tuple #[.agg #[.slice g h i,.slice j k l],.bool false]) e) (CC 203 #[.slice a b c] f λ c e=>∃ f g h i j k,c=.returned (.tuple #[.slice f g h,.slice i j k])/\cond (!(i).isNone) (aN (qd d 0) 0 [.slice i j k,qn] e λ c=>∃ i j k l m n,af c (qd d 0) 0 [.slice i j k,.slice l m n]/\K (.tuple #[.agg #[.slice i j k,.slice l m n],.bool false]) c) (∃ c:Int->Int->qN,(∃ i,c 0 (0:Int) e i)/\∀ e i j k,c j k e i->∀ l:qv,cond (decide (k<(b:Int))) (ak a λ l=>0<=k/\k<(b:Int)/\∃ m n:I6,af e (Addr.add l ((k).toNat*12)) 0 (m.on (n.vs))/\au e (.cells #[qz,qz,qz,qz,qz,qz,qz,qz,qz,qz,qz,qz] 90) λ l o=>aN (qd l 0) 0 (m.on (n.vs)) o λ m=>∃ n:I6,af m.drew (qd l 0) 0 n.vs/\∃ o:I6,af m.drew (qd l 6) 0 o.vs/\ak f λ l=>0<=k/\k<(g:Int)/\∃ p,m.drew.cell? (Addr.add l ((k).toNat*1))=some (iv p)/\CC 71 #[.agg n.vs.toArray,.agg o.vs.toArray] m.drew λ m n=>∃ o,m=.returned (iv o)/\n.cell? (Addr.add l ((k).toNat*1))=some (iv p)/\∃ l,l<i/\c (if (IntKind.i64.wrap (o-p))>j then (IntKind.i64.wrap (o-p)) else j) (IntKind.i64.wrap (k+1)) n l) (∃ c:Int->Int->qN,(∃ i,c j 0 e i)/\∀ e i j k,c j k e i->∀ l:qv,cond (decide (k<(b:Int))) (∃ l:Int->qW,(∀ m n,l n m->∀ o:qv,∃ o,o<i/\c n (IntKind.i64.wrap (k+1)) m o)/\ak a λ a=>0<=k/\k<(b:Int)/\∃ b c:I6,af e (Addr.add a ((k).toNat*12)) 0 (b.on (c.vs))/\au e (.cells #[qz,qz,qz,qz,qz,qz,qz,qz,qz,qz,qz,qz] 90) λ a i=>aN (qd a 0) 0 (b.on (c.vs)) i λ b=>∃ c:I6,af b (qd a 6) 0 c.vs/\cond (I6.beq c z6) (ak f λ a=>0<=k/\k<(g:Int)/\∃ c,b.cell? (Addr.add a ((k).toNat*1))=some (iv c)/\l (IntKind.i64.wrap (0-c)) b) (l j b)) (∃ a:Int->qN,(∃ b,a 0 e b)/\∀ c b e,a e c b->∀ i:qv,cond (decide (e<(g:Int))) (ak f λ i=>0<=e/\e<(g:Int)/\∃ k,c.cell? (Addr.add i ((e).toNat*1))=some (iv k)/\ak f λ i=>0<=e/\e<(g:Int)/\dW c (Addr.add i ((e).toNat*1)) (iv (IntKind.i64.wrap (k+j))) λ i=>∃ j,j<b/\a (IntKind.i64.wrap (e+1)) i j) (aN (qd d 0) 0 [qn,.slice f g h] c λ a=>∃ b c e f g h,af a (qd d 0) 0 [.slice b c e,.slice f g h]/\K (.tuple #[.agg #[.slice b c e,.slice f g h],.bool true]) a)))))
theorem oE{a1 l1 c1 w K}(h:kH a1 l1 c1 w K):CP 192 #[.slice a1 l1 c1] w K:=aj (aC [(506,[(6,.s (.int .i64)),(27,.s (.int .i64))]),(1018,[(6,.s (.int .i64)),(47,.s (.int .i64))]),(8147,[(6,.s (.int .i64))]),(2042,[(64,.s (.int .i64))])]) func192 (by kernel_rfl) (by kernel_rfl) h
def lQ(a:Int)(b:Nat)(w:World)(K:KP):=∃ c,w.cell? (qd b 0)=some (iv c)/\∃ d,w.cell? (qd b 1)=some (iv d)/\(100:Int)≠0/\K (iv (IntKind.i64.wrap ((IntKind.i64.wrap (a+c))+(IntKind.i64.wrap (Int.tdiv (IntKind.i64.wrap ((IntKind.i64.wrap (a*d))+(99:Int))) (100:Int)))))) w
theorem iX{n1 b1 w K}(h:lQ n1 b1 w K):CP 193 #[iv n1,.pointer (some ⟨b1,0,none⟩)] w K:=aj (aC []) func193 (by kernel_rfl) (by kernel_rfl) h
def nJ(a:Int)(w:World)(K:KP):=CC 204 #[iv a] w λ a b=>∃ c,a=.returned (.bool c)/\cond (!c) (K (iv 4) b) (K qz b)
theorem qB{n1 w K}(h:nJ n1 w K):CP 194 #[iv n1] w K:=aj (aC []) func194 (by kernel_rfl) (by kernel_rfl) h
def jB(a:OA)(b c:Nat)(d:OA)(e f:Nat)(g:OA)(h i:Nat)(w:World)(K:KP):=au w (.cells #[.slice d e f,.slice g h i] 163) λ d e=>CC 149 #[.slice a b c] e λ e f=>∃ g,e=.returned (.bool g)/\cond (!g) (K (iv 4) f) (∃ e g h i j k,af f (qd d 0) 0 [.slice e g h,.slice i j k]/\CC 150 #[.slice a b c,.agg #[.slice e g h,.slice i j k]] f λ e f=>∃ g,e=.returned (.bool g)/\cond (!g) (K (iv 2) f) (∃ e g h,f.cell? (qd d 0)=some (.slice e g h)/\cond ((g:Int)==(0:Int)) (∃ e g h,f.cell? (qd d 1)=some (.slice e g h)/\CC 151 #[.slice a b c,.slice e g h] f λ c e=>∃ g,c=.returned (.bool g)/\cond (!g) (K (iv 13) e) (K qz e)) (∃ c e g,f.cell? (qd d 0)=some (.slice c e g)/\∃ g:Int->Int->qN,(∃ h,g 0 (0:Int) f h)/\∀ f h i j,g i j f h->∀ k:qv,cond (decide (j<(e:Int))) (ak c λ c=>0<=j/\j<(e:Int)/\∃ e,f.cell? (Addr.add c ((j).toNat*1))=some (iv e)/\ak a λ c=>0<=e/\e<(b:Int)/\∃ k l:I6,af f.drew (Addr.add c ((e).toNat*12)) 0 (k.on (l.vs))/\∃ c e m,f.drew.cell? (qd d 0)=some (.slice c e m)/\∃ m n o,f.drew.cell? (qd d 0)=some (.slice m n o)/\(n:Int)≠0/\ak c λ c=>0<=(Int.tmod (IntKind.i64.wrap (j+1)) (n:Int))/\(Int.tmod (IntKind.i64.wrap (j+1)) (n:Int))<(e:Int)/\∃ d,f.drew.cell? (Addr.add c (((Int.tmod (IntKind.i64.wrap (j+1)) (n:Int))).toNat*1))=some (iv d)/\ak a λ a=>0<=d/\d<(b:Int)/\∃ b c:I6,af f.drew (Addr.add a ((d).toNat*12)) 0 (b.on (c.vs))/\CC 152 #[.agg (k.on (l.vs):List Value).toArray,.agg (b.on (c.vs):List Value).toArray] f.drew λ a b=>∃ c,a=.returned (iv c)/\∃ a,a<h/\g (IntKind.i64.wrap (i+c)) (IntKind.i64.wrap (j+1)) b a) (cond (decide (i>=0)) (K (iv 13) f) (K qz f)))))
theorem nr{a1 l1 c1 a2 l2 c2 a3 l3 c3 w K}(h:jB a1 l1 c1 a2 l2 c2 a3 l3 c3 w K):CP 110 #[.slice a1 l1 c1,.agg #[.slice a2 l2 c2,.slice a3 l3 c3]] w K:=aj (aC [(506,[(5,.s (.int .i64)),(27,.s (.int .i64))])]) func110 (by kernel_rfl) (by kernel_rfl) h
def gS(a:OA)(b c:Nat)(w:World)(K:KP):=∃ c:Int->qN,(∃ d,c 0 w d)/\∀ e d f,c f e d->∀ g:qv,cond (decide (f<(b:Int))) (ak a λ a=>0<=f/\f<(b:Int)/\∃ b g:I6,af e (Addr.add a ((f).toNat*12)) 0 (b.on (g.vs))/\au e (.cells #[qz,qz,qz,qz,qz,qz,qz,qz,qz,qz,qz,qz] 90) λ a h=>aN (qd a 0) 0 (b.on (g.vs)) h λ b=>∃ g h:I6,af b (qd a 0) 0 (g.on (h.vs))/\CC 186 #[.agg (g.on (h.vs):List Value).toArray] b λ a b=>∃ g,a=.returned (.bool g)/\cond (!g) (K (.bool false) b) (∃ a,a<d/\c (IntKind.i64.wrap (f+1)) b a)) (K (.bool true) e)
theorem kI{a1 l1 c1 w K}(h:gS a1 l1 c1 w K):CP 149 #[.slice a1 l1 c1] w K:=aj (aC [(26,[(7,.s (.int .i64))])]) func149 (by kernel_rfl) (by kernel_rfl) h
def iK(a:OA)(b c:Nat)(w:World)(K:KP):=aW prog (Instr.makeSlice 161 (iv (b:Int)) (iv (b:Int))) w λ c d=>∃ e f g,c=(.slice e f g)/\aW prog (Instr.makeSlice 160 (iv (b:Int)) (iv (b:Int))) d λ c d=>∃ h i j,c=(.slice h i j)/\∃ c:Int->qN,(∃ k,c 0 d k)/\∀ d k l,c l d k->∀ m:qv,cond (decide (l<(i:Int))) (ak h λ m=>0<=l/\l<(i:Int)/\dW d (Addr.add m ((l).toNat*1)) (iv (-1)) λ m=>∃ n,n<k/\c (IntKind.i64.wrap (l+1)) m n) (∃ c:Int->qW,(∀ k l,c l k->∀ m:qv,cond (decide (l<0)) (K (.tuple #[.slice e f g,qn]) k) (CC 210 #[.slice h i j,iv l] k λ g j=>∃ k l m,g=.returned (.slice k l m)/\K (.tuple #[qn,.slice k l m]) j))/\∃ g:Int->Int->qN,(∃ j,g (-1:Int) (0:Int) d j)/\∀ d j k l,g k l d j->∀ m:qv,cond (decide (l<(b:Int))) (∃ m:Int->Int->qN,(∃ n,m (-1:Int) (0:Int) d n)/\∀ o n p q,m p q o n->∀ r:qv,cond (decide (q<(b:Int))) (∃ r:Int->Int->qN,(∃ s,r p 0 o s)/\∀ t s u v,r u v t s->∀ x:qv,cond (decide (v<(b:Int))) (∃ x:Int->qW,(∀ y z,x z y->∀ A:qv,∃ A,A<s/\r z (IntKind.i64.wrap (v+1)) y A)/\ak e λ r=>0<=q/\q<(f:Int)/\∃ s,t.drew.cell? (Addr.add r ((q).toNat*1))=some (iv s)/\ak a λ y=>0<=q/\q<(b:Int)/\∃ z A:I6,af t.drew (Addr.add y ((q).toNat*12)) 0 (z.on (A.vs))/\ak a λ a=>0<=v/\v<(b:Int)/\∃ b y:I6,af t.drew (Addr.add a ((v).toNat*12)) 0 (b.on (y.vs))/\CC 152 #[.agg (z.on (A.vs):List Value).toArray,.agg (b.on (y.vs):List Value).toArray] t.drew λ a b=>∃ y,a=.returned (iv y)/\b.cell? (Addr.add r ((q).toNat*1))=some (iv s)/\ak e λ a=>0<=v/\v<(f:Int)/\∃ r,b.cell? (Addr.add a ((v).toNat*1))=some (iv r)/\cond (decide ((IntKind.i64.wrap (s+y))<r)) (ak e λ a=>0<=v/\v<(f:Int)/\dW b (Addr.add a ((v).toNat*1)) (iv (IntKind.i64.wrap (s+y))) λ a=>ak h λ e=>0<=v/\v<(i:Int)/\dW a (Addr.add e ((v).toNat*1)) (iv q) λ a=>x v a) (x u b)) (∃ a,a<n/\m u (IntKind.i64.wrap (q+1)) t a)) (cond (decide (p<0)) (c p o) (∃ a,a<j/\g p (IntKind.i64.wrap (l+1)) o a))) (c k d))
theorem lT{a1 l1 c1 w K}(h:iK a1 l1 c1 w K):CP 203 #[.slice a1 l1 c1] w K:=aj (aC [(218,[(19,.s (.int .i64))]),(223,[(7,.s (.int .i64))]),(1786,[(7,.s (.int .i64)),(28,.s (.int .i64))]),(914634,[(7,.s (.int .i64)),(32,.s (.int .i64))]),(234146406,[(7,.s (.int .i64)),(37,.s (.int .i64))]),(1873171251,[(7,.s (.int .i64))])]) func203 (by kernel_rfl) (by kernel_rfl) h
def tZ(a:Int)(w:World)(K:KP):=cond (decide (a>=0)) (K (.bool (decide (a<=1000000))) w) (K (.bool false) w)
theorem vq{n1 w K}(h:tZ n1 w K):CP 204 #[iv n1] w K:=aj (aC []) func204 (by kernel_rfl) (by kernel_rfl) h
def jC(a:OA)(b c:Nat)(d:OA)(e f:Nat)(g:OA)(h i:Nat)(w:World)(K:KP):=au w (.cells #[.slice d e f,.slice g h i] 163) λ a c=>∃ d:Bool->qW,(∀ e f,d f e->∀ g:qv,cond f (K (.bool false) e) (∃ f g h,e.cell? (qd a 0)=some (.slice f g h)/\∃ h:Int->qN,(∃ i,h 0 e i)/\∀ e i j,h j e i->∀ k:qv,cond (decide (j<(g:Int))) (ak f λ f=>0<=j/\j<(g:Int)/\∃ g,e.cell? (Addr.add f ((j).toNat*1))=some (iv g)/\∃ f:Bool->qW,(∀ k l,f l k->∀ m:qv,cond l (K (.bool false) k) (∃ l,l<i/\h (IntKind.i64.wrap (j+1)) k l))/\cond (decide (g<0)) (f true e) (f (decide (g>=(b:Int))) e)) (∃ b f g,e.cell? (qd a 1)=some (.slice b f g)/\∃ g:Int->qN,(∃ h,g 0 e h)/\∀ e h i,g i e h->∀ j:qv,cond (decide (i<(f:Int))) (ak b λ b=>0<=i/\i<(f:Int)/\∃ f,e.cell? (Addr.add b ((i).toNat*1))=some (iv f)/\∃ b:Bool->qW,(∀ j k,b k j->∀ l:qv,cond k (K (.bool false) j) (∃ k,k<h/\g (IntKind.i64.wrap (i+1)) j k))/\cond (decide (f<(-1099511627776:Int))) (b true e) (b (decide (f>1099511627776)) e)) (K (.bool true) e))))/\∃ b e f,c.cell? (qd a 0)=some (.slice b e f)/\cond (decide ((e:Int)>(0:Int))) (∃ b e f,c.cell? (qd a 1)=some (.slice b e f)/\cond (decide ((e:Int)>(0:Int))) (d true c) (∃ b e f,c.cell? (qd a 0)=some (.slice b e f)/\d (decide ((e:Int)>(1000:Int))) c)) (∃ b e f,c.cell? (qd a 0)=some (.slice b e f)/\d (decide ((e:Int)>(1000:Int))) c)
theorem nt{a1 l1 c1 a2 l2 c2 a3 l3 c3 w K}(h:jC a1 l1 c1 a2 l2 c2 a3 l3 c3 w K):CP 150 #[.slice a1 l1 c1,.agg #[.slice a2 l2 c2,.slice a3 l3 c3]] w K:=aj (aC [(6,[(24,.s .bool)]),(58,[(28,.s (.int .i64))]),(3737,[(39,.s .bool)]),(122,[(44,.s (.int .i64))]),(7833,[(53,.s .bool)])]) func150 (by kernel_rfl) (by kernel_rfl) h
def gT(a:OA)(b c:Nat)(d:OA)(e f:Nat)(w:World)(K:KP):=cond ((e:Int) !=(b:Int)) (K (.bool false) w) (∃ c:Int->qN,(∃ f,c 0 w f)/\∀ g f h,c h g f->∀ i:qv,cond (decide (h<(b:Int))) (ak a λ i=>0<=h/\h<(b:Int)/\∃ j k:I6,af g (Addr.add i ((h).toNat*12)) 0 (j.on (k.vs))/\au g (.cells #[qz,qz,qz,qz,qz,qz,qz,qz,qz,qz,qz,qz] 90) λ i l=>aN (qd i 0) 0 (j.on (k.vs)) l λ j=>∃ k:Bool->qW,(∀ l m,k m l->∀ n:qv,cond m (K (.bool false) l) (∃ m:Int->qN,(∃ n,m 0 l n)/\∀ l n o,m o l n->∀ p:qv,cond (decide (o<(b:Int))) (ak a λ a=>0<=o/\o<(b:Int)/\∃ b p:I6,af l (Addr.add a ((o).toNat*12)) 0 (b.on (p.vs))/\au l (.cells #[qz,qz,qz,qz,qz,qz,qz,qz,qz,qz,qz,qz] 90) λ a q=>aN (qd a 0) 0 (b.on (p.vs)) q λ b=>ak d λ p=>0<=o/\o<(e:Int)/\∃ q,b.drew.cell? (Addr.add p ((o).toNat*1))=some (iv q)/\ak d λ r=>0<=h/\h<(e:Int)/\∃ s,b.drew.cell? (Addr.add r ((h).toNat*1))=some (iv s)/\∃ t u:I6,af b.drew (qd i 0) 0 (t.on (u.vs))/\∃ v x:I6,af b.drew (qd a 0) 0 (v.on (x.vs))/\CC 152 #[.agg (t.on (u.vs):List Value).toArray,.agg (v.on (x.vs):List Value).toArray] b.drew λ a b=>∃ t,a=.returned (iv t)/\b.cell? (Addr.add r ((h).toNat*1))=some (iv s)/\b.cell? (Addr.add p ((o).toNat*1))=some (iv q)/\cond (decide ((IntKind.i64.wrap (q-s))>t)) (K (.bool false) b) (∃ a,a<n/\m (IntKind.i64.wrap (o+1)) b a)) (∃ a,a<f/\c (IntKind.i64.wrap (h+1)) l a)))/\ak d λ a=>0<=h/\h<(e:Int)/\∃ b,j.drew.cell? (Addr.add a ((h).toNat*1))=some (iv b)/\∃ c:I6,af j.drew (qd i 0) 0 c.vs/\∃ f:I6,af j.drew (qd i 6) 0 f.vs/\CC 71 #[.agg c.vs.toArray,.agg f.vs.toArray] j.drew λ c f=>∃ j,c=.returned (iv j)/\f.cell? (Addr.add a ((h).toNat*1))=some (iv b)/\cond (decide (b<j)) (k true f) (∃ a:I6,af f (qd i 6) 0 a.vs/\cond (I6.beq a z6) (ak d λ a=>0<=h/\h<(e:Int)/\∃ b,f.cell? (Addr.add a ((h).toNat*1))=some (iv b)/\k (b !=0) f) (k false f))) (K (.bool true) g))
theorem kK{a1 l1 c1 a2 l2 c2 w K}(h:gT a1 l1 c1 a2 l2 c2 w K):CP 151 #[.slice a1 l1 c1,.slice a2 l2 c2] w K:=aj (aC [(58,[(16,.s (.int .i64))]),(7474,[(43,.s .bool)]),(29902,[(46,.s (.int .i64))])]) func151 (by kernel_rfl) (by kernel_rfl) h
def mC(a b c d:I6)(w:World)(K:KP):=au w (.cells (a.on (b.vs):List Value).toArray 90) λ a b=>au b (.cells (c.on (d.vs):List Value).toArray 90) λ b c=>∃ d:I6,af c.drew (qd a 0) 0 d.vs/\∃ e:I6,af c.drew (qd b 6) 0 e.vs/\∃ b:I6,af c.drew (qd a 0) 0 b.vs/\∃ f:I6,af c.drew (qd a 6) 0 f.vs/\CC 71 #[.agg d.vs.toArray,.agg e.vs.toArray] c.drew λ c d=>∃ e,c=.returned (iv e)/\af d (qd a 6) 0 f.vs/\af d (qd a 0) 0 b.vs/\CC 71 #[.agg b.vs.toArray,.agg f.vs.toArray] d λ a b=>∃ c,a=.returned (iv c)/\K (iv (IntKind.i64.wrap (e-c))) b
theorem pR{u1 u2 u3 u4 w K}(h:mC u1 u2 u3 u4 w K):CP 152 #[.agg (u1.on (u2.vs):List Value).toArray,.agg (u3.on (u4.vs):List Value).toArray] w K:=aj (aC []) func152 (by kernel_rfl) (by kernel_rfl) h
def kL(a b:I6)(w:World)(K:KP):=au w (.cells (a.on (b.vs):List Value).toArray 90) λ a b=>∃ c:I6,af b (qd a 0) 0 c.vs/\∃ d:Int->qN,(∃ e,d 0 b e)/\∀ b e f,d f b e->∀ g:qv,cond (decide (f<6)) (0<=f/\f<6/\∃ g,(c.vs.toArray:Array Value)[(f).toNat*1]?=some (iv g)/\∃ c:Bool->qW,(∀ h i,c i h->∀ j:qv,cond i (K (.bool false) h) (∃ i,i<e/\d (IntKind.i64.wrap (f+1)) h i))/\cond (decide (g<0)) (c true b) (c (decide (g>1000000)) b)) (∃ c:I6,af b (qd a 6) 0 c.vs/\CC 73 #[.agg c.vs.toArray] b λ a b=>∃ c,a=.returned (iv c)/\K (.bool (c==0)) b)
theorem oG{u1 u2 w K}(h:kL u1 u2 w K):CP 186 #[.agg (u1.on (u2.vs):List Value).toArray] w K:=aj (aC [(26,[(7,.s (.int .i64))]),(1689,[(15,.s .bool)])]) func186 (by kernel_rfl) (by kernel_rfl) h
def kJ(a:OA)(b c:Nat)(d:Int)(w:World)(K:KP):=aW prog (Instr.makeMap 251 none) w λ c e=>∃ f:Option Nat,c=(.map f)/\∃ c:Int->qN,(∃ g,c d e g)/\∀ d g e,c e d g->∀ h:qv,aW prog (Instr.lookup 251 (.map f) (iv e) false) d λ d h=>∃ i,d=(.bool i)/\cond (!i) (aW prog (Instr.mapUpdate 251 (.map f) (iv e) (.bool true)) h λ _e1 d=>ak a λ i=>0<=e/\e<(b:Int)/\∃ j,d.cell? (Addr.add i ((e).toNat*1))=some (iv j)/\∃ i,i<g/\c j d i) (aW prog (Builtin.clear_ #[251] 0 #[.map f]) h λ _e2 c=>∃ d:Int->OA->Nat->Nat->qN,(∃ g,d e none 0 0 c g)/\∀ c g e h i j,d e h i j c g->∀ k:qv,aW prog (Instr.lookup 251 (.map f) (iv e) false) c λ c k=>∃ l,c=(.bool l)/\cond (!l) (aW prog (Instr.mapUpdate 251 (.map f) (iv e) (.bool true)) k λ _e3 c=>au c (.cells #[iv e] 3) λ c f=>aW prog (Builtin.append_ #[160,160] 160 #[.slice h i j,.slice (some (qd c 0)) 1 1]) f λ c f=>∃ j l m,c=(.slice j l m)/\ak a λ a=>0<=e/\e<(b:Int)/\∃ b,f.cell? (Addr.add a ((e).toNat*1))=some (iv b)/\∃ a,a<g/\d b j l m f a) (aW prog (Instr.makeSlice 160 (iv (i:Int)) (iv (i:Int))) k λ a b=>∃ c d e,a=(.slice c d e)/\∃ a:Int->qN,(∃ f,a 0 b f)/\∀ b f g,a g b f->∀ j:qv,cond (decide (g<(i:Int))) (ak h λ h=>0<=g/\g<(i:Int)/\∃ j,b.cell? (Addr.add h ((g).toNat*1))=some (iv j)/\ak c λ h=>0<=(IntKind.i64.wrap ((IntKind.i64.wrap ((i:Int)-(1:Int)))-g))/\(IntKind.i64.wrap ((IntKind.i64.wrap ((i:Int)-(1:Int)))-g))<(d:Int)/\dW b (Addr.add h (((IntKind.i64.wrap ((IntKind.i64.wrap ((i:Int)-(1:Int)))-g))).toNat*1)) (iv j) λ h=>∃ i,i<f/\a (IntKind.i64.wrap (g+1)) h i) (K (.slice c d e) b)))
theorem oF{a1 l1 c1 n1 w K}(h:kJ a1 l1 c1 n1 w K):CP 210 #[.slice a1 l1 c1,iv n1] w K:=aj (aC [(28,[(1,.s (.int .i64))]),(252,[(1,.s (.int .i64)),(6,.s .slice)]),(2042,[(41,.s (.int .i64))])]) func210 (by kernel_rfl) (by kernel_rfl) h
def I6.of(f:Nat->Int):I6:=⟨f 0,f 1,f 2,f 3,f 4,f 5⟩
theorem I6.kq(f:Nat->Int)(k:Nat)(hk:k<6):(I6.of f).at' k=f k:=by
 match k,hk with
 | 0,_|1,_|2,_|3,_|4,_|5,_=>rfl
def lV(l:List I6)(k:Nat):Int:=l.foldl (λ s u=>s+u.at' k) 0
def bF(l:List I6):I6:=I6.of (lV l)
theorem vi(l:List I6)(u:I6)(k:Nat):lV (l++[u]) k=lV l k+u.at' k:=by simp[lV]
theorem vh(l:List I6)(u:I6):bF (l++[u])=(bF l).zip (· + ·) u:=by
 refine I6.ext' λ k hk=>?_;rw[I6.fY _ _ _ _ hk,bF,I6.kq _ _ hk,bF,I6.kq _ _ hk,vi]
theorem lC{B:Int}{l:List I6}(h:∀ u∈l,I6.Le u B)(k:Nat)(hk:k<6):0<=lV l k/\lV l k<=B*l.length:=by
 suffices H:∀ (l:List I6) (s:Int),(∀ u∈l,I6.Le u B)->s<=l.foldl (λ s u=>s+u.at' k) s/\l.foldl (λ s u=>s+u.at' k) s<=s+B*l.length by
  have:=H l 0 h;unfold lV; omega
 intro l
 induction l with
 | nil=>intro s _; simp
 | cons u l ih =>
  intro s hl;have h1:=hl u (by simp) k hk;have h2:=ih (s+u.at' k) λ v hv=>hl v (by simp[hv]);simp only[List.foldl_cons,List.length_cons];rw[Int.natCast_add,Int.mul_add];omega
def om(a b:I6):I6:=a.zip (λ x y=>if x>y then x-y else 0) b
abbrev DC (w:World) (a:OA) (l:List I6):Prop:=bU 6 I6.vs w a l
theorem vk{w:World}{a:OA}{c:Nat}{l:List I6}(h:DC w a l)(hb:∀ u∈l,I6.Le u 1000000)(hl:l.length<=1000) :
  CP 173 #[.slice a l.length c] w (λ r w'=>r=.agg (bF l).vs.toArray/\ax w w' []):=by
 refine tg ?_;unfold qt;refine(St.start w).one.av z6.vs.toArray λ r1 w1 s1=>s1.av z6.vs.toArray λ r2 w2 s2=>?_;refine⟨λ n w3 m=>∃ k:Nat,n=k/\k<=l.length/\m=l.length-k/\St w w3 (Sep [ah r2 (bF (l.take k)).vs.toArray 207,ah r1 z6.vs.toArray 207,emp]),⟨l.length,0,rfl,by omega,by omega,s2⟩,?_⟩;rintro w3 m n ⟨k,rfl,hk,hm,s3⟩ -
 by_cases hlt:(k:Int)<(l.length:Int)
 ·have hx:l[k]?=some (l[k]'(by omega)):=gE (by omega);generalize l[k]'(by omega)=x at hx;have hxm:=hb x (List.mem_of_getElem? hx);obtain⟨q,hq,hcl⟩:=(h.an s3.an).at hx;refine cT (by simpa using hlt) ?_;rw[hq];refine⟨by omega,by omega,x,hcl,s3.av z6.vs.toArray λ r3 w4 s4=>s4.az 0 rfl x.vs rfl (I6.one _) λ w5 s5=>?_⟩;refine⟨λ n w6 m=>∃ j:Nat,n=j/\j<=6/\m=6-j/\St w w6 (Sep [ah r3 x.vs.toArray 35,ah r2 (I6.mix j ((bF (l.take k)).zip (· + ·) x) (bF (l.take k))).vs.toArray 207,ah r1 z6.vs.toArray 207,emp]),⟨6,0,rfl,by omega,by omega,s5⟩,?_⟩;rintro w6 m6 n6 ⟨j,rfl,hj,hm6,s6⟩ -
  by_cases hlt6:(j:Int)<6
  ·have hj' : j<6:=by omega
   have s7:=s6.quiet (ax.drew _ _);have hs:=lC (l:=l.take k) (B:=1000000) (λ u hu=>hb u (List.mem_of_mem_take hu)) j hj';have hx6:=hxm j hj';have hlen:(l.take k).length<=1000:=by simp; omega
   have e1:(bF (l.take k)).at' j=lV (l.take k) j:=I6.kq _ _ hj';refine cT (dT hlt6) ⟨by omega,by omega,(bF (l.take k)).at' j,?_,by omega,by omega,x.at' j,?_,by omega,by omega,?_⟩
   ·rw[bV,aB s7 1 rfl hj',I6.bh _ _ _ _ hj',if_neg (by omega)]
   ·rw[bV,aB s7 0 rfl hj']
   ·rw[bV,ay ⟨by omega,by omega⟩];refine s7.bL 1 rfl hj' rfl λ w8 s8=>⟨6-(j+1),by omega,j+1,inc (by decide) hj',by omega,rfl,?_⟩;rw[show(bF (l.take k)).at' j+x.at' j=((bF (l.take k)).zip (· + ·) x).at' j by rw[I6.fY _ _ _ _ hj'],I6.cE _ _ _ hj'] at s8;exact s8
  ·obtain rfl:j=6:=by omega
   refine cF (by simp) ⟨l.length-(k+1),by omega,k+1,ay ⟨by omega,by omega⟩,by omega,rfl,?_⟩;rw[aQ hx,vh];exact s6.aA [1,2,3]
 ·obtain rfl:k=l.length:=by omega
  rw[List.take_length] at s3;exact cF (by simp) ⟨_,s3.cellsIn 0 rfl,s3.az 1 rfl (bF l).vs rfl (I6.one _) λ w8 s8=>⟨_,s8.cellsIn 1 rfl,rfl,s8.an⟩⟩
theorem JM{w:World}{a:OA}{c:Nat}{l:List I6}(h:DC w a l)(hb:∀ u∈l,I6.Le u 1000000)(hl:l.length<=1000) :
  CP 169 #[.slice a l.length c] w (λ r w'=>r=.agg (bF l).vs.toArray/\ax w w' []):=by
 refine wR ?_;unfold vj;refine(St.start w).one.av z6.vs.toArray λ r1 w1 s1=>aq (vk (h.an s1.an) hb hl) ?_;rintro v w2 ⟨rfl,c2⟩;exact⟨_,rfl,(s1.quiet c2).az 0 rfl (bF l).vs rfl (I6.one _) λ w8 s8=>⟨_,s8.cellsIn 0 rfl,rfl,s8.an⟩⟩
theorem IB(w:World)(u v:I6)(hu:I6.Le u 1000000000)(hv:I6.Le v 1000000000):CP 172 #[.agg u.vs.toArray,.agg v.vs.toArray] w (λ r w'=>r=.agg (om u v).vs.toArray/\ax w w' []):=by
 refine tS ?_;unfold tf;refine(St.start w).one.av u.vs.toArray λ r1 w1 s1=>s1.av v.vs.toArray λ r2 w2 s2=>s2.av z6.vs.toArray λ r3 w3 s3=>s3.av z6.vs.toArray λ r4 w4 s4=>?_;let I:Nat->World->Prop:=λ k w'=>St w w' (Sep [ah r4 (I6.mix k (om u v) z6).vs.toArray 35,ah r3 z6.vs.toArray 35,ah r2 v.vs.toArray 207,ah r1 u.vs.toArray 207,emp]);refine⟨λ n w5 m=>∃ k:Nat,n=k/\k<=6/\m=6-k/\I k w5,⟨6,0,rfl,by omega,by omega,s4⟩,?_⟩;rintro w5 m n ⟨k,rfl,hk,hm,s5⟩ -
 by_cases hlt:(k:Int)<6
 ·have hk' : k<6:=by omega
  have s6:=St.quiet s5 (ax.drew _ _);have s7:=s6.quiet (ax.drew _ _);have h1:=hu k hk';have h2:=hv k hk';have e:(om u v).at' k=if u.at' k>v.at' k then u.at' k-v.at' k else 0:=I6.fY _ _ _ _ hk'
  refine cT (dT hlt) ⟨I (k+1),?_,by omega,by omega,u.at' k,by rw[bV,aB s6 3 rfl hk'],by omega,by omega,v.at' k,by rw[bV,aB s6 2 rfl hk'],?_⟩
  ·rintro w6 s6 -;exact⟨6-(k+1),by omega,k+1,inc (by decide) hk',by omega,rfl,s6⟩
  ·by_cases g:u.at' k>v.at' k
   ·refine cT (dT g) ⟨by omega,by omega,u.at' k,by rw[bV,aB s7 3 rfl hk'],by omega,by omega,v.at' k,by rw[bV,aB s7 2 rfl hk'],by omega,by omega,?_⟩;rw[bV,ay ⟨by omega,by omega⟩];refine s7.bL 0 rfl hk' rfl λ w8 s8=>?_;rw[if_pos g] at e;rw[<- e,I6.cE _ _ _ hk'] at s8;exact s8
   ·refine cF (dF g) ?_;rw[if_neg g] at e;have:I6.mix (k+1) (om u v) z6=I6.mix k (om u v) z6:=by
     refine I6.ext' λ j hj=>?_;rw[I6.bh _ _ _ _ hj,I6.bh _ _ _ _ hj,fu]
     by_cases h3:j<k
     ·rw[if_pos (by omega),if_pos h3]
     ·rw[if_neg h3]
      split
      ·obtain rfl:j=k:=by omega
       exact e
      ·rfl
    show I (k+1) _;simp only[I];rw[this]; exact s6
 ·obtain rfl:k=6:=by omega
  exact cF (by simp) ⟨_,St.cellsIn s5 0 rfl,St.az s5 1 rfl (om u v).vs rfl (I6.one _) λ w8 s8=>⟨_,s8.cellsIn 1 rfl,rfl,s8.an⟩⟩
theorem Hl{l:List I6}(h:∀ u∈l,I6.Le u 1000000)(hl:l.length<=1000):I6.Le (bF l) 1000000000:=λ k hk=>by
 have:=lC h k hk;rw[bF,I6.kq _ _ hk];omega
theorem D9{w:World}{a:OA}{c:Nat}{l:List I6}(u:I6)(hu:I6.Le u 1000000000)(h:DC w a l)(hb:∀ u∈l,I6.Le u 1000000)(hl:l.length<=1000) :
  CP 133 #[.agg u.vs.toArray,.slice a l.length c] w (λ r w'=>r=.agg (om (bF l) u).vs.toArray/\ax w w' []):=by
 refine qV ?_;unfold oN;refine(St.start w).one.av u.vs.toArray λ r1 w1 s1=>s1.av z6.vs.toArray λ r2 w2 s2=>?_;have s3:=s2.quiet (ax.drew _ _);refine⟨_,s3.cellsIn 1 rfl,aq (vk (h.an s3.an) hb hl) ?_⟩;rintro v w3 ⟨rfl,c3⟩;have s4:=s3.quiet c3;refine⟨_,rfl,s4.cellsIn 1 rfl,aq (IB w3 _ _ (Hl hb hl) hu) ?_⟩;rintro v w4 ⟨rfl,c4⟩;exact⟨_,rfl,(s4.quiet c4).az 0 rfl (om (bF l) u).vs rfl (I6.one _) λ w8 s8=>⟨_,s8.cellsIn 0 rfl,rfl,s8.an⟩⟩
def fy(n:Int):Bool:=decide (0<=n)&&decide (n<=1000000)
theorem Ke(w:World)(n:Int):CP 204 #[iv n] w (λ r w'=>r=.bool (fy n)/\w' = w):=by
 refine vq ?_;unfold tZ
 by_cases h:n>=0
 ·exact cT (dT h) ⟨by simp[fy,h],rfl⟩
 ·exact cF (dF h) ⟨by simp[fy]; omega,rfl⟩
theorem DE(w:World)(n:Int):CP 194 #[iv n] w (λ r w'=>r=iv (if fy n then 0 else 4)/\w' = w):=by
 refine qB ?_;unfold nJ;refine aq (Ke w n) ?_;rintro v w1 ⟨rfl,rfl⟩;refine⟨_,rfl,?_⟩
 cases h:fy n with
 | true=>exact cF rfl ⟨rfl,rfl⟩
 | false=>exact cT rfl ⟨rfl,rfl⟩
def bw(p:I6):Bool:=p.l.all fy
theorem wS(w:World)(p:I6):CP 175 #[.agg p.vs.toArray] w (λ r w'=>r=.bool (bw p)/\ax w w' []):=by
 refine lR ?_;unfold iC;refine(St.start w).one.av p.vs.toArray λ r1 w1 s1=>⟨p,s1.cellsIn 0 rfl,λ n w2 m=>∃ k:Nat,n=k/\k<=6/\m=6-k/\(p.l.take k).all fy=true/\w2=w1,⟨6,0,rfl,by omega,by omega,rfl,rfl⟩,?_⟩;rintro w2 m n ⟨k,rfl,hk,hm,ha,rfl⟩ -
 by_cases hlt:(k:Int)<6
 ·have hk' : k<6:=by omega
  refine cT (dT hlt) ⟨by omega,by omega,_,p.get k hk',aq (DE w2 _) ?_⟩;rintro v w3 ⟨rfl,rfl⟩;refine⟨_,rfl,?_⟩
  cases hx:fy (p.at' k) with
  | true=>exact cF rfl ⟨6-(k+1),by omega,k+1,inc (by decide) hk',by omega,rfl,cN ha (p.ia k hk') hx,rfl⟩
  | false=>exact cT rfl ⟨by rw[bw,dO (p.ia k hk') hx],s1.an⟩
 ·obtain rfl:k=6:=by omega
  refine cF (by simp) ⟨?_,s1.an⟩;rw[bw,show p.l.all fy=true from ha]
theorem eY{p:I6}:bw p=true<->I6.Le p 1000000:=by
 constructor
 ·intro h k hk;have:=List.all_eq_true.1 h _ (List.mem_of_getElem? (p.ia k hk));simpa[fy] using this
 ·intro h;have h0:=h 0 (by decide); have h1:=h 1 (by decide); have h2:=h 2 (by decide); have h3:=h 3 (by decide); have h4:=h 4 (by decide); have h5:=h 5 (by decide);simp only[I6.at'] at h0 h1 h2 h3 h4 h5;simp[bw,I6.l,fy,h0,h1,h2,h3,h4,h5]
structure Po where
 step:Int
 pct:Int
 und:Int
 rule:Int
def Po.cells(o:Po):List Value:=[iv o.step,iv o.pct,iv o.und,iv o.rule]
def Po.v(o:Po):Value:=.agg o.cells.toArray
def Po.ok(o:Po):Prop:=1<=o.step/\o.step<=1000000/\0<=o.pct/\o.pct<=100/\1<=o.und/\o.und<=3/\1<=o.rule/\o.rule<=3
instance (o:Po):Decidable o.ok:=by unfold Po.ok; infer_instance
def ei(o:Po):Int:=if o.ok then 0 else 4
theorem pE(w:World)(o:Po):CP 87 #[o.v] w (λ r w'=>r=iv (ei o)/\ax w w' []):=by
 refine lN ?_;unfold iA;refine(St.start w).one.av o.cells.toArray λ r1 w1 s1=>?_;refine⟨λ b w2=>w2=w1/\(b=true<->¬ o.ok),?_,?_⟩
 ·rintro w2 b ⟨rfl,hb⟩ -
  by_cases h:o.ok
  ·obtain rfl:b=false:=by
    cases b with
    | false=>rfl
    | true=>exact absurd h (hb.1 rfl)
   exact cF rfl ⟨by rw[ei,if_pos h],s1.an⟩
  ·obtain rfl:=hb.2 h;exact cT rfl ⟨by rw[ei,if_neg h],s1.an⟩
 have bad : ¬ o.ok->(true=true<->¬ o.ok):=λ h=>⟨λ _=>h,λ _=>rfl⟩;refine⟨_,s1.ag 0 rfl 0,?_⟩
 by_cases g1:o.step<1
 ·exact cT (dT g1) ⟨rfl,bad λ h=>by unfold Po.ok at h; omega⟩
 refine cF (dF g1) ⟨_,s1.ag 0 rfl 0,?_⟩
 by_cases g2:o.step>1000000
 ·exact cT (dT g2) ⟨rfl,bad λ h=>by unfold Po.ok at h; omega⟩
 refine cF (dF g2) ⟨_,s1.ag 0 rfl 1,?_⟩
 by_cases g3:o.pct<0
 ·exact cT (dT g3) ⟨rfl,bad λ h=>by unfold Po.ok at h; omega⟩
 refine cF (dF g3) ⟨_,s1.ag 0 rfl 1,?_⟩
 by_cases g4:o.pct>100
 ·exact cT (dT g4) ⟨rfl,bad λ h=>by unfold Po.ok at h; omega⟩
 refine cF (dF g4) ⟨_,s1.ag 0 rfl 2,?_⟩
 by_cases g5:o.und<1
 ·exact cT (dT g5) ⟨rfl,bad λ h=>by unfold Po.ok at h; omega⟩
 refine cF (dF g5) ⟨_,s1.ag 0 rfl 2,?_⟩
 by_cases g6:o.und>3
 ·exact cT (dT g6) ⟨rfl,bad λ h=>by unfold Po.ok at h; omega⟩
 refine cF (dF g6) ⟨_,s1.ag 0 rfl 3,?_⟩
 by_cases g7:o.rule<1
 ·exact cT (dT g7) ⟨rfl,bad λ h=>by unfold Po.ok at h; omega⟩
 refine cF (dF g7) ⟨_,s1.ag 0 rfl 3,rfl,?_⟩;rw[decide_eq_true_eq];unfold Po.ok;omega
def aU(l:List Pr):I6:=I6.KA (l.map Pr.res)
theorem iN(l:List Pr)(k:Nat)(hk:k<6):(aU l).at' k=(l.map Pr.res).getD k 0:=by
 match k,hk with
 | 0,_|1,_|2,_|3,_|4,_|5,_=>rfl
theorem wN{w:World}{a:OA}{c:Nat}{l:List Pr}(h:dX w a l)(hl:l.length<=6)(hc:l.length<=c) :
  CP 89 #[.slice a l.length c] w (λ r w'=>r=.agg (aU l).vs.toArray/\ax w w' []):=by
 refine lP ?_;unfold iB;have e:(if (6:Int)<((l.length:Nat):Int) then (6:Int) else ((l.length:Nat):Int))=(l.length:Int):=by rw[if_neg (by omega)]
 rw[e,Fv,Int.toNat_natCast,Nat.sub_zero];refine(St.start w).one.av z6.vs.toArray λ r1 w1 s1=>s1.av z6.vs.toArray λ r2 w2 s2=>⟨by omega,by omega,?_⟩;refine⟨λ n w3 m=>∃ k:Nat,n=k/\k<=l.length/\m=l.length-k/\St w w3 (Sep [ah r2 (I6.mix k (aU l) z6).vs.toArray 30,ah r1 z6.vs.toArray 30,emp]),⟨l.length,0,rfl,by omega,by omega,s2⟩,?_⟩;rintro w3 m n ⟨k,rfl,hk,hm,s3⟩ -
 by_cases hlt:(k:Int)<(l.length:Int)
 ·have hx:l[k]?=some (l[k]'(by omega)):=gE (by omega);generalize l[k]'(by omega)=x at hx;obtain⟨_,q,hq,hcl⟩:=(h.an s3.an) k x hx;have h6:k<6:=by omega
  refine cT (by simpa using hlt) ?_;rw[hq];refine⟨by omega,by omega,_,_,_,_,_,hcl,aR ?_⟩;refine(s3.cm _ 117).az 0 rfl x.cells rfl x.one λ w6 s6=>⟨_,s6.ag 0 rfl 2,by omega,by omega,?_⟩;rw[bV];refine s6.bL 1 rfl h6 rfl λ w7 s7=>⟨l.length-(k+1),by omega,k+1,ay ⟨by omega,by omega⟩,by omega,rfl,?_⟩;have e1:x.res=(aU l).at' k:=by rw[iN l k h6]; simp[List.getElem?_map,hx]
  rw[e1,I6.cE _ _ _ h6] at s7;exact s7.aA [1,2,3]
 ·obtain rfl:k=l.length:=by omega
  have hcn:I6.mix l.length (aU l) z6=aU l:=by
   refine I6.ext' λ j hj=>?_;rw[I6.bh _ _ _ _ hj,fu]
   split
   ·rfl
   ·rw[iN l j hj,List.getD_eq_getElem?_getD,List.getElem?_eq_none (by simp; omega)]; rfl
  rw[hcn] at s3;exact cF (by simp) ⟨_,s3.cellsIn 0 rfl,s3.az 1 rfl (aU l).vs rfl (I6.one _) λ w8 s8=>⟨_,s8.cellsIn 1 rfl,rfl,s8.an⟩⟩
def nk(o:Po)(p:Int):Int:=p+o.step+(p*o.pct+99) / 100
theorem G5{w0 w:World}{l:List aJ}{o:Po}(ho:o.ok){p:Int}(hp:0<=p/\p<=1000000){r:Nat}{T:TypeId}(s:St w0 w (Sep l))(i:Nat)(e:l[i]?=some (ah r o.cells.toArray T)) :
  CP 193 #[iv p,.pointer (some ⟨r,0,none⟩)] w (λ v w'=>v=iv (nk o p)/\w' = w):=by
 refine iX ⟨_,s.ag i e 0,_,s.ag i e 1,by decide,?_,rfl⟩;obtain⟨h1,h2,h3,h4,_⟩:=ho;have h5:0<=p*o.pct:=Int.mul_nonneg hp.1 h3;have h6:p*o.pct<=1000000*100:=Int.le_trans (Int.mul_le_mul_of_nonneg_left h4 hp.1) (Int.mul_le_mul_of_nonneg_right hp.2 (by omega));have h7:Int.tdiv (p*o.pct+99) 100=(p*o.pct+99) / 100:=Int.tdiv_eq_ediv_of_nonneg (by omega);rw[ay (n:=p+o.step) ⟨by omega,by omega⟩,ay (n:=p*o.pct) ⟨by omega,by omega⟩,ay (n:=p*o.pct+99) ⟨by omega,by omega⟩,h7,ay (n:=(p*o.pct+99) / 100) ⟨by omega,by omega⟩,ay ⟨by omega,by omega⟩];rfl
def aS(o:Po)(p ex:I6):I6:=p.zip (λ x n=>if n>0 then nk o x else x) ex
def fj(o:Po)(p ex:I6):I6×Int:=if aS o p ex≠p/\bw (aS o p ex)=false then (z6,4) else (aS o p ex,0)
theorem EC(w:World){o:Po}(ho:o.ok){p:I6}(hp:bw p=true)(ex:I6):CP 134 #[o.v,.agg p.vs.toArray,.agg ex.vs.toArray] w (λ r w'=>r=.tuple #[.agg (fj o p ex).1.vs.toArray,iv (fj o p ex).2]/\ax w w' []):=by
 refine mR ?_;unfold jt;have hle:=eY.1 hp;refine(St.start w).one.av o.cells.toArray λ r1 w1 s1=>s1.av p.vs.toArray λ r2 w2 s2=>s2.av ex.vs.toArray λ r3 w3 s3=>s3.av z6.vs.toArray λ r4 w4 s4=>?_;refine⟨_,_,_,_,s4.cellsIn 3 rfl,aq (pE w4 o) ?_⟩;rintro v w5 ⟨rfl,c5⟩;have s5:=s4.quiet c5;have s6:=s5.quiet (ax.drew _ _);let L:Nat->Nat->I6->List aJ:=λ b r out=>[ah r out.vs.toArray 30,ah b o.cells.toArray 41,ah r4 z6.vs.toArray 30,ah r3 ex.vs.toArray 35,ah r2 p.vs.toArray 30,emp];refine⟨_,rfl,cF (by rw[ei,if_pos ho]; rfl) ⟨λ v r w'=>∃ b,v=.func (.func 193) #[] #[.pointer (some ⟨b,0,none⟩)]/\St w w' (Sep (L b r p)),?_,?_⟩⟩
 ·rintro w7 v r5 ⟨b,rfl,s7⟩ -;refine⟨ex,s7.cellsIn 3 rfl,λ n w8 m=>∃ k:Nat,n=k/\k<=6/\m=6-k/\St w w8 (Sep (L b r5 (I6.mix k (aS o p ex) p))),⟨6,0,rfl,by omega,by omega,s7⟩,?_⟩;rintro w8 m n ⟨k,rfl,hk,hm,s8⟩ -
  by_cases hlt:(k:Int)<6
  ·have hk' : k<6:=by omega
   have er:(aS o p ex).at' k=if ex.at' k>0 then nk o (p.at' k) else p.at' k:=I6.fY _ _ _ _ hk'
   refine cT (dT hlt) ⟨λ w9=>St w w9 (Sep (L b r5 (I6.mix (k+1) (aS o p ex) p))),?_,by omega,by omega,_,ex.get k hk',λ g w10=>g=decide (ex.at' k>0)/\St w w10 (Sep (L b r5 (I6.mix k (aS o p ex) p))),?_,?_⟩
   ·rintro w9 s9 -;exact⟨6-(k+1),by omega,k+1,inc (by decide) hk',by omega,rfl,s9⟩
   ·rintro w10 g ⟨rfl,s10⟩ -
    by_cases hg:ex.at' k>0
    ·refine cT (dT hg) ⟨by omega,by omega,p.at' k,by rw[bV,aB s10 4 rfl hk'],cI (by kernel_rfl) (aq (G5 ho (hle k hk') s10 1 rfl) ?_)⟩;rintro v w11 ⟨rfl,rfl⟩;refine⟨_,rfl,by omega,by omega,?_⟩;rw[bV];refine s10.bL 0 rfl hk' rfl λ w12 s12=>?_;rw[if_pos hg] at er;rw[<- er,I6.cE _ _ _ hk'] at s12;exact s12
    ·refine cF (dF hg) ?_;rw[if_neg hg] at er;have:I6.mix (k+1) (aS o p ex) p=I6.mix k (aS o p ex) p:=by
      refine I6.ext' λ j hj=>?_;rw[I6.bh _ _ _ _ hj,I6.bh _ _ _ _ hj]
      by_cases h3:j<k
      ·rw[if_pos (by omega),if_pos h3]
      ·rw[if_neg h3]
       split
       ·obtain rfl:j=k:=by omega
        exact er
       ·rfl
     rw[this]; exact s10
   ·by_cases hg:ex.at' k>0
    ·refine cT (dT hg) ⟨_,s8.cellsIn 4 rfl,aq (wS w8 p) ?_⟩;rintro v w13 ⟨rfl,c13⟩;exact⟨_,rfl,by rw[hp,dT hg],s8.quiet c13⟩
    ·exact cF (dF hg) ⟨by rw[dF hg],s8⟩
  ·obtain rfl:k=6:=by omega
   refine cF (by simp) ⟨λ g w14=>g=decide (aS o p ex≠p/\bw (aS o p ex)=false)/\St w w14 (Sep (L b r5 (aS o p ex))),?_,p,s8.cellsIn 4 rfl,aq (wS w8 p) ?_⟩
   ·rintro w14 g ⟨rfl,s14⟩ -
    by_cases hg:aS o p ex≠p/\bw (aS o p ex)=false
    ·refine cT (dT hg) (s14.az 2 rfl z6.vs rfl (I6.one _) λ w15 s15=>⟨_,s15.cellsIn 2 rfl,?_,s15.an⟩);rw[fj,if_pos hg]
    ·refine cF (dF hg) ⟨_,s14.cellsIn 0 rfl,s14.az 2 rfl (aS o p ex).vs rfl (I6.one _) λ w15 s15=>⟨_,s15.cellsIn 2 rfl,?_,s15.an⟩⟩;rw[fj,if_neg hg]
   ·rintro v w17 ⟨rfl,c17⟩;have s17:=s8.quiet c17;refine⟨_,rfl,cF (by rw[hp]; rfl) ⟨_,s17.cellsIn 0 rfl,_,s17.cellsIn 4 rfl,?_⟩⟩;rw[I6.fD,I6.beq_eq]
    by_cases hne:aS o p ex=p
    ·exact cF (by simp[hne]) ⟨by simp[hne],s17⟩
    ·refine cT (by simp[hne]) ⟨_,s17.cellsIn 0 rfl,aq (wS w17 _) ?_⟩;rintro v w18 ⟨rfl,c18⟩;refine⟨_,rfl,?_,s17.quiet c18⟩;rw[I6.fD]
     cases bw (aS o p ex)<;>simp[hne]
 ·refine⟨_,_,_,_,s6.cellsIn 3 rfl,p,s6.cellsIn 2 rfl,?_,?_⟩
  ·refine aq (K:=λ v w'=>∃ b,v=.func (.func 193) #[] #[.pointer (some ⟨b,0,none⟩)]/\St w w' (Sep (ah b o.cells.toArray 41 :: [ah r4 z6.vs.toArray 30,ah r3 ex.vs.toArray 35,ah r2 p.vs.toArray 30,ah r1 o.cells.toArray 41,emp]))) (eU ?_) ?_
   ·exact s6.av o.cells.toArray λ b w' s'=>⟨b,rfl,s'⟩
   ·rintro v w19 ⟨b,rfl,s19⟩;refine⟨_,rfl,s19.cellsIn 3 rfl,s19.av z6.vs.toArray λ r6 w20 s20=>⟨s20.cellsIn 4 rfl,s20.az 0 rfl p.vs rfl (I6.one _) λ w21 s21=>⟨b,rfl,s21.aA [0,1,2,3,4,6]⟩⟩⟩
  ·refine s6.av z6.vs.toArray λ r7 w22 s22=>⟨s22.cellsIn 3 rfl,s22.cellsIn 4 rfl,?_⟩;refine aq (K:=λ v w'=>∃ b,v=.func (.func 193) #[] #[.pointer (some ⟨b,0,none⟩)]/\St w w' (Sep (ah b o.cells.toArray 41 :: [ah r7 z6.vs.toArray 30,ah r4 z6.vs.toArray 30,ah r3 ex.vs.toArray 35,ah r2 p.vs.toArray 30,ah r1 o.cells.toArray 41,emp]))) (eU ?_) ?_
   ·exact s22.av o.cells.toArray λ b w' s'=>⟨b,rfl,s'⟩
   ·rintro v w23 ⟨b,rfl,s23⟩;exact⟨_,rfl,s23.cellsIn 4 rfl,s23.az 1 rfl p.vs rfl (I6.one _) λ w24 s24=>⟨b,rfl,s24.aA [1,0,2,3,4,6]⟩⟩
def e6(a:OA)(b c:Nat)(w:World)(K:KP):=cond (a).isNone (K qn w) (au w (.cells #[] 117) λ d e=>aW prog (Builtin.append_ #[22,22] 22 #[.slice (some (qd d 0)) 0 0,.slice a b c]) e λ a b=>∃ c d e,a=(.slice c d e)/\K (.slice c d e) b)
theorem iM{a1 l1 c1 w K}(h:e6 a1 l1 c1 w K):CP 126 #[.slice a1 l1 c1] w K:=aj (aC []) func126 (by kernel_rfl) (by kernel_rfl) h
def fm(a:OA)(b c:Nat)(w:World)(K:KP):=cond (a).isNone (K qn w) (au w (.cells #[] 66) λ d e=>aW prog (Builtin.append_ #[23,23] 23 #[.slice (some (qd d 0)) 0 0,.slice a b c]) e λ a b=>∃ c d e,a=(.slice c d e)/\K (.slice c d e) b)
theorem jg{a1 l1 c1 w K}(h:fm a1 l1 c1 w K):CP 127 #[.slice a1 l1 c1] w K:=aj (aC []) func127 (by kernel_rfl) (by kernel_rfl) h
def iL(a:OA)(b c:Nat)(w:World)(K:KP):=cond (a).isNone (K qn w) (au w (.cells #[] 113) λ d e=>aW prog (Builtin.append_ #[24,24] 24 #[.slice (some (qd d 0)) 0 0,.slice a b c]) e λ a b=>∃ c d e,a=(.slice c d e)/\K (.slice c d e) b)
theorem lU{a1 l1 c1 w K}(h:iL a1 l1 c1 w K):CP 128 #[.slice a1 l1 c1] w K:=aj (aC []) func128 (by kernel_rfl) (by kernel_rfl) h
def fW(a:OA)(b c:Nat)(w:World)(K:KP):=cond (a).isNone (K qn w) (au w (.cells #[] 115) λ d e=>aW prog (Builtin.append_ #[25,25] 25 #[.slice (some (qd d 0)) 0 0,.slice a b c]) e λ a b=>∃ c d e,a=(.slice c d e)/\K (.slice c d e) b)
theorem jM{a1 l1 c1 w K}(h:fW a1 l1 c1 w K):CP 129 #[.slice a1 l1 c1] w K:=aj (aC []) func129 (by kernel_rfl) (by kernel_rfl) h
def fo(a:OA)(b c:Nat)(w:World)(K:KP):=cond (a).isNone (K qn w) (au w (.cells #[] 35) λ d e=>aW prog (Builtin.append_ #[46,46] 46 #[.slice (some (qd d 0)) 0 0,.slice a b c]) e λ a b=>∃ c d e,a=(.slice c d e)/\K (.slice c d e) b)
theorem jh{a1 l1 c1 w K}(h:fo a1 l1 c1 w K):CP 168 #[.slice a1 l1 c1] w K:=aj (aC []) func168 (by kernel_rfl) (by kernel_rfl) h

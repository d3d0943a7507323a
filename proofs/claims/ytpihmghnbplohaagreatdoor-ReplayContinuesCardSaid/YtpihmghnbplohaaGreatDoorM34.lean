import Derived.Test.YtpihmghnbplohaaGreatDoorTie
import Derived.Test.YtpihmghnbplohaaGreatDoorCards
import Derived.DataReads
import Derived.ProofKit
import Derived.OpenShut
import Derived.ChangeOld
import Derived.ChangeSlices
import Derived.Below
import Derived.Lay
import Derived.Lib.SmallJoins
import Derived.Lib.LaidTab
import Derived.ChangeSame
import Derived.ChangeVars
import Derived.JoinedOf
import Derived.LaidLaws
import Derived.LaidHandle
import Derived.Stop.Joined
import Derived.Stop.LaidErr
import Derived.SevenTiedAt
import Derived.Test.YtpihmghnbplohaaGreatDoorM04
import Derived.Test.YtpihmghnbplohaaGreatDoorM24
import Derived.Test.YtpihmghnbplohaaGreatDoorM28
import Derived.Test.YtpihmghnbplohaaGreatDoorM33
set_option linter.unusedVariables false
set_option maxRecDepth 100000
namespace Go.Proofs.YtpihmghnbplohaaGreatDoor
open Go Go.Vc _root_.Go.Proofs.Tryz
def I8(n:Nat):Value:=.int .u64 (n:Int)
def PG(xs:List Nat)(i:Nat):Nat:=(xs[i]?).getD 0
theorem RM{w:World}{a:OA}{c:Nat}{xs:List Nat}(hr:Rd w a (xs.map I8))(i:Nat):CP 77 #[.slice a xs.length c,.int .i64 (i:Int)] w (λ r w'=>r=.int .u64 (PG xs i:Int)/\w' = w):=by
  refine Cf ?_;unfold AH PG
  by_cases h:i<xs.length
  · obtain⟨q,rfl,hq⟩:=hr i (I8 xs[i]) (by simp[h]);exact cT (dT (by omega)) ⟨by omega,by omega,_,by rw[Int.toNat_natCast]; exact hq,by simp[h],rfl⟩
  · exact cF (dF (by omega)) ⟨by simp[List.getElem?_eq_none (Nat.le_of_not_lt h)],rfl⟩
def cmpL:Nat->List Nat->List Nat->Option (Nat×Nat×Nat)
  | _,[],[]=>none
  | i,[],y :: _=>some (i,0,y)
  | i,x :: _,[]=>some (i,x,0)
  | i,x :: xs,y :: ys=>if x=y then cmpL (i+1) xs ys else some (i,x,y)
def S6(o:Option (Nat×Nat×Nat)):Value:=match o with
  | some (i,x,y)=>.tuple #[.agg #[.int .i64 (i:Int),.int .u64 (x:Int),.int .u64 (y:Int)],.bool true]
  | none=>.tuple #[.agg #[.int .i64 0,.int .u64 0,.int .u64 0],.bool false]
theorem xK{xs ys:List Nat}{i:Nat}(h:xs.length<=i/\i<ys.length\/ys.length<=i/\i<xs.length\/i<xs.length/\i<ys.length/\xs[i]?≠ys[i]?):cmpL i (xs.drop i) (ys.drop i)=some (i,PG xs i,PG ys i):=by
  unfold PG;rcases h with⟨h1,h2⟩ | ⟨h1,h2⟩ | ⟨h1,h2,h3⟩
  · rw[List.drop_of_length_le h1,List.drop_eq_getElem_cons h2,List.getElem?_eq_none h1]; simp[cmpL,h2]
  · rw[List.drop_of_length_le h1,List.drop_eq_getElem_cons h2,List.getElem?_eq_none h1]; simp[cmpL,h2]
  · rw[List.drop_eq_getElem_cons h1,List.drop_eq_getElem_cons h2,cmpL,if_neg]
    · simp[h1,h2]
    · intro e; apply h3; simp[h1,h2,e]
theorem PR{xs ys:List Nat}{i:Nat}(h1:i<xs.length)(h2:i<ys.length)(h3:xs[i]? = ys[i]?):cmpL i (xs.drop i) (ys.drop i)=cmpL (i+1) (xs.drop (i+1)) (ys.drop (i+1)):=by
  rw[List.drop_eq_getElem_cons h1,List.drop_eq_getElem_cons h2,cmpL,if_pos];simpa[h1,h2] using h3
theorem ML{xs ys:List Nat}{i:Nat}(h1:xs.length<=i)(h2:ys.length<=i):cmpL i (xs.drop i) (ys.drop i)=none:=by
  rw[List.drop_of_length_le h1,List.drop_of_length_le h2]; rfl
theorem yD{w:World}{a b:OA}{c d:Nat}{xs ys:List Nat}(hx:Rd w a (xs.map I8))(hy:Rd w b (ys.map I8))(lx:xs.length<=1000000)(ly:ys.length<=1000000) :
    CP 33 #[.slice a xs.length c,.slice b ys.length d] w (λ r w'=>r=S6 (cmpL 0 xs ys)/\az w w' []):=by
  refine sV ?_;unfold ou;refine aG ?_;obtain⟨r1,hr1⟩:∃ r1,w.heap.size=r1:=⟨_,rfl⟩;have h1:St w (w.alloc (.cells #[.int .i64 0,.int .u64 0,.int .u64 0] 83)) (Sep [ai r1 #[.int .i64 0,.int .u64 0,.int .u64 0] 83]):=by rw[<- hr1]; exact((St.start w).one.bI _ _).aq [0]
  rw[hr1];refine⟨λ n w' m=>∃ i:Nat,n=(i:Int)/\i<=max xs.length ys.length/\m=max xs.length ys.length-i/\cmpL 0 xs ys=cmpL i (xs.drop i) (ys.drop i)/\St w w' (Sep [ai r1 #[.int .i64 0,.int .u64 0,.int .u64 0] 83]),
    ⟨_,0,rfl,by omega,rfl,rfl,h1⟩,?_⟩
  rintro w2 m n ⟨i,rfl,hi,rfl,hcm,h2⟩ -;have hmax:(if ((ys.length:Nat):Int)>((xs.length:Nat):Int) then ((ys.length:Nat):Int) else ((xs.length:Nat):Int))=((max xs.length ys.length:Nat):Int):=by split<;>omega
  rw[hmax]
  by_cases hlt:i<max xs.length ys.length
  · refine cT (dT (by omega)) ⟨λ g w'=>St w w' (Sep [ai r1 #[.int .i64 0,.int .u64 0,.int .u64 0] 83])/\((g=true/\cmpL 0 xs ys=some (i,PG xs i,PG ys i))\/(g=false/\cmpL 0 xs ys=cmpL (i+1) (xs.drop (i+1)) (ys.drop (i+1)))),?_,?_⟩
    · rintro w3 g ⟨h3,⟨rfl,hc⟩ | ⟨rfl,hc⟩⟩ -
      · refine cT rfl (aj (RM (hx.av h3.av) i) ?_);rintro _ w4 ⟨rfl,rfl⟩;refine⟨_,rfl,aj (RM (hy.av h3.av) i) ?_⟩;rintro _ w5 ⟨rfl,rfl⟩;refine⟨_,rfl,h3.aA 0 rfl _ rfl (by simp[Value.oneCell']) λ w6 h6=>⟨_,_,_,h6.cellsIn 0 rfl,?_,h6.av⟩⟩;rw[hc]; rfl
      · exact cF rfl ⟨_,by omega,i+1,by rw[IntWalk.i64_in _ (by omega)]; omega,by omega,rfl,hc,h3⟩
    · have h2':=h2.quiet (az.drew w2 [])
      by_cases hx1:i<xs.length
      · by_cases hy1:i<ys.length
        · obtain⟨q1,rfl,hq1⟩:=hx.av h2'.av i (I8 xs[i]) (by simp[hx1]);obtain⟨q2,rfl,hq2⟩:=hy.av h2'.av i (I8 ys[i]) (by simp[hy1]);refine cF (dF (by omega)) (cF (dF (by omega)) ⟨by omega,by omega,_,by rw[Int.toNat_natCast]; exact hq1,by omega,by omega,_,by rw[Int.toNat_natCast]; exact hq2,h2',?_⟩)
          by_cases he:xs[i]? = ys[i]?
          · have he' : xs[i]=ys[i]:=by simpa[hx1,hy1] using he
            exact .inr ⟨by rw[he']; simp,by rw[hcm,PR hx1 hy1 he]⟩
          · have he' : ¬ xs[i]=ys[i]:=by simpa[hx1,hy1] using he
            exact .inl ⟨by simp; omega,by rw[hcm,xK (.inr (.inr ⟨hx1,hy1,he⟩))]⟩
        · exact cF (dF (by omega)) (cT (dT (by omega)) ⟨h2',.inl ⟨rfl,by rw[hcm,xK (.inr (.inl ⟨by omega,hx1⟩))]⟩⟩)
      · exact cT (dT (by omega)) ⟨h2',.inl ⟨rfl,by rw[hcm,xK (.inl ⟨by omega,by omega⟩)]⟩⟩
  · refine cF (dF (by omega)) (h2.aA 0 rfl _ rfl (by simp[Value.oneCell']) λ w6 h6=>⟨_,_,_,h6.cellsIn 0 rfl,?_,h6.av⟩);rw[hcm,ML (by omega) (by omega)]; rfl
theorem Hg{w0 w:World}{l:List aD}{r:Nat}{cs:Array Value}{T:TypeId}(i:Nat)(h:St w0 w (Sep l))(e:l[i]? = some (ai r cs T)):Rd w (some ⟨r,0,none⟩) cs.toList:=λ k v hk =>
  ⟨_,rfl,by rw[Nat.mul_one,fQ,h.ag i e]; simpa using hk⟩
theorem wK(w:World):CP 12 #[] w (λ r w'=>r=.bool true/\az w w' []):=by
  refine yg (aG (aG ?_));have h2:=((St.start w).one.bI #[.int .u64 0,.int .u64 5,.int .u64 6] 37).bI #[.int .u64 0,.int .u64 5,.int .u64 7,.int .u64 8] 37;refine aj (yD (xs:=[0,5,6]) (ys:=[0,5,7,8]) (Hg 1 h2 rfl) (Hg 0 h2 rfl) (by decide) (by decide)) ?_;rintro _ w3 ⟨rfl,c3⟩;have h3:=(h2.quiet c3).second.second;have e3:cmpL 0 [0,5,6] [0,5,7,8]=some (2,6,7):=by decide
  rw[e3];refine⟨_,_,_,_,rfl,aG ?_⟩;have h4:=h3.one.bI #[.int .i64 0,.int .u64 0,.int .u64 0] 83;obtain⟨r3,hr3⟩:∃ r,w3.heap.size=r:=⟨_,rfl⟩;rw[hr3] at h4 ⊢;refine h4.aA 0 rfl _ rfl (by simp[Value.oneCell']) λ w5 h5=>aG (aG ?_);have h7:=(h5.bI #[.int .u64 0,.int .u64 5] 37).bI #[.int .u64 0,.int .u64 5,.int .u64 7] 37;refine aj (yD (xs:=[0,5]) (ys:=[0,5,7]) (Hg 1 h7 rfl) (Hg 0 h7 rfl) (by decide) (by decide)) ?_;rintro _ w8 ⟨rfl,c8⟩;have h8:=(h7.quiet c8).second.second;have e8:cmpL 0 [0,5] [0,5,7]=some (2,0,7):=by decide
  rw[e8];refine⟨_,_,_,_,rfl,aG ?_⟩;have h9:=St.bI h8 #[.int .i64 0,.int .u64 0,.int .u64 0] 83;obtain⟨r6,hr6⟩:∃ r,w8.heap.size=r:=⟨_,rfl⟩;rw[hr6] at h9 ⊢;refine h9.aA 0 rfl _ rfl (by simp[Value.oneCell']) λ w10 h10=>?_;have h10:St w w10 (Sep [ai r6 #[.int .i64 2,.int .u64 0,.int .u64 7] 83,ai r3 #[.int .i64 2,.int .u64 6,.int .u64 7] 83,Sep [emp]]):=h10;refine aj (oN (rs:=[]) (a:=none) (c:=0) h10 (λ _=>Jf.nil) (by simp) (by simp[aR]) (by simp)) ?_;rintro _ w11 ⟨x,m,es,rfl,hes,h11⟩;have h12:St w w11 (Sep [bU x m es 0 false,Sep [ai r6 #[.int .i64 2,.int .u64 0,.int .u64 7] 83,ai r3 #[.int .i64 2,.int .u64 6,.int .u64 7] 83,Sep [emp]]]):=xg (m:=[_,_,_]) [_] h11;have hel:es.length=0:=by have:=congrArg List.length hes; simpa using this
  refine⟨_,rfl,cF rfl (aj (CI (most:=3) (by omega) ⟨0,0,0,0⟩ h12) ?_)⟩;rw[hes];rintro _ w12 ⟨t,rfl,h13⟩;refine⟨_,_,_,rfl,aj (Ba (by omega) ⟨0,0,0,0⟩ (h13.aq [1,2])) ?_⟩;rw[hes];rintro _ w13 (⟨h0,_⟩ | ⟨_,a,c,rfl,h14⟩)
  · exact absurd rfl h0
  have h15:=h14.bN [_,_];refine⟨_,_,_,_,rfl,cT rfl ⟨_,_,_,h15.cellsIn 3 rfl,cT rfl (cT rfl ⟨_,_,_,h15.cellsIn 2 rfl,cT rfl (cT rfl (cT rfl (cT rfl (cT rfl (cT rfl ?_)))))⟩)⟩⟩;obtain⟨q,rfl,hq⟩:=(St.rd F6 (h14.out 0 rfl)).at (i:=0) (x:=0) rfl;exact⟨by decide,by decide,_,by have:=hq.1; rwa [Addr.add_add,Nat.add_zero] at this,rfl,h14.av⟩
theorem jJ(l:List Ev):(aR 0 (lS l)).length<=262144/\∀ x∈lS l,x.length<=4000:=by
  have h1:∀ x∈lS l,x.length<=1500:=λ x hx=>by obtain⟨e,_,_,_,h⟩:=yF hx; exact h
  have h2:=ud (lS l) 0 1500 h1;have h3:=ot l;have h4:(1500+18)*(lS l).length<=(1500+18)*30:=Nat.mul_le_mul_left _ h3;exact⟨by omega,λ x hx=>by have:=h1 x hx; omega⟩
theorem GD:∀ (l:List (List UInt8)) (σ:Fo),∃ t,(l.foldl aU σ).ds=σ.ds++t
  | [],σ=>⟨[],by simp⟩
  | r :: l,σ=>by
    obtain⟨t,ht⟩:=GD l (aU σ r);rw[List.foldl_cons,ht];unfold aU
    split
    · exact⟨t,rfl⟩
    · split
      · exact⟨t,rfl⟩
      · split
        · exact⟨t,rfl⟩
        · exact⟨(EF σ.S σ.C (aW r).1).dig :: t,by simp⟩
theorem PY{o:Po}{l:List (List UInt8)}(h:(aB o l).e=0){i:Nat}(hi:i<=l.length):(aB o l).ds[i]? = some (aB o (l.take i)).S.dig:=by
  have h1:=si (i:=i) h;have hn:=nW h1;have hok:=jC o (l.take i);obtain⟨t,ht⟩:=GD (l.drop i) (aB o (l.take i));rw[<- sg,List.take_append_drop] at ht;have hl:(aB o (l.take i)).ds.length=i+1:=by rw[hok.ln,hn,List.length_take]; omega
  rw[ht,List.getElem?_append_left (by omega),<- hok.dg,List.getLast?_eq_getElem?,hl]; rfl
theorem JV{o:Po}{l:List (List UInt8)}(h:(aB o l).e=0){i:Nat}{r:List UInt8}(hr:l[i]? = some r):(aB o (l.take (i+1))).S.dig=((aE (aB o (l.take i)).S.dig.toNat (aX (aW r).1):Nat):Int):=by
  have h1:=si (i:=i+1) h;rw[aL hr,fF] at h1 ⊢;obtain⟨g0,g1,g2⟩:=xd h1;rw[gI g0 g1 g2]; rfl
theorem GC{o:Po}(l:List (List UInt8)):∀ i,i<=l.length->((aB o (l.take i)).e=0->(aB o (l.take i)).n=i)/\(aB o (l.take i)).n<=i/\((aB o (l.take i)).e≠0->(aB o (l.take i)).n<i) /\
    (aB o (l.take (aB o (l.take i)).n)).e=0/\(aB o (l.take (aB o (l.take i)).n)).S=(aB o (l.take i)).S/\(aB o (l.take (aB o (l.take i)).n)).C=(aB o (l.take i)).C
  | 0,_=>⟨λ _=>rfl,Nat.le_refl _,λ h=>absurd rfl h,rfl,rfl,rfl⟩
  | i+1,hi=>by
    obtain⟨h1,h2,h3,h4,h5,h6⟩:=GC l i (by omega);have hr:l[i]? = some (l[i]'(by omega)):=gE (by omega);generalize l[i]'(by omega)=r at hr;have e1:aB o (l.take (i+1))=aU (aB o (l.take i)) r:=by rw[aL hr,fF]
    by_cases g0:(aB o (l.take i)).e=0
    · have hn:=h1 g0
      by_cases g1:(aW r).2=0
      · by_cases g2:uP (aB o (l.take i)).S (aB o (l.take i)).C (aW r).1=0
        · have e2:=gI g0 g1 g2;have hn1:(aB o (l.take (i+1))).n=i+1:=by rw[e1,e2]; show(aB o (l.take i)).n+1=_; omega
          have he1:(aB o (l.take (i+1))).e=0:=by rw[e1,e2]
          rw[hn1];exact⟨λ _=>rfl,Nat.le_refl _,λ h=>absurd he1 h,he1,rfl,rfl⟩
        · have e2:=y4 g0 g1 g2;have hn1:(aB o (l.take (i+1))).n=i:=by rw[e1,e2]; exact hn
          have he1:(aB o (l.take (i+1))).e≠0:=by rw[e1,e2]; exact g2
          rw[hn1];exact⟨λ h=>absurd h he1,Nat.le_succ _,λ _=>Nat.lt_succ_self _,g0,by rw[e1,e2],by rw[e1,e2]⟩
      · have e2:=pE g0 g1;have hn1:(aB o (l.take (i+1))).n=i:=by rw[e1,e2]; exact hn
        have he1:(aB o (l.take (i+1))).e≠0:=by rw[e1,e2]; exact g1
        rw[hn1];exact⟨λ h=>absurd h he1,Nat.le_succ _,λ _=>Nat.lt_succ_self _,g0,by rw[e1,e2],by rw[e1,e2]⟩
    · have e2:aB o (l.take (i+1))=aB o (l.take i):=by rw[e1]; exact if_pos g0
      rw[e2];exact⟨λ h=>absurd h g0,by omega,λ h=>by have:=h3 h; omega,h4,h5,h6⟩
theorem BQ(o:Po)(l:List (List UInt8)):(aB o (l.take (aB o l).n)).e=0/\(aB o (l.take (aB o l).n)).S=(aB o l).S/\(aB o (l.take (aB o l).n)).C=(aB o l).C/\((aB o l).e≠0->(aB o l).n<l.length):=by
  have:=GC (o:=o) l l.length (Nat.le_refl _);rw[List.take_length] at this;exact⟨this.2.2.2.1,this.2.2.2.2.1,this.2.2.2.2.2,this.2.2.1⟩
theorem M5{o:Po}{l:List (List UInt8)}{i:Nat}(h:i<=(aB o l).n):(aB o (l.take i)).e=0:=by
  have:=si (i:=i) (BQ o l).1
  rwa [List.take_take,Nat.min_eq_left h] at this
theorem Ki{o:Po}{l:List (List UInt8)}(k:Nat):(aB o (l.take k)).n<=(aB o l).n:=by
  by_cases h:(aB o (l.take k)).e=0
  · have hn:=nW h;rcases Nat.lt_or_ge (aB o l).n (l.take k).length with h1 | h1
    · have hk:(aB o l).n<l.length:=by rw[List.length_take] at h1; omega
      have he:(aB o l).e≠0:=λ e=>by have:=nW e; omega
      have:(aB o (l.take ((aB o l).n+1))).e=0:=by
        have:=si (i:=(aB o l).n+1) h;rw[List.take_take,Nat.min_eq_left (by rw[List.length_take] at h1; omega)] at this;exact this
      have h2:=nW this;rw[List.length_take] at h2;have h3:(aB o (l.take ((aB o l).n+1))).n<=(aB o l).n:=by
        have h4:=BS (l.drop ((aB o l).n+1)) (aB o (l.take ((aB o l).n+1)));have h5:∀ (m:List (List UInt8)) (σ:Fo),σ.n<=(m.foldl aU σ).n:=by
          intro m
          induction m with
          | nil=>exact λ _=>Nat.le_refl _
          | cons r m ih =>
            intro σ;refine Nat.le_trans ?_ (ih (aU σ r));unfold aU
            split
            · exact Nat.le_refl _
            · split
              · exact Nat.le_refl _
              · split
                · exact Nat.le_refl _
                · exact Nat.le_succ _
        have:=h5 (l.drop ((aB o l).n+1)) (aB o (l.take ((aB o l).n+1)))
        rwa [<- sg,List.take_append_drop] at this
      omega
    · omega
  · rw[o7 h]; exact Nat.le_refl _
section
variable {w:World} {a:OA} {c:Nat} {l:List Ev}
theorem yH(o:Po)(most:Int)(h:cH 11 Ev.cells w a l)(hi:∀ e∈l,e.In) :
    CP 5 #[o.v,.slice a l.length c,iv most] w (λ r w'=>r=.bool true/\az w w' []):=by
  refine mY ?_;unfold iQ;obtain⟨hf,h4⟩:=jJ l;have hl30:=ot l;refine(St.start w).one.ax o.cells.toArray λ r1 w1 s1=>aj (pn (h.av s1.av) hi) ?_;rintro _ w2 ⟨a2,c2,rfl,k2⟩;obtain⟨rs,hrs⟩:∃ rs,lS l=rs:=⟨_,rfl⟩;rw[hrs] at hf h4 hl30 k2 ⊢;have s2:St w w2 (Sep [NY a2 c2 rs,ai r1 o.cells.toArray 23,emp]):=St.cat (s1.and k2);have hrow:∀ {w' : World},az w2 w' []->cH 1 Proofs.YtpihmghnbplohaaGreatDoor.s1 w' a2 rs:=λ hc=>(St.rd oD (s2.out 0 rfl)).av hc;have hpol:∀ {w' : World},az w2 w' []->af w' ⟨r1,0,none⟩ 0 o.cells:=λ hc=>br hc (s2.cellsIn 1 rfl);have hcap:=(St.mK (s2.out 0 rfl)).1;refine⟨_,_,_,rfl,aj (oN (L:=[]) (St.start w2) hrow h4 hf (by omega)) ?_⟩;rintro _ w3 ⟨x,m,es,rfl,hes,s3⟩;have hel:es.length=rs.length:=by rw[<- hes,List.length_map]
  refine⟨_,rfl,cF rfl ⟨λ n w'=>n=((min most.toNat rs.length:Nat):Int)/\w' = w3,?_,?_⟩⟩
  rotate_left
  · by_cases h1:most<(rs.length:Int)
    · refine cT (dT h1) ⟨?_,rfl⟩
      split<;>omega
    · exact cF (dF h1) ⟨by omega,rfl⟩
  rintro w4 n ⟨rfl,rfl⟩ -;refine⟨_,_,_,_,hpol s3.av,aj (CI (B:=emp) (by omega) o (s3.aq [0,1])) ?_⟩;rw[hes];have hM:rs.take (min most.toNat rs.length)=rs.take most.toNat:=AT rs _;rintro _ w5 ⟨b1,rfl,s5⟩;have s6:=s5.quiet (az.drew w5 []);refine⟨_,_,_,rfl,_,_,_,_,hpol s6.av,by omega,by omega,?_⟩;rw[Ra,Int.toNat_natCast];have hN:min most.toNat rs.length-0=(rs.take most.toNat).length:=by rw[List.length_take]; rfl
  rw[hN];refine aj (sr s6 (λ hc=>(hrow hc).take _) (by rw[List.length_take]; omega) o) ?_;rintro _ w6 ⟨b2,rfl,s7⟩;refine⟨_,_,_,rfl,cT (by simp) (cT (by simp) (aj (Lw (s7.aq [1,0]) (jC o _).ok) ?_))⟩;rintro _ w7 ⟨rfl,s8⟩;refine⟨_,rfl,cT rfl (aj (wK w7) ?_)⟩;rintro _ w8 ⟨rfl,c8⟩;exact⟨_,rfl,rfl,(s2.av.trans s8.av (by simp)).trans c8 (by simp)⟩
theorem zF(o:Po)(h:cH 11 Ev.cells w a l)(hi:∀ e∈l,e.In) :
    CP 3 #[o.v,.slice a l.length c] w (λ r w'=>r=.bool true/\az w w' []):=by
  refine nY ?_;unfold jD;obtain⟨hf,h4⟩:=jJ l;have hl30:=ot l;have hdec:∀ r∈lS l,(aW r).2=0/\aX (aW r).1=r:=λ r hr=>Lh hi hr;refine(St.start w).one.ax o.cells.toArray λ r1 w1 s1=>aj (pn (h.av s1.av) hi) ?_;rintro _ w2 ⟨a2,c2,rfl,k2⟩;obtain⟨rs,hrs⟩:∃ rs,lS l=rs:=⟨_,rfl⟩;rw[hrs] at hf h4 hl30 k2 hdec ⊢;have s2:St w w2 (Sep [NY a2 c2 rs,ai r1 o.cells.toArray 23,emp]):=St.cat (s1.and k2);have hrow:∀ {w' : World},az w2 w' []->cH 1 Proofs.YtpihmghnbplohaaGreatDoor.s1 w' a2 rs:=λ hc=>(St.rd oD (s2.out 0 rfl)).av hc;have hpol:∀ {w' : World},az w2 w' []->af w' ⟨r1,0,none⟩ 0 o.cells:=λ hc=>br hc (s2.cellsIn 1 rfl);refine⟨_,_,_,rfl,aj (oN (L:=[]) (St.start w2) hrow h4 hf (by omega)) ?_⟩;rintro _ w3 ⟨x,m,es,rfl,hes,s3⟩;have hel:es.length=rs.length:=by rw[<- hes,List.length_map]
  have live:∀ {w' : World},az w2 w' []->Calls prog 12 #[] w' λ e w9=>∃ b:Bool,e=.returned (.bool b)/\Value.bool b=.bool true/\az w w9 []:=λ {w'} hc=>aj (wK w') (by
    rintro _ w9 ⟨rfl,c9⟩;exact⟨_,rfl,rfl,(s2.av.trans hc (by simp)).trans c9 (by simp)⟩)
  refine⟨_,rfl,cF rfl ⟨_,_,_,_,hpol s3.av,aj (Ba (B:=emp) (by omega) o (s3.aq [0,1])) ?_⟩⟩;rw[hes];rintro _ w4 (⟨he,rfl,s4⟩ | ⟨he,a3,c3,rfl,s4⟩)
  · refine⟨_,_,_,_,rfl,_,_,_,_,hpol s4.av,aj (sr s4 hrow (by omega) o) ?_⟩;rintro _ w5 ⟨b2,rfl,s5⟩;exact⟨_,_,_,rfl,cF (by simp) (cT (by simpa using he) (cT rfl (live s5.av)))⟩
  · refine⟨_,_,_,_,rfl,_,_,_,_,hpol s4.av,aj (sr s4 hrow (by omega) o) ?_⟩;rintro _ w5 ⟨b2,rfl,s5⟩;have hds:(aB o rs).ds.length=rs.length+1:=by rw[(jC o rs).ln,nW he]
    have hdr:∀ {w' : World},az w5 w' []->cH 1 u1 w' a3 (aB o rs).ds:=λ hc=>(St.rd F6 (s5.out 1 rfl)).av hc;have cell:∀ {w' : World},az w5 w' []->∀ i,i<=rs.length->∃ q,a3=some q/\w'.cell? (Addr.add q (i*1))=some (.int .u64 (aB o (rs.take i)).S.dig):=λ hc i hi=>by
      obtain⟨q,hq,h1⟩:=(hdr hc).at (PY he hi);exact⟨q,hq,by have:=h1.1; rwa [Addr.add_add,Nat.add_zero] at this⟩
    refine⟨_,_,_,rfl,cF (by rw[he]; rfl) (cF rfl ⟨λ b w'=>b=false/\w' = w5,?_,cF ?_ ?_⟩)⟩
    rotate_left
    · rw[hds,aC ⟨by omega,by omega⟩]; simp
    · obtain⟨q,rfl,hq⟩:=cell (az.refl w5 []) 0 (Nat.zero_le _);refine⟨by decide,by omega,_,hq,?_,rfl⟩;show((ij o).dig !=0)=false;rfl
    rintro w7 b ⟨rfl,rfl⟩ -;refine cF rfl ⟨λ n w' k=>∃ i:Nat,n=i/\i<=rs.length/\k=rs.length-i/\az w7 w' [],⟨_,0,rfl,Nat.zero_le _,rfl,az.refl _ _⟩,?_⟩;rintro w8 k n ⟨i,rfl,hi1,rfl,c8⟩ -
    by_cases hlt:i<rs.length
    · have hr:rs[i]? = some (rs[i]'hlt):=gE hlt;generalize rs[i]'hlt=r at hr;have c8' : az w7 w8.drew []:=c8.trans (az.drew _ []) (by simp);obtain⟨q,rfl,hq1⟩:=cell c8' (i+1) (by omega);obtain⟨q',e,hq0⟩:=cell c8' i (by omega)
      cases e
      obtain⟨q3,rfl,hq3⟩:=wU (hrow (s5.av.trans c8' (by simp))) hr;rw[aC (n:=(i:Int)+1) ⟨by omega,by omega⟩];have e1:((i:Int)+1).toNat=i+1:=by omega
      rw[e1];have hd:=JV he hr;rw[(hdec r (List.mem_of_getElem? hr)).2] at hd;have h0:=(jC o (rs.take i)).ok.dig.1;have e2:(aB o (rs.take i)).S.dig=(((aB o (rs.take i)).S.dig.toNat:Nat):Int):=(Int.toNat_of_nonneg h0).symm;refine cT (dT (by omega)) ⟨by omega,by omega,_,hq1,by omega,by omega,_,hq0,by omega,by omega,_,hq3,?_⟩;rw[e2];refine aj (Bs _ _ r (by have:=h4 r (List.mem_of_getElem? hr); omega)) ?_;rintro _ w9 ⟨rfl,c9⟩;refine⟨_,rfl,bT hq1 c9,cF (by rw[hd]; simp) ⟨rs.length-(i+1),by omega,i+1,rfl,by omega,rfl,c8'.trans c9 (by simp)⟩⟩
    · exact cF (dF (by omega)) (live (s5.av.trans c8 (by simp)))
theorem sU(o:Po)(cut:Int)(hm:0<=cut/\cut<=255)(h:cH 11 Ev.cells w a l)(hi:∀ e∈l,e.In) :
    CP 6 #[o.v,.slice a l.length c,.int .u8 cut] w (λ r w'=>r=.bool true/\az w w' []):=by
  refine j0 ?_;unfold fA;obtain⟨hf,h4⟩:=jJ l;have hl30:=ot l;refine(St.start w).one.ax o.cells.toArray λ r1 w1 s1=>aj (pn (h.av s1.av) hi) ?_;rintro _ w2 ⟨a2,c2,rfl,k2⟩;obtain⟨rs,hrs⟩:∃ rs,lS l=rs:=⟨_,rfl⟩;rw[hrs] at hf h4 hl30 k2 ⊢;have s2:St w w2 (Sep [NY a2 c2 rs,ai r1 o.cells.toArray 23,emp]):=St.cat (s1.and k2);have hrow:∀ {w' : World},az w2 w' []->cH 1 Proofs.YtpihmghnbplohaaGreatDoor.s1 w' a2 rs:=λ hc=>(St.rd oD (s2.out 0 rfl)).av hc;have hpol:∀ {w' : World},az w2 w' []->af w' ⟨r1,0,none⟩ 0 o.cells:=λ hc=>br hc (s2.cellsIn 1 rfl);refine⟨_,_,_,rfl,aj (oN (L:=[]) (St.start w2) hrow h4 hf (by omega)) ?_⟩;rintro _ w3 ⟨x,m,es,rfl,hes,s3⟩;have hel:es.length=rs.length:=by rw[<- hes,List.length_map]
  refine⟨_,rfl,cF rfl ⟨_,_,_,_,hpol s3.av,aj (CI (B:=emp) (by omega) o (s3.aq [0,1])) ?_⟩⟩;rw[hes,Int.toNat_natCast,List.take_length];rintro _ w4 ⟨b1,rfl,s4⟩;have hcut:IntKind.i64.wrap cut=cut:=aC ⟨by omega,by omega⟩;rw[hcut];refine⟨_,_,_,rfl,_,_,_,_,hpol s4.av,aj (CI (B:=Sep [eI b1 (aB o rs).S (aB o rs).C,emp]) (most:=cut) (by omega) o (xg [_] (s4.aq [1,0,2]))) ?_⟩;rw[hes];have hk:=Ki (o:=o) (l:=rs) cut.toNat;have hn:=BR o rs;obtain⟨_,fS,fC,_⟩:=BQ o (rs.take cut.toNat);obtain⟨_,gS,gC,_⟩:=BQ o rs;obtain⟨k,hkk⟩:∃ k,(aB o (rs.take cut.toNat)).n=k:=⟨_,rfl⟩;have hkc:k<=cut.toNat:=by have:=BR o (rs.take cut.toNat); rw[List.length_take] at this; omega
  rw[hkk] at fS fC hk ⊢;rw[List.take_take,Nat.min_eq_left hkc] at fS fC;obtain⟨n,hnn⟩:∃ n,(aB o rs).n=n:=⟨_,rfl⟩;rw[<- fS,<- fC,hnn];rw[hnn] at gS gC hk hn;rw[<- gS,<- gC];rintro _ w5 ⟨b2,rfl,s5⟩;have s6:St w2 w5 (Sep ([eI b2 (aB o (rs.take k)).S (aB o (rs.take k)).C,bU x m es 0 false]++[eI b1 (aB o (rs.take n)).S (aB o (rs.take n)).C,emp])):=s5.bN [_,_];have s7:St w2 w5 (Sep [eI b2 (aB o (rs.take k)).S (aB o (rs.take k)).C,eI b1 (aB o (rs.take n)).S (aB o (rs.take n)).C,emp]):=s6.aq [0,2,3];refine⟨_,_,_,rfl,λ b w'=>b=false/\w' = w5,?_,cF rfl (cF rfl (cF (dF (by omega)) ⟨dF (by omega),rfl⟩))⟩;rintro w6 b ⟨rfl,rfl⟩ -;refine cF rfl ⟨λ p w' q=>∃ i:Nat,p=i/\k<=i/\i<=n/\q=n-i/\St w2 w' (Sep [eI b2 (aB o (rs.take i)).S (aB o (rs.take i)).C,eI b1 (aB o (rs.take n)).S (aB o (rs.take n)).C,emp]),⟨_,k,rfl,Nat.le_refl _,hk,rfl,s7⟩,?_⟩;rintro w7 q p ⟨i,rfl,hi1,hi2,rfl,s8⟩ -
  by_cases hlt:i<n
  · have hr:rs[i]? = some (rs[i]'(by omega)):=gE (by omega);generalize rs[i]'(by omega)=r at hr;have hz:=M5 (o:=o) (l:=rs) (i:=i+1) (by omega);have e1:aB o (rs.take (i+1))=aU (aB o (rs.take i)) r:=by rw[aL hr,fF]
    rw[e1] at hz;obtain⟨g0,g1,g2⟩:=xd hz;have hgo:=gI g0 g1 g2;obtain⟨q3,rfl,hq3⟩:=wU (hrow s8.av) hr;refine cT (dT (by omega)) ⟨by omega,by omega,_,hq3,aj (rO w7 r) ?_⟩;rintro _ w8 ⟨rfl,c8⟩;refine⟨_,_,_,(aW r).1.want,_,_,_,rfl,(s8.quiet c8).ax p8.cells.toArray λ r2 w9 s9=>s9.aA 0 rfl (aW r).1.cells rfl (Ev.one _) λ w10 s10=>?_⟩;have s10:St w2 w10 (Sep [ai r2 (aW r).1.cells.toArray 43,eI b2 (aB o (rs.take i)).S (aB o (rs.take i)).C,eI b1 (aB o (rs.take n)).S (aB o (rs.take n)).C,emp]):=s10;refine⟨λ b w'=>b=false/\St w2 w' (Sep [eI b2 (aB o (rs.take (i+1))).S (aB o (rs.take (i+1))).C,eI b1 (aB o (rs.take n)).S (aB o (rs.take n)).C,emp]),?_,?_⟩
    · rintro w11 b ⟨rfl,s11⟩ -;exact cF rfl ⟨n-(i+1),by omega,i+1,aC ⟨by omega,by omega⟩,by omega,by omega,rfl,s11⟩
    · refine cF (by rw[g1]; rfl) ⟨_,_,_,(aW r).1.want,_,_,s10.cellsIn 0 rfl,aj (xp (s10.out 1 rfl) (jC o _).ok (wG r)) ?_⟩;rintro _ w12 ⟨rfl,s12⟩;refine⟨_,rfl,by rw[g2]; rfl,?_⟩;have e:Ml (aB o (rs.take i)).S (aB o (rs.take i)).C (aW r).1=((EF (aB o (rs.take i)).S (aB o (rs.take i)).C (aW r).1).er,(OF (aB o (rs.take i)).S (aB o (rs.take i)).C (aW r).1).er):=if_pos g2;rw[e] at s12;rw[e1,hgo];have s13:=s12.back (i:=1) (by show 1<4; decide);exact s13.aq [1,2,3]
  · obtain rfl:i=n:=by omega
    refine cF (dF (by omega)) (aj (Lw s8 (jC o _).ok) ?_);rintro _ w8 ⟨rfl,s9⟩;refine⟨_,rfl,cT rfl (aj (wK w8) ?_)⟩;rintro _ w9 ⟨rfl,c9⟩;exact⟨_,rfl,rfl,(s2.av.trans s9.av (by simp)).trans c9 (by simp)⟩
theorem MC{w:World}{r:Nat}{x y:List UInt8}(h:af w ⟨r,0,none⟩ 0 [sv x,sv y]):cH 1 Proofs.YtpihmghnbplohaaGreatDoor.s1 w (some ⟨r,0,none⟩) [x,y]:=λ i z hz=>by
  match i,hz with
  | 0,rfl=>exact⟨_,[sv x],rfl,⟨by rw[bG,bG]; have:=h.1; rwa [bG] at this,trivial⟩,rfl,rfl⟩
  | 1,rfl=>exact⟨_,[sv y],rfl,⟨by rw[bG,bG]; have:=h.2.1; rwa [bG] at this,trivial⟩,rfl,rfl⟩
theorem wj(o:Po)(s:List UInt8)(h:cH 11 Ev.cells w a l)(hi:∀ e∈l,e.In) :
    CP 4 #[o.v,.slice a l.length c,sv s] w (λ r w'=>r=.bool true/\az w w' []):=by
  refine lO ?_;unfold gT;obtain⟨hf,h4⟩:=jJ l;have hl30:=ot l;refine(St.start w).one.ax o.cells.toArray λ r1 w1 s1=>⟨λ s' w'=>∃ t:List UInt8,s' = bs t/\t.length<=200/\w' = w1,?_,?_⟩
  rotate_left
  · by_cases h2:200<s.length
    · refine cT (by rw[fm]; exact dT (by omega)) ⟨by decide,by rw[fm]; omega,s.take 200,?_,by rw[List.length_take]; omega,rfl⟩;exact JG s 200
    · exact cF (by rw[fm]; exact dF (by omega)) ⟨s,rfl,by omega,rfl⟩
  rintro w1' _ ⟨t,rfl,ht,rfl⟩ -;refine aj (pn (h.av s1.av) hi) ?_;rintro _ w2 ⟨a2,c2,rfl,k2⟩;obtain⟨rs,hrs⟩:∃ rs,lS l=rs:=⟨_,rfl⟩;have hshort:∀ x∈rs,x.length<=1500:=λ x hx=>by rw[<- hrs] at hx; obtain⟨e,_,_,_,h⟩:=yF hx; exact h
  rw[hrs] at hf h4 hl30 k2 ⊢;have s2:St w w2 (Sep [NY a2 c2 rs,ai r1 o.cells.toArray 23,emp]):=St.cat (s1.and k2);have hrow:∀ {w' : World},az w2 w' []->cH 1 Proofs.YtpihmghnbplohaaGreatDoor.s1 w' a2 rs:=λ hc=>(St.rd oD (s2.out 0 rfl)).av hc;have hpol:∀ {w' : World},az w2 w' []->af w' ⟨r1,0,none⟩ 0 o.cells:=λ hc=>br hc (s2.cellsIn 1 rfl);refine⟨_,_,_,rfl,_,_,_,_,hpol (az.refl _ _),aj (sr (L:=[]) (St.start w2) hrow (by omega) o) ?_⟩;rintro _ w4 ⟨b1,rfl,s4⟩;refine⟨_,_,_,rfl,aj (rO w4 t) ?_⟩;rintro _ w5 ⟨rfl,c5⟩;refine⟨_,_,_,(aW t).1.want,_,_,_,rfl,(s4.quiet c5).ax p8.cells.toArray λ r2 w6 s6=>s6.aA 0 rfl (aW t).1.cells rfl (Ev.one _) λ w7 s7=>?_⟩;have live:∀ {w' : World},az w2 w' []->Calls prog 12 #[] w' λ e w9=>∃ b:Bool,e=.returned (.bool b)/\Value.bool b=.bool true/\az w w9 []:=λ {w'} hc=>aj (wK w') (by
    rintro _ w9 ⟨rfl,c9⟩;exact⟨_,rfl,rfl,(s2.av.trans hc (by simp)).trans c9 (by simp)⟩)
  refine⟨λ b w'=>w' = w7/\(b=true\/b=false/\(aB o rs).e=0/\(aW t).2≠0),?_,?_⟩
  rotate_left
  · by_cases he:(aB o rs).e=0
    · refine cF (by simpa using he) ⟨rfl,?_⟩
      by_cases hd:(aW t).2=0
      · exact .inl (by simpa using hd)
      · exact .inr ⟨by simpa using hd,he,hd⟩
    · exact cT (by simpa using he) ⟨rfl,.inl rfl⟩
  rintro w8 b ⟨rfl,rfl | ⟨rfl,he,hd⟩⟩ -
  · exact cT rfl (live s7.av)
  refine cF rfl ?_;let mo:List UInt8:=[109,111,114,101];have hbx:∀ {w' : World} {r:Nat} {L:List aD},St w2 w' (Sep (ai r #[] 9 :: L))->St w2 w' (Sep (NY (some ⟨r,0,none⟩) 0 [] :: L)):=λ s=>s.weak (bH.left (PM (n:=0) rfl (Nat.zero_le _)));refine s7.ax #[] λ r3 w10 s10=>?_;refine eK (l2:=rs) Tl oD FI (hbx s10) (hrow s10.av) (by simp; omega) (by simp; omega) λ a3 c3 w11 s11=>?_;have s11:St w2 w11 (Sep (NY a3 c3 rs :: _)):=s11;refine s11.ax #[sv t,sv mo] λ r4 w12 s12=>?_;refine eK (l2:=[t,mo]) Tl oD FI (s12.out 1 rfl) (MC (s12.cellsIn 0 rfl)) (by simp; omega) (by simp; omega) λ a4 c4 w13 s13=>?_;have hrow2:∀ {w' : World},az w13 w' []->cH 1 Proofs.YtpihmghnbplohaaGreatDoor.s1 w' a4 (rs++[t,mo]):=λ hc=>(St.rd oD s13).av hc;have hall:∀ x∈rs++[t,mo],x.length<=1500:=λ x hx=>by
    rcases List.mem_append.1 hx with h1 | h1
    · exact hshort x h1
    · simp only[List.mem_cons,List.mem_nil_iff,or_false] at h1;rcases h1 with rfl | rfl
      · omega
      · show 4<=1500; decide
  have hlen:(rs++[t,mo]).length=rs.length+2:=by simp
  have hf2:=ud (rs++[t,mo]) 0 1500 hall;have hf3:(1500+18)*(rs++[t,mo]).length<=(1500+18)*32:=Nat.mul_le_mul_left _ (by omega);refine aj (oN (L:=[]) (St.start w13) hrow2 (λ x hx=>by have:=hall x hx; omega) (by omega) (by omega)) ?_;rintro _ w14 ⟨x,m,es,rfl,hes,s14⟩;have hel:es.length=rs.length+2:=by rw[<- hlen,<- hes,List.length_map]
  have c13:az w2 w13 []:=s13.av;have hst:aB o (rs++[t,mo])={ aB o rs with e:=(aW t).2 }:=by
    have e1:rs++[t,mo]=(rs++[t])++[mo]:=by simp
    have e2:aB o (rs++[t])={ aB o rs with e:=(aW t).2 }:=by rw[fF,pE he hd]
    rw[e1,fF,e2];exact if_pos hd
  have hn:=nW he;refine⟨_,rfl,cF rfl ⟨_,_,_,_,hpol (c13.trans s14.av (by simp)),aj (CI (B:=emp) (by omega) o (s14.aq [0,1])) ?_⟩⟩;rw[hes,show((1000:Int)).toNat=1000 from rfl,List.take_of_length_le (by omega),hst];rintro _ w15 ⟨b2,rfl,s15⟩;refine⟨_,_,_,rfl,_,_,_,_,hpol (c13.trans s15.av (by simp)),aj (Ba (B:=emp) (by omega) o (s15.aq [1,2])) ?_⟩;rw[hes,hst];rintro _ w16 (⟨_,rfl,s16⟩ | ⟨h0,_⟩)
  · refine⟨_,_,_,_,rfl,cT rfl (cT ?_ (cT (by simp) (cT (by simp) (cT rfl (live (c13.trans s16.av (by simp)))))))⟩
    simp
  · exact absurd h0 hd
end
end Go.Proofs.YtpihmghnbplohaaGreatDoor
namespace Go.Proofs.YtpihmghnbplohaaGreatDoor
open Go Go.Vc Go.RowKit Go.Deep
theorem cP{P:Program}{w:World}{d:Nat}{t:TypeId}{cs:List Value}{fs:Array Field}(h:mc P w (d+1) t cs)(hu:P.underlying t=some (.struct fs))(i:Nat)(f:Field)(hf:fs[i]? = some f) :
    mc P w d f.type ((cs.drop f.offset).take (P.cellsOf f.type)):=by
  unfold mc at h;simp only[hu] at h;exact h.2 f (by simpa using Array.mem_of_getElem? hf)
theorem GP{α:Type}{Q:Nat->α->Prop}:∀ {l:Nat},(∀ i,i<l->∃ a,Q i a)->∃ L:List α,L.length=l/\∀ i a,L[i]? = some a->Q i a
  | 0,_=>⟨[],rfl,λ i a h=>by simp at h⟩
  | l+1,h=>by
    obtain⟨L,h1,h2⟩:=GP (l:=l) λ i hi=>h i (by omega);obtain⟨a,ha⟩:=h l (by omega);refine⟨L++[a],by simp[h1],λ i b hb=>?_⟩;rcases Nat.lt_or_ge i L.length with hi | hi
    · rw[List.getElem?_append_left hi] at hb; exact h2 i b hb
    · rw[List.getElem?_append_right hi] at hb;have h0:i-L.length=0:=by
        have:=(List.getElem?_eq_some_iff.1 hb).1;simp at this; omega
      rw[h0] at hb;simp at hb;subst hb;rw[show i=l by omega]; exact ha
theorem GL:∀ {cs:List Value},(∀ v∈cs,∃ n,v=iv n/\In n)->∃ ns:List Int,cs=ns.map iv/\∀ n∈ns,In n
  | [],_=>⟨[],rfl,by simp⟩
  | v :: cs,h=>by
    obtain⟨n,rfl,hn⟩:=h v (List.mem_cons_self ..);obtain⟨ns,rfl,hs⟩:=GL (cs:=cs) λ u hu=>h u (List.mem_cons_of_mem _ hu);refine⟨n :: ns,rfl,λ x hx=>?_⟩;rcases List.mem_cons.1 hx with rfl | hx
    · exact hn
    · exact hs x hx
theorem jI{w:World}{d t:Nat}{cs:List Value}(h:mc Tryz.prog w (d+1) t cs)(hu:Tryz.prog.underlying t=some (.int .i64)):∃ n,cs=[iv n]/\In n:=by
  unfold mc at h;simp only[hu] at h;obtain⟨n,rfl,hw⟩:=h;refine⟨n,rfl,?_⟩;simp[Lit.wf,IntKind.min,IntKind.max,IntKind.signed,IntKind.bits] at hw;exact⟨by omega,by omega⟩
theorem ND{w:World}{d t k e:Nat}{cs:List Value}(h:mc Tryz.prog w (d+2) t cs)(hu:Tryz.prog.underlying t=some (.array k e))(he:Tryz.prog.underlying e=some (.int .i64))(hc:Tryz.prog.cellsOf t=k)(h1:Tryz.prog.cellsOf e=1) :
    ∃ ns:List Int,cs=ns.map iv/\ns.length=k/\∀ n∈ns,In n:=by
  unfold mc at h;simp only[hu] at h;obtain⟨hl,hi⟩:=h;rw[hc] at hl;obtain⟨ns,rfl,hs⟩:=GL (cs:=cs) λ v hv=>by
    obtain⟨i,hlt,rfl⟩:=List.mem_iff_getElem.1 hv;obtain⟨n,hn,hI⟩:=jI (hi i (by omega)) he;rw[h1,Nat.mul_one] at hn;have e1:(cs.drop i).take 1=[cs[i]]:=by
      rw[List.drop_eq_getElem_cons hlt]; rfl
    rw[e1] at hn;exact⟨n,by simpa using hn,hI⟩
  exact⟨ns,rfl,by simpa using hl,hs⟩
theorem IG{w:World}{d t e:Nat}{cs:List Value}(h:mc Tryz.prog w (d+1) t cs)(hu:Tryz.prog.underlying t=some (.slice e)) :
    ∃ (a:OA) (l c:Nat),cs=[.slice a l c]/\l<=c/\l<=9223372036854775807/\l*Tryz.prog.bytesOf e<=140737488351232 /\
      ∀ i,i<l->∃ q cs',a=some q/\cs'.length=Tryz.prog.cellsOf e/\af w (q.add (i*Tryz.prog.cellsOf e)) 0 cs'/\mc Tryz.prog w d e cs':=by
  unfold mc at h;simp only[hu] at h;obtain⟨a,l,c,rfl,hlc,hcm,_,hb,hi⟩:=h;refine⟨a,l,c,rfl,hlc,by unfold maxLen at hcm; omega,hb,λ i hl=>?_⟩;obtain⟨q,cs',ha,hcs,ho⟩:=hi i hl;obtain⟨_,hlen,hg⟩:=World.cells?_some hcs;exact⟨q,cs',ha,hlen,bE _ 0 λ j v hj=>by
    rw[Nat.zero_add,hg j (by have:=(List.getElem?_eq_some_iff.1 hj).1; omega)]; exact hj,ho⟩
theorem EP:Tryz.prog.cellsOf 3=1:=by kernel_rfl
theorem JH:Tryz.prog.cellsOf 2=1:=by kernel_rfl
theorem Gq:Tryz.prog.cellsOf 41=6:=by kernel_rfl
theorem MI:Tryz.prog.cellsOf 9=1:=by kernel_rfl
theorem MF:Tryz.prog.cellsOf 37=1:=by kernel_rfl
theorem MG:Tryz.prog.cellsOf 43=11:=by kernel_rfl
theorem MH:Tryz.prog.cellsOf 23=4:=by kernel_rfl
theorem QF{w:World}{cs:List Value}(h:mc Tryz.prog w 5 43 cs)(hlen:cs.length=11):∃ e:Ev,cs=e.cells/\e.In:=by
  match cs,hlen with
  | [x0,x1,x2,x3,x4,x5,x6,x7,x8,x9,x10],_ =>
    have q0:mc Tryz.prog w 4 3 (([x0,x1,x2,x3,x4,x5,x6,x7,x8,x9,x10].drop 0).take (Tryz.prog.cellsOf 3)):=cP h Tryz.underlying43 0 _ rfl;have q1:mc Tryz.prog w 4 3 (([x0,x1,x2,x3,x4,x5,x6,x7,x8,x9,x10].drop 1).take (Tryz.prog.cellsOf 3)):=cP h Tryz.underlying43 1 _ rfl;have q2:mc Tryz.prog w 4 3 (([x0,x1,x2,x3,x4,x5,x6,x7,x8,x9,x10].drop 2).take (Tryz.prog.cellsOf 3)):=cP h Tryz.underlying43 2 _ rfl;have q3:mc Tryz.prog w 4 41 (([x0,x1,x2,x3,x4,x5,x6,x7,x8,x9,x10].drop 3).take (Tryz.prog.cellsOf 41)):=cP h Tryz.underlying43 3 _ rfl;have q4:mc Tryz.prog w 4 9 (([x0,x1,x2,x3,x4,x5,x6,x7,x8,x9,x10].drop 9).take (Tryz.prog.cellsOf 9)):=cP h Tryz.underlying43 4 _ rfl;have q5:mc Tryz.prog w 4 37 (([x0,x1,x2,x3,x4,x5,x6,x7,x8,x9,x10].drop 10).take (Tryz.prog.cellsOf 37)):=cP h Tryz.underlying43 5 _ rfl;rw[EP] at q0 q1 q2; rw[Gq] at q3; rw[MI] at q4; rw[MF] at q5;obtain⟨n0,e0,_⟩:=jI q0 Tryz.underlying3;obtain⟨n1,e1,_⟩:=jI q1 Tryz.underlying3;obtain⟨n2,e2,_⟩:=jI q2 Tryz.underlying3;obtain⟨ns,e3,l3,_⟩:=ND q3 Tryz.underlying41 Tryz.underlying3 Gq EP;unfold mc at q4 q5;simp only[Tryz.underlying9] at q4;simp only[Tryz.underlying37] at q5;obtain⟨s,e4,_⟩:=q4;obtain⟨d,e5,hd⟩:=q5
    match ns,l3 with
    | [u0,u1,u2,u3,u4,u5],_ =>
      simp at e0 e1 e2 e3 e4 e5;obtain⟨rfl,rfl,rfl,rfl,rfl,rfl⟩:=e3;subst e0 e1 e2 e4 e5;refine⟨⟨n0,n1,n2,⟨u0,u1,u2,u3,u4,u5⟩,s.data.toList,d⟩,rfl,⟨?_⟩⟩;simp[Lit.wf,IntKind.min,IntKind.max,IntKind.signed,IntKind.bits] at hd;show 0<=d/\d<18446744073709551616;omega
theorem sL{w:World}{cs:List Value}(h:mc Tryz.prog w 6 24 cs):∃ (a:OA) (c:Nat) (l:List Ev),cs=[.slice a l.length c]/\l.length<=c/\cH 11 Ev.cells w a l/\∀ e∈l,e.In:=by
  obtain⟨a,n,c,rfl,hc,_,_,hi⟩:=IG h Tryz.underlying24;obtain⟨L,h1,h2⟩:=GP (Q:=λ i (e:Ev)=>e.In/\∃ q,a=some q/\af w (q.add (i*11)) 0 e.cells) (l:=n) λ i hl=>by
    obtain⟨q,cs',ha,hlen,hc,ho⟩:=hi i hl;rw[MG] at hlen hc;obtain⟨e,rfl,he⟩:=QF ho hlen;exact⟨e,he,q,ha,hc⟩
  refine⟨a,c,L,by rw[h1],by omega,λ i e he=>let ⟨_,q,hq,hc⟩:=h2 i e he; ⟨q,_,hq,hc,rfl,rfl⟩,λ e he=>?_⟩;obtain⟨i,hlt,rfl⟩:=List.mem_iff_getElem.1 he;exact(h2 i _ (gE hlt)).1
theorem wR{w:World}{cs:List Value}(h:mc Tryz.prog w 6 23 cs):∃ o:Po,cs=o.cells:=by
  have hlen:cs.length=4:=by
    have h':=h;unfold mc at h';simp only[Tryz.underlying23] at h';rw[<- MH]; exact h'.1
  match cs,hlen with
  | [x0,x1,x2,x3],_ =>
    have q0:mc Tryz.prog w 5 2 (([x0,x1,x2,x3].drop 0).take (Tryz.prog.cellsOf 2)):=cP h Tryz.underlying23 0 _ rfl;have q1:mc Tryz.prog w 5 3 (([x0,x1,x2,x3].drop 1).take (Tryz.prog.cellsOf 3)):=cP h Tryz.underlying23 1 _ rfl;have q2:mc Tryz.prog w 5 3 (([x0,x1,x2,x3].drop 2).take (Tryz.prog.cellsOf 3)):=cP h Tryz.underlying23 2 _ rfl;have q3:mc Tryz.prog w 5 3 (([x0,x1,x2,x3].drop 3).take (Tryz.prog.cellsOf 3)):=cP h Tryz.underlying23 3 _ rfl;rw[JH] at q0; rw[EP] at q1 q2 q3;obtain⟨n0,e0,_⟩:=jI q0 Tryz.underlying2;obtain⟨n1,e1,_⟩:=jI q1 Tryz.underlying3;obtain⟨n2,e2,_⟩:=jI q2 Tryz.underlying3;obtain⟨n3,e3,_⟩:=jI q3 Tryz.underlying3;simp at e0 e1 e2 e3;subst e0 e1 e2 e3;exact⟨⟨n0,n1,n2,n3⟩,rfl⟩
end Go.Proofs.YtpihmghnbplohaaGreatDoor
namespace Go.Proofs.YtpihmghnbplohaaGreatDoor
open Go Go.Vc Go.ChangeShapes Go.WideShapes Go.ChangeAt Go.RowKit
theorem own:ownKnob Tryz.prog.godebug=none:=by kernel_rfl
theorem laidOut:laidOutB Tryz.prog=true:=by kernel_rfl
theorem SQ:mapsRowed Tryz.prog=true:=by kernel_rfl
theorem SR:(Tryz.prog.stops==[])=true:=by kernel_rfl
theorem SS:(Tryz.prog.stopKnobs==[])=true:=by kernel_rfl
theorem NI:Tryz.prog.stopsHeard=true:=by kernel_rfl
theorem NJ:Tryz.prog.mayEnter=true:=by kernel_rfl
theorem SU:true=Tryz.pinned.checked.prog.looks []:=by kernel_rfl
theorem rD{w w' : World}(h:az w w' []):Below w.heap.size w w':=⟨h.env.os,h.env.tape,h.env.out,h.size,λ k hk=>h.same k hk (by simp)⟩
def rN:List (String×DataW Unit):=Rows.replayTraceRow.laid.filter λ x=>x.2.handleName?.isNone
noncomputable def Mf(os:Os):World :=
  let w0:=World.holding Tryz.prog os ⟨#[],#[],[]⟩
  { w0 with heap:=w0.heap.modify 0 fun
      | .cells _ t frozen=>.cells #[.iface 265 (.agg #[.pointer (some ⟨9,141,none⟩)])] t frozen
      | o=>o }
noncomputable def dX(os:Os):World:=(Mf os).layVars Tryz.prog rN
theorem ie(os:Os):(dX os).os=os:=(World.layVars_os _ _ _).trans rfl
theorem Il(os:Os)(args:Array Value):laidMet Tryz.prog rN ((dX os).forCall (λ _ _=>0) ⟨#[],args,[]⟩).memory:=by
  have e1:(rN.filter λ x=>(rN.map (·.1)).contains x.1)=rN:=List.filter_eq_self.2 λ x hx=>List.contains_iff_mem.2 (List.mem_map.2 ⟨x,hx,rfl⟩);have e2:(rN.filter λ x=>!(rN.map (·.1)).contains x.1)=[]:=List.filter_eq_nil_iff.2 λ x hx=>by rw[List.contains_iff_mem.2 (List.mem_map.2 ⟨x,hx,rfl⟩)]; simp
  have h:laidMet Tryz.prog rN (dX os):=laidMet_layVars (w0:=Mf os) (rN.map (·.1)) [] (by rw[e1]; rfl) (by rw[e1]; kernel_rfl) (by rw[e1]; kernel_rfl) (by rw[e2]; exact LaidIn.none);exact h.of_heap (by simp[World.memory,World.forCall,Input.heap])
theorem fL(os:Os)(args:Array Value):laidMetH Tryz.prog Rows.replayTraceRow.laid ((dX os).forCall (λ _ _=>0) ⟨#[],args,[]⟩).memory :=
  laidMetH_of_parts (Il os args) (by kernel_rfl)
theorem SE{n:Int}(h:(Lit.int .u8 n).wf=true):0<=n/\n<=255:=by
  simp[Lit.wf,IntKind.min,IntKind.max,IntKind.signed,IntKind.bits] at h;exact⟨by omega,by omega⟩
end Go.Proofs.YtpihmghnbplohaaGreatDoor

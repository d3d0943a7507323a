import Derived.DataElems
import Derived.Test.YtjpbdjhaajdepaaGreatDoorProg
import Derived.KernelRfl
import Derived.Test.YtjpbdjhaajdepaaGreatDoorM02
import Derived.Test.YtjpbdjhaajdepaaGreatDoorM06
import Derived.Test.YtjpbdjhaajdepaaGreatDoorM07
set_option linter.unusedVariables false
set_option maxRecDepth 100000
namespace Go.Proofs.YtjpbdjhaajdepaaGreatDoor
open Go Go.Vc Tryz
def TT(b:Nat)(a:OA)(c:Nat)(l:List Tk)(e:Int):List aI:=[ah b #[.slice a l.length c,iv e] 290,held λ w=>cN 4 Tk.cells w a l]
def kn(w0 w:World)(b:Nat)(l:List Tk)(e:Int)(B:aI):Prop:=∃ a c,l.length<=c/\l.length<=4000/\St w0 w (Sep (TT b a c l e++[B]))
abbrev pt (b:Nat):Value:=.pointer (some ⟨b,0,none⟩)
section
variable {w0 w:World} {b:Nat} {l:List Tk} {e:Int} {B:aI}
theorem kn.quiet{w' : World}(h:kn w0 w b l e B)(hc:aF w w' []):kn w0 w' b l e B:=let ⟨a,c,h1,h2,s⟩:=h; ⟨a,c,h1,h2,s.quiet hc⟩
theorem kn.aC(h:kn w0 w b l e B):aF w0 w []:=let ⟨_,_,_,_,s⟩:=h; s.aC
theorem kn.add(h:kn w0 w b l e B){w' : World}{A:aI}(k:St w w' A):kn w0 w' b l e (star A B):=by
  obtain⟨a,c,h1,h2,s⟩:=h;have s1:St w0 w' (Sep [A,_,_,B]):=s.and k;exact⟨a,c,h1,h2,(s1.aA [1,2,0,3]).eqv (bq.right (bq.right bq.assoc'))⟩
theorem kn.drop{A:aI}(h:kn w0 w b l e (star A B)):kn w0 w b l e B:=by
  obtain⟨a,c,h1,h2,s⟩:=h;exact⟨a,c,h1,h2,s.weak (bP.right (bP.right (bP.left ((bP.left (bP.none A)).trans (bq.swap.trans (bq.unit' B)).weak))))⟩
theorem kn.out{m:List aI}(h:kn w0 w b l e (star (Sep m) B)):∃ B',St w0 w (Sep (m++[B']))/\∀ {w' : World} {m' : List aI},St w0 w' (Sep (m'++[B']))->kn w0 w' b l e (star (Sep m') B):=by
  obtain⟨a,c,h1,h2,s⟩:=h;refine⟨star (Sep (TT b a c l e)) B,St.open (((s.split (TT b a c l e)).eqv (bq.right (bq.unit' _))).Jp),λ k=>⟨a,c,h1,h2,?_⟩⟩;exact St.cat ((k.shut.Jp).eqv (bq.right (bq.unit _)))
theorem kn.frame(h:kn w0 w b l e B):St w0 w B:=by
  obtain⟨a,c,h1,h2,s⟩:=h;exact(s.split [_,_]).second.single
def aS(l:List Tk)(e:Int):Tk:=if e=0 then l.headD uq else uq
def gr(l:List Tk)(e:Int):List Tk:=if e=0 then l.tail else l
def mY(e k:Int):Int:=if e=0 then k else e
def sr(l:List Tk)(e:Int):Int:=mY e (if l.length=0 then 1 else 2)
def nC(m:List UInt8)(l:List Tk)(e:Int):Bool:=decide ((aS l e).k=3)&&(aS l e).t==m
def sx(m:List UInt8)(l:List Tk)(e:Int):List Tk:=if nC m l e then gr l e else l
theorem OU{w:World}{a:OA}{c:Nat}{l:List Tk}(h:cN 4 Tk.cells w a l)(hc:l.length<=c):cN 4 Tk.cells w (if c=1 then a else Option.map (λ x=>Addr.add x (1*4)) a) l.tail:=λ i x hx=>by
  rw[List.getElem?_tail] at hx;have hi:=(List.getElem?_eq_some_iff.1 hx).1;obtain⟨q,hq,hcl⟩:=h.at hx;refine⟨q.add (1*4),_,by rw[if_neg (by omega),hq]; rfl,?_,rfl,rfl⟩;rw[Addr.add_add,<- Nat.add_mul,Nat.add_comm 1 i]; exact hcl
def J0(m:List UInt8)(l:List Tk)(e:Int):Int:=if nC m l e then e else sr l e
theorem qh(h:kn w0 w b l e B):CP 185 #[pt b] w (λ r w'=>r=(aS l e).val/\aF w w' []):=by
  obtain⟨a,c,h1,h2,s⟩:=h;refine nO ?_;unfold jm;have rd:cN 4 Tk.cells w a l:=s.cr 1 rfl;have g0:=s.ag 0 rfl 0; have g1:=s.ag 0 rfl 1;refine(St.start w).one.aB uq.cells.toArray λ r1 w1 s1=>?_;have k0:=cU g0 s1.aC; have k1:=cU g1 s1.aC;refine⟨λ x w2=>x = !(decide (e=0)&&decide (l.length≠0))/\w2=w1,?_,_,k1,?_⟩
  · rintro w2 x ⟨rfl,rfl⟩ -
    by_cases he:e=0
    · cases l with
      | nil=>exact cT (by simp) (s1.aD 0 rfl uq.cells rfl (Tk.one _) λ w3 s3=>⟨_,_,_,_,s3.cellsIn 0 rfl,by rw[aS,if_pos he]; rfl,s3.aC⟩)
      | cons x l =>
        obtain⟨q,hq,hcl⟩:=(rd.aC s1.aC).at (i:=0) (x:=x) rfl;refine cF (by simp[he]) ⟨_,_,_,k0,aq hq ⟨by omega,by simp,_,_,_,_,hcl,s1.aD 0 rfl x.cells rfl (Tk.one _) λ w3 s3=>⟨_,_,_,_,s3.cellsIn 0 rfl,by rw[aS,if_pos he]; rfl,s3.aC⟩⟩⟩
    · exact cT (by simp[he]) (s1.aD 0 rfl uq.cells rfl (Tk.one _) λ w3 s3=>⟨_,_,_,_,s3.cellsIn 0 rfl,by rw[aS,if_neg he]; rfl,s3.aC⟩)
  · by_cases he:e=0
    · refine cF (by simp[he]) ⟨_,_,_,k0,?_,rfl⟩;rw[dT he]
      cases l with
      | nil=>rfl
      | cons x l=>simp; omega
    · exact cT (by simpa using he) ⟨by simp[he],rfl⟩
theorem iJ(h:kn w0 w b l e B)(k:Int):CP 187 #[pt b,iv k] w (λ r w'=>r=.tuple #[]/\kn w0 w' b l (mY e k) B):=by
  obtain⟨a,c,h1,h2,s⟩:=h;refine nL ?_;unfold jj;refine⟨λ x w1=>x=(e==0)/\w1=w,?_,_,s.ag 0 rfl 1,rfl,rfl⟩;rintro w1 x ⟨rfl,rfl⟩ -
  by_cases he:e=0
  · exact cT (by simpa using he) (s.aJ 0 rfl (j:=1) (show 1<2 by decide) rfl λ w2 s2=>⟨rfl,a,c,h1,h2,by rw[mY,if_pos he]; exact s2⟩)
  · exact cF (by simpa using he) ⟨rfl,a,c,h1,h2,by rw[mY,if_neg he]; exact s⟩
theorem zw(h:kn w0 w b l e B):CP 222 #[pt b] w (λ r w'=>r=.tuple #[]/\kn w0 w' b l (sr l e) B):=by
  refine mC ?_;unfold iy;refine⟨λ w1=>kn w0 w1 b l (if l.length=0 then mY e 1 else e) B,?_,?_⟩
  · rintro w1 h1 -;refine au (iJ h1 2) ?_;rintro v w2 ⟨rfl,h2⟩;refine⟨rfl,rfl,?_⟩;have:sr l e=mY (if l.length=0 then mY e 1 else e) 2:=by
      unfold sr mY
      split<;>split<;>simp_all
    rw[this]; exact h2
  · have h':=h;obtain⟨a,c,h1,h2,s⟩:=h';refine⟨_,_,_,s.ag 0 rfl 0,?_⟩
    by_cases hl:l.length=0
    · refine cT (by simpa using hl) (au (iJ h 1) ?_);rintro v w3 ⟨rfl,h3⟩;exact⟨rfl,by rw[if_pos hl]; exact h3⟩
    · exact cF (by simpa using hl) (by rw[if_neg hl]; exact h)
theorem xz(h:kn w0 w b l e B):CP 189 #[pt b] w (λ r w'=>r=(aS l e).val/\kn w0 w' b (gr l e) e B):=by
  have h':=h;obtain⟨a,c,h1,h2,s⟩:=h';refine nN ?_;unfold jl;refine s.aB uq.cells.toArray λ r1 w1 s1=>?_;refine au (qh (⟨a,c,h1,h2,s1.aA [1,2,3]⟩:kn w0 w1 b l e B)) ?_;rintro v w2 ⟨rfl,c2⟩;refine⟨_,_,_,_,rfl,(s1.quiet c2).aB uq.cells.toArray λ r2 w3 s3=>s3.aD 0 rfl (aS l e).cells rfl (Tk.one _) λ w4 s4=>?_⟩;refine⟨λ w5=>∃ a' c',(gr l e).length<=c'/\St w0 w5 (Sep (ah r2 (aS l e).cells.toArray 286 :: ah r1 uq.cells.toArray 286 :: (TT b a' c' (gr l e) e++[B]))),?_,?_⟩
  · rintro w5 ⟨a',c',hc',s5⟩ -;have hle:(gr l e).length<=4000:=by
      unfold gr; split
      · rw[List.length_tail]; omega
      · exact h2
    exact⟨_,_,_,_,s5.cellsIn 0 rfl,s5.aD 1 rfl (aS l e).cells rfl (Tk.one _) λ w6 s6=>⟨_,_,_,_,s6.cellsIn 1 rfl,rfl,a',c',hc',hle,s6.aA [2,3,4]⟩⟩
  refine⟨λ x w7=>x=(decide (e=0)&&decide (l.length≠0))/\w7=w4,?_,_,s4.ag 2 rfl 1,?_⟩
  · rintro w7 x ⟨rfl,rfl⟩ -
    by_cases g:e=0/\l.length≠0
    · have en:gr l e=l.tail:=by rw[gr,if_pos g.1]
      refine cT (by simp[g.1]; intro h; exact g.2 (by rw[h]; rfl)) ⟨_,_,_,s4.ag 2 rfl 0,by omega,by omega,?_⟩;refine s4.aJ 2 rfl (j:=0) (show 0<2 by decide) rfl λ w8 s8=>⟨if c=1 then a else Option.map (λ x=>Addr.add x (1*4)) a,c-1,by rw[en,List.length_tail]; omega,?_⟩;have s9:=(s8.aA [3,0,1,2,4]).vP ((aR _).mono λ w hr=>OU hr h1);rw[en];have el:l.tail.length=l.length-1:=List.length_tail;show St w0 w8 (Sep [_,_,ah b #[.slice (if c=1 then a else Option.map (λ x=>Addr.add x (1*4)) a) l.tail.length (c-1),iv e] _,_,_]);rw[el];exact s9.aA [1,2,3,0,4]
    · have en:gr l e=l:=by
        unfold gr
        split
        · rename_i he
          cases l with
          | nil=>rfl
          | cons x l=>exact absurd ⟨he,by simp⟩ g
        · rfl
      refine cF (by simp only[Bool.and_eq_false_iff,decide_eq_false_iff_not]; by_cases he:e=0; exact .inr λ h=>g ⟨he,h⟩; exact .inl he) ⟨a,c,by rw[en]; exact h1,by rw[en]; exact s4⟩
  · by_cases he:e=0
    · refine cT (by simpa using he) ⟨_,_,_,s4.ag 2 rfl 0,?_,rfl⟩;rw[dT he,Bool.true_and]
      by_cases hl:l.length=0
      · rw[dF (by omega),dF (by omega)]
      · rw[dT (by omega),dT hl]
    · exact cF (by simpa using he) ⟨by rw[dF he]; rfl,rfl⟩
theorem qf(h:kn w0 w b l e B)(m:List UInt8):CP 192 #[pt b,sv m] w (λ r w'=>r=.bool (nC m l e)/\kn w0 w' b (sx m l e) e B):=by
  refine ld ?_;unfold gO;refine au (qh h) ?_;rintro v w1 ⟨rfl,c1⟩;refine⟨_,_,_,_,rfl,(St.start w1).one.aB uq.cells.toArray λ r1 w2 s2=>s2.aD 0 rfl (aS l e).cells rfl (Tk.one _) λ w3 s3=>?_⟩;have h3:=(h.quiet c1).quiet s3.aC;refine⟨λ x w4=>x=(!nC m l e)/\w4=w3,?_,_,s3.ag 0 rfl 0,?_⟩
  · rintro w4 x ⟨rfl,rfl⟩ -
    cases ha:nC m l e with
    | false=>exact cT rfl ⟨rfl,by rw[sx,ha]; exact h3⟩
    | true =>
      refine cF rfl (au (xz h3) ?_);rintro v w5 ⟨rfl,h5⟩;exact⟨_,_,_,_,rfl,rfl,by rw[sx,ha]; exact h5⟩
  · by_cases hk:(aS l e).k=3
    · refine cF (by simpa using hk) ⟨_,s3.ag 0 rfl 1,?_,rfl⟩;rw[nC,dT hk,Bool.true_and,iV,iV]
    · exact cT (by simpa using hk) ⟨by rw[nC,dF hk]; rfl,rfl⟩
theorem ff(h:kn w0 w b l e B)(m:List UInt8):CP 190 #[pt b,sv m] w (λ r w'=>r=.tuple #[]/\kn w0 w' b (sx m l e) (J0 m l e) B):=by
  refine lg ?_;unfold gQ;refine au (qf h m) ?_;rintro v w1 ⟨rfl,h1⟩;refine⟨_,rfl,?_⟩
  cases ha:nC m l e with
  | true=>exact cF rfl ⟨rfl,by rw[J0,ha]; exact h1⟩
  | false =>
    have el:sx m l e=l:=by rw[sx,ha]; rfl
    rw[el] at h1;refine cT rfl (au (zw h1) ?_);rintro v w2 ⟨rfl,h2⟩;exact⟨rfl,rfl,by rw[el,J0,ha]; exact h2⟩
def tR(l:List Tk)(e:Int):List UInt8:=if (aS l e).k=1 then (aS l e).t else []
def AX(l:List Tk)(e:Int):List Tk:=if (aS l e).k=1 then gr l e else l
def Ht(l:List Tk)(e:Int):Int:=if (aS l e).k=1 then e else sr l e
theorem OI(h:kn w0 w b l e B):CP 259 #[pt b] w (λ r w'=>r=sv (tR l e)/\kn w0 w' b (AX l e) (Ht l e) B):=by
  refine nM ?_;unfold jk;refine au (qh h) ?_;rintro v w1 ⟨rfl,c1⟩;refine⟨_,_,_,_,rfl,(St.start w1).one.aB uq.cells.toArray λ r1 w2 s2=>s2.aD 0 rfl (aS l e).cells rfl (Tk.one _) λ w3 s3=>⟨_,s3.ag 0 rfl 0,?_⟩⟩;have h3:=(h.quiet c1).quiet s3.aC
  by_cases hk:(aS l e).k=1
  · have g1:=s3.ag 0 rfl 1;refine cF (by simpa using hk) (au (xz ((h.quiet c1).add s3)) ?_);rintro v w5 ⟨rfl,h5⟩;have s5:St w0 w5 (Sep [ah r1 (aS l e).cells.toArray 286,emp]):=h5.frame.first;exact⟨_,_,_,_,rfl,_,s5.ag 0 rfl 1,by rw[tR,if_pos hk],by rw[AX,if_pos hk,Ht,if_pos hk]; exact h5.drop⟩
  · refine cT (by simpa using hk) (au (zw h3) ?_);rintro v w2 ⟨rfl,h2⟩;exact⟨rfl,by rw[tR,if_neg hk],by rw[AX,if_neg hk,Ht,if_neg hk]; exact h2⟩
def EU(m:Int)(t:Tk):Bool:=decide (t.v<0)||decide (t.v>m)
def uv(m:Int)(l:List Tk)(e:Int):Int:=if (aS l e).k=2/\EU m (aS l e)=false then (aS l e).v else 0
def EV(m:Int)(l:List Tk)(e:Int):List Tk:=if (aS l e).k=2/\EU m (aS l e)=false then gr l e else l
def Jv(m:Int)(l:List Tk)(e:Int):Int:=if (aS l e).k=2 then (if EU m (aS l e) then mY e 4 else e) else sr l e
theorem vf(h:kn w0 w b l e B)(m:Int):CP 193 #[pt b,iv m] w (λ r w'=>r=iv (uv m l e)/\kn w0 w' b (EV m l e) (Jv m l e) B):=by
  refine lf ?_;unfold gP;refine au (qh h) ?_;rintro v w1 ⟨rfl,c1⟩;refine⟨_,_,_,_,rfl,(St.start w1).one.aB uq.cells.toArray λ r1 w2 s2=>s2.aD 0 rfl (aS l e).cells rfl (Tk.one _) λ w3 s3=>⟨_,s3.ag 0 rfl 0,?_⟩⟩;have h3:=(h.quiet c1).add s3
  by_cases hk:(aS l e).k=2
  · refine cF (by simpa using hk) ⟨λ x w5=>x=EU m (aS l e)/\w5=w3,?_,_,s3.ag 0 rfl 2,?_⟩
    · rintro w5 x ⟨rfl,rfl⟩ -
      cases ha:EU m (aS l e) with
      | true =>
        refine cT rfl (au (iJ h3 4) ?_);rintro v w6 ⟨rfl,h6⟩;exact⟨rfl,by rw[uv,if_neg (by rw[ha]; simp)],by rw[EV,if_neg (by rw[ha]; simp),Jv,if_pos hk,if_pos ha]; exact h6.drop⟩
      | false =>
        refine cF rfl (au (xz h3) ?_);rintro v w7 ⟨rfl,h7⟩;have s7:St w0 w7 (Sep [ah r1 (aS l e).cells.toArray 286,emp]):=h7.frame.first;exact⟨_,_,_,_,rfl,_,s7.ag 0 rfl 2,by rw[uv,if_pos ⟨hk,ha⟩],by rw[EV,if_pos ⟨hk,ha⟩,Jv,if_pos hk,if_neg (by rw[ha]; decide)]; exact h7.drop⟩
    · by_cases h0:(aS l e).v<0
      · exact cT (dT h0) ⟨by rw[EU,dT h0]; rfl,rfl⟩
      · exact cF (dF h0) ⟨_,s3.ag 0 rfl 2,by rw[EU,dF h0]; rfl,rfl⟩
  · refine cT (by simpa using hk) (au (zw h3) ?_);rintro v w4 ⟨rfl,h4⟩;exact⟨rfl,by rw[uv,if_neg (λ h=>hk h.1)],by rw[EV,if_neg (λ h=>hk h.1),Jv,if_neg hk]; exact h4.drop⟩
theorem zi(h:kn w0 w b l e B):CP 194 #[pt b] w (λ r w'=>r=iv e/\w' = w):=by
  obtain⟨a,c,h1,h2,s⟩:=h;refine oM ?_;unfold jU;exact⟨_,s.ag 0 rfl 1,rfl,rfl⟩
def Dn(l:List Tk)(e:Int):Int:=if e=0/\0<l.length then 3 else e
theorem RE(h:kn w0 w b l e B):CP 161 #[pt b] w (λ r w'=>r=iv (Dn l e)/\w' = w):=by
  have h':=h;obtain⟨a,c,h1,h2,s⟩:=h;refine oL ?_;unfold jT;refine⟨λ x w1=>x=decide (e=0/\0<l.length)/\w1=w,?_,_,s.ag 0 rfl 1,?_⟩
  · rintro w1 x ⟨rfl,rfl⟩ -
    by_cases g:e=0/\0<l.length
    · exact cT (dT g) ⟨by rw[Dn,if_pos g],rfl⟩
    · refine cF (dF g) (au (zi h') ?_);rintro v w2 ⟨rfl,rfl⟩;exact⟨_,rfl,by rw[Dn,if_neg g],rfl⟩
  · by_cases he:e=0
    · refine cT (by simpa using he) ⟨_,_,_,s.ag 0 rfl 0,?_,rfl⟩
      by_cases hl:0<l.length
      · rw[dT (p:=e=0/\0<l.length) ⟨he,hl⟩]; exact dT (by omega)
      · rw[dF (p:=e=0/\0<l.length) (λ h=>hl h.2)]; exact dF (by omega)
    · exact cF (by simpa using he) ⟨by rw[dF (p:=e=0/\0<l.length) (λ h=>he h.1)],rfl⟩
theorem Iz(s:St w0 w B){a:OA}{c:Nat}(hr:cN 4 Tk.cells w a l)(hl:l.length<=4000):CP 159 #[.slice a l.length c] w (λ r w'=>∃ b,r=pt b/\kn w0 w' b l 0 B):=by
  refine qB ?_;unfold kZ;refine iF (c2:=c) Tq Tk.len Tk.one (l:=[]) s.dI hr (by simp; omega) (by simp; omega) λ a' c' w1 s1=>?_;have s2:St w0 w1 (star (bY 286 4 Tk.cells a' c' l) B):=s1;have hcap:=s2.pe.1;exact(s2.AL).aB _ λ r1 w2 s3=>⟨r1,rfl,a',c',hcap,hl,(((s3.aA [1,0,2]).vP (bp Tk.len)).aA [1,0,2])⟩
end
def mD(n:Int):Bool:=decide (0<=n)&&decide (n<=4)
def pr(l:List Int):Int:=l.foldl (λ n s=>n*(s+1)) 1
theorem Ci(l:List Int)(s:Int):pr (l++[s])=pr l*(s+1):=by simp[pr]
theorem uu{l:List Int}{p:Int->Bool}{k:Nat}{c:Int}(h:(l.take k).all p=true)(hc:l[k]? = some c)(hp:p c=true):(l.take (k+1)).all p=true:=by
  rw[aO hc,List.all_append,h]; simp[hp]
theorem xG{l:List Int}{p:Int->Bool}{k:Nat}{c:Int}(hc:l[k]? = some c)(hp:p c=false):l.all p=false:=by
  rw[List.all_eq_false]; exact⟨c,List.mem_of_getElem? hc,by simp[hp]⟩
theorem cS(w:World)(u:I6):CP 63 #[.agg u.vs.toArray] w (λ r w'=>r=iv (if u.l.all mD then 0 else 4)/\aF w w' []):=by
  refine Fx ?_;unfold G5;refine aK ?_;have s1:=(St.start w).one.cD u.vs.toArray 42;generalize hw1:w.alloc _=w1 at s1 ⊢;generalize hr1:w.heap.size=r1 at s1 ⊢;refine⟨_,s1.cellsIn 0 rfl,λ n w2 m=>∃ k:Nat,n=k/\k<=6/\m=6-k/\(u.l.take k).all mD=true/\w2=w1,⟨6,0,rfl,by omega,by omega,rfl,rfl⟩,?_⟩;rintro w2 m n ⟨k,rfl,hk,hm,ha,rfl⟩ -
  by_cases hlt:(k:Int)<6
  · have hk' : k<6:=by omega
    have g1:=u.get k hk';have g2:=u.nP k hk';generalize u.at' k=x at g1 g2;refine cT (by simpa using hlt) ⟨by omega,by omega,x,g1,λ b w3=>w3=w2/\b = !mD x,?_,?_⟩
    · rintro w3 b ⟨rfl,rfl⟩ -
      cases hx:mD x with
      | true=>exact cF rfl ⟨6-(k+1),by omega,k+1,inc (by decide) hk',by omega,rfl,uu ha g2 hx,rfl⟩
      | false=>exact cT rfl ⟨by rw[xG g2 hx]; rfl,s1.aC⟩
    · by_cases h0:x<0
      · exact cT (by simpa using h0) ⟨rfl,by simp[mD]; omega⟩
      · refine cF (by simpa using h0) ⟨rfl,?_⟩;have:decide (0<=x)=true:=dT (by omega);unfold mD;rw[this,Bool.true_and]
        by_cases h4:x<=4
        · rw[dT h4,dF (by omega)]; rfl
        · rw[dF h4,dT (by omega)]; rfl
  · obtain rfl:k=6:=by omega
    refine cF (by simp) ⟨?_,s1.aC⟩;rw[show u.l.all mD=true from ha]; rfl
theorem oW{l:List Int}(h:l.all mD=true):1<=pr l/\pr l<=5 ^ l.length:=by
  suffices H:∀ (l:List Int) (a:Int),l.all mD=true->1<=a->1<=l.foldl (λ n s=>n*(s+1)) a/\l.foldl (λ n s=>n*(s+1)) a<=a*5 ^ l.length by
    have:=H l 1 h (by omega);unfold pr; omega
  intro l
  induction l with
  | nil=>intro a _ h1; simp; exact h1
  | cons x l ih =>
    intro a ha h1;simp only[List.all_cons,Bool.and_eq_true] at ha;have hx:=ha.1;simp only[mD,Bool.and_eq_true,decide_eq_true_eq] at hx;have h2:1<=a*(x+1):=by
      have:a*1<=a*(x+1):=Int.mul_le_mul_of_nonneg_left (by omega) (by omega);omega
    obtain⟨h3,h4⟩:=ih (a*(x+1)) ha.2 h2;refine⟨h3,?_⟩;simp only[List.foldl_cons,List.length_cons,Int.pow_succ];have h5:a*(x+1)<=a*5:=Int.mul_le_mul_of_nonneg_left (by omega) (by omega);have h6:(a*(x+1))*5 ^ l.length<=(a*5)*5 ^ l.length:=Int.mul_le_mul_of_nonneg_right h5 (Int.pow_nonneg (by omega));have h7:a*5*5 ^ l.length=a*(5 ^ l.length*5):=by rw[Int.mul_assoc,Int.mul_comm 5 (5 ^ l.length)]
    rw[<- h7];omega
theorem xg(w:World)(u:I6):CP 102 #[.agg u.vs.toArray] w (λ r w'=>r=iv (if u.l.all mD=true/\pr u.l<=1024 then pr u.l else 0)/\aF w w' []):=by
  refine FB ?_;unfold G9;refine aK ?_;have s1:=(St.start w).one.cD u.vs.toArray 42;generalize hw1:w.alloc _=w1 at s1 ⊢;generalize hr1:w.heap.size=r1 at s1 ⊢;refine⟨_,s1.cellsIn 0 rfl,au (cS w1 u) ?_⟩;rintro v w2 ⟨rfl,c2⟩;refine⟨_,rfl,?_⟩;have s2:=s1.quiet c2
  by_cases hall:u.l.all mD=true
  · rw[if_pos hall];refine cF rfl ⟨_,s2.cellsIn 0 rfl,λ p n w3 m=>∃ k:Nat,n=k/\k<=6/\m=6-k/\p=pr (u.l.take k)/\w3=w2,⟨6,0,rfl,by omega,by omega,rfl,rfl⟩,?_⟩;rintro w3 m p n ⟨k,rfl,hk,hm,rfl,rfl⟩ -;have hb:1<=pr (u.l.take k)/\pr (u.l.take k)<=15625:=by
      have h1:(u.l.take k).all mD=true:=by
        rw[List.all_eq_true] at hall ⊢;exact λ x hx=>hall x (List.mem_of_mem_take hx)
      obtain⟨h2,h3⟩:=oW h1;refine⟨h2,Int.le_trans h3 ?_⟩;have h4:(u.l.take k).length=k:=by simp[I6.len]; omega
      rw[h4]
      match k,hk with
      | 0,_ | 1,_ | 2,_ | 3,_ | 4,_ | 5,_ | 6,_=>decide
    by_cases hlt:(k:Int)<6
    · have hk' : k<6:=by omega
      have g1:=u.get k hk';have g2:=u.nP k hk';generalize u.at' k=x at g1 g2;have hx:0<=x/\x<=4:=by
        have:=List.all_eq_true.1 hall x (List.mem_of_getElem? g2);simpa[mD] using this
      have hm1:pr (u.l.take k)*(x+1)<=15625*5:=Int.le_trans (Int.mul_le_mul_of_nonneg_left (show x+1<=5 by omega) (by omega)) (Int.mul_le_mul_of_nonneg_right hb.2 (by omega));have hm0:0<=pr (u.l.take k)*(x+1):=Int.mul_nonneg (by omega) (by omega);refine cT (by simpa using hlt) ⟨by omega,by omega,x,g1,6-(k+1),by omega,k+1,inc (by decide) hk',by omega,rfl,?_,rfl⟩;rw[aG (n:=x+1) ⟨by omega,by omega⟩,aG ⟨by omega,by omega⟩,aO g2,Ci]
    · obtain rfl:k=6:=by omega
      refine cF (by simp) ?_;have e:u.l.take 6=u.l:=rfl;rw[e] at hb ⊢
      by_cases hp:pr u.l<=1024
      · refine cF (dF (by omega)) ⟨?_,s2.aC⟩;rw[if_pos ⟨hall,hp⟩]
      · refine cT (dT (by omega)) ⟨?_,s2.aC⟩;rw[if_neg λ h=>hp h.2]
  · rw[if_neg hall];refine cT rfl ⟨?_,s2.aC⟩;rw[if_neg λ h=>hall h.1]
structure Pr where
  nm:List UInt8
  sup:Int
  res:Int
  pts:Int
  grp:Int
def Pr.cells(p:Pr):List Value:=[sv p.nm,iv p.sup,iv p.res,iv p.pts,iv p.grp]
def Pr.In(p:Pr):Prop:=Go.Vc.In p.sup/\Go.Vc.In p.res/\Go.Vc.In p.pts/\Go.Vc.In p.grp
def eB(w:World)(a:OA)(l:List Pr):Prop:=∀ (i:Nat) (p:Pr),l[i]? = some p->p.In/\∃ q,a=some q/\af w (q.add (i*5)) 0 p.cells
theorem eB.aC{w w' : World}{a:OA}{l:List Pr}(h:eB w a l)(hc:aF w w' []):eB w' a l:=λ i p hp =>
  let ⟨h1,q,hq,h2⟩:=h i p hp
  ⟨h1,q,hq,bG hc h2⟩
theorem eB.take{w:World}{a:OA}{l:List Pr}(h:eB w a l)(n:Nat):eB w a (l.take n):=λ i p hp=>by
  rw[List.getElem?_take] at hp
  split at hp
  · exact h i p hp
  · cases hp
theorem Pr.one(p:Pr):∀ v∈p.cells,v.oneCell' = true:=by
  intro v hv; simp[Pr.cells] at hv; rcases hv with rfl | rfl | rfl | rfl | rfl<;>rfl
theorem Lt{a:OA}{c:Nat}:(if c=0 then a else Option.map (λ x=>Addr.add x (0*5)) a)=a:=by
  split
  · rfl
  · cases a<;>simp[Addr.add]
theorem gD{α:Type}{l:List α}{p:α->Bool}{k:Nat}{x:α}(h:(l.take k).any p=false)(hx:l[k]? = some x)(hp:p x=false):(l.take (k+1)).any p=false:=by
  rw[aO hx,List.any_append,h]; simp[hp]
theorem jL{α:Type}{l:List α}{p:α->Bool}{k:Nat}{x:α}(hx:l[k]? = some x)(hp:p x=true):l.any p=true:=List.any_eq_true.2 ⟨x,List.mem_of_getElem? hx,hp⟩
theorem QA{w:World}{a:OA}{c:Nat}{l:List Pr}(h:eB w a l)(hl:l.length<=1000)(nm:List UInt8) :
    CP 100 #[.slice a l.length c,sv nm] w (λ r w'=>(∃ k:Int,r=.tuple #[iv k,.bool (l.any λ p=>p.nm==nm)])/\aF w w' []):=by
  refine AJ ?_;unfold FD;refine⟨λ n w1 m=>∃ k:Nat,n=k/\k<=l.length/\m=l.length-k/\(l.take k).any (λ p=>p.nm==nm)=false/\aF w w1 [],⟨l.length,0,rfl,by omega,by omega,rfl,aF.refl _ _⟩,?_⟩;rintro w1 m n ⟨k,rfl,hk,hm,ha,hc⟩ -
  by_cases hlt:(k:Int)<(l.length:Int)
  · have hx:l[k]? = some (l[k]'(by omega)):=gE (by omega);generalize l[k]'(by omega)=x at hx;obtain⟨_,q,rfl,hcl⟩:=(h.aC hc) k x hx;refine cT (by simpa using hlt) ⟨by omega,by omega,_,_,_,_,_,hcl,aK ?_⟩;refine((St.start' hc).one.cD _ 121).aD 0 rfl x.cells rfl x.one λ w3 s3=>?_;refine⟨_,by rw[s3.ag 0 rfl]; rfl,?_⟩
    by_cases hn:x.nm=nm
    · exact cT (by rw[hn]; simp) ⟨⟨k,by rw[jL hx (by simpa using hn)]⟩,s3.aC⟩
    · exact cF (by rw[iV,iV]; simpa using hn) ⟨l.length-(k+1),by omega,k+1,by rw[aG ⟨by omega,by omega⟩]; rfl,by omega,rfl,gD ha hx (by simpa using hn),s3.aC⟩
  · refine cF (by simpa using hlt) ⟨⟨0,?_⟩,hc⟩;rw[List.take_of_length_le (by omega)] at ha;rw[ha]
theorem pX(w:World)(n x y:Int):CP 101 #[iv n,iv x,iv y] w (λ r w'=>r=.bool (decide (x<=n)&&decide (n<=y))/\w' = w):=by
  refine Cf ?_;unfold AI
  by_cases h:n>=x
  · exact cT (dT h) ⟨by rw[dT (show x<=n from h)]; rfl,rfl⟩
  · exact cF (dF h) ⟨by rw[dF (show ¬ x<=n from h)]; rfl,rfl⟩
def CJ(l:List Pr):List Int:=(l.map Pr.sup++List.replicate (6-l.length) 0).take 6
def cw(l:List Pr):I6:=I6.N4 (l.map Pr.sup)
theorem CH(l:List Pr)(k:Nat)(hk:k<6):(cw l).at' k=(l.map Pr.sup).getD k 0:=by
  match k,hk with
  | 0,_ | 1,_ | 2,_ | 3,_ | 4,_ | 5,_=>rfl
theorem F4(l:List Pr):(cw l).l=CJ l:=by
  apply List.ext_getElem?;intro k;unfold CJ
  by_cases hk:k<6
  · rw[I6.nP _ k hk,CH l k hk,List.getElem?_take,if_pos hk]
    by_cases hl:k<l.length
    · rw[List.getElem?_append_left (by simpa using hl)];simp[hl]
    · rw[List.getElem?_append_right (by simp; omega),List.getElem?_replicate,if_pos (by simp; omega)];simp[hl]
  · rw[List.getElem?_eq_none (by rw[I6.len]; omega),List.getElem?_take,if_neg hk]
theorem pK{w:World}{a:OA}{c:Nat}{l:List Pr}(h:eB w a l)(hl:l.length<=1000) :
    CP 103 #[.slice a l.length c] w (λ r w'=>r=.agg (cw l).vs.toArray/\aF w w' []):=by
  refine Eb ?_;unfold Ea;refine aK (aK ?_);have s2:=((St.start w).one.cD z6.vs.toArray 42).cD z6.vs.toArray 42;generalize hw2:((w.alloc _).alloc _)=w2 at s2 ⊢;generalize hr1:w.heap.size=r1 at s2 ⊢;generalize hr2:(w.alloc _).heap.size=r2 at s2 ⊢;refine⟨λ n w3 m=>∃ k:Nat,n=k/\k<=l.length/\m=l.length-k/\St w w3 (Sep [ah r2 (I6.mix (min k 6) (cw l) z6).vs.toArray 42,ah r1 z6.vs.toArray 42,emp]),⟨l.length,0,rfl,by omega,by omega,s2⟩,?_⟩;rintro w3 m n ⟨k,rfl,hk,hm,s3⟩ -
  by_cases hlt:(k:Int)<(l.length:Int)
  · have hx:l[k]? = some (l[k]'(by omega)):=gE (by omega);generalize l[k]'(by omega)=x at hx;obtain⟨_,q,hq,hcl⟩:=(h.aC s3.aC) k x hx;refine cT (by simpa using hlt) ⟨λ w4=>St w w4 (Sep [ah r2 (I6.mix (min (k+1) 6) (cw l) z6).vs.toArray 42,ah r1 z6.vs.toArray 42,emp]),?_,?_⟩
    · rintro w4 s4 -;exact⟨l.length-(k+1),by omega,k+1,aG ⟨by omega,by omega⟩,by omega,rfl,s4⟩
    rw[hq];refine⟨by omega,by omega,_,_,_,_,_,hcl,aK ?_⟩;refine(s3.cD _ 121).aD 0 rfl x.cells rfl x.one λ w6 s6=>?_
    by_cases h6:k<6
    · refine cT (dT (by omega)) ⟨_,by rw[s6.ag 0 rfl]; rfl,by omega,by omega,?_⟩;have ea:Addr.add ⟨r2,0,none⟩ (((k:Nat):Int).toNat*1)=⟨r2,k,none⟩:=by rw[aV]; simp
      rw[ea];refine s6.aJ 1 rfl (by rw[I6.size]; exact h6) rfl λ w7 s7=>?_;have e1:x.sup=(cw l).at' k:=by rw[CH l k h6]; simp[List.getElem?_map,hx]
      rw[Nat.min_eq_left (by omega),e1,I6.gB _ _ _ h6] at s7;rw[Nat.min_eq_left (by omega)];exact s7.aA [1,2,3]
    · rw[Nat.min_eq_right (by omega)] at s6 ⊢;exact cF (dF (by omega)) (s6.aA [1,2,3])
  · obtain rfl:k=l.length:=by omega
    have hcn:I6.mix (min l.length 6) (cw l) z6=cw l:=by
      refine I6.ext' λ j hj=>?_;rw[I6.cI _ _ _ _ hj,CH l j hj]
      split
      · rfl
      · rw[List.getD_eq_getElem?_getD,List.getElem?_eq_none (by simp; omega)]
        match j,hj with
        | 0,_ | 1,_ | 2,_ | 3,_ | 4,_ | 5,_=>rfl
    rw[hcn] at s3;refine cF (by simp) ⟨_,s3.cellsIn 0 rfl,?_⟩;refine s3.aD 1 rfl (cw l).vs rfl (I6.one _) λ w8 s8=>?_;exact⟨_,s8.cellsIn 1 rfl,rfl,s8.aC⟩
def Jo(p:Pr):Bool:=(decide (1<=p.sup)&&decide (p.sup<=4))&&((decide (0<=p.res)&&decide (p.res<=1000000))&&((decide (0<=p.pts)&&decide (p.pts<=1000))&&(decide (0<=p.grp)&&decide (p.grp<=4))))
def zT(p:Pr):Bool:=fH p.nm&&Jo p
def ur(l:List Pr)(i:Nat)(p:Pr):Prop:=zT p=true/\((l.take i).any λ q=>q.nm==p.nm)=false
structure di (l:List Pr):Prop where
  l1:1<=l.length
  l2:l.length<=6
  good:∀ i p,l[i]? = some p->ur l i p
  lim:pr (l.map Pr.sup)<=1024
theorem Ef(l:List Int):∀ n,pr (l++List.replicate n 0)=pr l
  | 0=>by simp
  | n+1=>by
    rw[List.replicate_succ',<- List.append_assoc,Ci,Ef l n];omega
theorem CK{l:List Pr}(h:l.length<=6):pr (CJ l)=pr (l.map Pr.sup):=by
  unfold CJ;rw[List.take_of_length_le (by simp; omega),Ef]
theorem HA{l:List Pr}(h:∀ i p,l[i]? = some p->ur l i p):(CJ l).all mD=true:=by
  rw[List.all_eq_true];intro x hx;have hx:=List.mem_of_mem_take hx;rcases List.mem_append.1 hx with hx | hx
  · obtain⟨p,hp,rfl⟩:=List.mem_map.1 hx;obtain⟨i,hi,rfl⟩:=List.mem_iff_getElem.1 hp;have:=(h i _ (gE hi)).1;simp only[zT,Jo,Bool.and_eq_true,decide_eq_true_eq] at this;simp only[mD,Bool.and_eq_true,decide_eq_true_eq];omega
  · obtain⟨_,rfl⟩:=List.mem_replicate.1 hx
    decide
def PW(Q:Prop)(w:World):KP:=λ r w'=>(∃ e:Int,r=iv e/\(e=0<->Q))/\aF w w' []
def Bi(Q:Prop)(k:Int)(w:World):KP:=λ r w'=>(r=iv k/\(k=0<->Q))/\aF w w' []
theorem bh{Q:Prop}{w w' : World}{e k:Int}(he:e≠0)(h : ¬ Q)(hc:aF w w' [])(hk:k=e):Bi Q k w (iv e) w':=by subst hk; exact⟨⟨rfl,λ h'=>absurd h' he,λ h'=>absurd h' h⟩,hc⟩
theorem p5{Q:Prop}{w w' : World}{k:Int}(h:Q)(hc:aF w w' [])(hk:k=0):Bi Q k w (iv 0) w':=by subst hk; exact⟨⟨rfl,λ _=>h,λ _=>rfl⟩,hc⟩
theorem Bi.old{Q:Prop}{w w' : World}{k:Int}{r:Value}(h:Bi Q k w r w'):PW Q w r w':=⟨⟨k,h.1⟩,h.2⟩
def fE{α:Type}(f:Nat->α->Int):Nat->List α->Int
  | _,[]=>0
  | i,x :: l=>if f i x≠0 then f i x else fE f (i+1) l
theorem kW{α:Type}{f:Nat->α->Int}:∀ {l:List α} {n k:Nat} {x:α},(∀ i p,i<k->l[i]? = some p->f (n+i) p=0)->l[k]? = some x->f (n+k) x≠0->fE f n l=f (n+k) x
  | y :: l,n,0,x,_,hx,h=>by cases hx; rw[Nat.add_zero] at h ⊢; rw[fE,if_pos h]
  | y :: l,n,k+1,x,ha,hx,h=>by
    rw[fE,if_neg (by simpa using ha 0 y (by omega) rfl),kW (l:=l) (k:=k) (x:=x) (λ i p hi hp=>by have:=ha (i+1) p (by omega) (by simpa using hp); rwa [show n+(i+1)=n+1+i by omega] at this) (by simpa using hx) (by rwa [show n+1+k=n+(k+1) by omega])];rw[show n+1+k=n+(k+1) by omega]
theorem gM{α:Type}{f:Nat->α->Int}:∀ {l:List α} {n:Nat},(∀ i p,l[i]? = some p->f (n+i) p=0)->fE f n l=0
  | [],_,_=>rfl
  | y :: l,n,ha=>by
    rw[fE,if_neg (by simpa using ha 0 y rfl)];exact gM λ i p hp=>by have:=ha (i+1) p (by simpa using hp); rwa [show n+(i+1)=n+1+i by omega] at this
def Jk(l:List Pr)(i:Nat)(p:Pr):Int:=if fH p.nm=false then 5 else if ((l.take i).any λ q=>q.nm==p.nm) then 7 else if Jo p=false then 4 else 0
theorem Ee{l:List Pr}{i:Nat}{p:Pr}(h:ur l i p):Jk l i p=0:=by
  obtain⟨h1,h2⟩:=h;unfold zT at h1;rw[Bool.and_eq_true] at h1;rw[Jk,h1.1,h2,h1.2]; rfl
def IG(l:List Pr):Int:=if l.length=0 then 1 else if 6<l.length then 3 else if fE (Jk l) 0 l≠0 then fE (Jk l) 0 l else if pr (CJ l)<=1024 then 0 else 12
theorem Ag{w:World}{a:OA}{c:Nat}{l:List Pr}(h:eB w a l)(hcap:l.length<=c) :
    CP 78 #[.slice a l.length c] w ((Bi (di l) (IG l) w)):=by
  refine Fy ?_;unfold G6
  by_cases h0:l.length=0
  · exact cT (by rw[h0]; rfl) (bh (by decide) (λ hp=>by have:=hp.l1; omega) (aF.refl _ _) (by rw[IG,if_pos h0]))
  refine cF (by simpa using h0) ?_;rcases Nat.lt_or_ge 6 l.length with h6 | h6
  · exact cT (dT (by omega)) (bh (by decide) (λ hp=>by have:=hp.l2; omega) (aF.refl _ _) (by rw[IG,if_neg h0,if_pos h6]))
  refine cF (dF (by omega)) ⟨λ n w1 m=>∃ k:Nat,n=k/\k<=l.length/\m=l.length-k/\(∀ i p,i<k->l[i]? = some p->ur l i p)/\aF w w1 [],⟨l.length,0,rfl,by omega,by omega,λ i p hi=>by omega,aF.refl _ _⟩,?_⟩;rintro w1 m n ⟨k,rfl,hk,hm,ha,hc⟩ -
  by_cases hlt:(k:Int)<(l.length:Int)
  · have hx:l[k]? = some (l[k]'(by omega)):=gE (by omega);generalize l[k]'(by omega)=x at hx;obtain⟨_,q,hq,hcl⟩:=(h.aC hc) k x hx;have bad : ¬ ur l k x->¬ di l:=λ hb hp=>hb (hp.good k x hx);have bk:∀ {e:Int},e≠0->Jk l k x=e->IG l=e:=λ he h=>by
      have:=kW (f:=Jk l) (n:=0) (λ i p hi hp=>by rw[Nat.zero_add]; exact Ee (ha i p hi hp)) hx (by rw[Nat.zero_add,h]; exact he);rw[Nat.zero_add,h] at this;rw[IG,if_neg h0,if_neg (by omega),this,if_pos he]
    refine cT (by simpa using hlt) ?_;rw[hq];refine⟨by omega,by omega,_,_,_,_,_,hcl,aK ?_⟩;refine((St.start' hc).one.cD _ 121).aD 0 rfl x.cells rfl x.one λ w3 s3=>?_;generalize hr1:w1.heap.size=r1 at s3 ⊢;have cx:∀ {w' : World},aF w3 w' []->∀ (j:Nat) (v:Value),x.cells[j]? = some v->w'.cell? ⟨r1,j,none⟩=some v:=λ hc j v hv=>cU (by rw[s3.ag 0 rfl]; simpa using hv) hc;refine⟨_,cx (aF.refl _ _) 0 _ rfl,au (yE w3 x.nm) ?_⟩;rintro v w4 ⟨rfl,rfl⟩;refine⟨_,rfl,?_⟩
    cases hn:fH x.nm with
    | false=>exact cT rfl (bh (by decide) (bad λ hg=>by have:=hg.1; simp[zT,hn] at this) s3.aC (bk (by decide) (by rw[Jk,hn]; rfl)))
    | true =>
      have d4:aF w4 w4.drew []:=aF.drew w4 [];refine cF rfl ⟨by omega,by omega,_,cx d4 0 _ rfl,?_⟩;rw[<- hq,Lt];have hf:=QA (c:=c-0) ((h.aC (s3.aC.trans d4 (by simp))).take k) (by rw[List.length_take]; omega) x.nm;rw[List.length_take,Nat.min_eq_left hk] at hf;refine au hf ?_;rintro v w5 ⟨⟨kk,rfl⟩,c5⟩;have d5:aF w4 w5 []:=d4.trans c5 (by simp);refine⟨_,_,rfl,?_⟩
      cases hany:((l.take k).any λ p=>p.nm==x.nm) with
      | true=>exact cT rfl (bh (by decide) (bad λ hg=>by have:=hg.2; rw[hany] at this; cases this) (s3.aC.trans d5 (by simp)) (bk (by decide) (by rw[Jk,hn,hany]; rfl)))
      | false =>
        refine cF rfl ⟨λ b w6=>aF w5 w6 []/\b = !Jo x,?_,?_⟩
        · rintro w6 b ⟨c6,rfl⟩ -;have c7:=s3.aC.trans (d5.trans c6 (by simp)) (by simp)
          cases hr:Jo x with
          | false=>exact cT rfl (bh (by decide) (bad λ hg=>by have:=hg.1; simp[zT,hr] at this) c7 (bk (by decide) (by rw[Jk,hn,hany,hr]; rfl)))
          | true =>
            refine cF rfl ⟨l.length-(k+1),by omega,k+1,by rw[aG ⟨by omega,by omega⟩]; rfl,by omega,rfl,λ i p hi hp=>?_,c7⟩;rcases Nat.lt_or_ge i k with h' | h'
            · exact ha i p h' hp
            · obtain rfl:i=k:=by omega
              rw[hx] at hp; cases hp;exact⟨by simp[zT,hn,hr],hany⟩
        · refine⟨_,cx d5 1 _ rfl,au (pX w5 _ _ _) ?_⟩;rintro v w6 ⟨rfl,rfl⟩;refine⟨_,rfl,?_⟩
          cases g1:(decide (1<=x.sup)&&decide (x.sup<=4)) with
          | false=>exact cT rfl ⟨aF.refl _ _,by simp only[Jo,g1]; rfl⟩
          | true =>
            refine cF rfl ⟨_,cx d5 2 _ rfl,au (pX w6 _ _ _) ?_⟩;rintro v w7 ⟨rfl,rfl⟩;refine⟨_,rfl,?_⟩
            cases g2:(decide (0<=x.res)&&decide (x.res<=1000000)) with
            | false=>exact cT rfl ⟨aF.refl _ _,by simp only[Jo,g1,g2]; rfl⟩
            | true =>
              refine cF rfl ⟨_,cx d5 3 _ rfl,au (pX w7 _ _ _) ?_⟩;rintro v w8 ⟨rfl,rfl⟩;refine⟨_,rfl,?_⟩
              cases g3:(decide (0<=x.pts)&&decide (x.pts<=1000)) with
              | false=>exact cT rfl ⟨aF.refl _ _,by simp only[Jo,g1,g2,g3]; rfl⟩
              | true =>
                refine cF rfl ⟨_,cx d5 4 _ rfl,au (pX w8 _ _ _) ?_⟩;rintro v w9 ⟨rfl,rfl⟩;exact⟨_,rfl,aF.refl _ _,by simp only[Jo,g1,g2,g3]; rfl⟩
  · obtain rfl:k=l.length:=by omega
    have hg:∀ i p,l[i]? = some p->ur l i p:=λ i p hp=>ha i p (List.getElem?_eq_some_iff.1 hp).1 hp;refine cF (by simp) (au (pK (h.aC hc) (by omega)) ?_);rintro v w2 ⟨rfl,c2⟩;refine⟨_,rfl,au (xg w2 _) ?_⟩;rintro v w3 ⟨rfl,c3⟩;have c4:aF w w3 []:=hc.trans (c2.trans c3 (by simp)) (by simp);refine⟨_,rfl,?_⟩;have hall:=HA hg;have hpr:=CK h6;rw[F4];have hb:=(oW hall).1;have e0:IG l=if pr (CJ l)<=1024 then 0 else 12:=by
      have:=gM (f:=Jk l) (n:=0) (l:=l) λ i p hp=>by rw[Nat.zero_add]; exact Ee (hg i p hp)
      rw[IG,if_neg h0,if_neg (by omega),this,if_neg (by decide)]
    by_cases hlim:pr (CJ l)<=1024
    · rw[if_pos ⟨hall,hlim⟩];exact cF (by simp; omega) (p5 ⟨by omega,h6,hg,by rw[<- hpr]; exact hlim⟩ c4 (by rw[e0,if_pos hlim]))
    · rw[if_neg λ h=>hlim h.2];exact cT rfl (bh (by decide) (λ hp=>hlim (by rw[hpr]; exact hp.lim)) c4 (by rw[e0,if_neg hlim]))
theorem xX{w:World}{a:OA}{c:Nat}{l:List Pr}(h:eB w a l)(hcap:l.length<=c) :
    CP 78 #[.slice a l.length c] w ((PW (di l) w)):=au (Ag h hcap) λ _ _ h=>⟨_,rfl,h.old⟩
def vB(a b:I6)(w:World)(K:KP):Prop:=av w (.cells a.vs.toArray 73) λ a c=>av c (.cells b.vs.toArray 42) λ b c=>∃ (d:I6),af c ⟨b,0,none⟩ 0 d.vs/\∃ b:Int->Int->World->Nat->Prop,(∃ e,b 0 (0:Int) c e)/\∀ c e f g,b f g c e->∀ h:Nat->Value,cond (decide (g<6)) (0<=g/\g<6/\∃ h,(d.vs.toArray:Array Value)[(g).toNat*1]? = some (iv h)/\0<=g/\g<6/\∃ d,c.cell? (Addr.add ⟨a,0,none⟩ ((g).toNat*1))=some (iv d)/\∃ a,a<e/\b (IntKind.i64.wrap (f+(IntKind.i64.wrap (d*h)))) (IntKind.i64.wrap (g+1)) c a) (K (iv f) c)
theorem xS{u1 u2 w K}(h:vB u1 u2 w K):CP 143 #[.agg u1.vs.toArray,.agg u2.vs.toArray] w (K):=an (aH [(58,[(5,.s (.int .i64)),(9,.s (.int .i64))])]) func143 (by kernel_rfl) (by kernel_rfl) h
def qI(a b:I6)(w:World)(K:KP):Prop:=av w (.cells a.vs.toArray 42) λ a c=>av c (.cells b.vs.toArray 42) λ b c=>∃ (d:I6),af c.drew ⟨a,0,none⟩ 0 d.vs/\∃ (e:I6),af c.drew ⟨b,0,none⟩ 0 e.vs/\∃ (b:I6),af c.drew ⟨a,0,none⟩ 0 b.vs/\Calls prog 214 #[.agg d.vs.toArray,.agg e.vs.toArray] c.drew λ c d=>∃ (e:I6),c=.returned (.agg e.vs.toArray)/\af d ⟨a,0,none⟩ 0 b.vs/\K (.bool (I6.beq e b)) d
theorem ux{u1 u2 w K}(h:qI u1 u2 w K):CP 176 #[.agg u1.vs.toArray,.agg u2.vs.toArray] w (K):=an (aH []) func176 (by kernel_rfl) (by kernel_rfl) h
def xR(a:I6)(w:World)(K:KP):Prop:=av w (.cells a.vs.toArray 42) λ a b=>∃ (c:I6),af b ⟨a,0,none⟩ 0 c.vs/\Calls prog 102 #[.agg c.vs.toArray] b λ b c=>∃ d,b=.returned (iv d)/\cond (d==0) (K (.func (.func 230) #[] #[]) c) (∃ (b:I6),af c ⟨a,0,none⟩ 0 b.vs/\Calls prog 231 #[.agg b.vs.toArray] c λ a b=>∃ (c:Value),a=.returned c/\K c b)
theorem zN{u1 w K}(h:xR u1 w K):CP 203 #[.agg u1.vs.toArray] w (K):=an (aH []) func203 (by kernel_rfl) (by kernel_rfl) h
def vD(a b:I6)(w:World)(K:KP):Prop:=av w (.cells a.vs.toArray 42) λ a c=>av c (.cells b.vs.toArray 42) λ b c=>av c (.cells z6.vs.toArray 42) λ c d=>∃ e:Int->World->Nat->Prop,(∃ f,e 0 d f)/\∀ d f g,e g d f->∀ h:Nat->Value,cond (decide (g<6)) (0<=g/\g<6/\∃ h,d.drew.cell? (Addr.add ⟨a,0,none⟩ ((g).toNat*1))=some (iv h)/\0<=g/\g<6/\∃ i,d.drew.cell? (Addr.add ⟨b,0,none⟩ ((g).toNat*1))=some (iv i)/\0<=g/\g<6/\aQ d.drew (Addr.add ⟨a,0,none⟩ ((g).toNat*1)) (iv (if i<h then i else h)) λ b=>∃ h,h<f/\e (IntKind.i64.wrap (g+1)) b h) (∃ (b:I6),af d ⟨a,0,none⟩ 0 b.vs/\aP ⟨c,0,none⟩ 0 b.vs d λ a=>∃ (b:I6),af a ⟨c,0,none⟩ 0 b.vs/\K (.agg b.vs.toArray) a)
theorem xU{u1 u2 w K}(h:vD u1 u2 w K):CP 214 #[.agg u1.vs.toArray,.agg u2.vs.toArray] w (K):=an (aH [(26,[(6,.s (.int .i64))])]) func214 (by kernel_rfl) (by kernel_rfl) h
def sJ(a:I6)(w:World)(K:KP):Prop:=av w (.cells a.vs.toArray 42) λ a b=>∃ (c:I6),af b ⟨a,0,none⟩ 0 c.vs/\∃ a:Int->Int->World->Nat->Prop,(∃ d,a 0 (0:Int) b d)/\∀ b d e f,a e f b d->∀ g:Nat->Value,cond (decide (f<6)) (0<=f/\f<6/\∃ g,(c.vs.toArray:Array Value)[(f).toNat*1]? = some (iv g)/\∃ c,c<d/\a (IntKind.i64.wrap (e+g)) (IntKind.i64.wrap (f+1)) b c) (K (iv e) b)
theorem wB{u1 w K}(h:sJ u1 w K):CP 224 #[.agg u1.vs.toArray] w (K):=an (aH [(58,[(3,.s (.int .i64)),(7,.s (.int .i64))])]) func224 (by kernel_rfl) (by kernel_rfl) h
def vC(a b:I6)(w:World)(K:KP):Prop:=av w (.cells a.vs.toArray 42) λ a c=>av c (.cells b.vs.toArray 42) λ b c=>av c (.cells z6.vs.toArray 42) λ c d=>∃ e:Int->World->Nat->Prop,(∃ f,e 0 d f)/\∀ d f g,e g d f->∀ h:Nat->Value,cond (decide (g<6)) (0<=g/\g<6/\∃ h,d.drew.cell? (Addr.add ⟨a,0,none⟩ ((g).toNat*1))=some (iv h)/\0<=g/\g<6/\∃ i,d.drew.cell? (Addr.add ⟨b,0,none⟩ ((g).toNat*1))=some (iv i)/\0<=g/\g<6/\aQ d.drew (Addr.add ⟨a,0,none⟩ ((g).toNat*1)) (iv (if i>h then i else h)) λ b=>∃ h,h<f/\e (IntKind.i64.wrap (g+1)) b h) (∃ (b:I6),af d ⟨a,0,none⟩ 0 b.vs/\aP ⟨c,0,none⟩ 0 b.vs d λ a=>∃ (b:I6),af a ⟨c,0,none⟩ 0 b.vs/\K (.agg b.vs.toArray) a)
theorem xT{u1 u2 w K}(h:vC u1 u2 w K):CP 229 #[.agg u1.vs.toArray,.agg u2.vs.toArray] w (K):=an (aH [(26,[(6,.s (.int .i64))])]) func229 (by kernel_rfl) (by kernel_rfl) h
def vF(a:I6)(w:World)(K:KP):Prop:=av w (.cells a.vs.toArray 42) λ a b=>K (.func (.func 248) #[] #[.pointer (some ⟨a,0,none⟩)]) b
theorem xW{u1 w K}(h:vF u1 w K):CP 231 #[.agg u1.vs.toArray] w (K):=an (aH []) func231 (by kernel_rfl) (by kernel_rfl) h
def vE(a b:I6)(w:World)(K:KP):Prop:=av w (.cells a.vs.toArray 42) λ a c=>av c (.cells b.vs.toArray 42) λ b c=>∃ d:Bool->World->Prop,(∀ e f,d f e->∀ g:Nat->Value,cond f (K (.tuple #[iv 0,iv 4]) e) (∃ (f:I6),af e ⟨a,0,none⟩ 0 f.vs/\∃ g:Int->Int->World->Nat->Prop,(∃ h,g 0 (0:Int) e h)/\∀ e h i j,g i j e h->∀ k:Nat->Value,cond (decide (j<6)) (0<=j/\j<6/\∃ k,(f.vs.toArray:Array Value)[(j).toNat*1]? = some (iv k)/\0<=j/\j<6/\∃ f,e.cell? (Addr.add ⟨b,0,none⟩ ((j).toNat*1))=some (iv f)/\∃ l,l<h/\g (IntKind.i64.wrap ((IntKind.i64.wrap (i*(IntKind.i64.wrap (k+1))))+f)) (IntKind.i64.wrap (j+1)) e l) (K (.tuple #[iv i,iv 0]) e)))/\∃ (e:I6),af c ⟨a,0,none⟩ 0 e.vs/\Calls prog 102 #[.agg e.vs.toArray] c λ c e=>∃ f,c=.returned (iv f)/\cond (f==0) (d true e) (∃ (c:I6),af e ⟨b,0,none⟩ 0 c.vs/\Calls prog 63 #[.agg c.vs.toArray] e λ c e=>∃ f,c=.returned (iv f)/\cond (f !=0) (d true e) (∃ (c:I6),af e ⟨b,0,none⟩ 0 c.vs/\∃ (b:I6),af e ⟨a,0,none⟩ 0 b.vs/\Calls prog 176 #[.agg c.vs.toArray,.agg b.vs.toArray] e λ a b=>∃ c,a=.returned (.bool c)/\d (!c) b))
theorem xV{u1 u2 w K}(h:vE u1 u2 w K):CP 232 #[.agg u1.vs.toArray,.agg u2.vs.toArray] w (K):=an (aH [(6,[(22,.s .bool)]),(122,[(6,.s (.int .i64)),(24,.s (.int .i64))])]) func232 (by kernel_rfl) (by kernel_rfl) h
def xQ(a b:I6)(w:World)(K:KP):Prop:=av w (.cells a.vs.toArray 42) λ a c=>av c (.cells b.vs.toArray 42) λ b c=>av c (.cells z6.vs.toArray 42) λ c d=>∃ e:Int->World->Nat->Prop,(∃ f,e 0 d f)/\∀ d f g,e g d f->∀ h:Nat->Value,cond (decide (g<6)) (0<=g/\g<6/\∃ h,d.drew.cell? (Addr.add ⟨a,0,none⟩ ((g).toNat*1))=some (iv h)/\0<=g/\g<6/\∃ i,d.drew.cell? (Addr.add ⟨b,0,none⟩ ((g).toNat*1))=some (iv i)/\0<=g/\g<6/\aQ d.drew (Addr.add ⟨a,0,none⟩ ((g).toNat*1)) (iv (IntKind.i64.wrap (h+i))) λ b=>∃ h,h<f/\e (IntKind.i64.wrap (g+1)) b h) (∃ (b:I6),af d ⟨a,0,none⟩ 0 b.vs/\aP ⟨c,0,none⟩ 0 b.vs d λ a=>∃ (b:I6),af a ⟨c,0,none⟩ 0 b.vs/\K (.agg b.vs.toArray) a)
theorem zM{u1 u2 w K}(h:xQ u1 u2 w K):CP 247 #[.agg u1.vs.toArray,.agg u2.vs.toArray] w (K):=an (aH [(26,[(6,.s (.int .i64))])]) func247 (by kernel_rfl) (by kernel_rfl) h
def qJ(a b:Nat)(w:World)(K:KP):Prop:=av w (.cells z6.vs.toArray 42) λ c d=>aP ⟨c,0,none⟩ 0 z6.vs d λ d=>∃ e:World->Nat->Prop,(∃ f,e d f)/\∀ d f,e d f->∀ g:Nat->Value,∃ (g:I6),af d ⟨c,0,none⟩ 0 g.vs/\lU prog a #[.agg g.vs.toArray] d λ a d=>∃ g,.returned (.bool a)=Ending.returned (.bool g)/\cond g (∃ (a:I6),af d ⟨c,0,none⟩ 0 a.vs/\∃ (g:I6),af d ⟨b,0,none⟩ 0 g.vs/\Calls prog 249 #[.agg a.vs.toArray,.agg g.vs.toArray] d λ a b=>∃ (g:I6),a=.returned (.agg g.vs.toArray)/\aP ⟨c,0,none⟩ 0 g.vs b λ a=>∃ (b:I6),af a ⟨c,0,none⟩ 0 b.vs/\cond (I6.beq b z6) (K (.tuple #[]) a) (∃ b,b<f/\e a b)) (K (.tuple #[]) d)
theorem uy{l1 b1 w K}(h:qJ l1 b1 w K):CP 248 #[.func (.yield l1) #[] #[],.pointer (some ⟨b1,0,none⟩)] w (K):=an (aH [(6,[])]) func248 (by kernel_rfl) (by kernel_rfl) h
def kJ(a b:I6)(w:World)(K:KP):Prop:=av w (.cells a.vs.toArray 42) λ a c=>av c (.cells b.vs.toArray 42) λ b c=>av c (.cells z6.vs.toArray 42) λ c d=>∃ e:Int->World->Nat->Prop,(∃ f,e 5 d f)/\∀ d f g,e g d f->∀ h:Nat->Value,cond (decide (g>=0)) (0<=g/\g<6/\∃ h,d.drew.cell? (Addr.add ⟨a,0,none⟩ ((g).toNat*1))=some (iv h)/\0<=g/\g<6/\∃ i,d.drew.cell? (Addr.add ⟨b,0,none⟩ ((g).toNat*1))=some (iv i)/\cond (decide (h<i)) (0<=g/\g<6/\∃ b,d.drew.cell? (Addr.add ⟨a,0,none⟩ ((g).toNat*1))=some (iv b)/\0<=g/\g<6/\aQ d.drew (Addr.add ⟨a,0,none⟩ ((g).toNat*1)) (iv (IntKind.i64.wrap (b+1))) λ b=>∃ (h:I6),af b ⟨a,0,none⟩ 0 h.vs/\aP ⟨c,0,none⟩ 0 h.vs b λ b=>∃ (h:I6),af b ⟨c,0,none⟩ 0 h.vs/\K (.agg h.vs.toArray) b) (0<=g/\g<6/\aQ d.drew (Addr.add ⟨a,0,none⟩ ((g).toNat*1)) (iv 0) λ b=>∃ h,h<f/\e (IntKind.i64.wrap (g-1)) b h)) (∃ (b:I6),af d ⟨a,0,none⟩ 0 b.vs/\aP ⟨c,0,none⟩ 0 b.vs d λ a=>∃ (b:I6),af a ⟨c,0,none⟩ 0 b.vs/\K (.agg b.vs.toArray) a)
theorem qm{u1 u2 w K}(h:kJ u1 u2 w K):CP 249 #[.agg u1.vs.toArray,.agg u2.vs.toArray] w (K):=an (aH [(26,[(5,.s (.int .i64))])]) func249 (by kernel_rfl) (by kernel_rfl) h
end Go.Proofs.YtjpbdjhaajdepaaGreatDoor

import Derived.DataElems
import Derived.Test.YtpihmghnbplohaaGreatDoorProg
import Derived.KernelRfl
import Derived.Test.YtpihmghnbplohaaGreatDoorM02
import Derived.Test.YtpihmghnbplohaaGreatDoorM06
import Derived.Test.YtpihmghnbplohaaGreatDoorM07
set_option linter.unusedVariables false
set_option maxRecDepth 100000
namespace Go.Proofs.YtpihmghnbplohaaGreatDoor
open Go Go.Vc Tryz
def SV(b:Nat)(a:OA)(c:Nat)(l:List Tk)(e:Int):List aD:=[ai b #[.slice a l.length c,iv e] 361,held λ w=>cH 4 Tk.cells w a l]
def jW(w0 w:World)(b:Nat)(l:List Tk)(e:Int)(B:aD):Prop:=∃ a c,l.length<=c/\l.length<=4000/\St w0 w (Sep (SV b a c l e++[B]))
abbrev pt (b:Nat):Value:=.pointer (some ⟨b,0,none⟩)
section
variable {w0 w:World} {b:Nat} {l:List Tk} {e:Int} {B:aD}
theorem jW.quiet{w' : World}(h:jW w0 w b l e B)(hc:az w w' []):jW w0 w' b l e B:=let ⟨a,c,h1,h2,s⟩:=h; ⟨a,c,h1,h2,s.quiet hc⟩
theorem jW.av(h:jW w0 w b l e B):az w0 w []:=let ⟨_,_,_,_,s⟩:=h; s.av
theorem jW.add(h:jW w0 w b l e B){w' : World}{A:aD}(k:St w w' A):jW w0 w' b l e (star A B):=by
  obtain⟨a,c,h1,h2,s⟩:=h;have s1:St w0 w' (Sep [A,_,_,B]):=s.and k;exact⟨a,c,h1,h2,(s1.aq [1,2,0,3]).eqv (aS.right (aS.right aS.assoc'))⟩
theorem jW.drop{A:aD}(h:jW w0 w b l e (star A B)):jW w0 w b l e B:=by
  obtain⟨a,c,h1,h2,s⟩:=h;exact⟨a,c,h1,h2,s.weak (bH.right (bH.right (bH.left ((bH.left (bH.none A)).trans (aS.swap.trans (aS.unit' B)).weak))))⟩
theorem jW.out{m:List aD}(h:jW w0 w b l e (star (Sep m) B)):∃ B',St w0 w (Sep (m++[B']))/\∀ {w' : World} {m' : List aD},St w0 w' (Sep (m'++[B']))->jW w0 w' b l e (star (Sep m') B):=by
  obtain⟨a,c,h1,h2,s⟩:=h;refine⟨star (Sep (SV b a c l e)) B,St.open (((s.split (SV b a c l e)).eqv (aS.right (aS.unit' _))).AJ),λ k=>⟨a,c,h1,h2,?_⟩⟩;exact St.cat ((k.shut.AJ).eqv (aS.right (aS.unit _)))
theorem jW.frame(h:jW w0 w b l e B):St w0 w B:=by
  obtain⟨a,c,h1,h2,s⟩:=h;exact(s.split [_,_]).second.single
def aT(l:List Tk)(e:Int):Tk:=if e=0 then l.headD tK else tK
def fE(l:List Tk)(e:Int):List Tk:=if e=0 then l.tail else l
def mB(e k:Int):Int:=if e=0 then k else e
def rj(l:List Tk)(e:Int):Int:=mB e (if l.length=0 then 1 else 2)
def mQ(m:List UInt8)(l:List Tk)(e:Int):Bool:=decide ((aT l e).k=3)&&(aT l e).t==m
def ry(m:List UInt8)(l:List Tk)(e:Int):List Tk:=if mQ m l e then fE l e else l
theorem Oo{w:World}{a:OA}{c:Nat}{l:List Tk}(h:cH 4 Tk.cells w a l)(hc:l.length<=c):cH 4 Tk.cells w (if c=1 then a else Option.map (λ x=>Addr.add x (1*4)) a) l.tail:=λ i x hx=>by
  rw[List.getElem?_tail] at hx;have hi:=(List.getElem?_eq_some_iff.1 hx).1;obtain⟨q,hq,hcl⟩:=h.at hx;refine⟨q.add (1*4),_,by rw[if_neg (by omega),hq]; rfl,?_,rfl,rfl⟩;rw[Addr.add_add,<- Nat.add_mul,Nat.add_comm 1 i]; exact hcl
def Kb(m:List UInt8)(l:List Tk)(e:Int):Int:=if mQ m l e then e else rj l e
theorem pz(h:jW w0 w b l e B):CP 232 #[pt b] w (λ r w'=>r=(aT l e).val/\az w w' []):=by
  obtain⟨a,c,h1,h2,s⟩:=h;refine nj ?_;unfold iU;have rd:cH 4 Tk.cells w a l:=s.iP 1 rfl;have g0:=s.ag 0 rfl 0; have g1:=s.ag 0 rfl 1;refine(St.start w).one.ax tK.cells.toArray λ r1 w1 s1=>?_;have k0:=bT g0 s1.av; have k1:=bT g1 s1.av;refine⟨λ x w2=>x = !(decide (e=0)&&decide (l.length≠0))/\w2=w1,?_,_,k1,?_⟩
  · rintro w2 x ⟨rfl,rfl⟩ -
    by_cases he:e=0
    · cases l with
      | nil=>exact cT (by simp) (s1.aA 0 rfl tK.cells rfl (Tk.one _) λ w3 s3=>⟨_,_,_,_,s3.cellsIn 0 rfl,by rw[aT,if_pos he]; rfl,s3.av⟩)
      | cons x l =>
        obtain⟨q,hq,hcl⟩:=(rd.av s1.av).at (i:=0) (x:=x) rfl;refine cF (by simp[he]) ⟨_,_,_,k0,au hq ⟨by omega,by simp,_,_,_,_,hcl,s1.aA 0 rfl x.cells rfl (Tk.one _) λ w3 s3=>⟨_,_,_,_,s3.cellsIn 0 rfl,by rw[aT,if_pos he]; rfl,s3.av⟩⟩⟩
    · exact cT (by simp[he]) (s1.aA 0 rfl tK.cells rfl (Tk.one _) λ w3 s3=>⟨_,_,_,_,s3.cellsIn 0 rfl,by rw[aT,if_neg he]; rfl,s3.av⟩)
  · by_cases he:e=0
    · refine cF (by simp[he]) ⟨_,_,_,k0,?_,rfl⟩;rw[dT he]
      cases l with
      | nil=>rfl
      | cons x l=>simp; omega
    · exact cT (by simpa using he) ⟨by simp[he],rfl⟩
theorem iq(h:jW w0 w b l e B)(k:Int):CP 234 #[pt b,iv k] w (λ r w'=>r=.tuple #[]/\jW w0 w' b l (mB e k) B):=by
  obtain⟨a,c,h1,h2,s⟩:=h;refine mZ ?_;unfold iR;refine⟨λ x w1=>x=(e==0)/\w1=w,?_,_,s.ag 0 rfl 1,rfl,rfl⟩;rintro w1 x ⟨rfl,rfl⟩ -
  by_cases he:e=0
  · exact cT (by simpa using he) (s.aH 0 rfl (j:=1) (show 1<2 by decide) rfl λ w2 s2=>⟨rfl,a,c,h1,h2,by rw[mB,if_pos he]; exact s2⟩)
  · exact cF (by simpa using he) ⟨rfl,a,c,h1,h2,by rw[mB,if_neg he]; exact s⟩
theorem y7(h:jW w0 w b l e B):CP 273 #[pt b] w (λ r w'=>r=.tuple #[]/\jW w0 w' b l (rj l e) B):=by
  refine lP ?_;unfold gU;refine⟨λ w1=>jW w0 w1 b l (if l.length=0 then mB e 1 else e) B,?_,?_⟩
  · rintro w1 h1 -;refine aj (iq h1 2) ?_;rintro v w2 ⟨rfl,h2⟩;refine⟨rfl,rfl,?_⟩;have:rj l e=mB (if l.length=0 then mB e 1 else e) 2:=by
      unfold rj mB
      split<;>split<;>simp_all
    rw[this]; exact h2
  · have h':=h;obtain⟨a,c,h1,h2,s⟩:=h';refine⟨_,_,_,s.ag 0 rfl 0,?_⟩
    by_cases hl:l.length=0
    · refine cT (by simpa using hl) (aj (iq h 1) ?_);rintro v w3 ⟨rfl,h3⟩;exact⟨rfl,by rw[if_pos hl]; exact h3⟩
    · exact cF (by simpa using hl) (by rw[if_neg hl]; exact h)
theorem wW(h:jW w0 w b l e B):CP 236 #[pt b] w (λ r w'=>r=(aT l e).val/\jW w0 w' b (fE l e) e B):=by
  have h':=h;obtain⟨a,c,h1,h2,s⟩:=h';refine nh ?_;unfold iT;refine s.ax tK.cells.toArray λ r1 w1 s1=>?_;refine aj (pz (⟨a,c,h1,h2,s1.aq [1,2,3]⟩:jW w0 w1 b l e B)) ?_;rintro v w2 ⟨rfl,c2⟩;refine⟨_,_,_,_,rfl,(s1.quiet c2).ax tK.cells.toArray λ r2 w3 s3=>s3.aA 0 rfl (aT l e).cells rfl (Tk.one _) λ w4 s4=>?_⟩;refine⟨λ w5=>∃ a' c',(fE l e).length<=c'/\St w0 w5 (Sep (ai r2 (aT l e).cells.toArray 357 :: ai r1 tK.cells.toArray 357 :: (SV b a' c' (fE l e) e++[B]))),?_,?_⟩
  · rintro w5 ⟨a',c',hc',s5⟩ -;have hle:(fE l e).length<=4000:=by
      unfold fE; split
      · rw[List.length_tail]; omega
      · exact h2
    exact⟨_,_,_,_,s5.cellsIn 0 rfl,s5.aA 1 rfl (aT l e).cells rfl (Tk.one _) λ w6 s6=>⟨_,_,_,_,s6.cellsIn 1 rfl,rfl,a',c',hc',hle,s6.aq [2,3,4]⟩⟩
  refine⟨λ x w7=>x=(decide (e=0)&&decide (l.length≠0))/\w7=w4,?_,_,s4.ag 2 rfl 1,?_⟩
  · rintro w7 x ⟨rfl,rfl⟩ -
    by_cases g:e=0/\l.length≠0
    · have en:fE l e=l.tail:=by rw[fE,if_pos g.1]
      refine cT (by simp[g.1]; intro h; exact g.2 (by rw[h]; rfl)) ⟨_,_,_,s4.ag 2 rfl 0,by omega,by omega,?_⟩;refine s4.aH 2 rfl (j:=0) (show 0<2 by decide) rfl λ w8 s8=>⟨if c=1 then a else Option.map (λ x=>Addr.add x (1*4)) a,c-1,by rw[en,List.length_tail]; omega,?_⟩;have s9:=(s8.aq [3,0,1,2,4]).Dn ((bn _).mono λ w hr=>Oo hr h1);rw[en];have el:l.tail.length=l.length-1:=List.length_tail;show St w0 w8 (Sep [_,_,ai b #[.slice (if c=1 then a else Option.map (λ x=>Addr.add x (1*4)) a) l.tail.length (c-1),iv e] _,_,_]);rw[el];exact s9.aq [1,2,3,0,4]
    · have en:fE l e=l:=by
        unfold fE
        split
        · rename_i he
          cases l with
          | nil=>rfl
          | cons x l=>exact absurd ⟨he,by simp⟩ g
        · rfl
      refine cF (by simp only[Bool.and_eq_false_iff,decide_eq_false_iff_not]; by_cases he:e=0; exact .inr λ h=>g ⟨he,h⟩; exact .inl he) ⟨a,c,by rw[en]; exact h1,by rw[en]; exact s4⟩
  · by_cases he:e=0
    · refine cT (by simpa using he) ⟨_,_,_,s4.ag 2 rfl 0,?_,rfl⟩;rw[dT he,Bool.true_and]
      by_cases hl:l.length=0
      · rw[dF (by omega),dF (by omega)]
      · rw[dT (by omega),dT hl]
    · exact cF (by simpa using he) ⟨by rw[dF he]; rfl,rfl⟩
theorem pq(h:jW w0 w b l e B)(m:List UInt8):CP 239 #[pt b,sv m] w (λ r w'=>r=.bool (mQ m l e)/\jW w0 w' b (ry m l e) e B):=by
  refine kG ?_;unfold gr;refine aj (pz h) ?_;rintro v w1 ⟨rfl,c1⟩;refine⟨_,_,_,_,rfl,(St.start w1).one.ax tK.cells.toArray λ r1 w2 s2=>s2.aA 0 rfl (aT l e).cells rfl (Tk.one _) λ w3 s3=>?_⟩;have h3:=(h.quiet c1).quiet s3.av;refine⟨λ x w4=>x=(!mQ m l e)/\w4=w3,?_,_,s3.ag 0 rfl 0,?_⟩
  · rintro w4 x ⟨rfl,rfl⟩ -
    cases ha:mQ m l e with
    | false=>exact cT rfl ⟨rfl,by rw[ry,ha]; exact h3⟩
    | true =>
      refine cF rfl (aj (wW h3) ?_);rintro v w5 ⟨rfl,h5⟩;exact⟨_,_,_,_,rfl,rfl,by rw[ry,ha]; exact h5⟩
  · by_cases hk:(aT l e).k=3
    · refine cF (by simpa using hk) ⟨_,s3.ag 0 rfl 1,?_,rfl⟩;rw[mQ,dT hk,Bool.true_and,ia,ia]
    · exact cT (by simpa using hk) ⟨by rw[mQ,dF hk]; rfl,rfl⟩
theorem eB(h:jW w0 w b l e B)(m:List UInt8):CP 237 #[pt b,sv m] w (λ r w'=>r=.tuple #[]/\jW w0 w' b (ry m l e) (Kb m l e) B):=by
  refine kI ?_;unfold gw;refine aj (pq h m) ?_;rintro v w1 ⟨rfl,h1⟩;refine⟨_,rfl,?_⟩
  cases ha:mQ m l e with
  | true=>exact cF rfl ⟨rfl,by rw[Kb,ha]; exact h1⟩
  | false =>
    have el:ry m l e=l:=by rw[ry,ha]; rfl
    rw[el] at h1;refine cT rfl (aj (y7 h1) ?_);rintro v w2 ⟨rfl,h2⟩;exact⟨rfl,rfl,by rw[el,Kb,ha]; exact h2⟩
def tg(l:List Tk)(e:Int):List UInt8:=if (aT l e).k=1 then (aT l e).t else []
def AL(l:List Tk)(e:Int):List Tk:=if (aT l e).k=1 then fE l e else l
def Hl(l:List Tk)(e:Int):Int:=if (aT l e).k=1 then e else rj l e
theorem Ob(h:jW w0 w b l e B):CP 310 #[pt b] w (λ r w'=>r=sv (tg l e)/\jW w0 w' b (AL l e) (Hl l e) B):=by
  refine ng ?_;unfold iS;refine aj (pz h) ?_;rintro v w1 ⟨rfl,c1⟩;refine⟨_,_,_,_,rfl,(St.start w1).one.ax tK.cells.toArray λ r1 w2 s2=>s2.aA 0 rfl (aT l e).cells rfl (Tk.one _) λ w3 s3=>⟨_,s3.ag 0 rfl 0,?_⟩⟩;have h3:=(h.quiet c1).quiet s3.av
  by_cases hk:(aT l e).k=1
  · have g1:=s3.ag 0 rfl 1;refine cF (by simpa using hk) (aj (wW ((h.quiet c1).add s3)) ?_);rintro v w5 ⟨rfl,h5⟩;have s5:St w0 w5 (Sep [ai r1 (aT l e).cells.toArray 357,emp]):=h5.frame.first;exact⟨_,_,_,_,rfl,_,s5.ag 0 rfl 1,by rw[tg,if_pos hk],by rw[AL,if_pos hk,Hl,if_pos hk]; exact h5.drop⟩
  · refine cT (by simpa using hk) (aj (y7 h3) ?_);rintro v w2 ⟨rfl,h2⟩;exact⟨rfl,by rw[tg,if_neg hk],by rw[AL,if_neg hk,Hl,if_neg hk]; exact h2⟩
def EL(m:Int)(t:Tk):Bool:=decide (t.v<0)||decide (t.v>m)
def tO(m:Int)(l:List Tk)(e:Int):Int:=if (aT l e).k=2/\EL m (aT l e)=false then (aT l e).v else 0
def EM(m:Int)(l:List Tk)(e:Int):List Tk:=if (aT l e).k=2/\EL m (aT l e)=false then fE l e else l
def Ju(m:Int)(l:List Tk)(e:Int):Int:=if (aT l e).k=2 then (if EL m (aT l e) then mB e 4 else e) else rj l e
theorem uD(h:jW w0 w b l e B)(m:Int):CP 240 #[pt b,iv m] w (λ r w'=>r=iv (tO m l e)/\jW w0 w' b (EM m l e) (Ju m l e) B):=by
  refine kH ?_;unfold gu;refine aj (pz h) ?_;rintro v w1 ⟨rfl,c1⟩;refine⟨_,_,_,_,rfl,(St.start w1).one.ax tK.cells.toArray λ r1 w2 s2=>s2.aA 0 rfl (aT l e).cells rfl (Tk.one _) λ w3 s3=>⟨_,s3.ag 0 rfl 0,?_⟩⟩;have h3:=(h.quiet c1).add s3
  by_cases hk:(aT l e).k=2
  · refine cF (by simpa using hk) ⟨λ x w5=>x=EL m (aT l e)/\w5=w3,?_,_,s3.ag 0 rfl 2,?_⟩
    · rintro w5 x ⟨rfl,rfl⟩ -
      cases ha:EL m (aT l e) with
      | true =>
        refine cT rfl (aj (iq h3 4) ?_);rintro v w6 ⟨rfl,h6⟩;exact⟨rfl,by rw[tO,if_neg (by rw[ha]; simp)],by rw[EM,if_neg (by rw[ha]; simp),Ju,if_pos hk,if_pos ha]; exact h6.drop⟩
      | false =>
        refine cF rfl (aj (wW h3) ?_);rintro v w7 ⟨rfl,h7⟩;have s7:St w0 w7 (Sep [ai r1 (aT l e).cells.toArray 357,emp]):=h7.frame.first;exact⟨_,_,_,_,rfl,_,s7.ag 0 rfl 2,by rw[tO,if_pos ⟨hk,ha⟩],by rw[EM,if_pos ⟨hk,ha⟩,Ju,if_pos hk,if_neg (by rw[ha]; decide)]; exact h7.drop⟩
    · by_cases h0:(aT l e).v<0
      · exact cT (dT h0) ⟨by rw[EL,dT h0]; rfl,rfl⟩
      · exact cF (dF h0) ⟨_,s3.ag 0 rfl 2,by rw[EL,dF h0]; rfl,rfl⟩
  · refine cT (by simpa using hk) (aj (y7 h3) ?_);rintro v w4 ⟨rfl,h4⟩;exact⟨rfl,by rw[tO,if_neg (λ h=>hk h.1)],by rw[EM,if_neg (λ h=>hk h.1),Ju,if_neg hk]; exact h4.drop⟩
theorem yQ(h:jW w0 w b l e B):CP 241 #[pt b] w (λ r w'=>r=iv e/\w' = w):=by
  obtain⟨a,c,h1,h2,s⟩:=h;refine ob ?_;unfold jF;exact⟨_,s.ag 0 rfl 1,rfl,rfl⟩
def Dc(l:List Tk)(e:Int):Int:=if e=0/\0<l.length then 3 else e
theorem Q4(h:jW w0 w b l e B):CP 198 #[pt b] w (λ r w'=>r=iv (Dc l e)/\w' = w):=by
  have h':=h;obtain⟨a,c,h1,h2,s⟩:=h;refine oa ?_;unfold jE;refine⟨λ x w1=>x=decide (e=0/\0<l.length)/\w1=w,?_,_,s.ag 0 rfl 1,?_⟩
  · rintro w1 x ⟨rfl,rfl⟩ -
    by_cases g:e=0/\0<l.length
    · exact cT (dT g) ⟨by rw[Dc,if_pos g],rfl⟩
    · refine cF (dF g) (aj (yQ h') ?_);rintro v w2 ⟨rfl,rfl⟩;exact⟨_,rfl,by rw[Dc,if_neg g],rfl⟩
  · by_cases he:e=0
    · refine cT (by simpa using he) ⟨_,_,_,s.ag 0 rfl 0,?_,rfl⟩
      by_cases hl:0<l.length
      · rw[dT (p:=e=0/\0<l.length) ⟨he,hl⟩]; exact dT (by omega)
      · rw[dF (p:=e=0/\0<l.length) (λ h=>hl h.2)]; exact dF (by omega)
    · exact cF (by simpa using he) ⟨by rw[dF (p:=e=0/\0<l.length) (λ h=>he h.1)],rfl⟩
theorem IB(s:St w0 w B){a:OA}{c:Nat}(hr:cH 4 Tk.cells w a l)(hl:l.length<=4000):CP 196 #[.slice a l.length c] w (λ r w'=>∃ b,r=pt b/\jW w0 w' b l 0 B):=by
  refine pV ?_;unfold kF;refine eK (c2:=c) Ss Tk.len Tk.one (l:=[]) s.eZ hr (by simp; omega) (by simp; omega) λ a' c' w1 s1=>?_;have s2:St w0 w1 (star (bW 357 4 Tk.cells a' c' l) B):=s1;have hcap:=s2.mK.1;exact(s2.vn).ax _ λ r1 w2 s3=>⟨r1,rfl,a',c',hcap,hl,(((s3.aq [1,0,2]).Dn (bK Tk.len)).aq [1,0,2])⟩
end
def lR(n:Int):Bool:=decide (0<=n)&&decide (n<=4)
def pr(l:List Int):Int:=l.foldl (λ n s=>n*(s+1)) 1
theorem B7(l:List Int)(s:Int):pr (l++[s])=pr l*(s+1):=by simp[pr]
theorem tN{l:List Int}{p:Int->Bool}{k:Nat}{c:Int}(h:(l.take k).all p=true)(hc:l[k]? = some c)(hp:p c=true):(l.take (k+1)).all p=true:=by
  rw[aL hc,List.all_append,h]; simp[hp]
theorem xk{l:List Int}{p:Int->Bool}{k:Nat}{c:Int}(hc:l[k]? = some c)(hp:p c=false):l.all p=false:=by
  rw[List.all_eq_false]; exact⟨c,List.mem_of_getElem? hc,by simp[hp]⟩
theorem cJ(w:World)(u:I6):CP 86 #[.agg u.vs.toArray] w (λ r w'=>r=iv (if u.l.all lR then 0 else 4)/\az w w' []):=by
  refine Fp ?_;unfold GZ;refine aG ?_;have s1:=(St.start w).one.bI u.vs.toArray 41;generalize hw1:w.alloc _=w1 at s1 ⊢;generalize hr1:w.heap.size=r1 at s1 ⊢;refine⟨_,s1.cellsIn 0 rfl,λ n w2 m=>∃ k:Nat,n=k/\k<=6/\m=6-k/\(u.l.take k).all lR=true/\w2=w1,⟨6,0,rfl,by omega,by omega,rfl,rfl⟩,?_⟩;rintro w2 m n ⟨k,rfl,hk,hm,ha,rfl⟩ -
  by_cases hlt:(k:Int)<6
  · have hk' : k<6:=by omega
    have g1:=u.get k hk';have g2:=u.vY k hk';generalize u.at' k=x at g1 g2;refine cT (by simpa using hlt) ⟨by omega,by omega,x,g1,λ b w3=>w3=w2/\b = !lR x,?_,?_⟩
    · rintro w3 b ⟨rfl,rfl⟩ -
      cases hx:lR x with
      | true=>exact cF rfl ⟨6-(k+1),by omega,k+1,inc (by decide) hk',by omega,rfl,tN ha g2 hx,rfl⟩
      | false=>exact cT rfl ⟨by rw[xk g2 hx]; rfl,s1.av⟩
    · by_cases h0:x<0
      · exact cT (by simpa using h0) ⟨rfl,by simp[lR]; omega⟩
      · refine cF (by simpa using h0) ⟨rfl,?_⟩;have:decide (0<=x)=true:=dT (by omega);unfold lR;rw[this,Bool.true_and]
        by_cases h4:x<=4
        · rw[dT h4,dF (by omega)]; rfl
        · rw[dF h4,dT (by omega)]; rfl
  · obtain rfl:k=6:=by omega
    refine cF (by simp) ⟨?_,s1.av⟩;rw[show u.l.all lR=true from ha]; rfl
theorem oq{l:List Int}(h:l.all lR=true):1<=pr l/\pr l<=5 ^ l.length:=by
  suffices H:∀ (l:List Int) (a:Int),l.all lR=true->1<=a->1<=l.foldl (λ n s=>n*(s+1)) a/\l.foldl (λ n s=>n*(s+1)) a<=a*5 ^ l.length by
    have:=H l 1 h (by omega);unfold pr; omega
  intro l
  induction l with
  | nil=>intro a _ h1; simp; exact h1
  | cons x l ih =>
    intro a ha h1;simp only[List.all_cons,Bool.and_eq_true] at ha;have hx:=ha.1;simp only[lR,Bool.and_eq_true,decide_eq_true_eq] at hx;have h2:1<=a*(x+1):=by
      have:a*1<=a*(x+1):=Int.mul_le_mul_of_nonneg_left (by omega) (by omega);omega
    obtain⟨h3,h4⟩:=ih (a*(x+1)) ha.2 h2;refine⟨h3,?_⟩;simp only[List.foldl_cons,List.length_cons,Int.pow_succ];have h5:a*(x+1)<=a*5:=Int.mul_le_mul_of_nonneg_left (by omega) (by omega);have h6:(a*(x+1))*5 ^ l.length<=(a*5)*5 ^ l.length:=Int.mul_le_mul_of_nonneg_right h5 (Int.pow_nonneg (by omega));have h7:a*5*5 ^ l.length=a*(5 ^ l.length*5):=by rw[Int.mul_assoc,Int.mul_comm 5 (5 ^ l.length)]
    rw[<- h7];omega
theorem wF(w:World)(u:I6):CP 170 #[.agg u.vs.toArray] w (λ r w'=>r=iv (if u.l.all lR=true/\pr u.l<=1024 then pr u.l else 0)/\az w w' []):=by
  refine Fu ?_;unfold G5;refine aG ?_;have s1:=(St.start w).one.bI u.vs.toArray 41;generalize hw1:w.alloc _=w1 at s1 ⊢;generalize hr1:w.heap.size=r1 at s1 ⊢;refine⟨_,s1.cellsIn 0 rfl,aj (cJ w1 u) ?_⟩;rintro v w2 ⟨rfl,c2⟩;refine⟨_,rfl,?_⟩;have s2:=s1.quiet c2
  by_cases hall:u.l.all lR=true
  · rw[if_pos hall];refine cF rfl ⟨_,s2.cellsIn 0 rfl,λ p n w3 m=>∃ k:Nat,n=k/\k<=6/\m=6-k/\p=pr (u.l.take k)/\w3=w2,⟨6,0,rfl,by omega,by omega,rfl,rfl⟩,?_⟩;rintro w3 m p n ⟨k,rfl,hk,hm,rfl,rfl⟩ -;have hb:1<=pr (u.l.take k)/\pr (u.l.take k)<=15625:=by
      have h1:(u.l.take k).all lR=true:=by
        rw[List.all_eq_true] at hall ⊢;exact λ x hx=>hall x (List.mem_of_mem_take hx)
      obtain⟨h2,h3⟩:=oq h1;refine⟨h2,Int.le_trans h3 ?_⟩;have h4:(u.l.take k).length=k:=by simp[I6.len]; omega
      rw[h4]
      match k,hk with
      | 0,_ | 1,_ | 2,_ | 3,_ | 4,_ | 5,_ | 6,_=>decide
    by_cases hlt:(k:Int)<6
    · have hk' : k<6:=by omega
      have g1:=u.get k hk';have g2:=u.vY k hk';generalize u.at' k=x at g1 g2;have hx:0<=x/\x<=4:=by
        have:=List.all_eq_true.1 hall x (List.mem_of_getElem? g2);simpa[lR] using this
      have hm1:pr (u.l.take k)*(x+1)<=15625*5:=Int.le_trans (Int.mul_le_mul_of_nonneg_left (show x+1<=5 by omega) (by omega)) (Int.mul_le_mul_of_nonneg_right hb.2 (by omega));have hm0:0<=pr (u.l.take k)*(x+1):=Int.mul_nonneg (by omega) (by omega);refine cT (by simpa using hlt) ⟨by omega,by omega,x,g1,6-(k+1),by omega,k+1,inc (by decide) hk',by omega,rfl,?_,rfl⟩;rw[aC (n:=x+1) ⟨by omega,by omega⟩,aC ⟨by omega,by omega⟩,aL g2,B7]
    · obtain rfl:k=6:=by omega
      refine cF (by simp) ?_;have e:u.l.take 6=u.l:=rfl;rw[e] at hb ⊢
      by_cases hp:pr u.l<=1024
      · refine cF (dF (by omega)) ⟨?_,s2.av⟩;rw[if_pos ⟨hall,hp⟩]
      · refine cT (dT (by omega)) ⟨?_,s2.av⟩;rw[if_neg λ h=>hp h.2]
  · rw[if_neg hall];refine cT rfl ⟨?_,s2.av⟩;rw[if_neg λ h=>hall h.1]
structure Pr where
  nm:List UInt8
  sup:Int
  res:Int
  pts:Int
  grp:Int
def Pr.cells(p:Pr):List Value:=[sv p.nm,iv p.sup,iv p.res,iv p.pts,iv p.grp]
def Pr.In(p:Pr):Prop:=Go.Vc.In p.sup/\Go.Vc.In p.res/\Go.Vc.In p.pts/\Go.Vc.In p.grp
def dL(w:World)(a:OA)(l:List Pr):Prop:=∀ (i:Nat) (p:Pr),l[i]? = some p->p.In/\∃ q,a=some q/\af w (q.add (i*5)) 0 p.cells
theorem dL.av{w w' : World}{a:OA}{l:List Pr}(h:dL w a l)(hc:az w w' []):dL w' a l:=λ i p hp =>
  let ⟨h1,q,hq,h2⟩:=h i p hp
  ⟨h1,q,hq,br hc h2⟩
theorem dL.take{w:World}{a:OA}{l:List Pr}(h:dL w a l)(n:Nat):dL w a (l.take n):=λ i p hp=>by
  rw[List.getElem?_take] at hp
  split at hp
  · exact h i p hp
  · cases hp
theorem Pr.one(p:Pr):∀ v∈p.cells,v.oneCell' = true:=by
  intro v hv; simp[Pr.cells] at hv; rcases hv with rfl | rfl | rfl | rfl | rfl<;>rfl
theorem LG{a:OA}{c:Nat}:(if c=0 then a else Option.map (λ x=>Addr.add x (0*5)) a)=a:=by
  split
  · rfl
  · cases a<;>simp[Addr.add]
theorem fV{α:Type}{l:List α}{p:α->Bool}{k:Nat}{x:α}(h:(l.take k).any p=false)(hx:l[k]? = some x)(hp:p x=false):(l.take (k+1)).any p=false:=by
  rw[aL hx,List.any_append,h]; simp[hp]
theorem jr{α:Type}{l:List α}{p:α->Bool}{k:Nat}{x:α}(hx:l[k]? = some x)(hp:p x=true):l.any p=true:=List.any_eq_true.2 ⟨x,List.mem_of_getElem? hx,hp⟩
theorem Qe{w:World}{a:OA}{c:Nat}{l:List Pr}(h:dL w a l)(hl:l.length<=1000)(nm:List UInt8) :
    CP 168 #[.slice a l.length c,sv nm] w (λ r w'=>(∃ k:Int,r=.tuple #[iv k,.bool (l.any λ p=>p.nm==nm)])/\az w w' []):=by
  refine Ax ?_;unfold Fw;refine⟨λ n w1 m=>∃ k:Nat,n=k/\k<=l.length/\m=l.length-k/\(l.take k).any (λ p=>p.nm==nm)=false/\az w w1 [],⟨l.length,0,rfl,by omega,by omega,rfl,az.refl _ _⟩,?_⟩;rintro w1 m n ⟨k,rfl,hk,hm,ha,hc⟩ -
  by_cases hlt:(k:Int)<(l.length:Int)
  · have hx:l[k]? = some (l[k]'(by omega)):=gE (by omega);generalize l[k]'(by omega)=x at hx;obtain⟨_,q,rfl,hcl⟩:=(h.av hc) k x hx;refine cT (by simpa using hlt) ⟨by omega,by omega,_,_,_,_,_,hcl,aG ?_⟩;refine((St.start' hc).one.bI _ 170).aA 0 rfl x.cells rfl x.one λ w3 s3=>?_;refine⟨_,by rw[s3.ag 0 rfl]; rfl,?_⟩
    by_cases hn:x.nm=nm
    · exact cT (by rw[hn]; simp) ⟨⟨k,by rw[jr hx (by simpa using hn)]⟩,s3.av⟩
    · exact cF (by rw[ia,ia]; simpa using hn) ⟨l.length-(k+1),by omega,k+1,by rw[aC ⟨by omega,by omega⟩]; rfl,by omega,rfl,fV ha hx (by simpa using hn),s3.av⟩
  · refine cF (by simpa using hlt) ⟨⟨0,?_⟩,hc⟩;rw[List.take_of_length_le (by omega)] at ha;rw[ha]
theorem oY(w:World)(n x y:Int):CP 169 #[iv n,iv x,iv y] w (λ r w'=>r=.bool (decide (x<=n)&&decide (n<=y))/\w' = w):=by
  refine B5 ?_;unfold Aw
  by_cases h:n>=x
  · exact cT (dT h) ⟨by rw[dT (show x<=n from h)]; rfl,rfl⟩
  · exact cF (dF h) ⟨by rw[dF (show ¬ x<=n from h)]; rfl,rfl⟩
def Cv(l:List Pr):List Int:=(l.map Pr.sup++List.replicate (6-l.length) 0).take 6
def bX(l:List Pr):I6:=I6.Tx (l.map Pr.sup)
theorem Cu(l:List Pr)(k:Nat)(hk:k<6):(bX l).at' k=(l.map Pr.sup).getD k 0:=by
  match k,hk with
  | 0,_ | 1,_ | 2,_ | 3,_ | 4,_ | 5,_=>rfl
theorem FY(l:List Pr):(bX l).l=Cv l:=by
  apply List.ext_getElem?;intro k;unfold Cv
  by_cases hk:k<6
  · rw[I6.vY _ k hk,Cu l k hk,List.getElem?_take,if_pos hk]
    by_cases hl:k<l.length
    · rw[List.getElem?_append_left (by simpa using hl)];simp[hl]
    · rw[List.getElem?_append_right (by simp; omega),List.getElem?_replicate,if_pos (by simp; omega)];simp[hl]
  · rw[List.getElem?_eq_none (by rw[I6.len]; omega),List.getElem?_take,if_neg hk]
theorem oO{w:World}{a:OA}{c:Nat}{l:List Pr}(h:dL w a l)(hl:l.length<=1000) :
    CP 148 #[.slice a l.length c] w (λ r w'=>r=.agg (bX l).vs.toArray/\az w w' []):=by
  refine DY ?_;unfold DX;refine aG (aG ?_);have s2:=((St.start w).one.bI z6.vs.toArray 41).bI z6.vs.toArray 41;generalize hw2:((w.alloc _).alloc _)=w2 at s2 ⊢;generalize hr1:w.heap.size=r1 at s2 ⊢;generalize hr2:(w.alloc _).heap.size=r2 at s2 ⊢;refine⟨λ n w3 m=>∃ k:Nat,n=k/\k<=l.length/\m=l.length-k/\St w w3 (Sep [ai r2 (I6.mix (min k 6) (bX l) z6).vs.toArray 41,ai r1 z6.vs.toArray 41,emp]),⟨l.length,0,rfl,by omega,by omega,s2⟩,?_⟩;rintro w3 m n ⟨k,rfl,hk,hm,s3⟩ -
  by_cases hlt:(k:Int)<(l.length:Int)
  · have hx:l[k]? = some (l[k]'(by omega)):=gE (by omega);generalize l[k]'(by omega)=x at hx;obtain⟨_,q,hq,hcl⟩:=(h.av s3.av) k x hx;refine cT (by simpa using hlt) ⟨λ w4=>St w w4 (Sep [ai r2 (I6.mix (min (k+1) 6) (bX l) z6).vs.toArray 41,ai r1 z6.vs.toArray 41,emp]),?_,?_⟩
    · rintro w4 s4 -;exact⟨l.length-(k+1),by omega,k+1,aC ⟨by omega,by omega⟩,by omega,rfl,s4⟩
    rw[hq];refine⟨by omega,by omega,_,_,_,_,_,hcl,aG ?_⟩;refine(s3.bI _ 170).aA 0 rfl x.cells rfl x.one λ w6 s6=>?_
    by_cases h6:k<6
    · refine cT (dT (by omega)) ⟨_,by rw[s6.ag 0 rfl]; rfl,by omega,by omega,?_⟩;have ea:Addr.add ⟨r2,0,none⟩ (((k:Nat):Int).toNat*1)=⟨r2,k,none⟩:=by rw[bG]; simp
      rw[ea];refine s6.aH 1 rfl (by rw[I6.size]; exact h6) rfl λ w7 s7=>?_;have e1:x.sup=(bX l).at' k:=by rw[Cu l k h6]; simp[List.getElem?_map,hx]
      rw[Nat.min_eq_left (by omega),e1,I6.fM _ _ _ h6] at s7;rw[Nat.min_eq_left (by omega)];exact s7.aq [1,2,3]
    · rw[Nat.min_eq_right (by omega)] at s6 ⊢;exact cF (dF (by omega)) (s6.aq [1,2,3])
  · obtain rfl:k=l.length:=by omega
    have hcn:I6.mix (min l.length 6) (bX l) z6=bX l:=by
      refine I6.ext' λ j hj=>?_;rw[I6.bS _ _ _ _ hj,Cu l j hj]
      split
      · rfl
      · rw[List.getD_eq_getElem?_getD,List.getElem?_eq_none (by simp; omega)]
        match j,hj with
        | 0,_ | 1,_ | 2,_ | 3,_ | 4,_ | 5,_=>rfl
    rw[hcn] at s3;refine cF (by simp) ⟨_,s3.cellsIn 0 rfl,?_⟩;refine s3.aA 1 rfl (bX l).vs rfl (I6.one _) λ w8 s8=>?_;exact⟨_,s8.cellsIn 1 rfl,rfl,s8.av⟩
def Jn(p:Pr):Bool:=(decide (1<=p.sup)&&decide (p.sup<=4))&&((decide (0<=p.res)&&decide (p.res<=1000000))&&((decide (0<=p.pts)&&decide (p.pts<=1000))&&(decide (0<=p.grp)&&decide (p.grp<=4))))
def zE(p:Pr):Bool:=eW p.nm&&Jn p
def tM(l:List Pr)(i:Nat)(p:Pr):Prop:=zE p=true/\((l.take i).any λ q=>q.nm==p.nm)=false
structure cY (l:List Pr):Prop where
  l1:1<=l.length
  l2:l.length<=6
  good:∀ i p,l[i]? = some p->tM l i p
  lim:pr (l.map Pr.sup)<=1024
theorem D1(l:List Int):∀ n,pr (l++List.replicate n 0)=pr l
  | 0=>by simp
  | n+1=>by
    rw[List.replicate_succ',<- List.append_assoc,B7,D1 l n];omega
theorem Cw{l:List Pr}(h:l.length<=6):pr (Cv l)=pr (l.map Pr.sup):=by
  unfold Cv;rw[List.take_of_length_le (by simp; omega),D1]
theorem Hs{l:List Pr}(h:∀ i p,l[i]? = some p->tM l i p):(Cv l).all lR=true:=by
  rw[List.all_eq_true];intro x hx;have hx:=List.mem_of_mem_take hx;rcases List.mem_append.1 hx with hx | hx
  · obtain⟨p,hp,rfl⟩:=List.mem_map.1 hx;obtain⟨i,hi,rfl⟩:=List.mem_iff_getElem.1 hp;have:=(h i _ (gE hi)).1;simp only[zE,Jn,Bool.and_eq_true,decide_eq_true_eq] at this;simp only[lR,Bool.and_eq_true,decide_eq_true_eq];omega
  · obtain⟨_,rfl⟩:=List.mem_replicate.1 hx
    decide
def Pu(Q:Prop)(w:World):KP:=λ r w'=>(∃ e:Int,r=iv e/\(e=0<->Q))/\az w w' []
def A8(Q:Prop)(k:Int)(w:World):KP:=λ r w'=>(r=iv k/\(k=0<->Q))/\az w w' []
theorem bg{Q:Prop}{w w' : World}{e k:Int}(he:e≠0)(h : ¬ Q)(hc:az w w' [])(hk:k=e):A8 Q k w (iv e) w':=by subst hk; exact⟨⟨rfl,λ h'=>absurd h' he,λ h'=>absurd h' h⟩,hc⟩
theorem o4{Q:Prop}{w w' : World}{k:Int}(h:Q)(hc:az w w' [])(hk:k=0):A8 Q k w (iv 0) w':=by subst hk; exact⟨⟨rfl,λ _=>h,λ _=>rfl⟩,hc⟩
theorem A8.old{Q:Prop}{w w' : World}{k:Int}{r:Value}(h:A8 Q k w r w'):Pu Q w r w':=⟨⟨k,h.1⟩,h.2⟩
def eU{α:Type}(f:Nat->α->Int):Nat->List α->Int
  | _,[]=>0
  | i,x :: l=>if f i x≠0 then f i x else eU f (i+1) l
theorem kE{α:Type}{f:Nat->α->Int}:∀ {l:List α} {n k:Nat} {x:α},(∀ i p,i<k->l[i]? = some p->f (n+i) p=0)->l[k]? = some x->f (n+k) x≠0->eU f n l=f (n+k) x
  | y :: l,n,0,x,_,hx,h=>by cases hx; rw[Nat.add_zero] at h ⊢; rw[eU,if_pos h]
  | y :: l,n,k+1,x,ha,hx,h=>by
    rw[eU,if_neg (by simpa using ha 0 y (by omega) rfl),kE (l:=l) (k:=k) (x:=x) (λ i p hi hp=>by have:=ha (i+1) p (by omega) (by simpa using hp); rwa [show n+(i+1)=n+1+i by omega] at this) (by simpa using hx) (by rwa [show n+1+k=n+(k+1) by omega])];rw[show n+1+k=n+(k+1) by omega]
theorem gj{α:Type}{f:Nat->α->Int}:∀ {l:List α} {n:Nat},(∀ i p,l[i]? = some p->f (n+i) p=0)->eU f n l=0
  | [],_,_=>rfl
  | y :: l,n,ha=>by
    rw[eU,if_neg (by simpa using ha 0 y rfl)];exact gj λ i p hp=>by have:=ha (i+1) p (by simpa using hp); rwa [show n+(i+1)=n+1+i by omega] at this
def Jj(l:List Pr)(i:Nat)(p:Pr):Int:=if eW p.nm=false then 5 else if ((l.take i).any λ q=>q.nm==p.nm) then 7 else if Jn p=false then 4 else 0
theorem D0{l:List Pr}{i:Nat}{p:Pr}(h:tM l i p):Jj l i p=0:=by
  obtain⟨h1,h2⟩:=h;unfold zE at h1;rw[Bool.and_eq_true] at h1;rw[Jj,h1.1,h2,h1.2]; rfl
def IJ(l:List Pr):Int:=if l.length=0 then 1 else if 6<l.length then 3 else if eU (Jj l) 0 l≠0 then eU (Jj l) 0 l else if pr (Cv l)<=1024 then 0 else 12
theorem zY{w:World}{a:OA}{c:Nat}{l:List Pr}(h:dL w a l)(hcap:l.length<=c) :
    CP 137 #[.slice a l.length c] w ((A8 (cY l) (IJ l) w)):=by
  refine Fq ?_;unfold G0
  by_cases h0:l.length=0
  · exact cT (by rw[h0]; rfl) (bg (by decide) (λ hp=>by have:=hp.l1; omega) (az.refl _ _) (by rw[IJ,if_pos h0]))
  refine cF (by simpa using h0) ?_;rcases Nat.lt_or_ge 6 l.length with h6 | h6
  · exact cT (dT (by omega)) (bg (by decide) (λ hp=>by have:=hp.l2; omega) (az.refl _ _) (by rw[IJ,if_neg h0,if_pos h6]))
  refine cF (dF (by omega)) ⟨λ n w1 m=>∃ k:Nat,n=k/\k<=l.length/\m=l.length-k/\(∀ i p,i<k->l[i]? = some p->tM l i p)/\az w w1 [],⟨l.length,0,rfl,by omega,by omega,λ i p hi=>by omega,az.refl _ _⟩,?_⟩;rintro w1 m n ⟨k,rfl,hk,hm,ha,hc⟩ -
  by_cases hlt:(k:Int)<(l.length:Int)
  · have hx:l[k]? = some (l[k]'(by omega)):=gE (by omega);generalize l[k]'(by omega)=x at hx;obtain⟨_,q,hq,hcl⟩:=(h.av hc) k x hx;have bad : ¬ tM l k x->¬ cY l:=λ hb hp=>hb (hp.good k x hx);have bk:∀ {e:Int},e≠0->Jj l k x=e->IJ l=e:=λ he h=>by
      have:=kE (f:=Jj l) (n:=0) (λ i p hi hp=>by rw[Nat.zero_add]; exact D0 (ha i p hi hp)) hx (by rw[Nat.zero_add,h]; exact he);rw[Nat.zero_add,h] at this;rw[IJ,if_neg h0,if_neg (by omega),this,if_pos he]
    refine cT (by simpa using hlt) ?_;rw[hq];refine⟨by omega,by omega,_,_,_,_,_,hcl,aG ?_⟩;refine((St.start' hc).one.bI _ 170).aA 0 rfl x.cells rfl x.one λ w3 s3=>?_;generalize hr1:w1.heap.size=r1 at s3 ⊢;have cx:∀ {w' : World},az w3 w' []->∀ (j:Nat) (v:Value),x.cells[j]? = some v->w'.cell? ⟨r1,j,none⟩=some v:=λ hc j v hv=>bT (by rw[s3.ag 0 rfl]; simpa using hv) hc;refine⟨_,cx (az.refl _ _) 0 _ rfl,aj (yb w3 x.nm) ?_⟩;rintro v w4 ⟨rfl,rfl⟩;refine⟨_,rfl,?_⟩
    cases hn:eW x.nm with
    | false=>exact cT rfl (bg (by decide) (bad λ hg=>by have:=hg.1; simp[zE,hn] at this) s3.av (bk (by decide) (by rw[Jj,hn]; rfl)))
    | true =>
      have d4:az w4 w4.drew []:=az.drew w4 [];refine cF rfl ⟨by omega,by omega,_,cx d4 0 _ rfl,?_⟩;rw[<- hq,LG];have hf:=Qe (c:=c-0) ((h.av (s3.av.trans d4 (by simp))).take k) (by rw[List.length_take]; omega) x.nm;rw[List.length_take,Nat.min_eq_left hk] at hf;refine aj hf ?_;rintro v w5 ⟨⟨kk,rfl⟩,c5⟩;have d5:az w4 w5 []:=d4.trans c5 (by simp);refine⟨_,_,rfl,?_⟩
      cases hany:((l.take k).any λ p=>p.nm==x.nm) with
      | true=>exact cT rfl (bg (by decide) (bad λ hg=>by have:=hg.2; rw[hany] at this; cases this) (s3.av.trans d5 (by simp)) (bk (by decide) (by rw[Jj,hn,hany]; rfl)))
      | false =>
        refine cF rfl ⟨λ b w6=>az w5 w6 []/\b = !Jn x,?_,?_⟩
        · rintro w6 b ⟨c6,rfl⟩ -;have c7:=s3.av.trans (d5.trans c6 (by simp)) (by simp)
          cases hr:Jn x with
          | false=>exact cT rfl (bg (by decide) (bad λ hg=>by have:=hg.1; simp[zE,hr] at this) c7 (bk (by decide) (by rw[Jj,hn,hany,hr]; rfl)))
          | true =>
            refine cF rfl ⟨l.length-(k+1),by omega,k+1,by rw[aC ⟨by omega,by omega⟩]; rfl,by omega,rfl,λ i p hi hp=>?_,c7⟩;rcases Nat.lt_or_ge i k with h' | h'
            · exact ha i p h' hp
            · obtain rfl:i=k:=by omega
              rw[hx] at hp; cases hp;exact⟨by simp[zE,hn,hr],hany⟩
        · refine⟨_,cx d5 1 _ rfl,aj (oY w5 _ _ _) ?_⟩;rintro v w6 ⟨rfl,rfl⟩;refine⟨_,rfl,?_⟩
          cases g1:(decide (1<=x.sup)&&decide (x.sup<=4)) with
          | false=>exact cT rfl ⟨az.refl _ _,by simp only[Jn,g1]; rfl⟩
          | true =>
            refine cF rfl ⟨_,cx d5 2 _ rfl,aj (oY w6 _ _ _) ?_⟩;rintro v w7 ⟨rfl,rfl⟩;refine⟨_,rfl,?_⟩
            cases g2:(decide (0<=x.res)&&decide (x.res<=1000000)) with
            | false=>exact cT rfl ⟨az.refl _ _,by simp only[Jn,g1,g2]; rfl⟩
            | true =>
              refine cF rfl ⟨_,cx d5 3 _ rfl,aj (oY w7 _ _ _) ?_⟩;rintro v w8 ⟨rfl,rfl⟩;refine⟨_,rfl,?_⟩
              cases g3:(decide (0<=x.pts)&&decide (x.pts<=1000)) with
              | false=>exact cT rfl ⟨az.refl _ _,by simp only[Jn,g1,g2,g3]; rfl⟩
              | true =>
                refine cF rfl ⟨_,cx d5 4 _ rfl,aj (oY w8 _ _ _) ?_⟩;rintro v w9 ⟨rfl,rfl⟩;exact⟨_,rfl,az.refl _ _,by simp only[Jn,g1,g2,g3]; rfl⟩
  · obtain rfl:k=l.length:=by omega
    have hg:∀ i p,l[i]? = some p->tM l i p:=λ i p hp=>ha i p (List.getElem?_eq_some_iff.1 hp).1 hp;refine cF (by simp) (aj (oO (h.av hc) (by omega)) ?_);rintro v w2 ⟨rfl,c2⟩;refine⟨_,rfl,aj (wF w2 _) ?_⟩;rintro v w3 ⟨rfl,c3⟩;have c4:az w w3 []:=hc.trans (c2.trans c3 (by simp)) (by simp);refine⟨_,rfl,?_⟩;have hall:=Hs hg;have hpr:=Cw h6;rw[FY];have hb:=(oq hall).1;have e0:IJ l=if pr (Cv l)<=1024 then 0 else 12:=by
      have:=gj (f:=Jj l) (n:=0) (l:=l) λ i p hp=>by rw[Nat.zero_add]; exact D0 (hg i p hp)
      rw[IJ,if_neg h0,if_neg (by omega),this,if_neg (by decide)]
    by_cases hlim:pr (Cv l)<=1024
    · rw[if_pos ⟨hall,hlim⟩];exact cF (by simp; omega) (o4 ⟨by omega,h6,hg,by rw[<- hpr]; exact hlim⟩ c4 (by rw[e0,if_pos hlim]))
    · rw[if_neg λ h=>hlim h.2];exact cT rfl (bg (by decide) (λ hp=>hlim (by rw[hpr]; exact hp.lim)) c4 (by rw[e0,if_neg hlim]))
theorem xG{w:World}{a:OA}{c:Nat}{l:List Pr}(h:dL w a l)(hcap:l.length<=c) :
    CP 137 #[.slice a l.length c] w ((Pu (cY l) w)):=aj (zY h hcap) λ _ _ h=>⟨_,rfl,h.old⟩
def uQ(a b:I6)(w:World)(K:KP):Prop:=ak w (.cells a.vs.toArray 103) λ a c=>ak c (.cells b.vs.toArray 41) λ b c=>∃ (d:I6),af c ⟨b,0,none⟩ 0 d.vs/\∃ b:Int->Int->World->Nat->Prop,(∃ e,b 0 (0:Int) c e)/\∀ c e f g,b f g c e->∀ h:Nat->Value,cond (decide (g<6)) (0<=g/\g<6/\∃ h,(d.vs.toArray:Array Value)[(g).toNat*1]? = some (iv h)/\0<=g/\g<6/\∃ d,c.cell? (Addr.add ⟨a,0,none⟩ ((g).toNat*1))=some (iv d)/\∃ a,a<e/\b (IntKind.i64.wrap (f+(IntKind.i64.wrap (d*h)))) (IntKind.i64.wrap (g+1)) c a) (K (iv f) c)
theorem xB{u1 u2 w K}(h:uQ u1 u2 w K):CP 180 #[.agg u1.vs.toArray,.agg u2.vs.toArray] w (K):=ah (ay [(58,[(5,.s (.int .i64)),(9,.s (.int .i64))])]) func180 (by kernel_rfl) (by kernel_rfl) h
def qd(a b:I6)(w:World)(K:KP):Prop:=ak w (.cells a.vs.toArray 41) λ a c=>ak c (.cells b.vs.toArray 41) λ b c=>∃ (d:I6),af c.drew ⟨a,0,none⟩ 0 d.vs/\∃ (e:I6),af c.drew ⟨b,0,none⟩ 0 e.vs/\∃ (b:I6),af c.drew ⟨a,0,none⟩ 0 b.vs/\Calls prog 265 #[.agg d.vs.toArray,.agg e.vs.toArray] c.drew λ c d=>∃ (e:I6),c=.returned (.agg e.vs.toArray)/\af d ⟨a,0,none⟩ 0 b.vs/\K (.bool (I6.beq e b)) d
theorem tQ{u1 u2 w K}(h:qd u1 u2 w K):CP 223 #[.agg u1.vs.toArray,.agg u2.vs.toArray] w (K):=ah (ay []) func223 (by kernel_rfl) (by kernel_rfl) h
def xA(a:I6)(w:World)(K:KP):Prop:=ak w (.cells a.vs.toArray 41) λ a b=>∃ (c:I6),af b ⟨a,0,none⟩ 0 c.vs/\Calls prog 170 #[.agg c.vs.toArray] b λ b c=>∃ d,b=.returned (iv d)/\cond (d==0) (K (.func (.func 281) #[] #[]) c) (∃ (b:I6),af c ⟨a,0,none⟩ 0 b.vs/\Calls prog 282 #[.agg b.vs.toArray] c λ a b=>∃ (c:Value),a=.returned c/\K c b)
theorem zw{u1 w K}(h:xA u1 w K):CP 250 #[.agg u1.vs.toArray] w (K):=ah (ay []) func250 (by kernel_rfl) (by kernel_rfl) h
def uS(a b:I6)(w:World)(K:KP):Prop:=ak w (.cells a.vs.toArray 41) λ a c=>ak c (.cells b.vs.toArray 41) λ b c=>ak c (.cells z6.vs.toArray 41) λ c d=>∃ e:Int->World->Nat->Prop,(∃ f,e 0 d f)/\∀ d f g,e g d f->∀ h:Nat->Value,cond (decide (g<6)) (0<=g/\g<6/\∃ h,d.drew.cell? (Addr.add ⟨a,0,none⟩ ((g).toNat*1))=some (iv h)/\0<=g/\g<6/\∃ i,d.drew.cell? (Addr.add ⟨b,0,none⟩ ((g).toNat*1))=some (iv i)/\0<=g/\g<6/\aN d.drew (Addr.add ⟨a,0,none⟩ ((g).toNat*1)) (iv (if i<h then i else h)) λ b=>∃ h,h<f/\e (IntKind.i64.wrap (g+1)) b h) (∃ (b:I6),af d ⟨a,0,none⟩ 0 b.vs/\aQ ⟨c,0,none⟩ 0 b.vs d λ a=>∃ (b:I6),af a ⟨c,0,none⟩ 0 b.vs/\K (.agg b.vs.toArray) a)
theorem xD{u1 u2 w K}(h:uS u1 u2 w K):CP 265 #[.agg u1.vs.toArray,.agg u2.vs.toArray] w (K):=ah (ay [(26,[(6,.s (.int .i64))])]) func265 (by kernel_rfl) (by kernel_rfl) h
def rF(a:I6)(w:World)(K:KP):Prop:=ak w (.cells a.vs.toArray 41) λ a b=>∃ (c:I6),af b ⟨a,0,none⟩ 0 c.vs/\∃ a:Int->Int->World->Nat->Prop,(∃ d,a 0 (0:Int) b d)/\∀ b d e f,a e f b d->∀ g:Nat->Value,cond (decide (f<6)) (0<=f/\f<6/\∃ g,(c.vs.toArray:Array Value)[(f).toNat*1]? = some (iv g)/\∃ c,c<d/\a (IntKind.i64.wrap (e+g)) (IntKind.i64.wrap (f+1)) b c) (K (iv e) b)
theorem vG{u1 w K}(h:rF u1 w K):CP 275 #[.agg u1.vs.toArray] w (K):=ah (ay [(58,[(3,.s (.int .i64)),(7,.s (.int .i64))])]) func275 (by kernel_rfl) (by kernel_rfl) h
def uR(a b:I6)(w:World)(K:KP):Prop:=ak w (.cells a.vs.toArray 41) λ a c=>ak c (.cells b.vs.toArray 41) λ b c=>ak c (.cells z6.vs.toArray 41) λ c d=>∃ e:Int->World->Nat->Prop,(∃ f,e 0 d f)/\∀ d f g,e g d f->∀ h:Nat->Value,cond (decide (g<6)) (0<=g/\g<6/\∃ h,d.drew.cell? (Addr.add ⟨a,0,none⟩ ((g).toNat*1))=some (iv h)/\0<=g/\g<6/\∃ i,d.drew.cell? (Addr.add ⟨b,0,none⟩ ((g).toNat*1))=some (iv i)/\0<=g/\g<6/\aN d.drew (Addr.add ⟨a,0,none⟩ ((g).toNat*1)) (iv (if i>h then i else h)) λ b=>∃ h,h<f/\e (IntKind.i64.wrap (g+1)) b h) (∃ (b:I6),af d ⟨a,0,none⟩ 0 b.vs/\aQ ⟨c,0,none⟩ 0 b.vs d λ a=>∃ (b:I6),af a ⟨c,0,none⟩ 0 b.vs/\K (.agg b.vs.toArray) a)
theorem xC{u1 u2 w K}(h:uR u1 u2 w K):CP 280 #[.agg u1.vs.toArray,.agg u2.vs.toArray] w (K):=ah (ay [(26,[(6,.s (.int .i64))])]) func280 (by kernel_rfl) (by kernel_rfl) h
def uU(a:I6)(w:World)(K:KP):Prop:=ak w (.cells a.vs.toArray 41) λ a b=>K (.func (.func 299) #[] #[.pointer (some ⟨a,0,none⟩)]) b
theorem xF{u1 w K}(h:uU u1 w K):CP 282 #[.agg u1.vs.toArray] w (K):=ah (ay []) func282 (by kernel_rfl) (by kernel_rfl) h
def uT(a b:I6)(w:World)(K:KP):Prop:=ak w (.cells a.vs.toArray 41) λ a c=>ak c (.cells b.vs.toArray 41) λ b c=>∃ d:Bool->World->Prop,(∀ e f,d f e->∀ g:Nat->Value,cond f (K (.tuple #[iv 0,iv 4]) e) (∃ (f:I6),af e ⟨a,0,none⟩ 0 f.vs/\∃ g:Int->Int->World->Nat->Prop,(∃ h,g 0 (0:Int) e h)/\∀ e h i j,g i j e h->∀ k:Nat->Value,cond (decide (j<6)) (0<=j/\j<6/\∃ k,(f.vs.toArray:Array Value)[(j).toNat*1]? = some (iv k)/\0<=j/\j<6/\∃ f,e.cell? (Addr.add ⟨b,0,none⟩ ((j).toNat*1))=some (iv f)/\∃ l,l<h/\g (IntKind.i64.wrap ((IntKind.i64.wrap (i*(IntKind.i64.wrap (k+1))))+f)) (IntKind.i64.wrap (j+1)) e l) (K (.tuple #[iv i,iv 0]) e)))/\∃ (e:I6),af c ⟨a,0,none⟩ 0 e.vs/\Calls prog 170 #[.agg e.vs.toArray] c λ c e=>∃ f,c=.returned (iv f)/\cond (f==0) (d true e) (∃ (c:I6),af e ⟨b,0,none⟩ 0 c.vs/\Calls prog 86 #[.agg c.vs.toArray] e λ c e=>∃ f,c=.returned (iv f)/\cond (f !=0) (d true e) (∃ (c:I6),af e ⟨b,0,none⟩ 0 c.vs/\∃ (b:I6),af e ⟨a,0,none⟩ 0 b.vs/\Calls prog 223 #[.agg c.vs.toArray,.agg b.vs.toArray] e λ a b=>∃ c,a=.returned (.bool c)/\d (!c) b))
theorem xE{u1 u2 w K}(h:uT u1 u2 w K):CP 283 #[.agg u1.vs.toArray,.agg u2.vs.toArray] w (K):=ah (ay [(6,[(22,.s .bool)]),(122,[(6,.s (.int .i64)),(24,.s (.int .i64))])]) func283 (by kernel_rfl) (by kernel_rfl) h
def xz(a b:I6)(w:World)(K:KP):Prop:=ak w (.cells a.vs.toArray 41) λ a c=>ak c (.cells b.vs.toArray 41) λ b c=>ak c (.cells z6.vs.toArray 41) λ c d=>∃ e:Int->World->Nat->Prop,(∃ f,e 0 d f)/\∀ d f g,e g d f->∀ h:Nat->Value,cond (decide (g<6)) (0<=g/\g<6/\∃ h,d.drew.cell? (Addr.add ⟨a,0,none⟩ ((g).toNat*1))=some (iv h)/\0<=g/\g<6/\∃ i,d.drew.cell? (Addr.add ⟨b,0,none⟩ ((g).toNat*1))=some (iv i)/\0<=g/\g<6/\aN d.drew (Addr.add ⟨a,0,none⟩ ((g).toNat*1)) (iv (IntKind.i64.wrap (h+i))) λ b=>∃ h,h<f/\e (IntKind.i64.wrap (g+1)) b h) (∃ (b:I6),af d ⟨a,0,none⟩ 0 b.vs/\aQ ⟨c,0,none⟩ 0 b.vs d λ a=>∃ (b:I6),af a ⟨c,0,none⟩ 0 b.vs/\K (.agg b.vs.toArray) a)
theorem zv{u1 u2 w K}(h:xz u1 u2 w K):CP 298 #[.agg u1.vs.toArray,.agg u2.vs.toArray] w (K):=ah (ay [(26,[(6,.s (.int .i64))])]) func298 (by kernel_rfl) (by kernel_rfl) h
def qe(a b:Nat)(w:World)(K:KP):Prop:=ak w (.cells z6.vs.toArray 41) λ c d=>aQ ⟨c,0,none⟩ 0 z6.vs d λ d=>∃ e:World->Nat->Prop,(∃ f,e d f)/\∀ d f,e d f->∀ g:Nat->Value,∃ (g:I6),af d ⟨c,0,none⟩ 0 g.vs/\cq prog a #[.agg g.vs.toArray] d λ a d=>∃ g,.returned (.bool a)=Ending.returned (.bool g)/\cond g (∃ (a:I6),af d ⟨c,0,none⟩ 0 a.vs/\∃ (g:I6),af d ⟨b,0,none⟩ 0 g.vs/\Calls prog 300 #[.agg a.vs.toArray,.agg g.vs.toArray] d λ a b=>∃ (g:I6),a=.returned (.agg g.vs.toArray)/\aQ ⟨c,0,none⟩ 0 g.vs b λ a=>∃ (b:I6),af a ⟨c,0,none⟩ 0 b.vs/\cond (I6.beq b z6) (K (.tuple #[]) a) (∃ b,b<f/\e a b)) (K (.tuple #[]) d)
theorem tR{l1 b1 w K}(h:qe l1 b1 w K):CP 299 #[.func (.yield l1) #[] #[],.pointer (some ⟨b1,0,none⟩)] w (K):=ah (ay [(6,[])]) func299 (by kernel_rfl) (by kernel_rfl) h
def kf(a b:I6)(w:World)(K:KP):Prop:=ak w (.cells a.vs.toArray 41) λ a c=>ak c (.cells b.vs.toArray 41) λ b c=>ak c (.cells z6.vs.toArray 41) λ c d=>∃ e:Int->World->Nat->Prop,(∃ f,e 5 d f)/\∀ d f g,e g d f->∀ h:Nat->Value,cond (decide (g>=0)) (0<=g/\g<6/\∃ h,d.drew.cell? (Addr.add ⟨a,0,none⟩ ((g).toNat*1))=some (iv h)/\0<=g/\g<6/\∃ i,d.drew.cell? (Addr.add ⟨b,0,none⟩ ((g).toNat*1))=some (iv i)/\cond (decide (h<i)) (0<=g/\g<6/\∃ b,d.drew.cell? (Addr.add ⟨a,0,none⟩ ((g).toNat*1))=some (iv b)/\0<=g/\g<6/\aN d.drew (Addr.add ⟨a,0,none⟩ ((g).toNat*1)) (iv (IntKind.i64.wrap (b+1))) λ b=>∃ (h:I6),af b ⟨a,0,none⟩ 0 h.vs/\aQ ⟨c,0,none⟩ 0 h.vs b λ b=>∃ (h:I6),af b ⟨c,0,none⟩ 0 h.vs/\K (.agg h.vs.toArray) b) (0<=g/\g<6/\aN d.drew (Addr.add ⟨a,0,none⟩ ((g).toNat*1)) (iv 0) λ b=>∃ h,h<f/\e (IntKind.i64.wrap (g-1)) b h)) (∃ (b:I6),af d ⟨a,0,none⟩ 0 b.vs/\aQ ⟨c,0,none⟩ 0 b.vs d λ a=>∃ (b:I6),af a ⟨c,0,none⟩ 0 b.vs/\K (.agg b.vs.toArray) a)
theorem pI{u1 u2 w K}(h:kf u1 u2 w K):CP 300 #[.agg u1.vs.toArray,.agg u2.vs.toArray] w (K):=ah (ay [(26,[(5,.s (.int .i64))])]) func300 (by kernel_rfl) (by kernel_rfl) h
end Go.Proofs.YtpihmghnbplohaaGreatDoor

import Derived.Test.YtemiicbbbojdiaaGreatDoorD15
import Derived.Test.YtemiicbbbojdiaaGreatDoorD16
import Derived.Test.YtemiicbbbojdiaaGreatDoorD17
import Derived.Test.YtemiicbbbojdiaaGreatDoorD18
set_option linter.unusedVariables false
set_option maxRecDepth 100000
namespace Go.Proofs.YtemiicbbbojdiaaGreatDoor.W45
open Go Go.Vc Go.Gx _root_.Go.Proofs.Tryz
theorem k1:q1.ok=true:=by kernel_rfl
theorem k2:q2.ok=true:=by kernel_rfl
theorem k3:q3.ok=true:=by kernel_rfl
theorem hb:Tryz.f9.body=some (W7 l0 (Code.seq (.region 1 o1 false) cz)):=by kernel_rfl
theorem hn:Tryz.f9.ntmps=139:=by kernel_rfl
theorem ho:o1.toList=la++lb:=(List.take_append_drop 4 _).symm
end Go.Proofs.YtemiicbbbojdiaaGreatDoor.W45
namespace Go.Proofs.YtemiicbbbojdiaaGreatDoor
open Go Go.Vc Go.Gx _root_.Go.Proofs.Tryz
open W45 in
theorem W45_c(w:World):CP 9 #[] w (λ r w'=>r=.bool true/\Chg w w' []):=by
 refine(DN (AE (Dq w) (F:=100000) 100) (Dq w) (F:=100000) func9 hb λ a g=>?_).mono λ _ _ ⟨h1,h2⟩=>⟨_,h1,rfl,h2⟩;rw[hn] at g;refine Ow (J0 w 139) l0 k1 a0 g λ b0 v0 g0=>?_;refine Ir (p:=q1) (q:=q2) (r:=q3) (AE (Dq w) (F:=100000) 100) (Dq w) la lb ho k2 k3 a1 a2 g0 λ b2 v2 g2=>?_;have hl:iy prog w Tryz.f9.ntmps (Oa 139 cz) cz:=by rw[hn]; exact J0 w 139 cz
 exact QD (cd:=Oa 139 cz) hl (p:=q3) (by rw[hn]; exact az) (by rw[hn]; exact g2)
#print axioms W45_c
end Go.Proofs.YtemiicbbbojdiaaGreatDoor
namespace Go.Proofs.YtemiicbbbojdiaaGreatDoor
open Go Go.Vc _root_.Go.Proofs.Tryz
section
variable {w0 w:World} {b:Nat} {S:Sx} {C:Ck} {B:aG}
theorem WL(hok:lW S C):S.s.Sz:=by
 by_cases h0:S.ph=0
 ·have e:=hok.z h0;have h1:S.s.ps=[]:=show S.s.er.ps=fP.ps by rw[e]
  have h2:S.s.bd=[]:=show S.s.er.bd=fP.bd by rw[e]
  have h3:S.s.cp=[]:=show S.s.er.cp=fP.cp by rw[e]
  have h4:S.s.sa=[]:=show S.s.er.sa=fP.sa by rw[e]
  exact⟨by rw[h1]; decide,by rw[h2]; decide,by rw[h3]; decide,by rw[h4]; decide⟩
 ·exact(hok.so h0).sz
theorem J3(hb:af w ⟨b,0,none⟩ 0 S.cells){w' : World}(hc:Chg w w' [])(j:Nat){v:Value}(hv:S.cells[j]?=some v):w'.cell? ⟨b,j,none⟩=some v:=by
 have:=aO (cA hc hb) j v hv
 rwa [Nat.zero_add,tE] at this
theorem Wx(hb:af w ⟨b,0,none⟩ 0 S.cells){w' : World}(hc:Chg w w' []):af w' ⟨b,5,none⟩ 0 S.s.arr.toList:=bE _ 0 λ j v hj=>by
 rw[bq,Nat.zero_add];refine J3 hb hc (5+j) ?_;have hj4:j<4:=(List.getElem?_eq_some_iff.1 hj).1
 match j,hj4 with
 | 0,_|1,_|2,_|3,_=>exact hj
theorem OB(hb:af w ⟨b,0,none⟩ 0 S.cells)(h:S.s.In w)(hz:S.s.Sz) :
  CP 11 #[pt b] w (λ r w'=>∃ S' : Se,S'.er=S.s.er/\r=.agg S'.arr/\St w w' (held S'.In)):=by
 refine qK ?_;unfold lD;obtain⟨z1,z2,z3,z4⟩:=hz;refine(St.start w).one.aB fP.arr λ r1 w1 s1=>⟨_,_,_,_,_,_,_,_,_,_,_,_,Wx hb s1.aA,s1.aB fP.arr λ r2 w2 s2=>s2.aC 0 rfl S.s.arr.toList rfl (by simp[Se.arr,Value.oneCell']) λ w3 s3=>?_⟩;have s3:St w w3 (Sep [ai r2 S.s.arr 34,ai r1 fP.arr 34,emp]):=s3;have s3:=s3.quiet (Chg.drew w3 []);refine⟨_,_,_,s3.ag 0 rfl 0,_,_,_,s3.ag 0 rfl 1,_,_,_,s3.ag 0 rfl 2,_,_,_,s3.ag 0 rfl 3,an (Cu (h.aA s3.aA).ps.fl (by omega)) ?_⟩;rintro v w4 ⟨a1,c1,rfl,k1⟩;have s4:St w w4 (Sep [_,_,_,_]):=s3.and k1;refine⟨_,_,_,rfl,s4.ag 1 rfl 3,s4.ag 1 rfl 2,s4.ag 1 rfl 1,an (Cs (h.aA s4.aA).bd.fl (by omega)) ?_⟩;rintro v w5 ⟨a2,c2,rfl,k2⟩;have s5:St w w5 (Sep [_,_,_,_,_]):=s4.and k2;refine⟨_,_,_,rfl,s5.ag 2 rfl 3,s5.ag 2 rfl 2,an (Ct (h.aA s5.aA).cp.fl (by omega)) ?_⟩;rintro v w6 ⟨a3,c3,rfl,k3⟩;have s6:St w w6 (Sep [_,_,_,_,_,_]):=s5.and k3;refine⟨_,_,_,rfl,s6.ag 3 rfl 3,an (Cr (h.aA s6.aA).sa.fl (by omega)) ?_⟩;rintro v w7 ⟨a4,c4,rfl,k4⟩;have s7:St w w7 (Sep [_,_,_,_,_,_,_]):=s6.and k4;let S' : Se:={ S.s with a1:=a1,c1:=c1,a2:=a2,c2:=c2,a3:=a3,c3:=c3,a4:=a4,c4:=c4 };refine⟨_,_,_,rfl,s7.aC 5 rfl S'.arr.toList rfl (by simp[S',Se.arr,Value.oneCell']) λ w8 s8=>⟨_,_,_,_,_,_,_,_,_,_,_,_,s8.cellsIn (cs:=S'.arr) 5 rfl,S',rfl,rfl,?_⟩⟩;have q4:=St.oI (s8.out 0 rfl); have q3:=St.oI (s8.out 1 rfl); have q2:=St.oI (s8.out 2 rfl); have q1:=St.oI (s8.out 3 rfl);exact((s8.ay [0,1,2,3]).held ((bh T3.len).cons ((bh T3.len).cons ((bh Br.len).cons ((bh Pr.len).cons gU.nil))))).weak (rC λ w' ⟨i4,i3,i2,i1,_⟩=>⟨fh.of i1 h.ps.in,lJ.of i2 h.bd.in,E6.of i3,E6.of i4,q1.1,q2.1,q3.1,q4.1⟩)
theorem GU(hb:af w ⟨b,0,none⟩ 0 S.cells)(h8:S.bd.length=8)(hS:rT S C w)(hok:lW S C)(hk:E3 S) :
  CP 17 #[pt b] w (λ r w'=>∃ (p:OA) (C' : Ck),r=.pointer p/\C'.er=C.er/\E3 { S with k:=p }/\St w w' (BS p C')):=by
 refine qI ?_;unfold lB;refine⟨_,J3 hb (Chg.refl w []) 9 ?_,an (zC hS hok hk) ?_⟩
 ·have:=jb h8;simpa using this
 ·rintro v w1 ⟨p,C',rfl,h1,h2,h3⟩;exact⟨_,rfl,p,C',rfl,h1,h2,h3⟩
end
def tA(b:Nat)(S:Sx)(C:Ck):aG:=TV λ p:{ p:Sx×Ck // p.1.er=S/\p.2.er=C/\E3 p.1 }=>star (ai b p.1.1.cells.toArray 86) (held (rT p.1.1 p.1.2))
section
variable {w0 w:World} {b:Nat} {S S' : Sx} {C C' : Ck} {B:aG}
theorem rQ(s:St w0 w (star (tA b S C) B)):∃ (S' : Sx) (C' : Ck),S'.er=S/\C'.er=C/\E3 S'/\St w0 w (Sep [ai b S'.cells.toArray 86,held (rT S' C'),B]):=by
 obtain⟨⟨⟨S',C'⟩,h1,h2,h3⟩,s1⟩:=s.ex;exact⟨S',C',h1,h2,h3,s1.assoc.rR⟩
theorem vX(h1:S'.er=S)(h2:C'.er=C)(hk:E3 S')(s:St w0 w (Sep [ai b S'.cells.toArray 86,held (rT S' C'),B])):St w0 w (star (tA b S C) B) :=
 St.y7 (f:=λ p:{ p:Sx×Ck // p.1.er=S/\p.2.er=C/\E3 p.1 }=>star (ai b p.1.1.cells.toArray 86) (held (rT p.1.1 p.1.2))) ⟨(S',C'),h1,h2,hk⟩ (s.triple.eqv bw.assoc')
theorem BD(h:lW S.er C.er):lW S C:=h.er (gC S).symm (FF C).symm
def Sg(S:Sx)(C:Ck)(e:Ev):Sx×Ck:=if xO S C e=0 then ((Kv S C e).er,(Tt S C e).er) else (S,C)
theorem Tv(hok:lW S C){e:Ev}(hi:e.In):lW (Sg S C e).1 (Sg S C e).2:=by
 unfold Sg
 by_cases h:xO S C e=0
 ·rw[if_pos h]; exact(Md hok h hi).1.er (gC _) (FF _)
 ·rw[if_neg h]; exact hok
theorem Mf(s:St w0 w (star (tA b S C) B))(hok:lW S C){e:Ev}(hi:e.In) :
  CP 31 #[pt b,e.v] w (λ r w'=>r=iv (xO S C e)/\St w0 w' (star (tA b (Sg S C e).1 (Sg S C e).2) B)):=by
 obtain⟨S',C',rfl,rfl,hk,s1⟩:=rQ s;have hok' : lW S' C':=BD hok;refine an (Ph s1 hok' hk hi) ?_;rintro v w1 ⟨rfl,k1,k2⟩;refine⟨_,rfl,by rw[Mb],?_⟩;unfold Sg;rw[Mb]
 by_cases h:xO S' C' e=0
 ·obtain⟨S2,C2,e1,e2,hg,s2⟩:=k2 h;have phN:=(Md hok' h hi).2;have hph:S2.ph=(Kv S' C' e).ph:=show S2.er.ph=(Kv S' C' e).er.ph by rw[e1]
  rw[if_pos h];exact vX (e1.trans (Tu S' C' e).symm) (e2.trans (uP S' C' e).symm) ⟨λ x=>absurd (hph.symm.trans x) phN,λ _=>hg⟩ s2
 ·rw[if_neg h];exact vX rfl rfl hk (k1 h)
end
def Rv(l:List Ev)(X:Sx×Ck):Sx×Ck:=l.foldl (λ X e=>Sg X.1 X.2 e) X
def made(o:Po)(l:List Ev):Sx×Ck:=Rv l (ql o,WS)
theorem K5(o:Po)(l:List Ev)(e:Ev):made o (l++[e])=Sg (made o l).1 (made o l).2 e:=by unfold made Rv; rw[List.foldl_append]; rfl
theorem rF(o:Po)(l:List Ev)(h:∀ e∈l,e.In):lW (made o l).1 (made o l).2:=by
 suffices H:∀ (l:List Ev) (X:Sx×Ck),(∀ e∈l,e.In)->lW X.1 X.2->lW (Rv l X).1 (Rv l X).2 from H l _ h (UH o)
 intro l
 induction l with
 | nil=>exact λ _ _ h=>h
 | cons e l ih=>exact λ X h hX=>ih _ (λ x hx=>h x (List.mem_cons_of_mem _ hx)) (Tv hX (h e (List.mem_cons_self ..)))
def Oi(x y A:Int):Int:=if x<y then -1 else if x>y then 1 else A
theorem nS(x y A:Int):(x<y/\Oi x y A=-1)\/(x=y/\Oi x y A=A)\/(x>y/\Oi x y A=1):=by
 unfold Oi;rcases Int.lt_trichotomy x y with h|h|h
 ·exact .inl ⟨h,if_pos h⟩
 ·exact .inr (.inl ⟨h,by rw[if_neg (by omega),if_neg (by omega)]⟩)
 ·exact .inr (.inr ⟨h,by rw[if_neg (by omega),if_pos (by omega)]⟩)
def fY(u v:I6):Nat->Int
 | 0=>0
 | n+1=>Oi (u.at' (5-n)) (v.at' (5-n)) (fY u v n)
abbrev KA (u v:I6):Int:=fY u v 6
theorem Mu(u v w:I6):∀ n,fY u v n<=0->fY v w n<=0->fY u w n<=0/\(fY u v n<0\/fY v w n<0->fY u w n<0)
 | 0,_,_=>⟨by simp[fY],λ h=>by simp[fY] at h⟩
 | n+1,h1,h2=>by
  have ih:=Mu u v w n;simp only[fY] at h1 h2 ⊢;rcases nS (u.at' (5-n)) (v.at' (5-n)) (fY u v n) with⟨a1,e1⟩|⟨a1,e1⟩|⟨a1,e1⟩ <;>rcases nS (v.at' (5-n)) (w.at' (5-n)) (fY v w n) with⟨a2,e2⟩|⟨a2,e2⟩|⟨a2,e2⟩ <;>rcases nS (u.at' (5-n)) (w.at' (5-n)) (fY u w n) with⟨a3,e3⟩|⟨a3,e3⟩|⟨a3,e3⟩ <;>rw[e1] at h1<;>rw[e2] at h2<;>rw[e1,e2,e3] <;>
  first
   | (exfalso; omega)
   | exact⟨by omega,λ _=>by omega⟩
   | exact ih h1 h2
theorem DP(u v:I6):∀ n,fY v u n=- fY u v n
 | 0=>rfl
 | n+1=>by
  have ih:=DP u v n;simp only[fY];rcases nS (u.at' (5-n)) (v.at' (5-n)) (fY u v n) with⟨a1,e1⟩|⟨a1,e1⟩|⟨a1,e1⟩ <;>rcases nS (v.at' (5-n)) (u.at' (5-n)) (fY v u n) with⟨a2,e2⟩|⟨a2,e2⟩|⟨a2,e2⟩ <;>rw[e1,e2]<;>omega
def oZ(u v:I6):Bool:=decide (KA u v<0)
theorem JE{u v:I6}(h:oZ u v=true):oZ v u=false:=by
 have h1:fY u v 6<0:=of_decide_eq_true h;have:=DP u v 6;exact dF (show ¬ fY v u 6<0 by omega)
theorem SM{u v w:I6}(h:oZ u v=true)(k:oZ w v=false):oZ u w=true:=by
 have h1:fY u v 6<0:=of_decide_eq_true h;have h2 : ¬ fY w v 6<0:=of_decide_eq_false k;have h3:=DP w v 6;exact dT ((Mu u v w 6 (by omega) (by omega)).2 (.inl h1))
theorem Wa{u v w:I6}(h:oZ v u=false)(k:oZ w v=false):oZ w u=false:=by
 cases e:oZ w u with
 | false=>rfl
 | true=>rw[SM e h] at k; cases k
def fy(x:I6):List I6->List I6
 | []=>[x]
 | y :: l=>if oZ x y=true then x :: y :: l else y :: fy x l
def bz(l:List I6):List I6:=l.foldl (λ o x=>fy x o) []
theorem BE(l:List I6)(x:I6):bz (l++[x])=fy x (bz l):=by unfold bz; rw[List.foldl_append]; rfl
theorem AQ(x:I6):∀ l:List I6,(fy x l).length=l.length+1
 | []=>rfl
 | y :: l=>by
  unfold fy
  split
  ·rfl
  ·rw[List.length_cons,AQ x l,List.length_cons]
theorem F6{x z:I6}:∀ {l:List I6},z∈fy x l<->z=x\/z∈l
 | []=>by simp[fy]
 | y :: l=>by
  unfold fy
  split
  ·simp
  ·rw[List.mem_cons,F6,List.mem_cons];constructor
   ·rintro(h|h|h)
    ·exact .inr (.inl h)
    ·exact .inl h
    ·exact .inr (.inr h)
   ·rintro(h|h|h)
    ·exact .inr (.inl h)
    ·exact .inl h
    ·exact .inr (.inr h)
theorem jK(l:List I6):(bz l).length=l.length:=by
 suffices H:∀ (l o:List I6),(l.foldl (λ o x=>fy x o) o).length=o.length+l.length by
  have:=H l [];simpa[bz] using this
 intro l
 induction l with
 | nil=>intro o; simp
 | cons x l ih=>intro o; rw[List.foldl_cons,ih,AQ,List.length_cons]; omega
abbrev Tn (l:List I6):Prop:=l.Pairwise λ a b=>oZ b a=false
theorem F7{x:I6}:∀ {l:List I6},Tn l->Tn (fy x l)
 | [],_=>by simp[fy]
 | y :: l,h=>by
  obtain⟨h1,h2⟩:=List.pairwise_cons.1 h;unfold fy
  split
  ·rename_i g;refine List.pairwise_cons.2 ⟨λ z hz=>?_,h⟩;rcases List.mem_cons.1 hz with rfl|hz
   ·exact JE g
   ·exact Wa (JE g) (h1 z hz)
  ·rename_i g;refine List.pairwise_cons.2 ⟨λ z hz=>?_,F7 h2⟩;rcases F6.1 hz with rfl|hz
   ·simpa using g
   ·exact h1 z hz
theorem LH(l:List I6):Tn (bz l):=by
 suffices H:∀ (l o:List I6),Tn o->Tn (l.foldl (λ o x=>fy x o) o) from H l [] List.Pairwise.nil
 intro l
 induction l with
 | nil=>intro o h; exact h
 | cons x l ih=>intro o h; exact ih _ (F7 h)
theorem vf{x:I6}{q:List I6}(hq:∀ y∈q,oZ x y=true):∀ {p:List I6},(∀ y∈p,oZ x y=false)->fy x (p++q)=p++x :: q
 | [],_=>by
  cases q with
  | nil=>rfl
  | cons y q=>show(if oZ x y=true then _ else _)=_; rw[if_pos (hq y (by simp))]; rfl
 | y :: p,h=>by
  show(if oZ x y=true then x :: y :: (p++q) else y :: fy x (p++q))=_;rw[if_neg (by rw[h y (by simp)]; simp),vf hq λ z hz=>h z (by simp[hz])]; rfl
theorem KT{x y:I6}{p q:List I6}(hs:Tn (p++[y]++q))(hq:∀ z∈q,oZ x z=true)(h:oZ x y=false):fy x (p++[y]++q)=p++[y]++x :: q:=by
 refine vf hq λ z hz=>?_;rcases List.mem_append.1 hz with hz|hz
 ·have h1:=(List.pairwise_append.1 (List.pairwise_append.1 hs).1).2.2 z hz y (by simp)
  cases e:oZ x z with
  | false=>rfl
  | true=>rw[SM e h1] at h; cases h
 ·rw[List.mem_singleton.1 hz]; exact h
def CX(x:Rn)(w:World):Prop:=bG 6 I6.vs w x.xa x.ask/\bG 1 bl w x.ba x.bd
theorem Iq{w:World}{x:Rn}{n:Nat}(h:x.In w)(hz:x.Sz n)(hn:n<=1000) :
  CP 78 #[.agg x.cells.toArray] w (λ r w'=>∃ x' : Rn,x'.er=x.er/\r=.agg x'.cells.toArray/\St w w' (star (held (CX x')) (eJ x'.ga x'.gc x'.got))):=by
 refine gN ?_;unfold fo;have z1:=hz.ask; have z2:=hz.got; have z3:=hz.bd;refine(St.start w).one.aB x.cells.toArray λ r1 w1 s1=>s1.aB Vu.cells.toArray λ r2 w2 s2=>?_;have s3:=s2.quiet (Chg.drew w2 []);refine⟨_,_,_,s3.ag 1 rfl 6,_,_,_,s3.ag 1 rfl 7,_,_,_,s3.ag 1 rfl 8,an (hU (h.aA s3.aA).ask (by omega)) ?_⟩;rintro v w3 ⟨a1,rfl,k1⟩;have s4:St w w3 (Sep [_,_,_,_]):=s3.and k1;refine⟨_,_,_,rfl,s4.ag 2 rfl 8,s4.ag 2 rfl 7,an (hU (h.aA s4.aA).got (by omega)) ?_⟩;rintro v w4 ⟨a2,rfl,k2⟩;have s5:St w w4 (Sep [_,_,_,_,_]):=s4.and k2;refine⟨_,_,_,rfl,s5.ag 3 rfl 8,an (rz (h.aA s5.aA).bd (by omega)) ?_⟩;rintro v w5 ⟨a3,rfl,k3⟩;have s6:St w w5 (Sep [_,_,_,_,_,_]):=s5.and k3;let x' : Rn:={ x with xa:=some ⟨a1,0,none⟩,xc:=x.ask.length,ga:=some ⟨a2,0,none⟩,gc:=x.got.length,ba:=some ⟨a3,0,none⟩,bc:=x.bd.length };refine⟨_,_,_,rfl,s6.aJ 4 rfl (j:=6) (show 6<9 by decide) rfl λ w6 s7=>s7.aJ 4 rfl (j:=7) (show 7<9 by decide) rfl λ w7 s8=>s8.aJ 4 rfl (j:=8) (show 8<9 by decide) rfl λ w8 s9=>?_⟩;refine⟨x.p,_,_,_,_,_,_,_,_,_,s9.cellsIn 4 rfl,s9.aC 3 rfl x'.cells rfl x'.one λ w9 s10=>⟨x.p,_,_,_,_,_,_,_,_,_,s10.cellsIn 3 rfl,x',rfl,rfl,?_⟩⟩;exact((s10.ay [0,2,1]).j4 (S:=CX x') (bh jd) (bh aR) λ w' h1 h2=>⟨h2,h1⟩).pair
def LG(w0 w:World)(a:OA)(c:Nat)(l:List Rn):Prop :=
 (l=[]/\St w0 w (Sep [J1 a c l,emp]))\/∃ (l0:List Rn) (x:Rn),l=l0++[x]/\St w0 w (Sep [J1 a c l,eJ x.ga x.gc x.got,held (λ w=>jk l0 w/\CX x w),emp])
theorem LG.all{w0 w:World}{a:OA}{c:Nat}{l:List Rn}(h:LG w0 w a c l):St w0 w (Sep [J1 a c l,held (jk l),emp]):=by
 rcases h with⟨rfl,s⟩|⟨l0,x,rfl,s⟩
 ·exact(s.qf (Q:=jk []) (λ _ x hx=>by cases hx)).ay [1,0,2]
 ·exact((s.ay [1,2,0,3]).j4 (S:=jk (l0++[x])) (bh aR) (aU _) λ w' h1 h2 y hy=>(List.mem_append.1 hy).elim (h2.1 y) λ e=>by rw[List.mem_singleton.1 e]; exact⟨h2.2.1,h1,h2.2.2⟩).ay [1,0,2]
theorem PO{w:World}{a:OA}{c:Nat}{l:List Rn}{n:Nat}(h:bG 9 Rn.cells w a l)(hi:jk l w)(hz:∀ x∈l,x.Sz n)(hn:n<=1000)(hl:l.length<=1000) :
  CP 77 #[.slice a l.length c,.func (.func 78) #[] #[]] w (λ r w'=>∃ l' a' c',l'.map Rn.er=l.map Rn.er/\r=.slice a' l'.length c'/\LG w w' a' c' l'):=by
 refine jm ?_;unfold gZ;refine⟨λ a2 l2 c2 n1 w1 m=>∃ (k:Nat) (l' : List Rn),n1=k/\k<=l.length/\m=l.length-k/\l2=l'.length/\l'.length=k/\l'.map Rn.er=(l.take k).map Rn.er/\LG w w1 a2 c2 l',⟨l.length,0,[],rfl,by omega,by omega,rfl,rfl,rfl,.inl ⟨rfl,(St.start w).one.cV⟩⟩,?_⟩
 rintro w1 m a2 l2 c2 n1 ⟨k,l',rfl,hk,hm,rfl,hlen,he,g1⟩ -
 by_cases hlt:(k:Int)<(l.length:Int)
 ·have hx:l[k]?=some (l[k]'(by omega)):=gE (by omega);generalize l[k]'(by omega)=x at hx;have hm:=List.mem_of_getElem? hx;have s1:=g1.all;obtain⟨q,hq,hcl⟩:=(h.aA s1.aA).at hx;refine cT (dT hlt) (aq hq ⟨by omega,by omega,x.p,_,_,_,_,_,_,_,_,_,hcl,s1.aB Vu.cells.toArray λ r1 w2 s2=>s2.aC 0 rfl x.cells rfl x.one λ w3 s3=>⟨x.p,_,_,_,_,_,_,_,_,_,s3.cellsIn 0 rfl,?_⟩⟩);refine br (by kernel_rfl) (an (Iq ((hi x hm).aA s3.aA) (hz x hm) hn) ?_);rintro v w4 ⟨x',ex,rfl,k4⟩;have s4:St w w4 (Sep [held (CX x'),eJ x'.ga x'.gc x'.got,_,J1 a2 c2 l',held (jk l'),emp]):=(s3.and k4).two;refine⟨x'.p,_,_,_,_,_,_,_,_,_,rfl,eK RN Rn.len (x:=x') x'.one (s4.out 3 rfl) (by omega) (by omega) (λ a' c' w' s5=>?_) rfl⟩;refine⟨l.length-(k+1),by omega,k+1,l'++[x'],aF ⟨by omega,by omega⟩,by omega,rfl,rfl,by simp[hlen],Jh he hx ex,.inr ⟨l',x',rfl,?_⟩⟩;have s6:St w w' (Sep [J1 a' c' (l'++[x']),held (CX x'),eJ x'.ga x'.gc x'.got,_,held (jk l'),emp]):=s5;exact(((s6.ay [1,4,0,2,5]).j4 (S:=λ w=>jk l' w/\CX x' w) (aU _) (aU _) λ w'' h1 h2=>⟨h2,h1⟩).ay [1,2,0,3])
 ·obtain rfl:l.length=k:=by omega
  rw[List.take_length] at he;exact cF (dF hlt) ⟨l',_,_,he,rfl,g1⟩
theorem AX{b:Nat}{C:Ck}{w:World}(h:C.Rd b w)(hk:C.Ok):CP 51 #[.pointer (some ⟨b,0,none⟩)] w (λ r w'=>∃ l' a' c',l'.map Rn.er=C.cl.map Rn.er/\r=.slice a' l'.length c'/\LG w w' a' c' l'):=by
 refine gM ?_;unfold fm;refine⟨_,_,_,h.cell 8 rfl,an (PO h.cl h.i.cl hk.cz (by have:=hk.s.bd.l2; omega) (by have:=hk.cl; omega)) ?_⟩;rintro v w1 ⟨l',a',c',e,rfl,s⟩;exact⟨_,_,_,rfl,l',a',c',e,rfl,s⟩
theorem Ja{u v:I6}{n:Nat}(h:u.at' (5-n)=v.at' (5-n)):fY u v (n+1)=fY u v n:=by
 show Oi _ _ _=_;unfold Oi;rw[if_neg (by omega),if_neg (by omega)]
theorem Hz(w:World)(u v:I6):CP 46 #[.agg u.vs.toArray,.agg v.vs.toArray] w (λ r w'=>r=iv (KA u v)/\Chg w w' []):=by
 refine uC ?_;unfold pI;refine(St.start w).one.aB u.vs.toArray λ r1 w1 s1=>s1.aB v.vs.toArray λ r2 w2 s2=>?_;have s2:St w w2 (Sep [ai r2 v.vs.toArray 39,ai r1 u.vs.toArray 39,emp]):=s2;refine⟨λ n w3 m=>∃ k:Nat,n=k/\k<=6/\m=6-k/\KA u v=fY u v (6-k)/\St w w3 (Sep [ai r2 v.vs.toArray 39,ai r1 u.vs.toArray 39,emp]),⟨6,0,rfl,by omega,by omega,rfl,s2⟩,?_⟩;rintro w3 m n ⟨k,rfl,hk,hm,ha,s⟩ -
 by_cases hlt:(k:Int)<6
 ·have hk' : k<6:=by omega
  obtain⟨j,hj⟩:∃ j,6-k=j+1:=⟨5-k,by omega⟩;have hk5:5-j=k:=by omega
  have s3:=s.quiet (Chg.drew _ _);have s4:=s3.quiet (Chg.drew _ _);refine cT (dT hlt) ⟨by omega,by omega,u.at' k,by rw[fj,aI s3 1 rfl hk'],by omega,by omega,v.at' k,by rw[fj,aI s3 0 rfl hk'],?_⟩;rw[hj] at ha;rcases nS (u.at' k) (v.at' k) (fY u v j) with⟨a1,e1⟩|⟨a1,e1⟩|⟨a1,e1⟩
  ·refine cT (dT a1) ⟨?_,s3.aA⟩;rw[ha];show iv (-1)=iv (Oi (u.at' (5-j)) (v.at' (5-j)) _);rw[hk5,e1]
  ·refine cF (dF (by omega)) ⟨by omega,by omega,u.at' k,by rw[fj,aI s4 1 rfl hk'],by omega,by omega,v.at' k,by rw[fj,aI s4 0 rfl hk'],?_⟩;refine cF (dF (by omega)) ⟨6-(k+1),by omega,k+1,inc (by decide) hk',by omega,rfl,?_,s4⟩;rw[ha,Ja (by rw[hk5]; exact a1),show 6-(k+1)=j by omega]
  ·refine cF (dF (by omega)) ⟨by omega,by omega,u.at' k,by rw[fj,aI s4 1 rfl hk'],by omega,by omega,v.at' k,by rw[fj,aI s4 0 rfl hk'],?_⟩;refine cT (dT a1) ⟨?_,s4.aA⟩;rw[ha];show iv 1=iv (Oi (u.at' (5-j)) (v.at' (5-j)) _);rw[hk5,e1]
 ·obtain rfl:k=6:=by omega
  refine cF (dF hlt) ⟨?_,s.aA⟩;rw[ha]; rfl
def j5(p:List I6)(x:I6)(j:Nat)(r:List I6):List I6:=p.take j++x :: (p.drop j++r)
section
variable {p r:List I6} {x y:I6} {j:Nat}
theorem F4(h:j<=p.length):(j5 p x j r).length=p.length+1+r.length:=by
 unfold j5;rw[List.length_append,List.length_cons,List.length_append,List.length_take,List.length_drop]; omega
theorem D6(h:j<=p.length):(j5 p x j r)[j]?=some x:=by
 unfold j5;rw[List.getElem?_append_right (by rw[List.length_take]; omega),List.length_take,Nat.min_eq_left h,Nat.sub_self]; rfl
theorem rD{i:Nat}(h:i<j)(hp:j<=p.length):(j5 p x j r)[i]?=p[i]?:=by
 unfold j5;rw[List.getElem?_append_left (by rw[List.length_take]; omega),List.getElem?_take,if_pos h]
theorem tS{i:Nat}(h:j<i)(hp:j<=p.length):(j5 p x j r)[i]?=(p++r)[i-1]?:=by
 unfold j5;rw[List.getElem?_append_right (by rw[List.length_take]; omega),List.length_take,Nat.min_eq_left hp];obtain⟨k,rfl⟩:∃ k,i=j+1+k:=⟨i-(j+1),by omega⟩;rw[show j+1+k-j=k+1 by omega,List.getElem?_cons_succ,show j+1+k-1=j+k by omega];rw[<- List.drop_append_of_le_length hp,List.getElem?_drop]
theorem KS(hj:j<p.length)(hy:p[j]?=some y):((j5 p x (j+1) r).set (j+1) y).set j x=j5 p x j r:=by
 refine List.ext_getElem? λ i=>?_;have hl:=F4 (r:=r) (x:=x) (p:=p) (j:=j+1) (by omega);rcases Nat.lt_trichotomy i j with h|rfl|h
 ·rw[List.getElem?_set_ne (by omega),List.getElem?_set_ne (by omega),rD (by omega) (by omega),rD h (by omega)]
 ·rw[List.getElem?_set_self (by rw[List.length_set]; omega),D6 (by omega)]
 ·rw[List.getElem?_set_ne (by omega)];rcases Nat.lt_or_ge (j+1) i with h2|h2
  ·rw[List.getElem?_set_ne (by omega),tS h2 (by omega),tS h (by omega)]
  ·obtain rfl:i=j+1:=by omega
   rw[List.getElem?_set_self (by omega),tS h (by omega),Nat.add_sub_cancel,List.getElem?_append_left hj,hy]
theorem Nc(x:I6)(p r:List I6):j5 p x p.length r=p++x :: r:=by
 unfold j5;rw[List.take_length,List.drop_length,List.nil_append]
theorem KR(hs:Tn p)(hj:j<=p.length)(hq:∀ z∈p.drop j,oZ x z=true)(h:∀ y,0<j->p[j-1]?=some y->oZ x y=false):j5 p x j r=fy x p++r:=by
 have e:fy x p=p.take j++x :: p.drop j:=by
  cases j with
  | zero =>
   have:=vf (p:=[]) hq (by simp);simpa using this
  | succ j =>
   have hy:p[j]?=some (p[j]'(by omega)):=gE (by omega);generalize p[j]'(by omega)=y at hy;have ht:p.take (j+1)=p.take j++[y]:=aH hy;have hp:p.take j++[y]++p.drop (j+1)=p:=by rw[<- ht,List.take_append_drop]
   have:=KT (x:=x) (y:=y) (p:=p.take j) (q:=p.drop (j+1)) (by rw[hp]; exact hs) hq (h y (by omega) hy);rw[hp] at this;rw[this,ht]
 unfold j5;rw[e,List.append_assoc,List.cons_append]
end
theorem RQ{l:List I6}{i:Nat}{x:I6}(hx:l[i]?=some x):bz (l.take i)++l.drop i=j5 (bz (l.take i)) x i (l.drop (i+1)):=by
 have hi:=(List.getElem?_eq_some_iff.1 hx).1;have hl:(bz (l.take i)).length=i:=by rw[jK,List.length_take]; omega
 have:=Nc x (bz (l.take i)) (l.drop (i+1));rw[hl] at this;rw[this];obtain⟨_,rfl⟩:=List.getElem?_eq_some_iff.1 hx;rw[List.drop_eq_getElem_cons hi]
theorem Ou{l:List I6}{i:Nat}{x:I6}(hx:l[i]?=some x):fy x (bz (l.take i))++l.drop (i+1)=bz (l.take (i+1))++l.drop (i+1):=by
 rw[aH hx,BE]
def e9(a:OA)(b c:Nat)(d:Value)(w:World)(K:KP):=CC 70 #[.slice a b c,d] w λ e f=>∃ g,e=.returned (iv g)/\cond (g==(-1:Int)) (K (.slice a b c) f) (∃ e:Int->Int->qN,(∃ h,e g (IntKind.i64.wrap (g+1)) f h)/\∀ f h g i,e g i f h->∀ j:qv,cond (decide (i<(b:Int))) (∃ j:Int->qW,(∀ k l,j l k->∀ m:qv,∃ m,m<h/\e l (IntKind.i64.wrap (i+1)) k m)/\au a λ e=>0<=i/\i<(b:Int)/\∃ h:I6,af f (Addr.add e ((i).toNat*6)) 0 h.vs/\av f (.cells z6.vs.toArray 39) λ e i=>aK (qd e 0) 0 h.vs i λ h=>∃ i:I6,af h (qd e 0) 0 i.vs/\cO prog d #[.agg i.vs.toArray] h λ d h=>∃ i,d=.returned (.bool i)/\cond (!i) (∃ d:I6,af h (qd e 0) 0 d.vs/\au a λ e=>0<=g/\g<(b:Int)/\aK (Addr.add e ((g).toNat*6)) 0 d.vs h λ d=>j (IntKind.i64.wrap (g+1)) d) (j g h)) (0<=g/\g<=(b:Int)/\bp prog (Builtin.clear_ #[41] 0 #[.slice (if c=(g).toNat then a else Option.map (λ x=>Addr.add x ((g).toNat*6)) a) (b-(g).toNat) (c-(g).toNat)]) f λ _e1 b=>0<=g/\g<=(c:Int)/\K (.slice (if c=0 then a else Option.map (λ x=>Addr.add x (0*6)) a) ((g).toNat-0) (c-0)) b))
theorem jF{a1 l1 c1 v1 w K}(h:e9 a1 l1 c1 v1 w K):CP 43 #[.slice a1 l1 c1,v1] w K:=ah (aE [(122,[(5,.s (.int .i64)),(6,.s (.int .i64))]),(489,[(5,.s (.int .i64))])]) func43 (by kernel_rfl) (by kernel_rfl) h
def fN(a:OA)(b c:Nat)(d:Value)(w:World)(K:KP):=∃ c:Int->qN,(∃ e,c 0 w e)/\∀ f e g,c g f e->∀ h:qv,cond (decide (g<(b:Int))) (au a λ a=>0<=g/\g<(b:Int)/\∃ b:I6,af f (Addr.add a ((g).toNat*6)) 0 b.vs/\cO prog d #[.agg b.vs.toArray] f λ a b=>∃ d,a=.returned (.bool d)/\cond d (K (iv g) b) (∃ a,a<e/\c (IntKind.i64.wrap (g+1)) b a)) (K (iv (-1)) f)
theorem kj{a1 l1 c1 v1 w K}(h:fN a1 l1 c1 v1 w K):CP 70 #[.slice a1 l1 c1,v1] w K:=ah (aE [(26,[(8,.s (.int .i64))])]) func70 (by kernel_rfl) (by kernel_rfl) h
def gz(a:OA)(b c:Nat)(d:Value)(w:World)(K:KP):=CC 72 #[.int .u64 (IntKind.u64.wrap (b:Int))] w λ e f=>∃ g,e=.returned (iv g)/\CC 71 #[.slice a b c,qz,iv (b:Int),iv g,d] f λ a b=>a=.returned (.tuple #[])/\K (.tuple #[]) b
theorem kG{a1 l1 c1 v1 w K}(h:gz a1 l1 c1 v1 w K):CP 45 #[.slice a1 l1 c1,v1] w K:=ah (aE []) func45 (by kernel_rfl) (by kernel_rfl) h
def cj(a:OA)(b c:Nat)(d e:Int)(f:Value)(w:World)(K:KP):=∃ c:Int->qN,(∃ g,c (IntKind.i64.wrap (d+1)) w g)/\∀ h g i,c i h g->∀ j:qv,cond (decide (i<e)) (∃ e:Int->qN,(∃ j,e i h j)/\∀ k j l,e l k j->∀ m:qv,∃ m:Bool->qW,(∀ n o,m o n->∀ p:qv,cond o (au a λ o=>0<=(IntKind.i64.wrap (l-1))/\(IntKind.i64.wrap (l-1))<(b:Int)/\∃ p:I6,af n.drew (Addr.add o (((IntKind.i64.wrap (l-1))).toNat*6)) 0 p.vs/\au a λ o=>0<=l/\l<(b:Int)/\∃ q:I6,af n.drew (Addr.add o ((l).toNat*6)) 0 q.vs/\au a λ o=>0<=l/\l<(b:Int)/\aK (Addr.add o ((l).toNat*6)) 0 p.vs n.drew λ o=>au a λ p=>0<=(IntKind.i64.wrap (l-1))/\(IntKind.i64.wrap (l-1))<(b:Int)/\aK (Addr.add p (((IntKind.i64.wrap (l-1))).toNat*6)) 0 q.vs o λ o=>∃ p,p<j/\e (IntKind.i64.wrap (l-1)) o p) (∃ e,e<g/\c (IntKind.i64.wrap (i+1)) n e))/\cond (decide (l>d)) (au a λ c=>0<=l/\l<(b:Int)/\∃ d:I6,af k.drew (Addr.add c ((l).toNat*6)) 0 d.vs/\au a λ a=>0<=(IntKind.i64.wrap (l-1))/\(IntKind.i64.wrap (l-1))<(b:Int)/\∃ b:I6,af k.drew (Addr.add a (((IntKind.i64.wrap (l-1))).toNat*6)) 0 b.vs/\cO prog f #[.agg d.vs.toArray,.agg b.vs.toArray] k.drew λ a b=>∃ c,a=.returned (iv c)/\m (decide (c<0)) b) (m false k.drew)) (K (.tuple #[]) h)
theorem dV{a1 l1 c1 n1 n2 v1 w K}(h:cj a1 l1 c1 n1 n2 v1 w K):CP 105 #[.slice a1 l1 c1,iv n1,iv n2,v1] w K:=ah (aE [(6,[(8,.s (.int .i64))]),(402,[(9,.s (.int .i64))]),(1608,[(34,.s .bool)])]) func105 (by kernel_rfl) (by kernel_rfl) h
def di(a:OA)(b c:Nat)(d e f:Int)(g:Value)(w:World)(K:KP):=∃ h:Int->Int->Int->Bool->Bool->qN,(∃ i,h d e f true true w i)/\∀ d i e f j k l,h e f j k l d i->∀ m:qv,cond (decide ((IntKind.i64.wrap (f-e))<=(12:Int))) (CC 105 #[.slice a b c,iv e,iv f,g] d λ m n=>m=.returned (.tuple #[])/\K (.tuple #[]) n) (cond (j==0) (CC 106 #[.slice a b c,iv e,iv f,g] d λ m n=>m=.returned (.tuple #[])/\K (.tuple #[]) n) (∃ m:Int->qW,(∀ n o,m o n->∀ p:qv,CC 108 #[.slice a b c,iv e,iv f,g] n λ n p=>∃ q r,n=.returned (.tuple #[iv q,iv r])/\∃ n:Int->Int->qW,(∀ s t u,n t u s->∀ v:qv,∃ v:qW,(∀ x,v x->∀ y:qv,∃ y:Bool->qW,(∀ z A,y A z->∀ B:qv,cond A (CC 111 #[.slice a b c,iv e,iv f,iv t,g] z λ A B=>∃ C,A=.returned (iv C)/\∃ A,A<i/\h C f o k l B A) (CC 112 #[.slice a b c,iv e,iv f,iv t,g] z λ z B=>∃ C D,z=.returned (.tuple #[iv C,.bool D])/\(8:Int)≠0/\cond (decide ((IntKind.i64.wrap (C-e))<(IntKind.i64.wrap (f-C)))) (CC 71 #[.slice a b c,iv e,iv C,iv o,g] B λ z E=>z=.returned (.tuple #[])/\∃ A,A<i/\h (IntKind.i64.wrap (C+1)) f o (decide ((IntKind.i64.wrap (C-e))>=(IntKind.i64.wrap (Int.tdiv (IntKind.i64.wrap (f-e)) (8:Int))))) D E A) (CC 71 #[.slice a b c,iv (IntKind.i64.wrap (C+1)),iv f,iv o,g] B λ z B=>z=.returned (.tuple #[])/\∃ A,A<i/\h e C o (decide ((IntKind.i64.wrap (f-C))>=(IntKind.i64.wrap (Int.tdiv (IntKind.i64.wrap (f-e)) (8:Int))))) D B A)))/\cond (decide (e>0)) (au a λ h=>0<=(IntKind.i64.wrap (e-1))/\(IntKind.i64.wrap (e-1))<(b:Int)/\∃ i:I6,af x.drew (Addr.add h (((IntKind.i64.wrap (e-1))).toNat*6)) 0 i.vs/\au a λ h=>0<=t/\t<(b:Int)/\∃ o:I6,af x.drew (Addr.add h ((t).toNat*6)) 0 o.vs/\cO prog g #[.agg i.vs.toArray,.agg o.vs.toArray] x.drew λ h i=>∃ o,h=.returned (iv o)/\y (!(decide (o<0))) i) (y false x.drew))/\∃ h:Bool->qW,(∀ i o,h o i->∀ t:qv,cond o (CC 110 #[.slice a b c,iv e,iv f,g] i λ o t=>∃ x,o=.returned (.bool x)/\cond x (K (.tuple #[]) t) (v t)) (v i))/\cond k (cond l (h (u==1) s) (h false s)) (h false s))/\cond (r==2) (CC 109 #[.slice a b c,iv e,iv f,g] p λ h i=>h=.returned (.tuple #[])/\n (IntKind.i64.wrap ((IntKind.i64.wrap (f-1))-(IntKind.i64.wrap (q-e)))) (1:Int) i) (n q r p))/\cond (!k) (CC 107 #[.slice a b c,iv e,iv f,g] d λ a b=>a=.returned (.tuple #[])/\m (IntKind.i64.wrap (j-1)) b) (m j d)))
theorem gK{a1 l1 c1 n1 n2 n3 v1 w K}(h:di a1 l1 c1 n1 n2 n3 v1 w K):CP 71 #[.slice a1 l1 c1,iv n1,iv n2,iv n3,v1] w K:=ah (aE [(14,[(1,.s (.int .i64)),(2,.s (.int .i64)),(3,.s (.int .i64)),(10,.s .bool),(11,.s .bool)]),(455,[(3,.s (.int .i64))]),(1823,[(13,.s (.int .i64)),(14,.s (.int .i64))]),(3647,[]),(14590,[(97,.s .bool)]),(7294,[(75,.s .bool)])]) func71 (by kernel_rfl) (by kernel_rfl) h
def Fh(a:Int)(w:World)(K:KP):=CC 114 #[.int .u64 a] w λ a b=>∃ c,a=.returned (iv c)/\K (iv c) b
theorem Fi{n1 w K}(h:Fh n1 w K):CP 72 #[.int .u64 n1] w K:=ah (aE []) func72 (by kernel_rfl) (by kernel_rfl) h
def bits_Len64(a:Int)(w:World)(K:KP):=∃ b:Int->Int->qW,(∀ c d e,b d e c->∀ f:qv,∃ f:Int->Int->qW,(∀ g h i,f h i g->∀ j:qv,∃ j:Int->Int->qW,(∀ k l m,j l m k->∀ n:qv,0<=(IntKind.u8.wrap l)/\au (bs [0,1,2,2,3,3,3,3,4,4,4,4,4,4,4,4,5,5,5,5,5,5,5,5,5,5,5,5,5,5,5,5,6,6,6,6,6,6,6,6,6,6,6,6,6,6,6,6,6,6,6,6,6,6,6,6,6,6,6,6,6,6,6,6,7,7,7,7,7,7,7,7,7,7,7,7,7,7,7,7,7,7,7,7,7,7,7,7,7,7,7,7,7,7,7,7,7,7,7,7,7,7,7,7,7,7,7,7,7,7,7,7,7,7,7,7,7,7,7,7,7,7,7,7,7,7,7,7,8,8,8,8,8,8,8,8,8,8,8,8,8,8,8,8,8,8,8,8,8,8,8,8,8,8,8,8,8,8,8,8,8,8,8,8,8,8,8,8,8,8,8,8,8,8,8,8,8,8,8,8,8,8,8,8,8,8,8,8,8,8,8,8,8,8,8,8,8,8,8,8,8,8,8,8,8,8,8,8,8,8,8,8,8,8,8,8,8,8,8,8,8,8,8,8,8,8,8,8,8,8,8,8,8,8,8,8,8,8,8,8,8,8,8,8,8,8,8,8,8,8,8,8,8,8,8,8])[((IntKind.u8.wrap l)).toNat]? λ l=>K (iv (IntKind.i64.wrap (m+(IntKind.i64.wrap (l.toNat:Int))))) k)/\cond (decide (h>=256)) (0<=(8:Int)/\j (Int.fdiv h (2 ^ (min ((8:Int)).toNat IntKind.u64.bits))) (IntKind.i64.wrap (i+8)) g) (j h i g))/\cond (decide (d>=65536)) (0<=(16:Int)/\f (Int.fdiv d (2 ^ (min ((16:Int)).toNat IntKind.u64.bits))) (IntKind.i64.wrap (e+16)) c) (f d e c))/\cond (decide (a>=4294967296)) (0<=(32:Int)/\b (Int.fdiv a (2 ^ (min ((32:Int)).toNat IntKind.u64.bits))) (32:Int) w) (b a 0 w)
theorem BW{n1 w K}(h:bits_Len64 n1 w K):CP 114 #[.int .u64 n1] w K:=ah (aE [(3,[(0,.s (.int .u64)),(2,.s (.int .i64))]),(7,[(0,.s (.int .u64)),(2,.s (.int .i64))]),(15,[(0,.s (.int .u64)),(2,.s (.int .i64))])]) func114 (by kernel_rfl) (by kernel_rfl) h
def oA(a:I6)(w:World)(K:KP):=av w (.cells a.vs.toArray 39) λ a b=>∃ c:I6,af b (qd a 0) 0 c.vs/\K (.bool (I6.beq c z6)) b
theorem tP{u1 w K}(h:oA u1 w K):CP 44 #[.agg u1.vs.toArray] w K:=ah (aE []) func44 (by kernel_rfl) (by kernel_rfl) h
def vN(a:OA)(b c:Nat)(d:Int)(w:World)(K:KP):=0<=(if (8:Int)<(b:Int) then (8:Int) else (b:Int))/\(if (8:Int)<(b:Int) then (8:Int) else (b:Int))<=(c:Int)/\∃ e:OA->Nat->Nat->Int->qN,(∃ f,e none 0 0 0 w f)/\∀ g f h i j k,e h i j k g f->∀ l:qv,cond (decide (k<(((((if (8:Int)<(b:Int) then (8:Int) else (b:Int))).toNat-0):Nat):Int))) (∃ l:OA->Nat->Nat->qW,(∀ m n o p,l n o p m->∀ q:qv,∃ q,q<f/\e n o p (IntKind.i64.wrap (k+1)) m q)/\au (if c=0 then a else Option.map (λ x=>Addr.add x (0*4)) a) λ a=>0<=k/\k<(((((if (8:Int)<(b:Int) then (8:Int) else (b:Int))).toNat-0):Nat):Int)/\∃ b c e f,af g (Addr.add a ((k).toNat*4)) 0 [.string b,iv c,iv e,iv f]/\av g (.cells #[.string (bs []),qz,qz,qz] 92) λ a m=>aK (qd a 0) 0 [.string b,iv c,iv e,iv f] m λ b=>0<=k/\cond ((pF .i64 (Int.fdiv d (2 ^ (min (k).toNat IntKind.i64.bits))) (1:Int))==(1:Int)) (∃ c,b.cell? (qd a 0)=some (.string c)/\av b (.cells #[.string c] 9) λ a c=>bp prog (Builtin.append_ #[42,42] 42 #[.slice h i j,.slice (some (qd a 0)) 1 1]) c λ a c=>∃ d e f,a=(.slice d e f)/\l d e f c) (l h i j b)) (K (.slice h i j) g)
theorem zj{a1 l1 c1 n1 w K}(h:vN a1 l1 c1 n1 w K):CP 47 #[.slice a1 l1 c1,iv n1] w K:=ah (aE [(58,[(5,.s .slice),(14,.s (.int .i64))]),(467,[(5,.s .slice)])]) func47 (by kernel_rfl) (by kernel_rfl) h
def pV(a:Int)(w:World)(K:KP):=av w (.cells #[.bool false,.bool false,.bool false,.bool false] 100) λ b c=>cond (a==1) (aK (qd b 0) 0 [.bool true,.bool true,.bool true,.bool false] c λ d=>∃ e f g h,af d (qd b 0) 0 [.bool e,.bool f,.bool g,.bool h]/\K (.agg #[.bool e,.bool f,.bool g,.bool h]) d) (cond (a==2) (aK (qd b 0) 0 [.bool true,.bool false,.bool false,.bool false] c λ d=>∃ e f g h,af d (qd b 0) 0 [.bool e,.bool f,.bool g,.bool h]/\K (.agg #[.bool e,.bool f,.bool g,.bool h]) d) (cond (a==3) (aK (qd b 0) 0 [.bool true,.bool true,.bool false,.bool true] c λ a=>∃ d e f g,af a (qd b 0) 0 [.bool d,.bool e,.bool f,.bool g]/\K (.agg #[.bool d,.bool e,.bool f,.bool g]) a) (aK (qd b 0) 0 [.bool false,.bool false,.bool false,.bool false] c λ a=>∃ c d e f,af a (qd b 0) 0 [.bool c,.bool d,.bool e,.bool f]/\K (.agg #[.bool c,.bool d,.bool e,.bool f]) a)))
theorem uM{n1 w K}(h:pV n1 w K):CP 39 #[iv n1] w K:=ah (aE []) func39 (by kernel_rfl) (by kernel_rfl) h
def mA(a:Nat)(w:World)(K:KP):=CC 17 #[qp a] w λ a b=>∃ c,a=.returned (.pointer c)/\CC 51 #[.pointer c] b λ a b=>∃ c d e,a=.returned (.slice c d e)/\cond ((d:Int)==(0:Int)) (K qn b) (au c λ a=>0<=(IntKind.i64.wrap ((d:Int)-(1:Int)))/\(IntKind.i64.wrap ((d:Int)-(1:Int)))<(d:Int)/\∃ c e f,b.cell? (Addr.add (Addr.add a (((IntKind.i64.wrap ((d:Int)-(1:Int)))).toNat*9)) 7)=some (.slice c e f)/\K (.slice c e f) b)
theorem sy{b1 w K}(h:mA b1 w K):CP 40 #[.pointer (some ⟨b1,0,none⟩)] w K:=ah (aE []) func40 (by kernel_rfl) (by kernel_rfl) h
def sX(a:Nat)(b c:Int)(w:World)(K:KP):=av w (.cells #[qz,qz,qz,qz,qz,qz,qz,qz,qz,qz,qz,qz,qz,qz,qn,qn,qn] 44) λ d e=>CC 11 #[qp a] e λ e f=>∃ g h i j k l m n o p q r,e=.returned (.agg #[.slice g h i,.slice j k l,.slice m n o,.slice p q r])/\CC 39 #[iv b] f λ e f=>∃ s t u v,e=.returned (.agg #[.bool s,.bool t,.bool u,.bool v])/\av f (.cells #[qn,qn,qn,qn] 34) λ e f=>av f (.cells #[.bool false,.bool false,.bool false,.bool false] 100) λ f x=>aK (qd e 0) 0 [.slice g h i,.slice j k l,.slice m n o,.slice p q r] x λ g=>aK (qd f 0) 0 [.bool s,.bool t,.bool u,.bool v] g λ g=>∃ h:qW,(∀ i,h i->∀ j:qv,CC 17 #[qp a] i λ i j=>∃ k,i=.returned (.pointer k)/\CC 40 #[qp a] j λ i j=>∃ l m n,i=.returned (.slice l m n)/\CC 14 #[qp a] j λ i j=>∃ o,i=.returned (iv o)/\CC 19 #[.pointer k] j λ i j=>∃ p,i=.returned (iv p)/\CC 20 #[.pointer k] j λ i j=>∃ q:I6,i=.returned (.agg q.vs.toArray)/\CC 24 #[.pointer k,iv c] j λ i j=>∃ k r s,i=.returned (.slice k r s)/\av j (.cells #[qz,qz,qz,qz,qz,qz,qz,qz,qz,qz,qz,qz,qz,qz,qn,qn,qn] 44) λ i j=>aK (qd i 0) 0 (iv o :: iv p :: q.on [qz,qz,qz,qz,qz,qz,.slice k r s,qn,qn]) j λ j=>∃ k o p q,af j (qd f 0) 0 [.bool k,.bool o,.bool p,.bool q]/\cond ((k==false)&&((o==false)&&((p==false)&&((q==false)&&true)))) (∃ k o,∃ p q:I6,∃ r s t u v x y z A,af j (qd i 0) 0 (iv k :: iv o :: p.on (q.on [.slice r s t,.slice u v x,.slice y z A]))/\aK (qd d 0) 0 (iv k :: iv o :: p.on (q.on [.slice r s t,.slice u v x,.slice y z A])) j λ k=>∃ o p,∃ q r:I6,∃ s t u v x y z A B,af k (qd d 0) 0 (iv o :: iv p :: q.on (r.on [.slice s t u,.slice v x y,.slice z A B]))/\K (.tuple #[.agg (iv o :: iv p :: q.on (r.on [.slice s t u,.slice v x y,.slice z A B]):List Value).toArray,qz]) k) (∃ k:qW,(∀ o,k o->∀ p:qv,∃ p:qW,(∀ q,p q->∀ r:qv,∃ r:qW,(∀ s,r s->∀ t:qv,∃ t:qW,(∀ u,t u->∀ v:qv,∃ v x,∃ y z:I6,∃ A B C D E F G H I,af u (qd i 0) 0 (iv v :: iv x :: y.on (z.on [.slice A B C,.slice D E F,.slice G H I]))/\aK (qd d 0) 0 (iv v :: iv x :: y.on (z.on [.slice A B C,.slice D E F,.slice G H I])) u λ u=>∃ v x,∃ y z:I6,∃ A B C D E F G H I,af u (qd d 0) 0 (iv v :: iv x :: y.on (z.on [.slice A B C,.slice D E F,.slice G H I]))/\K (.tuple #[.agg (iv v :: iv x :: y.on (z.on [.slice A B C,.slice D E F,.slice G H I]):List Value).toArray,qz]) u)/\∃ u,s.cell? (qd f 3)=some (.bool u)/\cond u (∃ u v x,s.cell? (qd e 1)=some (.slice u v x)/\CC 47 #[.slice u v x,iv (-1)] s λ u v=>∃ x y z,u=.returned (.slice x y z)/\aQ v (qd i 16) (.slice x y z) λ u=>t u) (t s))/\∃ s,q.cell? (qd f 2)=some (.bool s)/\cond s (CC 43 #[.slice l m n,.func (.func 44) #[] #[]] q λ s t=>∃ u v x,s=.returned (.slice u v x)/\aQ t (qd i 15) (.slice u v x) λ s=>∃ t u v,s.cell? (qd i 15)=some (.slice t u v)/\CC 45 #[.slice t u v,.func (.func 46) #[] #[]] s λ s t=>s=.returned (.tuple #[])/\r t) (r q))/\∃ q,o.cell? (qd f 1)=some (.bool q)/\cond q (aQ o (qd i 15) (.slice l m n) λ q=>p q) (p o))/\cond (decide ((m:Int)>(0:Int))) (∃ o p q,j.cell? (qd e 0)=some (.slice o p q)/\CC 42 #[.slice o p q] j λ o p=>∃ q:I6,o=.returned (.agg q.vs.toArray)/\CC 41 #[.agg q.vs.toArray,.slice l m n] p λ l m=>∃ n:I6,l=.returned (.agg n.vs.toArray)/\aK (qd i 8) 0 n.vs m λ i=>k i) (k j)))/\∃ i:Bool->qW,(∀ j k,i k j->∀ l:qv,cond k (aK (qd d 0) 0 [qz,qz,qz,qz,qz,qz,qz,qz,qz,qz,qz,qz,qz,qz,qn,qn,qn] j λ k=>∃ l m,∃ n o:I6,∃ p q r s t u v x y,af k (qd d 0) 0 (iv l :: iv m :: n.on (o.on [.slice p q r,.slice s t u,.slice v x y]))/\K (.tuple #[.agg (iv l :: iv m :: n.on (o.on [.slice p q r,.slice s t u,.slice v x y]):List Value).toArray,iv 4]) k) (∃ k:Bool->qW,(∀ l m,k m l->∀ n:qv,cond m (aK (qd d 0) 0 [qz,qz,qz,qz,qz,qz,qz,qz,qz,qz,qz,qz,qz,qz,qn,qn,qn] l λ m=>∃ n o,∃ p q:I6,∃ r s t u v x y z A,af m (qd d 0) 0 (iv n :: iv o :: p.on (q.on [.slice r s t,.slice u v x,.slice y z A]))/\K (.tuple #[.agg (iv n :: iv o :: p.on (q.on [.slice r s t,.slice u v x,.slice y z A]):List Value).toArray,iv 6]) m) (CC 14 #[qp a] l λ a l=>∃ m,a=.returned (iv m)/\cond (m==0) (aK (qd d 0) 0 [qz,qz,qz,qz,qz,qz,qz,qz,qz,qz,qz,qz,qz,qz,qn,qn,qn] l λ a=>∃ m n,∃ o p:I6,∃ q r s t u v x y z,af a (qd d 0) 0 (iv m :: iv n :: o.on (p.on [.slice q r s,.slice t u v,.slice x y z]))/\K (.tuple #[.agg (iv m :: iv n :: o.on (p.on [.slice q r s,.slice t u v,.slice x y z]):List Value).toArray,iv 10]) a) (cond (c==(-1:Int)) (CC 39 #[iv 3] l λ a d=>∃ m n o p,a=.returned (.agg #[.bool m,.bool n,.bool o,.bool p])/\aK (qd f 0) 0 [.bool m,.bool n,.bool o,.bool p] d λ a=>h a) (h l))))/\cond (decide (c<(-1:Int))) (k true j) (∃ a d f,j.cell? (qd e 1)=some (.slice a d f)/\k (decide (c>=(d:Int))) j)))/\cond (decide (b<0)) (i true g) (i (decide (b>3)) g)
theorem wO{b1 n1 n2 w K}(h:sX b1 n1 n2 w K):CP 12 #[.pointer (some ⟨b1,0,none⟩),iv n1,iv n2] w K:=ah (aE [(15,[]),(255,[]),(511,[]),(1023,[]),(2047,[]),(60,[(20,.s .bool)]),(243,[(28,.s .bool)])]) func12 (by kernel_rfl) (by kernel_rfl) h
end Go.Proofs.YtemiicbbbojdiaaGreatDoor
namespace Go.Vc
open Go Go.RowKit
section
variable {α:Type} {P:Program} {t ty e:TypeId} {z:Value} {sz by_:Nat} {f:α->List Value} {w0 w:World} {B:aG} {a:OA} {c:Nat} {l:List α}
theorem CD(hf:∀ x,(f x).length=sz):∀ (l:List α) (n:Nat),(l.flatMap f).take (n*sz)=(l.take n).flatMap f
 | _,0=>by simp
 | [],n+1=>by simp
 | x :: l,n+1=>by
  have e1:(n+1)*sz=(f x).length+n*sz:=by rw[hf x,Nat.add_mul]; omega
  rw[List.flatMap_cons,e1,List.take_length_add_append,CD hf l n,List.take_succ_cons,List.flatMap_cons]
theorem Ce{z:Array Value}{n:Nat}:(Builtin.zeroCells z n).toList.length=n*z.size:=by simp[Builtin.zeroCells]
theorem Cf{z:Array Value}{n:Nat}{Q:Value->Prop}(h0:0<z.size)(h:∀ v∈z.toList,Q v):∀ v∈(Builtin.zeroCells z n).toList,Q v:=by
 intro v hv;simp only[Builtin.zeroCells,Array.toList_map,List.mem_map] at hv;obtain⟨i,_,rfl⟩:=hv;have hi:i%z.size<z.size:=Nat.mod_lt _ h0;rw[getElem!_pos z (i%z.size) hi];exact h _ (Array.getElem_mem_toList hi)
theorem Mr(hT:iz P t e z sz by_)(hf:∀ x,(f x).length=sz)(h1:∀ v∈z.cells.toList,v.oneCell' = true){g n:Nat}(h:St w0 w (star (cH e sz f (some ⟨g,0,none⟩) c l) B))(hn:n<=l.length){K:World->Prop}(k:∀ w',St w0 w' (star (cH e sz f (some ⟨g,0,none⟩) c (l.take n)) B)->K w') :
  bp P (Builtin.clear_ #[t] ty #[.slice (if c=n then some ⟨g,0,none⟩ else Option.map (λ x=>Addr.add x (n*sz)) (some ⟨g,0,none⟩)) (l.length-n) (c-n)]) w λ _ w'=>K w':=by
 obtain⟨i,hi,hzz,hs,hby⟩:=hT.i
 by_cases h0:l.length=n
 ·have e0:l.length-n=0:=by omega
  rw[e0];have e1:l.take n=l:=List.take_of_length_le (by omega);rw[e1] at k;refine⟨.tuple #[],w,?_,k w h⟩;generalize(if c=n then _ else _:OA)=a
  cases a<;>simp[Builtin.clear_,run_underlying hT.u]
 ·obtain⟨m,hm⟩:∃ m,l.length-n=m+1:=⟨l.length-n-1,by omega⟩;have hfl:=cD hf l;obtain⟨F,⟨own,rfl⟩,use⟩:=h.use;rcases own.2 with⟨hv,_⟩|⟨g',cap,cur,hv,hb,hg,hnc,hcm,hcs,htake⟩
  ·cases hv
  ·cases hv
   have hz:=hT.zc;have hlen:(Builtin.zeroCells z.cells (m+1)).toList.length=(m+1)*sz:=by rw[Ce,hz]
   have one:∀ v∈(Builtin.zeroCells z.cells (m+1)).toList,v.oneCell' = true:=Cf (by rw[hz]; exact hT.pos) h1;have hmul:n*sz+(m+1)*sz=l.length*sz:=by rw[<- Nat.add_mul]; congr 1; omega
   have hcap:l.length*sz<=c*sz:=Nat.mul_le_mul_right _ hnc;have hst:=run_storeCells_at P g (n*sz) e (Builtin.zeroCells z.cells (m+1)).toList 0 cur w hg (by rw[hlen,hcs]; omega) one;rw[if_neg (by omega : ¬ c=n),hm];have ea:Option.map (λ x=>Addr.add x (n*sz)) (some (⟨g,0,none⟩:Addr))=some ⟨g,n*sz,none⟩:=by rw[Option.map_some,tE]
   rw[ea];have hrun:(Builtin.clear_ #[t] ty #[.slice (some ⟨g,n*sz,none⟩) (m+1) (c-n)]).run P w=.ok (.tuple #[]) (w.setRow g (cur.toList.take (n*sz+0)++(Builtin.zeroCells z.cells (m+1)).toList++cur.toList.drop (n*sz+0+(Builtin.zeroCells z.cells (m+1)).toList.length)).toArray):=by
    simp[Builtin.clear_,run_underlying hT.u,zeroValue,typeInfo,hi,hzz,hst]
   have htl:(l.take n).length=n:=by rw[List.length_take]; omega
   refine⟨_,_,hrun,k _ (use _ _ ⟨[g],⟨⟨?_,.inr ⟨g,c,_,rfl,hb,setRow_heap w g cur _ e _ hg,?_,hcm,?_,?_⟩⟩,rfl⟩,⟨by simp[World.setRow],λ j _ hj=>setRow_other w g j _ (by simp[Value.ownBlock] at hj; exact hj),⟨rfl,rfl,rfl⟩⟩,λ j hj=>.inl (by simpa[Value.ownBlock] using hj)⟩)⟩
   ·rw[cD hf]
   ·rw[htl]; omega
   ·simp only[List.size_toArray,List.length_append,List.length_take,List.length_drop,Array.length_toList,hlen,hcs];omega
   ·rw[htl,List.append_assoc,List.take_append_of_le_length (by rw[List.length_take,Array.length_toList,hcs]; omega),Nat.add_zero,List.take_take,Nat.min_self,<- CD hf l n,<- htake,List.take_take,Nat.min_eq_left (by omega)]
end
end Go.Vc
namespace Go.Proofs.YtemiicbbbojdiaaGreatDoor
open Go Go.Vc _root_.Go.Proofs.Tryz
abbrev TI:Value:=.func (.func 46) #[] #[]
theorem Ot(l:List I6):bz (l.take 1)++l.drop 1=l:=by
 cases l with
 | nil=>rfl
 | cons x l=>rfl
theorem QA{w0 w:World}{a:OA}{c:Nat}{l:List I6}{B:aG}(s:St w0 w (star (eJ a c l) B))(hl:l.length<=1000) :
  CP 105 #[.slice a l.length c,iv 0,iv l.length,TI] w (λ r w'=>r=.tuple #[]/\St w0 w' (star (eJ a c (bz l)) B)):=by
 refine dV ?_;unfold cj;refine⟨λ n w1 m=>∃ i:Nat,n=i/\1<=i/\(i<=l.length\/i=1)/\m=l.length+1-i/\St w0 w1 (star (eJ a c (bz (l.take i)++l.drop i)) B),⟨l.length,1,by rw[aF ⟨by omega,by omega⟩]; rfl,Nat.le_refl _,.inr rfl,by omega,by rw[Ot]; exact s⟩,?_⟩;rintro w1 m n ⟨i,rfl,hi1,hi,hm,s1⟩ -
 by_cases hlt:(i:Int)<(l.length:Int)
 ·have hx:l[i]?=some (l[i]'(by omega)):=gE (by omega);generalize l[i]'(by omega)=x at hx;have hout:=Ou hx;rw[RQ hx] at s1;have hpl:(bz (l.take i)).length=i:=by rw[jK,List.length_take]; omega
  have hps:=LH (l.take i);generalize bz (l.take i)=p at s1 hpl hps hout;have hrl:(l.drop (i+1)).length=l.length-(i+1):=List.length_drop;generalize hrr:l.drop (i+1)=r at s1 hrl hout;have hlen:∀ j,j<=i->(j5 p x j r).length=l.length:=λ j hj=>by rw[F4 (by omega)]; omega
  refine cT (dT hlt) ⟨λ n w2 m=>∃ j:Nat,n=j/\m=j/\j<=i/\(∀ z∈p.drop j,oZ x z=true)/\St w0 w2 (star (eJ a c (j5 p x j r)) B),⟨i,i,rfl,rfl,Nat.le_refl _,λ z hz=>(by rw[List.drop_of_length_le (by omega)] at hz; cases hz),s1⟩,?_⟩;rintro w2 m2 n2 ⟨j,rfl,hm2,hj,hall,s2⟩ -;have hjl:=hlen j hj;refine⟨λ b w3=>((b=true/\0<j/\∃ y,p[j-1]?=some y/\oZ x y=true)\/(b=false/\∀ y,0<j->p[j-1]?=some y->oZ x y=false))/\St w0 w3 (star (eJ a c (j5 p x j r)) B),?_,?_⟩
  ·rintro w3 b ⟨hb,s3⟩ -;rcases hb with⟨rfl,h0,y,hy,hxy⟩|⟨rfl,hno⟩
   ·obtain⟨j,rfl⟩:∃ j',j=j' + 1:=⟨j-1,by omega⟩;rw[Nat.add_sub_cancel] at hy;have s4:=s3.quiet (Chg.drew w3 []);obtain⟨g,rfl⟩:=s4.nQ (by omega);have ej:IntKind.i64.wrap (((j+1:Nat):Int)-(1:Int))=(j:Int):=by rw[aF ⟨by omega,by omega⟩]; omega
    have e1:(j5 p x (j+1) r)[j]?=some y:=by rw[rD (by omega) (by omega)]; exact hy
    have e2:(j5 p x (j+1) r)[j+1]?=some x:=D6 (by omega);obtain⟨q1,hq1,hc1⟩:=(St.rd aR s4).at e1;obtain⟨q2,hq2,hc2⟩:=(St.rd aR s4).at e2
    cases hq1; cases hq2
    rw[ej];refine cT rfl ⟨by omega,by omega,y,hc1,by omega,by omega,x,hc2,by omega,by omega,?_⟩;refine s4.yB aR (I6.one y) (i:=j+1) (by omega) λ w5 s5=>⟨by omega,by omega,s5.yB aR (I6.one x) (i:=j) (by rw[List.length_set]; omega) λ w6 s6=>⟨j,by omega,j,rfl,rfl,by omega,λ z hz=>?_,?_⟩⟩
    ·have hjp:j<p.length:=by omega
     rw[List.drop_eq_getElem_cons hjp] at hz;rcases List.mem_cons.1 hz with rfl|hz
     ·rw[gE hjp] at hy
      cases hy; exact hxy
     ·exact hall z hz
    ·rw[KS (by omega) hy] at s6;exact s6
   ·have es:j5 p x j r=fy x p++r:=KR hps (by omega) hall hno;rw[es,hout] at s3;exact cF rfl ⟨l.length+1-(i+1),by omega,i+1,aF ⟨by omega,by omega⟩,by omega,.inl (by omega),rfl,by rw[hrr]; exact s3⟩
  ·by_cases h0:(j:Int)>0
   ·obtain⟨j,rfl⟩:∃ j',j=j' + 1:=⟨j-1,by omega⟩;have s4:=s2.quiet (Chg.drew w2 []);obtain⟨g,rfl⟩:=s4.nQ (by omega);have ej:IntKind.i64.wrap (((j+1:Nat):Int)-(1:Int))=(j:Int):=by rw[aF ⟨by omega,by omega⟩]; omega
    have hy:p[j]?=some (p[j]'(by omega)):=gE (by omega);generalize p[j]'(by omega)=y at hy;have e1:(j5 p x (j+1) r)[j]?=some y:=by rw[rD (by omega) (by omega)]; exact hy
    have e2:(j5 p x (j+1) r)[j+1]?=some x:=D6 (by omega);obtain⟨q1,hq1,hc1⟩:=(St.rd aR s4).at e1;obtain⟨q2,hq2,hc2⟩:=(St.rd aR s4).at e2
    cases hq1; cases hq2
    rw[ej];refine cT (dT h0) ⟨by omega,by omega,x,hc2,by omega,by omega,y,hc1,br (by kernel_rfl) (an (Hz _ x y) ?_)⟩;rintro _ w5 ⟨rfl,c5⟩;refine⟨_,rfl,?_,s4.quiet c5⟩
    by_cases hc:KA x y<0
    ·exact .inl ⟨dT hc,by omega,y,hy,dT hc⟩
    ·refine .inr ⟨dF hc,λ y' _ hy'=>?_⟩;rw[Nat.add_sub_cancel,hy] at hy'
     cases hy'; exact dF hc
   ·exact cF (dF h0) ⟨.inr ⟨rfl,λ y hj'=>by omega⟩,s2.quiet (Chg.drew w2 [])⟩
 ·refine cF (dF hlt) ⟨rfl,?_⟩;rw[List.take_of_length_le (by omega),List.drop_of_length_le (by omega),List.append_nil] at s1;exact s1
theorem Wr{w0 w:World}{a:OA}{c:Nat}{l:List I6}{B:aG}(s:St w0 w (star (eJ a c l) B))(hl:l.length<=12)(lim:Int) :
  CP 71 #[.slice a l.length c,iv 0,iv l.length,iv lim,TI] w (λ r w'=>r=.tuple #[]/\St w0 w' (star (eJ a c (bz l)) B)):=by
 refine gK ?_;unfold di;refine⟨λ n4 n5 n6 b1 b2 w1 m=>n4=0/\n5=(l.length:Int)/\w1=w,⟨0,rfl,rfl,rfl⟩,?_⟩;rintro w1 m n4 n5 n6 b1 b2 ⟨rfl,rfl,rfl⟩ -;refine cT (dT (by rw[aF ⟨by omega,by omega⟩]; omega)) (an (QA s (by omega)) ?_);rintro _ w2 ⟨rfl,s2⟩;exact⟨rfl,rfl,s2⟩
theorem Ml(w:World){n:Nat}(hn:n<=12):CP 114 #[.int .u64 n] w (λ r w'=>(∃ k:Int,r=iv k)/\Chg w w' []):=by
 refine BW ?_;unfold bits_Len64;refine⟨λ n2 n3 w1=>n2=n/\w1=w,?_,cF (dF (by omega)) ⟨rfl,rfl⟩⟩;rintro w1 n2 n3 ⟨rfl,rfl⟩ -;refine⟨λ n2 n3 w2=>n2=n/\w2=w1,?_,cF (dF (by omega)) ⟨rfl,rfl⟩⟩;rintro w2 n4 n5 ⟨rfl,rfl⟩ -;refine⟨λ n2 n3 w3=>n2=n/\w3=w2,?_,cF (dF (by omega)) ⟨rfl,rfl⟩⟩;rintro w3 n6 n7 ⟨rfl,rfl⟩ -;have h13:n=0\/n=1\/n=2\/n=3\/n=4\/n=5\/n=6\/n=7\/n=8\/n=9\/n=10\/n=11\/n=12:=by omega
 rcases h13 with rfl|rfl|rfl|rfl|rfl|rfl|rfl|rfl|rfl|rfl|rfl|rfl|rfl<;>exact⟨by decide,aq (by rw[lO]; rfl) ⟨⟨_,rfl⟩,Chg.refl _ _⟩⟩
theorem TA(w:World){n:Nat}(hn:n<=12):CP 72 #[.int .u64 n] w (λ r w'=>(∃ k:Int,r=iv k)/\Chg w w' []):=by
 refine Fi ?_;unfold Fh;refine an (Ml w hn) ?_;rintro _ w1 ⟨⟨k,rfl⟩,c1⟩;exact⟨_,rfl,⟨_,rfl⟩,c1⟩
theorem Vs{n:Int}(h0:0<=n)(h1:n<18446744073709551616):IntKind.u64.wrap n=n:=by
 simp only[IntKind.wrap,IntKind.signed,IntKind.bits]
 simp
 omega
theorem Ve{w0 w:World}{a:OA}{c:Nat}{l:List I6}{B:aG}(s:St w0 w (star (eJ a c l) B))(hl:l.length<=12) :
  CP 45 #[.slice a l.length c,TI] w (λ r w'=>r=.tuple #[]/\St w0 w' (star (eJ a c (bz l)) B)):=by
 refine kG ?_;unfold gz;rw[Vs (by omega) (by omega)];refine an (TA w hl) ?_;rintro _ w1 ⟨⟨k,rfl⟩,c1⟩;refine⟨k,rfl,an (Wr (s.quiet c1) hl k) ?_⟩;rintro _ w2 ⟨rfl,s2⟩;exact⟨rfl,rfl,s2⟩
abbrev VQ:Value:=.func (.func 44) #[] #[]
theorem J7(w:World)(u:I6):CP 44 #[.agg u.vs.toArray] w (λ r w'=>r=.bool (decide (u=z6))/\Chg w w' []):=by
 refine tP ?_;unfold oA;exact(St.start w).one.aB u.vs.toArray λ r1 w1 s1=>⟨u,s1.cellsIn 0 rfl,by rw[I6.beq_eq],s1.aA⟩
def iQ(u:I6):Bool:=!decide (u=z6)
theorem V5{w:World}{a:OA}{c:Nat}{l:List I6}(h:bG 6 I6.vs w a l)(hl:l.length<=1000) :
  CP 70 #[.slice a l.length c,VQ] w (λ r w'=>((∃ k:Nat,r=iv k/\l[k]?=some z6/\(l.take k).filter iQ=l.take k)\/(r=iv (-1)/\l.filter iQ=l))/\Chg w w' []):=by
 refine kj ?_;unfold fN;refine⟨λ n w1 m=>∃ k:Nat,n=k/\k<=l.length/\m=l.length-k/\(l.take k).filter iQ=l.take k/\Chg w w1 [],⟨l.length,0,rfl,by omega,by omega,rfl,Chg.refl _ _⟩,?_⟩;rintro w1 m n ⟨k,rfl,hk,hm,hf,hc⟩ -
 by_cases hlt:(k:Int)<(l.length:Int)
 ·have hx:l[k]?=some (l[k]'(by omega)):=gE (by omega);generalize l[k]'(by omega)=x at hx;obtain⟨q,hq,hcl⟩:=(bG.aA h hc).at hx;refine cT (dT hlt) (aq hq ⟨by omega,by omega,x,hcl,br (by kernel_rfl) (an (J7 w1 x) ?_)⟩);rintro _ w2 ⟨rfl,c2⟩;have hc2:Chg w w2 []:=hc.trans c2 (by simp);refine⟨_,rfl,?_⟩
  by_cases hz:x=z6
  ·subst hz;exact cT (dT rfl) ⟨.inl ⟨k,rfl,hx,hf⟩,hc2⟩
  ·refine cF (dF hz) ⟨l.length-(k+1),by omega,k+1,aF ⟨by omega,by omega⟩,by omega,rfl,?_,hc2⟩;rw[aH hx,List.filter_append,hf];simp[iQ,hz]
 ·obtain rfl:k=l.length:=by omega
  rw[List.take_length] at hf;exact cF (dF hlt) ⟨.inr ⟨rfl,hf⟩,hc⟩
theorem RJ:iz prog 41 39 (.agg z6.vs.toArray) 6 48:=iz.mk' underlying41 (by kernel_rfl) rfl (by decide)
theorem VR{w0 w:World}{a:OA}{c:Nat}{l:List I6}{B:aG}(s:St w0 w (star (eJ a c l) B))(hl:l.length<=1000) :
  CP 43 #[.slice a l.length c,VQ] w (λ r w'=>r=.slice a (l.filter iQ).length c/\St w0 w' (star (eJ a c (l.filter iQ)) B)):=by
 refine jF ?_;unfold e9;refine an (V5 (St.rd aR s) hl) ?_;rintro _ w1 ⟨hr,c1⟩;have s1:=s.quiet c1;rcases hr with⟨k0,rfl,hk0,hf0⟩|⟨rfl,hf⟩
 rotate_left
 ·refine⟨_,rfl,cT rfl ⟨?_,?_⟩⟩
  ·rw[hf]
  ·rw[hf]; exact s1
 have hlt0:=(List.getElem?_eq_some_iff.1 hk0).1;obtain⟨g,rfl⟩:=s1.nQ (by omega);refine⟨_,rfl,cF (by simp) ⟨λ n2 n3 w2 m=>∃ (k i:Nat) (R:List I6),n3=k/\n2=i/\k<=l.length/\m=l.length-k/\i<=k/\R.length=l.length/\R.take i=(l.take k).filter iQ/\R.drop k=l.drop k/\St w0 w2 (star (eJ (some ⟨g,0,none⟩) c R) B),⟨l.length-(k0+1),k0+1,k0,l,aF ⟨by omega,by omega⟩,rfl,by omega,rfl,by omega,rfl,?_,rfl,s1⟩,?_⟩⟩
 ·rw[aH hk0,List.filter_append,hf0];simp[iQ]
 rintro w2 m n2 n3 ⟨k,i,R,rfl,rfl,hk,hm,hik,hR,ht,hd,s2⟩ -
 by_cases hlt:(k:Int)<(l.length:Int)
 ·have hx:l[k]?=some (l[k]'(by omega)):=gE (by omega);generalize l[k]'(by omega)=x at hx;have hxR:R[k]?=some x:=by
   have:(R.drop k)[0]?=(l.drop k)[0]?:=by rw[hd]
   rw[List.getElem?_drop,List.getElem?_drop] at this;rw[show k+0=k from rfl] at this;rw[this,hx]
  obtain⟨q,hq,hcl⟩:=(St.rd aR s2).at hxR
  cases hq
  refine cT (dT hlt) ⟨λ n4 w3=>∃ (i:Nat) (R:List I6),n4=i/\i<=k+1/\R.length=l.length/\R.take i=(l.take (k+1)).filter iQ/\R.drop (k+1)=l.drop (k+1)/\St w0 w3 (star (eJ (some ⟨g,0,none⟩) c R) B),?_,?_⟩
  ·rintro w3 n4 ⟨i,R,rfl,hi,hR,ht,hd,s3⟩ -;exact⟨l.length-(k+1),by omega,k+1,i,R,aF ⟨by omega,by omega⟩,rfl,by omega,rfl,hi,hR,ht,hd,s3⟩
  ·have s2' : St w0 w2 (Sep [eJ (some ⟨g,0,none⟩) c R,B]):=s2.yl;refine⟨by omega,by omega,x,hcl,s2'.aB z6.vs.toArray λ r1 w4 s4=>s4.aC 0 rfl x.vs rfl (I6.one x) λ w5 s5=>⟨x,s5.cellsIn 0 rfl,br (by kernel_rfl) (an (J7 w5 x) ?_)⟩⟩;rintro _ w6 ⟨rfl,c6⟩;have s6:=s5.quiet c6;have hd1:R.drop (k+1)=l.drop (k+1):=by
    have:=congrArg (List.drop 1) hd
    rwa [List.drop_drop,List.drop_drop] at this
   refine⟨_,rfl,?_⟩
   by_cases hz:x=z6
   ·subst hz;refine cF (by rw[dT rfl]; rfl) ⟨i,R,rfl,by omega,hR,?_,hd1,(s6.ay [1,2]).pair⟩;rw[aH hx,List.filter_append,ht];simp[iQ]
   ·refine cT (by rw[dF hz]; rfl) ⟨x,s6.cellsIn 0 rfl,by omega,by omega,(s6.ay [1,2]).pair.yB aR (I6.one x) (i:=i) (by omega) λ w7 s7=>⟨i+1,R.set i x,aF ⟨by omega,by omega⟩,by omega,by rw[List.length_set]; exact hR,?_,?_,s7⟩⟩
    ·rw[aH (List.getElem?_set_self (by omega)),List.take_set_of_le (by omega),ht,aH hx,List.filter_append];simp[iQ,hz]
    ·rw[List.drop_set_of_lt (by omega)];exact hd1
 ·obtain rfl:k=l.length:=by omega
  rw[List.take_length] at ht;have hi:i=(l.filter iQ).length:=by rw[<- ht,List.length_take]; omega
  have hc:=(St.oI s2).1;rw[<- hR];refine cF (dF (by omega)) ⟨by omega,by omega,?_⟩;refine Mr RJ aR (I6.one z6) s2 (n:=i) (by omega) λ w8 s8=>⟨by omega,by omega,?_,?_⟩
  ·rw[TG,hi]; rfl
  ·rw[ht] at s8; exact s8
def yp(a b c d:Int)(w:World)(K:KP):=∃ e:Bool->qW,(∀ f g,e g f->∀ h:qv,cond g (K (iv 4) f) (∃ g:Bool->qW,(∀ h i,g i h->∀ j:qv,cond i (K (iv 6) h) (cond (b==0) (K (iv 10) h) (K qz h)))/\cond (decide (d<(-1:Int))) (g true f) (g (decide (d>=a)) f)))/\cond (decide (c<0)) (e true w) (e (decide (c>3)) w)
theorem Bj{n1 n2 n3 n4 w K}(h:yp n1 n2 n3 n4 w K):CP 13 #[iv n1,iv n2,iv n3,iv n4] w K:=ah (aE [(6,[(14,.s .bool)]),(14,[(21,.s .bool)])]) func13 (by kernel_rfl) (by kernel_rfl) h
def vG(a:OA)(b c:Nat)(w:World)(K:KP):=∃ c:OA->Nat->Nat->Int->qN,(∃ d,c none 0 0 0 w d)/\∀ e d f g h i,c f g h i e d->∀ j:qv,cond (decide (i<(b:Int))) (∃ j:OA->Nat->Nat->qW,(∀ k l m n,j l m n k->∀ o:qv,∃ o,o<d/\c l m n (IntKind.i64.wrap (i+1)) k o)/\au a λ c=>0<=i/\i<(b:Int)/\∃ d:I6,af e (Addr.add c ((i).toNat*6)) 0 d.vs/\cond (I6.beq d z6) (j f g h e) (∃ c:OA->Nat->Nat->Bool->Int->qN,(∃ d,c none 0 0 false 0 e d)/\∀ k d l m n o p,c l m n o p k d->∀ q:qv,cond (decide (p<(g:Int))) (∃ q:OA->Nat->Nat->Bool->qW,(∀ r s t u v,q s t u v r->∀ x:qv,au f λ x=>0<=p/\p<(g:Int)/\∃ y:I6,af r (Addr.add x ((p).toNat*6)) 0 y.vs/\av r (.cells y.vs.toArray 39) λ r x=>bp prog (Builtin.append_ #[41,41] 41 #[.slice s t u,.slice (some (qd r 0)) 1 1]) x λ r s=>∃ t u x,r=(.slice t u x)/\∃ r,r<d/\c t u x v (IntKind.i64.wrap (p+1)) s r)/\∃ c:Bool->qW,(∀ d r,c r d->∀ s:qv,cond r (au a λ r=>0<=i/\i<(b:Int)/\∃ s:I6,af d (Addr.add r ((i).toNat*6)) 0 s.vs/\av d (.cells s.vs.toArray 39) λ r s=>bp prog (Builtin.append_ #[41,41] 41 #[.slice l m n,.slice (some (qd r 0)) 1 1]) s λ r s=>∃ t u v,r=(.slice t u v)/\q t u v true s) (q l m n o d))/\cond (!o) (au a λ d=>0<=i/\i<(b:Int)/\∃ q:I6,af k.drew (Addr.add d ((i).toNat*6)) 0 q.vs/\au f λ d=>0<=p/\p<(g:Int)/\∃ r:I6,af k.drew (Addr.add d ((p).toNat*6)) 0 r.vs/\CC 76 #[.agg q.vs.toArray,.agg r.vs.toArray] k.drew λ d p=>∃ q,d=.returned (iv q)/\c (decide (q<0)) p) (c false k.drew)) (∃ c:OA->Nat->Nat->qW,(∀ d p q r,c p q r d->∀ s:qv,j p q r d)/\cond (!o) (au a λ a=>0<=i/\i<(b:Int)/\∃ b:I6,af k (Addr.add a ((i).toNat*6)) 0 b.vs/\av k (.cells b.vs.toArray 39) λ a b=>bp prog (Builtin.append_ #[41,41] 41 #[.slice l m n,.slice (some (qd a 0)) 1 1]) b λ a b=>∃ d i j,a=(.slice d i j)/\c d i j b) (c l m n k)))) (K (.slice f g h) e)
theorem zf{a1 l1 c1 w K}(h:vG a1 l1 c1 w K):CP 50 #[.slice a1 l1 c1] w K:=ah (aE [(58,[(3,.s .slice),(4,.s (.int .i64))]),(233,[(3,.s .slice)]),(59706,[(5,.s .slice),(6,.s .bool),(7,.s (.int .i64))]),(955300,[(5,.s .slice),(6,.s .bool)]),(1910600,[(39,.s .bool)]),(14927,[(5,.s .slice)])]) func50 (by kernel_rfl) (by kernel_rfl) h
def yq(a:OA)(b c:Nat)(d:OA)(e f:Nat)(g:OA)(h i:Nat)(j:OA)(k l:Nat)(m n:Int)(o:I6)(p:OA)(q r:Nat)(s:OA)(t u:Nat)(v x:Int)(w:World)(K:KP):=av w (.cells #[.slice a b c,.slice d e f,.slice g h i,.slice j k l] 34) λ a b=>av b (.cells o.vs.toArray 37) λ b c=>av c (.cells #[qz,qz,qz,qz,qz,qz,qz,qz,qz,qz,qz,qz,qz,qz,qn,qn,qn] 51) λ c d=>∃ e:I6,af d (qd b 0) 0 e.vs/\av d (.cells #[qz,qz,qz,qz,qz,qz,qz,qz,qz,qz,qz,qz,qz,qz,qn,qn,qn] 51) λ b d=>aK (qd b 0) 0 (iv m :: iv n :: e.on [qz,qz,qz,qz,qz,qz,qn,qn,qn]) d λ d=>∃ e:qW,(∀ f,e f->∀ g:qv,∃ g:Bool->qW,(∀ h i,g i h->∀ j:qv,∃ j:qW,(∀ k,j k->∀ l:qv,∃ l:qW,(∀ m,l m->∀ n:qv,∃ n o,∃ y z:I6,∃ A B C D E F G H I,af m (qd b 0) 0 (iv n :: iv o :: y.on (z.on [.slice A B C,.slice D E F,.slice G H I]))/\aK (qd c 0) 0 (iv n :: iv o :: y.on (z.on [.slice A B C,.slice D E F,.slice G H I])) m λ m=>∃ n o,∃ y z:I6,∃ A B C D E F G H I,af m (qd c 0) 0 (iv n :: iv o :: y.on (z.on [.slice A B C,.slice D E F,.slice G H I]))/\K (.agg (iv n :: iv o :: y.on (z.on [.slice A B C,.slice D E F,.slice G H I]):List Value).toArray) m)/\cond i (aQ k (qd b 15) (.slice s t u) λ c=>∃ m:Int->qN,(∃ n,m 0 c n)/\∀ c n o,m o c n->∀ y:qv,∃ y z A,c.cell? (qd a 1)=some (.slice y z A)/\cond (decide (o<(z:Int))) (∃ y z A,c.drew.cell? (qd b 16)=some (.slice y z A)/\∃ B C D,c.drew.cell? (qd a 1)=some (.slice B C D)/\au B λ B=>0<=o/\o<(C:Int)/\∃ C,c.drew.cell? (Addr.add B ((o).toNat*4))=some (.string C)/\av c.drew (.cells #[.string C] 9) λ B C=>C.cell? (qd b 16)=some (.slice y z A)/\bp prog (Builtin.append_ #[42,42] 42 #[.slice y z A,.slice (some (qd B 0)) 1 1]) C λ y z=>∃ A B C,y=(.slice A B C)/\aQ z (qd b 16) (.slice A B C) λ y=>∃ z,z<n/\m (IntKind.i64.wrap (o+1)) y z) (l c)) (cond (v==1) (CC 50 #[.slice s t u] k λ c m=>∃ n o u,c=.returned (.slice n o u)/\aQ m (qd b 15) (.slice n o u) λ c=>l c) (l k)))/\∃ c:Bool->qW,(∀ k l,c l k->∀ m:qv,cond l (∃ l:Int->qN,(∃ m,l 0 k m)/\∀ n m o,l o n m->∀ u:qv,∃ u:Bool->qW,(∀ y z,u z y->∀ A:qv,cond z (∃ z:Int->Int->qN,(∃ A,z 0 (0:Int) y A)/\∀ B A C D,z C D B A->∀ E:qv,cond (decide (D<(t:Int))) (au s λ s=>0<=D/\D<(t:Int)/\0<=o/\o<6/\∃ E,B.cell? (Addr.add (Addr.add s ((D).toNat*6)) ((o).toNat*1))=some (iv E)/\∃ s,s<A/\z (IntKind.i64.wrap (C+E)) (IntKind.i64.wrap (D+1)) B s) (∃ s:Int->qW,(∀ z A,s A z->∀ D:qv,0<=o/\o<6/\aQ z (Addr.add (qd b 8) ((o).toNat*1)) (iv (if (0:Int)>A then (0:Int) else A)) λ z=>∃ A,A<m/\l (IntKind.i64.wrap (o+1)) z A)/\∃ l m z,B.cell? (qd a 0)=some (.slice l m z)/\cond (decide (o<(m:Int))) (∃ l m z,B.cell? (qd a 0)=some (.slice l m z)/\au l λ a=>0<=o/\o<(m:Int)/\∃ l,B.cell? (Addr.add (Addr.add a ((o).toNat*5)) 1)=some (iv l)/\s (IntKind.i64.wrap (C-l)) B) (s C B))) (j y))/\cond (decide (o<6)) (u (decide ((t:Int)>(0:Int))) n) (u false n)) (j k))/\cond (decide (v>0)) (c true h) (c i h))/\cond (v==3) (g true f) (g (decide (x<0)) f))/\cond (decide (x>=0)) (aQ d (qd b 14) (.slice p q r) λ a=>e a) (e d)
theorem Bk{a1 l1 c1 a2 l2 c2 a3 l3 c3 a4 l4 c4 n1 n2 u1 a5 l5 c5 a6 l6 c6 n3 n4 w K}(h:yq a1 l1 c1 a2 l2 c2 a3 l3 c3 a4 l4 c4 n1 n2 u1 a5 l5 c5 a6 l6 c6 n3 n4 w K):CP 18 #[.agg #[.slice a1 l1 c1,.slice a2 l2 c2,.slice a3 l3 c3,.slice a4 l4 c4],iv n1,iv n2,.agg u1.vs.toArray,.slice a5 l5 c5,.slice a6 l6 c6,iv n3,iv n4] w K:=ah (aE [(7,[]),(15,[(18,.s .bool)]),(31,[]),(63,[]),(4054,[(22,.s (.int .i64))]),(62,[(41,.s .bool)]),(1002,[(19,.s (.int .i64))]),(4008,[(48,.s .bool)]),(256586,[(20,.s (.int .i64)),(21,.s (.int .i64))]),(64147,[(20,.s (.int .i64))])]) func18 (by kernel_rfl) (by kernel_rfl) h
def th(a b:I6)(w:World)(K:KP):=av w (.cells a.vs.toArray 39) λ a c=>av c (.cells b.vs.toArray 39) λ b c=>∃ d:Int->qN,(∃ e,d 0 c e)/\∀ c e f,d f c e->∀ g:qv,cond (decide (f<6)) (0<=f/\f<6/\∃ g,c.drew.cell? (Addr.add (qd a 0) ((f).toNat*1))=some (iv g)/\0<=f/\f<6/\∃ h,c.drew.cell? (Addr.add (qd b 0) ((f).toNat*1))=some (iv h)/\cond (decide (g<h)) (K (iv (-1)) c.drew) (0<=f/\f<6/\∃ g,c.drew.drew.cell? (Addr.add (qd a 0) ((f).toNat*1))=some (iv g)/\0<=f/\f<6/\∃ a,c.drew.drew.cell? (Addr.add (qd b 0) ((f).toNat*1))=some (iv a)/\cond (decide (g>a)) (K (iv 1) c.drew.drew) (∃ a,a<e/\d (IntKind.i64.wrap (f+1)) c.drew.drew a))) (K qz c)
theorem xx{u1 u2 w K}(h:th u1 u2 w K):CP 76 #[.agg u1.vs.toArray,.agg u2.vs.toArray] w K:=ah (aE [(26,[(5,.s (.int .i64))])]) func76 (by kernel_rfl) (by kernel_rfl) h
def CI(a:OA)(b c:Nat)(w:World)(K:KP):=cond (decide ((b:Int)>(60:Int))) (K (.bool false) w) (∃ c:Int->qN,(∃ d,c 0 w d)/\∀ e d f,c f e d->∀ g:qv,cond (decide (f<(b:Int))) (au a λ a=>0<=f/\f<(b:Int)/\∃ b,e.cell? (Addr.add (Addr.add a ((f).toNat*11)) 9)=some (.string b)/\cond (decide (((b.size:Nat):Int)>(2000:Int))) (K (.bool false) e) (∃ a,a<d/\c (IntKind.i64.wrap (f+1)) e a)) (K (.bool true) e))
theorem D8{a1 l1 c1 w K}(h:CI a1 l1 c1 w K):CP 8 #[.slice a1 l1 c1] w K:=ah (aE [(58,[(3,.s (.int .i64))])]) func8 (by kernel_rfl) (by kernel_rfl) h
def AZ(a b c d:Int)(e:OA)(f g:Nat)(w:World)(K:KP):=av w (.cells #[iv a,iv b,iv c,iv d] 23) λ a b=>∃ c d g h,af b (qd a 0) 0 [iv c,iv d,iv g,iv h]/\CC 34 #[.agg #[iv c,iv d,iv g,iv h]] b λ a b=>∃ c,a=.returned (.pointer c)/\cond (c).isNone (K (.pointer none) b) (∃ a:Int->qN,(∃ d,a 0 b d)/\∀ b d g,a g b d->∀ h:qv,cond (decide (g<(f:Int))) (au e λ e=>0<=g/\g<(f:Int)/\∃ f h i,∃ j:I6,∃ k l,af b (Addr.add e ((g).toNat*11)) 0 (iv f :: iv h :: iv i :: j.on [.string k,.int .u64 l])/\CC 31 #[.pointer c,.agg (iv f :: iv h :: iv i :: j.on [.string k,.int .u64 l]:List Value).toArray] b λ e f=>∃ h,e=.returned (iv h)/\∃ e,e<d/\a (IntKind.i64.wrap (g+1)) f e) (K (.pointer c) b))
theorem B6{n1 n2 n3 n4 a1 l1 c1 w K}(h:AZ n1 n2 n3 n4 a1 l1 c1 w K):CP 10 #[.agg #[iv n1,iv n2,iv n3,iv n4],.slice a1 l1 c1] w K:=ah (aE [(122,[(6,.s (.int .i64))])]) func10 (by kernel_rfl) (by kernel_rfl) h
def td(a:OA)(b:Int)(w:World)(K:KP):=cond (decide (b<0)) (K qn w) (CC 24 #[.pointer a,iv b] w λ a b=>∃ c d e,a=.returned (.slice c d e)/\K (.slice c d e) b)
theorem xe{p1 n1 w K}(h:td p1 n1 w K):CP 21 #[.pointer p1,iv n1] w K:=ah (aE []) func21 (by kernel_rfl) (by kernel_rfl) h
def AY(a:OA)(w:World)(K:KP):=CC 51 #[.pointer a] w λ a b=>∃ c d e,a=.returned (.slice c d e)/\cond ((d:Int)==(0:Int)) (K qn b) (au c λ a=>0<=(IntKind.i64.wrap ((d:Int)-(1:Int)))/\(IntKind.i64.wrap ((d:Int)-(1:Int)))<(d:Int)/\∃ c e f,b.cell? (Addr.add (Addr.add a (((IntKind.i64.wrap ((d:Int)-(1:Int)))).toNat*9)) 7)=some (.slice c e f)/\K (.slice c e f) b)
theorem B5{p1 w K}(h:AY p1 w K):CP 22 #[.pointer p1] w K:=ah (aE []) func22 (by kernel_rfl) (by kernel_rfl) h
section
variable {w0 w:World} {b:Nat} {S:Sx} {C:Ck} {B:aG}
theorem yo(s:St w0 w (star (tA b S C) B)):CP 14 #[pt b] w (λ r w'=>r=iv S.ph/\w' = w):=by
 refine qJ ?_;unfold lC;obtain⟨S',C',rfl,rfl,hk,s1⟩:=rQ s;exact⟨_,(s1.ag 0 rfl 4).trans rfl,rfl,rfl⟩
theorem vU(s:St w0 w (star (tA b S C) B))(hok:lW S C):CP 11 #[pt b] w (λ r w'=>∃ S' : Se,S'.er=S.s/\r=.agg S'.arr/\St w w' (held S'.In)):=by
 obtain⟨S1,C1,rfl,rfl,hk,s1⟩:=rQ s;exact OB (s1.cellsIn 0 rfl) (s1.aP 1 rfl).h.1 (WL (BD hok))
theorem Ao(s:St w0 w (star (tA b S C) B))(hok:lW S C)(h0:S.ph≠0):CP 17 #[pt b] w (λ r w'=>∃ (g:Nat) (C' : Ck),r=pt g/\C'.er=C/\St w w' (held (C'.Rd g))):=by
 obtain⟨S1,C1,rfl,rfl,hk,s1⟩:=rQ s;have hok' : lW S1 C1:=BD hok;refine an (GU (s1.cellsIn 0 rfl) hok'.b8 (s1.aP 1 rfl) hok' hk) ?_;rintro v w1 ⟨p,C',rfl,e1,e2,e3⟩;obtain⟨g,hg⟩:=e2.2 h0
 cases hg
 have e4:St w w1 (Sep (dR g C')):=e3;exact⟨_,rfl,g,C',rfl,e1,e4.weak (gU.weak sV)⟩
end
theorem uI{S:Sx}{C C' : Ck}(hok:lW S C)(h0:S.ph≠0)(e:C'.er=C):C'.Ok:=by
 have h:=hok.c h0;rw[<- e] at h;have:C'.Inv:=h.er (by rw[FF]);exact this.ok
def aW(l:List Rn):List I6:=(l.getLast?.map Rn.got).getD []
theorem iL(l:List Rn):aW (l.map Rn.er)=aW l:=by
 unfold aW;rw[List.getLast?_map]
 cases l.getLast? <;> rfl
theorem Jr{l m:List Rn}(h:l.map Rn.er=m.map Rn.er):aW l=aW m:=by rw[<- iL l,h,iL]
theorem KL(l:List Rn)(x:Rn):aW (l++[x])=x.got:=by unfold aW; rw[List.getLast?_concat]; rfl
theorem AL{l:List Rn}{Q:List I6->Prop}(h0:Q [])(h:∀ x∈l,Q x.got):Q (aW l):=by
 unfold aW
 cases e:l.getLast? with
 | none=>exact h0
 | some x=>exact h x (List.mem_of_getLast? e)
theorem JA{w w1:World}{a:OA}{c:Nat}{l:List Rn}{G:List I6}(g:LG w w1 a c l)(eg:aW l=G)(hl:l.length<=1000){K:KP}(k:∀ a' c',St w w1 (eJ a' c' G)->K (.slice a' G.length c') w1) :
  cond (((l.length:Nat):Int)==(0:Int)) (K (.slice none 0 0) w1) (au a λ q1=>0<=(IntKind.i64.wrap (((l.length:Nat):Int)-(1:Int)))/\(IntKind.i64.wrap (((l.length:Nat):Int)-(1:Int)))<((l.length:Nat):Int) /\
    ∃ (a2:OA) (l2 c2:Nat),w1.cell? (Addr.add (Addr.add q1 (((IntKind.i64.wrap (((l.length:Nat):Int)-(1:Int)))).toNat*9)) 7)=some (.slice a2 l2 c2)/\K (.slice a2 l2 c2) w1):=by
 subst eg;rcases g with⟨rfl,s⟩|⟨l0,x,rfl,s⟩
 ·exact cT rfl (k none 0 (St.start' s.aA).cV.first)
 ·have e:IntKind.i64.wrap ((((l0++[x]).length:Nat):Int)-(1:Int))=(l0.length:Int):=by
   rw[List.length_append,List.length_singleton] at hl ⊢;rw[aF ⟨by omega,by omega⟩]; omega
  have hx:(l0++[x])[l0.length]?=some x:=by simp
  obtain⟨q,hq,hcl⟩:=(St.rd Rn.len s).at hx;rw[e];rw[KL] at k;refine cF (by rw[List.length_append,List.length_singleton]; simp; omega) (aq hq ⟨by omega,by rw[List.length_append,List.length_singleton]; omega,x.ga,x.got.length,x.gc,?_,k _ _ (s.out 1 rfl).first⟩);exact aO hcl 7 _ rfl
theorem HR{w:World}{g:Nat}{C:Ck}(h:C.Rd g w)(hk:C.Ok):CP 22 #[pt g] w (λ r w'=>∃ a c,r=.slice a (aW C.cl).length c/\St w w' (eJ a c (aW C.cl))):=by
 refine B5 ?_;unfold AY;refine an (AX h hk) ?_;rintro _ w1 ⟨l',a',c',e,rfl,k⟩;have hl:l'.length<=1000:=by
  have:=congrArg List.length e;rw[List.length_map,List.length_map] at this;have:=hk.cl; omega
 exact⟨_,_,_,rfl,JA (K:=λ r w'=>∃ a c,r=.slice a (aW C.cl).length c/\St w w' (eJ a c (aW C.cl))) k (Jr e) hl λ a c s=>⟨a,c,rfl,s⟩⟩
section
variable {w0 w:World} {b:Nat} {S:Sx} {C:Ck} {B:aG}
theorem KD(s:St w0 w (star (tA b S C) B))(hok:lW S C)(h0:S.ph≠0):CP 40 #[pt b] w (λ r w'=>∃ a c,r=.slice a (aW C.cl).length c/\St w w' (eJ a c (aW C.cl))):=by
 refine sy ?_;unfold mA;refine an (Ao s hok h0) ?_;rintro _ w1 ⟨g,C',rfl,e,k1⟩;have hk:=uI hok h0 e;have ec:aW C'.cl=aW C.cl:=by rw[<- e]; exact(iL C'.cl).symm
 refine⟨_,rfl,an (AX (k1.one.aP 0 rfl) hk) ?_⟩;rintro _ w2 ⟨l',a',c',e',rfl,k⟩;have hl:l'.length<=1000:=by
  have:=congrArg List.length e';rw[List.length_map,List.length_map] at this;have:=hk.cl; omega
 exact⟨_,_,_,rfl,JA (K:=λ r w'=>∃ a c,r=.slice a (aW C.cl).length c/\St w w' (eJ a c (aW C.cl))) k ((Jr e').trans ec) hl λ a c s=>⟨a,c,rfl,GW k1.aA s⟩⟩
end
theorem RH{k:Nat}(h:k<8):((pF .i64 (Int.fdiv (-1) (2 ^ (min ((k:Nat):Int).toNat IntKind.i64.bits))) (1:Int))==(1:Int))=true:=by
 match k,h with
 | 0,_|1,_|2,_|3,_|4,_|5,_|6,_|7,_=>decide
theorem QO{w:World}{a:OA}{c:Nat}{l:List Br}(h:lJ w a l)(hl:l.length<=8)(hc:l.length<=c) :
  CP 47 #[.slice a l.length c,iv (-1)] w (λ r w'=>∃ a' c',r=.slice a' (l.map Br.nm).length c'/\St w w' (zk a' c' (l.map Br.nm))):=by
 refine zj ?_;unfold vN;have e8:(if (8:Int)<((l.length:Nat):Int) then (8:Int) else ((l.length:Nat):Int))=(l.length:Int):=if_neg (by omega);rw[e8];refine⟨by omega,by omega,λ a2 l2 c2 n2 w1 m=>∃ k:Nat,n2=k/\k<=l.length/\m=l.length-k/\l2=((l.map Br.nm).take k).length/\St w w1 (star (zk a2 c2 ((l.map Br.nm).take k)) emp),⟨l.length,0,rfl,by omega,by omega,rfl,(St.start w).cV⟩,?_⟩;rintro w1 m a2 l2 c2 n2 ⟨k,rfl,hk,hm,rfl,s1⟩ -;have htn:((((l.length:Nat):Int).toNat-0:Nat):Int)=(l.length:Int):=by omega
 rw[htn]
 by_cases hlt:(k:Int)<(l.length:Int)
 ·have hx:l[k]?=some (l[k]'(by omega)):=gE (by omega);generalize l[k]'(by omega)=x at hx;have hn:(l.map Br.nm)[k]?=some x.nm:=by rw[List.getElem?_map,hx]; rfl
  obtain⟨_,q,hq,hcl⟩:=(h.aA s1.aA) k x hx;have s1' : St w w1 (Sep [zk a2 c2 ((l.map Br.nm).take k),emp]):=s1.yl;refine cT (dT hlt) ⟨λ a3 l3 c3 w2=>l3=((l.map Br.nm).take (k+1)).length/\St w w2 (star (zk a3 c3 ((l.map Br.nm).take (k+1))) emp),?_,?_⟩
  ·rintro w2 a3 l3 c3 ⟨rfl,s2⟩ -;exact⟨l.length-(k+1),by omega,k+1,aF ⟨by omega,by omega⟩,by omega,rfl,rfl,s2⟩
  ·rw[On];refine aq hq ⟨by omega,by omega,bs x.nm,_,_,_,hcl,s1'.aB L3.cells.toArray λ r1 w3 s3=>s3.aC 0 rfl x.cells rfl x.one λ w4 s4=>⟨by omega,cT (RH (by omega)) ⟨bs x.nm,s4.ag 0 rfl 0,?_⟩⟩⟩;rw[aH hn];have hlen:((l.map Br.nm).take k).length=k:=by simp; omega
   refine eK WH EC (x:=x.nm) (Od _) (s4.out 1 rfl) (by omega) (by omega) (λ a' c' w5 s5=>⟨rfl,?_⟩) rfl;have s6:St w w5 (Sep [ai r1 x.cells.toArray 92,zk a' c' ((l.map Br.nm).take k++[x.nm]),emp]):=s5.back (i:=1) (by show 1<3; decide);exact(s6.ay [1,2]).pair
 ·obtain rfl:k=l.length:=by omega
  have e:(l.map Br.nm).take l.length=l.map Br.nm:=List.take_of_length_le (by simp);rw[e] at s1 ⊢;exact cF (dF hlt) ⟨_,_,rfl,s1.first⟩
def IS(k:Int):Bool:=(k==1)||((k==2)||(k==3))
def E0(k:Int):Bool:=(k==1)||(k==3)
def Hi(k:Int):Bool:=k==1
def JH(k:Int):Bool:=k==3
def HI(k:Int):Array Value:=#[.bool (IS k),.bool (E0 k),.bool (Hi k),.bool (JH k)]
theorem J8(w:World)(k:Int):CP 39 #[iv k] w (λ r w'=>r=.agg (HI k)/\Chg w w' []):=by
 refine uM ?_;unfold pV;refine(St.start w).one.aB _ λ r1 w1 s1=>?_;have go:∀ (b1 b2 b3 b4:Bool),HI k = #[.bool b1,.bool b2,.bool b3,.bool b4]->aK ⟨r1,0,none⟩ 0 [.bool b1,.bool b2,.bool b3,.bool b4] w1 λ w2=>∃ (c1 c2 c3 c4:Bool),af w2 ⟨r1,0,none⟩ 0 [.bool c1,.bool c2,.bool c3,.bool c4]/\(Value.agg #[.bool c1,.bool c2,.bool c3,.bool c4]=.agg (HI k)/\Chg w w2 []):=λ b1 b2 b3 b4 e =>
  s1.aC 0 rfl [.bool b1,.bool b2,.bool b3,.bool b4] rfl (by intro v hv; simp at hv; rcases hv with rfl|rfl|rfl|rfl<;>rfl) λ w2 s2=>⟨b1,b2,b3,b4,s2.cellsIn 0 rfl,by rw[e],s2.aA⟩
 by_cases h1:k=1
 ·subst h1; exact cT rfl (go _ _ _ _ rfl)
 refine cF (by simpa using h1) ?_
 by_cases h2:k=2
 ·subst h2; exact cT rfl (go _ _ _ _ rfl)
 refine cF (by simpa using h2) ?_
 by_cases h3:k=3
 ·subst h3; exact cT rfl (go _ _ _ _ rfl)
 exact cF (by simpa using h3) (go _ _ _ _ (by simp[HI,IS,E0,Hi,JH,h1,h2,h3]))
def dA(C:Ck)(n:Int):List Ch:=if n<0 then [] else wz C n.toNat
abbrev O9 (a:OA) (c:Nat) (l:List Ch):aG:=cH 78 12 Ch.cells a c l
theorem TH{C C' : Ck}(e:C'.er=C)(n:Nat):wz C' n=wz C n:=by
 subst e;show _=List.map _ (C'.cl.map Rn.er);rw[List.map_map]; rfl
theorem zB{C C' : Ck}(e:C'.er=C)(n:Int):dA C' n=dA C n:=by unfold dA; rw[TH e]
theorem Ft(C:Ck)(n:Int):(dA C n).length<=C.cl.length:=by
 unfold dA wz
 split<;>simp
theorem nu{w:World}{g:Nat}{C:Ck}(h:C.Rd g w)(hk:C.Ok){n:Int}(hn:n<(C.s.bd.length:Int)) :
  CP 24 #[pt g,iv n] w (λ r w'=>∃ a c,r=.slice a (dA C n).length c/\St w w' (O9 a c (dA C n))):=by
 by_cases h0:n<0
 ·refine fV ?_;unfold eI;refine⟨λ b w1=>b=true/\w1=w,?_,an (D7 h n) ?_⟩
  ·rintro w1 b ⟨rfl,rfl⟩ -;unfold dA;rw[if_pos h0];exact cT rfl ⟨none,0,rfl,(St.start w1).cV.first⟩
  ·rintro _ w1 ⟨rfl,rfl⟩;exact⟨_,rfl,by rw[dF (by omega)]; rfl,rfl⟩
 ·obtain⟨k,rfl⟩:∃ k:Nat,n=(k:Int):=⟨n.toNat,by omega⟩;have e:dA C (k:Int)=wz C k:=by unfold dA; rw[if_neg h0,Int.toNat_natCast]
  rw[e];exact wL h hk (by omega)
def o8(S:Sx)(pol vw:Int):Int:=if pol<0\/3<pol then 4 else if vw < -1\/(S.s.bd.length:Int)<=vw then 6 else if S.ph=0 then 10 else 0
def bS(pol vw:Int):Int:=if vw=-1 then 3 else pol
def jf(S:Sx)(C:Ck)(k:Int):I6:=if IS k=true/\aW C.cl≠[] then eZ (dr (aW C.cl)) (bK S.s.ps) else z6
def wN(C:Ck)(k:Int):List I6:=if Hi k=true then bz ((aW C.cl).filter iQ) else if E0 k=true then aW C.cl else []
def sE(S:Sx)(k:Int):List (List UInt8):=if JH k=true then S.s.bd.map Br.nm else []
def lT:Vw:=⟨0,0,z6,z6,[],none,0,[],none,0,[],none,0⟩
theorem O4(w:World):lT.Rd w:=⟨λ i x hx=>by simp[lT] at hx,λ i x hx=>by simp[lT] at hx,λ i x hx=>by simp[lT] at hx⟩
def EF(S:Sx)(C:Ck)(pol vw:Int):Vw:=⟨S.ph,C.cl.length,C.p,jf S C (bS pol vw),dA C vw,none,0,wN C (bS pol vw),none,0,sE S (bS pol vw),none,0⟩
section
variable {w0 w:World} {b:Nat} {S:Sx} {C:Ck} {B:aG}
theorem qH(s:St w0 w (star (tA b S C) B))(hok:lW S C)(pol vw:Int) :
  CP 12 #[pt b,iv pol,iv vw] w (λ r w'=>∃ v:Vw,r=.tuple #[v.val,iv (o8 S pol vw)]/\v.er=(if o8 S pol vw=0 then EF S C pol vw else lT)/\St w w' (held v.Rd)):=by
 refine wO ?_;unfold sX;refine(St.start w).one.aB lT.vals.toArray λ r1 w1 t1=>an (vU (s.quiet t1.aA) hok) ?_;rintro _ w2 ⟨S',eS,rfl,k2⟩;have t2:St w w2 (Sep [held S'.In,ai r1 lT.vals.toArray 44,emp]):=t1.and k2;have ebd:S'.bd=S.s.bd:=show S'.er.bd=S.s.bd by rw[eS]
 have eps:S'.ps=S.s.ps:=show S'.er.ps=S.s.ps by rw[eS]
 refine⟨_,_,_,_,_,_,_,_,_,_,_,_,rfl,an (J8 w2 pol) ?_⟩;rintro _ w3 ⟨rfl,c3⟩;have t3:=t2.quiet c3;refine⟨IS pol,E0 pol,Hi pol,JH pol,rfl,t3.aB fP.arr λ r2 w4 t4=>t4.aB #[.bool false,.bool false,.bool false,.bool false] λ r3 w5 t5=>t5.aC 1 rfl S'.arr.toList rfl (by simp[Se.arr,Value.oneCell']) λ w6 t6=>t6.aC 0 rfl (HI pol).toList rfl (by intro v hv; simp[HI] at hv; rcases hv with rfl|rfl|rfl|rfl<;>rfl) λ w7 t7=>?_⟩;have t7:St w w7 (Sep [ai r3 (HI pol) 100,ai r2 S'.arr 34,held S'.In,ai r1 lT.vals.toArray 44,emp]):=t7;let Q:Int->World->Prop:=λ k w'=>St w w' (Sep [ai r3 (HI k) 100,ai r2 S'.arr 34,held S'.In,ai r1 lT.vals.toArray 44,emp]);have bad:∀ {w' : World} {e:Int},Q pol w'->e=o8 S pol vw->e≠0->aK ⟨r1,0,none⟩ 0 lT.vals w' λ w'' =>
   ∃ (n13 n14:Int) (u12 u13:I6) (a24:OA) (l24 c24:Nat) (a25:OA) (l25 c25:Nat) (a26:OA) (l26 c26:Nat),af w'' ⟨r1,0,none⟩ 0 ((iv n13) :: ((iv n14) :: (u12.on (u13.on [(.slice a24 l24 c24),(.slice a25 l25 c25),(.slice a26 l26 c26)]))))/\(∃ v:Vw,(Value.tuple #[(.agg ((iv n13) :: ((iv n14) :: (u12.on (u13.on [(.slice a24 l24 c24),(.slice a25 l25 c25),(.slice a26 l26 c26)]))):List Value).toArray),(iv e)])=.tuple #[v.val,iv (o8 S pol vw)]/\v.er=(if o8 S pol vw=0 then EF S C pol vw else lT)/\St w w'' (held v.Rd)):=λ q he h0 =>
  q.aC 3 rfl lT.vals rfl lT.one λ w'' q2=>⟨0,0,z6,z6,none,0,0,none,0,0,none,0,0,q2.cellsIn 3 rfl,lT,by rw[he]; rfl,by rw[if_neg (by rw[<- he]; exact h0)]; rfl,(q2.qf O4).first⟩
 refine⟨λ w8=>o8 S pol vw=0/\S.ph≠0/\-1<=vw/\vw<(S.s.bd.length:Int)/\Q (bS pol vw) w8,?_,λ b w8=>b=decide (pol<0\/3<pol)/\Q pol w8,?_,?_⟩
 rotate_left
 ·rintro w8 b ⟨rfl,q8⟩ -
  by_cases hp:pol<0\/3<pol
  ·exact cT (dT hp) (bad q8 (by unfold o8; rw[if_pos hp]) (by decide))
  refine cF (dF hp) ⟨λ b w9=>b=decide (vw < -1\/(S.s.bd.length:Int)<=vw)/\Q pol w9,?_,?_⟩
  ·rintro w9 b ⟨rfl,q9⟩ -
   by_cases hv:vw < -1\/(S.s.bd.length:Int)<=vw
   ·exact cT (dT hv) (bad q9 (by unfold o8; rw[if_neg hp,if_pos hv]) (by decide))
   refine cF (dF hv) (an (yo (s.quiet q9.aA)) ?_);rintro _ w10 ⟨rfl,rfl⟩;refine⟨_,rfl,?_⟩
   by_cases h0:S.ph=0
   ·exact cT (by simpa using h0) (bad q9 (by unfold o8; rw[if_neg hp,if_neg hv,if_pos h0]) (by decide))
   refine cF (by simpa using h0) ?_;have hE:o8 S pol vw=0:=by unfold o8; rw[if_neg hp,if_neg hv,if_neg h0]
   by_cases hn:vw=-1
   ·refine cT (by simpa using hn) (an (J8 _ 3) ?_);rintro _ w11 ⟨rfl,c11⟩;have q11:Q pol w11:=q9.quiet c11;refine⟨IS 3,E0 3,Hi 3,JH 3,rfl,St.aC q11 0 rfl (HI 3).toList rfl (by intro v hv; simp[HI] at hv; rcases hv with rfl|rfl|rfl|rfl<;>rfl) λ w12 q12=>⟨hE,h0,by omega,by omega,?_⟩⟩;have:bS pol vw=3:=by unfold bS; rw[if_pos hn]
    rw[this]; exact q12
   ·refine cF (by simpa using hn) ⟨hE,h0,by omega,by omega,?_⟩;have:bS pol vw=pol:=by unfold bS; rw[if_neg hn]
    rw[this]; exact q9
  ·by_cases hv:vw < -1
   ·exact cT (dT hv) ⟨(dT (.inl hv)).symm,q8⟩
   ·refine cF (dF hv) ⟨_,_,_,St.ag q8 1 rfl 1,?_,q8⟩;rw[ebd]
    by_cases hl:(S.s.bd.length:Int)<=vw
    ·rw[dT (show vw>=(S.s.bd.length:Int) from hl),dT (.inr hl)]
    ·rw[dF (show ¬ vw>=(S.s.bd.length:Int) from hl),dF (λ h=>h.elim hv hl)]
 ·by_cases hp:pol<0
  ·exact cT (dT hp) ⟨(dT (.inl hp)).symm,t7⟩
  ·refine cF (dF hp) ⟨?_,t7⟩
   by_cases hl:3<pol
   ·rw[dT (show pol>3 from hl),dT (.inr hl)]
   ·rw[dF (show ¬ pol>3 from hl),dF (λ h=>h.elim hp hl)]
 rintro w8 ⟨hE,h0,hv1,hv2,q8⟩ -;generalize hk:bS pol vw=k at q8;have hso:=hok.so h0;refine an (Ao (s.quiet q8.aA) hok h0) ?_;rintro _ w9 ⟨g,C1,rfl,e1,k9⟩;have hC1:=uI hok h0 e1;have es1:C1.s.bd.length=S.s.bd.length:=by
  have:=hok.cs h0;rw[<- e1] at this;have h2:C1.s.er=S.s.er:=this;rw[show C1.s.bd=S.s.bd from show C1.s.er.bd=S.s.er.bd by rw[h2]]
 have ecl:C1.cl.length=C.cl.length:=by rw[<- e1]; exact(tT C1).symm
 have ep:C1.p=C.p:=by rw[<- e1]; rfl
 have t9:St w w9 (Sep [held (C1.Rd g),ai r3 (HI k) 100,ai r2 S'.arr 34,held S'.In,ai r1 lT.vals.toArray 44,emp]):=St.and q8 k9;refine⟨_,rfl,an (KD (s.quiet t9.aA) hok h0) ?_⟩;rintro _ w10 ⟨a5,c5,rfl,k10⟩;have hGl:(aW C.cl).length<=8:=by
  have h1:(aW C1.cl).length<=8:=AL (Q:=λ l=>l.length<=8) (by decide) λ x hx=>by
   have:=(hC1.cz x hx).got;have:=hso.bd.l2;omega
  rwa [show aW C1.cl=aW C.cl by rw[<- e1]; exact(iL C1.cl).symm] at h1
 have hGb:∀ u∈aW C.cl,I6.Le u 1000000:=by
  have h1:∀ u∈aW C1.cl,I6.Le u 1000000:=AL (Q:=λ l=>∀ u∈l,I6.Le u 1000000) (λ u hu=>by cases hu) λ x hx u hu j hj=>by
   have:=hC1.cg x hx u hu j hj;omega
  rwa [show aW C1.cl=aW C.cl by rw[<- e1]; exact(iL C1.cl).symm] at h1
 have t10:St w w10 (Sep [eJ a5 c5 (aW C.cl),held (C1.Rd g),ai r3 (HI k) 100,ai r2 S'.arr 34,held S'.In,ai r1 lT.vals.toArray 44,emp]):=t9.and k10;refine⟨_,_,_,rfl,an (yo (s.quiet t10.aA)) ?_⟩;rintro _ w11 ⟨rfl,rfl⟩;refine⟨_,rfl,an (vg (t10.aP 1 rfl)) ?_⟩;rintro _ w12 ⟨rfl,rfl⟩;refine⟨(C.cl.length:Int),by rw[ecl],an (rE (t10.aP 1 rfl)) ?_⟩;rintro _ w13 ⟨rfl,c13⟩;have t13:=t10.quiet c13;refine⟨C.p,by rw[ep],an (nu (t13.aP 1 rfl) hC1 (n:=vw) (by omega)) ?_⟩;rintro _ w14 ⟨a6,c6,rfl,k14⟩;rw[zB e1] at k14 ⊢;have t14:St w w14 (Sep [O9 a6 c6 (dA C vw),eJ a5 c5 (aW C.cl),held (C1.Rd g),ai r3 (HI k) 100,ai r2 S'.arr 34,held S'.In,ai r1 lT.vals.toArray 44,emp]):=t13.and k14;let V:I6->List I6->Option Addr->Nat->List (List UInt8)->Option Addr->Nat->Vw:=λ ex dm da dc nm na nc=>⟨S.ph,C.cl.length,C.p,ex,dA C vw,a6,c6,dm,da,dc,nm,na,nc⟩;refine⟨a6,_,c6,rfl,t14.aB lT.vals.toArray λ r4 w15 t15=>t15.aC 0 rfl (V z6 [] none 0 [] none 0).vals (by rfl) (Vw.one _) λ w16 t16=>?_⟩;let T4:Vw->List I6->List (List UInt8)->Option Addr->Nat->List aG:=λ vv R N na nc=>[ai r4 vv.vals.toArray 44,zk na nc N,O9 a6 c6 (dA C vw),eJ a5 c5 R,held (C1.Rd g),ai r3 (HI k) 100,ai r2 S'.arr 34,held S'.In,ai r1 lT.vals.toArray 44,emp];have t17:St w w16 (Sep (T4 (V z6 [] none 0 [] none 0) (aW C.cl) [] none 0)):=by
  have h:=(St.cV (e:=9) (sz:=1) (f:=sT) t16);have h2:St w w16 (Sep [zk none 0 [],ai r4 (V z6 [] none 0 [] none 0).vals.toArray 44,O9 a6 c6 (dA C vw),eJ a5 c5 (aW C.cl),held (C1.Rd g),ai r3 (HI k) 100,ai r2 S'.arr 34,held S'.In,ai r1 lT.vals.toArray 44,emp]):=h;exact h2.ay [1,0,2,3,4,5,6,7,8,9]
 have fin:∀ {w' : World} {ex:I6} {dm R:List I6} {da:OA} {dc:Nat} {N:List (List UInt8)} {na:OA} {nc:Nat},St w w' (Sep (T4 (V ex dm da dc N na nc) R N na nc))->(dm=[]\/(da=a5/\dm=R))->(V ex dm da dc N na nc).er=EF S C pol vw ->
   ∃ (n5 n6:Int) (u2 u3:I6) (a7:OA) (l7 c7:Nat) (a8:OA) (l8 c8:Nat) (a9:OA) (l9 c9:Nat),af w' ⟨r4,0,none⟩ 0 ((iv n5) :: ((iv n6) :: (u2.on (u3.on [(.slice a7 l7 c7),(.slice a8 l8 c8),(.slice a9 l9 c9)])))) /\
   aK ⟨r1,0,none⟩ 0 ((iv n5) :: ((iv n6) :: (u2.on (u3.on [(.slice a7 l7 c7),(.slice a8 l8 c8),(.slice a9 l9 c9)])))) w' λ w17 =>
   ∃ (n7 n8:Int) (u4 u5:I6) (a10:OA) (l10 c10:Nat) (a11:OA) (l11 c11:Nat) (a12:OA) (l12 c12:Nat),af w17 ⟨r1,0,none⟩ 0 ((iv n7) :: ((iv n8) :: (u4.on (u5.on [(.slice a10 l10 c10),(.slice a11 l11 c11),(.slice a12 l12 c12)]))))/\(∃ v:Vw,(Value.tuple #[(.agg ((iv n7) :: ((iv n8) :: (u4.on (u5.on [(.slice a10 l10 c10),(.slice a11 l11 c11),(.slice a12 l12 c12)]))):List Value).toArray),(iv 0)])=.tuple #[v.val,iv (o8 S pol vw)]/\v.er=(if o8 S pol vw=0 then EF S C pol vw else lT)/\St w w17 (held v.Rd)):=λ {w' ex dm R da dc N na nc} q hd he =>
  ⟨S.ph,C.cl.length,C.p,ex,_,_,_,_,_,_,_,_,_,q.cellsIn 0 rfl,q.aC 8 rfl (V ex dm da dc N na nc).vals rfl (Vw.one _) λ w17 q2 =>
   ⟨S.ph,C.cl.length,C.p,ex,_,_,_,_,_,_,_,_,_,q2.cellsIn 8 rfl,V ex dm da dc N na nc,by rw[hE]; rfl,by rw[if_pos hE]; exact he,St.held (q2.ay [2,3,1]) (gU.mono ((bh Ch.len).cons ((bh aR).cons ((bh EC).cons gU.nil))) λ w' ⟨i1,i2,i3,_⟩=>⟨i1,by
    rcases hd with rfl|⟨rfl,rfl⟩
    ·exact λ i x hx=>by simp[V] at hx
    ·exact i2,i3⟩)⟩⟩
 have hsv:∀ ex dm da dc nm na nc,ex=jf S C k->dm=wN C k->nm=sE S k->(V ex dm da dc nm na nc).er=EF S C pol vw:=λ ex dm da dc nm na nc h1 h2 h3=>by
  subst h1; subst h2; subst h3; subst hk; rfl
 refine⟨IS k,E0 k,Hi k,JH k,t17.cellsIn 5 rfl,?_⟩
 by_cases hx:IS k=true
 rotate_left
 ·have hx' : IS k=false:=(Bool.not_eq_true _).mp hx;have h3:E0 k=false/\Hi k=false/\JH k=false:=by
   simp only[IS,Bool.or_eq_false_iff] at hx';simp only[E0,Hi,JH,Bool.or_eq_false_iff];exact⟨⟨hx'.1,hx'.2.2⟩,hx'.1,hx'.2.2⟩
  refine cT (by rw[hx',h3.1,h3.2.1,h3.2.2]; rfl) (fin t17 (.inl rfl) (hsv _ _ _ _ _ _ _ ?_ ?_ ?_))
  ·unfold jf; rw[if_neg (λ h=>hx h.1)]
  ·unfold wN; rw[h3.2.1,h3.1]; rfl
  ·unfold sE; rw[h3.2.2]; rfl
 refine cF (by rw[hx]; rfl) ?_;refine⟨λ w'=>St w w' (Sep (T4 (V (jf S C k) [] none 0 [] none 0) (aW C.cl) [] none 0)),?_,?_⟩
 rotate_left
 ·by_cases hg:aW C.cl=[]
  ·refine cF (by rw[hg]; rfl) ?_;have:jf S C k=z6:=by unfold jf; rw[if_neg (λ h=>h.2 hg)]
   rw[this]; exact t17
  ·have hpos:0<(aW C.cl).length:=by
    cases hh:aW C.cl with
    | nil=>exact absurd hh hg
    | cons x l=>simp
   have hex:jf S C k=eZ (dr (aW C.cl)) (bK S'.ps):=by unfold jf; rw[if_pos ⟨hx,hg⟩,eps]
   have hpl:S'.ps.length<=1000:=by rw[eps]; have:=hso.ps.l2; omega
   refine cT (dT (by omega)) ⟨_,_,_,t17.ag 6 rfl 0,an (mW (St.aP t17 7 rfl).ps hpl) ?_⟩;rintro _ w18 ⟨rfl,c18⟩;have t18:=t17.quiet c18;have hsup:I6.Le (bK S'.ps) 1000000000:=λ j hj=>by
    rw[v7 _ _ hj,eps]
    cases hpj:S.s.ps[j]? with
    | none=>rw[List.getD_eq_getElem?_getD,List.getElem?_map,hpj]; exact⟨Int.le_refl _,by decide⟩
    | some p =>
     rw[List.getD_eq_getElem?_getD,List.getElem?_map,hpj];have:=(hso.ps.good j p hpj).1;simp only[xp,Iu,Bool.and_eq_true,decide_eq_true_eq] at this;show 0<=p.sup/\p.sup<=1000000000;omega
   refine⟨bK S'.ps,rfl,an (FG _ hsup (St.rd aR (t18.out 3 rfl)) hGb (by omega)) ?_⟩;rintro _ w19 ⟨rfl,c19⟩;have t19:=t18.quiet c19;refine⟨_,rfl,t19.nX 0 8 rfl (V (jf S C k) [] none 0 [] none 0).vals.toArray (by show 14<=17; decide) (I6.one _) (by rw[hex]; rfl) λ w20 t20=>t20⟩
 rintro w18 t18 -;refine⟨λ w'=>∃ (dm:List I6) (da:OA) (dc:Nat),dm=(if E0 k=true then aW C.cl else [])/\(dm=[]\/(da=a5/\dm=aW C.cl))/\St w w' (Sep (T4 (V (jf S C k) dm da dc [] none 0) (aW C.cl) [] none 0)),?_,E0 k,t18.ag 5 rfl 1,?_⟩
 rotate_left
 ·by_cases hd:E0 k=true
  ·refine cT hd (t18.aJ 0 rfl (j:=15) (by show 15<17; decide) rfl λ w19 t19=>⟨aW C.cl,a5,c5,by rw[if_pos hd],.inr ⟨rfl,rfl⟩,t19⟩)
  ·exact cF ((Bool.not_eq_true _).mp hd) ⟨[],none,0,by rw[if_neg hd],.inl rfl,t18⟩
 rintro w19 ⟨dm,da,dc,hdm,hda,t19⟩ -;refine⟨λ w'=>∃ (dm R:List I6) (da:OA) (dc:Nat),dm=wN C k/\(dm=[]\/(da=a5/\dm=R))/\St w w' (Sep (T4 (V (jf S C k) dm da dc [] none 0) R [] none 0)),?_,Hi k,t19.ag 5 rfl 2,?_⟩
 rotate_left
 ·by_cases hl:Hi k=true
  ·refine cT hl (an (VR (t19.out 3 rfl) (by omega)) ?_);rintro _ w20 ⟨rfl,t20⟩;have t20:St w w20 (Sep (T4 (V (jf S C k) dm da dc [] none 0) ((aW C.cl).filter iQ) [] none 0)):=t20.back (i:=3) (by show 3<10; decide);have hfl:((aW C.cl).filter iQ).length<=12:=by
    have:=List.length_filter_le iQ (aW C.cl);omega
   refine⟨_,_,_,rfl,t20.aJ 0 rfl (j:=15) (by show 15<17; decide) rfl λ w21 t21=>?_⟩;have t21:St w w21 (Sep (T4 (V (jf S C k) ((aW C.cl).filter iQ) a5 c5 [] none 0) ((aW C.cl).filter iQ) [] none 0)):=t21;refine⟨_,_,_,t21.ag 0 rfl 15,an (Ve (t21.out 3 rfl) hfl) ?_⟩;rintro _ w22 ⟨rfl,t22⟩;have t22:St w w22 (Sep (T4 (V (jf S C k) ((aW C.cl).filter iQ) a5 c5 [] none 0) (bz ((aW C.cl).filter iQ)) [] none 0)):=t22.back (i:=3) (by show 3<10; decide);refine⟨rfl,bz ((aW C.cl).filter iQ),bz ((aW C.cl).filter iQ),a5,c5,by unfold wN; rw[if_pos hl],.inr ⟨rfl,rfl⟩,?_⟩;have e:(V (jf S C k) ((aW C.cl).filter iQ) a5 c5 [] none 0).vals=(V (jf S C k) (bz ((aW C.cl).filter iQ)) a5 c5 [] none 0).vals:=by
    unfold Vw.vals;show(iv S.ph :: iv (C.cl.length:Int) :: C.p.on ((jf S C k).on [.slice a6 (dA C vw).length c6,.slice a5 ((aW C.cl).filter iQ).length c5,.slice none 0 0]))=(iv S.ph :: iv (C.cl.length:Int) :: C.p.on ((jf S C k).on [.slice a6 (dA C vw).length c6,.slice a5 (bz ((aW C.cl).filter iQ)).length c5,.slice none 0 0]));rw[jK]
   have t22':=t22;simp only[T4] at t22' ⊢;rw[e] at t22';exact t22'
  ·have hl':=(Bool.not_eq_true _).mp hl;refine cF hl' ⟨dm,aW C.cl,da,dc,by unfold wN; rw[if_neg hl]; exact hdm,hda,t19⟩
 rintro w20 ⟨dm,R,da,dc,hdm,hda,t20⟩ -;refine⟨λ w'=>∃ (na:OA) (nc:Nat),St w w' (Sep (T4 (V (jf S C k) dm da dc (sE S k) na nc) R (sE S k) na nc)),?_,JH k,t20.ag 5 rfl 3,?_⟩
 rotate_left
 ·by_cases hn:JH k=true
  ·have hbl:S'.bd.length<=8:=by rw[ebd]; exact hso.bd.l2
   refine cT hn ⟨_,_,_,t20.ag 6 rfl 1,an (QO (St.aP t20 7 rfl).bd hbl (St.aP t20 7 rfl).h2) ?_⟩;rintro _ w21 ⟨na,nc,rfl,k21⟩;have t21:St w w21 (Sep (zk na nc (S'.bd.map Br.nm) :: T4 (V (jf S C k) dm da dc [] none 0) R [] none 0)):=t20.and k21;have hnm:sE S k=S'.bd.map Br.nm:=by unfold sE; rw[if_pos hn,ebd]
   refine⟨_,_,_,rfl,t21.aJ 1 rfl (j:=16) (by show 16<17; decide) rfl λ w22 t22=>⟨na,nc,?_⟩⟩;rw[hnm];exact t22.ay [1,0,3,4,5,6,7,8,9,10]
  ·have e:sE S k=[]:=by unfold sE; rw[if_neg hn]
   refine cF ((Bool.not_eq_true _).mp hn) ⟨none,0,?_⟩;rw[e]; exact t20
 rintro w21 ⟨na,nc,t21⟩ -;exact fin t21 hda (hsv _ _ _ _ _ _ _ rfl hdm rfl)
end
theorem uX{w:World}{a:OA}{c:Nat}{l:List Ev}(h:bG 11 Ev.cells w a l) :
  CP 8 #[.slice a l.length c] w (λ r w'=>∃ b:Bool,r=.bool b/\w' = w/\(b=true->l.length<=60)):=by
 refine D8 ?_;unfold CI
 by_cases g:(l.length:Int)>60
 ·exact cT (dT g) ⟨false,rfl,rfl,λ h=>by cases h⟩
 refine cF (dF g) ⟨λ n w' m=>∃ k:Nat,n=k/\k<=l.length/\m=l.length-k/\w' = w,⟨l.length,0,rfl,by omega,by omega,rfl⟩,?_⟩;rintro w' m n ⟨k,rfl,hk,hm,rfl⟩ -
 by_cases hlt:(k:Int)<(l.length:Int)
 ·have hx:l[k]?=some (l[k]'(by omega)):=gE (by omega);generalize l[k]'(by omega)=e at hx;obtain⟨q,hq,hcl⟩:=h.at hx;have hc:=aO hcl 9 (sv e.text) rfl;refine cT (dT hlt) (aq hq ⟨by omega,by omega,bs e.text,hc,?_⟩)
  by_cases g2:(((bs e.text).size:Nat):Int)>2000
  ·exact cT (dT g2) ⟨false,rfl,rfl,λ h=>by cases h⟩
  ·exact cF (dF g2) ⟨l.length-(k+1),by omega,k+1,aF ⟨by omega,by omega⟩,by omega,rfl,rfl⟩
 ·exact cF (dF hlt) ⟨true,rfl,rfl,λ _=>by omega⟩
section
variable {w0 w:World} {a:OA} {c:Nat} {l:List Ev}
theorem qj{L:List aG}(s:St w0 w (Sep L))(o:Po)(h:∀ {w'},Chg w0 w' []->bG 11 Ev.cells w' a l)(hi:∀ e∈l,e.In)(hl:l.length<=1000) :
  CP 10 #[o.v,.slice a l.length c] w (λ r w'=>∃ b,r=pt b/\St w0 w' (Sep (tA b (made o l).1 (made o l).2 :: L))):=by
 refine B6 ?_;unfold AZ;refine s.aB o.cells.toArray λ r1 w1 s1=>⟨_,_,_,_,s1.cellsIn 0 rfl,an (Vd w1 o) ?_⟩;rintro v w2 ⟨b,rfl,k2⟩;have s2:St w0 w2 (Sep ([ai b (ql o).cells.toArray 86]++ai r1 o.cells.toArray 23 :: L)):=St.cat (s1.and k2);have s3:St w0 w2 (star (held (rT (ql o) WS)) (star (ai b (ql o).cells.toArray 86) (Sep (ai r1 o.cells.toArray 23 :: L)))):=s2.qf (QU o);have s4:St w0 w2 (Sep (tA b (ql o) WS :: ai r1 o.cells.toArray 23 :: L)):=vX (QT o) rfl ⟨λ _=>rfl,λ h=>absurd rfl h⟩ s3.Hl.rR;refine⟨_,rfl,cF rfl ⟨λ n w' m=>∃ k:Nat,n=k/\k<=l.length/\m=l.length-k/\St w0 w' (Sep (tA b (made o (l.take k)).1 (made o (l.take k)).2 :: L)),⟨l.length,0,rfl,by omega,by omega,(s4.eqv bw.Hl).second⟩,?_⟩⟩;rintro w3 m n ⟨k,rfl,hk,hm,s5⟩ -
 by_cases hlt:(k:Int)<(l.length:Int)
 ·have hx:l[k]?=some (l[k]'(by omega)):=gE (by omega);generalize l[k]'(by omega)=x at hx;obtain⟨q,hq,hcl⟩:=(h s5.aA).at hx;have hok:=rF o (l.take k) λ e he=>hi e (List.mem_of_mem_take he);refine cT (dT hlt) (aq hq ⟨by omega,by omega,x.kind,x.bidder,x.round,x.want,bs x.text,x.digest,hcl,an (Mf s5 hok (hi x (List.mem_of_getElem? hx))) ?_⟩);rintro _ w4 ⟨rfl,s6⟩;refine⟨_,rfl,l.length-(k+1),by omega,k+1,aF ⟨by omega,by omega⟩,by omega,rfl,?_⟩;rw[aH hx,K5]; exact s6
 ·obtain rfl:k=l.length:=by omega
  rw[List.take_length] at s5;exact cF (dF hlt) ⟨b,rfl,s5⟩
end
abbrev pG:Prop:=∀ w,CP 9 #[] w (λ r w'=>r=.bool true/\Chg w w' [])
theorem gW(aw:pG){w0 w:World}(hc:Chg w0 w []):CC 9 #[] w (λ e w'=>∃ b,e=.returned (.bool b)/\(Value.bool b=.bool true/\Chg w0 w' [])) :=
 an (aw _) λ v w'' ⟨h1,h2⟩=>by subst h1; exact⟨true,rfl,rfl,hc.trans h2 (by simp)⟩
theorem VK{S:Sx}{C:Ck}(hok:lW S C):S.s.bd.length<=8:=by
 by_cases h:S.ph=0
 ·rw[show S.s.bd=[] from show S.s.er.bd=fP.bd by rw[hok.z h]]; decide
 ·exact(hok.so h).bd.l2
theorem PB{w:World}{g:Nat}{C:Ck}(h:C.Rd g w)(hk:C.Ok){n:Int}(hn:n<(C.s.bd.length:Int)) :
  CP 21 #[pt g,iv n] w (λ r w'=>∃ a c,r=.slice a (dA C n).length c/\St w w' (O9 a c (dA C n))):=by
 refine xe ?_;unfold td
 by_cases h0:n<0
 ·refine cT (dT h0) ⟨none,0,?_,?_⟩
  ·unfold dA; rw[if_pos h0]; rfl
  ·unfold dA; rw[if_pos h0]; exact(St.start w).cV.first
 ·refine cF (dF h0) (an (nu h hk hn) ?_);rintro _ w1 ⟨a,c,rfl,k⟩;exact⟨_,_,_,rfl,a,c,rfl,k⟩
section
variable {S:Sx} {C:Ck} {pol vw:Int}
theorem Oj(h:o8 S pol vw=0):(0<=pol/\pol<=3)/\(-1<=vw/\vw<(S.s.bd.length:Int))/\S.ph≠0:=by
 unfold o8 at h
 split at h
 ·cases h
 ·rename_i h1
  split at h
  ·cases h
  ·rename_i h2
   split at h
   ·cases h
   ·rename_i h3;exact⟨⟨by omega,by omega⟩,⟨by omega,by omega⟩,h3⟩
theorem zF(hok:lW S C)(h0:S.ph≠0):(aW C.cl).length<=8/\∀ u∈aW C.cl,I6.Le u 4:=by
 have hC:C.Ok:=(hok.c h0).ok;have es:=jQ (hok.cs h0);refine AL (Q:=λ l=>l.length<=8/\∀ u∈l,I6.Le u 4) ⟨by decide,λ u hu=>by cases hu⟩ λ x hx=>⟨?_,hC.cg x hx⟩;have h1:=(hC.cz x hx).got;have h2:=VK hok;rw[es] at h1;omega
theorem R9{v:Vw}(hok:lW S C)(ev:v.er=(if o8 S pol vw=0 then EF S C pol vw else lT)):v.own.length<=1000000/\v.dm.length<=1000000/\v.nm.length<=1000000:=by
 have go:∀ z:Vw,v.er=z.er->z.own.length<=1000000/\z.dm.length<=1000000/\z.nm.length<=1000000->v.own.length<=1000000/\v.dm.length<=1000000/\v.nm.length<=1000000:=λ z h k=>by
  have:=Vw.je.1 h;rw[this.2.2.2.2.1,this.2.2.2.2.2.1,this.2.2.2.2.2.2]; exact k
 by_cases hE:o8 S pol vw=0
 ·rw[if_pos hE] at ev;obtain⟨_,_,h0⟩:=Oj hE;refine go (EF S C pol vw) ev ⟨?_,?_,?_⟩
  ·have h1:=Ft C vw;have h2:=(hok.c h0).ok.cl;show(dA C vw).length<=1000000;omega
  ·have h1:=(zF hok h0).1;show(wN C (bS pol vw)).length<=1000000;unfold wN
   split
   ·rw[jK];have:=List.length_filter_le iQ (aW C.cl);omega
   ·split
    ·omega
    ·simp
  ·have h1:=VK hok;show(sE S (bS pol vw)).length<=1000000;unfold sE
   split
   ·rw[List.length_map]; omega
   ·simp
 ·rw[if_neg hE] at ev;exact go lT ev ⟨by decide,by decide,by decide⟩
end
section
variable {w0 w:World} {L:List aG} {ra rb:Nat} {v1 v2:Vw}
theorem W8(s:St w0 w (Sep L))(i j:Nat)(ei:L[i]?=some (ai ra v1.vals.toArray 44))(ej:L[j]?=some (ai rb v2.vals.toArray 44))(h1:v1.Rd w)(h2:v2.Rd w)(n1:v1.own.length<=1000000)(n2:v1.dm.length<=1000000)(n3:v1.nm.length<=1000000){R:Bool->World->Prop}(k:∀ b w',(b=true<->v1.er=v2.er)->Chg w w' []->R b w') :
  ∃ (n28 n29:Int) (u15 u16:I6) (a23:OA) (l23 c23:Nat) (a24:OA) (l24 c24:Nat) (a25:OA) (l25 c25:Nat),af w ⟨ra,0,none⟩ 0 ((iv n28) :: ((iv n29) :: (u15.on (u16.on [(.slice a23 l23 c23),(.slice a24 l24 c24),(.slice a25 l25 c25)])))) /\
   ∃ (n30 n31:Int) (u17 u18:I6) (a26:OA) (l26 c26:Nat) (a27:OA) (l27 c27:Nat) (a28:OA) (l28 c28:Nat),af w ⟨rb,0,none⟩ 0 ((iv n30) :: ((iv n31) :: (u17.on (u18.on [(.slice a26 l26 c26),(.slice a27 l27 c27),(.slice a28 l28 c28)])))) /\
   CC 16 #[(.agg ((iv n28) :: ((iv n29) :: (u15.on (u16.on [(.slice a23 l23 c23),(.slice a24 l24 c24),(.slice a25 l25 c25)]))):List Value).toArray)] w λ e11 w21=>∃ (n32 n33:Int) (u19 u20:I6) (a29:OA) (l29 c29:Nat) (a30:OA) (l30 c30:Nat) (a31:OA) (l31 c31:Nat),e11=.returned (.agg ((iv n32) :: ((iv n33) :: (u19.on (u20.on [(.slice a29 l29 c29),(.slice a30 l30 c30),(.slice a31 l31 c31)]))):List Value).toArray) /\
   af w21 ⟨rb,0,none⟩ 0 ((iv n30) :: ((iv n31) :: (u17.on (u18.on [(.slice a26 l26 c26),(.slice a27 l27 c27),(.slice a28 l28 c28)])))) /\
   CC 16 #[(.agg ((iv n30) :: ((iv n31) :: (u17.on (u18.on [(.slice a26 l26 c26),(.slice a27 l27 c27),(.slice a28 l28 c28)]))):List Value).toArray)] w21 λ e12 w22=>∃ (n34 n35:Int) (u21 u22:I6) (a32:OA) (l32 c32:Nat) (a33:OA) (l33 c33:Nat) (a34:OA) (l34 c34:Nat),e12=.returned (.agg ((iv n34) :: ((iv n35) :: (u21.on (u22.on [(.slice a32 l32 c32),(.slice a33 l33 c33),(.slice a34 l34 c34)]))):List Value).toArray) /\
   CC 15 #[(.agg ((iv n32) :: ((iv n33) :: (u19.on (u20.on [(.slice a29 l29 c29),(.slice a30 l30 c30),(.slice a31 l31 c31)]))):List Value).toArray),(.agg ((iv n34) :: ((iv n35) :: (u21.on (u22.on [(.slice a32 l32 c32),(.slice a33 l33 c33),(.slice a34 l34 c34)]))):List Value).toArray)] w22 λ e13 w23=>∃ (b7:Bool),e13=.returned (.bool b7)/\R b7 w23:=by
 refine⟨v1.ph,v1.rd,v1.pr,v1.ex,_,_,_,_,_,_,_,_,_,s.cellsIn i ei,v2.ph,v2.rd,v2.pr,v2.ex,_,_,_,_,_,_,_,_,_,s.cellsIn j ej,an (EV v1 w) ?_⟩;rintro _ w21 ⟨rfl,c21⟩;have s21:=s.quiet c21;refine⟨v1.ph,v1.rd,v1.pr,v1.ex,_,_,_,_,_,_,_,_,_,rfl,s21.cellsIn j ej,an (EV v2 w21) ?_⟩;rintro _ w22 ⟨rfl,c22⟩;have cc:Chg w w22 []:=c21.trans c22 (by simp);refine⟨v2.ph,v2.rd,v2.pr,v2.ex,_,_,_,_,_,_,_,_,_,rfl,an (vQ (v1:=v1) (v2:=v2) (h1.aA cc) (h2.aA cc) n1 n2 n3) ?_⟩;rintro _ w23 ⟨⟨b,rfl,hb⟩,c23⟩;exact⟨b,rfl,k b w23 hb (cc.trans c23 (by simp))⟩
end

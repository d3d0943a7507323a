import Derived.Test.YtbnolaiklhbkkaaGreatDoorG11
set_option linter.unusedVariables false
set_option maxRecDepth 100000
namespace Go.Proofs.YtbnolaiklhbkkaaGreatDoor
open Go Go.Vc Go.Sort Go.RowKit _root_.Go.Proofs.Tryz
section
variable {w:World}
theorem Ph{g o c:Nat}{xs:List (List UInt8)}(hcells:∀ (j:Nat) x,xs[j]?=some x->w.cell? ⟨g,o+j,none⟩=some (sv x))(hg:g<w.heap.size)(hc:xs.length<=c)(hN:xs.length<=1000000)(hl:(Lib.join xs [32]).length<=140737488355328) :
  CP 52 #[.slice (some ⟨g,o,none⟩) xs.length c] w (λ r w'=>r=sv (tv xs)/\ay w w' []):=by
 refine AA ?_;unfold zH;have e1:(xs.map bs).map (·.data.toList)=xs:=by
  rw[List.map_map]
  conv=>rhs; rw[<- List.map_id xs]
  exact List.map_congr_left λ x _=>by simp[bs]
 have hj:=Tryz.strings_Join g o c (xs.map bs) (bs [32]) w (λ j x hx=>by
  rw[List.getElem?_map,Option.map_eq_some_iff] at hx;obtain⟨y,hy,rfl⟩:=hx;exact hcells j y hy) hg (by simp; omega) (by simpa using hc) (by rw[e1]; exact hl)
 rw[e1,List.length_map] at hj;refine hj.mono λ e w' ⟨he,hb⟩=>⟨_,he,?_,?_,Ix hb⟩
 ·have:(⟨(Lib.join xs (bs [32]).data.toList).toArray⟩:ByteArray).size=(Lib.join xs [32]).length:=by simp[ByteArray.size,bs]
  rw[this];have h2:(bs [10]).size=1:=rfl;rw[h2];have:IntKind.i64.max=9223372036854775807:=rfl;omega
 ·congr 1
end
theorem ua{w0 w:World}{a:OA}{c:Nat}{xs:List (List UInt8)}{B:aC}(s:St w0 w (star (Tr a c xs) B))(h0:xs≠[])(hn:xs.length<=1000)(hl:∀ y∈xs,y.length<=100) :
  CP 52 #[.slice a xs.length c] w (λ r w'=>r=sv (tv xs)/\ay w w' []):=by
 have own:=s.rowOf;have hpos:0<xs.length:=by cases xs with|nil=>exact absurd rfl h0|cons x r=>simp
 obtain⟨g,rfl,hget⟩:=CT own hpos;have cells:∀ (j:Nat) x,xs[j]?=some x->w.cell? ⟨g,0+j,none⟩=some (sv x):=λ j x hx=>by
  obtain⟨q,hq,hc⟩:=O8 (s.rd Ma) hx
  cases hq
  rw[bq,Nat.mul_one] at hc;exact hc
 obtain⟨x,hx⟩:∃ x,xs[0]?=some x:=⟨_,gE hpos⟩;exact Ph cells (Oo (cells 0 x hx)) (tT own).1 (by omega) (Re hl hn)
def Ad : Pr:=⟨[],0,0,0,0⟩
def On(x:Pr):List UInt8:=tv [zY,x.nm,Lib.itoa x.sup,Lib.itoa x.res,Lib.itoa x.pts,Lib.itoa x.grp]
def Ol(x:Br):List UInt8:=tv [zX,x.nm,Lib.itoa x.cls,Lib.itoa x.bud,Lib.itoa x.pts]
def iJ(S:Se)(x:T3):List UInt8:=if x.a>=0 then (S.bd.getD x.a.toNat mQ).nm else [42]
def Om(S:Se)(x:T3):List UInt8:=tv [xT,iJ S x,Lib.itoa x.b,Lib.itoa x.c]
def Oj(S:Se)(x:T3):List UInt8:=tv [xS,(S.ps.getD x.a.toNat Ad).nm,Lib.itoa x.b,Lib.itoa x.c]
def IM(S:Se):Nat->List UInt8
 | 0=>[]
 | k+1=>IM S k++((S.ps[k]?.map On).getD [])
def IN(S:Se):Nat->List UInt8
 | 0=>IM S S.ps.length
 | k+1=>IN S k++((S.bd[k]?.map Ol).getD [])
def IP(S:Se):Nat->List UInt8
 | 0=>IN S S.bd.length
 | k+1=>IP S k++((S.cp[k]?.map (Om S)).getD [])
def KU(S:Se):Nat->List UInt8
 | 0=>IP S S.cp.length
 | k+1=>KU S k++((S.sa[k]?.map (Oj S)).getD [])
def dh(S:Se):List UInt8:=KU S S.sa.length
theorem SY(S:Se):IM S S.ps.length=IN S 0:=rfl
theorem SZ(S:Se):IN S S.bd.length=IP S 0:=rfl
theorem S0(S:Se):IP S S.cp.length=KU S 0:=rfl
section
variable {S:Se}
theorem CA(h:S.Ok){k:Nat}{x:Pr}(hx:S.ps[k]?=some x):x.nm.length<=12:=by
 have:=(h.ps.good k x hx).1;simp only[tJ,cw,Bool.and_eq_true,decide_eq_true_eq] at this;exact this.1.2.1
theorem FQ(h:S.Ok){k:Nat}{x:Br}(hx:S.bd[k]?=some x):x.nm.length<=12:=by
 have:=(h.bd.good k x hx).1;simp only[cw,Bool.and_eq_true,decide_eq_true_eq] at this;exact this.1.2.1
theorem S6(h:S.Ok){k:Nat}{x:Pr}(hx:S.ps[k]?=some x):In x.sup/\In x.res/\In x.pts/\In x.grp:=by
 have:=(h.ps.good k x hx).1;simp only[tJ,Gq,Bool.and_eq_true,decide_eq_true_eq] at this;obtain⟨_,h1,h2,h3,h4⟩:=this;refine⟨⟨?_,?_⟩,⟨?_,?_⟩,⟨?_,?_⟩,⟨?_,?_⟩⟩<;>omega
theorem S5(h:S.Ok){k:Nat}{x:Br}(hx:S.bd[k]?=some x):In x.cls/\In x.bud/\In x.pts:=by
 have:=(h.bd.good k x hx).1;simp only[uz,Bool.and_eq_true,decide_eq_true_eq] at this;obtain⟨_,h1,h2,h3⟩:=this;refine⟨⟨?_,?_⟩,⟨?_,?_⟩,⟨?_,?_⟩⟩<;>omega
theorem QF(h:S.Ok){k:Nat}{x:T3}(hx:S.cp[k]?=some x) : -1<=x.a/\x.a<S.bd.length/\In x.b/\In x.c:=by
 have:=(h.cp.good k x hx).1;simp only[sJ,Bool.and_eq_true,decide_eq_true_eq] at this;obtain⟨h1,h2,h3⟩:=this;refine⟨h1.1,h1.2,⟨?_,?_⟩,⟨?_,?_⟩⟩<;>omega
theorem TE(h:S.Ok)(k:Nat):(S.ps[k]?.map Pr.sup).getD 0<=4:=by
 cases hx:S.ps[k]? with
 | none=>simp
 | some x =>
  have:=(h.ps.good k x hx).1;simp only[tJ,Gq,Bool.and_eq_true,decide_eq_true_eq] at this;simp only[Option.map_some,Option.getD_some];exact this.2.1.2
theorem Uc(h:S.Ok){k:Nat}{x:T3}(hx:S.sa[k]?=some x):0<=x.a/\x.a<S.ps.length/\In x.b/\In x.c:=by
 have:=(h.sa.good k x hx).1;simp only[Am,Bool.and_eq_true,decide_eq_true_eq] at this;obtain⟨h1,h2,h3⟩:=this;have:=TE h x.a.toNat;refine⟨h1.1,h1.2,⟨?_,?_⟩,⟨?_,?_⟩⟩<;>omega
theorem TQ(h:S.Ok){k:Nat}{x:Pr}(hx:S.ps[k]?=some x):∀ y∈[zY,x.nm,Lib.itoa x.sup,Lib.itoa x.res,Lib.itoa x.pts,Lib.itoa x.grp],y.length<=100:=by
 obtain⟨h1,h2,h3,h4⟩:=S6 h hx;have g1:=K9 h1; have g2:=K9 h2; have g3:=K9 h3; have g4:=K9 h4; have g5:=CA h hx;intro y hy;simp only[List.mem_cons,List.not_mem_nil,or_false] at hy;rcases hy with rfl|rfl|rfl|rfl|rfl|rfl<;>first|decide|omega
theorem TO(h:S.Ok){k:Nat}{x:Br}(hx:S.bd[k]?=some x):∀ y∈[zX,x.nm,Lib.itoa x.cls,Lib.itoa x.bud,Lib.itoa x.pts],y.length<=100:=by
 obtain⟨h1,h2,h3⟩:=S5 h hx;have g1:=K9 h1; have g2:=K9 h2; have g3:=K9 h3; have g5:=FQ h hx;intro y hy;simp only[List.mem_cons,List.not_mem_nil,or_false] at hy;rcases hy with rfl|rfl|rfl|rfl|rfl<;>first|decide|omega
theorem DE(h:S.Ok){k:Nat}{x:T3}(hx:S.cp[k]?=some x):(iJ S x).length<=12:=by
 obtain⟨h1,h2,_⟩:=QF h hx;unfold iJ
 split
 ·have:S.bd[x.a.toNat]?=some (S.bd.getD x.a.toNat mQ):=by rw[List.getD_eq_getElem?_getD,gE (by omega)]; rfl
  exact FQ h this
 ·decide
theorem TP(h:S.Ok){k:Nat}{x:T3}(hx:S.cp[k]?=some x):∀ y∈[xT,iJ S x,Lib.itoa x.b,Lib.itoa x.c],y.length<=100:=by
 obtain⟨_,_,h1,h2⟩:=QF h hx;have g1:=K9 h1; have g2:=K9 h2; have g5:=DE h hx;intro y hy;simp only[List.mem_cons,List.not_mem_nil,or_false] at hy;rcases hy with rfl|rfl|rfl|rfl<;>first|decide|omega
theorem Dw(h:S.Ok){k:Nat}{x:T3}(hx:S.sa[k]?=some x):S.ps[x.a.toNat]?=some (S.ps.getD x.a.toNat Ad):=by
 obtain⟨h1,h2,_⟩:=Uc h hx;rw[List.getD_eq_getElem?_getD,gE (by omega)]; rfl
theorem TN(h:S.Ok){k:Nat}{x:T3}(hx:S.sa[k]?=some x):∀ y∈[xS,(S.ps.getD x.a.toNat Ad).nm,Lib.itoa x.b,Lib.itoa x.c],y.length<=100:=by
 obtain⟨_,_,h1,h2⟩:=Uc h hx;have g1:=K9 h1; have g2:=K9 h2; have g5:=CA h (Dw h hx);intro y hy;simp only[List.mem_cons,List.not_mem_nil,or_false] at hy;rcases hy with rfl|rfl|rfl|rfl<;>first|decide|omega
theorem KR{k:Nat}{x:Pr}(hx:S.ps[k]?=some x):IM S (k+1)=IM S k++On x:=by show IM S k++_=_; rw[hx]; rfl
theorem KS{k:Nat}{x:Br}(hx:S.bd[k]?=some x):IN S (k+1)=IN S k++Ol x:=by show IN S k++_=_; rw[hx]; rfl
theorem KT{k:Nat}{x:T3}(hx:S.cp[k]?=some x):IP S (k+1)=IP S k++Om S x:=by show IP S k++_=_; rw[hx]; rfl
theorem KW{k:Nat}{x:T3}(hx:S.sa[k]?=some x):KU S (k+1)=KU S k++Oj S x:=by show KU S k++_=_; rw[hx]; rfl
theorem Cj(h:S.Ok):∀ k,k<=S.ps.length->(IM S k).length<=607*k
 | 0,_=>by simp[IM]
 | k+1,hk=>by
  have ih:=Cj h k (by omega);have hx:S.ps[k]?=some (S.ps[k]'(by omega)):=gE (by omega);have:=Ct (TQ h hx);rw[KR hx,List.length_append];simp only[List.length_cons,List.length_nil] at this;show _+(tv _).length<=_;omega
theorem Cl(h:S.Ok):∀ k,k<=S.bd.length->(IN S k).length<=3642+506*k
 | 0,_=>by have:=Cj h _ (Nat.le_refl _); have:=h.ps.l2; show(IM S S.ps.length).length<=_; omega
 | k+1,hk=>by
  have ih:=Cl h k (by omega);have hx:S.bd[k]?=some (S.bd[k]'(by omega)):=gE (by omega);have:=Ct (TO h hx);rw[KS hx,List.length_append];simp only[List.length_cons,List.length_nil] at this;show _+(tv _).length<=_;omega
theorem Cm(h:S.Ok):∀ k,k<=S.cp.length->(IP S k).length<=8000+405*k
 | 0,_=>by have:=Cl h _ (Nat.le_refl _); have:=h.bd.l2; show(IN S S.bd.length).length<=_; omega
 | k+1,hk=>by
  have ih:=Cm h k (by omega);have hx:S.cp[k]?=some (S.cp[k]'(by omega)):=gE (by omega);have:=Ct (TP h hx);rw[KT hx,List.length_append];simp only[List.length_cons,List.length_nil] at this;show _+(tv _).length<=_;omega
theorem FC(h:S.Ok):∀ k,k<=S.sa.length->(KU S k).length<=16000+405*k
 | 0,_=>by have:=Cm h _ (Nat.le_refl _); have:=h.cp.l1; show(IP S S.cp.length).length<=_; omega
 | k+1,hk=>by
  have ih:=FC h k (by omega);have hx:S.sa[k]?=some (S.sa[k]'(by omega)):=gE (by omega);have:=Ct (TN h hx);rw[KW hx,List.length_append];simp only[List.length_cons,List.length_nil] at this;show _+(tv _).length<=_;omega
end
set_option maxHeartbeats 1000000 in
theorem JC{w:World}{S:Se}(h:S.In w)(ht:JY w) :
  CP 25 #[.agg S.arr] w (λ r w'=>((vp S≠0/\r=.tuple #[sv [],iv (vp S)])\/(S.Ok/\r=.tuple #[sv (dh S),iv 0]))/\ay w w' []):=by
 refine xe ?_;unfold tX;refine(St.start w).one.ax S.arr λ r1 w1 s1=>⟨_,_,_,_,_,_,_,_,_,_,_,_,s1.cellsIn 0 rfl,ak (lF (h.au s1.au)) ?_⟩;rintro v w2 ⟨⟨rfl,he⟩,c2⟩;have s2:=s1.quiet c2;refine⟨_,rfl,?_⟩
 by_cases g:vp S=0
 rotate_left
 ·exact cT (by simpa using g) ⟨.inl ⟨g,rfl⟩,s2.au⟩
 have ho:=he.1 g;have l1:=ho.ps.l2; have l2:=ho.bd.l2; have l3:=ho.cp.l1; have l4:=ho.sa.l1;let M:List aC:=[ai r1 S.arr 27,emp];have s2:St w w2 (Sep M):=s2;refine cF (by rw[g]; rfl) ⟨_,_,_,s2.ag 0 rfl 0,λ t n w3 m=>∃ k:Nat,n=k/\t=bs (IM S k)/\k<=S.ps.length/\m=S.ps.length-k/\St w w3 (Sep M),⟨S.ps.length,0,rfl,rfl,by omega,by omega,s2⟩,?_⟩;rintro w3 m t n ⟨k,rfl,rfl,hk,hm,s3⟩ -;have b1:=Cj ho k hk
 by_cases hlt:(k:Int)<(S.ps.length:Int)
 ·have hx:S.ps[k]?=some (S.ps[k]'(by omega)):=gE (by omega);generalize S.ps[k]'(by omega)=x at hx;obtain⟨i1,i2,i3,i4⟩:=S6 ho hx;obtain⟨_,q,hq,hcl⟩:=(h.au s3.au).ps k x hx;refine cT (dT hlt) (aj hq ⟨by omega,by omega,bs x.nm,_,_,_,_,hcl,s3.ax Ad.cells.toArray λ r4 w4 s4=>s4.az 0 rfl x.cells rfl x.one λ w5 s5=>?_⟩);have s6:=s5.quiet (ay.drew _ _);refine⟨_,s6.ag 0 rfl 0,_,s6.ag 0 rfl 1,_,s6.ag 0 rfl 2,_,s6.ag 0 rfl 3,_,s6.ag 0 rfl 4,ak (mB (ht.au s6.au) i1) ?_⟩;rintro _ w7 ⟨rfl,c7⟩;have s7:=s6.quiet c7;refine⟨_,rfl,s7.ag 0 rfl 4,s7.ag 0 rfl 3,s7.ag 0 rfl 2,s7.ag 0 rfl 0,ak (KQ (ht.au s7.au) i2) ?_⟩;rintro _ w8 ⟨rfl,c8⟩;have s8:=s7.quiet c8;refine⟨_,rfl,s8.ag 0 rfl 4,s8.ag 0 rfl 3,s8.ag 0 rfl 0,ak (mB (ht.au s8.au) i3) ?_⟩;rintro _ w9 ⟨rfl,c9⟩;have s9:=s8.quiet c9;refine⟨_,rfl,s9.ag 0 rfl 4,s9.ag 0 rfl 0,ak (mB (ht.au s9.au) i4) ?_⟩;rintro _ w10 ⟨rfl,c10⟩;have s10:=s9.quiet c10;refine⟨_,rfl,s10.ag 0 rfl 0,s10.ax _ λ r5 w11 s11=>?_⟩;have t11:=xA s11 0 rfl (xs:=[zY,x.nm,Lib.itoa x.sup,Lib.itoa x.res,Lib.itoa x.pts,Lib.itoa x.grp]) rfl (by simp);have k11:=ua t11 (by simp) (by simp) (TQ ho hx);refine ak k11 ?_;rintro _ w12 ⟨rfl,c12⟩;have s12:=s11.quiet c12;have b2:=Cj ho (k+1) (by omega);rw[KR hx,List.length_append] at b2;unfold On at b2;exact⟨_,rfl,by rw[eH,eH,N6]; omega,S.ps.length-(k+1),by omega,k+1,aB ⟨by omega,by omega⟩,by rw[gT,KR hx]; rfl,by omega,rfl,s12.av [2,3]⟩
 obtain rfl:k=S.ps.length:=by omega
 clear hk hm hlt b1;refine cF (by simp) ⟨_,_,_,s3.ag 0 rfl 1,λ t n w4 m=>∃ k:Nat,n=k/\t=bs (IN S k)/\k<=S.bd.length/\m=S.bd.length-k/\St w w4 (Sep M),⟨S.bd.length,0,rfl,congrArg bs (SY S),by omega,by omega,s3⟩,?_⟩;clear s3;rintro w3 m t n ⟨k,rfl,rfl,hk,hm,s3⟩ -;have b1:=Cl ho k hk
 by_cases hlt:(k:Int)<(S.bd.length:Int)
 ·have hx:S.bd[k]?=some (S.bd[k]'(by omega)):=gE (by omega);generalize S.bd[k]'(by omega)=x at hx;obtain⟨i1,i2,i3⟩:=S5 ho hx;obtain⟨_,q,hq,hcl⟩:=(h.au s3.au).bd k x hx;refine cT (dT hlt) (aj hq ⟨by omega,by omega,bs x.nm,_,_,_,hcl,s3.ax mQ.cells.toArray λ r4 w4 s4=>s4.az 0 rfl x.cells rfl x.one λ w5 s5=>?_⟩);have s6:=s5.quiet (ay.drew _ _);refine⟨_,s6.ag 0 rfl 0,_,s6.ag 0 rfl 1,_,s6.ag 0 rfl 2,_,s6.ag 0 rfl 3,ak (mB (ht.au s6.au) i1) ?_⟩;rintro _ w7 ⟨rfl,c7⟩;have s7:=s6.quiet c7;refine⟨_,rfl,s7.ag 0 rfl 3,s7.ag 0 rfl 2,s7.ag 0 rfl 0,ak (KQ (ht.au s7.au) i2) ?_⟩;rintro _ w8 ⟨rfl,c8⟩;have s8:=s7.quiet c8;refine⟨_,rfl,s8.ag 0 rfl 3,s8.ag 0 rfl 0,ak (mB (ht.au s8.au) i3) ?_⟩;rintro _ w9 ⟨rfl,c9⟩;have s10:=s8.quiet c9;refine⟨_,rfl,s10.ag 0 rfl 0,s10.ax _ λ r5 w11 s11=>?_⟩;have t11:=xA s11 0 rfl (xs:=[zX,x.nm,Lib.itoa x.cls,Lib.itoa x.bud,Lib.itoa x.pts]) rfl (by simp);have k11:=ua t11 (by simp) (by simp) (TO ho hx);refine ak k11 ?_;rintro _ w12 ⟨rfl,c12⟩;have s12:=s11.quiet c12;have b2:=Cl ho (k+1) (by omega);rw[KS hx,List.length_append] at b2;unfold Ol at b2;exact⟨_,rfl,by rw[eH,eH,N6]; omega,S.bd.length-(k+1),by omega,k+1,aB ⟨by omega,by omega⟩,by rw[gT,KS hx]; rfl,by omega,rfl,s12.av [2,3]⟩
 obtain rfl:k=S.bd.length:=by omega
 clear hk hm hlt b1;refine cF (by simp) ⟨_,_,_,s3.ag 0 rfl 2,λ t n w4 m=>∃ k:Nat,n=k/\t=bs (IP S k)/\k<=S.cp.length/\m=S.cp.length-k/\St w w4 (Sep M),⟨S.cp.length,0,rfl,congrArg bs (SZ S),by omega,by omega,s3⟩,?_⟩;clear s3;rintro w3 m t n ⟨k,rfl,rfl,hk,hm,s3⟩ -;have b1:=Cm ho k hk
 by_cases hlt:(k:Int)<(S.cp.length:Int)
 ·have hx:S.cp[k]?=some (S.cp[k]'(by omega)):=gE (by omega);generalize S.cp[k]'(by omega)=x at hx;obtain⟨ra,rb,i1,i2⟩:=QF ho hx;obtain⟨q,hq,hcl⟩:=(h.au s3.au).cp k x hx;refine cT (dT hlt) (aj hq ⟨by omega,by omega,_,_,_,hcl,s3.ax (⟨0,0,0⟩:T3).cells.toArray λ r4 w4 s4=>s4.az 0 rfl x.cells rfl x.one λ w5 s5=>?_⟩);have s5:St w w5 (Sep (ai r4 x.cells.toArray 98 :: M)):=s5;refine⟨λ t w6=>t=bs (iJ S x)/\St w w6 (Sep (ai r4 x.cells.toArray 98 :: M)),?_,_,s5.ag 0 rfl 0,?_⟩
  ·rintro w6 t ⟨rfl,s6⟩ -;have s6:=s6.quiet (ay.drew _ _);refine⟨_,s6.ag 0 rfl 1,_,s6.ag 0 rfl 2,ak (mB (ht.au s6.au) i1) ?_⟩;rintro _ w7 ⟨rfl,c7⟩;have s7:=s6.quiet c7;refine⟨_,rfl,s7.ag 0 rfl 2,ak (mB (ht.au s7.au) i2) ?_⟩;rintro _ w8 ⟨rfl,c8⟩;have s10:=s7.quiet c8;refine⟨_,rfl,s10.ax _ λ r5 w11 s11=>?_⟩;have t11:=xA s11 0 rfl (xs:=[xT,iJ S x,Lib.itoa x.b,Lib.itoa x.c]) rfl (by simp);have k11:=ua t11 (by simp) (by simp) (TP ho hx);refine ak k11 ?_;rintro _ w12 ⟨rfl,c12⟩;have s12:=s11.quiet c12;have b2:=Cm ho (k+1) (by omega);rw[KT hx,List.length_append] at b2;unfold Om at b2;exact⟨_,rfl,by rw[eH,eH,N6]; omega,S.cp.length-(k+1),by omega,k+1,aB ⟨by omega,by omega⟩,by rw[gT,KT hx]; rfl,by omega,rfl,s12.av [2,3]⟩
  ·by_cases g0:x.a>=0
   ·have hy:S.bd[x.a.toNat]?=some (S.bd.getD x.a.toNat mQ):=by rw[List.getD_eq_getElem?_getD,gE (by omega)]; rfl
    obtain⟨q2,hq2,hc2⟩:=GU (h.au s5.au).bd hy 0 _ rfl;exact cT (dT g0) ⟨_,_,_,s5.ag 1 rfl 1,_,s5.ag 0 rfl 0,aj hq2 ⟨by omega,by omega,_,hc2,by rw[iJ,if_pos g0],s5⟩⟩
   ·exact cF (dF g0) ⟨by rw[iJ,if_neg g0],s5⟩
 obtain rfl:k=S.cp.length:=by omega
 clear hk hm hlt b1;refine cF (by simp) ⟨_,_,_,s3.ag 0 rfl 3,λ t n w4 m=>∃ k:Nat,n=k/\t=bs (KU S k)/\k<=S.sa.length/\m=S.sa.length-k/\St w w4 (Sep M),⟨S.sa.length,0,rfl,congrArg bs (S0 S),by omega,by omega,s3⟩,?_⟩;clear s3;rintro w3 m t n ⟨k,rfl,rfl,hk,hm,s3⟩ -;have b1:=FC ho k hk
 by_cases hlt:(k:Int)<(S.sa.length:Int)
 ·have hx:S.sa[k]?=some (S.sa[k]'(by omega)):=gE (by omega);generalize S.sa[k]'(by omega)=x at hx;obtain⟨ra,rb,i1,i2⟩:=Uc ho hx;obtain⟨q,hq,hcl⟩:=(h.au s3.au).sa k x hx;refine cT (dT hlt) (aj hq ⟨by omega,by omega,_,_,_,hcl,s3.ax (⟨0,0,0⟩:T3).cells.toArray λ r4 w4 s4=>s4.az 0 rfl x.cells rfl x.one λ w5 s5=>?_⟩);have s6:=s5.quiet (ay.drew _ _);have hy:=Dw ho hx;obtain⟨_,q2,hq2,hc2⟩:=(h.au s6.au).ps _ _ hy;have c0:∀ {w'},ay w w' []->w'.cell? (Addr.add q2 (x.a.toNat*5))=some (sv (S.ps.getD x.a.toNat Ad).nm):=λ {w'} hc=>by
   obtain⟨_,q3,hq3,hc3⟩:=(h.au hc).ps _ _ hy;obtain rfl:q2=q3:=Option.some.inj (hq2.symm.trans hq3);have:=aS hc3 0 _ rfl
   rwa [Nat.zero_add,Addr.add_add,Nat.add_zero] at this
  refine⟨_,_,_,s6.ag 1 rfl 0,_,s6.ag 0 rfl 0,aj hq2 ⟨by omega,by omega,_,c0 s6.au,_,s6.ag 0 rfl 1,_,s6.ag 0 rfl 2,ak (mB (ht.au s6.au) i1) ?_⟩⟩;rintro _ w7 ⟨rfl,c7⟩;have s7:=s6.quiet c7;refine⟨_,rfl,s7.ag 0 rfl 2,c0 s7.au,s7.ag 0 rfl 0,s7.ag 1 rfl 0,ak (mB (ht.au s7.au) i2) ?_⟩;rintro _ w8 ⟨rfl,c8⟩;have s10:=s7.quiet c8;refine⟨_,rfl,c0 s10.au,s10.ag 0 rfl 0,s10.ag 1 rfl 0,s10.ax _ λ r5 w11 s11=>?_⟩;have t11:=xA s11 0 rfl (xs:=[xS,(S.ps.getD x.a.toNat Ad).nm,Lib.itoa x.b,Lib.itoa x.c]) rfl (by simp);have k11:=ua t11 (by simp) (by simp) (TN ho hx);refine ak k11 ?_;rintro _ w12 ⟨rfl,c12⟩;have s12:=s11.quiet c12;have b2:=FC ho (k+1) (by omega);rw[KW hx,List.length_append] at b2;unfold Oj at b2;exact⟨_,rfl,by rw[eH,eH,N6]; omega,S.sa.length-(k+1),by omega,k+1,aB ⟨by omega,by omega⟩,by rw[gT,KW hx]; rfl,by omega,rfl,s12.av [2,3]⟩
 obtain rfl:k=S.sa.length:=by omega
 exact cF (by simp) ⟨.inr ⟨ho,rfl⟩,s3.au⟩
end Go.Proofs.YtbnolaiklhbkkaaGreatDoor
namespace Go.Proofs.YtbnolaiklhbkkaaGreatDoor
open Go Go.Vc _root_.Go.Proofs.Tryz
def tL(a:OA)(b c:Nat)(d:OA)(e f:Nat)(g:OA)(h i:Nat)(j:OA)(k l:Nat)(m n o p:Int)(q:OA)(r s:Nat)(w:World)(K:KP):=aq w (.cells #[.slice a b c,.slice d e f,.slice g h i,.slice j k l] 27) λ a b=>aq b (.cells #[iv m,iv n,iv o,iv p] 29) λ b c=>∃ d e f g h i j k l m n o,af c (qd a 0) 0 [.slice d e f,.slice g h i,.slice j k l,.slice m n o]/\∃ p t u v,af c (qd b 0) 0 [iv p,iv t,iv u,iv v]/\CC 7 #[.agg #[.slice d e f,.slice g h i,.slice j k l,.slice m n o],.agg #[iv p,iv t,iv u,iv v],.slice q r s] c λ b c=>∃ d e,b=.returned (.tuple #[.pointer d,iv e])/\cond (e !=0) (K (.tuple #[qn,iv e]) c) (∃ b e f g h i j k l m n o,af c (qd a 0) 0 [.slice b e f,.slice g h i,.slice j k l,.slice m n o]/\CC 25 #[.agg #[.slice b e f,.slice g h i,.slice j k l,.slice m n o]] c λ b c=>∃ e f,b=.returned (.tuple #[.string e,iv f])/\cond (f !=0) (K (.tuple #[qn,iv f]) c) (aq c (.cells #[iv 1,qz,qz,qz,qz,qz,qz,qz,qz,.string e,.int .u64 0] 47) λ b c=>CC 26 #[.pointer d] c λ c d=>∃ e f g,c=.returned (.slice e f g)/\∃ c:OA->Nat->Nat->Int->qN,(∃ g,c (some (qd b 0)) 1 1 0 d g)/\∀ b g d h i j,c d h i j b g->∀ k:qv,cond (decide (j<(f:Int))) (∃ k:OA->Nat->Nat->qW,(∀ l m n o,k m n o l->∀ p:qv,∃ p,p<g/\c m n o (IntKind.i64.wrap (j+1)) l p)/\an e λ c=>0<=j/\j<(f:Int)/\∃ e:I6,∃ f g l m n o p q r,af b (Addr.add c ((j).toNat*9)) 0 (e.on [.slice f g l,.slice m n o,.slice p q r])/\aq b (.cells #[qz,qz,qz,qz,qz,qz,qn,qn,qn] 76) λ c j=>aL (qd c 0) 0 (e.on [.slice f g l,.slice m n o,.slice p q r]) j λ e=>∃ f g j,e.cell? (qd c 6)=some (.slice f g j)/\∃ c:OA->Nat->Nat->Int->qN,(∃ j,c d h i 0 e j)/\∀ e j l m n o,c l m n o e j->∀ p:qv,cond (decide (o<(g:Int))) (an f λ f=>0<=o/\o<(g:Int)/\∃ g:I6,af e (Addr.add f ((o).toNat*6)) 0 g.vs/\aq e (.cells z6.vs.toArray 44) λ f p=>aL (qd f 0) 0 g.vs p λ g=>∃ p q r,g.cell? (qd a 1)=some (.slice p q r)/\cond (decide (o>=(q:Int))) (k l m n g) (∃ a:I6,af g (qd f 0) 0 a.vs/\aq g (.cells (iv 2 :: iv o :: qz :: a.on [.string (bs []),.int .u64 0]:List Value).toArray 47) λ a f=>aV prog (Builtin.append_ #[33,33] 33 #[.slice l m n,.slice (some (qd a 0)) 1 1]) f λ a f=>∃ g p q,a=(.slice g p q)/\∃ a,a<j/\c g p q (IntKind.i64.wrap (o+1)) f a)) (aq e (.cells #[iv 3,qz,qz,qz,qz,qz,qz,qz,qz,.string (bs []),.int .u64 0] 47) λ a c=>aV prog (Builtin.append_ #[33,33] 33 #[.slice l m n,.slice (some (qd a 0)) 1 1]) c λ a c=>∃ e f g,a=(.slice e f g)/\k e f g c)) (K (.tuple #[.slice d h i,qz]) b)))
theorem wW{a1 l1 c1 a2 l2 c2 a3 l3 c3 a4 l4 c4 n1 n2 n3 n4 a5 l5 c5 w K}(h:tL a1 l1 c1 a2 l2 c2 a3 l3 c3 a4 l4 c4 n1 n2 n3 n4 a5 l5 c5 w K):CP 6 #[.agg #[.slice a1 l1 c1,.slice a2 l2 c2,.slice a3 l3 c3,.slice a4 l4 c4],.agg #[iv n1,iv n2,iv n3,iv n4],.slice a5 l5 c5] w K:=ah (aA [(3578,[(11,.s .slice),(40,.s (.int .i64))]),(28627,[(11,.s .slice)]),(1832138,[(11,.s .slice),(47,.s (.int .i64))])]) func6 (by kernel_rfl) (by kernel_rfl) h
theorem GS{r:Nat}{cs:Array Value}{T:TypeId}{n sz:Nat}(hn:cs.size=n*sz)(hm:n<=maxLen):bC (ai r cs T) (lE T sz (.slice (some ⟨r,0,none⟩) n n) n cs.toList):=by
 rintro w F ⟨h,rfl⟩;refine⟨[r],⟨⟨by simp[hn],.inr ⟨r,n,cs,rfl,Nat.zero_le _,h,Nat.le_refl _,hm,hn,?_⟩⟩,by simp[Value.ownBlock]⟩,by simp⟩;exact List.take_of_length_le (by simp[hn])
def UA:Array Value:=#[iv 0,iv 0,iv 0,iv 0,iv 0,iv 0,iv 0,iv 0,iv 0,.string (bs []),.int .u64 0]
theorem Qg:gV prog 33 47 (.agg UA) 11 96:=gV.mk' underlying33 (by kernel_rfl) rfl (by decide)
abbrev Gr (a:OA) (c:Nat) (l:List Ev):aC:=bR 47 11 Ev.cells a c l
theorem Hg(e:Ev):e.cells.length=11:=rfl
def kj(t:List UInt8):Ev:=⟨1,0,0,z6,t,0⟩
def gw(i:Nat)(u:I6):Ev:=⟨2,i,0,u,[],0⟩
def fE:Ev:=⟨3,0,0,z6,[],0⟩
def DL(l:List I6)(l0:List Ev):Nat->List Ev
 | 0=>l0
 | i+1=>DL l l0 i++[gw i (l.getD i z6)]
def uL(t:List UInt8)(cl:List Rn):Nat->List Ev
 | 0=>[kj t]
 | k+1=>DL ((cl[k]?.map Rn.ask).getD []) (uL t cl k) ((cl[k]?.map Rn.ask).getD []).length++[fE]
def DR(S:Se)(C:Ck):List Ev:=uL (dh S) C.cl C.cl.length
theorem sV(l:List I6)(l0:List Ev):∀ i,(DL l l0 i).length=l0.length+i
 | 0=>rfl
 | i+1=>by rw[DL,List.length_append,sV l l0 i]; rfl
theorem KA(t:List UInt8){cl cl' : List Rn}(h:cl.map Rn.er=cl'.map Rn.er):∀ k,uL t cl k=uL t cl' k
 | 0=>rfl
 | k+1=>by
  have e:cl[k]?.map Rn.ask=cl'[k]?.map Rn.ask:=by
   have:=congrArg (λ l=>l[k]?.map Rn.ask) h;simpa[List.getElem?_map,Option.map_map,Function.comp_def,Rn.er] using this
  rw[uL,uL,e,KA t h k]
theorem Ca(t:List UInt8){cl:List Rn}(h:∀ x∈cl,x.ask.length<=8):∀ k,(uL t cl k).length<=1+9*k
 | 0=>by show 1<=_; omega
 | k+1=>by
  have ih:=Ca t h k;rw[uL,List.length_append,sV,List.length_singleton];have:((cl[k]?.map Rn.ask).getD []).length<=8:=by
   cases hx:cl[k]? with
   | none=>simp
   | some x=>exact h x (List.mem_of_getElem? hx)
  omega
set_option maxHeartbeats 1000000 in
theorem DQ{w:World}{S:Se}(h:S.In w)(ht:JY w)(o:Po){al:OA}{cl:Nat}{L:List Lx}(hL:MW w al L) :
  CP 6 #[.agg S.arr,o.v,.slice al L.length cl] w (λ r w'=>(o6 S o L.length≠0/\r=.tuple #[.slice none 0 0,iv (o6 S o L.length)]/\ay w w' [])\/(o6 S o L.length=0/\S.Ok/\o.ok/\L.length=S.bd.length/\∃ a c,r=.tuple #[.slice a (DR S (runM S o L)).length c,iv 0]/\St w w' (Gr a c (DR S (runM S o L))))):=by
 refine wW ?_;unfold tL;refine(St.start w).one.ax S.arr λ r1 w1 s1=>s1.ax o.cells.toArray λ r2 w2 s2=>⟨_,_,_,_,_,_,_,_,_,_,_,_,s2.cellsIn 1 rfl,_,_,_,_,s2.cellsIn 0 rfl,ak (zl (h.au s2.au) o (hL.au s2.au)) ?_⟩;rintro v w3 (⟨h0,rfl,c3⟩|⟨h0,hs,ho,hl,g,C,eC,hi,hov,rfl,k3⟩)
 ·exact⟨_,_,rfl,cT (by simpa using h0) (.inl ⟨h0,rfl,(s2.quiet c3).au⟩)⟩
 have s3:St w w3 (Sep (bM g C++[ai r2 o.cells.toArray 29,ai r1 S.arr 27,emp])):=St.cat (l:=bM g C) (s2.and k3);refine⟨_,_,rfl,cF rfl ⟨_,_,_,_,_,_,_,_,_,_,_,_,s3.cellsIn 7 rfl,ak (JC (h.au s3.au) (ht.au s3.au)) ?_⟩⟩;rintro v w4 ⟨⟨g0,_⟩|⟨_,rfl⟩,c4⟩
 ·exact absurd (Mc hs) g0
 have s4:St w w4 (Sep (bM g C++[ai r2 o.cells.toArray 29,ai r1 S.arr 27,emp])):=s3.quiet c4;refine⟨_,_,rfl,cF rfl (s4.ax (kj (dh S)).cells.toArray λ r3 w5 s5=>?_)⟩;have rd5:C.Rd g w5:=((s5.split [_]).second.split (bM g C)).first.imp mV;refine ak (uS rd5 hi.ok) ?_;rintro v w6 ⟨l',a',c',el,rfl,k6⟩;have hll:l'.length=C.cl.length:=by have:=congrArg List.length el; simpa using this
 have h30:=hi.ok.cl;have h8:=hi.ok.s.bd.l2;have hask:∀ x∈l',x.ask.length=S.bd.length:=λ x hx=>by
  have hm:x.er∈C.cl.map Rn.er:=by rw[<- el]; exact List.mem_map_of_mem hx
  obtain⟨y,hy,e⟩:=List.mem_map.1 hm;have h1:y.ask.length=C.s.bd.length:=(hi.ok.cz y hy).ask;have h2:y.ask=x.ask:=(congrArg Rn.ask e:y.er.ask=x.er.ask);rw[<- h2,h1];have:C.s.bd=S.bd:=by
   have h3:C.er.s=(runM S o L).er.s:=congrArg Ck.s eC;have h4:∀ (f:Nat) (D:Ck),(mH S L f D).s=D.s:=λ f=>by
    induction f with
    | zero=>intro D; rfl
    | succ f ih =>
     intro D;unfold mH
     split
     ·rfl
     ·rw[ih]; show(cN S L D L.length).s=D.s; exact(HU S L D _).1
   have h5:(runM S o L).s=S:=h4 31 _;have h6:C.s.er=S.er:=h3.trans (by show(runM S o L).s.er=_; rw[h5]);exact(congrArg Se.bd h6:C.s.er.bd=S.er.bd)
  rw[this]
 have s6:St w w6 (Sep (Sep [Az a' c' l',held (cH l')] :: ai r3 (kj (dh S)).cells.toArray 47 :: (bM g C++[ai r2 o.cells.toArray 29,ai r1 S.arr 27,emp]))):=s5.and k6.vW;have s7:St w w6 (Sep [Az a' c' l',held (cH l'),ai r3 (kj (dh S)).cells.toArray 47,ai r1 S.arr 27,emp]):=(St.cat (l:=[Az a' c' l',held (cH l')]) s6).av [0,1,2,10,11];have s8:St w w6 (Sep [Gr (some ⟨r3,0,none⟩) 1 [kj (dh S)],Az a' c' l',held (cH l'),ai r1 S.arr 27,emp]):=St.weak (s7.av [2,0,1,3,4]) (bC.left (GS (n:=1) (sz:=11) rfl (by decide)));clear s7 s6;refine⟨_,_,_,rfl,λ a n c i w7 m=>∃ k:Nat,i=k/\k<=l'.length/\m=l'.length-k/\n=(uL (dh S) l' k).length/\St w w7 (Sep [Gr a c (uL (dh S) l' k),Az a' c' l',held (cH l'),ai r1 S.arr 27,emp]),⟨l'.length,0,rfl,by omega,by omega,rfl,s8⟩,?_⟩;rintro w7 m a n c i ⟨k,rfl,hk,hm,rfl,s9⟩ -;have hlenE:=Ca (dh S) (cl:=l') (λ x hx=>by rw[hask x hx]; rw[<- hl]; have:=congrArg List.length (show L=L from rfl); have:=hs.bd.l2; omega) k
 by_cases hlt:(k:Int)<(l'.length:Int)
 ·have hx:l'[k]?=some (l'[k]'(by omega)):=gE (by omega);have eN:uL (dh S) l' (k+1)=DL ((l'[k]?.map Rn.ask).getD []) (uL (dh S) l' k) ((l'[k]?.map Rn.ask).getD []).length++[fE]:=rfl;generalize l'[k]'(by omega)=x at hx;rw[hx] at eN;have eN:uL (dh S) l' (k+1)=DL x.ask (uL (dh S) l' k) x.ask.length++[fE]:=eN;have hxa:=hask x (List.mem_of_getElem? hx);have hb8:=hs.bd.l2;generalize hE2:uL (dh S) l' (k+1)=E2 at eN;generalize uL (dh S) l' k=E1 at s9 eN hlenE;obtain⟨q,hq,hcl⟩:=(St.rd Rn.len (s9.out 1 rfl)).at hx;refine cT (dT hlt) ⟨λ a n c w8=>n=E2.length/\St w w8 (Sep [Gr a c E2,Az a' c' l',held (cH l'),ai r1 S.arr 27,emp]),?_,aj hq ⟨by omega,by omega,x.p,_,_,_,_,_,_,_,_,_,hcl,s9.ax Sn.cells.toArray λ r4 w9 s10=>s10.az 0 rfl x.cells rfl x.one λ w10 s11=>?_⟩⟩
  ·rintro w8 a n c ⟨rfl,s10⟩ -;exact⟨l'.length-(k+1),by omega,k+1,aB ⟨by omega,by omega⟩,by omega,rfl,by rw[hE2],by rw[hE2]; exact s10⟩
  have s11:St w w10 (Sep [ai r4 x.cells.toArray 76,Gr a c E1,Az a' c' l',held (cH l'),ai r1 S.arr 27,emp]):=s11;refine⟨_,_,_,s11.ag 0 rfl 6,λ a n c i w11 m=>∃ j:Nat,i=j/\j<=x.ask.length/\m=x.ask.length-j/\n=(DL x.ask E1 j).length/\St w w11 (Sep [ai r4 x.cells.toArray 76,Gr a c (DL x.ask E1 j),Az a' c' l',held (cH l'),ai r1 S.arr 27,emp]),⟨x.ask.length,0,rfl,by omega,by omega,rfl,s11⟩,?_⟩;rintro w11 m a n c i ⟨j,rfl,hj,hm2,rfl,s12⟩ -;have hdl:=sV x.ask E1 j
  by_cases hlt2:(j:Int)<(x.ask.length:Int)
  ·have hu:x.ask[j]?=some (x.ask.getD j z6):=by rw[List.getD_eq_getElem?_getD,gE (by omega)]; rfl
   have eD:DL x.ask E1 (j+1)=DL x.ask E1 j++[gw j (x.ask.getD j z6)]:=rfl;generalize x.ask.getD j z6=u at hu eD;generalize hD2:DL x.ask E1 (j+1)=D2 at eD;generalize DL x.ask E1 j=D1 at s12 eD hdl;have hin:cH l' w11:=s12.cv 3 rfl;obtain⟨q2,hq2,hc2⟩:=(hin x (List.mem_of_getElem? hx)).ask.at hu;refine cT (dT hlt2) (aj hq2 ⟨by omega,by omega,u,hc2,s12.ax z6.vs.toArray λ r5 w12 s13=>s13.az 0 rfl u.vs rfl (I6.one _) λ w13 s14=>⟨_,_,_,s14.ag 5 rfl 1,cF (by simp; omega) ⟨u,s14.cellsIn 0 rfl,s14.ax (gw j u).cells.toArray λ r6 w14 s15=>?_⟩⟩⟩);refine cS (l2:=[gw j u]) Qg Hg Ev.one (s15.out 3 rfl) (gR (s15.cellsIn 0 rfl) rfl) (by simp; omega) (by simp; omega) λ a2 c2 w15 s16=>?_;have s16:=s16.back (i:=3) (by show 3<8; decide);refine⟨x.ask.length-(j+1),by omega,j+1,aB ⟨by omega,by omega⟩,by omega,rfl,?_,?_⟩
   ·rw[hD2,eD]
   ·rw[hD2,eD];exact s16.av [2,3,4,5,6,7]
  ·obtain rfl:j=x.ask.length:=by omega
   generalize DL x.ask E1 x.ask.length=D1 at s12 eN hdl;refine cF (by simp) (s12.ax fE.cells.toArray λ r7 w12 s13=>?_);refine cS (l2:=[fE]) Qg Hg Ev.one (s13.out 2 rfl) (gR (s13.cellsIn 0 rfl) rfl) (by simp; omega) (by simp; omega) λ a2 c2 w15 s16=>?_;have s16:=s16.back (i:=2) (by show 2<7; decide);exact⟨by rw[eN],by rw[eN]; exact s16.av [2,3,4,5,6]⟩
 ·obtain rfl:k=l'.length:=by omega
  have e:uL (dh S) l' l'.length=DR S (runM S o L):=by
   have e1:l'.map Rn.er=(runM S o L).cl.map Rn.er:=by rw[el]; exact congrArg Ck.cl eC
   have e2:l'.length=(runM S o L).cl.length:=by have:=congrArg List.length e1; simpa using this
   rw[DR,KA _ e1,e2]
  rw[e] at s9 ⊢;exact cF (by simp) (.inr ⟨h0,hs,ho,hl,_,_,rfl,s9.first⟩)
theorem HV{m u v:I6}:∀ {k:Nat},(∀ j,j<k->u.at' j=v.at' j)->eZ m u k=eZ m v k
 | 0,_=>rfl
 | k+1,h=>by simp only[eZ]; rw[HV λ j hj=>h j (by omega),h k (by omega)]
theorem Kq{a b x y M:Int}(h:a*(M+1)+x=b*(M+1)+y)(hx:0<=x/\x<=M)(hy:0<=y/\y<=M):a=b/\x=y:=by
 rcases Int.lt_trichotomy a b with h1|h1|h1
 ·have:=Int.mul_le_mul_of_nonneg_right (show a+1<=b by omega) (show 0<=M+1 by omega);rw[Int.add_mul] at this; omega
 ·subst h1; omega
 ·have:=Int.mul_le_mul_of_nonneg_right (show b+1<=a by omega) (show 0<=M+1 by omega);rw[Int.add_mul] at this; omega
theorem L2{m u v:I6}(hu:AI m u)(hv:AI m v):∀ {k:Nat},k<=6->eZ m u k=eZ m v k->∀ j,j<k->u.at' j=v.at' j
 | 0,_,_,j,hj=>by omega
 | k+1,hk,h,j,hj=>by
  simp only[eZ] at h;obtain⟨h1,h2⟩:=Kq h (hu.u k (by omega)) (hv.u k (by omega));rcases Nat.lt_or_ge j k with h' | h'
  ·exact L2 hu hv (by omega) h1 j h'
  ·obtain rfl:j=k:=by omega
   exact h2
def PK(m:I6)(k:Nat)(l:List I6):Prop:=∀ (i:Nat) (u:I6),l[i]?=some u->AI m u/\(∀ j,k<=j->j<6->u.at' j=0)/\eZ m u k=(i:Int)
def I4(m:I6):List I6:=if Fm m=0 then [] else (List.range (aQ m)).map (bI m)
theorem PK.done{m:I6}(hm:I6.Le m 4){l:List I6}(h:PK m 6 l)(hl:(l.length:Int)=Ah m 6):l=(List.range (aQ m)).map (bI m):=by
 have hn:l.length=aQ m:=by have:=(jH hm).2.1; rw[rO] at this; omega
 apply List.ext_getElem?;intro i
 by_cases hi:i<l.length
 ·have hx:l[i]?=some (l[i]'hi):=gE hi;generalize l[i]'hi=u at hx;obtain⟨h1,_,h3⟩:=h i u hx;rw[hx,List.getElem?_map,List.getElem?_range (by omega)];refine congrArg some (I6.ext' (L2 h1 (fI hm i) (by omega) ?_));rw[h3]; exact(xB hm i (by omega)).symm
 ·rw[List.getElem?_eq_none (by omega),List.getElem?_eq_none (by simp; omega)]
theorem PK.snoc{m:I6}{k:Nat}(hk:k<6){nx:List I6}(h:PK m (k+1) nx){b:I6}{j q:Nat}(hb:AI m b)(hz:∀ i,k<=i->i<6->b.at' i=0)(hr:eZ m b k=(j:Int))(hq:(q:Int)<=m.at' k)(hn:(nx.length:Int)=j*(m.at' k+1)+q):PK m (k+1) (nx++[b.put k q]):=λ i u hu=>by
 rcases Nat.lt_or_ge i nx.length with h' | h'
 ·rw[List.getElem?_append_left h'] at hu;exact h i u hu
 ·rw[List.getElem?_append_right h'] at hu;have hi:i=nx.length:=by
   rcases Nat.eq_zero_or_pos (i-nx.length) with h0|h0
   ·omega
   ·rw[List.getElem?_eq_none (by simp; omega)] at hu; cases hu
  subst hi;rw[Nat.sub_self] at hu
  cases hu
  have hat:∀ i,i<6->(b.put k (q:Int)).at' i=if i=k then (q:Int) else b.at' i:=λ i hi=>I6.rP _ _ _ _ hk hi
  refine⟨⟨hb.mm,λ i hi=>?_⟩,λ i h1 h2=>?_,?_⟩
  ·rw[hat i hi];have:=hb.u i hi
   split
   ·rename_i e; subst e; omega
   ·exact this
  ·rw[hat i h2,if_neg (by omega)]; exact hz i (by omega) h2
  ·simp only[eZ];rw[HV (v:=b) λ i hi=>by rw[hat i (by omega),if_neg (by omega)],hat k hk,if_pos rfl,hr,hn]
set_option maxHeartbeats 1000000 in
theorem Jl(w:World)(m:I6):CP 17 #[.agg m.vs.toArray] w (λ r w'=>∃ a c,r=.slice a (I4 m).length c/\St w w' (vl a c (I4 m))):=by
 refine Gb ?_;unfold HR;refine(St.start w).one.ax m.vs.toArray λ r1 w1 s1=>⟨m,s1.cellsIn 0 rfl,ak (Gg w1 m) ?_⟩;rintro v w2 ⟨rfl,c2⟩;have s2:=s1.quiet c2;refine⟨_,rfl,?_⟩
 by_cases g:Fm m=0
 ·refine cT (by rw[g]; rfl) ⟨none,0,by rw[I4,if_pos g]; rfl,?_⟩;rw[I4,if_pos g];exact(St.dP s2).first
 refine cF (by simpa using g) (s2.ax z6.vs.toArray λ r2 w3 s3=>?_);obtain⟨hq,hlim⟩:m.l.all eY=true/\pr m.l<=1024:=by
  unfold Fm at g
  split at g
  ·assumption
  ·exact absurd rfl g
 have hm:=Gc hq;have hb:∀ k,k<=6->1<=Ah m k/\Ah m k<=15625:=λ k hk=>by
  have h:=pq (Il hm) k hk;refine⟨by omega,Int.le_trans h.2.2 ?_⟩
  match k,hk with
  | 0,_|1,_|2,_|3,_|4,_|5,_|6,_=>decide
 have s4:St w w3 (Sep [vl (some ⟨r2,0,none⟩) 1 [z6],ai r1 m.vs.toArray 44,emp]):=St.weak s3 (bC.left (GS (n:=1) (sz:=6) rfl (by decide)));refine⟨λ a1 l1 c1 i w4 mm=>∃ (k:Nat) (l:List I6),i=k/\k<=6/\mm=6-k/\(l1=l.length/\(l.length:Int)=Ah m k/\PK m k l)/\St w w4 (Sep [vl a1 c1 l,ai r1 m.vs.toArray 44,emp]),⟨6,0,[z6],rfl,by omega,by omega,⟨rfl,rfl,?_⟩,s4⟩,?_⟩
 ·intro i u hu
  match i,hu with
  | 0,hu=>cases hu; exact⟨Il hm,λ j _ _=>lT j,rfl⟩
 rintro w4 mm a1 l1 c1 i ⟨k,l,rfl,hk,hmm,⟨rfl,hlen,hL⟩,s4⟩ -
 by_cases hlt:(k:Int)<6
 rotate_left
 ·obtain rfl:k=6:=by omega
  have e1:=hL.done hm hlen;refine cF (dF hlt) ⟨a1,c1,?_,?_⟩
  ·rw[I4,if_neg g,<- e1]
  ·rw[I4,if_neg g,<- e1]; exact s4.first
 have hk' : k<6:=by omega
 have hmk:=hm k hk';obtain⟨M,hM⟩:∃ M:Nat,m.at' k=(M:Int):=⟨(m.at' k).toNat,by omega⟩;have hp:=hb k (by omega);have hp1:=hb (k+1) (by omega);refine cT (dT hlt) ⟨λ a2 l2 c2 j w5 m3=>∃ (n:Nat) (nx:List I6),j=n/\n<=l.length/\m3=l.length-n/\(l2=nx.length/\(nx.length:Int)=n*(m.at' k+1)/\PK m (k+1) nx)/\St w w5 (Sep [vl a2 c2 nx,vl a1 c1 l,ai r1 m.vs.toArray 44,emp]),⟨l.length,0,[],rfl,by omega,by omega,⟨rfl,by simp,λ i u hu=>by simp at hu⟩,s4.dP⟩,?_⟩;rintro w5 m3 a2 l2 c2 j ⟨n,nx,rfl,hn,hm3,⟨rfl,hnx,hLx⟩,s5⟩ -
 by_cases hln:(n:Int)<(l.length:Int)
 rotate_left
 ·obtain rfl:n=l.length:=by omega
  exact cF (dF hln) ⟨6-(k+1),by omega,k+1,nx,inc (by decide) hk',by omega,rfl,⟨rfl,by rw[hnx,hlen,Ah],hLx⟩,s5.av [0,2,3]⟩
 have hx:l[n]?=some (l[n]'(by omega)):=gE (by omega);generalize l[n]'(by omega)=b at hx;obtain⟨hb1,hb2,hb3⟩:=hL n b hx;refine cT (dT hln) ⟨λ a3 l3 c3 j w6 m5=>∃ (q:Nat) (ny:List I6),j=q/\q<=M+1/\m5=M+1-q/\(l3=ny.length/\(ny.length:Int)=n*(m.at' k+1)+q/\PK m (k+1) ny)/\St w w6 (Sep [vl a3 c3 ny,vl a1 c1 l,ai r1 m.vs.toArray 44,emp]),⟨M+1,0,nx,rfl,by omega,by omega,⟨rfl,by omega,hLx⟩,s5⟩,?_⟩;rintro w6 m5 a3 l3 c3 j ⟨q,ny,rfl,hq1,hm5,⟨rfl,hny,hLy⟩,s6⟩ -;refine⟨by omega,by omega,m.at' k,by rw[fm,aI s6 2 rfl hk'],?_⟩
 by_cases hqM:(q:Int)<=m.at' k
 rotate_left
 ·refine cF (dF hqM) ⟨l.length-(n+1),by omega,n+1,ny,aB ⟨by omega,by omega⟩,by omega,rfl,⟨rfl,?_,hLy⟩,s6⟩;rw[hny,show((n+1:Nat):Int)=n+1 by omega,Int.add_mul]; omega
 have hbig:(n:Int)*(m.at' k+1)<=15625*5:=Int.mul_le_mul (by omega) (by omega) (by omega) (by omega);obtain⟨p,hp2,hcl⟩:=(St.rd cC (s6.out 1 rfl)).at hx;refine cT (dT hqM) (aj hp2 ⟨by omega,by omega,b,hcl,s6.ax z6.vs.toArray λ r3 w7 s7=>s7.az 0 rfl b.vs rfl (I6.one _) λ w8 s8=>⟨by omega,by omega,?_⟩⟩);rw[fm];refine s8.aK 0 rfl hk' rfl λ w9 s9=>?_;rw[I6.mG _ _ _ hk'] at s9;refine⟨b.put k q,s9.cellsIn 0 rfl,s9.ax (b.put k q).vs.toArray λ r4 w10 s10=>?_⟩;refine cS (l2:=[b.put k q]) Mi cC I6.one (s10.out 2 rfl) (gR (s10.cellsIn 0 rfl) rfl) (by simp; omega) (by simp; omega) λ a' c' w11 s11=>?_;have s11:=s11.back (i:=2) (by show 2<6; decide);exact⟨M+1-(q+1),by omega,q+1,ny++[b.put k q],aB ⟨by omega,by omega⟩,by omega,rfl,⟨rfl,by rw[List.length_append]; simp; omega,hLy.snoc hk' hb1 hb2 hb3 hqM hny⟩,s11.av [2,3,4,5]⟩
theorem Tl{w:World}{a:OA}{l:List Pr}(h:dH w a l){k:Nat}{p:Pr}(hk:l[k]?=some p)(j:Nat)(v:Value)(hj:p.cells[j]?=some v):∃ q,a=some q/\w.cell? (Addr.add (Addr.add q (((k:Nat):Int).toNat*5)) j)=some v:=by
 obtain⟨_,q,hq,hc⟩:=h k p hk;have:=aS hc j v hj;exact⟨q,hq,by rw[Int.toNat_natCast]; rwa [Nat.zero_add] at this⟩
theorem Ou{l:List Pr}:I6.mix l.length (aX l) z6=aX l:=I6.ext' λ j hj=>by
 rw[I6.bT _ _ _ _ hj]
 split
 ·rfl
 ·rw[lT,qg _ _ hj];simp only[List.getD_eq_getElem?_getD,List.getElem?_map];rw[List.getElem?_eq_none (by omega)]; rfl
theorem EK{w:World}{a:OA}{c:Nat}{l:List Pr}(h:dH w a l) :
  CP 18 #[.slice a l.length c] w (λ r w'=>r=.agg (aX l).vs.toArray/\ay w w' []):=by
 refine CL ?_;unfold Bs;refine(St.start w).one.ax z6.vs.toArray λ r1 w1 s1=>s1.ax z6.vs.toArray λ r2 w2 s2=>?_;refine⟨λ n w3 m=>∃ k:Nat,n=k/\(k<=6/\k<=l.length)/\m=6-k/\St w w3 (Sep [ai r2 (I6.mix k (aX l) z6).vs.toArray 44,ai r1 z6.vs.toArray 44,emp]),⟨6,0,rfl,by omega,by omega,s2⟩,?_⟩;rintro w3 m n ⟨k,rfl,hk,hm,s3⟩ -;refine⟨λ b w4=>b=decide (k<l.length/\k<6)/\St w w4 (Sep [ai r2 (I6.mix k (aX l) z6).vs.toArray 44,ai r1 z6.vs.toArray 44,emp]),?_,?_⟩
 ·rintro w4 b ⟨rfl,s4⟩ -
  by_cases hlt:k<l.length/\k<6
  ·have hx:l[k]?=some (l[k]'(by omega)):=gE (by omega);generalize l[k]'(by omega)=x at hx;obtain⟨q,hq,hc⟩:=Tl (h.au s4.au) hx 1 _ rfl;refine cT (dT hlt) (aj hq ⟨by omega,by omega,x.sup,hc,by omega,by omega,?_⟩);rw[fm,show x.sup=(aX l).at' k by rw[qg l k hlt.2]; simp[List.getElem?_map,hx]];refine s4.aK 0 rfl hlt.2 rfl λ w5 s5=>⟨6-(k+1),by omega,k+1,inc (by decide) hlt.2,by omega,rfl,?_⟩;rw[I6.eV _ _ _ hlt.2] at s5;exact s5
  ·refine cF (dF hlt) ⟨_,s4.cellsIn 0 rfl,s4.az 1 rfl (I6.mix k (aX l) z6).vs rfl (I6.one _) λ w5 s5=>⟨_,s5.cellsIn 1 rfl,?_,s5.au⟩⟩
   by_cases h6:k=6
   ·rw[h6,I6.xI]
   ·rw[show k=l.length by omega,Ou]
 ·by_cases g:k<l.length
  ·refine cT (dT (by omega)) ⟨?_,s3⟩
   by_cases g2:k<6
   ·rw[dT (show(k:Int)<6 by omega),dT ⟨g,g2⟩]
   ·rw[dF (show ¬ (k:Int)<6 by omega),dF λ h=>g2 h.2]
  ·exact cF (dF (by omega)) ⟨by rw[dF λ h=>g h.1],s3⟩
theorem Mf{ps:List Pr}{l:List T3}(hp:bZ ps)(h:fN ps l):∀ (k:Nat),k<=l.length->∀ (j:Nat),j<6->0<=(si ps l k).1.at' j/\((l.take k).any (λ x=>x.a.toNat==j)=false->(si ps l k).1.at' j=(aX ps).at' j)
 | 0,_,j,hj=>⟨(sup_le hp j hj).1,λ _=>rfl⟩
 | k+1,hk,j,hj=>by
  have ih:=Mf hp h k (by omega);have hx:l[k]?=some (l[k]'(by omega)):=gE (by omega);generalize l[k]'(by omega)=x at hx;have hi:=GR hp.l2 (Pt hp) h hx;have e1:(si ps l (k+1)).1=(si ps l k).1.put x.a.toNat ((si ps l k).1.at' x.a.toNat-x.c):=by rw[si,hx]
  rw[e1,I6.rP _ _ _ _ (by omega) hj,aG hx,List.any_append,List.any_cons,List.any_nil,Bool.or_false];obtain⟨h1,h2⟩:=ih j hj
  by_cases e:j=x.a.toNat
  ·rw[if_pos e];have hno:(l.take k).any (λ y=>y.a.toNat==x.a.toNat)=false:=by
    rw[List.any_eq_false];intro y hy;have h3:=List.any_eq_false.1 (h.good k x hx).2 y hy;obtain⟨i,hi2⟩:=List.getElem?_of_mem (List.mem_of_mem_take hy);have h4:=GR hp.l2 (Pt hp) h hi2;simp only[sameAs,beq_iff_eq] at h3 ⊢;omega
   have h5:=(ih x.a.toNat (by omega)).2 hno;have h6:=(h.good k x hx).1;simp only[Am,Bool.and_eq_true,decide_eq_true_eq] at h6;have h7:(aX ps).at' x.a.toNat=(ps[x.a.toNat]?.map Pr.sup).getD 0:=by
    rw[qg _ _ (by omega),List.getD_eq_getElem?_getD,List.getElem?_map]
   refine⟨by rw[h5,h7]; omega,λ hh=>?_⟩;rw[<- e] at hh;simp at hh
  ·rw[if_neg e];refine⟨h1,λ hh=>h2 ?_⟩;rw[Bool.or_eq_false_iff] at hh;exact hh.1
theorem OK{ps:List Pr}{l:List T3}(hp:bZ ps)(h:fN ps l)(j:Nat)(hj:j<6):0<=(JU ps l).1.at' j:=(Mf hp h _ (Nat.le_refl _) j hj).1
def T0(b:Br)(sup op cls u:I6)(j:Nat):Bool:=decide (u.at' j<=sup.at' j)&&decide ((qC b cls u).at' j<=op.at' j)
theorem OG{b:Br}{sup op cls u:I6}:(∀ j,j<6->T0 b sup op cls u j=true)<->(within u sup&&within (qC b cls u) op)=true:=by
 rw[Bool.and_eq_true,within_iff,within_iff];simp only[T0,Bool.and_eq_true,decide_eq_true_eq];exact⟨λ h=>⟨λ k hk=>(h k hk).1,λ k hk=>(h k hk).2⟩,λ h k hk=>⟨h.1 k hk,h.2 k hk⟩⟩
theorem Rv{b:Br}{sup op cls u:I6}{j:Nat}(hj:j<6)(ho:0<=op.at' j):T0 b sup op cls u j = !(decide (u.at' j>sup.at' j)||(decide (cls.at' j≠0)&&(decide (cls.at' j≠b.cls)&&decide (u.at' j>op.at' j)))):=by
 have e:(qC b cls u).at' j=if cls.at' j=0\/cls.at' j=b.cls then 0 else u.at' j:=I6.fG _ _ _ _ hj
 rw[T0,e,Bool.eq_iff_iff];simp only[Bool.and_eq_true,Bool.not_eq_true',Bool.or_eq_false_iff,Bool.and_eq_false_iff,decide_eq_true_eq,decide_eq_false_iff_not]
 by_cases g:cls.at' j=0\/cls.at' j=b.cls
 ·rw[if_pos g]; omega
 ·rw[if_neg g]; omega
structure T7 (S:Se) (L:List Lx):Prop where
 ps:S.ps.length<=3
 bd:S.bd.length<=4
 cp:S.cp.length<=10
 sa:S.sa.length<=6
 n:L.length<=6
 l:∀ x∈L,x.l.length<=10
theorem LU{w:World}{S:Se}(h:S.In w){a:OA}{c:Nat}{L:List Lx}(hL:cG 1 Lx.cells w a L) :
  CP 4 #[.agg S.arr,.slice a L.length c] w (λ r w'=>(∃ b,r=.bool b/\(b=true->T7 S L))/\ay w w' []):=by
 refine Jk ?_;unfold LS;refine(St.start w).one.ax S.arr λ r1 w1 s1=>?_;have s1:St w w1 (Sep [ai r1 S.arr 27,emp]):=s1;refine⟨λ b w2=>(b=false->S.ps.length<=3/\S.bd.length<=4/\S.cp.length<=10/\S.sa.length<=6/\L.length<=6)/\ay w w2 [],?_,?_⟩
 ·rintro w2 b ⟨hb,c2⟩ -
  cases b with
  | true=>exact cT rfl ⟨⟨false,rfl,λ h=>by cases h⟩,c2⟩
  | false =>
  obtain⟨f1,f2,f3,f4,f5⟩:=hb rfl;refine cF rfl ⟨λ i w3 m=>∃ k:Nat,i=k/\k<=L.length/\m=L.length-k/\(∀ x∈L.take k,x.l.length<=10)/\w3=w2,⟨L.length,0,rfl,by omega,by omega,λ x hx=>by simp at hx,rfl⟩,?_⟩;rintro w3 m i ⟨k,rfl,hk,hm,ha,rfl⟩ -
  by_cases hlt:(k:Int)<(L.length:Int)
  ·have hx:L[k]?=some (L[k]'(by omega)):=gE (by omega);generalize L[k]'(by omega)=x at hx;obtain⟨q,hq,hc⟩:=(hL.au c2).at hx;refine cT (dT hlt) (aj hq ⟨by omega,by omega,x.a,x.l.length,x.c,by rw[Int.toNat_natCast]; exact hc.1,?_⟩)
   by_cases g:x.l.length<=10
   ·refine cF (dF (by omega)) ⟨L.length-(k+1),by omega,k+1,aB ⟨by omega,by omega⟩,by omega,rfl,λ y hy=>?_,rfl⟩;rw[aG hx] at hy;rcases List.mem_append.1 hy with h|h
    ·exact ha y h
    ·cases List.mem_singleton.1 h; exact g
   ·exact cT (dT (by omega)) ⟨⟨false,rfl,λ h=>by cases h⟩,c2⟩
  ·obtain rfl:k=L.length:=by omega
   rw[List.take_length] at ha;exact cF (dF hlt) ⟨⟨true,rfl,λ _=>⟨f1,f2,f3,f4,f5,ha⟩⟩,c2⟩
 have no:∀ {p:Prop},true=false->p:=λ h=>by cases h
 refine⟨_,_,_,s1.ag 0 rfl 0,?_⟩
 by_cases g1:S.ps.length<=3
 rotate_left
 ·exact cT (dT (by omega)) ⟨no,s1.au⟩
 refine cF (dF (by omega)) ⟨_,_,_,s1.ag 0 rfl 1,?_⟩
 by_cases g2:S.bd.length<=4
 rotate_left
 ·exact cT (dT (by omega)) ⟨no,s1.au⟩
 refine cF (dF (by omega)) ⟨_,_,_,s1.ag 0 rfl 2,?_⟩
 by_cases g3:S.cp.length<=10
 rotate_left
 ·exact cT (dT (by omega)) ⟨no,s1.au⟩
 refine cF (dF (by omega)) ⟨_,_,_,s1.ag 0 rfl 3,?_⟩
 by_cases g4:S.sa.length<=6
 rotate_left
 ·exact cT (dT (by omega)) ⟨no,s1.au⟩
 refine cF (dF (by omega)) ?_
 by_cases g5:L.length<=6
 rotate_left
 ·exact cT (dT (by omega)) ⟨no,s1.au⟩
 refine cF (dF (by omega)) ⟨_,_,_,s1.ag 0 rfl 0,ak (EK (h.au s1.au).ps) ?_⟩;rintro v w2 ⟨rfl,c2⟩;refine⟨_,rfl,ak (Jl w2 _) ?_⟩;rintro v w3 ⟨a3,c3,rfl,s3⟩;exact⟨_,_,_,rfl,λ _=>⟨g1,g2,g3,g4,g5⟩,(s1.quiet c2).au.trans s3.au (by simp)⟩
theorem GC(wt:Pr->Int)(l:List Pr):∀ k,k<=6->xm wt l z6 k=0
 | 0,_=>rfl
 | k+1,hk=>by rw[xm,GC wt l k (by omega),lT]; simp
theorem B1(p:I6):cost p z6=0:=by simp[cost,z6]
theorem RC{S:Se}(h:S.Ok){n:Nat}{y:Br}(hy:S.bd[n]?=some y)(p:I6):qT S n y p z6=true:=by
 have hb:0<=y.bud:=by
  have:=(h.bd.good n y hy).1;simp only[uz,Bool.and_eq_true,decide_eq_true_eq] at this;omega
 have e1:xY y ⟨p,z6⟩=0:=by rw[xY,if_neg]; rw[B1]; omega
 have e2:(within z6 (aX S.ps)&&within (qC y (JU S.ps S.sa).2 z6) (JU S.ps S.sa).1)=true:=OG.1 λ j hj=>by
  have h1:=sup_le h.ps j hj;have h2:=OK h.ps h.sa j hj;rw[Rv hj h2,lT,dF (show ¬ (0:Int)>_ by omega),dF (show ¬ (0:Int)>(JU S.ps S.sa).1.at' j by omega)]
  simp
 have e3:S.cp.any (mb S.ps n z6)=false:=by
  rw[List.any_eq_false];intro x hx;obtain⟨i,hi⟩:=List.getElem?_of_mem hx;have h1:=(h.cp.good i x hi).1;simp only[sJ,Bool.and_eq_true,decide_eq_true_eq] at h1;rw[mb,Ih,Mx,GC _ _ _ h.ps.l2,dF (show ¬ (0:Int)>x.c by omega)]
  simp
 have e4:fQ S n y z6=0:=by rw[fQ,if_pos (by decide),e2,e3]; rfl
 rw[qT,e1,e4]; rfl
def yR(a:Int)(w:World)(K:KP):=aq w (.cells #[qn,qn,qn,qn] 27) λ b c=>aq c (.cells #[.string (bs [97]),iv 1,qz,iv 1,qz,.string (bs [98]),iv 1,qz,iv 1,qz] 94) λ c d=>aq d (.cells #[.string (bs [120]),qz,iv a,iv 5,.string (bs [121]),qz,qz,iv 5] 96) λ a d=>aL (qd b 0) 0 [.slice (some (qd c 0)) 2 2,.slice (some (qd a 0)) 2 2,qn,qn] d λ a=>∃ c d e f g h i j k l m n,af a (qd b 0) 0 [.slice c d e,.slice f g h,.slice i j k,.slice l m n]/\K (.agg #[.slice c d e,.slice f g h,.slice i j k,.slice l m n]) a
theorem Av{n1 w K}(h:yR n1 w K):CP 20 #[iv n1] w K:=ah (aA []) func20 (by kernel_rfl) (by kernel_rfl) h
def tn  (w:World) (K:KP):=aq w (.cells #[qz,iv 1,qz,qz,qz,qz,qz,iv 10,qz,iv 1,iv 1,qz,qz,qz,qz,iv 12] 68) λ a b=>K (.slice (some (qd a 0)) 2 2) b
theorem wO{w K}(h:tn w K):CP 21 #[] w K:=ah (aA []) func21 (by kernel_rfl) (by kernel_rfl) h
def jT(a:Int)(b:OA)(c d:Nat)(w:World)(K:KP):=K qn w
theorem oZ{n1 a1 l1 c1 w K}(h:jT n1 a1 l1 c1 w K):CP 24 #[.pointer none,iv n1,.slice a1 l1 c1] w K:=ah (aA []) func24 (by kernel_rfl) (by kernel_rfl) h
def vS  (w:World) (K:KP):=CC 20 #[qz] w λ g h=>∃ i j k l m n o p q r s t,g=.returned (.agg #[.slice i j k,.slice l m n,.slice o p q,.slice r s t])/\CC 21 #[] h λ g h=>∃ u v x,g=.returned (.slice u v x)/\CC 19 #[.agg #[.slice i j k,.slice l m n,.slice o p q,.slice r s t],qz,.slice u v x,.agg #[iv 3,iv 1,qz,qz,qz,qz]] h λ g h=>∃ i:I6,∃ j,g=.returned (.tuple #[.agg i.vs.toArray,iv j])/\aq h (.cells z6.vs.toArray 44) λ g h=>aL (qd g 0) 0 i.vs h λ h=>CC 20 #[iv 3] h λ h i=>∃ k l m n o p q r s t u v,h=.returned (.agg #[.slice k l m,.slice n o p,.slice q r s,.slice t u v])/\CC 21 #[] i λ h i=>∃ x y z,h=.returned (.slice x y z)/\CC 19 #[.agg #[.slice k l m,.slice n o p,.slice q r s,.slice t u v],qz,.slice x y z,.agg #[iv 3,iv 1,qz,qz,qz,qz]] i λ h i=>∃ k:I6,∃ l,h=.returned (.tuple #[.agg k.vs.toArray,iv l])/\aq i (.cells z6.vs.toArray 44) λ h i=>aL (qd h 0) 0 k.vs i λ i=>CC 20 #[qz] i λ i k=>∃ m n o p q r s t u v x y,i=.returned (.agg #[.slice m n o,.slice p q r,.slice s t u,.slice v x y])/\CC 21 #[] k λ i k=>∃ z A B,i=.returned (.slice z A B)/\CC 19 #[.agg #[.slice m n o,.slice p q r,.slice s t u,.slice v x y],iv 2,.slice z A B,.agg z6.vs.toArray] k λ i k=>∃ m:I6,∃ n,i=.returned (.tuple #[.agg m.vs.toArray,iv n])/\aq k (.cells z6.vs.toArray 44) λ i k=>aL (qd i 0) 0 m.vs k λ i=>CC 20 #[qz] i λ i k=>∃ m o p q r s t u v x y z,i=.returned (.agg #[.slice m o p,.slice q r s,.slice t u v,.slice x y z])/\CC 21 #[] k λ i k=>∃ A B C,i=.returned (.slice A B C)/\CC 19 #[.agg #[.slice m o p,.slice q r s,.slice t u v,.slice x y z],qz,.slice A B C,.agg #[iv (-1),qz,qz,qz,qz,qz]] k λ i k=>∃ m:I6,∃ o,i=.returned (.tuple #[.agg m.vs.toArray,iv o])/\aq k (.cells z6.vs.toArray 44) λ i k=>aL (qd i 0) 0 m.vs k λ i=>CC 20 #[qz] i λ i k=>∃ m p q r s t u v x y z A,i=.returned (.agg #[.slice m p q,.slice r s t,.slice u v x,.slice y z A])/\aq k (.cells #[qz,iv 1,qz,qz,qz,qz,qz,iv 5] 68) λ i k=>aq k (.cells #[qz,iv 1,qz,qz,qz,qz,qz,iv 3] 68) λ k B=>aq B (.cells #[.slice (some (qd i 0)) 1 1,.slice (some (qd k 0)) 1 1] 62) λ i k=>CC 7 #[.agg #[.slice m p q,.slice r s t,.slice u v x,.slice y z A],.agg #[iv 1,qz,iv 1,iv 1],.slice (some (qd i 0)) 2 2] k λ i k=>∃ m p,i=.returned (.tuple #[.pointer m,iv p])/\CC 20 #[qz] k λ i k=>∃ q r s t u v x y z A B C,i=.returned (.agg #[.slice q r s,.slice t u v,.slice x y z,.slice A B C])/\CC 7 #[.agg #[.slice q r s,.slice t u v,.slice x y z,.slice A B C],.agg #[iv 1,qz,iv 1,iv 1],qn] k λ i k=>∃ q r,i=.returned (.tuple #[.pointer q,iv r])/\CC 20 #[qz] k λ i k=>∃ q s t u v x y z A B C D,i=.returned (.agg #[.slice q s t,.slice u v x,.slice y z A,.slice B C D])/\aq k (.cells #[qn,qn] 62) λ i k=>CC 6 #[.agg #[.slice q s t,.slice u v x,.slice y z A,.slice B C D],.agg #[iv 1,qz,iv 1,iv 1],.slice (some (qd i 0)) 2 2] k λ i k=>∃ q s t u,i=.returned (.tuple #[.slice q s t,iv u])/\∃ i:Bool->qW,(∀ t v,i v t->∀ x:qv,cond v (K (.bool false) t) (CC 22 #[.pointer m] t λ t v=>∃ x,t=.returned (.bool x)/\cond x (CC 23 #[.pointer m] v λ t x=>∃ y,t=.returned (iv y)/\cond (y==4) (CC 14 #[.pointer m] x λ t y=>∃ z:I6,t=.returned (.agg z.vs.toArray)/\cond ((z.a==(3:Int))&&((z.b==(0:Int))&&((z.c==(0:Int))&&((z.d==(0:Int))&&((z.e==(0:Int))&&((z.f==(0:Int))&&true)))))) (cond (u==0) (cond ((s:Int)==(4:Int)) (an q λ t=>0<=(1:Int)/\(1:Int)<(s:Int)/\∃ u z A,∃ B:I6,∃ C D,af y (Addr.add t (((1:Int)).toNat*11)) 0 (iv u :: iv z :: iv A :: B.on [.string C,.int .u64 D])/\cond ((u==2)&&((z==0)&&((A==0)&&((I6.beq B z6)&&((C==(bs []))&&((D==0)&&true)))))) (an q λ q=>0<=(3:Int)/\(3:Int)<(s:Int)/\∃ s t u,∃ z:I6,∃ A B,af y (Addr.add q (((3:Int)).toNat*11)) 0 (iv s :: iv t :: iv u :: z.on [.string A,.int .u64 B])/\cond ((s==3)&&((t==0)&&((u==0)&&((I6.beq z z6)&&((A==(bs []))&&((B==0)&&true)))))) (CC 21 #[] y λ q s=>∃ t u z,q=.returned (.slice t u z)/\CC 24 #[.pointer none,qz,.slice t u z] s λ q s=>∃ t u z,q=.returned (.slice t u z)/\K (.bool ((u:Int)==(0:Int))) s) (K (.bool false) y)) (K (.bool false) y)) (K (.bool false) y)) (K (.bool false) y)) (K (.bool false) y)) (K (.bool false) x)) (K (.bool false) v)))/\cond (j !=0) (i true k) (∃ j:I6,af k (qd g 0) 0 j.vs/\cond (!((j.a==(1:Int))&&((j.b==(1:Int))&&((j.c==(0:Int))&&((j.d==(0:Int))&&((j.e==(0:Int))&&((j.f==(0:Int))&&true))))))) (i true k) (cond (l !=0) (i true k) (∃ g:I6,af k (qd h 0) 0 g.vs/\cond (!((g.a==(1:Int))&&((g.b==(0:Int))&&((g.c==(0:Int))&&((g.d==(0:Int))&&((g.e==(0:Int))&&((g.f==(0:Int))&&true))))))) (i true k) (cond (n !=6) (i true k) (cond (o !=4) (i true k) (cond (p !=0) (i true k) (cond (m).isNone (i true k) (i (r !=3) k))))))))
theorem yQ{w K}(h:vS w K):CP 5 #[] w K:=ah (aA [(1022,[(104,.s .bool)])]) func5 (by kernel_rfl) (by kernel_rfl) h
theorem Kg(S:Se)(n:Nat)(y:Br)(l:List Of)(p:I6)(σ:I6×Int)(u:I6):AO S.er n y l p σ u=AO S n y l p σ u:=rfl
theorem DA(S:Se)(n:Nat)(y:Br)(l:List Of)(p m:I6):∀ i,fZ S.er n y l p m i=fZ S n y l p m i
 | 0=>rfl
 | i+1=>by rw[fZ,fZ,DA S n y l p m i,Kg]
theorem sE(S:Se)(n:Int)(l:List Of)(p:I6):iu S.er n l p=iu S n l p:=by
 have e:∀ k y,Nl S.er k y l p=Nl S k y l p:=λ k y=>by
  show(fZ S.er k y l p (aX S.ps) _).1=_;rw[DA]; rfl
 unfold iu;rw[e]; rfl
theorem M7(S:Se)(C:Ck)(k:Nat)(l:List Of):Aj S.er C k l=Aj S C k l:=by unfold Aj; rw[sE]; rfl
def Su(S:Se)(L:List (List Of))(C:Ck):Nat->Ck
 | 0=>C
 | k+1=>Aj S (Su S L C k) k (L[k]?.getD [])
theorem Qf(S:Se)(L:List Lx)(C:Ck):∀ k,cN S L C k=Su S.er (L.map Lx.l) C k
 | 0=>rfl
 | k+1=>by rw[cN,Su,Qf S L C k,M7,List.getElem?_map]
def L6(S:Se)(L:List (List Of)):Nat->Ck->Ck
 | 0,C=>C
 | f+1,C=>if C.ov=true then C else L6 S L f (bz (Su S L C L.length))
theorem L5(S:Se)(L:List Lx):∀ (f:Nat) (C:Ck),mH S L f C=L6 S.er (L.map Lx.l) f C
 | 0,_=>rfl
 | f+1,C=>by
  rw[mH,L6,L5 S L f];show(if C.ov=true then C else L6 S.er (L.map Lx.l) f (bz (cN S L C L.length)))=_;rw[Qf,List.length_map]
def Jw(S:Se)(o:Po)(L:List (List Of)):Ck:=L6 S L 31 (eW S o)
theorem L7(S:Se)(o:Po)(L:List Lx):(runM S o L).er=(Jw S.er o (L.map Lx.l)).er:=by
 unfold runM;rw[xO 31 (show(eW S o).er=(eW S.er o).er from rfl),L5]; rfl
def UE:List Pr:=[⟨[97],1,0,1,0⟩,⟨[98],1,0,1,0⟩]
def UD(b:Int):List Br:=[⟨[120],0,b,5⟩,⟨[121],0,0,5⟩]
def uM(b:Int)(a1 a2:OA)(c:Nat):Se:=⟨UE,UD b,[],[],a1,c,a2,c,none,0,none,0⟩
def PW:List Of:=[⟨0,⟨1,0,0,0,0,0⟩,10⟩,⟨0,⟨1,1,0,0,0,0⟩,12⟩]
def Fb:Po:=⟨1,0,1,1⟩
def NS:List (List Of):=[[⟨0,⟨1,0,0,0,0,0⟩,5⟩],[⟨0,⟨1,0,0,0,0,0⟩,3⟩]]
def Fy:Se:=uM 0 none none 0
theorem SQ:iu Fy 0 PW ⟨3,1,0,0,0,0⟩=(⟨1,1,0,0,0,0⟩,0):=by decide +kernel
theorem SR:iu (uM 3 none none 0) 0 PW ⟨3,1,0,0,0,0⟩=(⟨1,0,0,0,0,0⟩,0):=by decide +kernel
theorem SS:(iu Fy 2 PW z6).2=6:=by decide +kernel
theorem SU:(iu Fy 0 PW ⟨-1,0,0,0,0,0⟩).2=4:=by decide +kernel
theorem Hi:o6 Fy Fb 2=0/\(Jw Fy Fb NS).cl.length=4/\(Jw Fy Fb NS).p=⟨3,0,0,0,0,0⟩:=by decide +kernel
theorem SV:o6 Fy Fb 0=3:=by decide +kernel
theorem SX:(Jw Fy Fb [[],[]]).cl.map Rn.ask=[[z6,z6]]:=by decide +kernel
theorem uH{l:List Ch}:ei l=true<->(∀ c∈l,c.Ok)/\∃ p,sr l.length (g1 (gF l)) p:=by
 rw[ei,Bool.and_eq_true,x9,decide_eq_true_eq];exact and_congr_right λ _=>Eg
section
variable {S:Se} {n:Nat} {y:Br} {l:List Of} {p p' m:I6}
end
section
variable {S:Se} {L:List Lx} (hs:S.Ok) (hb:∀ y∈S.bd,y.bud=0)
include hs hb
omit hs hb in
theorem LV{o:Po}(ho:o.ok){p ex:I6}(hp:dJ p=true)(k:Nat)(hk:k<6):p.at' k<=(bw o p ex).at' k:=by
 unfold bw;rw[I6.fG _ _ _ _ hk];have:=xN hp k hk
 split
 ·unfold CM;have h1:0<=p.at' k*o.pct:=Int.mul_nonneg this.1 ho.2.2.1;obtain⟨o1,_⟩:=ho;omega
 ·exact Int.le_refl _
end
def Sl(l:List Ch):List I6:=z6 :: l.map Ch.want
def wQ(l:List Ch)(k:Nat):I6:=(Sl l).getD k z6
def hQ(l:List Ch)(i j:Nat):Bool:=decide (wQ l j=(l.getD i nD).want)
theorem St.Ow{w0 w1 w:World}{l:List aC}(s:St w0 w (Sep l))(h:ay w1 w [])(cs:Array Value){T:TypeId}{R:Nat->World->Prop}(k:∀ r w',St w0 w' (Sep (ai r cs T :: l))->ay w1 w' []->R r w'):aq w (.cells cs T) R :=
 k _ _ (s.bW cs T) (h.trans (ay.new _ _ []) (by simp))
theorem mF(w:World){b:Int}(hb:Go.Vc.In b):CP 20 #[iv b] w (λ r w'=>∃ a1 a2,r=.agg (uM b a1 a2 2).arr/\(∀ {w''},ay w' w'' []->(uM b a1 a2 2).In w'')/\ay w w' []):=by
 refine Av ?_;unfold yR;refine(St.start w).one.ax _ λ r1 w1 s1=>s1.ax (l:=[_,_]) (UE.flatMap Pr.cells).toArray λ r2 w2 s2=>s2.ax (l:=[_,_,_]) ((UD b).flatMap Br.cells).toArray λ r3 w3 s3=>s3.az 2 rfl (uM b (some ⟨r2,0,none⟩) (some ⟨r3,0,none⟩) 2).arr.toList rfl (by intro v hv; simp[Se.arr,uM] at hv; rcases hv with rfl|rfl|rfl<;>rfl) λ w4 s4=>?_;refine⟨_,_,_,_,_,_,_,_,_,_,_,_,s4.cellsIn 2 rfl,some ⟨r2,0,none⟩,some ⟨r3,0,none⟩,rfl,λ {w''} hc=>?_,s4.au⟩;have s5:=s4.quiet hc;have i64:∀ n:Int,0<=n->n<=5->Go.Vc.In n:=λ n h1 h2=>⟨by omega,by omega⟩;refine⟨λ i x hx=>?_,λ i x hx=>?_,λ i x hx=>?_,λ i x hx=>?_,Nat.le_refl 2,Nat.le_refl 2,Nat.le_refl 0,Nat.le_refl 0⟩
 ·match i,hx with
  | 0,rfl=>exact⟨⟨i64 _ (by decide) (by decide),i64 _ (by decide) (by decide),i64 _ (by decide) (by decide),i64 _ (by decide) (by decide)⟩,_,rfl,by rw[bq]; exact s5.aF 1 0 rfl rfl⟩
  | 1,rfl=>exact⟨⟨i64 _ (by decide) (by decide),i64 _ (by decide) (by decide),i64 _ (by decide) (by decide),i64 _ (by decide) (by decide)⟩,_,rfl,by rw[bq]; exact s5.aF 1 5 rfl rfl⟩
 ·match i,hx with
  | 0,rfl=>exact⟨⟨i64 0 (by decide) (by decide),hb,i64 5 (by decide) (by decide)⟩,_,rfl,by rw[bq]; exact s5.aF 0 0 rfl rfl⟩
  | 1,rfl=>exact⟨⟨i64 _ (by decide) (by decide),i64 _ (by decide) (by decide),i64 _ (by decide) (by decide)⟩,_,rfl,by rw[bq]; exact s5.aF 0 4 rfl rfl⟩
 ·exact absurd hx (by show ¬ ([]:List T3)[i]?=some x; simp)
 ·exact absurd hx (by show ¬ ([]:List T3)[i]?=some x; simp)
theorem Eo(w:World):CP 21 #[] w (λ r w'=>∃ a,r=.slice a 2 2/\(∀ {w''},ay w' w'' []->Fa w'' a PW)/\ay w w' []):=by
 refine wO ?_;unfold tn;refine(St.start w).one.ax (PW.flatMap Of.cells).toArray λ r1 w1 s1=>⟨_,rfl,λ {w''} hc i x hx=>?_,s1.au⟩;have s5:=s1.quiet hc
 match i,hx with
 | 0,rfl=>exact⟨_,_,rfl,by rw[bq]; exact s5.aF 0 0 rfl rfl,rfl,rfl⟩
 | 1,rfl=>exact⟨_,_,rfl,by rw[bq]; exact s5.aF 0 8 rfl rfl,rfl,rfl⟩
theorem R6(w:World)(n:Int)(a:OA)(l c:Nat):CP 24 #[.pointer none,iv n,.slice a l c] w (λ r w'=>r=.slice none 0 0/\w' = w):=by
 refine oZ ?_;unfold jT;exact⟨rfl,rfl⟩
theorem oD(b:Int)(a1 a2:OA)(c:Nat):(uM b a1 a2 c).er=uM b none none 0:=rfl
theorem yH{b:Int}(h0:0<=b)(h1:b<=5):Go.Vc.In b:=⟨by omega,by omega⟩
theorem CU(S:Se)(o:Po)(n:Nat):o6 S.er o n=o6 S o n:=rfl
def SP(r5 r6:Nat):List Lx:=[⟨some ⟨r5,0,none⟩,1,[⟨0,⟨1,0,0,0,0,0⟩,5⟩]⟩,⟨some ⟨r6,0,none⟩,1,[⟨0,⟨1,0,0,0,0,0⟩,3⟩]⟩]
def TV:List Lx:=[⟨none,0,[]⟩,⟨none,0,[]⟩]
set_option maxHeartbeats 2000000 in
theorem Iw{w:World}(ht:JY w):CP 5 #[] w (λ r w'=>r=.bool true/\ay w w' []):=by
 refine yQ ?_;unfold vS;refine ak (mF w (yH (by decide) (by decide))) ?_;rintro v w1 ⟨a1,a2,rfl,i1,c1⟩;have s1:=(St.start w).one.quiet c1;refine⟨_,_,_,_,_,_,_,_,_,_,_,_,rfl,ak (Eo w1) ?_⟩;rintro v w2 ⟨a3,rfl,o2,c2⟩;have s2:=s1.quiet c2;refine⟨_,_,_,rfl,ak (yf (i1 c2) (o2 (ay.refl _ _)) (by decide) 0 ⟨3,1,0,0,0,0⟩) ?_⟩;rintro v w3 ⟨rfl,c3⟩;have s3:=s2.quiet c3;rw[<- sE,oD,show uM 0 none none 0=Fy from rfl,SQ];refine⟨⟨1,1,0,0,0,0⟩,0,rfl,s3.ax z6.vs.toArray λ r1 w4 s4=>s4.az 0 rfl (⟨1,1,0,0,0,0⟩:I6).vs rfl (I6.one _) λ w5 s5=>?_⟩;refine ak (mF w5 (yH (b:=3) (by decide) (by decide))) ?_;rintro v w6 ⟨b1,b2,rfl,i6,c6⟩;have s6:=s5.quiet c6;refine⟨_,_,_,_,_,_,_,_,_,_,_,_,rfl,ak (Eo w6) ?_⟩;rintro v w7 ⟨a4,rfl,o7,c7⟩;have s7:=s6.quiet c7;refine⟨_,_,_,rfl,ak (yf (i6 c7) (o7 (ay.refl _ _)) (by decide) 0 ⟨3,1,0,0,0,0⟩) ?_⟩;rintro v w8 ⟨rfl,c8⟩;have s8:=s7.quiet c8;rw[<- sE,oD,SR];refine⟨⟨1,0,0,0,0,0⟩,0,rfl,s8.ax z6.vs.toArray λ r2 w9 s9=>s9.az 0 rfl (⟨1,0,0,0,0,0⟩:I6).vs rfl (I6.one _) λ w10 s10=>?_⟩;refine ak (mF w10 (yH (b:=0) (by decide) (by decide))) ?_;rintro v w11 ⟨d1,d2,rfl,i11,c11⟩;have s11:=s10.quiet c11;refine⟨_,_,_,_,_,_,_,_,_,_,_,_,rfl,ak (Eo w11) ?_⟩;rintro v w12 ⟨a5,rfl,o12,c12⟩;have s12:=s11.quiet c12;refine⟨_,_,_,rfl,ak (yf (i11 c12) (o12 (ay.refl _ _)) (by decide) 2 z6) ?_⟩;rintro v w13 ⟨rfl,c13⟩;have s13:=s12.quiet c13;rw[<- sE,oD,show uM 0 none none 0=Fy from rfl,SS];generalize(iu Fy 2 PW z6).1=u3;refine⟨u3,6,rfl,s13.ax z6.vs.toArray λ r3 w14 s14=>s14.az 0 rfl u3.vs rfl (I6.one _) λ w15 s15=>?_⟩;refine ak (mF w15 (yH (b:=0) (by decide) (by decide))) ?_;rintro v w16 ⟨f1,f2,rfl,i16,c16⟩;have s16:=s15.quiet c16;refine⟨_,_,_,_,_,_,_,_,_,_,_,_,rfl,ak (Eo w16) ?_⟩;rintro v w17 ⟨a6,rfl,o17,c17⟩;have s17:=s16.quiet c17;refine⟨_,_,_,rfl,ak (yf (i16 c17) (o17 (ay.refl _ _)) (by decide) 0 ⟨-1,0,0,0,0,0⟩) ?_⟩;rintro v w18 ⟨rfl,c18⟩;have s18:=s17.quiet c18;rw[<- sE,oD,show uM 0 none none 0=Fy from rfl,SU];generalize(iu Fy 0 PW ⟨-1,0,0,0,0,0⟩).1=u4;refine⟨u4,4,rfl,s18.ax z6.vs.toArray λ r4 w19 s19=>s19.az 0 rfl u4.vs rfl (I6.one _) λ w20 s20=>?_⟩;refine ak (mF w20 (yH (b:=0) (by decide) (by decide))) ?_;rintro v w21 ⟨g1,g2,rfl,i21,c21⟩;have s21:=s20.quiet c21;refine⟨_,_,_,_,_,_,_,_,_,_,_,_,rfl,St.Ow s21 (ay.refl w21 []) (⟨0,⟨1,0,0,0,0,0⟩,5⟩:Of).cells.toArray λ r5 w22 s22 c22=>St.Ow s22 c22 (⟨0,⟨1,0,0,0,0,0⟩,3⟩:Of).cells.toArray λ r6 w23 s23 c23=>St.Ow s23 c23 #[.slice (some ⟨r5,0,none⟩) 1 1,.slice (some ⟨r6,0,none⟩) 1 1] λ r7 w24 s24 c24=>?_⟩;have hL1:MW w24 (some ⟨r7,0,none⟩) (SP r5 r6):=by
  refine⟨λ i x hx=>?_,λ x hx=>?_⟩
  ·match i,hx with
   | 0,rfl=>exact⟨_,_,rfl,by rw[bq]; exact s24.aF 0 0 rfl rfl,rfl,rfl⟩
   | 1,rfl=>exact⟨_,_,rfl,by rw[bq]; exact s24.aF 0 1 rfl rfl,rfl,rfl⟩
  ·simp only[SP,List.mem_cons,List.not_mem_nil,or_false] at hx;rcases hx with rfl|rfl
   ·exact⟨gR (s24.cellsIn 2 rfl) rfl,by show(1:Nat)<=100000; decide⟩
   ·exact⟨gR (s24.cellsIn 1 rfl) rfl,by show(1:Nat)<=100000; decide⟩
 have hr1:o6 (uM 0 g1 g2 2) Fb (SP r5 r6).length=0:=(CU _ _ _).symm.trans (by rw[oD]; exact Hi.1);have hk1:=zl (i21 c24) Fb (cl:=2) hL1;generalize hRM:runM (uM 0 g1 g2 2) Fb (SP r5 r6)=RM at hk1;refine ak hk1 ?_;rintro v w25 (⟨h0,_⟩|⟨_,_,_,_,g,C,eC,hi,hov,rfl,k25⟩)
 ·exact absurd hr1 h0
 have s25:=s24.and k25;rw[<- hRM,L7,oD,show(SP r5 r6).map Lx.l=NS from rfl] at eC;have eC:C.er=(Jw Fy Fb NS).er:=eC;have hcl:C.cl.length=4:=by
  have:=congrArg (λ C:Ck=>C.cl.length) eC;simp only[uT] at this;rw[this]; exact Hi.2.1
 have hp:C.p=⟨3,0,0,0,0,0⟩:=by
  have hpe:∀ D:Ck,D.er.p=D.p:=λ _=>rfl;have h3:=congrArg Ck.p eC;rw[hpe,hpe,Hi.2.2] at h3;exact h3
 refine⟨_,_,rfl,ak (mF w25 (yH (b:=0) (by decide) (by decide))) ?_⟩;rintro v w26 ⟨g3,g4,rfl,i26,c26⟩;have s26:=s25.quiet c26;have hr2:o6 (uM 0 g3 g4 2) Fb ([]:List Lx).length=3:=(CU _ _ _).symm.trans (by rw[oD]; exact SV);have hk3:=zl (i26 (ay.refl _ _)) Fb (al:=none) (cl:=0) (L:=[]) ⟨λ i x hx=>by simp at hx,λ x hx=>by simp at hx⟩;generalize runM (uM 0 g3 g4 2) Fb []=RM3 at hk3;refine⟨_,_,_,_,_,_,_,_,_,_,_,_,rfl,ak hk3 ?_⟩;rintro v w27 (⟨h0,rfl,c27⟩|⟨h0,_⟩)
 rotate_left
 ·rw[hr2] at h0; cases h0
 rw[hr2];have s27:=s26.quiet c27;refine⟨_,_,rfl,ak (mF w27 (yH (b:=0) (by decide) (by decide))) ?_⟩;rintro v w28 ⟨g5,g6,rfl,i28,c28⟩;have s28:=s27.quiet c28;refine⟨_,_,_,_,_,_,_,_,_,_,_,_,rfl,St.Ow (l:=Sep (bM g C) :: _) s28 (ay.refl w28 []) #[.slice none 0 0,.slice none 0 0] λ r8 w29 s29 c29=>?_⟩;have hL2:MW w29 (some ⟨r8,0,none⟩) TV:=by
  refine⟨λ i x hx=>?_,λ x hx=>?_⟩
  ·match i,hx with
   | 0,rfl=>exact⟨_,_,rfl,by rw[bq]; exact s29.aF 0 0 rfl rfl,rfl,rfl⟩
   | 1,rfl=>exact⟨_,_,rfl,by rw[bq]; exact s29.aF 0 1 rfl rfl,rfl,rfl⟩
  ·simp only[TV,List.mem_cons,List.not_mem_nil,or_false] at hx;rcases hx with rfl|rfl<;>exact⟨λ i x hx=>by simp at hx,by decide⟩
 have hr3:o6 (uM 0 g5 g6 2) Fb TV.length=0:=(CU _ _ _).symm.trans (by rw[oD]; exact Hi.1);have hk2:=DQ (i28 c29) (ht.au s29.au) Fb (cl:=2) hL2;generalize hRM2:runM (uM 0 g5 g6 2) Fb TV=RM2 at hk2;refine ak hk2 ?_;rintro v w30 (⟨h0,_⟩|⟨_,_,_,_,ae,ce,rfl,k30⟩)
 ·exact absurd hr3 h0
 have s30:St w w30 (Sep (Gr ae ce _ :: ai r8 _ _ :: Sep (bM g C) :: _)):=s29.and k30;have eE:∃ t,DR (uM 0 g5 g6 2) RM2=[kj t,gw 0 z6,gw 1 z6,fE]:=by
  have e1:RM2.er=(Jw Fy Fb [[],[]]).er:=by rw[<- hRM2]; exact L7 _ _ _
  have e2:RM2.cl.map Rn.ask=[[z6,z6]]:=by
   have h1:=congrArg (λ C:Ck=>C.cl.map Rn.ask) e1;have h2:∀ C:Ck,C.er.cl.map Rn.ask=C.cl.map Rn.ask:=λ C=>by show(C.cl.map Rn.er).map Rn.ask=_; rw[List.map_map]; rfl
   simp only[h2] at h1;rw[h1]; exact SX
  generalize RM2=D at e2;unfold DR;generalize dh (uM 0 g5 g6 2)=t
  match h:D.cl,e2 with
  | [x],e2 =>
   have hx:x.ask=[z6,z6]:=by simpa using e2
   refine⟨t,?_⟩;show DL x.ask [kj t] x.ask.length++[fE]=_;rw[hx]; rfl
  | [],e2=>cases e2
  | _ :: _ :: _,e2=>simp at e2
 obtain⟨t,eE⟩:=eE;rw[eE] at s30 ⊢;have rd:∀ {w'},ay w30 w' []->C.Rd g w':=λ hc=>((s30.out 2 rfl).first.imp mV).au hc;have hE:∀ {w'},ay w30 w' []->cG 11 Ev.cells w' ae [kj t,gw 0 z6,gw 1 z6,fE]:=λ hc=>(St.rd Hg (s30.out 0 rfl)).au hc;refine⟨ae,4,ce,0,rfl,λ b w31=>b=false/\w31=w30,?_,cF rfl ⟨_,s30.cellsIn 9 rfl,cF rfl (cF rfl ⟨_,s30.cellsIn 8 rfl,cF rfl (cF rfl (cF rfl (cF rfl (cF rfl ⟨rfl,rfl⟩))))⟩)⟩⟩;rintro w31 _ ⟨rfl,rfl⟩ -;refine cF rfl (ak (PZ (rd (ay.refl _ _))) ?_);rintro v w32 ⟨rfl,rfl⟩;refine⟨_,rfl,?_⟩;rw[hov];refine cT rfl (ak (Lb (rd (ay.refl _ _))) ?_);rintro v w33 ⟨rfl,rfl⟩;refine⟨_,rfl,?_⟩;rw[hcl];refine cT rfl (ak (kS (rd (ay.refl _ _))) ?_);rintro v w34 ⟨rfl,c34⟩;refine⟨_,rfl,?_⟩;rw[hp];obtain⟨q1,hq1,hc1⟩:=(hE c34).at (i:=1) (x:=gw 0 z6) rfl;obtain⟨q3,hq3,hc3⟩:=(hE c34).at (i:=3) (x:=fE) rfl;refine cT rfl (cT rfl (cT rfl (aj hq1 ⟨by decide,by decide,_,_,_,z6,_,_,hc1,cT (by decide) (aj hq3 ⟨by decide,by decide,_,_,_,z6,_,_,hc3,cT (by decide) (ak (Eo w34) ?_)⟩)⟩)));rintro v w35 ⟨a7,rfl,_,c35⟩;refine⟨_,_,_,rfl,ak (R6 w35 0 a7 2 2) ?_⟩;rintro v w36 ⟨rfl,rfl⟩;exact⟨_,_,_,rfl,rfl,((s30.quiet c34).quiet c35).au⟩
def HT(a:OA)(b c:Nat)(d:OA)(e f:Nat)(w:World)(K:KP):=cond ((b:Int) !=(e:Int)) (K (.bool false) w) (∃ c:Int->qN,(∃ f,c 0 w f)/\∀ g f h,c h g f->∀ i:qv,cond (decide (h<(b:Int))) (∃ i:Bool->qW,(∀ j k,i k j->∀ l:qv,cond k (K (.bool false) j) (∃ k:Int->qN,(∃ l,k 0 j l)/\∀ j l m,k m j l->∀ n:qv,∃ n:Bool->qW,(∀ o p,n p o->∀ q:qv,cond p (∃ p:Bool->qW,(∀ q r,p r q->∀ s:qv,cond r (K (.bool false) q) (∃ r,r<l/\k (IntKind.i64.wrap (m+1)) q r))/\an a λ k=>0<=h/\h<(b:Int)/\∃ l q r,o.drew.cell? (Addr.add (Addr.add k ((h).toNat*9)) 6)=some (.slice l q r)/\an l λ k=>0<=m/\m<(q:Int)/\∃ l:I6,af o.drew (Addr.add k ((m).toNat*6)) 0 l.vs/\an d λ k=>0<=h/\h<(e:Int)/\∃ q r s,o.drew.cell? (Addr.add (Addr.add k ((h).toNat*9)) 6)=some (.slice q r s)/\an q λ k=>0<=m/\m<(r:Int)/\∃ q:I6,af o.drew (Addr.add k ((m).toNat*6)) 0 q.vs/\cond (!(I6.beq l q)) (p true o.drew) (an a λ k=>0<=h/\h<(b:Int)/\∃ l q r,o.drew.cell? (Addr.add (Addr.add k ((h).toNat*9)) 7)=some (.slice l q r)/\an l λ k=>0<=m/\m<(q:Int)/\∃ l:I6,af o.drew (Addr.add k ((m).toNat*6)) 0 l.vs/\an d λ k=>0<=h/\h<(e:Int)/\∃ q r s,o.drew.cell? (Addr.add (Addr.add k ((h).toNat*9)) 7)=some (.slice q r s)/\an q λ k=>0<=m/\m<(r:Int)/\∃ q:I6,af o.drew (Addr.add k ((m).toNat*6)) 0 q.vs/\cond (!(I6.beq l q)) (p true o.drew) (an a λ k=>0<=h/\h<(b:Int)/\∃ l q r,o.drew.cell? (Addr.add (Addr.add k ((h).toNat*9)) 8)=some (.slice l q r)/\an l λ k=>0<=m/\m<(q:Int)/\∃ l,o.drew.cell? (Addr.add k ((m).toNat*1))=some (.bool l)/\an d λ k=>0<=h/\h<(e:Int)/\∃ q r s,o.drew.cell? (Addr.add (Addr.add k ((h).toNat*9)) 8)=some (.slice q r s)/\an q λ k=>0<=m/\m<(r:Int)/\∃ q,o.drew.cell? (Addr.add k ((m).toNat*1))=some (.bool q)/\p (!(l==q)) o.drew))) (∃ k,k<f/\c (IntKind.i64.wrap (h+1)) o k))/\an a λ c=>0<=h/\h<(b:Int)/\∃ f k l,j.cell? (Addr.add (Addr.add c ((h).toNat*9)) 6)=some (.slice f k l)/\cond (decide (m<(k:Int))) (an a λ c=>0<=h/\h<(b:Int)/\∃ f k l,j.cell? (Addr.add (Addr.add c ((h).toNat*9)) 7)=some (.slice f k l)/\cond (decide (m<(k:Int))) (an a λ c=>0<=h/\h<(b:Int)/\∃ f k l,j.cell? (Addr.add (Addr.add c ((h).toNat*9)) 8)=some (.slice f k l)/\n (decide (m<(k:Int))) j) (n false j)) (n false j)))/\an a λ c=>0<=h/\h<(b:Int)/\∃ f:I6,af g.drew (Addr.add c ((h).toNat*9)) 0 f.vs/\an d λ c=>0<=h/\h<(e:Int)/\∃ j:I6,af g.drew (Addr.add c ((h).toNat*9)) 0 j.vs/\cond (!(I6.beq f j)) (i true g.drew) (an a λ c=>0<=h/\h<(b:Int)/\∃ f j k,g.drew.cell? (Addr.add (Addr.add c ((h).toNat*9)) 6)=some (.slice f j k)/\an d λ c=>0<=h/\h<(e:Int)/\∃ f k l,g.drew.cell? (Addr.add (Addr.add c ((h).toNat*9)) 6)=some (.slice f k l)/\cond ((j:Int) !=(k:Int)) (i true g.drew) (an a λ c=>0<=h/\h<(b:Int)/\∃ f j k,g.drew.cell? (Addr.add (Addr.add c ((h).toNat*9)) 7)=some (.slice f j k)/\an d λ c=>0<=h/\h<(e:Int)/\∃ f k l,g.drew.cell? (Addr.add (Addr.add c ((h).toNat*9)) 7)=some (.slice f k l)/\cond ((j:Int) !=(k:Int)) (i true g.drew) (an a λ a=>0<=h/\h<(b:Int)/\∃ b c f,g.drew.cell? (Addr.add (Addr.add a ((h).toNat*9)) 8)=some (.slice b c f)/\an d λ a=>0<=h/\h<(e:Int)/\∃ b d e,g.drew.cell? (Addr.add (Addr.add a ((h).toNat*9)) 8)=some (.slice b d e)/\i ((c:Int) !=(d:Int)) g.drew)))) (K (.bool true) g))
theorem Ge{a1 l1 c1 a2 l2 c2 w K}(h:HT a1 l1 c1 a2 l2 c2 w K):CP 15 #[.slice a1 l1 c1,.slice a2 l2 c2] w K:=ah (aA [(58,[(5,.s (.int .i64))]),(1864,[(73,.s .bool)]),(7462,[(6,.s (.int .i64))]),(29848,[(101,.s .bool)]),(119396,[(158,.s .bool)])]) func15 (by kernel_rfl) (by kernel_rfl) h
def tq(a:OA)(w:World)(K:KP):=CC 26 #[.pointer a] w λ a b=>∃ c d e,a=.returned (.slice c d e)/\∃ a:OA->Nat->Nat->Int->qN,(∃ e,a none 0 0 0 b e)/\∀ b e f g h i,a f g h i b e->∀ j:qv,cond (decide (i<(d:Int))) (an c λ j=>0<=i/\i<(d:Int)/\∃ k:I6,af b.drew (Addr.add j ((i).toNat*9)) 0 k.vs/\an c λ j=>0<=i/\i<(d:Int)/\∃ l m n,b.drew.cell? (Addr.add (Addr.add j ((i).toNat*9)) 6)=some (.slice l m n)/\an c λ j=>0<=i/\i<(d:Int)/\∃ o p q,b.drew.cell? (Addr.add (Addr.add j ((i).toNat*9)) 7)=some (.slice o p q)/\an c λ c=>0<=i/\i<(d:Int)/\∃ d j r,b.drew.cell? (Addr.add (Addr.add c ((i).toNat*9)) 8)=some (.slice d j r)/\aq b.drew (.cells (k.on [.slice l m n,.slice o p q,.slice d j r]:List Value).toArray 107) λ c d=>aV prog (Builtin.append_ #[56,56] 56 #[.slice f g h,.slice (some (qd c 0)) 1 1]) d λ c d=>∃ j k l,c=(.slice j k l)/\∃ c,c<e/\a j k l (IntKind.i64.wrap (i+1)) d c) (K (.slice f g h) b)
theorem wP{p1 w K}(h:tq p1 w K):CP 16 #[.pointer p1] w K:=ah (aA [(122,[(3,.s .slice),(5,.s (.int .i64))])]) func16 (by kernel_rfl) (by kernel_rfl) h
theorem zv{w:World}{q:Addr}{x:Rn}(h:af w q 0 x.cells):af w q 0 x.p.vs/\w.cell? (q.add 6)=some (.slice x.xa x.ask.length x.xc)/\w.cell? (q.add 7)=some (.slice x.ga x.got.length x.gc)/\w.cell? (q.add 8)=some (.slice x.ba x.bd.length x.bc):=by
 have g:∀ (j:Nat) (v:Value),x.cells[j]?=some v->w.cell? (q.add j)=some v:=λ j v hj=>by
  have:=aS h j v hj
  rwa [Nat.zero_add] at this
 refine⟨br _ 0 λ j v hj=>?_,g 6 _ rfl,g 7 _ rfl,g 8 _ rfl⟩;have h6:j<6:=(List.getElem?_eq_some_iff.1 hj).1;exact aS h j v (by
  match j,h6,hj with
  | 0,_,hj|1,_,hj|2,_,hj|3,_,hj|4,_,hj|5,_,hj=>simpa[Rn.cells,I6.on,I6.vs] using hj)
theorem PN{w:World}{a:OA}{l:List Bool}(h:cG 1 bl w a l){k:Nat}{b:Bool}(hk:l[k]?=some b):∃ q,a=some q/\w.cell? (Addr.add q (((k:Nat):Int).toNat*1))=some (.bool b):=by
 obtain⟨q,hq,hc⟩:=h.at hk;exact⟨q,hq,by rw[Int.toNat_natCast]; exact hc.1⟩
set_option maxHeartbeats 1000000 in
theorem Jn{w:World}{a1 a2:OA}{c1 c2:Nat}{l l' : List Rn}(h1:cG 9 Rn.cells w a1 l)(i1:cH l w)(h2:cG 9 Rn.cells w a2 l')(i2:cH l' w)(e:l.map Rn.er=l'.map Rn.er)(hl:l.length<=1000)(hz:∀ x∈l,x.ask.length<=1000) :
  CP 15 #[.slice a1 l.length c1,.slice a2 l'.length c2] w (λ r w'=>r=.bool true/\ay w w' []):=by
 refine Ge ?_;unfold HT;have hll:l'.length=l.length:=by have:=congrArg List.length e; simpa using this.symm
 refine cF (by rw[hll]; simp) ⟨λ i w1 m=>∃ k:Nat,i=k/\k<=l.length/\m=l.length-k/\ay w w1 [],⟨l.length,0,rfl,by omega,by omega,ay.refl _ _⟩,?_⟩;rintro w1 m i ⟨k,rfl,hk,hm,d1⟩ -
 by_cases hlt:(k:Int)<(l.length:Int)
 rotate_left
 ·exact cF (dF hlt) ⟨rfl,d1⟩
 have hx:l[k]?=some (l[k]'(by omega)):=gE (by omega);have hy:l'[k]?=some (l'[k]'(by omega)):=gE (by omega);generalize l[k]'(by omega)=x at hx;generalize l'[k]'(by omega)=y at hy;have exy:x.er=y.er:=by
  have h3:(l.map Rn.er)[k]?=some x.er:=by rw[List.getElem?_map,hx]; rfl
  have h4:(l'.map Rn.er)[k]?=some y.er:=by rw[List.getElem?_map,hy]; rfl
  rw[e,h4] at h3;exact(Option.some.inj h3).symm
 have ep:x.p=y.p:=by show x.er.p=y.er.p; rw[exy]
 have ea:x.ask=y.ask:=by show x.er.ask=y.er.ask; rw[exy]
 have eg:x.got=y.got:=by show x.er.got=y.er.got; rw[exy]
 have ebd:x.bd=y.bd:=by show x.er.bd=y.er.bd; rw[exy]
 have hxm:=List.mem_of_getElem? hx;have hym:=List.mem_of_getElem? hy;have hza:=hz x hxm;have rx:∀ {w'},ay w w' []->∃ q,a1=some q/\af w' (Addr.add q (((k:Nat):Int).toNat*9)) 0 x.p.vs/\w'.cell? (Addr.add (Addr.add q (((k:Nat):Int).toNat*9)) 6)=some (.slice x.xa x.ask.length x.xc)/\w'.cell? (Addr.add (Addr.add q (((k:Nat):Int).toNat*9)) 7)=some (.slice x.ga x.got.length x.gc)/\w'.cell? (Addr.add (Addr.add q (((k:Nat):Int).toNat*9)) 8)=some (.slice x.ba x.bd.length x.bc):=λ hc=>by
  obtain⟨q,hq,hcl⟩:=(h1.au hc).at hx;rw[Int.toNat_natCast];exact⟨q,hq,zv hcl⟩
 have ry:∀ {w'},ay w w' []->∃ q,a2=some q/\af w' (Addr.add q (((k:Nat):Int).toNat*9)) 0 y.p.vs/\w'.cell? (Addr.add (Addr.add q (((k:Nat):Int).toNat*9)) 6)=some (.slice y.xa y.ask.length y.xc)/\w'.cell? (Addr.add (Addr.add q (((k:Nat):Int).toNat*9)) 7)=some (.slice y.ga y.got.length y.gc)/\w'.cell? (Addr.add (Addr.add q (((k:Nat):Int).toNat*9)) 8)=some (.slice y.ba y.bd.length y.bc):=λ hc=>by
  obtain⟨q,hq,hcl⟩:=(h2.au hc).at hy;rw[Int.toNat_natCast];exact⟨q,hq,zv hcl⟩
 have d2:ay w w1.drew []:=d1.trans (ay.drew w1 []) (by simp);obtain⟨q1,hq1,x0,x6,x7,x8⟩:=rx d2;obtain⟨q2,hq2,y0,y6,y7,y8⟩:=ry d2;refine cT (dT hlt) ⟨λ b w2=>b=false/\ay w w2 [],?_,aj hq1 ⟨by omega,by omega,x.p,x0,aj hq2 ⟨by omega,by omega,y.p,y0,cF (by rw[ep]; simp[I6.beq]) (aj hq1 ⟨by omega,by omega,_,_,_,x6,aj hq2 ⟨by omega,by omega,_,_,_,y6,cF (by rw[ea]; simp) (aj hq1 ⟨by omega,by omega,_,_,_,x7,aj hq2 ⟨by omega,by omega,_,_,_,y7,cF (by rw[eg]; simp) (aj hq1 ⟨by omega,by omega,_,_,_,x8,aj hq2 ⟨by omega,by omega,_,_,_,y8,by rw[ebd]; simp,d2⟩⟩)⟩⟩)⟩⟩)⟩⟩⟩;rintro w2 b ⟨rfl,d3⟩ -;refine cF rfl ⟨λ i w3 m=>∃ j:Nat,i=j/\j<=x.ask.length/\m=x.ask.length-j/\ay w w3 [],⟨x.ask.length,0,rfl,by omega,by omega,d3⟩,?_⟩;rintro w3 m3 i ⟨j,rfl,hj,hm3,d4⟩ -;obtain⟨q3,hq3,_,z6',z7,z8⟩:=rx d4;refine⟨λ b w4=>b=decide (j<x.ask.length/\j<x.got.length/\j<x.bd.length)/\ay w w4 [],?_,aj hq3 ⟨by omega,by omega,_,_,_,z6',?_⟩⟩
 rotate_left
 ·by_cases g1:j<x.ask.length
  ·refine cT (dT (by omega)) (aj hq3 ⟨by omega,by omega,_,_,_,z7,?_⟩)
   by_cases g2:j<x.got.length
   ·refine cT (dT (by omega)) (aj hq3 ⟨by omega,by omega,_,_,_,z8,?_,d4⟩)
    by_cases g3:j<x.bd.length
    ·rw[dT (p:=j<x.ask.length/\j<x.got.length/\j<x.bd.length) ⟨g1,g2,g3⟩,dT (by omega)]
    ·rw[dF (p:=j<x.ask.length/\j<x.got.length/\j<x.bd.length) (λ h=>g3 h.2.2),dF (by omega)]
   ·exact cF (dF (by omega)) ⟨(dF λ h=>g2 h.2.1).symm,d4⟩
  ·exact cF (dF (by omega)) ⟨(dF λ h=>g1 h.1).symm,d4⟩
 rintro w4 b ⟨rfl,d5⟩ -
 by_cases hb:j<x.ask.length/\j<x.got.length/\j<x.bd.length
 rotate_left
 ·exact cF (dF hb) ⟨l.length-(k+1),by omega,k+1,aB ⟨by omega,by omega⟩,by omega,rfl,d5⟩
 obtain⟨g1,g2,g3⟩:=hb;have d6:ay w w4.drew []:=d5.trans (ay.drew w4 []) (by simp);obtain⟨p1,hp1,_,x6',x7',x8'⟩:=rx d6;obtain⟨p2,hp2,_,y6',y7',y8'⟩:=ry d6;have u1:x.ask[j]?=some (x.ask[j]'g1):=gE g1;have u2:x.got[j]?=some (x.got[j]'g2):=gE g2;have u3:x.bd[j]?=some (x.bd[j]'g3):=gE g3;generalize x.ask[j]'g1=A at u1;generalize x.got[j]'g2=G at u2;generalize x.bd[j]'g3=D at u3;have fl6:∀ {w'} {a:OA} {l:List I6} {u:I6},cG 6 I6.vs w' a l->l[j]?=some u->∃ q,a=some q/\af w' (Addr.add q (((j:Nat):Int).toNat*6)) 0 u.vs:=λ h hu=>by rw[Int.toNat_natCast]; exact h.at hu
 obtain⟨b1,hb1,v1⟩:=fl6 (((i1 x hxm).au d6).ask) u1;obtain⟨b2,hb2,v2⟩:=fl6 (((i2 y hym).au d6).ask) (by rw[<- ea]; exact u1);obtain⟨b3,hb3,v3⟩:=fl6 (((i1 x hxm).au d6).got) u2;obtain⟨b4,hb4,v4⟩:=fl6 (((i2 y hym).au d6).got) (by rw[<- eg]; exact u2);obtain⟨b5,hb5,v5⟩:=PN (((i1 x hxm).au d6).bd) u3;obtain⟨b6,hb6,v6⟩:=PN (((i2 y hym).au d6).bd) (by rw[<- ebd]; exact u3);have la:y.ask.length=x.ask.length:=by rw[ea]
 have lg:y.got.length=x.got.length:=by rw[eg]
 have lb:y.bd.length=x.bd.length:=by rw[ebd]
 refine cT (dT ⟨g1,g2,g3⟩) ⟨λ b w5=>b=false/\ay w w5 [],?_,aj hp1 ⟨by omega,by omega,_,_,_,x6',aj hb1 ⟨by omega,by omega,A,v1,aj hp2 ⟨by omega,by omega,_,_,_,y6',aj hb2 ⟨by omega,by omega,A,v2,cF (by simp[I6.beq]) (aj hp1 ⟨by omega,by omega,_,_,_,x7',aj hb3 ⟨by omega,by omega,G,v3,aj hp2 ⟨by omega,by omega,_,_,_,y7',aj hb4 ⟨by omega,by omega,G,v4,cF (by simp[I6.beq]) (aj hp1 ⟨by omega,by omega,_,_,_,x8',aj hb5 ⟨by omega,by omega,D,v5,aj hp2 ⟨by omega,by omega,_,_,_,y8',aj hb6 ⟨by omega,by omega,D,v6,by simp,d6⟩⟩⟩⟩)⟩⟩⟩⟩)⟩⟩⟩⟩⟩;rintro w5 b ⟨rfl,d7⟩ -;exact cF rfl ⟨x.ask.length-(j+1),by omega,j+1,aB ⟨by omega,by omega⟩,by omega,rfl,d7⟩
theorem RZ:gV prog 56 107 (.agg Sn.cells.toArray) 9 120:=gV.mk' underlying56 (by kernel_rfl) rfl (by decide)
abbrev T4 (a:OA) (c:Nat) (l:List Rn):aC:=bR 107 9 Rn.cells a c l
theorem zw{w:World}{g:Nat}{C:Ck}(h:C.Rd g w)(hk:C.Ok) :
  CP 16 #[.pointer (some ⟨g,0,none⟩)] w (λ r w'=>∃ l' a c,l'.map Rn.er=C.cl.map Rn.er/\r=.slice a l'.length c/\St w w' (Sep [T4 a c l',held (cH l'),emp])):=by
 refine wP ?_;unfold tq;have h30:=hk.cl;refine ak (uS h hk) ?_;rintro v w1 ⟨l',a',c',el,rfl,k12⟩;have hll:l'.length=C.cl.length:=by have:=congrArg List.length el; simpa using this
 have s1:St w w1 (Sep (Sep [Az a' c' l',held (cH l')] :: [emp])):=(St.start w).one.and k12.vW;have s2:St w w1 (Sep [Az a' c' l',held (cH l'),emp]):=St.cat (l:=[Az a' c' l',held (cH l')]) s1;refine⟨_,_,_,rfl,λ a l c i w2 m=>∃ k:Nat,i=k/\k<=l'.length/\m=l'.length-k/\l=(l'.take k).length/\St w w2 (Sep [T4 a c (l'.take k),Az a' c' l',held (cH l'),emp]),⟨l'.length,0,rfl,by omega,by omega,rfl,s2.dP⟩,?_⟩;rintro w2 m a l c i ⟨k,rfl,hk2,hm,rfl,s3⟩ -
 by_cases hlt:(k:Int)<(l'.length:Int)
 rotate_left
 ·obtain rfl:k=l'.length:=by omega
  rw[List.take_length] at s3 ⊢;exact cF (dF hlt) ⟨l',a,c,el,rfl,s3.av [0,2,3]⟩
 have hx:l'[k]?=some (l'[k]'(by omega)):=gE (by omega);generalize l'[k]'(by omega)=x at hx;have s4:=s3.quiet (ay.drew w2 []);obtain⟨q,hq,hcl⟩:=(St.rd Rn.len (s4.out 1 rfl)).at hx;obtain⟨x0,x6,x7,x8⟩:=zv hcl;have hlen:(l'.take k).length<=100:=by rw[List.length_take]; omega
 refine cT (dT hlt) (aj hq ⟨by omega,by omega,x.p,x0,aj hq ⟨by omega,by omega,_,_,_,x6,aj hq ⟨by omega,by omega,_,_,_,x7,aj hq ⟨by omega,by omega,_,_,_,x8,s4.ax x.cells.toArray λ r1 w3 s5=>?_⟩⟩⟩⟩);refine cS (l2:=[x]) RZ Rn.len Rn.one (s5.out 1 rfl) (gR (s5.cellsIn 0 rfl) rfl) (by simp only[List.length_singleton]; omega) (by simp only[List.length_singleton]; omega) λ a2 c2 w4 s6=>?_;have s6:=s6.back (i:=1) (by show 1<5; decide);have e1:l'.take k++[x]=l'.take (k+1):=by rw[aG hx]
 rw[e1] at s6 ⊢;exact⟨l'.length-(k+1),by omega,k+1,aB ⟨by omega,by omega⟩,by omega,rfl,rfl,s6.av [1,2,3,4]⟩
theorem IJ(l:List Ch)(c:Ch):oE (l++[c])=decide (c.want=z6):=by simp[oE]
theorem NB{p p' u:I6}(hu:I6.Le u 4)(hle:∀ k,k<6->p.at' k<=p'.at' k):cost p u<=cost p' u:=by
 have key:∀ k,k<6->p.at' k*u.at' k<=p'.at' k*u.at' k:=λ k hk=>Int.mul_le_mul_of_nonneg_right (hle k hk) (hu k hk).1;have h0:=key 0 (by decide); have h1:=key 1 (by decide); have h2:=key 2 (by decide); have h3:=key 3 (by decide); have h4:=key 4 (by decide); have h5:=key 5 (by decide);simp only[I6.at'] at h0 h1 h2 h3 h4 h5;unfold cost;omega
theorem least(f:Nat->Int):∀ n,0<n->∃ s,s<n/\∀ t,t<n->f s<=f t
 | 0,h=>by omega
 | 1,_=>⟨0,by omega,λ t ht=>by
  obtain rfl:t=0:=by omega
  exact Int.le_refl _⟩
 | n+2,_=>by
  obtain⟨s,h1,h2⟩:=least f (n+1) (by omega);rcases Int.lt_or_le (f (n+1)) (f s) with h|h
  ·refine⟨n+1,by omega,λ t ht=>?_⟩
   by_cases e:t=n+1
   ·rw[e]; exact Int.le_refl _
   ·have:=h2 t (by omega); omega
  ·refine⟨s,by omega,λ t ht=>?_⟩
   by_cases e:t=n+1
   ·rw[e]; exact h
   ·exact h2 t (by omega)
theorem QJ{l:List Ch}{p:I6}(hc:ei l=true)(hp:dJ p=true)(hup:∀ c∈l,∀ k,k<6->c.p.at' k<=p.at' k):ei (l++[Ch.mk p z6])=true:=by
 obtain⟨hok,v,hv⟩:=uH.1 hc;have gl:∀ {i},i<l.length->(l++[Ch.mk p z6]).getD i nD=l.getD i nD:=λ {i} hi=>by
  rw[List.getD_eq_getElem?_getD,List.getD_eq_getElem?_getD,List.getElem?_append_left hi]
 have gn:(l++[Ch.mk p z6]).getD l.length nD=Ch.mk p z6:=by simp[List.getD_eq_getElem?_getD]
 have gm:∀ {j},j<l.length->l.getD j nD∈l:=λ {j} hj=>by
  rw[List.getD_eq_getElem?_getD,gE hj]; exact List.getElem_mem hj
 have hv' : ∀ a b,a<l.length->b<l.length->v b<=v a+(cost (l.getD a nD).p (l.getD b nD).want-cost (l.getD a nD).p (l.getD a nD).want):=λ a b ha hb=>hv a b ha hb _ (List.mem_singleton.2 rfl);refine uH.2 ⟨λ c hc=>?_,?_⟩
 ·rcases List.mem_append.1 hc with hc|hc
  ·exact hok c hc
  ·cases List.mem_singleton.1 hc
   exact⟨xN hp,Im (by decide)⟩
 rcases Nat.eq_zero_or_pos l.length with h0|h0
 ·refine⟨v,λ a b ha hb x hx=>?_⟩
  cases List.mem_singleton.1 hx
  have hl:(l++[(⟨p,z6⟩:Ch)]).length=1:=by simp[h0]
  obtain rfl:a=0:=by omega
  obtain rfl:b=0:=by omega
  rw[Ho]; omega
 obtain⟨s,hs,hmin⟩:=least (λ t=>v t-cost (l.getD t nD).p (l.getD t nD).want) l.length h0;refine⟨λ j=>if j<l.length then v j else v s-cost (l.getD s nD).p (l.getD s nD).want,λ a b ha hb x hx=>?_⟩
 cases List.mem_singleton.1 hx
 have hl:(l++[(⟨p,z6⟩:Ch)]).length=l.length+1:=by simp
 show(if b<l.length then v b else _)<=(if a<l.length then v a else _)+gF _ a b;unfold gF vO
 by_cases ga:a<l.length
 ·rw[if_pos ga,gl ga]
  by_cases gb:b<l.length
  ·rw[if_pos gb,gl gb]; exact hv' a b ga gb
  ·obtain rfl:b=l.length:=by omega
   rw[if_neg gb,gn];have:=hmin a ga;rw[show cost (l.getD a nD).p (⟨p,z6⟩:Ch).want=0 from B1 _];omega
 ·obtain rfl:a=l.length:=by omega
  rw[if_neg ga,gn];rw[show cost (⟨p,z6⟩:Ch).p (⟨p,z6⟩:Ch).want=0 from B1 _]
  by_cases gb:b<l.length
  ·rw[if_pos gb,gl gb];have h1:=hv' s b hs gb;have h2:cost (l.getD s nD).p (l.getD b nD).want<=cost p (l.getD b nD).want:=NB (hok _ (gm gb)).2 (hup _ (gm hs));show v b<=_+(cost p (l.getD b nD).want-0);omega
  ·obtain rfl:b=l.length:=by omega
   rw[if_neg gb,gn,show cost (⟨p,z6⟩:Ch).p (⟨p,z6⟩:Ch).want=0 from B1 _];omega
structure FB (S:Se) (o:Po) (C:Ck):Prop where
 inv:C.Inv
 s:C.s=S
 o:C.o=o
 dp:∀ i,C.dp.getD i false=false
 up:∀ x∈C.cl,∀ k,k<6->x.p.at' k<=C.p.at' k
 bd:∀ x∈C.cl,∀ i,i<S.bd.length->x.bd.getD i false=true
 cs:C.o.rule=2->∀ i,i<S.bd.length->oE (mc C i)=true\/ei (mc C i)=true
theorem OX{S:Se}(hs:S.Ok){u:I6}(hu:I6.Le u 4):0<=zm S.ps u:=by
 have:=hs.ps.l2;exact(xR hu (UL hs.ps) S.ps.length (by omega)).1
theorem G9{S:Se}(hs:S.Ok):∀ (l:List Ch) (m:Int),0<=m->(∀ c∈l,I6.Le c.want 4)->0<=l.foldl (λ m c=>if zm S.ps c.want<m then zm S.ps c.want else m) m
 | [],_,hm,_=>hm
 | c :: l,m,hm,h=>by
  rw[List.foldl_cons];refine G9 hs l _ ?_ λ c hc=>h c (by simp[hc])
  split
  ·exact OX hs (h c (by simp))
  ·exact hm
section
variable {S:Se} {o:Po} {C:Ck} (hs:S.Ok) (ho:o.ok)
include hs ho
theorem PI(h:FB S o C)(hov:C.ov=false){i:Nat}(hi:i<S.bd.length):dI C i (S.bd.getD i mQ) z6=0:=by
 have hy:S.bd[i]?=some (S.bd[i]'hi):=gE hi;have ey:S.bd.getD i mQ = S.bd[i]'hi:=by simp[List.getD_eq_getElem?_getD,hy]
 rw[ey];generalize S.bd[i]'hi=y at hy ey;have hpm:=RC hs hy C.p;rw[qT,Bool.and_eq_true,decide_eq_true_eq,decide_eq_true_eq] at hpm;have hr:=ho;unfold Po.ok at hr;unfold dI;rw[hov,h.dp i,h.s,if_neg (by decide),if_neg (by rw[hpm.1]; simp),if_neg (by rw[hpm.2]; simp),h.o,BO,if_pos (by omega)]
 by_cases hex:oE (mc C i)=true
 ·rw[if_pos hex,if_pos];rw[decide_eq_true_eq]
 rw[if_neg hex,if_pos];have hc4:∀ c∈mc C i,I6.Le c.want 4:=λ c hc=>by
  obtain⟨x,hx,rfl⟩:=List.mem_map.1 hc;have hl:i<x.ask.length:=by rw[(h.inv.ok.cz x hx).ask,h.s]; exact hi
  have e:x.ask.getD i z6=x.ask[i]'hl:=by rw[List.getD_eq_getElem?_getD,gE hl]; rfl
  show I6.Le (x.ask.getD i z6) 4;rw[e]; exact h.inv.ok.ca x hx _ (List.getElem_mem hl)
 have hf:yM S y (mc C i) ⟨C.p,z6⟩=true:=by
  rw[yM,decide_eq_true_eq];have e0:zm S.ps z6=0:=by
   unfold zm Mx;exact GC _ _ _ (by have:=hs.ps.l2; omega)
  show zm S.ps z6<=_;rw[e0];have:=(hs.bd.good i y hy).1;simp only[uz,Bool.and_eq_true,decide_eq_true_eq] at this;exact G9 hs _ _ this.2.2.2.1 hc4
 unfold Bv
 by_cases g1:o.rule=1
 ·rw[if_pos g1]; exact hf
 rw[if_neg g1]
 by_cases g2:o.rule=2
 ·rw[if_pos g2];rcases h.cs (by rw[h.o]; exact g2) i hi with hc|hc
  ·exact absurd hc hex
  ·refine QJ hc h.inv.ok.p λ c hc=>?_;obtain⟨x,hx,rfl⟩:=List.mem_map.1 hc;exact h.up x hx
 ·rw[if_neg g2,hf,Bool.true_or]
theorem J3(h:FB S o C)(hov:C.ov=false){i:Nat}(hi:i<S.bd.length)(l:List Of):∃ u,Aj S C i l=gh C i u/\dI C i (S.bd.getD i mQ) u=0:=by
 unfold Aj
 by_cases g:dI C i (S.bd.getD i mQ) (iu S i l C.p).1=0
 ·rw[if_pos g]; exact⟨_,rfl,g⟩
 ·have:=PI hs ho h hov hi;rw[if_neg g,if_pos this]; exact⟨_,rfl,this⟩
theorem zo{L:List Lx}(h:FB S o C)(hov:C.ov=false):∀ k,k<=S.bd.length->FB S o (cN S L C k)/\(cN S L C k).ov=false/\(cN S L C k).p=C.p/\(cN S L C k).cl=C.cl/\∀ i,i<k->(cN S L C k).bd.getD i false=true/\(o.rule=2->(cN S L C k).ask.getD i z6=z6\/ei (mc C i++[⟨C.p,(cN S L C k).ask.getD i z6⟩])=true)
 | 0,_=>⟨h,hov,rfl,rfl,λ i hi=>by omega⟩
 | k+1,hk=>by
  obtain⟨h1,h2,h3,h4,h6⟩:=zo (L:=L) h hov k (by omega);have hk' : k<S.bd.length:=by omega
  obtain⟨u,e1,e2⟩:=J3 hs ho h1 h2 hk' ((L[k]?.map Lx.l).getD []);have eR:cN S L C (k+1)=gh (cN S L C k) k u:=e1;have la:k<(cN S L C k).ask.length:=by rw[h1.inv.ok.ask,h1.s]; exact hk'
  have lb:k<(cN S L C k).bd.length:=by rw[h1.inv.ok.bd,h1.s]; exact hk'
  have ech:mc (cN S L C k) k=mc C k:=by unfold mc; rw[h4]
  rw[eR];refine⟨⟨od h1.inv e2,h1.s,h1.o,h1.dp,h1.up,h1.bd,h1.cs⟩,h2,h3,h4,λ i hi=>?_⟩;show((cN S L C k).bd.set k true).getD i false=true/\(_->((cN S L C k).ask.set k u).getD i z6=z6\/ei (mc C i++[⟨C.p,((cN S L C k).ask.set k u).getD i z6⟩])=true)
  by_cases e:k=i
  ·subst e;have ea:((cN S L C k).ask.set k u).getD k z6=u:=by rw[List.getD_eq_getElem?_getD,List.getElem?_set,if_pos rfl,if_pos la]; rfl
   have eb:((cN S L C k).bd.set k true).getD k false=true:=by rw[List.getD_eq_getElem?_getD,List.getElem?_set,if_pos rfl,if_pos lb]; rfl
   rw[ea,eb];refine⟨rfl,λ hr2=>?_⟩;unfold dI at e2;rw[h2,h1.dp k,if_neg (by decide)] at e2
   split at e2
   ·rename_i hh; exact absurd e2 hh
   split at e2
   ·rename_i hh; exact absurd e2 hh
   rw[h1.o,hr2,BO,if_pos (by decide),ech,h3] at e2
   by_cases gu:u=z6
   ·exact .inl gu
   refine .inr ?_
   by_cases hex:oE (mc C k)=true
   ·simp[hex,gu] at e2
   by_cases hc:ei (mc C k++[⟨C.p,u⟩])=true
   ·exact hc
   ·simp[hex,Bv,hc] at e2
  ·have e3:((cN S L C k).ask.set k u).getD i z6=(cN S L C k).ask.getD i z6:=by rw[List.getD_eq_getElem?_getD,List.getElem?_set,if_neg e,<- List.getD_eq_getElem?_getD]
   have e4:((cN S L C k).bd.set k true).getD i false=(cN S L C k).bd.getD i false:=by rw[List.getD_eq_getElem?_getD,List.getElem?_set,if_neg e,<- List.getD_eq_getElem?_getD]
   rw[e3,e4];exact h6 i (by omega)
theorem Mu{L:List Lx}(hl:L.length=S.bd.length)(h:FB S o C)(hov:C.ov=false):FB S o (nu S L C):=by
 obtain⟨h1,h2,h3,h4,h6⟩:=zo hs ho (L:=L) h hov L.length (by omega);show FB S o (bz (cN S L C L.length));generalize cN S L C L.length=D at h1 h2 h3 h4 h6;have hup:∀ k,k<6->D.p.at' k<=(bz D).p.at' k:=λ k hk=>by
  show _<=(if bE D then D.p else (kr D).1).at' k
  split
  ·exact Int.le_refl _
  ·rename_i hl;have hl2:(kr D).2=0:=by
    unfold bE at hl;simp only[Bool.or_eq_true,not_or,decide_eq_true_eq,bne_iff_ne,ne_eq,Decidable.not_not] at hl;exact hl.2.2
   unfold kr tB at hl2 ⊢
   split
   ·rename_i hc; rw[if_pos hc] at hl2; exact absurd hl2 (by decide)
   ·rw[h1.o]; exact LV ho h1.inv.ok.p k hk
 refine⟨rE h1.inv h2,h1.s,h1.o,h1.dp,λ x hx k hk=>?_,λ x hx i hi=>?_,λ hr i hi=>?_⟩
 ·rcases List.mem_append.1 (show x∈D.cl++[Ff D] from hx) with hx|hx
  ·exact Int.le_trans (h1.up x hx k hk) (hup k hk)
  ·cases List.mem_singleton.1 hx; exact hup k hk
 ·rcases List.mem_append.1 (show x∈D.cl++[Ff D] from hx) with hx|hx
  ·exact h1.bd x hx i hi
  ·cases List.mem_singleton.1 hx; exact(h6 i (by omega)).1
 ·have hr:D.o.rule=2:=hr;rw[h1.o] at hr;have e:mc (bz D) i=mc D i++[⟨D.p,D.ask.getD i z6⟩]:=by
   show(D.cl++[Ff D]).map _=_;rw[List.map_append]; rfl
  rw[e,IJ];rcases(h6 i (by omega)).2 hr with h7|h7
  ·exact .inl (by rw[decide_eq_true_eq]; exact h7)
  ·refine .inr ?_;have ech:mc D i=mc C i:=by unfold mc; rw[h4]
   rw[ech,h3]; exact h7
end

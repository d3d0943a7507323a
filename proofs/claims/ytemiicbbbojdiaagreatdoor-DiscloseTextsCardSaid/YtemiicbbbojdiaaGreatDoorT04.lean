import Derived.Test.YtemiicbbbojdiaaGreatDoorProg
import Derived.KernelRfl
import Derived.LaidEql
import Derived.Test.YtemiicbbbojdiaaGreatDoorT01
import Derived.Test.YtemiicbbbojdiaaGreatDoorT03
set_option linter.unusedVariables false
set_option maxRecDepth 100000
noncomputable section
namespace Go.Proofs.YtemiicbbbojdiaaGreatDoor
open Go Go.Vc _root_.Go.Proofs.Tryz
theorem xT(a b:List UInt8):kY [a,b]=a++[32]++b++[10]:=by
  unfold kY;rw[Lib.join_cons];simp[Lib.joinTail]
theorem zx(a b c:List UInt8):kY [a,b,c]=a++[32]++b++[32]++c++[10]:=by
  unfold kY;rw[Lib.join_cons];simp[Lib.joinTail]
theorem xU(a b c d:List UInt8):kY [a,b,c,d]=a++[32]++b++[32]++c++[32]++d++[10]:=by
  unfold kY;rw[Lib.join_cons];simp[Lib.joinTail]
theorem uT{w:World}{a:Addr}{c:Ch}(h:aa w a 0 c.cells):aa w (a.add 6) 0 c.want.vs:=by
  obtain⟨_,_,_,_,_,_,h6,h7,h8,h9,h10,h11,_⟩:=h;exact⟨by rw[Addr.add_add]; exact h6,by rw[Addr.add_add]; exact h7,by rw[Addr.add_add]; exact h8,by rw[Addr.add_add]; exact h9,by rw[Addr.add_add]; exact h10,by rw[Addr.add_add]; exact h11,trivial⟩
set_option maxHeartbeats 2000000 in
theorem p9{w:World}{s:Se}{v:Vw}(hs:s.In w)(hv:v.Rd w)(hn:v.Ns)(hF:v.xq) :
    CP 26 #[.agg s.arr,v.val] w (λ r w'=>zJ s v r/\an w w' []):=by
  refine nV ?_;unfold o5;refine(St.start w).one.bX s.arr λ r1 w1 s1=>s1.bX v.vals.toArray λ r2 w2 s2=>?_;refine⟨_,_,_,_,_,_,_,_,_,_,_,_,s2.cellsIn 1 rfl,aD (nY (hs.au s2.au)) ?_⟩;rintro _ w3 ⟨⟨e,rfl,he⟩,c3⟩;have s3:=s2.quiet c3;refine⟨e,rfl,?_⟩
  by_cases h0:e=0
  rotate_left
  · exact cT (by simpa using h0) ⟨⟨[],rfl,.inr ⟨λ h=>h0 (he.2 h),rfl⟩⟩,s3.au⟩
  have hok:=he.1 h0;have ho:=hok.ps;have h6:=ho.l2;have hl1:=hF.l1; have hl2:=hF.l2; have hl3:=hF.l3;have i1:=vj hn.ph; have i2:=vj hn.rd;have s4:=s3.quiet (an.drew _ _);refine cF (by simp[h0]) ⟨v.ph,s4.af 0 rfl 0,v.rd,s4.af 0 rfl 1,aD (kL _ hn.ph) ?_⟩;rintro _ w5 ⟨rfl,c5⟩;have s5:=s4.quiet c5;refine⟨_,rfl,s5.af 0 rfl 1,(by simp only[bF,bI,List.length_cons,List.length_nil]; omega),(by simp only[ay,bF,bI,List.length_append,List.length_cons,List.length_nil]; omega),aD (kL _ hn.rd) ?_⟩;rintro _ w6 ⟨rfl,c6⟩;have s6:=s5.quiet c6;refine⟨_,rfl,(by simp only[ay,bF,bI,List.length_append,List.length_cons,List.length_nil]; omega),(by simp only[ay,bF,bI,List.length_append,List.length_cons,List.length_nil]; omega),λ t n w9 m=>∃ k:Nat,n=k/\t=bs (sx s.ps v k)/\k<=s.ps.length/\m=s.ps.length-k/\St w w9 (Sep [aG r2 v.vals.toArray 51,aG r1 s.arr 34,emp]),⟨s.ps.length,0,rfl,?_,by omega,by omega,s6⟩,?_⟩
  · simp only[ay]
    congr 1
    show _=kY _;rw[xU]; simp
  rintro w9 m t n ⟨k,rfl,rfl,hk,hm,s9⟩ -;have hP:=ja hn ho k;refine⟨λ b w10=>b=decide ((k:Int)<(s.ps.length:Int))/\St w w10 (Sep [aG r2 v.vals.toArray 51,aG r1 s.arr 34,emp]),?_,_,_,_,s9.af 1 rfl 0,?_⟩
  rotate_left
  · by_cases hlt:(k:Int)<(s.ps.length:Int)
    · exact cT (dT hlt) ⟨by rw[dT hlt]; exact dT (by omega),s9⟩
    · exact cF (dF hlt) ⟨(dF hlt).symm,s9⟩
  rintro w10 b ⟨rfl,s10⟩ -
  by_cases hlt:(k:Int)<(s.ps.length:Int)
  · have hx:s.ps[k]? = some (s.ps[k]'(by omega)):=gE (by omega);generalize s.ps[k]'(by omega)=x at hx;have hk6:k<6:=by omega
    have hnl:=iJ ho hx;have i3:=vj (hn.pr k hk6); have i4:=vj (hn.ex k hk6);have s11:=s10.quiet (an.drew _ _);obtain⟨_,q,hq,_⟩:=(hs.au s11.au).ps k x hx;have nmAt:∀ {w' : World},an w w' []->w'.cell? (q.add (k*5))=some (sv x.nm):=λ hc=>by
      obtain⟨_,q',hq',hcl⟩:=(hs.au hc).ps k x hx;rw[hq] at hq'; cases hq';have:=hcl.1
      rwa [Addr.add_add] at this
    refine cT (dT hlt) ⟨(by simp only[bF,bI,List.length_cons,List.length_nil]; omega),_,_,_,s11.af 1 rfl 0,bl hq ⟨by omega,by omega,bs x.nm,nmAt s11.au,(by simp only[ay,bF,bI,List.length_append,List.length_cons,List.length_nil]; omega),(by simp only[ay,bF,bI,List.length_append,List.length_cons,List.length_nil]; omega),by omega,by omega,v.pr.at' k,vF s11 0 rfl hk6,by omega,by omega,v.ex.at' k,pn s11 0 rfl hk6,aD (kL _ (hn.pr k hk6)) ?_⟩⟩;rintro _ w12 ⟨rfl,c12⟩;have s12:=s11.quiet c12;refine⟨_,rfl,pn s12 0 rfl hk6,nmAt s12.au,s12.af 1 rfl 0,(by simp only[ay,bF,bI,List.length_append,List.length_cons,List.length_nil]; omega),(by simp only[ay,bF,bI,List.length_append,List.length_cons,List.length_nil]; omega),aD (kL _ (hn.ex k hk6)) ?_⟩;rintro _ w13 ⟨rfl,c13⟩;have s13:=s12.quiet c13;refine⟨_,rfl,nmAt s13.au,s13.af 1 rfl 0,(by simp only[ay,bF,bI,List.length_append,List.length_cons,List.length_nil]; omega),(by simp only[ay,bF,bI,List.length_append,List.length_cons,List.length_nil]; omega),s.ps.length-(k+1),by omega,k+1,aH ⟨by omega,by omega⟩,?_,by omega,rfl,s13⟩;rw[jb hx];unfold xk;rw[xU];simp only[ay]
    congr 1
    simp
  · obtain rfl:k=s.ps.length:=by omega
    refine cF (dF hlt) ⟨λ t n w11 m=>∃ j:Nat,n=j/\t=bs (su s.ps v j)/\j<=v.own.length/\m=v.own.length-j/\St w w11 (Sep [aG r2 v.vals.toArray 51,aG r1 s.arr 34,emp]),⟨v.own.length,0,rfl,rfl,by omega,by omega,s10⟩,?_⟩;rintro w11 m t n ⟨j,rfl,rfl,hj,hm,s11⟩ -;have hO:=iY hn ho j;refine⟨_,_,_,s11.af 0 rfl 14,?_⟩
    by_cases hlt:(j:Int)<(v.own.length:Int)
    · have hx:v.own[j]? = some (v.own[j]'(by omega)):=gE (by omega);generalize v.own[j]'(by omega)=x at hx;have hfl:=gQ ho x.want;have s12:=s11.quiet (an.drew _ _);obtain⟨q,hq,hcl⟩:=(hv.au s12.au).own.at hx;refine cT (dT hlt) ⟨(by simp only[bF,bI,List.length_cons,List.length_nil]; omega),_,_,_,s12.af 1 rfl 0,_,_,_,s12.af 0 rfl 14,bl hq ⟨by omega,by omega,x.want,uT hcl,aD (gC (hs.au s12.au).ps ho x.want) ?_⟩⟩;rintro _ w13 ⟨rfl,c13⟩;have s13:=s12.quiet c13;refine⟨_,rfl,(by simp only[ay,bF,bI,List.length_append,List.length_cons,List.length_nil]; omega),(by simp only[ay,bF,bI,List.length_append,List.length_cons,List.length_nil]; omega),v.own.length-(j+1),by omega,j+1,aH ⟨by omega,by omega⟩,?_,by omega,rfl,s13⟩;rw[iZ hx];unfold xj;rw[xT];simp only[ay]
      congr 1
      simp
    · obtain rfl:j=v.own.length:=by omega
      refine cF (dF hlt) ⟨λ t n w12 m=>∃ i:Nat,n=i/\t=bs (qe s.ps v i)/\i<=v.dm.length/\m=v.dm.length-i/\St w w12 (Sep [aG r2 v.vals.toArray 51,aG r1 s.arr 34,emp]),⟨v.dm.length,0,rfl,rfl,by omega,by omega,s11⟩,?_⟩;rintro w12 m t n ⟨i,rfl,rfl,hi,hm,s12⟩ -;have hD:=kT hn ho hF i;refine⟨_,_,_,s12.af 0 rfl 15,?_⟩
      by_cases hlt:(i:Int)<(v.dm.length:Int)
      · have hx:v.dm[i]? = some (v.dm[i]'(by omega)):=gE (by omega);generalize v.dm[i]'(by omega)=b at hx;have hfl:=gQ ho b;have s13:=s12.quiet (an.drew _ _);obtain⟨q,hq,hcl⟩:=(hv.au s13.au).dm.at hx;refine cT (dT hlt) ⟨(by simp only[bF,bI,List.length_cons,List.length_nil]; omega),_,_,_,s13.af 1 rfl 0,_,_,_,s13.af 0 rfl 15,bl hq ⟨by omega,by omega,b,hcl,aD (gC (hs.au s13.au).ps ho b) ?_⟩⟩;rintro _ w14 ⟨rfl,c14⟩;have s14:=s13.quiet c14;refine⟨_,rfl,(by simp only[ay,bF,bI,List.length_append,List.length_cons,List.length_nil]; omega),λ t w15=>t++bs [10]=bs (qe s.ps v (i+1))/\t.size<=30000/\St w w15 (Sep [aG r2 v.vals.toArray 51,aG r1 s.arr 34,emp]),?_,_,_,_,s14.af 0 rfl 16,?_⟩
        · rintro w15 t ⟨ht,hz,s15⟩ -;exact⟨by rw[bF,bI]; simp only[List.length_cons,List.length_nil]; omega,v.dm.length-(i+1),by omega,i+1,aH ⟨by omega,by omega⟩,ht,by omega,rfl,s15⟩
        · rw[iX hx];unfold xh
          by_cases hnm:(i:Int)<(v.nm.length:Int)
          · have hy:v.nm[i]? = some (v.nm[i]'(by omega)):=gE (by omega);generalize v.nm[i]'(by omega)=y at hy;have hyl:=hF.nm y (List.mem_of_getElem? hy);obtain⟨q2,hq2,hc2⟩:=eZ (hv.au s14.au).nm hy;refine cT (dT hnm) ⟨(by simp only[ay,bF,bI,List.length_append,List.length_cons,List.length_nil]; omega),_,_,_,s14.af 0 rfl 16,bl hq2 ⟨by omega,by omega,bs y,hc2,(by simp only[ay,bF,bI,List.length_append,List.length_cons,List.length_nil]; omega),?_,(by simp only[ay,bF,List.length_append,List.length_cons,List.length_nil]; omega),s14⟩⟩;rw[hy];show _=bs (qe s.ps v i++kY [dw,j7 s.ps b,y]);rw[zx];simp only[ay]
            congr 1
            simp
          · have hy:v.nm[i]? = none:=List.getElem?_eq_none (by omega);refine cF (dF hnm) ⟨?_,(by simp only[ay,bF,List.length_append,List.length_cons,List.length_nil]; omega),s14⟩;rw[hy];show _=bs (qe s.ps v i++kY [dw,j7 s.ps b]);rw[xT];simp only[ay]
            congr 1
            simp
      · obtain rfl:i=v.dm.length:=by omega
        exact cF (dF hlt) ⟨⟨_,rfl,.inl ⟨hok,rfl⟩⟩,s12.au⟩
def lY(a:OA)(b c:Nat)(d:OA)(e f:Nat)(g:OA)(h i:Nat)(j:OA)(k l:Nat)(m n:Int)(o p:I6)(q:OA)(r s:Nat)(t:OA)(u v:Nat)(x:OA)(y z:Nat)(A:Int)(w:World)(K:KP):Prop:=aI w (.cells #[.slice a b c,.slice d e f,.slice g h i,.slice j k l] 34) λ a b=>aI b (.cells (iv m :: iv n :: o.on (p.on [.slice q r s,.slice t u v,.slice x y z]):List Value).toArray 44) λ b c=>∃ d:Bool->World->Prop,(∀ e f,d f e->∀ g:Nat->Value,cond f (Calls prog 9 #[] e λ f g=>∃ h,f=.returned (.bool h)/\K (.bool h) g) (∃ f:Int->World->Nat->Prop,(∃ g,f 0 e g)/\∀ e g h,f h e g->∀ i:Nat->Value,∃ i j k,e.cell? ⟨b,16,none⟩=some (.slice i j k)/\cond (decide (h<(j:Int))) (∃ i j k,e.cell? ⟨b,16,none⟩=some (.slice i j k)/\ah i λ i=>0<=h/\h<(j:Int)/\∃ j,e.cell? (Addr.add i ((h).toNat*1))=some (.string j)/\cond (decide (((j.size:Nat):Int)>(100:Int))) (Calls prog 9 #[] e λ i j=>∃ k,i=.returned (.bool k)/\K (.bool k) j) (∃ i,i<g/\f (IntKind.i64.wrap (h+1)) e i)) (∃ f g h i j k l m n o p q,aa e.drew ⟨a,0,none⟩ 0 [.slice f g h,.slice i j k,.slice l m n,.slice o p q]/\∃ (r s:Int) (t u:I6) (v:OA) (x y:Nat) (z:OA) (B C:Nat) (D:OA) (E F:Nat),aa e.drew ⟨b,0,none⟩ 0 (iv r :: iv s :: t.on (u.on [.slice v x y,.slice z B C,.slice D E F]))/\∃ G H I J L M N O P Q R S,aa e.drew ⟨a,0,none⟩ 0 [.slice G H I,.slice J L M,.slice N O P,.slice Q R S]/\∃ (T U:Int) (V W:I6) (X:OA) (Y Z:Nat) (a1:OA) (a2 a3:Nat) (a4:OA) (a5 a6:Nat),aa e.drew ⟨b,0,none⟩ 0 (iv T :: iv U :: V.on (W.on [.slice X Y Z,.slice a1 a2 a3,.slice a4 a5 a6]))/\Calls prog 25 #[.agg #[.slice f g h,.slice i j k,.slice l m n,.slice o p q],.agg (iv r :: iv s :: t.on (u.on [.slice v x y,.slice z B C,.slice D E F]):List Value).toArray] e.drew λ e f=>∃ g,e=.returned (.string g)/\aa f ⟨b,0,none⟩ 0 (iv T :: iv U :: V.on (W.on [.slice X Y Z,.slice a1 a2 a3,.slice a4 a5 a6]))/\aa f ⟨a,0,none⟩ 0 [.slice G H I,.slice J L M,.slice N O P,.slice Q R S]/\Calls prog 16 #[.agg (iv T :: iv U :: V.on (W.on [.slice X Y Z,.slice a1 a2 a3,.slice a4 a5 a6]):List Value).toArray] f λ e f=>∃ (h i:Int) (j k:I6) (l:OA) (m n:Nat) (o:OA) (p q:Nat) (r:OA) (s t:Nat),e=.returned (.agg (iv h :: iv i :: j.on (k.on [.slice l m n,.slice o p q,.slice r s t]):List Value).toArray)/\aa f ⟨a,0,none⟩ 0 [.slice G H I,.slice J L M,.slice N O P,.slice Q R S]/\Calls prog 26 #[.agg #[.slice G H I,.slice J L M,.slice N O P,.slice Q R S],.agg (iv h :: iv i :: j.on (k.on [.slice l m n,.slice o p q,.slice r s t]):List Value).toArray] f λ e f=>∃ h,e=.returned (.string h)/\cond (g.toList==h.toList) (Calls prog 28 #[iv A] f λ e g=>∃ h i j,e=.returned (.slice h i j)/\Calls prog 29 #[iv A] g λ e g=>∃ k l m,e=.returned (.slice k l m)/\Calls prog 27 #[.slice h i j,.slice k l m] g λ e g=>∃ h,e=.returned (.bool h)/\cond h (Calls prog 9 #[] g λ e h=>∃ i,e=.returned (.bool i)/\K (.bool i) h) (K (.bool false) g)) (K (.bool false) f))))/\∃ e f g,c.cell? ⟨b,14,none⟩=some (.slice e f g)/\cond (decide ((f:Int)>(20:Int))) (d true c) (∃ e f g,c.cell? ⟨b,15,none⟩=some (.slice e f g)/\cond (decide ((f:Int)>(20:Int))) (d true c) (∃ e f g,c.cell? ⟨b,16,none⟩=some (.slice e f g)/\cond (decide ((f:Int)>(20:Int))) (d true c) (∃ b e f,c.cell? ⟨a,0,none⟩=some (.slice b e f)/\cond (decide ((e:Int)>(8:Int))) (d true c) (∃ b e f,c.cell? ⟨a,1,none⟩=some (.slice b e f)/\d (decide ((e:Int)>(10:Int))) c))))
theorem lZ{a1 l1 c1 a2 l2 c2 a3 l3 c3 a4 l4 c4 n1 n2 u1 u2 a5 l5 c5 a6 l6 c6 a7 l7 c7 n3 w K}(h:lY a1 l1 c1 a2 l2 c2 a3 l3 c3 a4 l4 c4 n1 n2 u1 u2 a5 l5 c5 a6 l6 c6 a7 l7 c7 n3 w K):CP 6 #[.agg #[.slice a1 l1 c1,.slice a2 l2 c2,.slice a3 l3 c3,.slice a4 l4 c4],.agg (iv n1 :: iv n2 :: u1.on (u2.on [.slice a5 l5 c5,.slice a6 l6 c6,.slice a7 l7 c7]):List Value).toArray,iv n3] w (K):=ai (aZ [(6,[(35,.s .bool)]),(58,[(7,.s (.int .i64))])]) func6 (by kernel_rfl) (by kernel_rfl) h
theorem uJ{w:World}{a1:OA}{c1:Nat}{a2:OA}{c2:Nat}{l1 l2:List (List UInt8)}(h1:jg 1 sT w a1 l1)(h2:jg 1 sT w a2 l2)(hl:l1.length<=1000000) :
    CP 27 #[.slice a1 l1.length c1,.slice a2 l2.length c2] w (λ r w'=>(∃ b:Bool,r=.bool b/\(b=true<->l1=l2))/\an w w' []):=by
  refine jm ?_;unfold iP
  by_cases hle:l1.length=l2.length
  rotate_left
  · exact cT (by simpa using λ h=>hle (by omega)) ⟨⟨false,rfl,λ h=>(by cases h),λ h=>absurd (congrArg List.length h) hle⟩,an.refl _ _⟩
  refine cF (by simp[hle]) ⟨λ n w' m=>∃ k:Nat,n=k/\k<=l1.length/\m=l1.length-k/\l1.take k=l2.take k/\an w w' [],⟨l1.length,0,rfl,by omega,by omega,rfl,an.refl _ _⟩,?_⟩;rintro w1 m n ⟨k,rfl,hk,hm,ht,hc⟩ -
  by_cases hlt:(k:Int)<(l1.length:Int)
  · have hx:l1[k]? = some (l1[k]'(by omega)):=gE (by omega);generalize l1[k]'(by omega)=x at hx;have hy:l2[k]? = some (l2[k]'(by omega)):=gE (by omega);generalize l2[k]'(by omega)=y at hy;have hd:an w w1.drew []:=hc.trans (an.drew w1 []) (by simp);obtain⟨q1,hq1,hc1⟩:=eZ (jg.au h1 hd) hx;obtain⟨q2,hq2,hc2⟩:=eZ (jg.au h2 hd) hy;refine cT (dT hlt) (bl hq1 ⟨by omega,by omega,bs x,hc1,bl hq2 ⟨by omega,by omega,bs y,hc2,?_⟩⟩)
    by_cases hxy:x=y
    · subst hxy;exact cF (by simp) ⟨l1.length-(k+1),by omega,k+1,aH ⟨by omega,by omega⟩,by omega,rfl,by rw[cj hx,cj hy,ht],hd⟩
    · exact cT (by rw[gO,gO]; simpa using hxy) ⟨⟨false,rfl,λ h=>(by cases h),λ h=>absurd (by rw[h] at hx; exact Option.some.inj (hx.symm.trans hy)) hxy⟩,hd⟩
  · obtain rfl:k=l1.length:=by omega
    exact cF (dF hlt) ⟨⟨true,rfl,λ _=>by rw[List.take_length,List.take_of_length_le (by omega)] at ht; exact ht,λ _=>rfl⟩,hc⟩
theorem xb{w0 w:World}{l:List aQ}{r:Nat}{T:TypeId}{v:Vw}(h:St w0 w (Sep l))(i:Nat)(e:l[i]? = some (aG r v.vals.toArray T)):aa w ⟨r,2,none⟩ 0 v.pr.vs:=h.lG i 2 e rfl
theorem wZ{w0 w:World}{l:List aQ}{r:Nat}{T:TypeId}{v:Vw}(h:St w0 w (Sep l))(i:Nat)(e:l[i]? = some (aG r v.vals.toArray T)):aa w ⟨r,8,none⟩ 0 v.ex.vs:=h.lG i 8 e rfl
theorem wY(v:Vw)(w:World):CP 16 #[v.val] w (λ r w'=>r=v.val/\an w w' []):=by
  refine qT ?_;unfold vk;refine(St.start w).one.bX v.vals.toArray λ r1 w1 s1=>s1.bX _ λ r2 w2 s2=>?_;exact⟨v.ph,s2.af 1 rfl 0,v.rd,s2.af 1 rfl 1,v.pr,xb s2 1 rfl,v.ex,wZ s2 1 rfl,_,_,_,s2.af 1 rfl 14,_,_,_,s2.af 1 rfl 15,_,_,_,s2.af 1 rfl 16,s2.bP 0 rfl v.vals rfl v.one λ w3 s3=>⟨v.ph,v.rd,v.pr,v.ex,_,_,_,_,_,_,_,_,_,s3.cellsIn 0 rfl,rfl,s3.au⟩⟩
abbrev kU:List UInt8:=[101,120,99,101,115,115]
abbrev dM:List UInt8:=[100,101,109,97,110,100,115]
abbrev ec:List UInt8:=[110,97,109,101,115]
def lU(n:Int):List (List UInt8):=if n=0 then [kU,dM,ec] else if n=1 then [ec] else if n=2 then [dM,ec] else []
theorem qQ(n:Int):(lU n).length<=1000000:=by
  unfold lU
  repeat' split
  all_goals decide
theorem ug(n:Int)(w:World):CP 28 #[iv n] w (λ r w'=>∃ a c,r=.slice a (lU n).length c/\jg 1 sT w' a (lU n)/\an w w' []):=by
  refine p5 ?_;unfold rB;unfold lU
  by_cases h0:n=0
  · rw[if_pos h0];exact cT (by simpa using h0) ((St.start w).one.bX _ λ r1 w1 s1=>⟨_,_,rfl,(ck s1 0 rfl (xs:=[kU,dM,ec]) rfl (by decide)).rd cY,s1.au⟩)
  rw[if_neg h0];refine cF (by simpa using h0) ?_
  by_cases h1:n=1
  · rw[if_pos h1];exact cT (by simpa using h1) ((St.start w).one.bX _ λ r1 w1 s1=>⟨_,_,rfl,(ck s1 0 rfl (xs:=[ec]) rfl (by decide)).rd cY,s1.au⟩)
  rw[if_neg h1];refine cF (by simpa using h1) ?_
  by_cases h2:n=2
  · rw[if_pos h2];exact cT (by simpa using h2) ((St.start w).one.bX _ λ r1 w1 s1=>⟨_,_,rfl,(ck s1 0 rfl (xs:=[dM,ec]) rfl (by decide)).rd cY,s1.au⟩)
  rw[if_neg h2];exact cF (by simpa using h2) ⟨none,0,rfl,λ i x hx=>by simp at hx,an.refl _ _⟩
theorem rL(n:Int)(w:World):CP 29 #[iv n] w (λ r w'=>∃ a c,r=.slice a (lU n).length c/\jg 1 sT w' a (lU n)/\an w w' []):=by
  refine p6 ?_;unfold rH;unfold lU
  by_cases h0:n=0
  · rw[if_pos h0];exact cT (by simpa using h0) ((St.start w).one.bX _ λ r1 w1 s1=>⟨_,_,rfl,(ck s1 0 rfl (xs:=[kU,dM,ec]) rfl (by decide)).rd cY,s1.au⟩)
  rw[if_neg h0];refine cF (by simpa using h0) ?_
  by_cases h1:n=1
  · rw[if_pos h1];exact cT (by simpa using h1) ((St.start w).one.bX _ λ r1 w1 s1=>⟨_,_,rfl,(ck s1 0 rfl (xs:=[ec]) rfl (by decide)).rd cY,s1.au⟩)
  rw[if_neg h1];refine cF (by simpa using h1) ?_
  by_cases h2:n=2
  · rw[if_pos h2];exact cT (by simpa using h2) ((St.start w).one.bX _ λ r1 w1 s1=>⟨_,_,rfl,(ck s1 0 rfl (xs:=[dM,ec]) rfl (by decide)).rd cY,s1.au⟩)
  rw[if_neg h2];exact cF (by simpa using h2) ⟨none,0,rfl,λ i x hx=>by simp at hx,an.refl _ _⟩
theorem uP(aw:∀ w,CP 9 #[] w (λ r w'=>r=.bool true/\an w w' [])){w:World}{s:Se}{v:Vw}(kind:Int)(hs:s.In w)(hv:v.Rd w)(hn:v.Ns)(ht:sE w) :
    CP 6 #[.agg s.arr,v.val,iv kind] w (λ r w'=>r=.bool true/\an w w' []):=by
  refine lZ ?_;unfold lY;refine(St.start w).one.bX s.arr λ r1 w1 s1=>s1.bX v.vals.toArray λ r2 w2 s2=>?_;let Q:World->Prop:=λ w'=>St w w' (Sep [aG r2 v.vals.toArray 44,aG r1 s.arr 34,emp]);have fin:∀ {w' : World},an w w' []->Calls prog 9 #[] w' (λ e w''=>∃ b,e=.returned (.bool b)/\(Value.bool b=.bool true/\an w w'' [])):=λ hc=>aD (aw _) λ v w'' ⟨h1,h2⟩=>by subst h1; exact⟨true,rfl,rfl,hc.trans h2 (by simp)⟩
  refine⟨λ b w3=>(b=false->v.own.length<=20/\v.dm.length<=20/\v.nm.length<=20)/\Q w3,?_,_,_,_,s2.af 0 rfl 14,?_⟩
  rotate_left
  · by_cases g1:(v.own.length:Int)>20
    · exact cT (dT g1) ⟨λ h=>(by cases h),s2⟩
    refine cF (dF g1) ⟨_,_,_,s2.af 0 rfl 15,?_⟩
    by_cases g2:(v.dm.length:Int)>20
    · exact cT (dT g2) ⟨λ h=>(by cases h),s2⟩
    refine cF (dF g2) ⟨_,_,_,s2.af 0 rfl 16,?_⟩
    by_cases g3:(v.nm.length:Int)>20
    · exact cT (dT g3) ⟨λ h=>(by cases h),s2⟩
    refine cF (dF g3) ⟨_,_,_,s2.af 1 rfl 0,?_⟩
    by_cases g4:(s.ps.length:Int)>8
    · exact cT (dT g4) ⟨λ h=>(by cases h),s2⟩
    exact cF (dF g4) ⟨_,_,_,s2.af 1 rfl 1,λ _=>⟨by omega,by omega,by omega⟩,s2⟩
  rintro w3 b ⟨hb,s3⟩ -
  cases b with
  | true=>exact cT rfl (fin s3.au)
  | false =>
  obtain⟨l1,l2,l3⟩:=hb rfl;refine cF rfl ⟨λ n w' m=>∃ k:Nat,n=k/\k<=v.nm.length/\m=v.nm.length-k/\(∀ j y,j<k->v.nm[j]? = some y->y.length<=100)/\Q w',⟨v.nm.length,0,rfl,by omega,by omega,λ j y hj=>by omega,s3⟩,?_⟩;rintro w4 m n ⟨k,rfl,hk,hm,ha,s4⟩ -;refine⟨_,_,_,s4.af 0 rfl 16,?_⟩
  by_cases hlt:(k:Int)<(v.nm.length:Int)
  · have hx:v.nm[k]? = some (v.nm[k]'(by omega)):=gE (by omega);generalize v.nm[k]'(by omega)=x at hx;obtain⟨q,hq,hc⟩:=eZ (hv.au s4.au).nm hx;refine cT (dT hlt) ⟨_,_,_,s4.af 0 rfl 16,bl hq ⟨by omega,by omega,bs x,hc,?_⟩⟩
    by_cases h100:x.length<=100
    · refine cF (dF (by rw[bF]; omega)) ⟨v.nm.length-(k+1),by omega,k+1,aH ⟨by omega,by omega⟩,by omega,rfl,λ j y hj hy=>?_,s4⟩;rcases Nat.lt_or_ge j k with h' | h'
      · exact ha j y h' hy
      · obtain rfl:j=k:=by omega
        rw[hx] at hy; cases hy; exact h100
    · exact cT (dT (by rw[bF]; omega)) (fin s4.au)
  obtain rfl:k=v.nm.length:=by omega
  have hF:v.xq:=⟨l1,l2,l3,λ x hx=>by
    obtain⟨i,hi,rfl⟩:=List.mem_iff_getElem.1 hx;exact ha i _ hi (gE hi)⟩
  have s5:=s4.quiet (an.drew _ _);refine cF (dF hlt) ⟨_,_,_,_,_,_,_,_,_,_,_,_,s5.cellsIn 1 rfl,v.ph,v.rd,v.pr,v.ex,_,_,_,_,_,_,_,_,_,s5.cellsIn 0 rfl,_,_,_,_,_,_,_,_,_,_,_,_,s5.cellsIn 1 rfl,v.ph,v.rd,v.pr,v.ex,_,_,_,_,_,_,_,_,_,s5.cellsIn 0 rfl,aD (pJ (hs.au s5.au) (hv.au s5.au) hn hF (ht.au s5.au)) ?_⟩;rintro _ w6 ⟨⟨t1,rfl,ht1⟩,c6⟩;have s6:=s5.quiet c6;refine⟨_,rfl,s6.cellsIn 0 rfl,s6.cellsIn 1 rfl,aD (wY v w6) ?_⟩;rintro _ w7 ⟨rfl,c7⟩;have s7:=s6.quiet c7;refine⟨v.ph,v.rd,v.pr,v.ex,_,_,_,_,_,_,_,_,_,rfl,s7.cellsIn 1 rfl,aD (p9 (hs.au s7.au) (hv.au s7.au) hn hF) ?_⟩;rintro _ w8 ⟨⟨t2,rfl,ht2⟩,c8⟩;obtain rfl:=xu.uniq ht1 ht2;have s8:=s7.quiet c8;refine⟨_,rfl,cT (by simp) (aD (ug kind w8) ?_)⟩;rintro _ w9 ⟨a1,k1,rfl,f1,c9⟩;have s9:=s8.quiet c9;refine⟨_,_,_,rfl,aD (rL kind w9) ?_⟩;rintro _ w10 ⟨a2,k2,rfl,f2,c10⟩;have s10:=s9.quiet c10;refine⟨_,_,_,rfl,aD (uJ (jg.au f1 c10) f2 (qQ kind)) ?_⟩;rintro _ w11 ⟨⟨b,rfl,hb⟩,c11⟩;have hb:=hb.2 rfl;subst hb;exact⟨true,rfl,cT rfl (fin (s10.quiet c11).au)⟩
end Go.Proofs.YtemiicbbbojdiaaGreatDoor
namespace Go.Proofs.YtemiicbbbojdiaaGreatDoor
open Go Go.Vc Go.RowKit Go.Deep _root_.Go.Proofs.Tryz
theorem tf:prog.cellsOf 89=5:=by kernel_rfl
theorem sS:prog.cellsOf 92=4:=by kernel_rfl
theorem sV:prog.cellsOf 95=3:=by kernel_rfl
theorem sQ:prog.cellsOf 98=3:=by kernel_rfl
theorem tg:prog.cellsOf 34=4:=by kernel_rfl
theorem th:prog.cellsOf 44=17:=by kernel_rfl
theorem sU:prog.cellsOf 78=12:=by kernel_rfl
theorem gP:prog.cellsOf 37=6:=by kernel_rfl
theorem s0:prog.cellsOf 29=1:=by kernel_rfl
theorem sX:prog.cellsOf 30=1:=by kernel_rfl
theorem sY:prog.cellsOf 31=1:=by kernel_rfl
theorem sW:prog.cellsOf 32=1:=by kernel_rfl
theorem sZ:prog.cellsOf 40=1:=by kernel_rfl
theorem td:prog.cellsOf 41=1:=by kernel_rfl
theorem tc:prog.cellsOf 42=1:=by kernel_rfl
theorem kA{w:World}{d:Nat}{cs:List Value}(h:cw prog w (d+1) 9 cs):∃ s:List UInt8,cs=[sv s]:=by
  unfold cw at h;simp only[underlying9] at h;obtain⟨s,rfl,_⟩:=h;exact⟨s.data.toList,rfl⟩
theorem wL{w:World}{cs:List Value}(h:cw prog w 4 89 cs)(hl:cs.length=5):∃ p:Pr,cs=p.cells/\p.In:=by
  match cs,hl with
  | [x0,x1,x2,x3,x4],_ =>
    have q0:cw prog w 3 9 (([x0,x1,x2,x3,x4].drop 0).take (prog.cellsOf 9)):=av h underlying89 0 _ rfl;have q1:cw prog w 3 3 (([x0,x1,x2,x3,x4].drop 1).take (prog.cellsOf 3)):=av h underlying89 1 _ rfl;have q2:cw prog w 3 2 (([x0,x1,x2,x3,x4].drop 2).take (prog.cellsOf 2)):=av h underlying89 2 _ rfl;have q3:cw prog w 3 3 (([x0,x1,x2,x3,x4].drop 3).take (prog.cellsOf 3)):=av h underlying89 3 _ rfl;have q4:cw prog w 3 3 (([x0,x1,x2,x3,x4].drop 4).take (prog.cellsOf 3)):=av h underlying89 4 _ rfl;rw[j0] at q0; rw[fq] at q1 q3 q4; rw[fH] at q2;obtain⟨s,e0⟩:=kA q0;obtain⟨n1,e1,i1⟩:=bD q1 underlying3;obtain⟨n2,e2,i2⟩:=bD q2 underlying2;obtain⟨n3,e3,i3⟩:=bD q3 underlying3;obtain⟨n4,e4,i4⟩:=bD q4 underlying3;simp at e0 e1 e2 e3 e4;subst e0 e1 e2 e3 e4;exact⟨⟨s,n1,n2,n3,n4⟩,rfl,i1,i2,i3,i4⟩
theorem wJ{w:World}{cs:List Value}(h:cw prog w 4 92 cs)(hl:cs.length=4):∃ p:Br,cs=p.cells/\p.In:=by
  match cs,hl with
  | [x0,x1,x2,x3],_ =>
    have q0:cw prog w 3 9 (([x0,x1,x2,x3].drop 0).take (prog.cellsOf 9)):=av h underlying92 0 _ rfl;have q1:cw prog w 3 3 (([x0,x1,x2,x3].drop 1).take (prog.cellsOf 3)):=av h underlying92 1 _ rfl;have q2:cw prog w 3 2 (([x0,x1,x2,x3].drop 2).take (prog.cellsOf 2)):=av h underlying92 2 _ rfl;have q3:cw prog w 3 3 (([x0,x1,x2,x3].drop 3).take (prog.cellsOf 3)):=av h underlying92 3 _ rfl;rw[j0] at q0; rw[fq] at q1 q3; rw[fH] at q2;obtain⟨s,e0⟩:=kA q0;obtain⟨n1,e1,i1⟩:=bD q1 underlying3;obtain⟨n2,e2,i2⟩:=bD q2 underlying2;obtain⟨n3,e3,i3⟩:=bD q3 underlying3;simp at e0 e1 e2 e3;subst e0 e1 e2 e3;exact⟨⟨s,n1,n2,n3⟩,rfl,i1,i2,i3⟩
theorem ru{w:World}{t:Nat}{cs:List Value}{fs:Array Field}(h:cw prog w 4 t cs)(hu:prog.underlying t=some (.struct fs)){g0 g1 g2:Field}(f0:fs[0]? = some g0)(f1:fs[1]? = some g1)(f2:fs[2]? = some g2)(z:g0.offset=0/\g0.type=3/\g1.offset=1/\g1.type=3/\g2.offset=2/\g2.type=3)(hl:cs.length=3):∃ p:T3,cs=p.cells:=by
  match cs,hl with
  | [x0,x1,x2],_ =>
    obtain⟨z0,y0,z1,y1,z2,y2⟩:=z;have q0:=av h hu 0 _ f0;have q1:=av h hu 1 _ f1;have q2:=av h hu 2 _ f2;rw[z0,y0] at q0; rw[z1,y1] at q1; rw[z2,y2] at q2;rw[fq] at q0 q1 q2;obtain⟨n0,e0,_⟩:=bD q0 underlying3;obtain⟨n1,e1,_⟩:=bD q1 underlying3;obtain⟨n2,e2,_⟩:=bD q2 underlying3;simp at e0 e1 e2;subst e0 e1 e2;exact⟨⟨n0,n1,n2⟩,rfl⟩
theorem dW{w:World}{t e sz:Nat}{α:Type}{f:α->List Value}{I:α->Prop}{cs:List Value}(h:cw prog w 5 t cs)(hu:prog.underlying t=some (.slice e))(hs:prog.cellsOf e=sz)(k:∀ cs',cw prog w 4 e cs'->cs'.length=sz->∃ x,cs' = f x/\I x):∃ (a:OA) (c:Nat) (l:List α),cs=[.slice a l.length c]/\l.length<=c/\∀ i x,l[i]? = some x->I x/\∃ q,a=some q/\aa w (q.add (i*sz)) 0 (f x):=by
  obtain⟨a,n,c,rfl,hc,_,_,hi⟩:=pW h hu;obtain⟨L,h1,h2⟩:=oK (Q:=λ i (x:α)=>I x/\∃ q,a=some q/\aa w (q.add (i*sz)) 0 (f x)) (l:=n) λ i hl=>by
    obtain⟨q,cs',ha,hlen,hcl,ho⟩:=hi i hl;rw[hs] at hlen hcl;obtain⟨x,rfl,hx⟩:=k cs' ho hlen;exact⟨x,hx,q,ha,hcl⟩
  exact⟨a,c,L,by rw[h1],by omega,h2⟩
theorem uA{w:World}{cs:List Value}(h:cw prog w 6 34 cs):∃ s:Se,cs=s.arr.toList/\s.In w:=by
  have hlen:cs.length=4:=by
    have h':=h;unfold cw at h';simp only[underlying34] at h';rw[<- tg]; exact h'.1
  match cs,hlen with
  | [x0,x1,x2,x3],_ =>
    have q0:cw prog w 5 29 (([x0,x1,x2,x3].drop 0).take (prog.cellsOf 29)):=av h underlying34 0 _ rfl;have q1:cw prog w 5 30 (([x0,x1,x2,x3].drop 1).take (prog.cellsOf 30)):=av h underlying34 1 _ rfl;have q2:cw prog w 5 31 (([x0,x1,x2,x3].drop 2).take (prog.cellsOf 31)):=av h underlying34 2 _ rfl;have q3:cw prog w 5 32 (([x0,x1,x2,x3].drop 3).take (prog.cellsOf 32)):=av h underlying34 3 _ rfl;rw[s0] at q0; rw[sX] at q1; rw[sY] at q2; rw[sW] at q3;obtain⟨a1,c1,l1,e1,h1,r1⟩:=dW (f:=Pr.cells) (I:=Pr.In) q0 underlying29 tf λ cs' ho hl=>wL ho hl;obtain⟨a2,c2,l2,e2,h2,r2⟩:=dW (f:=Br.cells) (I:=Br.In) q1 underlying30 sS λ cs' ho hl=>wJ ho hl;obtain⟨a3,c3,l3,e3,h3,r3⟩:=dW (f:=T3.cells) (I:=λ _=>True) q2 underlying31 sV λ cs' ho hl=>let ⟨p,hp⟩:=ru ho underlying95 rfl rfl rfl ⟨rfl,rfl,rfl,rfl,rfl,rfl⟩ hl; ⟨p,hp,trivial⟩;obtain⟨a4,c4,l4,e4,h4,r4⟩:=dW (f:=T3.cells) (I:=λ _=>True) q3 underlying32 sQ λ cs' ho hl=>let ⟨p,hp⟩:=ru ho underlying98 rfl rfl rfl ⟨rfl,rfl,rfl,rfl,rfl,rfl⟩ hl; ⟨p,hp,trivial⟩;simp at e1 e2 e3 e4;subst e1 e2 e3 e4;exact⟨⟨l1,l2,l3,l4,a1,c1,a2,c2,a3,c3,a4,c4⟩,rfl,r1,r2,λ i p hp=>(r3 i p hp).2,λ i p hp=>(r4 i p hp).2,h1,h2,h3,h4⟩
theorem wR{ns:List Int}(hl:ns.length=6)(hI:∀ n∈ns,In n):∃ u:I6,ns.map iv=u.vs/\∀ k,k<6->In (u.at' k):=by
  match ns,hl with
  | [n0,n1,n2,n3,n4,n5],_ =>
    refine⟨⟨n0,n1,n2,n3,n4,n5⟩,rfl,λ k hk=>?_⟩
    match k,hk with
    | 0,_=>exact hI n0 (by simp)
    | 1,_=>exact hI n1 (by simp)
    | 2,_=>exact hI n2 (by simp)
    | 3,_=>exact hI n3 (by simp)
    | 4,_=>exact hI n4 (by simp)
    | 5,_=>exact hI n5 (by simp)
theorem fM{w:World}{d t e:Nat}{cs:List Value}(h:cw prog w (d+2) t cs)(hu:prog.underlying t=some (.array 6 e))(he:prog.underlying e=some (.int .i64))(hc:prog.cellsOf t=6)(h1:prog.cellsOf e=1):∃ u:I6,cs=u.vs/\∀ k,k<6->In (u.at' k):=by
  obtain⟨ns,rfl,hl,hI⟩:=uC h hu he hc h1;exact wR hl hI
theorem wK{w:World}{cs:List Value}(h:cw prog w 4 78 cs)(hl:cs.length=12):∃ c:Ch,cs=c.cells/\True:=by
  have q0:cw prog w 3 37 ((cs.drop 0).take (prog.cellsOf 37)):=av h underlying78 0 _ rfl;have q1:cw prog w 3 39 ((cs.drop 6).take (prog.cellsOf 39)):=av h underlying78 1 _ rfl;rw[gP] at q0; rw[eT] at q1;obtain⟨u,e0,_⟩:=fM q0 underlying37 underlying2 gP fH;obtain⟨v,e1,_⟩:=fM q1 underlying39 underlying3 eT fq;refine⟨⟨u,v⟩,?_,trivial⟩;have e2:cs=(cs.drop 0).take 6++(cs.drop 6).take 6:=by
    rw[List.drop_zero]
    conv=>lhs; rw[<- List.take_append_drop 6 cs]
    rw[List.take_of_length_le (l:=cs.drop 6) (by rw[List.length_drop]; omega)]
  rw[e2,e0,e1]; rfl
theorem uB{w:World}{cs:List Value}(h:cw prog w 6 44 cs):∃ v:Vw,cs=v.vals/\v.Rd w/\v.Ns:=by
  have hlen:cs.length=17:=by
    have h':=h;unfold cw at h';simp only[underlying44] at h';rw[<- th]; exact h'.1
  have q0:cw prog w 5 3 ((cs.drop 0).take (prog.cellsOf 3)):=av h underlying44 0 _ rfl;have q1:cw prog w 5 3 ((cs.drop 1).take (prog.cellsOf 3)):=av h underlying44 1 _ rfl;have q2:cw prog w 5 37 ((cs.drop 2).take (prog.cellsOf 37)):=av h underlying44 2 _ rfl;have q3:cw prog w 5 39 ((cs.drop 8).take (prog.cellsOf 39)):=av h underlying44 3 _ rfl;have q4:cw prog w 5 40 ((cs.drop 14).take (prog.cellsOf 40)):=av h underlying44 4 _ rfl;have q5:cw prog w 5 41 ((cs.drop 15).take (prog.cellsOf 41)):=av h underlying44 5 _ rfl;have q6:cw prog w 5 42 ((cs.drop 16).take (prog.cellsOf 42)):=av h underlying44 6 _ rfl;rw[fq] at q0 q1; rw[gP] at q2; rw[eT] at q3; rw[sZ] at q4; rw[td] at q5; rw[tc] at q6;obtain⟨n0,e0,i0⟩:=bD q0 underlying3;obtain⟨n1,e1,i1⟩:=bD q1 underlying3;obtain⟨u,e2,i2⟩:=fM q2 underlying37 underlying2 gP fH;obtain⟨v,e3,i3⟩:=fM q3 underlying39 underlying3 eT fq;obtain⟨a4,c4,l4,e4,_,r4⟩:=dW (f:=Ch.cells) (I:=λ _=>True) q4 underlying40 sU λ cs' ho hl=>wK ho hl;obtain⟨a5,c5,l5,e5,_,r5⟩:=dW (f:=I6.vs) (I:=λ _=>True) q5 underlying41 eT λ cs' ho hl=>let ⟨x,hx,_⟩:=fM ho underlying39 underlying3 eT fq; ⟨x,hx,trivial⟩;obtain⟨a6,c6,l6,e6,_,r6⟩:=dW (f:=sT) (I:=λ _=>True) q6 underlying42 j0 λ cs' ho hl=>let ⟨x,hx⟩:=kA ho; ⟨x,hx,trivial⟩;refine⟨⟨n0,n1,u,v,l4,a4,c4,l5,a5,c5,l6,a6,c6⟩,?_,⟨?_,?_,?_⟩,⟨i0,i1,i2,i3⟩⟩
  · have e7:cs=(cs.drop 0).take 1++((cs.drop 1).take 1++((cs.drop 2).take 6++((cs.drop 8).take 6++((cs.drop 14).take 1++((cs.drop 15).take 1++(cs.drop 16).take 1))))):=by
      match cs,hlen with
      | [x0,x1,x2,x3,x4,x5,x6,x7,x8,x9,x10,x11,x12,x13,x14,x15,x16],_=>rfl
    rw[e7,e0,e1,e2,e3,e4,e5,e6]; rfl
  · exact λ i x hx=>let ⟨_,q,hq,hc⟩:=r4 i x hx; ⟨q,_,hq,hc,rfl,rfl⟩
  · exact λ i x hx=>let ⟨_,q,hq,hc⟩:=r5 i x hx; ⟨q,_,hq,hc,rfl,rfl⟩
  · exact λ i x hx=>let ⟨_,q,hq,hc⟩:=r6 i x hx; ⟨q,_,hq,hc,rfl,rfl⟩
end Go.Proofs.YtemiicbbbojdiaaGreatDoor
namespace Go.Proofs.YtemiicbbbojdiaaGreatDoor
open Go Go.Vc Go.ChangeShapes Go.WideShapes Go.ChangeAt Go.RowKit _root_.Go.Proofs.Tryz
theorem own:ownKnob prog.godebug=none:=by kernel_rfl
theorem laidOut:laidOutB prog=true:=by kernel_rfl
theorem zU:mapsRowed prog=true:=by kernel_rfl
theorem zV:(prog.stops==[])=true:=by kernel_rfl
theorem zW:(prog.stopKnobs==[])=true:=by kernel_rfl
theorem zF:prog.stopsHeard=true:=by kernel_rfl
theorem zG:prog.mayEnter=true:=by kernel_rfl
theorem zX:true=Tryz.pinned.checked.prog.looks []:=by kernel_rfl
theorem qm{w w' : World}(h:an w w' []):Below w.heap.size w w':=⟨h.env.os,h.env.tape,h.env.out,h.size,λ k hk=>h.same k hk (by simp)⟩
theorem mc(P:Program)(laid:List (String×DataW Unit))(w:World)(h:(laid.all λ x=>x.2.handleName?.isNone)=true):laidMetH P laid w=laidMet P laid w:=by
  have e:(laid.filter λ x=>x.2.handleName?.isSome)=[]:=by
    rw[List.filter_eq_nil_iff];intro x hx hs;have:=List.all_eq_true.1 h x hx;rw[Option.isNone_iff_eq_none] at this;rw[this] at hs
    cases hs
  unfold laidMetH;rw[e]
def fj:List (String×DataW Unit):=Rows.discloseTextsRow.laid.filter λ x=>x.2.handleName?.isNone
def dH(os:Os):World:=(World.holding prog os ⟨#[],#[],[]⟩).layVars prog fj
theorem ki(os:Os):(dH os).os=os:=(World.layVars_os _ _ _).trans rfl
theorem pQ(os:Os)(args:Array Value):laidMet prog fj ((dH os).forCall (λ _ _=>0) ⟨#[],args,[]⟩).memory:=by
  have e1:(fj.filter λ x=>(fj.map (·.1)).contains x.1)=fj:=List.filter_eq_self.2 λ x hx=>List.contains_iff_mem.2 (List.mem_map.2 ⟨x,hx,rfl⟩);have e2:(fj.filter λ x=>!(fj.map (·.1)).contains x.1)=[]:=List.filter_eq_nil_iff.2 λ x hx=>by rw[List.contains_iff_mem.2 (List.mem_map.2 ⟨x,hx,rfl⟩)]; simp
  have h:laidMet prog fj (dH os):=laidMet_layVars (w0:=World.holding prog os ⟨#[],#[],[]⟩) (fj.map (·.1)) [] (by rw[e1]; rfl) (by rw[e1]; kernel_rfl) (by rw[e1]; kernel_rfl) (by rw[e2]; exact LaidIn.none);exact h.of_heap (by simp[World.memory,World.forCall,Input.heap])
theorem iK:(Rows.discloseTextsRow.laid.all λ x=>x.2.handleName?.isNone)=true:=by kernel_rfl
theorem jk(os:Os)(args:Array Value):laidMetH prog Rows.discloseTextsRow.laid ((dH os).forCall (λ _ _=>0) ⟨#[],args,[]⟩).memory:=by
  rw[mc _ _ _ iK];have e:fj=Rows.discloseTextsRow.laid:=List.filter_eq_self.2 (List.all_eq_true.1 iK);rw[<- e]; exact pQ os args
theorem wX{W:World}(h:laidMetH prog Rows.discloseTextsRow.laid W):sE W:=by
  rw[mc _ _ _ iK] at h;have h2:laidMet prog (("internal/strconv.uint64pow10",Lib.tabData .u64 Lib.pow10Tab) :: Rows.discloseTextsRow.laid.drop 3) W:=by
    have:=h.tail.tail;exact this
  exact Lib.tabIs_of_head (g:=0) (by kernel_rfl) (by kernel_rfl) (t:=209) (e:=69) (n:=20) (by kernel_rfl) (by kernel_rfl) (by kernel_rfl) (by kernel_rfl) h2
end Go.Proofs.YtemiicbbbojdiaaGreatDoor
namespace Go.Gx
open Go Go.Vc
inductive Tr (α:Type) where
  | leaf (l:List (Nat×α))
  | node (a b:Tr α)
def look{α:Type}(l:List (Nat×α)):Nat->Option α :=
  List.rec (motive:=λ _=>Nat->Option α) (λ _=>none) (λ p _ ih i=>Bool.rec (motive:=λ _=>Option α) (ih i) (some p.2) (Nat.beq p.1 i)) l
def pS{α:Type}(l:List (Nat×α)):Nat->α->List (Nat×α) :=
  List.rec (motive:=λ _=>Nat->α->List (Nat×α)) (λ i v=>[(i,v)]) (λ p l ih i v=>Bool.rec (motive:=λ _=>List (Nat×α)) (Bool.rec (motive:=λ _=>List (Nat×α)) (p :: ih i v) ((i,v) :: p :: l) (Nat.ble i p.1)) ((i,v) :: l) (Nat.beq p.1 i)) l
def Tr.get{α:Type}(t:Tr α):Nat->Option α :=
  Tr.rec (motive:=λ _=>Nat->Option α) (λ l=>look l) (λ _ _ iha ihb i=>Bool.rec (motive:=λ _=>Option α) (ihb (Nat.div i 2)) (iha (Nat.div i 2)) (Nat.beq (Nat.mod i 2) 0)) t
def Tr.put{α:Type}(t:Tr α):Nat->α->Tr α :=
  Tr.rec (motive:=λ _=>Nat->α->Tr α) (λ l i v=>.leaf (pS l i v)) (λ a b iha ihb i v=>Bool.rec (motive:=λ _=>Tr α) (.node a (ihb (Nat.div i 2) v)) (.node (iha (Nat.div i 2) v) b) (Nat.beq (Nat.mod i 2) 0)) t
theorem look_nil{α:Type}(i:Nat):look ([]:List (Nat×α)) i=none:=rfl
theorem cM{α:Type}(p:Nat×α)(l:List (Nat×α))(i:Nat):look (p :: l) i=cond (Nat.beq p.1 i) (some p.2) (look l i):=by
  show Bool.rec (motive:=λ _=>Option α) (look l i) (some p.2) (Nat.beq p.1 i)=_
  cases Nat.beq p.1 i<;>rfl
theorem qX{α:Type}(i:Nat)(v:α):pS [] i v=[(i,v)]:=rfl
theorem pT{α:Type}(p:Nat×α)(l:List (Nat×α))(i:Nat)(v:α):pS (p :: l) i v=cond (Nat.beq p.1 i) ((i,v) :: l) (cond (Nat.ble i p.1) ((i,v) :: p :: l) (p :: pS l i v)):=by
  show Bool.rec (motive:=λ _=>List (Nat×α)) (Bool.rec (motive:=λ _=>List (Nat×α)) (p :: pS l i v) ((i,v) :: p :: l) (Nat.ble i p.1)) ((i,v) :: l) (Nat.beq p.1 i)=_
  cases Nat.beq p.1 i<;>cases Nat.ble i p.1<;>rfl
theorem Tr.ez{α:Type}(a b:Tr α)(i:Nat):(Tr.node a b).get i=cond (Nat.beq (Nat.mod i 2) 0) (a.get (Nat.div i 2)) (b.get (Nat.div i 2)):=by
  show Bool.rec (motive:=λ _=>Option α) (b.get (Nat.div i 2)) (a.get (Nat.div i 2)) (Nat.beq (Nat.mod i 2) 0)=_
  cases Nat.beq (Nat.mod i 2) 0<;>rfl
theorem Tr.rG{α:Type}(a b:Tr α)(i:Nat)(v:α):(Tr.node a b).put i v=cond (Nat.beq (Nat.mod i 2) 0) (.node (a.put (Nat.div i 2) v) b) (.node a (b.put (Nat.div i 2) v)):=by
  show Bool.rec (motive:=λ _=>Tr α) (.node a (b.put (Nat.div i 2) v)) (.node (a.put (Nat.div i 2) v) b) (Nat.beq (Nat.mod i 2) 0)=_
  cases Nat.beq (Nat.mod i 2) 0<;>rfl
def Tr.full{α:Type}:Nat->Tr α
  | 0=>.leaf []
  | n+1=>.node (Tr.full n) (Tr.full n)
theorem beq_iff{a b:Nat}:Nat.beq a b=true<->a=b:=⟨Nat.eq_of_beq_eq_true,λ h=>h▸Nat.beq_refl a⟩
theorem jV{a b:Nat}(h:a≠b):Nat.beq a b=false:=by
  cases hb:Nat.beq a b with
  | false=>rfl
  | true=>exact absurd (beq_iff.1 hb) h
theorem jC{α:Type}:∀ (l:List (Nat×α)) (i:Nat) (v:α) (j:Nat),look (pS l i v) j=if j=i then some v else look l j
  | [],i,v,j=>by
    rw[qX,cM]
    by_cases h:j=i
    · subst h; simp[Nat.beq_refl]
    · simp[look_nil,h,jV (Ne.symm h)]
  | p :: l,i,v,j=>by
    rw[pT]
    cases hb:Nat.beq p.1 i with
    | true =>
      have:=beq_iff.1 hb
      by_cases h:j=i
      · subst h; simp[cM,Nat.beq_refl]
      · simp[cM,h,jV (Ne.symm h),this]
    | false =>
      simp only[cond_false]
      cases Nat.ble i p.1 with
      | true =>
        by_cases h:j=i
        · subst h; simp[cM,Nat.beq_refl]
        · simp[cM,h,jV (Ne.symm h)]
      | false =>
        simp only[cond_false,cM];rw[jC l i v j]
        by_cases h:j=i
        · subst h; simp[hb]
        · simp[h]
theorem oG{i j:Nat}(hm:Nat.mod j 2=Nat.mod i 2):Nat.div j 2=Nat.div i 2<->j=i:=by
  refine⟨λ h=>?_,λ h=>by rw[h]⟩;have h1:j%2=i%2:=hm;have h2:j / 2=i / 2:=h;omega
theorem vo(i:Nat):Nat.mod i 2=0\/Nat.mod i 2=1:=by
  have:i%2=0\/i%2=1:=by omega
  exact this
theorem aL{α:Type}:∀ (t:Tr α) (i:Nat) (v:α) (j:Nat),(t.put i v).get j=if j=i then some v else t.get j
  | .leaf l,i,v,j=>jC l i v j
  | .node a b,i,v,j=>by
    rw[Tr.rG];rcases vo i with hi | hi<;>rcases vo j with hj | hj
    · have e:Nat.beq (Nat.mod i 2) 0=true:=beq_iff.2 hi;have e' : Nat.beq (Nat.mod j 2) 0=true:=beq_iff.2 hj;rw[e];simp only[cond_true,Tr.ez,e',aL a]
      by_cases h:j=i
      · simp[h]
      · have:=(not_congr (oG (hj.trans hi.symm))).2 h;simp[h,this]
    · have e:Nat.beq (Nat.mod i 2) 0=true:=beq_iff.2 hi;have e' : Nat.beq (Nat.mod j 2) 0=false:=by rw[hj]; rfl
      rw[e];have h:j≠i:=λ h=>by rw[h,hi] at hj; cases hj
      simp[Tr.ez,e',h]
    · have e:Nat.beq (Nat.mod i 2) 0=false:=by rw[hi]; rfl
      have e' : Nat.beq (Nat.mod j 2) 0=true:=beq_iff.2 hj;rw[e];have h:j≠i:=λ h=>by rw[h,hi] at hj; cases hj
      simp[Tr.ez,e',h]
    · have e:Nat.beq (Nat.mod i 2) 0=false:=by rw[hi]; rfl
      have e' : Nat.beq (Nat.mod j 2) 0=false:=by rw[hj]; rfl
      rw[e];simp only[cond_false,Tr.ez,e',aL b]
      by_cases h:j=i
      · simp[h]
      · have:=(not_congr (oG (hj.trans hi.symm))).2 h;simp[h,this]
theorem ey{α:Type}:∀ (n i:Nat),(Tr.full n:Tr α).get i=none
  | 0,_=>rfl
  | n+1,i=>by
    unfold Tr.full;rw[Tr.ez,ey n]
    cases Nat.beq (Nat.mod i 2) 0<;>rfl
inductive AV where
  | int (k:IntKind) (n:Int)
  | bool (b:Bool)
  | str (l:List UInt8)
  | nilp
  | ptr (i o:Nat)
  | nils
  | sli (i o l z:Nat)
  | nili
  | iface (T:TypeId) (v:AV)
  | nilf
  | fn (f:FuncId) (x y:List AV)
  | yld (i:Nat)
  | agg (cs:List AV)
  | tup (vs:List AV)
structure Loc where
  b:Nat
  esz:Nat
  tot:Nat
abbrev Names:=Nat->Option Loc
mutual
def rv(ρ:Names):AV->Option Value
  | .int k n=>some (.int k n)
  | .bool b=>some (.bool b)
  | .str l=>some (.string ⟨l.toArray⟩)
  | .nilp=>some (.pointer none)
  | .ptr i o=>(ρ i).map λ L=>.pointer (some ⟨L.b,o,none⟩)
  | .nils=>some (.slice none 0 0)
  | .sli i o l z=>(ρ i).bind λ L=>if o+l<=L.tot/\L.esz=z then some (.slice (some ⟨L.b,o*z,none⟩) l (L.tot-o)) else none
  | .nili=>some .nilIface
  | .iface T v=>(rv ρ v).map (.iface T)
  | .nilf=>some .nilFunc
  | .fn f x y=>match bz ρ x,bz ρ y with
    | some xs,some ys=>some (.func (.func f) xs.toArray ys.toArray)
    | _,_=>none
  | .yld i=>(ρ i).map λ L=>.func (.yield L.b) #[] #[]
  | .agg cs=>(bz ρ cs).map λ l=>.agg l.toArray
  | .tup vs=>(bz ρ vs).map λ l=>.tuple l.toArray
def bz(ρ:Names):List AV->Option (List Value)
  | []=>some []
  | a :: l=>match rv ρ a,bz ρ l with
    | some v,some vs=>some (v :: vs)
    | _,_=>none
end
def Ext(ρ σ:Names):Prop:=∀ i L,ρ i=some L->σ i=some L
theorem Ext.refl(ρ:Names):Ext ρ ρ:=λ _ _ h=>h
theorem Ext.trans{ρ σ τ:Names}(h:Ext ρ σ)(k:Ext σ τ):Ext ρ τ:=λ i L hi=>k i L (h i L hi)
mutual
theorem kP{ρ σ:Names}(hx:Ext ρ σ):∀ {a:AV} {v:Value},rv ρ a=some v->rv σ a=some v
  | .int _ _,_,h=>h
  | .bool _,_,h=>h
  | .str _,_,h=>h
  | .nilp,_,h=>h
  | .nils,_,h=>h
  | .nili,_,h=>h
  | .nilf,_,h=>h
  | .ptr i o,v,h=>by
    simp only[rv,Option.map_eq_some_iff] at h ⊢;obtain⟨L,hL,rfl⟩:=h;exact⟨L,hx _ _ hL,rfl⟩
  | .yld i,v,h=>by
    simp only[rv,Option.map_eq_some_iff] at h ⊢;obtain⟨L,hL,rfl⟩:=h;exact⟨L,hx _ _ hL,rfl⟩
  | .sli i o l z,v,h=>by
    simp only[rv,Option.bind_eq_some_iff] at h ⊢;obtain⟨L,hL,h⟩:=h;exact⟨L,hx _ _ hL,h⟩
  | .iface T a,v,h=>by
    simp only[rv,Option.map_eq_some_iff] at h ⊢;obtain⟨u,hu,rfl⟩:=h;exact⟨u,kP hx hu,rfl⟩
  | .fn f x y,v,h=>by
    simp only[rv] at h ⊢
    cases hx' : bz ρ x with
    | none=>rw[hx'] at h; cases h
    | some xs =>
      cases hy:bz ρ y with
      | none=>rw[hx',hy] at h; cases h
      | some ys =>
        rw[hx',hy] at h;rw[aY hx hx',aY hx hy];exact h
  | .agg cs,v,h=>by
    simp only[rv,Option.map_eq_some_iff] at h ⊢;obtain⟨l,hl,rfl⟩:=h;exact⟨l,aY hx hl,rfl⟩
  | .tup cs,v,h=>by
    simp only[rv,Option.map_eq_some_iff] at h ⊢;obtain⟨l,hl,rfl⟩:=h;exact⟨l,aY hx hl,rfl⟩
theorem aY{ρ σ:Names}(hx:Ext ρ σ):∀ {l:List AV} {vs:List Value},bz ρ l=some vs->bz σ l=some vs
  | [],_,h=>h
  | a :: l,vs,h=>by
    simp only[bz] at h ⊢
    cases ha:rv ρ a with
    | none=>rw[ha] at h; cases h
    | some v =>
      cases hl:bz ρ l with
      | none=>rw[ha,hl] at h; cases h
      | some us =>
        rw[ha,hl] at h;rw[kP hx ha,aY hx hl];exact h
end
theorem aq{ρ:Names}{a:AV}{l:List AV}{vs:List Value}(h:bz ρ (a :: l)=some vs):∃ v us,vs=v :: us/\rv ρ a=some v/\bz ρ l=some us:=by
  simp only[bz] at h
  cases ha:rv ρ a with
  | none=>rw[ha] at h; cases h
  | some v =>
    cases hl:bz ρ l with
    | none=>rw[ha,hl] at h; cases h
    | some us=>rw[ha,hl] at h; cases h; exact⟨v,us,rfl,rfl,rfl⟩
theorem bN{ρ:Names}{a:AV}{l:List AV}{v:Value}{us:List Value}(h1:rv ρ a=some v)(h2:bz ρ l=some us):bz ρ (a :: l)=some (v :: us):=by
  simp only[bz,h1,h2]
theorem aF{ρ:Names}:∀ {l:List AV} {vs:List Value},bz ρ l=some vs->vs.length=l.length
  | [],_,h=>by cases h; rfl
  | a :: l,vs,h=>by
    obtain⟨v,us,rfl,_,h2⟩:=aq h;simp[aF h2]
theorem fQ{ρ:Names}:∀ {l:List AV} {vs:List Value} {i:Nat} {a:AV},bz ρ l=some vs->l[i]? = some a->∃ v,vs[i]? = some v/\rv ρ a=some v
  | [],_,_,_,_,h=>by simp at h
  | b :: l,vs,i,a,h,hi=>by
    obtain⟨v,us,rfl,h1,h2⟩:=aq h
    cases i with
    | zero=>simp at hi; subst hi; exact⟨v,rfl,h1⟩
    | succ i =>
      have hi' : l[i]? = some a:=by simpa using hi
      obtain⟨x,hx,hr⟩:=fQ h2 hi';exact⟨x,by simpa using hx,hr⟩
theorem dr{ρ:Names}:∀ {l m:List AV} {vs us:List Value},bz ρ l=some vs->bz ρ m=some us->bz ρ (l++m)=some (vs++us)
  | [],_,_,_,h,k=>by cases h; exact k
  | a :: l,m,vs,us,h,k=>by
    obtain⟨v,ws,rfl,h1,h2⟩:=aq h;exact bN h1 (dr h2 k)
theorem eG{ρ:Names}:∀ {l:List AV} {vs:List Value} (n:Nat),bz ρ l=some vs->bz ρ (l.take n)=some (vs.take n)
  | [],_,_,h=>by cases h; simp[bz]
  | a :: l,vs,0,h=>rfl
  | a :: l,vs,n+1,h=>by
    obtain⟨v,ws,rfl,h1,h2⟩:=aq h;exact bN h1 (eG n h2)
theorem iU{ρ:Names}:∀ {l:List AV} {vs:List Value} (n:Nat),bz ρ l=some vs->bz ρ (l.drop n)=some (vs.drop n)
  | [],_,_,h=>by cases h; simp[bz]
  | a :: l,vs,0,h=>h
  | a :: l,vs,n+1,h=>by
    obtain⟨v,ws,rfl,_,h2⟩:=aq h;exact iU n h2
structure AO where
  T:TypeId
  cells:List AV
  ro:Bool
abbrev AH:=Tr (Option AO)
def eI(ρ:Names)(i:Nat)(L:Loc):Names:=λ j=>if j=i then some L else ρ j
structure Live (ρ:Names) (w0 w:World) (i:Nat) (ao:AO) (L:Loc) (cur:Array Value) (vs:List Value):Prop where
  at_:ρ i=some L
  new:w0.heap.size<=L.b
  blk:∃ fz,w.heap[L.b]? = some (.cells cur ao.T fz)/\(ao.ro=false->fz=(0,0))
  val:bz ρ ao.cells=some vs
  here:cur.toList.take vs.length=vs
  room:L.tot*L.esz=cur.size
  most:L.tot<=maxLen
structure bQ (w0 w:World) (ρ:Names) (h:AH):Prop where
  au:an w0 w []
  dom:∀ (i:Nat) (L:Loc),ρ i=some L->∃ x,h.get i=some x
  live:∀ (i:Nat) (ao:AO),h.get i=some (some ao)->∃ L cur vs,Live ρ w0 w i ao L cur vs
  inj:∀ (i j:Nat) (ao ao' : AO) (L L' : Loc),i≠j->h.get i=some (some ao)->h.get j=some (some ao')->ρ i=some L->ρ j=some L'->L.b≠L'.b
theorem Live.cell{ρ:Names}{w0 w:World}{i:Nat}{ao:AO}{L:Loc}{cur:Array Value}{vs:List Value}(h:Live ρ w0 w i ao L cur vs){o:Nat}{a:AV}(ho:ao.cells[o]? = some a) :
    ∃ v,rv ρ a=some v/\w.cell? ⟨L.b,o,none⟩=some v:=by
  obtain⟨v,hv,ha⟩:=fQ h.val ho;refine⟨v,ha,?_⟩;obtain⟨fz,hblk,_⟩:=h.blk;rw[cP,hblk,b9,<- Array.getElem?_toList];have h1:(cur.toList.take vs.length)[o]? = some v:=by rw[h.here]; exact hv
  rw[List.getElem?_take] at h1
  split at h1
  · exact h1
  · cases h1
theorem bQ.rewrite{w0 w w' : World}{ρ:Names}{h:AH}(hr:bQ w0 w ρ h){i:Nat}{ao:AO}(hi:h.get i=some (some ao)){L:Loc}(hL:ρ i=some L){cells:List AV}{cur' : Array Value}{vs' : List Value}(hc:an w w' [L.b])(hb:w'.heap[L.b]? = some (.cells cur' ao.T (0,0)))(hv:bz ρ cells=some vs')(hh:cur'.toList.take vs'.length=vs')(hs:L.tot*L.esz=cur'.size) :
    bQ w0 w' ρ (h.put i (some { ao with cells:=cells })):=by
  obtain⟨L1,cur,vs,hl⟩:=hr.live i ao hi;obtain rfl:L=L1:=Option.some.inj (hL.symm.trans hl.at_);have get:∀ {x:Nat} {ax:AO},(h.put i (some { ao with cells:=cells })).get x=some (some ax)->∃ ax',h.get x=some (some ax'):=λ {x ax} hx=>by
    rw[aL] at hx
    split at hx
    · rename_i e; subst e; exact⟨ao,hi⟩
    · exact⟨ax,hx⟩
  refine⟨hr.au.trans hc (λ x hx=>.inr (by simp at hx; subst hx; exact hl.new)),λ j Lj hj=>?_,λ j aj hj=>?_,λ j k aj ak Lj Lk hjk hj hk hLj hLk=>?_⟩
  · rw[aL]
    split
    · exact⟨_,rfl⟩
    · exact hr.dom j Lj hj
  · by_cases hji:j=i
    · subst hji;rw[aL,if_pos rfl] at hj
      cases hj
      exact⟨L,cur',vs',hl.at_,hl.new,⟨_,hb,λ _=>rfl⟩,hv,hh,hs,hl.most⟩
    · rw[aL,if_neg hji] at hj;obtain⟨L2,cur2,vs2,hl2⟩:=hr.live j aj hj;refine⟨L2,cur2,vs2,hl2.at_,hl2.new,?_,hl2.val,hl2.here,hl2.room,hl2.most⟩;have:=hr.inj j i aj ao L2 L hji hj hi hl2.at_ hL;obtain⟨fz,hblk,hfz⟩:=hl2.blk;exact⟨fz,hc.keep hblk (by simpa using this),hfz⟩
  · obtain⟨aj',hj'⟩:=get hj;obtain⟨ak',hk'⟩:=get hk;exact hr.inj j k aj' ak' Lj Lk hjk hj' hk' hLj hLk
theorem aR{w0 w:World}{ρ:Names}{h:AH}(hr:bQ w0 w ρ h){i:Nat}(hi:h.get i=none):ρ i=none:=by
  cases hρ:ρ i with
  | none=>rfl
  | some L=>obtain⟨x,hx⟩:=hr.dom i L hρ; rw[hi] at hx; cases hx
theorem Ext.eI{ρ:Names}{i:Nat}{L:Loc}(h:ρ i=none):Ext ρ (eI ρ i L):=λ j L' hj=>by
  unfold Gx.eI;rw[if_neg (λ e=>by rw[e,h] at hj; cases hj)];exact hj
theorem bQ.below{w0 w:World}{ρ:Names}{h:AH}(hr:bQ w0 w ρ h){j:Nat}{ao:AO}{L:Loc}(hj:h.get j=some (some ao))(hL:ρ j=some L):L.b<w.heap.size:=by
  obtain⟨L1,cur,vs,hl⟩:=hr.live j ao hj;obtain rfl:L=L1:=Option.some.inj (hL.symm.trans hl.at_);obtain⟨fz,hblk,_⟩:=hl.blk;exact fu hblk
theorem bQ.kM{w0 w w' : World}{ρ:Names}{h:AH}(hr:bQ w0 w ρ h){F:List Nat}(hc:an w w' F)(hF:∀ f∈F,w0.heap.size<=f/\∀ (j:Nat) (ao:AO) (L:Loc),h.get j=some (some ao)->ρ j=some L->L.b≠f):bQ w0 w' ρ h :=
  ⟨hr.au.trans hc (λ f hf=>.inr (hF f hf).1),hr.dom,λ i ao hi=>by
    obtain⟨L,cur,vs,hl⟩:=hr.live i ao hi;obtain⟨fz,hblk,hfz⟩:=hl.blk;exact⟨L,cur,vs,hl.at_,hl.new,⟨fz,hc.keep hblk (λ hf=>(hF _ hf).2 i ao L hi hl.at_ rfl),hfz⟩,hl.val,hl.here,hl.room,hl.most⟩,hr.inj⟩
theorem bQ.name{w0 w:World}{ρ:Names}{h:AH}(hr:bQ w0 w ρ h){i:Nat}(hi:h.get i=none){L:Loc}{T:TypeId}{cells:List AV}{cur:Array Value}{vs:List Value}{ro:Bool}{fz:Nat×Nat}(hnew:w0.heap.size<=L.b)(hb:w.heap[L.b]? = some (.cells cur T fz))(hfz:ro=false->fz=(0,0))(hno:∀ (j:Nat) (ao:AO) (L' : Loc),h.get j=some (some ao)->ρ j=some L'->L'.b≠L.b)(hv:bz (eI ρ i L) cells=some vs)(hh:cur.toList.take vs.length=vs)(hs:L.tot*L.esz=cur.size)(hm:L.tot<=maxLen) :
    bQ w0 w (eI ρ i L) (h.put i (some ⟨T,cells,ro⟩)):=by
  have hρ:=aR hr hi;have hx:Ext ρ (eI ρ i L):=Ext.eI hρ;refine⟨hr.au,λ j Lj hj=>?_,λ j aj hj=>?_,λ j k aj ak Lj Lk hjk hj hk hLj hLk=>?_⟩
  · rw[aL]
    split
    · exact⟨_,rfl⟩
    · rename_i e;unfold Gx.eI at hj;rw[if_neg e] at hj;exact hr.dom j Lj hj
  · by_cases hji:j=i
    · subst hji;rw[aL,if_pos rfl] at hj
      cases hj
      exact⟨L,cur,vs,by simp[Gx.eI],hnew,⟨fz,hb,hfz⟩,hv,hh,hs,hm⟩
    · rw[aL,if_neg hji] at hj;obtain⟨L2,cur2,vs2,hl2⟩:=hr.live j aj hj;exact⟨L2,cur2,vs2,hx _ _ hl2.at_,hl2.new,hl2.blk,aY hx hl2.val,hl2.here,hl2.room,hl2.most⟩
  · have side:∀ {k:Nat} {ak:AO} {Lk:Loc},(h.put i (some ⟨T,cells,ro⟩)).get k=some (some ak)->eI ρ i L k=some Lk->(k≠i/\h.get k=some (some ak)/\ρ k=some Lk)\/(k=i/\Lk=L):=λ {k ak Lk} hk hLk=>by
      by_cases hki:k=i
      · subst hki;simp[Gx.eI] at hLk;exact .inr ⟨rfl,hLk.symm⟩
      · rw[aL,if_neg hki] at hk;simp[Gx.eI,hki] at hLk;exact .inl ⟨hki,hk,hLk⟩
    rcases side hj hLj with⟨h1,h2,h3⟩ | ⟨h1,h2⟩<;>rcases side hk hLk with⟨k1,k2,k3⟩ | ⟨k1,k2⟩
    · exact hr.inj j k aj ak Lj Lk hjk h2 k2 h3 k3
    · subst k2; exact hno j aj Lj h2 h3
    · subst h2; exact(hno k ak Lk k2 k3).symm
    · exact absurd (h1.trans k1.symm) hjk
theorem bQ.new{w0 w w' : World}{ρ:Names}{h:AH}(hr:bQ w0 w ρ h){i:Nat}(hi:h.get i=none){L:Loc}{T:TypeId}{cells:List AV}{cur:Array Value}{vs:List Value}{ro:Bool}{fz:Nat×Nat}(hc:an w w' [])(hb:w'.heap[L.b]? = some (.cells cur T fz))(hfz:ro=false->fz=(0,0))(hn:w.heap.size<=L.b)(hv:bz (eI ρ i L) cells=some vs)(hh:cur.toList.take vs.length=vs)(hs:L.tot*L.esz=cur.size)(hm:L.tot<=maxLen) :
    bQ w0 w' (eI ρ i L) (h.put i (some ⟨T,cells,ro⟩)) :=
  (hr.kM hc (by simp)).name hi (Nat.le_trans hr.au.size hn) hb hfz (λ j ao L' hj hL=>by have:=hr.below hj hL; omega) hv hh hs hm
theorem bQ.alloc{w0 w:World}{ρ:Names}{h:AH}(hr:bQ w0 w ρ h){i:Nat}(hi:h.get i=none){T:TypeId}{cells:List AV}{vs:List Value}(hv:bz ρ cells=some vs){esz tot:Nat}(hs:tot*esz=vs.length)(hm:tot<=maxLen) :
    bQ w0 (w.alloc (.cells vs.toArray T)) (eI ρ i ⟨w.heap.size,esz,tot⟩) (h.put i (some ⟨T,cells,false⟩)) :=
  hr.new hi (an.new w _ []) (by rw[eA,if_pos rfl]) (λ _=>rfl) (Nat.le_refl _) (aY (Ext.eI (aR hr hi)) hv) (by simp) (by simpa using hs) hm
theorem bQ.si{w0 w:World}{ρ:Names}{h:AH}(hr:bQ w0 w ρ h)(i:Nat):bQ w0 w ρ (h.put i none):=by
  have get:∀ {x:Nat} {ax:AO},(h.put i none).get x=some (some ax)->h.get x=some (some ax):=λ {x ax} hx=>by
    rw[aL] at hx
    split at hx
    · cases hx
    · exact hx
  exact⟨hr.au,λ j Lj hj=>by
    rw[aL]
    split
    · exact⟨_,rfl⟩
    · exact hr.dom j Lj hj,λ j aj hj=>hr.live j aj (get hj),λ j k aj ak Lj Lk hjk hj hk hLj hLk=>hr.inj j k aj ak Lj Lk hjk (get hj) (get hk) hLj hLk⟩
theorem bQ.quiet{w0 w w' : World}{ρ:Names}{h:AH}(hr:bQ w0 w ρ h)(hc:an w w' []):bQ w0 w' ρ h :=
  ⟨hr.au.trans hc (by simp),hr.dom,λ i ao hi=>by
    obtain⟨L,cur,vs,hl⟩:=hr.live i ao hi;obtain⟨fz,hblk,hfz⟩:=hl.blk;exact⟨L,cur,vs,hl.at_,hl.new,⟨fz,hc.keep hblk (by simp),hfz⟩,hl.val,hl.here,hl.room,hl.most⟩,hr.inj⟩
def mg(P:Program)(K:Value->List Deferred->World->Prop):Next->World->Prop
  | .value v,w=>K v [] w
  | .skip,w=>K undef [] w
  | .defer d,w=>K undef [d] w
  | .enter f args,w=>Calls P f args w λ e w'=>∃ v,e=.returned v/\K v [] w'
  | .round l f tmps assign body,w=>RoundIn Fence.wide 0 P l f tmps assign body w λ e w'=>∃ v,e=.returned v/\K v [] w'
  | _,_=>False
def qh(P:Program)(o:Oper)(t:Tm)(w:World)(K:Value->List Deferred->World->Prop):Prop:=∃ n w',(execOp (ev t) o).run P w=.ok n w'/\mg P K n w'
def zS(P:Program)(o:Oper)(t:Tm)(w:World)(K:Value->List (World->Prop)->Prop):Prop:=∃ v T,K v T/\holds T w/\∀ w',holds T w'->(execOp (ev t) o).run P w' = .ok (.value v) w'
theorem qd{ro:Option Nat}{o:Oper}(hd:ro=none\/bp o.op=true)(r:Operand->Value):o.semAt (FW ro).round r=execOp r o:=by
  rcases hd with rfl | hd
  · rfl
  · exact Oper.semAt_eq _ _ _ (cc hd)
theorem rq{P:Program}{ro:Option Nat}{o:Oper}{t:Tm}{d:List Deferred}{w:World}{K:Value->List Deferred->World->Prop}{N:Act->World->Prop}{Q:Exit->Act->World->Prop}(hd:ro=none\/bp o.op=true)(hN:∀ v nd w',K v nd w'->N (bO (pt t o.dst v) (nd++d)) w')(h:qh P o t w K):o.wpIn (FW ro) 0 P (bO t d) w N Q:=by
  obtain⟨n,w',hr,hk⟩:=h;refine⟨λ _ _=>trivial,?_⟩;rw[qd hd,bU,hr]
  cases n<;>simp only[mg] at hk<;>simp only[Oper.uponIn]
  · rw[aX]; exact hN _ _ _ hk
  · rw[aX]; exact hN _ _ _ hk
  · rename_i f args;refine⟨λ h=>(by cases h),?_⟩;have h1:CallsIn Fence.wide 0 P _ _ w' _:=callsIn_wide.2 hk;refine CallsIn.mono (show CallsIn (FW ro) 0 P _ _ w' _ from h1) λ e w'' he=>?_;obtain⟨v,rfl,hv⟩:=he;show N ((bO t d).put o.dst v) w'';rw[aX];exact hN _ _ _ hv
  · refine⟨λ h=>(by cases h),RoundIn.mono (show RoundIn (FW ro) 0 P _ _ _ _ _ w' _ from hk) λ e w'' he=>?_⟩;obtain⟨v,rfl,hv⟩:=he;show N ((bO t d).put o.dst v) w'';rw[aX];exact hN _ _ _ hv
  · rename_i dd;have:({ (bO t d) with defers:=dd :: (bO t d).defers }:Act)=bO t (dd :: d):=rfl;rw[this,aX];exact hN _ _ _ hk
def fN(P:Program)(ops:Array Oper):List Oper->Tm->List Deferred->World->(Tm->List Deferred->World->Prop)->Prop
  | [],t,d,w,K=>K t d w
  | o :: rest,t,d,w,K=>gd ops t o (λ t=>qh P o t w λ v nd w'=>fN P ops rest (pt t o.dst v) (nd++d) w' K) (λ t=>fN P ops rest (pt t o.dst undef) d w K)
theorem gV{P:Program}{ro:Option Nat}{ops:Array Oper}{Q:Exit->Act->World->Prop}:∀ (l:List Oper) (t:Tm) (d:List Deferred) (w:World) (K:Tm->List Deferred->World->Prop),
    (ro=none\/bh l=true)->(∀ t d w,K t d w->Q .normal (bO t d) w)->fN P ops l t d w K->wpListIn (FW ro) 0 P ops Q l (bO t d) w
  | [],t,d,w,K,_,hK,h=>hK _ _ _ h
  | o :: rest,t,d,w,K,hn,hK,h=>by
    have hn1:ro=none\/bp o.op=true:=hn.imp id λ h=>by simp only[bh,List.all_cons,Bool.and_eq_true] at h; exact h.1
    have hn2:ro=none\/bh rest=true:=hn.imp id λ h=>by simp only[bh,List.all_cons,Bool.and_eq_true] at h; exact h.2
    unfold wpListIn;rcases dS (dd:=d) h with⟨hw,h⟩ | ⟨hw,h⟩
    · rw[if_pos hw];exact rq hn1 (λ v nd w' h'=>gV rest _ _ _ K hn2 hK h') h
    · rw[if_neg (by simpa using hw),aX];exact⟨λ _ _=>trivial,gV rest _ _ _ K hn2 hK h⟩
def bT(P:Program)(ops:Array Oper):Nat->Array Bool->dx->Tm->World->(Tm->World->Prop)->Prop
  | 0,listed,_,t,w,K=>cond (Region.ready .any ops listed).isEmpty (K t w) False
  | n+1,listed,pend,t,w,K =>
    match pick ops (Region.ready .any ops listed) with
    | some i=>match ops[i]? with
      | none=>False
      | some o=>cond (Region.free .any ops listed i) (gd ops t o (λ t=>zS P o t w λ v T=>bT P ops n (listed.setIfInBounds i true) ((i,T) :: pend) (pt t o.dst v) w K)
          (λ t=>bT P ops n (listed.setIfInBounds i true) pend (pt t o.dst undef) w K)) False
    | none=>match Region.ready .any ops listed with
      | []=>K t w
      | i :: is=>ql ((i :: is).map λ i=>match ops[i]? with
        | none=>False
        | some o=>gd ops t o
          (λ t=>qh P o t w λ v nd w'=>nd=[]/\jh (drop ops i pend) w' (bT P ops n (listed.setIfInBounds i true) (drop ops i pend) (pt t o.dst v) w' K))
          (λ t=>bT P ops n (listed.setIfInBounds i true) (drop ops i pend) (pt t o.dst undef) w K))
theorem fI{ro:Option Nat}{P:Program}{ops:Array Oper}{dd:List Deferred}{Q:Exit->Act->World->Prop}(hnd:∀ (j:Nat) (o:Oper),ops[j]? = some o->bp o.op=true)(hs:Region.noSelect ops=true)(hQ:∀ c a w,¬ Q (.panic c) a w){K:Tm->World->Prop}(hK:∀ t w,K t w->Q .normal (bO t dd) w) :
    ∀ (n:Nat) (listed:Array Bool) (pend:dx) (t:Tm) (w:World),closed ops listed->(∀ p∈pend,holds p.2 w) ->
    bT P ops n listed pend t w K->dz ro P ops Q n listed pend (bO t dd) w
  | 0,listed,pend,t,w,_,_,h=>by
    obtain⟨h1,h2⟩:=bY h;exact⟨List.isEmpty_iff.1 h1,hK _ _ h2⟩
  | n+1,listed,pend,t,w,hc,hp,h=>by
    unfold bT at h
    split at h
    · rename_i i hi;have hir:=fP hi
      split at h
      · exact h.elim
      · rename_i o ho;obtain⟨hf,h⟩:=bY h;rcases dS h with⟨hw,h⟩ | ⟨hw,h⟩
        · obtain⟨v,T,hk,hT,hr⟩:=h;refine cJ hnd ho (Region.noSelect_spec hs) hQ n listed pend (bO t dd) w hc (Region.free_spec ho hf) hir (.inl ⟨hw,λ w' hw'=>by rw[bU]; exact hr w' hw'⟩) hT hp ?_;rw[aX];refine fI hnd hs hQ hK n _ _ _ _ (b8 hc hir) ?_ hk;intro p hp';rcases List.mem_cons.1 hp' with rfl | hp'
          · exact hT
          · exact hp p hp'
        · refine cJ (T:=[]) hnd ho (Region.noSelect_spec hs) hQ n listed pend (bO t dd) w hc (Region.free_spec ho hf) hir (.inr ⟨hw,rfl⟩) (λ f hf=>by cases hf) hp ?_;rw[aX];refine ef n _ pend _ _ _ (λ p hp'=>?_) (fI hnd hs hQ hK n _ _ _ _ (b8 hc hir) hp h);rcases List.mem_cons.1 hp' with rfl | hp'
          · exact .inr rfl
          · exact .inl hp'
    · split at h
      · rename_i hr;exact⟨λ _=>hK _ _ h,λ i hi=>by rw[hr] at hi; cases hi⟩
      · rename_i i0 is hr;refine⟨λ h0=>(by rw[h0] at hr; cases hr),λ i hi=>?_⟩;have hm:(match ops[i]? with
          | none=>False
          | some o=>gd ops t o
            (λ t=>qh P o t w λ v nd w'=>nd=[]/\jh (drop ops i pend) w' (bT P ops n (listed.setIfInBounds i true) (drop ops i pend) (pt t o.dst v) w' K)) (λ t=>bT P ops n (listed.setIfInBounds i true) (drop ops i pend) (pt t o.dst undef) w K)):=by
          refine eN h _ (List.mem_map.2 ⟨i,by rw[<- hr]; exact hi,rfl⟩)
        have hcs:=b8 hc hi;unfold wpOpIn
        cases ho:ops[i]? with
        | none=>rw[ho] at hm; exact hm.elim
        | some o =>
          simp only[ho] at hm ⊢;rcases dS hm with⟨hw,hm⟩ | ⟨hw,hm⟩
          · rw[if_pos hw];refine(rq (.inr (hnd _ _ ho)) (λ v nd w' hv=>?_) hm);obtain⟨rfl,hv⟩:=hv;obtain⟨h1,h2⟩:=eO hv;exact⟨h1,fI hnd hs hQ hK n _ _ _ _ hcs h1 h2⟩
          · rw[if_neg (by simp[hw]),aX];have h1:∀ p∈drop ops i pend,holds p.2 w:=λ p hp'=>hp p ((List.mem_filter.1 hp').1);exact⟨λ _ _=>trivial,h1,fI hnd hs hQ hK n _ _ _ _ hcs h1 hm⟩
def xZ:Value->Option AV
  | .int k n=>some (.int k n)
  | .bool b=>some (.bool b)
  | .string s=>some (.str s.data.toList)
  | .pointer none=>some .nilp
  | .slice none 0 0=>some .nils
  | .nilIface=>some .nili
  | .nilFunc=>some .nilf
  | .func (.func f) ⟨[]⟩ ⟨[]⟩=>some (.fn f [] [])
  | .tuple ⟨[]⟩=>some (.tup [])
  | _=>none
def vt:List Value->Option (List AV)
  | []=>some []
  | v :: l=>match xZ v,vt l with
    | some a,some az=>some (a :: az)
    | _,_=>none
def yb:Value->Option AV
  | .agg ⟨cs⟩=>(vt cs).map .agg
  | v=>xZ v
theorem ri{ρ:Names}{v:Value}{a:AV}(h:xZ v=some a):rv ρ a=some v:=by
  unfold xZ at h
  split at h<;>first | (cases h; done) | (cases h; rfl)
theorem q9{ρ:Names}:∀ {l:List Value} {az:List AV},vt l=some az->bz ρ az=some l
  | [],_,h=>by cases h; rfl
  | v :: l,az,h=>by
    simp only[vt] at h
    cases ha:xZ v with
    | none=>rw[ha] at h; cases h
    | some a =>
      cases hl:vt l with
      | none=>rw[ha,hl] at h; cases h
      | some bs =>
        rw[ha,hl] at h
        cases h
        exact bN (ri ha) (q9 hl)
theorem rj{ρ:Names}{v:Value}{a:AV}(h:yb v=some a):rv ρ a=some v:=by
  unfold yb at h
  split at h
  · rename_i cs
    cases hl:vt cs with
    | none=>rw[hl] at h; cases h
    | some az =>
      rw[hl] at h
      cases h
      simp only[rv,q9 hl,Option.map_some]
  · exact ri h
def bE(ρ:Names)(e:Tr AV)(t:Tm):Prop:=∀ i a,e.get i=some a->rv ρ a=some (gt t i)
theorem bE.mono{ρ σ:Names}{e:Tr AV}{t:Tm}(h:bE ρ e t)(hx:Ext ρ σ):bE σ e t:=λ i a hi=>kP hx (h i a hi)
def bJ(e:Tr AV):Operand->Option AV
  | .tmp i=>e.get i
  | .const v=>yb v
  | .func f=>some (.fn f [] [])
  | .global _=>none
theorem aA{ρ:Names}{e:Tr AV}{t:Tm}{x:Operand}{a:AV}(he:bE ρ e t)(h:bJ e x=some a):rv ρ a=some (ev t x):=by
  cases x with
  | tmp i=>exact he i a h
  | const v=>exact rj h
  | func f=>cases h; rfl
  | global g=>cases h
def dB(e:Tr AV):List Operand->Option (List AV)
  | []=>some []
  | x :: l=>match bJ e x,dB e l with
    | some a,some az=>some (a :: az)
    | _,_=>none
theorem bS{ρ:Names}{e:Tr AV}{t:Tm}(he:bE ρ e t):∀ {l:List Operand} {az:List AV},dB e l=some az->bz ρ az=some (l.map (ev t))
  | [],_,h=>by cases h; rfl
  | x :: l,az,h=>by
    simp only[dB] at h
    cases ha:bJ e x with
    | none=>rw[ha] at h; cases h
    | some a =>
      cases hl:dB e l with
      | none=>rw[ha,hl] at h; cases h
      | some bs =>
        rw[ha,hl] at h
        cases h
        exact bN (aA he ha) (bS he hl)
theorem lR:∀ (t:Tm) (i:Nat) (v:Value),i<t.length->gt (st t i v) i=v
  | [],i,_,h=>by simp at h
  | x :: t,0,v,_=>rfl
  | x :: t,i+1,v,h=>lR t i v (by simpa using h)
def gJ(N:Nat)(e:Tr AV)(d:Option Nat)(v:AV):Option (Tr AV):=match d with
  | none=>some e
  | some d=>cond (Nat.ble (Nat.succ d) N) (some (e.put d v)) none
theorem eP{ρ:Names}{N:Nat}{e e' : Tr AV}{d:Option Nat}{a:AV}{v:Value}{t:Tm}(h:gJ N e d a=some e')(hN:t.length=N)(he:bE ρ e t)(hv:rv ρ a=some v) :
    bE ρ e' (pt t d v)/\(pt t d v).length=N:=by
  cases d with
  | none=>cases h; exact⟨he,hN⟩
  | some d =>
    unfold gJ at h
    cases hb:Nat.ble (Nat.succ d) N with
    | false=>simp only[hb,cond_false] at h; cases h
    | true =>
      simp only[hb,cond_true,Option.some.injEq] at h;have hd:d<t.length:=by rw[hN]; exact Nat.le_of_ble_eq_true hb
      subst h;refine⟨λ i b hi=>?_,by rw[show pt t (some d) v=st t d v from rfl,jB]; exact hN⟩;show rv ρ b=some (gt (st t d v) i);rw[aL] at hi
      split at hi
      · rename_i e1;subst e1
        cases hi
        rw[lR t i v hd]; exact hv
      · rename_i e1;rw[lS t d i v (Ne.symm e1)];exact he i b hi
def xL(n:Nat)(f:Nat->AV):AV:=match n with
  | 0=>f 0
  | m+1=>f (Nat.succ m)
def j9(k:IntKind):Int->AV
  | .ofNat n=>xL n λ n=>.int k (.ofNat n)
  | .negSucc n=>xL n λ n=>.int k (.negSucc n)
theorem bM(k:IntKind)(n:Int):j9 k n=.int k n:=by
  cases n with
  | ofNat n=>cases n<;>rfl
  | negSucc n=>cases n<;>rfl
def uw(M:Nat):Int->Int
  | .ofNat a=>.ofNat (Nat.mod a M)
  | .negSucc a=>.ofNat (Nat.sub (Nat.sub M 1) (Nat.mod a M))
def sw(H M:Nat):Int->Int
  | .ofNat a=>cond (Nat.ble (Nat.succ (Nat.mod a M)) H) (.ofNat (Nat.mod a M)) (.negSucc (Nat.sub (Nat.sub M 1) (Nat.mod a M)))
  | .negSucc a=>cond (Nat.ble (Nat.succ (Nat.mod a M)) H) (.negSucc (Nat.mod a M)) (.ofNat (Nat.sub (Nat.sub M 1) (Nat.mod a M)))
def cE:IntKind->Int->Int
  | .u64,n=>uw 18446744073709551616 n
  | .i64,n=>sw 9223372036854775808 18446744073709551616 n
  | .u8,n=>uw 256 n
  | .i8,n=>sw 128 256 n
  | .u16,n=>uw 65536 n
  | .i16,n=>sw 32768 65536 n
  | .u32,n=>uw 4294967296 n
  | .i32,n=>sw 2147483648 4294967296 n
theorem mV(M:Nat)(hM:0<M)(n:Int):uw M n=n%(M:Int):=by
  cases n with
  | ofNat a=>rfl
  | negSucc a =>
    show((M-1-a%M:Nat):Int)=_;have h1:=Nat.mod_lt a hM;have h2:Int.negSucc a=-((a:Int)+1):=Int.negSucc_eq a;rw[h2];have h3:=Nat.div_add_mod a M;have h4 : -((a:Int)+1)=((M-1-a%M:Nat):Int)+(M:Int)*(-((a / M:Nat):Int)-1):=by
      have:((M-1-a%M:Nat):Int)=(M:Int)-1-((a%M:Nat):Int):=by omega
      rw[this];have h5:(a:Int)=(M:Int)*((a / M:Nat):Int)+((a%M:Nat):Int):=by
        rw[<- Int.natCast_mul,<- Int.natCast_add,h3]
      rw[Int.mul_sub,Int.mul_neg];omega
    rw[h4,Int.add_mul_emod_self_left,Int.emod_eq_of_lt (by omega) (by omega)]
theorem o8(H M:Nat)(hM:M=2*H)(hH:0<H)(n:Int):sw H M n=if n%(M:Int)>=(H:Int) then n%(M:Int)-(M:Int) else n%(M:Int):=by
  have hMp:0<M:=by omega
  rw[<- mV M hMp]
  cases n with
  | ofNat a =>
    have h1:=Nat.mod_lt a hMp;show cond (Nat.ble (Nat.succ (a%M)) H) (Int.ofNat (a%M)) (Int.negSucc (M-1-a%M))=if (Int.ofNat (a%M))>=(H:Int) then Int.ofNat (a%M)-(M:Int) else Int.ofNat (a%M)
    cases hb:Nat.ble (Nat.succ (a%M)) H with
    | true =>
      have:=Nat.le_of_ble_eq_true hb;rw[if_neg (by simp only[Int.ofNat_eq_natCast]; omega)]; rfl
    | false =>
      have : ¬ (a%M+1<=H):=λ h=>by rw[Nat.ble_eq_true_of_le h] at hb; cases hb
      rw[if_pos (by simp only[Int.ofNat_eq_natCast]; omega)];simp only[cond_false,Int.negSucc_eq,Int.ofNat_eq_natCast];omega
  | negSucc a =>
    have h1:=Nat.mod_lt a hMp;show cond (Nat.ble (Nat.succ (a%M)) H) (Int.negSucc (a%M)) (Int.ofNat (M-1-a%M))=if (Int.ofNat (M-1-a%M))>=(H:Int) then Int.ofNat (M-1-a%M)-(M:Int) else Int.ofNat (M-1-a%M)
    cases hb:Nat.ble (Nat.succ (a%M)) H with
    | true =>
      have:=Nat.le_of_ble_eq_true hb;rw[if_pos (by simp only[Int.ofNat_eq_natCast]; omega)];simp only[cond_true,Int.negSucc_eq,Int.ofNat_eq_natCast];omega
    | false =>
      have : ¬ (a%M+1<=H):=λ h=>by rw[Nat.ble_eq_true_of_le h] at hb; cases hb
      rw[if_neg (by simp only[Int.ofNat_eq_natCast]; omega)]; rfl
theorem bB(k:IntKind)(n:Int):cE k n=k.wrap n:=by
  cases k<;>simp only[cE,IntKind.wrap,IntKind.signed,IntKind.bits,Bool.true_and,Bool.false_and,Bool.false_eq_true,if_false]
  · rw[o8 _ _ rfl (by decide)]; simp
  · rw[o8 _ _ rfl (by decide)]; simp
  · rw[o8 _ _ rfl (by decide)]; simp
  · rw[o8 _ _ rfl (by decide)]; simp
  · rw[mV _ (by decide)]; rfl
  · rw[mV _ (by decide)]; rfl
  · rw[mV _ (by decide)]; rfl
  · rw[mV _ (by decide)]; rfl
def qk:Int->Int->Bool
  | .ofNat a,.ofNat b=>Nat.beq a b
  | .negSucc a,.negSucc b=>Nat.beq a b
  | _,_=>false
def lW:Int->Int->Bool
  | .ofNat a,.ofNat b=>Nat.ble a b
  | .negSucc a,.negSucc b=>Nat.ble b a
  | .negSucc _,.ofNat _=>true
  | .ofNat _,.negSucc _=>false
theorem qZ(a b:Nat):Nat.beq a b=decide (a=b):=by
  by_cases h:a=b
  · subst h; simp[Nat.beq_refl]
  · simp[h,jV h]
theorem wG(a b:Nat):Nat.ble a b=decide (a<=b):=by
  cases hb:Nat.ble a b with
  | true=>simp[Nat.le_of_ble_eq_true hb]
  | false =>
    have : ¬ a<=b:=λ h=>by rw[Nat.ble_eq_true_of_le h] at hb; cases hb
    simp[this]
theorem gi(a b:Int):qk a b=(a==b):=by
  cases a<;>cases b<;>simp only[qk,qZ]<;>rw[Bool.eq_iff_iff]<;>simp<;>omega
theorem gj(a b:Int):lW a b=decide (a<=b):=by
  cases a<;>cases b<;>simp only[lW,wG]<;>rw[Bool.eq_iff_iff]<;>simp[Int.negSucc_eq]<;>omega
def kf(op:BinOp)(k:IntKind)(a b:Int):Option AV:=match op with
  | .add=>some (j9 k (cE k (Int.add a b)))
  | .sub=>some (j9 k (cE k (Int.sub a b)))
  | .mul=>some (j9 k (cE k (Int.mul a b)))
  | .quo=>cond (qk b 0) none (some (j9 k (cE k (Int.tdiv a b))))
  | .rem=>cond (qk b 0) none (some (j9 k (Int.tmod a b)))
  | .and=>some (j9 k (cE k ((BitVec.ofInt k.bits a &&& BitVec.ofInt k.bits b).toNat:Int)))
  | .or=>some (j9 k (cE k ((BitVec.ofInt k.bits a ||| BitVec.ofInt k.bits b).toNat:Int)))
  | .xor=>some (j9 k (cE k ((BitVec.ofInt k.bits a ^^^ BitVec.ofInt k.bits b).toNat:Int)))
  | .andNot=>some (j9 k (cE k ((BitVec.ofInt k.bits a &&& ~~~BitVec.ofInt k.bits b).toNat:Int)))
  | .eql=>some (.bool (qk a b))
  | .neq=>some (.bool (not (qk a b)))
  | .leq=>some (.bool (lW a b))
  | .geq=>some (.bool (lW b a))
  | .lss=>some (.bool (not (lW b a)))
  | .gtr=>some (.bool (not (lW a b)))
  | _=>none
def pN(op:BinOp)(k:IntKind)(a b:Int):Option AV:=cond (lW 0 b) (match op with
  | .shl=>some (j9 k (cE k (a*2 ^ (min b.toNat k.bits))))
  | .shr=>some (j9 k (a.fdiv (2 ^ (min b.toNat k.bits))))
  | _=>none) none
def ko:List UInt8->List UInt8->Bool
  | [],[]=>true
  | a :: l,b :: m=>cond (Nat.beq a.toNat b.toNat) (ko l m) false
  | _,_=>false
theorem dV:∀ (l m:List UInt8),ko l m=(l==m)
  | [],[]=>rfl
  | [],_ :: _=>rfl
  | _ :: _,[]=>rfl
  | a :: l,b :: m=>by
    unfold ko;rw[qZ,dV l m]
    by_cases h:a=b
    · subst h; simp
    · have : ¬ a.toNat=b.toNat:=λ e=>h (UInt8.toNat.inj e);simp[this,h]
def wk(op:BinOp)(a b:List UInt8):Option AV:=match op with
  | .add=>cond (Nat.ble (a.length+b.length) 9223372036854775807) (some (.str (a++b))) none
  | .eql=>some (.bool (ko a b))
  | .neq=>some (.bool (not (ko a b)))
  | .lss=>some (.bool (Op.bytesLess a b))
  | .leq=>some (.bool (or (Op.bytesLess a b) (ko a b)))
  | .gtr=>some (.bool (not (or (Op.bytesLess a b) (ko a b))))
  | .geq=>some (.bool (not (Op.bytesLess a b)))
  | _=>none
def gB(P:Program)(e:TypeId)(cs:List AV)(off:Nat):Option AV :=
  match P.underlying e,bu P e with
  | some d,some sz=>cond (gk d) (some (.agg ((cs.drop off).take sz))) cs[off]?
  | _,_=>none
def geq(P:Program):Nat->TypeId->AV->AV->Option Bool
  | 0,_,_,_=>none
  | d+1,t,x,y =>
    match P.underlying t with
    | some .bool=>match x,y with
      | .bool a,.bool b=>some (a==b)
      | _,_=>none
    | some (.int _)=>match x,y with
      | .int k a,.int k' b=>cond (lK k k') (some (qk a b)) none
      | _,_=>none
    | some .string=>match x,y with
      | .str a,.str b=>some (ko a b)
      | _,_=>none
    | some (.struct fs)=>match x,y with
      | .agg xs,.agg ys=>cond (P.stoodInHeld t||fs.toList.any λ f=>f.name== "_") none
          (fo (fs.toList.map λ f=>match gB P f.type xs f.offset,gB P f.type ys f.offset with
            | some a,some b=>geq P d f.type a b
            | _,_=>none))
      | _,_=>none
    | some (.array n e)=>match x,y with
      | .agg xs,.agg ys=>match bu P e with
        | none=>none
        | some sz=>fo ((List.range n).map λ i=>match gB P e xs (i*sz),gB P e ys (i*sz) with
            | some a,some b=>geq P d e a b
            | _,_=>none)
      | _,_=>none
    | _=>none
theorem dI{P:Program}{ρ:Names}{e:TypeId}{cs:List AV}{vs:List Value}{off:Nat}{a:AV}(h:gB P e cs off=some a)(hv:bz ρ cs=some vs) :
    ∃ v,eD P e vs.toArray off=some v/\rv ρ a=some v:=by
  unfold gB at h;unfold eD
  split at h
  · rename_i d sz hu hs;simp only[hu,hs]
    cases hd:gk d with
    | true =>
      rw[hd] at h
      cases h
      refine⟨_,rfl,?_⟩;simp only[rv,eG sz (iU off hv),Option.map_some]
      congr 2
      simp
    | false =>
      rw[hd] at h;obtain⟨v,h1,h2⟩:=fQ hv h;exact⟨v,by simpa using h1,h2⟩
  · cases h
theorem ic{α:Type}{f g:α->Option Bool}(hfg:∀ a b,f a=some b->g a=some b):∀ (l:List α) (b:Bool),fo (l.map f)=some b->fo (l.map g)=some b
  | [],_,h=>h
  | a :: l,b,h=>by
    simp only[List.map_cons] at h ⊢
    cases hf:f a with
    | none=>rw[hf] at h; simp[fo] at h
    | some c =>
      rw[hf] at h;rw[hfg a c hf];simp only[fo] at h ⊢
      cases hr:fo (l.map f) with
      | none=>rw[hr] at h; cases h
      | some r=>rw[hr] at h; rw[ic hfg l r hr]; exact h
theorem aU{ρ:Names}{k:IntKind}{n:Int}{v:Value}(h:rv ρ (.int k n)=some v):v=.int k n:=(Option.some.inj h).symm
theorem bL{ρ:Names}{b:Bool}{v:Value}(h:rv ρ (.bool b)=some v):v=.bool b:=(Option.some.inj h).symm
theorem bW{ρ:Names}{l:List UInt8}{v:Value}(h:rv ρ (.str l)=some v):v=.string ⟨l.toArray⟩:=(Option.some.inj h).symm
theorem dX{ρ:Names}{cs:List AV}{v:Value}(h:rv ρ (.agg cs)=some v):∃ vs,bz ρ cs=some vs/\v=.agg vs.toArray:=by
  simp only[rv,Option.map_eq_some_iff] at h;obtain⟨l,hl,rfl⟩:=h;exact⟨l,hl,rfl⟩
theorem n8{ρ:Names}{cs:List AV}{v:Value}(h:rv ρ (.tup cs)=some v):∃ vs,bz ρ cs=some vs/\v=.tuple vs.toArray:=by
  simp only[rv,Option.map_eq_some_iff] at h;obtain⟨l,hl,rfl⟩:=h;exact⟨l,hl,rfl⟩
theorem bV{ρ:Names}{i o:Nat}{v:Value}(h:rv ρ (.ptr i o)=some v):∃ L,ρ i=some L/\v=.pointer (some ⟨L.b,o,none⟩):=by
  simp only[rv,Option.map_eq_some_iff] at h;obtain⟨l,hl,rfl⟩:=h;exact⟨l,hl,rfl⟩
theorem bw{ρ:Names}{i o l z:Nat}{v:Value}(h:rv ρ (.sli i o l z)=some v):∃ L,ρ i=some L/\o+l<=L.tot/\L.esz=z/\v=.slice (some ⟨L.b,o*z,none⟩) l (L.tot-o):=by
  simp only[rv,Option.bind_eq_some_iff] at h;obtain⟨L,hL,h⟩:=h
  split at h
  · rename_i hc;exact⟨L,hL,hc.1,hc.2,(Option.some.inj h).symm⟩
  · cases h
theorem ke{P:Program}{ρ:Names}:∀ (d:Nat) (t:TypeId) (x y:AV) (vx vy:Value) (b:Bool),geq P d t x y=some b->rv ρ x=some vx->rv ρ y=some vy->u6 P d t vx vy=some b
  | 0,_,_,_,_,_,_,h,_,_=>by cases h
  | d+1,t,x,y,vx,vy,b,h,hx,hy=>by
    unfold geq at h;unfold u6
    split at h
    · rename_i hu;simp only[hu]
      split at h
      · cases bL hx; cases bL hy; exact h
      · cases h
    · rename_i k hu;simp only[hu]
      split at h
      · cases aU hx; cases aU hy
        rw[gi] at h; exact h
      · cases h
    · rename_i hu;simp only[hu]
      split at h
      · rename_i a b'
        cases bW hx; cases bW hy
        rw[dV] at h;simp only[Option.some.injEq] at h ⊢;rw[<- h];rw[Bool.eq_iff_iff];show(a.toArray==b'.toArray)=true<->(a==b')=true
        simp
      · cases h
    · rename_i fs hu;simp only[hu]
      split at h
      · rename_i xs ys;obtain⟨vxs,hxs,rfl⟩:=dX hx;obtain⟨vys,hys,rfl⟩:=dX hy
        cases hs:(P.stoodInHeld t||fs.toList.any λ f=>f.name== "_") with
        | true=>rw[hs] at h; cases h
        | false =>
          rw[hs] at h;simp only[cond_false] at h ⊢;refine ic (λ f c hf=>?_) _ _ h
          split at hf
          · rename_i a b' ha hb;obtain⟨va,h1,h2⟩:=dI ha hxs;obtain⟨vb,h3,h4⟩:=dI hb hys;simp only[h1,h3];exact ke d f.type a b' va vb c hf h2 h4
          · cases hf
      · cases h
    · rename_i n e hu;simp only[hu]
      split at h
      · rename_i xs ys;obtain⟨vxs,hxs,rfl⟩:=dX hx;obtain⟨vys,hys,rfl⟩:=dX hy
        split at h
        · cases h
        · rename_i sz hsz;simp only[hsz];refine ic (λ f c hf=>?_) _ _ h
          split at hf
          · rename_i a b' ha hb;obtain⟨va,h1,h2⟩:=dI ha hxs;obtain⟨vb,h3,h4⟩:=dI hb hys;simp only[h1,h3];exact ke d e a b' va vb c hf h2 h4
          · cases hf
      · cases h
    · cases h
def b5(P:Program)(ρ:Names)(s:Sem Value)(a:AV):Prop:=∃ v,rv ρ a=some v/\∀ w,s.run P w=.ok v w
def vg:Operand->Bool
  | .const _=>true
  | _=>false
def tU(P:Program)(ty:TypeId)(cn:Bool)(a b:AV):Option Bool:=match P.underlying ty with
  | some (.pointer e)=>match a,b with
    | .nilp,.nilp=>some true
    | .nilp,.ptr _ _=>some false
    | .ptr _ _,.nilp=>some false
    | .ptr i o,.ptr j p=>cond (Nat.beq i j&&Nat.beq o p&&(P.info? e).isSome) (some true) none
    | _,_=>none
  | some (.slice _)=>match a,b with
    | .nils,.nils=>some true
    | .nils,.sli _ _ _ _=>some false
    | .sli _ _ _ _,.nils=>some false
    | _,_=>none
  | some (.interface _)=>match a,b with
    | .nili,.nili=>cond cn (some true) none
    | .nili,.iface _ _=>some false
    | .iface _ _,.nili=>some false
    | _,_=>none
  | some .bool=>match a,b with
    | .bool x,.bool y=>some (x==y)
    | _,_=>none
  | _=>match a,b with
    | .agg xs,.agg ys=>cond (P.eqGuardType P.depth ty) none (geq P 12 ty (.agg xs) (.agg ys))
    | _,_=>none
theorem aM{P:Program}{ty:TypeId}{x y:Operand}{vx vy:Value}{b neg:Bool}{w:World}(h:(Op.equal ty vx vy).run P w=.ok b w)(hb:(binOp (cond neg .neq .eql) ty vx vy)=(do let r <- Op.equal ty vx vy; pure (.bool (cond neg (!r) r))))(hg:(eqGuard (cond neg .neq .eql) ty x y vx vy).run P w=.ok () w):(do eqGuard (cond neg .neq .eql) ty x y vx vy; binOp (cond neg .neq .eql) ty vx vy:Sem Value).run P w=.ok (.bool (cond neg (!b) b)) w:=by
  have h3:=cG (neg:=neg) h hb;simp only[Sem.run_bind,hg,Result.andThen_ok,h3]
theorem oD{P:Program}{ρ:Names}{ty:TypeId}{x y:Operand}{a b:AV}{vx vy:Value}{r:Bool}(h:tU P ty (vg x||vg y) a b=some r)(ha:rv ρ a=some vx)(hb:rv ρ b=some vy)(neg:Bool)(w:World):(do eqGuard (cond neg .neq .eql) ty x y vx vy; binOp (cond neg .neq .eql) ty vx vy:Sem Value).run P w=.ok (.bool (cond neg (!r) r)) w:=by
  unfold tU at h
  split at h
  · rename_i e hu
    split at h
    · cases h; cases ha; cases hb
      exact aM (aS λ d=>by simp[Op.equalIn,ag hu]) (by cases neg<;>rfl) (by cases neg<;>simp[eqGuard])
    · cases h; cases ha
      obtain⟨L,_,rfl⟩:=bV hb;exact aM (aS λ d=>by simp[Op.equalIn,ag hu]) (by cases neg<;>rfl) (by cases neg<;>simp[eqGuard])
    · cases h; cases hb
      obtain⟨L,_,rfl⟩:=bV ha;exact aM (aS λ d=>by simp[Op.equalIn,ag hu]) (by cases neg<;>rfl) (by cases neg<;>simp[eqGuard])
    · rename_i i o j p
      cases hc:(Nat.beq i j&&Nat.beq o p&&(P.info? e).isSome) with
      | false=>rw[hc] at h; cases h
      | true =>
        rw[hc] at h
        cases h
        simp only[Bool.and_eq_true] at hc;obtain⟨⟨q1,q2⟩,q3⟩:=hc;obtain rfl:=beq_iff.1 q1;obtain rfl:=beq_iff.1 q2;obtain⟨inf,hte⟩:=Option.isSome_iff_exists.1 q3;obtain⟨L,hL,rfl⟩:=bV ha;obtain⟨L',hL',rfl⟩:=bV hb;obtain rfl:L=L':=Option.some.inj (hL.symm.trans hL');exact aM (aS λ d=>by simp[Op.equalIn,ag hu,sizeOf,typeInfo,hte,run_sameAddr_same]) (by cases neg<;>rfl) (by cases neg<;>simp[eqGuard])
    · cases h
  · rename_i e hu
    split at h
    · cases h; cases ha; cases hb
      exact aM (aS λ d=>by simp[Op.equalIn,ag hu]) (by cases neg<;>rfl) (by cases neg<;>simp[eqGuard])
    · cases h; cases ha
      obtain⟨L,_,_,_,rfl⟩:=bw hb;exact aM (aS λ d=>by simp[Op.equalIn,ag hu]) (by cases neg<;>rfl) (by cases neg<;>simp[eqGuard])
    · cases h; cases hb
      obtain⟨L,_,_,_,rfl⟩:=bw ha;exact aM (aS λ d=>by simp[Op.equalIn,ag hu]) (by cases neg<;>rfl) (by cases neg<;>simp[eqGuard])
    · cases h
  · rename_i ms hu
    split at h
    · cases ha; cases hb
      cases hc:(vg x||vg y) with
      | false=>rw[hc] at h; cases h
      | true =>
        rw[hc] at h
        cases h
        refine aM (aS λ d=>by simp[Op.equalIn,ag hu]) (by cases neg<;>rfl) ?_
        cases x<;>cases y<;>first | (cases hc; done) | (cases neg<;>simp[eqGuard])
    · cases h; cases ha
      simp only[rv,Option.map_eq_some_iff] at hb;obtain⟨u,_,rfl⟩:=hb;exact aM (aS λ d=>by simp[Op.equalIn,ag hu]) (by cases neg<;>rfl) (by cases neg<;>simp[eqGuard])
    · cases h; cases hb
      simp only[rv,Option.map_eq_some_iff] at ha;obtain⟨u,_,rfl⟩:=ha;exact aM (aS λ d=>by simp[Op.equalIn,ag hu]) (by cases neg<;>rfl) (by cases neg<;>simp[eqGuard])
    · cases h
  · rename_i hu
    split at h
    · cases h
      cases bL ha; cases bL hb
      exact aM (aS λ d=>by simp[Op.equalIn,ag hu]) (by cases neg<;>rfl) (by cases neg<;>simp[eqGuard])
    · cases h
  · split at h
    · rename_i xs ys
      cases hg:P.eqGuardType P.depth ty with
      | true=>rw[hg] at h; cases h
      | false =>
        rw[hg] at h;simp only[cond_false] at h;obtain⟨vxs,hxs,rfl⟩:=dX ha;obtain⟨vys,hys,rfl⟩:=dX hb;have he:=ke 12 ty _ _ _ _ r h ha hb;have hF:pE P ty neg (.agg vxs.toArray) (.agg vys.toArray)=some λ K=>K (.bool (cond neg (!r) r)):=by
          unfold pE;simp only[hg,cond_false,he]
        obtain⟨v,hr,rfl⟩:=fm (x:=x) (y:=y) hF (K:=λ v=>v=.bool (cond neg (!r) r)) rfl;exact hr w
    · cases h
def pK(P:Program)(op:BinOp)(ty:TypeId)(x y:Operand)(a b:AV):Option AV:=match a with
  | .int k n=>match b with
    | .int k' m=>match op with
      | .shl=>pN .shl k n m
      | .shr=>pN .shr k n m
      | op=>cond (lK k k') (kf op k n m) none
    | _=>none
  | .str l=>match b with
    | .str m=>wk op l m
    | _=>none
  | a=>match op with
    | .eql=>(tU P ty (vg x||vg y) a b).map .bool
    | .neq=>(tU P ty (vg x||vg y) a b).map λ b=>.bool (not b)
    | _=>none
theorem oE{op:BinOp}{k k' : IntKind}{n m:Int}{r:AV}(h:pN op k n m=some r)(P:Program)(ρ:Names):∃ v,rv ρ r=some v/\∀ w,(Op.shift op k n k' m).run P w=.ok v w:=by
  unfold pN at h
  cases hm:lW 0 m with
  | false=>rw[hm] at h; cases h
  | true =>
    rw[hm] at h;have hm' : (0:Int)<=m:=by rw[gj] at hm; simpa using hm
    simp only[cond_true] at h
    split at h
    · cases h
      exact⟨_,by rw[bM]; rfl,λ w=>by simp[Op.shift,Int.not_lt.2 hm',bB]⟩
    · cases h
      exact⟨_,by rw[bM]; rfl,λ w=>by simp[Op.shift,Int.not_lt.2 hm']⟩
    · cases h
theorem tQ{op:BinOp}{k:IntKind}{n m:Int}{r:AV}(h:kf op k n m=some r)(P:Program)(ρ:Names)(ty:TypeId):∃ v,rv ρ r=some v/\∀ w,(binOp op ty (.int k n) (.int k m)).run P w=.ok v w:=by
  have hlt:∀ a b:Int,(!lW b a)=decide (a<b):=λ a b=>by rw[gj,Bool.eq_iff_iff]; simp
  cases op<;>simp only[kf] at h
  case add=>cases h; refine⟨_,by rw[bM]; rfl,λ w=>?_⟩; simp[binOp,Op.intArith,bB]
  case sub=>cases h; refine⟨_,by rw[bM]; rfl,λ w=>?_⟩; simp[binOp,Op.intArith,bB]; rfl
  case mul=>cases h; refine⟨_,by rw[bM]; rfl,λ w=>?_⟩; simp[binOp,Op.intArith,bB]
  case quo =>
    cases hb:qk m 0 with
    | true=>rw[hb] at h; cases h
    | false =>
      rw[hb] at h
      cases h
      have hz:m≠0:=by rw[gi] at hb; simpa using hb
      refine⟨_,by rw[bM]; rfl,λ w=>?_⟩;simp[binOp,Op.intDiv,hz,bB]
  case rem =>
    cases hb:qk m 0 with
    | true=>rw[hb] at h; cases h
    | false =>
      rw[hb] at h
      cases h
      have hz:m≠0:=by rw[gi] at hb; simpa using hb
      refine⟨_,by rw[bM]; rfl,λ w=>?_⟩;simp[binOp,Op.intDiv,hz]
  case and=>cases h; refine⟨_,by rw[bM]; rfl,λ w=>?_⟩; simp only[binOp,bB]; simp[Op.intBits]
  case or=>cases h; refine⟨_,by rw[bM]; rfl,λ w=>?_⟩; simp only[binOp,bB]; simp[Op.intBits]
  case xor=>cases h; refine⟨_,by rw[bM]; rfl,λ w=>?_⟩; simp only[binOp,bB]; simp[Op.intBits]
  case andNot=>cases h; refine⟨_,by rw[bM]; rfl,λ w=>?_⟩; simp only[binOp,bB]; simp[Op.intBits]
  case shl=>cases h
  case shr=>cases h
  case eql=>cases h; refine⟨_,rfl,λ w=>?_⟩; simp[binOp,Op.intCmp,gi]
  case neq=>cases h; refine⟨_,rfl,λ w=>?_⟩; simp[binOp,Op.intCmp,gi,bne]
  case lss=>cases h; refine⟨_,rfl,λ w=>?_⟩; rw[hlt]; simp[binOp,Op.intCmp]
  case leq=>cases h; refine⟨_,rfl,λ w=>?_⟩; rw[gj]; simp[binOp,Op.intCmp]
  case gtr=>cases h; refine⟨_,rfl,λ w=>?_⟩; rw[hlt]; simp[binOp,Op.intCmp]
  case geq=>cases h; refine⟨_,rfl,λ w=>?_⟩; rw[gj]; simp[binOp,Op.intCmp]
theorem ua{op:BinOp}{a b:List UInt8}{r:AV}(h:wk op a b=some r)(P:Program)(ρ:Names)(ty:TypeId):∃ v,rv ρ r=some v/\∀ w,(binOp op ty (.string ⟨a.toArray⟩) (.string ⟨b.toArray⟩)).run P w=.ok v w:=by
  have e1:(⟨a.toArray⟩:ByteArray).size=a.length:=by simp[ByteArray.size]
  have e2:(⟨b.toArray⟩:ByteArray).size=b.length:=by simp[ByteArray.size]
  cases op<;>simp only[wk] at h
  case add =>
    cases hb:Nat.ble (a.length+b.length) 9223372036854775807 with
    | false=>rw[hb] at h; cases h
    | true =>
      rw[hb] at h
      cases h
      have hl:=Nat.le_of_ble_eq_true hb;refine⟨.string (⟨a.toArray⟩++⟨b.toArray⟩),?_,λ w=>?_⟩
      · simp only[rv]
        congr 2
      · have hm:IntKind.i64.max=9223372036854775807:=rfl;have hs : ¬ ((((⟨a.toArray⟩:ByteArray).size+(⟨b.toArray⟩:ByteArray).size:Nat):Int)>IntKind.i64.max):=by
          rw[hm,e1,e2];omega
        simp only[binOp,Op.stringOp,if_neg hs,Sem.run_pure]
  case eql=>cases h; exact⟨_,rfl,λ w=>by simp[binOp,Op.stringOp,dV,ByteArray.toList_mk]⟩
  case neq=>cases h; exact⟨_,rfl,λ w=>by simp[binOp,Op.stringOp,dV,ByteArray.toList_mk]⟩
  case lss=>cases h; exact⟨_,rfl,λ w=>by simp[binOp,Op.stringOp,ByteArray.toList_mk]⟩
  case leq=>cases h; exact⟨_,rfl,λ w=>by simp[binOp,Op.stringOp,dV,ByteArray.toList_mk]⟩
  case gtr=>cases h; exact⟨_,rfl,λ w=>by simp[binOp,Op.stringOp,dV,ByteArray.toList_mk]⟩
  case geq=>cases h; exact⟨_,rfl,λ w=>by simp[binOp,Op.stringOp,ByteArray.toList_mk]⟩
  all_goals cases h
theorem nC{P:Program}{op:BinOp}{ty:TypeId}{x y:Operand}{k k' : IntKind}{n m:Int}{w:World}:(eqGuard op ty x y (.int k n) (.int k' m)).run P w=.ok () w:=by
  cases op<;>simp[eqGuard]
theorem lT{P:Program}{op:BinOp}{ty:TypeId}{x y:Operand}{a b:ByteArray}{w:World}:(eqGuard op ty x y (.string a) (.string b)).run P w=.ok () w:=by
  cases op<;>simp[eqGuard]
theorem tG{P:Program}{ρ:Names}{op:BinOp}{ty:TypeId}{x y:Operand}{a b r:AV}{vx vy:Value}(h:pK P op ty x y a b=some r)(ha:rv ρ a=some vx)(hb:rv ρ b=some vy) :
    b5 P ρ (do eqGuard op ty x y vx vy; binOp op ty vx vy) r:=by
  unfold pK at h
  split at h
  · rename_i k n
    cases aU ha
    split at h
    · rename_i k' m
      cases aU hb
      have key:∀ {s:Sem Value},binOp op ty (.int k n) (.int k' m)=s->(∃ v,rv ρ r=some v/\∀ w,s.run P w=.ok v w)->b5 P ρ (do eqGuard op ty x y (.int k n) (.int k' m); binOp op ty (.int k n) (.int k' m)) r:=λ {s} he hs=>by
        obtain⟨v,h1,h2⟩:=hs;exact⟨v,h1,λ w=>by simp only[Sem.run_bind,nC,Result.andThen_ok,he,h2]⟩
      split at h
      · exact key rfl (oE (k':=k') h P ρ)
      · exact key rfl (oE (k':=k') h P ρ)
      · cases he:lK k k' with
        | false=>rw[he] at h; cases h
        | true =>
          have:=cV he;subst this;rw[he] at h;exact key rfl (tQ h P ρ ty)
    · cases h
  · rename_i l
    cases bW ha
    split at h
    · rename_i m
      cases bW hb
      obtain⟨v,h1,h2⟩:=ua h P ρ ty;exact⟨v,h1,λ w=>by simp only[Sem.run_bind,lT,Result.andThen_ok,h2]⟩
    · cases h
  · split at h
    · simp only[Option.map_eq_some_iff] at h;obtain⟨c,hc,rfl⟩:=h;exact⟨_,rfl,λ w=>oD hc ha hb false w⟩
    · simp only[Option.map_eq_some_iff] at h;obtain⟨c,hc,rfl⟩:=h;exact⟨_,rfl,λ w=>oD hc ha hb true w⟩
    · cases h
def pM(P:Program)(ty:TypeId)(f:Nat):Option Nat:=match P.underlying ty with
  | some (.struct fs)=>match fs[f]? with
    | some fd=>match bu P fd.type with
      | some (_+1)=>some fd.offset
      | _=>none
    | none=>none
  | _=>none
theorem tW{P:Program}{ty:TypeId}{f off b o:Nat}(h:pM P ty f=some off)(w:World):(Instr.fieldAt ty (.pointer (some ⟨b,o,none⟩)) f).run P w=.ok (.pointer (some ⟨b,o+off,none⟩)) w:=by
  unfold pM at h
  split at h
  · rename_i fs hu
    split at h
    · rename_i fd hf
      split at h
      · rename_i k hs
        cases h
        simp[Instr.fieldAt,ag hu,hf,Instr.sureAddr,fieldPlace,aP hs,cD]
      · cases h
    · cases h
  · cases h
def qF(P:Program)(ty:TypeId)(a:AV)(f:Nat):Option AV:=match P.underlying ty,a with
  | some (.struct fs),.agg cs=>match fs[f]? with
    | some fd=>gB P fd.type cs fd.offset
    | none=>none
  | _,_=>none
theorem tO{P:Program}{ρ:Names}{ty:TypeId}{a r:AV}{f:Nat}{v:Value}(h:qF P ty a f=some r)(ha:rv ρ a=some v):b5 P ρ (Instr.field ty v f) r:=by
  unfold qF at h
  split at h
  · rename_i fs cs hu
    split at h
    · rename_i fd hf;obtain⟨vs,hvs,rfl⟩:=dX ha;obtain⟨u,h1,h2⟩:=dI h hvs;exact⟨u,h2,λ w=>by simp[Instr.field,ag hu,hf,asAgg,dJ h1]⟩
    · cases h
  · cases h
def gK{α:Type}:List α->Nat->Option α
  | [],_=>none
  | a :: _,0=>some a
  | _ :: l,n+1=>gK l n
theorem gR{α:Type}:∀ (l:List α) (i:Nat),gK l i=l[i]?
  | [],_=>rfl
  | _ :: _,0=>rfl
  | _ :: l,i+1=>by rw[List.getElem?_cons_succ]; exact gR l i
def qG(P:Program)(ty:TypeId)(a i:AV):Option AV:=match i with
  | .int _ (.ofNat n)=>match P.underlying ty,a with
    | some .string,.str l=>match gK l n with
      | some b=>some (.int .u8 (.ofNat b.toNat))
      | none=>none
    | some (.array len e),.agg cs=>match bu P e with
      | some sz=>cond (Nat.ble (Nat.succ n) len) (gB P e cs (Nat.mul n sz)) none
      | none=>none
    | _,_=>none
  | _=>none
theorem tP{P:Program}{ρ:Names}{ty:TypeId}{a i r:AV}{v vi:Value}(h:qG P ty a i=some r)(ha:rv ρ a=some v)(hi:rv ρ i=some vi):b5 P ρ (Instr.index ty v vi) r:=by
  unfold qG at h
  split at h
  · rename_i k n
    cases aU hi
    split at h
    · rename_i l hu
      cases bW ha
      split at h
      · rename_i b hb
        cases h
        refine⟨_,rfl,λ w=>?_⟩;have hb' : (⟨l.toArray⟩:ByteArray)[n]? = some b:=by
          rw[gR] at hb;obtain⟨h1,h2⟩:=List.getElem?_eq_some_iff.1 hb;have:n<(⟨l.toArray⟩:ByteArray).size:=by simpa[ByteArray.size] using h1
          rw[getElem?_pos (⟨l.toArray⟩:ByteArray) n this,<- h2];rfl
        simp[Instr.index,asIntOf,ag hu,hb']
      · cases h
    · rename_i len e cs hu
      split at h
      · rename_i sz hsz
        cases hb:Nat.ble (Nat.succ n) len with
        | false=>rw[hb] at h; cases h
        | true =>
          rw[hb] at h;have hlt:n<len:=Nat.le_of_ble_eq_true hb;obtain⟨vs,hvs,rfl⟩:=dX ha;obtain⟨u,h1,h2⟩:=dI h hvs;have h1:eD P e vs.toArray (n*sz)=some u:=h1;exact⟨u,h2,λ w=>by simp[Instr.index,asIntOf,ag hu,hlt,aP hsz,dJ h1]⟩
      · cases h
    · cases h
  · cases h
def qI(P:Program)(ty:TypeId)(a i:AV):Option AV:=match i with
  | .int _ (.ofNat n)=>match P.underlying ty,a with
    | some (.slice e),.sli j o l z=>match bu P e with
      | some sz=>cond (Nat.ble (Nat.succ n) l&&Nat.beq sz z) (some (.ptr j (Nat.mul (Nat.add o n) z))) none
      | none=>none
    | some (.array len e),.ptr j o=>match bu P e with
      | some sz=>cond (Nat.ble (Nat.succ n) len) (some (.ptr j (Nat.add o (Nat.mul n sz)))) none
      | none=>none
    | _,_=>none
  | _=>none
theorem tR{P:Program}{ρ:Names}{ty:TypeId}{a i r:AV}{v vi:Value}(h:qI P ty a i=some r)(ha:rv ρ a=some v)(hi:rv ρ i=some vi):b5 P ρ (Instr.indexAt ty v vi) r:=by
  unfold qI at h
  split at h
  · rename_i k n
    cases aU hi
    split at h
    · rename_i e j o l z hu
      split at h
      · rename_i sz hsz
        cases hb:(Nat.ble (Nat.succ n) l&&Nat.beq sz z) with
        | false=>rw[hb] at h; cases h
        | true =>
          rw[hb] at h
          cases h
          simp only[Bool.and_eq_true] at hb;have hlt:n<l:=Nat.le_of_ble_eq_true hb.1;obtain rfl:=beq_iff.1 hb.2;obtain⟨L,hL,_,_,rfl⟩:=bw ha;refine⟨.pointer (some ⟨L.b,(o+n)*sz,none⟩),?_,λ w=>?_⟩
          · simp only[rv,hL,Option.map_some]; rfl
          · have hadd:(⟨L.b,o*sz,none⟩:Addr).add (n*sz)=⟨L.b,(o+n)*sz,none⟩:=by rw[cD,Nat.add_mul]
            simp[Instr.indexAt,asIntOf,ag hu,hlt,aP hsz,hadd]
      · cases h
    · rename_i len e j o hu
      split at h
      · rename_i sz hsz
        cases hb:Nat.ble (Nat.succ n) len with
        | false=>rw[hb] at h; cases h
        | true =>
          rw[hb] at h
          cases h
          have hlt:n<len:=Nat.le_of_ble_eq_true hb;obtain⟨L,hL,rfl⟩:=bV ha;refine⟨.pointer (some ⟨L.b,o+n*sz,none⟩),?_,λ w=>?_⟩
          · simp only[rv,hL,Option.map_some]; rfl
          · simp[Instr.indexAt,Instr.sureAddr,asIntOf,ag hu,hlt,aP hsz,cD]
      · cases h
    · cases h
  · cases h
def gb(x:Option AV)(d top:Nat):Option Nat:=match x with
  | none=>some d
  | some (.int _ (.ofNat n))=>cond (Nat.ble n top) (some n) none
  | some _=>none
theorem cH{ρ:Names}{x:Option AV}{vx:Option Value}{d top n:Nat}{F:Nat->Prop}(h:gb x d top=some n)(hx:∀ a,x=some a->∃ v,vx=some v/\rv ρ a=some v)(hn:x=none->vx=none)(k:F n){top' : Nat}(ht:top<=top') :
    dy vx d top' F:=by
  unfold gb at h
  split at h
  · cases h
    rw[hn rfl];exact k
  · rename_i kk m
    cases hb:Nat.ble m top with
    | false=>rw[hb] at h; cases h
    | true =>
      rw[hb] at h
      cases h
      obtain⟨v,rfl,hv⟩:=hx _ rfl
      cases aU hv
      refine⟨by simp,?_,by simpa using k⟩;have:=Nat.le_of_ble_eq_true hb;simp only[Int.ofNat_eq_natCast];omega
  · cases h
theorem dh{x:Option AV}{d top n:Nat}(h:gb x d top=some n)(hd:d<=top):n<=top:=by
  unfold gb at h
  split at h
  · cases h; exact hd
  · rename_i kk m
    cases hb:Nat.ble m top with
    | false=>rw[hb] at h; cases h
    | true=>rw[hb] at h; cases h; exact Nat.le_of_ble_eq_true hb
  · cases h
def wj(P:Program)(ty:TypeId)(a:AV)(lo hi:Option AV):Option AV:=match P.underlying ty,a with
  | some .string,.str s=>match gb hi s.length s.length with
    | some h=>match gb lo 0 h with
      | some l=>some (.str ((s.drop l).take (Nat.sub h l)))
      | none=>none
    | none=>none
  | some (.slice e),.sli i o len z=>match bu P e,gb hi len len with
    | some sz,some h=>match gb lo 0 h with
      | some l=>cond (Nat.beq sz z&&(Nat.beq l 0||Nat.ble (Nat.succ l) len)) (some (.sli i (Nat.add o l) (Nat.sub h l) z)) none
      | none=>none
    | _,_=>none
  | some (.slice e),.nils=>match bu P e,gb hi 0 0 with
    | some _,some h=>match gb lo 0 h with
      | some _=>some .nils
      | none=>none
    | _,_=>none
  | _,_=>none
theorem tY{P:Program}{ρ:Names}{ty:TypeId}{a r:AV}{lo hi:Option AV}{v:Value}{vlo vhi:Option Value}(h:wj P ty a lo hi=some r)(ha:rv ρ a=some v)(hlo:∀ a,lo=some a->∃ v,vlo=some v/\rv ρ a=some v)(hlo0:lo=none->vlo=none)(hhi:∀ a,hi=some a->∃ v,vhi=some v/\rv ρ a=some v)(hhi0:hi=none->vhi=none):b5 P ρ (Instr.sliceAt ty v vlo vhi none) r:=by
  have key:∀ u,rv ρ r=some u->uL P ty v vlo vhi none (λ x=>x=u)->b5 P ρ (Instr.sliceAt ty v vlo vhi none) r:=λ u hu hs=>by
    obtain⟨x,hr,rfl⟩:=kQ hs;exact⟨x,hu,hr⟩
  unfold wj at h
  split at h
  · rename_i s hu
    cases bW ha
    split at h
    · rename_i hh hhe
      split at h
      · rename_i l hle
        cases h
        refine key _ rfl ?_;unfold uL;simp only[hu];have hs:(⟨s.toArray⟩:ByteArray).size=s.length:=by simp[ByteArray.size]
        rw[hs];refine cH hhe hhi hhi0 (cH hle hlo hlo0 ?_ (Nat.le_refl _)) (Nat.le_refl _)
        congr 1
        apply ByteArray.ext;have h1:=dh hhe (Nat.le_refl _);simp only[ByteArray.data_extract];simp[List.extract_eq_take_drop]
        try rfl
      · cases h
    · cases h
  · rename_i e i o len z hu
    split at h
    · rename_i sz hh hsz hhe
      split at h
      · rename_i l hle
        cases hb:(Nat.beq sz z&&(Nat.beq l 0||Nat.ble (Nat.succ l) len)) with
        | false=>rw[hb] at h; cases h
        | true =>
          rw[hb] at h
          cases h
          simp only[Bool.and_eq_true,Bool.or_eq_true] at hb;obtain rfl:=beq_iff.1 hb.1;obtain⟨L,hL,hle1,hesz,rfl⟩:=bw ha;have h1:=dh hhe (Nat.le_refl _);have h2:=dh hle (Nat.zero_le _);refine key (.slice (some ⟨L.b,(o+l)*sz,none⟩) (hh-l) (L.tot-(o+l))) ?_ ?_
          · have e1:Nat.add o l=o+l:=rfl;have e2:Nat.sub hh l=hh-l:=rfl;simp only[rv,hL,Option.bind_some,e1,e2];rw[if_pos ⟨by omega,hesz⟩]
          · unfold uL;simp only[hu,Option.isSome_none,Bool.false_and,cond_false,hsz,ah];show dy vhi len (L.tot-o) (λ h=>dy vlo 0 h λ l_1=>Value.slice (if (L.tot-o)=l_1 then some (⟨L.b,o*sz,none⟩:Addr) else Option.map (λ x:Addr=>x.add (l_1*sz)) (some (⟨L.b,o*sz,none⟩:Addr))) (h-l_1) (L.tot-o-l_1)=Value.slice (some (⟨L.b,(o+l)*sz,none⟩:Addr)) (hh-l) (L.tot-(o+l)));refine cH hhe hhi hhi0 (cH hle hlo hlo0 ?_ (Nat.le_refl _)) (by omega);have hc:(L.tot-o-l)=L.tot-(o+l):=by omega
            rw[hc]
            congr 1
            rcases hb.2 with h0 | h0
            · have:=beq_iff.1 h0;subst this
              split
              · simp
              · simp[cD]
            · have:=Nat.le_of_ble_eq_true h0;rw[if_neg (by omega)];simp[cD,Nat.add_mul]
      · cases h
    · cases h
  · rename_i e hu
    cases ha
    split at h
    · rename_i sz hh hsz hhe
      split at h
      · rename_i l hle
        cases h
        have h1:=dh hhe (Nat.le_refl _);have h2:=dh hle (Nat.zero_le _);have e1:hh=0:=by omega
        have e2:l=0:=by omega
        subst e1 e2;refine key (.slice none 0 0) rfl ?_;unfold uL;simp only[hu,Option.isSome_none,Bool.false_and,cond_false,hsz,ah];show dy vhi 0 0 (λ h=>dy vlo 0 h λ l=>Value.slice (if 0=l then none else Option.map (λ x:Addr=>x.add (l*sz)) none) (h-l) (0-l)=Value.slice none 0 0);exact cH hhe hhi hhi0 (cH hle hlo hlo0 (by simp) (Nat.le_refl _)) (Nat.le_refl _)
      · cases h
    · cases h
  · cases h
theorem rT{ρ:Names}{v:Value}(h:rv ρ .nils=some v):v=.slice none 0 0:=(Option.some.inj h).symm
def qN(P:Program)(ty:TypeId)(a:AV)(lo hi:Option AV)(mx:AV):Option AV:=match P.underlying ty,a,hi with
  | some (.slice e),.nils,some hv=>match bu P e,gb (some mx) 0 0,gb (some hv) 0 0,gb lo 0 0 with
    | some _,some _,some _,some _=>some .nils
    | _,_,_,_=>none
  | _,_,_=>none
theorem qO{P:Program}{ρ:Names}{ty:TypeId}{a r mx:AV}{lo hi:Option AV}{v vm:Value}{vlo vhi:Option Value}(h:qN P ty a lo hi mx=some r)(ha:rv ρ a=some v)(hlo:∀ a,lo=some a->∃ v,vlo=some v/\rv ρ a=some v)(hlo0:lo=none->vlo=none)(hhi:∀ a,hi=some a->∃ v,vhi=some v/\rv ρ a=some v)(hm:rv ρ mx=some vm):b5 P ρ (Instr.sliceAt ty v vlo vhi (some vm)) r:=by
  have key:∀ u,rv ρ r=some u->uL P ty v vlo vhi (some vm) (λ x=>x=u)->b5 P ρ (Instr.sliceAt ty v vlo vhi (some vm)) r:=λ u hu hs=>by
    obtain⟨x,hr,rfl⟩:=kQ hs;exact⟨x,hu,hr⟩
  unfold qN at h
  split at h
  · rename_i e hv hu
    cases rT ha
    split at h
    · rename_i sz mm hh ll hsz hme hhe hle
      cases h
      obtain⟨vh,rfl,hvh⟩:=hhi _ rfl;have e0:mm=0:=by have:=dh hme (Nat.le_refl _); omega
      have e1:hh=0:=by have:=dh hhe (Nat.le_refl _); omega
      have e2:ll=0:=by have:=dh hle (Nat.le_refl _); omega
      subst e0 e1 e2;refine key (.slice none 0 0) rfl ?_;unfold uL;simp only[hu,Option.isSome_some,Option.isNone_some,Bool.and_false,cond_false,hsz,ah];show dy (some vm) 0 0 (λ m=>dy (some vh) 0 m λ h=>dy vlo 0 h λ l=>Value.slice (if m=l then none else Option.map (λ x:Addr=>x.add (l*sz)) none) (h-l) (m-l)=Value.slice none 0 0);exact cH hme (λ a ha=>by cases ha; exact⟨vm,rfl,hm⟩) (λ h=>by cases h) (cH hhe (λ a ha=>by cases ha; exact⟨vh,rfl,hvh⟩) (λ h=>by cases h) (cH hle hlo hlo0 (by simp) (Nat.le_refl _)) (Nat.le_refl _)) (Nat.le_refl _)
    · cases h
  · cases h
end Go.Gx

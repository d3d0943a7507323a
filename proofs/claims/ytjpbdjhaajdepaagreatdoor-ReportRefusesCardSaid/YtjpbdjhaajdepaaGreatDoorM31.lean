import Derived.Test.YtjpbdjhaajdepaaGreatDoorM03
import Derived.Test.YtjpbdjhaajdepaaGreatDoorM30
set_option linter.unusedVariables false
set_option maxRecDepth 100000
noncomputable section
namespace Go.Proofs.YtjpbdjhaajdepaaGreatDoor
open Go Go.Vc Tryz
theorem U3:fZ prog 37 82 (.agg Mi.cells.toArray) 6 72:=fZ.mk' underlying37 (by kernel_rfl) rfl (by decide)
abbrev Ve (a:OA) (c:Nat) (l:List Bs):aI:=bY 82 6 Bs.cells a c l
theorem Hh{w:World}{M:Sm}(h:M.In w)(hb:M.bs.length<=1000) :
    CP 8 #[.agg M.cells.toArray] w (λ r w'=>∃ (ba:OA) (bc:Nat),r=.agg ({ M with ba:=ba,bc:=bc }:Sm).cells.toArray/\St w w' (held λ w''=>cN 6 Bs.cells w'' ba M.bs)):=by
  refine yK ?_;unfold vR;refine(St.start w).one.aB M.cells.toArray λ r1 w1 s1=>s1.aB lT.cells.toArray λ r2 w2 s2=>?_;have s2:St w w2 (Sep [ah r2 lT.cells.toArray 39,ah r1 M.cells.toArray 32,emp]):=s2;refine⟨_,_,_,_,_,_,_,_,_,_,_,s2.aM 1 0 rfl rfl,_,s2.ag 1 rfl 11,_,_,_,s2.ag 1 rfl 12,_,_,_,s2.ag 1 rfl 14,s2.aB lT.cells.toArray λ r3 w3 s3=>s3.aD 0 rfl ({ M with bs:=[],ba:=none,bc:=0 }:Sm).cells rfl (Sm.one _) λ w4 s4=>?_⟩;refine⟨λ n w' m=>∃ (k:Nat) (ba:OA) (bc:Nat),n=k/\k<=M.bs.length/\m=M.bs.length-k/\St w w' (Sep [Ve ba bc (M.bs.take k),ah r3 ({ M with bs:=M.bs.take k,ba:=ba,bc:=bc }:Sm).cells.toArray 39,ah r2 lT.cells.toArray 39,ah r1 M.cells.toArray 32,emp]),⟨M.bs.length,0,none,0,rfl,by omega,by omega,?_⟩,?_⟩
  · have s5:St w w4 (Sep (ah r3 ({ M with bs:=[],ba:=none,bc:=0 }:Sm).cells.toArray 39 :: [ah r2 lT.cells.toArray 39,ah r1 M.cells.toArray 32,emp])):=s4;exact s5.dI
  rintro w5 m1 n25 ⟨k,ba,bc,rfl,hk,hm,s5⟩ -;refine⟨_,_,_,s5.ag 3 rfl 13,?_⟩
  by_cases hlt:(k:Int)<(M.bs.length:Int)
  · have hx:M.bs[k]? = some (M.bs[k]'(by omega)):=gE (by omega);generalize M.bs[k]'(by omega)=x at hx;obtain⟨q,hq,hcl⟩:=(h.aC s5.aC).bs.at hx;have hl:(M.bs.take k).length=k:=by rw[List.length_take]; omega
    refine cT (dT hlt) ⟨_,_,_,s5.ag 3 rfl 13,aq hq ⟨by omega,by omega,_,_,_,_,_,_,_,_,hcl,s5.aB Mi.cells.toArray λ r4 w6 s6=>s6.aD 0 rfl x.cells rfl x.one λ w7 s7=>?_⟩⟩;refine⟨ba,(M.bs.take k).length,bc,s7.ag 2 rfl 13,_,s7.ag 0 rfl 0,_,s7.ag 0 rfl 1,_,s7.ag 0 rfl 2,_,s7.ag 0 rfl 3,_,s7.ag 0 rfl 4,_,_,_,s7.ag 0 rfl 5,dr (l:=M.bs.take k) U3 Bs.len x.one (x:=x) (s7.out 1 rfl) (by omega) (by omega) (λ a' c' w' s8=>?_) rfl⟩;have s8:St w w' (Sep (ah r4 x.cells.toArray 35 :: Ve a' c' (M.bs.take k++[x]) :: [ah r3 ({ M with bs:=M.bs.take k,ba:=ba,bc:=bc }:Sm).cells.toArray 39,ah r2 lT.cells.toArray 39,ah r1 M.cells.toArray 32,emp])):=s8.back (i:=1) (by show 1<6; decide);refine s8.aJ 2 rfl (j:=13) (by show 13<15; decide) rfl λ w10 s10=>⟨M.bs.length-(k+1),by omega,k+1,a',c',aG ⟨by omega,by omega⟩,by omega,rfl,?_⟩;rw[aO hx];exact s10.second
  obtain rfl:k=M.bs.length:=by omega
  rw[List.take_length] at s5;refine cF (dF hlt) ⟨_,_,_,_,_,_,_,_,_,_,_,_,_,_,_,_,_,_,_,_,_,s5.cellsIn 1 rfl,s5.aD 2 rfl ({ M with ba:=ba,bc:=bc }:Sm).cells rfl (Sm.one _) λ w11 s11=>⟨_,_,_,_,_,_,_,_,_,_,_,_,_,_,_,_,_,_,_,_,_,s11.cellsIn 2 rfl,ba,bc,rfl,?_⟩⟩;exact((s11.aA [0]).vP (bp Bs.len)).single
theorem Hs{w:World}{a1:OA}{c1:Nat}{a2:OA}{c2:Nat}{l:List Int}(h1:cN 1 i1 w a1 l)(h2:cN 1 i1 w a2 l)(hl:l.length<=1000000) :
    CP 23 #[.slice a1 l.length c1,.slice a2 l.length c2] w (λ r w'=>r=.bool true/\aF w w' []):=by
  refine tH ?_;unfold oX;refine cF (by simp) ⟨λ n w' m=>∃ k:Nat,n=k/\k<=l.length/\m=l.length-k/\aF w w' [],⟨l.length,0,rfl,by omega,by omega,aF.refl _ _⟩,?_⟩;rintro w1 m n ⟨k,rfl,hk,hm,hc⟩ -
  by_cases hlt:(k:Int)<(l.length:Int)
  · have hx:l[k]? = some (l[k]'(by omega)):=gE (by omega);generalize l[k]'(by omega)=x at hx;have hd:aF w w1.drew []:=hc.trans (aF.drew w1 []) (by simp);obtain⟨q1,hq1,hc1⟩:=eu (h1.aC hd) hx;obtain⟨q2,hq2,hc2⟩:=eu (h2.aC hd) hx;refine cT (dT hlt) (aq hq1 ⟨by omega,by omega,x,hc1,aq hq2 ⟨by omega,by omega,x,hc2,cF (by simp) ⟨l.length-(k+1),by omega,k+1,aG ⟨by omega,by omega⟩,by omega,rfl,hd⟩⟩⟩)
  · exact cF (dF hlt) ⟨rfl,hc⟩
theorem Rz{w:World}{M1 M2:Sm}(h1:M1.In w)(h2:M2.In w)(e:M1.er=M2.er)(l1:M1.ps.length<=1000)(l2:M1.bs.length<=1000)(l3:M1.rr.length<=1000)(l4:∀ x∈M1.bs,x.pts.length<=1000) :
    CP 9 #[.agg M1.cells.toArray,.agg M2.cells.toArray] w (λ r w'=>r=.bool true/\aF w w' []):=by
  refine zU ?_;unfold yZ;have e1:M2.cn=M1.cn:=show M2.er.cn=M1.er.cn by rw[e]
  have e2:M2.rf=M1.rf:=show M2.er.rf=M1.er.rf by rw[e]
  have e3:M2.ps=M1.ps:=show M2.er.ps=M1.er.ps by rw[e]
  have e4:M2.bs.map Bs.er=M1.bs.map Bs.er:=show M2.er.bs=M1.er.bs by rw[e]
  have e5:M2.rr=M1.rr:=show M2.er.rr=M1.er.rr by rw[e]
  have eb:M2.bs.length=M1.bs.length:=by have:=congrArg List.length e4; simpa using this
  refine(St.start w).one.aB M1.cells.toArray λ r1 w1 s1=>s1.aB M2.cells.toArray λ r2 w2 s2=>?_;have s2:St w w2 (Sep [ah r2 M2.cells.toArray 39,ah r1 M1.cells.toArray 39,emp]):=s2;let Q:World->Prop:=λ w'=>St w w' (Sep [ah r2 M2.cells.toArray 39,ah r1 M1.cells.toArray 39,emp]);refine⟨λ b w'=>b=false/\Q w',?_,_,_,_,_,_,_,_,_,_,_,_,s2.aM 1 0 rfl rfl,_,_,_,_,_,_,_,_,_,_,_,s2.aM 0 0 rfl rfl,cF (by rw[e1]; simp) ⟨_,s2.ag 1 rfl 11,_,s2.ag 0 rfl 11,cF (by rw[e2]; simp) ⟨_,_,_,s2.ag 1 rfl 12,_,_,_,s2.ag 0 rfl 12,cF (by rw[e3]; simp) ⟨_,_,_,s2.ag 1 rfl 13,_,_,_,s2.ag 0 rfl 13,cF (by rw[eb]; simp) ⟨_,_,_,s2.ag 1 rfl 14,_,_,_,s2.ag 0 rfl 14,?_⟩⟩⟩⟩⟩
  · rintro w3 b ⟨rfl,s3⟩ -;refine cF rfl ⟨λ n w' m=>∃ k:Nat,n=k/\k<=M1.ps.length/\m=M1.ps.length-k/\Q w',⟨M1.ps.length,0,rfl,by omega,by omega,s3⟩,?_⟩;rintro w4 m1 n ⟨k,rfl,hk,hm,s4⟩ -;refine⟨_,_,_,s4.ag 1 rfl 12,?_⟩
    by_cases hlt:(k:Int)<(M1.ps.length:Int)
    · have hx:M1.ps[k]? = some (M1.ps[k]'(by omega)):=gE (by omega);generalize M1.ps[k]'(by omega)=u at hx;have s5:=s4.quiet (aF.drew w4 []);obtain⟨q1,hq1,hc1⟩:=(h1.aC s5.aC).ps.at hx;obtain⟨q2,hq2,hc2⟩:=(h2.aC s5.aC).ps.at (by rw[e3]; exact hx);refine cT (dT hlt) ⟨_,_,_,s5.ag 1 rfl 12,aq hq1 ⟨by omega,by omega,u,hc1,_,_,_,s5.ag 0 rfl 12,aq hq2 ⟨by omega,by rw[e3]; omega,u,hc2,cF (by simp[I6.beq]) ⟨M1.ps.length-(k+1),by omega,k+1,aG ⟨by omega,by omega⟩,by omega,rfl,s5⟩⟩⟩⟩
    refine cF (dF hlt) ⟨λ n w' m=>∃ k:Nat,n=k/\k<=M1.bs.length/\m=M1.bs.length-k/\Q w',⟨M1.bs.length,0,rfl,by omega,by omega,s4⟩,?_⟩;clear hlt hm hk;rintro w5 m3 n ⟨k,rfl,hk,hm,s5⟩ -;refine⟨_,_,_,s5.ag 1 rfl 13,?_⟩
    by_cases hlt:(k:Int)<(M1.bs.length:Int)
    · have hx:M1.bs[k]? = some (M1.bs[k]'(by omega)):=gE (by omega);have hy:M2.bs[k]? = some (M2.bs[k]'(by omega)):=gE (by omega);generalize M1.bs[k]'(by omega)=x at hx;generalize M2.bs[k]'(by omega)=y at hy;have exy:x.er=y.er:=by
        have g1:(M1.bs.map Bs.er)[k]? = some x.er:=by rw[List.getElem?_map,hx]; rfl
        have g2:(M2.bs.map Bs.er)[k]? = some y.er:=by rw[List.getElem?_map,hy]; rfl
        rw[e4,g1] at g2;exact Option.some.inj g2
      have x1:y.nm=x.nm:=show y.er.nm=x.er.nm by rw[exy]
      have x2:y.dm=x.dm:=show y.er.dm=x.er.dm by rw[exy]
      have x3:y.bi=x.bi:=show y.er.bi=x.er.bi by rw[exy]
      have x4:y.wd=x.wd:=show y.er.wd=x.er.wd by rw[exy]
      have x5:y.out=x.out:=show y.er.out=x.er.out by rw[exy]
      have x6:y.pts=x.pts:=show y.er.pts=x.er.pts by rw[exy]
      have s6:St w w5.drew (Sep [ah r2 M2.cells.toArray 39,ah r1 M1.cells.toArray 39,emp]):=s5.quiet (aF.drew w5 []);obtain⟨q1,hq1,hc1⟩:=h1.bs.at hx;obtain⟨q2,hq2,hc2⟩:=h2.bs.at hy;have hx' : ∀ {w' : World} {l:List aI},St w w' (Sep l)->af w' (q1.add (k*6)) 0 x.cells:=λ s=>bG s.aC hc1;have hy' : ∀ {w' : World} {l:List aI},St w w' (Sep l)->af w' (q2.add (k*6)) 0 y.cells:=λ s=>bG s.aC hc2;refine cT (dT hlt) ⟨λ a b w'=>∃ B:List aI,St w w' (Sep (ah a x.cells.toArray 82 :: ah b y.cells.toArray 82 :: B))/\Q w',?_,_,_,_,s6.ag 1 rfl 13,aq hq1 ⟨by omega,by omega,_,_,_,_,_,_,_,_,hx' s6,_,_,_,s6.ag 0 rfl 13,aq hq2 ⟨by omega,by omega,_,_,_,_,_,_,_,_,hy' s6,?_,?_⟩⟩⟩
      · rintro w6 r3 r4 ⟨B,s7,q7⟩ -;refine⟨λ b w'=>b=false/\Q w',?_,_,s7.ag 0 rfl 0,_,s7.ag 1 rfl 0,cF (by rw[x1,E1 _ _ rfl]; rfl) ⟨_,s7.ag 0 rfl 1,_,s7.ag 1 rfl 1,cF (by rw[x2]; simp) ⟨_,s7.ag 0 rfl 2,_,s7.ag 1 rfl 2,cF (by rw[x3]; simp) ⟨_,s7.ag 0 rfl 3,_,s7.ag 1 rfl 3,cF (by rw[x4]; simp) ⟨_,s7.ag 0 rfl 4,_,s7.ag 1 rfl 4,cF (by rw[x5]; simp) ⟨_,_,_,s7.ag 0 rfl 5,_,_,_,s7.ag 1 rfl 5,?_⟩⟩⟩⟩⟩⟩
        · rintro w7 b ⟨rfl,q8⟩ -;exact cF rfl ⟨M1.bs.length-(k+1),by omega,k+1,aG ⟨by omega,by omega⟩,by omega,rfl,q8⟩
        · have i2:=(h2.aC s7.aC).bi y (List.mem_of_getElem? hy);have i1':=(h1.aC s7.aC).bi x (List.mem_of_getElem? hx);have:=l4 x (List.mem_of_getElem? hx);rw[Bs.In,x6] at i2;rw[x6];refine au (Hs i1' i2 (by omega)) ?_;rintro v w7 ⟨rfl,c7⟩;exact⟨true,rfl,rfl,St.quiet q7 c7⟩
      · exact s6.aB Mi.cells.toArray λ r5 w9 s9=>⟨hy' s9,s9.ag 1 rfl 13,hx' s9,s9.ag 2 rfl 13,s9.aB Mi.cells.toArray λ r6 w10 s10=>⟨hy' s10,s10.ag 2 rfl 13,hx' s10,s10.ag 3 rfl 13,s10.aD 1 rfl x.cells rfl x.one λ w11 s11=>⟨hy' s11,s11.ag 2 rfl 13,s11.aD 0 rfl y.cells rfl y.one λ w12 s12=>⟨[],s12.aA [1,0],s12.aA [2,3,4]⟩⟩⟩⟩
      · exact s6.aB Mi.cells.toArray λ r7 w13 s9=>⟨hy' s9,s9.ag 1 rfl 13,hx' s9,s9.ag 2 rfl 13,s9.aB Mi.cells.toArray λ r8 w14 s10=>⟨hy' s10,s10.ag 2 rfl 13,hx' s10,s10.ag 3 rfl 13,s10.aD 0 rfl x.cells rfl x.one λ w15 s11=>⟨hy' s11,s11.ag 2 rfl 13,s11.aD 1 rfl y.cells rfl y.one λ w16 s12=>⟨[],s12.aA [0,1],s12.aA [2,3,4]⟩⟩⟩⟩
    exact cF (dF hlt) ⟨rfl,s5.aC⟩
  · rw[e5];have i2:=(h2.aC s2.aC).rr;rw[e5] at i2;refine au (Hs (h1.aC s2.aC).rr i2 (by omega)) ?_;rintro v w7 ⟨rfl,c7⟩;exact⟨true,rfl,rfl,St.quiet s2 c7⟩
theorem U0:fZ prog 22 45 (.agg Vf) 11 96:=fZ.mk' underlying22 (by kernel_rfl) rfl (by decide)
abbrev Ry (a:OA) (c:Nat) (l:List Ev):aI:=bY 45 11 Ev.cells a c l
theorem Ev.len(e:Ev):e.cells.length=11:=rfl
theorem OH{a:OA}{c:Nat}:(if c=0 then a else Option.map (λ x=>Addr.add x (0*11)) a)=a:=by
  split
  · rfl
  · cases a<;>simp[Addr.add]
theorem M5{α:Type}{sz:Nat}{f:α->List Value}{w:World}{a:OA}{l:List α}(h:cN sz f w a l)(n:Nat):cN sz f w a (l.take n):=λ i x hx=>h i x (by
  rw[List.getElem?_take] at hx
  split at hx
  · exact hx
  · cases hx)
theorem rS{σ:Cs}{k:Nat}(IV:Iv σ k)(hk:k<=61){M:Sm}(hM:M.er=Sh σ):M.ps.length<=1000/\M.bs.length<=1000/\M.rr.length<=1000/\∀ x∈M.bs,x.pts.length<=1000:=by
  have e3:M.ps=if σ.S.ph=0 then [] else σ.C.cl.map Rn.p:=show M.er.ps=_ by rw[hM]; rfl
  have e4:M.bs.map Bs.er=Md σ:=show M.er.bs=_ by rw[hM]; rfl
  have e5:M.rr=σ.rr:=show M.er.rr=_ by rw[hM]; rfl
  have hlen:M.bs.length=σ.S.s.bd.length:=by have:=congrArg List.length e4; simpa[Md] using this
  have h8:=Jz IV;have hr:=IV.rr;have hb:=IV.bd.1 8;refine⟨?_,by omega,by rw[e5]; omega,λ x hx=>?_⟩
  · rw[e3]
    split
    · decide
    · rename_i h0;have:=(IV.ok.c h0).ok.cl;rw[List.length_map]; omega
  · have hx2:x.er∈Md σ:=by rw[<- e4]; exact List.mem_map_of_mem hx
    obtain⟨i,hi,hxi⟩:=List.mem_map.1 hx2;have hph:σ.S.ph≠0:=λ h0=>by
      rw[show σ.S.s.bd=[] from show σ.S.s.er.bd=fo.bd by rw[IV.ok.z h0]] at hi
      cases hi
    have h1:x.pts.length=σ.C.cl.length:=show x.er.pts.length=_ by rw[<- hxi]; simp[E0]
    have:=(IV.ok.c hph).ok.cl;omega
theorem IN(aw:EY){w:World}{a:OA}{c:Nat}{l:List Ev}(o:Po)(h:cN 11 Ev.cells w a l)(hc:l.length<=c)(hi:∀ e∈l,e.In) :
    CP 4 #[.slice a l.length c,o.v] w (λ r w'=>r=.bool true/\aF w w' []):=by
  refine mA ?_;unfold iw;refine(St.start w).one.aB o.cells.toArray λ r1 w1 s1=>au (Pj (h.aC s1.aC)) ?_;rintro v w2 ⟨b,rfl,rfl,hf⟩;refine⟨b,rfl,?_⟩;have fin:∀ {w2:World},aF w w2 []->Calls prog 6 #[] w2 (λ e w'=>∃ b,e=.returned (.bool b)/\(Value.bool b=.bool true/\aF w w' [])):=λ hc=>au (aw _) λ v w' ⟨h1,h2⟩=>by subst h1; exact⟨true,rfl,rfl,hc.trans h2 (by simp)⟩
  cases b with
  | false=>exact cT rfl (fin s1.aC)
  | true =>
  have hl:=hf rfl;have IV:=y9 o l hi;refine cF rfl ⟨_,_,_,_,s1.cellsIn 0 rfl,au (p6 o (h.aC s1.aC) hi (by omega)) ?_⟩;rintro v w4 ⟨M,rfl,hM,k4⟩;have s4:St w w4 (Sep [held M.In,ah r1 o.cells.toArray 24,emp]):=s1.and k4;obtain⟨q1,q2,q3,q4⟩:=rS IV (by omega) hM;refine⟨_,_,_,_,_,_,_,_,_,_,_,_,_,_,_,_,_,_,_,_,_,rfl,au (Hh (s4.cr 0 rfl) q2) ?_⟩;rintro v w5 ⟨ba,bc,rfl,k5⟩;have s5:St w w5 (Sep [held λ w''=>cN 6 Bs.cells w'' ba M.bs,held M.In,ah r1 o.cells.toArray 24,emp]):=s4.and k5;have s5:St w w5 (Sep [held ({ M with ba:=ba,bc:=bc }:Sm).In,ah r1 o.cells.toArray 24,emp]):=s5.kY (aR _) (aR _) λ w' i1 i2=>⟨i2.ps,i1,i2.bi,i2.rr⟩;have hM:({ M with ba:=ba,bc:=bc }:Sm).er=Sh (lD o l):=hM;generalize hMf:({ M with ba:=ba,bc:=bc }:Sm)=Mf at s5 hM;obtain⟨q1,q2,q3,q4⟩:=rS IV (by omega) hM;refine⟨_,_,_,_,_,_,_,_,_,_,_,_,_,_,_,_,_,_,_,_,_,rfl,s5.aB lT.cells.toArray λ r2 w6 s6=>s6.aD 0 rfl Mf.cells rfl (Sm.one _) λ w7 s7=>?_⟩;have s7:St w w7 (Sep [ah r2 Mf.cells.toArray 39,held Mf.In,ah r1 o.cells.toArray 24,emp]):=s7;let Q:World->Option Addr->Nat->List Ev->Prop:=λ w' a c kp=>St w w' (Sep [Ry a c kp,ah r2 Mf.cells.toArray 39,held Mf.In,ah r1 o.cells.toArray 24,emp]);refine⟨λ a8 l8 c8 x n w' m=>∃ (k:Nat) (kp:List Ev),n=k/\k<=l.length/\m=l.length-k/\l8=kp.length/\kp.length<=k/\(∀ e∈kp,e.In)/\x=(lD o (l.take k)).rf/\lD o kp={ lD o (l.take k) with rf:=0 }/\Q w' a8 c8 kp,⟨l.length,0,[],rfl,by omega,by omega,rfl,by decide,by simp,rfl,rfl,s7.dI⟩,?_⟩;rintro w8 m1 a8 l8 c8 x n ⟨k,kp,rfl,hk,hm,rfl,hkl,hki,rfl,hrun,s8⟩ -
  by_cases hlt:(k:Int)<(l.length:Int)
  · have hx:l[k]? = some (l[k]'(by omega)):=gE (by omega);generalize l[k]'(by omega)=e at hx;have hw1:IntKind.i64.wrap ((k:Int)+1)=((k+1:Nat):Int):=aG ⟨by omega,by omega⟩;have hlk:(l.take (k+1)).length=k+1:=by rw[List.length_take]; omega
    have hs9:Q w8.drew a8 c8 kp:=St.quiet s8 (aF.drew w8 []);have IVk:=y9 o (l.take (k+1)) λ e he=>hi e (List.mem_of_mem_take he);have e11:(Value.slice (if c=((0:Int)).toNat then a else Option.map (λ x=>Addr.add x (((0:Int)).toNat*11)) a) ((((k+1:Nat):Int)).toNat-((0:Int)).toNat) (c-((0:Int)).toNat))=.slice a (l.take (k+1)).length c:=by
      rw[hlk];show Value.slice (if c=0 then a else Option.map (λ x=>Addr.add x (0*11)) a) (k+1) c=_;rw[OH]
    refine cT (dT hlt) ?_;rw[hw1,e11];refine⟨by omega,by omega,by decide,by omega,_,_,_,_,St.cellsIn hs9 3 rfl,au (p6 o (M5 (h.aC (St.aC hs9)) (k+1)) (λ e he=>hi e (List.mem_of_mem_take he)) (by omega)) ?_⟩;rintro v w9 ⟨Mk,rfl,hMk,k9⟩;have s9' : St w w9 (Sep [held Mk.In,Ry a8 c8 kp,ah r2 Mf.cells.toArray 39,held Mf.In,ah r1 o.cells.toArray 24,emp]):=St.and hs9 k9;have s9:Q w9 a8 c8 kp:=s9'.second;have hrf:Mk.rf=(lD o (l.take (k+1))).rf:=show Mk.er.rf=_ by rw[hMk]; rfl
    refine⟨_,_,_,_,_,_,_,_,_,_,_,Mk.rf,_,_,_,_,_,_,_,_,_,rfl,λ a' l' c' w'=>∃ kp' : List Ev,l' = kp'.length/\kp'.length<=k+1/\(∀ e∈kp',e.In)/\lD o kp' = { lD o (l.take (k+1)) with rf:=0 }/\Q w' a' c' kp',?_,?_⟩
    · rintro w10 a12 l12 c12 ⟨kp',rfl,j1,j2,j3,j4⟩ -;exact⟨l.length-(k+1),by omega,k+1,kp',rfl,by omega,rfl,rfl,j1,j2,hrf,j3,j4⟩
    have hsn:lD o (l.take (k+1))=fh (lD o (l.take k)) e:=by rw[aO hx,u7]
    rw[hsn] at hrf;rw[hsn];generalize lD o (l.take k)=σ at *
    by_cases ha:Ad σ.S σ.C e≠0
    · have hst:fh σ e={ σ with rf:=σ.rf+1 }:=by unfold fh; rw[if_pos ha]
      rw[hst] at hrf;rw[hst];refine cF (by rw[hrf]; show(σ.rf+1==σ.rf)=false; rw[beq_eq_false_iff_ne]; omega) ⟨kp,rfl,by omega,hki,hrun,s9⟩
    · have hrf2:(fh σ e).rf=σ.rf:=by unfold fh; rw[if_neg ha]
      obtain⟨q,hq,hcl⟩:=(h.aC (St.aC s9)).at hx;refine cT (by rw[hrf,hrf2]; exact beq_self_eq_true _) (aq hq ⟨by omega,by omega,_,_,_,e.want,_,_,hcl,dr (l:=kp) U0 Ev.len e.one (x:=e) (St.out s9 0 rfl) (by omega) (by omega) (λ a' c' w' s10=>?_) rfl⟩);refine⟨kp++[e],rfl,by rw[List.length_append,List.length_singleton]; omega,λ y hy=>(List.mem_append.1 hy).elim (hki y) λ g=>by rw[List.mem_singleton.1 g]; exact hi e (List.mem_of_getElem? hx),?_,s10⟩;rw[u7,hrun];unfold fh;rw[if_neg ha,if_neg ha]
  obtain rfl:k=l.length:=by omega
  rw[List.take_length] at hrun;have IVp:=y9 o kp hki;refine cF (dF hlt) ⟨_,_,_,_,St.cellsIn s8 3 rfl,au (p6 o ((St.out s8 0 rfl).rd Ev.len) hki (by omega)) ?_⟩;rintro v w13 ⟨M3,rfl,hM3,k13⟩;have s13:St w w13 (Sep [held M3.In,Ry a8 c8 kp,ah r2 Mf.cells.toArray 39,held Mf.In,ah r1 o.cells.toArray 24,emp]):=St.and s8 k13;refine⟨_,_,_,_,_,_,_,_,_,_,_,_,_,_,_,_,_,_,_,_,_,rfl,au (Hh (s13.cr 0 rfl) (rS IVp (by omega) hM3).2.1) ?_⟩;rintro v w14 ⟨ba3,bc3,rfl,k14⟩;have s14:St w w14 (Sep [held λ w''=>cN 6 Bs.cells w'' ba3 M3.bs,held M3.In,Ry a8 c8 kp,ah r2 Mf.cells.toArray 39,held Mf.In,ah r1 o.cells.toArray 24,emp]):=s13.and k14;have s14:St w w14 (Sep [held ({ M3 with ba:=ba3,bc:=bc3 }:Sm).In,Ry a8 c8 kp,ah r2 Mf.cells.toArray 39,held Mf.In,ah r1 o.cells.toArray 24,emp]):=s14.kY (aR _) (aR _) λ w' i1 i2=>⟨i2.ps,i1,i2.bi,i2.rr⟩;have hM3:({ M3 with ba:=ba3,bc:=bc3 }:Sm).er=Sh (lD o kp):=hM3;generalize hMg:({ M3 with ba:=ba3,bc:=bc3 }:Sm)=Mg at s14 hM3;refine⟨_,_,_,_,_,_,_,_,_,_,_,_,_,_,_,_,_,_,_,_,_,rfl,s14.aB lT.cells.toArray λ r4 w15 s15=>s15.aD 0 rfl Mg.cells rfl (Sm.one _) λ w16 s16=>?_⟩;have s16:St w w16 (Sep [ah r4 Mg.cells.toArray 39,held Mg.In,Ry a8 c8 kp,ah r2 Mf.cells.toArray 39,held Mf.In,ah r1 o.cells.toArray 24,emp]):=s16;refine s16.aJ 3 rfl (j:=11) (by show 11<15; decide) rfl λ w17 s17=>?_;have s17:St w w17 (Sep [ah r4 Mg.cells.toArray 39,held Mg.In,Ry a8 c8 kp,ah r2 ({ Mf with rf:=0 }:Sm).cells.toArray 39,held Mf.In,ah r1 o.cells.toArray 24,emp]):=s17;have hin:({ Mf with rf:=0 }:Sm).In w17:=let i:=s17.cr 4 rfl; ⟨i.ps,i.bs,i.bi,i.rr⟩;have heq:({ Mf with rf:=0 }:Sm).er=Mg.er:=by
    rw[hM3,hrun];show({ Mf.er with rf:=0 }:Sm)=_;rw[hM]; rfl
  refine⟨_,_,_,_,_,_,_,_,_,_,_,_,_,_,_,_,_,_,_,_,_,s17.cellsIn 3 rfl,_,_,_,_,_,_,_,_,_,_,_,_,_,_,_,_,_,_,_,_,_,s17.cellsIn 0 rfl,au (Rz hin (s17.cr 1 rfl) heq q1 q2 q3 q4) ?_⟩;rintro v w18 ⟨rfl,c18⟩;exact⟨true,rfl,cT rfl (fin (s17.aC.trans c18 (by simp)))⟩
end Go.Proofs.YtjpbdjhaajdepaaGreatDoor
namespace Go.Gx
open Go Go.Vc
inductive Tr (α:Type) where
  | leaf (l:List (Nat×α))
  | node (a b:Tr α)
def look{α:Type}(l:List (Nat×α)):Nat->Option α :=
  List.rec (motive:=λ _=>Nat->Option α) (λ _=>none) (λ p _ ih i=>Bool.rec (motive:=λ _=>Option α) (ih i) (some p.2) (Nat.beq p.1 i)) l
def Ip{α:Type}(l:List (Nat×α)):Nat->α->List (Nat×α) :=
  List.rec (motive:=λ _=>Nat->α->List (Nat×α)) (λ i v=>[(i,v)]) (λ p l ih i v=>Bool.rec (motive:=λ _=>List (Nat×α)) (Bool.rec (motive:=λ _=>List (Nat×α)) (p :: ih i v) ((i,v) :: p :: l) (Nat.ble i p.1)) ((i,v) :: l) (Nat.beq p.1 i)) l
def Tr.get{α:Type}(t:Tr α):Nat->Option α :=
  Tr.rec (motive:=λ _=>Nat->Option α) (λ l=>look l) (λ _ _ iha ihb i=>Bool.rec (motive:=λ _=>Option α) (ihb (Nat.div i 2)) (iha (Nat.div i 2)) (Nat.beq (Nat.mod i 2) 0)) t
def Tr.put{α:Type}(t:Tr α):Nat->α->Tr α :=
  Tr.rec (motive:=λ _=>Nat->α->Tr α) (λ l i v=>.leaf (Ip l i v)) (λ a b iha ihb i v=>Bool.rec (motive:=λ _=>Tr α) (.node a (ihb (Nat.div i 2) v)) (.node (iha (Nat.div i 2) v) b) (Nat.beq (Nat.mod i 2) 0)) t
theorem look_nil{α:Type}(i:Nat):look ([]:List (Nat×α)) i=none:=rfl
theorem iN{α:Type}(p:Nat×α)(l:List (Nat×α))(i:Nat):look (p :: l) i=cond (Nat.beq p.1 i) (some p.2) (look l i):=by
  show Bool.rec (motive:=λ _=>Option α) (look l i) (some p.2) (Nat.beq p.1 i)=_
  cases Nat.beq p.1 i<;>rfl
theorem Kz{α:Type}(i:Nat)(v:α):Ip [] i v=[(i,v)]:=rfl
theorem Iq{α:Type}(p:Nat×α)(l:List (Nat×α))(i:Nat)(v:α):Ip (p :: l) i v=cond (Nat.beq p.1 i) ((i,v) :: l) (cond (Nat.ble i p.1) ((i,v) :: p :: l) (p :: Ip l i v)):=by
  show Bool.rec (motive:=λ _=>List (Nat×α)) (Bool.rec (motive:=λ _=>List (Nat×α)) (p :: Ip l i v) ((i,v) :: p :: l) (Nat.ble i p.1)) ((i,v) :: l) (Nat.beq p.1 i)=_
  cases Nat.beq p.1 i<;>cases Nat.ble i p.1<;>rfl
theorem Tr.oI{α:Type}(a b:Tr α)(i:Nat):(Tr.node a b).get i=cond (Nat.beq (Nat.mod i 2) 0) (a.get (Nat.div i 2)) (b.get (Nat.div i 2)):=by
  show Bool.rec (motive:=λ _=>Option α) (b.get (Nat.div i 2)) (a.get (Nat.div i 2)) (Nat.beq (Nat.mod i 2) 0)=_
  cases Nat.beq (Nat.mod i 2) 0<;>rfl
theorem Tr.K7{α:Type}(a b:Tr α)(i:Nat)(v:α):(Tr.node a b).put i v=cond (Nat.beq (Nat.mod i 2) 0) (.node (a.put (Nat.div i 2) v) b) (.node a (b.put (Nat.div i 2) v)):=by
  show Bool.rec (motive:=λ _=>Tr α) (.node a (b.put (Nat.div i 2) v)) (.node (a.put (Nat.div i 2) v) b) (Nat.beq (Nat.mod i 2) 0)=_
  cases Nat.beq (Nat.mod i 2) 0<;>rfl
def Tr.full{α:Type}:Nat->Tr α
  | 0=>.leaf []
  | n+1=>.node (Tr.full n) (Tr.full n)
theorem beq_iff{a b:Nat}:Nat.beq a b=true<->a=b:=⟨Nat.eq_of_beq_eq_true,λ h=>h▸Nat.beq_refl a⟩
theorem Bu{a b:Nat}(h:a≠b):Nat.beq a b=false:=by
  cases hb:Nat.beq a b with
  | false=>rfl
  | true=>exact absurd (beq_iff.1 hb) h
theorem Az{α:Type}:∀ (l:List (Nat×α)) (i:Nat) (v:α) (j:Nat),look (Ip l i v) j=if j=i then some v else look l j
  | [],i,v,j=>by
    rw[Kz,iN]
    by_cases h:j=i
    · subst h; simp[Nat.beq_refl]
    · simp[look_nil,h,Bu (Ne.symm h)]
  | p :: l,i,v,j=>by
    rw[Iq]
    cases hb:Nat.beq p.1 i with
    | true =>
      have:=beq_iff.1 hb
      by_cases h:j=i
      · subst h; simp[iN,Nat.beq_refl]
      · simp[iN,h,Bu (Ne.symm h),this]
    | false =>
      simp only[cond_false]
      cases Nat.ble i p.1 with
      | true =>
        by_cases h:j=i
        · subst h; simp[iN,Nat.beq_refl]
        · simp[iN,h,Bu (Ne.symm h)]
      | false =>
        simp only[cond_false,iN];rw[Az l i v j]
        by_cases h:j=i
        · subst h; simp[hb]
        · simp[h]
theorem GJ{i j:Nat}(hm:Nat.mod j 2=Nat.mod i 2):Nat.div j 2=Nat.div i 2<->j=i:=by
  refine⟨λ h=>?_,λ h=>by rw[h]⟩;have h1:j%2=i%2:=hm;have h2:j / 2=i / 2:=h;omega
theorem PA(i:Nat):Nat.mod i 2=0\/Nat.mod i 2=1:=by
  have:i%2=0\/i%2=1:=by omega
  exact this
theorem bN{α:Type}:∀ (t:Tr α) (i:Nat) (v:α) (j:Nat),(t.put i v).get j=if j=i then some v else t.get j
  | .leaf l,i,v,j=>Az l i v j
  | .node a b,i,v,j=>by
    rw[Tr.K7];rcases PA i with hi | hi<;>rcases PA j with hj | hj
    · have e:Nat.beq (Nat.mod i 2) 0=true:=beq_iff.2 hi;have e' : Nat.beq (Nat.mod j 2) 0=true:=beq_iff.2 hj;rw[e];simp only[cond_true,Tr.oI,e',bN a]
      by_cases h:j=i
      · simp[h]
      · have:=(not_congr (GJ (hj.trans hi.symm))).2 h;simp[h,this]
    · have e:Nat.beq (Nat.mod i 2) 0=true:=beq_iff.2 hi;have e' : Nat.beq (Nat.mod j 2) 0=false:=by rw[hj]; rfl
      rw[e];have h:j≠i:=λ h=>by rw[h,hi] at hj; cases hj
      simp[Tr.oI,e',h]
    · have e:Nat.beq (Nat.mod i 2) 0=false:=by rw[hi]; rfl
      have e' : Nat.beq (Nat.mod j 2) 0=true:=beq_iff.2 hj;rw[e];have h:j≠i:=λ h=>by rw[h,hi] at hj; cases hj
      simp[Tr.oI,e',h]
    · have e:Nat.beq (Nat.mod i 2) 0=false:=by rw[hi]; rfl
      have e' : Nat.beq (Nat.mod j 2) 0=false:=by rw[hj]; rfl
      rw[e];simp only[cond_false,Tr.oI,e',bN b]
      by_cases h:j=i
      · simp[h]
      · have:=(not_congr (GJ (hj.trans hi.symm))).2 h;simp[h,this]
theorem th{α:Type}:∀ (n i:Nat),(Tr.full n:Tr α).get i=none
  | 0,_=>rfl
  | n+1,i=>by
    unfold Tr.full;rw[Tr.oI,th n]
    cases Nat.beq (Nat.mod i 2) 0<;>rfl
inductive AV where
  | int (k:IntKind) (n:Int)
  | bool (b:Bool)
  | str (l:List UInt8)
  | nilp
  | ptr (i o:Nat)
  | nils
  | sli (i o l z:Nat)
  | nili
  | iface (T:TypeId) (v:AV)
  | nilf
  | fn (f:FuncId) (x y:List AV)
  | yld (i:Nat)
  | agg (cs:List AV)
  | tup (vs:List AV)
structure Loc where
  b:Nat
  esz:Nat
  tot:Nat
abbrev Names:=Nat->Option Loc
mutual
def rv(ρ:Names):AV->Option Value
  | .int k n=>some (.int k n)
  | .bool b=>some (.bool b)
  | .str l=>some (.string ⟨l.toArray⟩)
  | .nilp=>some (.pointer none)
  | .ptr i o=>(ρ i).map λ L=>.pointer (some ⟨L.b,o,none⟩)
  | .nils=>some (.slice none 0 0)
  | .sli i o l z=>(ρ i).bind λ L=>if o+l<=L.tot/\L.esz=z then some (.slice (some ⟨L.b,o*z,none⟩) l (L.tot-o)) else none
  | .nili=>some .nilIface
  | .iface T v=>(rv ρ v).map (.iface T)
  | .nilf=>some .nilFunc
  | .fn f x y=>match dH ρ x,dH ρ y with
    | some xs,some ys=>some (.func (.func f) xs.toArray ys.toArray)
    | _,_=>none
  | .yld i=>(ρ i).map λ L=>.func (.yield L.b) #[] #[]
  | .agg cs=>(dH ρ cs).map λ l=>.agg l.toArray
  | .tup vs=>(dH ρ vs).map λ l=>.tuple l.toArray
def dH(ρ:Names):List AV->Option (List Value)
  | []=>some []
  | a :: l=>match rv ρ a,dH ρ l with
    | some v,some vs=>some (v :: vs)
    | _,_=>none
end
def Ext(ρ σ:Names):Prop:=∀ i L,ρ i=some L->σ i=some L
theorem Ext.refl(ρ:Names):Ext ρ ρ:=λ _ _ h=>h
theorem Ext.trans{ρ σ τ:Names}(h:Ext ρ σ)(k:Ext σ τ):Ext ρ τ:=λ i L hi=>k i L (h i L hi)
mutual
theorem Cw{ρ σ:Names}(hx:Ext ρ σ):∀ {a:AV} {v:Value},rv ρ a=some v->rv σ a=some v
  | .int _ _,_,h=>h
  | .bool _,_,h=>h
  | .str _,_,h=>h
  | .nilp,_,h=>h
  | .nils,_,h=>h
  | .nili,_,h=>h
  | .nilf,_,h=>h
  | .ptr i o,v,h=>by
    simp only[rv,Option.map_eq_some_iff] at h ⊢;obtain⟨L,hL,rfl⟩:=h;exact⟨L,hx _ _ hL,rfl⟩
  | .yld i,v,h=>by
    simp only[rv,Option.map_eq_some_iff] at h ⊢;obtain⟨L,hL,rfl⟩:=h;exact⟨L,hx _ _ hL,rfl⟩
  | .sli i o l z,v,h=>by
    simp only[rv,Option.bind_eq_some_iff] at h ⊢;obtain⟨L,hL,h⟩:=h;exact⟨L,hx _ _ hL,h⟩
  | .iface T a,v,h=>by
    simp only[rv,Option.map_eq_some_iff] at h ⊢;obtain⟨u,hu,rfl⟩:=h;exact⟨u,Cw hx hu,rfl⟩
  | .fn f x y,v,h=>by
    simp only[rv] at h ⊢
    cases hx' : dH ρ x with
    | none=>rw[hx'] at h; cases h
    | some xs =>
      cases hy:dH ρ y with
      | none=>rw[hx',hy] at h; cases h
      | some ys =>
        rw[hx',hy] at h;rw[cq hx hx',cq hx hy];exact h
  | .agg cs,v,h=>by
    simp only[rv,Option.map_eq_some_iff] at h ⊢;obtain⟨l,hl,rfl⟩:=h;exact⟨l,cq hx hl,rfl⟩
  | .tup cs,v,h=>by
    simp only[rv,Option.map_eq_some_iff] at h ⊢;obtain⟨l,hl,rfl⟩:=h;exact⟨l,cq hx hl,rfl⟩
theorem cq{ρ σ:Names}(hx:Ext ρ σ):∀ {l:List AV} {vs:List Value},dH ρ l=some vs->dH σ l=some vs
  | [],_,h=>h
  | a :: l,vs,h=>by
    simp only[dH] at h ⊢
    cases ha:rv ρ a with
    | none=>rw[ha] at h; cases h
    | some v =>
      cases hl:dH ρ l with
      | none=>rw[ha,hl] at h; cases h
      | some us =>
        rw[ha,hl] at h;rw[Cw hx ha,cq hx hl];exact h
end
theorem aL{ρ:Names}{a:AV}{l:List AV}{vs:List Value}(h:dH ρ (a :: l)=some vs):∃ v us,vs=v :: us/\rv ρ a=some v/\dH ρ l=some us:=by
  simp only[dH] at h
  cases ha:rv ρ a with
  | none=>rw[ha] at h; cases h
  | some v =>
    cases hl:dH ρ l with
    | none=>rw[ha,hl] at h; cases h
    | some us=>rw[ha,hl] at h; cases h; exact⟨v,us,rfl,rfl,rfl⟩
theorem eL{ρ:Names}{a:AV}{l:List AV}{v:Value}{us:List Value}(h1:rv ρ a=some v)(h2:dH ρ l=some us):dH ρ (a :: l)=some (v :: us):=by
  simp only[dH,h1,h2]
theorem bt{ρ:Names}:∀ {l:List AV} {vs:List Value},dH ρ l=some vs->vs.length=l.length
  | [],_,h=>by cases h; rfl
  | a :: l,vs,h=>by
    obtain⟨v,us,rfl,_,h2⟩:=aL h;simp[bt h2]
theorem tP{ρ:Names}:∀ {l:List AV} {vs:List Value} {i:Nat} {a:AV},dH ρ l=some vs->l[i]? = some a->∃ v,vs[i]? = some v/\rv ρ a=some v
  | [],_,_,_,_,h=>by simp at h
  | b :: l,vs,i,a,h,hi=>by
    obtain⟨v,us,rfl,h1,h2⟩:=aL h
    cases i with
    | zero=>simp at hi; subst hi; exact⟨v,rfl,h1⟩
    | succ i =>
      have hi' : l[i]? = some a:=by simpa using hi
      obtain⟨x,hx,hr⟩:=tP h2 hi';exact⟨x,by simpa using hx,hr⟩
theorem jZ{ρ:Names}:∀ {l m:List AV} {vs us:List Value},dH ρ l=some vs->dH ρ m=some us->dH ρ (l++m)=some (vs++us)
  | [],_,_,_,h,k=>by cases h; exact k
  | a :: l,m,vs,us,h,k=>by
    obtain⟨v,ws,rfl,h1,h2⟩:=aL h;exact eL h1 (jZ h2 k)
theorem o9{ρ:Names}:∀ {l:List AV} {vs:List Value} (n:Nat),dH ρ l=some vs->dH ρ (l.take n)=some (vs.take n)
  | [],_,_,h=>by cases h; simp[dH]
  | a :: l,vs,0,h=>rfl
  | a :: l,vs,n+1,h=>by
    obtain⟨v,ws,rfl,h1,h2⟩:=aL h;exact eL h1 (o9 n h2)
theorem zb{ρ:Names}:∀ {l:List AV} {vs:List Value} (n:Nat),dH ρ l=some vs->dH ρ (l.drop n)=some (vs.drop n)
  | [],_,_,h=>by cases h; simp[dH]
  | a :: l,vs,0,h=>h
  | a :: l,vs,n+1,h=>by
    obtain⟨v,ws,rfl,_,h2⟩:=aL h;exact zb n h2
structure AO where
  T:TypeId
  cells:List AV
  ro:Bool
abbrev AH:=Tr (Option AO)
def dK(ρ:Names)(i:Nat)(L:Loc):Names:=λ j=>if j=i then some L else ρ j
structure Live (ρ:Names) (w0 w:World) (i:Nat) (ao:AO) (L:Loc) (cur:Array Value) (vs:List Value):Prop where
  at_:ρ i=some L
  new:w0.heap.size<=L.b
  blk:∃ fz,w.heap[L.b]? = some (.cells cur ao.T fz)/\(ao.ro=false->fz=(0,0))
  val:dH ρ ao.cells=some vs
  here:cur.toList.take vs.length=vs
  room:L.tot*L.esz=cur.size
  most:L.tot<=maxLen
structure fk (w0 w:World) (ρ:Names) (h:AH):Prop where
  aC:aF w0 w []
  dom:∀ (i:Nat) (L:Loc),ρ i=some L->∃ x,h.get i=some x
  live:∀ (i:Nat) (ao:AO),h.get i=some (some ao)->∃ L cur vs,Live ρ w0 w i ao L cur vs
  inj:∀ (i j:Nat) (ao ao' : AO) (L L' : Loc),i≠j->h.get i=some (some ao)->h.get j=some (some ao')->ρ i=some L->ρ j=some L'->L.b≠L'.b
theorem Live.cell{ρ:Names}{w0 w:World}{i:Nat}{ao:AO}{L:Loc}{cur:Array Value}{vs:List Value}(h:Live ρ w0 w i ao L cur vs){o:Nat}{a:AV}(ho:ao.cells[o]? = some a) :
    ∃ v,rv ρ a=some v/\w.cell? ⟨L.b,o,none⟩=some v:=by
  obtain⟨v,hv,ha⟩:=tP h.val ho;refine⟨v,ha,?_⟩;obtain⟨fz,hblk,_⟩:=h.blk;rw[iW,hblk,eH,<- Array.getElem?_toList];have h1:(cur.toList.take vs.length)[o]? = some v:=by rw[h.here]; exact hv
  rw[List.getElem?_take] at h1
  split at h1
  · exact h1
  · cases h1
theorem fk.rewrite{w0 w w' : World}{ρ:Names}{h:AH}(hr:fk w0 w ρ h){i:Nat}{ao:AO}(hi:h.get i=some (some ao)){L:Loc}(hL:ρ i=some L){cells:List AV}{cur' : Array Value}{vs' : List Value}(hc:aF w w' [L.b])(hb:w'.heap[L.b]? = some (.cells cur' ao.T (0,0)))(hv:dH ρ cells=some vs')(hh:cur'.toList.take vs'.length=vs')(hs:L.tot*L.esz=cur'.size) :
    fk w0 w' ρ (h.put i (some { ao with cells:=cells })):=by
  obtain⟨L1,cur,vs,hl⟩:=hr.live i ao hi;obtain rfl:L=L1:=Option.some.inj (hL.symm.trans hl.at_);have get:∀ {x:Nat} {ax:AO},(h.put i (some { ao with cells:=cells })).get x=some (some ax)->∃ ax',h.get x=some (some ax'):=λ {x ax} hx=>by
    rw[bN] at hx
    split at hx
    · rename_i e; subst e; exact⟨ao,hi⟩
    · exact⟨ax,hx⟩
  refine⟨hr.aC.trans hc (λ x hx=>.inr (by simp at hx; subst hx; exact hl.new)),λ j Lj hj=>?_,λ j aj hj=>?_,λ j k aj ak Lj Lk hjk hj hk hLj hLk=>?_⟩
  · rw[bN]
    split
    · exact⟨_,rfl⟩
    · exact hr.dom j Lj hj
  · by_cases hji:j=i
    · subst hji;rw[bN,if_pos rfl] at hj
      cases hj
      exact⟨L,cur',vs',hl.at_,hl.new,⟨_,hb,λ _=>rfl⟩,hv,hh,hs,hl.most⟩
    · rw[bN,if_neg hji] at hj;obtain⟨L2,cur2,vs2,hl2⟩:=hr.live j aj hj;refine⟨L2,cur2,vs2,hl2.at_,hl2.new,?_,hl2.val,hl2.here,hl2.room,hl2.most⟩;have:=hr.inj j i aj ao L2 L hji hj hi hl2.at_ hL;obtain⟨fz,hblk,hfz⟩:=hl2.blk;exact⟨fz,hc.keep hblk (by simpa using this),hfz⟩
  · obtain⟨aj',hj'⟩:=get hj;obtain⟨ak',hk'⟩:=get hk;exact hr.inj j k aj' ak' Lj Lk hjk hj' hk' hLj hLk
theorem bR{w0 w:World}{ρ:Names}{h:AH}(hr:fk w0 w ρ h){i:Nat}(hi:h.get i=none):ρ i=none:=by
  cases hρ:ρ i with
  | none=>rfl
  | some L=>obtain⟨x,hx⟩:=hr.dom i L hρ; rw[hi] at hx; cases hx
theorem Ext.dK{ρ:Names}{i:Nat}{L:Loc}(h:ρ i=none):Ext ρ (dK ρ i L):=λ j L' hj=>by
  unfold Gx.dK;rw[if_neg (λ e=>by rw[e,h] at hj; cases hj)];exact hj
theorem fk.below{w0 w:World}{ρ:Names}{h:AH}(hr:fk w0 w ρ h){j:Nat}{ao:AO}{L:Loc}(hj:h.get j=some (some ao))(hL:ρ j=some L):L.b<w.heap.size:=by
  obtain⟨L1,cur,vs,hl⟩:=hr.live j ao hj;obtain rfl:L=L1:=Option.some.inj (hL.symm.trans hl.at_);obtain⟨fz,hblk,_⟩:=hl.blk;exact jn hblk
theorem fk.Co{w0 w w' : World}{ρ:Names}{h:AH}(hr:fk w0 w ρ h){F:List Nat}(hc:aF w w' F)(hF:∀ f∈F,w0.heap.size<=f/\∀ (j:Nat) (ao:AO) (L:Loc),h.get j=some (some ao)->ρ j=some L->L.b≠f):fk w0 w' ρ h :=
  ⟨hr.aC.trans hc (λ f hf=>.inr (hF f hf).1),hr.dom,λ i ao hi=>by
    obtain⟨L,cur,vs,hl⟩:=hr.live i ao hi;obtain⟨fz,hblk,hfz⟩:=hl.blk;exact⟨L,cur,vs,hl.at_,hl.new,⟨fz,hc.keep hblk (λ hf=>(hF _ hf).2 i ao L hi hl.at_ rfl),hfz⟩,hl.val,hl.here,hl.room,hl.most⟩,hr.inj⟩
theorem fk.name{w0 w:World}{ρ:Names}{h:AH}(hr:fk w0 w ρ h){i:Nat}(hi:h.get i=none){L:Loc}{T:TypeId}{cells:List AV}{cur:Array Value}{vs:List Value}{ro:Bool}{fz:Nat×Nat}(hnew:w0.heap.size<=L.b)(hb:w.heap[L.b]? = some (.cells cur T fz))(hfz:ro=false->fz=(0,0))(hno:∀ (j:Nat) (ao:AO) (L' : Loc),h.get j=some (some ao)->ρ j=some L'->L'.b≠L.b)(hv:dH (dK ρ i L) cells=some vs)(hh:cur.toList.take vs.length=vs)(hs:L.tot*L.esz=cur.size)(hm:L.tot<=maxLen) :
    fk w0 w (dK ρ i L) (h.put i (some ⟨T,cells,ro⟩)):=by
  have hρ:=bR hr hi;have hx:Ext ρ (dK ρ i L):=Ext.dK hρ;refine⟨hr.aC,λ j Lj hj=>?_,λ j aj hj=>?_,λ j k aj ak Lj Lk hjk hj hk hLj hLk=>?_⟩
  · rw[bN]
    split
    · exact⟨_,rfl⟩
    · rename_i e;unfold Gx.dK at hj;rw[if_neg e] at hj;exact hr.dom j Lj hj
  · by_cases hji:j=i
    · subst hji;rw[bN,if_pos rfl] at hj
      cases hj
      exact⟨L,cur,vs,by simp[Gx.dK],hnew,⟨fz,hb,hfz⟩,hv,hh,hs,hm⟩
    · rw[bN,if_neg hji] at hj;obtain⟨L2,cur2,vs2,hl2⟩:=hr.live j aj hj;exact⟨L2,cur2,vs2,hx _ _ hl2.at_,hl2.new,hl2.blk,cq hx hl2.val,hl2.here,hl2.room,hl2.most⟩
  · have side:∀ {k:Nat} {ak:AO} {Lk:Loc},(h.put i (some ⟨T,cells,ro⟩)).get k=some (some ak)->dK ρ i L k=some Lk->(k≠i/\h.get k=some (some ak)/\ρ k=some Lk)\/(k=i/\Lk=L):=λ {k ak Lk} hk hLk=>by
      by_cases hki:k=i
      · subst hki;simp[Gx.dK] at hLk;exact .inr ⟨rfl,hLk.symm⟩
      · rw[bN,if_neg hki] at hk;simp[Gx.dK,hki] at hLk;exact .inl ⟨hki,hk,hLk⟩
    rcases side hj hLj with⟨h1,h2,h3⟩ | ⟨h1,h2⟩<;>rcases side hk hLk with⟨k1,k2,k3⟩ | ⟨k1,k2⟩
    · exact hr.inj j k aj ak Lj Lk hjk h2 k2 h3 k3
    · subst k2; exact hno j aj Lj h2 h3
    · subst h2; exact(hno k ak Lk k2 k3).symm
    · exact absurd (h1.trans k1.symm) hjk
theorem fk.new{w0 w w' : World}{ρ:Names}{h:AH}(hr:fk w0 w ρ h){i:Nat}(hi:h.get i=none){L:Loc}{T:TypeId}{cells:List AV}{cur:Array Value}{vs:List Value}{ro:Bool}{fz:Nat×Nat}(hc:aF w w' [])(hb:w'.heap[L.b]? = some (.cells cur T fz))(hfz:ro=false->fz=(0,0))(hn:w.heap.size<=L.b)(hv:dH (dK ρ i L) cells=some vs)(hh:cur.toList.take vs.length=vs)(hs:L.tot*L.esz=cur.size)(hm:L.tot<=maxLen) :
    fk w0 w' (dK ρ i L) (h.put i (some ⟨T,cells,ro⟩)) :=
  (hr.Co hc (by simp)).name hi (Nat.le_trans hr.aC.size hn) hb hfz (λ j ao L' hj hL=>by have:=hr.below hj hL; omega) hv hh hs hm
theorem fk.alloc{w0 w:World}{ρ:Names}{h:AH}(hr:fk w0 w ρ h){i:Nat}(hi:h.get i=none){T:TypeId}{cells:List AV}{vs:List Value}(hv:dH ρ cells=some vs){esz tot:Nat}(hs:tot*esz=vs.length)(hm:tot<=maxLen) :
    fk w0 (w.alloc (.cells vs.toArray T)) (dK ρ i ⟨w.heap.size,esz,tot⟩) (h.put i (some ⟨T,cells,false⟩)) :=
  hr.new hi (aF.new w _ []) (by rw[fF,if_pos rfl]) (λ _=>rfl) (Nat.le_refl _) (cq (Ext.dK (bR hr hi)) hv) (by simp) (by simpa using hs) hm
theorem fk.LC{w0 w:World}{ρ:Names}{h:AH}(hr:fk w0 w ρ h)(i:Nat):fk w0 w ρ (h.put i none):=by
  have get:∀ {x:Nat} {ax:AO},(h.put i none).get x=some (some ax)->h.get x=some (some ax):=λ {x ax} hx=>by
    rw[bN] at hx
    split at hx
    · cases hx
    · exact hx
  exact⟨hr.aC,λ j Lj hj=>by
    rw[bN]
    split
    · exact⟨_,rfl⟩
    · exact hr.dom j Lj hj,λ j aj hj=>hr.live j aj (get hj),λ j k aj ak Lj Lk hjk hj hk hLj hLk=>hr.inj j k aj ak Lj Lk hjk (get hj) (get hk) hLj hLk⟩
theorem fk.quiet{w0 w w' : World}{ρ:Names}{h:AH}(hr:fk w0 w ρ h)(hc:aF w w' []):fk w0 w' ρ h :=
  ⟨hr.aC.trans hc (by simp),hr.dom,λ i ao hi=>by
    obtain⟨L,cur,vs,hl⟩:=hr.live i ao hi;obtain⟨fz,hblk,hfz⟩:=hl.blk;exact⟨L,cur,vs,hl.at_,hl.new,⟨fz,hc.keep hblk (by simp),hfz⟩,hl.val,hl.here,hl.room,hl.most⟩,hr.inj⟩
end Go.Gx

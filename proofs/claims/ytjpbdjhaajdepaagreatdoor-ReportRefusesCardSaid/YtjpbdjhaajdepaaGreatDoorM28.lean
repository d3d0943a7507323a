import Derived.Test.YtjpbdjhaajdepaaGreatDoorM27
set_option linter.unusedVariables false
set_option maxRecDepth 100000
namespace Go.Proofs.YtjpbdjhaajdepaaGreatDoor
open Go Go.Vc Tryz
theorem gN{α:Type}{f:Nat->α->Int}:∀ {l:List α} {n:Nat},fE f n l=0->∀ i p,l[i]? = some p->f (n+i) p=0
  | [],_,_,i,p,hp=>by simp at hp
  | y :: l,n,h,i,p,hp=>by
    rw[fE] at h
    split at h
    · rename_i g; exact absurd h g
    · rename_i g
      cases i with
      | zero=>cases hp; rw[Nat.add_zero]; simpa using g
      | succ i=>have:=gN h i p (by simpa using hp); rwa [show n+(i+1)=n+1+i by omega]
theorem Rp{l:List Pr}(h:IG l=0):di l:=by
  unfold IG at h
  by_cases h1:l.length=0
  · rw[if_pos h1] at h; cases h
  rw[if_neg h1] at h
  by_cases h2:6<l.length
  · rw[if_pos h2] at h; cases h
  rw[if_neg h2] at h
  by_cases h3:fE (Jk l) 0 l=0
  · rw[if_neg (λ g=>g h3)] at h
    by_cases h4:pr (CJ l)<=1024
    · refine⟨by omega,by omega,λ i p hp=>?_,by rw[<- CK (by omega)]; exact h4⟩;have:=gN h3 i p hp;rw[Nat.zero_add] at this;unfold Jk at this
      split at this
      · cases this
      split at this
      · cases this
      split at this
      · cases this
      rename_i g1 g2 g3;exact⟨by unfold zT; simp at g1 g3; rw[g1,g3]; rfl,by simpa using g2⟩
    · rw[if_neg h4] at h; cases h
  · rw[if_pos h3] at h; exact absurd h h3
theorem Qb{l:List Br}(h:Jg l=0):Gd l:=by
  unfold Jg at h
  by_cases h1:l.length=0
  · rw[if_pos h1] at h; cases h
  rw[if_neg h1] at h
  by_cases h2:8<l.length
  · rw[if_pos h2] at h; cases h
  rw[if_neg h2] at h;refine⟨by omega,by omega,λ i p hp=>?_⟩;have:=gN h i p hp;rw[Nat.zero_add] at this;unfold MA at this
  split at this
  · cases this
  split at this
  · cases this
  split at this
  · cases this
  rename_i g1 g2 g3;exact⟨by simp at g1 g3; rw[g1,g3]; rfl,by simpa using g2⟩
theorem Qh{n:Nat}{l:List T3}(h:JK n l=0):Bh n l:=by
  unfold JK at h
  by_cases h2:16<l.length
  · rw[if_pos h2] at h; cases h
  rw[if_neg h2] at h;refine⟨by omega,λ i p hp=>?_⟩;have:=gN h i p hp;rw[Nat.zero_add] at this;unfold MK at this
  split at this
  · cases this
  split at this
  · cases this
  split at this
  · cases this
  rename_i g1 g2 g3;have g1:=Bool.not_eq_false _▸g1;have g2:=Bool.not_eq_false _▸g2;exact⟨by unfold Af; rw[g1,g2]; rfl,by simpa using g3⟩
theorem RQ{ps:List Pr}{l:List T3}(h:ON ps l=0):kC ps l:=by
  unfold ON at h
  by_cases h2:6<l.length
  · rw[if_pos h2] at h; cases h
  rw[if_neg h2] at h;refine⟨by omega,λ i p hp=>?_⟩;have:=gN h i p hp;rw[Nat.zero_add] at this;unfold OB at this
  split at this
  · cases this
  split at this
  · cases this
  split at this
  · cases this
  rename_i g1 g2 g3;have g1:=Bool.not_eq_false _▸g1;have g2:=Bool.not_eq_false _▸g2;exact⟨by unfold EX; rw[g1,g2]; rfl,by simpa using g3⟩
theorem RD{s:Se}(h:FT s=0):s.Ok:=by
  unfold FT at h
  by_cases h1:IG s.ps=0
  · rw[if_neg (λ g=>g h1)] at h
    by_cases h2:Jg s.bd=0
    · rw[if_neg (λ g=>g h2)] at h
      by_cases h3:JK s.bd.length s.cp=0
      · rw[if_neg (λ g=>g h3)] at h;exact⟨Rp h1,Qb h2,Qh h3,RQ h⟩
      · rw[if_pos h3] at h; exact absurd h h3
    · rw[if_pos h2] at h; exact absurd h h2
  · rw[if_pos h1] at h; exact absurd h h1
theorem Oi{t:List UInt8}(h:uV t=0):(uW t).Ok:=by
  unfold uV at h
  by_cases h1:4000<t.length
  · rw[if_pos h1] at h; cases h
  rw[if_neg h1] at h
  by_cases h2:(fJ fo (bu 10 t)).2=0
  · rw[if_neg (λ g=>g h2)] at h; exact RD h
  · rw[if_pos h2] at h; exact absurd h h2
theorem KW{o:Po}{t:List UInt8}(h:nh o t=0):o.ok/\(uW t).Ok:=by
  unfold nh at h
  by_cases h1:oV o=0
  · rw[if_neg (λ g=>g h1)] at h;refine⟨?_,Oi h⟩;unfold oV at h1
    by_cases g:o.ok
    · exact g
    · rw[if_neg g] at h1; cases h1
  · rw[if_pos h1] at h; exact absurd h h1
section
variable {S S' : Sx} {C C' : Ck} {e:Ev}
theorem CW.er(h:CW S C)(eS:S'.er=S.er)(eC:C'.er=C.er):CW S' C':=by
  have eb:S'.bd.map Bd.er=S.bd.map Bd.er:=show S'.er.bd=S.er.bd by rw[eS]
  have ep:S'.ph=S.ph:=show S'.er.ph=S.er.ph by rw[eS]
  have es:S'.s.er=S.s.er:=show S'.er.s=S.er.s by rw[eS]
  have ec:S'.cnt=S.cnt:=show S'.er.cnt=S.er.cnt by rw[eS]
  have ed:S'.dig=S.dig:=show S'.er.dig=S.er.dig by rw[eS]
  have ecs:C'.s.er=C.s.er:=show C'.er.s=C.er.s by rw[eC]
  have hl:S'.bd.length=S.bd.length:=by have:=congrArg List.length eb; simpa using this
  refine⟨by rw[hl]; exact h.b8,by rw[ep]; exact h.ph,λ h0=>by rw[es]; exact h.z (ep▸h0),λ h0=>(h.c (ep▸h0)).er eC,λ h0=>by rw[ecs,es]; exact h.cs (ep▸h0),λ h0=>Hu es (h.so (ep▸h0)),by rw[ec]; exact h.cnt,by rw[ed]; exact h.dig,λ y hy hh=>?_⟩;have:y.er∈S.bd.map Bd.er:=eb▸List.mem_map_of_mem hy;obtain⟨z,hz,ez⟩:=List.mem_map.1 this;have h1:z.x.er=y.x.er:=show z.er.x=y.er.x by rw[ez]
  have h2:z.has=y.has:=show z.er.has=y.er.has by rw[ez]
  rw[<- xZ,<- h1,xZ];exact h.x z hz (h2.trans hh)
theorem rV(h:lM S e=0):eZ e=0/\S.cnt<600/\dS e.kind S.ph=true/\(bw e.kind=true->e.bidder<S.s.bd.length)/\(bw e.kind=true->(S.bd.getD e.bidder.toNat cv).out=false):=by
  unfold lM at h
  by_cases h1:eZ e≠0
  · rw[if_pos h1] at h; exact absurd h h1
  rw[if_neg h1] at h
  by_cases h2:600<=S.cnt
  · rw[if_pos h2] at h; cases h
  rw[if_neg h2] at h
  by_cases h3:dS e.kind S.ph=false
  · rw[if_pos h3] at h; cases h
  rw[if_neg h3] at h
  by_cases h4:bw e.kind=true/\(S.s.bd.length:Int)<=e.bidder
  · rw[if_pos h4] at h; cases h
  rw[if_neg h4] at h
  by_cases h5:bw e.kind=true/\(S.bd.getD e.bidder.toNat cv).out=true
  · rw[if_pos h5] at h; cases h
  refine⟨by simpa using h1,by omega,by simpa using h3,λ hn=>?_,λ hn=>?_⟩
  · rcases Int.lt_or_le e.bidder S.s.bd.length with h6 | h6
    · exact h6
    · exact absurd ⟨hn,h6⟩ h4
  · cases ho:(S.bd.getD e.bidder.toNat cv).out with
    | false=>rfl
    | true=>exact absurd ⟨hn,ho⟩ h5
theorem xK(h:Ad S C e=0):lM S e=0/\cO S C e=0:=by
  unfold Ad at h
  by_cases h1:lM S e=0
  · rw[if_neg (λ g=>g h1)] at h; exact⟨h1,h⟩
  · rw[if_pos h1] at h; exact absurd h h1
theorem O5(hok:CW S C)(h:Ad S C e=0)(hi:e.In):CW (EL S C e) (Sr S C e)/\(EL S C e).ph≠0:=by
  obtain⟨hs,hE⟩:=xK h;obtain⟨h1,h2,h3,h4,h5⟩:=rV hs;have hR:=kU h1 hi.d;have hk1:=BJ h1;have hc:=hok.cnt;have hch:0<=((kr S.dig.toNat (dx e):Nat):Int)/\((kr S.dig.toNat (dx e):Nat):Int)<18446744073709551616:=⟨Int.natCast_nonneg _,by have:kr S.dig.toNat (dx e)<18446744073709551616:=Kp _; omega⟩;have hlen:=Dm hok.b8 C e
  suffices H:(0<=(br S C e).ph/\(br S C e).ph<=4/\(br S C e).ph≠0)/\(cG S C e).Inv/\(cG S C e).s.er=(br S C e).s.er/\(br S C e).s.Ok/\∀ y∈(br S C e).bd,y.has=true->eD y.x=0 by
    obtain⟨⟨p1,p2,p3⟩,i1,i2,i3,i4⟩:=H;exact⟨⟨hlen,⟨p1,p2⟩,λ h=>absurd h p3,λ _=>i1,λ _=>i2,λ _=>i3,⟨by show 0<=S.cnt+1; omega,by show S.cnt+1<=600; omega⟩,hch,i4⟩,p3⟩
  by_cases k1:e.kind=1
  · have eE:cO S C e=nh S.o e.text:=by rw[cO,if_pos k1]
    have eS:br S C e={ S with ph:=1,s:=uW e.text }:=by rw[br,if_pos k1]
    have eC:cG S C e=lq (uW e.text) S.o:=by rw[cG,if_pos k1]
    obtain⟨ho,hS⟩:=KW (eE▸hE);rw[eS,eC];exact⟨⟨by show(0:Int)<=1; decide,by show(1:Int)<=4; decide,by show(1:Int)≠0; decide⟩,KI hS ho,rfl,hS,hok.x⟩
  have n0:S.ph≠0:=λ h0=>k1 (K5 hk1 (h0▸h3));have hC:=hok.c n0;have hcs:=hok.cs n0;have hS:=hok.so n0;have hph:=hok.ph
  by_cases k2:e.kind=2
  · have eE:cO S C e=kI C e.bidder.toNat (C.s.bd.getD e.bidder.toNat Ma) e.want:=by rw[cO,if_neg k1,if_pos k2]
    have eS:br S C e=S:=by rw[br,if_neg k1,if_pos k2]
    have eC:cG S C e=rz C e.bidder.toNat e.want:=by rw[cG,if_neg k1,if_pos k2]
    rw[eS,eC];exact⟨⟨hph.1,hph.2,n0⟩,JB hC (eE▸hE),hcs,hS,hok.x⟩
  by_cases k3:e.kind=3
  · have eE:cO S C e=if C.ov then 10 else 0:=by rw[cO,if_neg k1,if_neg k2,if_pos (.inl k3)]
    have eS:br S C e=(if dR C then { S with ph:=2 } else S):=by rw[br,if_neg k1,if_neg k2,if_pos k3]
    have eC:cG S C e=fy C:=by rw[cG,if_neg k1,if_neg k2,if_pos k3]
    have ho:C.ov=false:=by
      cases hv:C.ov with
      | false=>rfl
      | true=>rw[eE,hv] at hE; cases hE
    rw[eS,eC];refine⟨?_,E3 hC ho,?_,?_,?_⟩
    · split
      · exact⟨by show(0:Int)<=2; decide,by show(2:Int)<=4; decide,by show(2:Int)≠0; decide⟩
      · exact⟨hph.1,hph.2,n0⟩
    · split<;>exact hcs
    · split<;>exact hS
    · split<;>exact hok.x
  by_cases k4:e.kind=4
  · have eS:br S C e={ S with ph:=2 }:=by rw[br,if_neg k1,if_neg k2,if_neg k3,if_pos k4]
    have eC:cG S C e=tY C:=by rw[cG,if_neg k1,if_neg k2,if_neg k3,if_pos k4]
    rw[eS,eC];exact⟨⟨by show(0:Int)<=2; decide,by show(2:Int)<=4; decide,by show(2:Int)≠0; decide⟩,I3 hC,hcs,hS,hok.x⟩
  have k34 : ¬ (e.kind=3\/e.kind=4):=λ h=>h.elim k3 k4
  by_cases k5:e.kind=5
  · have eE:cO S C e=e9 S.s C e.bidder.toNat (S.s.bd.getD e.bidder.toNat Ma) e.text:=by rw[cO,if_neg k1,if_neg k2,if_neg k34,if_pos k5]
    have eS:br S C e=ql S e.bidder.toNat (bD S.s.ps e.text).1:=by rw[br,if_neg k1,if_neg k2,if_neg k3,if_neg k4,if_pos k5]
    have eC:cG S C e=C:=by rw[cG,if_neg k1,if_neg k2,if_neg k3,if_neg k4,if_neg (by omega),if_neg (by omega)]
    rw[eE] at hE;have hp:(bD S.s.ps e.text).2=0:=by
      unfold e9 at hE
      by_cases g:(bD S.s.ps e.text).2=0
      · exact g
      · rw[if_pos g] at hE; exact absurd hE g
    rw[eS,eC];refine⟨⟨hph.1,hph.2,n0⟩,hC,hcs,hS,λ y hy hh=>?_⟩;rcases List.mem_or_eq_of_mem_set hy with hy | rfl
    · exact hok.x y hy hh
    · exact AM hp
  have hdr:∀ {X:Sx} {n:Nat},(∀ y∈X.bd,y.has=true->eD y.x=0)->∀ y∈(bn X n).bd,y.has=true->eD y.x=0:=λ h y hy hh=>by
    rcases p9 hy with h1 | ⟨_,h2⟩
    · exact h y h1 hh
    · rw[h2] at hh; cases hh
  by_cases k6:e.kind=6
  · have eS:br S C e=bn S e.bidder.toNat:=by rw[br,if_neg k1,if_neg k2,if_neg k3,if_neg k4,if_neg k5,if_pos k6]
    have eC:cG S C e=C:=by rw[cG,if_neg k1,if_neg k2,if_neg k3,if_neg k4,if_neg (by omega),if_neg (by omega)]
    rw[eS,eC];exact⟨⟨hph.1,hph.2,n0⟩,hC,hcs,hS,hdr hok.x⟩
  by_cases k7:e.kind=7
  · have eS:br S C e=bn (fe S e.bidder.toNat) e.bidder.toNat:=by rw[br,if_neg k1,if_neg k2,if_neg k3,if_neg k4,if_neg k5,if_neg k6,if_pos k7]
    have eC:cG S C e=jS C e.bidder.toNat:=by rw[cG,if_neg k1,if_neg k2,if_neg k3,if_neg k4,if_pos k7]
    have hb8:=hS.bd.l2;have hn:=h4 (by rw[bw,dT (Or.inr (Or.inr (Or.inr k7)))]);rw[eS,eC];refine⟨⟨hph.1,hph.2,n0⟩,H7 hC _,hcs,hS,hdr λ y hy hh=>?_⟩;obtain⟨z,hz,e1,e2⟩:=GX (by have:=hok.b8; have:=hR.b; omega) hy;rw[e1]; exact hok.x z hz (e2▸hh)
  by_cases k8:e.kind=8
  · have eE:cO S C e=if ct C e.round then 4 else 0:=by rw[cO,if_neg k1,if_neg k2,if_neg k34,if_neg k5,if_neg k6,if_neg k7,if_pos k8]
    have eS:br S C e={ bE S 8 with ph:=1 }:=by rw[br,if_neg k1,if_neg k2,if_neg k3,if_neg k4,if_neg k5,if_neg k6,if_neg k7,if_pos k8]
    have eC:cG S C e=eK C e.round.toNat:=by rw[cG,if_neg k1,if_neg k2,if_neg k3,if_neg k4,if_neg k7,if_pos k8]
    have hr:ct C e.round=false:=by
      cases hv:ct C e.round with
      | false=>rfl
      | true=>rw[eE,hv] at hE; cases hE
    have hsk:∀ k,(bE S k).s=S.s:=λ k=>by
      induction k with
      | zero=>rfl
      | succ k ih=>exact ih
    have h8:=hsk 8;have hm:∀ y∈(bE S 8).bd,y.has=true->eD y.x=0:=λ y hy hh=>by
      rcases rJ 8 hy with h1 | ⟨_,h2⟩
      · exact hok.x y h1 hh
      · rw[h2] at hh; cases hh
    have hrs:(eK C e.round.toNat).s=C.s:=by unfold eK; split<;>rfl
    rw[eS,eC];refine⟨⟨by show(0:Int)<=1; decide,by show(1:Int)<=4; decide,by show(1:Int)≠0; decide⟩,FO hC hr,?_,?_,hm⟩
    · rw[hrs,hcs]; show S.s.er=(bE S 8).s.er; rw[h8]
    · show(bE S 8).s.Ok; rw[h8]; exact hS
  · have eS:br S C e=mh S e:=by rw[br,if_neg k1,if_neg k2,if_neg k3,if_neg k4,if_neg k5,if_neg k6,if_neg k7,if_neg k8]
    have eC:cG S C e=C:=by rw[cG,if_neg k1,if_neg k2,if_neg k3,if_neg k4,if_neg k7,if_neg k8]
    rw[eS,eC];unfold mh
    split
    · exact⟨⟨by show(0:Int)<=4; decide,by show(4:Int)<=4; decide,by show(4:Int)≠0; decide⟩,hC,hcs,hS,hok.x⟩
    · exact⟨⟨by show(0:Int)<=3; decide,by show(3:Int)<=4; decide,by show(3:Int)≠0; decide⟩,hC,hcs,hS,hok.x⟩
end
def TH:Ck:={ s:=fo,o:=⟨0,0,0,0⟩,cl:=[],p:=z6,ask:=[],bd:=[],dp:=[],ov:=false,ka:=none,kc:=0,xa:=none,xc:=0,ya:=none,yc:=0,za:=none,zc:=0 }
theorem Rf(o:Po):CW (oO o) TH:=⟨rfl,⟨by show(0:Int)<=0; decide,by show(0:Int)<=4; decide⟩,λ _=>rfl,λ h=>absurd rfl h,λ h=>absurd rfl h,λ h=>absurd rfl h,⟨by show(0:Int)<=0; decide,by show(0:Int)<=600; decide⟩,⟨by show(0:Int)<=0; decide,by show(0:Int)<18446744073709551616; decide⟩,λ y hy hh=>by
  simp only[oO,List.mem_cons,List.mem_nil_iff,or_false] at hy;rcases hy with rfl | rfl | rfl | rfl | rfl | rfl | rfl | rfl<;>cases hh⟩
theorem NY(o:Po):(oO o).er=oO o:=by
  show({ oO o with bd:=[cv.er,cv.er,cv.er,cv.er,cv.er,cv.er,cv.er,cv.er] }:Sx)=_;rw[L9]; rfl
theorem NZ(o:Po)(w:World):pR (oO o) TH w:=⟨⟨Mb w,λ y hy=>by
  simp only[oO,List.mem_cons,List.mem_nil_iff,or_false] at hy;rcases hy with rfl | rfl | rfl | rfl | rfl | rfl | rfl | rfl<;>exact EH w⟩,λ q h=>by cases h⟩
theorem LD(S:Sx)(e:Ev):lM S.er e=lM S e:=by
  have h:(S.er.bd.getD e.bidder.toNat cv).out=(S.bd.getD e.bidder.toNat cv).out:=by rw[pW]; rfl
  unfold lM;rw[h]; rfl
theorem P4(S:Sx)(C:Ck)(e:Ev):Ad S.er C.er e=Ad S C e:=by
  unfold Ad;rw[LD,BF]
theorem P5(S:Sx)(C:Ck)(e:Ev):(EL S.er C.er e).er=(EL S C e).er:=by
  show({ (br S.er C.er e).er with cnt:=S.cnt+1,dig:=((kr S.dig.toNat (dx e):Nat):Int) }:Sx)={ (br S C e).er with cnt:=S.cnt+1,dig:=((kr S.dig.toNat (dx e):Nat):Int) };rw[BG]
structure Cs where
  S:Sx
  C:Ck
  cn:Nat->Int
  rf:Int
  dm:Nat->Int
  bi:Nat->Int
  wd:Nat->Int
  rr:List Int
def bJ(f:Nat->Int)(i:Nat):Nat->Int:=dK f i (f i+1)
def fh(σ:Cs)(e:Ev):Cs :=
  if Ad σ.S σ.C e≠0 then { σ with rf:=σ.rf+1 } else
    { S:=(EL σ.S σ.C e).er,C:=(Sr σ.S σ.C e).er,cn:=bJ σ.cn e.kind.toNat,rf:=σ.rf,
      dm:=if e.kind=2 then bJ σ.dm e.bidder.toNat else σ.dm,bi:=if e.kind=5 then bJ σ.bi e.bidder.toNat else σ.bi,wd:=if e.kind=6 then bJ σ.wd e.bidder.toNat else σ.wd,
      rr:=if e.kind=8 then σ.rr++[e.round] else σ.rr }
def U8(o:Po):Cs:={ S:=oO o,C:=TH,cn:=λ _=>0,rf:=0,dm:=λ _=>0,bi:=λ _=>0,wd:=λ _=>0,rr:=[] }
def lD(o:Po)(l:List Ev):Cs:=l.foldl fh (U8 o)
theorem u7(o:Po)(l:List Ev)(e:Ev):lD o (l++[e])=fh (lD o l) e:=by unfold lD; rw[List.foldl_append]; rfl
def bV(f:Nat->Int):Nat->Int
  | 0=>0
  | n+1=>bV f n+f n
theorem LG(f:Nat->Int)(i:Nat)(x:Int):∀ n,n<=i->bV (dK f i x) n=bV f n
  | 0,_=>rfl
  | n+1,h=>by rw[bV,bV,LG f i x n (by omega),eN _ _ (by omega)]
theorem qi(f:Nat->Int)(i:Nat):∀ n,i<n->bV (bJ f i) n=bV f n+1
  | 0,h=>by omega
  | n+1,h=>by
    unfold bJ
    by_cases e:i=n
    · subst e; rw[bV,bV,LG f i _ i (Nat.le_refl _),cK]; omega
    · have:=qi f i n (by omega);unfold bJ at this;rw[bV,bV,this,eN _ _ (Ne.symm e)]; omega
theorem Ew{f:Nat->Int}:∀ n,(∀ i,i<n->f i=0)->bV f n=0
  | 0,_=>rfl
  | n+1,h=>by rw[bV,Ew n λ i hi=>h i (by omega),h n (by omega)]; rfl
theorem Hz{f:Nat->Int}{m:Nat}:∀ n,m<=n->(∀ i,m<=i->i<n->f i=0)->bV f n=bV f m
  | 0,h,_=>by rw[show m=0 by omega]
  | n+1,h,hz=>by
    by_cases e:m=n+1
    · rw[e]
    · rw[bV,hz n (by omega) (by omega),Hz n (by omega) λ i h1 h2=>hz i h1 (by omega)]; omega
theorem CF{f g:Nat->Int}:∀ n,(∀ i,i<n->f i=g i)->bV f n=bV g n
  | 0,_=>rfl
  | n+1,h=>by rw[bV,bV,CF n λ i hi=>h i (by omega),h n (by omega)]
theorem dG(f:Nat->Int)(i j:Nat):bJ f i j=if j=i then f i+1 else f j:=rfl
def jq(S:Sx)(i:Nat):Int:=if (S.bd.getD i cv).out then 1 else 0
theorem yz{l:List Bd}{n i:Nat}{y:Bd}(h:n<l.length):(l.set n y).getD i cv=if i=n then y else l.getD i cv:=by
  rw[List.getD_eq_getElem?_getD,List.getD_eq_getElem?_getD,List.getElem?_set]
  by_cases e:n=i
  · subst e; rw[if_pos rfl,if_pos rfl,if_pos h]; rfl
  · rw[if_neg e,if_neg (Ne.symm e)]
theorem rR{S:Sx}{n:Nat}(h:n<S.bd.length)(i:Nat):((bn S n).bd.getD i cv).out=(S.bd.getD i cv).out:=by
  unfold bn;show((S.bd.set n _).getD i cv).out=_;rw[yz h]
  split
  · rename_i e; subst e; rfl
  · rfl
theorem zh{S:Sx}(h:S.bd.length=8)(i:Nat):∀ k,k<=8->((bE S k).bd.getD i cv).out=(S.bd.getD i cv).out
  | 0,_=>rfl
  | k+1,hk=>by rw[bE,rR (by rw[pg h]; omega),zh h i k (by omega)]
theorem MT{S:Sx}{C:Ck}{e:Ev}(h8:S.bd.length=8)(hb:e.bidder.toNat<8)(i:Nat):((br S C e).bd.getD i cv).out=if e.kind=7/\i=e.bidder.toNat then true else (S.bd.getD i cv).out:=by
  unfold br
  by_cases k1:e.kind=1
  · rw[if_pos k1,if_neg (by omega)]
  rw[if_neg k1]
  by_cases k2:e.kind=2
  · rw[if_pos k2,if_neg (by omega)]
  rw[if_neg k2]
  by_cases k3:e.kind=3
  · rw[if_pos k3,if_neg (show ¬ (e.kind=7/\i=e.bidder.toNat) from λ h=>by omega)]
    split<;>rfl
  rw[if_neg k3]
  by_cases k4:e.kind=4
  · rw[if_pos k4,if_neg (by omega)]
  rw[if_neg k4]
  by_cases k5:e.kind=5
  · rw[if_pos k5,if_neg (by omega)];unfold ql;show((S.bd.set _ _).getD i cv).out=_;rw[yz (by omega)]
    split
    · rename_i e; subst e; rfl
    · rfl
  rw[if_neg k5]
  by_cases k6:e.kind=6
  · rw[if_pos k6,if_neg (by omega)];exact rR (by omega) i
  rw[if_neg k6]
  by_cases k7:e.kind=7
  · have hl:(fe S e.bidder.toNat).bd.length=8:=by rw[fe,List.length_set]; exact h8
    rw[if_pos k7,rR (by omega)];unfold fe;show((S.bd.set _ _).getD i cv).out=_;rw[yz (by omega)]
    by_cases ei:i=e.bidder.toNat
    · rw[if_pos ei,if_pos ⟨k7,ei⟩]
    · rw[if_neg ei,if_neg λ h=>ei h.2]
  rw[if_neg k7]
  by_cases k8:e.kind=8
  · rw[if_pos k8,if_neg (by omega)];exact zh h8 i 8 (Nat.le_refl _)
  rw[if_neg k8,if_neg (by omega)];unfold mh
  split<;>rfl
theorem JS(S:Sx)(i:Nat):(S.er.bd.getD i cv).out=(S.bd.getD i cv).out:=by rw[pW]; rfl
theorem MS{S:Sx}{C:Ck}{e:Ev}(k1:e.kind≠1):(br S C e).s.bd.length=S.s.bd.length:=by
  have hsk:∀ k,(bE S k).s=S.s:=λ k=>by
    induction k with
    | zero=>rfl
    | succ k ih=>exact ih
  unfold br;rw[if_neg k1]
  split
  · rfl
  split
  · split<;>rfl
  split
  · rfl
  split
  · rfl
  split
  · rfl
  split
  · rfl
  split
  · show(bE S 8).s.bd.length=_;rw[hsk 8]
  · unfold mh
    split<;>rfl
structure Iv (σ:Cs) (k:Nat):Prop where
  ok:CW σ.S σ.C
  all:σ.rf+bV σ.cn 11=k
  c0:σ.cn 0=0
  c1:σ.cn 1=if σ.S.ph=0 then 0 else 1
  z:σ.S.ph=0->(∀ i,σ.cn i=0)/\∀ i,i<8->σ.dm i=0/\σ.bi i=0/\σ.wd i=0/\jq σ.S i=0
  dm:bV σ.dm 8=σ.cn 2
  bi:bV σ.bi 8=σ.cn 5
  wd:bV σ.wd 8=σ.cn 6
  ou:bV (jq σ.S) 8=σ.cn 7
  hi:∀ i,i<8->σ.S.s.bd.length<=i->σ.dm i=0/\σ.bi i=0/\σ.wd i=0/\jq σ.S i=0
  rr:(σ.rr.length:Int)=σ.cn 8
  bd:(∀ i,0<=σ.cn i/\σ.cn i<=k)/\0<=σ.rf/\σ.rf<=k/\∀ i,(0<=σ.dm i/\σ.dm i<=k)/\(0<=σ.bi i/\σ.bi i<=k)/\0<=σ.wd i/\σ.wd i<=k
theorem R6(o:Po):Iv (U8 o) 0:=by
  have ho:∀ i,jq (oO o) i=0:=λ i=>by
    unfold jq
    match i with
    | 0 | 1 | 2 | 3 | 4 | 5 | 6 | 7=>rfl
    | n+8=>rfl
  exact⟨Rf o,rfl,rfl,rfl,λ _=>⟨λ _=>rfl,λ i _=>⟨rfl,rfl,rfl,ho i⟩⟩,rfl,rfl,rfl,Ew 8 λ i _=>ho i,λ i _ _=>⟨rfl,rfl,rfl,ho i⟩,rfl,⟨λ _=>⟨Int.le_refl _,Int.le_refl _⟩,Int.le_refl _,Int.le_refl _,λ _=>⟨⟨Int.le_refl _,Int.le_refl _⟩,⟨Int.le_refl _,Int.le_refl _⟩,Int.le_refl _,Int.le_refl _⟩⟩⟩
theorem OO{σ:Cs}{k:Nat}(h:Iv σ k){e:Ev}(hi:e.In):Iv (fh σ e) (k+1):=by
  obtain⟨ok,all,c0,c1,z,dm,bi,wd,ou,hiz,rr,⟨b1,b2,b3,b4⟩⟩:=h;unfold fh
  by_cases ha:Ad σ.S σ.C e≠0
  · rw[if_pos ha];exact⟨ok,by show σ.rf+1+bV σ.cn 11=((k+1:Nat):Int); omega,c0,c1,z,dm,bi,wd,ou,hiz,rr,⟨λ i=>by have:=b1 i; show 0<=σ.cn i/\σ.cn i<=((k+1:Nat):Int); omega,by show 0<=σ.rf+1; omega,by show σ.rf+1<=((k+1:Nat):Int); omega,λ i=>by have:=b4 i; show(0<=σ.dm i/\σ.dm i<=((k+1:Nat):Int))/\(0<=σ.bi i/\σ.bi i<=((k+1:Nat):Int))/\0<=σ.wd i/\σ.wd i<=((k+1:Nat):Int); omega⟩⟩
  rw[if_neg ha];have ha:Ad σ.S σ.C e=0:=by simpa using ha
  obtain⟨hs,hE⟩:=xK ha;obtain⟨h1,h2,h3,h4,h5⟩:=rV hs;have hR:=kU h1 hi.d;have hk1:=BJ h1;obtain⟨okN,phN⟩:=O5 ok ha hi;have h8:=ok.b8;obtain⟨kk,hkk⟩:∃ kk:Nat,e.kind=kk:=⟨e.kind.toNat,(Int.toNat_of_nonneg (by omega)).symm⟩;obtain⟨n,hn⟩:∃ n:Nat,e.bidder=n:=⟨e.bidder.toNat,(Int.toNat_of_nonneg hR.b.1).symm⟩;have e1:e.kind.toNat=kk:=by omega
  have e2:e.bidder.toNat=n:=by omega
  have hkr:1<=kk/\kk<=10:=by have:=hR.k; omega
  have hn8:n<8:=by have:=hR.b; omega
  have hout:∀ i,jq ((EL σ.S σ.C e).er) i=if kk=7/\i=n then 1 else jq σ.S i:=λ i=>by
    unfold jq;rw[JS];show(if ((br σ.S σ.C e).bd.getD i cv).out=true then (1:Int) else 0)=_;have q:=MT (S:=σ.S) (C:=σ.C) (e:=e) h8 (by omega) i
    by_cases g:kk=7/\i=n
    · rw[q.trans (if_pos ⟨by omega,by omega⟩),if_pos g]; rfl
    · rw[q.trans (if_neg λ h=>g ⟨by omega,by omega⟩),if_neg g]
  have hlen:kk≠1->((EL σ.S σ.C e).er).s.bd.length=σ.S.s.bd.length:=λ h=>MS (by omega);have hph0:kk=1<->σ.S.ph=0:=by
    constructor
    · intro h;rw[hkk,h] at h3;have:dS ((1:Nat):Int) σ.S.ph=(σ.S.ph==0):=by rw[dS,if_pos (by rfl)]
      rw[this] at h3; simpa using h3
    · intro h;rw[h] at h3;have:=K5 hk1 h3; omega
  have hnm:∀ j:Nat,(j=2\/j=5\/j=6\/j=7)->kk=j->(n:Int)<σ.S.s.bd.length/\(σ.S.bd.getD n cv).out=false:=λ j hj h=>by
    have hnd:bw e.kind=true:=by rw[bw]; exact dT (by omega)
    have q1:=h4 hnd;have q2:=h5 hnd;rw[e2] at q2;exact⟨by omega,q2⟩
  rw[e1,e2];have hb:∀ (f:Nat->Int) (i j:Nat),(0<=f j/\f j<=k)->(0<=f i/\f i<=k)->0<=bJ f i j/\bJ f i j<=((k+1:Nat):Int):=λ f i j h1 h2=>by
    rw[dG]
    split<;>omega
  have hb' : ∀ (p:Prop) [Decidable p] (f:Nat->Int) (j:Nat),(∀ i,0<=f i/\f i<=k)->0<=(if p then bJ f n else f) j/\(if p then bJ f n else f) j<=((k+1:Nat):Int):=λ p _ f j h=>by
    split
    · exact hb f n j (h j) (h n)
    · have:=h j; omega
  refine⟨okN.er (fQ _) (Gy _),?_,?_,?_,λ h=>absurd h phN,?_,?_,?_,?_,λ i hi8 hl=>?_,?_,⟨λ i=>hb σ.cn kk i (b1 i) (b1 kk),b2,by show σ.rf<=((k+1:Nat):Int); omega,λ i=>⟨hb' _ σ.dm i λ i=>(b4 i).1,hb' _ σ.bi i λ i=>(b4 i).2.1,hb' _ σ.wd i λ i=>(b4 i).2.2⟩⟩⟩
  · show σ.rf+bV (bJ σ.cn kk) 11=_;rw[qi _ _ 11 (by omega)]; omega
  · show bJ σ.cn kk 0=0;rw[dG,if_neg (by omega)]; exact c0
  · show bJ σ.cn kk 1=if ((EL σ.S σ.C e).er).ph=0 then 0 else 1
    rw[if_neg (show ¬ ((EL σ.S σ.C e).er).ph=0 from phN),dG]
    by_cases g:1=kk
    · rw[if_pos g,<- g,c1,if_pos (hph0.1 g.symm)]; rfl
    · rw[if_neg g,c1,if_neg λ h=>g (hph0.2 h).symm]
  · show bV (if e.kind=2 then bJ σ.dm n else σ.dm) 8=bJ σ.cn kk 2
    by_cases g:e.kind=2
    · rw[if_pos g,qi _ _ 8 hn8,dG,if_pos (by omega),dm,show kk=2 by omega]
    · rw[if_neg g,dG,if_neg (by omega),dm]
  · show bV (if e.kind=5 then bJ σ.bi n else σ.bi) 8=bJ σ.cn kk 5
    by_cases g:e.kind=5
    · rw[if_pos g,qi _ _ 8 hn8,dG,if_pos (by omega),bi,show kk=5 by omega]
    · rw[if_neg g,dG,if_neg (by omega),bi]
  · show bV (if e.kind=6 then bJ σ.wd n else σ.wd) 8=bJ σ.cn kk 6
    by_cases g:e.kind=6
    · rw[if_pos g,qi _ _ 8 hn8,dG,if_pos (by omega),wd,show kk=6 by omega]
    · rw[if_neg g,dG,if_neg (by omega),wd]
  · show bV (jq ((EL σ.S σ.C e).er)) 8=bJ σ.cn kk 7
    by_cases g:kk=7
    · have h0:jq σ.S n=0:=by unfold jq; rw[(hnm 7 (by omega) g).2]; rfl
      rw[CF 8 (g:=bJ (jq σ.S) n) λ i _=>by
        rw[hout,dG]
        by_cases ei:i=n
        · rw[if_pos ⟨g,ei⟩,if_pos ei,h0]; rfl
        · rw[if_neg λ h=>ei h.2,if_neg ei]]
      rw[qi _ _ 8 hn8,ou,dG,if_pos g.symm,g]
    · rw[CF 8 (g:=jq σ.S) λ i _=>by rw[hout,if_neg λ h=>g h.1],ou,dG,if_neg λ h=>g h.symm]
  · show(if e.kind=2 then bJ σ.dm n else σ.dm) i=0/\(if e.kind=5 then bJ σ.bi n else σ.bi) i=0/\(if e.kind=6 then bJ σ.wd n else σ.wd) i=0/\jq ((EL σ.S σ.C e).er) i=0
    by_cases g:kk=1
    · have:=(z (hph0.1 g)).2 i hi8;rw[if_neg (by omega),if_neg (by omega),if_neg (by omega),hout,if_neg (by omega)];exact this
    · have hl' : σ.S.s.bd.length<=i:=by have:=hlen g; exact this▸hl
      obtain⟨q1,q2,q3,q4⟩:=hiz i hi8 hl';have ne:∀ j:Nat,(j=2\/j=5\/j=6\/j=7)->kk=j->i≠n:=λ j hj h=>by have:=(hnm j hj h).1; omega
      refine⟨?_,?_,?_,?_⟩
      · split
        · rw[dG,if_neg (ne 2 (by omega) (by omega))]; exact q1
        · exact q1
      · split
        · rw[dG,if_neg (ne 5 (by omega) (by omega))]; exact q2
        · exact q2
      · split
        · rw[dG,if_neg (ne 6 (by omega) (by omega))]; exact q3
        · exact q3
      · rw[hout]
        by_cases g7:kk=7
        · rw[if_neg λ h=>ne 7 (by omega) g7 h.2]; exact q4
        · rw[if_neg λ h=>g7 h.1]; exact q4
  · show(((if e.kind=8 then σ.rr++[e.round] else σ.rr).length:Nat):Int)=bJ σ.cn kk 8
    by_cases g:e.kind=8
    · rw[if_pos g,dG,if_pos (by omega),List.length_append,List.length_singleton,show kk=8 by omega]; omega
    · rw[if_neg g,dG,if_neg (by omega)]; exact rr
theorem y9(o:Po):∀ l:List Ev,(∀ e∈l,e.In)->Iv (lD o l) l.length:=λ l=>by
  suffices H:∀ (l:List Ev) (σ:Cs) (k:Nat),Iv σ k->(∀ e∈l,e.In)->Iv (l.foldl fh σ) (k+l.length) by
    intro hl;have:=H l (U8 o) 0 (R6 o) hl
    rwa [Nat.zero_add] at this
  intro l
  induction l with
  | nil=>intro σ k h _; exact h
  | cons e l ih =>
    intro σ k h hl;have:=ih (fh σ e) (k+1) (OO h (hl e (by simp))) λ e he=>hl e (by simp[he]);rw[List.foldl_cons,List.length_cons,show k+(l.length+1)=k+1+l.length by omega];exact this
section
variable {w0 w:World} {b:Nat} {S:Sx} {C:Ck} {B:aI}
theorem Ty(hok:CW S C):S.s.Sz:=by
  by_cases h0:S.ph=0
  · have e:=hok.z h0;have h1:S.s.ps=[]:=show S.s.er.ps=fo.ps by rw[e]
    have h2:S.s.bd=[]:=show S.s.er.bd=fo.bd by rw[e]
    have h3:S.s.cp=[]:=show S.s.er.cp=fo.cp by rw[e]
    have h4:S.s.sa=[]:=show S.s.er.sa=fo.sa by rw[e]
    exact⟨by rw[h1]; decide,by rw[h2]; decide,by rw[h3]; decide,by rw[h4]; decide⟩
  · exact(hok.so h0).sz
theorem Hr(hb:af w ⟨b,0,none⟩ 0 S.cells){w' : World}(hc:aF w w' [])(j:Nat){v:Value}(hv:S.cells[j]? = some v):w'.cell? ⟨b,j,none⟩=some v:=by
  have:=aU (bG hc hb) j v hv
  rwa [Nat.zero_add,qk] at this
theorem Tg(hb:af w ⟨b,0,none⟩ 0 S.cells){w' : World}(hc:aF w w' []):af w' ⟨b,5,none⟩ 0 S.s.arr.toList:=bz _ 0 λ j v hj=>by
  rw[aV,Nat.zero_add];refine Hr hb hc (5+j) ?_;have hj4:j<4:=(List.getElem?_eq_some_iff.1 hj).1
  match j,hj4 with
  | 0,_ | 1,_ | 2,_ | 3,_=>exact hj
theorem LA(hb:af w ⟨b,0,none⟩ 0 S.cells)(h:S.s.In w)(hz:S.s.Sz) :
    CP 19 #[pt b] w (λ r w'=>∃ S' : Se,S'.er=S.s.er/\r=.agg S'.arr/\St w w' (held S'.In)):=by
  refine pE ?_;unfold j8;obtain⟨z1,z2,z3,z4⟩:=hz;refine(St.start w).one.aB fo.arr λ r1 w1 s1=>⟨_,_,_,_,_,_,_,_,_,_,_,_,Tg hb s1.aC,s1.aB fo.arr λ r2 w2 s2=>s2.aD 0 rfl S.s.arr.toList rfl (by simp[Se.arr,Value.oneCell']) λ w3 s3=>?_⟩;have s3:St w w3 (Sep [ah r2 S.s.arr 68,ah r1 fo.arr 68,emp]):=s3;have s3:=s3.quiet (aF.drew w3 []);refine⟨_,_,_,s3.ag 0 rfl 0,_,_,_,s3.ag 0 rfl 1,_,_,_,s3.ag 0 rfl 2,_,_,_,s3.ag 0 rfl 3,au (Am (h.aC s3.aC).ps.fl (by omega)) ?_⟩;rintro v w4 ⟨a1,c1,rfl,k1⟩;have s4:St w w4 (Sep [_,_,_,_]):=s3.and k1;refine⟨_,_,_,rfl,s4.ag 1 rfl 3,s4.ag 1 rfl 2,s4.ag 1 rfl 1,au (Ak (h.aC s4.aC).bd.fl (by omega)) ?_⟩;rintro v w5 ⟨a2,c2,rfl,k2⟩;have s5:St w w5 (Sep [_,_,_,_,_]):=s4.and k2;refine⟨_,_,_,rfl,s5.ag 2 rfl 3,s5.ag 2 rfl 2,au (Al (h.aC s5.aC).cp.fl (by omega)) ?_⟩;rintro v w6 ⟨a3,c3,rfl,k3⟩;have s6:St w w6 (Sep [_,_,_,_,_,_]):=s5.and k3;refine⟨_,_,_,rfl,s6.ag 3 rfl 3,au (Aj (h.aC s6.aC).sa.fl (by omega)) ?_⟩;rintro v w7 ⟨a4,c4,rfl,k4⟩;have s7:St w w7 (Sep [_,_,_,_,_,_,_]):=s6.and k4;let S' : Se:={ S.s with a1:=a1,c1:=c1,a2:=a2,c2:=c2,a3:=a3,c3:=c3,a4:=a4,c4:=c4 };refine⟨_,_,_,rfl,s7.aD 5 rfl S'.arr.toList rfl (by simp[S',Se.arr,Value.oneCell']) λ w8 s8=>⟨_,_,_,_,_,_,_,_,_,_,_,_,s8.cellsIn (cs:=S'.arr) 5 rfl,S',rfl,rfl,?_⟩⟩;have q4:=St.pe (s8.out 0 rfl); have q3:=St.pe (s8.out 1 rfl); have q2:=St.pe (s8.out 2 rfl); have q1:=St.pe (s8.out 3 rfl);exact((s8.aA [0,1,2,3]).held ((bp T3.len).cons ((bp T3.len).cons ((bp Br.len).cons ((bp Pr.len).cons iE.nil))))).weak (kX λ w' ⟨i4,i3,i2,i1,_⟩=>⟨eB.of i1 h.ps.in,kE.of i2 h.bd.in,CV.of i3,CV.of i4,q1.1,q2.1,q3.1,q4.1⟩)
theorem Lm(hb:af w ⟨b,0,none⟩ 0 S.cells)(h8:S.bd.length=8)(hS:pR S C w)(hok:CW S C)(hk:Mj S) :
    CP 18 #[pt b] w (λ r w'=>∃ (p:OA) (C' : Ck),r=.pointer p/\C'.er=C.er/\Mj { S with k:=p }/\St w w' (R8 p C')):=by
  refine pz ?_;unfold j7;refine⟨_,Hr hb (aF.refl w []) 9 ?_,au (Gq hS hok hk) ?_⟩
  · have:=lO h8;simpa using this
  · rintro v w1 ⟨p,C',rfl,h1,h2,h3⟩;exact⟨_,rfl,p,C',rfl,h1,h2,h3⟩
end
end Go.Proofs.YtjpbdjhaajdepaaGreatDoor

import Derived.Test.YtpihmghnbplohaaGreatDoorProg
import Derived.KernelRfl
import Derived.Test.YtpihmghnbplohaaGreatDoorM02
import Derived.Test.YtpihmghnbplohaaGreatDoorM04
import Derived.Test.YtpihmghnbplohaaGreatDoorM05
import Derived.Test.YtpihmghnbplohaaGreatDoorM06
import Derived.Test.YtpihmghnbplohaaGreatDoorM27
set_option linter.unusedVariables false
set_option maxRecDepth 100000
namespace Go.Proofs.YtpihmghnbplohaaGreatDoor
open Go Go.Vc Tryz
theorem gk{α:Type}{f:Nat->α->Int}:∀ {l:List α} {n:Nat},eU f n l=0->∀ i p,l[i]? = some p->f (n+i) p=0
  | [],_,_,i,p,hp=>by simp at hp
  | y :: l,n,h,i,p,hp=>by
    rw[eU] at h
    split at h
    · rename_i g; exact absurd h g
    · rename_i g
      cases i with
      | zero=>cases hp; rw[Nat.add_zero]; simpa using g
      | succ i=>have:=gk h i p (by simpa using hp); rwa [show n+(i+1)=n+1+i by omega]
theorem QJ{l:List Pr}(h:IJ l=0):cY l:=by
  unfold IJ at h
  by_cases h1:l.length=0
  · rw[if_pos h1] at h; cases h
  rw[if_neg h1] at h
  by_cases h2:6<l.length
  · rw[if_pos h2] at h; cases h
  rw[if_neg h2] at h
  by_cases h3:eU (Jj l) 0 l=0
  · rw[if_neg (λ g=>g h3)] at h
    by_cases h4:pr (Cv l)<=1024
    · refine⟨by omega,by omega,λ i p hp=>?_,by rw[<- Cw (by omega)]; exact h4⟩;have:=gk h3 i p hp;rw[Nat.zero_add] at this;unfold Jj at this
      split at this
      · cases this
      split at this
      · cases this
      split at this
      · cases this
      rename_i g1 g2 g3;exact⟨by unfold zE; simp at g1 g3; rw[g1,g3]; rfl,by simpa using g2⟩
    · rw[if_neg h4] at h; cases h
  · rw[if_pos h3] at h; exact absurd h h3
theorem PN{l:List Br}(h:Jg l=0):Gh l:=by
  unfold Jg at h
  by_cases h1:l.length=0
  · rw[if_pos h1] at h; cases h
  rw[if_neg h1] at h
  by_cases h2:8<l.length
  · rw[if_pos h2] at h; cases h
  rw[if_neg h2] at h;refine⟨by omega,by omega,λ i p hp=>?_⟩;have:=gk h i p hp;rw[Nat.zero_add] at this;unfold MD at this
  split at this
  · cases this
  split at this
  · cases this
  split at this
  · cases this
  rename_i g1 g2 g3;exact⟨by simp at g1 g3; rw[g1,g3]; rfl,by simpa using g2⟩
theorem PU{n:Nat}{l:List T3}(h:JP n l=0):A7 n l:=by
  unfold JP at h
  by_cases h2:16<l.length
  · rw[if_pos h2] at h; cases h
  rw[if_neg h2] at h;refine⟨by omega,λ i p hp=>?_⟩;have:=gk h i p hp;rw[Nat.zero_add] at this;unfold MO at this
  split at this
  · cases this
  split at this
  · cases this
  split at this
  · cases this
  rename_i g1 g2 g3;have g1:=Bool.not_eq_false _▸g1;have g2:=Bool.not_eq_false _▸g2;exact⟨by unfold zX; rw[g1,g2]; rfl,by simpa using g3⟩
theorem Rc{ps:List Pr}{l:List T3}(h:Og ps l=0):j6 ps l:=by
  unfold Og at h
  by_cases h2:6<l.length
  · rw[if_pos h2] at h; cases h
  rw[if_neg h2] at h;refine⟨by omega,λ i p hp=>?_⟩;have:=gk h i p hp;rw[Nat.zero_add] at this;unfold N1 at this
  split at this
  · cases this
  split at this
  · cases this
  split at this
  · cases this
  rename_i g1 g2 g3;have g1:=Bool.not_eq_false _▸g1;have g2:=Bool.not_eq_false _▸g2;exact⟨by unfold EO; rw[g1,g2]; rfl,by simpa using g3⟩
theorem Q0{s:Se}(h:FN s=0):s.Ok:=by
  unfold FN at h
  by_cases h1:IJ s.ps=0
  · rw[if_neg (λ g=>g h1)] at h
    by_cases h2:Jg s.bd=0
    · rw[if_neg (λ g=>g h2)] at h
      by_cases h3:JP s.bd.length s.cp=0
      · rw[if_neg (λ g=>g h3)] at h;exact⟨QJ h1,PN h2,PU h3,Rc h⟩
      · rw[if_pos h3] at h; exact absurd h h3
    · rw[if_pos h2] at h; exact absurd h h2
  · rw[if_pos h1] at h; exact absurd h h1
theorem NM{t:List UInt8}(h:uu t=0):(uv t).Ok:=by
  unfold uu at h
  by_cases h1:4000<t.length
  · rw[if_pos h1] at h; cases h
  rw[if_neg h1] at h
  by_cases h2:(eY fH (bq 10 t)).2=0
  · rw[if_neg (λ g=>g h2)] at h; exact Q0 h
  · rw[if_pos h2] at h; exact absurd h h2
theorem K3{o:Po}{t:List UInt8}(h:mF o t=0):o.ok/\(uv t).Ok:=by
  unfold mF at h
  by_cases h1:oo o=0
  · rw[if_neg (λ g=>g h1)] at h;refine⟨?_,NM h⟩;unfold oo at h1
    by_cases g:o.ok
    · exact g
    · rw[if_neg g] at h1; cases h1
  · rw[if_pos h1] at h; exact absurd h h1
section
variable {S S' : Sx} {C C' : Ck} {e:Ev}
theorem zm.er(h:zm S C)(eS:S'.er=S.er)(eC:C'.er=C.er):zm S' C':=by
  have eb:S'.bd.map Bd.er=S.bd.map Bd.er:=show S'.er.bd=S.er.bd by rw[eS]
  have ep:S'.ph=S.ph:=show S'.er.ph=S.er.ph by rw[eS]
  have es:S'.s.er=S.s.er:=show S'.er.s=S.er.s by rw[eS]
  have ec:S'.cnt=S.cnt:=show S'.er.cnt=S.er.cnt by rw[eS]
  have ed:S'.dig=S.dig:=show S'.er.dig=S.er.dig by rw[eS]
  have ecs:C'.s.er=C.s.er:=show C'.er.s=C.er.s by rw[eC]
  have hl:S'.bd.length=S.bd.length:=by have:=congrArg List.length eb; simpa using this
  refine⟨by rw[hl]; exact h.b8,by rw[ep]; exact h.ph,λ h0=>by rw[es]; exact h.z (ep▸h0),λ h0=>(h.c (ep▸h0)).er eC,λ h0=>by rw[ecs,es]; exact h.cs (ep▸h0),λ h0=>N4 es (h.so (ep▸h0)),by rw[ec]; exact h.cnt,by rw[ed]; exact h.dig,λ y hy hh=>?_⟩;have:y.er∈S.bd.map Bd.er:=eb▸List.mem_map_of_mem hy;obtain⟨z,hz,ez⟩:=List.mem_map.1 this;have h1:z.x.er=y.x.er:=show z.er.x=y.er.x by rw[ez]
  have h2:z.has=y.has:=show z.er.has=y.er.has by rw[ez]
  rw[<- xI,<- h1,xI];exact h.x z hz (h2.trans hh)
theorem FV(h:kV S e=0):bP e=0/\S.cnt<600/\eu e.kind S.ph=true/\(bD e.kind=true->e.bidder<S.s.bd.length)/\(bD e.kind=true->(S.bd.getD e.bidder.toNat dH).out=false):=by
  unfold kV at h
  by_cases h1:bP e≠0
  · rw[if_pos h1] at h; exact absurd h h1
  rw[if_neg h1] at h
  by_cases h2:600<=S.cnt
  · rw[if_pos h2] at h; cases h
  rw[if_neg h2] at h
  by_cases h3:eu e.kind S.ph=false
  · rw[if_pos h3] at h; cases h
  rw[if_neg h3] at h
  by_cases h4:bD e.kind=true/\(S.s.bd.length:Int)<=e.bidder
  · rw[if_pos h4] at h; cases h
  rw[if_neg h4] at h
  by_cases h5:bD e.kind=true/\(S.bd.getD e.bidder.toNat dH).out=true
  · rw[if_pos h5] at h; cases h
  refine⟨by simpa using h1,by omega,by simpa using h3,λ hn=>?_,λ hn=>?_⟩
  · rcases Int.lt_or_le e.bidder S.s.bd.length with h6 | h6
    · exact h6
    · exact absurd ⟨hn,h6⟩ h4
  · cases ho:(S.bd.getD e.bidder.toNat dH).out with
    | false=>rfl
    | true=>exact absurd ⟨hn,ho⟩ h5
theorem Jx(h:uP S C e=0):kV S e=0/\cE S C e=0:=by
  unfold uP at h
  by_cases h1:kV S e=0
  · rw[if_neg (λ g=>g h1)] at h; exact⟨h1,h⟩
  · rw[if_pos h1] at h; exact absurd h h1
theorem OG(hok:zm S C)(h:uP S C e=0)(hi:e.In):zm (EF S C e) (OF S C e)/\(EF S C e).ph≠0:=by
  obtain⟨hs,hE⟩:=Jx h;obtain⟨h1,h2,h3,h4,h5⟩:=FV hs;have hR:=o6 h1 hi.d;have hk1:=Gz h1;have hc:=hok.cnt;have hch:0<=((aE S.dig.toNat (aX e):Nat):Int)/\((aE S.dig.toNat (aX e):Nat):Int)<18446744073709551616:=⟨Int.natCast_nonneg _,by have:aE S.dig.toNat (aX e)<18446744073709551616:=Kq _; omega⟩;have hlen:=Da hok.b8 C e
  suffices H:(0<=(bB S C e).ph/\(bB S C e).ph<=4/\(bB S C e).ph≠0)/\(cr S C e).Inv/\(cr S C e).s.er=(bB S C e).s.er/\(bB S C e).s.Ok/\∀ y∈(bB S C e).bd,y.has=true->dM y.x=0 by
    obtain⟨⟨p1,p2,p3⟩,i1,i2,i3,i4⟩:=H;exact⟨⟨hlen,⟨p1,p2⟩,λ h=>absurd h p3,λ _=>i1,λ _=>i2,λ _=>i3,⟨by show 0<=S.cnt+1; omega,by show S.cnt+1<=600; omega⟩,hch,i4⟩,p3⟩
  by_cases k1:e.kind=1
  · have eE:cE S C e=mF S.o e.text:=by rw[cE,if_pos k1]
    have eS:bB S C e={ S with ph:=1,s:=uv e.text }:=by rw[bB,if_pos k1]
    have eC:cr S C e=kL (uv e.text) S.o:=by rw[cr,if_pos k1]
    obtain⟨ho,hS⟩:=K3 (eE▸hE);rw[eS,eC];exact⟨⟨by show(0:Int)<=1; decide,by show(1:Int)<=4; decide,by show(1:Int)≠0; decide⟩,KU hS ho,rfl,hS,hok.x⟩
  have n0:S.ph≠0:=λ h0=>k1 (Pc hk1 (h0▸h3));have hC:=hok.c n0;have hcs:=hok.cs n0;have hS:=hok.so n0;have hph:=hok.ph
  by_cases k2:e.kind=2
  · have eE:cE S C e=ke C e.bidder.toNat (C.s.bd.getD e.bidder.toNat Pt) e.want:=by rw[cE,if_neg k1,if_pos k2]
    have eS:bB S C e=S:=by rw[bB,if_neg k1,if_pos k2]
    have eC:cr S C e=qB C e.bidder.toNat e.want:=by rw[cr,if_neg k1,if_pos k2]
    rw[eS,eC];exact⟨⟨hph.1,hph.2,n0⟩,JE hC (eE▸hE),hcs,hS,hok.x⟩
  by_cases k3:e.kind=3
  · have eE:cE S C e=if C.ov then 10 else 0:=by rw[cE,if_neg k1,if_neg k2,if_pos (.inl k3)]
    have eS:bB S C e=(if dB C then { S with ph:=2 } else S):=by rw[bB,if_neg k1,if_neg k2,if_pos k3]
    have eC:cr S C e=eL C:=by rw[cr,if_neg k1,if_neg k2,if_pos k3]
    have ho:C.ov=false:=by
      cases hv:C.ov with
      | false=>rfl
      | true=>rw[eE,hv] at hE; cases hE
    rw[eS,eC];refine⟨?_,ER hC ho,?_,?_,?_⟩
    · split
      · exact⟨by show(0:Int)<=2; decide,by show(2:Int)<=4; decide,by show(2:Int)≠0; decide⟩
      · exact⟨hph.1,hph.2,n0⟩
    · split<;>exact hcs
    · split<;>exact hS
    · split<;>exact hok.x
  by_cases k4:e.kind=4
  · have eS:bB S C e={ S with ph:=2 }:=by rw[bB,if_neg k1,if_neg k2,if_neg k3,if_pos k4]
    have eC:cr S C e=tr C:=by rw[cr,if_neg k1,if_neg k2,if_neg k3,if_pos k4]
    rw[eS,eC];exact⟨⟨by show(0:Int)<=2; decide,by show(2:Int)<=4; decide,by show(2:Int)≠0; decide⟩,I3 hC,hcs,hS,hok.x⟩
  have k34 : ¬ (e.kind=3\/e.kind=4):=λ h=>h.elim k3 k4
  by_cases k5:e.kind=5
  · have eE:cE S C e=dZ S.s C e.bidder.toNat (S.s.bd.getD e.bidder.toNat Pt) e.text:=by rw[cE,if_neg k1,if_neg k2,if_neg k34,if_pos k5]
    have eS:bB S C e=qC S e.bidder.toNat (bF S.s.ps e.text).1:=by rw[bB,if_neg k1,if_neg k2,if_neg k3,if_neg k4,if_pos k5]
    have eC:cr S C e=C:=by rw[cr,if_neg k1,if_neg k2,if_neg k3,if_neg k4,if_neg (by omega),if_neg (by omega)]
    rw[eE] at hE;have hp:(bF S.s.ps e.text).2=0:=by
      unfold dZ at hE
      by_cases g:(bF S.s.ps e.text).2=0
      · exact g
      · rw[if_pos g] at hE; exact absurd hE g
    rw[eS,eC];refine⟨⟨hph.1,hph.2,n0⟩,hC,hcs,hS,λ y hy hh=>?_⟩;rcases List.mem_or_eq_of_mem_set hy with hy | rfl
    · exact hok.x y hy hh
    · exact Az hp
  have hdr:∀ {X:Sx} {n:Nat},(∀ y∈X.bd,y.has=true->dM y.x=0)->∀ y∈(bp X n).bd,y.has=true->dM y.x=0:=λ h y hy hh=>by
    rcases o9 hy with h1 | ⟨_,h2⟩
    · exact h y h1 hh
    · rw[h2] at hh; cases hh
  by_cases k6:e.kind=6
  · have eS:bB S C e=bp S e.bidder.toNat:=by rw[bB,if_neg k1,if_neg k2,if_neg k3,if_neg k4,if_neg k5,if_pos k6]
    have eC:cr S C e=C:=by rw[cr,if_neg k1,if_neg k2,if_neg k3,if_neg k4,if_neg (by omega),if_neg (by omega)]
    rw[eS,eC];exact⟨⟨hph.1,hph.2,n0⟩,hC,hcs,hS,hdr hok.x⟩
  by_cases k7:e.kind=7
  · have eS:bB S C e=bp (gy S e.bidder.toNat) e.bidder.toNat:=by rw[bB,if_neg k1,if_neg k2,if_neg k3,if_neg k4,if_neg k5,if_neg k6,if_pos k7]
    have eC:cr S C e=jA C e.bidder.toNat:=by rw[cr,if_neg k1,if_neg k2,if_neg k3,if_neg k4,if_pos k7]
    have hb8:=hS.bd.l2;have hn:=h4 (by rw[bD,dT (Or.inr (Or.inr (Or.inr k7)))]);rw[eS,eC];refine⟨⟨hph.1,hph.2,n0⟩,H6 hC _,hcs,hS,hdr λ y hy hh=>?_⟩;obtain⟨z,hz,e1,e2⟩:=GS (by have:=hok.b8; have:=hR.b; omega) hy;rw[e1]; exact hok.x z hz (e2▸hh)
  by_cases k8:e.kind=8
  · have eE:cE S C e=if bV C e.round then 4 else 0:=by rw[cE,if_neg k1,if_neg k2,if_neg k34,if_neg k5,if_neg k6,if_neg k7,if_pos k8]
    have eS:bB S C e={ bQ S 8 with ph:=1 }:=by rw[bB,if_neg k1,if_neg k2,if_neg k3,if_neg k4,if_neg k5,if_neg k6,if_neg k7,if_pos k8]
    have eC:cr S C e=dQ C e.round.toNat:=by rw[cr,if_neg k1,if_neg k2,if_neg k3,if_neg k4,if_neg k7,if_pos k8]
    have hr:bV C e.round=false:=by
      cases hv:bV C e.round with
      | false=>rfl
      | true=>rw[eE,hv] at hE; cases hE
    have hsk:∀ k,(bQ S k).s=S.s:=λ k=>by
      induction k with
      | zero=>rfl
      | succ k ih=>exact ih
    have h8:=hsk 8;have hm:∀ y∈(bQ S 8).bd,y.has=true->dM y.x=0:=λ y hy hh=>by
      rcases qP 8 hy with h1 | ⟨_,h2⟩
      · exact hok.x y h1 hh
      · rw[h2] at hh; cases hh
    have hrs:(dQ C e.round.toNat).s=C.s:=by unfold dQ; split<;>rfl
    rw[eS,eC];refine⟨⟨by show(0:Int)<=1; decide,by show(1:Int)<=4; decide,by show(1:Int)≠0; decide⟩,FH hC hr,?_,?_,hm⟩
    · rw[hrs,hcs]; show S.s.er=(bQ S 8).s.er; rw[h8]
    · show(bQ S 8).s.Ok; rw[h8]; exact hS
  · have eS:bB S C e=nR S e:=by rw[bB,if_neg k1,if_neg k2,if_neg k3,if_neg k4,if_neg k5,if_neg k6,if_neg k7,if_neg k8]
    have eC:cr S C e=C:=by rw[cr,if_neg k1,if_neg k2,if_neg k3,if_neg k4,if_neg k7,if_neg k8]
    rw[eS,eC];unfold nR
    split
    · exact⟨⟨by show(0:Int)<=4; decide,by show(4:Int)<=4; decide,by show(4:Int)≠0; decide⟩,hC,hcs,hS,hok.x⟩
    · exact⟨⟨by show(0:Int)<=3; decide,by show(3:Int)<=4; decide,by show(3:Int)≠0; decide⟩,hC,hcs,hS,hok.x⟩
end
def Jo:Ck:={ s:=fH,o:=⟨0,0,0,0⟩,cl:=[],p:=z6,ask:=[],bd:=[],dp:=[],ov:=false,ka:=none,kc:=0,xa:=none,xc:=0,ya:=none,yc:=0,za:=none,zc:=0 }
theorem Qz(o:Po):zm (ij o) Jo:=⟨rfl,⟨by show(0:Int)<=0; decide,by show(0:Int)<=4; decide⟩,λ _=>rfl,λ h=>absurd rfl h,λ h=>absurd rfl h,λ h=>absurd rfl h,⟨by show(0:Int)<=0; decide,by show(0:Int)<=600; decide⟩,⟨by show(0:Int)<=0; decide,by show(0:Int)<18446744073709551616; decide⟩,λ y hy hh=>by
  simp only[ij,List.mem_cons,List.mem_nil_iff,or_false] at hy;rcases hy with rfl | rfl | rfl | rfl | rfl | rfl | rfl | rfl<;>cases hh⟩
theorem GV(o:Po):(ij o).er=ij o:=by
  show({ ij o with bd:=[dH.er,dH.er,dH.er,dH.er,dH.er,dH.er,dH.er,dH.er] }:Sx)=_;rw[Mj]; rfl
theorem GW(o:Po)(w:World):zl (ij o) Jo w:=⟨⟨Mk w,λ y hy=>by
  simp only[ij,List.mem_cons,List.mem_nil_iff,or_false] at hy;rcases hy with rfl | rfl | rfl | rfl | rfl | rfl | rfl | rfl<;>exact EC w⟩,λ q h=>by cases h⟩
theorem LP(S:Sx)(e:Ev):kV S.er e=kV S e:=by
  have h:(S.er.bd.getD e.bidder.toNat dH).out=(S.bd.getD e.bidder.toNat dH).out:=by rw[rB]; rfl
  unfold kV;rw[h]; rfl
theorem Jw(S:Sx)(C:Ck)(e:Ev):uP S.er C.er e=uP S C e:=by
  unfold uP;rw[LP,BE]
theorem PD(S:Sx)(C:Ck)(e:Ev):(EF S.er C.er e).er=(EF S C e).er:=by
  show({ (bB S.er C.er e).er with cnt:=S.cnt+1,dig:=((aE S.dig.toNat (aX e):Nat):Int) }:Sx)={ (bB S C e).er with cnt:=S.cnt+1,dig:=((aE S.dig.toNat (aX e):Nat):Int) };rw[BF]
section
variable {w0 w:World} {b:Nat} {S:Sx} {C:Ck} {B:aD}
theorem SC(hok:zm S C):S.s.Sz:=by
  by_cases h0:S.ph=0
  · have e:=hok.z h0;have h1:S.s.ps=[]:=show S.s.er.ps=fH.ps by rw[e]
    have h2:S.s.bd=[]:=show S.s.er.bd=fH.bd by rw[e]
    have h3:S.s.cp=[]:=show S.s.er.cp=fH.cp by rw[e]
    have h4:S.s.sa=[]:=show S.s.er.sa=fH.sa by rw[e]
    exact⟨by rw[h1]; decide,by rw[h2]; decide,by rw[h3]; decide,by rw[h4]; decide⟩
  · exact(hok.so h0).sz
theorem Hj(hb:af w ⟨b,0,none⟩ 0 S.cells){w' : World}(hc:az w w' [])(j:Nat){v:Value}(hv:S.cells[j]? = some v):w'.cell? ⟨b,j,none⟩=some v:=by
  have:=bC (br hc hb) j v hv
  rwa [Nat.zero_add,fQ] at this
theorem Sh(hb:af w ⟨b,0,none⟩ 0 S.cells){w' : World}(hc:az w w' []):af w' ⟨b,5,none⟩ 0 S.s.arr.toList:=bE _ 0 λ j v hj=>by
  rw[bG,Nat.zero_add];refine Hj hb hc (5+j) ?_;have hj4:j<4:=(List.getElem?_eq_some_iff.1 hj).1
  match j,hj4 with
  | 0,_ | 1,_ | 2,_ | 3,_=>exact hj
theorem LN(hb:af w ⟨b,0,none⟩ 0 S.cells)(h:S.s.In w)(hz:S.s.Sz) :
    CP 44 #[pt b] w (λ r w'=>∃ S' : Se,S'.er=S.s.er/\r=.agg S'.arr/\St w w' (held S'.In)):=by
  refine oJ ?_;unfold jR;obtain⟨z1,z2,z3,z4⟩:=hz;refine(St.start w).one.ax fH.arr λ r1 w1 s1=>⟨_,_,_,_,_,_,_,_,_,_,_,_,Sh hb s1.av,s1.ax fH.arr λ r2 w2 s2=>s2.aA 0 rfl S.s.arr.toList rfl (by simp[Se.arr,Value.oneCell']) λ w3 s3=>?_⟩;have s3:St w w3 (Sep [ai r2 S.s.arr 100,ai r1 fH.arr 100,emp]):=s3;have s3:=s3.quiet (az.drew w3 []);refine⟨_,_,_,s3.ag 0 rfl 0,_,_,_,s3.ag 0 rfl 1,_,_,_,s3.ag 0 rfl 2,_,_,_,s3.ag 0 rfl 3,aj (Ad (h.av s3.av).ps.fl (by omega)) ?_⟩;rintro v w4 ⟨a1,c1,rfl,k1⟩;have s4:St w w4 (Sep [_,_,_,_]):=s3.and k1;refine⟨_,_,_,rfl,s4.ag 1 rfl 3,s4.ag 1 rfl 2,s4.ag 1 rfl 1,aj (Ab (h.av s4.av).bd.fl (by omega)) ?_⟩;rintro v w5 ⟨a2,c2,rfl,k2⟩;have s5:St w w5 (Sep [_,_,_,_,_]):=s4.and k2;refine⟨_,_,_,rfl,s5.ag 2 rfl 3,s5.ag 2 rfl 2,aj (Ac (h.av s5.av).cp.fl (by omega)) ?_⟩;rintro v w6 ⟨a3,c3,rfl,k3⟩;have s6:St w w6 (Sep [_,_,_,_,_,_]):=s5.and k3;refine⟨_,_,_,rfl,s6.ag 3 rfl 3,aj (Aa (h.av s6.av).sa.fl (by omega)) ?_⟩;rintro v w7 ⟨a4,c4,rfl,k4⟩;have s7:St w w7 (Sep [_,_,_,_,_,_,_]):=s6.and k4;let S' : Se:={ S.s with a1:=a1,c1:=c1,a2:=a2,c2:=c2,a3:=a3,c3:=c3,a4:=a4,c4:=c4 };refine⟨_,_,_,rfl,s7.aA 5 rfl S'.arr.toList rfl (by simp[S',Se.arr,Value.oneCell']) λ w8 s8=>⟨_,_,_,_,_,_,_,_,_,_,_,_,s8.cellsIn (cs:=S'.arr) 5 rfl,S',rfl,rfl,?_⟩⟩;have q4:=St.mK (s8.out 0 rfl); have q3:=St.mK (s8.out 1 rfl); have q2:=St.mK (s8.out 2 rfl); have q1:=St.mK (s8.out 3 rfl);exact((s8.aq [0,1,2,3]).held ((bK T3.len).cons ((bK T3.len).cons ((bK Br.len).cons ((bK Pr.len).cons iu.nil))))).weak (o8 λ w' ⟨i4,i3,i2,i1,_⟩=>⟨dL.of i1 h.ps.in,j7.of i2 h.bd.in,CH.of i3,CH.of i4,q1.1,q2.1,q3.1,q4.1⟩)
theorem Lx(hb:af w ⟨b,0,none⟩ 0 S.cells)(h8:S.bd.length=8)(hS:zl S C w)(hok:zm S C)(hk:HG S) :
    CP 45 #[pt b] w (λ r w'=>∃ (p:OA) (C' : Ck),r=.pointer p/\C'.er=C.er/\HG { S with k:=p }/\St w w' (Gj p C')):=by
  refine oH ?_;unfold jP;refine⟨_,Hj hb (az.refl w []) 9 ?_,aj (Gr hS hok hk) ?_⟩
  · have:=kX h8;simpa using this
  · rintro v w1 ⟨p,C',rfl,h1,h2,h3⟩;exact⟨_,rfl,p,C',rfl,h1,h2,h3⟩
end
def eI(b:Nat)(S:Sx)(C:Ck):aD:=Jh λ p:{ p:Sx×Ck // p.1.er=S/\p.2.er=C/\HG p.1 }=>star (ai b p.1.1.cells.toArray 114) (held (zl p.1.1 p.1.2))
section
variable {w0 w:World} {b:Nat} {S S' : Sx} {C C' : Ck} {B:aD}
theorem wX(s:St w0 w (star (eI b S C) B)):∃ (S' : Sx) (C' : Ck),S'.er=S/\C'.er=C/\HG S'/\St w0 w (Sep [ai b S'.cells.toArray 114,held (zl S' C'),B]):=by
  obtain⟨⟨⟨S',C'⟩,h1,h2,h3⟩,s1⟩:=s.ex;exact⟨S',C',h1,h2,h3,s1.assoc.pF⟩
theorem wY(h1:S'.er=S)(h2:C'.er=C)(hk:HG S')(s:St w0 w (Sep [ai b S'.cells.toArray 114,held (zl S' C'),B])):St w0 w (star (eI b S C) B) :=
  St.kK (f:=λ p:{ p:Sx×Ck // p.1.er=S/\p.2.er=C/\HG p.1 }=>star (ai b p.1.1.cells.toArray 114) (held (zl p.1.1 p.1.2))) ⟨(S',C'),h1,h2,hk⟩ (s.triple.eqv aS.assoc')
theorem FT(h:zm S.er C.er):zm S C:=h.er (fO S).symm (J0 C).symm
def Ml(S:Sx)(C:Ck)(e:Ev):Sx×Ck:=if uP S C e=0 then ((EF S C e).er,(OF S C e).er) else (S,C)
theorem xp(s:St w0 w (star (eI b S C) B))(hok:zm S C){e:Ev}(hi:e.In) :
    CP 17 #[pt b,e.v] w (λ r w'=>r=iv (uP S C e)/\St w0 w' (star (eI b (Ml S C e).1 (Ml S C e).2) B)):=by
  obtain⟨S',C',rfl,rfl,hk,s1⟩:=wX s;have hok' : zm S' C':=FT hok;refine aj (Mv s1 hok' hk hi) ?_;rintro v w1 ⟨rfl,k1,k2⟩;refine⟨_,rfl,by rw[Jw],?_⟩;unfold Ml;rw[Jw]
  by_cases h:uP S' C' e=0
  · obtain⟨S2,C2,e1,e2,hg,s2⟩:=k2 h;have phN:=(OG hok' h hi).2;have hph:S2.ph=(EF S' C' e).ph:=show S2.er.ph=(EF S' C' e).er.ph by rw[e1]
    rw[if_pos h];exact wY (e1.trans (PD S' C' e).symm) (e2.trans (BD S' C' e).symm) ⟨λ x=>absurd (hph.symm.trans x) phN,λ _=>hg⟩ s2
  · rw[if_neg h];exact wY rfl rfl hk (k1 h)
end
def Sj  (w:World) (K:KP):Prop:=K (.bool false) w
theorem LC{w K}(h:Sj w K):CP 109 #[.nilIface,.iface 30 (iv 19)] w (K):=ah (ay []) func109 (by kernel_rfl) (by kernel_rfl) h
def Pe  (w:World) (K:KP):Prop:=Calls prog 135 #[.iface 30 (iv 19),.iface 30 (iv 19),.bool true] w λ a b=>∃ c,a=.returned (.bool c)/\K (.bool c) b
theorem LB{w K}(h:Pe w K):CP 109 #[.iface 30 (iv 19),.iface 30 (iv 19)] w (K):=ah (ay []) func109 (by kernel_rfl) (by kernel_rfl) h
def Th  (w:World) (K:KP):Prop:=K (.bool true) w
theorem N6{w K}(h:Th w K):CP 135 #[.iface 30 (iv 19),.iface 30 (iv 19),.bool true] w (K):=ah (ay []) func135 (by kernel_rfl) (by kernel_rfl) h
def KR(a:Nat)(w:World)(K:KP):Prop:=∃ b,w.cell? ⟨a,3,none⟩=some (.bool b)/\cond b (K (iv 19) w) (K (iv 0) w)
theorem Iy{b1 w K}(h:KR b1 w K):CP 105 #[.pointer (some ⟨b1,0,none⟩)] w (K):=ah (ay []) func105 (by kernel_rfl) (by kernel_rfl) h
def O5(a:Nat)(w:World)(K:KP):Prop:=∃ b:Bool->World->Prop,(∀ c d,b d c->∀ e:Nat->Value,cond d (aN c ⟨a,3,none⟩ (.bool true) λ d=>K (.iface 30 (iv 19)) d) (∃ d:World->Prop,(∀ e,d e->∀ f:Nat->Value,K .nilIface e)/\∃ e,c.cell? ⟨a,4,none⟩=some (.bool e)/\cond e (∃ e,c.cell? ⟨a,5,none⟩=some (iv e)/\aN c ⟨a,5,none⟩ (iv (IntKind.i64.wrap (e-1))) λ e=>d e) (d c)))/\∃ c,w.cell? ⟨a,4,none⟩=some (.bool c)/\cond c (∃ c,w.cell? ⟨a,5,none⟩=some (iv c)/\b (c==0) w) (b false w)
theorem KS{b1 w K}(h:O5 b1 w K):CP 108 #[.pointer (some ⟨b1,0,none⟩)] w (K):=ah (ay [(6,[(13,.s .bool)]),(7,[])]) func108 (by kernel_rfl) (by kernel_rfl) h
def GR(a:Nat)(b:ByteArray)(w:World)(K:KP):Prop:=Calls prog 105 #[.pointer (some ⟨a,0,none⟩)] w λ c d=>∃ e,c=.returned (iv e)/\cond (e !=0) (K (iv e) d) (∃ c,d.drew.cell? ⟨a,0,none⟩=some (iv c)/\∃ e f g,d.drew.cell? ⟨a,1,none⟩=some (.slice e f g)/\cond (decide (((b.size:Nat):Int)>(IntKind.i64.wrap (c-(f:Int))))) (K (iv 18) d.drew) (∃ c:Int->World->Nat->Prop,(∃ e,c 0 d.drew e)/\∀ d e f,c f d e->∀ g:Nat->Value,cond (decide (f<((b.size:Nat):Int))) (Calls prog 108 #[.pointer (some ⟨a,0,none⟩)] d λ g h=>∃ (i:Value),g=.returned i/\Calls prog 109 #[i,.iface 30 (iv 19)] h λ g h=>∃ i,g=.returned (.bool i)/\cond i (K (iv 19) h) (∃ g i j,h.drew.cell? ⟨a,1,none⟩=some (.slice g i j)/\0<=f/\an b[(f).toNat]? λ b=>ak h.drew (.cells #[.int .u8 (b.toNat:Int)] 5) λ b h=>h.cell? ⟨a,1,none⟩=some (.slice g i j)/\aZ prog (Builtin.append_ #[125,125] 125 #[.slice g i j,.slice (some ⟨b,0,none⟩) 1 1]) h λ b g=>∃ h i j,b=(.slice h i j)/\aN g ⟨a,1,none⟩ (.slice h i j) λ a=>∃ b,b<e/\c (IntKind.i64.wrap (f+1)) a b)) (K (iv 0) d)))
theorem Fc{b1 s1 w K}(h:GR b1 s1 w K):CP 68 #[.pointer (some ⟨b1,0,none⟩),.string s1] w (K):=ah (ay [(122,[(28,.s (.int .i64))])]) func68 (by kernel_rfl) (by kernel_rfl) h
def O3(a:Nat)(w:World)(K:KP):Prop:=Calls prog 105 #[.pointer (some ⟨a,0,none⟩)] w λ b c=>∃ d,b=.returned (iv d)/\cond (d !=0) (K (iv d) c) (Calls prog 108 #[.pointer (some ⟨a,0,none⟩)] c λ b c=>∃ (d:Value),b=.returned d/\Calls prog 109 #[d,.iface 30 (iv 19)] c λ b c=>∃ d,b=.returned (.bool d)/\cond d (K (iv 19) c) (∃ b d e,c.cell? ⟨a,1,none⟩=some (.slice b d e)/\aN c ⟨a,2,none⟩ (iv (d:Int)) λ a=>K (iv 0) a))
theorem KK{b1 w K}(h:O3 b1 w K):CP 63 #[.pointer (some ⟨b1,0,none⟩)] w (K):=ah (ay []) func63 (by kernel_rfl) (by kernel_rfl) h
def R1(a:Nat)(b:Int)(w:World)(K:KP):Prop:=aZ prog (Instr.makeSlice 125 (iv b) (iv b)) w λ c d=>∃ e f g,c=(.slice e f g)/\∃ c h i,d.cell? ⟨a,1,none⟩=some (.slice c h i)/\aZ prog (Builtin.copy_ #[125,125] 3 #[.slice e f g,.slice c h i]) d λ _e1 c=>∃ d,c.cell? ⟨a,2,none⟩=some (iv d)/\aN c ⟨a,1,none⟩ (.slice e f g) λ c=>aN c ⟨a,2,none⟩ (iv (if b<d then b else d)) λ a=>K (.tuple #[]) a
theorem Nr{b1 n1 w K}(h:R1 b1 n1 w K):CP 110 #[.pointer (some ⟨b1,0,none⟩),iv n1] w (K):=ah (ay []) func110 (by kernel_rfl) (by kernel_rfl) h
def Ap(a:Nat)(b:Int)(w:World)(K:KP):Prop:=Calls prog 105 #[.pointer (some ⟨a,0,none⟩)] w λ c d=>∃ e,c=.returned (iv e)/\cond (e !=0) (K (iv e) d) (∃ c:Bool->World->Prop,(∀ e f,c f e->∀ g:Nat->Value,cond f (K (iv 4) e) (Calls prog 108 #[.pointer (some ⟨a,0,none⟩)] e λ e f=>∃ (g:Value),e=.returned g/\Calls prog 109 #[g,.iface 30 (iv 19)] f λ e f=>∃ g,e=.returned (.bool g)/\cond g (K (iv 19) f) (Calls prog 110 #[.pointer (some ⟨a,0,none⟩),iv b] f λ e f=>e=.returned (.tuple #[])/\K (iv 0) f)))/\cond (decide (b<0)) (c true d) (∃ e f g,d.cell? ⟨a,1,none⟩=some (.slice e f g)/\c (decide (b>(f:Int))) d))
theorem BY{b1 n1 w K}(h:Ap b1 n1 w K):CP 60 #[.pointer (some ⟨b1,0,none⟩),iv n1] w (K):=ah (ay [(14,[(22,.s .bool)])]) func60 (by kernel_rfl) (by kernel_rfl) h
def O2(a:Nat)(w:World)(K:KP):Prop:=Calls prog 105 #[.pointer (some ⟨a,0,none⟩)] w λ b c=>∃ d,b=.returned (iv d)/\cond (d !=0) (K (.tuple #[.string (bs []),iv d]) c) (∃ b d e,c.cell? ⟨a,1,none⟩=some (.slice b d e)/\aZ prog (convert 125 9 (.slice b d e)) c λ a b=>∃ c,a=(.string c)/\K (.tuple #[.string c,iv 0]) b)
theorem KI{b1 w K}(h:O2 b1 w K):CP 58 #[.pointer (some ⟨b1,0,none⟩)] w (K):=ah (ay []) func58 (by kernel_rfl) (by kernel_rfl) h
def RZ(a:Nat)(w:World)(K:KP):Prop:=∃ b c d,w.cell? ⟨a,1,none⟩=some (.slice b c d)/\K (iv (c:Int)) w
theorem KJ{b1 w K}(h:RZ b1 w K):CP 62 #[.pointer (some ⟨b1,0,none⟩)] w (K):=ah (ay []) func62 (by kernel_rfl) (by kernel_rfl) h
def KH(a:Nat)(w:World)(K:KP):Prop:=∃ b,w.cell? ⟨a,2,none⟩=some (iv b)/\K (iv b) w
theorem DI{b1 w K}(h:KH b1 w K):CP 61 #[.pointer (some ⟨b1,0,none⟩)] w (K):=ah (ay []) func61 (by kernel_rfl) (by kernel_rfl) h
def RY(a:Int)(w:World)(K:KP):Prop:=∃ b:Bool->World->Prop,(∀ c d,b d c->∀ e:Nat->Value,cond d (K (.tuple #[.pointer none,iv 4]) c) (ak c (.cells #[iv a,.slice none 0 0,iv 0,.bool false,.bool false,iv 0] 127) λ c d=>K (.tuple #[.pointer (some ⟨c,0,none⟩),iv 0]) d))/\cond (decide (a<1)) (b true w) (b (decide (a>262144)) w)
theorem Nq{n1 w K}(h:RY n1 w K):CP 20 #[iv n1] w (K):=ah (ay [(6,[(9,.s .bool)])]) func20 (by kernel_rfl) (by kernel_rfl) h
end Go.Proofs.YtpihmghnbplohaaGreatDoor
namespace Go.Vc
structure MS where
  size:Int
  b:List UInt8
  dur:Nat
  down:Bool
  left:Option Nat
namespace MS
def bh(s:MS):Bool×MS :=
  match s.left with
  | some 0=>(false,{ s with down:=true })
  | some (n+1)=>(true,{ s with left:=some n })
  | none=>(true,s)
def qz:List UInt8->MS->Int×MS
  | [],s=>(0,s)
  | c :: cs,s=>match s.left with
    | some 0=>(19,{ s with down:=true })
    | some (n+1)=>qz cs { s with left:=some n,b:=s.b++[c] }
    | none=>qz cs { s with b:=s.b++[c] }
def app(x:List UInt8)(s:MS):Int×MS :=
  if s.down=true then (19,s) else if s.size-s.b.length<x.length then (18,s) else qz x s
def syn(s:MS):Int×MS :=
  if s.down=true then (19,s) else if s.bh.1=true then (0,{ s.bh.2 with dur:=s.b.length }) else (19,s.bh.2)
def cut(n:Nat)(s:MS):MS:={ s with b:=s.b.take n,dur:=min s.dur n }
def Hy(n:Int)(s:MS):Int×MS :=
  if s.down=true then (19,s) else if n<0\/s.b.length<n then (4,s) else if s.bh.1=true then (0,s.bh.2.cut n.toNat) else (19,s.bh.2)
def rd(s:MS):List UInt8×Int:=if s.down=true then ([],19) else (s.b,0)
theorem Jy{s:MS}{x:List UInt8}(h:s.down=true):s.app x=(19,s):=by unfold app; rw[if_pos h]
theorem Jz{s:MS}{x:List UInt8}(h:s.down=false)(hx:s.size-s.b.length<x.length):s.app x=(18,s):=by
  unfold app; rw[if_neg (by rw[h]; decide),if_pos hx]
theorem JA{s:MS}{x:List UInt8}(h:s.down=false)(hx : ¬ s.size-s.b.length<x.length):s.app x=qz x s:=by
  unfold app; rw[if_neg (by rw[h]; decide),if_neg hx]
structure Ok (s:MS):Prop where
  s1:s.b.length<=s.size
  s2:s.size<=262144
  d:s.dur<=s.b.length
  l:∀ n,s.left=some n->(n:Int)<=9223372036854775807
theorem FX{s:MS}(h:s.Ok):s.bh.2.Ok:=by
  unfold bh
  split
  · exact⟨h.s1,h.s2,h.d,h.l⟩
  · rename_i n hn;exact⟨h.s1,h.s2,h.d,λ k hk=>by have:=h.l _ hn; simp at hk; omega⟩
  · exact h
theorem Hr(s:MS):s.bh.2.b=s.b/\s.bh.2.size=s.size/\s.bh.2.dur=s.dur:=by
  unfold bh; split<;>exact⟨rfl,rfl,rfl⟩
theorem PV{s:MS}(h:s.Ok)(n:Nat):(s.cut n).Ok:=by
  have h1:=h.s1;have h2:=h.d;refine⟨?_,h.s2,?_,h.l⟩<;>simp only[cut,List.length_take]<;>omega
theorem Bh:∀ (x:List UInt8) {s:MS},s.Ok->s.b.length+x.length<=s.size->(qz x s).2.Ok
  | [],s,h,_=>h
  | c :: cs,s,h,hl=>by
    have h1:=h.s1;have h2:=h.d;simp only[List.length_cons] at hl;unfold qz
    split
    · exact⟨h.s1,h.s2,h.d,h.l⟩
    · rename_i n hn;refine Bh cs ⟨?_,h.s2,?_,λ k hk=>?_⟩ ?_
      · simp; omega
      · simp; omega
      · have:=h.l _ hn; simp at hk; omega
      · simp; omega
    · refine Bh cs ⟨?_,h.s2,?_,h.l⟩ ?_
      · simp; omega
      · simp; omega
      · simp; omega
theorem PE{s:MS}(h:s.Ok)(x:List UInt8):(s.app x).2.Ok:=by
  unfold app
  split
  · exact h
  · split
    · exact h
    · exact Bh x h (by omega)
end MS
end Go.Vc
namespace Go.Proofs.YtpihmghnbplohaaGreatDoor
open Go Go.Vc Tryz
def bJ(s:MS)(v:Value):Array Value:=#[.int .i64 s.size,v,.int .i64 (s.dur:Int),.bool s.down,.bool s.left.isSome,.int .i64 (s.left.getD 0:Nat)]
structure ru (w:World) (x:Nat) (s:MS) (v:Value):Prop where
  blk:w.heap[x]? = some (.cells (bJ s v) 127 (0,0))
  own:w.ownsRow 0 5 1 v s.b.length (s.b.map cU)
  ne:v.ownBlock≠some x
def A9(w:World)(x:Nat)(s:MS)(F:List Nat):Prop:=∃ v,ru w x s v/\F=x :: v.ownBlock.toList
def dR(w w' : World)(x:Nat)(s:MS)(F:List Nat):Prop:=∃ F',A9 w' x s F'/\az w w' F/\∀ k∈F',k∈F\/w.heap.size<=k
theorem A9.lt{w:World}{x:Nat}{s:MS}{F:List Nat}(h:A9 w x s F):∀ k∈F,k<w.heap.size:=by
  obtain⟨v,h,rfl⟩:=h;intro k hk;rcases List.mem_cons.1 hk with rfl | hk
  · exact dN h.blk
  · exact(h.own.lt k (by simpa using hk)).2
theorem A9.keep{w w' : World}{x:Nat}{s:MS}{F G:List Nat}(h:A9 w x s F)(hc:az w w' G)(hd:∀ k∈F,k∉G):A9 w' x s F:=by
  obtain⟨v,h,rfl⟩:=h;exact⟨v,⟨hc.keep h.blk (hd x (by simp)),ei h.own hc λ k hk=>hd k (by simp[hk]),h.ne⟩,rfl⟩
theorem dR.refl{w w' : World}{x:Nat}{s:MS}{F:List Nat}(h:A9 w x s F)(hc:az w w' []):dR w w' x s F :=
  ⟨F,h.keep hc (by simp),hc.mono (by simp),λ _ hk=>.inl hk⟩
theorem dR.trans{w w1 w2:World}{x:Nat}{s s' : MS}{F:List Nat}(h:dR w w1 x s F)(k:∀ F',A9 w1 x s F'->dR w1 w2 x s' F'):dR w w2 x s' F:=by
  obtain⟨F1,h1,hc,hf⟩:=h;obtain⟨F2,h2,hc2,hf2⟩:=k F1 h1;refine⟨F2,h2,hc.trans hc2 hf,λ i hi=>?_⟩;rcases hf2 i hi with h | h
  · exact hf i h
  · exact .inr (Nat.le_trans hc.size h)
theorem yq{w:World}{x:Nat}{s s' : MS}{v u:Value}{i:Nat}(h:ru w x s v)(hc:(bJ s v).setIfInBounds i u=bJ s' v)(hb:s'.b=s.b) :
    ru (w.setCell ⟨x,i,none⟩ u) x s' v :=
  ⟨by rw[heap_set,if_pos rfl,h.blk,yS,hc],by rw[hb]; exact lQ h.own λ k hk=>by rw[heap_set,if_neg (λ e:x=k=>h.ne (e▸hk))],h.ne⟩
theorem Ff{w:World}{x:Nat}{s:MS}{v u:Value}{i:Nat}{R:World->Prop}(h:ru w x s v)(hi:i<6)(hu:u.oneCell' = true)(k:R (w.setCell ⟨x,i,none⟩ u)):aN w ⟨x,i,none⟩ u R :=
  oE h.blk (by simpa[bJ] using hi) hu k
theorem dh{w:World}{x:Nat}{s:MS}{v:Value}(h:ru w x s v)(i:Nat):w.cell? ⟨x,i,none⟩=(bJ s v)[i]?:=by
  rw[cK,h.blk,cG]
theorem wZ{w:World}{x:Nat}{s:MS}{v:Value}(h:ru w x s v) :
    CP 105 #[.pointer (some ⟨x,0,none⟩)] w (λ r w'=>r=.int .i64 (if s.down=true then 19 else 0)/\w' = w):=by
  refine Iy ?_;unfold KR;refine⟨s.down,dh h 3,?_⟩
  cases s.down<;>exact⟨rfl,rfl⟩
theorem Re{w:World}{x:Nat}{s:MS}{v:Value}(h:ru w x s v)(ho:s.Ok) :
    CP 108 #[.pointer (some ⟨x,0,none⟩)] w (λ r w'=>r=(if s.bh.1=true then .nilIface else .iface 30 (.int .i64 19))/\ru w' x s.bh.2 v/\az w w' [x]):=by
  refine KS ?_;unfold O5;have c4:=dh h 4;have c5:=dh h 5;have ol:=ho.l
  cases hl:s.left with
  | none =>
    have hs:s.bh=(true,s):=by simp[MS.bh,hl]
    simp only[bJ,hl] at c4 c5;refine⟨λ b w'=>w' = w/\b=false,?_,⟨false,c4,rfl,rfl⟩⟩;rintro w1 b ⟨rfl,rfl⟩ -;refine⟨λ w'=>w' = w1,?_,⟨false,c4,rfl⟩⟩;rintro w2 rfl -;exact⟨by rw[hs]; rfl,by rw[hs]; exact h,az.refl _ _⟩
  | some n =>
    have c4' : w.cell? ⟨x,4,none⟩=some (.bool true):=by rw[c4]; simp[bJ,hl]
    have c5' : w.cell? ⟨x,5,none⟩=some (.int .i64 (n:Int)):=by rw[c5]; simp[bJ,hl]
    refine⟨λ b w'=>w' = w/\b=((n:Int)==0),?_,⟨true,c4',_,c5',rfl,rfl⟩⟩;rintro w1 b ⟨rfl,rfl⟩ -
    cases n with
    | zero =>
      have hs:s.bh=(false,{ s with down:=true }):=by simp[MS.bh,hl]
      exact Ff h (by omega) rfl ⟨by rw[hs]; rfl,by rw[hs]; exact yq h rfl rfl,az.set _ _ _ _ (by simp)⟩
    | succ n =>
      have hs:s.bh=(true,{ s with left:=some n }):=by simp[MS.bh,hl]
      have hne:(((n+1:Nat):Int)==0)=false:=by simp; omega
      rw[hne];refine⟨λ w'=>w' = w1.setCell ⟨x,5,none⟩ (.int .i64 (n:Int)),?_,⟨true,c4',_,c5',?_⟩⟩
      · rintro w2 rfl -;exact⟨by rw[hs]; rfl,by rw[hs]; exact yq h (by simp[bJ,hl]) rfl,az.set _ _ _ _ (by simp)⟩
      · have hw:IntKind.i64.wrap (((n+1:Nat):Int)-1)=(n:Int):=by
          have:=ol _ hl;rw[IntWalk.i64_in _ (by omega)]; omega
        rw[hw];exact Ff h (by omega) rfl rfl
theorem RT(w:World):CP 109 #[.nilIface,.iface 30 (.int .i64 19)] w (λ r w'=>r=.bool false/\w' = w):=LC ⟨rfl,rfl⟩
theorem RQ(w:World):CP 109 #[.iface 30 (.int .i64 19),.iface 30 (.int .i64 19)] w (λ r w'=>r=.bool true/\w' = w):=by
  refine LB ?_;unfold Pe;refine aj (N6 (K:=λ r w'=>r=.bool true/\w' = w) ⟨rfl,rfl⟩) ?_;rintro v w' ⟨rfl,rfl⟩;exact⟨true,rfl,rfl,rfl⟩
theorem y5{w:World}{x:Nat}{s:MS}{v:Value}(h:ru w x s v)(ho:s.Ok){R:Ending->World->Prop}{C:Value->World->Ending->World->Prop}(hC:∀ r w1,Calls prog 109 #[r,.iface 30 (.int .i64 19)] w1 (C r w1)->R (.returned r) w1)(k:∀ r w1,ru w1 x s.bh.2 v->az w w1 [x]->C r w1 (.returned (.bool (!s.bh.1))) w1) :
    Calls prog 108 #[.pointer (some ⟨x,0,none⟩)] w R:=by
  refine aj (Re h ho) ?_;rintro r w1 ⟨rfl,hM,hc⟩;refine hC _ _ ?_;have hk:=k (if s.bh.1=true then .nilIface else .iface 30 (.int .i64 19)) w1 hM hc
  cases hs:s.bh.1 with
  | true =>
    rw[hs] at hk;refine aj (RT w1) ?_;rintro v w' ⟨rfl,rfl⟩;exact hk
  | false =>
    rw[hs] at hk;refine aj (RQ w1) ?_;rintro v w' ⟨rfl,rfl⟩;exact hk
theorem Q8:gL prog 125 5 (.int .u8 0) 1 1:=gL.mk' underlying125 (by kernel_rfl) rfl (by decide)
theorem HN(c:UInt8)(cs:List UInt8)(s:MS):MS.qz (c :: cs) s=if s.bh.1=true then MS.qz cs { s.bh.2 with b:=s.b++[c] } else (19,s.bh.2):=by
  unfold MS.bh;simp only[MS.qz]
  split<;>simp_all
theorem EN{w:World}{x:Nat}{s:MS}{v:Value}(h:ru w x s v)(ho:s.Ok)(hsz:s.b.length<s.size)(c:UInt8){a:OA}{l cp:Nat}(hv:v=.slice a l cp){R:World->Prop}(k:∀ w',dR w w' x { s with b:=s.b++[c] } (x :: v.ownBlock.toList)->R w') :
    ak w (.cells #[.int .u8 (c.toNat:Int)] 5) λ r w5=>w5.cell? ⟨x,1,none⟩=some (.slice a l cp) /\
      aZ prog (Builtin.append_ #[125,125] 125 #[.slice a l cp,.slice (some ⟨r,0,none⟩) 1 1]) w5 λ e w6=>∃ (a3:OA) (l3 c3:Nat),
        e=.slice a3 l3 c3/\aN w6 ⟨x,1,none⟩ (.slice a3 l3 c3) λ w7=>R w7:=by
  subst hv;have hx:=dN h.blk;have h5:(w.alloc (.cells #[.int .u8 (c.toNat:Int)] 5)).heap[x]? = some (.cells (bJ s (.slice a l cp)) 127 (0,0)):=by rw[ct,if_neg (by omega)]; exact h.blk
  have own5:=ei (w':=w.alloc (.cells #[.int .u8 (c.toNat:Int)] 5)) h.own (az.new w _ []) (by simp);have s1:=ho.s1;have s2:=ho.s2;refine⟨by rw[cK,h5]; rfl,CR Q8 own5 (m:=1) (news:=[cU c]) rfl (λ j u hj=>?_) (by simp[cU,Value.oneCell']) (by omega) (by omega) ?_⟩
  · cases j with
    | zero=>simp at hj; subst hj; rw[show(⟨w.heap.size,0,none⟩:Addr).add 0=⟨w.heap.size,0,none⟩ from rfl,cK,ct,if_pos rfl]; rfl
    | succ j=>simp at hj
  · intro v' w6 own6 hc6 hn6;obtain⟨a3,c3,rfl⟩:=bA own6;have hx6:w6.heap[x]? = some (.cells (bJ s (.slice a l cp)) 127 (0,0)):=hc6.keep h5 (by intro e; exact h.ne (by simpa using e));refine⟨a3,_,c3,rfl,oE hx6 (by simp[bJ]) rfl (k _ ?_)⟩;have hne:Value.ownBlock (.slice a3 (s.b.length+1) c3)≠some x:=by
      intro e;rcases hn6 x e with h' | h'
      · exact h.ne h'
      · simp at h'; omega
    refine⟨_,⟨.slice a3 (s.b.length+1) c3,⟨?_,?_,hne⟩,rfl⟩,?_,?_⟩
    · rw[heap_set,if_pos rfl,hx6]; rfl
    · have:=lQ (w':=w6.setCell ⟨x,1,none⟩ (.slice a3 (s.b.length+1) c3)) own6 λ k hk=>by rw[heap_set,if_neg (λ e:x=k=>hne (e▸hk))]
      simpa using this
    · refine((az.new w _ _).trans (hc6.mono (G:=x :: (Value.ownBlock (.slice a l cp)).toList) (λ i hi=>List.mem_cons_of_mem _ hi)) (λ i hi=>.inl hi)).trans (az.set _ _ _ _ (F:=[x]) (by simp)) (λ i hi=>.inl (by simp at hi; simp[hi]))
    · intro i hi;rcases List.mem_cons.1 hi with rfl | hi
      · exact .inl (by simp)
      · rcases hn6 i (by simpa using hi) with h' | h'
        · exact .inl (by simp[h'])
        · exact .inr (by simp at h'; omega)
theorem HO{s s' : MS}(c:UInt8)(ho:s.Ok)(hsz:s.b.length<s.size)(hs:s' = { s.bh.2 with b:=s.b++[c] }):s'.Ok:=by
  subst hs;have h1:=MS.FX ho;have h2:=MS.Hr s;refine⟨?_,?_,?_,?_⟩
  · simp; rw[h2.2.1]; omega
  · exact h1.s2
  · have:=h1.d
    simp
    rw[h2.1] at this;omega
  · exact h1.l
theorem Bj{w:World}{x:Nat}{s:MS}{F:List Nat}(h:A9 w x s F)(ho:s.Ok)(t:ByteArray) :
    CP 68 #[.pointer (some ⟨x,0,none⟩),.string t] w (λ r w'=>r=.int .i64 (s.app t.data.toList).1/\dR w w' x (s.app t.data.toList).2 F):=by
  obtain⟨v,hv,rfl⟩:=h;refine Fc ?_;unfold GR;refine aj (wZ hv) ?_;rintro _ w1 ⟨rfl,rfl⟩;refine⟨_,rfl,?_⟩;have hsize:t.size=t.data.toList.length:=Array.length_toList.symm
  cases hd:s.down with
  | true =>
    have:s.app t.data.toList=(19,s):=MS.Jy hd;rw[this];exact⟨rfl,dR.refl ⟨v,hv,rfl⟩ (az.refl _ _)⟩
  | false =>
    show cond ((0:Int) !=0) _ _;obtain⟨a,cp,hve⟩:=bA hv.own;have e0:w1.drew.cell? ⟨x,0,none⟩=some (.int .i64 s.size):=dh hv 0;have e1:w1.drew.cell? ⟨x,1,none⟩=some (.slice a s.b.length cp):=by rw[<- hve]; exact dh hv 1
    refine⟨s.size,e0,a,s.b.length,cp,e1,?_⟩;have s1:=ho.s1;have s2:=ho.s2;have hw:IntKind.i64.wrap (s.size-(s.b.length:Int))=s.size-s.b.length:=IntWalk.i64_in _ (by omega);rw[hw]
    by_cases hfull:s.size-s.b.length<(t.size:Int)
    · have:s.app t.data.toList=(18,s):=MS.Jz hd (by rw[<- hsize]; exact hfull);rw[this,dT (show((t.size:Nat):Int)>s.size-s.b.length from hfull)];exact⟨rfl,dR.refl ⟨v,hv,rfl⟩ (az.drew _ _)⟩
    · have:s.app t.data.toList=MS.qz t.data.toList s:=MS.JA hd (by rw[<- hsize]; exact hfull);rw[this,dF (show ¬ ((t.size:Nat):Int)>s.size-s.b.length from hfull)];refine⟨λ n w' m=>∃ (k:Nat) (s' : MS),n=(k:Int)/\k<=t.size/\m=t.size-k/\s'.Ok/\s'.b.length+(t.size-k)<=s'.size /\
        MS.qz (t.data.toList.drop k) s' = MS.qz t.data.toList s/\dR w1 w' x s' (x :: v.ownBlock.toList),?_,?_⟩
      · exact⟨t.size,0,s,rfl,by omega,by omega,ho,by omega,rfl,dR.refl ⟨v,hv,rfl⟩ (az.drew _ _)⟩
      · rintro w2 m n ⟨k,s',rfl,hk,rfl,ho',hsz',happ,hto⟩ -
        by_cases hlt:k<t.size
        · rw[dT (show(k:Int)<((t.size:Nat):Int) by omega)];have hkl:k<t.data.toList.length:=by omega
          have hdrop:t.data.toList.drop k=t.data.toList[k] :: t.data.toList.drop (k+1):=List.drop_eq_getElem_cons hkl;rw[hdrop,HN] at happ;obtain⟨F',⟨v',hv',rfl⟩,hc',hf'⟩:=hto;refine y5 hv' ho' (λ r w3 hh=>⟨_,rfl,hh⟩) ?_;intro r w3 hM3 hc3;refine⟨_,rfl,?_⟩;have hto3:dR w1 w3 x s'.bh.2 (x :: v.ownBlock.toList):=⟨_,⟨v',hM3,rfl⟩,hc'.trans hc3 (λ i hi=>by simp at hi; subst hi; exact .inl (by simp)),hf'⟩
          cases hst:s'.bh.1 with
          | false =>
            rw[hst] at happ;rw[<- happ];exact⟨rfl,hto3⟩
          | true =>
            rw[hst,if_pos rfl] at happ;show cond false _ _;obtain⟨a',cp',hve'⟩:=bA hM3.own;have hb:=MS.Hr s';have hM3d:ru w3.drew x s'.bh.2 v':=⟨hM3.blk,hM3.own,hM3.ne⟩;have e1' : w3.drew.cell? ⟨x,1,none⟩=some (.slice a' s'.bh.2.b.length cp'):=by rw[<- hve']; exact dh hM3d 1
            refine⟨a',_,cp',e1',by omega,?_⟩;have hget:t[(k:Int).toNat]? = some t.data.toList[k]:=by
              simp[hlt];rfl
            rw[hget];refine EN hM3d (MS.FX ho') (by rw[hb.1,hb.2.1]; omega) t.data.toList[k] hve' ?_;intro w4 hto4;have hs'':=HO (s:=s') t.data.toList[k] ho' (by omega) rfl;refine⟨t.size-(k+1),by omega,k+1,{ s'.bh.2 with b:=s'.b++[t.data.toList[k]] },?_,by omega,rfl,hs'',?_,happ,?_⟩
            · exact IntWalk.i64_in _ (by omega)
            · simp; rw[hb.2.1]; omega
            · have e:{ s'.bh.2 with b:=s'.b++[t.data.toList[k]] }={ s'.bh.2 with b:=s'.bh.2.b++[t.data.toList[k]] }:=by rw[hb.1]
              rw[e];refine hto3.trans λ F' hF'=>?_;obtain⟨v2,hv2,rfl⟩:=hF';have:v2=v':=by
                have h1:=hv2.blk.symm.trans hM3.blk;simp[bJ] at h1;exact h1
              subst this;obtain⟨F4,h4,hc4,hf4⟩:=hto4;exact⟨F4,h4,(az.drew w3 _).trans hc4 (λ i hi=>.inl hi),hf4⟩
        · have hkk:k=t.size:=by omega
          subst hkk;rw[dF (show ¬ ((t.size:Int)<((t.size:Nat):Int)) by omega)];have:t.data.toList.drop t.size=[]:=List.drop_eq_nil_of_le (by omega);rw[this] at happ;rw[<- happ];exact⟨rfl,hto⟩
end Go.Proofs.YtpihmghnbplohaaGreatDoor

import Derived.Test.YtpihmghnbplohaaGreatDoorM26
set_option linter.unusedVariables false
set_option maxRecDepth 100000
namespace Go.Proofs.YtpihmghnbplohaaGreatDoor
open Go Go.Vc Tryz
def HF(S:Sx)(w:World):Prop:=S.s.In w/\∀ y∈S.bd,y.x.In w
structure zl (S:Sx) (C:Ck) (w:World):Prop where
  h:HF S w
  k:∀ q,S.k=some q->∃ g,q=⟨g,0,none⟩/\C.Rd g w
structure zm (S:Sx) (C:Ck):Prop where
  b8:S.bd.length=8
  ph:0<=S.ph/\S.ph<=4
  z:S.ph=0->S.s.er=fH
  c:S.ph≠0->C.Inv
  cs:S.ph≠0->C.s.er=S.s.er
  so:S.ph≠0->S.s.Ok
  cnt:0<=S.cnt/\S.cnt<=600
  dig:0<=S.dig/\S.dig<18446744073709551616
  x:∀ y∈S.bd,y.has=true->dM y.x=0
def HG(S:Sx):Prop:=(S.ph=0->S.k=none)/\(S.ph≠0->∃ g,S.k=some ⟨g,0,none⟩)
theorem xu{S S' : Se}(e:S'.er=S.er):S'.bd=S.bd:=show S'.er.bd=S.er.bd from congrArg Se.bd e
theorem N4{S S' : Se}(e:S'.er=S.er)(h:S.Ok):S'.Ok:=by
  have h2:S.er.Ok:=⟨h.ps,h.bd,h.cp,h.sa⟩;rw[<- e] at h2;exact⟨h2.ps,h2.bd,h2.cp,h2.sa⟩
theorem getD_at{α:Type}{l:List α}{n:Nat}{d:α}(h:n<l.length):l[n]? = some (l.getD n d):=by rw[List.getD_eq_getElem?_getD,gE h]; rfl
theorem o9{S:Sx}{n:Nat}{y:Bd}(h:y∈(bp S n).bd):y∈S.bd\/(y.x=dG/\y.has=false):=by
  rcases List.mem_or_eq_of_mem_set h with h | rfl
  · exact .inl h
  · exact .inr ⟨rfl,rfl⟩
theorem qP{S:Sx}{y:Bd}:∀ k,y∈(bQ S k).bd->y∈S.bd\/(y.x=dG/\y.has=false)
  | 0,h=>.inl h
  | k+1,h=>(o9 h).elim (qP k) .inr
theorem GS{S:Sx}{n:Nat}{y:Bd}(h8:n<S.bd.length)(h:y∈(gy S n).bd):∃ z∈S.bd,y.x=z.x/\y.has=z.has:=by
  rcases List.mem_or_eq_of_mem_set h with h | rfl
  · exact⟨y,h,rfl,rfl⟩
  · exact⟨S.bd.getD n dH,List.mem_of_getElem? (getD_at h8),rfl,rfl⟩
section
variable {w0 w:World} {b g:Nat} {S:Sx} {C:Ck} {B:aD}
theorem gG{Q:World->Prop}(s:St w0 w (Sep (dm b S g C++[held Q,B])))(hk:S.k=some ⟨g,0,none⟩)(hQ:∀ w,Q w->HF S w):St w0 w (Sep [ai b S.cells.toArray 114,held (zl S C),B]):=by
  have s1:St w0 w (Sep (dW g C++[held Q,ai b S.cells.toArray 114,B])):=s.aq [1,2,3,4,5,6,7,0,8];have s2:St w0 w (Sep (Sep (dW g C) :: held Q :: [ai b S.cells.toArray 114,B])):=s1.split _;have s3:=s2.qj (S:=zl S C) uV (bn Q) (λ w h1 h2=>⟨hQ w h2,λ q hq=>by rw[hk] at hq; cases hq; exact⟨g,rfl,h1⟩⟩);exact s3.aq [1,0,2]
def Pv(w0:World)(b:Nat)(S:Sx)(C:Ck)(e:Ev)(Q:World->Prop)(B:aD):KP:=λ r w'=>r=iv (cE S C e) /\
  (cE S C e≠0->∃ X:Sx,X.bd.length=8/\St w0 w' (Sep [ai b X.cells.toArray 114,held Q,B])) /\
  (cE S C e=0->∃ (S' : Sx) (C' : Ck),S'.er=(bB S C e).er/\C'.er=(cr S C e).er/\(∃ g,S'.k=some ⟨g,0,none⟩)/\St w0 w' (Sep [ai b S'.cells.toArray 114,held (zl S' C'),B]))
theorem P0{Q:World->Prop}(hQ:∀ w,Q w->HF S w)(s:St w0 w (Sep [ai b S.cells.toArray 114,held Q,B]))(h8:S.bd.length=8){e:Ev}(he:e.Rx)(h1:e.kind=1) :
    Calls prog (eG e.kind) #[pt b,e.v] w (qw (Pv w0 b S C e Q B)):=by
  have eF:eG e.kind=90:=by rw[eG,if_pos h1]
  have eE:cE S C e=mF S.o e.text:=by rw[cE,if_pos h1]
  rw[eF];have s1:St w0 w (Sep [ai b S.cells.toArray 114,Sep [held Q,B]]):=s.eqv (aS.right (aS.unit _));refine aj (Oc s1 h8 (by have:=he.t; omega)) ?_;rintro v w1 ⟨rfl,k1,k2⟩;refine⟨_,rfl,by rw[eE],λ h=>⟨S,h8,?_⟩,λ h=>?_⟩
  · have:=(k1 (by rw[<- eE]; exact h)).bN [_];exact this
  · obtain⟨S',g,C',e1,hS,ho,e2,s2⟩:=k2 (by rw[<- eE]; exact h);let S2:Sx:={ S with ph:=1,s:=S',k:=some ⟨g,0,none⟩ };have s3:St w0 w1 (Sep (dm b S2 g C'++[held S'.In,held Q,B])):=s2.bN [_,_,_,_,_,_,_,_];have s4:=(s3.aq [7,8,0,1,2,3,4,5,6,9]).qj (S:=HF S2) (bn _) (bn _) (λ w h1 h2=>⟨h1,(hQ w h2).2⟩);have s5:St w0 w1 (Sep (dm b S2 g C'++[held (HF S2),B])):=s4.aq [1,2,3,4,5,6,7,0,8];refine⟨S2,C',?_,?_,⟨g,rfl⟩,gG s5 rfl λ w h=>h⟩
    · rw[bB,if_pos h1];show({ S.er with ph:=1,s:=S'.er }:Sx)={ S.er with ph:=1,s:=(uv e.text).er };rw[e1]
    · rw[cr,if_pos h1,e2];have hb:=xu e1;show({ s:=S'.er,o:=S.o,cl:=[],p:=ja S'.er.ps,ask:=List.replicate S'.bd.length z6,bd:=List.replicate S'.bd.length false,dp:=List.replicate S'.bd.length false,ov:=false,ka:=none,kc:=0,xa:=none,xc:=0,ya:=none,yc:=0,za:=none,zc:=0 }:Ck)=_;rw[hb,e1]; rfl
theorem P1{Q:World->Prop}(hQ:∀ w,Q w->HF S w)(s:St w0 w (Sep (dm b S g C++[held Q,B])))(hok:zm S C)(h0:S.ph≠0)(hk:S.k=some ⟨g,0,none⟩){e:Ev}(he:e.Rx)(hp:eu e.kind S.ph=true)(hn:bD e.kind=true->e.bidder<S.s.bd.length) :
    Calls prog (eG e.kind) #[pt b,e.v] w (qw (Pv w0 b S C e Q B)):=by
  have h8:=hok.b8;have hC:=(hok.c h0).ok;have hS:=hok.so h0;have hcs:=xu (hok.cs h0);have hb8:=hS.bd.l2;have n1:e.kind≠1:=λ h=>by
    rw[h] at hp;have:eu 1 S.ph=(S.ph==0):=by rw[eu,if_pos rfl]
    rw[this] at hp; exact h0 (by simpa using hp)
  have lJ:St w0 w (Sep (dm b S g C++[Sep [held Q,B]])):=St.cat ((s.split (dm b S g C)).eqv (aS.right (aS.unit _)));have unf:∀ {w' : World} {S' : Sx} {C' : Ck},St w0 w' (Sep (dm b S' g C'++[Sep [held Q,B]]))->St w0 w' (Sep (dm b S' g C'++[held Q,B])):=λ s=>s.bN [_,_,_,_,_,_,_];have boxed:∀ {w' : World} {S' : Sx} {C' : Ck},St w0 w' (Sep (dm b S' g C'++[held Q,B]))->St w0 w' (Sep [ai b S'.cells.toArray 114,held Q,B]):=λ s=>s.aq [0,7,8];have hb:0<=e.bidder:=he.b.1;have eb:e.bidder=(e.bidder.toNat:Int):=(Int.toNat_of_nonneg hb).symm
  by_cases h2:e.kind=2
  · have hnb:=hn (by rw[bD,dT (Or.inl h2)]);have eF:eG e.kind=91:=by rw[eG,if_neg n1,if_pos h2]
    have eE:cE S C e=ke C e.bidder.toNat (C.s.bd.getD e.bidder.toNat Pt) e.want:=by rw[cE,if_neg n1,if_pos h2]
    have eS:bB S C e=S:=by rw[bB,if_neg n1,if_pos h2]
    have eC:cr S C e=qB C e.bidder.toNat e.want:=by rw[cr,if_neg n1,if_pos h2]
    rw[eF];refine aj (IY lJ h8 hk hC eb (getD_at (d:=Pt) (by rw[hcs]; omega))) ?_;rintro v w1 ⟨rfl,s1⟩;refine⟨_,rfl,by rw[eE],λ h=>⟨S,h8,boxed (unf s1)⟩,λ h=>?_⟩;rw[eE] at h;rw[if_pos h] at s1;exact⟨S,qB C e.bidder.toNat e.want,by rw[eS],by rw[eC],⟨g,hk⟩,gG (unf s1) hk hQ⟩
  by_cases h34:e.kind=3\/e.kind=4
  · have eF:eG e.kind=92:=by rw[eG,if_neg n1,if_neg h2,if_pos h34]
    have eE:cE S C e=if C.ov then 10 else 0:=by rw[cE,if_neg n1,if_neg h2,if_pos h34]
    rw[eF];refine aj (LM lJ h8 hk hC e) ?_;rintro v w1 ⟨x,S',C',rfl,h8',hk',hx,hov,s1⟩;refine⟨_,rfl,by rw[eE,hx],λ h=>⟨S',h8',boxed (unf s1)⟩,λ h=>?_⟩;have ho:C.ov=false:=by
      cases hv:C.ov with
      | false=>rfl
      | true=>rw[eE,hv] at h; cases h
    obtain⟨c1,c2⟩:=hov ho;refine⟨S',C',?_,?_,⟨g,hk'.trans hk⟩,gG (unf s1) (hk'.trans hk) λ w h=>?_⟩
    · rw[bB,if_neg n1,if_neg h2,c2]
      by_cases h3:e.kind=3
      · rw[if_pos h3,if_pos h3]
      · rw[if_neg h3,if_neg h3,if_pos (h34.resolve_left h3)]; rfl
    · rw[cr,if_neg n1,if_neg h2,c1]
      by_cases h3:e.kind=3
      · rw[if_pos h3,if_pos h3]
      · rw[if_neg h3,if_neg h3,if_pos (h34.resolve_left h3)]
    · have:S'.s=S.s/\S'.bd=S.bd:=by
        rw[c2];constructor<;>(repeat' split)<;>rfl
      unfold HF;rw[this.1,this.2]; exact hQ w h
  have n3:e.kind≠3:=λ h=>h34 (.inl h);have n4:e.kind≠4:=λ h=>h34 (.inr h)
  by_cases h5:e.kind=5
  · have hnb:=hn (by rw[bD,dT (Or.inr (Or.inl h5))]);have eF:eG e.kind=93:=by rw[eG,if_neg n1,if_neg h2,if_neg h34,if_pos h5]
    have eE:cE S C e=dZ S.s C e.bidder.toNat (S.s.bd.getD e.bidder.toNat Pt) e.text:=by rw[cE,if_neg n1,if_neg h2,if_neg h34,if_pos h5]
    have eS:bB S C e=qC S e.bidder.toNat (bF S.s.ps e.text).1:=by rw[bB,if_neg n1,if_neg h2,if_neg n3,if_neg n4,if_pos h5]
    have eC:cr S C e=C:=by rw[cr,if_neg n1,if_neg h2,if_neg n3,if_neg n4,if_neg (by omega),if_neg (by omega)]
    rw[eF];refine aj (QX (Q:=Q) (λ w h=>(hQ w h).1) s h8 hk hC hS eb (by rw[hcs]; omega) (getD_at (d:=Pt) (by omega))) ?_;rintro v w1 ⟨rfl,k1,k2⟩;refine⟨_,rfl,by rw[eE],λ h=>⟨S,h8,boxed (k1 (by rw[<- eE]; exact h))⟩,λ h=>?_⟩;obtain⟨x,ex,s1⟩:=k2 (by rw[<- eE]; exact h);have s2:=(s1.aq [7,8,0,1,2,3,4,5,6,9]).qj (S:=HF (qC S e.bidder.toNat x)) (bn _) (bn _) (λ w h1 h2=>⟨(hQ w h1).1,λ y hy=>by
      rcases List.mem_or_eq_of_mem_set hy with hy | rfl
      · exact(hQ w h1).2 y hy
      · exact h2⟩)
    have s3:St w0 w1 (Sep (dm b (qC S e.bidder.toNat x) g C++[held (HF (qC S e.bidder.toNat x)),B])):=s2.aq [1,2,3,4,5,6,7,0,8];refine⟨qC S e.bidder.toNat x,C,by rw[eS]; exact PJ (by rw[<- ex,Mh]),by rw[eC],⟨g,hk⟩,gG s3 hk λ w h=>h⟩
  have dropQ:∀ {S' : Sx} {w:World},S'.s=S.s->(∀ y∈S'.bd,y∈S.bd\/(y.x=dG/\y.has=false))->Q w->HF S' w:=λ e1 e2 h=>⟨by rw[e1]; exact(hQ _ h).1,λ y hy=>by
    rcases e2 y hy with h1 | ⟨h1,_⟩
    · exact(hQ _ h).2 y h1
    · rw[h1]; exact EC _⟩
  have s' : St w0 w (Sep (ai b S.cells.toArray 114 :: (dW g C++[held Q,B]))):=s
  by_cases h6:e.kind=6
  · have hnb:=hn (by rw[bD,dT (Or.inr (Or.inr (Or.inl h6)))]);have eF:eG e.kind=94:=by rw[eG,if_neg n1,if_neg h2,if_neg h34,if_neg h5,if_pos h6]
    have eE:cE S C e=if (S.bd.getD e.bidder.toNat dH).has then 0 else 6:=by rw[cE,if_neg n1,if_neg h2,if_neg h34,if_neg h5,if_pos h6]
    have eS:bB S C e=bp S e.bidder.toNat:=by rw[bB,if_neg n1,if_neg h2,if_neg n3,if_neg n4,if_neg h5,if_pos h6]
    have eC:cr S C e=C:=by rw[cr,if_neg n1,if_neg h2,if_neg n3,if_neg n4,if_neg (by omega),if_neg (by omega)]
    rw[eF];refine aj (Gb s' h8 (by omega) eb) ?_;rintro v w1 (⟨hh,rfl,s1⟩ | ⟨hh,rfl,s1⟩)
    · exact⟨_,rfl,by rw[eE,hh]; rfl,λ _=>⟨S,h8,boxed s1⟩,λ h=>by rw[eE,hh] at h; cases h⟩
    · refine⟨_,rfl,by rw[eE,hh]; rfl,λ h=>absurd (by rw[eE,hh]; rfl) h,λ _=>⟨bp S e.bidder.toNat,C,by rw[eS],by rw[eC],⟨g,hk⟩,gG (show St w0 w1 (Sep (dm b (bp S e.bidder.toNat) g C++[held Q,B])) from s1) hk λ w h=>dropQ rfl (λ y hy=>o9 hy) h⟩⟩
  by_cases h7:e.kind=7
  · have hnb:=hn (by rw[bD,dT (Or.inr (Or.inr (Or.inr h7)))]);have eF:eG e.kind=95:=by rw[eG,if_neg n1,if_neg h2,if_neg h34,if_neg h5,if_neg h6,if_pos h7]
    have eE:cE S C e=if C.dp.getD e.bidder.toNat false then 10 else 0:=by rw[cE,if_neg n1,if_neg h2,if_neg h34,if_neg h5,if_neg h6,if_pos h7]
    have eS:bB S C e=bp (gy S e.bidder.toNat) e.bidder.toNat:=by rw[bB,if_neg n1,if_neg h2,if_neg n3,if_neg n4,if_neg h5,if_neg h6,if_pos h7]
    have eC:cr S C e=jA C e.bidder.toNat:=by rw[cr,if_neg n1,if_neg h2,if_neg n3,if_neg n4,if_pos h7]
    have hgd:∀ {v:Bool},C.dp[e.bidder.toNat]? = some v->C.dp.getD e.bidder.toNat false=v:=λ h=>by rw[List.getD_eq_getElem?_getD,h]; rfl
    rw[eF];refine aj (N3 lJ h8 hk hC eb (by rw[hcs]; omega)) ?_;have hq:∀ w,Q w->HF (bp (gy S e.bidder.toNat) e.bidder.toNat) w:=λ w h=>⟨(hQ w h).1,λ y hy=>by
      rcases o9 hy with h1 | ⟨h1,_⟩
      · obtain⟨z,hz,e1,_⟩:=GS (by omega) h1;rw[e1]; exact(hQ w h).2 z hz
      · rw[h1]; exact EC _⟩
    rintro v w1 (⟨hd,rfl,s1⟩ | ⟨hd,rfl,s1⟩)
    · exact⟨_,rfl,by rw[eE,hgd hd]; rfl,λ _=>⟨_,by simp[bp,gy,h8],boxed (unf s1)⟩,λ h=>by rw[eE,hgd hd] at h; cases h⟩
    · exact⟨_,rfl,by rw[eE,hgd hd]; rfl,λ h=>absurd (by rw[eE,hgd hd]; rfl) h,λ _=>⟨bp (gy S e.bidder.toNat) e.bidder.toNat,_,by rw[eS],by rw[eC],⟨g,hk⟩,gG (unf s1) hk hq⟩⟩
  by_cases h8' : e.kind=8
  · have eF:eG e.kind=96:=by rw[eG,if_neg n1,if_neg h2,if_neg h34,if_neg h5,if_neg h6,if_neg h7,if_pos h8']
    have eE:cE S C e=if bV C e.round then 4 else 0:=by rw[cE,if_neg n1,if_neg h2,if_neg h34,if_neg h5,if_neg h6,if_neg h7,if_pos h8']
    have eS:bB S C e={ bQ S 8 with ph:=1 }:=by rw[bB,if_neg n1,if_neg h2,if_neg n3,if_neg n4,if_neg h5,if_neg h6,if_neg h7,if_pos h8']
    have eC:cr S C e=dQ C e.round.toNat:=by rw[cr,if_neg n1,if_neg h2,if_neg n3,if_neg n4,if_neg h7,if_pos h8']
    have hsk:∀ k,(bQ S k).k=S.k/\(bQ S k).s=S.s:=λ k=>by
      induction k with
      | zero=>exact⟨rfl,rfl⟩
      | succ k ih=>exact ih
    rw[eF];refine aj (LL lJ h8 hk hC e) ?_;rintro v w1 (⟨hd,rfl,s1⟩ | ⟨hd,rfl,C',eC',s1⟩)
    · exact⟨_,rfl,by rw[eE,hd]; rfl,λ _=>⟨S,h8,boxed (unf s1)⟩,λ h=>by rw[eE,hd] at h; cases h⟩
    · exact⟨_,rfl,by rw[eE,hd]; rfl,λ h=>absurd (by rw[eE,hd]; rfl) h,λ _=>⟨{ bQ S 8 with ph:=1 },C',by rw[eS],by rw[eC,eC'],⟨g,(hsk 8).1.trans hk⟩,gG (unf s1) ((hsk 8).1.trans hk) λ w h=>dropQ (hsk 8).2 (λ y hy=>qP 8 hy) h⟩⟩
  · have eF:eG e.kind=97:=by rw[eG,if_neg n1,if_neg h2,if_neg h34,if_neg h5,if_neg h6,if_neg h7,if_neg h8']
    have eE:cE S C e=0:=by rw[cE,if_neg n1,if_neg h2,if_neg h34,if_neg h5,if_neg h6,if_neg h7,if_neg h8']
    have eS:bB S C e=nR S e:=by rw[bB,if_neg n1,if_neg h2,if_neg n3,if_neg n4,if_neg h5,if_neg h6,if_neg h7,if_neg h8']
    have eC:cr S C e=C:=by rw[cr,if_neg n1,if_neg h2,if_neg n3,if_neg n4,if_neg h7,if_neg h8']
    have hf:(nR S e).k=S.k/\(nR S e).s=S.s/\(nR S e).bd=S.bd:=by unfold nR; split<;>exact⟨rfl,rfl,rfl⟩
    rw[eF];refine aj (Kh s' h8 e) ?_;rintro v w1 ⟨rfl,s1⟩;exact⟨_,rfl,by rw[eE],λ h=>absurd eE h,λ _=>⟨nR S e,C,by rw[eS],by rw[eC],⟨g,hf.1.trans hk⟩,gG (show St w0 w1 (Sep (dm b (nR S e) g C++[held Q,B])) from s1) (hf.1.trans hk) λ w h=>dropQ hf.2.1 (λ y hy=>.inl (by rw[hf.2.2] at hy; exact hy)) h⟩⟩
def Gj:Option Addr->Ck->aD
  | none,_=>emp
  | some q,C=>Sep (dW q.block C)
theorem Pc{k:Int}(h1:1<=k)(h:eu k 0=true):k=1:=by
  by_cases g:k=1
  · exact g
  · unfold eu at h;rw[if_neg g] at h
    repeat' split at h
    all_goals first | (revert h; decide) | cases h
theorem P2{Q:World->Prop}(hQ:∀ w,Q w->HF S w)(s:St w0 w (Sep [ai b S.cells.toArray 114,Gj S.k C,held Q,B]))(hok:zm S C)(hk:HG S){e:Ev}(he:e.Rx)(h1:1<=e.kind)(hp:eu e.kind S.ph=true)(hn:bD e.kind=true->e.bidder<S.s.bd.length) :
    Calls prog (eG e.kind) #[pt b,e.v] w (qw (Pv w0 b S C e Q B)):=by
  by_cases h0:S.ph=0
  · have e1:=hk.1 h0;rw[e1] at s;rw[h0] at hp;exact P0 hQ (s.aq [0,2,3]) hok.b8 he (Pc h1 hp)
  · obtain⟨g,hg⟩:=hk.2 h0;rw[hg] at s;have s1:St w0 w (Sep (Sep (dW g C) :: [ai b S.cells.toArray 114,held Q,B])):=s.aq [1,0,2,3];have s2:St w0 w (Sep (dW g C++[ai b S.cells.toArray 114,held Q,B])):=St.cat s1;exact P1 hQ (s2.aq [6,0,1,2,3,4,5,7,8]) hok h0 hg he hp hn
theorem Gr(hS:zl S C w)(hok:zm S C)(hk:HG S):CP 52 #[.pointer S.k] w (λ r w'=>∃ (p:OA) (C' : Ck),r=.pointer p/\C'.er=C.er/\HG { S with k:=p }/\St w w' (Gj p C')):=by
  by_cases h0:S.ph=0
  · rw[hk.1 h0];refine aj (K:=λ r w'=>r=.pointer none/\w' = w) (nH ⟨rfl,rfl⟩) ?_;rintro v w1 ⟨rfl,rfl⟩;exact⟨_,rfl,none,C,rfl,rfl,⟨λ _=>rfl,λ h=>absurd h0 h⟩,St.start w1⟩
  · obtain⟨g,hg⟩:=hk.2 h0;obtain⟨g',e,hrd⟩:=hS.k _ hg
    cases e
    rw[hg];refine aj (ET hrd (hok.c h0).ok) ?_;rintro v w1 ⟨g2,C',eC,rfl,k1⟩;exact⟨_,rfl,some ⟨g2,0,none⟩,C',rfl,eC,⟨λ h=>absurd h h0,λ _=>⟨g2,rfl⟩⟩,k1⟩
end
theorem LV{S:Sx}{b0 b1 b2 b3 b4 b5 b6 b7:Bd}(h:S.bd=[b0,b1,b2,b3,b4,b5,b6,b7]):S.cells=(iv S.o.step :: (iv S.o.pct :: (iv S.o.und :: (iv S.o.rule :: (iv S.ph :: (.slice S.s.a1 S.s.ps.length S.s.c1 :: (.slice S.s.a2 S.s.bd.length S.s.c2 :: (.slice S.s.a3 S.s.cp.length S.s.c3 :: (.slice S.s.a4 S.s.sa.length S.s.c4 :: (.pointer S.k :: (iv b0.x.op :: (b0.x.u.on (iv b0.x.v :: (.slice b0.x.a b0.x.args.length b0.x.c :: (.bool b0.has :: (.bool b0.out :: (iv b1.x.op :: (b1.x.u.on (iv b1.x.v :: (.slice b1.x.a b1.x.args.length b1.x.c :: (.bool b1.has :: (.bool b1.out :: (iv b2.x.op :: (b2.x.u.on (iv b2.x.v :: (.slice b2.x.a b2.x.args.length b2.x.c :: (.bool b2.has :: (.bool b2.out :: (iv b3.x.op :: (b3.x.u.on (iv b3.x.v :: (.slice b3.x.a b3.x.args.length b3.x.c :: (.bool b3.has :: (.bool b3.out :: (iv b4.x.op :: (b4.x.u.on (iv b4.x.v :: (.slice b4.x.a b4.x.args.length b4.x.c :: (.bool b4.has :: (.bool b4.out :: (iv b5.x.op :: (b5.x.u.on (iv b5.x.v :: (.slice b5.x.a b5.x.args.length b5.x.c :: (.bool b5.has :: (.bool b5.out :: (iv b6.x.op :: (b6.x.u.on (iv b6.x.v :: (.slice b6.x.a b6.x.args.length b6.x.c :: (.bool b6.has :: (.bool b6.out :: (iv b7.x.op :: (b7.x.u.on (iv b7.x.v :: (.slice b7.x.a b7.x.args.length b7.x.c :: (.bool b7.has :: (.bool b7.out :: [.int .u64 S.dec,iv S.cnt,.int .u64 S.dig])))))))))))))))))))))))))))))))))))))))))))))))))))))))))):=by
  rw[Sx.cells,h]; rfl
theorem EY(k:Int):dw prog (eG k)=true:=by
  unfold eG
  repeat' split
  all_goals kernel_rfl
theorem Gz{e:Ev}(h:bP e=0):1<=e.kind:=by
  unfold bP at h
  split at h
  · cases h
  · rename_i g
    by_cases h1:1<=e.kind
    · exact h1
    · exact absurd (Or.inl λ h=>h1 h.1) g
def kV(S:Sx)(e:Ev):Int :=
  if bP e≠0 then bP e else if 600<=S.cnt then 18 else if eu e.kind S.ph=false then 10
  else if bD e.kind=true/\(S.s.bd.length:Int)<=e.bidder then 6 else if bD e.kind=true/\(S.bd.getD e.bidder.toNat dH).out=true then 10 else 0
def uP(S:Sx)(C:Ck)(e:Ev):Int:=if kV S e≠0 then kV S e else cE S C e
def EF(S:Sx)(C:Ck)(e:Ev):Sx:={ bB S C e with cnt:=S.cnt+1,dig:=((aE S.dig.toNat (aX e):Nat):Int) }
abbrev OF (S:Sx) (C:Ck) (e:Ev):Ck:=cr S C e
theorem yO(S:Sx):∀ k,(bQ S k).cnt=S.cnt/\(bQ S k).dig=S.dig
  | 0=>⟨rfl,rfl⟩
  | k+1=>yO S k
theorem C9(S:Sx)(C:Ck)(e:Ev):(bB S C e).cnt=S.cnt/\(bB S C e).dig=S.dig:=by
  unfold bB
  split
  · exact⟨rfl,rfl⟩
  split
  · exact⟨rfl,rfl⟩
  split
  · split<;>exact⟨rfl,rfl⟩
  split
  · exact⟨rfl,rfl⟩
  split
  · exact⟨rfl,rfl⟩
  split
  · exact⟨rfl,rfl⟩
  split
  · exact⟨rfl,rfl⟩
  split
  · have h:=yO S 8;generalize bQ S 8=X at h;exact h
  · unfold nR
    split<;>exact⟨rfl,rfl⟩
theorem vq{S:Sx}(h:S.bd.length=8):∀ k,(bQ S k).bd.length=8
  | 0=>h
  | k+1=>by rw[bQ,bp,List.length_set]; exact vq h k
theorem Da{S:Sx}(h:S.bd.length=8)(C:Ck)(e:Ev):(bB S C e).bd.length=8:=by
  unfold bB
  split
  · exact h
  split
  · exact h
  split
  · split<;>exact h
  split
  · exact h
  split
  · rw[qC,List.length_set]; exact h
  split
  · rw[bp,List.length_set]; exact h
  split
  · rw[bp,List.length_set,gy,List.length_set]; exact h
  split
  · exact vq h 8
  · unfold nR
    split<;>exact h
theorem Af{e:Ev}(h:bP e=0):(aX e).length<=4000:=by
  unfold bP at h
  split at h
  · cases h
  · split at h
    · cases h
    · split at h
      · cases h
      · rename_i g; omega
theorem Sy{S:Sx}(h:S.bd.length=8)(x:Int):S.cells.toArray.setIfInBounds 99 (iv x)=({ S with cnt:=x }:Sx).cells.toArray:=by
  obtain⟨o,ph,s,k,bd,dec,cnt,dig⟩:=S;obtain⟨b0,b1,b2,b3,b4,b5,b6,b7,rfl⟩:=bO h;rfl
theorem SA{S:Sx}(h:S.bd.length=8)(x:Int):S.cells.toArray.setIfInBounds 100 (.int .u64 x)=({ S with dig:=x }:Sx).cells.toArray:=by
  obtain⟨o,ph,s,k,bd,dec,cnt,dig⟩:=S;obtain⟨b0,b1,b2,b3,b4,b5,b6,b7,rfl⟩:=bO h;rfl
theorem LW{S:Sx}(h:S.bd.length=8):S.cells.toArray[99]? = some (iv S.cnt):=by
  obtain⟨o,ph,s,k,bd,dec,cnt,dig⟩:=S;obtain⟨b0,b1,b2,b3,b4,b5,b6,b7,rfl⟩:=bO h;rfl
theorem Ht{S:Sx}(h:S.bd.length=8):S.cells.toArray[100]? = some (.int .u64 S.dig):=by
  obtain⟨o,ph,s,k,bd,dec,cnt,dig⟩:=S;obtain⟨b0,b1,b2,b3,b4,b5,b6,b7,rfl⟩:=bO h;rfl
theorem Rl{S:Sx}(h:S.bd.length=8){i:Nat}(hi:i<8){y:Bd}(hy:S.bd[i]? = some y):S.cells.toArray[10+i*11+10]? = some (.bool y.out):=by
  obtain⟨o,ph,s,k,bd,dec,cnt,dig⟩:=S;obtain⟨b0,b1,b2,b3,b4,b5,b6,b7,rfl⟩:=bO h
  match i,hi with
  | 0,_ | 1,_ | 2,_ | 3,_ | 4,_ | 5,_ | 6,_ | 7,_=>cases hy; rfl
theorem LX(S:Sx):∀ v∈S.cells,v.oneCell' = true:=by
  intro v hv;simp only[Sx.cells,Po.cells,Se.arr,List.mem_append,List.mem_cons,List.mem_nil_iff,or_false,List.mem_flatMap,Bd.cells] at hv;rcases hv with(rfl | rfl | rfl | rfl) | rfl | (rfl | rfl | rfl | rfl) | rfl | (⟨y,_,h | rfl | rfl⟩) | rfl | rfl | rfl
  all_goals first | rfl | exact Xv.one _ _ h
section
variable {w0 w:World} {b:Nat} {S:Sx} {C:Ck} {B:aD}
theorem AI{r1 r3 r4:Nat}{x:Int}{X:Sx}{L:List aD}(s:St w0 w (Sep (ai r4 S.cells.toArray 114 :: ai r3 #[iv x] 30 :: ai r1 #[pt b] 33 :: ai b X.cells.toArray 114 :: L)))(h8:S.bd.length=8)(hX:X.bd.length=8){R:World->Prop}(k0:x=0->R w)(k1:x≠0->∀ w',St w0 w' (Sep (ai r4 S.cells.toArray 114 :: ai r3 #[iv x] 30 :: ai r1 #[pt b] 33 :: ai b S.cells.toArray 114 :: L))->R w') :
    EI prog 51 #[pt r3,pt r4,pt r1] w R:=by
  obtain⟨b0,b1,b2,b3,b4,b5,b6,b7,hb⟩:=bO h8;refine lX ?_;unfold hJ;refine⟨_,s.ag 1 rfl 0,?_⟩
  by_cases h0:x=0
  · exact cF (by simpa using h0) ⟨rfl,k0 h0⟩
  · have hcl:af w ⟨r4,0,none⟩ 0 S.cells:=s.cellsIn 0 rfl;have hlen:S.cells.length=101:=Sx.len h8;have hone:=LX S;have e1:=LV hb;rw[e1] at hcl hlen hone;refine cT (by simpa using h0) ⟨_,s.ag 2 rfl 0,_,_,_,_,_,_,_,_,_,_,_,_,_,_,_,_,_,_,_,b0.x.u,_,_,_,_,_,_,_,b1.x.u,_,_,_,_,_,_,_,b2.x.u,_,_,_,_,_,_,_,b3.x.u,_,_,_,_,_,_,_,b4.x.u,_,_,_,_,_,_,_,b5.x.u,_,_,_,_,_,_,_,b6.x.u,_,_,_,_,_,_,_,b7.x.u,_,_,_,_,_,_,_,_,_,hcl,au rfl (s.aA 3 rfl _ ?_ hone λ w1 s1=>⟨rfl,k1 h0 w1 ?_⟩)⟩
    · rw[hlen,dz hX]
    · rw[<- e1] at s1; exact s1
def Tu(w0:World)(b:Nat)(S:Sx)(C:Ck)(e:Ev)(B:aD):KP:=λ r w'=>r=iv (uP S C e) /\
  (uP S C e≠0->St w0 w' (Sep [ai b S.cells.toArray 114,held (zl S C),B])) /\
  (uP S C e=0->∃ (S' : Sx) (C' : Ck),S'.er=(EF S C e).er/\C'.er=(OF S C e).er/\(∃ g,S'.k=some ⟨g,0,none⟩)/\St w0 w' (Sep [ai b S'.cells.toArray 114,held (zl S' C'),B]))
theorem Mv(s:St w0 w (Sep [ai b S.cells.toArray 114,held (zl S C),B]))(hok:zm S C)(hk:HG S){e:Ev}(hi:e.In) :
    CP 17 #[pt b,e.v] w ((Tu w0 b S C e B)):=by
  have h8:=hok.b8;obtain⟨b0,b1,b2,b3,b4,b5,b6,b7,hb⟩:=bO h8;refine oG (u1:=e.want) ?_;unfold jO;refine s.ax #[pt b] λ r1 w1 s1=>s1.ax e.cells.toArray λ r2 w2 s2=>s2.ax #[iv 0] λ r3 w3 s3=>?_;let M:Int->List aD:=λ x=>[ai r3 #[iv x] 30,ai r2 e.cells.toArray 43,ai r1 #[pt b] 33,ai b S.cells.toArray 114,held (zl S C),B];have s3:St w0 w3 (Sep (M 0)):=s3;have fin:∀ {x:Int} {w' : World},x≠0->kV S e=x->St w0 w' (Sep (M 0))->aN w' ⟨r3,0,none⟩ (iv x) λ w6=>∃ n:Int,w6.cell? ⟨r3,0,none⟩=some (iv n)/\Tu w0 b S C e B (iv n) w6:=λ {x w'} hx hs s =>
    s.aH 0 rfl (by show 0<1; decide) rfl λ w6 s6=>⟨_,s6.ag 0 rfl 0,by
      have:uP S C e=x:=by rw[uP,if_pos (by rw[hs]; exact hx),hs]
      exact⟨by rw[this],λ _=>s6.aq [3,4,5],λ h=>absurd (this.symm.trans h) hx⟩⟩
  refine⟨_,s3.ag 2 rfl 0,cF rfl ⟨_,_,_,e.want,_,_,s3.cellsIn 1 rfl,aj (Ag w3 hi) ?_⟩⟩;rintro v w5 ⟨rfl,c5⟩;have s5:=s3.quiet c5;refine⟨_,rfl,?_⟩
  by_cases he : ¬ bP e=0
  · exact cT (by simpa using he) (fin he (by rw[kV,if_pos he]) s5)
  have he:bP e=0:=by simpa using he
  have hR:=o6 he hi.d;have hR1:1<=e.kind:=Gz he;have e1:kV S e=if 600<=S.cnt then 18 else if eu e.kind S.ph=false then 10 else if bD e.kind=true/\(S.s.bd.length:Int)<=e.bidder then 6 else if bD e.kind=true/\(S.bd.getD e.bidder.toNat dH).out=true then 10 else 0:=by rw[kV,if_neg (λ h=>h he)]
  have c99:∀ {w' : World} {l:List aD} {i:Nat},St w0 w' (Sep l)->l[i]? = some (ai b S.cells.toArray 114)->w'.cell? ⟨b,99,none⟩=some (iv S.cnt):=λ s e=>by rw[s.ag _ e]; exact LW h8
  refine cF (by simpa using he) ⟨_,s5.ag 2 rfl 0,au rfl ⟨_,c99 s5 (i:=3) rfl,?_⟩⟩
  by_cases h600:600<=S.cnt
  · exact cT (dT h600) (fin (by decide) (by rw[e1,if_pos h600]) s5)
  rw[if_neg h600] at e1;have s6:=s5.quiet (az.drew w5 []);refine cF (dF h600) ⟨_,s6.ag 1 rfl 0,_,s6.ag 2 rfl 0,au rfl ⟨_,(s6.ag 3 rfl 4).trans rfl,aj (Fz _ _ _) ?_⟩⟩;rintro v w8 ⟨rfl,rfl⟩;refine⟨_,rfl,?_⟩
  cases hp:eu e.kind S.ph with
  | false=>exact cT rfl (fin (by decide) (by rw[e1,if_pos hp]) s6)
  | true =>
  rw[if_neg (by rw[hp]; decide)] at e1;refine cF rfl ⟨λ bb w10=>bb=decide (bD e.kind=true/\(S.s.bd.length:Int)<=e.bidder)/\St w0 w10 (Sep (M 0)),?_,?_⟩
  rotate_left
  · have s7:=s6.quiet (az.drew w5.drew []);refine⟨_,s7.ag 1 rfl 0,aj (GU _ _) ?_⟩;rintro v w30 ⟨rfl,rfl⟩;refine⟨_,rfl,?_⟩
    cases hn:bD e.kind with
    | true =>
      refine cT rfl ⟨_,s7.ag 1 rfl 1,_,s7.ag 2 rfl 0,au rfl ⟨_,_,_,(s7.ag 3 rfl 6).trans rfl,?_,s7⟩⟩
      by_cases hl:e.bidder>=(S.s.bd.length:Int)
      · rw[dT hl,dT ⟨rfl,hl⟩]
      · rw[dF hl,dF λ h=>hl h.2]
    | false=>exact cF rfl ⟨by rw[dF λ h=>by cases h.1],s7⟩
  rintro w10 bb ⟨rfl,s10⟩ x1
  by_cases hq:bD e.kind=true/\(S.s.bd.length:Int)<=e.bidder
  · exact cT (dT hq) (fin (by decide) (by rw[e1,if_pos hq]) s10)
  rw[if_neg hq] at e1;have hnb:bD e.kind=true->e.bidder<S.s.bd.length:=λ h=>by
    rcases Int.lt_or_le e.bidder S.s.bd.length with h1 | h1
    · exact h1
    · exact absurd ⟨h,h1⟩ hq
  refine cF (dF hq) ⟨λ bb w12=>bb=decide (bD e.kind=true/\(S.bd.getD e.bidder.toNat dH).out=true)/\St w0 w12 (Sep (M 0)),?_,?_⟩
  rotate_left
  · have s11:=s10.quiet (az.drew w10 []);refine⟨_,s11.ag 1 rfl 0,aj (GU _ _) ?_⟩;rintro v w29 ⟨rfl,rfl⟩;refine⟨_,rfl,?_⟩
    cases hn:bD e.kind with
    | true =>
      have hb8:0<=e.bidder/\e.bidder<8:=hR.b;have eb:e.bidder=(e.bidder.toNat:Int):=(Int.toNat_of_nonneg hb8.1).symm;have co:w10.drew.cell? (Addr.add (Addr.add (Addr.add ⟨b,0,none⟩ 10) ((e.bidder).toNat*11)) 10)=some (.bool (S.bd.getD e.bidder.toNat dH).out):=by
        rw[bG,bG,bG,s11.ag 3 rfl];rw[show 0+10+e.bidder.toNat*11+10=10+e.bidder.toNat*11+10 by omega];exact Rl h8 (by omega) (getD_at (by omega))
      refine cT rfl ⟨_,s11.ag 2 rfl 0,_,s11.ag 1 rfl 1,au rfl ⟨hb8.1,by omega,_,co,?_,s11⟩⟩
      cases ho:(S.bd.getD e.bidder.toNat dH).out with
      | true=>rw[dT ⟨rfl,rfl⟩]
      | false=>rw[dF λ h=>by cases h.2]
    | false=>exact cF rfl ⟨by rw[dF λ h=>by cases h.1],s11⟩
  rintro w12 bb ⟨rfl,s12⟩ x2
  by_cases ho:bD e.kind=true/\(S.bd.getD e.bidder.toNat dH).out=true
  · exact cT (dT ho) (fin (by decide) (by rw[e1,if_pos ho]) s12)
  rw[if_neg ho] at e1;have eA:uP S C e=cE S C e:=by rw[uP,if_neg (λ h=>h e1)]
  have hcl:af w12 ⟨b,0,none⟩ 0 S.cells:=s12.cellsIn 3 rfl;have hlen:S.cells.length=101:=Sx.len h8;have hone:=LX S;have eS:=LV hb;rw[eS] at hcl hlen hone;refine cF (dF ho) ⟨_,s12.ag 2 rfl 0,au rfl ⟨_,_,_,_,_,_,_,_,_,_,_,_,_,_,_,_,_,_,_,b0.x.u,_,_,_,_,_,_,_,b1.x.u,_,_,_,_,_,_,_,b2.x.u,_,_,_,_,_,_,_,b3.x.u,_,_,_,_,_,_,_,b4.x.u,_,_,_,_,_,_,_,b5.x.u,_,_,_,_,_,_,_,b6.x.u,_,_,_,_,_,_,_,b7.x.u,_,_,_,_,_,_,_,_,_,hcl,s12.ax (ij ⟨0,0,0,0⟩).cells.toArray λ r4 w14 s14=>s14.aA 0 rfl _ (by rw[hlen]; rfl) hone λ w15 s15=>?_⟩⟩;rw[<- eS] at s15;have s16:=s15.quiet (az.drew w15 []);have s16:St w0 w15.drew (Sep (ai r4 S.cells.toArray 114 :: M 0)):=s16;refine⟨_,s16.ag 3 rfl 0,_,s16.ag 3 rfl 0,au rfl ⟨S.k,by rw[bG,s16.ag 4 rfl]; exact kX h8,?_⟩⟩;refine aj (Gr (s16.iP 5 rfl) hok hk) ?_;rintro v w16 ⟨p,C1,rfl,eC1,hk1,k16⟩;let S1:Sx:={ S with k:=p };have e1S:S1.er=S.er:=rfl;have hok1:zm S1 C1:=⟨h8,hok.ph,hok.z,λ h=>(hok.c h).er eC1,λ h=>(show C1.er.s=C.er.s from congrArg Ck.s eC1).trans (hok.cs h),hok.so,hok.cnt,hok.dig,hok.x⟩;have s17:St w0 w16 (Sep (Gj p C1 :: ai r4 S.cells.toArray 114 :: M 0)):=s16.and k16;refine⟨_,rfl,s17.ag 4 rfl 0,au rfl ?_⟩;rw[bG];refine s17.aH 5 rfl (j:=0+9) (by show 0+9<S.cells.toArray.size; rw[dz h8]; decide) rfl λ w17 s18=>?_;rw[show 0+9=9 from rfl,SB h8] at s18;refine⟨_,s18.ag 4 rfl 0,_,s18.ag 3 rfl 0,aj (JX w17 b e.kind) ?_⟩;rintro v w18 ⟨rfl,rfl⟩;refine⟨_,rfl,_,s18.ag 4 rfl 0,_,_,_,e.want,_,_,s18.cellsIn 3 rfl,bx (EY e.kind) ?_⟩;have s19:St w0 w18 (Sep [ai b S1.cells.toArray 114,Gj S1.k C1,held (zl S C),Sep [ai r4 S.cells.toArray 114,ai r3 #[iv 0] 30,ai r2 e.cells.toArray 43,ai r1 #[pt b] 33,B]]) :=
    St.cat (((s18.aq [5,0,6,1,2,3,4,7]).split [_,_,_]).eqv (aS.right (aS.unit _)))
  refine aj (P2 (S:=S1) (λ w h=>(show HF S1 w from h.h)) s19 hok1 hk1 hR hR1 hp hnb) ?_;rintro v w19 ⟨rfl,k1,k2⟩;have eE1:cE S1 C1 e=cE S C e:=by rw[<- BE S1 C1,eC1,e1S,BE]
  have eS1:(bB S1 C1 e).er=(bB S C e).er:=by rw[<- BF S1 C1,eC1,e1S,BF]
  have eC2:(cr S1 C1 e).er=(cr S C e).er:=by rw[<- BD S1 C1,eC1,e1S,BD]
  rw[eE1] at k1 k2 ⊢
  by_cases h0:cE S C e=0
  · obtain⟨S',C',eS',eC',⟨g,hg⟩,s20⟩:=k2 h0;have s20:St w0 w19 (Sep ([ai b S'.cells.toArray 114,held (zl S' C')]++[ai r4 S.cells.toArray 114,ai r3 #[iv 0] 30,ai r2 e.cells.toArray 43,ai r1 #[pt b] 33,B])):=s20.bN [_,_];have eS3:=eS'.trans eS1;have h8' : S'.bd.length=8:=by
      have e1:S'.er.bd.length=(bB S C e).er.bd.length:=by rw[eS3]
      have e2:S'.er.bd.length=S'.bd.length:=List.length_map _;have e3:(bB S C e).er.bd.length=(bB S C e).bd.length:=List.length_map _;rw[<- e2,e1,e3]; exact Da h8 C e
    have hcnt:S'.cnt=S.cnt:=(show S'.er.cnt=(bB S C e).er.cnt by rw[eS3]).trans (C9 S C e).1;have hdig:S'.dig=((S.dig.toNat:Nat):Int):=((show S'.er.dig=(bB S C e).er.dig by rw[eS3]).trans (C9 S C e).2).trans (Int.toNat_of_nonneg hok.dig.1).symm;have hc600:=hok.cnt;rw[h0];refine⟨_,rfl,s20.aH 3 rfl (by show 0<1; decide) rfl λ w20 s21=>⟨_,s21.ag 3 rfl 0,cF rfl ⟨_,_,_,e.want,_,_,s21.cellsIn 4 rfl,aj (Db w20 hi) ?_⟩⟩⟩;rintro v w23 ⟨rfl,c23⟩;rw[if_pos he,he];have s22:=s21.quiet c23;have c99:w23.cell? ⟨b,0+99,none⟩=some (iv S'.cnt):=by rw[s22.ag 0 rfl]; exact LW h8'
    refine⟨_,_,rfl,_,s22.ag 5 rfl 0,au rfl ⟨_,by rw[bG]; exact c99,au rfl ?_⟩⟩;rw[bG,aC (n:=S'.cnt+1) ⟨by omega,by omega⟩];refine s22.aH 0 rfl (j:=0+99) (by rw[dz h8']; decide) rfl λ w24 s23=>?_;rw[show 0+99=99 from rfl,Sy h8'] at s23;have s24:=s23.quiet (az.drew w24 []);have h83:({ S' with cnt:=S'.cnt+1 }:Sx).bd.length=8:=h8';have c100:w24.drew.cell? ⟨b,0+100,none⟩=some (.int .u64 ((S.dig.toNat:Nat):Int)):=by rw[s24.ag 0 rfl,<- hdig]; exact Ht h83
    have hbl:=Af he;refine⟨_,s24.ag 5 rfl 0,_,s24.ag 5 rfl 0,au rfl ⟨_,by rw[bG]; exact c100,aj (Bs _ S.dig.toNat (aX e) (by omega)) ?_⟩⟩;rintro v w25 ⟨rfl,c25⟩;have s25:=s24.quiet c25;refine⟨_,rfl,s25.ag 5 rfl 0,au rfl ?_⟩;rw[bG];refine s25.aH 0 rfl (j:=0+100) (by rw[dz h83]; decide) rfl λ w26 s26=>?_;rw[show 0+100=100 from rfl,SA h83] at s26;refine s26.aH 3 rfl (by show 0<1; decide) rfl λ w27 s27=>?_;let S3:Sx:={ S' with cnt:=S'.cnt+1,dig:=((aE S.dig.toNat (aX e):Nat):Int) };have s28:St w0 w27 (Sep (held (zl S' C') :: [ai r4 S.cells.toArray 114,ai r3 #[iv 0] 30,ai r1 #[pt b] 33,ai b S3.cells.toArray 114,ai r2 e.cells.toArray 43,B])):=s27.aq [1,2,3,5,0,4,6];have s29:St w0 w27 (Sep (held (zl S3 C') :: [ai r4 S.cells.toArray 114,ai r3 #[iv 0] 30,ai r1 #[pt b] 33,ai b S3.cells.toArray 114,ai r2 e.cells.toArray 43,B])):=s28.weak (bH.left (o8 λ w h=>⟨⟨h.h.1,h.h.2⟩,h.k⟩));have s30:St w0 w27 (Sep (ai r4 S.cells.toArray 114 :: ai r3 #[iv 0] 30 :: ai r1 #[pt b] 33 :: ai b S3.cells.toArray 114 :: [held (zl S3 C'),B])):=s29.aq [1,2,3,4,0,6];refine AI s30 h8 (show S3.bd.length=8 from h8') (λ _=>⟨_,s30.ag 1 rfl 0,by rw[eA,h0],λ h=>absurd (eA.trans h0) h,λ _=>⟨S3,C',?_,eC'.trans eC2,⟨g,hg⟩,s30.aq [3,4,5]⟩⟩) (λ h=>absurd rfl h);show({ S'.er with cnt:=S'.cnt+1,dig:=((aE S.dig.toNat (aX e):Nat):Int) }:Sx)={ (bB S C e).er with cnt:=S.cnt+1,dig:=((aE S.dig.toNat (aX e):Nat):Int) };rw[eS3,hcnt]
  · obtain⟨X,hX,s20⟩:=k1 h0;have s20:St w0 w19 (Sep ([ai b X.cells.toArray 114,held (zl S C)]++[ai r4 S.cells.toArray 114,ai r3 #[iv 0] 30,ai r2 e.cells.toArray 43,ai r1 #[pt b] 33,B])):=s20.bN [_,_];refine⟨_,rfl,s20.aH 3 rfl (by show 0<1; decide) rfl λ w20 s21=>⟨_,s21.ag 3 rfl 0,cT (by simpa using h0) ⟨_,s21.ag 3 rfl 0,s21.aH 3 rfl (by show 0<1; decide) rfl λ w21 s22=>?_⟩⟩⟩;have s23:St w0 w21 (Sep (ai r4 S.cells.toArray 114 :: ai r3 #[iv (cE S C e)] 30 :: ai r1 #[pt b] 33 :: ai b X.cells.toArray 114 :: [held (zl S C),ai r2 e.cells.toArray 43,B])):=s22.aq [2,3,5,0,1,4,6];refine AI s23 h8 hX (λ h=>absurd h h0) λ _ w22 s24=>⟨_,s24.ag 1 rfl 0,by rw[eA],λ _=>s24.aq [3,4,6],λ h=>absurd (eA.symm.trans h) h0⟩
end
end Go.Proofs.YtpihmghnbplohaaGreatDoor

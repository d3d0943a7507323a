import Derived.LoopNIn
import Derived.Test.YtpihmghnbplohaaGreatDoorQ14
set_option linter.unusedVariables false
set_option maxRecDepth 100000
noncomputable section
namespace Go.Gx
open Go Go.Vc
def nh(ops:Array Oper)(e:Tr AV)(o:Oper):Option Bool:=match o.guard with
 | none=>some true
 | some (j,pol)=>match (ops[j]?).bind (·.dst) with
  | none=>none
  | some d=>match e.get d with
   | some (.bool b)=>some (cond pol b (not b))
   | some (.tup [])=>some false
   | _=>none
theorem jv{ops:Array Oper}{e:Tr AV}{o:Oper}{g:Bool}(h:nh ops e o=some g){ρ:Names}{t:Tm}(he:eZ ρ e t){A B:Tm->Prop}(hA:g=true->A t)(hB:g=false->B t):gd ops t o A B:=by
 unfold nh at h;unfold gd
 split at h
 ·rename_i hg
  cases h
  rw[hg];exact hA rfl
 ·rename_i j pol hg;rw[hg];simp only
  split at h
  ·cases h
  ·rename_i d hd;rw[hd];simp only
   split at h
   ·rename_i b hb;have hv:=gA (he _ _ hb);rw[hv];have hs:=T5 t d _ hv (by simp[undef]);simp only
    cases pol<;>cases b<;>simp only[cond] at h ⊢ <;> rw[hs]<;>cases h
    ·exact hA rfl
    ·exact hB rfl
    ·exact hB rfl
    ·exact hA rfl
   ·rename_i hb
    cases h
    obtain⟨vs,hvs,hv⟩:=Iz (he _ _ hb);rw[hv];exact hB rfl
   ·cases h
inductive GS where
 | no
 | ok (e:Tr AV) (d:List AD) (h:AH) (n:Nat)
structure Ky (w0:World) (N:Nat) (ρ:Names) (e:Tr AV) (d:List AD) (h:AH) (t:Tm) (dd:List Deferred) (w:World):Prop where
 rep:fY w0 w ρ h
 env:eZ ρ e t
 len:t.length=N
 dfs:HD ρ d=some dd
def EP(w0:World)(N:Nat)(ρ:Names)(e:Tr AV)(d:List AD)(h:AH)(t:Tm)(dd:List Deferred)(w:World):Prop:=∃ ρ',Ext ρ ρ'/\Ky w0 N ρ' e d h t dd w
theorem EP.trans{w0:World}{N:Nat}{ρ σ:Names}{e:Tr AV}{d:List AD}{h:AH}{t:Tm}{dd:List Deferred}{w:World}(hx:Ext ρ σ)(k:EP w0 N σ e d h t dd w):EP w0 N ρ e d h t dd w :=
 let ⟨τ,h1,h2⟩:=k
 ⟨τ,hx.trans h1,h2⟩
def zV(P:Program)(call ext:br)(N:Nat)(ops:Array Oper):List Oper->Tr AV->List AD->AH->Nat->GS
 | [],e,d,h,n=>.ok e d h n
 | o :: rest,e,d,h,n=>match nh ops e o with
  | some true=>match He P call ext o e h n with
   | some (a,ds,h',n')=>match xQ N e o.dst a with
    | some e'=>zV P call ext N ops rest e' (ds++d) h' n'
    | none=>.no
   | none=>.no
  | some false=>match xQ N e o.dst (.tup []) with
   | some e'=>zV P call ext N ops rest e' d h n
   | none=>.no
  | none=>.no
theorem DT{P:Program}{w0:World}{call ext:br}(hcall:jy P w0 call)(hext:EU P w0 ext){N:Nat}{ops:Array Oper}:∀ {l:List Oper} {e e' : Tr AV} {d d' : List AD} {h h' : AH} {n n' : Nat},zV P call ext N ops l e d h n=.ok e' d' h' n'->∀ {ρ:Names} {t:Tm} {dd:List Deferred} {w:World},Ky w0 N ρ e d h t dd w->D7 P ops l t dd w (λ t dd w=>EP w0 N ρ e' d' h' t dd w)
 | [],e,e',d,d',h,h',n,n',hg,ρ,t,dd,w,hs=>by
  simp only[zV] at hg
  cases hg
  exact⟨ρ,Ext.refl _,hs⟩
 | o :: rest,e,e',d,d',h,h',n,n',hg,ρ,t,dd,w,hs=>by
  simp only[zV] at hg
  split at hg
  ·rename_i hgd
   split at hg
   ·rename_i a ds h2 n2 ho
    split at hg
    ·rename_i e2 hp;refine jv hgd hs.env (λ _=>?_) (λ h=>by cases h);refine Nw hcall hext ho hs.rep hs.env λ ρ' v nd w' hx hr hv hd=>?_;obtain⟨h1,h2⟩:=qK hp hs.len (hs.env.mono hx) hv;have:=DT hcall hext hg (ρ:=ρ') (t:=pt t o.dst v) (dd:=nd++dd) (w:=w') ⟨hr,h1,h2,Jl hd (uh hx hs.dfs)⟩;have e1:∀ {l:List Oper} {t:Tm} {dd:List Deferred} {w:World} {K K' : Tm->List Deferred->World->Prop},(∀ t dd w,K t dd w->K' t dd w)->D7 P ops l t dd w K->D7 P ops l t dd w K':=by
      intro l
      induction l with
      | nil=>intro t dd w K K' hk h; exact hk _ _ _ h
      | cons o l ih =>
       intro t dd w K K' hk h;simp only[D7] at h ⊢;unfold gd at h ⊢;have hO:∀ (t:Tm),PT P o t w (λ v nd w'=>D7 P ops l (pt t o.dst v) (nd++dd) w' K)->PT P o t w (λ v nd w'=>D7 P ops l (pt t o.dst v) (nd++dd) w' K'):=λ t ⟨n,w',hr,hn⟩=>by
        refine⟨n,w',hr,?_⟩
        cases n<;>simp only[JQ] at hn ⊢
        ·exact ih hk hn
        ·exact ih hk hn
        ·exact Calls.mono hn λ e w'' ⟨v,h1,h2⟩=>⟨v,h1,ih hk h2⟩
        ·exact RoundIn.mono hn λ e w'' ⟨v,h1,h2⟩=>⟨v,h1,ih hk h2⟩
        ·exact ih hk hn
       split
       ·rename_i hq; simp only[hq] at h; exact hO _ h
       ·rename_i j pol hq;simp only[hq] at h
        split
        ·rename_i hq2; simp only[hq2] at h; exact ih hk h
        ·rename_i d hq2;simp only[hq2] at h
         split
         ·rename_i b hq3;simp only[hq3] at h
          cases pol<;>cases b<;>simp only[cond] at h ⊢ <;> first|exact hO _ h|exact ih hk h
         ·rename_i hq3
          split at h
          ·rename_i b hq4; exact absurd hq4 (hq3 b)
          ·exact ih hk h
     exact e1 (λ t dd w h=>h.trans hx) this
    ·cases hg
   ·cases hg
  ·rename_i hgd
   split at hg
   ·rename_i e2 hp;refine jv hgd hs.env (λ h=>by cases h) (λ _=>?_);obtain⟨h1,h2⟩:=qK hp hs.len hs.env (v:=undef) rfl;exact DT hcall hext hg (ρ:=ρ) ⟨hs.rep,h1,h2,hs.dfs⟩
   ·cases hg
  ·cases hg
abbrev lC:=List (Nat×List Hj)
def Ad(h:AH):List Hj->Bool
 | []=>true
 | d :: l=>match cX h d.i d.o d.vs.length with
  | some az=>cond (zh az d.vs) (Ad h l) false
  | none=>false
def v8(h:AH):lC->Bool
 | []=>true
 | p :: l=>cond (Ad h p.2) (v8 h l) false
def zE(ops:Array Oper)(j:Nat)(pend:lC):lC:=pend.filter λ p=>!dep ops ops.size j p.1
def y4(ρ:Names)(ds:List Hj)(T:List (World->Prop)):Prop:=∃ ρ0,Ext ρ0 ρ/\T=ds.map (mV ρ0)/\∀ d∈ds,∃ L vs,ρ0 d.i=some L/\eN ρ0 d.vs=some vs
theorem y4.mono{ρ σ:Names}(hx:Ext ρ σ){ds:List Hj}{T:List (World->Prop)}(h:y4 ρ ds T):y4 σ ds T :=
 let ⟨ρ0,h1,h2,h3⟩:=h
 ⟨ρ0,h1.trans hx,h2,h3⟩
theorem Ae{h:AH}:∀ {l:List Hj},Ad h l=true->∀ d∈l,cX h d.i d.o d.vs.length=some d.vs
 | [],_,d,hd=>by cases hd
 | x :: l,hk,d,hd=>by
  simp only[Ad] at hk
  split at hk
  ·rename_i az haz;obtain⟨h1,h2⟩:=gS hk;have:=mO h1;subst this;rcases List.mem_cons.1 hd with rfl|hd
   ·exact haz
   ·exact Ae h2 d hd
  ·cases hk
theorem y4.holds{w0 w:World}{ρ:Names}{h:AH}(hr:fY w0 w ρ h){ds:List Hj}{T:List (World->Prop)}(hd:y4 ρ ds T)(hk:Ad h ds=true):holds T w:=by
 obtain⟨ρ0,hx,rfl,hw⟩:=hd;intro f hf;obtain⟨d,hd,rfl⟩:=List.mem_map.1 hf;obtain⟨L,vs,h1,h2⟩:=hw d hd;obtain⟨L',vs',g1,g2,_,g4⟩:=hJ hr (Ae hk d hd);obtain rfl:L=L':=Option.some.inj ((hx _ _ h1).symm.trans g1);obtain rfl:vs=vs':=Option.some.inj ((cN hx h2).symm.trans g2);exact⟨L,vs,h1,h2,g4⟩
inductive nN (ρ:Names):lC->kX->Prop
 | nil:nN ρ [] []
 | cons {i:Nat} {ds:List Hj} {T:List (World->Prop)} {l:lC} {m:kX}:y4 ρ ds T->nN ρ l m->nN ρ ((i,ds) :: l) ((i,T) :: m)
theorem nN.mono{ρ σ:Names}(hx:Ext ρ σ){l:lC}{m:kX}(h:nN ρ l m):nN σ l m:=by
 induction h with
 | nil=>exact .nil
 | cons h _ ih=>exact .cons (h.mono hx) ih
theorem nN.drop{ρ:Names}{l:lC}{m:kX}(h:nN ρ l m)(ops:Array Oper)(j:Nat):nN ρ (zE ops j l) (Vc.drop ops j m):=by
 induction h with
 | nil=>exact .nil
 | cons h _ ih =>
  rename_i i ds T l m _;unfold zE Vc.drop at ih ⊢;simp only[List.filter_cons]
  split
  ·exact .cons h ih
  ·exact ih
theorem nN.holds{w0 w:World}{ρ:Names}{h:AH}(hr:fY w0 w ρ h){l:lC}{m:kX}(hp:nN ρ l m)(hk:v8 h l=true):∀ p∈m,holds p.2 w:=by
 induction hp with
 | nil=>intro p hp; cases hp
 | cons h' _ ih =>
  simp only[v8] at hk;obtain⟨h1,h2⟩:=gS hk;intro p hp;rcases List.mem_cons.1 hp with rfl|hp
  ·exact h'.holds hr h1
  ·exact ih h2 p hp
theorem I8:∀ {T:List (World->Prop)} {w:World} {R:Prop},holds T w->R->P2 T w R
 | [],_,_,_,h=>h
 | f :: _,_,_,hT,h=>⟨hT f (List.mem_cons_self ..),I8 (λ g hg=>hT g (List.mem_cons_of_mem _ hg)) h⟩
theorem C9:∀ {ps:kX} {w:World} {R:Prop},(∀ p∈ps,holds p.2 w)->R->Bj ps w R
 | [],_,_,_,h=>h
 | p :: _,_,_,hp,h=>I8 (hp p (List.mem_cons_self ..)) (C9 (λ q hq=>hp q (List.mem_cons_of_mem _ hq)) h)
theorem C8:∀ {l:List Prop},(∀ p∈l,p)->Mt l
 | [],_=>trivial
 | [p],h=>h p (List.mem_cons_self ..)
 | p :: _ :: _,h=>⟨h p (List.mem_cons_self ..),C8 λ r hr=>h r (List.mem_cons_of_mem _ hr)⟩
def P9:GS->GS->Bool
 | .ok e _ h _,.ok e' _ h' _=>cond (Tr.beq oz e e') (Tr.beq MD h h') false
 | _,_=>false
def qZ(s:GS):List GS->Bool
 | []=>true
 | x :: l=>cond (P9 s x) (qZ s l) false
def zY(P:Program)(call ext:br)(N:Nat)(ops:Array Oper)(listed:Array Bool)(pend:lC)(e:Tr AV)(h:AH)(nm n:Nat)(multi:Bool)(i:Nat)(next:Array Bool->lC->Tr AV->AH->Nat->GS):GS:=match ops[i]? with
 | none=>.no
 | some o=>match nh ops e o with
  | some true=>match He P call ext o e h nm with
   | some (a,[],h',n')=>cond (v8 h' (zE ops i pend)) (match xQ N e o.dst a with
    | some e'=>next (listed.setIfInBounds i true) (zE ops i pend) e' h' (cond multi n n')
    | none=>.no) .no
   | _=>.no
  | some false=>match xQ N e o.dst (.tup []) with
   | some e'=>next (listed.setIfInBounds i true) (zE ops i pend) e' h n
   | none=>.no
  | none=>.no
def Am(c0 i:Nat):Nat:=Nat.add (Nat.mul (Nat.add (Nat.mul c0 256) (Nat.succ i)) 16777216) (Nat.mod c0 64)
def fq(P:Program)(call ext:br)(N:Nat)(ops:Array Oper)(multi:Bool)(c0:Nat):Nat->Array Bool->lC->Tr AV->AH->Nat->GS
 | 0,listed,_,e,h,n=>cond (Region.ready .any ops listed).isEmpty (.ok e [] h n) .no
 | k+1,listed,pend,e,h,n=>match pick ops (Region.ready .any ops listed) with
  | some i=>match ops[i]? with
   | none=>.no
   | some o=>cond (Region.free .any ops listed i) (match nh ops e o with
    | some true=>match Ri P o e h with
     | some (a,T)=>match xQ N e o.dst a with
      | some e'=>fq P call ext N ops multi c0 k (listed.setIfInBounds i true) ((i,T) :: pend) e' h n
      | none=>.no
     | none=>.no
    | some false=>match xQ N e o.dst (.tup []) with
     | some e'=>fq P call ext N ops multi c0 k (listed.setIfInBounds i true) pend e' h n
     | none=>.no
    | none=>.no) .no
  | none=>match Region.ready .any ops listed with
   | []=>.ok e [] h n
   | i :: is=>match zY P call ext N ops listed pend e h (cond multi (Am c0 i) n) n multi i (fq P call ext N ops multi c0 k) with
    | .no=>.no
    | s=>cond (qZ s (is.map λ j=>zY P call ext N ops listed pend e h (cond multi (Am c0 j) n) n multi j (fq P call ext N ops multi c0 k))) s .no
theorem jJ{P:Program}{ops:Array Oper}{K K' : Tm->World->Prop}(hk:∀ t w,K t w->K' t w):∀ (n:Nat) (listed:Array Bool) (pend:kX) (t:Tm) (w:World),gm P ops n listed pend t w K->gm P ops n listed pend t w K'
 | 0,listed,pend,t,w,h=>by
  simp only[gm] at h ⊢;obtain⟨h1,h2⟩:=gR h;rw[h1]; exact hk _ _ h2
 | n+1,listed,pend,t,w,h=>by
  have gdm:∀ {o:Oper} {A A' B B' : Tm->Prop},(∀ t,A t->A' t)->(∀ t,B t->B' t)->gd ops t o A B->gd ops t o A' B':=λ {o A A' B B'} hA hB h=>by
   unfold gd at h ⊢
   split
   ·rename_i hq; simp only[hq] at h; exact hA _ h
   ·rename_i j pol hq;simp only[hq] at h
    split
    ·rename_i hq2; simp only[hq2] at h; exact hB _ h
    ·rename_i d hq2;simp only[hq2] at h
     split
     ·rename_i b hq3;simp only[hq3] at h
      cases pol<;>cases b<;>simp only[cond] at h ⊢ <;> first|exact hA _ h|exact hB _ h
     ·rename_i hq3
      split at h
      ·rename_i b hq4; exact absurd hq4 (hq3 b)
      ·exact hB _ h
  unfold gm at h ⊢
  split at h
  ·rename_i i hi
   try simp only[hi]
   split at h
   ·exact h.elim
   ·rename_i o ho;obtain⟨h1,h2⟩:=gR h
    try simp only[ho]
    try simp only[h1,cond_true]
    exact gdm (λ t ⟨v,T,a,b,c⟩=>⟨v,T,jJ hk n _ _ _ _ a,b,c⟩) (λ t h=>jJ hk n _ _ _ _ h) h2
  ·rename_i hi
   try simp only[hi]
   split at h
   ·rename_i hr; try simp only[hr]
    exact hk _ _ h
   ·rename_i i is hr
    try simp only[hr]
    refine C8 λ p hp=>?_;obtain⟨j,hj,rfl⟩:=List.mem_map.1 hp;have:=qI h _ (List.mem_map.2 ⟨j,hj,rfl⟩)
    split at this
    ·exact this.elim
    ·rename_i o ho
     try simp only[ho]
     refine gdm (λ t ⟨nx,w',hr,hn⟩=>⟨nx,w',hr,?_⟩) (λ t h=>jJ hk n _ _ _ _ h) this;have key:∀ (v:Value) (nd:List Deferred) (w' : World),(nd=[]/\Bj (Vc.drop ops j pend) w' (gm P ops n (listed.setIfInBounds j true) (Vc.drop ops j pend) (pt t o.dst v) w' K))->(nd=[]/\Bj (Vc.drop ops j pend) w' (gm P ops n (listed.setIfInBounds j true) (Vc.drop ops j pend) (pt t o.dst v) w' K')):=λ v nd w' ⟨a,b⟩=>by
      obtain⟨b1,b2⟩:=qJ b;exact⟨a,C9 b1 (jJ hk n _ _ _ _ b2)⟩
     cases nx<;>simp only[JQ] at hn ⊢
     ·exact⟨trivial,(key _ [] _ ⟨rfl,hn.2⟩).2⟩
     ·exact⟨trivial,(key _ [] _ ⟨rfl,hn.2⟩).2⟩
     ·exact Calls.mono hn λ e w'' ⟨v,h1,h2⟩=>⟨v,h1,trivial,(key _ [] _ ⟨rfl,h2.2⟩).2⟩
     ·exact RoundIn.mono hn λ e w'' ⟨v,h1,h2⟩=>⟨v,h1,trivial,(key _ [] _ ⟨rfl,h2.2⟩).2⟩
     ·first|exact key _ _ _ hn|exact hn.elim|(cases hn.1)
theorem xB{s:GS}:∀ {l:List GS},qZ s l=true->∀ x∈l,P9 s x=true
 | [],_,x,hx=>by cases hx
 | a :: l,h,x,hx=>by
  simp only[qZ] at h;obtain⟨h1,h2⟩:=gS h;rcases List.mem_cons.1 hx with rfl|hx
  ·exact h1
  ·exact xB h2 x hx
def Ends(w0:World)(N:Nat)(ρ:Names)(e:Tr AV)(h:AH)(t:Tm)(w:World):Prop:=∃ ρ',Ext ρ ρ'/\fY w0 w ρ' h/\eZ ρ' e t/\t.length=N
theorem pH{P:Program}{w0:World}{call ext:br}(hcall:jy P w0 call)(hext:EU P w0 ext){N:Nat}{ops:Array Oper}{multi:Bool}{c0:Nat}:∀ (k:Nat) {listed:Array Bool} {pa:lC} {e e' : Tr AV} {d' : List AD} {h h' : AH} {n n' : Nat},fq P call ext N ops multi c0 k listed pa e h n=.ok e' d' h' n'->∀ {ρ:Names} {t:Tm} {w:World} {pend:kX},fY w0 w ρ h->eZ ρ e t->t.length=N->nN ρ pa pend ->
  d' = []/\gm P ops k listed pend t w (λ t w=>Ends w0 N ρ e' h' t w)
 | 0,listed,pa,e,e',d',h,h',n,n',hg,ρ,t,w,pend,hr,he,hN,hp=>by
  simp only[fq] at hg
  cases hb:(Region.ready .any ops listed).isEmpty with
  | false=>rw[hb] at hg; cases hg
  | true =>
   rw[hb] at hg
   cases hg
   refine⟨rfl,?_⟩;simp only[gm,hb,cond_true];exact⟨ρ,Ext.refl _,hr,he,hN⟩
 | k+1,listed,pa,e,e',d',h,h',n,n',hg,ρ,t,w,pend,hr,he,hN,hp=>by
  have way:∀ {i:Nat} {nm:Nat} {s:GS} {e1:Tr AV} {d1:List AD} {h1:AH} {n1:Nat},zY P call ext N ops listed pa e h nm n multi i (fq P call ext N ops multi c0 k)=s->s=.ok e1 d1 h1 n1 ->
    d1=[]/\(match ops[i]? with
     | none=>False
     | some o=>gd ops t o
      (λ t=>PT P o t w λ v nd w'=>nd=[]/\Bj (Vc.drop ops i pend) w' (gm P ops k (listed.setIfInBounds i true) (Vc.drop ops i pend) (pt t o.dst v) w' (λ t w=>Ends w0 N ρ e1 h1 t w))) (λ t=>gm P ops k (listed.setIfInBounds i true) (Vc.drop ops i pend) (pt t o.dst undef) w (λ t w=>Ends w0 N ρ e1 h1 t w))):=by
   intro i nm s e1 d1 h1 n1 hs hs';subst hs';unfold zY at hs
   split at hs
   ·cases hs
   ·rename_i o ho
    try simp only
    split at hs
    ·rename_i hgd
     split at hs
     ·rename_i a h2 n2 hop
      cases hkp:v8 h2 (zE ops i pa) with
      | false=>rw[hkp] at hs; cases hs
      | true =>
       rw[hkp] at hs;simp only[cond_true] at hs
       split at hs
       ·rename_i e2 hput;have hd1:d1=[]:=by
         obtain⟨v0,hv0⟩:∃ x:Nat,x=x:=⟨0,rfl⟩;have aux:∀ (k:Nat) {listed:Array Bool} {pa:lC} {e e' : Tr AV} {d' : List AD} {h h' : AH} {n n' : Nat},fq P call ext N ops multi c0 k listed pa e h n=.ok e' d' h' n'->d' = []:=by
          intro k
          induction k with
          | zero =>
           intro listed pa e e' d' h h' n n' hg;simp only[fq] at hg
           cases hb:(Region.ready .any ops listed).isEmpty with
           | false=>rw[hb] at hg; cases hg
           | true=>rw[hb] at hg; cases hg; rfl
          | succ k ih =>
           intro listed pa e e' d' h h' n n' hg;have hw:∀ {i nm:Nat} {e1:Tr AV} {d1:List AD} {h1:AH} {n1:Nat},zY P call ext N ops listed pa e h nm n multi i (fq P call ext N ops multi c0 k)=.ok e1 d1 h1 n1->d1=[]:=by
            intro i nm e1 d1 h1 n1 hs;unfold zY at hs
            split at hs
            ·cases hs
            ·split at hs
             ·split at hs
              ·rename_i a h2 n2 _
               cases hkp:v8 h2 (zE ops i pa) with
               | false=>rw[hkp] at hs; cases hs
               | true =>
                rw[hkp] at hs;simp only[cond_true] at hs
                split at hs
                ·exact ih hs
                ·cases hs
              ·cases hs
             ·split at hs
              ·exact ih hs
              ·cases hs
             ·cases hs
           simp only[fq] at hg
           split at hg
           ·rename_i i hi
            split at hg
            ·cases hg
            ·rename_i o ho
             cases hf:Region.free .any ops listed i with
             | false=>rw[hf] at hg; cases hg
             | true =>
              rw[hf] at hg;simp only[cond_true] at hg
              split at hg
              ·split at hg
               ·split at hg
                ·exact ih hg
                ·cases hg
               ·cases hg
              ·split at hg
               ·exact ih hg
               ·cases hg
              ·cases hg
           ·split at hg
            ·cases hg; rfl
            ·rename_i i is _
             split at hg
             ·cases hg
             ·rename_i s hne hs
              cases hsm:qZ (zY P call ext N ops listed pa e h (cond multi (Am c0 i) n) n multi i (fq P call ext N ops multi c0 k)) (is.map λ j=>zY P call ext N ops listed pa e h (cond multi (Am c0 j) n) n multi j (fq P call ext N ops multi c0 k)) with
              | false=>rw[hsm] at hg; cases hg
              | true=>rw[hsm] at hg; exact hw hg
         exact aux k hs
        refine⟨hd1,jv hgd he (λ _=>?_) (λ h=>by cases h)⟩;refine Nw hcall hext hop hr he λ ρ' v nd w' hx hr' hv hnd=>?_
        cases hnd
        obtain⟨g1,g2⟩:=qK hput hN (he.mono hx) hv;have hp':=(hp.mono hx).drop ops i;obtain⟨_,hk2⟩:=pH hcall hext k hs (ρ:=ρ') hr' g1 g2 hp';exact⟨rfl,C9 (hp'.holds hr' hkp) (jJ (λ t w ⟨ρ2,a,b⟩=>⟨ρ2,hx.trans a,b⟩) _ _ _ _ _ hk2)⟩
       ·cases hs
     ·cases hs
    ·rename_i hgd
     split at hs
     ·rename_i e2 hput;obtain⟨g1,g2⟩:=qK hput hN he (v:=undef) rfl;obtain⟨hd1,hk2⟩:=pH hcall hext k hs (ρ:=ρ) hr g1 g2 (hp.drop ops i);exact⟨hd1,jv hgd he (λ h=>by cases h) (λ _=>hk2)⟩
     ·cases hs
    ·cases hs
  simp only[fq] at hg;unfold gm
  split at hg
  ·rename_i i hi
   try simp only[hi]
   split at hg
   ·cases hg
   ·rename_i o ho
    try simp only[ho]
    cases hf:Region.free .any ops listed i with
    | false=>rw[hf] at hg; cases hg
    | true =>
     rw[hf] at hg;simp only[cond_true] at hg ⊢
     split at hg
     ·rename_i hgd
      split at hg
      ·rename_i a T hrd
       split at hg
       ·rename_i e2 hput;obtain⟨v,g1,g2,g3⟩:=NA hrd hr he;obtain⟨a1,a2⟩:=qK hput hN he g1;have hdr:y4 ρ T (T.map (mV ρ)):=⟨ρ,Ext.refl _,rfl,λ d hd=>by
         obtain⟨L,vs,b1,b2,_⟩:=g2 _ (List.mem_map.2 ⟨d,hd,rfl⟩);exact⟨L,vs,b1,b2⟩⟩
        obtain⟨hd1,hk2⟩:=pH hcall hext k hg (ρ:=ρ) hr a1 a2 (.cons hdr hp);exact⟨hd1,jv hgd he (λ _=>⟨v,_,hk2,g2,g3⟩) (λ h=>by cases h)⟩
       ·cases hg
      ·cases hg
     ·rename_i hgd
      split at hg
      ·rename_i e2 hput;obtain⟨a1,a2⟩:=qK hput hN he (v:=undef) rfl;obtain⟨hd1,hk2⟩:=pH hcall hext k hg (ρ:=ρ) hr a1 a2 hp;exact⟨hd1,jv hgd he (λ h=>by cases h) (λ _=>hk2)⟩
      ·cases hg
     ·cases hg
  ·rename_i hi
   try simp only[hi]
   split at hg
   ·rename_i hrd
    cases hg
    try simp only[hrd]
    exact⟨trivial,ρ,Ext.refl _,hr,he,hN⟩
   ·rename_i i is hrd
    try simp only[hrd]
    split at hg
    ·cases hg
    ·rename_i hne
     cases hsm:qZ (zY P call ext N ops listed pa e h (cond multi (Am c0 i) n) n multi i (fq P call ext N ops multi c0 k)) (is.map λ j=>zY P call ext N ops listed pa e h (cond multi (Am c0 j) n) n multi j (fq P call ext N ops multi c0 k)) with
     | false=>rw[hsm] at hg; cases hg
     | true =>
      rw[hsm] at hg;simp only[cond_true] at hg;obtain⟨hd1,hw1⟩:=way rfl hg;refine⟨hd1,C8 λ p hp'=>?_⟩;obtain⟨j,hj,rfl⟩:=List.mem_map.1 hp';rcases List.mem_cons.1 hj with rfl|hj
      ·exact hw1
      ·have hb:=xB hsm _ (List.mem_map.2 ⟨j,hj,rfl⟩);rw[hg] at hb;generalize hgj:zY P call ext N ops listed pa e h (cond multi (Am c0 j) n) n multi j (fq P call ext N ops multi c0 k)=sj at hb
       cases sj with
       | no=>simp[P9] at hb
       | ok ej dj hj' nj =>
        simp only[P9] at hb;obtain⟨b1,b2⟩:=gS hb;have e1:=Tr.beq_eq (λ h=>Dh h) b1;have e2:=Tr.beq_eq (λ h=>P8 h) b2;subst e1 e2;exact(way hgj rfl).2
inductive GE where
 | normal
 | exit (i:Nat)
 | ret
 | goto (l:Nat)
def GE.ex:GE->Exit
 | .normal=>.normal
 | .exit i=>.exit i
 | .ret=>.ret
 | .goto l=>.goto l
inductive GR where
 | no
 | ok (x:GE) (e:Tr AV) (d:List AD) (h:AH) (n:Nat)
def GS.Yo:GS->GR
 | .no=>.no
 | .ok e d h n=>.ok .normal e d h n
def GS.Zz(d0:List AD)(m:Bool):GS->GR
 | .no=>.no
 | .ok e _ h n=>.ok .normal e d0 h (cond m (Nat.succ n) n)
def vV(run:Code->Tr AV->List AD->AH->Nat->GR)(c:Code):Nat->Code->Tr AV->List AD->AH->Nat->GR
 | 0,_,_,_,_,_=>.no
 | k+1,cur,e,d,h,n=>match run cur e d h n with
  | .ok (.goto l) e d h n=>match findLabel c l with
   | some rest=>vV run c k rest e d h n
   | none=>.no
  | r=>r
def xe(run:Tr AV->List AD->AH->Nat->GR):Nat->Tr AV->List AD->AH->Nat->GR
 | 0,_,_,_,_=>.no
 | k+1,e,d,h,n=>match run e d h n with
  | .ok .normal e d h n=>xe run k e d h n
  | r=>r
def th(ops:Array Oper):Bool :=
 let ws:=(List.range ops.size).filter λ i=>match ops[i]? with
  | some o=>!Vi o.op
  | none=>false
 ws.any λ i=>ws.any λ j=>Nat.ble (Nat.succ i) j&&!dep ops ops.size j i&&!dep ops ops.size i j
def zT(P:Program)(call ext:br)(N:Nat):Nat->Code->Tr AV->List AD->AH->Nat->GR
 | 0,_,_,_,_,_=>.no
 | f+1,c,e,d,h,n=>match c with
  | .skip=>.ok .normal e d h n
  | .label _=>.ok .normal e d h n
  | .region _ ops draw=>match draw with
   | false=>(zV P call ext N ops ops.toList e d h n).Yo
   | true=>cond (and (P.follows .mixedOrders) (and (Region.noSelect ops) (dc ops.toList)))
    ((fq P call ext N ops (th ops) n ops.size (Array.replicate ops.size false) [] e h n).Zz d (th ops)) .no
  | .seq a b=>match zT P call ext N f a e d h n with
   | .ok .normal e d h n=>zT P call ext N f b e d h n
   | r=>r
  | .cond c a b=>match fN e c with
   | some (.bool x)=>cond x (zT P call ext N f a e d h n) (zT P call ext N f b e d h n)
   | _=>.no
  | .block id c=>match zT P call ext N f c e d h n with
   | .ok (.exit i) e d h n=>cond (Nat.beq i id) (.ok .normal e d h n) (.ok (.exit i) e d h n)
   | r=>r
  | .loop c=>xe (zT P call ext N f c) f e d h n
  | .exit i=>.ok (.exit i) e d h n
  | .ret=>.ok .ret e d h n
  | .goto l=>.ok (.goto l) e d h n
  | .scope c=>vV (zT P call ext N f) c f c e d h n
  | _=>.no
def Out(w0:World)(N:Nat)(ρ:Names)(x:GE)(e:Tr AV)(d:List AD)(h:AH)(ex:Exit)(a:Act)(w:World):Prop :=
 x.ex=ex/\∃ t dd,a=gh t dd/\EP w0 N ρ e d h t dd w
theorem Out.mk{w0:World}{N:Nat}{ρ:Names}{x:GE}{e:Tr AV}{d:List AD}{h:AH}{t:Tm}{dd:List Deferred}{w:World}(k:Ky w0 N ρ e d h t dd w):Out w0 N ρ x e d h x.ex (gh t dd) w :=
 ⟨rfl,t,dd,rfl,ρ,Ext.refl _,k⟩
theorem Out.trans{w0:World}{N:Nat}{ρ σ:Names}{x:GE}{e:Tr AV}{d:List AD}{h:AH}{ex:Exit}{a:Act}{w:World}(hx:Ext ρ σ)(k:Out w0 N σ x e d h ex a w):Out w0 N ρ x e d h ex a w:=by
 obtain⟨h1,t,dd,h2,h3⟩:=k;exact⟨h1,t,dd,h2,h3.trans hx⟩
theorem X9{P:Program}{c:Code}{Q:Exit->Act->World->Prop}{a:Act}{w:World}:c.wpIn (FW none) 0 P Q a w<->c.wp P Q a w:=wpIn_wide
theorem nM{P:Program}{c:Code}{Q:Exit->Act->World->Prop}{a:Act}{w:World}(h:∀ (b:Frame) (k:List Item) (cs:List Frame),∃ e a' w',Q e a' w'/\Arrives P (lone (b.at a (.code c :: .inScope c :: k)) cs w) b k cs e a' w'):(Code.scope c).wp P Q a w:=λ b k cs=>by
 obtain⟨e,a',w',hq,harr⟩:=h b k cs;exact⟨e,a',w',hq,.of_steps (.one step_scope) harr⟩
def gi(P:Program)(c cur:Code)(Q:Exit->Act->World->Prop)(a:Act)(w:World):Prop :=
 ∀ (b:Frame) (k:List Item) (cs:List Frame),∃ e a' w',Q e a' w'/\Arrives P (lone (b.at a (.code cur :: .inScope c :: k)) cs w) b k cs e a' w'
theorem tu{P:Program}{c cur:Code}{Q:Exit->Act->World->Prop}{a:Act}{w:World}(h:cur.wp P (λ e a' w'=>(∀ l,e=.goto l->∃ rest,findLabel c l=some rest/\gi P c rest Q a' w')/\((∀ l,e≠.goto l)->Q e a' w')) a w):gi P c cur Q a w:=by
 intro b k cs;obtain⟨e,a₁,w₁,hq,harr⟩:=h b (.inScope c :: k) cs
 cases e with
 | normal=>exact⟨.normal,a₁,w₁,hq.2 (by simp),Steps.trans harr (.one step_inScope)⟩
 | exit id=>exact⟨.exit id,a₁,w₁,hq.2 (by simp),λ k' hk=>harr k' (by simp[exitTo,hk])⟩
 | goto l =>
  obtain⟨rest,hf,hs⟩:=hq.1 l rfl;have hg:gotoIn l (.inScope c :: k)=some (.code rest :: .inScope c :: k):=by simp[gotoIn,hf]
  obtain⟨e₂,a₂,w₂,hq₂,harr₂⟩:=hs b k cs;exact⟨e₂,a₂,w₂,hq₂,.of_steps (harr _ hg) harr₂⟩
 | ret=>exact⟨_,a₁,w₁,hq.2 (by simp),harr⟩
 | panic ch=>exact⟨_,a₁,w₁,hq.2 (by simp),harr⟩
 | outgrown=>exact⟨_,a₁,w₁,hq.2 (by simp),harr⟩
theorem WQ{a b:Bool}(h:and a b=true):a=true/\b=true:=by cases a<;>simp_all
def kW(P:Program)(w0:World)(N:Nat)(f:Tr AV->List AD->AH->Nat->GR)(c:Code):Prop:=∀ {e e' : Tr AV} {d d' : List AD} {h h' : AH} {n n' : Nat} {x:GE},f e d h n=.ok x e' d' h' n'->∀ {ρ:Names} {t:Tm} {dd:List Deferred} {w:World},Ky w0 N ρ e d h t dd w->c.wpIn (FW none) 0 P (Out w0 N ρ x e' d' h') (gh t dd) w
theorem LI{P:Program}{w0:World}{call ext:br}(hcall:jy P w0 call)(hext:EU P w0 ext){N id:Nat}{ops:Array Oper} :
  kW P w0 N (λ e d h n=>(zV P call ext N ops ops.toList e d h n).Yo) (.region id ops false):=by
 intro e e' d d' h h' n n' x hg ρ t dd w hs;simp only at hg;generalize hr:zV P call ext N ops ops.toList e d h n=r at hg
 cases r with
 | no=>cases hg
 | ok e1 d1 h1 n1 =>
  cases hg
  refine wpIn_region_list (D8 (ro:=none) ops.toList t dd w _ (.inl rfl) ?_ (DT hcall hext hr hs));exact λ t d w k=>⟨rfl,t,d,rfl,k⟩
theorem Qy{P:Program}{w0:World}{call ext:br}(hcall:jy P w0 call)(hext:EU P w0 ext){N id:Nat}{ops:Array Oper} :
  kW P w0 N (λ e d h n=>cond (and (P.follows .mixedOrders) (and (Region.noSelect ops) (dc ops.toList))) ((fq P call ext N ops (th ops) n ops.size (Array.replicate ops.size false) [] e h n).Zz d (th ops)) .no) (.region id ops true):=by
 intro e e' d d' h h' n n' x hg ρ t dd w hs;simp only at hg;generalize hm:th ops=m at hg
 cases hc:(and (P.follows .mixedOrders) (and (Region.noSelect ops) (dc ops.toList))) with
 | false=>rw[hc] at hg; cases hg
 | true =>
  rw[hc] at hg;simp only[cond_true] at hg;obtain⟨c1,c2⟩:=WQ hc;obtain⟨c2,c3⟩:=WQ c2;generalize hr:fq P call ext N ops m n ops.size (Array.replicate ops.size false) [] e h n=r at hg
  cases r with
  | no=>cases hg
  | ok e1 d1 h1 n1 =>
   cases hg
   have hnd:∀ (j:Nat) (o:Oper),ops[j]?=some o->dB o.op=true:=λ j o ho=>by
    have:=List.all_eq_true.1 c3 o (by simpa using Array.mem_of_getElem? ho);exact this
   obtain⟨_,hk⟩:=pH hcall hext _ hr (w:=w.drew) (hs.rep.quiet (aD.drew w [])) hs.env hs.len .nil;refine wpIn_region_any c1 (tI _ _ [] _ _ ?_);refine ug (ro:=none) (dd:=dd) (K:=λ t w=>Ends w0 N ρ e' h' t w) hnd c2 (λ c a w h=>by cases h.1) ?_ _ _ [] t _ ?_ (λ p hp=>by cases hp) hk
   ·rintro t w ⟨ρ',k1,k2,k3,k4⟩;exact⟨rfl,t,dd,rfl,ρ',k1,k2,k3,k4,uh k1 hs.dfs⟩
   ·intro j o _ hj;rcases Nat.lt_or_ge j ops.size with h|h<;>simp[h] at hj
theorem V5{P:Program}{w0:World}{N:Nat}{fa fb:Tr AV->List AD->AH->Nat->GR}{a b:Code}(ha:kW P w0 N fa a)(hb:kW P w0 N fb b) :
  kW P w0 N (λ e d h n=>match fa e d h n with
   | .ok .normal e d h n=>fb e d h n
   | r=>r) (.seq a b):=by
 intro e e' d d' h h' n n' x hg ρ t dd w hs;refine wpIn_seq ?_;simp only at hg
 split at hg
 ·rename_i e1 d1 h1 n1 hfa;refine wpIn_mono (ha hfa hs) λ ex a' w' ⟨k1,t',dd',k2,ρ',k3,k4⟩=>?_;subst k1 k2;exact wpIn_mono (hb hg k4) λ ex a' w' k=>k.trans k3
 ·rename_i hne;refine wpIn_mono (ha hg hs) λ ex a' w' k=>?_;obtain⟨k1,k2⟩:=k
  cases x with
  | normal=>exact absurd hg (hne _ _ _ _)
  | _=>subst k1; exact⟨rfl,k2⟩
theorem Qp{P:Program}{w0:World}{N:Nat}{fa fb:Tr AV->List AD->AH->Nat->GR}{c:Operand}{a b:Code}(ha:kW P w0 N fa a)(hb:kW P w0 N fb b) :
  kW P w0 N (λ e d h n=>match fN e c with
   | some (.bool x)=>cond x (fa e d h n) (fb e d h n)
   | _=>.no) (.cond c a b):=by
 intro e e' d d' h h' n n' x hg ρ t dd w hs;simp only at hg
 split at hg
 ·rename_i x hx;have hv:ev t c=.bool x:=gA (bp hs.env hx);refine wpIn_cond (t:=x) (by rw[gw]; exact hv) ?_
  cases x with
  | true=>exact ha hg hs
  | false=>exact hb hg hs
 ·cases hg
theorem MF{P:Program}{w0:World}{N id:Nat}{fc:Tr AV->List AD->AH->Nat->GR}{c:Code}(hc:kW P w0 N fc c) :
  kW P w0 N (λ e d h n=>match fc e d h n with
   | .ok (.exit i) e d h n=>cond (Nat.beq i id) (.ok .normal e d h n) (.ok (.exit i) e d h n)
   | r=>r) (.block id c):=by
 intro e e' d d' h h' n n' x hg ρ t dd w hs;refine wpIn_block ?_;simp only at hg
 split at hg
 ·rename_i i e1 d1 h1 n1 hfc;refine wpIn_mono (hc hfc hs) λ ex a' w' ⟨k1,k2⟩=>?_;subst k1;show Exit.inBlock id _ (.exit i) a' w';simp only[Exit.inBlock]
  cases hb:Nat.beq i id with
  | true =>
   rw[hb] at hg
   cases hg
   rw[if_pos (Nat.eq_of_beq_eq_true hb)];exact⟨rfl,k2⟩
  | false =>
   rw[hb] at hg
   cases hg
   rw[if_neg (λ e=>by rw[e,Nat.beq_refl] at hb; cases hb)];exact⟨rfl,k2⟩
 ·rename_i hne;refine wpIn_mono (hc hg hs) λ ex a' w' ⟨k1,k2⟩=>?_
  cases x with
  | exit i=>exact absurd hg (hne _ _ _ _ _)
  | _=>subst k1; exact⟨rfl,k2⟩
theorem RG{P:Program}{w0:World}{N f:Nat}{fc:Tr AV->List AD->AH->Nat->GR}{c:Code}(hc:kW P w0 N fc c):kW P w0 N (xe fc f) (.loop c):=by
 intro e e' d d' h h' n n' x hg ρ t dd w hs;refine wpIn_loop_rounds f ?_;have key:∀ (k:Nat) {e:Tr AV} {d:List AD} {h:AH} {n:Nat} {ρ:Names} {t:Tm} {dd:List Deferred} {w:World},xe fc k e d h n=.ok x e' d' h' n' ->
   Ky w0 N ρ e d h t dd w->∀ {Q:Exit->Act->World->Prop},(∀ ex a w,Out w0 N ρ x e' d' h' ex a w->Q ex a w)->Code.roundsIn (FW none) 0 P c Q k (gh t dd) w:=by
  intro k
  induction k with
  | zero=>intro e d h n ρ t dd w hg; cases hg
  | succ k ih =>
   intro e d h n ρ t dd w hg hs Q hQ;simp only[xe] at hg
   split at hg
   ·rename_i e1 d1 h1 n1 hfc;refine wpIn_mono (hc hfc hs) λ ex a' w' ⟨k1,t',dd',k2,ρ',k3,k4⟩=>?_;subst k1 k2;exact ih hg k4 λ ex a w k=>hQ _ _ _ (k.trans k3)
   ·rename_i hne;refine wpIn_mono (hc hg hs) λ ex a' w' ⟨k1,k2⟩=>?_
    cases x with
    | normal=>exact absurd hg (hne _ _ _ _)
    | _=>subst k1; exact hQ _ _ _ ⟨rfl,k2⟩
 exact key f hg hs λ _ _ _ k=>k
theorem OX{P:Program}{w0:World}{N k:Nat}{run:Code->Tr AV->List AD->AH->Nat->GR}(hrun:∀ c,kW P w0 N (run c) c)(c:Code):kW P w0 N (vV run c k c) (.scope c):=by
 intro e e' d d' h h' n n' x hg ρ t dd w hs;refine X9.2 (nM ?_);have key:∀ (k:Nat) (cur:Code) {e:Tr AV} {d:List AD} {h:AH} {n:Nat} {ρ:Names} {t:Tm} {dd:List Deferred} {w:World},vV run c k cur e d h n=.ok x e' d' h' n' ->
   Ky w0 N ρ e d h t dd w->gi P c cur (Out w0 N ρ x e' d' h') (gh t dd) w:=by
  intro k
  induction k with
  | zero=>intro cur e d h n ρ t dd w hg; cases hg
  | succ k ih =>
   intro cur e d h n ρ t dd w hg hs;simp only[vV] at hg;refine tu (X9.1 ?_)
   split at hg
   ·rename_i l e1 d1 h1 n1 hc;refine wpIn_mono (hrun cur hc hs) λ ex a' w' ⟨k1,t',dd',k2,ρ',k3,k4⟩=>?_;subst k1 k2
    split at hg
    ·rename_i rest hf;refine⟨λ l' hl=>?_,λ hn=>absurd rfl (hn l)⟩
     cases hl
     refine⟨rest,hf,λ b k cs=>?_⟩;obtain⟨e2,a2,w2,g1,g2⟩:=ih rest hg k4 b k cs;exact⟨e2,a2,w2,g1.trans k3,g2⟩
    ·cases hg
   ·rename_i hne;refine wpIn_mono (hrun cur hg hs) λ ex a' w' ⟨k1,k2⟩=>?_;subst k1;refine⟨λ l hl=>?_,λ _=>⟨rfl,k2⟩⟩
    cases x with
    | goto l'=>exact absurd hg (hne _ _ _ _ _)
    | _=>cases hl
 exact key k c hg hs
def FA(P:Program)(e:Tr AV)(h:AH):List ResultVar->Option (List AV)
 | []=>some []
 | .tmp s :: rs=>match e.get s,FA P e h rs with
  | some a,some l=>some (a :: l)
  | _,_=>none
 | .cell a ty :: rs=>match e.get a with
  | some p=>match U6 P ty p h,FA P e h rs with
   | some (v,_),some l=>some (v :: l)
   | _,_=>none
  | none=>none
def Vb:List AV->AV
 | [a]=>a
 | l=>.tup l
theorem DU{P:Program}{e:Tr AV}{h:AH}{w0 w:World}{ρ:Names}(hr:fY w0 w ρ h){t:Tm}(he:eZ ρ e t):∀ {rs:List ResultVar} {l:List AV},FA P e h rs=some l ->
  ∃ vs,eN ρ l=some vs/\(rs.mapM (By t)).run P w=.ok vs w
 | [],l,hg=>by cases hg; exact⟨[],rfl,by simp⟩
 | .tmp s :: rs,l,hg=>by
  simp only[FA] at hg
  split at hg
  ·rename_i a l' h1 h2
   cases hg
   obtain⟨vs,h3,h4⟩:=DU hr he h2;exact⟨_,fH (he s a h1) h3,by simp only[List.mapM_cons,By,Sem.run_bind,Sem.run_pure,Result.andThen_ok,h4,zX]⟩
  ·cases hg
 | .cell a ty :: rs,l,hg=>by
  simp only[FA] at hg
  split at hg
  ·rename_i p hp
   split at hg
   ·rename_i v ds l' h1 h2
    cases hg
    obtain⟨vs,h3,h4⟩:=DU hr he h2;have hpv:=he a p hp;obtain⟨u,k1,k2,k3⟩:=Nu h1 hr hpv;refine⟨_,fH k1 h3,?_⟩;have h6:=k3 w k2;have h5:(By t (.cell a ty)).run P w=.ok u w:=by
     show(Sem.bind (asAddr (t.toArray.getD a undef)) λ p=>loadVar ty p).run P w=.ok u w;rw[Sem.run_bind',<- zX];generalize gt t a=x at h6 ⊢
     cases x with
     | pointer p=>cases p with
      | none=>simp[Instr.loadAt,Instr.sureAddr] at h6
      | some p=>simpa[Instr.loadAt,Instr.sureAddr,asAddr] using h6
     | _=>simp[Instr.loadAt,Instr.sureAddr] at h6
    rw[List.mapM_cons,Sem.run_bind,h5];simp only[Result.andThen_ok,Sem.run_bind,h4,Sem.run_pure]
   ·cases hg
  ·cases hg
theorem xg{P:Program}{fn:Func}{e:Tr AV}{h:AH}{w0 w:World}{ρ:Names}(hr:fY w0 w ρ h){t:Tm}(he:eZ ρ e t){l:List AV}(hg:FA P e h fn.results.toList=some l) :
  ∃ v,rv ρ (Vb l)=some v/\(results fn t.toArray).run P w=.ok v w:=by
 obtain⟨vs,h1,h2⟩:=DU hr he hg;have h3:results fn t.toArray=(do
   let vs <- fn.results.mapM (By t)
   pure (if h:vs.size=1 then vs[0] else .tuple vs)):=by
  unfold results;have:(λ r=>match r with
    | .tmp i=>(pure (t.toArray.getD i undef):Sem Value)
    | .cell a i=>do loadVar i (<- asAddr (t.toArray.getD a undef)))=By t:=by
   funext x; cases x<;>rfl
  rw[<- this];rfl
 have h4:(results fn t.toArray).run P w=.ok (if h:vs.toArray.size=1 then vs.toArray[0] else .tuple vs.toArray) w:=by
  rw[h3,Array.mapM_eq_mapM_toList];simp only[Sem.run_map,bind_pure_comp,h2,Result.andThen_ok]
 refine⟨_,?_,h4⟩
 match l,vs,h1 with
 | [],[],_=>rfl
 | [a],[v],h1 =>
  obtain⟨v',us,e,k1,k2⟩:=aP h1
  cases e
  exact k1
 | [],v :: vs,h1=>simp[eN] at h1
 | a :: l,[],h1=>obtain⟨_,_,e,_⟩:=aP h1; cases e
 | [a],v :: u :: vs,h1 =>
  obtain⟨v',us,e,k1,k2⟩:=aP h1;simp[eN] at k2;subst k2; cases e
 | a :: b :: l,[v],h1 =>
  obtain⟨v',us,e,k1,k2⟩:=aP h1
  cases e
  obtain⟨_,_,e,_⟩:=aP k2
  cases e
 | a :: b :: l,v :: u :: vs,h1 =>
  have : ¬ (v :: u :: vs).toArray.size=1:=by simp
  rw[dif_neg this];simp only[Vb,rv,h1,Option.map_some]
def Yf:List AV->Nat->Tr AV->Tr AV
 | [],_,e=>e
 | a :: l,i,e=>Yf l (Nat.succ i) (e.put i a)
theorem Ns{ρ:Names}{T:Tm}:∀ {l:List AV} {vs us:List Value} {i:Nat} {e:Tr AV},eN ρ l=some vs->T=us++vs++T.drop (i+l.length)->us.length=i->eZ ρ e T->eZ ρ (Yf l i e) T
 | [],_,_,_,_,_,_,_,he=>he
 | a :: l,vs,us,i,e,h,hT,hl,he=>by
  obtain⟨v,vs',rfl,h1,h2⟩:=aP h;have hlen:i+(a :: l).length=i+1+l.length:=by rw[List.length_cons]; omega
  rw[hlen] at hT;have hT' : T=(us++[v])++vs'++T.drop (i+1+l.length):=by rw[List.append_assoc us [v] vs',List.singleton_append]; exact hT
  show eZ ρ (Yf l (i+1) (e.put i a)) T;refine Ns (l:=l) (us:=us++[v]) (i:=i+1) h2 hT' (by simp[hl]) λ j b hj=>?_;rw[bY] at hj
  split at hj
  ·rename_i e1;subst e1
   cases hj
   have:gt T j=v:=by
    rw[zX,hT,<- hl]
    simp
   rw[this]; exact h1
  ·exact he j b hj
theorem MZ(ρ:Names)(t:Tm)(n:Nat):eZ ρ (Tr.full n) t:=λ i a h=>by rw[uz] at h; cases h
def JE:GE->Bool
 | .normal=>true
 | .ret=>true
 | _=>false
def Ju(P:Program)(body:FuncId->List AV->AH->Nat->Option (Tr AV×Func×AH×Nat)):List AD->AH->Nat->Option (AH×Nat)
 | [],h,n=>some (h,n)
 | d :: ds,h,n=>cond (bU P d.f) (match body d.f (d.args++d.cap) h n with
  | some (e,fn,h',n')=>match FA P e h' fn.results.toList with
   | some _=>Ju P body ds h' n'
   | none=>none
  | none=>none) none
def YD(n:Nat):Nat:=cond (Nat.ble n 12) 2 (cond (Nat.ble n 40) 4 6)
abbrev oU:=Nat->Code->Tr AV->List AD->AH->Nat->GR
def Jt(P:Program)(cd:oU)(f:FuncId)(args:List AV)(h:AH)(n:Nat):Option (GE×Tr AV×List AD×Func×AH×Nat) :=
 match P.funcs[f]? with
 | some fn=>match fn.body with
  | some c=>cond (Nat.ble args.length fn.ntmps) (match cd fn.ntmps c (Yf args 0 (Tr.full (YD fn.ntmps))) [] h n with
   | .ok x e d h n=>some (x,e,d,fn,h,n)
   | .no=>none) none
  | none=>none
 | none=>none
def HL(P:Program)(cd:oU)(f:FuncId)(args:List AV)(h:AH)(n:Nat):Option (Tr AV×Func×AH×Nat):=match Jt P cd f args h n with
 | some (x,e,[],fn,h,n)=>cond (JE x) (some (e,fn,h,n)) none
 | _=>none
def HM(P:Program)(cd:oU)(f:FuncId)(args:List AV)(h:AH)(n:Nat):Option (AV×AH×Nat):=match Jt P cd f args h n with
 | some (x,e,d,fn,h,n)=>cond (JE x) (match Ju P (HL P cd) d h n with
  | some (h,n)=>match FA P e h fn.results.toList with
   | some l=>some (Vb l,h,n)
   | none=>none
  | none=>none) none
 | none=>none
def Np(P:Program)(mk:br->oU)(k:Nat):br:=Nat.rec (motive:=λ _=>br) (λ _ _ _ _=>none) (λ _ ih=>HM P (mk ih)) k
theorem Fw{P:Program}{w0:World}{cd:oU}(hcd:∀ N c,kW P w0 N (cd N c) c){f:FuncId}{args:List AV}{h h' : AH}{n n' : Nat}{x:GE}{e:Tr AV}{d:List AD}{fn:Func}(hg:Jt P cd f args h n=some (x,e,d,fn,h',n')):P.funcs[f]?=some fn/\∃ c,fn.body=some c/\∀ {ρ:Names} {w:World} {vs:List Value},fY w0 w ρ h->eN ρ args=some vs ->
   c.wpIn (FW none) 0 P (Out w0 fn.ntmps ρ x e d h') { tmps:=vs.toArray++Array.replicate (fn.ntmps-vs.toArray.size) undef,defers:=[] } w:=by
 unfold Jt at hg
 split at hg
 ·rename_i fn1 hf
  split at hg
  ·rename_i c hc
   cases hb:Nat.ble args.length fn1.ntmps with
   | false=>rw[hb] at hg; cases hg
   | true =>
    rw[hb] at hg;simp only[cond_true] at hg
    split at hg
    ·rename_i x1 e1 d1 h1 n1 hgc
     cases hg
     refine⟨hf,c,hc,λ {ρ w vs} hr hv=>?_⟩;have hle:=Nat.le_of_ble_eq_true hb;have hl:=bC hv;have e1:({ tmps:=vs.toArray++Array.replicate (fn.ntmps-vs.toArray.size) undef,defers:=[] }:Act)=gh (vs++List.replicate (fn.ntmps-vs.length) undef) []:=by simp[gh]
     rw[e1];refine hcd _ _ hgc ⟨hr,?_,by simp; omega,rfl⟩;refine Ns (us:=[]) hv ?_ rfl (MZ _ _ _);have:List.drop (0+args.length) (vs++List.replicate (fn.ntmps-vs.length) undef)=List.replicate (fn.ntmps-vs.length) undef:=by
      rw[Nat.zero_add,<- hl,List.drop_left]
     rw[this]
     simp
    ·cases hg
  ·cases hg
 ·cases hg
theorem Fy{P:Program}{w0:World}{cd:oU}(hcd:∀ N c,kW P w0 N (cd N c) c){fn:Func}{t:Tm}{R:Ending->World->Prop}{h' : AH}{n' : Nat}:∀ {ds:List AD} {h:AH} {n:Nat} {ρ:Names} {w:World} {dd:List Deferred},Ju P (HL P cd) ds h n=some (h',n')->fY w0 w ρ h->HD ρ ds=some dd ->
  (∀ ρ' w',Ext ρ ρ'->fY w0 w' ρ' h'->∃ v,(results fn t.toArray).run P w' = .ok v w'/\R (.returned v) w')->LeavesInM (FW none) 0 P fn t.toArray R dd .returning w
 | [],h,n,ρ,w,dd,hg,hr,hd,k=>by
  cases hg; cases hd
  exact k ρ w (Ext.refl _) hr
 | d :: ds,h,n,ρ,w,dd,hg,hr,hd,k=>by
  simp only[Ju] at hg
  cases hen:bU P d.f with
  | false=>rw[hen] at hg; cases hg
  | true =>
   rw[hen] at hg;simp only[cond_true] at hg;simp only[HD] at hd
   split at hd
   ·rename_i x xs hx hxs
    cases hd
    split at hg
    ·rename_i e1 fn1 h1 n1 hb
     split at hg
     ·rename_i l hl;unfold HL at hb
      split at hb
      ·rename_i x0 e0 fn0 h0 n0 hb0
       cases hend:JE x0 with
       | false=>rw[hend] at hb; cases hb
       | true =>
        rw[hend] at hb
        cases hb
        obtain⟨hf,c,hc,hw⟩:=Fw hcd hb0;unfold dv at hx
        split at hx
        ·rename_i vc va hvc hva
         cases hx
         have hargs:=kL hva hvc;refine⟨by simp,.inr ⟨λ h=>(by cases h),Fn.func d.f,vc.toArray,d.f,(va++vc).toArray,rfl,?_,λ _ _=>trivial,?_⟩⟩
         ·have:(va++vc).toArray=va.toArray++vc.toArray:=by simp
          rw[this];exact jL hen _ w
         ·refine CallsDIn.mono (callsDIn_of_wp (R:=λ e w'=>∃ v ρ',e=.returned v/\Ext ρ ρ'/\fY w0 w' ρ' h1) hf hc trivial ?_) ?_
          ·refine wpIn_mono (hw hr hargs) λ ex a w' ⟨k1,t',dd',k2,ρ',k3,k4⟩=>?_;subst k1 k2;obtain⟨v,g1,g2⟩:=xg (fn:=fn1) k4.rep k4.env hl;have hd0:dd' = []:=by have:=k4.dfs; simp[HD] at this; exact this
           cases x0 with
           | normal=>exact⟨hd0,v,g2,v,ρ',rfl,k3,k4.rep⟩
           | ret=>exact⟨hd0,v,g2,v,ρ',rfl,k3,k4.rep⟩
           | exit i=>cases hend
           | goto l=>cases hend
          ·rintro ex u' w' ⟨rfl,v,ρ',rfl,k3,k4⟩;exact Fy hcd hg k4 (uh k3 hxs) λ ρ2 w2 x2 r2=>k ρ2 w2 (k3.trans x2) r2
        ·cases hx
      ·cases hb
     ·cases hg
    ·cases hg
   ·cases hd
theorem Fx{P:Program}{w0:World}{mk:br->oU}(hmk:∀ call,jy P w0 call->∀ N c,kW P w0 N (mk call N c) c):∀ k,jy P w0 (Np P mk k)
 | 0,f,args,h,n,a,h',n',hg=>by cases hg
 | k+1,f,args,h,n,a,h',n',hg=>by
  intro ρ w vs R hr hv hR;have hcd:=hmk _ (Fx hmk k);have hg:HM P (mk (Np P mk k)) f args h n=some (a,h',n'):=hg;unfold HM at hg
  split at hg
  ·rename_i x e d fn h1 n1 hb
   cases hend:JE x with
   | false=>rw[hend] at hg; cases hg
   | true =>
    rw[hend] at hg;simp only[cond_true] at hg
    split at hg
    ·rename_i h2 n2 hd
     split at hg
     ·rename_i l hl
      cases hg
      obtain⟨hf,c,hc,hw⟩:=Fw hcd hb;refine(callsIn_wide (n:=0)).1 (callsIn_of_wp_marks hf hc trivial ?_ rfl);refine wpIn_mono (hw hr hv) λ ex a w' ⟨k1,t',dd',k2,ρ',k3,k4⟩=>?_;subst k1 k2;have hlv:LeavesInM (FW none) 0 P fn t'.toArray R dd' .returning w':=Fy hcd hd k4.rep k4.dfs λ ρ2 w2 x2 r2=>by
       obtain⟨v,g1,g2⟩:=xg (fn:=fn) r2 (k4.env.mono x2) hl;exact⟨v,g2,hR ρ2 w2 v (k3.trans x2) r2 g1⟩
      cases x with
      | normal=>exact hlv
      | ret=>exact hlv
      | exit i=>cases hend
      | goto l=>cases hend
     ·cases hg
    ·cases hg
  ·cases hg
theorem OL(w:World)(n:Nat):fY w w (λ _=>none) (Tr.full n) :=
 ⟨aD.refl _ _,λ _ _ h=>(by cases h),λ i ao h=>(by rw[uz] at h; cases h),λ i j ao ao' L L' _ h=>(by rw[uz] at h; cases h)⟩
def Tx:Option (AV×AH×Nat)->Bool
 | some (.bool b,_,_)=>b
 | _=>false
theorem Q0{P:Program}{call:br}{D:Nat}{f:FuncId}(hcall:∀ w0,jy P w0 call)(h:Tx (call f [] (Tr.full D) 1)=true)(w:World) :
  Calls P f #[] w λ e w'=>e=.returned (.bool true)/\aD w w' []:=by
 cases hg:call f [] (Tr.full D) 1 with
 | none=>rw[hg] at h; cases h
 | some r =>
  obtain⟨a,h',n'⟩:=r;rw[hg] at h
  cases a with
  | bool b =>
   cases (show b=true from h)
   exact hcall w f [] _ _ _ _ _ hg _ w [] _ (OL w D) rfl λ ρ' w' v _ hr hv=>by
    cases gA hv
    exact⟨rfl,hr.aC⟩
  | _=>cases h

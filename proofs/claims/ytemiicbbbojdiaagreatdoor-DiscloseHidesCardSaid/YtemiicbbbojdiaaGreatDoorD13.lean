import Derived.LoopNIn
import Derived.Test.YtemiicbbbojdiaaGreatDoorD12
set_option linter.unusedVariables false
set_option maxRecDepth 100000
noncomputable section
namespace Go.Gx
open Go Go.Vc
inductive GE where
 | normal
 | exit (i:Nat)
 | ret
 | goto (l:Nat)
def GE.ex:GE->Exit
 | .normal=>.normal
 | .exit i=>.exit i
 | .ret=>.ret
 | .goto l=>.goto l
inductive GR where
 | no
 | ok (x:GE) (e:Tr AV) (d:List AD) (h:AH) (n:Nat)
def GS.R2:GS->GR
 | .no=>.no
 | .ok e d h n=>.ok .normal e d h n
def GS.Yb(d0:List AD)(m:Bool):GS->GR
 | .no=>.no
 | .ok e _ h n=>.ok .normal e d0 h (cond m (Nat.succ n) n)
def wW(run:Code->Tr AV->List AD->AH->Nat->GR)(c:Code):Nat->Code->Tr AV->List AD->AH->Nat->GR
 | 0,_,_,_,_,_=>.no
 | k+1,cur,e,d,h,n=>match run cur e d h n with
  | .ok (.goto l) e d h n=>match findLabel c l with
   | some rest=>wW run c k rest e d h n
   | none=>.no
  | r=>r
def yb(run:Tr AV->List AD->AH->Nat->GR):Nat->Tr AV->List AD->AH->Nat->GR
 | 0,_,_,_,_=>.no
 | k+1,e,d,h,n=>match run e d h n with
  | .ok .normal e d h n=>yb run k e d h n
  | r=>r
def tX(ops:Array Oper):Bool :=
 let ws:=(List.range ops.size).filter λ i=>match ops[i]? with
  | some o=>!Uq o.op
  | none=>false
 ws.any λ i=>ws.any λ j=>Nat.ble (Nat.succ i) j&&!dep ops ops.size j i&&!dep ops ops.size i j
def AJ(P:Program)(call ext:aY)(N:Nat):Nat->Code->Tr AV->List AD->AH->Nat->GR
 | 0,_,_,_,_,_=>.no
 | f+1,c,e,d,h,n=>match c with
  | .skip=>.ok .normal e d h n
  | .label _=>.ok .normal e d h n
  | .region _ ops draw=>match draw with
   | false=>(sC P call ext N ops ops.toList e d h n).R2
   | true=>cond (and (P.follows .mixedOrders) (and (Region.noSelect ops) (cR ops.toList)))
    ((eW P call ext N ops (tX ops) n ops.size (Array.replicate ops.size false) [] e h n).Yb d (tX ops)) .no
  | .seq a b=>match AJ P call ext N f a e d h n with
   | .ok .normal e d h n=>AJ P call ext N f b e d h n
   | r=>r
  | .cond c a b=>match fe e c with
   | some (.bool x)=>cond x (AJ P call ext N f a e d h n) (AJ P call ext N f b e d h n)
   | _=>.no
  | .block id c=>match AJ P call ext N f c e d h n with
   | .ok (.exit i) e d h n=>cond (Nat.beq i id) (.ok .normal e d h n) (.ok (.exit i) e d h n)
   | r=>r
  | .loop c=>yb (AJ P call ext N f c) f e d h n
  | .exit i=>.ok (.exit i) e d h n
  | .ret=>.ok .ret e d h n
  | .goto l=>.ok (.goto l) e d h n
  | .scope c=>wW (AJ P call ext N f) c f c e d h n
  | _=>.no
def Out(w0:World)(N:Nat)(ρ:Names)(x:GE)(e:Tr AV)(d:List AD)(h:AH)(ex:Exit)(a:Act)(w:World):Prop :=
 x.ex=ex/\∃ t dd,a=eY t dd/\Cg w0 N ρ e d h t dd w
theorem Out.mk{w0:World}{N:Nat}{ρ:Names}{x:GE}{e:Tr AV}{d:List AD}{h:AH}{t:Tm}{dd:List Deferred}{w:World}(k:wC w0 N ρ e d h t dd w):Out w0 N ρ x e d h x.ex (eY t dd) w :=
 ⟨rfl,t,dd,rfl,ρ,Ext.refl _,k⟩
theorem Out.trans{w0:World}{N:Nat}{ρ σ:Names}{x:GE}{e:Tr AV}{d:List AD}{h:AH}{ex:Exit}{a:Act}{w:World}(hx:Ext ρ σ)(k:Out w0 N σ x e d h ex a w):Out w0 N ρ x e d h ex a w:=by
 obtain⟨h1,t,dd,h2,h3⟩:=k;exact⟨h1,t,dd,h2,h3.trans hx⟩
theorem WQ{P:Program}{c:Code}{Q:Exit->Act->World->Prop}{a:Act}{w:World}:c.wpIn (FW none) 0 P Q a w<->c.wp P Q a w:=wpIn_wide
theorem og{P:Program}{c:Code}{Q:Exit->Act->World->Prop}{a:Act}{w:World}(h:∀ (b:Frame) (k:List Item) (cs:List Frame),∃ e a' w',Q e a' w'/\Arrives P (lone (b.at a (.code c :: .inScope c :: k)) cs w) b k cs e a' w'):(Code.scope c).wp P Q a w:=λ b k cs=>by
 obtain⟨e,a',w',hq,harr⟩:=h b k cs;exact⟨e,a',w',hq,.of_steps (.one step_scope) harr⟩
def fQ(P:Program)(c cur:Code)(Q:Exit->Act->World->Prop)(a:Act)(w:World):Prop :=
 ∀ (b:Frame) (k:List Item) (cs:List Frame),∃ e a' w',Q e a' w'/\Arrives P (lone (b.at a (.code cur :: .inScope c :: k)) cs w) b k cs e a' w'
theorem ud{P:Program}{c cur:Code}{Q:Exit->Act->World->Prop}{a:Act}{w:World}(h:cur.wp P (λ e a' w'=>(∀ l,e=.goto l->∃ rest,findLabel c l=some rest/\fQ P c rest Q a' w')/\((∀ l,e≠.goto l)->Q e a' w')) a w):fQ P c cur Q a w:=by
 intro b k cs;obtain⟨e,a₁,w₁,hq,harr⟩:=h b (.inScope c :: k) cs
 cases e with
 | normal=>exact⟨.normal,a₁,w₁,hq.2 (by simp),Steps.trans harr (.one step_inScope)⟩
 | exit id=>exact⟨.exit id,a₁,w₁,hq.2 (by simp),λ k' hk=>harr k' (by simp[exitTo,hk])⟩
 | goto l =>
  obtain⟨rest,hf,hs⟩:=hq.1 l rfl;have hg:gotoIn l (.inScope c :: k)=some (.code rest :: .inScope c :: k):=by simp[gotoIn,hf]
  obtain⟨e₂,a₂,w₂,hq₂,harr₂⟩:=hs b k cs;exact⟨e₂,a₂,w₂,hq₂,.of_steps (harr _ hg) harr₂⟩
 | ret=>exact⟨_,a₁,w₁,hq.2 (by simp),harr⟩
 | panic ch=>exact⟨_,a₁,w₁,hq.2 (by simp),harr⟩
 | outgrown=>exact⟨_,a₁,w₁,hq.2 (by simp),harr⟩
theorem Pd{a b:Bool}(h:and a b=true):a=true/\b=true:=by cases a<;>simp_all
def iy(P:Program)(w0:World)(N:Nat)(f:Tr AV->List AD->AH->Nat->GR)(c:Code):Prop:=∀ {e e' : Tr AV} {d d' : List AD} {h h' : AH} {n n' : Nat} {x:GE},f e d h n=.ok x e' d' h' n'->∀ {ρ:Names} {t:Tm} {dd:List Deferred} {w:World},wC w0 N ρ e d h t dd w->c.wpIn (FW none) 0 P (Out w0 N ρ x e' d' h') (eY t dd) w
theorem Lt{P:Program}{w0:World}{call ext:aY}(hcall:jc P w0 call)(hext:zV P w0 ext){N id:Nat}{ops:Array Oper} :
  iy P w0 N (λ e d h n=>(sC P call ext N ops ops.toList e d h n).R2) (.region id ops false):=by
 intro e e' d d' h h' n n' x hg ρ t dd w hs;simp only at hg;generalize hr:sC P call ext N ops ops.toList e d h n=r at hg
 cases r with
 | no=>cases hg
 | ok e1 d1 h1 n1 =>
  cases hg
  refine wpIn_region_list (zP (ro:=none) ops.toList t dd w _ (.inl rfl) ?_ (ve hcall hext hr hs));exact λ t d w k=>⟨rfl,t,d,rfl,k⟩
theorem PM{P:Program}{w0:World}{call ext:aY}(hcall:jc P w0 call)(hext:zV P w0 ext){N id:Nat}{ops:Array Oper} :
  iy P w0 N (λ e d h n=>cond (and (P.follows .mixedOrders) (and (Region.noSelect ops) (cR ops.toList))) ((eW P call ext N ops (tX ops) n ops.size (Array.replicate ops.size false) [] e h n).Yb d (tX ops)) .no) (.region id ops true):=by
 intro e e' d d' h h' n n' x hg ρ t dd w hs;simp only at hg;generalize hm:tX ops=m at hg
 cases hc:(and (P.follows .mixedOrders) (and (Region.noSelect ops) (cR ops.toList))) with
 | false=>rw[hc] at hg; cases hg
 | true =>
  rw[hc] at hg;simp only[cond_true] at hg;obtain⟨c1,c2⟩:=Pd hc;obtain⟨c2,c3⟩:=Pd c2;generalize hr:eW P call ext N ops m n ops.size (Array.replicate ops.size false) [] e h n=r at hg
  cases r with
  | no=>cases hg
  | ok e1 d1 h1 n1 =>
   cases hg
   have hnd:∀ (j:Nat) (o:Oper),ops[j]?=some o->cX o.op=true:=λ j o ho=>by
    have:=List.all_eq_true.1 c3 o (by simpa using Array.mem_of_getElem? ho);exact this
   obtain⟨_,hk⟩:=p8 hcall hext _ hr (w:=w.drew) (hs.rep.quiet (Chg.drew w [])) hs.env hs.len .nil;refine wpIn_region_any c1 (um _ _ [] _ _ ?_);refine uN (ro:=none) (dd:=dd) (K:=λ t w=>Ends w0 N ρ e' h' t w) hnd c2 (λ c a w h=>by cases h.1) ?_ _ _ [] t _ ?_ (λ p hp=>by cases hp) hk
   ·rintro t w ⟨ρ',k1,k2,k3,k4⟩;exact⟨rfl,t,dd,rfl,ρ',k1,k2,k3,k4,uO k1 hs.dfs⟩
   ·intro j o _ hj;rcases Nat.lt_or_ge j ops.size with h|h<;>simp[h] at hj
theorem U6{P:Program}{w0:World}{N:Nat}{fa fb:Tr AV->List AD->AH->Nat->GR}{a b:Code}(ha:iy P w0 N fa a)(hb:iy P w0 N fb b) :
  iy P w0 N (λ e d h n=>match fa e d h n with
   | .ok .normal e d h n=>fb e d h n
   | r=>r) (.seq a b):=by
 intro e e' d d' h h' n n' x hg ρ t dd w hs;refine wpIn_seq ?_;simp only at hg
 split at hg
 ·rename_i e1 d1 h1 n1 hfa;refine wpIn_mono (ha hfa hs) λ ex a' w' ⟨k1,t',dd',k2,ρ',k3,k4⟩=>?_;subst k1 k2;exact wpIn_mono (hb hg k4) λ ex a' w' k=>k.trans k3
 ·rename_i hne;refine wpIn_mono (ha hg hs) λ ex a' w' k=>?_;obtain⟨k1,k2⟩:=k
  cases x with
  | normal=>exact absurd hg (hne _ _ _ _)
  | _=>subst k1; exact⟨rfl,k2⟩
theorem PF{P:Program}{w0:World}{N:Nat}{fa fb:Tr AV->List AD->AH->Nat->GR}{c:Operand}{a b:Code}(ha:iy P w0 N fa a)(hb:iy P w0 N fb b) :
  iy P w0 N (λ e d h n=>match fe e c with
   | some (.bool x)=>cond x (fa e d h n) (fb e d h n)
   | _=>.no) (.cond c a b):=by
 intro e e' d d' h h' n n' x hg ρ t dd w hs;simp only at hg
 split at hg
 ·rename_i x hx;have hv:ev t c=.bool x:=ff (aV hs.env hx);refine wpIn_cond (t:=x) (by rw[gk]; exact hv) ?_
  cases x with
  | true=>exact ha hg hs
  | false=>exact hb hg hs
 ·cases hg
theorem Mm{P:Program}{w0:World}{N id:Nat}{fc:Tr AV->List AD->AH->Nat->GR}{c:Code}(hc:iy P w0 N fc c) :
  iy P w0 N (λ e d h n=>match fc e d h n with
   | .ok (.exit i) e d h n=>cond (Nat.beq i id) (.ok .normal e d h n) (.ok (.exit i) e d h n)
   | r=>r) (.block id c):=by
 intro e e' d d' h h' n n' x hg ρ t dd w hs;refine wpIn_block ?_;simp only at hg
 split at hg
 ·rename_i i e1 d1 h1 n1 hfc;refine wpIn_mono (hc hfc hs) λ ex a' w' ⟨k1,k2⟩=>?_;subst k1;show Exit.inBlock id _ (.exit i) a' w';simp only[Exit.inBlock]
  cases hb:Nat.beq i id with
  | true =>
   rw[hb] at hg
   cases hg
   rw[if_pos (Nat.eq_of_beq_eq_true hb)];exact⟨rfl,k2⟩
  | false =>
   rw[hb] at hg
   cases hg
   rw[if_neg (λ e=>by rw[e,Nat.beq_refl] at hb; cases hb)];exact⟨rfl,k2⟩
 ·rename_i hne;refine wpIn_mono (hc hg hs) λ ex a' w' ⟨k1,k2⟩=>?_
  cases x with
  | exit i=>exact absurd hg (hne _ _ _ _ _)
  | _=>subst k1; exact⟨rfl,k2⟩
theorem QL{P:Program}{w0:World}{N f:Nat}{fc:Tr AV->List AD->AH->Nat->GR}{c:Code}(hc:iy P w0 N fc c):iy P w0 N (yb fc f) (.loop c):=by
 intro e e' d d' h h' n n' x hg ρ t dd w hs;refine wpIn_loop_rounds f ?_;have key:∀ (k:Nat) {e:Tr AV} {d:List AD} {h:AH} {n:Nat} {ρ:Names} {t:Tm} {dd:List Deferred} {w:World},yb fc k e d h n=.ok x e' d' h' n' ->
   wC w0 N ρ e d h t dd w->∀ {Q:Exit->Act->World->Prop},(∀ ex a w,Out w0 N ρ x e' d' h' ex a w->Q ex a w)->Code.roundsIn (FW none) 0 P c Q k (eY t dd) w:=by
  intro k
  induction k with
  | zero=>intro e d h n ρ t dd w hg; cases hg
  | succ k ih =>
   intro e d h n ρ t dd w hg hs Q hQ;simp only[yb] at hg
   split at hg
   ·rename_i e1 d1 h1 n1 hfc;refine wpIn_mono (hc hfc hs) λ ex a' w' ⟨k1,t',dd',k2,ρ',k3,k4⟩=>?_;subst k1 k2;exact ih hg k4 λ ex a w k=>hQ _ _ _ (k.trans k3)
   ·rename_i hne;refine wpIn_mono (hc hg hs) λ ex a' w' ⟨k1,k2⟩=>?_
    cases x with
    | normal=>exact absurd hg (hne _ _ _ _)
    | _=>subst k1; exact hQ _ _ _ ⟨rfl,k2⟩
 exact key f hg hs λ _ _ _ k=>k
theorem Og{P:Program}{w0:World}{N k:Nat}{run:Code->Tr AV->List AD->AH->Nat->GR}(hrun:∀ c,iy P w0 N (run c) c)(c:Code):iy P w0 N (wW run c k c) (.scope c):=by
 intro e e' d d' h h' n n' x hg ρ t dd w hs;refine WQ.2 (og ?_);have key:∀ (k:Nat) (cur:Code) {e:Tr AV} {d:List AD} {h:AH} {n:Nat} {ρ:Names} {t:Tm} {dd:List Deferred} {w:World},wW run c k cur e d h n=.ok x e' d' h' n' ->
   wC w0 N ρ e d h t dd w->fQ P c cur (Out w0 N ρ x e' d' h') (eY t dd) w:=by
  intro k
  induction k with
  | zero=>intro cur e d h n ρ t dd w hg; cases hg
  | succ k ih =>
   intro cur e d h n ρ t dd w hg hs;simp only[wW] at hg;refine ud (WQ.1 ?_)
   split at hg
   ·rename_i l e1 d1 h1 n1 hc;refine wpIn_mono (hrun cur hc hs) λ ex a' w' ⟨k1,t',dd',k2,ρ',k3,k4⟩=>?_;subst k1 k2
    split at hg
    ·rename_i rest hf;refine⟨λ l' hl=>?_,λ hn=>absurd rfl (hn l)⟩
     cases hl
     refine⟨rest,hf,λ b k cs=>?_⟩;obtain⟨e2,a2,w2,g1,g2⟩:=ih rest hg k4 b k cs;exact⟨e2,a2,w2,g1.trans k3,g2⟩
    ·cases hg
   ·rename_i hne;refine wpIn_mono (hrun cur hg hs) λ ex a' w' ⟨k1,k2⟩=>?_;subst k1;refine⟨λ l hl=>?_,λ _=>⟨rfl,k2⟩⟩
    cases x with
    | goto l'=>exact absurd hg (hne _ _ _ _ _)
    | _=>cases hl
 exact key k c hg hs
def B4(P:Program)(e:Tr AV)(h:AH):List ResultVar->Option (List AV)
 | []=>some []
 | .tmp s :: rs=>match e.get s,B4 P e h rs with
  | some a,some l=>some (a :: l)
  | _,_=>none
 | .cell a ty :: rs=>match e.get a with
  | some p=>match Uh P ty p h,B4 P e h rs with
   | some (v,_),some l=>some (v :: l)
   | _,_=>none
  | none=>none
def Qs:List AV->AV
 | [a]=>a
 | l=>.tup l
theorem D5{P:Program}{e:Tr AV}{h:AH}{w0 w:World}{ρ:Names}(hr:fO w0 w ρ h){t:Tm}(he:dX ρ e t):∀ {rs:List ResultVar} {l:List AV},B4 P e h rs=some l ->
  ∃ vs,dI ρ l=some vs/\(rs.mapM (B8 t)).run P w=.ok vs w
 | [],l,hg=>by cases hg; exact⟨[],rfl,by simp⟩
 | .tmp s :: rs,l,hg=>by
  simp only[B4] at hg
  split at hg
  ·rename_i a l' h1 h2
   cases hg
   obtain⟨vs,h3,h4⟩:=D5 hr he h2;exact⟨_,fG (he s a h1) h3,by simp only[List.mapM_cons,B8,Sem.run_bind,Sem.run_pure,Result.andThen_ok,h4,AM]⟩
  ·cases hg
 | .cell a ty :: rs,l,hg=>by
  simp only[B4] at hg
  split at hg
  ·rename_i p hp
   split at hg
   ·rename_i v ds l' h1 h2
    cases hg
    obtain⟨vs,h3,h4⟩:=D5 hr he h2;have hpv:=he a p hp;obtain⟨u,k1,k2,k3⟩:=MW h1 hr hpv;refine⟨_,fG k1 h3,?_⟩;have h6:=k3 w k2;have h5:(B8 t (.cell a ty)).run P w=.ok u w:=by
     show(Sem.bind (asAddr (t.toArray.getD a undef)) λ p=>loadVar ty p).run P w=.ok u w;rw[Sem.run_bind',<- AM];generalize gt t a=x at h6 ⊢
     cases x with
     | pointer p=>cases p with
      | none=>simp[Instr.loadAt,Instr.sureAddr] at h6
      | some p=>simpa[Instr.loadAt,Instr.sureAddr,asAddr] using h6
     | _=>simp[Instr.loadAt,Instr.sureAddr] at h6
    rw[List.mapM_cons,Sem.run_bind,h5];simp only[Result.andThen_ok,Sem.run_bind,h4,Sem.run_pure]
   ·cases hg
  ·cases hg
theorem kX{P:Program}{fn:Func}{e:Tr AV}{h:AH}{w0 w:World}{ρ:Names}(hr:fO w0 w ρ h){t:Tm}(he:dX ρ e t){l:List AV}(hg:B4 P e h fn.results.toList=some l) :
  ∃ v,rv ρ (Qs l)=some v/\(results fn t.toArray).run P w=.ok v w:=by
 obtain⟨vs,h1,h2⟩:=D5 hr he hg;have h3:results fn t.toArray=(do
   let vs <- fn.results.mapM (B8 t)
   pure (if h:vs.size=1 then vs[0] else .tuple vs)):=by
  unfold results;have:(λ r=>match r with
    | .tmp i=>(pure (t.toArray.getD i undef):Sem Value)
    | .cell a i=>do loadVar i (<- asAddr (t.toArray.getD a undef)))=B8 t:=by
   funext x; cases x<;>rfl
  rw[<- this];rfl
 have h4:(results fn t.toArray).run P w=.ok (if h:vs.toArray.size=1 then vs.toArray[0] else .tuple vs.toArray) w:=by
  rw[h3,Array.mapM_eq_mapM_toList];simp only[Sem.run_map,bind_pure_comp,h2,Result.andThen_ok]
 refine⟨_,?_,h4⟩
 match l,vs,h1 with
 | [],[],_=>rfl
 | [a],[v],h1 =>
  obtain⟨v',us,e,k1,k2⟩:=aM h1
  cases e
  exact k1
 | [],v :: vs,h1=>simp[dI] at h1
 | a :: l,[],h1=>obtain⟨_,_,e,_⟩:=aM h1; cases e
 | [a],v :: u :: vs,h1 =>
  obtain⟨v',us,e,k1,k2⟩:=aM h1;simp[dI] at k2;subst k2; cases e
 | a :: b :: l,[v],h1 =>
  obtain⟨v',us,e,k1,k2⟩:=aM h1
  cases e
  obtain⟨_,_,e,_⟩:=aM k2
  cases e
 | a :: b :: l,v :: u :: vs,h1 =>
  have : ¬ (v :: u :: vs).toArray.size=1:=by simp
  rw[dif_neg this];simp only[Qs,rv,h1,Option.map_some]
def WX:List AV->Nat->Tr AV->Tr AV
 | [],_,e=>e
 | a :: l,i,e=>WX l (Nat.succ i) (e.put i a)
theorem MU{ρ:Names}{T:Tm}:∀ {l:List AV} {vs us:List Value} {i:Nat} {e:Tr AV},dI ρ l=some vs->T=us++vs++T.drop (i+l.length)->us.length=i->dX ρ e T->dX ρ (WX l i e) T
 | [],_,_,_,_,_,_,_,he=>he
 | a :: l,vs,us,i,e,h,hT,hl,he=>by
  obtain⟨v,vs',rfl,h1,h2⟩:=aM h;have hlen:i+(a :: l).length=i+1+l.length:=by rw[List.length_cons]; omega
  rw[hlen] at hT;have hT' : T=(us++[v])++vs'++T.drop (i+1+l.length):=by rw[List.append_assoc us [v] vs',List.singleton_append]; exact hT
  show dX ρ (WX l (i+1) (e.put i a)) T;refine MU (l:=l) (us:=us++[v]) (i:=i+1) h2 hT' (by simp[hl]) λ j b hj=>?_;rw[bL] at hj
  split at hj
  ·rename_i e1;subst e1
   cases hj
   have:gt T j=v:=by
    rw[AM,hT,<- hl]
    simp
   rw[this]; exact h1
  ·exact he j b hj
theorem FD(ρ:Names)(t:Tm)(n:Nat):dX ρ (Tr.full n) t:=λ i a h=>by rw[p9] at h; cases h
def CH:GE->Bool
 | .normal=>true
 | .ret=>true
 | _=>false
def Jo(P:Program)(body:FuncId->List AV->AH->Nat->Option (Tr AV×Func×AH×Nat)):List AD->AH->Nat->Option (AH×Nat)
 | [],h,n=>some (h,n)
 | d :: ds,h,n=>cond (bR P d.f) (match body d.f (d.args++d.cap) h n with
  | some (e,fn,h',n')=>match B4 P e h' fn.results.toList with
   | some _=>Jo P body ds h' n'
   | none=>none
  | none=>none) none
def VT(n:Nat):Nat:=cond (Nat.ble n 12) 2 (cond (Nat.ble n 40) 4 6)
abbrev pz:=Nat->Code->Tr AV->List AD->AH->Nat->GR
def Jm(P:Program)(cd:pz)(f:FuncId)(args:List AV)(h:AH)(n:Nat):Option (GE×Tr AV×List AD×Func×AH×Nat) :=
 match P.funcs[f]? with
 | some fn=>match fn.body with
  | some c=>cond (Nat.ble args.length fn.ntmps) (match cd fn.ntmps c (WX args 0 (Tr.full (VT fn.ntmps))) [] h n with
   | .ok x e d h n=>some (x,e,d,fn,h,n)
   | .no=>none) none
  | none=>none
 | none=>none
def HK(P:Program)(cd:pz)(f:FuncId)(args:List AV)(h:AH)(n:Nat):Option (Tr AV×Func×AH×Nat):=match Jm P cd f args h n with
 | some (x,e,[],fn,h,n)=>cond (CH x) (some (e,fn,h,n)) none
 | _=>none
def HL(P:Program)(cd:pz)(f:FuncId)(args:List AV)(h:AH)(n:Nat):Option (AV×AH×Nat):=match Jm P cd f args h n with
 | some (x,e,d,fn,h,n)=>cond (CH x) (match Jo P (HK P cd) d h n with
  | some (h,n)=>match B4 P e h fn.results.toList with
   | some l=>some (Qs l,h,n)
   | none=>none
  | none=>none) none
 | none=>none
def MR(P:Program)(mk:aY->pz)(k:Nat):aY:=Nat.rec (motive:=λ _=>aY) (λ _ _ _ _=>none) (λ _ ih=>HL P (mk ih)) k
theorem FP{P:Program}{w0:World}{cd:pz}(hcd:∀ N c,iy P w0 N (cd N c) c){f:FuncId}{args:List AV}{h h' : AH}{n n' : Nat}{x:GE}{e:Tr AV}{d:List AD}{fn:Func}(hg:Jm P cd f args h n=some (x,e,d,fn,h',n')):P.funcs[f]?=some fn/\∃ c,fn.body=some c/\∀ {ρ:Names} {w:World} {vs:List Value},fO w0 w ρ h->dI ρ args=some vs ->
   c.wpIn (FW none) 0 P (Out w0 fn.ntmps ρ x e d h') { tmps:=vs.toArray++Array.replicate (fn.ntmps-vs.toArray.size) undef,defers:=[] } w:=by
 unfold Jm at hg
 split at hg
 ·rename_i fn1 hf
  split at hg
  ·rename_i c hc
   cases hb:Nat.ble args.length fn1.ntmps with
   | false=>rw[hb] at hg; cases hg
   | true =>
    rw[hb] at hg;simp only[cond_true] at hg
    split at hg
    ·rename_i x1 e1 d1 h1 n1 hgc
     cases hg
     refine⟨hf,c,hc,λ {ρ w vs} hr hv=>?_⟩;have hle:=Nat.le_of_ble_eq_true hb;have hl:=bA hv;have e1:({ tmps:=vs.toArray++Array.replicate (fn.ntmps-vs.toArray.size) undef,defers:=[] }:Act)=eY (vs++List.replicate (fn.ntmps-vs.length) undef) []:=by simp[eY]
     rw[e1];refine hcd _ _ hgc ⟨hr,?_,by simp; omega,rfl⟩;refine MU (us:=[]) hv ?_ rfl (FD _ _ _);have:List.drop (0+args.length) (vs++List.replicate (fn.ntmps-vs.length) undef)=List.replicate (fn.ntmps-vs.length) undef:=by
      rw[Nat.zero_add,<- hl,List.drop_left]
     rw[this]
     simp
    ·cases hg
  ·cases hg
 ·cases hg
theorem AK{P:Program}{w0:World}{cd:pz}(hcd:∀ N c,iy P w0 N (cd N c) c){fn:Func}{t:Tm}{R:Ending->World->Prop}{h' : AH}{n' : Nat}:∀ {ds:List AD} {h:AH} {n:Nat} {ρ:Names} {w:World} {dd:List Deferred},Jo P (HK P cd) ds h n=some (h',n')->fO w0 w ρ h->E1 ρ ds=some dd ->
  (∀ ρ' w',Ext ρ ρ'->fO w0 w' ρ' h'->∃ v,(results fn t.toArray).run P w' = .ok v w'/\R (.returned v) w')->LeavesInM (FW none) 0 P fn t.toArray R dd .returning w
 | [],h,n,ρ,w,dd,hg,hr,hd,k=>by
  cases hg; cases hd
  exact k ρ w (Ext.refl _) hr
 | d :: ds,h,n,ρ,w,dd,hg,hr,hd,k=>by
  simp only[Jo] at hg
  cases hen:bR P d.f with
  | false=>rw[hen] at hg; cases hg
  | true =>
   rw[hen] at hg;simp only[cond_true] at hg;simp only[E1] at hd
   split at hd
   ·rename_i x xs hx hxs
    cases hd
    split at hg
    ·rename_i e1 fn1 h1 n1 hb
     split at hg
     ·rename_i l hl;unfold HK at hb
      split at hb
      ·rename_i x0 e0 fn0 h0 n0 hb0
       cases hend:CH x0 with
       | false=>rw[hend] at hb; cases hb
       | true =>
        rw[hend] at hb
        cases hb
        obtain⟨hf,c,hc,hw⟩:=FP hcd hb0;unfold dv at hx
        split at hx
        ·rename_i vc va hvc hva
         cases hx
         have hargs:=lu hva hvc;refine⟨by simp,.inr ⟨λ h=>(by cases h),Fn.func d.f,vc.toArray,d.f,(va++vc).toArray,rfl,?_,λ _ _=>trivial,?_⟩⟩
         ·have:(va++vc).toArray=va.toArray++vc.toArray:=by simp
          rw[this];exact jX hen _ w
         ·refine CallsDIn.mono (callsDIn_of_wp (R:=λ e w'=>∃ v ρ',e=.returned v/\Ext ρ ρ'/\fO w0 w' ρ' h1) hf hc trivial ?_) ?_
          ·refine wpIn_mono (hw hr hargs) λ ex a w' ⟨k1,t',dd',k2,ρ',k3,k4⟩=>?_;subst k1 k2;obtain⟨v,g1,g2⟩:=kX (fn:=fn1) k4.rep k4.env hl;have hd0:dd' = []:=by have:=k4.dfs; simp[E1] at this; exact this
           cases x0 with
           | normal=>exact⟨hd0,v,g2,v,ρ',rfl,k3,k4.rep⟩
           | ret=>exact⟨hd0,v,g2,v,ρ',rfl,k3,k4.rep⟩
           | exit i=>cases hend
           | goto l=>cases hend
          ·rintro ex u' w' ⟨rfl,v,ρ',rfl,k3,k4⟩;exact AK hcd hg k4 (uO k3 hxs) λ ρ2 w2 x2 r2=>k ρ2 w2 (k3.trans x2) r2
        ·cases hx
      ·cases hb
     ·cases hg
    ·cases hg
   ·cases hd
theorem FQ{P:Program}{w0:World}{mk:aY->pz}(hmk:∀ call,jc P w0 call->∀ N c,iy P w0 N (mk call N c) c):∀ k,jc P w0 (MR P mk k)
 | 0,f,args,h,n,a,h',n',hg=>by cases hg
 | k+1,f,args,h,n,a,h',n',hg=>by
  intro ρ w vs R hr hv hR;have hcd:=hmk _ (FQ hmk k);have hg:HL P (mk (MR P mk k)) f args h n=some (a,h',n'):=hg;unfold HL at hg
  split at hg
  ·rename_i x e d fn h1 n1 hb
   cases hend:CH x with
   | false=>rw[hend] at hg; cases hg
   | true =>
    rw[hend] at hg;simp only[cond_true] at hg
    split at hg
    ·rename_i h2 n2 hd
     split at hg
     ·rename_i l hl
      cases hg
      obtain⟨hf,c,hc,hw⟩:=FP hcd hb;refine(callsIn_wide (n:=0)).1 (callsIn_of_wp_marks hf hc trivial ?_ rfl);refine wpIn_mono (hw hr hv) λ ex a w' ⟨k1,t',dd',k2,ρ',k3,k4⟩=>?_;subst k1 k2;have hlv:LeavesInM (FW none) 0 P fn t'.toArray R dd' .returning w':=AK hcd hd k4.rep k4.dfs λ ρ2 w2 x2 r2=>by
       obtain⟨v,g1,g2⟩:=kX (fn:=fn) r2 (k4.env.mono x2) hl;exact⟨v,g2,hR ρ2 w2 v (k3.trans x2) r2 g1⟩
      cases x with
      | normal=>exact hlv
      | ret=>exact hlv
      | exit i=>cases hend
      | goto l=>cases hend
     ·cases hg
    ·cases hg
  ·cases hg
theorem N2(w:World)(n:Nat):fO w w (λ _=>none) (Tr.full n) :=
 ⟨Chg.refl _ _,λ _ _ h=>(by cases h),λ i ao h=>(by rw[p9] at h; cases h),λ i j ao ao' L L' _ h=>(by rw[p9] at h; cases h)⟩

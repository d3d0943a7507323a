import Derived.Test.YtdpcgfcabikjmaaGreatDoorGx7
namespace Go.Gx
open Go Go.Vc

/-! Regions. -/
noncomputable def gguard (ops : Array Oper) (e : Tr AV) (o : Oper) : Option Bool := match o.guard with
  | none => some true
  | some (j, pol) => match (ops[j]?).bind (·.dst) with
    | none => none
    | some d => match e.get d with
      | some (.bool b) => some (cond pol b (not b))
      | some (.tup []) => some false
      | _ => none

theorem gguard_ok {ops : Array Oper} {e : Tr AV} {o : Oper} {g : Bool} (h : gguard ops e o = some g) {ρ : Names} {t : Tm} (he : EnvOK ρ e t) {A B : Tm → Prop} (hA : g = true → A t) (hB : g = false → B t) : gd ops t o A B := by
  unfold gguard at h
  unfold gd
  split at h
  · rename_i hg
    cases h
    rw [hg]
    exact hA rfl
  · rename_i j pol hg
    rw [hg]
    simp only
    split at h
    · cases h
    · rename_i d hd
      rw [hd]
      simp only
      split at h
      · rename_i b hb
        have hv := rv_bool (he _ _ hb)
        rw [hv]
        have hs := st_gt t d _ hv (by simp [undef])
        simp only
        cases pol <;> cases b <;> simp only [cond] at h ⊢ <;> rw [hs] <;> cases h
        · exact hA rfl
        · exact hB rfl
        · exact hB rfl
        · exact hA rfl
      · rename_i hb
        cases h
        obtain ⟨vs, hvs, hv⟩ := rv_tup (he _ _ hb)
        rw [hv]
        exact hB rfl
      · cases h

inductive GS where
  | no
  | ok (e : Tr AV) (d : List AD) (h : AH) (n : Nat)

/-- What a state of the closed run says of the real one. -/
structure StOK (w0 : World) (N : Nat) (ρ : Names) (e : Tr AV) (d : List AD) (h : AH) (t : Tm) (dd : List Deferred) (w : World) : Prop where
  rep : Rep w0 w ρ h
  env : EnvOK ρ e t
  len : t.length = N
  dfs : dvL ρ d = some dd

noncomputable def After (w0 : World) (N : Nat) (ρ : Names) (e : Tr AV) (d : List AD) (h : AH) (t : Tm) (dd : List Deferred) (w : World) : Prop := ∃ ρ', Ext ρ ρ' ∧ StOK w0 N ρ' e d h t dd w

theorem After.trans {w0 : World} {N : Nat} {ρ σ : Names} {e : Tr AV} {d : List AD} {h : AH} {t : Tm} {dd : List Deferred} {w : World} (hx : Ext ρ σ) (k : After w0 N σ e d h t dd w) : After w0 N ρ e d h t dd w :=
  let ⟨τ, h1, h2⟩ := k
  ⟨τ, hx.trans h1, h2⟩

noncomputable def gops (P : Program) (call ext : CallFn) (N : Nat) (ops : Array Oper) : List Oper → Tr AV → List AD → AH → Nat → GS
  | [], e, d, h, n => .ok e d h n
  | o :: rest, e, d, h, n => match gguard ops e o with
    | some true => match gop P call ext o e h n with
      | some (a, ds, h', n') => match aput N e o.dst a with
        | some e' => gops P call ext N ops rest e' (ds ++ d) h' n'
        | none => .no
      | none => .no
    | some false => match aput N e o.dst (.tup []) with
      | some e' => gops P call ext N ops rest e' d h n
      | none => .no
    | none => .no

theorem gops_ok {P : Program} {w0 : World} {call ext : CallFn} (hcall : CallOK P w0 call) (hext : XtOK P w0 ext) {N : Nat} {ops : Array Oper} : ∀ {l : List Oper} {e e' : Tr AV} {d d' : List AD} {h h' : AH} {n n' : Nat},
    gops P call ext N ops l e d h n = .ok e' d' h' n' → ∀ {ρ : Names} {t : Tm} {dd : List Deferred} {w : World}, StOK w0 N ρ e d h t dd w → opsK P ops l t dd w (fun t dd w => After w0 N ρ e' d' h' t dd w)
  | [], e, e', d, d', h, h', n, n', hg, ρ, t, dd, w, hs => by
    simp only [gops] at hg
    cases hg
    exact ⟨ρ, Ext.refl _, hs⟩
  | o :: rest, e, e', d, d', h, h', n, n', hg, ρ, t, dd, w, hs => by
    simp only [gops] at hg
    split at hg
    · rename_i hgd
      split at hg
      · rename_i a ds h2 n2 ho
        split at hg
        · rename_i e2 hp
          refine gguard_ok hgd hs.env (fun _ => ?_) (fun h => by cases h)
          refine gop_ok hcall hext ho hs.rep hs.env fun ρ' v nd w' hx hr hv hd => ?_
          obtain ⟨h1, h2⟩ := aput_ok hp hs.len (hs.env.mono hx) hv
          have := gops_ok hcall hext hg (ρ := ρ') (t := pt t o.dst v) (dd := nd ++ dd) (w := w') ⟨hr, h1, h2, dvL_app hd (dvL_mono hx hs.dfs)⟩
          have e1 : ∀ {l : List Oper} {t : Tm} {dd : List Deferred} {w : World} {K K' : Tm → List Deferred → World → Prop}, (∀ t dd w, K t dd w → K' t dd w) → opsK P ops l t dd w K → opsK P ops l t dd w K' := by
            intro l
            induction l with
            | nil => intro t dd w K K' hk h; exact hk _ _ _ h
            | cons o l ih =>
              intro t dd w K K' hk h
              simp only [opsK] at h ⊢
              unfold gd at h ⊢
              have hO : ∀ (t : Tm), OpK P o t w (fun v nd w' => opsK P ops l (pt t o.dst v) (nd ++ dd) w' K) → OpK P o t w (fun v nd w' => opsK P ops l (pt t o.dst v) (nd ++ dd) w' K') := fun t ⟨n, w', hr, hn⟩ => by
                refine ⟨n, w', hr, ?_⟩
                cases n <;> simp only [nextG] at hn ⊢
                · exact ih hk hn
                · exact ih hk hn
                · exact Calls.mono hn fun e w'' ⟨v, h1, h2⟩ => ⟨v, h1, ih hk h2⟩
                · exact RoundIn.mono hn fun e w'' ⟨v, h1, h2⟩ => ⟨v, h1, ih hk h2⟩
                · exact ih hk hn
              split
              · rename_i hq; simp only [hq] at h; exact hO _ h
              · rename_i j pol hq
                simp only [hq] at h
                split
                · rename_i hq2; simp only [hq2] at h; exact ih hk h
                · rename_i d hq2
                  simp only [hq2] at h
                  split
                  · rename_i b hq3
                    simp only [hq3] at h
                    cases pol <;> cases b <;> simp only [cond] at h ⊢ <;> first | exact hO _ h | exact ih hk h
                  · rename_i hq3
                    split at h
                    · rename_i b hq4; exact absurd hq4 (hq3 b)
                    · exact ih hk h
          exact e1 (fun t dd w h => h.trans hx) this
        · cases hg
      · cases hg
    · rename_i hgd
      split at hg
      · rename_i e2 hp
        refine gguard_ok hgd hs.env (fun h => by cases h) (fun _ => ?_)
        obtain ⟨h1, h2⟩ := aput_ok hp hs.len hs.env (v := undef) rfl
        exact gops_ok hcall hext hg (ρ := ρ) ⟨hs.rep, h1, h2, hs.dfs⟩
      · cases hg
    · cases hg

/-! Regions that draw their order. -/
abbrev PendA := List (Nat × List Dep)

noncomputable def keepsD (h : AH) : List Dep → Bool
  | [] => true
  | d :: l => match cellsOfH h d.i d.o d.vs.length with
    | some az => cond (beqL az d.vs) (keepsD h l) false
    | none => false

noncomputable def keepsP (h : AH) : PendA → Bool
  | [] => true
  | p :: l => cond (keepsD h p.2) (keepsP h l) false

noncomputable def dropA (ops : Array Oper) (j : Nat) (pend : PendA) : PendA := pend.filter fun p => !dep ops ops.size j p.1

noncomputable def DepsR (ρ : Names) (ds : List Dep) (T : List (World → Prop)) : Prop := ∃ ρ0, Ext ρ0 ρ ∧ T = ds.map (factOf ρ0) ∧ ∀ d ∈ ds, ∃ L vs, ρ0 d.i = some L ∧ rvL ρ0 d.vs = some vs

theorem DepsR.mono {ρ σ : Names} (hx : Ext ρ σ) {ds : List Dep} {T : List (World → Prop)} (h : DepsR ρ ds T) : DepsR σ ds T :=
  let ⟨ρ0, h1, h2, h3⟩ := h
  ⟨ρ0, h1.trans hx, h2, h3⟩

theorem keepsD_mem {h : AH} : ∀ {l : List Dep}, keepsD h l = true → ∀ d ∈ l, cellsOfH h d.i d.o d.vs.length = some d.vs
  | [], _, d, hd => by cases hd
  | x :: l, hk, d, hd => by
    simp only [keepsD] at hk
    split at hk
    · rename_i az haz
      obtain ⟨h1, h2⟩ := condT hk
      have := beqL_eq h1
      subst this
      rcases List.mem_cons.1 hd with rfl | hd
      · exact haz
      · exact keepsD_mem h2 d hd
    · cases hk

theorem DepsR.holds {w0 w : World} {ρ : Names} {h : AH} (hr : Rep w0 w ρ h) {ds : List Dep} {T : List (World → Prop)} (hd : DepsR ρ ds T) (hk : keepsD h ds = true) : holds T w := by
  obtain ⟨ρ0, hx, rfl, hw⟩ := hd
  intro f hf
  obtain ⟨d, hd, rfl⟩ := List.mem_map.1 hf
  obtain ⟨L, vs, h1, h2⟩ := hw d hd
  obtain ⟨L', vs', g1, g2, _, g4⟩ := cells_fact hr (keepsD_mem hk d hd)
  obtain rfl : L = L' := Option.some.inj ((hx _ _ h1).symm.trans g1)
  obtain rfl : vs = vs' := Option.some.inj ((rvL_mono hx h2).symm.trans g2)
  exact ⟨L, vs, h1, h2, g4⟩

inductive PendR (ρ : Names) : PendA → Pend → Prop
  | nil : PendR ρ [] []
  | cons {i : Nat} {ds : List Dep} {T : List (World → Prop)} {l : PendA} {m : Pend} : DepsR ρ ds T → PendR ρ l m → PendR ρ ((i, ds) :: l) ((i, T) :: m)

theorem PendR.mono {ρ σ : Names} (hx : Ext ρ σ) {l : PendA} {m : Pend} (h : PendR ρ l m) : PendR σ l m := by
  induction h with
  | nil => exact .nil
  | cons h _ ih => exact .cons (h.mono hx) ih

theorem PendR.drop {ρ : Names} {l : PendA} {m : Pend} (h : PendR ρ l m) (ops : Array Oper) (j : Nat) : PendR ρ (dropA ops j l) (Vc.drop ops j m) := by
  induction h with
  | nil => exact .nil
  | cons h _ ih =>
    rename_i i ds T l m _
    unfold dropA Vc.drop at ih ⊢
    simp only [List.filter_cons]
    split
    · exact .cons h ih
    · exact ih

theorem PendR.holds {w0 w : World} {ρ : Names} {h : AH} (hr : Rep w0 w ρ h) {l : PendA} {m : Pend} (hp : PendR ρ l m) (hk : keepsP h l = true) : ∀ p ∈ m, holds p.2 w := by
  induction hp with
  | nil => intro p hp; cases hp
  | cons h' _ ih =>
    simp only [keepsP] at hk
    obtain ⟨h1, h2⟩ := condT hk
    intro p hp
    rcases List.mem_cons.1 hp with rfl | hp
    · exact h'.holds hr h1
    · exact ih h2 p hp

theorem andT_mk : ∀ {T : List (World → Prop)} {w : World} {R : Prop}, holds T w → R → andT T w R
  | [], _, _, _, h => h
  | f :: _, _, _, hT, h => ⟨hT f (List.mem_cons_self ..), andT_mk (fun g hg => hT g (List.mem_cons_of_mem _ hg)) h⟩

theorem andP_mk : ∀ {ps : Pend} {w : World} {R : Prop}, (∀ p ∈ ps, holds p.2 w) → R → andP ps w R
  | [], _, _, _, h => h
  | p :: _, _, _, hp, h => andT_mk (hp p (List.mem_cons_self ..)) (andP_mk (fun q hq => hp q (List.mem_cons_of_mem _ hq)) h)

theorem andL_mk : ∀ {l : List Prop}, (∀ p ∈ l, p) → andL l
  | [], _ => trivial
  | [p], h => h p (List.mem_cons_self ..)
  | p :: _ :: _, h => ⟨h p (List.mem_cons_self ..), andL_mk fun r hr => h r (List.mem_cons_of_mem _ hr)⟩

noncomputable def beqS : GS → GS → Bool
  | .ok e _ h _, .ok e' _ h' _ => cond (Tr.beq beqA e e') (Tr.beq beqO h h') false
  | _, _ => false

noncomputable def sameAll (s : GS) : List GS → Bool
  | [] => true
  | x :: l => cond (beqS s x) (sameAll s l) false

/-- One way on: operation 'i' next, then 'next'. -/
noncomputable def gway (P : Program) (call ext : CallFn) (N : Nat) (ops : Array Oper) (listed : Array Bool) (pend : PendA) (e : Tr AV) (h : AH) (nm n : Nat) (multi : Bool) (i : Nat) (next : Array Bool → PendA → Tr AV → AH → Nat → GS) : GS := match ops[i]? with
  | none => .no
  | some o => match gguard ops e o with
    | some true => match gop P call ext o e h nm with
      | some (a, [], h', n') => cond (keepsP h' (dropA ops i pend)) (match aput N e o.dst a with
        | some e' => next (listed.setIfInBounds i true) (dropA ops i pend) e' h' (cond multi n n')
        | none => .no) .no
      | _ => .no
    | some false => match aput N e o.dst (.tup []) with
      | some e' => next (listed.setIfInBounds i true) (dropA ops i pend) e' h n
      | none => .no
    | none => .no

/-- A name by the operation. -/
noncomputable def nameR (c0 i : Nat) : Nat := Nat.add (Nat.mul (Nat.add (Nat.mul c0 256) (Nat.succ i)) 16777216) (Nat.mod c0 64)

noncomputable def gdraw (P : Program) (call ext : CallFn) (N : Nat) (ops : Array Oper) (multi : Bool) (c0 : Nat) : Nat → Array Bool → PendA → Tr AV → AH → Nat → GS
  | 0, listed, _, e, h, n => cond (Region.ready .any ops listed).isEmpty (.ok e [] h n) .no
  | k + 1, listed, pend, e, h, n => match pick ops (Region.ready .any ops listed) with
    | some i => match ops[i]? with
      | none => .no
      | some o => cond (Region.free .any ops listed i) (match gguard ops e o with
        | some true => match grd P o e h with
          | some (a, T) => match aput N e o.dst a with
            | some e' => gdraw P call ext N ops multi c0 k (listed.setIfInBounds i true) ((i, T) :: pend) e' h n
            | none => .no
          | none => .no
        | some false => match aput N e o.dst (.tup []) with
          | some e' => gdraw P call ext N ops multi c0 k (listed.setIfInBounds i true) pend e' h n
          | none => .no
        | none => .no) .no
    | none => match Region.ready .any ops listed with
      | [] => .ok e [] h n
      | i :: is => match gway P call ext N ops listed pend e h (cond multi (nameR c0 i) n) n multi i (gdraw P call ext N ops multi c0 k) with
        | .no => .no
        | s => cond (sameAll s (is.map fun j => gway P call ext N ops listed pend e h (cond multi (nameR c0 j) n) n multi j (gdraw P call ext N ops multi c0 k))) s .no

theorem drawK_mono {P : Program} {ops : Array Oper} {K K' : Tm → World → Prop} (hk : ∀ t w, K t w → K' t w) : ∀ (n : Nat) (listed : Array Bool) (pend : Pend) (t : Tm) (w : World), drawK P ops n listed pend t w K → drawK P ops n listed pend t w K'
  | 0, listed, pend, t, w, h => by
    simp only [drawK] at h ⊢
    obtain ⟨h1, h2⟩ := condF h
    rw [h1]; exact hk _ _ h2
  | n + 1, listed, pend, t, w, h => by
    have gdm : ∀ {o : Oper} {A A' B B' : Tm → Prop}, (∀ t, A t → A' t) → (∀ t, B t → B' t) → gd ops t o A B → gd ops t o A' B' := fun {o A A' B B'} hA hB h => by
      unfold gd at h ⊢
      split
      · rename_i hq; simp only [hq] at h; exact hA _ h
      · rename_i j pol hq
        simp only [hq] at h
        split
        · rename_i hq2; simp only [hq2] at h; exact hB _ h
        · rename_i d hq2
          simp only [hq2] at h
          split
          · rename_i b hq3
            simp only [hq3] at h
            cases pol <;> cases b <;> simp only [cond] at h ⊢ <;> first | exact hA _ h | exact hB _ h
          · rename_i hq3
            split at h
            · rename_i b hq4; exact absurd hq4 (hq3 b)
            · exact hB _ h
    unfold drawK at h ⊢
    split at h
    · rename_i i hi
      try simp only [hi]
      split at h
      · exact h.elim
      · rename_i o ho
        obtain ⟨h1, h2⟩ := condF h
        try simp only [ho]
        try simp only [h1, cond_true]
        exact gdm (fun t ⟨v, T, a, b, c⟩ => ⟨v, T, drawK_mono hk n _ _ _ _ a, b, c⟩) (fun t h => drawK_mono hk n _ _ _ _ h) h2
    · rename_i hi
      try simp only [hi]
      split at h
      · rename_i hr; try simp only [hr]
        exact hk _ _ h
      · rename_i i is hr
        try simp only [hr]
        refine andL_mk fun p hp => ?_
        obtain ⟨j, hj, rfl⟩ := List.mem_map.1 hp
        have := andL_spec h _ (List.mem_map.2 ⟨j, hj, rfl⟩)
        split at this
        · exact this.elim
        · rename_i o ho
          try simp only [ho]
          refine gdm (fun t ⟨nx, w', hr, hn⟩ => ⟨nx, w', hr, ?_⟩) (fun t h => drawK_mono hk n _ _ _ _ h) this
          have key : ∀ (v : Value) (nd : List Deferred) (w' : World), (nd = [] ∧ andP (Vc.drop ops j pend) w' (drawK P ops n (listed.setIfInBounds j true) (Vc.drop ops j pend) (pt t o.dst v) w' K)) → (nd = [] ∧ andP (Vc.drop ops j pend) w' (drawK P ops n (listed.setIfInBounds j true) (Vc.drop ops j pend) (pt t o.dst v) w' K')) := fun v nd w' ⟨a, b⟩ => by
            obtain ⟨b1, b2⟩ := andP_spec b
            exact ⟨a, andP_mk b1 (drawK_mono hk n _ _ _ _ b2)⟩
          cases nx <;> simp only [nextG] at hn ⊢
          · exact ⟨trivial, (key _ [] _ ⟨rfl, hn.2⟩).2⟩
          · exact ⟨trivial, (key _ [] _ ⟨rfl, hn.2⟩).2⟩
          · exact Calls.mono hn fun e w'' ⟨v, h1, h2⟩ => ⟨v, h1, trivial, (key _ [] _ ⟨rfl, h2.2⟩).2⟩
          · exact RoundIn.mono hn fun e w'' ⟨v, h1, h2⟩ => ⟨v, h1, trivial, (key _ [] _ ⟨rfl, h2.2⟩).2⟩
          · first | exact key _ _ _ hn | exact hn.elim | (cases hn.1)

theorem sameAll_mem {s : GS} : ∀ {l : List GS}, sameAll s l = true → ∀ x ∈ l, beqS s x = true
  | [], _, x, hx => by cases hx
  | a :: l, h, x, hx => by
    simp only [sameAll] at h
    obtain ⟨h1, h2⟩ := condT h
    rcases List.mem_cons.1 hx with rfl | hx
    · exact h1
    · exact sameAll_mem h2 x hx

/-- What a way comes to, of a state that is known up to its count. -/
noncomputable def Ends (w0 : World) (N : Nat) (ρ : Names) (e : Tr AV) (h : AH) (t : Tm) (w : World) : Prop := ∃ ρ', Ext ρ ρ' ∧ Rep w0 w ρ' h ∧ EnvOK ρ' e t ∧ t.length = N

theorem gdraw_ok {P : Program} {w0 : World} {call ext : CallFn} (hcall : CallOK P w0 call) (hext : XtOK P w0 ext) {N : Nat} {ops : Array Oper} {multi : Bool} {c0 : Nat} : ∀ (k : Nat) {listed : Array Bool} {pa : PendA} {e e' : Tr AV} {d' : List AD} {h h' : AH} {n n' : Nat},
    gdraw P call ext N ops multi c0 k listed pa e h n = .ok e' d' h' n' → ∀ {ρ : Names} {t : Tm} {w : World} {pend : Pend}, Rep w0 w ρ h → EnvOK ρ e t → t.length = N → PendR ρ pa pend →
    d' = [] ∧ drawK P ops k listed pend t w (fun t w => Ends w0 N ρ e' h' t w)
  | 0, listed, pa, e, e', d', h, h', n, n', hg, ρ, t, w, pend, hr, he, hN, hp => by
    simp only [gdraw] at hg
    cases hb : (Region.ready .any ops listed).isEmpty with
    | false => rw [hb] at hg; cases hg
    | true =>
      rw [hb] at hg
      cases hg
      refine ⟨rfl, ?_⟩
      simp only [drawK, hb, cond_true]
      exact ⟨ρ, Ext.refl _, hr, he, hN⟩
  | k + 1, listed, pa, e, e', d', h, h', n, n', hg, ρ, t, w, pend, hr, he, hN, hp => by
    have way : ∀ {i : Nat} {nm : Nat} {s : GS} {e1 : Tr AV} {d1 : List AD} {h1 : AH} {n1 : Nat}, gway P call ext N ops listed pa e h nm n multi i (gdraw P call ext N ops multi c0 k) = s → s = .ok e1 d1 h1 n1 →
        d1 = [] ∧ (match ops[i]? with
          | none => False
          | some o => gd ops t o
            (fun t => OpK P o t w fun v nd w' => nd = [] ∧ andP (Vc.drop ops i pend) w' (drawK P ops k (listed.setIfInBounds i true) (Vc.drop ops i pend) (pt t o.dst v) w' (fun t w => Ends w0 N ρ e1 h1 t w)))
            (fun t => drawK P ops k (listed.setIfInBounds i true) (Vc.drop ops i pend) (pt t o.dst undef) w (fun t w => Ends w0 N ρ e1 h1 t w))) := by
      intro i nm s e1 d1 h1 n1 hs hs'
      subst hs'
      unfold gway at hs
      split at hs
      · cases hs
      · rename_i o ho
        try simp only
        split at hs
        · rename_i hgd
          split at hs
          · rename_i a h2 n2 hop
            cases hkp : keepsP h2 (dropA ops i pa) with
            | false => rw [hkp] at hs; cases hs
            | true =>
              rw [hkp] at hs
              simp only [cond_true] at hs
              split at hs
              · rename_i e2 hput
                have hd1 : d1 = [] := by
                  obtain ⟨v0, hv0⟩ : ∃ x : Nat, x = x := ⟨0, rfl⟩
                  have aux : ∀ (k : Nat) {listed : Array Bool} {pa : PendA} {e e' : Tr AV} {d' : List AD} {h h' : AH} {n n' : Nat}, gdraw P call ext N ops multi c0 k listed pa e h n = .ok e' d' h' n' → d' = [] := by
                    intro k
                    induction k with
                    | zero =>
                      intro listed pa e e' d' h h' n n' hg
                      simp only [gdraw] at hg
                      cases hb : (Region.ready .any ops listed).isEmpty with
                      | false => rw [hb] at hg; cases hg
                      | true => rw [hb] at hg; cases hg; rfl
                    | succ k ih =>
                      intro listed pa e e' d' h h' n n' hg
                      have hw : ∀ {i nm : Nat} {e1 : Tr AV} {d1 : List AD} {h1 : AH} {n1 : Nat}, gway P call ext N ops listed pa e h nm n multi i (gdraw P call ext N ops multi c0 k) = .ok e1 d1 h1 n1 → d1 = [] := by
                        intro i nm e1 d1 h1 n1 hs
                        unfold gway at hs
                        split at hs
                        · cases hs
                        · split at hs
                          · split at hs
                            · rename_i a h2 n2 _
                              cases hkp : keepsP h2 (dropA ops i pa) with
                              | false => rw [hkp] at hs; cases hs
                              | true =>
                                rw [hkp] at hs
                                simp only [cond_true] at hs
                                split at hs
                                · exact ih hs
                                · cases hs
                            · cases hs
                          · split at hs
                            · exact ih hs
                            · cases hs
                          · cases hs
                      simp only [gdraw] at hg
                      split at hg
                      · rename_i i hi
                        split at hg
                        · cases hg
                        · rename_i o ho
                          cases hf : Region.free .any ops listed i with
                          | false => rw [hf] at hg; cases hg
                          | true =>
                            rw [hf] at hg
                            simp only [cond_true] at hg
                            split at hg
                            · split at hg
                              · split at hg
                                · exact ih hg
                                · cases hg
                              · cases hg
                            · split at hg
                              · exact ih hg
                              · cases hg
                            · cases hg
                      · split at hg
                        · cases hg; rfl
                        · rename_i i is _
                          split at hg
                          · cases hg
                          · rename_i s hne hs
                            cases hsm : sameAll (gway P call ext N ops listed pa e h (cond multi (nameR c0 i) n) n multi i (gdraw P call ext N ops multi c0 k)) (is.map fun j => gway P call ext N ops listed pa e h (cond multi (nameR c0 j) n) n multi j (gdraw P call ext N ops multi c0 k)) with
                            | false => rw [hsm] at hg; cases hg
                            | true => rw [hsm] at hg; exact hw hg
                  exact aux k hs
                refine ⟨hd1, gguard_ok hgd he (fun _ => ?_) (fun h => by cases h)⟩
                refine gop_ok hcall hext hop hr he fun ρ' v nd w' hx hr' hv hnd => ?_
                cases hnd
                obtain ⟨g1, g2⟩ := aput_ok hput hN (he.mono hx) hv
                have hp' := (hp.mono hx).drop ops i
                obtain ⟨_, hk2⟩ := gdraw_ok hcall hext k hs (ρ := ρ') hr' g1 g2 hp'
                exact ⟨rfl, andP_mk (hp'.holds hr' hkp) (drawK_mono (fun t w ⟨ρ2, a, b⟩ => ⟨ρ2, hx.trans a, b⟩) _ _ _ _ _ hk2)⟩
              · cases hs
          · cases hs
        · rename_i hgd
          split at hs
          · rename_i e2 hput
            obtain ⟨g1, g2⟩ := aput_ok hput hN he (v := undef) rfl
            obtain ⟨hd1, hk2⟩ := gdraw_ok hcall hext k hs (ρ := ρ) hr g1 g2 (hp.drop ops i)
            exact ⟨hd1, gguard_ok hgd he (fun h => by cases h) (fun _ => hk2)⟩
          · cases hs
        · cases hs
    simp only [gdraw] at hg
    unfold drawK
    split at hg
    · rename_i i hi
      try simp only [hi]
      split at hg
      · cases hg
      · rename_i o ho
        try simp only [ho]
        cases hf : Region.free .any ops listed i with
        | false => rw [hf] at hg; cases hg
        | true =>
          rw [hf] at hg
          simp only [cond_true] at hg ⊢
          split at hg
          · rename_i hgd
            split at hg
            · rename_i a T hrd
              split at hg
              · rename_i e2 hput
                obtain ⟨v, g1, g2, g3⟩ := grd_ok hrd hr he
                obtain ⟨a1, a2⟩ := aput_ok hput hN he g1
                have hdr : DepsR ρ T (T.map (factOf ρ)) := ⟨ρ, Ext.refl _, rfl, fun d hd => by
                  obtain ⟨L, vs, b1, b2, _⟩ := g2 _ (List.mem_map.2 ⟨d, hd, rfl⟩)
                  exact ⟨L, vs, b1, b2⟩⟩
                obtain ⟨hd1, hk2⟩ := gdraw_ok hcall hext k hg (ρ := ρ) hr a1 a2 (.cons hdr hp)
                exact ⟨hd1, gguard_ok hgd he (fun _ => ⟨v, _, hk2, g2, g3⟩) (fun h => by cases h)⟩
              · cases hg
            · cases hg
          · rename_i hgd
            split at hg
            · rename_i e2 hput
              obtain ⟨a1, a2⟩ := aput_ok hput hN he (v := undef) rfl
              obtain ⟨hd1, hk2⟩ := gdraw_ok hcall hext k hg (ρ := ρ) hr a1 a2 hp
              exact ⟨hd1, gguard_ok hgd he (fun h => by cases h) (fun _ => hk2)⟩
            · cases hg
          · cases hg
    · rename_i hi
      try simp only [hi]
      split at hg
      · rename_i hrd
        cases hg
        try simp only [hrd]
        exact ⟨trivial, ρ, Ext.refl _, hr, he, hN⟩
      · rename_i i is hrd
        try simp only [hrd]
        split at hg
        · cases hg
        · rename_i hne
          cases hsm : sameAll (gway P call ext N ops listed pa e h (cond multi (nameR c0 i) n) n multi i (gdraw P call ext N ops multi c0 k)) (is.map fun j => gway P call ext N ops listed pa e h (cond multi (nameR c0 j) n) n multi j (gdraw P call ext N ops multi c0 k)) with
          | false => rw [hsm] at hg; cases hg
          | true =>
            rw [hsm] at hg
            simp only [cond_true] at hg
            obtain ⟨hd1, hw1⟩ := way rfl hg
            refine ⟨hd1, andL_mk fun p hp' => ?_⟩
            obtain ⟨j, hj, rfl⟩ := List.mem_map.1 hp'
            rcases List.mem_cons.1 hj with rfl | hj
            · exact hw1
            · have hb := sameAll_mem hsm _ (List.mem_map.2 ⟨j, hj, rfl⟩)
              rw [hg] at hb
              generalize hgj : gway P call ext N ops listed pa e h (cond multi (nameR c0 j) n) n multi j (gdraw P call ext N ops multi c0 k) = sj at hb
              cases sj with
              | no => simp [beqS] at hb
              | ok ej dj hj' nj =>
                simp only [beqS] at hb
                obtain ⟨b1, b2⟩ := condT hb
                have e1 := Tr.beq_eq (fun h => beqA_eq h) b1
                have e2 := Tr.beq_eq (fun h => beqO_eq h) b2
                subst e1 e2
                exact (way hgj rfl).2

end Go.Gx

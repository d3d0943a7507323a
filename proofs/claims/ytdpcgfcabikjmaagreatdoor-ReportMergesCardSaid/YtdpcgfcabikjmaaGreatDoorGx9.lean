import Derived.Test.YtdpcgfcabikjmaaGreatDoorGx8
import Derived.ScopeJumps
import Derived.LoopNIn
namespace Go.Gx
open Go Go.Vc

/-! A function's text, run. -/
inductive GE where
  | normal
  | exit (i : Nat)
  | ret
  | goto (l : Nat)

noncomputable def GE.ex : GE → Exit
  | .normal => .normal
  | .exit i => .exit i
  | .ret => .ret
  | .goto l => .goto l

inductive GR where
  | no
  | ok (x : GE) (e : Tr AV) (d : List AD) (h : AH) (n : Nat)

noncomputable def GS.toR : GS → GR
  | .no => .no
  | .ok e d h n => .ok .normal e d h n

noncomputable def GS.toD (d0 : List AD) (m : Bool) : GS → GR
  | .no => .no
  | .ok e _ h n => .ok .normal e d0 h (cond m (Nat.succ n) n)

noncomputable def gscope (run : Code → Tr AV → List AD → AH → Nat → GR) (c : Code) : Nat → Code → Tr AV → List AD → AH → Nat → GR
  | 0, _, _, _, _, _ => .no
  | k + 1, cur, e, d, h, n => match run cur e d h n with
    | .ok (.goto l) e d h n => match findLabel c l with
      | some rest => gscope run c k rest e d h n
      | none => .no
    | r => r

noncomputable def gloop (run : Tr AV → List AD → AH → Nat → GR) : Nat → Tr AV → List AD → AH → Nat → GR
  | 0, _, _, _, _ => .no
  | k + 1, e, d, h, n => match run e d h n with
    | .ok .normal e d h n => gloop run k e d h n
    | r => r

/-- Are there two writers that come in no order? -/
noncomputable def multiR (ops : Array Oper) : Bool :=
  let ws := (List.range ops.size).filter fun i => match ops[i]? with
    | some o => !isRd o.op
    | none => false
  ws.any fun i => ws.any fun j => Nat.ble (Nat.succ i) j && !dep ops ops.size j i && !dep ops ops.size i j

noncomputable def gcode (P : Program) (call ext : CallFn) (N : Nat) : Nat → Code → Tr AV → List AD → AH → Nat → GR
  | 0, _, _, _, _, _ => .no
  | f + 1, c, e, d, h, n => match c with
    | .skip => .ok .normal e d h n
    | .label _ => .ok .normal e d h n
    | .region _ ops draw => match draw with
      | false => (gops P call ext N ops ops.toList e d h n).toR
      | true => cond (and (P.follows .mixedOrders) (and (Region.noSelect ops) (noDefers ops.toList)))
        ((gdraw P call ext N ops (multiR ops) n ops.size (Array.replicate ops.size false) [] e h n).toD d (multiR ops)) .no
    | .seq a b => match gcode P call ext N f a e d h n with
      | .ok .normal e d h n => gcode P call ext N f b e d h n
      | r => r
    | .cond c a b => match aev e c with
      | some (.bool x) => cond x (gcode P call ext N f a e d h n) (gcode P call ext N f b e d h n)
      | _ => .no
    | .block id c => match gcode P call ext N f c e d h n with
      | .ok (.exit i) e d h n => cond (Nat.beq i id) (.ok .normal e d h n) (.ok (.exit i) e d h n)
      | r => r
    | .loop c => gloop (gcode P call ext N f c) f e d h n
    | .exit i => .ok (.exit i) e d h n
    | .ret => .ok .ret e d h n
    | .goto l => .ok (.goto l) e d h n
    | .scope c => gscope (gcode P call ext N f) c f c e d h n
    | _ => .no

/-- What a text comes to. -/
noncomputable def Out (w0 : World) (N : Nat) (ρ : Names) (x : GE) (e : Tr AV) (d : List AD) (h : AH) (ex : Exit) (a : Act) (w : World) : Prop :=
  x.ex = ex ∧ ∃ t dd, a = mkD t dd ∧ After w0 N ρ e d h t dd w

theorem Out.mk {w0 : World} {N : Nat} {ρ : Names} {x : GE} {e : Tr AV} {d : List AD} {h : AH} {t : Tm} {dd : List Deferred} {w : World} (k : StOK w0 N ρ e d h t dd w) : Out w0 N ρ x e d h x.ex (mkD t dd) w :=
  ⟨rfl, t, dd, rfl, ρ, Ext.refl _, k⟩

theorem Out.trans {w0 : World} {N : Nat} {ρ σ : Names} {x : GE} {e : Tr AV} {d : List AD} {h : AH} {ex : Exit} {a : Act} {w : World} (hx : Ext ρ σ) (k : Out w0 N σ x e d h ex a w) : Out w0 N ρ x e d h ex a w := by
  obtain ⟨h1, t, dd, h2, h3⟩ := k
  exact ⟨h1, t, dd, h2, h3.trans hx⟩

theorem wpF {P : Program} {c : Code} {Q : Exit → Act → World → Prop} {a : Act} {w : World} : c.wpIn (FW none) 0 P Q a w ↔ c.wp P Q a w := wpIn_wide

theorem wp_scope_one {P : Program} {c : Code} {Q : Exit → Act → World → Prop} {a : Act} {w : World}
    (h : ∀ (b : Frame) (k : List Item) (cs : List Frame), ∃ e a' w', Q e a' w' ∧ Arrives P (lone (b.at a (.code c :: .inScope c :: k)) cs w) b k cs e a' w') : (Code.scope c).wp P Q a w := fun b k cs => by
  obtain ⟨e, a', w', hq, harr⟩ := h b k cs
  exact ⟨e, a', w', hq, .of_steps (.one step_scope) harr⟩

/-- In a scope: a text of it runs, then perhaps from a label on. -/
noncomputable def ScopeOK (P : Program) (c cur : Code) (Q : Exit → Act → World → Prop) (a : Act) (w : World) : Prop :=
  ∀ (b : Frame) (k : List Item) (cs : List Frame), ∃ e a' w', Q e a' w' ∧ Arrives P (lone (b.at a (.code cur :: .inScope c :: k)) cs w) b k cs e a' w'

theorem scopeOK_of {P : Program} {c cur : Code} {Q : Exit → Act → World → Prop} {a : Act} {w : World}
    (h : cur.wp P (fun e a' w' => (∀ l, e = .goto l → ∃ rest, findLabel c l = some rest ∧ ScopeOK P c rest Q a' w') ∧ ((∀ l, e ≠ .goto l) → Q e a' w')) a w) : ScopeOK P c cur Q a w := by
  intro b k cs
  obtain ⟨e, a₁, w₁, hq, harr⟩ := h b (.inScope c :: k) cs
  cases e with
  | normal => exact ⟨.normal, a₁, w₁, hq.2 (by simp), Steps.trans harr (.one step_inScope)⟩
  | exit id => exact ⟨.exit id, a₁, w₁, hq.2 (by simp), fun k' hk => harr k' (by simp [exitTo, hk])⟩
  | goto l =>
    obtain ⟨rest, hf, hs⟩ := hq.1 l rfl
    have hg : gotoIn l (.inScope c :: k) = some (.code rest :: .inScope c :: k) := by simp [gotoIn, hf]
    obtain ⟨e₂, a₂, w₂, hq₂, harr₂⟩ := hs b k cs
    exact ⟨e₂, a₂, w₂, hq₂, .of_steps (harr _ hg) harr₂⟩
  | ret => exact ⟨_, a₁, w₁, hq.2 (by simp), harr⟩
  | panic ch => exact ⟨_, a₁, w₁, hq.2 (by simp), harr⟩
  | outgrown => exact ⟨_, a₁, w₁, hq.2 (by simp), harr⟩

theorem andB {a b : Bool} (h : and a b = true) : a = true ∧ b = true := by cases a <;> simp_all

/-- A way to run a text is right. -/
def CdOK (P : Program) (w0 : World) (N : Nat) (f : Tr AV → List AD → AH → Nat → GR) (c : Code) : Prop := ∀ {e e' : Tr AV} {d d' : List AD} {h h' : AH} {n n' : Nat} {x : GE},
    f e d h n = .ok x e' d' h' n' → ∀ {ρ : Names} {t : Tm} {dd : List Deferred} {w : World}, StOK w0 N ρ e d h t dd w → c.wpIn (FW none) 0 P (Out w0 N ρ x e' d' h') (mkD t dd) w

theorem region_ok {P : Program} {w0 : World} {call ext : CallFn} (hcall : CallOK P w0 call) (hext : XtOK P w0 ext) {N id : Nat} {ops : Array Oper} :
    CdOK P w0 N (fun e d h n => (gops P call ext N ops ops.toList e d h n).toR) (.region id ops false) := by
  intro e e' d d' h h' n n' x hg ρ t dd w hs
  simp only at hg
  generalize hr : gops P call ext N ops ops.toList e d h n = r at hg
  cases r with
  | no => cases hg
  | ok e1 d1 h1 n1 =>
    cases hg
    refine wpIn_region_list (opsK_wp (ro := none) ops.toList t dd w _ (.inl rfl) ?_ (gops_ok hcall hext hr hs))
    exact fun t d w k => ⟨rfl, t, d, rfl, k⟩

theorem draw_ok {P : Program} {w0 : World} {call ext : CallFn} (hcall : CallOK P w0 call) (hext : XtOK P w0 ext) {N id : Nat} {ops : Array Oper} :
    CdOK P w0 N (fun e d h n => cond (and (P.follows .mixedOrders) (and (Region.noSelect ops) (noDefers ops.toList)))
        ((gdraw P call ext N ops (multiR ops) n ops.size (Array.replicate ops.size false) [] e h n).toD d (multiR ops)) .no) (.region id ops true) := by
  intro e e' d d' h h' n n' x hg ρ t dd w hs
  simp only at hg
  generalize hm : multiR ops = m at hg
  cases hc : (and (P.follows .mixedOrders) (and (Region.noSelect ops) (noDefers ops.toList))) with
  | false => rw [hc] at hg; cases hg
  | true =>
    rw [hc] at hg
    simp only [cond_true] at hg
    obtain ⟨c1, c2⟩ := andB hc
    obtain ⟨c2, c3⟩ := andB c2
    generalize hr : gdraw P call ext N ops m n ops.size (Array.replicate ops.size false) [] e h n = r at hg
    cases r with
    | no => cases hg
    | ok e1 d1 h1 n1 =>
      cases hg
      have hnd : ∀ (j : Nat) (o : Oper), ops[j]? = some o → noDefer o.op = true := fun j o ho => by
        have := List.all_eq_true.1 c3 o (by simpa using Array.mem_of_getElem? ho)
        exact this
      obtain ⟨_, hk⟩ := gdraw_ok hcall hext _ hr (w := w.drew) (hs.rep.quiet (Chg.drew w [])) hs.env hs.len .nil
      refine wpIn_region_any c1 (wpAny_of_T _ _ [] _ _ ?_)
      refine drawK_T (ro := none) (dd := dd) (K := fun t w => Ends w0 N ρ e' h' t w) hnd c2 (fun c a w h => by cases h.1) ?_ _ _ [] t _ ?_ (fun p hp => by cases hp) hk
      · rintro t w ⟨ρ', k1, k2, k3, k4⟩
        exact ⟨rfl, t, dd, rfl, ρ', k1, k2, k3, k4, dvL_mono k1 hs.dfs⟩
      · intro j o _ hj
        rcases Nat.lt_or_ge j ops.size with h | h <;> simp [h] at hj

theorem seq_ok {P : Program} {w0 : World} {N : Nat} {fa fb : Tr AV → List AD → AH → Nat → GR} {a b : Code} (ha : CdOK P w0 N fa a) (hb : CdOK P w0 N fb b) :
    CdOK P w0 N (fun e d h n => match fa e d h n with
      | .ok .normal e d h n => fb e d h n
      | r => r) (.seq a b) := by
  intro e e' d d' h h' n n' x hg ρ t dd w hs
  refine wpIn_seq ?_
  simp only at hg
  split at hg
  · rename_i e1 d1 h1 n1 hfa
    refine wpIn_mono (ha hfa hs) fun ex a' w' ⟨k1, t', dd', k2, ρ', k3, k4⟩ => ?_
    subst k1 k2
    exact wpIn_mono (hb hg k4) fun ex a' w' k => k.trans k3
  · rename_i hne
    refine wpIn_mono (ha hg hs) fun ex a' w' k => ?_
    obtain ⟨k1, k2⟩ := k
    cases x with
    | normal => exact absurd hg (hne _ _ _ _)
    | _ => subst k1; exact ⟨rfl, k2⟩

theorem cond_ok {P : Program} {w0 : World} {N : Nat} {fa fb : Tr AV → List AD → AH → Nat → GR} {c : Operand} {a b : Code} (ha : CdOK P w0 N fa a) (hb : CdOK P w0 N fb b) :
    CdOK P w0 N (fun e d h n => match aev e c with
      | some (.bool x) => cond x (fa e d h n) (fb e d h n)
      | _ => .no) (.cond c a b) := by
  intro e e' d d' h h' n n' x hg ρ t dd w hs
  simp only at hg
  split at hg
  · rename_i x hx
    have hv : ev t c = .bool x := rv_bool (aev_ev hs.env hx)
    refine wpIn_cond (t := x) (by rw [mkD_eval]; exact hv) ?_
    cases x with
    | true => exact ha hg hs
    | false => exact hb hg hs
  · cases hg

theorem block_ok {P : Program} {w0 : World} {N id : Nat} {fc : Tr AV → List AD → AH → Nat → GR} {c : Code} (hc : CdOK P w0 N fc c) :
    CdOK P w0 N (fun e d h n => match fc e d h n with
      | .ok (.exit i) e d h n => cond (Nat.beq i id) (.ok .normal e d h n) (.ok (.exit i) e d h n)
      | r => r) (.block id c) := by
  intro e e' d d' h h' n n' x hg ρ t dd w hs
  refine wpIn_block ?_
  simp only at hg
  split at hg
  · rename_i i e1 d1 h1 n1 hfc
    refine wpIn_mono (hc hfc hs) fun ex a' w' ⟨k1, k2⟩ => ?_
    subst k1
    show Exit.inBlock id _ (.exit i) a' w'
    simp only [Exit.inBlock]
    cases hb : Nat.beq i id with
    | true =>
      rw [hb] at hg
      cases hg
      rw [if_pos (Nat.eq_of_beq_eq_true hb)]
      exact ⟨rfl, k2⟩
    | false =>
      rw [hb] at hg
      cases hg
      rw [if_neg (fun e => by rw [e, Nat.beq_refl] at hb; cases hb)]
      exact ⟨rfl, k2⟩
  · rename_i hne
    refine wpIn_mono (hc hg hs) fun ex a' w' ⟨k1, k2⟩ => ?_
    cases x with
    | exit i => exact absurd hg (hne _ _ _ _ _)
    | _ => subst k1; exact ⟨rfl, k2⟩

theorem loop_ok {P : Program} {w0 : World} {N f : Nat} {fc : Tr AV → List AD → AH → Nat → GR} {c : Code} (hc : CdOK P w0 N fc c) : CdOK P w0 N (gloop fc f) (.loop c) := by
  intro e e' d d' h h' n n' x hg ρ t dd w hs
  refine wpIn_loop_rounds f ?_
  have key : ∀ (k : Nat) {e : Tr AV} {d : List AD} {h : AH} {n : Nat} {ρ : Names} {t : Tm} {dd : List Deferred} {w : World}, gloop fc k e d h n = .ok x e' d' h' n' →
      StOK w0 N ρ e d h t dd w → ∀ {Q : Exit → Act → World → Prop}, (∀ ex a w, Out w0 N ρ x e' d' h' ex a w → Q ex a w) → Code.roundsIn (FW none) 0 P c Q k (mkD t dd) w := by
    intro k
    induction k with
    | zero => intro e d h n ρ t dd w hg; cases hg
    | succ k ih =>
      intro e d h n ρ t dd w hg hs Q hQ
      simp only [gloop] at hg
      split at hg
      · rename_i e1 d1 h1 n1 hfc
        refine wpIn_mono (hc hfc hs) fun ex a' w' ⟨k1, t', dd', k2, ρ', k3, k4⟩ => ?_
        subst k1 k2
        exact ih hg k4 fun ex a w k => hQ _ _ _ (k.trans k3)
      · rename_i hne
        refine wpIn_mono (hc hg hs) fun ex a' w' ⟨k1, k2⟩ => ?_
        cases x with
        | normal => exact absurd hg (hne _ _ _ _)
        | _ => subst k1; exact hQ _ _ _ ⟨rfl, k2⟩
  exact key f hg hs fun _ _ _ k => k

theorem scope_ok {P : Program} {w0 : World} {N k : Nat} {run : Code → Tr AV → List AD → AH → Nat → GR} (hrun : ∀ c, CdOK P w0 N (run c) c) (c : Code) : CdOK P w0 N (gscope run c k c) (.scope c) := by
  intro e e' d d' h h' n n' x hg ρ t dd w hs
  refine wpF.2 (wp_scope_one ?_)
  have key : ∀ (k : Nat) (cur : Code) {e : Tr AV} {d : List AD} {h : AH} {n : Nat} {ρ : Names} {t : Tm} {dd : List Deferred} {w : World}, gscope run c k cur e d h n = .ok x e' d' h' n' →
      StOK w0 N ρ e d h t dd w → ScopeOK P c cur (Out w0 N ρ x e' d' h') (mkD t dd) w := by
    intro k
    induction k with
    | zero => intro cur e d h n ρ t dd w hg; cases hg
    | succ k ih =>
      intro cur e d h n ρ t dd w hg hs
      simp only [gscope] at hg
      refine scopeOK_of (wpF.1 ?_)
      split at hg
      · rename_i l e1 d1 h1 n1 hc
        refine wpIn_mono (hrun cur hc hs) fun ex a' w' ⟨k1, t', dd', k2, ρ', k3, k4⟩ => ?_
        subst k1 k2
        split at hg
        · rename_i rest hf
          refine ⟨fun l' hl => ?_, fun hn => absurd rfl (hn l)⟩
          cases hl
          refine ⟨rest, hf, fun b k cs => ?_⟩
          obtain ⟨e2, a2, w2, g1, g2⟩ := ih rest hg k4 b k cs
          exact ⟨e2, a2, w2, g1.trans k3, g2⟩
        · cases hg
      · rename_i hne
        refine wpIn_mono (hrun cur hg hs) fun ex a' w' ⟨k1, k2⟩ => ?_
        subst k1
        refine ⟨fun l hl => ?_, fun _ => ⟨rfl, k2⟩⟩
        cases x with
        | goto l' => exact absurd hg (hne _ _ _ _ _)
        | _ => cases hl
  exact key k c hg hs

end Go.Gx

import Derived.Test.YtdpcgfcabikjmaaGreatDoorGx9
namespace Go.Gx
open Go Go.Vc

/-! The way out of a function, and calls. -/
noncomputable def gres (P : Program) (e : Tr AV) (h : AH) : List ResultVar → Option (List AV)
  | [] => some []
  | .tmp s :: rs => match e.get s, gres P e h rs with
    | some a, some l => some (a :: l)
    | _, _ => none
  | .cell a ty :: rs => match e.get a with
    | some p => match gld P ty p h, gres P e h rs with
      | some (v, _), some l => some (v :: l)
      | _, _ => none
    | none => none

noncomputable def gtup : List AV → AV
  | [a] => a
  | l => .tup l

theorem gres_ok {P : Program} {e : Tr AV} {h : AH} {w0 w : World} {ρ : Names} (hr : Rep w0 w ρ h) {t : Tm} (he : EnvOK ρ e t) : ∀ {rs : List ResultVar} {l : List AV}, gres P e h rs = some l →
    ∃ vs, rvL ρ l = some vs ∧ (rs.mapM (resF t)).run P w = .ok vs w
  | [], l, hg => by cases hg; exact ⟨[], rfl, by simp⟩
  | .tmp s :: rs, l, hg => by
    simp only [gres] at hg
    split at hg
    · rename_i a l' h1 h2
      cases hg
      obtain ⟨vs, h3, h4⟩ := gres_ok hr he h2
      exact ⟨_, rvL_mk (he s a h1) h3, by simp only [List.mapM_cons, resF, Sem.run_bind, Sem.run_pure, Result.andThen_ok, h4, gt_eq]⟩
    · cases hg
  | .cell a ty :: rs, l, hg => by
    simp only [gres] at hg
    split at hg
    · rename_i p hp
      split at hg
      · rename_i v ds l' h1 h2
        cases hg
        obtain ⟨vs, h3, h4⟩ := gres_ok hr he h2
        have hpv := he a p hp
        obtain ⟨u, k1, k2, k3⟩ := gld_ok h1 hr hpv
        refine ⟨_, rvL_mk k1 h3, ?_⟩
        have h6 := k3 w k2
        have h5 : (resF t (.cell a ty)).run P w = .ok u w := by
          show (Sem.bind (asAddr (t.toArray.getD a undef)) fun p => loadVar ty p).run P w = .ok u w
          rw [Sem.run_bind', ← gt_eq]
          generalize gt t a = x at h6 ⊢
          cases x with
          | pointer p => cases p with
            | none => simp [Instr.loadAt, Instr.sureAddr] at h6
            | some p => simpa [Instr.loadAt, Instr.sureAddr, asAddr] using h6
          | _ => simp [Instr.loadAt, Instr.sureAddr] at h6
        rw [List.mapM_cons, Sem.run_bind, h5]
        simp only [Result.andThen_ok, Sem.run_bind, h4, Sem.run_pure]
      · cases hg
    · cases hg

theorem gresults_ok {P : Program} {fn : Func} {e : Tr AV} {h : AH} {w0 w : World} {ρ : Names} (hr : Rep w0 w ρ h) {t : Tm} (he : EnvOK ρ e t) {l : List AV} (hg : gres P e h fn.results.toList = some l) :
    ∃ v, rv ρ (gtup l) = some v ∧ (results fn t.toArray).run P w = .ok v w := by
  obtain ⟨vs, h1, h2⟩ := gres_ok hr he hg
  have h3 : results fn t.toArray = (do
      let vs ← fn.results.mapM (resF t)
      pure (if h : vs.size = 1 then vs[0] else .tuple vs)) := by
    unfold results
    have : (fun r => match r with
        | .tmp i => (pure (t.toArray.getD i undef) : Sem Value)
        | .cell a i => do loadVar i (← asAddr (t.toArray.getD a undef))) = resF t := by
      funext x; cases x <;> rfl
    rw [← this]
    rfl
  have h4 : (results fn t.toArray).run P w = .ok (if h : vs.toArray.size = 1 then vs.toArray[0] else .tuple vs.toArray) w := by
    rw [h3, Array.mapM_eq_mapM_toList]
    simp only [Sem.run_map, bind_pure_comp, h2, Result.andThen_ok]
  refine ⟨_, ?_, h4⟩
  match l, vs, h1 with
  | [], [], _ => rfl
  | [a], [v], h1 =>
    obtain ⟨v', us, e, k1, k2⟩ := rvL_cons h1
    cases e
    exact k1
  | [], v :: vs, h1 => simp [rvL] at h1
  | a :: l, [], h1 => obtain ⟨_, _, e, _⟩ := rvL_cons h1; cases e
  | [a], v :: u :: vs, h1 =>
    obtain ⟨v', us, e, k1, k2⟩ := rvL_cons h1
    simp [rvL] at k2
    subst k2; cases e
  | a :: b :: l, [v], h1 =>
    obtain ⟨v', us, e, k1, k2⟩ := rvL_cons h1
    cases e
    obtain ⟨_, _, e, _⟩ := rvL_cons k2
    cases e
  | a :: b :: l, v :: u :: vs, h1 =>
    have : ¬ (v :: u :: vs).toArray.size = 1 := by simp
    rw [dif_neg this]
    simp only [gtup, rv, h1, Option.map_some]

/-! The frame of a call. -/
noncomputable def gin : List AV → Nat → Tr AV → Tr AV
  | [], _, e => e
  | a :: l, i, e => gin l (Nat.succ i) (e.put i a)

theorem gin_ok {ρ : Names} {T : Tm} : ∀ {l : List AV} {vs us : List Value} {i : Nat} {e : Tr AV}, rvL ρ l = some vs → T = us ++ vs ++ T.drop (i + l.length) → us.length = i → EnvOK ρ e T → EnvOK ρ (gin l i e) T
  | [], _, _, _, _, _, _, _, he => he
  | a :: l, vs, us, i, e, h, hT, hl, he => by
    obtain ⟨v, vs', rfl, h1, h2⟩ := rvL_cons h
    have hlen : i + (a :: l).length = i + 1 + l.length := by rw [List.length_cons]; omega
    rw [hlen] at hT
    have hT' : T = (us ++ [v]) ++ vs' ++ T.drop (i + 1 + l.length) := by rw [List.append_assoc us [v] vs', List.singleton_append]; exact hT
    show EnvOK ρ (gin l (i + 1) (e.put i a)) T
    refine gin_ok (l := l) (us := us ++ [v]) (i := i + 1) h2 hT' (by simp [hl]) fun j b hj => ?_
    rw [get_put] at hj
    split at hj
    · rename_i e1
      subst e1
      cases hj
      have : gt T j = v := by
        rw [gt_eq, hT, ← hl]
        simp
      rw [this]; exact h1
    · exact he j b hj

theorem env_none (ρ : Names) (t : Tm) (n : Nat) : EnvOK ρ (Tr.full n) t := fun i a h => by rw [get_full] at h; cases h

noncomputable def isEnd : GE → Bool
  | .normal => true
  | .ret => true
  | _ => false

/-- What is deferred, run at the end: each body defers nothing. -/
noncomputable def gdefs (P : Program) (body : FuncId → List AV → AH → Nat → Option (Tr AV × Func × AH × Nat)) : List AD → AH → Nat → Option (AH × Nat)
  | [], h, n => some (h, n)
  | d :: ds, h, n => cond (entersB P d.f) (match body d.f (d.args ++ d.cap) h n with
    | some (e, fn, h', n') => match gres P e h' fn.results.toList with
      | some _ => gdefs P body ds h' n'
      | none => none
    | none => none) none

/-- A function's body, without what it defers: only if it defers nothing. -/
noncomputable def envD (n : Nat) : Nat := cond (Nat.ble n 12) 2 (cond (Nat.ble n 40) 4 6)

abbrev CodeFn := Nat → Code → Tr AV → List AD → AH → Nat → GR

noncomputable def gbody (P : Program) (cd : CodeFn) (f : FuncId) (args : List AV) (h : AH) (n : Nat) : Option (GE × Tr AV × List AD × Func × AH × Nat) :=
  match P.funcs[f]? with
  | some fn => match fn.body with
    | some c => cond (Nat.ble args.length fn.ntmps) (match cd fn.ntmps c (gin args 0 (Tr.full (envD fn.ntmps))) [] h n with
      | .ok x e d h n => some (x, e, d, fn, h, n)
      | .no => none) none
    | none => none
  | none => none

noncomputable def gbody0 (P : Program) (cd : CodeFn) (f : FuncId) (args : List AV) (h : AH) (n : Nat) : Option (Tr AV × Func × AH × Nat) := match gbody P cd f args h n with
  | some (x, e, [], fn, h, n) => cond (isEnd x) (some (e, fn, h, n)) none
  | _ => none

noncomputable def gcall1 (P : Program) (cd : CodeFn) (f : FuncId) (args : List AV) (h : AH) (n : Nat) : Option (AV × AH × Nat) := match gbody P cd f args h n with
  | some (x, e, d, fn, h, n) => cond (isEnd x) (match gdefs P (gbody0 P cd) d h n with
    | some (h, n) => match gres P e h fn.results.toList with
      | some l => some (gtup l, h, n)
      | none => none
    | none => none) none
  | none => none

noncomputable def gcall (P : Program) (mk : CallFn → CodeFn) (k : Nat) : CallFn := Nat.rec (motive := fun _ => CallFn) (fun _ _ _ _ => none) (fun _ ih => gcall1 P (mk ih)) k

theorem gbody_ok {P : Program} {w0 : World} {cd : CodeFn} (hcd : ∀ N c, CdOK P w0 N (cd N c) c) {f : FuncId} {args : List AV} {h h' : AH} {n n' : Nat} {x : GE} {e : Tr AV} {d : List AD} {fn : Func}
    (hg : gbody P cd f args h n = some (x, e, d, fn, h', n')) : P.funcs[f]? = some fn ∧ ∃ c, fn.body = some c ∧ ∀ {ρ : Names} {w : World} {vs : List Value}, Rep w0 w ρ h → rvL ρ args = some vs →
      c.wpIn (FW none) 0 P (Out w0 fn.ntmps ρ x e d h') { tmps := vs.toArray ++ Array.replicate (fn.ntmps - vs.toArray.size) undef, defers := [] } w := by
  unfold gbody at hg
  split at hg
  · rename_i fn1 hf
    split at hg
    · rename_i c hc
      cases hb : Nat.ble args.length fn1.ntmps with
      | false => rw [hb] at hg; cases hg
      | true =>
        rw [hb] at hg
        simp only [cond_true] at hg
        split at hg
        · rename_i x1 e1 d1 h1 n1 hgc
          cases hg
          refine ⟨hf, c, hc, fun {ρ w vs} hr hv => ?_⟩
          have hle := Nat.le_of_ble_eq_true hb
          have hl := rvL_length hv
          have e1 : ({ tmps := vs.toArray ++ Array.replicate (fn.ntmps - vs.toArray.size) undef, defers := [] } : Act) = mkD (vs ++ List.replicate (fn.ntmps - vs.length) undef) [] := by simp [mkD]
          rw [e1]
          refine hcd _ _ hgc ⟨hr, ?_, by simp; omega, rfl⟩
          refine gin_ok (us := []) hv ?_ rfl (env_none _ _ _)
          have : List.drop (0 + args.length) (vs ++ List.replicate (fn.ntmps - vs.length) undef) = List.replicate (fn.ntmps - vs.length) undef := by
            rw [Nat.zero_add, ← hl, List.drop_left]
          rw [this]
          simp
        · cases hg
    · cases hg
  · cases hg

theorem gdefs_ok {P : Program} {w0 : World} {cd : CodeFn} (hcd : ∀ N c, CdOK P w0 N (cd N c) c) {fn : Func} {t : Tm} {R : Ending → World → Prop} {h' : AH} {n' : Nat} : ∀ {ds : List AD} {h : AH} {n : Nat} {ρ : Names} {w : World} {dd : List Deferred},
    gdefs P (gbody0 P cd) ds h n = some (h', n') → Rep w0 w ρ h → dvL ρ ds = some dd →
    (∀ ρ' w', Ext ρ ρ' → Rep w0 w' ρ' h' → ∃ v, (results fn t.toArray).run P w' = .ok v w' ∧ R (.returned v) w') → LeavesInM (FW none) 0 P fn t.toArray R dd .returning w
  | [], h, n, ρ, w, dd, hg, hr, hd, k => by
    cases hg; cases hd
    exact k ρ w (Ext.refl _) hr
  | d :: ds, h, n, ρ, w, dd, hg, hr, hd, k => by
    simp only [gdefs] at hg
    cases hen : entersB P d.f with
    | false => rw [hen] at hg; cases hg
    | true =>
      rw [hen] at hg
      simp only [cond_true] at hg
      simp only [dvL] at hd
      split at hd
      · rename_i x xs hx hxs
        cases hd
        split at hg
        · rename_i e1 fn1 h1 n1 hb
          split at hg
          · rename_i l hl
            unfold gbody0 at hb
            split at hb
            · rename_i x0 e0 fn0 h0 n0 hb0
              cases hend : isEnd x0 with
              | false => rw [hend] at hb; cases hb
              | true =>
                rw [hend] at hb
                cases hb
                obtain ⟨hf, c, hc, hw⟩ := gbody_ok hcd hb0
                unfold dv at hx
                split at hx
                · rename_i vc va hvc hva
                  cases hx
                  have hargs := rvL_app hva hvc
                  refine ⟨by simp, .inr ⟨fun h => (by cases h), Fn.func d.f, vc.toArray, d.f, (va ++ vc).toArray, rfl, ?_, fun _ _ => trivial, ?_⟩⟩
                  · have : (va ++ vc).toArray = va.toArray ++ vc.toArray := by simp
                    rw [this]
                    exact enters_run hen _ w
                  · refine CallsDIn.mono (callsDIn_of_wp (R := fun e w' => ∃ v ρ', e = .returned v ∧ Ext ρ ρ' ∧ Rep w0 w' ρ' h1) hf hc trivial ?_) ?_
                    · refine wpIn_mono (hw hr hargs) fun ex a w' ⟨k1, t', dd', k2, ρ', k3, k4⟩ => ?_
                      subst k1 k2
                      obtain ⟨v, g1, g2⟩ := gresults_ok (fn := fn1) k4.rep k4.env hl
                      have hd0 : dd' = [] := by have := k4.dfs; simp [dvL] at this; exact this
                      cases x0 with
                      | normal => exact ⟨hd0, v, g2, v, ρ', rfl, k3, k4.rep⟩
                      | ret => exact ⟨hd0, v, g2, v, ρ', rfl, k3, k4.rep⟩
                      | exit i => cases hend
                      | goto l => cases hend
                    · rintro ex u' w' ⟨rfl, v, ρ', rfl, k3, k4⟩
                      exact gdefs_ok hcd hg k4 (dvL_mono k3 hxs) fun ρ2 w2 x2 r2 => k ρ2 w2 (k3.trans x2) r2
                · cases hx
            · cases hb
          · cases hg
        · cases hg
      · cases hd

theorem gcall_ok {P : Program} {w0 : World} {mk : CallFn → CodeFn} (hmk : ∀ call, CallOK P w0 call → ∀ N c, CdOK P w0 N (mk call N c) c) : ∀ k, CallOK P w0 (gcall P mk k)
  | 0, f, args, h, n, a, h', n', hg => by cases hg
  | k + 1, f, args, h, n, a, h', n', hg => by
    intro ρ w vs R hr hv hR
    have hcd := hmk _ (gcall_ok hmk k)
    have hg : gcall1 P (mk (gcall P mk k)) f args h n = some (a, h', n') := hg
    unfold gcall1 at hg
    split at hg
    · rename_i x e d fn h1 n1 hb
      cases hend : isEnd x with
      | false => rw [hend] at hg; cases hg
      | true =>
        rw [hend] at hg
        simp only [cond_true] at hg
        split at hg
        · rename_i h2 n2 hd
          split at hg
          · rename_i l hl
            cases hg
            obtain ⟨hf, c, hc, hw⟩ := gbody_ok hcd hb
            refine (callsIn_wide (n := 0)).1 (callsIn_of_wp_marks hf hc trivial ?_ rfl)
            refine wpIn_mono (hw hr hv) fun ex a w' ⟨k1, t', dd', k2, ρ', k3, k4⟩ => ?_
            subst k1 k2
            have hlv : LeavesInM (FW none) 0 P fn t'.toArray R dd' .returning w' := gdefs_ok hcd hd k4.rep k4.dfs fun ρ2 w2 x2 r2 => by
              obtain ⟨v, g1, g2⟩ := gresults_ok (fn := fn) r2 (k4.env.mono x2) hl
              exact ⟨v, g2, hR ρ2 w2 v (k3.trans x2) r2 g1⟩
            cases x with
            | normal => exact hlv
            | ret => exact hlv
            | exit i => cases hend
            | goto l => cases hend
          · cases hg
        · cases hg
    · cases hg

theorem rep_none (w : World) (n : Nat) : Rep w w (fun _ => none) (Tr.full n) :=
  ⟨Chg.refl _ _, fun _ _ h => (by cases h), fun i ao h => (by rw [get_full] at h; cases h), fun i j ao ao' L L' _ h => (by rw [get_full] at h; cases h)⟩

noncomputable def isYes : Option (AV × AH × Nat) → Bool
  | some (.bool b, _, _) => b
  | _ => false

/-- A closed call that says yes. -/
theorem gclosed {P : Program} {call : CallFn} {D : Nat} {f : FuncId} (hcall : ∀ w0, CallOK P w0 call) (h : isYes (call f [] (Tr.full D) 1) = true) (w : World) :
    Calls P f #[] w fun e w' => e = .returned (.bool true) ∧ Chg w w' [] := by
  cases hg : call f [] (Tr.full D) 1 with
  | none => rw [hg] at h; cases h
  | some r =>
    obtain ⟨a, h', n'⟩ := r
    rw [hg] at h
    cases a with
    | bool b =>
      cases (show b = true from h)
      exact hcall w f [] _ _ _ _ _ hg _ w [] _ (rep_none w D) rfl fun ρ' w' v _ hr hv => by
        cases rv_bool hv
        exact ⟨rfl, hr.chg⟩
    | _ => cases h

end Go.Gx

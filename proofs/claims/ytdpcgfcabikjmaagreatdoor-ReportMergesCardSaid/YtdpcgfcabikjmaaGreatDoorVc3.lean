import Derived.Test.YtdpcgfcabikjmaaGreatDoorVc2
import Derived.Shelf.Abstract
namespace Go.Vc

/-! Loads: the cells by their kinds. -/
def cellsAt (w : World) (a : Addr) : Nat → List Value → Prop
  | _, [] => True
  | i, v :: vs => w.cell? (a.add i) = some v ∧ cellsAt w a (i + 1) vs

def ldK (P : Program) (ty : TypeId) (x : Value) (w : World) (K : Value → List (World → Prop) → Prop) : Prop :=
  match x with
  | .pointer p => onSome p fun a => match tkOf P ty with
    | .s k => cond (P.underlying ty).isSome (exS k fun v => w.cell? a = some v ∧ K v [fun w' => w'.cell? a = some v]) False
    | .agg ks => cond (match szOf P ty with | some n => Nat.beq n ks.length | none => false)
        (exL ks fun vs => cellsAt w a 0 vs ∧ K (.agg vs.toArray) [fun w' => cellsAt w' a 0 vs]) False
  | _ => False

theorem cells_run {P : Program} {w : World} {a : Addr} : ∀ (vs : List Value) (i : Nat) (acc : Array Value), cellsAt w a i vs →
    (loadCellsFrom a i vs.length acc).run P w = .ok (acc ++ vs.toArray) w
  | [], i, acc, _ => by simp [loadCellsFrom]
  | v :: vs, i, acc, h => by
    obtain ⟨h1, h2⟩ := h
    have := cells_run (P := P) vs (i + 1) (acc.push v) h2
    simp only [List.length_cons, loadCellsFrom, Sem.run_bind, run_load, h1, Result.andThen_ok, this]
    simp

theorem ldK_run {P : Program} {ty : TypeId} {x : Value} {w : World} {K : Value → List (World → Prop) → Prop} (h : ldK P ty x w K) :
    ∃ v T, holds T w ∧ (∀ w', holds T w' → (Instr.loadAt ty x).run P w' = .ok v w') ∧ K v T := by
  unfold ldK at h
  split at h
  · obtain ⟨a, rfl, h⟩ := onSome_ex h
    split at h
    · rename_i k hk
      obtain ⟨hi, h⟩ := condF h
      obtain ⟨v, h1, h2⟩ := exS_ex h
      refine ⟨v, _, ?_, ?_, h2⟩
      · intro f hf; simp at hf; subst hf; exact h1
      · intro w' hw'
        have h3 : w'.cell? a = some v := hw' (fun w' => w'.cell? a = some v) (List.mem_cons_self ..)
        simp [Instr.loadAt, Instr.sureAddr, loadVar, noagg_run hk hi, h3]
    · rename_i ks hk
      obtain ⟨hs, h⟩ := condF h
      obtain ⟨vs, hl, h1, h2⟩ := exL_ex h
      refine ⟨_, _, ?_, ?_, h2⟩
      · intro f hf; simp at hf; subst hf; exact h1
      · intro w' hw'
        have h3 : cellsAt w' a 0 vs := hw' (fun w' => cellsAt w' a 0 vs) (List.mem_cons_self ..)
        have hn : szOf P ty = some vs.length := by
          cases hz : szOf P ty with
          | none => simp [hz] at hs
          | some n => simp only [hz] at hs; rw [Nat.eq_of_beq_eq_true hs, hl]
        simp only [Instr.loadAt, Instr.sureAddr, loadVar, Sem.run_bind, Sem.run_pure, Result.andThen_ok, agg_run hk, if_true, sz_run hn, loadCells, cells_run vs 0 _ h3]
        simp
  · exact h.elim

/-- A computation by its run. -/
def rnS (P : Program) {α : Type} (s : Sem α) (w : World) (K : α → World → Prop) : Prop := ∃ a w', s.run P w = .ok a w' ∧ K a w'

theorem rnS_mk {P : Program} {α : Type} {s : Sem α} {w w' : World} {a : α} {K : α → World → Prop} (h : s.run P w = .ok a w') (hK : K a w') : rnS P s w K := ⟨a, w', h, hK⟩

def entersB (P : Program) (gf : FuncId) : Bool := match P.funcs[gf]? with
  | none => false
  | some fn => match fn.body with
    | none => false
    | some _ => !(fn.name == "runtime.NumGoroutine")

theorem enters_run {P : Program} {gf : FuncId} (h : entersB P gf = true) (args : Array Value) (w : World) : (callFunc gf args).run P w = .ok (.enter gf args) w := by
  unfold entersB at h
  cases hf : P.funcs[gf]? with
  | none => rw [hf] at h; cases h
  | some fn =>
    rw [hf] at h
    cases hb : fn.body with
    | none => simp [hb] at h
    | some c =>
      simp only [hb] at h
      exact Go.Proofs.enters_of hf (by simpa using h) hb args w

/-- A call of a function that a slot holds. -/
def callF (P : Program) (v : Value) (args : Array Value) (w : World) (R : Ending → World → Prop) : Prop :=
  match v with
  | .func (.yield l) x y => cond (x.isEmpty && y.isEmpty) (YieldC P l args w fun b w' => R (.returned (.bool b)) w') False
  | .func (.func g) x y => cond (entersB P g) (Calls P g (x ++ args ++ y) w R) False
  | _ => False

/-- An operation: what it must meet, what comes out. -/
def vcOp (P : Program) (o : Oper) (t : Tm) (w : World) (K : Value → World → Prop) : Prop :=
  match spOp P o t with
  | some F => F fun v => K v w
  | none =>
    match o.op with
    | .load ty x => ldK P ty (ev t x) w fun v _ => K v w
    | .convert src dst x => rnS P (convert src dst (ev t x)) w fun v w' => exT (tkOf P o.type) fun u => v = u ∧ K u w'
    | .makeSlice ty l c => rnS P (Instr.makeSlice ty (ev t l) (ev t c)) w fun v w' => exT (tkOf P o.type) fun u => v = u ∧ K u w'
    | .call { callee := .builtin .append, args := args, argTypes := tys } => rnS P (Builtin.append_ tys o.type (args.map (ev t))) w fun v w' => exT (tkOf P o.type) fun u => v = u ∧ K u w'
    | .call { callee := .builtin .copy, args := args, argTypes := tys } => rnS P (Builtin.copy_ tys o.type (args.map (ev t))) w K
    | .call { callee := .value (.tmp f), args := args, argTypes := _ } => callF P (gt t f) (args.map (ev t)) w fun e w' => exK (kdOf P o.type) fun v => e = .returned v ∧ K v w'
    | _ => okS P (execOp (ev t) o) w (nextK P o.type K)

theorem vcOp_okS {P : Program} {o : Oper} {t : Tm} {w : World} {K : Value → World → Prop} (h : vcOp P o t w K) : ∃ n w', (execOp (ev t) o).run P w = .ok n w' ∧ nextK P o.type K n w' := by
  unfold vcOp at h
  split at h
  · rename_i F hF
    obtain ⟨v, hr, hk⟩ := spOp_run hF h
    exact ⟨_, w, hr w, hk⟩
  · split at h
    · rename_i ty x hx
      obtain ⟨v, T, h1, h2, h3⟩ := ldK_run h
      exact ⟨.value v, w, by simp [execOp, hx, h2 w h1], h3⟩
    · rename_i src dst x hx
      obtain ⟨v, w', hr, h⟩ := h
      obtain ⟨u, rfl, hk⟩ := exT_ex h
      exact ⟨.value v, w', by simp [execOp, hx, hr], hk⟩
    · rename_i ty l c hx
      obtain ⟨v, w', hr, h⟩ := h
      obtain ⟨u, rfl, hk⟩ := exT_ex h
      exact ⟨.value v, w', by simp [execOp, hx, hr], hk⟩
    · rename_i args tys hx
      obtain ⟨v, w', hr, h⟩ := h
      obtain ⟨u, rfl, hk⟩ := exT_ex h
      exact ⟨.value v, w', by simp [execOp, hx, resolve, invoke, builtin, hr], hk⟩
    · rename_i args tys hx
      obtain ⟨v, w', hr, h⟩ := h
      exact ⟨.value v, w', by simp [execOp, hx, resolve, invoke, builtin, hr], h⟩
    · rename_i f args tys hx
      have hev : ev t (.tmp f) = gt t f := rfl
      unfold callF at h
      split at h
      · rename_i l x y hy
        obtain ⟨he, h⟩ := condF h
        obtain ⟨hx0, hy0⟩ : x = #[] ∧ y = #[] := by simpa [Array.isEmpty_iff] using he
        subst hx0 hy0
        obtain ⟨fn, tmps, asg, body, hrun, hR⟩ := h
        refine ⟨.round l fn tmps asg body, w, ?_, RoundIn.mono hR fun e w' he => ?_⟩
        · simp [execOp, hx, resolve, hev, hy, invoke, callFunc]
          simp [Deferred.ofValue, hrun]
        · obtain ⟨b, rfl, hk⟩ := he
          obtain ⟨v, hv, hk⟩ := exK_ex hk
          exact ⟨v, hv, hk⟩
      · rename_i g x y hy
        obtain ⟨he, h⟩ := condF h
        refine ⟨.enter g (x ++ args.map (ev t) ++ y), w, ?_, h⟩
        have hr := enters_run he (x ++ args.map (ev t) ++ y) w
        simp [execOp, hx, resolve, hev, hy, invoke]
        simp [Deferred.ofValue]
        simpa using hr
      · exact h.elim
    · exact okS_run _ _ _ h

theorem vcOp_wp {P : Program} {ro : Option Nat} {o : Oper} {t : Tm} {d : List Deferred} {w : World} {K : Value → World → Prop} {N : Act → World → Prop} {Q : Exit → Act → World → Prop}
    (hd : noDefer o.op = true) (hN : ∀ v w', K v w' → N (mkD (pt t o.dst v) d) w') (h : vcOp P o t w K) : o.wpIn (FW ro) 0 P (mkD t d) w N Q := by
  obtain ⟨n, w', hr, hk⟩ := vcOp_okS h
  refine ⟨fun _ _ => trivial, ?_⟩
  rw [Oper.semAt_eq _ _ _ (noDefer_ne hd), mkD_eval, hr]
  exact uponIn_of_next (fun v w' hv => by rw [mkD_put]; exact hN _ _ hv) hk

/-- An operation that only reads. -/
def rdOp (P : Program) (o : Oper) (t : Tm) (w : World) (K : Value → List (World → Prop) → Prop) : Prop :=
  match spOp P o t with
  | some F => F fun v => K v []
  | none =>
    match o.op with
    | .load ty x => ldK P ty (ev t x) w K
    | _ => rdS P (execOp (ev t) o) w [] fun n T => match n with
      | .value v => K v T
      | _ => False

theorem rdOp_run {P : Program} {o : Oper} {t : Tm} {w : World} {K : Value → List (World → Prop) → Prop} (h : rdOp P o t w K) :
    ∃ v T, K v T ∧ holds T w ∧ ∀ w', holds T w' → (execOp (ev t) o).run P w' = .ok (.value v) w' := by
  unfold rdOp at h
  split at h
  · rename_i F hF
    obtain ⟨v, hr, hk⟩ := spOp_run hF h
    exact ⟨v, [], hk, fun f hf => (by cases hf), fun w' _ => hr w'⟩
  · split at h
    · rename_i ty x hx
      obtain ⟨v, T, h1, h2, h3⟩ := ldK_run h
      exact ⟨v, T, h3, h1, fun w' hw' => by simp [execOp, hx, h2 w' hw']⟩
    · obtain ⟨n, T, hk, hw, hr⟩ := rdS_run _ _ _ _ h
      cases n <;> simp only at hk
      exact ⟨_, T, hk, hw (fun f hf => by cases hf), fun w' hw' => (hr w' hw').2⟩

/-- A guard: in each of the two ways its slot holds what it was found to be. -/
def gd (ops : Array Oper) (t : Tm) (o : Oper) (A B : Tm → Prop) : Prop :=
  match o.guard with
  | none => A t
  | some (j, pol) => match (ops[j]?).bind (·.dst) with
    | none => B t
    | some d => match gt t d with
      | .bool b => cond pol (cond b (A (st t d (.bool true))) (B (st t d (.bool false)))) (cond b (B (st t d (.bool true))) (A (st t d (.bool false))))
      | _ => B t

theorem st_gt (t : Tm) : ∀ d v, gt t d = v → v ≠ undef → st t d v = t := by
  induction t with
  | nil => intro d v _ _; rfl
  | cons x t ih =>
    intro d v h hv
    cases d with
    | zero => simp only [gt] at h; subst h; rfl
    | succ d => simp only [gt] at h; simp only [st, ih d v h hv]

theorem yielded_mkA (ops : Array Oper) (t : Tm) (dd : List Deferred) (j : Nat) : yielded ops (mkD t dd).tmps j =
    match (ops[j]?).bind (·.dst) with
    | none => none
    | some d => match gt t d with
      | .bool b => some b
      | _ => none := by
  unfold yielded
  cases (ops[j]?).bind (·.dst) with
  | none => rfl
  | some d =>
    have h0 : (mkD t dd).tmps[d]? = t[d]? := by simp [mkD]
    have h1 : gt t d = (t[d]?).getD undef := by rw [gt_eq]; simp [Array.getD]; split <;> simp_all
    simp only [Option.bind_some, h0, h1]
    cases t[d]? with
    | none => rfl
    | some v => cases v <;> rfl

theorem gd_spec {dd : List Deferred} {ops : Array Oper} {t : Tm} {o : Oper} {A B : Tm → Prop} (h : gd ops t o A B) :
    (Region.wanted o (yielded ops (mkD t dd).tmps) = true ∧ A t) ∨ (Region.wanted o (yielded ops (mkD t dd).tmps) = false ∧ B t) := by
  unfold gd at h
  cases hg : o.guard with
  | none => rw [hg] at h; exact .inl ⟨by simp [Region.wanted, hg], h⟩
  | some gp =>
    obtain ⟨j, pol⟩ := gp
    simp only [hg] at h
    have hy := yielded_mkA ops t dd j
    have hw : Region.wanted o (yielded ops (mkD t dd).tmps) = (yielded ops (mkD t dd).tmps j == some pol) := by simp [Region.wanted, hg]
    rw [hw, hy]
    cases hd : (ops[j]?).bind (·.dst) with
    | none => rw [hd] at h; exact .inr ⟨rfl, h⟩
    | some d =>
      simp only [hd] at h ⊢
      cases hx : gt t d with
      | bool b =>
        have hs := st_gt t d (.bool b) hx (by simp [undef])
        rw [hx] at h
        cases pol <;> cases b <;> simp only [cond, hs] at h
        · exact .inl ⟨rfl, h⟩
        · exact .inr ⟨rfl, h⟩
        · exact .inr ⟨rfl, h⟩
        · exact .inl ⟨rfl, h⟩
      | _ => rw [hx] at h; exact .inr ⟨rfl, h⟩

/-! Regions in the text's order. -/
def vcOps (P : Program) (ops : Array Oper) : List Oper → Tm → World → (Tm → World → Prop) → Prop
  | [], t, w, K => K t w
  | o :: rest, t, w, K => gd ops t o (fun t => vcOp P o t w fun v w' => vcOps P ops rest (pt t o.dst v) w' K) (fun t => vcOps P ops rest (pt t o.dst undef) w K)

/-- Two frames that differ at most in these slots. -/
def agr (ds : List Nat) (t t' : Tm) : Prop := t'.length = t.length ∧ ∀ i, i ∉ ds → gt t' i = gt t i

theorem agr_refl (ds : List Nat) (t : Tm) : agr ds t t := ⟨rfl, fun _ _ => rfl⟩

theorem agr_trans {ds es : List Nat} {t t' t'' : Tm} (h : agr ds t t') (h' : agr es t' t'') : agr (ds ++ es) t t'' :=
  ⟨h'.1.trans h.1, fun i hi => (h'.2 i fun h => hi (List.mem_append_right _ h)).trans (h.2 i fun h => hi (List.mem_append_left _ h))⟩

theorem agr_mono {ds es : List Nat} {t t' : Tm} (hs : ∀ d ∈ ds, d ∈ es) (h : agr ds t t') : agr es t t' := ⟨h.1, fun i hi => h.2 i fun h => hi (hs i h)⟩

theorem agr_pt {ds : List Nat} {t0 t : Tm} {dst : Option Nat} {v : Value} (h : agr ds t0 t) (hd : ∀ d, dst = some d → d ∈ ds) : agr ds t0 (pt t dst v) := by
  cases dst with
  | none => exact h
  | some d => exact ⟨(length_st t d v).trans h.1, fun i hi => (gt_st_ne t d i v fun e => hi (e ▸ hd d rfl)).trans (h.2 i hi)⟩

def noDefers (ops : List Oper) : Bool := ops.all fun o => noDefer o.op

theorem vcOps_wp {P : Program} {ro : Option Nat} {ops : Array Oper} {d : List Deferred} {Q : Exit → Act → World → Prop} {ds : List Nat} {t0 : Tm} : ∀ (l : List Oper) (t : Tm) (w : World) (K : Tm → World → Prop),
    noDefers l = true → (∀ t w, agr ds t0 t → K t w → Q .normal (mkD t d) w) → (∀ o ∈ l, ∀ d, o.dst = some d → d ∈ ds) → agr ds t0 t → vcOps P ops l t w K → wpListIn (FW ro) 0 P ops Q l (mkD t d) w
  | [], t, w, K, _, hK, _, ha, h => hK _ _ ha h
  | o :: rest, t, w, K, hn, hK, hd, ha, h => by
    have hd0 := hd o (List.mem_cons_self ..)
    have hd1 := fun o' ho' => hd o' (List.mem_cons_of_mem _ ho')
    simp only [noDefers, List.all_cons, Bool.and_eq_true] at hn
    unfold wpListIn
    rcases gd_spec h with ⟨hw, h⟩ | ⟨hw, h⟩
    · rw [if_pos hw]
      exact vcOp_wp hn.1 (fun v w' h' => vcOps_wp rest _ _ K hn.2 hK hd1 (agr_pt ha hd0) h') h
    · rw [if_neg (by simpa using hw), mkD_put]
      exact ⟨fun _ _ => trivial, vcOps_wp rest _ _ K hn.2 hK hd1 (agr_pt ha hd0) h⟩

end Go.Vc

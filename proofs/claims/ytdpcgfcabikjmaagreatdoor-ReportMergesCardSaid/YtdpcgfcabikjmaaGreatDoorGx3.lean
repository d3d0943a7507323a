import Derived.Test.YtdpcgfcabikjmaaGreatDoorGx2
import Derived.LaidEql
namespace Go.Gx
open Go Go.Vc

noncomputable def PureOK (P : Program) (ρ : Names) (s : Sem Value) (a : AV) : Prop := ∃ v, rv ρ a = some v ∧ ∀ w, s.run P w = .ok v w

noncomputable def isC : Operand → Bool
  | .const _ => true
  | _ => false

noncomputable def gnil (P : Program) (ty : TypeId) (cn : Bool) (a b : AV) : Option Bool := match P.underlying ty with
  | some (.pointer e) => match a, b with
    | .nilp, .nilp => some true
    | .nilp, .ptr _ _ => some false
    | .ptr _ _, .nilp => some false
    | .ptr i o, .ptr j p => cond (Nat.beq i j && Nat.beq o p && (P.info? e).isSome) (some true) none
    | _, _ => none
  | some (.slice _) => match a, b with
    | .nils, .nils => some true
    | .nils, .sli _ _ _ _ => some false
    | .sli _ _ _ _, .nils => some false
    | _, _ => none
  | some (.interface _) => match a, b with
    | .nili, .nili => cond cn (some true) none
    | .nili, .iface _ _ => some false
    | .iface _ _, .nili => some false
    | _, _ => none
  | some .bool => match a, b with
    | .bool x, .bool y => some (x == y)
    | _, _ => none
  | _ => match a, b with
    | .agg xs, .agg ys => cond (P.eqGuardType P.depth ty) none (geq P 12 ty (.agg xs) (.agg ys))
    | _, _ => none

theorem eq_of_equal {P : Program} {ty : TypeId} {x y : Operand} {vx vy : Value} {b neg : Bool} {w : World} (h : (Op.equal ty vx vy).run P w = .ok b w)
    (hb : (binOp (cond neg .neq .eql) ty vx vy) = (do let r ← Op.equal ty vx vy; pure (.bool (cond neg (!r) r))))
    (hg : (eqGuard (cond neg .neq .eql) ty x y vx vy).run P w = .ok () w) :
    (do eqGuard (cond neg .neq .eql) ty x y vx vy; binOp (cond neg .neq .eql) ty vx vy : Sem Value).run P w = .ok (.bool (cond neg (!b) b)) w := by
  have h3 := eql_run (neg := neg) h hb
  simp only [Sem.run_bind, hg, Result.andThen_ok, h3]

theorem gnil_ok {P : Program} {ρ : Names} {ty : TypeId} {x y : Operand} {a b : AV} {vx vy : Value} {r : Bool} (h : gnil P ty (isC x || isC y) a b = some r) (ha : rv ρ a = some vx) (hb : rv ρ b = some vy) (neg : Bool) (w : World) :
    (do eqGuard (cond neg .neq .eql) ty x y vx vy; binOp (cond neg .neq .eql) ty vx vy : Sem Value).run P w = .ok (.bool (cond neg (!r) r)) w := by
  unfold gnil at h
  split at h
  · rename_i e hu
    split at h
    · cases h; cases ha; cases hb
      exact eq_of_equal (eq_deep fun d => by simp [Op.equalIn, und_run hu]) (by cases neg <;> rfl) (by cases neg <;> simp [eqGuard])
    · cases h; cases ha
      obtain ⟨L, _, rfl⟩ := rv_ptr hb
      exact eq_of_equal (eq_deep fun d => by simp [Op.equalIn, und_run hu]) (by cases neg <;> rfl) (by cases neg <;> simp [eqGuard])
    · cases h; cases hb
      obtain ⟨L, _, rfl⟩ := rv_ptr ha
      exact eq_of_equal (eq_deep fun d => by simp [Op.equalIn, und_run hu]) (by cases neg <;> rfl) (by cases neg <;> simp [eqGuard])
    · rename_i i o j p
      cases hc : (Nat.beq i j && Nat.beq o p && (P.info? e).isSome) with
      | false => rw [hc] at h; cases h
      | true =>
        rw [hc] at h
        cases h
        simp only [Bool.and_eq_true] at hc
        obtain ⟨⟨q1, q2⟩, q3⟩ := hc
        obtain rfl := beq_iff.1 q1
        obtain rfl := beq_iff.1 q2
        obtain ⟨inf, hte⟩ := Option.isSome_iff_exists.1 q3
        obtain ⟨L, hL, rfl⟩ := rv_ptr ha
        obtain ⟨L', hL', rfl⟩ := rv_ptr hb
        obtain rfl : L = L' := Option.some.inj (hL.symm.trans hL')
        exact eq_of_equal (eq_deep fun d => by simp [Op.equalIn, und_run hu, sizeOf, typeInfo, hte, run_sameAddr_same]) (by cases neg <;> rfl) (by cases neg <;> simp [eqGuard])
    · cases h
  · rename_i e hu
    split at h
    · cases h; cases ha; cases hb
      exact eq_of_equal (eq_deep fun d => by simp [Op.equalIn, und_run hu]) (by cases neg <;> rfl) (by cases neg <;> simp [eqGuard])
    · cases h; cases ha
      obtain ⟨L, _, _, _, rfl⟩ := rv_sli hb
      exact eq_of_equal (eq_deep fun d => by simp [Op.equalIn, und_run hu]) (by cases neg <;> rfl) (by cases neg <;> simp [eqGuard])
    · cases h; cases hb
      obtain ⟨L, _, _, _, rfl⟩ := rv_sli ha
      exact eq_of_equal (eq_deep fun d => by simp [Op.equalIn, und_run hu]) (by cases neg <;> rfl) (by cases neg <;> simp [eqGuard])
    · cases h
  · rename_i ms hu
    split at h
    · cases ha; cases hb
      cases hc : (isC x || isC y) with
      | false => rw [hc] at h; cases h
      | true =>
        rw [hc] at h
        cases h
        refine eq_of_equal (eq_deep fun d => by simp [Op.equalIn, und_run hu]) (by cases neg <;> rfl) ?_
        cases x <;> cases y <;> first | (cases hc; done) | (cases neg <;> simp [eqGuard])
    · cases h; cases ha
      simp only [rv, Option.map_eq_some_iff] at hb
      obtain ⟨u, _, rfl⟩ := hb
      exact eq_of_equal (eq_deep fun d => by simp [Op.equalIn, und_run hu]) (by cases neg <;> rfl) (by cases neg <;> simp [eqGuard])
    · cases h; cases hb
      simp only [rv, Option.map_eq_some_iff] at ha
      obtain ⟨u, _, rfl⟩ := ha
      exact eq_of_equal (eq_deep fun d => by simp [Op.equalIn, und_run hu]) (by cases neg <;> rfl) (by cases neg <;> simp [eqGuard])
    · cases h
  · rename_i hu
    split at h
    · cases h
      cases rv_bool ha; cases rv_bool hb
      exact eq_of_equal (eq_deep fun d => by simp [Op.equalIn, und_run hu]) (by cases neg <;> rfl) (by cases neg <;> simp [eqGuard])
    · cases h
  · split at h
    · rename_i xs ys
      cases hg : P.eqGuardType P.depth ty with
      | true => rw [hg] at h; cases h
      | false =>
        rw [hg] at h
        simp only [cond_false] at h
        obtain ⟨vxs, hxs, rfl⟩ := rv_agg ha
        obtain ⟨vys, hys, rfl⟩ := rv_agg hb
        have he := geq_eqC 12 ty _ _ _ _ r h ha hb
        have hF : aggK P ty neg (.agg vxs.toArray) (.agg vys.toArray) = some fun K => K (.bool (cond neg (!r) r)) := by
          unfold aggK
          simp only [hg, cond_false, he]
        obtain ⟨v, hr, rfl⟩ := agg_eq_run (x := x) (y := y) hF (K := fun v => v = .bool (cond neg (!r) r)) rfl
        exact hr w
    · cases h

noncomputable def gbin (P : Program) (op : BinOp) (ty : TypeId) (x y : Operand) (a b : AV) : Option AV := match a with
  | .int k n => match b with
    | .int k' m => match op with
      | .shl => gshf .shl k n m
      | .shr => gshf .shr k n m
      | op => cond (eqK k k') (gint op k n m) none
    | _ => none
  | .str l => match b with
    | .str m => gstr op l m
    | _ => none
  | a => match op with
    | .eql => (gnil P ty (isC x || isC y) a b).map .bool
    | .neq => (gnil P ty (isC x || isC y) a b).map fun b => .bool (not b)
    | _ => none

theorem gshf_ok {op : BinOp} {k k' : IntKind} {n m : Int} {r : AV} (h : gshf op k n m = some r) (P : Program) (ρ : Names) : ∃ v, rv ρ r = some v ∧ ∀ w, (Op.shift op k n k' m).run P w = .ok v w := by
  unfold gshf at h
  cases hm : ile 0 m with
  | false => rw [hm] at h; cases h
  | true =>
    rw [hm] at h
    have hm' : (0 : Int) ≤ m := by rw [ile_eq] at hm; simpa using hm
    simp only [cond_true] at h
    split at h
    · cases h
      exact ⟨_, by rw [frc_eq]; rfl, fun w => by simp [Op.shift, Int.not_lt.2 hm', gwrap_eq]⟩
    · cases h
      exact ⟨_, by rw [frc_eq]; rfl, fun w => by simp [Op.shift, Int.not_lt.2 hm']⟩
    · cases h

theorem gint_ok {op : BinOp} {k : IntKind} {n m : Int} {r : AV} (h : gint op k n m = some r) (P : Program) (ρ : Names) (ty : TypeId) : ∃ v, rv ρ r = some v ∧ ∀ w, (binOp op ty (.int k n) (.int k m)).run P w = .ok v w := by
  have hlt : ∀ a b : Int, (!ile b a) = decide (a < b) := fun a b => by rw [ile_eq, Bool.eq_iff_iff]; simp
  cases op <;> simp only [gint] at h
  case add => cases h; refine ⟨_, by rw [frc_eq]; rfl, fun w => ?_⟩; simp [binOp, Op.intArith, gwrap_eq]
  case sub => cases h; refine ⟨_, by rw [frc_eq]; rfl, fun w => ?_⟩; simp [binOp, Op.intArith, gwrap_eq]; rfl
  case mul => cases h; refine ⟨_, by rw [frc_eq]; rfl, fun w => ?_⟩; simp [binOp, Op.intArith, gwrap_eq]
  case quo =>
    cases hb : ieq m 0 with
    | true => rw [hb] at h; cases h
    | false =>
      rw [hb] at h
      cases h
      have hz : m ≠ 0 := by rw [ieq_eq] at hb; simpa using hb
      refine ⟨_, by rw [frc_eq]; rfl, fun w => ?_⟩
      simp [binOp, Op.intDiv, hz, gwrap_eq]
  case rem =>
    cases hb : ieq m 0 with
    | true => rw [hb] at h; cases h
    | false =>
      rw [hb] at h
      cases h
      have hz : m ≠ 0 := by rw [ieq_eq] at hb; simpa using hb
      refine ⟨_, by rw [frc_eq]; rfl, fun w => ?_⟩
      simp [binOp, Op.intDiv, hz]
  case and => cases h; refine ⟨_, by rw [frc_eq]; rfl, fun w => ?_⟩; simp only [binOp, gwrap_eq]; simp [Op.intBits]
  case or => cases h; refine ⟨_, by rw [frc_eq]; rfl, fun w => ?_⟩; simp only [binOp, gwrap_eq]; simp [Op.intBits]
  case xor => cases h; refine ⟨_, by rw [frc_eq]; rfl, fun w => ?_⟩; simp only [binOp, gwrap_eq]; simp [Op.intBits]
  case andNot => cases h; refine ⟨_, by rw [frc_eq]; rfl, fun w => ?_⟩; simp only [binOp, gwrap_eq]; simp [Op.intBits]
  case shl => cases h
  case shr => cases h
  case eql => cases h; refine ⟨_, rfl, fun w => ?_⟩; simp [binOp, Op.intCmp, ieq_eq]
  case neq => cases h; refine ⟨_, rfl, fun w => ?_⟩; simp [binOp, Op.intCmp, ieq_eq, bne]
  case lss => cases h; refine ⟨_, rfl, fun w => ?_⟩; rw [hlt]; simp [binOp, Op.intCmp]
  case leq => cases h; refine ⟨_, rfl, fun w => ?_⟩; rw [ile_eq]; simp [binOp, Op.intCmp]
  case gtr => cases h; refine ⟨_, rfl, fun w => ?_⟩; rw [hlt]; simp [binOp, Op.intCmp]
  case geq => cases h; refine ⟨_, rfl, fun w => ?_⟩; rw [ile_eq]; simp [binOp, Op.intCmp]

theorem gstr_ok {op : BinOp} {a b : List UInt8} {r : AV} (h : gstr op a b = some r) (P : Program) (ρ : Names) (ty : TypeId) : ∃ v, rv ρ r = some v ∧ ∀ w, (binOp op ty (.string ⟨a.toArray⟩) (.string ⟨b.toArray⟩)).run P w = .ok v w := by
  have e1 : (⟨a.toArray⟩ : ByteArray).size = a.length := by simp [ByteArray.size]
  have e2 : (⟨b.toArray⟩ : ByteArray).size = b.length := by simp [ByteArray.size]
  cases op <;> simp only [gstr] at h
  case add =>
    cases hb : Nat.ble (a.length + b.length) 9223372036854775807 with
    | false => rw [hb] at h; cases h
    | true =>
      rw [hb] at h
      cases h
      have hl := Nat.le_of_ble_eq_true hb
      refine ⟨.string (⟨a.toArray⟩ ++ ⟨b.toArray⟩), ?_, fun w => ?_⟩
      · simp only [rv]
        congr 2
      · have hm : IntKind.i64.max = 9223372036854775807 := rfl
        have hs : ¬ ((((⟨a.toArray⟩ : ByteArray).size + (⟨b.toArray⟩ : ByteArray).size : Nat) : Int) > IntKind.i64.max) := by
          rw [hm, e1, e2]
          omega
        simp only [binOp, Op.stringOp, if_neg hs, Sem.run_pure]
  case eql => cases h; exact ⟨_, rfl, fun w => by simp [binOp, Op.stringOp, lbeq_eq, ByteArray.toList_mk]⟩
  case neq => cases h; exact ⟨_, rfl, fun w => by simp [binOp, Op.stringOp, lbeq_eq, ByteArray.toList_mk]⟩
  case lss => cases h; exact ⟨_, rfl, fun w => by simp [binOp, Op.stringOp, ByteArray.toList_mk]⟩
  case leq => cases h; exact ⟨_, rfl, fun w => by simp [binOp, Op.stringOp, lbeq_eq, ByteArray.toList_mk]⟩
  case gtr => cases h; exact ⟨_, rfl, fun w => by simp [binOp, Op.stringOp, lbeq_eq, ByteArray.toList_mk]⟩
  case geq => cases h; exact ⟨_, rfl, fun w => by simp [binOp, Op.stringOp, ByteArray.toList_mk]⟩
  all_goals cases h

theorem guard_free {P : Program} {op : BinOp} {ty : TypeId} {x y : Operand} {k k' : IntKind} {n m : Int} {w : World} : (eqGuard op ty x y (.int k n) (.int k' m)).run P w = .ok () w := by
  cases op <;> simp [eqGuard]

theorem guard_freeS {P : Program} {op : BinOp} {ty : TypeId} {x y : Operand} {a b : ByteArray} {w : World} : (eqGuard op ty x y (.string a) (.string b)).run P w = .ok () w := by
  cases op <;> simp [eqGuard]

theorem gbin_ok {P : Program} {ρ : Names} {op : BinOp} {ty : TypeId} {x y : Operand} {a b r : AV} {vx vy : Value} (h : gbin P op ty x y a b = some r) (ha : rv ρ a = some vx) (hb : rv ρ b = some vy) :
    PureOK P ρ (do eqGuard op ty x y vx vy; binOp op ty vx vy) r := by
  unfold gbin at h
  split at h
  · rename_i k n
    cases rv_int ha
    split at h
    · rename_i k' m
      cases rv_int hb
      have key : ∀ {s : Sem Value}, binOp op ty (.int k n) (.int k' m) = s → (∃ v, rv ρ r = some v ∧ ∀ w, s.run P w = .ok v w) → PureOK P ρ (do eqGuard op ty x y (.int k n) (.int k' m); binOp op ty (.int k n) (.int k' m)) r := fun {s} he hs => by
        obtain ⟨v, h1, h2⟩ := hs
        exact ⟨v, h1, fun w => by simp only [Sem.run_bind, guard_free, Result.andThen_ok, he, h2]⟩
      split at h
      · exact key rfl (gshf_ok (k' := k') h P ρ)
      · exact key rfl (gshf_ok (k' := k') h P ρ)
      · cases he : eqK k k' with
        | false => rw [he] at h; cases h
        | true =>
          have := eqK_spec he
          subst this
          rw [he] at h
          exact key rfl (gint_ok h P ρ ty)
    · cases h
  · rename_i l
    cases rv_str ha
    split at h
    · rename_i m
      cases rv_str hb
      obtain ⟨v, h1, h2⟩ := gstr_ok h P ρ ty
      exact ⟨v, h1, fun w => by simp only [Sem.run_bind, guard_freeS, Result.andThen_ok, h2]⟩
    · cases h
  · split at h
    · simp only [Option.map_eq_some_iff] at h
      obtain ⟨c, hc, rfl⟩ := h
      exact ⟨_, rfl, fun w => gnil_ok hc ha hb false w⟩
    · simp only [Option.map_eq_some_iff] at h
      obtain ⟨c, hc, rfl⟩ := h
      exact ⟨_, rfl, fun w => gnil_ok hc ha hb true w⟩
    · cases h

/-! Places. -/
noncomputable def goff (P : Program) (ty : TypeId) (f : Nat) : Option Nat := match P.underlying ty with
  | some (.struct fs) => match fs[f]? with
    | some fd => match szOf P fd.type with
      | some (_ + 1) => some fd.offset
      | _ => none
    | none => none
  | _ => none

theorem goff_ok {P : Program} {ty : TypeId} {f off b o : Nat} (h : goff P ty f = some off) (w : World) :
    (Instr.fieldAt ty (.pointer (some ⟨b, o, none⟩)) f).run P w = .ok (.pointer (some ⟨b, o + off, none⟩)) w := by
  unfold goff at h
  split at h
  · rename_i fs hu
    split at h
    · rename_i fd hf
      split at h
      · rename_i k hs
        cases h
        simp [Instr.fieldAt, und_run hu, hf, Instr.sureAddr, fieldPlace, sz_run hs, addA2]
      · cases h
    · cases h
  · cases h

noncomputable def gfld (P : Program) (ty : TypeId) (a : AV) (f : Nat) : Option AV := match P.underlying ty, a with
  | some (.struct fs), .agg cs => match fs[f]? with
    | some fd => partA P fd.type cs fd.offset
    | none => none
  | _, _ => none

theorem gfld_ok {P : Program} {ρ : Names} {ty : TypeId} {a r : AV} {f : Nat} {v : Value} (h : gfld P ty a f = some r) (ha : rv ρ a = some v) : PureOK P ρ (Instr.field ty v f) r := by
  unfold gfld at h
  split at h
  · rename_i fs cs hu
    split at h
    · rename_i fd hf
      obtain ⟨vs, hvs, rfl⟩ := rv_agg ha
      obtain ⟨u, h1, h2⟩ := partA_ok h hvs
      exact ⟨u, h2, fun w => by simp [Instr.field, und_run hu, hf, asAgg, part_run h1]⟩
    · cases h
  · cases h

noncomputable def lget {α : Type} : List α → Nat → Option α
  | [], _ => none
  | a :: _, 0 => some a
  | _ :: l, n + 1 => lget l n

theorem lget_eq {α : Type} : ∀ (l : List α) (i : Nat), lget l i = l[i]?
  | [], _ => rfl
  | _ :: _, 0 => rfl
  | _ :: l, i + 1 => by rw [List.getElem?_cons_succ]; exact lget_eq l i

noncomputable def gidx (P : Program) (ty : TypeId) (a i : AV) : Option AV := match i with
  | .int _ (.ofNat n) => match P.underlying ty, a with
    | some .string, .str l => match lget l n with
      | some b => some (.int .u8 (.ofNat b.toNat))
      | none => none
    | some (.array len e), .agg cs => match szOf P e with
      | some sz => cond (Nat.ble (Nat.succ n) len) (partA P e cs (Nat.mul n sz)) none
      | none => none
    | _, _ => none
  | _ => none

theorem gidx_ok {P : Program} {ρ : Names} {ty : TypeId} {a i r : AV} {v vi : Value} (h : gidx P ty a i = some r) (ha : rv ρ a = some v) (hi : rv ρ i = some vi) : PureOK P ρ (Instr.index ty v vi) r := by
  unfold gidx at h
  split at h
  · rename_i k n
    cases rv_int hi
    split at h
    · rename_i l hu
      cases rv_str ha
      split at h
      · rename_i b hb
        cases h
        refine ⟨_, rfl, fun w => ?_⟩
        have hb' : (⟨l.toArray⟩ : ByteArray)[n]? = some b := by
          rw [lget_eq] at hb
          obtain ⟨h1, h2⟩ := List.getElem?_eq_some_iff.1 hb
          have : n < (⟨l.toArray⟩ : ByteArray).size := by simpa [ByteArray.size] using h1
          rw [getElem?_pos (⟨l.toArray⟩ : ByteArray) n this, ← h2]
          rfl
        simp [Instr.index, asIntOf, und_run hu, hb']
      · cases h
    · rename_i len e cs hu
      split at h
      · rename_i sz hsz
        cases hb : Nat.ble (Nat.succ n) len with
        | false => rw [hb] at h; cases h
        | true =>
          rw [hb] at h
          have hlt : n < len := Nat.le_of_ble_eq_true hb
          obtain ⟨vs, hvs, rfl⟩ := rv_agg ha
          obtain ⟨u, h1, h2⟩ := partA_ok h hvs
          have h1 : partC P e vs.toArray (n * sz) = some u := h1
          exact ⟨u, h2, fun w => by simp [Instr.index, asIntOf, und_run hu, hlt, sz_run hsz, part_run h1]⟩
      · cases h
    · cases h
  · cases h

noncomputable def gixa (P : Program) (ty : TypeId) (a i : AV) : Option AV := match i with
  | .int _ (.ofNat n) => match P.underlying ty, a with
    | some (.slice e), .sli j o l z => match szOf P e with
      | some sz => cond (Nat.ble (Nat.succ n) l && Nat.beq sz z) (some (.ptr j (Nat.mul (Nat.add o n) z))) none
      | none => none
    | some (.array len e), .ptr j o => match szOf P e with
      | some sz => cond (Nat.ble (Nat.succ n) len) (some (.ptr j (Nat.add o (Nat.mul n sz)))) none
      | none => none
    | _, _ => none
  | _ => none

theorem gixa_ok {P : Program} {ρ : Names} {ty : TypeId} {a i r : AV} {v vi : Value} (h : gixa P ty a i = some r) (ha : rv ρ a = some v) (hi : rv ρ i = some vi) : PureOK P ρ (Instr.indexAt ty v vi) r := by
  unfold gixa at h
  split at h
  · rename_i k n
    cases rv_int hi
    split at h
    · rename_i e j o l z hu
      split at h
      · rename_i sz hsz
        cases hb : (Nat.ble (Nat.succ n) l && Nat.beq sz z) with
        | false => rw [hb] at h; cases h
        | true =>
          rw [hb] at h
          cases h
          simp only [Bool.and_eq_true] at hb
          have hlt : n < l := Nat.le_of_ble_eq_true hb.1
          obtain rfl := beq_iff.1 hb.2
          obtain ⟨L, hL, _, _, rfl⟩ := rv_sli ha
          refine ⟨.pointer (some ⟨L.b, (o + n) * sz, none⟩), ?_, fun w => ?_⟩
          · simp only [rv, hL, Option.map_some]; rfl
          · have hadd : (⟨L.b, o * sz, none⟩ : Addr).add (n * sz) = ⟨L.b, (o + n) * sz, none⟩ := by rw [addA2, Nat.add_mul]
            simp [Instr.indexAt, asIntOf, und_run hu, hlt, sz_run hsz, hadd]
      · cases h
    · rename_i len e j o hu
      split at h
      · rename_i sz hsz
        cases hb : Nat.ble (Nat.succ n) len with
        | false => rw [hb] at h; cases h
        | true =>
          rw [hb] at h
          cases h
          have hlt : n < len := Nat.le_of_ble_eq_true hb
          obtain ⟨L, hL, rfl⟩ := rv_ptr ha
          refine ⟨.pointer (some ⟨L.b, o + n * sz, none⟩), ?_, fun w => ?_⟩
          · simp only [rv, hL, Option.map_some]; rfl
          · simp [Instr.indexAt, Instr.sureAddr, asIntOf, und_run hu, hlt, sz_run hsz, addA2]
      · cases h
    · cases h
  · cases h

/-! Parts of strings and of slices. -/
noncomputable def gbnd (x : Option AV) (d top : Nat) : Option Nat := match x with
  | none => some d
  | some (.int _ (.ofNat n)) => cond (Nat.ble n top) (some n) none
  | some _ => none

theorem gbnd_ok {ρ : Names} {x : Option AV} {vx : Option Value} {d top n : Nat} {F : Nat → Prop} (h : gbnd x d top = some n) (hx : ∀ a, x = some a → ∃ v, vx = some v ∧ rv ρ a = some v) (hn : x = none → vx = none) (k : F n) {top' : Nat} (ht : top ≤ top') :
    bndK vx d top' F := by
  unfold gbnd at h
  split at h
  · cases h
    rw [hn rfl]
    exact k
  · rename_i kk m
    cases hb : Nat.ble m top with
    | false => rw [hb] at h; cases h
    | true =>
      rw [hb] at h
      cases h
      obtain ⟨v, rfl, hv⟩ := hx _ rfl
      cases rv_int hv
      refine ⟨by simp, ?_, by simpa using k⟩
      have := Nat.le_of_ble_eq_true hb
      simp only [Int.ofNat_eq_natCast]
      omega
  · cases h

theorem gbnd_le {x : Option AV} {d top n : Nat} (h : gbnd x d top = some n) (hd : d ≤ top) : n ≤ top := by
  unfold gbnd at h
  split at h
  · cases h; exact hd
  · rename_i kk m
    cases hb : Nat.ble m top with
    | false => rw [hb] at h; cases h
    | true => rw [hb] at h; cases h; exact Nat.le_of_ble_eq_true hb
  · cases h

noncomputable def gslc (P : Program) (ty : TypeId) (a : AV) (lo hi : Option AV) : Option AV := match P.underlying ty, a with
  | some .string, .str s => match gbnd hi s.length s.length with
    | some h => match gbnd lo 0 h with
      | some l => some (.str ((s.drop l).take (Nat.sub h l)))
      | none => none
    | none => none
  | some (.slice e), .sli i o len z => match szOf P e, gbnd hi len len with
    | some sz, some h => match gbnd lo 0 h with
      | some l => cond (Nat.beq sz z && (Nat.beq l 0 || Nat.ble (Nat.succ l) len)) (some (.sli i (Nat.add o l) (Nat.sub h l) z)) none
      | none => none
    | _, _ => none
  | some (.slice e), .nils => match szOf P e, gbnd hi 0 0 with
    | some _, some h => match gbnd lo 0 h with
      | some _ => some .nils
      | none => none
    | _, _ => none
  | _, _ => none

theorem gslc_ok {P : Program} {ρ : Names} {ty : TypeId} {a r : AV} {lo hi : Option AV} {v : Value} {vlo vhi : Option Value} (h : gslc P ty a lo hi = some r) (ha : rv ρ a = some v)
    (hlo : ∀ a, lo = some a → ∃ v, vlo = some v ∧ rv ρ a = some v) (hlo0 : lo = none → vlo = none) (hhi : ∀ a, hi = some a → ∃ v, vhi = some v ∧ rv ρ a = some v) (hhi0 : hi = none → vhi = none) : PureOK P ρ (Instr.sliceAt ty v vlo vhi none) r := by
  have key : ∀ u, rv ρ r = some u → slK P ty v vlo vhi none (fun x => x = u) → PureOK P ρ (Instr.sliceAt ty v vlo vhi none) r := fun u hu hs => by
    obtain ⟨x, hr, rfl⟩ := slK_run hs
    exact ⟨x, hu, hr⟩
  unfold gslc at h
  split at h
  · rename_i s hu
    cases rv_str ha
    split at h
    · rename_i hh hhe
      split at h
      · rename_i l hle
        cases h
        refine key _ rfl ?_
        unfold slK
        simp only [hu]
        have hs : (⟨s.toArray⟩ : ByteArray).size = s.length := by simp [ByteArray.size]
        rw [hs]
        refine gbnd_ok hhe hhi hhi0 (gbnd_ok hle hlo hlo0 ?_ (Nat.le_refl _)) (Nat.le_refl _)
        congr 1
        apply ByteArray.ext
        have h1 := gbnd_le hhe (Nat.le_refl _)
        simp only [ByteArray.data_extract]
        simp [List.extract_eq_take_drop]
        try rfl
      · cases h
    · cases h
  · rename_i e i o len z hu
    split at h
    · rename_i sz hh hsz hhe
      split at h
      · rename_i l hle
        cases hb : (Nat.beq sz z && (Nat.beq l 0 || Nat.ble (Nat.succ l) len)) with
        | false => rw [hb] at h; cases h
        | true =>
          rw [hb] at h
          cases h
          simp only [Bool.and_eq_true, Bool.or_eq_true] at hb
          obtain rfl := beq_iff.1 hb.1
          obtain ⟨L, hL, hle1, hesz, rfl⟩ := rv_sli ha
          have h1 := gbnd_le hhe (Nat.le_refl _)
          have h2 := gbnd_le hle (Nat.zero_le _)
          refine key (.slice (some ⟨L.b, (o + l) * sz, none⟩) (hh - l) (L.tot - (o + l))) ?_ ?_
          · have e1 : Nat.add o l = o + l := rfl
            have e2 : Nat.sub hh l = hh - l := rfl
            simp only [rv, hL, Option.bind_some, e1, e2]
            rw [if_pos ⟨by omega, hesz⟩]
          · unfold slK
            simp only [hu, Option.isSome_none, Bool.false_and, cond_false, hsz, onSome]
            show bndK vhi len (L.tot - o) (fun h => bndK vlo 0 h fun l_1 => Value.slice (if (L.tot - o) = l_1 then some (⟨L.b, o * sz, none⟩ : Addr) else Option.map (fun x : Addr => x.add (l_1 * sz)) (some (⟨L.b, o * sz, none⟩ : Addr))) (h - l_1) (L.tot - o - l_1) = Value.slice (some (⟨L.b, (o + l) * sz, none⟩ : Addr)) (hh - l) (L.tot - (o + l)))
            refine gbnd_ok hhe hhi hhi0 (gbnd_ok hle hlo hlo0 ?_ (Nat.le_refl _)) (by omega)
            have hc : (L.tot - o - l) = L.tot - (o + l) := by omega
            rw [hc]
            congr 1
            rcases hb.2 with h0 | h0
            · have := beq_iff.1 h0
              subst this
              split
              · simp
              · simp [addA2]
            · have := Nat.le_of_ble_eq_true h0
              rw [if_neg (by omega)]
              simp [addA2, Nat.add_mul]
      · cases h
    · cases h
  · rename_i e hu
    cases ha
    split at h
    · rename_i sz hh hsz hhe
      split at h
      · rename_i l hle
        cases h
        have h1 := gbnd_le hhe (Nat.le_refl _)
        have h2 := gbnd_le hle (Nat.zero_le _)
        have e1 : hh = 0 := by omega
        have e2 : l = 0 := by omega
        subst e1 e2
        refine key (.slice none 0 0) rfl ?_
        unfold slK
        simp only [hu, Option.isSome_none, Bool.false_and, cond_false, hsz, onSome]
        show bndK vhi 0 0 (fun h => bndK vlo 0 h fun l => Value.slice (if 0 = l then none else Option.map (fun x : Addr => x.add (l * sz)) none) (h - l) (0 - l) = Value.slice none 0 0)
        exact gbnd_ok hhe hhi hhi0 (gbnd_ok hle hlo hlo0 (by simp) (Nat.le_refl _)) (Nat.le_refl _)
      · cases h
    · cases h
  · cases h

end Go.Gx

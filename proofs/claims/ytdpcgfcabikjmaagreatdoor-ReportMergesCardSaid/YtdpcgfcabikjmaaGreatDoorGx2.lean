import Derived.Test.YtdpcgfcabikjmaaGreatDoorGx0
import Derived.Test.YtdpcgfcabikjmaaGreatDoorGx1
namespace Go.Gx
open Go Go.Vc

/-! Constants. -/
noncomputable def ofS : Value → Option AV
  | .int k n => some (.int k n)
  | .bool b => some (.bool b)
  | .string s => some (.str s.data.toList)
  | .pointer none => some .nilp
  | .slice none 0 0 => some .nils
  | .nilIface => some .nili
  | .nilFunc => some .nilf
  | .func (.func f) ⟨[]⟩ ⟨[]⟩ => some (.fn f [] [])
  | .tuple ⟨[]⟩ => some (.tup [])
  | _ => none

noncomputable def ofL : List Value → Option (List AV)
  | [] => some []
  | v :: l => match ofS v, ofL l with
    | some a, some az => some (a :: az)
    | _, _ => none

noncomputable def ofV : Value → Option AV
  | .agg ⟨cs⟩ => (ofL cs).map .agg
  | v => ofS v

theorem ofS_rv {ρ : Names} {v : Value} {a : AV} (h : ofS v = some a) : rv ρ a = some v := by
  unfold ofS at h
  split at h <;> first | (cases h; done) | (cases h; rfl)

theorem ofL_rv {ρ : Names} : ∀ {l : List Value} {az : List AV}, ofL l = some az → rvL ρ az = some l
  | [], _, h => by cases h; rfl
  | v :: l, az, h => by
    simp only [ofL] at h
    cases ha : ofS v with
    | none => rw [ha] at h; cases h
    | some a =>
      cases hl : ofL l with
      | none => rw [ha, hl] at h; cases h
      | some bs =>
        rw [ha, hl] at h
        cases h
        exact rvL_mk (ofS_rv ha) (ofL_rv hl)

theorem ofV_rv {ρ : Names} {v : Value} {a : AV} (h : ofV v = some a) : rv ρ a = some v := by
  unfold ofV at h
  split at h
  · rename_i cs
    cases hl : ofL cs with
    | none => rw [hl] at h; cases h
    | some az =>
      rw [hl] at h
      cases h
      simp only [rv, ofL_rv hl, Option.map_some]
  · exact ofS_rv h

/-! The frame. -/
noncomputable def EnvOK (ρ : Names) (e : Tr AV) (t : Tm) : Prop := ∀ i a, e.get i = some a → rv ρ a = some (gt t i)

theorem EnvOK.mono {ρ σ : Names} {e : Tr AV} {t : Tm} (h : EnvOK ρ e t) (hx : Ext ρ σ) : EnvOK σ e t := fun i a hi => rv_mono hx (h i a hi)

noncomputable def aev (e : Tr AV) : Operand → Option AV
  | .tmp i => e.get i
  | .const v => ofV v
  | .func f => some (.fn f [] [])
  | .global _ => none

theorem aev_ev {ρ : Names} {e : Tr AV} {t : Tm} {x : Operand} {a : AV} (he : EnvOK ρ e t) (h : aev e x = some a) : rv ρ a = some (ev t x) := by
  cases x with
  | tmp i => exact he i a h
  | const v => exact ofV_rv h
  | func f => cases h; rfl
  | global g => cases h

noncomputable def aevL (e : Tr AV) : List Operand → Option (List AV)
  | [] => some []
  | x :: l => match aev e x, aevL e l with
    | some a, some az => some (a :: az)
    | _, _ => none

theorem aevL_ev {ρ : Names} {e : Tr AV} {t : Tm} (he : EnvOK ρ e t) : ∀ {l : List Operand} {az : List AV}, aevL e l = some az → rvL ρ az = some (l.map (ev t))
  | [], _, h => by cases h; rfl
  | x :: l, az, h => by
    simp only [aevL] at h
    cases ha : aev e x with
    | none => rw [ha] at h; cases h
    | some a =>
      cases hl : aevL e l with
      | none => rw [ha, hl] at h; cases h
      | some bs =>
        rw [ha, hl] at h
        cases h
        exact rvL_mk (aev_ev he ha) (aevL_ev he hl)

theorem gt_st_eq : ∀ (t : Tm) (i : Nat) (v : Value), i < t.length → gt (st t i v) i = v
  | [], i, _, h => by simp at h
  | x :: t, 0, v, _ => rfl
  | x :: t, i + 1, v, h => gt_st_eq t i v (by simpa using h)

noncomputable def aput (N : Nat) (e : Tr AV) (d : Option Nat) (v : AV) : Option (Tr AV) := match d with
  | none => some e
  | some d => cond (Nat.ble (Nat.succ d) N) (some (e.put d v)) none

theorem aput_ok {ρ : Names} {N : Nat} {e e' : Tr AV} {d : Option Nat} {a : AV} {v : Value} {t : Tm} (h : aput N e d a = some e') (hN : t.length = N) (he : EnvOK ρ e t) (hv : rv ρ a = some v) :
    EnvOK ρ e' (pt t d v) ∧ (pt t d v).length = N := by
  cases d with
  | none => cases h; exact ⟨he, hN⟩
  | some d =>
    unfold aput at h
    cases hb : Nat.ble (Nat.succ d) N with
    | false => simp only [hb, cond_false] at h; cases h
    | true =>
      simp only [hb, cond_true, Option.some.injEq] at h
      have hd : d < t.length := by rw [hN]; exact Nat.le_of_ble_eq_true hb
      subst h
      refine ⟨fun i b hi => ?_, by rw [show pt t (some d) v = st t d v from rfl, length_st]; exact hN⟩
      show rv ρ b = some (gt (st t d v) i)
      rw [get_put] at hi
      split at hi
      · rename_i e1
        subst e1
        cases hi
        rw [gt_st_eq t i v hd]; exact hv
      · rename_i e1
        rw [gt_st_ne t d i v (Ne.symm e1)]
        exact he i b hi

/-! Whole numbers, made ready. -/
noncomputable def frcN (n : Nat) (f : Nat → AV) : AV := match n with
  | 0 => f 0
  | m + 1 => f (Nat.succ m)

noncomputable def frc (k : IntKind) : Int → AV
  | .ofNat n => frcN n fun n => .int k (.ofNat n)
  | .negSucc n => frcN n fun n => .int k (.negSucc n)

theorem frc_eq (k : IntKind) (n : Int) : frc k n = .int k n := by
  cases n with
  | ofNat n => cases n <;> rfl
  | negSucc n => cases n <;> rfl

noncomputable def uw (M : Nat) : Int → Int
  | .ofNat a => .ofNat (Nat.mod a M)
  | .negSucc a => .ofNat (Nat.sub (Nat.sub M 1) (Nat.mod a M))

noncomputable def sw (H M : Nat) : Int → Int
  | .ofNat a => cond (Nat.ble (Nat.succ (Nat.mod a M)) H) (.ofNat (Nat.mod a M)) (.negSucc (Nat.sub (Nat.sub M 1) (Nat.mod a M)))
  | .negSucc a => cond (Nat.ble (Nat.succ (Nat.mod a M)) H) (.negSucc (Nat.mod a M)) (.ofNat (Nat.sub (Nat.sub M 1) (Nat.mod a M)))

noncomputable def gwrap : IntKind → Int → Int
  | .u64, n => uw 18446744073709551616 n
  | .i64, n => sw 9223372036854775808 18446744073709551616 n
  | .u8, n => uw 256 n
  | .i8, n => sw 128 256 n
  | .u16, n => uw 65536 n
  | .i16, n => sw 32768 65536 n
  | .u32, n => uw 4294967296 n
  | .i32, n => sw 2147483648 4294967296 n

theorem uw_eq (M : Nat) (hM : 0 < M) (n : Int) : uw M n = n % (M : Int) := by
  cases n with
  | ofNat a => rfl
  | negSucc a =>
    show ((M - 1 - a % M : Nat) : Int) = _
    have h1 := Nat.mod_lt a hM
    have h2 : Int.negSucc a = -((a : Int) + 1) := Int.negSucc_eq a
    rw [h2]
    have h3 := Nat.div_add_mod a M
    have h4 : -((a : Int) + 1) = ((M - 1 - a % M : Nat) : Int) + (M : Int) * (-((a / M : Nat) : Int) - 1) := by
      have : ((M - 1 - a % M : Nat) : Int) = (M : Int) - 1 - ((a % M : Nat) : Int) := by omega
      rw [this]
      have h5 : (a : Int) = (M : Int) * ((a / M : Nat) : Int) + ((a % M : Nat) : Int) := by
        rw [← Int.natCast_mul, ← Int.natCast_add, h3]
      rw [Int.mul_sub, Int.mul_neg]
      omega
    rw [h4, Int.add_mul_emod_self_left, Int.emod_eq_of_lt (by omega) (by omega)]

theorem sw_eq (H M : Nat) (hM : M = 2 * H) (hH : 0 < H) (n : Int) : sw H M n = if n % (M : Int) ≥ (H : Int) then n % (M : Int) - (M : Int) else n % (M : Int) := by
  have hMp : 0 < M := by omega
  rw [← uw_eq M hMp]
  cases n with
  | ofNat a =>
    have h1 := Nat.mod_lt a hMp
    show cond (Nat.ble (Nat.succ (a % M)) H) (Int.ofNat (a % M)) (Int.negSucc (M - 1 - a % M)) = if (Int.ofNat (a % M)) ≥ (H : Int) then Int.ofNat (a % M) - (M : Int) else Int.ofNat (a % M)
    cases hb : Nat.ble (Nat.succ (a % M)) H with
    | true =>
      have := Nat.le_of_ble_eq_true hb
      rw [if_neg (by simp only [Int.ofNat_eq_natCast]; omega)]; rfl
    | false =>
      have : ¬ (a % M + 1 ≤ H) := fun h => by rw [Nat.ble_eq_true_of_le h] at hb; cases hb
      rw [if_pos (by simp only [Int.ofNat_eq_natCast]; omega)]
      simp only [cond_false, Int.negSucc_eq, Int.ofNat_eq_natCast]
      omega
  | negSucc a =>
    have h1 := Nat.mod_lt a hMp
    show cond (Nat.ble (Nat.succ (a % M)) H) (Int.negSucc (a % M)) (Int.ofNat (M - 1 - a % M)) = if (Int.ofNat (M - 1 - a % M)) ≥ (H : Int) then Int.ofNat (M - 1 - a % M) - (M : Int) else Int.ofNat (M - 1 - a % M)
    cases hb : Nat.ble (Nat.succ (a % M)) H with
    | true =>
      have := Nat.le_of_ble_eq_true hb
      rw [if_pos (by simp only [Int.ofNat_eq_natCast]; omega)]
      simp only [cond_true, Int.negSucc_eq, Int.ofNat_eq_natCast]
      omega
    | false =>
      have : ¬ (a % M + 1 ≤ H) := fun h => by rw [Nat.ble_eq_true_of_le h] at hb; cases hb
      rw [if_neg (by simp only [Int.ofNat_eq_natCast]; omega)]; rfl

theorem gwrap_eq (k : IntKind) (n : Int) : gwrap k n = k.wrap n := by
  cases k <;> simp only [gwrap, IntKind.wrap, IntKind.signed, IntKind.bits, Bool.true_and, Bool.false_and, Bool.false_eq_true, if_false]
  · rw [sw_eq _ _ rfl (by decide)]; simp
  · rw [sw_eq _ _ rfl (by decide)]; simp
  · rw [sw_eq _ _ rfl (by decide)]; simp
  · rw [sw_eq _ _ rfl (by decide)]; simp
  · rw [uw_eq _ (by decide)]; rfl
  · rw [uw_eq _ (by decide)]; rfl
  · rw [uw_eq _ (by decide)]; rfl
  · rw [uw_eq _ (by decide)]; rfl

noncomputable def ieq : Int → Int → Bool
  | .ofNat a, .ofNat b => Nat.beq a b
  | .negSucc a, .negSucc b => Nat.beq a b
  | _, _ => false

noncomputable def ile : Int → Int → Bool
  | .ofNat a, .ofNat b => Nat.ble a b
  | .negSucc a, .negSucc b => Nat.ble b a
  | .negSucc _, .ofNat _ => true
  | .ofNat _, .negSucc _ => false

theorem natbeq (a b : Nat) : Nat.beq a b = decide (a = b) := by
  by_cases h : a = b
  · subst h; simp [Nat.beq_refl]
  · simp [h, beq_ne h]

theorem natble (a b : Nat) : Nat.ble a b = decide (a ≤ b) := by
  cases hb : Nat.ble a b with
  | true => simp [Nat.le_of_ble_eq_true hb]
  | false =>
    have : ¬ a ≤ b := fun h => by rw [Nat.ble_eq_true_of_le h] at hb; cases hb
    simp [this]

theorem ieq_eq (a b : Int) : ieq a b = (a == b) := by
  cases a <;> cases b <;> simp only [ieq, natbeq] <;> rw [Bool.eq_iff_iff] <;> simp <;> omega

theorem ile_eq (a b : Int) : ile a b = decide (a ≤ b) := by
  cases a <;> cases b <;> simp only [ile, natble] <;> rw [Bool.eq_iff_iff] <;> simp [Int.negSucc_eq] <;> omega

/-! What is done with whole numbers. -/
noncomputable def gint (op : BinOp) (k : IntKind) (a b : Int) : Option AV := match op with
  | .add => some (frc k (gwrap k (Int.add a b)))
  | .sub => some (frc k (gwrap k (Int.sub a b)))
  | .mul => some (frc k (gwrap k (Int.mul a b)))
  | .quo => cond (ieq b 0) none (some (frc k (gwrap k (Int.tdiv a b))))
  | .rem => cond (ieq b 0) none (some (frc k (Int.tmod a b)))
  | .and => some (frc k (gwrap k ((BitVec.ofInt k.bits a &&& BitVec.ofInt k.bits b).toNat : Int)))
  | .or => some (frc k (gwrap k ((BitVec.ofInt k.bits a ||| BitVec.ofInt k.bits b).toNat : Int)))
  | .xor => some (frc k (gwrap k ((BitVec.ofInt k.bits a ^^^ BitVec.ofInt k.bits b).toNat : Int)))
  | .andNot => some (frc k (gwrap k ((BitVec.ofInt k.bits a &&& ~~~BitVec.ofInt k.bits b).toNat : Int)))
  | .eql => some (.bool (ieq a b))
  | .neq => some (.bool (not (ieq a b)))
  | .leq => some (.bool (ile a b))
  | .geq => some (.bool (ile b a))
  | .lss => some (.bool (not (ile b a)))
  | .gtr => some (.bool (not (ile a b)))
  | _ => none

noncomputable def gshf (op : BinOp) (k : IntKind) (a b : Int) : Option AV := cond (ile 0 b) (match op with
  | .shl => some (frc k (gwrap k (a * 2 ^ (min b.toNat k.bits))))
  | .shr => some (frc k (a.fdiv (2 ^ (min b.toNat k.bits))))
  | _ => none) none

noncomputable def lbeq : List UInt8 → List UInt8 → Bool
  | [], [] => true
  | a :: l, b :: m => cond (Nat.beq a.toNat b.toNat) (lbeq l m) false
  | _, _ => false

theorem lbeq_eq : ∀ (l m : List UInt8), lbeq l m = (l == m)
  | [], [] => rfl
  | [], _ :: _ => rfl
  | _ :: _, [] => rfl
  | a :: l, b :: m => by
    unfold lbeq
    rw [natbeq, lbeq_eq l m]
    by_cases h : a = b
    · subst h; simp
    · have : ¬ a.toNat = b.toNat := fun e => h (UInt8.toNat.inj e)
      simp [this, h]

noncomputable def gstr (op : BinOp) (a b : List UInt8) : Option AV := match op with
  | .add => cond (Nat.ble (a.length + b.length) 9223372036854775807) (some (.str (a ++ b))) none
  | .eql => some (.bool (lbeq a b))
  | .neq => some (.bool (not (lbeq a b)))
  | .lss => some (.bool (Op.bytesLess a b))
  | .leq => some (.bool (or (Op.bytesLess a b) (lbeq a b)))
  | .gtr => some (.bool (not (or (Op.bytesLess a b) (lbeq a b))))
  | .geq => some (.bool (not (Op.bytesLess a b)))
  | _ => none

/-! '=='. -/
noncomputable def partA (P : Program) (e : TypeId) (cs : List AV) (off : Nat) : Option AV :=
  match P.underlying e, szOf P e with
  | some d, some sz => cond (isAggD d) (some (.agg ((cs.drop off).take sz))) cs[off]?
  | _, _ => none

noncomputable def geq (P : Program) : Nat → TypeId → AV → AV → Option Bool
  | 0, _, _, _ => none
  | d + 1, t, x, y =>
    match P.underlying t with
    | some .bool => match x, y with
      | .bool a, .bool b => some (a == b)
      | _, _ => none
    | some (.int _) => match x, y with
      | .int k a, .int k' b => cond (eqK k k') (some (ieq a b)) none
      | _, _ => none
    | some .string => match x, y with
      | .str a, .str b => some (lbeq a b)
      | _, _ => none
    | some (.struct fs) => match x, y with
      | .agg xs, .agg ys => cond (P.stoodInHeld t || fs.toList.any fun f => f.name == "_") none
          (andO (fs.toList.map fun f => match partA P f.type xs f.offset, partA P f.type ys f.offset with
            | some a, some b => geq P d f.type a b
            | _, _ => none))
      | _, _ => none
    | some (.array n e) => match x, y with
      | .agg xs, .agg ys => match szOf P e with
        | none => none
        | some sz => andO ((List.range n).map fun i => match partA P e xs (i * sz), partA P e ys (i * sz) with
            | some a, some b => geq P d e a b
            | _, _ => none)
      | _, _ => none
    | _ => none

theorem partA_ok {P : Program} {ρ : Names} {e : TypeId} {cs : List AV} {vs : List Value} {off : Nat} {a : AV} (h : partA P e cs off = some a) (hv : rvL ρ cs = some vs) :
    ∃ v, partC P e vs.toArray off = some v ∧ rv ρ a = some v := by
  unfold partA at h
  unfold partC
  split at h
  · rename_i d sz hu hs
    simp only [hu, hs]
    cases hd : isAggD d with
    | true =>
      rw [hd] at h
      cases h
      refine ⟨_, rfl, ?_⟩
      simp only [rv, rvL_take sz (rvL_drop off hv), Option.map_some]
      congr 2
      simp
    | false =>
      rw [hd] at h
      obtain ⟨v, h1, h2⟩ := rvL_get hv h
      exact ⟨v, by simpa using h1, h2⟩
  · cases h

theorem andO_map {α : Type} {f g : α → Option Bool} (hfg : ∀ a b, f a = some b → g a = some b) : ∀ (l : List α) (b : Bool), andO (l.map f) = some b → andO (l.map g) = some b
  | [], _, h => h
  | a :: l, b, h => by
    simp only [List.map_cons] at h ⊢
    cases hf : f a with
    | none => rw [hf] at h; simp [andO] at h
    | some c =>
      rw [hf] at h
      rw [hfg a c hf]
      simp only [andO] at h ⊢
      cases hr : andO (l.map f) with
      | none => rw [hr] at h; cases h
      | some r => rw [hr] at h; rw [andO_map hfg l r hr]; exact h

theorem rv_int {ρ : Names} {k : IntKind} {n : Int} {v : Value} (h : rv ρ (.int k n) = some v) : v = .int k n := (Option.some.inj h).symm
theorem rv_bool {ρ : Names} {b : Bool} {v : Value} (h : rv ρ (.bool b) = some v) : v = .bool b := (Option.some.inj h).symm
theorem rv_str {ρ : Names} {l : List UInt8} {v : Value} (h : rv ρ (.str l) = some v) : v = .string ⟨l.toArray⟩ := (Option.some.inj h).symm
theorem rv_agg {ρ : Names} {cs : List AV} {v : Value} (h : rv ρ (.agg cs) = some v) : ∃ vs, rvL ρ cs = some vs ∧ v = .agg vs.toArray := by
  simp only [rv, Option.map_eq_some_iff] at h
  obtain ⟨l, hl, rfl⟩ := h
  exact ⟨l, hl, rfl⟩
theorem rv_tup {ρ : Names} {cs : List AV} {v : Value} (h : rv ρ (.tup cs) = some v) : ∃ vs, rvL ρ cs = some vs ∧ v = .tuple vs.toArray := by
  simp only [rv, Option.map_eq_some_iff] at h
  obtain ⟨l, hl, rfl⟩ := h
  exact ⟨l, hl, rfl⟩
theorem rv_ptr {ρ : Names} {i o : Nat} {v : Value} (h : rv ρ (.ptr i o) = some v) : ∃ L, ρ i = some L ∧ v = .pointer (some ⟨L.b, o, none⟩) := by
  simp only [rv, Option.map_eq_some_iff] at h
  obtain ⟨l, hl, rfl⟩ := h
  exact ⟨l, hl, rfl⟩
theorem rv_sli {ρ : Names} {i o l z : Nat} {v : Value} (h : rv ρ (.sli i o l z) = some v) : ∃ L, ρ i = some L ∧ o + l ≤ L.tot ∧ L.esz = z ∧ v = .slice (some ⟨L.b, o * z, none⟩) l (L.tot - o) := by
  simp only [rv, Option.bind_eq_some_iff] at h
  obtain ⟨L, hL, h⟩ := h
  split at h
  · rename_i hc
    exact ⟨L, hL, hc.1, hc.2, (Option.some.inj h).symm⟩
  · cases h

theorem geq_eqC {P : Program} {ρ : Names} : ∀ (d : Nat) (t : TypeId) (x y : AV) (vx vy : Value) (b : Bool), geq P d t x y = some b → rv ρ x = some vx → rv ρ y = some vy → eqC P d t vx vy = some b
  | 0, _, _, _, _, _, _, h, _, _ => by cases h
  | d + 1, t, x, y, vx, vy, b, h, hx, hy => by
    unfold geq at h
    unfold eqC
    split at h
    · rename_i hu
      simp only [hu]
      split at h
      · cases rv_bool hx; cases rv_bool hy; exact h
      · cases h
    · rename_i k hu
      simp only [hu]
      split at h
      · cases rv_int hx; cases rv_int hy
        rw [ieq_eq] at h; exact h
      · cases h
    · rename_i hu
      simp only [hu]
      split at h
      · rename_i a b'
        cases rv_str hx; cases rv_str hy
        rw [lbeq_eq] at h
        simp only [Option.some.injEq] at h ⊢
        rw [← h]
        rw [Bool.eq_iff_iff]
        show (a.toArray == b'.toArray) = true ↔ (a == b') = true
        simp
      · cases h
    · rename_i fs hu
      simp only [hu]
      split at h
      · rename_i xs ys
        obtain ⟨vxs, hxs, rfl⟩ := rv_agg hx
        obtain ⟨vys, hys, rfl⟩ := rv_agg hy
        cases hs : (P.stoodInHeld t || fs.toList.any fun f => f.name == "_") with
        | true => rw [hs] at h; cases h
        | false =>
          rw [hs] at h
          simp only [cond_false] at h ⊢
          refine andO_map (fun f c hf => ?_) _ _ h
          split at hf
          · rename_i a b' ha hb
            obtain ⟨va, h1, h2⟩ := partA_ok ha hxs
            obtain ⟨vb, h3, h4⟩ := partA_ok hb hys
            simp only [h1, h3]
            exact geq_eqC d f.type a b' va vb c hf h2 h4
          · cases hf
      · cases h
    · rename_i n e hu
      simp only [hu]
      split at h
      · rename_i xs ys
        obtain ⟨vxs, hxs, rfl⟩ := rv_agg hx
        obtain ⟨vys, hys, rfl⟩ := rv_agg hy
        split at h
        · cases h
        · rename_i sz hsz
          simp only [hsz]
          refine andO_map (fun f c hf => ?_) _ _ h
          split at hf
          · rename_i a b' ha hb
            obtain ⟨va, h1, h2⟩ := partA_ok ha hxs
            obtain ⟨vb, h3, h4⟩ := partA_ok hb hys
            simp only [h1, h3]
            exact geq_eqC d e a b' va vb c hf h2 h4
          · cases hf
      · cases h
    · cases h

end Go.Gx

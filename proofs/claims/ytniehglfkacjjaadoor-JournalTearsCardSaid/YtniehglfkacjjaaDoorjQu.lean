import Derived.Test.YtniehglfkacjjaaDoorjRt
namespace Go.Proofs.YtniehglfkacjjaaDoor
open Go Go.Vc

/-- A reader of the reference's. -/
abbrev qdA (x : Nat) (l : List UInt8) (e : Int) : Asn := boxA x #[.string (bs l), .int .i64 e] 84

section qd
variable {w0 w : World} {x : Nat} {l : List UInt8} {e : Int} {B : Asn}
theorem qd0 (h : St w0 w (star (qdA x l e) B)) : w.cell? ⟨x, 0, none⟩ = some (.string (bs l)) := h.boxed 0
theorem qd1 (h : St w0 w (star (qdA x l e) B)) : w.cell? ⟨x, 1, none⟩ = some (.int .i64 e) := h.boxed 1

theorem qleft_c (h : St w0 w (star (qdA x l e) B)) : Calls Tryd.prog 50 #[.pointer (some ⟨x, 0, none⟩)] w (RetC fun r w' => r = .int .i64 ((if e = 0 then l.length else 0 : Nat) : Int) ∧ w' = w) := by
  refine qLeft_ok ?_
  unfold qLeft
  refine ⟨_, qd1 h, ?_⟩
  by_cases he : e = 0
  · subst he
    exact cF rfl ⟨_, qd0 h, rfl, rfl⟩
  · refine cT (by simpa using he) ⟨?_, rfl⟩
    rw [if_neg he]; rfl
end qd

theorem u64_byte (b : UInt8) : IntKind.u64.wrap (b.toNat : Int) = (b.toNat : Int) := by
  have := b.toNat_lt
  exact IntWalk.u64_in _ (by omega)

theorem qval {i x : Nat} {b : UInt8} (hi : i ≤ 9) (hx : x < 2 ^ (7 * i)) (hb : i = 9 → b.toNat ≤ 1) :
    IntKind.u64.wrap ((x : Int) + (IntKind.u64.wrap ((Int.tmod (b.toNat : Int) (128 : Int)) * 2 ^ (min ((IntKind.i64.wrap ((7 : Int) * (i : Int)))).toNat IntKind.u64.bits))))
      = ((x + b.toNat % 128 * 2 ^ (7 * i) : Nat) : Int) := by
  have hlt := uval_lt (b := b.toNat) hi hx hb
  have h2 : IntKind.i64.wrap ((7 : Int) * (i : Int)) = ((7 * i : Nat) : Int) := by rw [IntWalk.i64_in _ (by omega)]; omega
  have h3 : min (7 * i) IntKind.u64.bits = 7 * i := by
    have : IntKind.u64.bits = 64 := rfl
    omega
  have h4 : ((b.toNat % 128 : Nat) : Int) * 2 ^ (7 * i) = ((b.toNat % 128 * 2 ^ (7 * i) : Nat) : Int) := by
    rw [Int.natCast_mul, Int.natCast_pow]; rfl
  rw [h2, Int.toNat_natCast, h3, show Int.tmod (b.toNat : Int) 128 = ((b.toNat % 128 : Nat) : Int) from rfl, h4, IntWalk.u64_in ((b.toNat % 128 * 2 ^ (7 * i) : Nat) : Int) (by omega), IntWalk.u64_in _ (by omega)]
  omega

set_option maxRecDepth 20000 in
theorem quint_rd {w0 w : World} {x : Nat} {l : List UInt8} {B : Asn} (h : St w0 w (star (qdA x l 0) B)) (hl : l.length ≤ 4611686018427387904) :
    Calls Tryd.prog 65 #[.pointer (some ⟨x, 0, none⟩), .int .u64 (18446744073709551615 : Int)] w (RetC fun r w' => match rdF l 0 0 with
      | .inl e => r = .int .u64 0 ∧ St w0 w' (star (qdA x l (e : Int)) B)
      | .inr (n, t) => r = .int .u64 (n : Int) ∧ n < 18446744073709551616 ∧ St w0 w' (star (qdA x t 0) B)) := by
  refine qRUint_ok ?_
  unfold qRUint
  refine ⟨_, qd1 h, cF rfl ?_⟩
  refine ⟨fun n2 n3 w' m => ∃ (i y : Nat), n3 = (i : Int) ∧ n2 = (y : Int) ∧ i ≤ 9 ∧ i ≤ l.length ∧ m = 10 - i ∧ y < 2 ^ (7 * i) ∧ rdF l 0 0 = rdF (l.drop i) i y ∧ St w0 w' (star (qdA x l 0) B),
    ⟨10, 0, 0, rfl, rfl, by omega, by omega, rfl, by decide, rfl, h⟩, ?_⟩
  rintro w2 m n2 n3 ⟨i, y, rfl, rfl, hi, hil, rfl, hy, hr, hst⟩ -
  refine cT (decide_eq_true (by omega)) ⟨_, qd0 hst, ?_⟩
  have hfail : ∀ (c : Nat), rdF l 0 0 = .inl c → stK w2 ⟨x, 1, none⟩ (.int .i64 (c : Int)) fun w3 => (match rdF l 0 0 with
      | .inl e => Value.int .u64 0 = .int .u64 0 ∧ St w0 w3 (star (qdA x l (e : Int)) B)
      | .inr (n, t) => Value.int .u64 0 = .int .u64 (n : Int) ∧ n < 18446744073709551616 ∧ St w0 w3 (star (qdA x t 0) B)) := fun c hc => box_st hst (by simp) rfl fun w3 h3 => by
    rw [hc]
    exact ⟨rfl, h3⟩
  cases hd : l.drop i with
  | nil =>
    have hlen : i = l.length := by
      have := congrArg List.length hd
      simp at this; omega
    exact cT (by rw [bs_size, hlen]; simp) (hfail 1 (by rw [hr, hd]; rfl))
  | cons b t =>
    obtain ⟨hlt, hget, hdr⟩ := drop_cons hd
    refine cF (by rw [bs_size]; simp; omega) ⟨_, qd0 hst, by omega, ?_⟩
    rw [Int.toNat_natCast, bs_get, hget]
    have hbl := b.toNat_lt
    refine ⟨fun b3 w' => w' = w2 ∧ b3 = decide ((i = 9 ∧ 1 < b.toNat) ∨ (0 < i ∧ b.toNat = 0)), ?_, ?_⟩
    rotate_left
    · rw [u64_byte]
      by_cases h9 : i = 9
      · refine cT (by rw [h9]; rfl) ?_
        by_cases h1 : 1 < b.toNat
        · exact cT (decide_eq_true (by omega)) ⟨rfl, (decide_eq_true (.inl ⟨h9, h1⟩)).symm⟩
        · refine cF (decide_eq_false (by omega)) (cT (decide_eq_true (by omega)) ⟨rfl, ?_⟩)
          by_cases h0 : b.toNat = 0
          · rw [decide_eq_true (.inr ⟨by omega, h0⟩), h0]; rfl
          · rw [decide_eq_false (by omega)]; simp; omega
      · refine cF (by simp; omega) ?_
        by_cases hp : 0 < i
        · refine cT (decide_eq_true (by omega)) ⟨rfl, ?_⟩
          by_cases h0 : b.toNat = 0
          · rw [decide_eq_true (.inr ⟨by omega, h0⟩), h0]; rfl
          · rw [decide_eq_false (by omega)]; simp; omega
        · exact cF (decide_eq_false (by omega)) ⟨rfl, by rw [decide_eq_false (by omega)]⟩
    rintro w4 b3 ⟨rfl, rfl⟩ -
    by_cases hbad : (i = 9 ∧ 1 < b.toNat) ∨ (0 < i ∧ b.toNat = 0)
    · refine cT (decide_eq_true hbad) (hfail 2 ?_)
      rw [hr, hd]
      unfold rdF
      by_cases h9 : i = 9 ∧ 1 < b.toNat
      · rw [if_pos h9]
      · rw [if_neg h9, if_neg (by omega), if_pos (by omega)]
    · have hb9 : i = 9 → b.toNat ≤ 1 := fun h => by omega
      have hv := qval (b := b) hi hy hb9
      have hvl := uval_lt (b := b.toNat) hi hy hb9
      have hstep : rdF l 0 0 = if 128 ≤ b.toNat then rdF t (i + 1) (y + b.toNat % 128 * 2 ^ (7 * i)) else .inr (y + b.toNat * 2 ^ (7 * i), t) := by
        rw [hr, hd]
        conv => lhs; unfold rdF
        rw [if_neg (by omega)]
        split
        · rfl
        · rw [if_neg (by omega)]
      rw [u64_byte, hv]
      refine cF (decide_eq_false hbad) ⟨by decide, by rw [IntWalk.i64_in _ (by omega)]; omega, ?_⟩
      have hi1 : IntKind.i64.wrap ((i : Int) + 1) = ((i + 1 : Nat) : Int) := by rw [IntWalk.i64_in _ (by omega)]; omega
      by_cases h128 : 128 ≤ b.toNat
      · rw [if_pos h128] at hstep
        have hi9 : i < 9 := by omega
        refine cF (decide_eq_false (by omega)) ⟨10 - (i + 1), by omega, i + 1, _, hi1, rfl, by omega, by omega, rfl, ?_, by rw [hdr]; exact hstep, hst⟩
        have h1 : b.toNat % 128 ≤ 127 := by omega
        have h2 : b.toNat % 128 * 2 ^ (7 * i) ≤ 127 * 2 ^ (7 * i) := Nat.mul_le_mul_right _ h1
        have h3 : 2 ^ (7 * (i + 1)) = 128 * 2 ^ (7 * i) := by rw [show 7 * (i + 1) = 7 * i + 7 by omega, Nat.pow_add]; omega
        rw [h3]; omega
      · rw [if_neg h128] at hstep
        have hmod : b.toNat % 128 = b.toNat := Nat.mod_eq_of_lt (by omega)
        rw [hmod] at hvl ⊢
        refine cT (decide_eq_true (by omega)) ⟨_, qd0 hst, by rw [hi1]; omega, by rw [hi1, bs_size]; omega, ?_⟩
        rw [hi1, Int.toNat_natCast, bs_from, hdr]
        refine box_st hst (by simp) rfl fun w9 h9 => cF (decide_eq_false (by omega)) ?_
        rw [hstep]
        exact ⟨rfl, hvl, h9⟩

theorem qtext_rd {w0 w : World} {x : Nat} {l : List UInt8} {B : Asn} (h : St w0 w (star (qdA x l 0) B)) (hl : l.length ≤ 4611686018427387904) :
    Calls Tryd.prog 49 #[.pointer (some ⟨x, 0, none⟩), .int .i64 (4000 : Int)] w (RetC fun r w' => match textR l with
      | none => ∃ (s : List UInt8) (e : Int) (l' : List UInt8), r = strV s ∧ s.length ≤ l.length ∧ e ≠ 0 ∧ St w0 w' (star (qdA x l' e) B)
      | some (s, t) => r = strV s ∧ St w0 w' (star (qdA x t 0) B)) := by
  refine qRText_ok ?_
  unfold qRText
  refine useC (quint_rd h hl) ?_
  intro r w3 hu
  unfold textR
  cases hr : rdF l 0 0 with
  | inl e =>
    rw [hr] at hu
    obtain ⟨rfl, h3⟩ := hu
    have he : ((e : Nat) : Int) ≠ 0 := by have := rdF_err _ _ _ _ hr; omega
    exact ⟨_, rfl, _, qd1 h3, cT (by simpa using he) ⟨[], _, l, rfl, Nat.zero_le _, he, h3⟩⟩
  | inr p =>
    obtain ⟨n, t⟩ := p
    have htl := rdF_rest _ _ _ _ _ hr
    rw [hr] at hu
    obtain ⟨rfl, hn, h3⟩ := hu
    dsimp only
    refine ⟨_, rfl, _, qd1 h3, cF (by decide) ⟨fun b w' => w' = w3 ∧ b = decide (4000 < n), ?_, cF (by decide) ⟨rfl, ?_⟩⟩⟩
    · rintro w4 b ⟨rfl, rfl⟩ -
      by_cases h4 : 4000 < n
      · rw [if_pos h4]
        exact cT (decide_eq_true h4) (box_st h3 (by simp) rfl fun w5 h5 => ⟨[], 4, t, rfl, Nat.zero_le _, by decide, h5⟩)
      · rw [if_neg h4]
        refine cF (decide_eq_false h4) ⟨_, qd0 h3, ?_⟩
        have hz : IntKind.u64.wrap (((bs t).size : Nat) : Int) = (t.length : Int) := by rw [bs_size, IntWalk.u64_in _ (by omega)]
        rw [hz]
        by_cases ht : t.length < n
        · rw [if_pos ht]
          exact cT (decide_eq_true (by omega)) (box_st h3 (by simp) rfl fun w5 h5 => ⟨[], 1, t, rfl, Nat.zero_le _, by decide, h5⟩)
        · rw [if_neg ht]
          have hi : IntKind.i64.wrap (n : Int) = (n : Int) := IntWalk.i64_in _ (by omega)
          rw [hi]
          refine cF (decide_eq_false (by omega)) ⟨_, qd0 h3, by omega, by rw [bs_size]; omega, _, qd0 h3, by omega, by rw [bs_size]; omega, ?_⟩
          rw [Int.toNat_natCast, bs_from, bs_to]
          exact box_st h3 (by simp) rfl fun w6 h6 => ⟨rfl, h6⟩
    · have : IntKind.u64.wrap (4000 : Int) = 4000 := rfl
      rw [this]
      exact decide_eq_decide.2 ⟨fun h => by omega, fun h => by omega⟩

end Go.Proofs.YtniehglfkacjjaaDoor

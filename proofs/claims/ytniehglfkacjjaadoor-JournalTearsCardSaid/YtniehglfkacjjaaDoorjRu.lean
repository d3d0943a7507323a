import Derived.Test.YtniehglfkacjjaaDoorjRd
namespace Go.Proofs.YtniehglfkacjjaaDoor
open Go Go.Vc

theorem uval_lt {i x b : Nat} (hi : i ≤ 9) (hx : x < 2 ^ (7 * i)) (hb : i = 9 → b ≤ 1) : x + b % 128 * 2 ^ (7 * i) < 18446744073709551616 := by
  by_cases h9 : i = 9
  · subst h9
    have := hb rfl
    have h1 : b % 128 ≤ 1 := by omega
    have h2 : b % 128 * 2 ^ (7 * 9) ≤ 1 * 2 ^ (7 * 9) := Nat.mul_le_mul_right _ h1
    omega
  · have h1 : b % 128 ≤ 127 := by omega
    have h2 : b % 128 * 2 ^ (7 * i) ≤ 127 * 2 ^ (7 * i) := Nat.mul_le_mul_right _ h1
    have h3 : 2 ^ (7 * i) ≤ 2 ^ 56 := Nat.pow_le_pow_right (by decide) (by omega)
    omega

theorem uval {i x : Nat} {b : UInt8} (hi : i ≤ 9) (hx : x < 2 ^ (7 * i)) (hb : i = 9 → b.toNat ≤ 1) :
    orI .u64 (x : Int) (IntKind.u64.wrap ((IntKind.u64.wrap (andI .u8 (b.toNat : Int) (127 : Int))) * 2 ^ (min ((IntKind.u64.wrap ((7 : Int) * (IntKind.u64.wrap (i : Int))))).toNat IntKind.u64.bits)))
      = ((x + b.toNat % 128 * 2 ^ (7 * i) : Nat) : Int) := by
  have hlt := uval_lt (b := b.toNat) hi hx hb
  have h1 : IntKind.u64.wrap (i : Int) = (i : Int) := IntWalk.u64_in _ (by omega)
  have h2 : IntKind.u64.wrap ((7 : Int) * (i : Int)) = ((7 * i : Nat) : Int) := by rw [IntWalk.u64_in _ (by omega)]; omega
  have h3 : min (7 * i) IntKind.u64.bits = 7 * i := by
    have : IntKind.u64.bits = 64 := rfl
    omega
  have h4 : ((b.toNat % 128 : Nat) : Int) * 2 ^ (7 * i) = ((b.toNat % 128 * 2 ^ (7 * i) : Nat) : Int) := by
    rw [Int.natCast_mul, Int.natCast_pow]; rfl
  rw [and_byte, h1, h2, Int.toNat_natCast, h3, h4, IntWalk.u64_in _ (by omega)]
  exact or_nat hx hlt

theorem drop_cons {l : List UInt8} {i : Nat} {b : UInt8} {t : List UInt8} (h : l.drop i = b :: t) : i < l.length ∧ l[i]? = some b ∧ l.drop (i + 1) = t := by
  have h1 : i < l.length := by
    rcases Nat.lt_or_ge i l.length with h' | h'
    · exact h'
    · rw [List.drop_of_length_le h'] at h; cases h
  rw [List.drop_eq_getElem_cons h1] at h
  cases h
  exact ⟨h1, by simp [h1], rfl⟩

theorem bs_get (l : List UInt8) (i : Nat) : (bs l)[i]? = l[i]? := by
  by_cases h : i < l.length
  · rw [getElem?_pos (bs l) i h, List.getElem?_eq_getElem h]; rfl
  · rw [getElem?_neg (bs l) i h, List.getElem?_eq_none (by omega)]

theorem bs_from (l : List UInt8) (i : Nat) : (bs l).extract i (bs l).size = bs (l.drop i) := by
  apply ByteArray.ext
  rw [ByteArray.data_extract]
  apply Array.toList_inj.1
  rw [Array.toList_extract, List.extract_eq_drop_take']
  simp [bs, ByteArray.size]

theorem ruint_c {w0 w : World} {x : Nat} {l : List UInt8} {B : Asn} (h : St w0 w (star (rdA x l 0) B)) (hl : l.length ≤ 4611686018427387904) (most : Nat) :
    Calls Tryd.prog 67 #[.pointer (some ⟨x, 0, none⟩), .int .u64 (most : Int)] w (RetC fun r w' => match uintR l most with
      | .inl e => r = .int .u64 0 ∧ St w0 w' (star (rdA x l (e : Int)) B)
      | .inr (n, t) => r = .int .u64 (n : Int) ∧ St w0 w' (star (rdA x t 0) B)) := by
  refine wRUint_ok ?_
  unfold wRUint
  refine useC (ok_c h) ?_
  rintro _ w1 ⟨rfl, rfl⟩
  refine ⟨_, rfl, cF rfl ?_⟩
  refine ⟨fun n2 n3 w' m => ∃ (i y : Nat), n3 = (i : Int) ∧ n2 = (y : Int) ∧ i ≤ 9 ∧ i ≤ l.length ∧ m = 10 - i ∧ y < 2 ^ (7 * i) ∧ rdF l 0 0 = rdF (l.drop i) i y ∧ St w0 w' (star (rdA x l 0) B),
    ⟨10, 0, 0, rfl, rfl, by omega, by omega, rfl, by decide, rfl, h⟩, ?_⟩
  rintro w2 m n2 n3 ⟨i, y, rfl, rfl, hi, hil, rfl, hy, hr, hst⟩ -
  refine ⟨_, rd0 hst, ?_⟩
  have hfail : ∀ (c : Nat), rdF l 0 0 = .inl c → Calls Tryd.prog 68 #[.pointer (some ⟨x, 0, none⟩), .int .i64 (c : Int)] w2 fun e2 w3 => e2 = .returned (.tuple #[]) ∧ (match uintR l most with
      | .inl e => Value.int .u64 0 = .int .u64 0 ∧ St w0 w3 (star (rdA x l (e : Int)) B)
      | .inr (n, t) => Value.int .u64 0 = .int .u64 (n : Int) ∧ St w0 w3 (star (rdA x t 0) B)) := fun c hc => useC (fail_c hst (c : Int)) (by
    rintro _ w3 ⟨rfl, h3⟩
    refine ⟨rfl, ?_⟩
    unfold uintR
    rw [hc]
    exact ⟨rfl, h3⟩)
  cases hd : l.drop i with
  | nil =>
    have hlen : i = l.length := by
      have := congrArg List.length hd
      simp at this; omega
    refine cT (by rw [bs_size, hlen]; simp) ?_
    exact hfail 1 (by rw [hr, hd]; rfl)
  | cons b t =>
    obtain ⟨hlt, hget, hdr⟩ := drop_cons hd
    refine cF (by rw [bs_size]; simp; omega) ⟨_, rd0 hst, by omega, ?_⟩
    rw [Int.toNat_natCast, bs_get, hget]
    have hbl := b.toNat_lt
    refine ⟨fun b3 w' => w' = w2 ∧ b3 = decide (i = 9 ∧ 1 < b.toNat), ?_, ?_⟩
    rotate_left
    · by_cases h9 : i = 9
      · exact cT (by rw [h9]; rfl) ⟨rfl, decide_eq_decide.2 ⟨fun h => ⟨h9, by omega⟩, fun h => by omega⟩⟩
      · exact cF (by simp; omega) ⟨rfl, by simp [h9]⟩
    rintro w4 b3 ⟨rfl, rfl⟩ -
    by_cases hbad : i = 9 ∧ 1 < b.toNat
    · refine cT (decide_eq_true hbad) (hfail 2 ?_)
      rw [hr, hd]
      unfold rdF
      rw [if_pos hbad]
    · have hb9 : i = 9 → b.toNat ≤ 1 := fun h => by omega
      have hv := uval (b := b) hi hy hb9
      have hvl := uval_lt (b := b.toNat) hi hy hb9
      have hstep : rdF l 0 0 = if 128 ≤ b.toNat then rdF t (i + 1) (y + b.toNat % 128 * 2 ^ (7 * i)) else if b.toNat = 0 ∧ 0 < i then .inl 2 else .inr (y + b.toNat * 2 ^ (7 * i), t) := by
        rw [hr, hd]
        conv => lhs; unfold rdF
        rw [if_neg hbad]
      rw [hv]
      refine cF (decide_eq_false hbad) ⟨?_, ?_⟩
      · rw [IntWalk.u64_in (i : Int) (by omega), IntWalk.u64_in _ (by omega)]; omega
      by_cases h128 : 128 ≤ b.toNat
      · rw [if_pos h128] at hstep
        have hi9 : i < 9 := by omega
        refine cT (decide_eq_true (by omega)) ⟨10 - (i + 1), by omega, i + 1, _, ?_, rfl, by omega, by omega, rfl, ?_, by rw [hdr]; exact hstep, hst⟩
        · rw [IntWalk.i64_in _ (by omega)]; omega
        · have h1 : b.toNat % 128 ≤ 127 := by omega
          have h2 : b.toNat % 128 * 2 ^ (7 * i) ≤ 127 * 2 ^ (7 * i) := Nat.mul_le_mul_right _ h1
          have h3 : 2 ^ (7 * (i + 1)) = 128 * 2 ^ (7 * i) := by rw [show 7 * (i + 1) = 7 * i + 7 by omega, Nat.pow_add]; omega
          rw [h3]; omega
      · rw [if_neg h128] at hstep
        have hmod : b.toNat % 128 = b.toNat := Nat.mod_eq_of_lt (by omega)
        rw [hmod] at hvl ⊢
        refine cF (decide_eq_false (by omega)) ⟨fun b4 w' => w' = w4 ∧ b4 = decide (b.toNat = 0 ∧ 0 < i), ?_, ?_⟩
        rotate_left
        · by_cases h0 : b.toNat = 0
          · exact cT (by rw [h0]; rfl) ⟨rfl, by simp [h0]⟩
          · exact cF (by simp; omega) ⟨rfl, by simp [h0]⟩
        rintro w6 b4 ⟨rfl, rfl⟩ -
        by_cases hz : b.toNat = 0 ∧ 0 < i
        · rw [if_pos hz] at hstep
          exact cT (decide_eq_true hz) (hfail 2 hstep)
        · rw [if_neg hz] at hstep
          refine cF (decide_eq_false hz) ?_
          by_cases hmost : most < y + b.toNat * 2 ^ (7 * i)
          · refine cT (decide_eq_true (by omega)) (useC (fail_c hst 4) ?_)
            rintro _ w3 ⟨rfl, h3⟩
            refine ⟨rfl, ?_⟩
            unfold uintR
            rw [hstep]
            dsimp only
            rw [if_pos hmost]
            exact ⟨rfl, h3⟩
          · have hi1 : IntKind.i64.wrap ((i : Int) + 1) = ((i + 1 : Nat) : Int) := by rw [IntWalk.i64_in _ (by omega)]; omega
            refine cF (decide_eq_false (by omega)) ⟨_, rd0 hst, by rw [hi1]; omega, by rw [hi1, bs_size]; omega, ?_⟩
            rw [hi1, Int.toNat_natCast, bs_from, hdr]
            refine box_st hst (by simp) rfl fun w9 h9 => ?_
            unfold uintR
            rw [hstep]
            dsimp only
            rw [if_neg hmost]
            exact ⟨rfl, h9⟩

end Go.Proofs.YtniehglfkacjjaaDoor

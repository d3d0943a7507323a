import Derived.Test.YtniehglfkacjjaaDoorjQu
namespace Go.Proofs.YtniehglfkacjjaaDoor
open Go Go.Vc

/-! What is read is written in one way only. -/
theorem rdF_canon : ∀ (l : List UInt8) (i x n : Nat) (t : List UInt8), i ≤ 9 → rdF l i x = .inr (n, t) → ∃ y, n = x + y * 2 ^ (7 * i) ∧ l = uintF (9 - i) y ++ t ∧ (0 < i → 0 < y)
  | [], _, _, _, _, _, h => by unfold rdF at h; cases h
  | b :: l, i, x, n, t, hi, h => by
    have hbl := b.toNat_lt
    have hof : UInt8.ofNat b.toNat = b := UInt8.ofNat_toNat
    unfold rdF at h
    split at h
    · cases h
    · rename_i h9
      split at h
      · rename_i h128
        have hi9 : i ≤ 8 := by omega
        obtain ⟨y, hn, hl, hy⟩ := rdF_canon l (i + 1) _ n t (by omega) h
        have hy := hy (by omega)
        refine ⟨b.toNat % 128 + 128 * y, ?_, ?_, fun _ => by omega⟩
        · rw [hn, show 7 * (i + 1) = 7 * i + 7 by omega, Nat.pow_add, Nat.add_mul]
          have : y * (2 ^ (7 * i) * 2 ^ 7) = 128 * y * 2 ^ (7 * i) := by
            rw [show (2 : Nat) ^ 7 = 128 from rfl, Nat.mul_comm (2 ^ (7 * i)) 128, ← Nat.mul_assoc, Nat.mul_comm y 128]
          omega
        · obtain ⟨k, hk⟩ : ∃ k, 9 - i = k + 1 := ⟨8 - i, by omega⟩
          rw [hk]
          unfold uintF
          rw [if_neg (by omega), show (b.toNat % 128 + 128 * y) % 128 + 128 = b.toNat by omega, hof, show (b.toNat % 128 + 128 * y) / 128 = y by omega, hl, show 9 - (i + 1) = k by omega]
          rfl
      · rename_i h128
        split at h
        · cases h
        · rename_i hz
          cases h
          refine ⟨b.toNat, rfl, ?_, fun _ => by omega⟩
          have : uintF (9 - i) b.toNat = [b] := by
            cases 9 - i with
            | zero => unfold uintF; rw [Nat.mod_eq_of_lt (by omega), hof]
            | succ k => unfold uintF; rw [if_pos (by omega), Nat.mod_eq_of_lt (by omega), hof]
          rw [this]
          rfl

theorem textR_canon {l s t : List UInt8} (h : textR l = some (s, t)) : l = textM s ++ t ∧ s.length ≤ 4000 := by
  unfold textR at h
  split at h
  · cases h
  · rename_i n t' hr
    split at h
    · cases h
    · split at h
      · cases h
      · rename_i h4 ht
        cases h
        obtain ⟨y, hn, hl, _⟩ := rdF_canon _ _ _ _ _ (by decide) hr
        have hny : n = y := by simpa using hn
        subst hny
        have hlen : (t'.take n).length = n := by rw [List.length_take]; omega
        refine ⟨?_, by omega⟩
        unfold textM uintM
        rw [hlen, List.append_assoc, List.take_append_drop]
        exact hl

/-! The records of the valid prefix. -/
structure Ent where
  s : List UInt8
  head : Nat
  till : Nat

/-- 'at': how many bytes are behind; 'h': the head so far. -/
def parseF : Nat → List UInt8 → Nat → Nat → List Ent
  | 0, _, _, _ => []
  | k + 1, l, at_, h => match textR l with
    | none => []
    | some (s, t) => if t.take 8 = leB 8 (chainM h s) then ⟨s, chainM h s, at_ + (frameM s (chainM h s)).length⟩ :: parseF k (t.drop 8) (at_ + (frameM s (chainM h s)).length) (chainM h s) else []

def parseM (l : List UInt8) : List Ent := parseF l.length l 0 0

/-- One step of it. -/
theorem frame_step {l s t : List UInt8} {h : Nat} (hr : textR l = some (s, t)) (ht : t.take 8 = leB 8 h) : l = frameM s h ++ t.drop 8 ∧ 8 ≤ t.length ∧ (frameM s h).length = l.length - t.length + 8 := by
  have h8 : 8 ≤ t.length := by
    have := congrArg List.length ht
    rw [leB_length, List.length_take] at this
    omega
  obtain ⟨hl, _⟩ := textR_canon hr
  refine ⟨?_, h8, ?_⟩
  · rw [hl]
    unfold frameM
    rw [← ht, List.append_assoc, List.take_append_drop]
  · unfold frameM
    rw [List.length_append, leB_length, hl, List.length_append]
    omega

end Go.Proofs.YtniehglfkacjjaaDoor

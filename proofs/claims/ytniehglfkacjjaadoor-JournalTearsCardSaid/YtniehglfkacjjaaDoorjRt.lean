import Derived.Test.YtniehglfkacjjaaDoorjRu
namespace Go.Proofs.YtniehglfkacjjaaDoor
open Go Go.Vc

theorem rdF_err : ∀ (l : List UInt8) (i x e : Nat), rdF l i x = .inl e → e ≠ 0
  | [], _, _, e, h => by unfold rdF at h; cases h; decide
  | b :: l, i, x, e, h => by
    unfold rdF at h
    split at h
    · cases h; decide
    · split at h
      · exact rdF_err l _ _ e h
      · split at h
        · cases h; decide
        · cases h

theorem rdF_rest : ∀ (l : List UInt8) (i x n : Nat) (t : List UInt8), rdF l i x = .inr (n, t) → t.length < l.length
  | [], _, _, _, _, h => by unfold rdF at h; cases h
  | b :: l, i, x, n, t, h => by
    unfold rdF at h
    split at h
    · cases h
    · split at h
      · have := rdF_rest l _ _ n t h; simp; omega
      · split at h
        · cases h
        · cases h; simp

/-- Reading a record: the record, and what is left. -/
def textR (l : List UInt8) : Option (List UInt8 × List UInt8) := match rdF l 0 0 with
  | .inl _ => none
  | .inr (n, t) => if 4000 < n then none else if t.length < n then none else some (t.take n, t.drop n)

theorem bs_to (l : List UInt8) (n : Nat) : (bs l).extract 0 n = bs (l.take n) := by
  apply ByteArray.ext
  rw [ByteArray.data_extract]
  apply Array.toList_inj.1
  rw [Array.toList_extract, List.extract_eq_take_drop]
  simp [bs]

theorem rtext_c {w0 w : World} {x : Nat} {l : List UInt8} {B : Asn} (h : St w0 w (star (rdA x l 0) B)) (hl : l.length ≤ 4611686018427387904) :
    Calls Tryd.prog 55 #[.pointer (some ⟨x, 0, none⟩), .int .i64 (4000 : Int)] w (RetC fun r w' => match textR l with
      | none => ∃ (s : List UInt8) (e : Int) (l' : List UInt8), r = strV s ∧ e ≠ 0 ∧ St w0 w' (star (rdA x l' e) B)
      | some (s, t) => r = strV s ∧ St w0 w' (star (rdA x t 0) B)) := by
  refine wRText_ok ?_
  unfold wRText
  refine useC (ok_c h) ?_
  rintro _ w1 ⟨rfl, rfl⟩
  refine ⟨_, rfl, cF rfl ⟨fun n2 w' => n2 = ((4000 : Nat) : Int) ∧ w' = w1, ?_, cT (by decide) ⟨by rw [IntWalk.u64_in _ (by omega)]; rfl, rfl⟩⟩⟩
  rintro w2 n2 ⟨rfl, rfl⟩ -
  refine useC (ruint_c h hl 4000) ?_
  intro r w3 hu
  unfold uintR at hu
  unfold textR
  cases hr : rdF l 0 0 with
  | inl e =>
    rw [hr] at hu
    obtain ⟨rfl, h3⟩ := hu
    have he : ((e : Nat) : Int) ≠ 0 := by have := rdF_err _ _ _ _ hr; omega
    refine ⟨_, rfl, fun w' => w' = w3, ?_, fun b w' => b = false ∧ w' = w3, ?_, _, rd1 h3, cF (by simpa using he) ⟨rfl, rfl⟩⟩
    · rintro w4 rfl -
      refine ⟨fun w' => w' = w4, ?_, fun b w' => b = false ∧ w' = w4, ?_, _, rd1 h3, cF (by simpa using he) ⟨rfl, rfl⟩⟩
      · rintro w5 rfl -
        exact ⟨_, rd1 h3, cT (by simpa using he) ⟨[], _, l, rfl, he, h3⟩⟩
      · rintro w5 b ⟨rfl, rfl⟩ -
        exact cF rfl rfl
    · rintro w4 b ⟨rfl, rfl⟩ -
      exact cF rfl rfl
  | inr p =>
    obtain ⟨n, t⟩ := p
    have htl := rdF_rest _ _ _ _ _ hr
    rw [hr] at hu
    dsimp only at hu ⊢
    by_cases h4 : 4000 < n
    · rw [if_pos h4] at hu ⊢
      obtain ⟨rfl, h3⟩ := hu
      refine ⟨_, rfl, fun w' => w' = w3, ?_, fun b w' => b = false ∧ w' = w3, ?_, _, rd1 h3, cF (by decide) ⟨rfl, rfl⟩⟩
      · rintro w4 rfl -
        refine ⟨fun w' => w' = w4, ?_, fun b w' => b = false ∧ w' = w4, ?_, _, rd1 h3, cF (by decide) ⟨rfl, rfl⟩⟩
        · rintro w5 rfl -
          exact ⟨_, rd1 h3, cT (by decide) ⟨[], _, l, rfl, by decide, h3⟩⟩
        · rintro w5 b ⟨rfl, rfl⟩ -
          exact cF rfl rfl
      · rintro w4 b ⟨rfl, rfl⟩ -
        exact cF rfl rfl
    · rw [if_neg h4] at hu ⊢
      obtain ⟨rfl, h3⟩ := hu
      refine ⟨_, rfl, fun w' => w' = w3, ?_, fun b w' => b = false ∧ w' = w3, ?_, _, rd1 h3, cT (by decide) ⟨by decide, rfl⟩⟩
      · rintro w4 rfl -
        by_cases ht : t.length < n
        · rw [if_pos ht]
          refine ⟨fun w' => ∃ e : Int, e ≠ 0 ∧ St w0 w' (star (rdA x t e) B), ?_, fun b w' => b = true ∧ w' = w4, ?_, _, rd1 h3, cT (by decide) ⟨_, rd0 h3, ?_, rfl⟩⟩
          · rintro w5 ⟨e, he, h5⟩ -
            exact ⟨_, rd1 h5, cT (by simpa using he) ⟨[], _, t, rfl, he, h5⟩⟩
          · rintro w5 b ⟨rfl, rfl⟩ -
            refine cT rfl (useC (fail_c h3 1) ?_)
            rintro _ w6 ⟨rfl, h6⟩
            exact ⟨rfl, 1, by decide, h6⟩
          · rw [bs_size, IntWalk.u64_in _ (by omega)]
            exact decide_eq_true (by omega)
        · rw [if_neg ht]
          refine ⟨fun w' => w' = w4, ?_, fun b w' => b = false ∧ w' = w4, ?_, _, rd1 h3, cT (by decide) ⟨_, rd0 h3, ?_, rfl⟩⟩
          · rintro w5 rfl -
            refine ⟨_, rd1 h3, cF (by decide) ⟨_, rd0 h3, by omega, by rw [bs_size]; omega, _, rd0 h3, by omega, by rw [bs_size]; omega, ?_⟩⟩
            rw [Int.toNat_natCast, bs_from, bs_to]
            exact box_st h3 (by simp) rfl fun w6 h6 => ⟨rfl, h6⟩
          · rintro w5 b ⟨rfl, rfl⟩ -
            exact cF rfl rfl
          · rw [bs_size, IntWalk.u64_in _ (by omega)]
            exact decide_eq_false (by omega)
      · rintro w4 b ⟨rfl, rfl⟩ -
        exact cF rfl rfl

end Go.Proofs.YtniehglfkacjjaaDoor

import Derived.Test.YtniehglfkacjjaaDoorjPr
namespace Go.Proofs.YtniehglfkacjjaaDoor
open Go Go.Vc

theorem journalProves_c' (w : World) {a : Option Addr} {c : Nat} {xs : List (List UInt8)} (hr : Rd w a (xs.map strV)) (hc : xs.length ≤ c) (ha : a = none → c = 0) (n : Int) :
    Calls Tryd.prog 8 #[.slice a xs.length c, .int .i64 n] w (RetC fun r w' => r = .bool true ∧ Chg w w' []) := by
  refine lJournalProves_ok ?_
  unfold lJournalProves
  refine ⟨fun a2 l2 c2 w' => w' = w ∧ ∃ ys : List (List UInt8), l2 = ys.length ∧ ys.length ≤ 40 ∧ ys.length ≤ c2 ∧ (a2 = none → c2 = 0) ∧ Rd w a2 (ys.map strV), ?_, ?_⟩
  · rintro w1 a2 _ c2 ⟨rfl, ys, rfl, h40, hc2, ha2, hr2⟩ -
    refine ⟨fun n2 w' m => ∃ i : Nat, n2 = (i : Int) ∧ i ≤ ys.length ∧ m = ys.length - i ∧ (∀ (j : Nat) (y : List UInt8), j < i → ys[j]? = some y → y.length ≤ 200) ∧ w' = w1, ⟨ys.length, 0, rfl, by omega, by omega, fun j y hj => by omega, rfl⟩, ?_⟩
    rintro w2 m n2 ⟨i, rfl, hi, rfl, h200, rfl⟩ -
    by_cases hlt : i < ys.length
    · obtain ⟨q, rfl, hq⟩ := hr2 i (strV ys[i]) (by simp [hlt])
      refine cT (decide_eq_true (by omega)) ⟨by omega, by omega, bs ys[i], by rw [Int.toNat_natCast]; exact hq, ?_⟩
      rw [bs_size]
      by_cases h2 : 200 < ys[i].length
      · refine cT (decide_eq_true (by omega)) (useC (lives_c w2) ?_)
        rintro _ w3 ⟨rfl, hc3⟩
        exact ⟨_, rfl, rfl, hc3⟩
      · refine cF (decide_eq_false (by omega)) ⟨ys.length - (i + 1), by omega, i + 1, by rw [IntWalk.i64_in _ (by omega)]; omega, by omega, rfl, fun j y hj hy => ?_, rfl⟩
        by_cases hji : j = i
        · subst hji
          simp [hlt] at hy
          subst hy; omega
        · exact h200 j y (by omega) hy
    · obtain rfl : i = ys.length := by omega
      have hl : ∀ y ∈ ys, y.length ≤ 200 := fun y hy => by
        obtain ⟨j, hj, rfl⟩ := List.getElem_of_mem hy
        exact h200 j _ hj (by simp [hj])
      have hl' : ∀ y ∈ ys, y.length ≤ 4611686018427387904 := fun y hy => by have := hl y hy; omega
      refine cF (decide_eq_false (by omega)) (useC (jproof_c hr2 hc2 ha2 (by omega) hl' n) ?_)
      rintro _ w3 ⟨a3, c3, rfl, h3⟩
      refine ⟨_, _, _, _, _, rfl, useC (sproof_c (hr2.chg h3.chg) hc2 ha2 (by omega) hl' n) ?_⟩
      rintro _ w4 ⟨a4, c4, rfl, h4⟩
      have h5 := Go.Proofs.YtniehglfkacjjaaDoor.St.after h3.one h4
      have hpl : (proofM ys n).2.1.length ≤ 40 := by unfold proofM; split <;> simp; omega
      have h6 : St w2 w4 (Sep [rowA 9 1 (.slice a3 (proofM ys n).2.1.length c3) (proofM ys n).2.1.length ((proofM ys n).2.1.map strV), rowA 9 1 (.slice a4 (proofM ys n).2.1.length c4) (proofM ys n).2.1.length ((proofM ys n).2.1.map strV), emp]) :=
        St.picks (l := [rowA 9 1 (.slice a4 (proofM ys n).2.1.length c4) (proofM ys n).2.1.length ((proofM ys n).2.1.map strV), rowA 9 1 (.slice a3 (proofM ys n).2.1.length c3) (proofM ys n).2.1.length ((proofM ys n).2.1.map strV)]) h5 [1, 0, 2]
      refine ⟨_, _, _, _, _, rfl, fun g w' => g = false ∧ Chg w2 w' [] ∧ Rd w' a3 ((proofM ys n).2.1.map strV), ?_, ?_⟩
      · rintro w5 g ⟨rfl, hc5, hr5⟩ -
        refine cF rfl ⟨fun n7 n8 w' m => ∃ i : Nat, n8 = (i : Int) ∧ i ≤ (proofM ys n).2.1.length ∧ m = (proofM ys n).2.1.length - i ∧ n7 = (headF (proofM ys n).1 ((proofM ys n).2.1.take i) : Int) ∧ Chg w5 w' [], ⟨_, 0, rfl, by omega, rfl, rfl, Chg.refl _ _⟩, ?_⟩
        rintro w6 m n7 n8 ⟨i, rfl, hi, rfl, rfl, hc6⟩ -
        by_cases hlt : i < (proofM ys n).2.1.length
        · obtain ⟨q, rfl, hq⟩ := hr5.chg hc6 i (strV (proofM ys n).2.1[i]) (by simp [hlt])
          have hmem : (proofM ys n).2.1[i] ∈ ys := by
            have hm : (proofM ys n).2.1[i] ∈ (proofM ys n).2.1 := by simp
            have hsub : ∀ x ∈ (proofM ys n).2.1, x ∈ ys := by
              unfold proofM
              split
              · exact fun x hx => List.mem_of_mem_drop hx
              · intro x hx; cases hx
            exact hsub _ hm
          refine cT (decide_eq_true (by omega)) ⟨by omega, by omega, bs (proofM ys n).2.1[i], by rw [Int.toNat_natCast]; exact hq, ?_⟩
          refine usePure (chain_c _ (bs (proofM ys n).2.1[i]) (by rw [bs_size]; exact hl' _ hmem)) fun w7 hc7 => ⟨_, rfl, _, ?_, i + 1, by rw [IntWalk.i64_in _ (by omega)]; omega, by omega, rfl, ?_, hc6.trans hc7 (by simp)⟩
          · omega
          · rw [take_snoc (l := (proofM ys n).2.1) (i := i) (a := (proofM ys n).2.1[i]) (by simp [hlt]), headF_append, headF_cons, headF_nil]
            rfl
        · obtain rfl : i = (proofM ys n).2.1.length := by omega
          refine cF (decide_eq_false (by omega)) ?_
          rw [List.take_length]
          have hcw := hc5.trans hc6 (by simp)
          by_cases hin : 0 ≤ n ∧ n ≤ ys.length
          · have hp : proofM ys n = (headF 0 (ys.take n.toNat), ys.drop n.toNat, 0) := if_pos hin
            rw [hp]
            refine cF rfl (useC (heads_c (by omega) hl' (hr2.chg hcw)) ?_)
            rintro _ w7 ⟨a5, c5, rfl, h7⟩
            obtain ⟨g, rfl, hget⟩ := row_get (St.rowOf h7.one) (by omega)
            refine ⟨_, _, c5, rfl, by omega, by omega, (headF 0 ys : Int), ?_, ?_⟩
            · rw [Int.toNat_natCast, Nat.mul_one, addA]
              refine hget _ _ ?_
              rw [List.getElem?_map, hds_get]
              rfl
            · have hh : headF (headF 0 (ys.take n.toNat)) (ys.drop n.toNat) = headF 0 ys := by rw [← headF_append, List.take_append_drop]
              refine cT (by rw [hh]; simp) (useC (lives_c w7) ?_)
              rintro _ w8 ⟨rfl, hc8⟩
              exact ⟨_, rfl, rfl, (hcw.trans h7.chg (by simp)).trans hc8 (by simp)⟩
          · have hp : proofM ys n = (0, [], 4) := if_neg hin
            rw [hp]
            refine cT rfl (useC (lives_c w6) ?_)
            rintro _ w7 ⟨rfl, hc7⟩
            exact ⟨_, rfl, rfl, hcw.trans hc7 (by simp)⟩
      · refine cF (by simp) (cF (by simp) (useC (same_c (by omega) h6) ?_))
        rintro _ w5 ⟨rfl, hc5⟩
        exact ⟨_, rfl, rfl, h6.chg.trans hc5 (by simp), (Rd.row (h6.rowAt 0 rfl)).chg hc5⟩
  · by_cases h : 40 < xs.length
    · refine cT (decide_eq_true (by omega)) ⟨by omega, by omega, rfl, xs.take 40, ?_, ?_, ?_, ?_, ?_⟩
      · rw [List.length_take]; show 40 - 0 = _; omega
      · rw [List.length_take]; omega
      · rw [List.length_take]; omega
      · rw [slice0]; intro h0; rw [ha h0]
      · rw [slice0, List.map_take]; exact hr.take 40
    · exact cF (decide_eq_false (by omega)) ⟨rfl, xs, rfl, by omega, hc, ha, hr⟩

theorem journalProves_c (w : World) {a : Option Addr} {c : Nat} {xs : List (List UInt8)} (hr : Rd w a (xs.map strV)) (hc : xs.length ≤ c) (_ : c ≤ 9223372036854775807) (ha : a = none → c = 0) (n : Int) (_ : (Lit.int .i64 n).wf = true) :
    Calls Tryd.prog 8 #[.slice a xs.length c, .int .i64 n] w (RetC fun r w' => r = .bool true ∧ Chg w w' []) := journalProves_c' w hr hc ha n

end Go.Proofs.YtniehglfkacjjaaDoor

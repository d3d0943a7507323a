import Derived.Test.YtniehglfkacjjaaDoorjL1
namespace Go.Proofs.YtniehglfkacjjaaDoor
open Go Go.Vc

/-- The first records of a list, cut. -/
def shortM (xs : List (List UInt8)) : List (List UInt8) := (xs.take 6).map (·.take 60)

theorem shortM_len (xs : List (List UInt8)) : (shortM xs).length ≤ 6 := by unfold shortM; simp; omega
theorem shortM_60 {xs : List (List UInt8)} : ∀ x ∈ shortM xs, x.length ≤ 60 := by
  intro x hx
  obtain ⟨y, _, rfl⟩ := List.mem_map.1 hx
  simp; omega

theorem slice0 {a : Option Addr} {c : Nat} : (if c = 0 then a else Option.map (fun x => Addr.add x (0 * 1)) a) = a := by
  split
  · rfl
  · cases a with
    | none => rfl
    | some q => rw [Option.map_some]; unfold Addr.add; rfl

theorem Rd.take {w : World} {a : Option Addr} {xs : List Value} (h : Rd w a xs) (n : Nat) : Rd w a (xs.take n) := fun i v hi => by
  rw [List.getElem?_take] at hi
  split at hi
  · exact h i v hi
  · cases hi

theorem short_c {w : World} {a : Option Addr} {c : Nat} {xs : List (List UInt8)} (hr : Rd w a (xs.map strV)) (hc : xs.length ≤ c) (hn : xs.length ≤ 9223372036854775807) :
    Calls Tryd.prog 10 #[.slice a xs.length c] w (RetC fun r w' => ∃ a2 c2, r = .slice a2 (shortM xs).length c2 ∧ St w w' (rowA 9 1 (.slice a2 (shortM xs).length c2) (shortM xs).length ((shortM xs).map strV))) := by
  refine lshort_ok ?_
  unfold lshort
  refine ⟨fun a2 l2 _ w' => w' = w ∧ l2 = (xs.take 6).length ∧ Rd w a2 ((xs.take 6).map strV), ?_, ?_⟩
  · rintro w1 a2 l2 c2 ⟨rfl, rfl, hr⟩ -
    obtain ⟨ys, hys⟩ : ∃ ys, xs.take 6 = ys := ⟨_, rfl⟩
    have hsm : shortM xs = ys.map (·.take 60) := by unfold shortM; rw [hys]
    have hy6 : ys.length ≤ 6 := by rw [← hys, List.length_take]; omega
    rw [hys] at hr ⊢
    rw [hsm]
    refine ⟨fun a3 l3 c3 n w' m => ∃ i : Nat, n = (i : Int) ∧ i ≤ ys.length ∧ m = ys.length - i ∧ l3 = i ∧ St w1 w' (star (rowA 9 1 (.slice a3 i c3) i (((ys.take i).map (·.take 60)).map strV)) emp),
      ⟨ys.length, 0, rfl, by omega, by omega, rfl, ((St.start w1).nilRow 9 1).swap⟩, ?_⟩
    rintro w2 m a3 l3 c3 n ⟨i, rfl, hi, rfl, rfl, hst⟩ -
    by_cases hlt : l3 < ys.length
    · obtain ⟨q, rfl, hq⟩ := hr.chg hst.chg l3 (strV ys[l3]) (by simp [hlt])
      refine cT (decide_eq_true (by omega)) ⟨by omega, by omega, bs ys[l3], by rw [Int.toNat_natCast]; exact hq, fun s2 w' => w' = w2 ∧ s2 = bs (ys[l3].take 60), ?_, ?_⟩
      · rintro w3 s2 ⟨rfl, rfl⟩ -
        refine app1_st sl22 hst (news := [strV (ys[l3].take 60)]) rfl (by simp [strV, Value.oneCell']) (by omega) (by omega) (fun a4 c4 w4 h4 => ?_) rfl
        refine ⟨ys.length - (l3 + 1), by omega, l3 + 1, by rw [IntWalk.i64_in _ (by omega)]; omega, by omega, rfl, rfl, ?_⟩
        rw [take_snoc (l := ys) (i := l3) (a := ys[l3]) (by simp [hlt])]
        simp only [List.map_append, List.map_cons, List.map_nil]
        exact h4
      · rw [bs_size]
        by_cases h60 : 60 < ys[l3].length
        · refine cT (decide_eq_true (by omega)) ⟨by omega, by omega, rfl, ?_⟩
          rw [show (60 : Int).toNat = 60 from rfl, bs_to]
        · exact cF (decide_eq_false (by omega)) ⟨rfl, by rw [List.take_of_length_le (by omega)]⟩
    · obtain rfl : l3 = ys.length := by omega
      rw [List.take_length] at hst
      refine cF (decide_eq_false (by omega)) ⟨a3, c3, ?_, ?_⟩
      · simp
      · simp only [List.length_map]; exact hst.first
  · by_cases h : 6 < xs.length
    · refine cT (decide_eq_true (by omega)) ⟨by omega, by omega, rfl, ?_, ?_⟩
      · rw [List.length_take]; show 6 - 0 = _; omega
      · rw [slice0, List.map_take]
        exact hr.take 6
    · refine cF (decide_eq_false (by omega)) ⟨rfl, ?_, ?_⟩
      · rw [List.take_of_length_le (by omega)]
      · rw [List.take_of_length_le (by omega)]; exact hr

end Go.Proofs.YtniehglfkacjjaaDoor

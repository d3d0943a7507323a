import Derived.Test.YtcnckiinbfbjkaaGreatDoorrSh1
import Derived.Test.YtcnckiinbfbjkaaGreatDoorrSh2
import Derived.Test.YtcnckiinbfbjkaaGreatDoorrSh3
import Derived.Test.YtcnckiinbfbjkaaGreatDoorGn
namespace Go.Proofs.YtcnckiinbfbjkaaGreatDoor
open Go Go.Vc

def u64V (n : Nat) : Value := .int .u64 (n : Int)
def atM (xs : List Nat) (i : Nat) : Nat := (xs[i]?).getD 0

theorem at_c {w : World} {a : Option Addr} {c : Nat} {xs : List Nat} (hr : Rd w a (xs.map u64V)) (i : Nat) : Calls Tryz.prog 12 #[.slice a xs.length c, .int .i64 (i : Int)] w (RetC fun r w' => r = .int .u64 (atM xs i : Int) ∧ w' = w) := by
  refine rAt_ok ?_
  unfold rAt atM
  by_cases h : i < xs.length
  · obtain ⟨q, rfl, hq⟩ := hr i (u64V xs[i]) (by simp [h])
    exact cT (decide_eq_true (by omega)) ⟨by omega, by omega, _, by rw [Int.toNat_natCast]; exact hq, by simp [h], rfl⟩
  · exact cF (decide_eq_false (by omega)) ⟨by simp [List.getElem?_eq_none (Nat.le_of_not_lt h)], rfl⟩

/-- The first difference of two lists. -/
def cmpL : Nat → List Nat → List Nat → Option (Nat × Nat × Nat)
  | _, [], [] => none
  | i, [], y :: _ => some (i, 0, y)
  | i, x :: _, [] => some (i, x, 0)
  | i, x :: xs, y :: ys => if x = y then cmpL (i + 1) xs ys else some (i, x, y)

def disV (o : Option (Nat × Nat × Nat)) : Value := match o with
  | some (i, x, y) => .tuple #[.agg #[.int .i64 (i : Int), .int .u64 (x : Int), .int .u64 (y : Int)], .bool true]
  | none => .tuple #[.agg #[.int .i64 0, .int .u64 0, .int .u64 0], .bool false]

theorem cmp_stop {xs ys : List Nat} {i : Nat} (h : xs.length ≤ i ∧ i < ys.length ∨ ys.length ≤ i ∧ i < xs.length ∨ i < xs.length ∧ i < ys.length ∧ xs[i]? ≠ ys[i]?) : cmpL i (xs.drop i) (ys.drop i) = some (i, atM xs i, atM ys i) := by
  unfold atM
  rcases h with ⟨h1, h2⟩ | ⟨h1, h2⟩ | ⟨h1, h2, h3⟩
  · rw [List.drop_of_length_le h1, List.drop_eq_getElem_cons h2, List.getElem?_eq_none h1]; simp [cmpL, h2]
  · rw [List.drop_of_length_le h1, List.drop_eq_getElem_cons h2, List.getElem?_eq_none h1]; simp [cmpL, h2]
  · rw [List.drop_eq_getElem_cons h1, List.drop_eq_getElem_cons h2, cmpL, if_neg]
    · simp [h1, h2]
    · intro e; apply h3; simp [h1, h2, e]

theorem cmp_go {xs ys : List Nat} {i : Nat} (h1 : i < xs.length) (h2 : i < ys.length) (h3 : xs[i]? = ys[i]?) : cmpL i (xs.drop i) (ys.drop i) = cmpL (i + 1) (xs.drop (i + 1)) (ys.drop (i + 1)) := by
  rw [List.drop_eq_getElem_cons h1, List.drop_eq_getElem_cons h2, cmpL, if_pos]
  simpa [h1, h2] using h3

theorem cmp_end {xs ys : List Nat} {i : Nat} (h1 : xs.length ≤ i) (h2 : ys.length ≤ i) : cmpL i (xs.drop i) (ys.drop i) = none := by
  rw [List.drop_of_length_le h1, List.drop_of_length_le h2]; rfl

theorem compare_c {w : World} {a b : Option Addr} {c d : Nat} {xs ys : List Nat} (hx : Rd w a (xs.map u64V)) (hy : Rd w b (ys.map u64V)) (lx : xs.length ≤ 1000000) (ly : ys.length ≤ 1000000) :
    Calls Tryz.prog 6 #[.slice a xs.length c, .slice b ys.length d] w (RetC fun r w' => r = disV (cmpL 0 xs ys) ∧ Chg w w' []) := by
  refine rCompare_ok ?_
  unfold rCompare
  refine newK_mk ?_
  obtain ⟨r1, hr1⟩ : ∃ r1, w.heap.size = r1 := ⟨_, rfl⟩
  have h1 : St w (w.alloc (.cells #[.int .i64 0, .int .u64 0, .int .u64 0] 26)) (Sep [boxA r1 #[.int .i64 0, .int .u64 0, .int .u64 0] 26]) := by rw [← hr1]; exact ((St.start w).one.boxL _ _).picks [0]
  rw [hr1]
  refine ⟨fun n w' m => ∃ i : Nat, n = (i : Int) ∧ i ≤ max xs.length ys.length ∧ m = max xs.length ys.length - i ∧ cmpL 0 xs ys = cmpL i (xs.drop i) (ys.drop i) ∧ St w w' (Sep [boxA r1 #[.int .i64 0, .int .u64 0, .int .u64 0] 26]),
    ⟨_, 0, rfl, by omega, rfl, rfl, h1⟩, ?_⟩
  rintro w2 m n ⟨i, rfl, hi, rfl, hcm, h2⟩ -
  have hmax : (if ((ys.length : Nat) : Int) > ((xs.length : Nat) : Int) then ((ys.length : Nat) : Int) else ((xs.length : Nat) : Int)) = ((max xs.length ys.length : Nat) : Int) := by split <;> omega
  rw [hmax]
  by_cases hlt : i < max xs.length ys.length
  · refine cT (decide_eq_true (by omega)) ⟨fun g w' => St w w' (Sep [boxA r1 #[.int .i64 0, .int .u64 0, .int .u64 0] 26]) ∧ ((g = true ∧ cmpL 0 xs ys = some (i, atM xs i, atM ys i)) ∨ (g = false ∧ cmpL 0 xs ys = cmpL (i + 1) (xs.drop (i + 1)) (ys.drop (i + 1)))), ?_, ?_⟩
    · rintro w3 g ⟨h3, ⟨rfl, hc⟩ | ⟨rfl, hc⟩⟩ -
      · refine cT rfl (useC (at_c (hx.chg h3.chg) i) ?_)
        rintro _ w4 ⟨rfl, rfl⟩
        refine ⟨_, rfl, useC (at_c (hy.chg h3.chg) i) ?_⟩
        rintro _ w5 ⟨rfl, rfl⟩
        refine ⟨_, rfl, h3.stLAt 0 rfl _ rfl (by simp [Value.oneCell']) fun w6 h6 => ⟨_, _, _, h6.cellsIn 0 rfl, ?_, h6.chg⟩⟩
        rw [hc]; rfl
      · exact cF rfl ⟨_, by omega, i + 1, by rw [IntWalk.i64_in _ (by omega)]; omega, by omega, rfl, hc, h3⟩
    · have h2' := h2.quiet (Chg.drew w2 [])
      by_cases hx1 : i < xs.length
      · by_cases hy1 : i < ys.length
        · obtain ⟨q1, rfl, hq1⟩ := hx.chg h2'.chg i (u64V xs[i]) (by simp [hx1])
          obtain ⟨q2, rfl, hq2⟩ := hy.chg h2'.chg i (u64V ys[i]) (by simp [hy1])
          refine cF (decide_eq_false (by omega)) (cF (decide_eq_false (by omega)) ⟨by omega, by omega, _, by rw [Int.toNat_natCast]; exact hq1, by omega, by omega, _, by rw [Int.toNat_natCast]; exact hq2, h2', ?_⟩)
          by_cases he : xs[i]? = ys[i]?
          · have he' : xs[i] = ys[i] := by simpa [hx1, hy1] using he
            exact .inr ⟨by rw [he']; simp, by rw [hcm, cmp_go hx1 hy1 he]⟩
          · have he' : ¬ xs[i] = ys[i] := by simpa [hx1, hy1] using he
            exact .inl ⟨by simp; omega, by rw [hcm, cmp_stop (.inr (.inr ⟨hx1, hy1, he⟩))]⟩
        · exact cF (decide_eq_false (by omega)) (cT (decide_eq_true (by omega)) ⟨h2', .inl ⟨rfl, by rw [hcm, cmp_stop (.inr (.inl ⟨by omega, hx1⟩))]⟩⟩)
      · exact cT (decide_eq_true (by omega)) ⟨h2', .inl ⟨rfl, by rw [hcm, cmp_stop (.inl ⟨by omega, by omega⟩)]⟩⟩
  · refine cF (decide_eq_false (by omega)) (h2.stLAt 0 rfl _ rfl (by simp [Value.oneCell']) fun w6 h6 => ⟨_, _, _, h6.cellsIn 0 rfl, ?_, h6.chg⟩)
    rw [hcm, cmp_end (by omega) (by omega)]; rfl

end Go.Proofs.YtcnckiinbfbjkaaGreatDoor

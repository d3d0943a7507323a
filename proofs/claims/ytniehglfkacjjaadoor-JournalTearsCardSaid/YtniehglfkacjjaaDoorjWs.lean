import Derived.Test.YtniehglfkacjjaaDoorjWr
import Derived.Test.YtniehglfkacjjaaDoorjSt
namespace Go.Proofs.YtniehglfkacjjaaDoor
open Go Go.Vc Go.RowKit Go.ChangeAt Go.ChangeShapes Go.WideShapes Go.Deep

set_option maxRecDepth 100000 in
/-- A slice of strings that came in. -/
theorem open_strL {H : Type} {base : Nat} {enc : TypeId × Value → H} {w : World} {held : Bool} {v : Value} {d : DataW H} {p : List MemPlace}
    (hv : Value.okWide Tryd.prog w .any base 22 v) (h : DataW.Trod enc Tryd.prog w 0 (fun _ => true) held 22 v d p) :
    ∃ (a : Option Addr) (c : Nat) (xs : List (List UInt8)), v = .slice a xs.length c ∧ Rd w a (xs.map strV) ∧ xs.length ≤ c ∧ c ≤ 9223372036854775807 ∧ (a = none → c = 0) := by
  obtain ⟨a0, l0, c0, rfl⟩ := okWide_slice Tryd.underlying22 hv
  obtain ⟨fuel, hf⟩ := h
  rcases open_strs Tryd.underlying22 Tryd.underlying9 (by kernel_rfl) hf with ⟨hcs, _⟩ | ⟨x, l, c, m, Sx, hcs, _, hl, hm, hmm, _, hi⟩
  · simp [Value.cells] at hcs
    obtain ⟨rfl, rfl, rfl⟩ := hcs
    exact ⟨none, 0, [], rfl, fun i t hi => by simp at hi, Nat.le_refl _, by omega, fun _ => rfl⟩
  · simp [Value.cells] at hcs
    obtain ⟨rfl, rfl, rfl⟩ := hcs
    refine ⟨some x, c0, (List.range l0).map fun i => (Sx i).data.toList, by simp, fun i t hit => ?_, by simp; exact hl, by simp [maxLen] at hm; exact hm, fun h => by cases h⟩
    have hi2 : i < l0 := by
      have := (List.getElem?_eq_some_iff.1 hit).1
      simpa using this
    rw [List.getElem?_map, List.getElem?_map, List.getElem?_range hi2] at hit
    simp at hit
    subst hit
    exact ⟨x, rfl, by rw [Nat.mul_one]; exact (hi i (by rw [hmm]; simp; omega)).1⟩

end Go.Proofs.YtniehglfkacjjaaDoor

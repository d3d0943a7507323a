import Derived.Test.YtcnckiinbfbjkaaGreatDoorrWr
namespace Go.Proofs.YtcnckiinbfbjkaaGreatDoor
open Go Go.Vc Go.ChangeShapes Go.WideShapes Go.ChangeAt Go.RowKit

set_option maxRecDepth 100000 in
/-- A slice of numbers that came in. -/
theorem open_u64L {H : Type} {base : Nat} {enc : TypeId × Value → H} {w : World} {held : Bool} {v : Value} {d : DataW H} {p : List MemPlace}
    (hv : Value.okWide Tryz.prog w .any base 22 v) (h : DataW.Trod enc Tryz.prog w 0 (fun _ => true) held 22 v d p) :
    ∃ (a : Option Addr) (c : Nat) (xs : List Nat), v = .slice a xs.length c ∧ Rd w a (xs.map u64V) := by
  obtain ⟨a0, l0, c0, rfl⟩ := okWide_slice Tryz.underlying22 hv
  obtain ⟨fuel, hf⟩ := h
  rcases open_ints Tryz.underlying22 Tryz.underlying24 (by kernel_rfl) hf with ⟨hcs, _⟩ | ⟨x, l, c, zs, hcs, _, hl, hm, hlen, _, hcell, hwf⟩
  · simp [Value.cells] at hcs
    obtain ⟨rfl, rfl, rfl⟩ := hcs
    exact ⟨none, 0, [], rfl, fun i t hi => by simp at hi⟩
  · simp [Value.cells] at hcs
    obtain ⟨rfl, rfl, rfl⟩ := hcs
    have hzl : l0 ≤ zs.length := by rw [hlen]; simp; exact hl
    refine ⟨some x, c0, (zs.take l0).map Int.toNat, by simp; omega, fun i t hit => ?_⟩
    have hi2 : i < l0 := by
      have := (List.getElem?_eq_some_iff.1 hit).1
      simp at this
      omega
    have hzi : zs[i]? = some (zs[i]'(by omega)) := List.getElem?_eq_getElem (by omega)
    rw [List.getElem?_map, List.getElem?_map, List.getElem?_take, if_pos hi2, hzi] at hit
    simp at hit
    subst hit
    have hw := hwf (zs[i]'(by omega)) (by simp)
    have h0 : 0 ≤ zs[i]'(by omega) := by
      simp [Lit.wf, IntKind.min, IntKind.max, IntKind.signed, IntKind.bits] at hw
      omega
    refine ⟨x, rfl, ?_⟩
    rw [Nat.mul_one, hcell i (by omega)]
    unfold u64V
    rw [Int.toNat_of_nonneg h0]
    simp [List.getD, hzi]

set_option maxRecDepth 100000 in
/-- A policy that came in: four numbers. -/
theorem open_policy {H : Type} {base : Nat} {enc : TypeId × Value → H} {w : World} {held : Bool} {v : Value} {d : DataW H} {p : List MemPlace}
    (hv : Value.okWide Tryz.prog w .any base 31 v) (h : DataW.Trod enc Tryz.prog w 0 (fun _ => true) held 31 v d p) : ∃ n1 n2 n3 n4 : Int, v = .agg #[.int .i64 n1, .int .i64 n2, .int .i64 n3, .int .i64 n4] := by
  obtain ⟨v0, v1, v2, v3, y0, y1, y2, y3, n, rfl, _, _, h0, h1, h2, h3⟩ := Go.Joins.open_agg4 Tryz.underlying31 (by kernel_rfl) (by kernel_rfl) hv h
  obtain ⟨k0, e0, _⟩ := DataW.trod_int Tryz.underlying2 h0
  obtain ⟨k1, e1, _⟩ := DataW.trod_int Tryz.underlying3 h1
  obtain ⟨k2, e2, _⟩ := DataW.trod_int Tryz.underlying3 h2
  obtain ⟨k3, e3, _⟩ := DataW.trod_int Tryz.underlying3 h3
  cases e0; cases e1; cases e2; cases e3
  exact ⟨_, _, _, _, rfl⟩

end Go.Proofs.YtcnckiinbfbjkaaGreatDoor

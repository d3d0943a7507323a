import Derived.Test.YtniehglfkacjjaaDoorjVe
namespace Go.Proofs.YtniehglfkacjjaaDoor
open Go Go.Vc

/-- Two equal lists of strings. -/
theorem same_c {w0 w : World} {B : Asn} {a1 a2 : Option Addr} {c1 c2 : Nat} {xs : List (List UInt8)} (hl : xs.length ≤ 9223372036854775807)
    (h : St w0 w (Sep [rowA 9 1 (.slice a1 xs.length c1) xs.length (xs.map strV), rowA 9 1 (.slice a2 xs.length c2) xs.length (xs.map strV), B])) :
    Calls Tryd.prog 30 #[.slice a1 xs.length c1, .slice a2 xs.length c2] w (RetC fun r w' => r = .bool true ∧ Chg w w' []) := by
  refine sSame_ok ?_
  unfold sSame
  refine cF (by simp) ⟨fun n w' m => ∃ i : Nat, n = (i : Int) ∧ i ≤ xs.length ∧ m = xs.length - i ∧ Chg w w' [], ⟨xs.length, 0, rfl, by omega, by omega, Chg.refl _ _⟩, ?_⟩
  rintro w1 m n ⟨i, rfl, hi, rfl, hc⟩ -
  by_cases hlt : i < xs.length
  · have h1 := (h.quiet hc).quiet (Chg.drew w1 [])
    have o1 := St.rowOf h1
    have o2 := St.rowOf (h1.pull 1)
    obtain ⟨_, k1, _⟩ := own_cell o1 rfl
    obtain ⟨_, k2, _⟩ := own_cell o2 rfl
    obtain ⟨g1, cur1, rfl, _, hg1, hle1, ht1⟩ := k1 (by omega)
    obtain ⟨g2, cur2, rfl, _, hg2, hle2, ht2⟩ := k2 (by omega)
    have get : ∀ (g : Nat) (cur : Array Value), w1.drew.heap[g]? = some (.cells cur 9 (0, 0)) → cur.toList.take xs.length = xs.map strV → w1.drew.cell? ((⟨g, 0, none⟩ : Addr).add (((i : Int)).toNat * 1)) = some (strV xs[i]) := fun g cur hg ht => by
      rw [Int.toNat_natCast, Nat.mul_one, addA, cell_blk, hg, getC_cells]
      have h2 : (cur.toList.take xs.length)[i]? = (xs.map strV)[i]? := by rw [ht]
      rw [List.getElem?_take, if_pos hlt] at h2
      rw [← Array.getElem?_toList, h2]
      simp [hlt]
    refine cT (decide_eq_true (by omega)) ⟨by omega, by omega, _, get g1 cur1 hg1 ht1, by omega, by omega, _, get g2 cur2 hg2 ht2, cF (bytes_bne _ _ rfl) ⟨xs.length - (i + 1), by omega, i + 1, ?_, by omega, rfl, hc.trans (Chg.drew _ []) (by simp)⟩⟩
    rw [IntWalk.i64_in _ (by omega)]; omega
  · exact cF (decide_eq_false (by omega)) ⟨rfl, hc⟩

end Go.Proofs.YtniehglfkacjjaaDoor

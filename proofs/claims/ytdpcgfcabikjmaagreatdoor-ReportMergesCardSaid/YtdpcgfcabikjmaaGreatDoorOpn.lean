import Derived.Test.YtdpcgfcabikjmaaGreatDoorGn
import Derived.Deep.Slices
import Derived.OpenShut
namespace Go.Vc
open Go Go.Deep

/-! What an argument's cells are, by its type, level by level. -/
def Opn (P : Program) (w : World) : Nat → TypeId → List Value → Prop
  | 0, _, _ => True
  | d + 1, t, cs => match P.underlying t with
    | some .bool => ∃ b : Bool, cs = [.bool b]
    | some (.int k) => ∃ n : Int, cs = [.int k n] ∧ (Lit.int k n).wf = true
    | some .string => ∃ s : ByteArray, cs = [.string s] ∧ s.size ≤ maxLen
    | some (.slice e) => ∃ (a : Option Addr) (l c : Nat), cs = [.slice a l c] ∧ l ≤ c ∧ c ≤ maxLen ∧ (a = none → c = 0) ∧ l * P.bytesOf e ≤ reachBytes ∧
        ∀ i, i < l → ∃ q cs', a = some q ∧ w.cells? 0 (q.add (i * P.cellsOf e)) (P.cellsOf e) = some cs' ∧ Opn P w d e cs'
    | some (.struct fs) => cs.length = P.cellsOf t ∧ ∀ f ∈ fs.toList, Opn P w d f.type ((cs.drop f.offset).take (P.cellsOf f.type))
    | some (.array n e) => cs.length = P.cellsOf t ∧ ∀ i, i < n → Opn P w d e ((cs.drop (i * P.cellsOf e)).take (P.cellsOf e))
    | _ => True

theorem w_all {H : Type} {P : Program} {e : TypeId} : ∀ {l : List (DataW H)} {d : DataW H} {y : Nat}, d ∈ l → y ∈ d.weights P e → y ∈ DataW.weightsAll P e l
  | [], _, _, h, _ => by cases h
  | x :: l, d, y, h, hy => by
    simp only [DataW.weightsAll, List.mem_append]
    rcases List.mem_cons.1 h with rfl | h
    · exact .inl hy
    · exact .inr (w_all h hy)

theorem w_each {H : Type} {P : Program} : ∀ {ts : List TypeId} {l : List (DataW H)} {i : Nat} {t : TypeId} {d : DataW H} {y : Nat}, ts[i]? = some t → l[i]? = some d → y ∈ d.weights P t → y ∈ DataW.weightsEach P ts l
  | [], _, _, _, _, _, h, _, _ => by simp at h
  | _ :: _, [], _, _, _, _, _, h, _ => by simp at h
  | t0 :: ts, d0 :: l, i, t, d, y, h1, h2, hy => by
    simp only [DataW.weightsEach, List.mem_append]
    cases i with
    | zero => simp at h1 h2; subst h1 h2; exact .inl hy
    | succ i => exact .inr (w_each (i := i) (by simpa using h1) (by simpa using h2) hy)

theorem opn_trod {H : Type} {enc : TypeId × Value → H} {P : Program} {w : World} {spare : Nat → Bool} {held : Bool} : ∀ (d : Nat) {fuel : Nat} {t : TypeId} {cs : List Value} {x : DataW H × List MemPlace},
    DataW.trod enc P w 0 spare held fuel t cs = some x → (∀ y ∈ x.1.weights P t, y ≤ reachBytes) → Opn P w d t cs
  | 0, _, _, _, _, _, _ => trivial
  | d + 1, fuel, t, cs, x, h, hw => by
    unfold Opn
    split
    · rename_i hu
      obtain ⟨b, rfl, _⟩ := DataW.trod_bool hu h
      exact ⟨b, rfl⟩
    · rename_i k hu
      obtain ⟨n, rfl, _, hw⟩ := DataW.trod_int hu h
      exact ⟨n, rfl, hw⟩
    · rename_i hu
      obtain ⟨s, rfl, _, hs⟩ := DataW.trod_string hu h
      exact ⟨s, rfl, hs⟩
    · rename_i e hu
      rcases open_slice hu h with ⟨rfl, _⟩ | ⟨a, l, c, m, n, D, Pl, rfl, _, hl, hc, hm, hx, hi⟩
      · exact ⟨none, 0, 0, rfl, Nat.le_refl _, Nat.zero_le _, fun _ => rfl, by simp, fun i hi => by omega⟩
      · subst hx
        simp only [DataW.weights, hu, List.length_map, List.length_range, List.mem_cons, List.mem_append] at hw
        have hlm : l ≤ m := by rw [hm]; split <;> omega
        have hb := hw _ (.inl rfl)
        refine ⟨some a, l, c, rfl, hl, hc, fun h => (by cases h), ?_, fun i hil => ?_⟩
        · exact Nat.le_trans (Nat.mul_le_mul_right _ (by omega)) hb
        · obtain ⟨cs', h1, h2⟩ := hi i (by omega)
          exact ⟨a, cs', rfl, h1, opn_trod d h2 fun y hy => hw y (.inr (.inl (w_all (List.mem_map.2 ⟨i, by simpa using hil, rfl⟩) hy)))⟩
    · rename_i fs hu
      obtain ⟨xs, n, _, rfl, hc, hl, hf⟩ := DataW.trod_struct hu h
      refine ⟨hc, fun f hm => ?_⟩
      obtain ⟨i, hi, rfl⟩ := List.mem_iff_getElem.1 hm
      have hi' : i < fs.size := by simpa using hi
      have h2 := hf i fs.toList[i] (by simp [hi'])
      rw [List.getElem?_eq_getElem (by omega)] at h2
      simp only [DataW.weights, hu] at hw
      exact opn_trod d h2 fun y hy => hw y (w_each (i := i) (by simp [hi']) (by rw [List.getElem?_map, List.getElem?_eq_getElem (by omega)]; rfl) hy)
    · rename_i n e hu
      obtain ⟨xs, m, _, rfl, hc, hl, hf⟩ := DataW.trod_array hu h
      refine ⟨hc, fun i hi => ?_⟩
      have h2 := hf i hi
      rw [List.getElem?_eq_getElem (by omega)] at h2
      simp only [DataW.weights, hu] at hw
      exact opn_trod d h2 fun y hy => hw y (w_all (List.mem_map.2 ⟨_, List.getElem_mem (by omega), rfl⟩) hy)
    · trivial

end Go.Vc

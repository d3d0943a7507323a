import Derived.Test.YtdpcgfcabikjmaaGreatDoorBy
namespace Go.Vc

/-! Something of a family is owned. -/
def exA {α : Type} (f : α → Asn) : Asn where
  p w F := ∃ a, (f a).p w F
  loc := fun ⟨a, h⟩ hc hd => ⟨a, (f a).loc h hc hd⟩
  lt := fun ⟨a, h⟩ => (f a).lt h

theorem St.ex {α : Type} {f : α → Asn} {w0 w : World} {B : Asn} (h : St w0 w (star (exA f) B)) : ∃ a, St w0 w (star (f a) B) := by
  obtain ⟨F, ⟨F1, F2, rfl, ⟨a, h1⟩, h2, hd⟩, hc, hn⟩ := h
  exact ⟨a, _, ⟨F1, F2, rfl, h1, h2, hd⟩, hc, hn⟩

theorem St.mkEx {α : Type} {f : α → Asn} {w0 w : World} {B : Asn} (a : α) (h : St w0 w (star (f a) B)) : St w0 w (star (exA f) B) := by
  obtain ⟨F, ⟨F1, F2, rfl, h1, h2, hd⟩, hc, hn⟩ := h
  exact ⟨_, ⟨F1, F2, rfl, ⟨a, h1⟩, h2, hd⟩, hc, hn⟩

theorem Eqv.swap {A B : Asn} : Eqv (star A B) (star B A) := by
  rintro w F ⟨F1, F2, rfl, h1, h2, hd⟩
  exact ⟨F2 ++ F1, ⟨F2, F1, rfl, h2, h1, fun k hk hk' => hd k hk' hk⟩, fun j => by simp [or_comm]⟩

theorem Eqv.assoc {A B C : Asn} : Eqv (star (star A B) C) (star A (star B C)) := by
  rintro w F ⟨F1, F2, rfl, ⟨G1, G2, rfl, h1, h2, hd1⟩, h3, hd⟩
  refine ⟨G1 ++ (G2 ++ F2), ⟨G1, G2 ++ F2, rfl, h1, ⟨G2, F2, rfl, h2, h3, fun k hk => hd k (by simp [hk])⟩, fun k hk hk' => ?_⟩, fun j => by simp⟩
  rcases List.mem_append.1 hk' with h | h
  · exact hd1 k hk h
  · exact hd k (by simp [hk]) h

theorem Eqv.assoc' {A B C : Asn} : Eqv (star A (star B C)) (star (star A B) C) := by
  rintro w F ⟨F1, F2, rfl, h1, ⟨G1, G2, rfl, h2, h3, hd1⟩, hd⟩
  refine ⟨(F1 ++ G1) ++ G2, ⟨F1 ++ G1, G2, rfl, ⟨F1, G1, rfl, h1, h2, fun k hk hk' => hd k hk (by simp [hk'])⟩, h3, fun k hk hk' => ?_⟩, fun j => by simp⟩
  rcases List.mem_append.1 hk with h | h
  · exact hd k h (by simp [hk'])
  · exact hd1 k h hk'

theorem Eqv.unit (A : Asn) : Eqv A (star A emp) := fun _ F h => ⟨F ++ [], ⟨F, [], rfl, h, rfl, by simp⟩, fun j => by simp⟩

theorem Eqv.flat {B : Asn} : ∀ (l : List Asn), Eqv (star (Sep l) B) (Sep (l ++ [B]))
  | [] => Eqv.swap
  | _ :: l => Eqv.assoc.trans (Eqv.right (Eqv.flat l))

theorem Eqv.unflat {B : Asn} : ∀ (l : List Asn), Eqv (Sep (l ++ [B])) (star (Sep l) B)
  | [] => Eqv.swap
  | _ :: l => (Eqv.right (Eqv.unflat l)).trans Eqv.assoc'

theorem St.flat {w0 w : World} {l : List Asn} {B : Asn} (h : St w0 w (star (Sep l) B)) : St w0 w (Sep (l ++ [B])) := h.eqv (Eqv.flat l)
theorem St.unflat {w0 w : World} {B : Asn} (l : List Asn) (h : St w0 w (Sep (l ++ [B]))) : St w0 w (star (Sep l) B) := h.eqv (Eqv.unflat l)

end Go.Vc

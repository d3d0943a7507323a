import Derived.Test.YtniehglfkacjjaaDoorjMd3
namespace Go.Proofs.YtniehglfkacjjaaDoor
open Go Go.Vc

theorem new_calls (w : World) (n : Int) :
    Calls Tryd.prog 11 #[.int .i64 n] w (RetC fun r w' => if n < 1 ∨ 262144 < n then r = .tuple #[.pointer none, .int .i64 4] ∧ w' = w else
      ∃ y, r = .tuple #[.pointer (some ⟨y, 0, none⟩), .int .i64 0] ∧ Med w' y ⟨n, [], 0, false, none⟩ [y] ∧ Chg w w' [] ∧ w.heap.size ≤ y) := by
  refine mNew_ok ?_
  unfold mNew
  refine ⟨fun b w' => w' = w ∧ b = decide (n < 1 ∨ 262144 < n), ?_, ?_⟩
  · rintro w1 b ⟨rfl, rfl⟩ -
    by_cases hbad : n < 1 ∨ 262144 < n
    · rw [decide_eq_true hbad, cond_true]
      dsimp only
      rw [if_pos hbad]
      exact ⟨rfl, rfl⟩
    · rw [decide_eq_false hbad, cond_false]
      refine newK_mk ?_
      dsimp only
      rw [if_neg hbad]
      refine ⟨w1.heap.size, rfl, ⟨.slice none 0 0, ⟨?_, World.ownsRow_nil _ _ _ _, by simp [Value.ownBlock]⟩, by simp [Value.ownBlock]⟩, Chg.new _ _ _, Nat.le_refl _⟩
      rw [heap_new, if_pos rfl]
      rfl
  · by_cases h1 : n < 1
    · rw [decide_eq_true h1]; exact ⟨rfl, (decide_eq_true (Or.inl h1)).symm⟩
    · rw [decide_eq_false h1]
      refine ⟨rfl, ?_⟩
      rw [decide_eq_decide]
      omega

end Go.Proofs.YtniehglfkacjjaaDoor

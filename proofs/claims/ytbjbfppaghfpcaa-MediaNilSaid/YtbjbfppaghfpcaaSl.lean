import Derived.Test.YtbjbfppaghfpcaaHp2
namespace Go.Vc

/-- A claim on the blocks that it lists: what happens to other blocks does not touch it. -/
structure Asn where
  p : World → List Nat → Prop
  loc : ∀ {w w' : World} {F G : List Nat}, p w F → Chg w w' G → (∀ k ∈ F, k ∉ G) → p w' F
  lt : ∀ {w : World} {F : List Nat}, p w F → ∀ k ∈ F, k < w.heap.size

/-- From w to w' it has become A, of its own blocks and new ones; nothing else has changed. -/
def To (A : Asn) (w w' : World) (F : List Nat) : Prop := ∃ F', A.p w' F' ∧ Chg w w' F ∧ ∀ k ∈ F', k ∈ F ∨ w.heap.size ≤ k

def star (A B : Asn) : Asn where
  p w F := ∃ F1 F2, F = F1 ++ F2 ∧ A.p w F1 ∧ B.p w F2 ∧ ∀ k ∈ F1, k ∉ F2
  loc := by
    rintro w w' F G ⟨F1, F2, rfl, h1, h2, hd⟩ hc hn
    exact ⟨F1, F2, rfl, A.loc h1 hc fun k hk => hn k (List.mem_append_left _ hk), B.loc h2 hc fun k hk => hn k (List.mem_append_right _ hk), hd⟩
  lt := by
    rintro w F ⟨F1, F2, rfl, h1, h2, hd⟩ k hk
    rcases List.mem_append.1 hk with h | h
    · exact A.lt h1 k h
    · exact B.lt h2 k h

theorem star_left {A A' B : Asn} {w w' : World} {F : List Nat} (h : (star A B).p w F) (k : ∀ F1, A.p w F1 → To A' w w' F1) : To (star A' B) w w' F := by
  obtain ⟨F1, F2, rfl, h1, h2, hd⟩ := h
  obtain ⟨F1', h1', hc, hf⟩ := k F1 h1
  refine ⟨F1' ++ F2, ⟨F1', F2, rfl, h1', B.loc h2 hc fun j hj hj1 => hd j hj1 hj, fun j hj hj2 => ?_⟩, hc.mono fun j hj => List.mem_append_left _ hj, fun j hj => ?_⟩
  · rcases hf j hj with h | h
    · exact hd j h hj2
    · have := B.lt h2 j hj2; omega
  · rcases List.mem_append.1 hj with h | h
    · exact (hf j h).imp (fun h => List.mem_append_left _ h) id
    · exact .inl (List.mem_append_right _ h)

theorem star_right {A B B' : Asn} {w w' : World} {F : List Nat} (h : (star A B).p w F) (k : ∀ F1, B.p w F1 → To B' w w' F1) : To (star A B') w w' F := by
  obtain ⟨F1, F2, rfl, h1, h2, hd⟩ := h
  obtain ⟨F2', h2', hc, hf⟩ := k F2 h2
  refine ⟨F1 ++ F2', ⟨F1, F2', rfl, A.loc h1 hc fun j hj hj1 => hd j hj hj1, h2', fun j hj hj2 => ?_⟩, hc.mono fun j hj => List.mem_append_right _ hj, fun j hj => ?_⟩
  · rcases hf j hj2 with h | h
    · exact hd j hj h
    · have := A.lt h1 j hj; omega
  · rcases List.mem_append.1 hj with h | h
    · exact .inl (List.mem_append_left _ h)
    · exact (hf j h).imp (fun h => List.mem_append_right _ h) id

/-- Since w0 only new blocks have been written, and A holds of new blocks. -/
def St (w0 w : World) (A : Asn) : Prop := ∃ F, A.p w F ∧ Chg w0 w [] ∧ ∀ k ∈ F, w0.heap.size ≤ k

theorem St.chg {w0 w : World} {A : Asn} (h : St w0 w A) : Chg w0 w [] := let ⟨_, _, hc, _⟩ := h; hc

theorem St.to {w0 w w' : World} {A A' : Asn} (h : St w0 w A) (k : ∀ F, A.p w F → To A' w w' F) : St w0 w' A' := by
  obtain ⟨F, hA, hc, hn⟩ := h
  obtain ⟨F', hA', hc', hf⟩ := k F hA
  refine ⟨F', hA', hc.trans hc' (fun i hi => .inr (hn i hi)), fun j hj => ?_⟩
  rcases hf j hj with h | h
  · exact hn j h
  · exact Nat.le_trans hc.size h

theorem St.left {w0 w w' : World} {A A' B : Asn} (h : St w0 w (star A B)) (k : ∀ F, A.p w F → To A' w w' F) : St w0 w' (star A' B) := h.to fun _ hF => star_left hF k
theorem St.right {w0 w w' : World} {A B B' : Asn} (h : St w0 w (star A B)) (k : ∀ F, B.p w F → To B' w w' F) : St w0 w' (star A B') := h.to fun _ hF => star_right hF k

/-- One of two: its blocks, and what follows when it alone has changed. -/
theorem St.use {w0 w : World} {A B : Asn} (h : St w0 w (star A B)) : ∃ F1, A.p w F1 ∧ ∀ w' A', To A' w w' F1 → St w0 w' (star A' B) := by
  obtain ⟨F, ⟨F1, F2, rfl, h1, h2, hd⟩, hc, hn⟩ := h
  refine ⟨F1, h1, fun w' A' ⟨F1', h1', hc', hf⟩ => ?_⟩
  refine ⟨F1' ++ F2, ⟨F1', F2, rfl, h1', B.loc h2 hc' fun j hj hj1 => hd j hj1 hj, fun j hj hj2 => ?_⟩, hc.trans hc' (fun i hi => .inr (hn i (List.mem_append_left _ hi))), fun j hj => ?_⟩
  · rcases hf j hj with h | h
    · exact hd j h hj2
    · have := B.lt h2 j hj2; omega
  · rcases List.mem_append.1 hj with h | h
    · rcases hf j h with h | h
      · exact hn j (List.mem_append_left _ h)
      · exact Nat.le_trans hc.size h
    · exact hn j (List.mem_append_right _ h)

theorem St.quiet {w0 w w' : World} {A : Asn} (h : St w0 w A) (hc : Chg w w' []) : St w0 w' A := by
  obtain ⟨F, hA, hc0, hn⟩ := h
  exact ⟨F, A.loc hA hc (by simp), hc0.trans hc (by simp), hn⟩

theorem St.add {w0 w w' : World} {A B : Asn} {G : List Nat} (h : St w0 w A) (hc : Chg w w' []) (hB : B.p w' G) (hG : ∀ k ∈ G, w.heap.size ≤ k) : St w0 w' (star A B) := by
  obtain ⟨F, hA, hc0, hn⟩ := h
  refine ⟨F ++ G, ⟨F, G, rfl, A.loc hA hc (by simp), hB, fun k hk hk2 => ?_⟩, hc0.trans hc (by simp), fun k hk => ?_⟩
  · have := A.lt hA k hk
    have := hG k hk2
    omega
  · rcases List.mem_append.1 hk with h | h
    · exact hn k h
    · exact Nat.le_trans hc0.size (hG k h)

def emp : Asn where
  p _ F := F = []
  loc := fun h _ _ => h
  lt := fun h k hk => by subst h; cases hk

theorem St.start (w : World) : St w w emp := ⟨[], rfl, Chg.refl _ _, by simp⟩
theorem St.start' {w w' : World} (h : Chg w w' []) : St w w' emp := ⟨[], rfl, h, by simp⟩

theorem St.first {w0 w : World} {A B : Asn} (h : St w0 w (star A B)) : St w0 w A := by
  obtain ⟨F, ⟨F1, F2, rfl, h1, _, _⟩, hc, hn⟩ := h
  exact ⟨F1, h1, hc, fun k hk => hn k (List.mem_append_left _ hk)⟩
theorem St.second {w0 w : World} {A B : Asn} (h : St w0 w (star A B)) : St w0 w B := by
  obtain ⟨F, ⟨F1, F2, rfl, _, h2, _⟩, hc, hn⟩ := h
  exact ⟨F2, h2, hc, fun k hk => hn k (List.mem_append_right _ hk)⟩
theorem St.swap {w0 w : World} {A B : Asn} (h : St w0 w (star A B)) : St w0 w (star B A) := by
  obtain ⟨F, ⟨F1, F2, rfl, h1, h2, hd⟩, hc, hn⟩ := h
  exact ⟨F2 ++ F1, ⟨F2, F1, rfl, h2, h1, fun k hk hk1 => hd k hk1 hk⟩, hc, fun k hk => hn k (by simpa [or_comm] using hk)⟩
theorem St.get {w0 w : World} {A : Asn} (h : St w0 w A) : ∃ F, A.p w F := let ⟨F, hF, _⟩ := h; ⟨F, hF⟩

end Go.Vc

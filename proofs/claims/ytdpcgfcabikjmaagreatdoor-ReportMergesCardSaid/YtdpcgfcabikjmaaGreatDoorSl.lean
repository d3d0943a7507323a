import Derived.Test.YtdpcgfcabikjmaaGreatDoorHp2
namespace Go.Vc

/-- A claim on the blocks that it lists: what happens to other blocks does not touch it. -/
structure Asn where
  p : World → List Nat → Prop
  loc : ∀ {w w' : World} {F G : List Nat}, p w F → Chg w w' G → (∀ k ∈ F, k ∉ G) → p w' F
  lt : ∀ {w : World} {F : List Nat}, p w F → ∀ k ∈ F, k < w.heap.size

/-- From w to w' it has become A, of its own blocks and new ones; nothing else has changed. -/
def To (A : Asn) (w w' : World) (F : List Nat) : Prop := ∃ F', A.p w' F' ∧ Chg w w' F ∧ ∀ k ∈ F', k ∈ F ∨ w.heap.size ≤ k

def star (A B : Asn) : Asn where
  p w F := ∃ F1 F2, F = F1 ++ F2 ∧ A.p w F1 ∧ B.p w F2 ∧ ∀ k ∈ F1, k ∉ F2
  loc := by
    rintro w w' F G ⟨F1, F2, rfl, h1, h2, hd⟩ hc hn
    exact ⟨F1, F2, rfl, A.loc h1 hc fun k hk => hn k (List.mem_append_left _ hk), B.loc h2 hc fun k hk => hn k (List.mem_append_right _ hk), hd⟩
  lt := by
    rintro w F ⟨F1, F2, rfl, h1, h2, hd⟩ k hk
    rcases List.mem_append.1 hk with h | h
    · exact A.lt h1 k h
    · exact B.lt h2 k h

theorem star_left {A A' B : Asn} {w w' : World} {F : List Nat} (h : (star A B).p w F) (k : ∀ F1, A.p w F1 → To A' w w' F1) : To (star A' B) w w' F := by
  obtain ⟨F1, F2, rfl, h1, h2, hd⟩ := h
  obtain ⟨F1', h1', hc, hf⟩ := k F1 h1
  refine ⟨F1' ++ F2, ⟨F1', F2, rfl, h1', B.loc h2 hc fun j hj hj1 => hd j hj1 hj, fun j hj hj2 => ?_⟩, hc.mono fun j hj => List.mem_append_left _ hj, fun j hj => ?_⟩
  · rcases hf j hj with h | h
    · exact hd j h hj2
    · have := B.lt h2 j hj2; omega
  · rcases List.mem_append.1 hj with h | h
    · exact (hf j h).imp (fun h => List.mem_append_left _ h) id
    · exact .inl (List.mem_append_right _ h)

theorem star_right {A B B' : Asn} {w w' : World} {F : List Nat} (h : (star A B).p w F) (k : ∀ F1, B.p w F1 → To B' w w' F1) : To (star A B') w w' F := by
  obtain ⟨F1, F2, rfl, h1, h2, hd⟩ := h
  obtain ⟨F2', h2', hc, hf⟩ := k F2 h2
  refine ⟨F1 ++ F2', ⟨F1, F2', rfl, A.loc h1 hc fun j hj hj1 => hd j hj hj1, h2', fun j hj hj2 => ?_⟩, hc.mono fun j hj => List.mem_append_right _ hj, fun j hj => ?_⟩
  · rcases hf j hj2 with h | h
    · exact hd j hj h
    · have := A.lt h1 j hj; omega
  · rcases List.mem_append.1 hj with h | h
    · exact .inl (List.mem_append_left _ h)
    · exact (hf j h).imp (fun h => List.mem_append_right _ h) id

/-- Since w0 only new blocks have been written, and A holds of new blocks. -/
def St (w0 w : World) (A : Asn) : Prop := ∃ F, A.p w F ∧ Chg w0 w [] ∧ ∀ k ∈ F, w0.heap.size ≤ k

theorem St.chg {w0 w : World} {A : Asn} (h : St w0 w A) : Chg w0 w [] := let ⟨_, _, hc, _⟩ := h; hc

theorem St.to {w0 w w' : World} {A A' : Asn} (h : St w0 w A) (k : ∀ F, A.p w F → To A' w w' F) : St w0 w' A' := by
  obtain ⟨F, hA, hc, hn⟩ := h
  obtain ⟨F', hA', hc', hf⟩ := k F hA
  refine ⟨F', hA', hc.trans hc' (fun i hi => .inr (hn i hi)), fun j hj => ?_⟩
  rcases hf j hj with h | h
  · exact hn j h
  · exact Nat.le_trans hc.size h

theorem St.left {w0 w w' : World} {A A' B : Asn} (h : St w0 w (star A B)) (k : ∀ F, A.p w F → To A' w w' F) : St w0 w' (star A' B) := h.to fun _ hF => star_left hF k
theorem St.right {w0 w w' : World} {A B B' : Asn} (h : St w0 w (star A B)) (k : ∀ F, B.p w F → To B' w w' F) : St w0 w' (star A B') := h.to fun _ hF => star_right hF k

/-- One of two: its blocks, and what follows when it alone has changed. -/
theorem St.use {w0 w : World} {A B : Asn} (h : St w0 w (star A B)) : ∃ F1, A.p w F1 ∧ ∀ w' A', To A' w w' F1 → St w0 w' (star A' B) := by
  obtain ⟨F, ⟨F1, F2, rfl, h1, h2, hd⟩, hc, hn⟩ := h
  refine ⟨F1, h1, fun w' A' ⟨F1', h1', hc', hf⟩ => ?_⟩
  refine ⟨F1' ++ F2, ⟨F1', F2, rfl, h1', B.loc h2 hc' fun j hj hj1 => hd j hj1 hj, fun j hj hj2 => ?_⟩, hc.trans hc' (fun i hi => .inr (hn i (List.mem_append_left _ hi))), fun j hj => ?_⟩
  · rcases hf j hj with h | h
    · exact hd j h hj2
    · have := B.lt h2 j hj2; omega
  · rcases List.mem_append.1 hj with h | h
    · rcases hf j h with h | h
      · exact hn j (List.mem_append_left _ h)
      · exact Nat.le_trans hc.size h
    · exact hn j (List.mem_append_right _ h)

theorem St.quiet {w0 w w' : World} {A : Asn} (h : St w0 w A) (hc : Chg w w' []) : St w0 w' A := by
  obtain ⟨F, hA, hc0, hn⟩ := h
  exact ⟨F, A.loc hA hc (by simp), hc0.trans hc (by simp), hn⟩

theorem St.add {w0 w w' : World} {A B : Asn} {G : List Nat} (h : St w0 w A) (hc : Chg w w' []) (hB : B.p w' G) (hG : ∀ k ∈ G, w.heap.size ≤ k) : St w0 w' (star A B) := by
  obtain ⟨F, hA, hc0, hn⟩ := h
  refine ⟨F ++ G, ⟨F, G, rfl, A.loc hA hc (by simp), hB, fun k hk hk2 => ?_⟩, hc0.trans hc (by simp), fun k hk => ?_⟩
  · have := A.lt hA k hk
    have := hG k hk2
    omega
  · rcases List.mem_append.1 hk with h | h
    · exact hn k h
    · exact Nat.le_trans hc0.size (hG k h)

def emp : Asn where
  p _ F := F = []
  loc := fun h _ _ => h
  lt := fun h k hk => by subst h; cases hk

theorem St.start (w : World) : St w w emp := ⟨[], rfl, Chg.refl _ _, by simp⟩
theorem St.start' {w w' : World} (h : Chg w w' []) : St w w' emp := ⟨[], rfl, h, by simp⟩

theorem St.first {w0 w : World} {A B : Asn} (h : St w0 w (star A B)) : St w0 w A := by
  obtain ⟨F, ⟨F1, F2, rfl, h1, _, _⟩, hc, hn⟩ := h
  exact ⟨F1, h1, hc, fun k hk => hn k (List.mem_append_left _ hk)⟩
theorem St.second {w0 w : World} {A B : Asn} (h : St w0 w (star A B)) : St w0 w B := by
  obtain ⟨F, ⟨F1, F2, rfl, _, h2, _⟩, hc, hn⟩ := h
  exact ⟨F2, h2, hc, fun k hk => hn k (List.mem_append_right _ hk)⟩
theorem St.swap {w0 w : World} {A B : Asn} (h : St w0 w (star A B)) : St w0 w (star B A) := by
  obtain ⟨F, ⟨F1, F2, rfl, h1, h2, hd⟩, hc, hn⟩ := h
  exact ⟨F2 ++ F1, ⟨F2, F1, rfl, h2, h1, fun k hk hk1 => hd k hk1 hk⟩, hc, fun k hk => hn k (by simpa [or_comm] using hk)⟩
theorem St.get {w0 w : World} {A : Asn} (h : St w0 w A) : ∃ F, A.p w F := let ⟨F, hF, _⟩ := h; ⟨F, hF⟩

theorem St.rot {w0 w : World} {A B C : Asn} (h : St w0 w (star A (star B C))) : St w0 w (star B (star A C)) := by
  obtain ⟨F, ⟨F1, F', rfl, h1, ⟨F2, F3, rfl, h2, h3, hd2⟩, hd⟩, hc, hn⟩ := h
  refine ⟨F2 ++ (F1 ++ F3), ⟨F2, F1 ++ F3, rfl, h2, ⟨F1, F3, rfl, h1, h3, fun k hk hk3 => hd k hk (List.mem_append_right _ hk3)⟩, fun k hk hk1 => ?_⟩, hc, fun k hk => hn k ?_⟩
  · rcases List.mem_append.1 hk1 with h | h
    · exact hd k h (List.mem_append_left _ hk)
    · exact hd2 k hk h
  · simp only [List.mem_append] at hk ⊢
    rcases hk with h | h | h
    · exact .inr (.inl h)
    · exact .inl h
    · exact .inr (.inr h)

theorem St.assoc {w0 w : World} {A B C : Asn} (h : St w0 w (star (star A B) C)) : St w0 w (star A (star B C)) := by
  obtain ⟨F, ⟨F', F3, rfl, ⟨F1, F2, rfl, h1, h2, hd2⟩, h3, hd⟩, hc, hn⟩ := h
  refine ⟨F1 ++ (F2 ++ F3), ⟨F1, F2 ++ F3, rfl, h1, ⟨F2, F3, rfl, h2, h3, fun k hk hk3 => hd k (List.mem_append_right _ hk) hk3⟩, fun k hk hk1 => ?_⟩, hc, fun k hk => hn k ?_⟩
  · rcases List.mem_append.1 hk1 with h | h
    · exact hd2 k hk h
    · exact hd k (List.mem_append_left _ hk) h
  · simpa using hk

/-- A block that is known whole. -/
def boxA (r : Nat) (cs : Array Value) (T : TypeId) : Asn where
  p w F := w.heap[r]? = some (.cells cs T (0, 0)) ∧ F = [r]
  loc := fun ⟨h, he⟩ hc hd => ⟨hc.keep h (hd _ (by rw [he]; simp)), he⟩
  lt := fun ⟨h, he⟩ k hk => by subst he; simp at hk; subst hk; exact lt_of_heap h

theorem St.box {w0 w : World} {A : Asn} (h : St w0 w A) (cs : Array Value) (T : TypeId) : St w0 (w.alloc (.cells cs T)) (star A (boxA w.heap.size cs T)) :=
  h.add (Chg.new _ _ _) (B := boxA w.heap.size cs T) ⟨by rw [heap_new, if_pos rfl], rfl⟩ (by simp)

theorem St.boxed {w0 w : World} {B : Asn} {r : Nat} {cs : Array Value} {T : TypeId} (h : St w0 w (star (boxA r cs T) B)) (i : Nat) : w.cell? ⟨r, i, none⟩ = cs[i]? := by
  obtain ⟨F, hF⟩ := h.first.get
  rw [cell_blk, hF.1, getC_cells]

theorem cell_chg {w w' : World} {a : Addr} {v : Value} (h : w.cell? a = some v) (hc : Chg w w' []) : w'.cell? a = some v := by
  rw [World.cell?_of_block (hc.same a.block (World.block_lt_of_cell? w a h) (by simp))]; exact h

theorem cellsAt_chg {w w' : World} {a : Addr} (hc : Chg w w' []) : ∀ {vs : List Value} {i : Nat}, cellsAt w a i vs → cellsAt w' a i vs
  | [], _, _ => trivial
  | _ :: _, _, h => ⟨cell_chg h.1 hc, cellsAt_chg hc h.2⟩


/-! Claims side by side, in a list. -/
def Eqv (A B : Asn) : Prop := ∀ w F, A.p w F → ∃ F', B.p w F' ∧ ∀ j, j ∈ F' ↔ j ∈ F

theorem Eqv.refl (A : Asn) : Eqv A A := fun _ F h => ⟨F, h, fun _ => Iff.rfl⟩
theorem Eqv.trans {A B C : Asn} (h : Eqv A B) (k : Eqv B C) : Eqv A C := fun w F hA =>
  let ⟨F', hB, h1⟩ := h w F hA
  let ⟨F'', hC, h2⟩ := k w F' hB
  ⟨F'', hC, fun j => (h2 j).trans (h1 j)⟩
theorem Eqv.right {A B C : Asn} (h : Eqv B C) : Eqv (star A B) (star A C) := by
  rintro w F ⟨F1, F2, rfl, h1, h2, hd⟩
  obtain ⟨F2', h2', hj⟩ := h w F2 h2
  exact ⟨F1 ++ F2', ⟨F1, F2', rfl, h1, h2', fun k hk hk2 => hd k hk ((hj k).1 hk2)⟩, fun j => by simp [hj]⟩
theorem Eqv.rot {A B C : Asn} : Eqv (star A (star B C)) (star B (star A C)) := by
  rintro w F ⟨F1, F', rfl, h1, ⟨F2, F3, rfl, h2, h3, hd2⟩, hd⟩
  refine ⟨F2 ++ (F1 ++ F3), ⟨F2, F1 ++ F3, rfl, h2, ⟨F1, F3, rfl, h1, h3, fun k hk hk3 => hd k hk (List.mem_append_right _ hk3)⟩, fun k hk hk1 => ?_⟩, fun j => by simp; constructor <;> (rintro (h | h | h) <;> simp [h])⟩
  rcases List.mem_append.1 hk1 with h | h
  · exact hd k h (List.mem_append_left _ hk)
  · exact hd2 k hk h

theorem St.eqv {w0 w : World} {A B : Asn} (h : St w0 w A) (k : Eqv A B) : St w0 w B := by
  obtain ⟨F, hA, hc, hn⟩ := h
  obtain ⟨F', hB, hj⟩ := k w F hA
  exact ⟨F', hB, hc, fun j hj' => hn j ((hj j).1 hj')⟩

def Sep : List Asn → Asn
  | [] => emp
  | A :: l => star A (Sep l)

def pull : Nat → List Asn → List Asn
  | 0, l => l
  | _ + 1, [] => []
  | i + 1, A :: l => match pull i l with
    | [] => [A]
    | B :: l' => B :: A :: l'

def push : Nat → List Asn → List Asn
  | 0, l => l
  | i + 1, A :: B :: l => B :: push i (A :: l)
  | _ + 1, l => l

theorem Eqv.pull : ∀ (i : Nat) (l : List Asn), Eqv (Sep l) (Sep (pull i l))
  | 0, _ => Eqv.refl _
  | _ + 1, [] => Eqv.refl _
  | i + 1, A :: l => by
    have h := Eqv.right (A := A) (Eqv.pull i l)
    unfold Vc.pull
    cases hp : Vc.pull i l with
    | nil => rw [hp] at h; exact h
    | cons B l' => rw [hp] at h; exact h.trans Eqv.rot

theorem Eqv.push : ∀ (i : Nat) (l : List Asn), Eqv (Sep l) (Sep (push i l))
  | 0, _ => Eqv.refl _
  | _ + 1, [] => Eqv.refl _
  | _ + 1, [_] => Eqv.refl _
  | i + 1, A :: B :: l => Eqv.rot.trans (Eqv.right (A := B) (Eqv.push i (A :: l)))

theorem St.pull {w0 w : World} {l : List Asn} (h : St w0 w (Sep l)) (i : Nat) : St w0 w (Sep (Vc.pull i l)) := h.eqv (Eqv.pull i l)
theorem St.push {w0 w : World} {l : List Asn} (h : St w0 w (Sep l)) (i : Nat) : St w0 w (Sep (Vc.push i l)) := h.eqv (Eqv.push i l)

end Go.Vc

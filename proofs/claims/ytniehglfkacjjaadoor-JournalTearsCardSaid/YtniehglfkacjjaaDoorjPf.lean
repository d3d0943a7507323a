import Derived.Test.YtniehglfkacjjaaDoorjOp
namespace Go.Proofs.YtniehglfkacjjaaDoor
open Go Go.Vc

/-! Frames are read back as what was written. -/
theorem rdF_enc : ∀ (k y i x : Nat) (t : List UInt8), k + i = 9 → y < 128 ^ (9 - i) → (0 < i → 0 < y) → rdF (uintF k y ++ t) i x = .inr (x + y * 2 ^ (7 * i), t)
  | 0, y, i, x, t, hi, hy, hp => by
    obtain rfl : i = 9 := by omega
    have := hp (by decide)
    simp at hy
    omega
  | k + 1, y, i, x, t, hi, hy, hp => by
    have h9 : ¬ i = 9 := by omega
    unfold uintF
    by_cases h : y < 128
    · rw [if_pos h]
      have hb : (UInt8.ofNat (y % 256)).toNat = y := by rw [UInt8.toNat_ofNat']; omega
      show rdF (UInt8.ofNat (y % 256) :: t) i x = _
      unfold rdF
      rw [hb, if_neg (fun hh => h9 hh.1), if_neg (by omega), if_neg (fun hh => by have := hp hh.2; omega)]
    · rw [if_neg h]
      have hb : (UInt8.ofNat (y % 128 + 128)).toNat = y % 128 + 128 := by rw [UInt8.toNat_ofNat']; omega
      show rdF (UInt8.ofNat (y % 128 + 128) :: (uintF k (y / 128) ++ t)) i x = _
      unfold rdF
      rw [hb, if_neg (fun hh => h9 hh.1), if_pos (by omega), rdF_enc k (y / 128) (i + 1) _ t (by omega) ?_ (fun _ => by omega)]
      · congr 2
        rw [show (y % 128 + 128) % 128 = y % 128 by omega, show 7 * (i + 1) = 7 * i + 7 by omega, Nat.pow_add]
        generalize 2 ^ (7 * i) = p
        have h1 : y = 128 * (y / 128) + y % 128 := (Nat.div_add_mod y 128).symm
        have h2 : y / 128 * (p * 2 ^ 7) = 128 * (y / 128) * p := by
          rw [show (2 : Nat) ^ 7 = 128 from rfl, Nat.mul_comm p 128, ← Nat.mul_assoc, Nat.mul_comm (y / 128) 128]
        rw [h2, Nat.add_assoc, ← Nat.add_mul, Nat.add_comm (y % 128), ← h1]
      · have : 9 - i = (9 - (i + 1)) + 1 := by omega
        rw [this, Nat.pow_succ] at hy
        exact Nat.div_lt_of_lt_mul (by omega)

theorem textR_enc (s t : List UInt8) (hs : s.length ≤ 4000) : textR (textM s ++ t) = some (s, t) := by
  unfold textR textM uintM
  rw [List.append_assoc, rdF_enc 9 s.length 0 0 (s ++ t) rfl (by simp; omega) (by omega)]
  simp only [Nat.mul_zero, Nat.pow_zero, Nat.mul_one, Nat.zero_add]
  rw [if_neg (by omega), if_neg (by simp)]
  simp

theorem rdF_mono : ∀ (l : List UInt8) (i x n : Nat) (t q : List UInt8), rdF l i x = .inr (n, t) → rdF (l ++ q) i x = .inr (n, t ++ q)
  | [], _, _, _, _, _, h => by unfold rdF at h; cases h
  | b :: l, i, x, n, t, q, h => by
    rw [List.cons_append]
    unfold rdF at h ⊢
    split at h
    · cases h
    · rename_i h1
      rw [if_neg h1]
      split at h
      · rename_i h2
        rw [if_pos h2]
        exact rdF_mono l _ _ n t q h
      · rename_i h2
        rw [if_neg h2]
        split at h
        · cases h
        · rename_i h3
          rw [if_neg h3]
          cases h
          rfl

theorem textR_mono {l s t : List UInt8} (q : List UInt8) (h : textR l = some (s, t)) : textR (l ++ q) = some (s, t ++ q) := by
  unfold textR at h ⊢
  split at h
  · cases h
  · rename_i n t' hr
    rw [rdF_mono _ _ _ _ _ q hr]
    split at h
    · cases h
    · split at h
      · cases h
      · rename_i h4 ht
        cases h
        dsimp only
        rw [if_neg h4, if_neg (by simp; omega), List.take_append_of_le_length (by omega), List.drop_append_of_le_length (by omega)]

def headF (h : Nat) (l : List (List UInt8)) : Nat := l.foldl chainM h

def framesF : Nat → List (List UInt8) → List UInt8
  | _, [] => []
  | h, s :: l => frameM s (chainM h s) ++ framesF (chainM h s) l

def entsF : Nat → Nat → List (List UInt8) → List Ent
  | _, _, [] => []
  | a, h, s :: l => ⟨s, chainM h s, a + (frameM s (chainM h s)).length⟩ :: entsF (a + (frameM s (chainM h s)).length) (chainM h s) l

def hdsF : Nat → List (List UInt8) → List Nat
  | _, [] => []
  | h, s :: l => chainM h s :: hdsF (chainM h s) l

theorem headF_nil (h : Nat) : headF h [] = h := rfl
theorem headF_cons (h : Nat) (s : List UInt8) (l : List (List UInt8)) : headF h (s :: l) = headF (chainM h s) l := List.foldl_cons ..
theorem framesF_nil (h : Nat) : framesF h [] = [] := rfl
theorem framesF_cons (h : Nat) (s : List UInt8) (l : List (List UInt8)) : framesF h (s :: l) = frameM s (chainM h s) ++ framesF (chainM h s) l := by rw [framesF]
theorem hdsF_cons (h : Nat) (s : List UInt8) (l : List (List UInt8)) : hdsF h (s :: l) = chainM h s :: hdsF (chainM h s) l := by rw [hdsF]

theorem hdsF_length : ∀ (l : List (List UInt8)) (h : Nat), (hdsF h l).length = l.length
  | [], _ => rfl
  | _ :: l, _ => by simp [hdsF, hdsF_length l]

theorem framesF_append : ∀ (l m : List (List UInt8)) (h : Nat), framesF h (l ++ m) = framesF h l ++ framesF (headF h l) m
  | [], _, _ => rfl
  | s :: l, m, h => by rw [List.cons_append, framesF_cons, framesF_cons, framesF_append l m, headF_cons, List.append_assoc]

theorem hdsF_append : ∀ (l m : List (List UInt8)) (h : Nat), hdsF h (l ++ m) = hdsF h l ++ hdsF (headF h l) m
  | [], _, _ => rfl
  | s :: l, m, h => by rw [List.cons_append, hdsF_cons, hdsF_cons, hdsF_append l m, headF_cons, List.cons_append]

theorem headF_append (l m : List (List UInt8)) (h : Nat) : headF h (l ++ m) = headF (headF h l) m := List.foldl_append ..

theorem hdsF_last : ∀ (l : List (List UInt8)) (h : Nat), (hdsF h l).getLast?.getD h = headF h l
  | [], _ => rfl
  | s :: l, h => by
    have h1 := hdsF_last l (chainM h s)
    rw [hdsF_cons, headF_cons, ← h1, List.getLast?_cons]
    rfl

theorem entsF_s : ∀ (l : List (List UInt8)) (a h : Nat), (entsF a h l).map (·.s) = l
  | [], _, _ => rfl
  | s :: l, a, h => by simp [entsF, entsF_s l]

theorem entsF_head : ∀ (l : List (List UInt8)) (a h : Nat), (entsF a h l).map (·.head) = hdsF h l
  | [], _, _ => rfl
  | s :: l, a, h => by simp [entsF, hdsF, entsF_head l]

theorem entsF_till : ∀ (l : List (List UInt8)) (a h : Nat), ((entsF a h l).getLast?.map (·.till)).getD a = a + (framesF h l).length
  | [], _, _ => by simp [entsF, framesF]
  | [s], a, h => by simp [entsF, framesF]
  | s :: t :: l, a, h => by
    have := entsF_till (t :: l) (a + (frameM s (chainM h s)).length) (chainM h s)
    simp only [entsF, List.getLast?_cons_cons, framesF, List.length_append] at this ⊢
    simp only [List.getLast?_cons, Option.map_some, Option.getD_some] at this ⊢
    omega

theorem tillM_ents (l : List (List UInt8)) (h : Nat) : tillM (entsF 0 h l) = (framesF h l).length := by
  have := entsF_till l 0 h
  rw [Nat.zero_add] at this
  exact this

/-- What follows is no frame. -/
def NoFr (h : Nat) (j : List UInt8) : Prop := ∀ s t, textR j = some (s, t) → t.take 8 ≠ leB 8 (chainM h s)

theorem noFr_nil (h : Nat) : NoFr h [] := by
  intro s t hr
  have := (textR_canon hr).1
  have := congrArg List.length this
  unfold textM uintM at this
  rw [uintF] at this
  split at this <;> simp at this

theorem noFr_part {h : Nat} {s p q : List UInt8} (hs : s.length ≤ 4000) (e : frameM s (chainM h s) = p ++ q) (hq : q ≠ []) : NoFr h p := by
  intro s' t' hr ht
  have h1 := textR_mono q hr
  unfold frameM at e
  rw [← e, textR_enc s _ hs] at h1
  have e1 := congrArg Prod.fst (Option.some.inj h1)
  have e2 := congrArg Prod.snd (Option.some.inj h1)
  dsimp only at e1 e2
  subst e1
  have h8 := congrArg List.length ht
  rw [leB_length, List.length_take] at h8
  have h9 := congrArg List.length e2
  rw [leB_length, List.length_append] at h9
  have : q.length ≠ 0 := fun h => hq (List.length_eq_zero_iff.1 h)
  omega

theorem parseF_frames : ∀ (l : List (List UInt8)) (k a h : Nat) (j : List UInt8), (∀ s ∈ l, s.length ≤ 4000) → l.length ≤ k → NoFr (headF h l) j → parseF k (framesF h l ++ j) a h = entsF a h l
  | [], k, a, h, j, _, _, hj => by
    show parseF k j a h = []
    cases hr : textR j with
    | none => exact parseF_none hr
    | some p => exact parseF_bad hr (hj _ _ hr)
  | s :: l, 0, a, h, j, _, hk, _ => by simp at hk
  | s :: l, k + 1, a, h, j, hl, hk, hj => by
    have hr : textR (framesF h (s :: l) ++ j) = some (s, leB 8 (chainM h s) ++ (framesF (chainM h s) l ++ j)) := by
      rw [framesF_cons]
      unfold frameM
      rw [List.append_assoc, List.append_assoc]
      exact textR_enc _ _ (hl s (by simp))
    have e8 : (leB 8 (chainM h s)).length = 8 := leB_length _ _
    rw [parseF_good hr (by rw [List.take_append_of_le_length (by omega), List.take_of_length_le (by omega)]), entsF]
    rw [List.drop_append_of_le_length (by omega), List.drop_of_length_le (by omega), List.nil_append]
    rw [parseF_frames l k _ _ j (fun s hs => hl s (by simp [hs])) (by simpa using hk) hj]

theorem frames_len_le : ∀ (l : List (List UInt8)) (h : Nat), l.length ≤ (framesF h l).length
  | [], _ => Nat.zero_le _
  | s :: l, h => by
    have := frames_len_le l (chainM h s)
    simp only [framesF, List.length_append, List.length_cons, frameM, leB_length] at this ⊢
    omega

theorem parseM_frames {l : List (List UInt8)} {j : List UInt8} (hl : ∀ s ∈ l, s.length ≤ 4000) (hj : NoFr (headF 0 l) j) : parseM (framesF 0 l ++ j) = entsF 0 0 l := by
  unfold parseM
  refine parseF_frames l _ 0 0 j hl ?_ hj
  have := frames_len_le l 0
  rw [List.length_append]
  omega

/-- The first bytes of frames. -/
theorem take_frames : ∀ (l : List (List UInt8)) (h n : Nat), (∀ s ∈ l, s.length ≤ 4000) →
    ∃ m j, m ≤ l.length ∧ (framesF h l).take n = framesF h (l.take m) ++ j ∧ NoFr (headF h (l.take m)) j ∧ ∀ i, i ≤ l.length → ((framesF h (l.take i)).length ≤ n ↔ i ≤ m)
  | [], h, n, _ => ⟨0, [], by simp, by simp [framesF], noFr_nil _, fun i hi => by simp at hi; subst hi; simp [framesF]⟩
  | s :: l, h, n, hl => by
    by_cases hn : (frameM s (chainM h s)).length ≤ n
    · obtain ⟨m, j, hm, ht, hj, hi⟩ := take_frames l (chainM h s) (n - (frameM s (chainM h s)).length) (fun s hs => hl s (by simp [hs]))
      refine ⟨m + 1, j, by simpa using hm, ?_, hj, fun i hil => ?_⟩
      · rw [framesF, List.take_append, List.take_of_length_le hn, ht, List.take_succ_cons, framesF, List.append_assoc]
      · cases i with
        | zero => simp [framesF]
        | succ i =>
          have := hi i (by simpa using hil)
          rw [List.take_succ_cons, framesF_cons, List.length_append]
          omega
    · refine ⟨0, (frameM s (chainM h s)).take n, by simp, ?_, ?_, fun i hil => ?_⟩
      · rw [framesF_cons, List.take_append_of_le_length (by omega)]; rfl
      · refine noFr_part (h := h) (hl s (by simp)) (List.take_append_drop n _).symm ?_
        intro hh
        have := congrArg List.length hh
        simp at this
        omega
      · cases i with
        | zero => simp [framesF]
        | succ i =>
          rw [List.take_succ_cons, framesF_cons, List.length_append]
          omega

/-- What is found are frames. -/
theorem parseF_canon : ∀ (k : Nat) (l : List UInt8) (a h : Nat), parseF k l a h = entsF a h ((parseF k l a h).map (·.s)) ∧ framesF h ((parseF k l a h).map (·.s)) <+: l ∧ ∀ s ∈ (parseF k l a h).map (·.s), s.length ≤ 4000
  | 0, l, a, h => by simp [parseF, entsF, framesF]
  | k + 1, l, a, h => by
    cases hr : textR l with
    | none => rw [parseF_none hr]; simp [entsF, framesF]
    | some p =>
      obtain ⟨s, t⟩ := p
      by_cases ht : t.take 8 = leB 8 (chainM h s)
      · rw [parseF_good hr ht]
        obtain ⟨h1, h2, h3⟩ := parseF_canon k (t.drop 8) (a + (frameM s (chainM h s)).length) (chainM h s)
        obtain ⟨hl, _⟩ := frame_step hr ht
        refine ⟨?_, ?_, ?_⟩
        · rw [List.map_cons, entsF, ← h1]
        · rw [List.map_cons, framesF_cons]
          conv => rhs; rw [hl]
          exact (List.prefix_append_right_inj _).2 h2
        · intro u hu
          rw [List.map_cons, List.mem_cons] at hu
          rcases hu with rfl | hu
          · exact (textR_canon hr).2
          · exact h3 u hu
      · rw [parseF_bad hr ht]; simp [entsF, framesF]

theorem parseM_canon (l : List UInt8) : parseM l = entsF 0 0 ((parseM l).map (·.s)) ∧ l.take (tillM (parseM l)) = framesF 0 ((parseM l).map (·.s)) ∧ (∀ s ∈ (parseM l).map (·.s), s.length ≤ 4000) ∧ tillM (parseM l) ≤ l.length := by
  obtain ⟨h1, h2, h3⟩ := parseF_canon l.length l 0 0
  have ht : tillM (parseM l) = (framesF 0 ((parseM l).map (·.s))).length := by
    conv => lhs; unfold parseM; rw [h1]
    exact tillM_ents _ _
  have h2' : framesF 0 ((parseM l).map (·.s)) <+: l := h2
  refine ⟨h1, ?_, h3, ?_⟩
  · rw [ht]
    exact (List.prefix_iff_eq_take.1 h2').symm
  · rw [ht]; exact h2'.length_le

/-- Read again, it is the same. -/
theorem parseM_again (l : List UInt8) : parseM (l.take (tillM (parseM l))) = parseM l := by
  obtain ⟨h1, h2, h3, _⟩ := parseM_canon l
  have := parseM_frames h3 (noFr_nil _)
  rw [List.append_nil] at this
  rw [h2, this, ← h1]

end Go.Proofs.YtniehglfkacjjaaDoor

import Derived.Test.YtniehglfkacjjaaDoorjL6
namespace Go.Proofs.YtniehglfkacjjaaDoor
open Go Go.Vc

theorem appL_in : ∀ (x : List UInt8) (s : MS) (n : Nat), s.left = some n → x.length ≤ n → MS.appL x s = (0, { s with left := some (n - x.length), b := s.b ++ x })
  | [], s, n, hl, _ => by
    unfold MS.appL
    cases s
    simp at hl
    simp [hl]
  | c :: cs, s, n, hl, hx => by
    simp only [List.length_cons] at hx
    obtain ⟨k, rfl⟩ : ∃ k, n = k + 1 := ⟨n - 1, by omega⟩
    unfold MS.appL
    rw [hl]
    dsimp only
    rw [appL_in cs _ k rfl (by omega)]
    simp

theorem appL_out : ∀ (x : List UInt8) (s : MS) (n : Nat), s.left = some n → n < x.length → MS.appL x s = (19, { s with left := some 0, b := s.b ++ x.take n, down := true })
  | [], s, n, _, hx => by simp at hx
  | c :: cs, s, 0, hl, _ => by
    unfold MS.appL
    rw [hl]
    dsimp only
    cases s
    simp at hl
    simp
  | c :: cs, s, k + 1, hl, hx => by
    simp only [List.length_cons] at hx
    unfold MS.appL
    rw [hl]
    dsimp only
    rw [appL_out cs _ k rfl (by omega)]
    simp

/-- An armed medium and its journal: 'd' records are whole; if it is down, the next one is torn. -/
structure Torn (l : List (List UInt8)) (i d : Nat) (down : Bool) (es : List Ent) (s : MS) : Prop where
  di : d ≤ i
  has : Has es (l.take d)
  ok : s.Ok
  sz : s.size = 2000
  dur : s.dur = 0
  dn : s.down = down
  up : down = false → d = i ∧ s.b = framesF 0 (l.take i) ∧ ∃ k, s.left = some k
  tn : down = true → d < i ∧ ∃ N, s.b = (framesF 0 l).take N ∧ (framesF 0 (l.take d)).length ≤ N ∧ N < (framesF 0 (l.take (d + 1))).length

theorem frames_split {l : List (List UInt8)} {i : Nat} (h : i < l.length) : framesF 0 l = framesF 0 (l.take i) ++ (frameM l[i] (headF 0 (l.take (i + 1))) ++ framesF (headF 0 (l.take (i + 1))) (l.drop (i + 1))) := by
  have e : headF 0 (l.take (i + 1)) = chainM (headF 0 (l.take i)) l[i] := by rw [take_succ' h, headF_append, headF_cons, headF_nil]
  have hd : l.drop i = l[i] :: l.drop (i + 1) := List.drop_eq_getElem_cons h
  conv => lhs; rw [← List.take_append_drop i l, framesF_append, hd, framesF_cons, ← e]

theorem Torn.next {l : List (List UInt8)} {i d : Nat} {down : Bool} {es : List Ent} {s : MS} (h : Torn l i d down es s) (hi : i < l.length) (h60 : ∀ x ∈ l, x.length ≤ 60) (h6 : l.length ≤ 6) :
    ∃ (d' : Nat) (down' : Bool) (hd : Nat) (es' : List Ent) (s' : MS), appJ es down s l[i] = ⟨hd, if down' = true then 19 else 0, es', down', s'⟩ ∧ Torn l (i + 1) d' down' es' s' ∧ (down = true → down' = true ∧ d' = d) ∧ (down' = false → d' = d + 1) ∧ (down' = true → d' = d) := by
  have hx : l[i].length ≤ 60 := h60 _ (by simp)
  cases down with
  | true =>
    obtain ⟨h1, N, h2, h3, h4⟩ := h.tn rfl
    refine ⟨d, true, 0, es, s, ?_, ⟨by omega, h.has, h.ok, h.sz, h.dur, h.dn, fun hh => (by cases hh), fun _ => ⟨by omega, N, h2, h3, h4⟩⟩, fun _ => ⟨rfl, rfl⟩, fun hh => (by cases hh), fun _ => rfl⟩
    unfold appJ
    rw [if_neg (by omega), if_pos rfl]
    rfl
  | false =>
    obtain ⟨rfl, h2, k, h3⟩ := h.up rfl
    have hh : chainM (jhead es) l[d] = headF 0 (l.take (d + 1)) := by rw [h.has.head, take_succ' hi, headF_append, headF_cons, headF_nil]
    have hb : framesF 0 (l.take (d + 1)) = framesF 0 (l.take d) ++ frameM l[d] (headF 0 (l.take (d + 1))) := by
      conv => lhs; rw [take_succ' hi, framesF_snoc]
      rw [← hh, h.has.head]
    have hsp := frames_split hi
    obtain ⟨f, hf⟩ : ∃ f, frameM l[d] (headF 0 (l.take (d + 1))) = f := ⟨_, rfl⟩
    have hfl : f.length ≤ 78 := by
      rw [← hf, frame_len]
      have := textM60 hx
      omega
    have hf60 := frames60 (l.take d) 0 fun x hx => h60 x (List.mem_of_mem_take hx)
    rw [List.length_take] at hf60
    have hap : s.app f = MS.appL f s := MS.app_go h.dn (by rw [h.sz, h2]; omega)
    have hok := MS.app_ok h.ok f
    rw [hf] at hb hsp
    by_cases hk : f.length ≤ k
    · have e := appL_in f s k h3 hk
      rw [hap, e] at hok
      refine ⟨d + 1, false, headF 0 (l.take (d + 1)), es ++ [⟨l[d], headF 0 (l.take (d + 1)), 0⟩], { s with left := some (k - f.length), b := s.b ++ f }, ?_, ⟨by omega, ?_, hok, h.sz, h.dur, h.dn, fun _ => ⟨rfl, ?_, _, rfl⟩, fun hh => (by cases hh)⟩, fun hh => (by cases hh), fun _ => rfl, fun hh => (by cases hh)⟩
      · unfold appJ
        rw [if_neg (by omega), if_neg (by decide), hh, hf, hap, e, if_pos rfl]
        rfl
      · have := h.has.snoc l[d] 0
        rw [hh, ← take_succ' hi] at this
        exact this
      · show s.b ++ f = _
        rw [h2, hb]
    · have e := appL_out f s k h3 (by omega)
      rw [hap, e] at hok
      refine ⟨d, true, 0, es, { s with left := some 0, b := s.b ++ f.take k, down := true }, ?_, ⟨by omega, h.has, hok, h.sz, h.dur, rfl, fun hh => (by cases hh), fun _ => ⟨by omega, (framesF 0 (l.take d)).length + k, ?_, by omega, ?_⟩⟩, fun hh => (by cases hh), fun hh => (by cases hh), fun _ => rfl⟩
      · unfold appJ
        rw [if_neg (by omega), if_neg (by decide), hh, hf, hap, e, if_neg (show ¬ (19 : Int) = 0 by decide)]
        rfl
      · show s.b ++ f.take k = _
        rw [h2, hsp]
        generalize framesF 0 (l.take d) = A
        rw [List.take_append, List.take_of_length_le (show A.length ≤ A.length + k by omega), Nat.add_sub_cancel_left, List.take_append_of_le_length (by omega)]
      · rw [hb, List.length_append]; omega

theorem part_open {s : MS} {l : List (List UInt8)} {N : Nat} (hb : s.b = (framesF 0 l).take N) (hl : ∀ x ∈ l, x.length ≤ 4000) :
    ∃ m, m ≤ l.length ∧ parseM s.b = entsF 0 0 (l.take m) ∧ ∀ i, i ≤ l.length → ((framesF 0 (l.take i)).length ≤ N ↔ i ≤ m) := by
  obtain ⟨m, j, hm, ht, hj, hi⟩ := take_frames l 0 N hl
  refine ⟨m, hm, ?_, hi⟩
  rw [hb, ht]
  exact parseM_frames (fun x hx => hl x (List.mem_of_mem_take hx)) hj

theorem take_le_mono {l : List (List UInt8)} {i j : Nat} (h : i ≤ j) : (framesF 0 (l.take i)).length ≤ (framesF 0 (l.take j)).length := by
  have := frames_take_le 0 (l.take j) i
  rwa [List.take_take, Nat.min_eq_left h] at this

/-- What is found after the crash: as many records as are whole and kept. -/
theorem Torn.crash {l : List (List UInt8)} {d : Nat} {down : Bool} {es : List Ent} {s : MS} (h : Torn l l.length d down es s) (h60 : ∀ x ∈ l, x.length ≤ 60) (kk : Nat) :
    ∃ m, m ≤ d ∧ parseM (s.crash (kk : Int)).b = entsF 0 0 (l.take m) ∧ ∀ i, i ≤ d → ((framesF 0 (l.take i)).length ≤ kk ↔ i ≤ m) := by
  have h4 : ∀ x ∈ l, x.length ≤ 4000 := fun x hx => by have := h60 x hx; omega
  have hk : s.keeps (kk : Int) = min kk s.b.length := by unfold MS.keeps; rw [h.dur]; omega
  have hdl := h.di
  obtain ⟨N, hN1, hN2, hN3⟩ : ∃ N, s.b = (framesF 0 l).take N ∧ (framesF 0 (l.take d)).length ≤ N ∧ (∀ i, i ≤ l.length → d < i → N < (framesF 0 (l.take i)).length) := by
    cases hdn : down with
    | false =>
      obtain ⟨h1, h2, _⟩ := h.up hdn
      refine ⟨(framesF 0 l).length, by rw [List.take_length, h2, List.take_length], frames_take_le _ _ _, fun i hi hd => by omega⟩
    | true =>
      obtain ⟨h1, N, h2, h3, h4⟩ := h.tn hdn
      refine ⟨N, h2, h3, fun i hi hd => ?_⟩
      have := take_le_mono (l := l) (show d + 1 ≤ i by omega)
      omega
  have hb : (s.crash (kk : Int)).b = (framesF 0 l).take (min kk N) := by
    show s.b.take (s.keeps (kk : Int)) = _
    rw [hk, hN1, List.length_take, List.take_take]
    by_cases hle : N ≤ (framesF 0 l).length
    · congr 1; omega
    · rw [show min (min kk (min N (framesF 0 l).length)) N = min kk (framesF 0 l).length by omega]
      by_cases h2 : kk ≤ (framesF 0 l).length
      · congr 1; omega
      · rw [List.take_of_length_le (by omega), List.take_of_length_le (by omega)]
  obtain ⟨m, hm, hp, hi⟩ := part_open hb h4
  have hmd : m ≤ d := by
    rcases Nat.lt_or_ge d m with hlt | hge
    · have h1 := (hi m hm).2 (Nat.le_refl _)
      have h2 := hN3 m hm hlt
      omega
    · exact hge
  refine ⟨m, hmd, hp, fun i hid => ?_⟩
  rw [← hi i (by omega)]
  have := take_le_mono (l := l) hid
  omega

end Go.Proofs.YtniehglfkacjjaaDoor

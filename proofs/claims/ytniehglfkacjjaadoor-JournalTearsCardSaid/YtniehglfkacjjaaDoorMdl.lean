namespace Go.Vc

/-- A medium: its size, its bytes, how many are durable, whether it is down, and the steps left, if it is armed. -/
structure MS where
  size : Int
  b : List UInt8
  dur : Nat
  down : Bool
  left : Option Nat

namespace MS

def stp (s : MS) : Bool × MS :=
  match s.left with
  | some 0 => (false, { s with down := true })
  | some (n + 1) => (true, { s with left := some n })
  | none => (true, s)

def appL : List UInt8 → MS → Int × MS
  | [], s => (0, s)
  | c :: cs, s => match s.left with
    | some 0 => (19, { s with down := true })
    | some (n + 1) => appL cs { s with left := some n, b := s.b ++ [c] }
    | none => appL cs { s with b := s.b ++ [c] }

def app (x : List UInt8) (s : MS) : Int × MS :=
  if s.down = true then (19, s) else if s.size - s.b.length < x.length then (18, s) else appL x s

def syn (s : MS) : Int × MS :=
  if s.down = true then (19, s) else if s.stp.1 = true then (0, { s.stp.2 with dur := s.b.length }) else (19, s.stp.2)

def cut (n : Nat) (s : MS) : MS := { s with b := s.b.take n, dur := min s.dur n }

def tru (n : Int) (s : MS) : Int × MS :=
  if s.down = true then (19, s) else if n < 0 ∨ s.b.length < n then (4, s) else if s.stp.1 = true then (0, s.stp.2.cut n.toNat) else (19, s.stp.2)

def keeps (n : Int) (s : MS) : Nat := s.dur + min n.toNat (s.b.length - s.dur)

def crash (n : Int) (s : MS) : MS := { s with b := s.b.take (s.keeps n), dur := s.keeps n, down := false, left := none }

def arm (n : Int) (s : MS) : MS := if s.down = true then s else { s with left := if 0 ≤ n then some n.toNat else none }

def flip (i : Int) (m : UInt8) (s : MS) : Int × MS :=
  if i < 0 ∨ s.b.length ≤ i then (4, s) else (0, { s with b := s.b.set i.toNat ((s.b.getD i.toNat 0) ^^^ m) })

def rd (s : MS) : List UInt8 × Int := if s.down = true then ([], 19) else (s.b, 0)

theorem app_down {s : MS} {x : List UInt8} (h : s.down = true) : s.app x = (19, s) := by unfold app; rw [if_pos h]
theorem app_full {s : MS} {x : List UInt8} (h : s.down = false) (hx : s.size - s.b.length < x.length) : s.app x = (18, s) := by
  unfold app; rw [if_neg (by rw [h]; decide), if_pos hx]
theorem app_go {s : MS} {x : List UInt8} (h : s.down = false) (hx : ¬ s.size - s.b.length < x.length) : s.app x = appL x s := by
  unfold app; rw [if_neg (by rw [h]; decide), if_neg hx]

/-- What holds of every medium. -/
structure Ok (s : MS) : Prop where
  s1 : s.b.length ≤ s.size
  s2 : s.size ≤ 262144
  d : s.dur ≤ s.b.length
  l : ∀ n, s.left = some n → (n : Int) ≤ 9223372036854775807

theorem stp_ok {s : MS} (h : s.Ok) : s.stp.2.Ok := by
  unfold stp
  split
  · exact ⟨h.s1, h.s2, h.d, h.l⟩
  · rename_i n hn
    exact ⟨h.s1, h.s2, h.d, fun k hk => by have := h.l _ hn; simp at hk; omega⟩
  · exact h

theorem stp_b (s : MS) : s.stp.2.b = s.b ∧ s.stp.2.size = s.size ∧ s.stp.2.dur = s.dur := by
  unfold stp; split <;> exact ⟨rfl, rfl, rfl⟩

theorem keeps_le {s : MS} (h : s.Ok) (n : Int) : s.keeps n ≤ s.b.length := by
  have := h.d
  unfold keeps; omega

theorem crash_ok {s : MS} (h : s.Ok) (n : Int) : (s.crash n).Ok := by
  have h1 := keeps_le h n
  have := h.s1
  refine ⟨?_, h.s2, ?_, ?_⟩ <;> simp only [crash, List.length_take]
  · omega
  · omega
  · intro k hk; cases hk

theorem cut_ok {s : MS} (h : s.Ok) (n : Nat) : (s.cut n).Ok := by
  have h1 := h.s1
  have h2 := h.d
  refine ⟨?_, h.s2, ?_, h.l⟩ <;> simp only [cut, List.length_take] <;> omega

theorem arm_ok {s : MS} (h : s.Ok) (n : Int) (hn : n ≤ 9223372036854775807) : (s.arm n).Ok := by
  unfold arm
  split
  · exact h
  · refine ⟨h.s1, h.s2, h.d, fun k hk => ?_⟩
    simp only at hk
    split at hk
    · cases hk; omega
    · cases hk

theorem appL_ok : ∀ (x : List UInt8) {s : MS}, s.Ok → s.b.length + x.length ≤ s.size → (appL x s).2.Ok
  | [], s, h, _ => h
  | c :: cs, s, h, hl => by
    have h1 := h.s1
    have h2 := h.d
    simp only [List.length_cons] at hl
    unfold appL
    split
    · exact ⟨h.s1, h.s2, h.d, h.l⟩
    · rename_i n hn
      refine appL_ok cs ⟨?_, h.s2, ?_, fun k hk => ?_⟩ ?_
      · simp; omega
      · simp; omega
      · have := h.l _ hn; simp at hk; omega
      · simp; omega
    · refine appL_ok cs ⟨?_, h.s2, ?_, h.l⟩ ?_
      · simp; omega
      · simp; omega
      · simp; omega

theorem app_ok {s : MS} (h : s.Ok) (x : List UInt8) : (s.app x).2.Ok := by
  unfold app
  split
  · exact h
  · split
    · exact h
    · exact appL_ok x h (by omega)

theorem syn_ok {s : MS} (h : s.Ok) : s.syn.2.Ok := by
  have h1 := stp_ok h
  have h2 := stp_b s
  unfold syn
  split
  · exact h
  · split
    · exact ⟨h1.s1, h1.s2, by simp only [h2.1]; omega, h1.l⟩
    · exact h1

theorem tru_ok {s : MS} (h : s.Ok) (n : Int) : (s.tru n).2.Ok := by
  have h1 := stp_ok h
  unfold tru
  split
  · exact h
  · split
    · exact h
    · split
      · exact cut_ok h1 _
      · exact h1

theorem flip_ok {s : MS} (h : s.Ok) (n : Int) (m : UInt8) : (s.flip n m).2.Ok := by
  unfold flip
  split
  · exact h
  · exact ⟨by simpa using h.s1, h.s2, by simpa using h.d, h.l⟩

/-- A step. -/
def doS (k n : Int) (t : List UInt8) (m : UInt8) (s : MS) : MS :=
  if k = 0 then (s.app t).2 else if k = 1 then s.syn.2 else if k = 2 then (s.tru n).2 else if k = 3 then s.crash n else if k = 4 then s.arm n else if k = 5 then (s.flip n m).2 else s

theorem doS_ok {s : MS} (h : s.Ok) (k n : Int) (t : List UInt8) (m : UInt8) (hn : n ≤ 9223372036854775807) : (s.doS k n t m).Ok := by
  unfold doS
  split
  · exact app_ok h t
  · split
    · exact syn_ok h
    · split
      · exact tru_ok h n
      · split
        · exact crash_ok h n
        · split
          · exact arm_ok h n hn
          · split
            · exact flip_ok h n m
            · exact h

end MS
end Go.Vc

import Derived.Test.YtniehglfkacjjaaDoorjFr
namespace Go.Proofs.YtniehglfkacjjaaDoor
open Go Go.Vc

/-! Reading a number. -/
/-- 'i' bytes are behind, 'x' is what they came to: an error, or the number and what is left. -/
def rdF : List UInt8 → Nat → Nat → Nat ⊕ (Nat × List UInt8)
  | [], _, _ => .inl 1
  | b :: l, i, x =>
    if i = 9 ∧ 1 < b.toNat then .inl 2
    else if 128 ≤ b.toNat then rdF l (i + 1) (x + b.toNat % 128 * 2 ^ (7 * i))
    else if b.toNat = 0 ∧ 0 < i then .inl 2
    else .inr (x + b.toNat * 2 ^ (7 * i), l)

/-- Reading a number of at most 'most'. -/
def uintR (l : List UInt8) (most : Nat) : Nat ⊕ (Nat × List UInt8) := match rdF l 0 0 with
  | .inl e => .inl e
  | .inr (x, r) => if most < x then .inl 4 else .inr (x, r)

theorem and127 : ∀ a : Fin 256, andI .u8 ((a.val : Nat) : Int) 127 = ((a.val % 128 : Nat) : Int) := by decide +kernel

theorem and_byte (b : UInt8) : IntKind.u64.wrap (andI .u8 (b.toNat : Int) (127 : Int)) = ((b.toNat % 128 : Nat) : Int) := by
  have h := and127 ⟨b.toNat, b.toNat_lt⟩
  simp only at h
  rw [h, IntWalk.u64_in _ (by omega)]

theorem or_nat {x y k : Nat} (hx : x < 2 ^ k) (h : x + y * 2 ^ k < 18446744073709551616) : orI .u64 (x : Int) ((y * 2 ^ k : Nat) : Int) = ((x + y * 2 ^ k : Nat) : Int) := by
  have hp : 0 < 2 ^ k := Nat.two_pow_pos k
  show IntKind.u64.wrap (((BitVec.ofInt 64 (x : Int) ||| BitVec.ofInt 64 ((y * 2 ^ k : Nat) : Int)).toNat : Nat) : Int) = _
  have h3 : (BitVec.ofInt 64 (x : Int) ||| BitVec.ofInt 64 ((y * 2 ^ k : Nat) : Int)).toNat = x ||| (y * 2 ^ k) := by
    rw [BitVec.toNat_or, BitVec.toNat_ofInt, BitVec.toNat_ofInt]
    have e1 : ((x : Int) % ((2 ^ 64 : Nat) : Int)).toNat = x := by omega
    have e2 : (((y * 2 ^ k : Nat) : Int) % ((2 ^ 64 : Nat) : Int)).toNat = y * 2 ^ k := by omega
    rw [e1, e2]
  have h4 : x ||| (y * 2 ^ k) = x + y * 2 ^ k := by
    rw [Nat.or_comm, Nat.mul_comm y, ← Nat.two_pow_add_eq_or_of_lt hx]; omega
  rw [h3, h4]
  exact IntWalk.u64_in _ (by omega)

/-- A reader of the program's: what is left, and its error. -/
abbrev rdA (x : Nat) (l : List UInt8) (e : Int) : Asn := boxA x #[.string (bs l), .int .i64 e] 96

section rd
variable {w0 w : World} {x : Nat} {l : List UInt8} {e : Int} {B : Asn}

theorem rd0 (h : St w0 w (star (rdA x l e) B)) : w.cell? ⟨x, 0, none⟩ = some (.string (bs l)) := h.boxed 0
theorem rd1 (h : St w0 w (star (rdA x l e) B)) : w.cell? ⟨x, 1, none⟩ = some (.int .i64 e) := h.boxed 1

theorem box_st {cs : Array Value} {T : TypeId} {v : Value} {i : Nat} {R : World → Prop} (h : St w0 w (star (boxA x cs T) B)) (hi : i < cs.size) (hv : v.oneCell' = true)
    (k : ∀ w', St w0 w' (star (boxA x (cs.setIfInBounds i v) T) B) → R w') : stK w ⟨x, i, none⟩ v R := by
  obtain ⟨F, ⟨ho, rfl⟩, use⟩ := h.use
  refine stK_mk ho hi hv (k _ (use _ (boxA x (cs.setIfInBounds i v) T) ⟨[x], ⟨?_, rfl⟩, Chg.set _ _ _ _ (by simp), fun j hj => .inl hj⟩))
  rw [heap_set, if_pos rfl, ho]; rfl

theorem ok_c (h : St w0 w (star (rdA x l e) B)) : Calls Tryd.prog 66 #[.pointer (some ⟨x, 0, none⟩)] w (RetC fun r w' => r = .bool (e == 0) ∧ w' = w) :=
  wok_ok ⟨_, rd1 h, rfl, rfl⟩

theorem err_c (h : St w0 w (star (rdA x l e) B)) : Calls Tryd.prog 56 #[.pointer (some ⟨x, 0, none⟩)] w (RetC fun r w' => r = .int .i64 e ∧ w' = w) :=
  wErr_ok ⟨_, rd1 h, rfl, rfl⟩

theorem left_c (h : St w0 w (star (rdA x l e) B)) : Calls Tryd.prog 57 #[.pointer (some ⟨x, 0, none⟩)] w (RetC fun r w' => r = .int .i64 ((if e = 0 then l.length else 0 : Nat) : Int) ∧ w' = w) := by
  refine wLeft_ok ?_
  unfold wLeft
  refine useC (ok_c h) ?_
  rintro _ w1 ⟨rfl, rfl⟩
  refine ⟨_, rfl, ?_⟩
  by_cases he : e = 0
  · subst he
    exact cF rfl ⟨_, rd0 h, rfl, rfl⟩
  · refine cT (by simpa using he) ⟨?_, rfl⟩
    rw [if_neg he]; rfl

theorem fail_c (h : St w0 w (star (rdA x l 0) B)) (n : Int) : Calls Tryd.prog 68 #[.pointer (some ⟨x, 0, none⟩), .int .i64 n] w (RetC fun r w' => r = .tuple #[] ∧ St w0 w' (star (rdA x l n) B)) := by
  refine wFail_ok ?_
  unfold wFail
  refine ⟨fun b w' => b = true ∧ w' = w, ?_, 0, rd1 h, rfl, rfl⟩
  rintro w1 b ⟨rfl, rfl⟩ -
  exact cT rfl (box_st h (by simp) rfl fun w2 h2 => ⟨rfl, h2⟩)
end rd

end Go.Proofs.YtniehglfkacjjaaDoor

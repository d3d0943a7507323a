import Derived.Test.YtniehglfkacjjaaDoorjCk
namespace Go.Proofs.YtniehglfkacjjaaDoor
open Go Go.Vc

/-- The bytes of a number, seven bits each. -/
def uintF : Nat → Nat → List UInt8
  | 0, x => [UInt8.ofNat (x % 256)]
  | k + 1, x => if x < 128 then [UInt8.ofNat (x % 256)] else UInt8.ofNat (x % 128 + 128) :: uintF k (x / 128)

def uintM (x : Nat) : List UInt8 := uintF 9 x

theorem uintF_len : ∀ (k x : Nat), (uintF k x).length ≤ k + 1
  | 0, _ => Nat.le_refl _
  | k + 1, x => by
    have := uintF_len k (x / 128)
    unfold uintF
    split <;> simp <;> omega

def textM (l : List UInt8) : List UInt8 := uintM l.length ++ l

theorem or128 : ∀ a : Fin 256, orI .u8 ((a.val : Nat) : Int) 128 = ((UInt8.ofNat (a.val % 128 + 128)).toNat : Int) := by decide +kernel

theorem or_byte (x : Nat) : orI .u8 (IntKind.u8.wrap (x : Int)) 128 = ((UInt8.ofNat (x % 128 + 128)).toNat : Int) := by
  have h := or128 ⟨x % 256, Nat.mod_lt _ (by decide)⟩
  simp only at h
  rw [IntKind.wrap_u8, show (x : Int) % 256 = ((x % 256 : Nat) : Int) by omega, h, Nat.mod_mod_of_dvd _ (by decide)]

theorem byteV_of {n : Int} {b : UInt8} (h : n = (b.toNat : Int)) : (Value.int .u8 n) = byteV b := by rw [h]; rfl

theorem wuint_c (x : Nat) (hx : x < 18446744073709551616) : PureC 70 #[.int .u64 (x : Int)] (strV (uintM x)) := fun w => by
  refine wUint_ok ?_
  unfold wUint
  refine ⟨fun n a l c w1 m => ∃ (y : Nat) (xs : List UInt8), n = (y : Int) ∧ y < 128 ^ (m + 1) ∧ m ≤ 9 ∧ xs.length + m = 9 ∧ l = xs.length ∧ xs ++ uintF m y = uintM x ∧ St w w1 (star (rowA 5 1 (.slice a l c) xs.length (xs.map byteV)) emp),
    ⟨9, x, [], rfl, by omega, by omega, rfl, rfl, rfl, (((St.start w).nilRow 5 1).swap)⟩, ?_⟩
  rintro w1 m n a l c ⟨y, xs, rfl, hy, hm, hlen, rfl, he, hst⟩ -
  by_cases h128 : 128 ≤ y
  · refine cT (decide_eq_true (by omega)) ?_
    obtain ⟨m', rfl⟩ : ∃ m', m = m' + 1 := by
      cases m with
      | zero => simp at hy; omega
      | succ m' => exact ⟨m', rfl⟩
    refine app1_st sl59 hst (news := [byteV (UInt8.ofNat (y % 128 + 128))]) rfl (by simp [byteV, Value.oneCell']) (by omega) (by omega) (fun a2 c2 w3 h3 => ?_) (by rw [byteV_of (or_byte y)])
    refine ⟨by decide, m', by omega, y / 128, xs ++ [UInt8.ofNat (y % 128 + 128)], ?_, ?_, by omega, by simp; omega, by simp, ?_, by simpa using h3⟩
    · rw [show (2 : Int) ^ (min (7 : Int).toNat IntKind.u64.bits) = 128 from rfl, Int.fdiv_eq_ediv_of_nonneg _ (by omega)]; omega
    · rw [Nat.pow_succ] at hy; omega
    · rw [← he]
      conv => rhs; unfold uintF
      rw [if_neg (by omega)]
      simp
  · refine cF (decide_eq_false (by omega)) ?_
    have hu : uintF m y = [UInt8.ofNat (y % 256)] := by
      cases m with
      | zero => rfl
      | succ m' => unfold uintF; rw [if_pos (by omega)]
    refine app1_st sl59 hst (news := [byteV (UInt8.ofNat (y % 256))]) rfl (by simp [byteV, Value.oneCell']) (by omega) (by omega) (fun a2 c2 w3 h3 => ?_) (by rw [byteV_of (u8_mod y)])
    have h4 : St w w3 (star (rowA 5 1 (.slice a2 (xs.length + 1) c2) (uintM x).length ((uintM x).map byteV)) emp) := by
      rw [← he, hu]; simpa using h3
    exact tostr_st Tryd.underlying59 Tryd.underlying5 Tryd.underlying9 h4 ⟨_, rfl, rfl, h4.chg⟩

theorem uintM_len (x : Nat) : (uintM x).length ≤ 10 := uintF_len 9 x

theorem wtext_c (s : ByteArray) (hs : s.size ≤ 4611686018427387904) : PureC 59 #[.string s] (strV (textM s.data.toList)) := fun w => by
  refine wText_ok ?_
  unfold wText
  rw [u64_size (by omega)]
  have h0 := size_list s
  refine usePure (wuint_c _ (by omega)) fun w1 hc1 => ⟨_, rfl, ?_, ?_⟩
  · have := uintM_len s.data.toList.length
    have hm : IntKind.i64.max = 9223372036854775807 := rfl
    have hz : (⟨(uintM s.data.toList.length).toArray⟩ : ByteArray).size = (uintM s.data.toList.length).length := rfl
    rw [hz, hm]; omega
  · exact ⟨congrArg Value.string (bs_app _ s.data.toList), hc1⟩

set_option maxRecDepth 20000 in
theorem quint_c : ∀ (k x : Nat), x < 128 ^ (k + 1) → x < 18446744073709551616 → k ≤ 9 → PureC 62 #[.int .u64 (x : Int)] (strV (uintF k x)) := by
  intro k
  induction k with
  | zero =>
    intro x hk hx _ w
    refine qUint_ok ?_
    unfold qUint
    refine cT (decide_eq_true (by omega)) (newK_mk (onebyte_c Tryd.underlying59 Tryd.underlying5 Tryd.underlying9 (u8_mod x) ⟨_, rfl, rfl, Chg.new _ _ _⟩))
  | succ k ih =>
    intro x hk hx hk9 w
    refine qUint_ok ?_
    unfold qUint
    by_cases h128 : x < 128
    · refine cT (decide_eq_true (by omega)) (newK_mk (onebyte_c Tryd.underlying59 Tryd.underlying5 Tryd.underlying9 (u8_mod x) ⟨_, rfl, ?_, Chg.new _ _ _⟩))
      unfold uintF; rw [if_pos h128]; rfl
    · have hq : IntKind.u64.wrap (Int.tdiv (x : Int) (128 : Int)) = ((x / 128 : Nat) : Int) := by
        rw [IntWalk.u64_quo _ _ (by omega)]; omega
      have hb : IntKind.u8.wrap (IntKind.u64.wrap ((Int.tmod (x : Int) (128 : Int)) + (128 : Int))) = ((UInt8.ofNat (x % 128 + 128)).toNat : Int) := by
        rw [show Int.tmod (x : Int) 128 = ((x % 128 : Nat) : Int) from rfl, IntWalk.u64_in _ (by omega), IntWalk.u8_in _ (by omega), UInt8.toNat_ofNat']
        omega
      have hp : x / 128 < 128 ^ (k + 1) := by rw [Nat.pow_succ] at hk; omega
      have hr := ih (x / 128) hp (by omega) (by omega)
      have he : uintF (k + 1) x = UInt8.ofNat (x % 128 + 128) :: uintF k (x / 128) := by
        conv => lhs; unfold uintF
        rw [if_neg h128]
      have hz : (bs (uintF k (x / 128))).size ≤ 10 := by have := uintF_len k (x / 128); rw [bs_size]; omega
      have hm : IntKind.i64.max = 9223372036854775807 := rfl
      have h1 : (⟨#[UInt8.ofNat (x % 128 + 128)]⟩ : ByteArray).size = 1 := rfl
      have hz2 : ((((⟨#[UInt8.ofNat (x % 128 + 128)]⟩ : ByteArray).size + (⟨(uintF k (x / 128)).toArray⟩ : ByteArray).size : Nat)) : Int) ≤ IntKind.i64.max := by
        rw [hm, h1]; unfold bs at hz; omega
      have hv : Value.string ((⟨#[UInt8.ofNat (x % 128 + 128)]⟩ : ByteArray) ++ (⟨(uintF k (x / 128)).toArray⟩ : ByteArray)) = strV (uintF (k + 1) x) := by
        rw [he]; exact congrArg Value.string (bs_app [_] _)
      rw [hq]
      have hd : Chg w w.drew [] := Chg.drew _ _
      refine cF (decide_eq_false (by omega)) ⟨by decide, by decide, ⟨newK_mk ⟨?_, ?_⟩, ?_⟩, ?_⟩
      · refine onebyte_c Tryd.underlying59 Tryd.underlying5 Tryd.underlying9 hb ⟨_, rfl, usePure hr fun w1 hc1 => ⟨_, rfl, hz2, hv, (hd.trans (Chg.new _ _ []) (by simp)).trans hc1 (by simp)⟩⟩
      · refine usePure hr fun w1 hc1 => ⟨_, rfl, ?_⟩
        have own := (own_block (w := w.drew.alloc (.cells #[.int .u8 (IntKind.u8.wrap (IntKind.u64.wrap ((Int.tmod (x : Int) (128 : Int)) + (128 : Int))))] 5)) (g := w.drew.heap.size) (e := 5) (l := [UInt8.ofNat (x % 128 + 128)]) (by rw [heap_new, if_pos rfl, hb]; rfl) (by simp))
        have own2 := ownsRow_chg own hc1 (by simp)
        exact tostr_c (l := [UInt8.ofNat (x % 128 + 128)]) Tryd.underlying59 Tryd.underlying5 Tryd.underlying9 own2 ⟨_, rfl, hz2, hv, (hd.trans (Chg.new _ _ []) (by simp)).trans hc1 (by simp)⟩
      · refine usePure hr fun w1 hc1 => ⟨_, rfl, newK_mk (onebyte_c Tryd.underlying59 Tryd.underlying5 Tryd.underlying9 hb ⟨_, rfl, hz2, hv, (hd.trans hc1 (by simp)).trans (Chg.new _ _ []) (by simp)⟩)⟩
      · refine usePure hr fun w1 hc1 => ⟨_, rfl, newK_mk (onebyte_c Tryd.underlying59 Tryd.underlying5 Tryd.underlying9 hb ⟨_, rfl, hz2, hv, (hd.trans hc1 (by simp)).trans (Chg.new _ _ []) (by simp)⟩)⟩

theorem qtext_c (s : ByteArray) (hs : s.size ≤ 4611686018427387904) : PureC 44 #[.string s] (strV (textM s.data.toList)) := fun w => by
  refine qText_ok ?_
  unfold qText
  rw [u64_size (by omega)]
  have h0 := size_list s
  refine usePure (quint_c 9 _ (by omega) (by omega) (by decide)) fun w1 hc1 => ⟨_, rfl, ?_, ?_⟩
  · have := uintM_len s.data.toList.length
    have hm : IntKind.i64.max = 9223372036854775807 := rfl
    have hz : (⟨(uintM s.data.toList.length).toArray⟩ : ByteArray).size = (uintM s.data.toList.length).length := rfl
    unfold uintM at hz this
    rw [hz, hm]; omega
  · exact ⟨congrArg Value.string (bs_app _ s.data.toList), hc1⟩

end Go.Proofs.YtniehglfkacjjaaDoor

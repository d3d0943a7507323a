import Derived.Test.YtniehglfkacjjaaDoorjWi
namespace Go.Proofs.YtniehglfkacjjaaDoor
open Go Go.Vc

/-- The frame of a record. -/
def frameM (l : List UInt8) (head : Nat) : List UInt8 := textM l ++ leB 8 head

theorem textM_len (l : List UInt8) : (textM l).length ≤ 10 + l.length := by
  have := uintM_len l.length
  unfold textM
  rw [List.length_append]; omega

theorem frame_c (s : ByteArray) (hs : s.size ≤ 4611686018427387904) (h : Nat) : PureC 40 #[.string s, .int .u64 (h : Int)] (strV (frameM s.data.toList h)) := fun w => by
  refine jFrame_ok ?_
  unfold jFrame
  have hm : IntKind.i64.max = 9223372036854775807 := rfl
  have hz : (⟨(textM s.data.toList).toArray⟩ : ByteArray).size + (⟨(leB 8 h).toArray⟩ : ByteArray).size ≤ 9223372036854775807 := by
    have h1 : (⟨(textM s.data.toList).toArray⟩ : ByteArray).size = (textM s.data.toList).length := rfl
    have h2 : (⟨(leB 8 h).toArray⟩ : ByteArray).size = 8 := leB_length 8 h
    have := textM_len s.data.toList
    have := size_list s
    omega
  have hv : Value.string ((⟨(textM s.data.toList).toArray⟩ : ByteArray) ++ ⟨(leB 8 h).toArray⟩) = strV (frameM s.data.toList h) := congrArg Value.string (bs_app _ _)
  refine low_loop sl59 rfl h 8 (by decide) (A := fun a1 l1 c1 w2 => _) ?_
  intro w2 g hc hg _
  have own := own_block hg (by rw [leB_length]; omega)
  rw [leB_length] at own
  have hcd : Chg w w2.drew [] := hc.trans (Chg.drew _ []) (by simp)
  refine ⟨usePure (wtext_c s hs) fun w4 hc4 => ⟨_, rfl, ?_⟩, ?_⟩
  · have own4 := ownsRow_chg own ((Chg.drew w2 []).trans hc4 (by simp)) (by simp)
    exact tostr_c (l := leB 8 h) Tryd.underlying59 Tryd.underlying5 Tryd.underlying9 (by rw [leB_length]; exact own4) ⟨_, rfl, by rw [hm]; omega, hv, hcd.trans hc4 (by simp)⟩
  · refine tostr_c (l := leB 8 h) Tryd.underlying59 Tryd.underlying5 Tryd.underlying9 (by rw [leB_length]; exact ownsRow_chg own (Chg.drew w2 []) (by simp)) ⟨_, rfl, ?_⟩
    exact usePure (wtext_c s hs) fun w4 hc4 => ⟨_, rfl, by rw [hm]; omega, hv, hcd.trans hc4 (by simp)⟩

theorem eight_c (x : Nat) : PureC 45 #[.int .u64 (x : Int)] (strV (leB 8 x)) := fun w => by
  refine seight_ok ?_
  unfold seight
  refine ⟨fun s n4 w1 m => ∃ i : Nat, n4 = (i : Int) ∧ i ≤ 8 ∧ m = 8 - i ∧ s = bs (leB i x) ∧ Chg w w1 [], ⟨8, 0, rfl, by omega, by omega, rfl, Chg.refl _ _⟩, ?_⟩
  rintro w1 m s n4 ⟨i, rfl, hi, rfl, rfl, hc⟩ -
  by_cases hlt : i < 8
  · have h1 : IntKind.i64.wrap ((8 : Int) * (i : Int)) = ((8 * i : Nat) : Int) := by rw [IntWalk.i64_in _ (by omega)]; omega
    have h2 : min (8 * i) IntKind.u64.bits = 8 * i := by
      have : IntKind.u64.bits = 64 := rfl
      omega
    have h3 : ((2 : Int) ^ (8 * i)) = ((256 ^ i : Nat) : Int) := by rw [Int.pow_mul]; simp
    have h4 : Int.fdiv (x : Int) ((256 ^ i : Nat) : Int) = ((x / 256 ^ i : Nat) : Int) := by
      rw [Int.fdiv_eq_ediv_of_nonneg _ (Int.natCast_nonneg _)]; exact (Int.natCast_ediv _ _).symm
    have h5 : IntKind.u8.wrap (Int.tmod (Int.fdiv (x : Int) (2 ^ (min ((IntKind.i64.wrap ((8 : Int) * (i : Int)))).toNat IntKind.u64.bits))) (256 : Int)) = ((UInt8.ofNat (x / 256 ^ i % 256)).toNat : Int) := by
      rw [h1, Int.toNat_natCast, h2, h3, h4, show Int.tmod ((x / 256 ^ i : Nat) : Int) 256 = ((x / 256 ^ i % 256 : Nat) : Int) from rfl, u8_mod, Nat.mod_mod]
    refine cT (decide_eq_true (by omega)) ⟨by rw [h1]; omega, by decide, newK_mk (onebyte_c Tryd.underlying59 Tryd.underlying5 Tryd.underlying9 h5 ⟨_, rfl, ?_, 8 - (i + 1), by omega, i + 1, ?_, by omega, rfl, ?_, ?_⟩)⟩
    · have hm : IntKind.i64.max = 9223372036854775807 := rfl
      have h2 : (⟨#[UInt8.ofNat (x / 256 ^ i % 256)]⟩ : ByteArray).size = 1 := rfl
      rw [bs_size, leB_length, h2, hm]; omega
    · rw [IntWalk.i64_in _ (by omega)]; omega
    · rw [leB_snoc]; exact bs_app _ [_]
    · exact hc.trans (Chg.new _ _ []) (by simp)
  · obtain rfl : i = 8 := by omega
    exact cF (decide_eq_false (by omega)) ⟨rfl, hc⟩

end Go.Proofs.YtniehglfkacjjaaDoor

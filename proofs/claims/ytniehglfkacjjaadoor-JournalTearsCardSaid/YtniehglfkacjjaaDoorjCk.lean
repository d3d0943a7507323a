import Derived.Test.YtniehglfkacjjaaDoorBy
import Derived.Test.YtniehglfkacjjaaDoorjShS
import Derived.Test.YtniehglfkacjjaaDoorjMa
namespace Go.Proofs.YtniehglfkacjjaaDoor
open Go Go.Vc

theorem sl59 : SlT Tryd.prog 59 5 (.int .u8 0) 1 1 := SlT.mk' Tryd.underlying59 (by kernel_rfl) rfl (by decide)

/-- A call that changes nothing that was there. -/
def PureC (f : FuncId) (args : Array Value) (r : Value) : Prop := ∀ w, Calls Tryd.prog f args w (RetC fun v w' => v = r ∧ Chg w w' [])

def strV (l : List UInt8) : Value := .string ⟨l.toArray⟩

theorem low_c (x k : Nat) (hk : k ≤ 8) : PureC 52 #[.int .u64 (x : Int), .int .i64 (k : Int)] (strV (leB k x)) := fun w => by
  refine cLow_ok ?_
  unfold cLow
  refine low_loop sl59 rfl x k hk (A := fun a1 l1 c1 w2 => rnS Tryd.prog (convert 59 9 (.slice a1 l1 c1)) w2 fun e2 w4 => ∃ (s1 : ByteArray), e2 = (.string s1) ∧ _) ?_
  intro w2 g hc hg _
  have own := own_block hg (by rw [leB_length]; omega)
  rw [leB_length] at own
  refine tostr_c (l := leB k x) Tryd.underlying59 Tryd.underlying5 Tryd.underlying9 (by rw [leB_length]; exact own) ⟨_, rfl, rfl, hc⟩

theorem hash_loop {w : World} (s : ByteArray) (hs : s.size ≤ 9223372036854775807) {A : Int → World → Prop} (hA : A (hashM s.data.toList : Nat) w) :
    ∃ I1 : Int → Int → World → Nat → Prop, (∃ m1, I1 (14695981039346656037 : Int) (0 : Int) w m1) ∧
      ∀ (w1 : World) (m1 : Nat) (n1 : Int) (n2 : Int), I1 n1 n2 w1 m1 → ∀ _ : Nat → Value,
      cond (decide (n2 < ((s.size : Nat) : Int)))
        (0 ≤ n2 ∧ onSome s[(n2).toNat]? fun u1 =>
          ∃ m2, m2 < m1 ∧ I1 (IntKind.u64.wrap ((xorI .u64 n1 (IntKind.u64.wrap (u1.toNat : Int))) * (1099511628211 : Int))) (IntKind.i64.wrap (n2 + (1 : Int))) w1 m2)
        (A n1 w1) := by
  refine ⟨fun n1 n2 w1 m => ∃ i : Nat, n2 = (i : Int) ∧ i ≤ s.size ∧ m = s.size - i ∧ w1 = w ∧ n1 = (((s.data.toList.take i).foldl hashStep 14695981039346656037 : Nat) : Int) ∧ (s.data.toList.take i).foldl hashStep 14695981039346656037 < 18446744073709551616,
    ⟨s.size, 0, rfl, by omega, by omega, rfl, by rw [List.take_zero, List.foldl_nil]; rfl, by rw [List.take_zero, List.foldl_nil]; omega⟩, ?_⟩
  rintro w1 m n1 n2 ⟨i, rfl, hi, rfl, rfl, rfl, hlt'⟩ -
  have hsz : s.size = s.data.toList.length := by cases s; rfl
  by_cases hlt : i < s.size
  · refine cT (decide_eq_true (by omega)) ⟨by omega, ?_⟩
    rw [Int.toNat_natCast]
    have hg : s[i]? = some s.data.toList[i] := by
      rw [getElem?_pos s i hlt]
      rfl
    rw [hg]
    refine ⟨s.size - (i + 1), by omega, i + 1, by rw [IntWalk.i64_in _ (by omega)]; omega, by omega, rfl, rfl, ?_, ?_⟩
    · rw [hash_step _ hlt', List.take_succ_eq_append_getElem (by omega), List.foldl_append, List.foldl_cons, List.foldl_nil]
    · rw [List.take_succ_eq_append_getElem (by omega), List.foldl_append, List.foldl_cons, List.foldl_nil]; exact hashStep_lt _ _
  · refine cF (decide_eq_false (by omega)) ?_
    have : s.data.toList.take i = s.data.toList := List.take_of_length_le (by omega)
    rw [this]
    unfold hashM at hA
    exact hA

theorem hash_c (s : ByteArray) (hs : s.size ≤ 9223372036854775807) : PureC 51 #[.string s] (.int .u64 (hashM s.data.toList : Nat)) := fun w => by
  refine cHash_ok ?_
  unfold cHash
  exact hash_loop s hs (A := fun n w1 => _) ⟨rfl, Chg.refl _ _⟩

theorem rhash_c (s : ByteArray) (hs : s.size ≤ 9223372036854775807) : PureC 60 #[.string s] (.int .u64 (hashM s.data.toList : Nat)) := fun w => by
  refine rHash_ok ?_
  unfold rHash
  exact hash_loop s hs (A := fun n w1 => _) ⟨rfl, Chg.refl _ _⟩

theorem strV_eq (l : List UInt8) : strV l = .string (bs l) := rfl

theorem bs_app (a b : List UInt8) : bs a ++ bs b = bs (a ++ b) := by
  apply ByteArray.ext
  rw [ByteArray.data_append]
  simp [bs]

theorem bs_size (l : List UInt8) : (bs l).size = l.length := rfl

theorem u8_mod (n : Nat) : IntKind.u8.wrap (n : Int) = ((UInt8.ofNat (n % 256)).toNat : Int) := by
  rw [IntKind.wrap_u8, ofNat_toNat]; omega

theorem rbytes_c (x k : Nat) (hx : x < 18446744073709551616) (hk : k ≤ 8) : PureC 61 #[.int .u64 (x : Int), .int .i64 (k : Int)] (strV (leB k x)) := fun w => by
  refine rBytes_ok ?_
  unfold rBytes
  refine ⟨fun n3 s n4 w1 m => ∃ i : Nat, n4 = (i : Int) ∧ i ≤ k ∧ m = k - i ∧ n3 = ((x / 256 ^ i : Nat) : Int) ∧ s = bs (leB i x) ∧ Chg w w1 [], ⟨k, 0, rfl, by omega, by omega, by simp, rfl, Chg.refl _ _⟩, ?_⟩
  rintro w1 m n3 s n4 ⟨i, rfl, hi, rfl, rfl, rfl, hc⟩ -
  by_cases hlt : i < k
  · have hd : x / 256 ^ i < 18446744073709551616 := Nat.lt_of_le_of_lt (Nat.div_le_self _ _) hx
    have h1 : IntKind.u8.wrap (Int.tmod ((x / 256 ^ i : Nat) : Int) 256) = ((UInt8.ofNat (x / 256 ^ i % 256)).toNat : Int) := by
      rw [show Int.tmod ((x / 256 ^ i : Nat) : Int) 256 = ((x / 256 ^ i % 256 : Nat) : Int) from rfl, u8_mod, Nat.mod_mod]
    refine cT (decide_eq_true (by omega)) ⟨by decide, newK_mk (onebyte_c Tryd.underlying59 Tryd.underlying5 Tryd.underlying9 h1 ⟨_, rfl, ?_, by decide, k - (i + 1), by omega, i + 1, ?_, by omega, rfl, ?_, ?_, ?_⟩)⟩
    · have : IntKind.i64.max = 9223372036854775807 := rfl
      have h2 : (⟨#[UInt8.ofNat (x / 256 ^ i % 256)]⟩ : ByteArray).size = 1 := rfl
      rw [bs_size, leB_length, h2]; omega
    · rw [IntWalk.i64_in _ (by omega)]; omega
    · rw [Nat.pow_succ, ← Nat.div_div_eq_div_mul]
      generalize x / 256 ^ i = q at hd
      rw [IntWalk.u64_quo _ _ (by omega)]; omega
    · rw [leB_snoc]; exact bs_app _ [_]
    · exact hc.trans (Chg.new _ _ []) (by simp)
  · obtain rfl : i = k := by omega
    exact cF (decide_eq_false (by omega)) ⟨rfl, hc⟩

/-- The chain's next head. -/
def chainM (prev : Nat) (l : List UInt8) : Nat := hashM (leB 8 prev ++ leB 8 l.length ++ l)

theorem hashM_lt (l : List UInt8) : hashM l < 18446744073709551616 := by
  unfold hashM
  have h : ∀ (l : List UInt8) (h : Nat), h < 18446744073709551616 → l.foldl hashStep h < 18446744073709551616 := by
    intro l
    induction l with
    | nil => exact fun h hh => hh
    | cons b l ih => exact fun h _ => ih _ (hashStep_lt h b)
  exact h l _ (by decide)

theorem chainM_lt (p : Nat) (l : List UInt8) : chainM p l < 18446744073709551616 := hashM_lt _

theorem usePure {f : FuncId} {args : Array Value} {r : Value} (h : PureC f args r) {w : World} {R : Ending → World → Prop} (k : ∀ w', Chg w w' [] → R (.returned r) w') : Calls Tryd.prog f args w R :=
  useC (h w) (by rintro _ w' ⟨rfl, hc⟩; exact k w' hc)

theorem bs_eta (s : ByteArray) : bs s.data.toList = s := rfl

theorem size_list (s : ByteArray) : s.size = s.data.toList.length := by cases s; rfl

theorem u64_size {s : ByteArray} (hs : s.size ≤ 9223372036854775807) : IntKind.u64.wrap ((s.size : Nat) : Int) = (s.data.toList.length : Int) := by
  rw [IntWalk.u64_in _ (by omega), size_list]

theorem chain_c (x : Nat) (s : ByteArray) (hs : s.size ≤ 4611686018427387904) : PureC 33 #[.int .u64 (x : Int), .string s] (.int .u64 (chainM x s.data.toList : Nat)) := fun w => by
  refine cChain_ok ?_
  unfold cChain
  refine usePure (low_c x 8 (by decide)) fun w1 hc1 => ⟨_, rfl, ?_⟩
  rw [u64_size (by omega)]
  refine usePure (low_c _ 8 (by decide)) fun w2 hc2 => ⟨_, rfl, ?_⟩
  have e1 : (⟨(leB 8 x).toArray⟩ : ByteArray) ++ ⟨(leB 8 s.data.toList.length).toArray⟩ = bs (leB 8 x ++ leB 8 s.data.toList.length) := bs_app _ _
  rw [e1]
  have e2 : bs (leB 8 x ++ leB 8 s.data.toList.length) ++ s = bs (leB 8 x ++ leB 8 s.data.toList.length ++ s.data.toList) := bs_app _ s.data.toList
  rw [e2]
  have hm : IntKind.i64.max = 9223372036854775807 := rfl
  have hz1 : (⟨(leB 8 x).toArray⟩ : ByteArray).size = 8 := leB_length 8 x
  have hz2 : (⟨(leB 8 s.data.toList.length).toArray⟩ : ByteArray).size = 8 := leB_length 8 _
  have hz3 : (bs (leB 8 x ++ leB 8 s.data.toList.length)).size = 16 := by rw [bs_size, List.length_append, leB_length, leB_length]
  refine ⟨by rw [hz1, hz2, hm]; omega, by rw [hz3, hm]; omega, usePure (hash_c _ ?_) fun w3 hc3 => ⟨_, rfl, rfl, (hc1.trans hc2 (by simp)).trans hc3 (by simp)⟩⟩
  rw [bs_size, List.length_append, List.length_append, leB_length, leB_length, ← size_list]
  omega

theorem rchain_c (x : Nat) (hx : x < 18446744073709551616) (s : ByteArray) (hs : s.size ≤ 4611686018427387904) : PureC 43 #[.int .u64 (x : Int), .string s] (.int .u64 (chainM x s.data.toList : Nat)) := fun w => by
  refine rChain_ok ?_
  unfold rChain
  refine usePure (rbytes_c x 8 hx (by decide)) fun w1 hc1 => ⟨_, rfl, ?_⟩
  rw [u64_size (by omega)]
  refine usePure (rbytes_c _ 8 (by rw [← size_list]; omega) (by decide)) fun w2 hc2 => ⟨_, rfl, ?_⟩
  have e1 : (⟨(leB 8 x).toArray⟩ : ByteArray) ++ ⟨(leB 8 s.data.toList.length).toArray⟩ = bs (leB 8 x ++ leB 8 s.data.toList.length) := bs_app _ _
  rw [e1]
  have e2 : bs (leB 8 x ++ leB 8 s.data.toList.length) ++ s = bs (leB 8 x ++ leB 8 s.data.toList.length ++ s.data.toList) := bs_app _ s.data.toList
  rw [e2]
  have hm : IntKind.i64.max = 9223372036854775807 := rfl
  have hz1 : (⟨(leB 8 x).toArray⟩ : ByteArray).size = 8 := leB_length 8 x
  have hz2 : (⟨(leB 8 s.data.toList.length).toArray⟩ : ByteArray).size = 8 := leB_length 8 _
  have hz3 : (bs (leB 8 x ++ leB 8 s.data.toList.length)).size = 16 := by rw [bs_size, List.length_append, leB_length, leB_length]
  refine ⟨by rw [hz1, hz2, hm]; omega, by rw [hz3, hm]; omega, usePure (rhash_c _ ?_) fun w3 hc3 => ⟨_, rfl, rfl, (hc1.trans hc2 (by simp)).trans hc3 (by simp)⟩⟩
  rw [bs_size, List.length_append, List.length_append, leB_length, leB_length, ← size_list]
  omega

end Go.Proofs.YtniehglfkacjjaaDoor

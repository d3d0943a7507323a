import Derived.Test.YtbjbfppaghfpcaaMr2
import Derived.Test.YtbjbfppaghfpcaaSl
import Derived.Laws.Strings
namespace Go.Proofs.Ytbjbfppaghfpcaa
open Go Go.Vc

def medA (x : Nat) (s : MS) : Asn where
  p w F := Med w x s F
  loc := fun h hc hd => Med.keep h hc hd
  lt := fun h => Med.lt h

def refA (x : Nat) (s : MS) : Asn where
  p w F := Ref w x s ∧ F = [x]
  loc := fun ⟨h, he⟩ hc hd => ⟨h.keep hc (hd _ (by rw [he]; simp)), he⟩
  lt := fun ⟨h, he⟩ k hk => by subst he; simp at hk; subst hk; exact lt_of_heap h

theorem RefTo.to {w w' : World} {x : Nat} {s s' : MS} (k : Ref w x s → RefTo w w' x s') : ∀ F, (refA x s).p w F → To (refA x s') w w' F := by
  rintro F ⟨h, rfl⟩
  exact ⟨[x], ⟨(k h).1, rfl⟩, (k h).2, fun j hj => .inl hj⟩

/-! The media functions on a nil medium. -/
section nil
variable (w : World)
theorem stateN_c : Calls Try.prog 34 #[.pointer none] w (RetC fun r w' => r = .int .i64 6 ∧ w' = w) := mstateN_ok ⟨rfl, rfl⟩
theorem appendN_c (t : ByteArray) : Calls Try.prog 15 #[.pointer none, .string t] w (RetC fun r w' => r = .int .i64 6 ∧ w' = w) :=
  mAppendN_ok (useC (stateN_c w) (by rintro _ w1 ⟨rfl, rfl⟩; exact ⟨_, rfl, rfl, rfl⟩))
theorem syncN_c : Calls Try.prog 16 #[.pointer none] w (RetC fun r w' => r = .int .i64 6 ∧ w' = w) :=
  mSyncN_ok (useC (stateN_c w) (by rintro _ w1 ⟨rfl, rfl⟩; exact ⟨_, rfl, rfl, rfl⟩))
theorem truncateN_c (n : Int) : Calls Try.prog 23 #[.pointer none, .int .i64 n] w (RetC fun r w' => r = .int .i64 6 ∧ w' = w) :=
  mTruncateN_ok (useC (stateN_c w) (by rintro _ w1 ⟨rfl, rfl⟩; exact ⟨_, rfl, rfl, rfl⟩))
theorem readN_c : Calls Try.prog 18 #[.pointer none] w (RetC fun r w' => r = .tuple #[.string (bs []), .int .i64 6] ∧ w' = w) :=
  mReadN_ok (useC (stateN_c w) (by rintro _ w1 ⟨rfl, rfl⟩; exact ⟨_, rfl, rfl, rfl⟩))
theorem sizeN_c : Calls Try.prog 14 #[.pointer none] w (RetC fun r w' => r = .int .i64 0 ∧ w' = w) := mSizeN_ok ⟨rfl, rfl⟩
theorem durableN_c : Calls Try.prog 20 #[.pointer none] w (RetC fun r w' => r = .int .i64 0 ∧ w' = w) := mDurableN_ok ⟨rfl, rfl⟩
theorem crashN_c (n : Int) : Calls Try.prog 17 #[.pointer none, .int .i64 n] w (RetC fun r w' => r = .tuple #[] ∧ w' = w) := mCrashN_ok ⟨rfl, rfl⟩
theorem armN_c (n : Int) : Calls Try.prog 19 #[.pointer none, .int .i64 n] w (RetC fun r w' => r = .tuple #[] ∧ w' = w) :=
  mArmN_ok (useC (stateN_c w) (by rintro _ w1 ⟨rfl, rfl⟩; exact ⟨_, rfl, rfl, rfl⟩))
theorem flipN_c (n m : Int) : Calls Try.prog 24 #[.pointer none, .int .i64 n, .int .u8 m] w (RetC fun r w' => r = .int .i64 6 ∧ w' = w) := mFlipN_ok ⟨rfl, rfl⟩
theorem copyN_c : Calls Try.prog 21 #[.pointer none] w (RetC fun r w' => r = .pointer none ∧ w' = w) := mCopyN_ok ⟨rfl, rfl⟩
end nil

/-! The medium, as a claim that is carried along. -/
section st
variable {w0 w : World} {x : Nat} {s : MS} {B : Asn}

theorem append_st (h : St w0 w (star (medA x s) B)) (ho : s.Ok) (t : ByteArray) : Calls Try.prog 15 #[.pointer (some ⟨x, 0, none⟩), .string t] w
    (RetC fun r w' => r = .int .i64 (s.app t.data.toList).1 ∧ St w0 w' (star (medA x (s.app t.data.toList).2) B)) := by
  obtain ⟨F, hF, k⟩ := h.use
  exact (append_calls hF ho t).mono fun e w' ⟨v, he, hv, hto⟩ => ⟨v, he, hv, k w' (medA x _) hto⟩

theorem sync_st (h : St w0 w (star (medA x s) B)) (ho : s.Ok) : Calls Try.prog 16 #[.pointer (some ⟨x, 0, none⟩)] w
    (RetC fun r w' => r = .int .i64 s.syn.1 ∧ St w0 w' (star (medA x s.syn.2) B)) := by
  obtain ⟨F, hF, k⟩ := h.use
  exact (sync_calls hF ho).mono fun e w' ⟨v, he, hv, hto⟩ => ⟨v, he, hv, k w' (medA x _) hto⟩

theorem truncate_st (h : St w0 w (star (medA x s) B)) (ho : s.Ok) (n : Int) : Calls Try.prog 23 #[.pointer (some ⟨x, 0, none⟩), .int .i64 n] w
    (RetC fun r w' => r = .int .i64 (s.tru n).1 ∧ St w0 w' (star (medA x (s.tru n).2) B)) := by
  obtain ⟨F, hF, k⟩ := h.use
  exact (truncate_calls hF ho n).mono fun e w' ⟨v, he, hv, hto⟩ => ⟨v, he, hv, k w' (medA x _) hto⟩

theorem crash_st (h : St w0 w (star (medA x s) B)) (ho : s.Ok) {n : Int} (hn : n ≤ 9223372036854775807) : Calls Try.prog 17 #[.pointer (some ⟨x, 0, none⟩), .int .i64 n] w
    (RetC fun r w' => r = .tuple #[] ∧ St w0 w' (star (medA x (s.crash n)) B)) := by
  obtain ⟨F, hF, k⟩ := h.use
  exact (crash_calls hF ho hn).mono fun e w' ⟨v, he, hv, hto⟩ => ⟨v, he, hv, k w' (medA x _) hto⟩

theorem arm_st (h : St w0 w (star (medA x s) B)) (n : Int) : Calls Try.prog 19 #[.pointer (some ⟨x, 0, none⟩), .int .i64 n] w
    (RetC fun r w' => r = .tuple #[] ∧ St w0 w' (star (medA x (s.arm n)) B)) := by
  obtain ⟨F, hF, k⟩ := h.use
  exact (arm_calls hF n).mono fun e w' ⟨v, he, hv, hto⟩ => ⟨v, he, hv, k w' (medA x _) hto⟩

theorem flip_st (h : St w0 w (star (medA x s) B)) (n : Int) (m : UInt8) : Calls Try.prog 24 #[.pointer (some ⟨x, 0, none⟩), .int .i64 n, .int .u8 (m.toNat : Int)] w
    (RetC fun r w' => r = .int .i64 (s.flip n m).1 ∧ St w0 w' (star (medA x (s.flip n m).2) B)) := by
  obtain ⟨F, hF, k⟩ := h.use
  exact (flip_calls hF n m).mono fun e w' ⟨v, he, hv, hto⟩ => ⟨v, he, hv, k w' (medA x _) hto⟩

theorem read_st (h : St w0 w (star (medA x s) B)) : Calls Try.prog 18 #[.pointer (some ⟨x, 0, none⟩)] w
    (RetC fun r w' => r = .tuple #[.string ⟨s.rd.1.toArray⟩, .int .i64 s.rd.2] ∧ w' = w) := by
  obtain ⟨F, hF, k⟩ := h.use
  exact read_calls hF

theorem size_st (h : St w0 w (star (medA x s) B)) : Calls Try.prog 14 #[.pointer (some ⟨x, 0, none⟩)] w (RetC fun r w' => r = .int .i64 (s.b.length : Int) ∧ w' = w) := by
  obtain ⟨F, hF, k⟩ := h.use
  exact size_calls hF

theorem durable_st (h : St w0 w (star (medA x s) B)) : Calls Try.prog 20 #[.pointer (some ⟨x, 0, none⟩)] w (RetC fun r w' => r = .int .i64 (s.dur : Int) ∧ w' = w) := by
  obtain ⟨F, hF, k⟩ := h.use
  exact durable_calls hF

theorem copy_st (h : St w0 w (star (medA x s) B)) (ho : s.Ok) : Calls Try.prog 21 #[.pointer (some ⟨x, 0, none⟩)] w
    (RetC fun r w' => ∃ y, r = .pointer (some ⟨y, 0, none⟩) ∧ St w0 w' (star (star (medA x s) B) (medA y s))) := by
  obtain ⟨F, hF, k⟩ := h.use
  exact (copy_calls hF ho).mono fun e w' ⟨v, he, y, F', hv, hM, hc, hn⟩ => ⟨v, he, y, hv, h.add hc (B := medA y s) hM hn⟩

theorem new_st {A : Asn} (h : St w0 w A) {n : Int} (hn : ¬ (n < 1 ∨ 262144 < n)) : Calls Try.prog 10 #[.int .i64 n] w
    (RetC fun r w' => ∃ y, r = .tuple #[.pointer (some ⟨y, 0, none⟩), .int .i64 0] ∧ St w0 w' (star A (medA y ⟨n, [], 0, false, none⟩))) := by
  refine (new_calls w n).mono fun e w' ⟨v, he, h'⟩ => ?_
  dsimp only at h'
  rw [if_neg hn] at h'
  obtain ⟨y, hv, hM, hc, hy⟩ := h'
  exact ⟨v, he, y, hv, h.add hc (B := medA y _) hM (by simpa using hy)⟩

/-! The reference's medium. -/
theorem rappend_st (h : St w0 w (star (refA x s) B)) (ho : s.Ok) (t : ByteArray) : Calls Try.prog 25 #[.pointer (some ⟨x, 0, none⟩), .string t] w
    (RetC fun r w' => r = .int .i64 (s.app t.data.toList).1 ∧ St w0 w' (star (refA x (s.app t.data.toList).2) B)) := by
  obtain ⟨F, ⟨hF, rfl⟩, k⟩ := h.use
  exact (rappend_calls hF ho t).mono fun e w' ⟨v, he, hv, hto⟩ => ⟨v, he, hv, k w' (refA x _) ⟨_, ⟨hto.1, rfl⟩, hto.2, fun _ h => .inl h⟩⟩

theorem rsync_st (h : St w0 w (star (refA x s) B)) (ho : s.Ok) : Calls Try.prog 26 #[.pointer (some ⟨x, 0, none⟩)] w
    (RetC fun r w' => r = .int .i64 s.syn.1 ∧ St w0 w' (star (refA x s.syn.2) B)) := by
  obtain ⟨F, ⟨hF, rfl⟩, k⟩ := h.use
  exact (rsync_calls hF ho).mono fun e w' ⟨v, he, hv, hto⟩ => ⟨v, he, hv, k w' (refA x _) ⟨_, ⟨hto.1, rfl⟩, hto.2, fun _ h => .inl h⟩⟩

theorem rtruncate_st (h : St w0 w (star (refA x s) B)) (ho : s.Ok) (n : Int) : Calls Try.prog 27 #[.pointer (some ⟨x, 0, none⟩), .int .i64 n] w
    (RetC fun r w' => r = .int .i64 (s.tru n).1 ∧ St w0 w' (star (refA x (s.tru n).2) B)) := by
  obtain ⟨F, ⟨hF, rfl⟩, k⟩ := h.use
  exact (rtruncate_calls hF ho n).mono fun e w' ⟨v, he, hv, hto⟩ => ⟨v, he, hv, k w' (refA x _) ⟨_, ⟨hto.1, rfl⟩, hto.2, fun _ h => .inl h⟩⟩

theorem rcrash_st (h : St w0 w (star (refA x s) B)) (ho : s.Ok) {n : Int} (hn : n ≤ 9223372036854775807) : Calls Try.prog 28 #[.pointer (some ⟨x, 0, none⟩), .int .i64 n] w
    (RetC fun r w' => r = .tuple #[] ∧ St w0 w' (star (refA x (s.crash n)) B)) := by
  obtain ⟨F, ⟨hF, rfl⟩, k⟩ := h.use
  exact (rcrash_calls hF ho hn).mono fun e w' ⟨v, he, hv, hto⟩ => ⟨v, he, hv, k w' (refA x _) ⟨_, ⟨hto.1, rfl⟩, hto.2, fun _ h => .inl h⟩⟩

theorem rarm_st (h : St w0 w (star (refA x s) B)) (n : Int) : Calls Try.prog 29 #[.pointer (some ⟨x, 0, none⟩), .int .i64 n] w
    (RetC fun r w' => r = .tuple #[] ∧ St w0 w' (star (refA x (s.arm n)) B)) := by
  obtain ⟨F, ⟨hF, rfl⟩, k⟩ := h.use
  exact (rarm_calls hF n).mono fun e w' ⟨v, he, hv, hto⟩ => ⟨v, he, hv, k w' (refA x _) ⟨_, ⟨hto.1, rfl⟩, hto.2, fun _ h => .inl h⟩⟩

theorem rflip_st (h : St w0 w (star (refA x s) B)) (ho : s.Ok) (n : Int) (m : UInt8) : Calls Try.prog 30 #[.pointer (some ⟨x, 0, none⟩), .int .i64 n, .int .u8 (m.toNat : Int)] w
    (RetC fun r w' => r = .int .i64 (s.flip n m).1 ∧ St w0 w' (star (refA x (s.flip n m).2) B)) := by
  obtain ⟨F, ⟨hF, rfl⟩, k⟩ := h.use
  exact (rflip_calls hF ho n m).mono fun e w' ⟨v, he, hv, hto⟩ => ⟨v, he, hv, k w' (refA x _) ⟨_, ⟨hto.1, rfl⟩, hto.2, fun _ h => .inl h⟩⟩

theorem rread_st (h : St w0 w (star (refA x s) B)) : Calls Try.prog 31 #[.pointer (some ⟨x, 0, none⟩)] w
    (RetC fun r w' => r = .tuple #[.string ⟨s.rd.1.toArray⟩, .int .i64 s.rd.2] ∧ w' = w) := by
  obtain ⟨F, ⟨hF, _⟩, k⟩ := h.use
  exact rread_calls hF

theorem rsize_st (h : St w0 w (star (refA x s) B)) : Calls Try.prog 32 #[.pointer (some ⟨x, 0, none⟩)] w (RetC fun r w' => r = .int .i64 (s.b.length : Int) ∧ w' = w) := by
  obtain ⟨F, ⟨hF, _⟩, k⟩ := h.use
  exact rsize_calls hF

theorem rdurable_st (h : St w0 w (star (refA x s) B)) : Calls Try.prog 33 #[.pointer (some ⟨x, 0, none⟩)] w (RetC fun r w' => r = .int .i64 (s.dur : Int) ∧ w' = w) := by
  obtain ⟨F, ⟨hF, _⟩, k⟩ := h.use
  exact rdurable_calls hF

theorem rcopy_st (h : St w0 w (star (refA x s) B)) : Calls Try.prog 22 #[.pointer (some ⟨x, 0, none⟩)] w
    (RetC fun r w' => ∃ y, r = .pointer (some ⟨y, 0, none⟩) ∧ St w0 w' (star (star (refA x s) B) (refA y s))) := by
  obtain ⟨F, ⟨hF, _⟩, k⟩ := h.use
  exact (rcopy_calls hF).mono fun e w' ⟨v, he, y, hv, hM, hc, hn⟩ => ⟨v, he, y, hv, h.add hc (B := refA y s) ⟨hM, rfl⟩ (by simpa using hn)⟩

theorem rnew_st {A : Asn} (h : St w0 w A) {n : Int} (hn : ¬ (n < 1 ∨ 262144 < n)) : Calls Try.prog 11 #[.int .i64 n] w
    (RetC fun r w' => ∃ y, r = .tuple #[.pointer (some ⟨y, 0, none⟩), .int .i64 0] ∧ St w0 w' (star A (refA y ⟨n, [], 0, false, none⟩))) := by
  refine (rnew_calls w n).mono fun e w' ⟨v, he, h'⟩ => ?_
  dsimp only at h'
  rw [if_neg hn] at h'
  obtain ⟨y, hv, hM, hc, hy⟩ := h'
  exact ⟨v, he, y, hv, h.add hc (B := refA y _) ⟨hM, rfl⟩ (by simpa using hy)⟩

theorem St.shape {A A' : Asn} (h : St w0 w A) (k : ∀ w F, A.p w F → ∃ F', A'.p w F' ∧ ∀ j ∈ F', j ∈ F) : St w0 w A' := by
  obtain ⟨F, hF, hc, hn⟩ := h
  obtain ⟨F', hF', hs⟩ := k w F hF
  exact ⟨F', hF', hc, fun j hj => hn j (hs j hj)⟩
end st

theorem bytes_beq (a b : ByteArray) (h : a.data.toList = b.data.toList) : (a.toList == b.toList) = true := by
  rw [Go.ByteArray.toList_eq, Go.ByteArray.toList_eq, h]; simp
theorem bytes_bne (a b : ByteArray) (h : a.data.toList = b.data.toList) : (!(a.toList == b.toList)) = false := by rw [bytes_beq a b h]; rfl

theorem okNew {n : Int} (h : ¬ (n < 1 ∨ 262144 < n)) : MS.Ok ⟨n, [], 0, false, none⟩ :=
  ⟨by simp; omega, by simp; omega, by simp, fun _ h => by cases h⟩

theorem awake_c (w : World) : Calls Try.prog 9 #[] w (RetC fun r w' => r = .bool true ∧ Chg w w' []) := by
  refine lawake_ok ?_
  unfold lawake
  refine useC (new_st (St.start w) (n := 8) (by decide)) ?_
  rintro _ w1 ⟨y, rfl, h1⟩
  refine ⟨_, _, rfl, ?_⟩
  refine useC (new_calls w1 0) ?_
  rintro _ w2 h2
  rw [if_pos (by decide)] at h2
  obtain ⟨rfl, rfl⟩ := h2
  refine ⟨_, _, rfl, ?_⟩
  refine useC (new_st h1 (n := 2) (by decide)) ?_
  rintro _ w3 ⟨z, rfl, h3⟩
  refine ⟨_, _, rfl, ?_⟩
  have m1 := h3.first.swap
  refine ⟨fun b w' => b = false ∧ St w w' (star (medA y ⟨8, [], 0, false, none⟩) emp), ?_, ?_⟩
  · rintro w4 b ⟨rfl, h4⟩ -
    refine ⟨fun b w' => b = false ∧ St w w' (star (medA y ⟨8, [97, 98, 99, 100, 101], 2, false, none⟩) emp), ?_, ?_⟩
    · rintro w5 b ⟨rfl, h5⟩ -
      have o5 : MS.Ok ⟨8, [97, 98, 99, 100, 101], 2, false, none⟩ := ⟨by simp, by simp, by simp, fun _ h => by cases h⟩
      refine useC (crash_st h5 o5 (n := 1) (by decide)) ?_
      rintro _ w6 ⟨rfl, h6⟩
      refine ⟨rfl, ?_⟩
      have h6' : St w w6 (star (medA y ⟨8, [97, 98, 99], 3, false, none⟩) emp) := h6
      have o6 : MS.Ok ⟨8, [97, 98, 99], 3, false, none⟩ := ⟨by simp, by simp, by simp, fun _ h => by cases h⟩
      refine useC (read_st h6') ?_
      rintro _ w7 ⟨rfl, rfl⟩
      refine ⟨_, _, rfl, ?_⟩
      refine useC (copy_st h6' o6) ?_
      rintro _ w8 ⟨c, rfl, h8⟩
      refine ⟨_, rfl, ?_⟩
      have h8' : St w w8 (star (medA y ⟨8, [97, 98, 99], 3, false, none⟩) (medA c ⟨8, [97, 98, 99], 3, false, none⟩)) := by
        refine St.shape h8 ?_
        rintro v F ⟨F1, F2, rfl, ⟨F3, F4, rfl, h3, _, hd3⟩, h2, hd⟩
        exact ⟨F3 ++ F2, ⟨F3, F2, rfl, h3, h2, fun k hk => hd k (List.mem_append_left _ hk)⟩, fun j hj => by simp at hj ⊢; rcases hj with h | h <;> simp [h]⟩
      refine ⟨fun b w' => b = false ∧ St w w' (star (medA y ⟨8, [97, 98, 99], 3, false, none⟩) (medA c ⟨8, [97, 98, 99], 3, false, none⟩)), ?_, ?_⟩
      · rintro w9 b ⟨rfl, h9⟩ -
        refine useC (arm_st h9 2) ?_
        rintro _ w10 ⟨rfl, h10⟩
        refine ⟨rfl, ?_⟩
        have h10' : St w w10 (star (medA y ⟨8, [97, 98, 99], 3, false, some 2⟩) (medA c ⟨8, [97, 98, 99], 3, false, none⟩)) := h10
        have o10 : MS.Ok ⟨8, [97, 98, 99], 3, false, some 2⟩ := ⟨by simp, by simp, by simp, fun _ h => by cases h; decide⟩
        refine ⟨fun b w' => b = false ∧ St w w' (star (medA y ⟨8, [96, 98, 99, 120, 121], 3, true, some 0⟩) (medA c ⟨8, [97, 98, 99], 3, false, none⟩)), ?_, ?_⟩
        · rintro w11 b ⟨rfl, h11⟩ -
          have o11 : MS.Ok ⟨8, [96, 98, 99, 120, 121], 3, true, some 0⟩ := ⟨by simp, by simp, by simp, fun _ h => by cases h; decide⟩
          refine useC (crash_st h11 o11 (n := 0) (by decide)) ?_
          rintro _ w12 ⟨rfl, h12⟩
          refine ⟨rfl, ?_⟩
          have h12' : St w w12 (star (medA y ⟨8, [96, 98, 99], 3, false, none⟩) (medA c ⟨8, [97, 98, 99], 3, false, none⟩)) := h12
          refine useC (read_st h12') ?_
          rintro _ w13 ⟨rfl, rfl⟩
          refine ⟨_, _, rfl, ?_⟩
          refine useC (read_st h12'.swap) ?_
          rintro _ w14 ⟨rfl, rfl⟩
          refine ⟨_, _, rfl, ?_⟩
          refine cT (bytes_beq _ _ rfl) (cT rfl (cT (bytes_beq _ _ rfl) (cT rfl ?_)))
          have o13 : MS.Ok ⟨8, [97, 98, 99], 3, false, none⟩ := o6
          refine useC (truncate_st h12'.swap o13 1) ?_
          rintro _ w15 ⟨rfl, h15⟩
          refine ⟨_, rfl, ?_⟩
          have h15' : St w w15 (star (medA c ⟨8, [97], 1, false, none⟩) (medA y ⟨8, [96, 98, 99], 3, false, none⟩)) := h15
          refine cT rfl ?_
          refine useC (durable_st h15') ?_
          rintro _ w16 ⟨rfl, rfl⟩
          refine ⟨_, rfl, ?_⟩
          refine cT rfl ?_
          have o15 : MS.Ok ⟨8, [97], 1, false, none⟩ := ⟨by simp, by simp, by simp, fun _ h => by cases h⟩
          refine useC (truncate_st h15' o15 2) ?_
          rintro _ w17 ⟨rfl, h17⟩
          exact ⟨_, rfl, rfl, h17.chg⟩
        · refine useC (append_st h10' o10 (bs [120, 121, 122])) ?_
          rintro _ w18 ⟨rfl, h18⟩
          refine ⟨_, rfl, ?_⟩
          have h18' : St w w18 (star (medA y ⟨8, [97, 98, 99, 120, 121], 3, true, some 0⟩) (medA c ⟨8, [97, 98, 99], 3, false, none⟩)) := h18
          have o18 : MS.Ok ⟨8, [97, 98, 99, 120, 121], 3, true, some 0⟩ := ⟨by simp, by simp, by simp, fun _ h => by cases h; decide⟩
          refine cF rfl ?_
          refine useC (size_st h18') ?_
          rintro _ w19 ⟨rfl, rfl⟩
          refine ⟨_, rfl, ?_⟩
          refine cF rfl ?_
          refine useC (sync_st h18' o18) ?_
          rintro _ w20 ⟨rfl, h20⟩
          refine ⟨_, rfl, ?_⟩
          refine cF rfl ?_
          have h20' : St w w20 (star (medA y ⟨8, [97, 98, 99, 120, 121], 3, true, some 0⟩) (medA c ⟨8, [97, 98, 99], 3, false, none⟩)) := h20
          refine useC (flip_st h20' 0 1) ?_
          rintro _ w21 ⟨rfl, h21⟩
          exact ⟨_, rfl, rfl, h21⟩
      · refine cF (bytes_bne _ _ rfl) (cF rfl ?_)
        refine useC (durable_st h8') ?_
        rintro _ w22 ⟨rfl, rfl⟩
        exact ⟨_, rfl, rfl, h8'⟩
    · refine useC (append_st h4 (okNew (by decide)) (bs [97, 98])) ?_
      rintro _ w23 ⟨rfl, h23⟩
      refine ⟨_, rfl, ?_⟩
      have h23' : St w w23 (star (medA y ⟨8, [97, 98], 0, false, none⟩) emp) := h23
      refine cF rfl ?_
      refine useC (sync_st h23' ⟨by simp, by simp, by simp, fun _ h => by cases h⟩) ?_
      rintro _ w24 ⟨rfl, h24⟩
      refine ⟨_, rfl, ?_⟩
      have h24' : St w w24 (star (medA y ⟨8, [97, 98], 2, false, none⟩) emp) := h24
      refine cF rfl ?_
      refine useC (append_st h24' ⟨by simp, by simp, by simp, fun _ h => by cases h⟩ (bs [99, 100, 101])) ?_
      rintro _ w25 ⟨rfl, h25⟩
      exact ⟨_, rfl, rfl, h25⟩
  · have h3' : St w w3 (star (medA z ⟨2, [], 0, false, none⟩) (star emp (medA y ⟨8, [], 0, false, none⟩))) := h3.swap
    refine cF rfl (cF rfl (cF rfl (cF rfl (cF rfl ?_))))
    refine useC (append_st h3' (okNew (by decide)) (bs [97, 98, 99])) ?_
    rintro _ w26 ⟨rfl, h26⟩
    refine ⟨_, rfl, ?_⟩
    have h26' : St w w26 (star (medA z ⟨2, [], 0, false, none⟩) (star emp (medA y ⟨8, [], 0, false, none⟩))) := h26
    refine cF rfl ?_
    refine useC (size_st h26') ?_
    rintro _ w27 ⟨rfl, rfl⟩
    exact ⟨_, rfl, rfl, h26'.second.swap⟩

end Go.Proofs.Ytbjbfppaghfpcaa

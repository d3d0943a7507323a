import Derived.Test.YtbjbfppaghfpcaaMr1
namespace Go.Proofs.Ytbjbfppaghfpcaa
open Go Go.Vc

theorem bsz (l : List UInt8) : (⟨l.toArray⟩ : ByteArray).size = l.length := by simp [ByteArray.size]

theorem ext_take (l : List UInt8) (n : Nat) : (⟨l.toArray⟩ : ByteArray).extract 0 n = ⟨(l.take n).toArray⟩ := by
  apply ByteArray.ext
  apply Array.ext'
  simp [List.extract_eq_take_drop]

theorem ext_drop (l : List UInt8) (n : Nat) : (⟨l.toArray⟩ : ByteArray).extract n (⟨l.toArray⟩ : ByteArray).size = ⟨(l.drop n).toArray⟩ := by
  apply ByteArray.ext
  apply Array.ext'
  simp only [bsz, ByteArray.data_extract, Array.toList_extract, List.extract_eq_take_drop]
  exact List.take_of_length_le (by simp)

theorem rtruncate_calls {w : World} {x : Nat} {s : MS} (h : Ref w x s) (ho : s.Ok) (n : Int) :
    Calls Try.prog 27 #[.pointer (some ⟨x, 0, none⟩), .int .i64 n] w (RetC fun r w' => r = .int .i64 (s.tru n).1 ∧ RefTo w w' x (s.tru n).2) := by
  refine rTruncate_ok ?_
  unfold rTruncate
  refine ⟨s.down, h.cell 4, ?_⟩
  cases hd : s.down with
  | true =>
    have : s.tru n = (19, s) := by unfold MS.tru; rw [if_pos hd]
    rw [this, cond_true]
    exact ⟨rfl, RefTo.refl h (Chg.refl _ _)⟩
  | false =>
    rw [cond_false]
    refine ⟨fun b w' => w' = w ∧ b = decide (n < 0 ∨ (s.b.length : Int) < n), ?_, ?_⟩
    · rintro w2 b ⟨rfl, rfl⟩ -
      by_cases hbad : n < 0 ∨ (s.b.length : Int) < n
      · have : s.tru n = (4, s) := by unfold MS.tru; rw [if_neg (by rw [hd]; decide), if_pos hbad]
        rw [this, decide_eq_true hbad, cond_true]
        exact ⟨rfl, RefTo.refl h (Chg.refl _ _)⟩
      · rw [decide_eq_false hbad, cond_false]
        refine useC (rstep_c h ho) ?_
        rintro _ w3 ⟨rfl, hto⟩
        refine ⟨_, rfl, ?_⟩
        cases hst : s.stp.1 with
        | false =>
          have : s.tru n = (19, s.stp.2) := by unfold MS.tru; rw [if_neg (by rw [hd]; decide), if_neg hbad, if_neg (by rw [hst]; decide)]
          rw [this]
          exact ⟨rfl, hto⟩
        | true =>
          have : s.tru n = (0, s.stp.2.cut n.toNat) := by unfold MS.tru; rw [if_neg (by rw [hd]; decide), if_neg hbad, if_pos hst]
          rw [this]
          show cond false _ _
          have hb := MS.stp_b s
          refine ⟨_, hto.1.cell 1, by omega, by rw [bsz, hb.1]; omega, by omega, by omega, ?_⟩
          rw [show ((0 : Int)).toNat = 0 from rfl, ext_take]
          have r1 := hto.1.set (i := 1) (u := .string ⟨(s.stp.2.b.take n.toNat).toArray⟩) (s' := { s.stp.2 with b := s.stp.2.b.take n.toNat }) rfl
          have t1 := hto.set (i := 1) (u := .string ⟨(s.stp.2.b.take n.toNat).toArray⟩) (s' := { s.stp.2 with b := s.stp.2.b.take n.toNat }) rfl
          refine hto.1.st (by omega) rfl ⟨_, r1.cell 2, r1.st (by omega) rfl ⟨rfl, t1.set ?_⟩⟩
          have : (if n < (s.stp.2.dur : Int) then n else (s.stp.2.dur : Int)) = ((min s.stp.2.dur n.toNat : Nat) : Int) := by split <;> omega
          show (refCells _).setIfInBounds 2 (.int .i64 (if n < (s.stp.2.dur : Int) then n else (s.stp.2.dur : Int))) = _
          rw [this]
          rfl
    · by_cases hneg : n < 0
      · rw [decide_eq_true hneg, cond_true]
        exact ⟨rfl, (decide_eq_true (Or.inl hneg)).symm⟩
      · rw [decide_eq_false hneg, cond_false]
        refine ⟨_, h.cell 1, rfl, ?_⟩
        rw [bsz, decide_eq_decide]
        omega

theorem rread_calls {w : World} {x : Nat} {s : MS} (h : Ref w x s) :
    Calls Try.prog 31 #[.pointer (some ⟨x, 0, none⟩)] w (RetC fun r w' => r = .tuple #[.string ⟨s.rd.1.toArray⟩, .int .i64 s.rd.2] ∧ w' = w) := by
  refine rRead_ok ?_
  unfold rRead
  refine ⟨s.down, h.cell 4, ?_⟩
  cases hd : s.down with
  | true =>
    have : s.rd = ([], 19) := by unfold MS.rd; rw [if_pos hd]
    rw [this]
    exact ⟨rfl, rfl⟩
  | false =>
    have : s.rd = (s.b, 0) := by unfold MS.rd; rw [if_neg (by rw [hd]; decide)]
    rw [this]
    exact ⟨_, h.cell 1, rfl, rfl⟩

theorem rsize_calls {w : World} {x : Nat} {s : MS} (h : Ref w x s) :
    Calls Try.prog 32 #[.pointer (some ⟨x, 0, none⟩)] w (RetC fun r w' => r = .int .i64 (s.b.length : Int) ∧ w' = w) :=
  rSize_ok ⟨_, h.cell 1, by rw [bsz], rfl⟩

theorem rdurable_calls {w : World} {x : Nat} {s : MS} (h : Ref w x s) :
    Calls Try.prog 33 #[.pointer (some ⟨x, 0, none⟩)] w (RetC fun r w' => r = .int .i64 (s.dur : Int) ∧ w' = w) :=
  rDurable_ok ⟨_, h.cell 2, rfl, rfl⟩

theorem rcrash_calls {w : World} {x : Nat} {s : MS} (h : Ref w x s) (ho : s.Ok) {n : Int} (hn : n ≤ 9223372036854775807) :
    Calls Try.prog 28 #[.pointer (some ⟨x, 0, none⟩), .int .i64 n] w (RetC fun r w' => r = .tuple #[] ∧ RefTo w w' x (s.crash n)) := by
  refine rCrash_ok ?_
  unfold rCrash
  have s1 := ho.s1
  have s2 := ho.s2
  have sd := ho.d
  have hk := MS.keeps_le ho n
  refine ⟨fun m w' => w' = w ∧ m = (n.toNat : Int), ?_, ?_⟩
  · rintro w1 m ⟨rfl, rfl⟩ -
    refine ⟨fun w' => RefTo w1 w' x { s with b := s.b.take (s.keeps n) }, ?_, ?_⟩
    · rintro w2 t0 -
      have hl : (⟨(s.b.take (s.keeps n)).toArray⟩ : ByteArray).size = s.keeps n := by rw [bsz]; simp; omega
      refine ⟨_, t0.1.cell 1, ?_⟩
      rw [show ((⟨({ s with b := s.b.take (s.keeps n) } : MS).b.toArray⟩ : ByteArray).size : Int) = ((s.keeps n : Nat) : Int) by rw [hl]]
      have t2 := t0.set (i := 2) (u := .int .i64 (s.keeps n : Int)) (s' := { s with b := s.b.take (s.keeps n), dur := s.keeps n }) rfl
      have t3 := t2.set (i := 4) (u := .bool false) (s' := { s with b := s.b.take (s.keeps n), dur := s.keeps n, down := false }) rfl
      have t4 := t3.set (i := 3) (u := .int .i64 (-1)) (s' := s.crash n) rfl
      exact t0.1.st (by omega) rfl (t2.1.st (by omega) rfl (t3.1.st (by omega) rfl ⟨rfl, t4⟩))
    · have e1 : IntKind.i64.wrap (((⟨s.b.toArray⟩ : ByteArray).size : Int) - s.dur) = (s.b.length : Int) - s.dur := by rw [bsz]; exact IntWalk.i64_in _ (by omega)
      refine ⟨_, h.cell 1, _, h.cell 2, ?_⟩
      rw [e1]
      by_cases hlt : (n.toNat : Int) < (s.b.length : Int) - s.dur
      · rw [decide_eq_true hlt, cond_true]
        have e2 : IntKind.i64.wrap ((s.dur : Int) + (n.toNat : Int)) = ((s.keeps n : Nat) : Int) := by
          rw [IntWalk.i64_in _ (by omega)]; unfold MS.keeps; omega
        refine ⟨_, h.cell 1, _, h.cell 2, ?_⟩
        rw [e2, bsz]
        refine ⟨by omega, by omega, by omega, by omega, ?_⟩
        rw [show ((0 : Int)).toNat = 0 from rfl, Int.toNat_natCast, ext_take]
        have h' : Ref w1.drew.drew x s := h
        refine h'.st (by omega) rfl ?_
        exact ((RefTo.refl h ((Chg.drew w1 []).trans (Chg.drew _ []) (by simp))).set rfl)
      · rw [decide_eq_false hlt, cond_false]
        have e3 : s.keeps n = s.b.length := by unfold MS.keeps; omega
        have e4 : ({ s with b := s.b.take (s.keeps n) } : MS) = s := by rw [e3, List.take_length]
        rw [e4]
        exact RefTo.refl h (Chg.drew _ _)
  · by_cases hneg : n < 0
    · rw [decide_eq_true hneg, cond_true]
      exact ⟨rfl, by omega⟩
    · rw [decide_eq_false hneg, cond_false]
      exact ⟨rfl, by omega⟩

theorem rarm_calls {w : World} {x : Nat} {s : MS} (h : Ref w x s) (n : Int) :
    Calls Try.prog 29 #[.pointer (some ⟨x, 0, none⟩), .int .i64 n] w (RetC fun r w' => r = .tuple #[] ∧ RefTo w w' x (s.arm n)) := by
  refine rArm_ok ?_
  unfold rArm
  refine ⟨s.down, h.cell 4, ?_⟩
  cases hd : s.down with
  | true =>
    have : s.arm n = s := by unfold MS.arm; rw [if_pos hd]
    rw [this, cond_true]
    exact ⟨rfl, RefTo.refl h (Chg.refl _ _)⟩
  | false =>
    have : s.arm n = { s with left := if 0 ≤ n then some n.toNat else none } := by unfold MS.arm; rw [if_neg (by rw [hd]; decide)]
    rw [this, cond_false]
    refine h.st (by omega) rfl ?_
    have hb : (w.setCell ⟨x, 3, none⟩ (.int .i64 n)).heap[x]? = some (.cells ((refCells s).setIfInBounds 3 (.int .i64 n)) 56 (0, 0)) := by rw [heap_set, if_pos rfl, h]; rfl
    have hc : Chg w (w.setCell ⟨x, 3, none⟩ (.int .i64 n)) [x] := Chg.set _ _ _ _ (by simp)
    by_cases hneg : n < 0
    · rw [decide_eq_true hneg, cond_true, if_neg (by omega)]
      refine stK_mk hb (by simp [refCells]) rfl ⟨rfl, ?_, hc.trans (Chg.set _ _ _ _ (F := [x]) (by simp)) (fun _ hi => .inl hi)⟩
      unfold Ref
      rw [heap_set, if_pos rfl, hb]
      rfl
    · rw [decide_eq_false hneg, cond_false, if_pos (by omega)]
      refine ⟨rfl, ?_, hc⟩
      unfold Ref
      rw [hb]
      have : n = ((n.toNat : Nat) : Int) := by omega
      rw [this]
      simp [refCells, lefti]

theorem rflip_calls {w : World} {x : Nat} {s : MS} (h : Ref w x s) (ho : s.Ok) (n : Int) (m : UInt8) :
    Calls Try.prog 30 #[.pointer (some ⟨x, 0, none⟩), .int .i64 n, .int .u8 (m.toNat : Int)] w (RetC fun r w' => r = .int .i64 (s.flip n m).1 ∧ RefTo w w' x (s.flip n m).2) := by
  refine rFlip_ok ?_
  unfold rFlip
  have s1 := ho.s1
  have s2 := ho.s2
  refine ⟨fun b w' => w' = w ∧ b = decide (n < 0 ∨ (s.b.length : Int) ≤ n), ?_, ?_⟩
  · rintro w1 b ⟨rfl, rfl⟩ -
    by_cases hbad : n < 0 ∨ (s.b.length : Int) ≤ n
    · have : s.flip n m = (4, s) := by unfold MS.flip; rw [if_pos hbad]
      rw [this, decide_eq_true hbad, cond_true]
      exact ⟨rfl, RefTo.refl h (Chg.refl _ _)⟩
    · have : s.flip n m = (0, { s with b := s.b.set n.toNat ((s.b.getD n.toNat 0) ^^^ m) }) := by unfold MS.flip; rw [if_neg hbad]
      rw [this, decide_eq_false hbad, cond_false]
      have hn : n.toNat < s.b.length := by omega
      have hx := lt_of_heap h
      refine ⟨_, h.cell 1, by omega, by rw [bsz]; omega, by omega, by omega, _, h.cell 1, by omega, ?_⟩
      have hget : (⟨s.b.toArray⟩ : ByteArray)[n.toNat]? = some (s.b.getD n.toNat 0) := by
        have : (⟨s.b.toArray⟩ : ByteArray)[n.toNat]? = s.b.toArray[n.toNat]? := by
          simp only [getElem?_def, bsz, List.size_toArray]
          split <;> rfl
        rw [this]
        simp [hn]
      rw [hget]
      have hw : IntKind.i64.wrap (n + 1) = ((n.toNat + 1 : Nat) : Int) := by rw [IntWalk.i64_in _ (by omega)]; omega
      refine ⟨_, h.cell 1, by rw [hw]; omega, by rw [hw, bsz]; omega, ?_⟩
      rw [xor_u8, hw, Int.toNat_natCast, show ((0 : Int)).toNat = 0 from rfl, ext_take, ext_drop]
      refine newK_mk ?_
      generalize hq : w1.drew.alloc (.cells #[.int .u8 ((s.b.getD n.toNat 0 ^^^ m).toNat : Int)] 5) = w2
      have hq2 : w2.heap[w1.drew.heap.size]? = some (.cells #[.int .u8 ((s.b.getD n.toNat 0 ^^^ m).toNat : Int)] 5 (0, 0)) := by rw [← hq, heap_new, if_pos rfl]
      have hc2 : Chg w1 w2 [] := by rw [← hq]; exact (Chg.drew w1 []).trans (Chg.new _ _ []) (by simp)
      have h2 : Ref w2 x s := h.keep hc2 (by simp)
      refine ⟨h2.cell 1, h2.cell 1, ?_⟩
      have own2 : w2.ownsRow 0 5 1 (.slice (some ⟨w1.drew.heap.size, 0, none⟩) 1 1) [s.b.getD n.toNat 0 ^^^ m].length ([s.b.getD n.toNat 0 ^^^ m].map byteV) :=
        ⟨rfl, .inr ⟨_, 1, _, rfl, Nat.zero_le _, hq2, Nat.le_refl _, by unfold maxLen; omega, rfl, rfl⟩⟩
      refine tostr_c Try.underlying52 Try.underlying5 Try.underlying9 own2 ⟨_, rfl, h2.cell 1, h2.cell 1, ?_⟩
      have hcat : (⟨(s.b.take n.toNat).toArray⟩ : ByteArray) ++ ⟨[s.b.getD n.toNat 0 ^^^ m].toArray⟩ ++ ⟨(s.b.drop (n.toNat + 1)).toArray⟩ = ⟨(s.b.set n.toNat (s.b.getD n.toNat 0 ^^^ m)).toArray⟩ := by
        apply ByteArray.ext
        apply Array.ext'
        simp
        rw [List.set_eq_take_append_cons_drop, if_pos hn]
      have l1 : ((⟨(s.b.take n.toNat).toArray⟩ : ByteArray) ++ ⟨[s.b.getD n.toNat 0 ^^^ m].toArray⟩).size = n.toNat + 1 := by
        rw [ByteArray.size_append, bsz, bsz]; simp; omega
      have l2 : (⟨(s.b.take n.toNat).toArray⟩ : ByteArray).size = n.toNat := by rw [bsz]; simp; omega
      have l3 : (⟨(s.b.drop (n.toNat + 1)).toArray⟩ : ByteArray).size = s.b.length - (n.toNat + 1) := by rw [bsz]; simp
      have hmax : IntKind.i64.max = 9223372036854775807 := rfl
      refine ⟨by rw [l2, bsz, hmax]; simp; omega, by rw [l1, l3, hmax]; omega, ?_⟩
      rw [hcat]
      exact h2.st (by omega) rfl ⟨rfl, (RefTo.refl h hc2).set rfl⟩
  · by_cases hneg : n < 0
    · rw [decide_eq_true hneg]
      exact ⟨rfl, (decide_eq_true (Or.inl hneg)).symm⟩
    · rw [decide_eq_false hneg]
      refine ⟨_, h.cell 1, rfl, ?_⟩
      rw [bsz, decide_eq_decide]
      omega

theorem rcopy_calls {w : World} {x : Nat} {s : MS} (h : Ref w x s) :
    Calls Try.prog 22 #[.pointer (some ⟨x, 0, none⟩)] w (RetC fun r w' => ∃ y, r = .pointer (some ⟨y, 0, none⟩) ∧ Ref w' y s ∧ Chg w w' [] ∧ w.heap.size ≤ y) := by
  refine rCopy_ok ?_
  unfold rCopy
  have hc := h.cell
  refine ⟨s.size, ⟨s.b.toArray⟩, (s.dur : Int), lefti s.left, s.down, ⟨by rw [addA, hc]; rfl, by rw [addA, hc]; rfl, by rw [addA, hc]; rfl, by rw [addA, hc]; rfl, by rw [addA, hc]; rfl, trivial⟩, newK_mk ?_⟩
  generalize hy : w.heap.size = y
  refine stL_mk _ 0 _ #[.int .i64 0, .string (bs []), .int .i64 0, .int .i64 0, .bool false] (by rw [heap_new, if_pos hy.symm]) (by simp) (by simp [Value.oneCell']) ?_
  intro w2 h2 hc2 _
  exact ⟨y, rfl, h2, (Chg.new w _ []).trans hc2 (fun j hj => .inr (by simp at hj; omega)), by omega⟩

theorem rnew_calls (w : World) (n : Int) :
    Calls Try.prog 11 #[.int .i64 n] w (RetC fun r w' => if n < 1 ∨ 262144 < n then r = .tuple #[.pointer none, .int .i64 4] ∧ w' = w else
      ∃ y, r = .tuple #[.pointer (some ⟨y, 0, none⟩), .int .i64 0] ∧ Ref w' y ⟨n, [], 0, false, none⟩ ∧ Chg w w' [] ∧ w.heap.size ≤ y) := by
  refine rNew_ok ?_
  unfold rNew
  refine ⟨fun b w' => w' = w ∧ b = decide (n < 1 ∨ 262144 < n), ?_, ?_⟩
  · rintro w1 b ⟨rfl, rfl⟩ -
    by_cases hbad : n < 1 ∨ 262144 < n
    · rw [decide_eq_true hbad, cond_true]
      dsimp only
      rw [if_pos hbad]
      exact ⟨rfl, rfl⟩
    · rw [decide_eq_false hbad, cond_false]
      refine newK_mk ?_
      dsimp only
      rw [if_neg hbad]
      refine ⟨w1.heap.size, rfl, ?_, Chg.new _ _ _, Nat.le_refl _⟩
      unfold Ref
      rw [heap_new, if_pos rfl]
      rfl
  · by_cases h1 : n < 1
    · rw [decide_eq_true h1]; exact ⟨rfl, (decide_eq_true (Or.inl h1)).symm⟩
    · rw [decide_eq_false h1]
      refine ⟨rfl, ?_⟩
      rw [decide_eq_decide]
      omega

end Go.Proofs.Ytbjbfppaghfpcaa

import Derived.Test.YtniehglfkacjjaaDoorjMd2
namespace Go.Proofs.YtniehglfkacjjaaDoor
open Go Go.Vc

theorem truncate_calls {w : World} {x : Nat} {s : MS} {F : List Nat} (h : Med w x s F) (ho : s.Ok) (n : Int) :
    Calls Tryd.prog 36 #[.pointer (some ⟨x, 0, none⟩), .int .i64 n] w (RetC fun r w' => r = .int .i64 (s.tru n).1 ∧ MedTo w w' x (s.tru n).2 F) := by
  obtain ⟨v, hv, rfl⟩ := h
  refine mTruncate_ok ?_
  unfold mTruncate
  refine useC (state_c hv) ?_
  rintro _ w1 ⟨rfl, rfl⟩
  refine ⟨_, rfl, ?_⟩
  cases hd : s.down with
  | true =>
    have : s.tru n = (19, s) := by unfold MS.tru; rw [if_pos hd]
    rw [this]
    exact ⟨rfl, MedTo.refl ⟨v, hv, rfl⟩ (Chg.refl _ _)⟩
  | false =>
    show cond ((0 : Int) != 0) _ _
    obtain ⟨a, cp, hve⟩ := own_slice hv.own
    refine ⟨fun b w' => w' = w1 ∧ b = decide (n < 0 ∨ (s.b.length : Int) < n), ?_, ?_⟩
    · rintro w2 b ⟨rfl, rfl⟩ -
      by_cases hbad : n < 0 ∨ (s.b.length : Int) < n
      · have : s.tru n = (4, s) := by unfold MS.tru; rw [if_neg (by rw [hd]; decide), if_pos hbad]
        rw [this, decide_eq_true hbad]
        exact ⟨rfl, MedTo.refl ⟨v, hv, rfl⟩ (Chg.refl _ _)⟩
      · rw [decide_eq_false hbad]
        refine stepIs_c hv ho (fun r w3 hh => ⟨_, rfl, hh⟩) ?_
        intro r w3 hM3 hc3
        refine ⟨_, rfl, ?_⟩
        have hto3 := medTo_of hv hM3 hc3
        cases hst : s.stp.1 with
        | false =>
          have : s.tru n = (19, s.stp.2) := by unfold MS.tru; rw [if_neg (by rw [hd]; decide), if_neg hbad, if_neg (by rw [hst]; decide)]
          rw [this]
          exact ⟨rfl, hto3⟩
        | true =>
          have : s.tru n = (0, s.stp.2.cut n.toNat) := by unfold MS.tru; rw [if_neg (by rw [hd]; decide), if_neg hbad, if_pos hst]
          rw [this]
          show cond false _ _
          refine useC (cut_calls ⟨v, hM3, rfl⟩ (MS.stp_ok ho) (by omega) (by rw [(MS.stp_b s).1]; omega)) ?_
          rintro _ w4 ⟨rfl, hto4⟩
          refine ⟨rfl, rfl, ?_⟩
          obtain ⟨F4, h4, hc4, hf4⟩ := hto4
          obtain ⟨F3, h3, hc3', hf3⟩ := hto3
          refine ⟨F4, h4, hc3'.trans hc4 (fun i hi => .inl hi), fun i hi => ?_⟩
          rcases hf4 i hi with h | h
          · exact .inl h
          · exact .inr (Nat.le_trans hc3'.size h)
    · by_cases hneg : n < 0
      · rw [decide_eq_true hneg]
        exact ⟨rfl, (decide_eq_true (Or.inl hneg)).symm⟩
      · rw [decide_eq_false hneg]
        refine ⟨a, s.b.length, cp, by rw [← hve]; exact med_cell hv 1, rfl, ?_⟩
        rw [decide_eq_decide]
        omega

theorem read_calls {w : World} {x : Nat} {s : MS} {F : List Nat} (h : Med w x s F) :
    Calls Tryd.prog 19 #[.pointer (some ⟨x, 0, none⟩)] w (RetC fun r w' => r = .tuple #[.string ⟨s.rd.1.toArray⟩, .int .i64 s.rd.2] ∧ w' = w) := by
  obtain ⟨v, hv, rfl⟩ := h
  refine mRead_ok ?_
  unfold mRead
  refine useC (state_c hv) ?_
  rintro _ w1 ⟨rfl, rfl⟩
  refine ⟨_, rfl, ?_⟩
  cases hd : s.down with
  | true =>
    have : s.rd = ([], 19) := by unfold MS.rd; rw [if_pos hd]
    rw [this]
    exact ⟨rfl, rfl⟩
  | false =>
    have : s.rd = (s.b, 0) := by unfold MS.rd; rw [if_neg (by rw [hd]; decide)]
    rw [this]
    show cond ((0 : Int) != 0) _ _
    obtain ⟨a, cp, hve⟩ := own_slice hv.own
    refine ⟨a, _, cp, by rw [← hve]; exact med_cell hv 1, ?_⟩
    rw [← hve]
    exact tostr_c Tryd.underlying59 Tryd.underlying5 Tryd.underlying9 hv.own ⟨_, rfl, rfl, rfl⟩

theorem size_calls {w : World} {x : Nat} {s : MS} {F : List Nat} (h : Med w x s F) :
    Calls Tryd.prog 25 #[.pointer (some ⟨x, 0, none⟩)] w (RetC fun r w' => r = .int .i64 (s.b.length : Int) ∧ w' = w) := by
  obtain ⟨v, hv, rfl⟩ := h
  obtain ⟨a, cp, hve⟩ := own_slice hv.own
  exact mSize_ok ⟨a, _, cp, by rw [← hve]; exact med_cell hv 1, rfl, rfl⟩

theorem durable_calls {w : World} {x : Nat} {s : MS} {F : List Nat} (h : Med w x s F) :
    Calls Tryd.prog 26 #[.pointer (some ⟨x, 0, none⟩)] w (RetC fun r w' => r = .int .i64 (s.dur : Int) ∧ w' = w) := by
  obtain ⟨v, hv, rfl⟩ := h
  exact mDurable_ok ⟨_, med_cell hv 2, rfl, rfl⟩

theorem crash_calls {w : World} {x : Nat} {s : MS} {F : List Nat} (h : Med w x s F) (ho : s.Ok) {n : Int} (hn : n ≤ 9223372036854775807) :
    Calls Tryd.prog 15 #[.pointer (some ⟨x, 0, none⟩), .int .i64 n] w (RetC fun r w' => r = .tuple #[] ∧ MedTo w w' x (s.crash n) F) := by
  obtain ⟨v, hv, rfl⟩ := h
  refine mCrash_ok ?_
  unfold mCrash
  have s1 := ho.s1
  have s2 := ho.s2
  have sd := ho.d
  obtain ⟨a, cp, hve⟩ := own_slice hv.own
  have hvd : MedV w.drew x s v := ⟨hv.blk, hv.own, hv.ne⟩
  refine ⟨(s.dur : Int), med_cell hvd 2, a, s.b.length, cp, by rw [← hve]; exact med_cell hvd 1, (s.dur : Int), med_cell hvd 2, ?_⟩
  have hk := MS.keeps_le ho n
  have e1 : IntKind.i64.wrap ((s.b.length : Int) - s.dur) = (s.b.length : Int) - s.dur := IntWalk.i64_in _ (by omega)
  rw [e1]
  have e2 : IntKind.i64.wrap ((s.dur : Int) + (if ((s.b.length : Int) - s.dur) < (if (0 : Int) > n then (0 : Int) else n) then ((s.b.length : Int) - s.dur) else (if (0 : Int) > n then (0 : Int) else n))) = ((s.keeps n : Nat) : Int) := by
    rw [IntWalk.i64_in _ (by split <;> split <;> omega)]
    unfold MS.keeps
    split <;> split <;> omega
  rw [e2]
  refine useC (cut_calls ⟨v, hvd, rfl⟩ ho (by omega) (by omega)) ?_
  rintro _ w1 ⟨rfl, F1, ⟨v1, hv1, rfl⟩, hc1, hf1⟩
  refine ⟨rfl, ?_⟩
  obtain ⟨a1, cp1, hve1⟩ := own_slice hv1.own
  have hl : (s.cut (s.keeps n)).b.length = s.keeps n := by simp [MS.cut]; omega
  have hto1 : MedTo w w1 x (s.cut (s.keeps n)) (x :: v.ownBlock.toList) := ⟨_, ⟨v1, hv1, rfl⟩, (Chg.drew w _).trans hc1 (fun i hi => .inl hi), hf1⟩
  refine ⟨a1, _, cp1, by rw [← hve1]; exact med_cell hv1 1, ?_⟩
  rw [Int.toNat_natCast, hl]
  let s2' : MS := { s.cut (s.keeps n) with dur := s.keeps n }
  have g2 := medV_set (s' := s2') (i := 2) (u := .int .i64 (s.keeps n : Int)) hv1 rfl rfl
  have t2 := hto1.set (s' := s2') (i := 2) (u := .int .i64 (s.keeps n : Int)) hv1 rfl rfl
  refine med_st hv1 (by omega) rfl ?_
  let s3 : MS := { s2' with down := false }
  have g3 := medV_set (s' := s3) (i := 3) (u := .bool false) g2 rfl rfl
  have t3 := t2.set (s' := s3) (i := 3) (u := .bool false) g2 rfl rfl
  refine med_st g2 (by omega) rfl ?_
  refine stK_mk g3.blk (by simp [medCells]) rfl ?_
  have hb4 : ((((w1.setCell ⟨x, 2, none⟩ (.int .i64 (s.keeps n : Int))).setCell ⟨x, 3, none⟩ (.bool false)).setCell ⟨x, 4, none⟩ (.bool false)).heap[x]?) = some (.cells ((medCells s3 v1).setIfInBounds 4 (.bool false)) 61 (0, 0)) := by
    rw [heap_set, if_pos rfl, g3.blk]; rfl
  refine stK_mk hb4 (by simp [medCells]) rfl ⟨rfl, ?_⟩
  refine t3.trans fun F' hF' => ?_
  obtain ⟨v2, hv2, rfl⟩ := hF'
  have hx4 : ∀ k, k ≠ x → ((((w1.setCell ⟨x, 2, none⟩ (.int .i64 (s.keeps n : Int))).setCell ⟨x, 3, none⟩ (.bool false)).setCell ⟨x, 4, none⟩ (.bool false)).setCell ⟨x, 5, none⟩ (.int .i64 0)).heap[k]? = ((w1.setCell ⟨x, 2, none⟩ (.int .i64 (s.keeps n : Int))).setCell ⟨x, 3, none⟩ (.bool false)).heap[k]? := fun k hk => by
    rw [heap_set, if_neg (Ne.symm hk), heap_set, if_neg (Ne.symm hk)]
  have hvv : v2 = v1 := by
    have h1 := hv2.blk.symm.trans g3.blk
    simp [medCells] at h1
    exact h1
  subst hvv
  refine ⟨_, ⟨v2, ⟨?_, ?_, hv2.ne⟩, rfl⟩, ?_, fun _ hk => .inl hk⟩
  · rw [heap_set, if_pos rfl, hb4]; rfl
  · exact ownsRow_heap hv2.own fun k hk => hx4 k (fun e => hv2.ne (e ▸ hk))
  · exact ⟨by simp, fun i _ hi => hx4 i (fun e => hi (by simp [e])), (Env.set _ _ _).trans (Env.set _ _ _)⟩

theorem arm_calls {w : World} {x : Nat} {s : MS} {F : List Nat} (h : Med w x s F) (n : Int) :
    Calls Tryd.prog 28 #[.pointer (some ⟨x, 0, none⟩), .int .i64 n] w (RetC fun r w' => r = .tuple #[] ∧ MedTo w w' x (s.arm n) F) := by
  obtain ⟨v, hv, rfl⟩ := h
  refine mArm_ok ?_
  unfold mArm
  refine useC (state_c hv) ?_
  rintro _ w1 ⟨rfl, rfl⟩
  refine ⟨_, rfl, ?_⟩
  cases hd : s.down with
  | true =>
    have : s.arm n = s := by unfold MS.arm; rw [if_pos hd]
    rw [this]
    exact ⟨rfl, MedTo.refl ⟨v, hv, rfl⟩ (Chg.refl _ _)⟩
  | false =>
    have : s.arm n = { s with left := if 0 ≤ n then some n.toNat else none } := by unfold MS.arm; rw [if_neg (by rw [hd]; decide)]
    rw [this]
    rw [show ((if false = true then (19 : Int) else 0) == 0) = true from by decide, cond_true]
    refine med_st hv (by omega) rfl ?_
    have hb4 : (w1.setCell ⟨x, 4, none⟩ (.bool (decide (n ≥ 0)))).heap[x]? = some (.cells ((medCells s v).setIfInBounds 4 (.bool (decide (n ≥ 0)))) 61 (0, 0)) := by
      rw [heap_set, if_pos rfl, hv.blk]; rfl
    refine stK_mk hb4 (by simp [medCells]) rfl ⟨rfl, ?_⟩
    have hx4 : ∀ u k, k ≠ x → (((w1.setCell ⟨x, 4, none⟩ (.bool (decide (n ≥ 0)))).setCell ⟨x, 5, none⟩ u).heap[k]?) = w1.heap[k]? := fun u k hk => by
      rw [heap_set, if_neg (Ne.symm hk), heap_set, if_neg (Ne.symm hk)]
    refine ⟨_, ⟨v, ⟨?_, ?_, hv.ne⟩, rfl⟩, ?_, fun _ hk => .inl hk⟩
    · rw [heap_set, if_pos rfl, hb4]
      by_cases h0 : 0 ≤ n
      · have e1 : (if (0 : Int) > n then (0 : Int) else n) = ((n.toNat : Nat) : Int) := by rw [if_neg (by omega)]; omega
        rw [e1, decide_eq_true (show n ≥ 0 from h0), if_pos h0]
        rfl
      · have e1 : (if (0 : Int) > n then (0 : Int) else n) = 0 := by rw [if_pos (by omega)]
        rw [e1, decide_eq_false (show ¬ n ≥ 0 from h0), if_neg h0]
        rfl
    · exact ownsRow_heap hv.own fun k hk => hx4 _ k (fun e => hv.ne (e ▸ hk))
    · exact ⟨by simp, fun i _ hi => hx4 _ i (fun e => hi (by simp [e])), (Env.set _ _ _).trans (Env.set _ _ _)⟩

end Go.Proofs.YtniehglfkacjjaaDoor

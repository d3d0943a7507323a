import Derived.Test.YtcnckiinbfbjkaaGreatDoorrB
namespace Go.Proofs.YtcnckiinbfbjkaaGreatDoor
open Go Go.Vc

theorem enters14 : entersB Tryz.prog 14 = true := by kernel_rfl
theorem enters16 : entersB Tryz.prog 16 = true := by kernel_rfl
theorem enters41 : entersB Tryz.prog 41 = true := by kernel_rfl
theorem sl22 : SlT Tryz.prog 22 24 (.int .u64 0) 1 8 := SlT.mk' Tryz.underlying22 (by kernel_rfl) rfl (by decide)

/-- The iterator over no records: no round. -/
theorem evIter_c {w0 w : World} {l : List Asn} {i j k x y b1 b2 z : Nat} {n : Int} (hi : l[i]? = some (boxA b1 #[.int .i64 n] 3)) (hj : l[j]? = some (boxA b2 #[.pointer (some ⟨x, 0, none⟩)] 48)) (hk : l[k]? = some (jB x y)) (h : St w0 w (Sep l)) :
    Calls Tryz.prog 41 #[.func (.yield z) #[] #[], .pointer (some ⟨b1, 0, none⟩), .pointer (some ⟨b2, 0, none⟩)] w (RetC fun r w' => r = .tuple #[] ∧ w' = w) := by
  refine rEvIter_ok ?_
  unfold rEvIter
  refine ⟨fun a w' m => a = 0 ∧ w' = w, ⟨0, rfl, rfl⟩, ?_⟩
  rintro w1 m a ⟨rfl, rfl⟩ -
  refine ⟨fun g w' => g = false ∧ w' = w1, ?_, _, h.boxedAt i hi 0, ?_⟩
  · rintro w2 g ⟨rfl, rfl⟩ -
    exact cF rfl ⟨rfl, rfl⟩
  · by_cases hn : 0 < n
    · refine cT (decide_eq_true hn) ⟨_, h.boxedAt j hj 0, useC (count_c k hk h) ?_⟩
      rintro _ w2 ⟨rfl, rfl⟩
      exact ⟨_, rfl, rfl, rfl⟩
    · exact cF (decide_eq_false hn) ⟨rfl, rfl⟩

/-- A step of Trace: the digest is appended. -/
theorem trace1_c {w0 w : World} {l : List Asn} {t b2 : Nat} {cs : Array Value} {T : TypeId} (h : St w0 w (Sep (boxA b2 #[.slice none 0 0] 22 :: boxA t cs T :: l))) (hcs : cs[100]? = some (.int .u64 0)) :
    Calls Tryz.prog 16 #[.pointer (some ⟨t, 0, none⟩), .pointer (some ⟨b2, 0, none⟩)] w (RetC fun r w' => r = .tuple #[] ∧ St w0 w' (Sep (exA (fun v : Value => star (boxA b2 #[v] 22) (rowA 24 1 v 1 [u64V 0])) :: boxA t cs T :: l))) := by
  refine rTrace1_ok ?_
  unfold rTrace1
  have h1 := h.quiet (Chg.drew w [])
  refine ⟨none, 0, 0, h1.boxedAt 0 rfl 0, useC (K := fun r w' => r = .int .u64 0 ∧ w' = w.drew) (tDigest_ok ⟨_, (h1.boxedAt 1 rfl 100).trans hcs, rfl, rfl⟩) ?_⟩
  rintro _ w1 ⟨rfl, rfl⟩
  refine ⟨_, rfl, h1.boxedAt 0 rfl 0, ?_⟩
  refine newK_mk ⟨(h1.quiet (Chg.new _ _ [])).boxedAt 0 rfl 0, ?_⟩
  have hr := h1.rowL 24 1
  have h2 := hr.quiet (Chg.new w.drew (.cells #[.int .u64 0] 24) [])
  refine app_st sl22 h2 (m := 1) (news := [u64V 0]) rfl (fun j u hj => ?_) (by simp [u64V, Value.oneCell']) (by decide) (by decide) fun v' w3 h3 => ?_
  · rw [addA, cell_blk, heap_new, if_pos rfl, getC_cells]; simpa [u64V] using hj
  · obtain ⟨a, c, rfl⟩ := own_slice (St.rowOf h3)
    have h3 : St w0 w3 (Sep (rowA 24 1 (.slice a 1 c) 1 [u64V 0] :: boxA b2 #[.slice none 0 0] 22 :: boxA t cs T :: l)) := h3
    refine ⟨a, 1, c, rfl, h3.stAt 1 rfl (by decide) rfl fun w4 h4 => ⟨rfl, ?_⟩⟩
    exact St.mkEx (f := fun v : Value => star (boxA b2 #[v] 22) (rowA 24 1 v 1 [u64V 0])) (.slice a 1 c) (h4.pull 1).join

set_option maxRecDepth 100000 in
theorem runA_c {w0 w : World} {l : List Asn} {x y : Nat} (n1 n2 n3 n4 n5 : Int) (h : St w0 w (Sep (jB x y :: l))) :
    Calls Tryz.prog 13 #[.pointer (some ⟨x, 0, none⟩), .agg #[.int .i64 n1, .int .i64 n2, .int .i64 n3, .int .i64 n4], .int .i64 n5, (.func (.func 14) #[] #[])] w
      (RetC fun r w' => ∃ t : Nat, r = .tuple #[.pointer (some ⟨t, 0, none⟩), .int .i64 0, .int .i64 0] ∧ St w0 w' (Sep (jB x y :: l))) := by
  refine rrunA_ok ?_
  unfold rrunA
  refine newK_mk ?_
  obtain ⟨r1, hr0⟩ : ∃ r, w.heap.size = r := ⟨_, rfl⟩
  have g0 := h.boxL #[.int .i64 n1, .int .i64 n2, .int .i64 n3, .int .i64 n4] 31
  rw [hr0] at g0 ⊢
  generalize w.alloc (.cells #[.int .i64 n1, .int .i64 n2, .int .i64 n3, .int .i64 n4] 31) = w1 at g0
  refine newK_mk ?_
  obtain ⟨r2, hr1⟩ : ∃ r, w1.heap.size = r := ⟨_, rfl⟩
  have g1 := g0.boxL #[(.func (.func 14) #[] #[])] 52
  rw [hr1] at g1 ⊢
  generalize w1.alloc (.cells #[(.func (.func 14) #[] #[])] 52) = w2 at g1
  refine newK_mk ?_
  obtain ⟨r3, hr2⟩ : ∃ r, w2.heap.size = r := ⟨_, rfl⟩
  have g2 := g1.boxL #[.pointer none] 32
  rw [hr2] at g2 ⊢
  generalize w2.alloc (.cells #[.pointer none] 32) = w3 at g2
  refine newK_mk ?_
  obtain ⟨r4, hr3⟩ : ∃ r, w3.heap.size = r := ⟨_, rfl⟩
  have g3 := g2.boxL #[.int .i64 0] 3
  rw [hr3] at g3 ⊢
  generalize w3.alloc (.cells #[.int .i64 0] 3) = w4 at g3
  refine newK_mk ?_
  obtain ⟨r5, hr4⟩ : ∃ r, w4.heap.size = r := ⟨_, rfl⟩
  have g4 := g3.boxL #[.int .i64 0] 33
  rw [hr4] at g4 ⊢
  generalize w4.alloc (.cells #[.int .i64 0] 33) = w5 at g4
  refine ⟨_, _, _, _, g4.cellsIn 4 rfl, useC (tnew_c g4 n1 n2 n3 n4) ?_⟩
  rintro _ w6 ⟨t, cs, T, rfl, hcs, h6⟩
  refine ⟨_, rfl, newK_mk ?_⟩
  obtain ⟨r6, hr6⟩ : ∃ r, w6.heap.size = r := ⟨_, rfl⟩
  have g6 := h6.boxL #[.pointer none] 32
  rw [hr6] at g6 ⊢
  refine g6.stAt 0 rfl (by decide) rfl fun w8 h8 => ?_
  have h8 : St w0 w8 (Sep (boxA r6 #[.pointer (some ⟨t, 0, none⟩)] 32 :: boxA t cs T :: boxA r5 #[.int .i64 0] 33 :: boxA r4 #[.int .i64 0] 3 :: boxA r3 #[.pointer none] 32 :: boxA r2 #[(.func (.func 14) #[] #[])] 52 :: boxA r1 #[.int .i64 n1, .int .i64 n2, .int .i64 n3, .int .i64 n4] 31 :: jB x y :: l)) := h8
  refine ⟨(.func (.func 14) #[] #[]), h8.boxedAt 5 rfl 0, some ⟨t, 0, none⟩, h8.boxedAt 0 rfl 0, callF_mk enters14 ?_⟩
  refine useC (K := fun r w' => r = .tuple #[] ∧ w' = w8) (rRun1_ok ⟨rfl, rfl⟩) ?_
  rintro _ w9 ⟨rfl, rfl⟩
  refine ⟨rfl, newK_mk ?_⟩
  have h9 := h8
  obtain ⟨r7, hr7⟩ : ∃ r, w9.heap.size = r := ⟨_, rfl⟩
  have g9 := h9.boxL #[.int .i64 0] 3
  rw [hr7] at g9 ⊢
  refine g9.stAt 0 rfl (by decide) rfl fun w11 h11 => ?_
  refine useC (K := fun v w' => ∃ e1 e2, v = .func (.func 41) #[] #[.pointer (some ⟨e2, 0, none⟩), .pointer (some ⟨e1, 0, none⟩)] ∧ St w0 w' (Sep (boxA e2 #[.int .i64 n5] 3 :: boxA e1 #[.pointer (some ⟨x, 0, none⟩)] 48 :: boxA r7 #[.int .i64 0] 3 :: boxA r6 #[.pointer (some ⟨t, 0, none⟩)] 32 :: boxA t cs T :: boxA r5 #[.int .i64 0] 33 :: boxA r4 #[.int .i64 0] 3 :: boxA r3 #[.pointer none] 32 :: boxA r2 #[(.func (.func 14) #[] #[])] 52 :: boxA r1 #[.int .i64 n1, .int .i64 n2, .int .i64 n3, .int .i64 n4] 31 :: jB x y :: l))) (rEvents_ok (newK_mk (newK_mk ⟨_, _, rfl, (h11.boxL _ _).boxL _ _⟩))) ?_
  rintro _ w12 ⟨e1, e2, rfl, h12⟩
  refine ⟨_, rfl, rangeV_mk enters41 ?_⟩
  intro fn
  obtain ⟨D, hD⟩ : ∃ D, w12.heap.size = D := ⟨_, rfl⟩
  have h13 := h12.objL (.deferred (some []))
  rw [hD] at h13 ⊢
  have hD1 : (w12.alloc (.deferred (some []))).heap.size = D + 1 := by rw [World.size_alloc, hD]
  have h14 := h13.objL (.loop (rrunA_rf506_rec n1 n2 n3 n4 n5 x r1 r2 r3 r4 r5 n1 n2 n3 n4 (some ⟨t, 0, none⟩) r6 (.func (.func 14) #[] #[]) (some ⟨t, 0, none⟩) r7 (.func (.func 41) #[] #[.pointer (some ⟨e2, 0, none⟩), .pointer (some ⟨e1, 0, none⟩)]) fn D))
  rw [hD1] at h14
  obtain ⟨lp, hlp⟩ : ∃ lp, rrunA_rf506_rec n1 n2 n3 n4 n5 x r1 r2 r3 r4 r5 n1 n2 n3 n4 (some ⟨t, 0, none⟩) r6 (.func (.func 14) #[] #[]) (some ⟨t, 0, none⟩) r7 (.func (.func 41) #[] #[.pointer (some ⟨e2, 0, none⟩), .pointer (some ⟨e1, 0, none⟩)]) fn D = lp := ⟨_, rfl⟩
  have hpend : lp.pending = none ∧ lp.state = .ready := by rw [← hlp]; exact ⟨rfl, rfl⟩
  rw [hlp] at h14 ⊢
  clear hlp
  obtain ⟨st0, pd0, f0, t0, pr0, as0, bd0, df0⟩ := lp
  obtain ⟨rfl, rfl⟩ : pd0 = none ∧ st0 = .ready := hpend
  refine useC (evIter_c (i := 2) (j := 3) (k := 12) rfl rfl rfl h14) ?_
  rintro _ w15 ⟨rfl, rfl⟩
  refine ⟨⟨_, rfl⟩, _, h14.objAt 0 rfl, (fun h => by cases h), ?_⟩
  have k2 := (h14.putAt 0 rfl (.loop ⟨.exhausted, none, f0, t0, pr0, as0, bd0, df0⟩)).quiet (Chg.drew _ [])
  refine ⟨_, k2.boxedAt 5 rfl 0, _, k2.boxedAt 4 rfl 0, k2.stAt 9 rfl (by decide) rfl fun w16 k3 => ⟨k3.boxedAt 4 rfl 0, k3.stAt 8 rfl (by decide) rfl fun w17 k4 => k4.stAt 7 rfl (by decide) rfl fun w18 k5 => ?_⟩⟩
  refine ⟨k5.objAt 1 rfl, ?_⟩
  have k6 := k5.putAt 1 rfl (.deferred none)
  refine ⟨_, k6.boxedAt 9 rfl 0, _, k6.boxedAt 8 rfl 0, _, k6.boxedAt 7 rfl 0, t, rfl, ?_⟩
  exact k6.second.second.second.second.second.second.second.second.second.second.second.second

set_option maxRecDepth 100000 in
theorem runB_c {w0 w : World} {l : List Asn} {x y : Nat} {b2 : Nat} (n1 n2 n3 n4 n5 : Int) (h : St w0 w (Sep (jB x y :: boxA b2 #[.slice none 0 0] 22 :: l))) :
    Calls Tryz.prog 13 #[.pointer (some ⟨x, 0, none⟩), .agg #[.int .i64 n1, .int .i64 n2, .int .i64 n3, .int .i64 n4], .int .i64 n5, (.func (.func 16) #[] #[.pointer (some ⟨b2, 0, none⟩)])] w
      (RetC fun r w' => ∃ t : Nat, r = .tuple #[.pointer (some ⟨t, 0, none⟩), .int .i64 0, .int .i64 0] ∧ St w0 w' (Sep (jB x y :: exA (fun v : Value => star (boxA b2 #[v] 22) (rowA 24 1 v 1 [u64V 0])) :: l))) := by
  refine rrunB_ok ?_
  unfold rrunB
  refine newK_mk ?_
  obtain ⟨r1, hr0⟩ : ∃ r, w.heap.size = r := ⟨_, rfl⟩
  have g0 := h.boxL #[.int .i64 n1, .int .i64 n2, .int .i64 n3, .int .i64 n4] 31
  rw [hr0] at g0 ⊢
  generalize w.alloc (.cells #[.int .i64 n1, .int .i64 n2, .int .i64 n3, .int .i64 n4] 31) = w1 at g0
  refine newK_mk ?_
  obtain ⟨r2, hr1⟩ : ∃ r, w1.heap.size = r := ⟨_, rfl⟩
  have g1 := g0.boxL #[(.func (.func 16) #[] #[.pointer (some ⟨b2, 0, none⟩)])] 52
  rw [hr1] at g1 ⊢
  generalize w1.alloc (.cells #[(.func (.func 16) #[] #[.pointer (some ⟨b2, 0, none⟩)])] 52) = w2 at g1
  refine newK_mk ?_
  obtain ⟨r3, hr2⟩ : ∃ r, w2.heap.size = r := ⟨_, rfl⟩
  have g2 := g1.boxL #[.pointer none] 32
  rw [hr2] at g2 ⊢
  generalize w2.alloc (.cells #[.pointer none] 32) = w3 at g2
  refine newK_mk ?_
  obtain ⟨r4, hr3⟩ : ∃ r, w3.heap.size = r := ⟨_, rfl⟩
  have g3 := g2.boxL #[.int .i64 0] 3
  rw [hr3] at g3 ⊢
  generalize w3.alloc (.cells #[.int .i64 0] 3) = w4 at g3
  refine newK_mk ?_
  obtain ⟨r5, hr4⟩ : ∃ r, w4.heap.size = r := ⟨_, rfl⟩
  have g4 := g3.boxL #[.int .i64 0] 33
  rw [hr4] at g4 ⊢
  generalize w4.alloc (.cells #[.int .i64 0] 33) = w5 at g4
  refine ⟨_, _, _, _, g4.cellsIn 4 rfl, useC (tnew_c g4 n1 n2 n3 n4) ?_⟩
  rintro _ w6 ⟨t, cs, T, rfl, hcs, h6⟩
  refine ⟨_, rfl, newK_mk ?_⟩
  obtain ⟨r6, hr6⟩ : ∃ r, w6.heap.size = r := ⟨_, rfl⟩
  have g6 := h6.boxL #[.pointer none] 32
  rw [hr6] at g6 ⊢
  refine g6.stAt 0 rfl (by decide) rfl fun w8 h8 => ?_
  have h8 : St w0 w8 (Sep (boxA r6 #[.pointer (some ⟨t, 0, none⟩)] 32 :: boxA t cs T :: boxA r5 #[.int .i64 0] 33 :: boxA r4 #[.int .i64 0] 3 :: boxA r3 #[.pointer none] 32 :: boxA r2 #[(.func (.func 16) #[] #[.pointer (some ⟨b2, 0, none⟩)])] 52 :: boxA r1 #[.int .i64 n1, .int .i64 n2, .int .i64 n3, .int .i64 n4] 31 :: jB x y :: boxA b2 #[.slice none 0 0] 22 :: l)) := h8
  refine ⟨(.func (.func 16) #[] #[.pointer (some ⟨b2, 0, none⟩)]), h8.boxedAt 5 rfl 0, some ⟨t, 0, none⟩, h8.boxedAt 0 rfl 0, callF_mk enters16 ?_⟩
  have h8' : St w0 w8 (Sep (boxA b2 #[.slice none 0 0] 22 :: boxA t cs T :: boxA r6 #[.pointer (some ⟨t, 0, none⟩)] 32 :: boxA r5 #[.int .i64 0] 33 :: boxA r4 #[.int .i64 0] 3 :: boxA r3 #[.pointer none] 32 :: boxA r2 #[(.func (.func 16) #[] #[.pointer (some ⟨b2, 0, none⟩)])] 52 :: boxA r1 #[.int .i64 n1, .int .i64 n2, .int .i64 n3, .int .i64 n4] 31 :: jB x y :: l)) := (h8.pull 1).pull 8
  refine useC (trace1_c h8' hcs) ?_
  rintro _ w9 ⟨rfl, h9⟩
  refine ⟨rfl, newK_mk ?_⟩
  have h9 : St w0 w9 (Sep (boxA r6 #[.pointer (some ⟨t, 0, none⟩)] 32 :: boxA t cs T :: boxA r5 #[.int .i64 0] 33 :: boxA r4 #[.int .i64 0] 3 :: boxA r3 #[.pointer none] 32 :: boxA r2 #[(.func (.func 16) #[] #[.pointer (some ⟨b2, 0, none⟩)])] 52 :: boxA r1 #[.int .i64 n1, .int .i64 n2, .int .i64 n3, .int .i64 n4] 31 :: jB x y :: exA (fun v : Value => star (boxA b2 #[v] 22) (rowA 24 1 v 1 [u64V 0])) :: l)) := (h9.push 8).pull 1
  obtain ⟨r7, hr7⟩ : ∃ r, w9.heap.size = r := ⟨_, rfl⟩
  have g9 := h9.boxL #[.int .i64 0] 3
  rw [hr7] at g9 ⊢
  refine g9.stAt 0 rfl (by decide) rfl fun w11 h11 => ?_
  refine useC (K := fun v w' => ∃ e1 e2, v = .func (.func 41) #[] #[.pointer (some ⟨e2, 0, none⟩), .pointer (some ⟨e1, 0, none⟩)] ∧ St w0 w' (Sep (boxA e2 #[.int .i64 n5] 3 :: boxA e1 #[.pointer (some ⟨x, 0, none⟩)] 48 :: boxA r7 #[.int .i64 0] 3 :: boxA r6 #[.pointer (some ⟨t, 0, none⟩)] 32 :: boxA t cs T :: boxA r5 #[.int .i64 0] 33 :: boxA r4 #[.int .i64 0] 3 :: boxA r3 #[.pointer none] 32 :: boxA r2 #[(.func (.func 16) #[] #[.pointer (some ⟨b2, 0, none⟩)])] 52 :: boxA r1 #[.int .i64 n1, .int .i64 n2, .int .i64 n3, .int .i64 n4] 31 :: jB x y :: exA (fun v : Value => star (boxA b2 #[v] 22) (rowA 24 1 v 1 [u64V 0])) :: l))) (rEvents_ok (newK_mk (newK_mk ⟨_, _, rfl, (h11.boxL _ _).boxL _ _⟩))) ?_
  rintro _ w12 ⟨e1, e2, rfl, h12⟩
  refine ⟨_, rfl, rangeV_mk enters41 ?_⟩
  intro fn
  obtain ⟨D, hD⟩ : ∃ D, w12.heap.size = D := ⟨_, rfl⟩
  have h13 := h12.objL (.deferred (some []))
  rw [hD] at h13 ⊢
  have hD1 : (w12.alloc (.deferred (some []))).heap.size = D + 1 := by rw [World.size_alloc, hD]
  have h14 := h13.objL (.loop (rrunB_rf506_rec n1 n2 n3 n4 n5 x b2 r1 r2 r3 r4 r5 n1 n2 n3 n4 (some ⟨t, 0, none⟩) r6 (.func (.func 16) #[] #[.pointer (some ⟨b2, 0, none⟩)]) (some ⟨t, 0, none⟩) r7 (.func (.func 41) #[] #[.pointer (some ⟨e2, 0, none⟩), .pointer (some ⟨e1, 0, none⟩)]) fn D))
  rw [hD1] at h14
  obtain ⟨lp, hlp⟩ : ∃ lp, rrunB_rf506_rec n1 n2 n3 n4 n5 x b2 r1 r2 r3 r4 r5 n1 n2 n3 n4 (some ⟨t, 0, none⟩) r6 (.func (.func 16) #[] #[.pointer (some ⟨b2, 0, none⟩)]) (some ⟨t, 0, none⟩) r7 (.func (.func 41) #[] #[.pointer (some ⟨e2, 0, none⟩), .pointer (some ⟨e1, 0, none⟩)]) fn D = lp := ⟨_, rfl⟩
  have hpend : lp.pending = none ∧ lp.state = .ready := by rw [← hlp]; exact ⟨rfl, rfl⟩
  rw [hlp] at h14 ⊢
  clear hlp
  obtain ⟨st0, pd0, f0, t0, pr0, as0, bd0, df0⟩ := lp
  obtain ⟨rfl, rfl⟩ : pd0 = none ∧ st0 = .ready := hpend
  refine useC (evIter_c (i := 2) (j := 3) (k := 12) rfl rfl rfl h14) ?_
  rintro _ w15 ⟨rfl, rfl⟩
  refine ⟨⟨_, rfl⟩, _, h14.objAt 0 rfl, (fun h => by cases h), ?_⟩
  have k2 := (h14.putAt 0 rfl (.loop ⟨.exhausted, none, f0, t0, pr0, as0, bd0, df0⟩)).quiet (Chg.drew _ [])
  refine ⟨_, k2.boxedAt 5 rfl 0, _, k2.boxedAt 4 rfl 0, k2.stAt 9 rfl (by decide) rfl fun w16 k3 => ⟨k3.boxedAt 4 rfl 0, k3.stAt 8 rfl (by decide) rfl fun w17 k4 => k4.stAt 7 rfl (by decide) rfl fun w18 k5 => ?_⟩⟩
  refine ⟨k5.objAt 1 rfl, ?_⟩
  have k6 := k5.putAt 1 rfl (.deferred none)
  refine ⟨_, k6.boxedAt 9 rfl 0, _, k6.boxedAt 8 rfl 0, _, k6.boxedAt 7 rfl 0, t, rfl, ?_⟩
  exact k6.second.second.second.second.second.second.second.second.second.second.second.second

end Go.Proofs.YtcnckiinbfbjkaaGreatDoor

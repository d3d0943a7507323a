import Derived.Test.YtniehglfkacjjaaDoorjL5
namespace Go.Proofs.YtniehglfkacjjaaDoor
open Go Go.Vc

theorem app_two {s : MS} (hd : s.down = false) (hl : s.left = none) (x : List UInt8) : s.app x = (0, { s with b := s.b ++ x }) ∧ ¬ s.size - s.b.length < x.length ∨ s.app x = (18, s) ∧ s.size - s.b.length < x.length := by
  by_cases h : s.size - s.b.length < x.length
  · exact .inr ⟨MS.app_full hd h, h⟩
  · exact .inl ⟨app_fits hd hl (by omega), h⟩

theorem appendN_c (s : ByteArray) : PureC 14 #[.pointer none, .string s] (.tuple #[.int .u64 0, .int .i64 6]) := fun _ => jAppendN_ok ⟨rfl, Chg.refl _ _⟩
theorem syncN_c : PureC 13 #[.pointer none] (.int .i64 6) := fun _ => jSyncN_ok ⟨rfl, Chg.refl _ _⟩
theorem countN_c : PureC 16 #[.pointer none] (.int .i64 0) := fun _ => jCountN_ok ⟨rfl, Chg.refl _ _⟩
theorem durableN_c : PureC 17 #[.pointer none] (.int .i64 0) := fun _ => jDurableN_ok ⟨rfl, Chg.refl _ _⟩
theorem openN_c : PureC 12 #[.pointer none] (.tuple #[.pointer none, .int .i64 6]) := fun _ => jOpenN_ok ⟨rfl, Chg.refl _ _⟩
theorem headN_c : PureC 27 #[.pointer none] (.int .u64 0) := fun w => jHeadN_ok ⟨fun g w' => g = true ∧ w' = w, fun w1 g h _ => by obtain ⟨rfl, rfl⟩ := h; exact cT rfl ⟨rfl, Chg.refl _ _⟩, rfl, rfl⟩

/-- What is wanted of the first record. -/
def wantE (L : List UInt8) (sz : Int) : Int := if 4000 < L.length then 3 else if sz < ((framesF 0 [L]).length : Int) then 18 else 0

theorem first_app (L : List UInt8) {sz : Int} (hsz : ¬ (sz < 1 ∨ 262144 < sz)) :
    (appJ [] false (ms0 sz) L).err = wantE L sz ∧ (appJ [] false (ms0 sz) L).stp = false ∧ (appJ [] false (ms0 sz) L).s.Ok ∧ (appJ [] false (ms0 sz) L).s.down = false ∧ (appJ [] false (ms0 sz) L).s.left = none ∧
      (wantE L sz ≠ 0 → (appJ [] false (ms0 sz) L).es = [] ∧ (appJ [] false (ms0 sz) L).s.b = []) ∧ (appJ [] false (ms0 sz) L).es.length ≤ 1 := by
  have hf : framesF 0 [L] = frameM L (chainM (jhead []) L) := by
    rw [framesF_cons, framesF_nil, List.append_nil]; rfl
  have hok := MS.app_ok (okNew hsz) (frameM L (chainM (jhead []) L))
  unfold appJ wantE
  by_cases h4 : 4000 < L.length
  · rw [if_pos h4, if_pos h4]
    exact ⟨rfl, rfl, okNew hsz, rfl, rfl, fun _ => ⟨rfl, rfl⟩, by simp⟩
  · rw [if_neg h4, if_neg h4, if_neg (by decide), hf]
    rcases app_two (s := ms0 sz) rfl rfl (frameM L (chainM (jhead []) L)) with ⟨e, hx⟩ | ⟨e, hx⟩
    · have hx' : ¬ sz - ((0 : Nat) : Int) < ((frameM L (chainM (jhead []) L)).length : Int) := hx
      rw [show (⟨sz, [], 0, false, none⟩ : MS) = ms0 sz from rfl, e] at hok
      have hw : ¬ sz < ((frameM L (chainM (jhead []) L)).length : Int) := by omega
      rw [if_neg hw, e, if_pos rfl]
      exact ⟨rfl, rfl, hok, rfl, rfl, fun h => absurd rfl h, by simp⟩
    · have hx' : sz - ((0 : Nat) : Int) < ((frameM L (chainM (jhead []) L)).length : Int) := hx
      have hw : sz < ((frameM L (chainM (jhead []) L)).length : Int) := by omega
      rw [if_pos hw, e, if_neg (show ¬ (18 : Int) = 0 by decide)]
      exact ⟨rfl, rfl, okNew hsz, rfl, rfl, fun _ => ⟨rfl, rfl⟩, by simp⟩

theorem next_app (es : List Ent) {s : MS} (hd : s.down = false) (hl : s.left = none) (L : List UInt8) (h4 : L.length ≤ 4000) : (appJ es false s L).err = 0 ∨ (appJ es false s L).err = 18 := by
  unfold appJ
  rw [if_neg (by omega), if_neg (by decide)]
  rcases app_two hd hl (frameM L (chainM (jhead es) L)) with ⟨e, _⟩ | ⟨e, _⟩
  · rw [e, if_pos rfl]; exact .inl rfl
  · rw [e, if_neg (show ¬ (18 : Int) = 0 by decide)]; exact .inr rfl

theorem journalRefuses_c' (w : World) (hg : ErrT w) (s : ByteArray) (n1 : Int) (h1 : 0 ≤ n1) (h2 : n1 ≤ 255) : Calls Tryd.prog 5 #[.string s, .int .u8 n1] w (RetC fun r w' => r = .bool true ∧ Chg w w' []) := by
  refine lJournalRefuses_ok ?_
  unfold lJournalRefuses
  obtain ⟨L, rfl⟩ : ∃ L, s = bs L := ⟨s.data.toList, rfl⟩
  rw [bs_size]
  by_cases h5 : 5000 < L.length
  · refine cT (decide_eq_true (by omega)) (useC (lives_c w) ?_)
    rintro _ w1 ⟨rfl, hc1⟩
    exact ⟨_, rfl, rfl, hc1⟩
  refine cF (decide_eq_false (by omega)) ?_
  refine usePure (appendN_c _) fun w2 c2 => ⟨_, _, rfl, usePure openN_c fun w3 c3 => ⟨_, _, rfl, fun g w' => g = false ∧ Chg w w' [], ?_, ?_⟩⟩
  rotate_left
  · refine cF rfl (cF rfl (usePure syncN_c fun w4 c4 => ⟨_, rfl, cF rfl (usePure countN_c fun w5 c5 => ⟨_, rfl, cF rfl (usePure durableN_c fun w6 c6 => ⟨_, rfl, cF rfl (usePure headN_c fun w7 c7 => ⟨_, rfl, rfl, ?_⟩)⟩)⟩)⟩))
    exact ((((c2.trans c3 (by simp)).trans c4 (by simp)).trans c5 (by simp)).trans c6 (by simp)).trans c7 (by simp)
  rintro w4 g ⟨rfl, c4⟩ -
  have hw : IntKind.i64.wrap ((IntKind.i64.wrap n1) + 1) = n1 + 1 := by rw [IntWalk.i64_in n1 (by omega), IntWalk.i64_in _ (by omega)]
  rw [hw]
  have hsz : ¬ (n1 + 1 < 1 ∨ 262144 < n1 + 1) := by omega
  refine cF rfl (useC (new_st (St.start' c4) hsz) ?_)
  rintro _ w5 ⟨y, rfl, h5'⟩
  have h5' : St w w5 (Sep [medA y (ms0 (n1 + 1))]) := h5'.swap
  refine ⟨_, _, rfl, fun g w' => g = false ∧ w' = w5, ?_, cF rfl ⟨rfl, rfl⟩⟩
  rintro w6 g ⟨rfl, rfl⟩ -
  refine cF rfl (useC (open0 h5' hsz) ?_)
  rintro _ w7 ⟨x, rfl, h7⟩
  refine ⟨_, _, rfl, fun g w' => g = false ∧ w' = w7, ?_, cF rfl ⟨rfl, rfl⟩⟩
  rintro w8 g ⟨rfl, rfl⟩ -
  refine cF rfl (useC (append_j h7 (okNew hsz) (by simp) L (by omega) (.inr hg)) ?_)
  obtain ⟨o1, o2, o3, o4, o5, o6, o7⟩ := first_app L hsz
  obtain ⟨o, ho⟩ : ∃ o, appJ [] false (ms0 (n1 + 1)) L = o := ⟨_, rfl⟩
  rw [ho] at o1 o2 o3 o4 o5 o6 o7 ⊢
  rw [o1, o2]
  rintro _ w9 ⟨rfl, h9⟩
  have h9 : St w w9 (Sep [jouA x y o.es 0 false, medA y o.s]) := h9
  refine ⟨_, _, rfl, fun n9 w' => n9 = wantE L (n1 + 1) ∧ St w w' (Sep [jouA x y o.es 0 false, medA y o.s]), ?_, ?_⟩
  · rintro w10 n9 ⟨rfl, h10⟩ -
    refine ⟨fun g w' => g = false ∧ w' = w10, ?_, cF (by simp) ?_⟩
    · rintro w11 g ⟨rfl, rfl⟩ -
      refine cF rfl (useC (append_j h10 o3 (by omega) [] (by simp) (.inr hg)) ?_)
      rintro _ w12 ⟨rfl, h12⟩
      refine ⟨_, _, rfl, ?_⟩
      rcases next_app o.es o4 o5 [] (by simp) with e | e <;> rw [e]
      · refine cT rfl (useC (lives_c w12) ?_)
        rintro _ w13 ⟨rfl, hc13⟩
        exact ⟨_, rfl, rfl, h12.chg.trans hc13 (by simp)⟩
      · refine cF rfl (cT rfl (useC (lives_c w12) ?_))
        rintro _ w13 ⟨rfl, hc13⟩
        exact ⟨_, rfl, rfl, h12.chg.trans hc13 (by simp)⟩
    · by_cases hz : wantE L (n1 + 1) = 0
      · exact cF (by simp [hz]) ⟨rfl, rfl⟩
      · obtain ⟨e1, e2⟩ := o6 hz
        refine cT (by simp [hz]) (useC (count_j h10) ?_)
        rintro _ w11 ⟨rfl, rfl⟩
        refine ⟨_, rfl, cF (by rw [e1]; rfl) (useC (size_st (h10.out 1 rfl)) ?_)⟩
        rintro _ w12 ⟨rfl, rfl⟩
        exact ⟨_, rfl, by rw [e2]; rfl, rfl⟩
  · unfold wantE
    by_cases h4 : 4000 < L.length
    · exact cT (decide_eq_true (by omega)) ⟨(if_pos h4).symm, h9⟩
    · refine cF (decide_eq_false (by omega)) (newK_mk ?_)
      have hbx := h9.boxL #[.string (bs L)] 9
      obtain ⟨r1, hr1⟩ : ∃ r1, w9.heap.size = r1 := ⟨_, rfl⟩
      rw [hr1] at hbx ⊢
      have hR : Rd (w9.alloc (.cells #[.string (bs L)] 9)) (some ⟨r1, 0, none⟩) ([L].map strV) := Rd.row (hbx.weak (Weak.left (boxRow (cs := #[.string (bs L)]) (n := 1) rfl (by decide)))).rowOf
      have hfl : (framesF 0 [L]).length ≤ 10 + L.length + 8 := by
        rw [framesF_cons, framesF_nil, List.append_nil, frame_len]
        have := textM_len L
        omega
      refine useC (frames_c (xs := [L]) (by simp) (by simp; omega) (by omega) hR) ?_
      rintro _ w11 ⟨rfl, hc11⟩
      have h11 : St w w11 (Sep [jouA x y o.es 0 false, medA y o.s]) := (hbx.quiet hc11).second
      refine ⟨_, rfl, ?_⟩
      rw [bs_size, if_neg h4]
      by_cases hf : n1 + 1 < ((framesF 0 [L]).length : Int)
      · exact cT (decide_eq_true hf) ⟨(if_pos hf).symm, h11⟩
      · exact cF (decide_eq_false hf) ⟨(if_neg hf).symm, h11⟩

theorem journalRefuses_c (w : World) (hg : ErrT w) (s : ByteArray) (n1 : Int) (h : (Lit.int .u8 n1).wf = true) : Calls Tryd.prog 5 #[.string s, .int .u8 n1] w (RetC fun r w' => r = .bool true ∧ Chg w w' []) :=
  journalRefuses_c' w hg s n1 (wf_u8 h).1 (wf_u8 h).2

end Go.Proofs.YtniehglfkacjjaaDoor

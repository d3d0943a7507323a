import Derived.Test.YtbjbfppaghfpcaaMd4
namespace Go.Proofs.Ytbjbfppaghfpcaa
open Go Go.Vc

def lefti (o : Option Nat) : Int := match o with | none => -1 | some n => n

def refCells (s : MS) : Array Value := #[.int .i64 s.size, .string ⟨s.b.toArray⟩, .int .i64 (s.dur : Int), .int .i64 (lefti s.left), .bool s.down]

/-- The reference's medium. -/
def Ref (w : World) (x : Nat) (s : MS) : Prop := w.heap[x]? = some (.cells (refCells s) 56 (0, 0))

def RefTo (w w' : World) (x : Nat) (s : MS) : Prop := Ref w' x s ∧ Chg w w' [x]

theorem Ref.cell {w : World} {x : Nat} {s : MS} (h : Ref w x s) (i : Nat) : w.cell? ⟨x, i, none⟩ = (refCells s)[i]? := by rw [cell_blk, h, getC_cells]
theorem Ref.set {w : World} {x : Nat} {s s' : MS} {u : Value} {i : Nat} (h : Ref w x s) (hc : (refCells s).setIfInBounds i u = refCells s') : Ref (w.setCell ⟨x, i, none⟩ u) x s' := by
  unfold Ref; rw [heap_set, if_pos rfl, h, setO_cells, hc]
theorem Ref.st {w : World} {x : Nat} {s : MS} {u : Value} {i : Nat} {R : World → Prop} (h : Ref w x s) (hi : i < 5) (hu : u.oneCell' = true) (k : R (w.setCell ⟨x, i, none⟩ u)) : stK w ⟨x, i, none⟩ u R :=
  stK_mk h (by simpa [refCells] using hi) hu k
theorem Ref.keep {w w' : World} {x : Nat} {s : MS} {G : List Nat} (h : Ref w x s) (hc : Chg w w' G) (hd : x ∉ G) : Ref w' x s := Chg.keep hc h hd
theorem Ref.drew {w : World} {x : Nat} {s : MS} (h : Ref w x s) : Ref w.drew x s := h
theorem RefTo.refl {w w' : World} {x : Nat} {s : MS} (h : Ref w x s) (hc : Chg w w' []) : RefTo w w' x s := ⟨h.keep hc (by simp), hc.mono (by simp)⟩
theorem RefTo.trans {w w1 w2 : World} {x : Nat} {s s' : MS} (h : RefTo w w1 x s) (k : RefTo w1 w2 x s') : RefTo w w2 x s' := ⟨k.1, h.2.trans k.2 (fun _ hi => .inl hi)⟩
theorem RefTo.set {w0 w : World} {x : Nat} {s s' : MS} {u : Value} {i : Nat} (h0 : RefTo w0 w x s) (hc : (refCells s).setIfInBounds i u = refCells s') : RefTo w0 (w.setCell ⟨x, i, none⟩ u) x s' :=
  h0.trans ⟨h0.1.set hc, Chg.set _ _ _ _ (by simp)⟩

theorem rstep_c {w : World} {x : Nat} {s : MS} (h : Ref w x s) (ho : s.Ok) :
    Calls Try.prog 38 #[.pointer (some ⟨x, 0, none⟩)] w (RetC fun r w' => r = .bool s.stp.1 ∧ RefTo w w' x s.stp.2) := by
  refine rstep_ok ?_
  unfold rstep
  have c3 := h.cell 3
  have c3' : w.cell? ⟨x, 3, none⟩ = some (.int .i64 (lefti s.left)) := c3
  refine ⟨_, c3', ?_⟩
  cases hl : s.left with
  | none =>
    have hs : s.stp = (true, s) := by simp [MS.stp, hl]
    rw [hl] at c3'
    rw [show (lefti none == 0) = false from rfl, cond_false]
    refine ⟨fun w' => w' = w, ?_, _, c3', ?_⟩
    · rintro w2 rfl -
      exact ⟨by rw [hs], by rw [hs]; exact RefTo.refl h (Chg.refl _ _)⟩
    · rw [decide_eq_false (show ¬ (lefti none > 0) by decide), cond_false]
  | some n =>
    rw [hl] at c3'
    cases n with
    | zero =>
      have hs : s.stp = (false, { s with down := true }) := by simp [MS.stp, hl]
      rw [show (lefti (some 0) == 0) = true from rfl, cond_true]
      exact h.st (by omega) rfl ⟨by rw [hs], by rw [hs]; exact (RefTo.refl h (Chg.refl _ _)).set rfl⟩
    | succ n =>
      have hs : s.stp = (true, { s with left := some n }) := by simp [MS.stp, hl]
      have hne : (lefti (some (n + 1)) == 0) = false := by simp [lefti] <;> omega
      rw [hne, cond_false]
      refine ⟨fun w' => w' = w.setCell ⟨x, 3, none⟩ (.int .i64 (n : Int)), ?_, _, c3', ?_⟩
      · rintro w2 rfl -
        exact ⟨by rw [hs], by rw [hs]; exact (RefTo.refl h (Chg.refl _ _)).set rfl⟩
      · rw [decide_eq_true (show lefti (some (n + 1)) > 0 by simp [lefti] <;> omega), cond_true]
        refine ⟨_, c3', ?_⟩
        have hw : IntKind.i64.wrap (lefti (some (n + 1)) - 1) = (n : Int) := by
          have := ho.l _ hl
          simp only [lefti]
          rw [IntWalk.i64_in _ (by omega)]; omega
        rw [hw]
        exact h.st (by omega) rfl rfl

theorem extract_one (t : ByteArray) (k : Nat) (hk : k < t.data.toList.length) : t.extract k (k + 1) = ⟨#[t.data.toList[k]]⟩ := by
  apply ByteArray.ext
  apply Array.ext'
  simp only [ByteArray.data_extract, Array.toList_extract]
  simp only [List.extract_eq_take_drop]
  rw [show k + 1 - k = 1 by omega, List.drop_eq_getElem_cons hk]
  rfl

theorem rappend_calls {w : World} {x : Nat} {s : MS} (h : Ref w x s) (ho : s.Ok) (t : ByteArray) :
    Calls Try.prog 25 #[.pointer (some ⟨x, 0, none⟩), .string t] w (RetC fun r w' => r = .int .i64 (s.app t.data.toList).1 ∧ RefTo w w' x (s.app t.data.toList).2) := by
  refine rAppend_ok ?_
  unfold rAppend
  refine ⟨s.down, h.cell 4, ?_⟩
  have hsize : t.size = t.data.toList.length := Array.length_toList.symm
  cases hd : s.down with
  | true =>
    rw [MS.app_down hd, cond_true]
    exact ⟨rfl, RefTo.refl h (Chg.refl _ _)⟩
  | false =>
    rw [cond_false]
    have s1 := ho.s1
    have s2 := ho.s2
    refine ⟨s.size, h.cell 0, _, h.cell 1, ?_⟩
    have hbs : ((⟨s.b.toArray⟩ : ByteArray).size : Int) = s.b.length := by simp [ByteArray.size]
    rw [hbs]
    have hw : IntKind.i64.wrap (s.size - (s.b.length : Int)) = s.size - s.b.length := IntWalk.i64_in _ (by omega)
    rw [hw]
    by_cases hfull : s.size - s.b.length < (t.size : Int)
    · rw [MS.app_full hd (by rw [← hsize]; exact hfull), decide_eq_true (show ((t.size : Nat) : Int) > s.size - s.b.length from hfull), cond_true]
      exact ⟨rfl, RefTo.refl h (Chg.drew _ _)⟩
    · rw [MS.app_go hd (by rw [← hsize]; exact hfull), decide_eq_false (show ¬ ((t.size : Nat) : Int) > s.size - s.b.length from hfull), cond_false]
      refine ⟨fun n w' m => ∃ (k : Nat) (s' : MS), n = (k : Int) ∧ k ≤ t.size ∧ m = t.size - k ∧ s'.Ok ∧ s'.b.length + (t.size - k) ≤ s'.size ∧
        MS.appL (t.data.toList.drop k) s' = MS.appL t.data.toList s ∧ RefTo w w' x s', ?_, ?_⟩
      · exact ⟨t.size, 0, s, rfl, by omega, by omega, ho, by omega, rfl, RefTo.refl h (Chg.drew _ _)⟩
      · rintro w2 m n ⟨k, s', rfl, hk, rfl, ho', hsz', happ, hto⟩ -
        by_cases hlt : k < t.size
        · rw [decide_eq_true (show (k : Int) < ((t.size : Nat) : Int) by omega), cond_true]
          have hkl : k < t.data.toList.length := by omega
          have hdrop : t.data.toList.drop k = t.data.toList[k] :: t.data.toList.drop (k + 1) := List.drop_eq_getElem_cons hkl
          rw [hdrop, appL_cons] at happ
          refine useC (rstep_c hto.1 ho') ?_
          rintro _ w3 ⟨rfl, hto3'⟩
          refine ⟨_, rfl, ?_⟩
          have hto3 := hto.trans hto3'
          cases hst : s'.stp.1 with
          | false =>
            rw [hst] at happ
            rw [← happ]
            exact ⟨rfl, hto3⟩
          | true =>
            rw [hst, if_pos rfl] at happ
            show cond false _ _
            rw [cond_false]
            have hb := MS.stp_b s'
            have hwk : IntKind.i64.wrap ((k : Int) + 1) = ((k + 1 : Nat) : Int) := by rw [IntWalk.i64_in _ (by omega)]; omega
            rw [hwk]
            refine ⟨_, hto3.1.cell 1, by omega, by omega, by omega, by omega, ?_⟩
            rw [Int.toNat_natCast, Int.toNat_natCast, extract_one t k hkl]
            have hcat : (⟨s'.stp.2.b.toArray⟩ : ByteArray) ++ ⟨#[t.data.toList[k]]⟩ = ⟨(s'.b ++ [t.data.toList[k]]).toArray⟩ := by
              apply ByteArray.ext
              rw [hb.1]
              simp
            rw [hcat]
            have hs'' := appL_left (s := s') t.data.toList[k] ho' (by omega) rfl
            refine ⟨?_, hto3.1.drew.st (by omega) rfl ?_⟩
            · have : (⟨s'.stp.2.b.toArray⟩ : ByteArray).size = s'.b.length := by rw [hb.1]; simp [ByteArray.size]
              rw [this]
              have : (⟨#[t.data.toList[k]]⟩ : ByteArray).size = 1 := rfl
              rw [this]
              have := ho'.s1
              have := ho'.s2
              show ((_ : Nat) : Int) ≤ 9223372036854775807
              omega
            · refine ⟨t.size - (k + 1), by omega, k + 1, { s'.stp.2 with b := s'.b ++ [t.data.toList[k]] }, rfl, by omega, rfl, hs'', ?_, happ, ?_⟩
              · simp; rw [hb.2.1]; omega
              · exact (hto3.trans (RefTo.refl hto3.1 (Chg.drew _ _))).set rfl
        · have hkk : k = t.size := by omega
          subst hkk
          rw [decide_eq_false (show ¬ ((t.size : Int) < ((t.size : Nat) : Int)) by omega), cond_false]
          have : t.data.toList.drop t.size = [] := List.drop_eq_nil_of_le (by omega)
          rw [this] at happ
          rw [← happ]
          exact ⟨rfl, hto⟩

theorem rsync_calls {w : World} {x : Nat} {s : MS} (h : Ref w x s) (ho : s.Ok) :
    Calls Try.prog 26 #[.pointer (some ⟨x, 0, none⟩)] w (RetC fun r w' => r = .int .i64 s.syn.1 ∧ RefTo w w' x s.syn.2) := by
  refine rSync_ok ?_
  unfold rSync
  cases hd : s.down with
  | true =>
    have : s.syn = (19, s) := by unfold MS.syn; rw [if_pos hd]
    rw [this]
    refine ⟨fun b w' => w' = w ∧ b = true, ?_, true, by rw [h.cell 4, ← hd]; rfl, rfl, rfl⟩
    rintro w1 b ⟨rfl, rfl⟩ -
    exact ⟨rfl, RefTo.refl h (Chg.refl _ _)⟩
  | false =>
    refine ⟨fun b w' => RefTo w w' x s.stp.2 ∧ b = !s.stp.1, ?_, false, by rw [h.cell 4, ← hd]; rfl, ?_⟩
    · rintro w1 b ⟨hto, rfl⟩ -
      cases hst : s.stp.1 with
      | false =>
        have : s.syn = (19, s.stp.2) := by unfold MS.syn; rw [if_neg (by rw [hd]; decide), if_neg (by rw [hst]; decide)]
        rw [this]
        exact ⟨rfl, hto⟩
      | true =>
        have : s.syn = (0, { s.stp.2 with dur := s.b.length }) := by unfold MS.syn; rw [if_neg (by rw [hd]; decide), if_pos hst]
        rw [this]
        refine ⟨_, hto.1.cell 1, hto.1.st (by omega) rfl ⟨rfl, hto.set ?_⟩⟩
        have hb := MS.stp_b s
        have : (⟨s.stp.2.b.toArray⟩ : ByteArray).size = s.b.length := by rw [hb.1]; simp [ByteArray.size]
        rw [this]
        rfl
    · rw [cond_false]
      refine useC (rstep_c h ho) ?_
      rintro _ w3 ⟨rfl, hto3⟩
      exact ⟨_, rfl, hto3, rfl⟩

end Go.Proofs.Ytbjbfppaghfpcaa

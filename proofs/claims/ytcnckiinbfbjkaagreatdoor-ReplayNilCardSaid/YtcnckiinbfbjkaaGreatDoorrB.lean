import Derived.Test.YtcnckiinbfbjkaaGreatDoorrA
namespace Go.Proofs.YtcnckiinbfbjkaaGreatDoor
open Go Go.Vc

abbrev mB (y : Nat) : Asn := boxA y #[.int .i64 262144, .slice none 0 0, .int .i64 0, .bool false, .bool false, .int .i64 0] 100
abbrev jB (x y : Nat) : Asn := boxA x #[.pointer (some ⟨y, 0, none⟩), .slice none 0 0, .int .i64 0, .bool false] 78
abbrev rB (x : Nat) (e : Int) : Asn := boxA x #[.string (bs []), .int .i64 e] 158

section c
variable {w0 w : World} {l : List Asn}

theorem new_c (h : St w0 w (Sep l)) : Calls Tryz.prog 20 #[.int .i64 262144] w (RetC fun r w' => ∃ y, r = .tuple #[.pointer (some ⟨y, 0, none⟩), .int .i64 0] ∧ St w0 w' (Sep (mB y :: l))) := by
  refine mNew_ok ⟨fun g w' => g = false ∧ w' = w, ?_, cF rfl ⟨rfl, rfl⟩⟩
  rintro w1 g ⟨rfl, rfl⟩ -
  exact cF rfl (newK_mk ⟨_, rfl, h.boxL _ _⟩)

theorem read_c (i : Nat) {y : Nat} (e : l[i]? = some (mB y)) (h : St w0 w (Sep l)) : Calls Tryz.prog 29 #[.pointer (some ⟨y, 0, none⟩)] w (RetC fun r w' => r = .tuple #[.string (bs []), .int .i64 0] ∧ w' = w) := by
  refine mRead_ok ?_
  unfold mRead
  refine useC (K := fun r w' => r = .int .i64 0 ∧ w' = w) (mstate_ok ⟨false, h.boxedAt i e 3, cF rfl ⟨rfl, rfl⟩⟩) ?_
  rintro _ w1 ⟨rfl, rfl⟩
  refine ⟨_, rfl, cF rfl ⟨none, 0, 0, h.boxedAt i e 1, ?_⟩⟩
  have own : w1.ownsRow 0 5 1 (.slice none 0 0) ([] : List UInt8).length (([] : List UInt8).map byteV) := ⟨by simp, .inl ⟨rfl, rfl⟩⟩
  exact tostr_c Tryz.underlying98 Tryz.underlying5 Tryz.underlying9 own ⟨_, rfl, rfl, rfl⟩

theorem size_c (i : Nat) {y : Nat} (e : l[i]? = some (mB y)) (h : St w0 w (Sep l)) : Calls Tryz.prog 33 #[.pointer (some ⟨y, 0, none⟩)] w (RetC fun r w' => r = .int .i64 0 ∧ w' = w) :=
  mSize_ok ⟨none, 0, 0, h.boxedAt i e 1, rfl, rfl⟩
theorem durable_c (i : Nat) {y : Nat} (e : l[i]? = some (mB y)) (h : St w0 w (Sep l)) : Calls Tryz.prog 32 #[.pointer (some ⟨y, 0, none⟩)] w (RetC fun r w' => r = .int .i64 0 ∧ w' = w) :=
  mDurable_ok ⟨_, h.boxedAt i e 2, rfl, rfl⟩

theorem ok_c {x : Nat} {er : Int} (h : St w0 w (Sep (rB x er :: l))) : Calls Tryz.prog 86 #[.pointer (some ⟨x, 0, none⟩)] w (RetC fun r w' => r = .bool (er == 0) ∧ w' = w) :=
  wok_ok ⟨_, h.boxedAt 0 rfl 1, rfl, rfl⟩

theorem fail_c {x : Nat} (h : St w0 w (Sep (rB x 0 :: l))) (n : Int) : Calls Tryz.prog 67 #[.pointer (some ⟨x, 0, none⟩), .int .i64 n] w (RetC fun r w' => r = .tuple #[] ∧ St w0 w' (Sep (rB x n :: l))) := by
  refine wFail_ok ⟨fun g w' => g = true ∧ w' = w, ?_, _, h.boxedAt 0 rfl 1, rfl, rfl⟩
  rintro w1 g ⟨rfl, rfl⟩ -
  exact cT rfl (h.stAt 0 rfl (by decide) rfl fun w2 h2 => ⟨rfl, h2⟩)

theorem uint_c {x : Nat} (h : St w0 w (Sep (rB x 0 :: l))) (n : Int) : Calls Tryz.prog 66 #[.pointer (some ⟨x, 0, none⟩), .int .u64 n] w (RetC fun r w' => r = .int .u64 0 ∧ St w0 w' (Sep (rB x 1 :: l))) := by
  refine wRUint_ok ?_
  unfold wRUint
  refine useC (ok_c h) ?_
  rintro _ w1 ⟨rfl, rfl⟩
  refine ⟨_, rfl, cF rfl ⟨fun a b w' m => a = 0 ∧ b = 0 ∧ w' = w1, ⟨0, rfl, rfl, rfl⟩, ?_⟩⟩
  rintro w2 m a b ⟨rfl, rfl, rfl⟩ -
  refine ⟨_, h.boxedAt 0 rfl 0, cT rfl (useC (fail_c h 1) ?_)⟩
  rintro _ w3 ⟨rfl, h3⟩
  exact ⟨rfl, rfl, h3⟩

theorem text_c {x : Nat} (h : St w0 w (Sep (rB x 0 :: l))) : Calls Tryz.prog 56 #[.pointer (some ⟨x, 0, none⟩), .int .i64 4000] w (RetC fun r w' => r = .string (bs []) ∧ St w0 w' (Sep (rB x 1 :: l))) := by
  refine wRText_ok ?_
  unfold wRText
  refine useC (ok_c h) ?_
  rintro _ w1 ⟨rfl, rfl⟩
  refine ⟨_, rfl, cF rfl ⟨fun n w' => w' = w1, ?_, cT rfl rfl⟩⟩
  rintro w2 n rfl -
  refine useC (uint_c h n) ?_
  rintro _ w3 ⟨rfl, h3⟩
  have e3 := h3.boxedAt 0 rfl 1
  refine ⟨_, rfl, fun w' => w' = w3, ?_, fun g w' => g = false ∧ w' = w3, ?_, _, e3, cF rfl ⟨rfl, rfl⟩⟩
  · rintro w4 rfl -
    refine ⟨fun w' => w' = w4, ?_, fun g w' => g = false ∧ w' = w4, ?_, _, e3, cF rfl ⟨rfl, rfl⟩⟩
    · rintro w5 rfl -
      exact ⟨_, e3, cT rfl ⟨rfl, h3⟩⟩
    · rintro w5 g ⟨rfl, rfl⟩ -
      exact cF rfl rfl
  · rintro w4 g ⟨rfl, rfl⟩ -
    exact cF rfl rfl

/-- The iterator over no bytes: no round. -/
theorem iter_c {b y : Nat} (h : St w0 w (Sep (boxA b #[.string (bs [])] 9 :: l))) : Calls Tryz.prog 54 #[.func (.yield y) #[] #[], .pointer (some ⟨b, 0, none⟩)] w (RetC fun r w' => r = .tuple #[] ∧ St w0 w' (Sep (boxA b #[.string (bs [])] 9 :: l))) := by
  refine jIter_ok ?_
  unfold jIter
  refine ⟨fun a c w' m => a = 0 ∧ c = 0 ∧ w' = w, ⟨0, rfl, rfl, rfl⟩, ?_⟩
  rintro w1 m a c ⟨rfl, rfl, rfl⟩ -
  refine ⟨_, h.boxedAt 0 rfl 0, by decide, by decide, ?_⟩
  have e0 : (bs []).extract ((0 : Int).toNat) (bs []).size = bs [] := by decide
  rw [e0]
  refine useC (K := fun r w' => ∃ x, r = .pointer (some ⟨x, 0, none⟩) ∧ St w0 w' (Sep (rB x 0 :: boxA b #[.string (bs [])] 9 :: l))) (wNew_ok (newK_mk ⟨_, rfl, h.boxL _ _⟩)) ?_
  rintro _ w2 ⟨x, rfl, h2⟩
  refine ⟨_, rfl, useC (text_c h2) ?_⟩
  rintro _ w3 ⟨rfl, h3⟩
  refine ⟨_, rfl, fun g w' => g = true ∧ w' = w3, ?_, useC (K := fun r w' => r = .int .i64 1 ∧ w' = w3) (wErr_ok ⟨_, h3.boxedAt 0 rfl 1, rfl, rfl⟩) ?_⟩
  · rintro w4 g ⟨rfl, rfl⟩ -
    exact cT rfl ⟨rfl, h3.second⟩
  · rintro _ w4 ⟨rfl, rfl⟩
    exact ⟨_, rfl, cT rfl ⟨rfl, rfl⟩⟩

theorem enters54 : entersB Tryz.prog 54 = true := by kernel_rfl

set_option maxRecDepth 100000 in
theorem open_c {y : Nat} (h : St w0 w (Sep (mB y :: l))) : Calls Tryz.prog 21 #[.pointer (some ⟨y, 0, none⟩)] w (RetC fun r w' => ∃ x, r = .tuple #[.pointer (some ⟨x, 0, none⟩), .int .i64 0] ∧ St w0 w' (Sep (jB x y :: mB y :: l))) := by
  refine jOpen_ok ?_
  unfold jOpen
  refine useC (read_c 0 rfl h) ?_
  rintro _ w1 ⟨rfl, rfl⟩
  refine ⟨_, _, rfl, cF rfl (newK_mk ?_)⟩
  obtain ⟨x, hx⟩ : ∃ x, w1.heap.size = x := ⟨_, rfl⟩
  have h1 := h.boxL #[.pointer (some ⟨y, 0, none⟩), .slice none 0 0, .int .i64 0, .bool false] 78
  rw [hx] at h1 ⊢
  generalize w1.alloc (.cells #[.pointer (some ⟨y, 0, none⟩), .slice none 0 0, .int .i64 0, .bool false] 78) = w2 at h1
  refine newK_mk ?_
  obtain ⟨r2, hr2⟩ : ∃ r2, w2.heap.size = r2 := ⟨_, rfl⟩
  have h2 := h1.boxL #[.pointer none] 48
  rw [hr2] at h2 ⊢
  refine h2.stAt 0 rfl (by decide) rfl fun w3 h3 => newK_mk ?_
  obtain ⟨r3, hr3⟩ : ∃ r3, w3.heap.size = r3 := ⟨_, rfl⟩
  have h4 := h3.boxL #[.int .i64 0] 3
  rw [hr3] at h4 ⊢
  refine h4.stAt 0 rfl (by decide) rfl fun w5 h5 => ?_
  refine useC (R := _) (jEntries_ok (K := fun v w' => ∃ b, v = .func (.func 54) #[] #[.pointer (some ⟨b, 0, none⟩)] ∧ St w0 w' (Sep (boxA b #[.string (bs [])] 9 :: boxA r3 #[.int .i64 0] 3 :: boxA r2 #[.pointer (some ⟨x, 0, none⟩)] 48 :: jB x y :: mB y :: l))) (newK_mk ⟨_, rfl, h5.boxL _ _⟩)) ?_
  rintro _ w6 ⟨b, rfl, h6⟩
  refine ⟨_, rfl, rangeV_mk enters54 ?_⟩
  intro fn
  obtain ⟨D, hD⟩ : ∃ D, w6.heap.size = D := ⟨_, rfl⟩
  have h7 := h6.objL (.deferred (some []))
  rw [hD] at h7 ⊢
  have hD1 : (w6.alloc (.deferred (some []))).heap.size = D + 1 := by rw [World.size_alloc, hD]
  have h8 := h7.objL (.loop (jOpen_rf1018_rec y (bs []) 0 x r2 r3 (.func (.func 54) #[] #[.pointer (some ⟨b, 0, none⟩)]) fn D))
  rw [hD1] at h8
  obtain ⟨lp, hlp⟩ : ∃ lp, jOpen_rf1018_rec y (bs []) 0 x r2 r3 (.func (.func 54) #[] #[.pointer (some ⟨b, 0, none⟩)]) fn D = lp := ⟨_, rfl⟩
  have hpend : lp.pending = none ∧ lp.state = .ready := by rw [← hlp]; exact ⟨rfl, rfl⟩
  rw [hlp] at h8 ⊢
  clear hlp
  obtain ⟨st0, pd0, f0, t0, pr0, as0, bd0, df0⟩ := lp
  obtain ⟨rfl, rfl⟩ : pd0 = none ∧ st0 = .ready := hpend
  obtain ⟨lp, hlp⟩ : ∃ lp : Loop, (⟨.ready, none, f0, t0, pr0, as0, bd0, df0⟩ : Loop) = lp := ⟨_, rfl⟩
  rw [hlp] at h8 ⊢
  have h9 : St w0 _ (Sep (boxA b #[.string (bs [])] 9 :: objA (D + 1) (.loop lp) :: objA D (.deferred (some [])) :: boxA r3 #[.int .i64 0] 3 :: boxA r2 #[.pointer (some ⟨x, 0, none⟩)] 48 :: jB x y :: mB y :: l)) := h8.pull 2
  refine useC (iter_c h9) ?_
  rintro _ w7 ⟨rfl, h10⟩
  subst hlp
  refine ⟨⟨_, rfl⟩, _, h10.objAt 1 rfl, (fun h => by cases h), ?_⟩
  have k2 := (h10.putAt 1 rfl (.loop ⟨.exhausted, none, f0, t0, pr0, as0, bd0, df0⟩)).quiet (Chg.drew _ [])
  refine ⟨_, k2.boxedAt 4 rfl 0, _, k2.boxedAt 4 rfl 0, none, 0, 0, by rw [addA]; exact k2.boxedAt 5 rfl 1, ?_⟩
  dsimp only [onSome]
  rw [addA]
  refine k2.stAt 5 rfl (by show 2 < 4; decide) rfl fun w8 k3 => ?_
  have k3 : St w0 w8 (Sep (boxA b #[.string (bs [])] 9 :: objA (D + 1) (.loop ⟨.exhausted, none, f0, t0, pr0, as0, bd0, df0⟩) :: objA D (.deferred (some [])) :: boxA r3 #[.int .i64 0] 3 :: boxA r2 #[.pointer (some ⟨x, 0, none⟩)] 48 :: jB x y :: mB y :: l)) := k3
  refine ⟨fun w' => w' = w8, ?_, _, k3.boxedAt 3 rfl 0, cF rfl rfl⟩
  rintro w9 rfl -
  refine ⟨fun w' => w' = w9, ?_, useC (durable_c 6 rfl k3) ?_⟩
  · rintro w10 rfl -
    refine ⟨_, k3.boxedAt 4 rfl 0, k3.objAt 2 rfl, x, rfl, ?_⟩
    have k4 := k3.putAt 2 rfl (.deferred none)
    exact k4.second.second.second.second.second
  · rintro _ w10 ⟨rfl, rfl⟩
    refine ⟨_, rfl, useC (size_c 6 rfl k3) ?_⟩
    rintro _ w11 ⟨rfl, rfl⟩
    exact ⟨_, rfl, cF rfl rfl⟩

theorem count_c {x y : Nat} (i : Nat) (e : l[i]? = some (jB x y)) (h : St w0 w (Sep l)) : Calls Tryz.prog 15 #[.pointer (some ⟨x, 0, none⟩)] w (RetC fun r w' => r = .int .i64 0 ∧ w' = w) :=
  jCount_ok ⟨none, 0, 0, h.boxedAt i e 1, rfl, rfl⟩

theorem stored_c (h : St w0 w (Sep l)) : Calls Tryz.prog 11 #[.slice none 0 0] w (RetC fun r w' => ∃ x y, r = .pointer (some ⟨x, 0, none⟩) ∧ St w0 w' (Sep (jB x y :: mB y :: l))) := by
  refine lstored_ok ?_
  unfold lstored
  refine useC (new_c h) ?_
  rintro _ w1 ⟨y, rfl, h1⟩
  refine ⟨_, _, rfl, fun g w' => g = false ∧ w' = w1, ?_, cF rfl ⟨rfl, rfl⟩⟩
  rintro w2 g ⟨rfl, rfl⟩ -
  refine cF rfl (useC (open_c h1) ?_)
  rintro _ w3 ⟨x, rfl, h3⟩
  refine ⟨_, _, rfl, fun g w' => g = false ∧ w' = w3, ?_, cF rfl ⟨rfl, rfl⟩⟩
  rintro w4 g ⟨rfl, rfl⟩ -
  refine cF rfl ⟨fun n w' m => n = 0 ∧ w' = w4, ⟨0, rfl, rfl⟩, ?_⟩
  rintro w5 m n ⟨rfl, rfl⟩ -
  exact cF rfl ⟨x, y, rfl, h3⟩

theorem tnew_c (h : St w0 w (Sep l)) (n1 n2 n3 n4 : Int) : Calls Tryz.prog 23 #[.agg #[.int .i64 n1, .int .i64 n2, .int .i64 n3, .int .i64 n4]] w
    (RetC fun r w' => ∃ t cs T, r = .pointer (some ⟨t, 0, none⟩) ∧ cs[100]? = some (.int .u64 0) ∧ St w0 w' (Sep (boxA t cs T :: l))) := by
  refine tNew_ok (newK_mk ?_)
  have h1 := h.boxL #[.int .i64 n1, .int .i64 n2, .int .i64 n3, .int .i64 n4] 31
  refine ⟨_, _, _, _, h1.cellsIn 0 rfl, newK_mk ⟨_, _, _, rfl, rfl, (h1.boxL _ _).rot.second⟩⟩

end c
end Go.Proofs.YtcnckiinbfbjkaaGreatDoor

import Derived.Test.YtcnckiinbfbjkaaGreatDoorrC
namespace Go.Proofs.YtcnckiinbfbjkaaGreatDoor
open Go Go.Vc

section d
variable {w0 w : World} {l : List Asn}

theorem rrun_c {x y : Nat} (n1 n2 n3 n4 n5 : Int) (h : St w0 w (Sep (jB x y :: l))) : Calls Tryz.prog 7 #[.pointer (some ⟨x, 0, none⟩), .agg #[.int .i64 n1, .int .i64 n2, .int .i64 n3, .int .i64 n4], .int .i64 n5] w
    (RetC fun r w' => ∃ t : Nat, r = .tuple #[.pointer (some ⟨t, 0, none⟩), .int .i64 0, .int .i64 0] ∧ St w0 w' (Sep (jB x y :: l))) := by
  refine rRun_ok (newK_mk ?_)
  have h1 := h.boxL #[.int .i64 n1, .int .i64 n2, .int .i64 n3, .int .i64 n4] 31
  refine ⟨_, _, _, _, h1.cellsIn 0 rfl, useC (runA_c n1 n2 n3 n4 n5 h1.second) ?_⟩
  rintro _ w2 ⟨t, rfl, h2⟩
  exact ⟨_, _, _, rfl, t, rfl, h2⟩

theorem trace_c {x y : Nat} (n1 n2 n3 n4 : Int) (h : St w0 w (Sep (jB x y :: l))) : Calls Tryz.prog 8 #[.pointer (some ⟨x, 0, none⟩), .agg #[.int .i64 n1, .int .i64 n2, .int .i64 n3, .int .i64 n4]] w
    (RetC fun r w' => ∃ a c, r = .tuple #[.slice a 1 c, .int .i64 0] ∧ St w0 w' (Sep (rowA 24 1 (.slice a 1 c) 1 [u64V 0] :: jB x y :: l))) := by
  refine rTrace_ok (newK_mk ?_)
  have h1 := h.boxL #[.int .i64 n1, .int .i64 n2, .int .i64 n3, .int .i64 n4] 31
  obtain ⟨r1, hr1⟩ : ∃ r, w.heap.size = r := ⟨_, rfl⟩
  rw [hr1] at h1 ⊢
  generalize w.alloc (.cells #[.int .i64 n1, .int .i64 n2, .int .i64 n3, .int .i64 n4] 31) = w1 at h1
  refine newK_mk ?_
  have h2 := (h1.boxL #[.slice none 0 0] 22).quiet (Chg.drew _ [])
  obtain ⟨r2, hr2⟩ : ∃ r, w1.heap.size = r := ⟨_, rfl⟩
  rw [hr2] at h2 ⊢
  refine ⟨_, _, _, _, h2.cellsIn 1 rfl, useC (count_c 2 rfl h2) ?_⟩
  rintro _ w3 ⟨rfl, rfl⟩
  have h3 : St w0 _ (Sep (jB x y :: boxA r2 #[.slice none 0 0] 22 :: l)) := h2.rot.second.rot
  refine ⟨_, rfl, h2.cellsIn 1 rfl, useC (runB_c n1 n2 n3 n4 0 h3) ?_⟩
  rintro _ w4 ⟨t, rfl, h4⟩
  refine ⟨_, _, _, rfl, cF rfl ?_⟩
  obtain ⟨v, h5⟩ := h4.rot.ex
  have h5 : St w0 w4 (Sep (boxA r2 #[v] 22 :: rowA 24 1 v 1 [u64V 0] :: jB x y :: l)) := h5.assoc
  obtain ⟨a, c, rfl⟩ := own_slice (h5.rowAt 1 rfl)
  exact ⟨a, 1, c, h5.boxedAt 0 rfl 0, a, c, rfl, h5.second⟩

theorem runAN_c (w : World) (n1 n2 n3 n4 n5 : Int) : Calls Tryz.prog 13 #[.pointer none, .agg #[.int .i64 n1, .int .i64 n2, .int .i64 n3, .int .i64 n4], .int .i64 n5, .func (.func 14) #[] #[]] w
    (RetC fun r w' => r = .tuple #[.pointer none, .int .i64 0, .int .i64 6] ∧ Chg w w' []) := by
  refine rrunAN_ok ?_
  unfold rrunAN
  have h1 := (((((St.start w).one.boxL #[.int .i64 n1, .int .i64 n2, .int .i64 n3, .int .i64 n4] 31).boxL #[.func (.func 14) #[] #[]] 52).boxL #[.pointer none] 32).boxL #[.int .i64 0] 3).boxL #[.int .i64 0] 33
  refine newK_mk (newK_mk (newK_mk (newK_mk (newK_mk (h1.stAt 2 rfl (by decide) rfl fun w6 h6 => h6.stAt 1 rfl (by decide) rfl fun w7 h7 => h7.stAt 0 rfl (by decide) rfl fun w8 h8 => ?_)))))
  exact ⟨_, h8.boxedAt 2 rfl 0, _, h8.boxedAt 1 rfl 0, _, h8.boxedAt 0 rfl 0, rfl, h8.chg⟩

theorem runBN_c (w : World) (n1 n2 n3 n4 n5 : Int) (b : Nat) : Calls Tryz.prog 13 #[.pointer none, .agg #[.int .i64 n1, .int .i64 n2, .int .i64 n3, .int .i64 n4], .int .i64 n5, .func (.func 16) #[] #[.pointer (some ⟨b, 0, none⟩)]] w
    (RetC fun r w' => r = .tuple #[.pointer none, .int .i64 0, .int .i64 6] ∧ Chg w w' []) := by
  refine rrunBN_ok ?_
  unfold rrunBN
  have h1 := (((((St.start w).one.boxL #[.int .i64 n1, .int .i64 n2, .int .i64 n3, .int .i64 n4] 31).boxL #[.func (.func 16) #[] #[.pointer (some ⟨b, 0, none⟩)]] 52).boxL #[.pointer none] 32).boxL #[.int .i64 0] 3).boxL #[.int .i64 0] 33
  refine newK_mk (newK_mk (newK_mk (newK_mk (newK_mk (h1.stAt 2 rfl (by decide) rfl fun w6 h6 => h6.stAt 1 rfl (by decide) rfl fun w7 h7 => h7.stAt 0 rfl (by decide) rfl fun w8 h8 => ?_)))))
  exact ⟨_, h8.boxedAt 2 rfl 0, _, h8.boxedAt 1 rfl 0, _, h8.boxedAt 0 rfl 0, rfl, h8.chg⟩

theorem runN_c (w : World) (n1 n2 n3 n4 n5 : Int) : Calls Tryz.prog 7 #[.pointer none, .agg #[.int .i64 n1, .int .i64 n2, .int .i64 n3, .int .i64 n4], .int .i64 n5] w
    (RetC fun r w' => r = .tuple #[.pointer none, .int .i64 0, .int .i64 6] ∧ Chg w w' []) := by
  refine rRunN_ok (newK_mk ?_)
  have h1 := (St.start w).one.boxL #[.int .i64 n1, .int .i64 n2, .int .i64 n3, .int .i64 n4] 31
  refine ⟨_, _, _, _, h1.cellsIn 0 rfl, useC (runAN_c _ n1 n2 n3 n4 n5) ?_⟩
  rintro _ w2 ⟨rfl, hc⟩
  exact ⟨_, _, _, rfl, rfl, h1.chg.trans hc (by simp)⟩

theorem countN_c (w : World) : Calls Tryz.prog 15 #[.pointer none] w (RetC fun r w' => r = .int .i64 0 ∧ w' = w) := jCountN_ok ⟨rfl, rfl⟩

theorem traceN_c (w : World) (n1 n2 n3 n4 : Int) : Calls Tryz.prog 8 #[.pointer none, .agg #[.int .i64 n1, .int .i64 n2, .int .i64 n3, .int .i64 n4]] w
    (RetC fun r w' => r = .tuple #[.slice none 0 0, .int .i64 6] ∧ Chg w w' []) := by
  refine rTraceN_ok (newK_mk (newK_mk ?_))
  have h1 := (((St.start w).one.boxL #[.int .i64 n1, .int .i64 n2, .int .i64 n3, .int .i64 n4] 31).boxL #[.slice none 0 0] 22).quiet (Chg.drew _ [])
  refine ⟨_, _, _, _, h1.cellsIn 1 rfl, useC (countN_c _) ?_⟩
  rintro _ w2 ⟨rfl, rfl⟩
  refine ⟨_, rfl, h1.cellsIn 1 rfl, useC (runBN_c _ n1 n2 n3 n4 0 _) ?_⟩
  rintro _ w3 ⟨rfl, hc⟩
  exact ⟨_, _, _, rfl, cT rfl ⟨rfl, h1.chg.trans hc (by simp)⟩⟩

def rz : Array Value := #[.int .i64 0, .int .i64 0, .int .i64 0, .int .i64 0, .int .i64 0, .int .i64 0, .slice none 0 0, .slice none 0 0, .slice none 0 0]

theorem roundN_c (w : World) (n1 n2 n3 n4 n5 : Int) : Calls Tryz.prog 9 #[.pointer none, .agg #[.int .i64 n1, .int .i64 n2, .int .i64 n3, .int .i64 n4], .int .i64 n5] w
    (RetC fun r w' => r = .tuple #[.agg rz, .int .i64 6] ∧ Chg w w' []) := by
  refine rRoundN_ok (newK_mk (newK_mk ?_))
  have h1 := (((St.start w).one.boxL #[.int .i64 n1, .int .i64 n2, .int .i64 n3, .int .i64 n4] 31).boxL rz 43).quiet (Chg.drew _ [])
  refine ⟨_, _, _, _, h1.cellsIn 1 rfl, useC (countN_c _) ?_⟩
  rintro _ w2 ⟨rfl, rfl⟩
  refine ⟨_, rfl, h1.cellsIn 1 rfl, useC (runN_c _ n1 n2 n3 n4 0) ?_⟩
  rintro _ w3 ⟨rfl, hc⟩
  refine ⟨_, _, _, rfl, cT rfl ((h1.quiet hc).stLAt 0 rfl _ rfl (by simp [Value.oneCell']) fun w4 h4 => ?_)⟩
  exact ⟨_, _, _, _, _, _, _, _, _, _, _, _, _, _, _, h4.cellsIn 0 rfl, rfl, h4.chg⟩

theorem equalZ_c (w : World) : Calls Tryz.prog 10 #[.agg rz, .agg rz] w (RetC fun r w' => r = .bool true ∧ Chg w w' []) := by
  refine lequal_ok (newK_mk (newK_mk ?_))
  have h1 := ((St.start w).one.boxL rz 43).boxL rz 43
  have c0 := h1.cellsIn 0 rfl
  have c1 := h1.cellsIn 1 rfl
  refine ⟨fun g w' => g = false ∧ St w w' (Sep [boxA (w.alloc (.cells rz 43)).heap.size rz 43, boxA w.heap.size rz 43, emp]), ?_, ?_⟩
  rotate_left
  · refine ⟨_, _, _, _, _, _, ⟨c1.1, c1.2.1, c1.2.2.1, c1.2.2.2.1, c1.2.2.2.2.1, c1.2.2.2.2.2.1, trivial⟩, _, _, _, _, _, _, ⟨c0.1, c0.2.1, c0.2.2.1, c0.2.2.2.1, c0.2.2.2.2.1, c0.2.2.2.2.2.1, trivial⟩, cF rfl ?_⟩
    exact ⟨none, 0, 0, h1.boxedAt 1 rfl 6, none, 0, 0, h1.boxedAt 0 rfl 6, cF rfl ⟨none, 0, 0, h1.boxedAt 1 rfl 7, none, 0, 0, h1.boxedAt 0 rfl 7, cF rfl ⟨none, 0, 0, h1.boxedAt 1 rfl 8, none, 0, 0, h1.boxedAt 0 rfl 8, rfl, h1⟩⟩⟩
  · rintro w3 g ⟨rfl, h3⟩ -
    refine cF rfl ⟨fun n w' m => n = 0 ∧ w' = w3, ⟨0, rfl, rfl⟩, ?_⟩
    rintro w4 m n ⟨rfl, rfl⟩ -
    refine ⟨none, 0, 0, h3.boxedAt 1 rfl 6, cF rfl ⟨fun n w' m => n = 0 ∧ w' = w4, ⟨0, rfl, rfl⟩, ?_⟩⟩
    rintro w5 m n ⟨rfl, rfl⟩ -
    refine ⟨none, 0, 0, h3.boxedAt 1 rfl 7, cF rfl ⟨fun n w' m => n = 0 ∧ w' = w5, ⟨0, rfl, rfl⟩, ?_⟩⟩
    rintro w6 m n ⟨rfl, rfl⟩ -
    exact ⟨none, 0, 0, h3.boxedAt 1 rfl 8, cF rfl ⟨rfl, h3.chg⟩⟩

end d

theorem rdBox {w0 w : World} {l : List Asn} {r : Nat} {cs : Array Value} {T : TypeId} (i : Nat) (h : St w0 w (Sep l)) (e : l[i]? = some (boxA r cs T)) : Rd w (some ⟨r, 0, none⟩) cs.toList := fun k v hk =>
  ⟨_, rfl, by rw [Nat.mul_one, addA, h.boxedAt i e]; simpa using hk⟩

theorem lives_c (w : World) : Calls Tryz.prog 5 #[] w (RetC fun r w' => r = .bool true ∧ Chg w w' []) := by
  refine llives_ok (newK_mk (newK_mk ?_))
  have h2 := ((St.start w).one.boxL #[.int .u64 0, .int .u64 5, .int .u64 6] 24).boxL #[.int .u64 0, .int .u64 5, .int .u64 7, .int .u64 8] 24
  refine useC (compare_c (xs := [0, 5, 6]) (ys := [0, 5, 7, 8]) (rdBox 1 h2 rfl) (rdBox 0 h2 rfl) (by decide) (by decide)) ?_
  rintro _ w3 ⟨rfl, c3⟩
  have h3 := (h2.quiet c3).second.second
  have e3 : cmpL 0 [0, 5, 6] [0, 5, 7, 8] = some (2, 6, 7) := by decide
  rw [e3]
  refine ⟨_, _, _, _, rfl, newK_mk ?_⟩
  have h4 := h3.one.boxL #[.int .i64 0, .int .u64 0, .int .u64 0] 26
  obtain ⟨r3, hr3⟩ : ∃ r, w3.heap.size = r := ⟨_, rfl⟩
  rw [hr3] at h4 ⊢
  refine h4.stLAt 0 rfl _ rfl (by simp [Value.oneCell']) fun w5 h5 => newK_mk (newK_mk ?_)
  have h7 := (h5.boxL #[.int .u64 0, .int .u64 5] 24).boxL #[.int .u64 0, .int .u64 5, .int .u64 7] 24
  refine useC (compare_c (xs := [0, 5]) (ys := [0, 5, 7]) (rdBox 1 h7 rfl) (rdBox 0 h7 rfl) (by decide) (by decide)) ?_
  rintro _ w8 ⟨rfl, c8⟩
  have h8 := (h7.quiet c8).second.second
  have e8 : cmpL 0 [0, 5] [0, 5, 7] = some (2, 0, 7) := by decide
  rw [e8]
  refine ⟨_, _, _, _, rfl, newK_mk ?_⟩
  have h9 := St.boxL h8 #[.int .i64 0, .int .u64 0, .int .u64 0] 26
  obtain ⟨r6, hr6⟩ : ∃ r, w8.heap.size = r := ⟨_, rfl⟩
  rw [hr6] at h9 ⊢
  refine h9.stLAt 0 rfl _ rfl (by simp [Value.oneCell']) fun w10 h10 => ?_
  have h10 : St w w10 (Sep [boxA r6 #[.int .i64 2, .int .u64 0, .int .u64 7] 26, boxA r3 #[.int .i64 2, .int .u64 6, .int .u64 7] 26, Sep [emp]]) := h10
  refine useC (stored_c h10) ?_
  rintro _ w11 ⟨x, y, rfl, h11⟩
  refine ⟨_, rfl, cF rfl (useC (rrun_c 0 0 0 0 3 h11) ?_)⟩
  rintro _ w12 ⟨t, rfl, h12⟩
  refine ⟨_, _, _, rfl, useC (trace_c 0 0 0 0 h12) ?_⟩
  rintro _ w13 ⟨a, c, rfl, h13⟩
  refine ⟨_, _, _, _, rfl, cT rfl ⟨_, _, _, h13.cellsIn 4 rfl, cT rfl (cT rfl ⟨_, _, _, h13.cellsIn 3 rfl, cT rfl (cT rfl (cT rfl (cT rfl (cT rfl (cT rfl ?_)))))⟩)⟩⟩
  obtain ⟨q, rfl, hq⟩ := Rd.row (h13.rowAt 0 rfl) 0 (u64V 0) rfl
  exact ⟨by decide, by decide, _, hq, rfl, h13.chg⟩

theorem replayCompares_c {w : World} {a b : Option Addr} {c d : Nat} {xs ys : List Nat} (hx : Rd w a (xs.map u64V)) (hy : Rd w b (ys.map u64V)) :
    Calls Tryz.prog 3 #[.slice a xs.length c, .slice b ys.length d] w (RetC fun r w' => r = .bool true ∧ Chg w w' []) := by
  refine lCompares_ok ?_
  unfold lCompares
  refine ⟨fun g w' => w' = w ∧ (g = true ∨ g = false ∧ xs.length ≤ 100 ∧ ys.length ≤ 100), ?_, ?_⟩
  rotate_left
  · by_cases h1 : 100 < xs.length
    · exact cT (decide_eq_true (by omega)) ⟨rfl, .inl rfl⟩
    · refine cF (decide_eq_false (by omega)) ⟨rfl, ?_⟩
      by_cases h2 : 100 < ys.length
      · exact .inl (decide_eq_true (by omega))
      · exact .inr ⟨decide_eq_false (by omega), by omega, by omega⟩
  rintro w1 g ⟨rfl, rfl | ⟨rfl, lx, ly⟩⟩ -
  · refine cT rfl (useC (lives_c w1) ?_)
    rintro _ w2 ⟨rfl, hc⟩
    exact ⟨_, rfl, rfl, hc⟩
  refine cF rfl (useC (compare_c hx hy (by omega) (by omega)) ?_)
  rintro _ w3 ⟨rfl, c3⟩
  obtain ⟨o, ho⟩ : ∃ o, cmpL 0 xs ys = o := ⟨_, rfl⟩
  rw [ho]
  obtain ⟨i0, x0, y0, g0, hV, hS, hN⟩ : ∃ (i0 x0 y0 : Nat) (g0 : Bool), disV o = .tuple #[.agg #[.int .i64 (i0 : Int), .int .u64 (x0 : Int), .int .u64 (y0 : Int)], .bool g0] ∧ (∀ i x y, o = some (i, x, y) → g0 = true ∧ i0 = i ∧ x0 = x ∧ y0 = y) ∧ (o = none → g0 = false ∧ i0 = 0 ∧ x0 = 0 ∧ y0 = 0) := by
    cases o with
    | none => exact ⟨0, 0, 0, false, rfl, (fun i x y h => by cases h), fun _ => ⟨rfl, rfl, rfl, rfl⟩⟩
    | some p =>
      obtain ⟨i, x, y⟩ := p
      exact ⟨i, x, y, true, rfl, (fun i' x' y' h => by cases h; exact ⟨rfl, rfl, rfl, rfl⟩), (fun h => by cases h)⟩
  rw [hV]
  refine ⟨_, _, _, _, rfl, newK_mk ?_⟩
  have h4 := (St.start' c3).one.boxL #[.int .i64 0, .int .u64 0, .int .u64 0] 26
  obtain ⟨r1, hr1⟩ : ∃ r, w3.heap.size = r := ⟨_, rfl⟩
  rw [hr1] at h4 ⊢
  refine h4.stLAt 0 rfl _ rfl (by simp [Value.oneCell']) fun w5 h5 => ?_
  have h5 : St w1 w5 (Sep [boxA r1 #[.int .i64 (i0 : Int), .int .u64 (x0 : Int), .int .u64 (y0 : Int)] 26, emp]) := h5
  refine ⟨fun n w' m => ∃ i : Nat, n = (i : Int) ∧ i ≤ 100 ∧ m = 100 - i ∧ o = cmpL i (xs.drop i) (ys.drop i) ∧ w' = w5, ⟨100, 0, rfl, by omega, by omega, ho.symm, rfl⟩, ?_⟩
  rintro w6 m n ⟨i, rfl, hi, rfl, hcm, rfl⟩ -
  refine ⟨fun g w' => w' = w6 ∧ g = decide (i < xs.length ∨ i < ys.length), ?_, ?_⟩
  rotate_left
  · by_cases h1 : i < xs.length
    · exact cT (decide_eq_true (by omega)) ⟨rfl, by simp [h1]⟩
    · exact cF (decide_eq_false (by omega)) ⟨rfl, by simp [h1]⟩
  rintro w7 g ⟨rfl, rfl⟩ -
  have hx' := hx.chg h5.chg
  have hy' := hy.chg h5.chg
  by_cases hany : i < xs.length ∨ i < ys.length
  · refine cT (decide_eq_true hany) ⟨fun n w' => w' = w7 ∧ n = (atM xs i : Int), ?_, ?_⟩
    rotate_left
    · by_cases h1 : i < xs.length
      · obtain ⟨q, rfl, hq⟩ := hx' i (u64V xs[i]) (by simp [h1])
        exact cT (decide_eq_true (by omega)) ⟨by omega, by omega, _, by rw [Int.toNat_natCast]; exact hq, rfl, by simp [atM, h1]⟩
      · exact cF (decide_eq_false (by omega)) ⟨rfl, by simp [atM, List.getElem?_eq_none (Nat.le_of_not_lt h1)]⟩
    rintro w8 n ⟨rfl, rfl⟩ -
    refine ⟨fun n w' => w' = w8 ∧ n = (atM ys i : Int), ?_, ?_⟩
    rotate_left
    · by_cases h1 : i < ys.length
      · obtain ⟨q, rfl, hq⟩ := hy' i (u64V ys[i]) (by simp [h1])
        exact cT (decide_eq_true (by omega)) ⟨by omega, by omega, _, by rw [Int.toNat_natCast]; exact hq, rfl, by simp [atM, h1]⟩
      · exact cF (decide_eq_false (by omega)) ⟨rfl, by simp [atM, List.getElem?_eq_none (Nat.le_of_not_lt h1)]⟩
    rintro w9 n ⟨rfl, rfl⟩ -
    refine ⟨fun g w' => w' = w9 ∧ ((g = true ∧ o = some (i, atM xs i, atM ys i)) ∨ (g = false ∧ o = cmpL (i + 1) (xs.drop (i + 1)) (ys.drop (i + 1)))), ?_, ?_⟩
    rotate_left
    · by_cases h1 : i < xs.length
      · by_cases h2 : i < ys.length
        · by_cases he : xs[i]? = ys[i]?
          · have he' : xs[i] = ys[i] := by simpa [h1, h2] using he
            refine cF (by simp [atM, h1, h2, he']) (cF (decide_eq_false (by omega)) ⟨rfl, .inr ⟨decide_eq_false (by omega), by rw [hcm, cmp_go h1 h2 he]⟩⟩)
          · have he' : ¬ xs[i] = ys[i] := by simpa [h1, h2] using he
            refine cT (by simp [atM, h1, h2]; omega) ⟨rfl, .inl ⟨rfl, by rw [hcm, cmp_stop (.inr (.inr ⟨h1, h2, he⟩))]⟩⟩
        · have hs := cmp_stop (xs := xs) (ys := ys) (i := i) (.inr (.inl ⟨by omega, h1⟩))
          rw [← hcm] at hs
          by_cases hne : ((atM xs i : Int) != (atM ys i : Int)) = true
          · exact cT hne ⟨rfl, .inl ⟨rfl, hs⟩⟩
          · exact cF (by simpa using hne) (cF (decide_eq_false (by omega)) ⟨rfl, .inl ⟨decide_eq_true (by omega), hs⟩⟩)
      · have hs := cmp_stop (xs := xs) (ys := ys) (i := i) (.inl ⟨by omega, by omega⟩)
        rw [← hcm] at hs
        by_cases hne : ((atM xs i : Int) != (atM ys i : Int)) = true
        · exact cT hne ⟨rfl, .inl ⟨rfl, hs⟩⟩
        · exact cF (by simpa using hne) (cT (decide_eq_true (by omega)) ⟨rfl, .inl ⟨rfl, hs⟩⟩)
    rintro w10 g ⟨rfl, ⟨rfl, hs⟩ | ⟨rfl, hs⟩⟩ -
    · obtain ⟨rfl, rfl, rfl, rfl⟩ := hS _ _ _ hs
      refine cT rfl (cT rfl ⟨_, _, _, h5.cellsIn 0 rfl, cT (by simp) (useC (lives_c w10) ?_)⟩)
      rintro _ w11 ⟨rfl, hc⟩
      exact ⟨_, rfl, rfl, h5.chg.trans hc (by simp)⟩
    · have hi100 : i < 100 := by rcases hany with h | h <;> omega
      exact cF rfl ⟨100 - (i + 1), by omega, i + 1, by rw [IntWalk.i64_in _ (by omega)]; omega, by omega, rfl, hs, rfl⟩
  · have hs := cmp_end (xs := xs) (ys := ys) (i := i) (by omega) (by omega)
    rw [← hcm] at hs
    obtain ⟨rfl, rfl, rfl, rfl⟩ := hN hs
    refine cF (decide_eq_false hany) (cT rfl ⟨_, _, _, h5.cellsIn 0 rfl, cT rfl (useC (lives_c w7) ?_)⟩)
    rintro _ w8 ⟨rfl, hc⟩
    exact ⟨_, rfl, rfl, h5.chg.trans hc (by simp)⟩

theorem replayNil_c (w : World) (n1 n2 n3 n4 n5 : Int) : Calls Tryz.prog 4 #[.agg #[.int .i64 n1, .int .i64 n2, .int .i64 n3, .int .i64 n4], .int .i64 n5] w (RetC fun r w' => r = .bool true ∧ Chg w w' []) := by
  refine lNil_ok (newK_mk ?_)
  have h1 := (St.start w).one.boxL #[.int .i64 n1, .int .i64 n2, .int .i64 n3, .int .i64 n4] 31
  refine ⟨_, _, _, _, h1.cellsIn 0 rfl, useC (runN_c _ n1 n2 n3 n4 n5) ?_⟩
  rintro _ w2 ⟨rfl, c2⟩
  have h2 := h1.quiet c2
  refine ⟨_, _, _, rfl, _, _, _, _, h2.cellsIn 0 rfl, useC (traceN_c _ n1 n2 n3 n4) ?_⟩
  rintro _ w3 ⟨rfl, c3⟩
  have h3 := h2.quiet c3
  refine ⟨_, _, _, _, rfl, _, _, _, _, h3.cellsIn 0 rfl, useC (roundN_c _ n1 n2 n3 n4 n5) ?_⟩
  rintro _ w4 ⟨rfl, c4⟩
  have h4 := h3.quiet c4
  refine ⟨_, _, _, _, _, _, _, _, _, _, _, _, _, _, _, _, rfl, newK_mk ?_⟩
  refine (h4.boxL rz 43).stLAt 0 rfl _ rfl (by simp [Value.oneCell']) fun w6 h6 => cT rfl (cT rfl (cT rfl (cT rfl (cT rfl ?_))))
  refine ⟨_, _, _, _, _, _, _, _, _, _, _, _, _, _, _, h6.cellsIn 0 rfl, useC (equalZ_c w6) ?_⟩
  rintro _ w7 ⟨rfl, c7⟩
  refine ⟨_, rfl, cT rfl (cT rfl (useC (lives_c w7) ?_))⟩
  rintro _ w8 ⟨rfl, c8⟩
  exact ⟨_, rfl, rfl, (h6.chg.trans c7 (by simp)).trans c8 (by simp)⟩

end Go.Proofs.YtcnckiinbfbjkaaGreatDoor

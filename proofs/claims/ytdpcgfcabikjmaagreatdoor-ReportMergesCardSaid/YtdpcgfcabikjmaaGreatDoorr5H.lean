import Derived.Test.YtdpcgfcabikjmaaGreatDoorr5F
import Derived.Test.YtdpcgfcabikjmaaGreatDoorr5Shmrg
namespace Go.Proofs.YtdpcgfcabikjmaaGreatDoor
open Go Go.Vc Go.Sort Go.RowKit
set_option maxRecDepth 100000

/-! Appending what may be read; two rows one after the other; summaries that are the same. -/
theorem append_none {P : Program} {w : World} {t ty e : TypeId} {z : Value} {sz by_ : Nat} (hT : SlT P t e z sz by_) {a : Option Addr} {n c c' : Nat} (hnc : n ≤ c) :
    (Builtin.append_ #[t, t] ty #[.slice a n c, .slice none 0 c']).run P w = .ok (.slice a n c) w := by
  obtain ⟨i, hi, hz, hs, hby⟩ := hT.i
  simp [Builtin.append_, run_underlying hT.u, sizeOf, typeInfo, hi, Builtin.lenOf, hnc, Builtin.firstCells]
  cases a <;> simp [storeCells]

structure AB where
  nm : List UInt8
  d : Int
  b : Int
  wd : Int
  out : Bool
  pts : List Int

structure AS where
  cs : List Int
  ref : Int
  ps : List (List Int)
  rer : List Int
  bds : List AB

def Bd.ab (x : Bd) : AB := ⟨x.nm, x.d, x.b, x.wd, x.out, x.pts⟩
def Sm.ab (s : Sm) : AS := ⟨s.cs, s.ref, s.ps, s.rer, s.bds.map Bd.ab⟩

theorem sameInts_c {w : World} {a1 a2 : Option Addr} {c1 c2 : Nat} {xs : List Int} (h1 : Rd w a1 (xs.map iv)) (h2 : Rd w a2 (xs.map iv)) (hl : xs.length ≤ 9223372036854775807) :
    Calls Tryz.prog 28 #[.slice a1 xs.length c1, .slice a2 xs.length c2] w (RetC fun r w' => r = .bool true ∧ Chg w w' []) := by
  refine qSameInts_ok ?_
  unfold qSameInts
  refine cF (by simp) ⟨fun n w1 m => ∃ i : Nat, n = i ∧ i ≤ xs.length ∧ m = xs.length - i ∧ Chg w w1 [], ⟨xs.length, 0, rfl, by omega, by omega, Chg.refl _ _⟩, ?_⟩
  rintro w1 m n ⟨i, rfl, hi, hm, hc⟩ -
  by_cases hlt : (i : Int) < (xs.length : Int)
  · have hi' : i < xs.length := by omega
    have hd : Chg w w1.drew [] := hc.trans (Chg.drew w1 []) (by simp)
    obtain ⟨q1, rfl, e1⟩ := (h1.chg hd) i (iv xs[i]) (by simp [hi'])
    obtain ⟨q2, rfl, e2⟩ := (h2.chg hd) i (iv xs[i]) (by simp [hi'])
    exact cT (by simpa using hlt) ⟨by omega, by omega, xs[i], e1, by omega, by omega, xs[i], e2, cF (by simp) ⟨xs.length - (i + 1), by omega, i + 1, by rw [iwrap ⟨by omega, by omega⟩]; rfl, by omega, rfl, hd⟩⟩
  · exact cF (by simpa using hlt) ⟨rfl, hc⟩

set_option maxHeartbeats 1000000 in
theorem same_c {w : World} {s t : Sm} (h : s.In w) (k : t.In w) (e : s.ab = t.ab) : Calls Tryz.prog 12 #[.agg s.val.toArray, .agg t.val.toArray] w (RetC fun r w' => r = .bool true ∧ Chg w w' []) := by
  obtain ⟨n1, n2, n3, n4, n5, n6, n7, n8, n9, n10, n11, he⟩ := len11 h.n11
  have e1 : t.cs = s.cs := (congrArg AS.cs e).symm
  have e2 : t.ref = s.ref := (congrArg AS.ref e).symm
  have e3 : t.ps = s.ps := (congrArg AS.ps e).symm
  have e4 : t.rer = s.rer := (congrArg AS.rer e).symm
  have e5 : s.bds.map Bd.ab = t.bds.map Bd.ab := congrArg AS.bds e
  have e6 : t.bds.length = s.bds.length := by have := congrArg List.length e5; simpa using this.symm
  have hval : s.val.toArray = #[iv n1, iv n2, iv n3, iv n4, iv n5, iv n6, iv n7, iv n8, iv n9, iv n10, iv n11, iv s.ref, .slice s.a1 s.ps.length s.c1, .slice s.a2 s.bds.length s.c2, .slice s.a3 s.rer.length s.c3] := by
    unfold Sm.val; rw [he]; rfl
  have hval2 : t.val.toArray = #[iv n1, iv n2, iv n3, iv n4, iv n5, iv n6, iv n7, iv n8, iv n9, iv n10, iv n11, iv s.ref, .slice t.a1 s.ps.length t.c1, .slice t.a2 s.bds.length t.c2, .slice t.a3 s.rer.length t.c3] := by
    unfold Sm.val; rw [e1, e2, e3, e4, e6, he]; rfl
  rw [hval, hval2]
  refine qSame_ok ?_
  unfold qSame
  refine newK_mk (newK_mk ?_)
  have s2 := ((St.start w).one.boxL #[iv n1, iv n2, iv n3, iv n4, iv n5, iv n6, iv n7, iv n8, iv n9, iv n10, iv n11, iv s.ref, .slice s.a1 s.ps.length s.c1, .slice s.a2 s.bds.length s.c2, .slice s.a3 s.rer.length s.c3] 31).boxL #[iv n1, iv n2, iv n3, iv n4, iv n5, iv n6, iv n7, iv n8, iv n9, iv n10, iv n11, iv s.ref, .slice t.a1 s.ps.length t.c1, .slice t.a2 s.bds.length t.c2, .slice t.a3 s.rer.length t.c3] 31
  generalize hw2 : ((w.alloc _).alloc _) = w2 at s2 ⊢
  generalize hr1 : w.heap.size = r1 at s2 ⊢
  generalize hr2 : (w.alloc _).heap.size = r2 at s2 ⊢
  have c1 : ∀ {w' : World}, Chg w2 w' [] → ∀ (j : Nat) (v : Value), (#[iv n1, iv n2, iv n3, iv n4, iv n5, iv n6, iv n7, iv n8, iv n9, iv n10, iv n11, iv s.ref, .slice s.a1 s.ps.length s.c1, .slice s.a2 s.bds.length s.c2, .slice s.a3 s.rer.length s.c3] : Array Value)[j]? = some v → w'.cell? ⟨r1, j, none⟩ = some v := fun hc j v hv => cell_chg (by rw [s2.boxedAt 1 rfl]; exact hv) hc
  have c2 : ∀ {w' : World}, Chg w2 w' [] → ∀ (j : Nat) (v : Value), (#[iv n1, iv n2, iv n3, iv n4, iv n5, iv n6, iv n7, iv n8, iv n9, iv n10, iv n11, iv s.ref, .slice t.a1 s.ps.length t.c1, .slice t.a2 s.bds.length t.c2, .slice t.a3 s.rer.length t.c3] : Array Value)[j]? = some v → w'.cell? ⟨r2, j, none⟩ = some v := fun hc j v hv => cell_chg (by rw [s2.boxedAt 0 rfl]; exact hv) hc
  have z1 : Chg w2 w2 [] := Chg.refl _ _
  have l1 := h.l1
  have l2 := h.l2
  refine ⟨fun b w3 => b = false ∧ Chg w2 w3 [], ?_, ?_⟩
  · rintro w3 b ⟨rfl, d3⟩ -
    refine cF rfl ⟨fun n w4 m => ∃ i : Nat, n = i ∧ i ≤ s.ps.length ∧ m = s.ps.length - i ∧ Chg w2 w4 [], ⟨s.ps.length, 0, rfl, by omega, by omega, d3⟩, ?_⟩
    rintro w4 m n ⟨i, rfl, hi, hm, d4⟩ -
    refine ⟨_, _, _, c1 d4 12 _ rfl, ?_⟩
    by_cases hlt : (i : Int) < (s.ps.length : Int)
    · have hi' : i < s.ps.length := by omega
      have d5 : Chg w2 w4.drew [] := d4.trans (Chg.drew w4 []) (by simp)
      have f5 : Chg w w4.drew [] := s2.chg.trans d5 (by simp)
      obtain ⟨p1, p2, q1, hq1, g1⟩ := (h.chg f5).ps i s.ps[i] (by simp [hi'])
      obtain ⟨_, _, q2, hq2, g2⟩ := (k.chg f5).ps i s.ps[i] (by rw [e3]; simp [hi'])
      obtain ⟨m1, m2, m3, m4, m5, m6, hp⟩ := len6 p1
      rw [hp] at g1 g2
      refine cT (by simpa using hlt) ⟨_, _, _, c1 d5 12 _ rfl, ?_⟩
      rw [hq1]
      refine ⟨by omega, by omega, m1, m2, m3, m4, m5, m6, g1, _, _, _, c2 d5 12 _ rfl, ?_⟩
      rw [hq2]
      exact ⟨by omega, by omega, m1, m2, m3, m4, m5, m6, g2, cF (by simp) ⟨s.ps.length - (i + 1), by omega, i + 1, by rw [iwrap ⟨by omega, by omega⟩]; rfl, by omega, rfl, d5⟩⟩
    · refine cF (by simpa using hlt) ⟨fun n w5 m => ∃ i : Nat, n = i ∧ i ≤ s.bds.length ∧ m = s.bds.length - i ∧ Chg w2 w5 [], ⟨s.bds.length, 0, rfl, by omega, by omega, d4⟩, ?_⟩
      rintro w5 m n ⟨i, rfl, hi, hm, d5⟩ -
      refine ⟨_, _, _, c1 d5 13 _ rfl, ?_⟩
      by_cases hlt : (i : Int) < (s.bds.length : Int)
      · have hi' : i < s.bds.length := by omega
        have d6 : Chg w2 w5.drew [] := d5.trans (Chg.drew w5 []) (by simp)
        have f6 : Chg w w5.drew [] := s2.chg.trans d6 (by simp)
        have gx : s.bds[i]? = some s.bds[i] := by simp [hi']
        have gy : t.bds[i]? = some (t.bds[i]'(by omega)) := by simp [show i < t.bds.length by omega]
        generalize hx : s.bds[i] = x at gx
        generalize hy : t.bds[i]'(by omega) = y at gy
        have exy : x.ab = y.ab := by
          have := congrArg (fun l => l[i]?) e5
          simp only [List.getElem?_map, gx, gy, Option.map_some] at this
          exact Option.some.inj this
        have x1 : y.nm = x.nm := (congrArg AB.nm exy).symm
        have x2 : y.d = x.d := (congrArg AB.d exy).symm
        have x3 : y.b = x.b := (congrArg AB.b exy).symm
        have x4 : y.wd = x.wd := (congrArg AB.wd exy).symm
        have x5 : y.out = x.out := (congrArg AB.out exy).symm
        have x6 : y.pts = x.pts := (congrArg AB.pts exy).symm
        obtain ⟨_, rx, q1, hq1, g1⟩ := (h.chg f6).bds i x gx
        obtain ⟨_, ry, q2, hq2, g2⟩ := (k.chg f6).bds i y gy
        have lx := h.lp x (List.mem_of_getElem? gx)
        have hyc : y.cells = [sv x.nm, iv x.d, iv x.b, iv x.wd, .bool x.out, .slice y.pa x.pts.length y.pc] := by
          unfold Bd.cells; rw [x1, x2, x3, x4, x5, x6]
        rw [hyc] at g2
        rw [x6] at ry
        generalize hw6 : w5.drew = w6 at d6 f6 g1 g2 rx ry
        refine cT (by simpa using hlt) ⟨_, _, _, c1 d6 13 _ rfl, ?_⟩
        rw [hq1]
        refine ⟨by omega, by omega, _, _, _, _, _, _, _, _, g1, _, _, _, c2 d6 13 _ rfl, ?_⟩
        rw [hq2]
        refine ⟨by omega, by omega, _, _, _, _, _, _, _, _, g2, ?_, ?_⟩
        · have e6 : Chg w2 (w6.alloc (.cells #[.string (bs []), .int .i64 0, .int .i64 0, .int .i64 0, .bool false, .slice none 0 0] 46)) [] := d6.trans (Chg.new w6 _ []) (by simp)
          have s7 := ((St.start w6).one.boxL #[.string (bs []), .int .i64 0, .int .i64 0, .int .i64 0, .bool false, .slice none 0 0] 46).boxL #[.string (bs []), .int .i64 0, .int .i64 0, .int .i64 0, .bool false, .slice none 0 0] 46
          refine newK_mk ⟨cellsAt_chg (Chg.new w6 _ []) g2, by rw [← hq2]; exact c2 e6 13 _ rfl, cellsAt_chg (Chg.new w6 _ []) g1, by rw [← hq1]; exact c1 e6 13 _ rfl, newK_mk ?_⟩
          have e7 := d6.trans s7.chg (by simp)
          refine ⟨cellsAt_chg s7.chg g2, by rw [← hq2]; exact c2 e7 13 _ rfl, cellsAt_chg s7.chg g1, by rw [← hq1]; exact c1 e7 13 _ rfl, ?_⟩
          refine s7.stLAt 1 rfl x.cells rfl x.one fun w8 s8 => ?_
          have e8 := d6.trans s8.chg (by simp)
          refine ⟨cellsAt_chg s8.chg g2, by rw [← hq2]; exact c2 e8 13 _ rfl, ?_⟩
          refine s8.stLAt 0 rfl [sv x.nm, iv x.d, iv x.b, iv x.wd, .bool x.out, .slice y.pa x.pts.length y.pc] rfl (by rw [← hyc]; exact y.one) fun w9 s9 => ?_
          have cx : ∀ (j : Nat) (v : Value), x.cells[j]? = some v → w9.cell? ⟨_, j, none⟩ = some v := fun j v hv => by rw [s9.boxedAt 1 rfl]; simpa using hv
          have cy : ∀ (j : Nat) (v : Value), [sv x.nm, iv x.d, iv x.b, iv x.wd, .bool x.out, .slice y.pa x.pts.length y.pc][j]? = some v → w9.cell? ⟨_, j, none⟩ = some v := fun j v hv => by rw [s9.boxedAt 0 rfl]; simpa using hv
          refine ⟨fun b w10 => b = false ∧ Chg w6 w10 [], ?_, _, cx 0 _ rfl, _, cy 0 _ rfl, cF (by simp) ⟨_, cx 1 _ rfl, _, cy 1 _ rfl, cF (by simp) ⟨_, cx 2 _ rfl, _, cy 2 _ rfl, cF (by simp) ⟨_, cx 3 _ rfl, _, cy 3 _ rfl, cF (by simp) ⟨_, cx 4 _ rfl, _, cy 4 _ rfl, cF (by simp) ⟨_, _, _, cx 5 _ rfl, _, _, _, cy 5 _ rfl, useC (sameInts_c (rx.chg s9.chg) (ry.chg s9.chg) lx) ?_⟩⟩⟩⟩⟩⟩
          · rintro w10 b ⟨rfl, d10⟩ -
            exact cF rfl ⟨s.bds.length - (i + 1), by omega, i + 1, by rw [iwrap ⟨by omega, by omega⟩]; rfl, by omega, rfl, d6.trans d10 (by simp)⟩
          · rintro v w11 ⟨rfl, d11⟩
            exact ⟨true, rfl, rfl, s9.chg.trans d11 (by simp)⟩
        · have e6 : Chg w2 (w6.alloc (.cells #[.string (bs []), .int .i64 0, .int .i64 0, .int .i64 0, .bool false, .slice none 0 0] 46)) [] := d6.trans (Chg.new w6 _ []) (by simp)
          have s7 := ((St.start w6).one.boxL #[.string (bs []), .int .i64 0, .int .i64 0, .int .i64 0, .bool false, .slice none 0 0] 46).boxL #[.string (bs []), .int .i64 0, .int .i64 0, .int .i64 0, .bool false, .slice none 0 0] 46
          refine newK_mk ⟨cellsAt_chg (Chg.new w6 _ []) g2, by rw [← hq2]; exact c2 e6 13 _ rfl, cellsAt_chg (Chg.new w6 _ []) g1, by rw [← hq1]; exact c1 e6 13 _ rfl, newK_mk ?_⟩
          have e7 := d6.trans s7.chg (by simp)
          refine ⟨cellsAt_chg s7.chg g2, by rw [← hq2]; exact c2 e7 13 _ rfl, cellsAt_chg s7.chg g1, by rw [← hq1]; exact c1 e7 13 _ rfl, ?_⟩
          refine s7.stLAt 0 rfl x.cells rfl x.one fun w8 s8 => ?_
          have e8 := d6.trans s8.chg (by simp)
          refine ⟨cellsAt_chg s8.chg g2, by rw [← hq2]; exact c2 e8 13 _ rfl, ?_⟩
          refine s8.stLAt 1 rfl [sv x.nm, iv x.d, iv x.b, iv x.wd, .bool x.out, .slice y.pa x.pts.length y.pc] rfl (by rw [← hyc]; exact y.one) fun w9 s9 => ?_
          have cx : ∀ (j : Nat) (v : Value), x.cells[j]? = some v → w9.cell? ⟨_, j, none⟩ = some v := fun j v hv => by rw [s9.boxedAt 0 rfl]; simpa using hv
          have cy : ∀ (j : Nat) (v : Value), [sv x.nm, iv x.d, iv x.b, iv x.wd, .bool x.out, .slice y.pa x.pts.length y.pc][j]? = some v → w9.cell? ⟨_, j, none⟩ = some v := fun j v hv => by rw [s9.boxedAt 1 rfl]; simpa using hv
          refine ⟨fun b w10 => b = false ∧ Chg w6 w10 [], ?_, _, cx 0 _ rfl, _, cy 0 _ rfl, cF (by simp) ⟨_, cx 1 _ rfl, _, cy 1 _ rfl, cF (by simp) ⟨_, cx 2 _ rfl, _, cy 2 _ rfl, cF (by simp) ⟨_, cx 3 _ rfl, _, cy 3 _ rfl, cF (by simp) ⟨_, cx 4 _ rfl, _, cy 4 _ rfl, cF (by simp) ⟨_, _, _, cx 5 _ rfl, _, _, _, cy 5 _ rfl, useC (sameInts_c (rx.chg s9.chg) (ry.chg s9.chg) lx) ?_⟩⟩⟩⟩⟩⟩
          · rintro w10 b ⟨rfl, d10⟩ -
            exact cF rfl ⟨s.bds.length - (i + 1), by omega, i + 1, by rw [iwrap ⟨by omega, by omega⟩]; rfl, by omega, rfl, d6.trans d10 (by simp)⟩
          · rintro v w11 ⟨rfl, d11⟩
            exact ⟨true, rfl, rfl, s9.chg.trans d11 (by simp)⟩
      · exact cF (by simpa using hlt) ⟨rfl, s2.chg.trans d5 (by simp)⟩
  · have b1 : cellsAt w2 ⟨r1, 0, none⟩ 0 [iv n1, iv n2, iv n3, iv n4, iv n5, iv n6, iv n7, iv n8, iv n9, iv n10, iv n11] := cells_of _ 0 fun j v hj => by
      rw [addA2, Nat.zero_add, Nat.zero_add]
      have hlt := (List.getElem?_eq_some_iff.1 hj).1
      match j, hlt, hj with
      | 0, _, hj | 1, _, hj | 2, _, hj | 3, _, hj | 4, _, hj | 5, _, hj | 6, _, hj | 7, _, hj | 8, _, hj | 9, _, hj | 10, _, hj => cases hj; exact c1 z1 _ _ rfl
      | j + 11, hlt, _ => simp at hlt; omega
    have b2 : cellsAt w2 ⟨r2, 0, none⟩ 0 [iv n1, iv n2, iv n3, iv n4, iv n5, iv n6, iv n7, iv n8, iv n9, iv n10, iv n11] := cells_of _ 0 fun j v hj => by
      rw [addA2, Nat.zero_add, Nat.zero_add]
      have hlt := (List.getElem?_eq_some_iff.1 hj).1
      match j, hlt, hj with
      | 0, _, hj | 1, _, hj | 2, _, hj | 3, _, hj | 4, _, hj | 5, _, hj | 6, _, hj | 7, _, hj | 8, _, hj | 9, _, hj | 10, _, hj => cases hj; exact c2 z1 _ _ rfl
      | j + 11, hlt, _ => simp at hlt; omega
    refine ⟨_, _, _, _, _, _, _, _, _, _, _, b1, _, _, _, _, _, _, _, _, _, _, _, b2, cF (by simp) ⟨_, c1 z1 11 _ rfl, _, c2 z1 11 _ rfl, cF (by simp) ⟨_, _, _, c1 z1 12 _ rfl, _, _, _, c2 z1 12 _ rfl, cF (by simp) ⟨_, _, _, c1 z1 13 _ rfl, _, _, _, c2 z1 13 _ rfl, cF (by simp) ⟨_, _, _, c1 z1 14 _ rfl, _, _, _, c2 z1 14 _ rfl, ?_⟩⟩⟩⟩⟩
    refine useC (sameInts_c (h.chg s2.chg).rer (by have := (k.chg s2.chg).rer; rw [e4] at this; exact this) h.l3) ?_
    rintro v w3 ⟨rfl, d3⟩
    exact ⟨true, rfl, rfl, d3⟩

end Go.Proofs.YtdpcgfcabikjmaaGreatDoor

import Derived.Test.YtdpcgfcabikjmaaGreatDoorr5A
namespace Go.Proofs.YtdpcgfcabikjmaaGreatDoor
open Go Go.Vc Go.Sort Go.RowKit

theorem iwrap {n : Int} (h : In n) : IntKind.i64.wrap n = n := by
  obtain ⟨h0, h1⟩ := h
  simp only [IntKind.wrap, IntKind.signed, IntKind.bits]
  simp
  omega

/-- The names of the kinds. -/
def knm : Nat → List UInt8
  | 1 => [115, 97, 108, 101]
  | 2 => [100, 101, 109, 97, 110, 100]
  | 3 => [114, 111, 117, 110, 100]
  | 4 => [115, 116, 111, 112]
  | 5 => [98, 105, 100]
  | 6 => [119, 105, 116, 104, 100, 114, 97, 119]
  | 7 => [100, 105, 115, 113, 117, 97, 108, 105, 102, 121]
  | 8 => [114, 101, 114, 117, 110]
  | 9 => [99, 108, 111, 115, 101]
  | 10 => [100, 101, 99, 105, 100, 101]
  | _ => []

theorem knm_len (k : Nat) : (knm k).length ≤ 10 := by unfold knm; split <;> decide

def knL : List Value := [sv [], sv (knm 1), sv (knm 2), sv (knm 3), sv (knm 4), sv (knm 5), sv (knm 6), sv (knm 7), sv (knm 8), sv (knm 9), sv (knm 10)]

theorem knL_get : ∀ (k : Nat), k ≤ 10 → knL[k]? = some (sv (knm k))
  | 0, _ | 1, _ | 2, _ | 3, _ | 4, _ | 5, _ | 6, _ | 7, _ | 8, _ | 9, _ | 10, _ => rfl
  | k + 11, h => by omega

theorem ename_c (w : World) {k : Nat} (h1 : 1 ≤ k) (h2 : k ≤ 10) : Calls Tryz.prog 20 #[iv k] w (RetC fun r w' => r = sv (knm k) ∧ Chg w w' []) := by
  refine eName_ok ?_
  unfold eName
  refine newK_mk (((St.start w).one.boxL _ 111).stLAt 0 rfl knL rfl (by decide) fun w2 h2' => ⟨fun b w3 => b = false ∧ w3 = w2, ?_, cF (by simp; omega) ⟨by simp; omega, rfl⟩⟩)
  rintro w3 b ⟨rfl, rfl⟩ -
  refine cF rfl ⟨by omega, by omega, bs (knm k), ?_, rfl, h2'.chg⟩
  rw [addA2, h2'.boxedAt 0 rfl]
  have := knL_get k h2
  simpa using this

theorem qname_c (w : World) {k : Nat} (h1 : 1 ≤ k) (h2 : k ≤ 10) : Calls Tryz.prog 24 #[iv k] w (RetC fun r w' => r = sv (knm k) ∧ Chg w w' []) := by
  refine qName_ok ?_
  unfold qName
  refine ⟨fun b w3 => b = false ∧ w3 = w, ?_, cF (by simp; omega) ⟨by simp; omega, rfl⟩⟩
  rintro w3 b ⟨rfl, rfl⟩ -
  refine cF rfl ?_
  refine useC (K := fun r w' => ∃ g, r = .slice (some ⟨g, 0, none⟩) 11 11 ∧ St w3 w' (Sep [boxA g knL.toArray 9, emp])) (qNames_ok (newK_mk ⟨_, rfl, (St.start w3).one.boxL _ 9⟩)) ?_
  rintro _ w4 ⟨g, rfl, h4⟩
  refine ⟨_, _, _, rfl, ?_⟩
  refine ⟨by omega, by omega, bs (knm k), ?_, rfl, h4.chg⟩
  rw [addA2, h4.boxedAt 0 rfl]
  have := knL_get k h2
  simpa using this

/-! What a summary holds. -/
structure Bd where
  nm : List UInt8
  d : Int
  b : Int
  wd : Int
  out : Bool
  pts : List Int
  pa : Option Addr
  pc : Nat

def Bd.cells (x : Bd) : List Value := [sv x.nm, iv x.d, iv x.b, iv x.wd, .bool x.out, .slice x.pa x.pts.length x.pc]

def RdP (w : World) (a : Option Addr) (ps : List (List Int)) : Prop := ∀ (i : Nat) (p : List Int), ps[i]? = some p → p.length = 6 ∧ (∀ n ∈ p, In n) ∧ ∃ q, a = some q ∧ cellsAt w (q.add (i * 6)) 0 (p.map iv)
def RdB (w : World) (a : Option Addr) (l : List Bd) : Prop := ∀ (i : Nat) (b : Bd), l[i]? = some b → (In b.d ∧ In b.b ∧ In b.wd ∧ ∀ n ∈ b.pts, In n) ∧ Rd w b.pa (b.pts.map iv) ∧ ∃ q, a = some q ∧ cellsAt w (q.add (i * 6)) 0 b.cells

theorem cellsAt_chg {w w' : World} {a : Addr} (hc : Chg w w' []) : ∀ {l : List Value} {i : Nat}, cellsAt w a i l → cellsAt w' a i l
  | [], _, _ => trivial
  | _ :: _, _, h => ⟨cell_chg h.1 hc, cellsAt_chg hc h.2⟩

theorem RdP.chg {w w' : World} {a : Option Addr} {ps : List (List Int)} (h : RdP w a ps) (hc : Chg w w' []) : RdP w' a ps := fun i p hi =>
  let ⟨h1, h2, q, h3, h4⟩ := h i p hi
  ⟨h1, h2, q, h3, cellsAt_chg hc h4⟩
theorem RdB.chg {w w' : World} {a : Option Addr} {l : List Bd} (h : RdB w a l) (hc : Chg w w' []) : RdB w' a l := fun i b hi =>
  let ⟨h1, h2, q, h3, h4⟩ := h i b hi
  ⟨h1, h2.chg hc, q, h3, cellsAt_chg hc h4⟩

/-- A summary: eleven counts and 'refused', the three lists. -/
structure Sm where
  cs : List Int
  ref : Int
  a1 : Option Addr
  c1 : Nat
  ps : List (List Int)
  a2 : Option Addr
  c2 : Nat
  bds : List Bd
  a3 : Option Addr
  c3 : Nat
  rer : List Int

structure Sm.In (s : Sm) (w : World) : Prop where
  n11 : s.cs.length = 11
  cs : ∀ n ∈ s.cs, YtdpcgfcabikjmaaGreatDoor.In n
  ref : YtdpcgfcabikjmaaGreatDoor.In s.ref
  ps : RdP w s.a1 s.ps
  bds : RdB w s.a2 s.bds
  rer : Rd w s.a3 (s.rer.map iv)
  reri : ∀ n ∈ s.rer, YtdpcgfcabikjmaaGreatDoor.In n
  l1 : s.ps.length ≤ 9223372036854775807
  l2 : s.bds.length ≤ 9223372036854775807
  l3 : s.rer.length ≤ 9223372036854775807
  lp : ∀ b ∈ s.bds, b.pts.length ≤ 9223372036854775807

theorem Sm.In.chg {s : Sm} {w w' : World} (h : s.In w) (hc : Chg w w' []) : s.In w' := ⟨h.n11, h.cs, h.ref, h.ps.chg hc, h.bds.chg hc, h.rer.chg hc, h.reri, h.l1, h.l2, h.l3, h.lp⟩

def Sm.val (s : Sm) : List Value := s.cs.map iv ++ [iv s.ref, .slice s.a1 s.ps.length s.c1, .slice s.a2 s.bds.length s.c2, .slice s.a3 s.rer.length s.c3]

structure Sm.Few (s : Sm) : Prop where
  l1 : s.ps.length ≤ 40
  l2 : s.bds.length ≤ 40
  l3 : s.rer.length ≤ 40
  nm : ∀ b ∈ s.bds, b.nm.length ≤ 100
  pt : ∀ b ∈ s.bds, b.pts.length ≤ 40

theorem big_c (w : World) (n : Int) : Calls Tryz.prog 13 #[iv n] w (RetC fun r w' => (∃ b, r = .bool b) ∧ w' = w) := by
  refine qBig_ok ?_
  unfold qBig
  by_cases h : n < -1000000000
  · exact cT (by simpa using h) ⟨⟨_, rfl⟩, rfl⟩
  · exact cF (by simpa using h) ⟨⟨_, rfl⟩, rfl⟩

theorem len11 {l : List Int} (h : l.length = 11) : ∃ n1 n2 n3 n4 n5 n6 n7 n8 n9 n10 n11, l = [n1, n2, n3, n4, n5, n6, n7, n8, n9, n10, n11] := by
  match l, h with
  | [a, b, c, d, e, f, g, h, i, j, k], _ => exact ⟨_, _, _, _, _, _, _, _, _, _, _, rfl⟩

theorem len6 {l : List Int} (h : l.length = 6) : ∃ n1 n2 n3 n4 n5 n6, l = [n1, n2, n3, n4, n5, n6] := by
  match l, h with
  | [a, b, c, d, e, f], _ => exact ⟨_, _, _, _, _, _, rfl⟩

theorem cells_get {w : World} {a : Addr} : ∀ {l : List Value} {k : Nat}, cellsAt w a k l → ∀ (j : Nat) (u : Value), l[j]? = some u → w.cell? (a.add (k + j)) = some u
  | [], _, _, j, u, hj => by simp at hj
  | x :: l, k, hc, j, u, hj => by
    cases j with
    | zero => simp at hj; subst hj; exact hc.1
    | succ j =>
      have := cells_get hc.2 j u (by simpa using hj)
      rw [show k + (j + 1) = k + 1 + j by omega]
      exact this

set_option maxHeartbeats 1000000 in
theorem few_c {w : World} {s : Sm} (h : s.In w) : Calls Tryz.prog 5 #[.agg s.val.toArray] w (RetC fun r w' => ∃ b, r = .bool b ∧ (b = true → s.Few) ∧ Chg w w' []) := by
  obtain ⟨n1, n2, n3, n4, n5, n6, n7, n8, n9, n10, n11, he⟩ := len11 h.n11
  unfold Sm.val
  rw [he]
  refine qFew_ok ?_
  unfold qFew
  refine newK_mk ?_
  generalize hw1 : w.alloc _ = w1
  have s1 : St w w1 (Sep [boxA w.heap.size #[iv n1, iv n2, iv n3, iv n4, iv n5, iv n6, iv n7, iv n8, iv n9, iv n10, iv n11, iv s.ref, .slice s.a1 s.ps.length s.c1, .slice s.a2 s.bds.length s.c2, .slice s.a3 s.rer.length s.c3] 31, emp]) := by
    rw [← hw1]; exact (St.start w).one.boxL _ 31
  have cell : ∀ (w2 : World) (j : Nat) (v : Value), Chg w1 w2 [] → (#[iv n1, iv n2, iv n3, iv n4, iv n5, iv n6, iv n7, iv n8, iv n9, iv n10, iv n11, iv s.ref, .slice s.a1 s.ps.length s.c1, .slice s.a2 s.bds.length s.c2, .slice s.a3 s.rer.length s.c3] : Array Value)[j]? = some v → w2.cell? ⟨w.heap.size, j, none⟩ = some v := fun w2 j v hc hv =>
    cell_chg (by rw [s1.boxedAt 0 rfl]; exact hv) hc
  refine ⟨fun b w2 => Chg w1 w2 [] ∧ (b = false → s.ps.length ≤ 40 ∧ s.bds.length ≤ 40 ∧ s.rer.length ≤ 40), ?_, ?_⟩
  · rintro w2 b ⟨hc, hb⟩ -
    cases b with
    | true => exact cT rfl ⟨false, rfl, fun h => (by cases h), s1.chg.trans hc (by simp)⟩
    | false =>
      obtain ⟨q1, q2, q3⟩ := hb rfl
      refine cF rfl ⟨fun n w3 m => ∃ k : Nat, n = k ∧ k ≤ 11 ∧ m = 11 - k ∧ Chg w1 w3 [], ⟨11, 0, rfl, by omega, by omega, hc⟩, ?_⟩
      rintro w3 m n ⟨k, rfl, hk, hm, hc3⟩ -
      by_cases hk10 : (k : Int) ≤ 10
      · have hk11 : k < 11 := by omega
        obtain ⟨x, hx⟩ : ∃ x : Int, (#[iv n1, iv n2, iv n3, iv n4, iv n5, iv n6, iv n7, iv n8, iv n9, iv n10, iv n11, iv s.ref, .slice s.a1 s.ps.length s.c1, .slice s.a2 s.bds.length s.c2, .slice s.a3 s.rer.length s.c3] : Array Value)[k]? = some (iv x) := by
          match k, hk11 with
          | 0, _ | 1, _ | 2, _ | 3, _ | 4, _ | 5, _ | 6, _ | 7, _ | 8, _ | 9, _ | 10, _ => exact ⟨_, rfl⟩
        refine cT (by simpa using hk10) ⟨by omega, by omega, x, ?_, useC (big_c w3 x) ?_⟩
        · rw [addA2]
          have := cell w3 k _ hc3 hx
          simpa using this
        · rintro _ w4 ⟨⟨b, rfl⟩, rfl⟩
          refine ⟨b, rfl, ?_⟩
          cases b with
          | true => exact cT rfl ⟨false, rfl, fun h => (by cases h), s1.chg.trans hc3 (by simp)⟩
          | false => exact cF rfl ⟨10 - k, by omega, k + 1, by rw [iwrap ⟨by omega, by omega⟩]; rfl, by omega, by omega, hc3⟩
      · refine cF (by simpa using hk10) ⟨fun n w5 m => ∃ i : Nat, n = i ∧ i ≤ s.bds.length ∧ m = s.bds.length - i ∧ Chg w1 w5 [] ∧ ∀ j b, j < i → s.bds[j]? = some b → b.nm.length ≤ 100 ∧ b.pts.length ≤ 40, ⟨s.bds.length, 0, rfl, by omega, by omega, hc3, fun j b hj => by omega⟩, ?_⟩
        rintro w5 m n ⟨i, rfl, hi, hm, hc5, hall⟩ -
        refine ⟨_, _, _, cell w5 13 _ hc5 rfl, ?_⟩
        by_cases hlt : (i : Int) < (s.bds.length : Int)
        · have hi' : i < s.bds.length := by omega
          obtain ⟨⟨_, _, _, _⟩, hpts, q, hq, hcl⟩ := (h.chg (s1.chg.trans hc5 (by simp))).bds i s.bds[i] (by simp [hi'])
          refine cT (by simpa using hlt) ⟨_, _, _, cell w5 13 _ hc5 rfl, ?_⟩
          rw [hq]
          refine ⟨by omega, by omega, bs s.bds[i].nm, s.bds[i].d, s.bds[i].b, s.bds[i].wd, s.bds[i].out, s.bds[i].pa, s.bds[i].pts.length, s.bds[i].pc, hcl, ?_⟩
          refine newK_mk (((St.start w5).one.boxL _ 46).stLAt 0 rfl s.bds[i].cells rfl (by intro v hv; simp [Bd.cells] at hv; rcases hv with rfl | rfl | rfl | rfl | rfl | rfl <;> rfl) fun w7 h7 => ?_)
          have c7 : ∀ (w9 : World) (j : Nat) (v : Value), Chg w7 w9 [] → s.bds[i].cells[j]? = some v → w9.cell? ⟨w5.heap.size, j, none⟩ = some v := fun w9 j v hc hv =>
            cell_chg (by rw [h7.boxedAt 0 rfl]; simpa using hv) hc
          have hc7 : Chg w1 w7 [] := hc5.trans h7.chg (by simp)
          refine ⟨fun b w8 => Chg w1 w8 [] ∧ (b = false → s.bds[i].nm.length ≤ 100 ∧ s.bds[i].pts.length ≤ 40), ?_, bs s.bds[i].nm, c7 w7 0 _ (Chg.refl _ _) rfl, ?_⟩
          · rintro w8 b ⟨hc8, hb8⟩ -
            cases b with
            | true => exact cT rfl ⟨false, rfl, fun h => (by cases h), s1.chg.trans hc8 (by simp)⟩
            | false =>
              refine cF rfl ⟨s.bds.length - (i + 1), by omega, i + 1, ?_, by omega, rfl, hc8, fun j b hj hb => ?_⟩
              · have := h.l2
                rw [iwrap ⟨by omega, by omega⟩]; rfl
              · rcases Nat.lt_succ_iff_lt_or_eq.1 hj with hj | rfl
                · exact hall j b hj hb
                · rw [List.getElem?_eq_getElem hi'] at hb
                  cases hb
                  exact hb8 rfl
          · have hsz : (bs s.bds[i].nm).size = s.bds[i].nm.length := by simp [bs, ByteArray.size]
            rw [hsz]
            by_cases hn : ((s.bds[i].nm.length : Nat) : Int) > 100
            · exact cT (by simpa using hn) ⟨hc7, fun h => by cases h⟩
            · refine cF (by simpa using hn) ⟨_, _, _, c7 w7 5 _ (Chg.refl _ _) rfl, ?_⟩
              by_cases hp : ((s.bds[i].pts.length : Nat) : Int) > 40
              · exact cT (by simpa using hp) ⟨hc7, fun h => by cases h⟩
              · have fin : ∀ b : Bool, b = false → s.bds[i].nm.length ≤ 100 ∧ s.bds[i].pts.length ≤ 40 := fun _ _ => ⟨by omega, by omega⟩
                refine cF (by simpa using hp) ⟨_, c7 w7 1 _ (Chg.refl _ _) rfl, useC (big_c _ _) ?_⟩
                rintro _ w9 ⟨⟨b, rfl⟩, rfl⟩
                refine ⟨b, rfl, ?_⟩
                cases b with
                | true => exact cT rfl ⟨hc7, fun h => by cases h⟩
                | false =>
                  refine cF rfl ⟨_, c7 _ 2 _ (Chg.refl _ _) rfl, useC (big_c _ _) ?_⟩
                  rintro _ w10 ⟨⟨b, rfl⟩, rfl⟩
                  refine ⟨b, rfl, ?_⟩
                  cases b with
                  | true => exact cT rfl ⟨hc7, fun h => by cases h⟩
                  | false =>
                    refine cF rfl ⟨_, c7 _ 3 _ (Chg.refl _ _) rfl, useC (big_c _ _) ?_⟩
                    rintro _ w11 ⟨⟨b, rfl⟩, rfl⟩
                    exact ⟨b, rfl, hc7, fin b⟩
        · refine cF (by simpa using hlt) ⟨true, rfl, fun _ => ⟨q1, q2, q3, fun b hb => ?_, fun b hb => ?_⟩, s1.chg.trans hc5 (by simp)⟩
          · obtain ⟨j, hj, rfl⟩ := List.mem_iff_getElem.1 hb
            exact (hall j _ (by omega) (by simp [hj])).1
          · obtain ⟨j, hj, rfl⟩ := List.mem_iff_getElem.1 hb
            exact (hall j _ (by omega) (by simp [hj])).2
  · refine ⟨_, _, _, cell w1 12 _ (Chg.refl _ _) rfl, ?_⟩
    by_cases p1 : ((s.ps.length : Nat) : Int) > 40
    · exact cT (by simpa using p1) ⟨Chg.refl _ _, fun h => by cases h⟩
    · refine cF (by simpa using p1) ⟨_, _, _, cell w1 13 _ (Chg.refl _ _) rfl, ?_⟩
      by_cases p2 : ((s.bds.length : Nat) : Int) > 40
      · exact cT (by simpa using p2) ⟨Chg.refl _ _, fun h => by cases h⟩
      · refine cF (by simpa using p2) ⟨_, _, _, cell w1 14 _ (Chg.refl _ _) rfl, ?_⟩
        by_cases p3 : ((s.rer.length : Nat) : Int) > 40
        · exact cT (by simpa using p3) ⟨Chg.refl _ _, fun h => by cases h⟩
        · refine cF (by simpa using p3) ⟨_, cell w1 11 _ (Chg.refl _ _) rfl, useC (big_c _ _) ?_⟩
          rintro _ w2 ⟨⟨b, rfl⟩, rfl⟩
          exact ⟨b, rfl, Chg.refl _ _, fun _ => ⟨by omega, by omega, by omega⟩⟩

end Go.Proofs.YtdpcgfcabikjmaaGreatDoor

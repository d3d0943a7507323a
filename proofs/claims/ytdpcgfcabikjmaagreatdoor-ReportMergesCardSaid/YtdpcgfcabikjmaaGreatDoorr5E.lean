import Derived.Test.YtdpcgfcabikjmaaGreatDoorr5D
namespace Go.Proofs.YtdpcgfcabikjmaaGreatDoor
open Go Go.Vc Go.Sort Go.RowKit

theorem bs_app (a b : List UInt8) : bs a ++ bs b = bs (a ++ b) := by apply ByteArray.ext; simp [bs]
theorem bs_size (a : List UInt8) : (bs a).size = a.length := by simp [bs, ByteArray.size]
theorem i64le {n : Nat} (h : n ≤ 1000000000) : ((n : Nat) : Int) ≤ IntKind.i64.max := by
  have : IntKind.i64.max = 9223372036854775807 := rfl
  omega

def tl (ns : List Int) : List UInt8 := Lib.joinTail [32] (ns.map Lib.itoa)
theorem tl_snoc {ns : List Int} {j : Nat} {n : Int} (h : ns[j]? = some n) : tl (ns.take (j + 1)) = tl (ns.take j) ++ [32] ++ Lib.itoa n := by
  unfold tl Lib.joinTail
  rw [take_snoc h]
  simp

theorem fK_eq (k : Nat) (n : Int) : fK k n = knm k ++ [32] ++ Lib.itoa n ++ [10] := by simp [fK, lin, Lib.join_cons, Lib.joinTail]
theorem fRf_eq (n : Int) : fRf n = [114, 101, 102, 117, 115, 101, 100, 32] ++ Lib.itoa n ++ [10] := by simp [fRf, lin, Lib.join_cons, Lib.joinTail]
theorem fR_eq (n : Int) : fR n = [114, 101, 115, 101, 116, 32] ++ Lib.itoa n ++ [10] := by simp [fR, lin, Lib.join_cons, Lib.joinTail]
theorem fP_eq (p : List Int) : fP p = [112, 114, 105, 99, 101, 115] ++ tl p ++ [10] := by simp [fP, lin, Lib.join_cons, tl]
theorem fB_eq (x : Bd) : fB x = [98, 105, 100, 100, 101, 114, 32] ++ x.nm ++ [32] ++ Lib.itoa x.d ++ [32] ++ Lib.itoa x.b ++ [32] ++ Lib.itoa x.wd ++ (32 :: io x.out) ++ tl x.pts ++ [10] := by
  simp [fB, lin, Lib.join_cons, Lib.joinTail, tl]

theorem tl_len' {ns : List Int} (h : ∀ n ∈ ns, In n) (hn : ns.length ≤ 40) (j : Nat) : (tl (ns.take j)).length ≤ 1000 := by
  have := tl_len (B := 21) (r := (ns.take j).map Lib.itoa) (fun x hx => by
    obtain ⟨n, hm, rfl⟩ := List.mem_map.1 hx
    exact it_len (h n (List.mem_of_mem_take hm)))
  have h2 : ((ns.take j).map Lib.itoa).length ≤ 40 := by rw [List.length_map, List.length_take]; omega
  have := Nat.mul_le_mul_right 22 h2
  unfold tl
  omega

set_option maxHeartbeats 4000000 in
theorem qformat_c {w : World} {s : Sm} (h : s.In w) (hf : s.Few) : Calls Tryz.prog 9 #[.agg s.val.toArray] w (RetC fun r w' => r = sv (fmt s) ∧ Chg w w' []) := by
  obtain ⟨n1, n2, n3, n4, n5, n6, n7, n8, n9, n10, n11, he⟩ := len11 h.n11
  have hval : s.val = [iv n1, iv n2, iv n3, iv n4, iv n5, iv n6, iv n7, iv n8, iv n9, iv n10, iv n11, iv s.ref, .slice s.a1 s.ps.length s.c1, .slice s.a2 s.bds.length s.c2, .slice s.a3 s.rer.length s.c3] := by
    unfold Sm.val; rw [he]; rfl
  have hcl : s.cs.map iv = [iv n1, iv n2, iv n3, iv n4, iv n5, iv n6, iv n7, iv n8, iv n9, iv n10, iv n11] := by rw [he]; rfl
  rw [hval]
  refine qFormat_ok ?_
  unfold qFormat
  refine newK_mk ?_
  let box : Array Value := #[iv n1, iv n2, iv n3, iv n4, iv n5, iv n6, iv n7, iv n8, iv n9, iv n10, iv n11, iv s.ref, .slice s.a1 s.ps.length s.c1, .slice s.a2 s.bds.length s.c2, .slice s.a3 s.rer.length s.c3]
  have s1 : St w (w.alloc (.cells box 31)) (Sep [boxA w.heap.size box 31, emp]) := (St.start w).one.boxL _ 31
  generalize hr1 : w.heap.size = r1 at s1 ⊢
  generalize hw1 : w.alloc (.cells box 31) = w1 at s1
  have cell : ∀ (w2 : World) (j : Nat) (v : Value), Chg w1 w2 [] → box[j]? = some v → w2.cell? ⟨r1, j, none⟩ = some v := fun w2 j v hc hv =>
    cell_chg (by rw [s1.boxedAt 0 rfl]; exact hv) hc
  have hch : ∀ {w2 : World}, Chg w1 w2 [] → s.In w2 := fun hc => h.chg (s1.chg.trans hc (by simp))
  have hK : ∀ k, (kl s.cs k).length ≤ k * 100 := kl_len h.cs
  have hPp : ∀ p ∈ s.ps, (∀ n ∈ p, In n) ∧ p.length = 6 := fun p hp => by
    obtain ⟨i, hi, rfl⟩ := List.mem_iff_getElem.1 hp
    obtain ⟨q1, q2, _⟩ := h.ps i _ (List.getElem?_eq_getElem hi)
    exact ⟨q2, q1⟩
  have hP : ∀ i, (((s.ps.take i).map fP).flatten).length ≤ 40000 := fun i => by
    have := flat_le (f := fP) (B := 1000) (l := s.ps.take i) (fun p hp => fP_len (hPp p (List.mem_of_mem_take hp)).1 (hPp p (List.mem_of_mem_take hp)).2)
    have h2 : (s.ps.take i).length ≤ 40 := by rw [List.length_take]; have := hf.l1; omega
    have := Nat.mul_le_mul_right 1000 h2
    omega
  have hR : ∀ i, (((s.rer.take i).map fR).flatten).length ≤ 4000 := fun i => by
    have := flat_le (f := fR) (B := 100) (l := s.rer.take i) (fun n hn => fR_len (h.reri n (List.mem_of_mem_take hn)))
    have h2 : (s.rer.take i).length ≤ 40 := by rw [List.length_take]; have := hf.l3; omega
    have := Nat.mul_le_mul_right 100 h2
    omega
  have hBb : ∀ b ∈ s.bds, (In b.d ∧ In b.b ∧ In b.wd ∧ ∀ n ∈ b.pts, In n) := fun b hb => by
    obtain ⟨i, hi, rfl⟩ := List.mem_iff_getElem.1 hb
    exact (h.bds i _ (List.getElem?_eq_getElem hi)).1
  have hB : ∀ i, (((s.bds.take i).map fB).flatten).length ≤ 200000 := fun i => by
    have := flat_le (f := fB) (B := 5000) (l := s.bds.take i) (fun b hb => fB_len (hBb b (List.mem_of_mem_take hb)) (hf.nm b (List.mem_of_mem_take hb)) (hf.pt b (List.mem_of_mem_take hb)))
    have h2 : (s.bds.take i).length ≤ 40 := by rw [List.length_take]; have := hf.l2; omega
    have := Nat.mul_le_mul_right 5000 h2
    omega
  have hRf := fRf_len h.ref
  refine ⟨fun t n w2 m => ∃ k : Nat, n = ((k + 1 : Nat) : Int) ∧ k ≤ 10 ∧ m = 10 - k ∧ t = bs (kl s.cs k) ∧ Chg w1 w2 [], ⟨10, 0, rfl, by omega, by omega, rfl, Chg.refl _ _⟩, ?_⟩
  rintro w2 m t n ⟨k, rfl, hk, hm, rfl, c2⟩ -
  by_cases hk10 : ((k + 1 : Nat) : Int) ≤ 10
  · have hk' : k < 10 := by omega
    have hgx : s.cs[k + 1]? = some (s.cs.getD (k + 1) 0) := by
      have : k + 1 < s.cs.length := by rw [h.n11]; omega
      simp [this]
    have hIx : In (s.cs.getD (k + 1) 0) := h.cs _ (List.mem_of_getElem? hgx)
    have hbx : box[k + 1]? = some (iv (s.cs.getD (k + 1) 0)) := by
      have h1 : (s.cs.map iv)[k + 1]? = some (iv (s.cs.getD (k + 1) 0)) := by rw [List.getElem?_map, hgx]; rfl
      rw [hcl] at h1
      match k, hk', h1 with
      | 0, _, h1 | 1, _, h1 | 2, _, h1 | 3, _, h1 | 4, _, h1 | 5, _, h1 | 6, _, h1 | 7, _, h1 | 8, _, h1 | 9, _, h1 => exact h1
    have cd := c2.trans (Chg.drew w2 []) (by simp)
    have hl1 := hK k
    have hl2 := knm_len (k + 1)
    have hl3 := it_len hIx
    refine cT (by simpa using hk10) ⟨by omega, by omega, s.cs.getD (k + 1) 0, ?_, useC (qname_c w2.drew (k := k + 1) (by omega) (by omega)) ?_⟩
    · rw [addA2, Nat.zero_add, Nat.mul_one]
      exact cell _ (k + 1) _ cd hbx
    rintro _ w3 ⟨rfl, c3⟩
    have cd3 := cd.trans c3 (by simp)
    refine ⟨_, rfl, ?_, i64le (by rw [bs_size, bs_size]; omega), i64le (by rw [bs_app, bs_size, bs_size, List.length_append]; simp; omega), useC (number_c w3 hIx) ?_⟩
    · rw [addA2, Nat.zero_add, Nat.mul_one]
      exact cell _ (k + 1) _ cd3 hbx
    rintro _ w4 ⟨rfl, c4⟩
    refine ⟨_, rfl, ?_, ?_, 10 - (k + 1), by omega, k + 1, ?_, by omega, rfl, ?_, cd3.trans c4 (by simp)⟩
    · exact i64le (by simp only [bs_app, bs_size, List.length_append, List.length_cons, List.length_nil]; omega)
    · exact i64le (by simp only [bs_app, bs_size, List.length_append, List.length_cons, List.length_nil]; omega)
    · rw [iwrap ⟨by omega, by omega⟩]; rfl
    · simp only [bs_app, kl, fK_eq, List.append_assoc]
  · have hke : k = 10 := by omega
    subst hke
    have hK10 := hK 10
    have hl3 := it_len h.ref
    refine cF (by simp) ⟨i64le (by simp only [bs_size, List.length_cons, List.length_nil]; omega), s.ref, cell _ 11 _ c2 rfl, useC (number_c w2 h.ref) ?_⟩
    rintro _ w5 ⟨rfl, c5⟩
    have cd5 := c2.trans c5 (by simp)
    refine ⟨_, rfl, ?_, ?_, ?_⟩
    · exact i64le (by simp only [bs_app, bs_size, List.length_append, List.length_cons, List.length_nil]; omega)
    · exact i64le (by simp only [bs_app, bs_size, List.length_append, List.length_cons, List.length_nil]; omega)
    refine ⟨fun t n w6 m => ∃ i : Nat, n = i ∧ i ≤ s.ps.length ∧ m = s.ps.length - i ∧ t = bs (kl s.cs 10 ++ fRf s.ref ++ ((s.ps.take i).map fP).flatten) ∧ Chg w1 w6 [], ⟨s.ps.length, 0, rfl, by omega, by omega, ?_, cd5⟩, ?_⟩
    · simp only [bs_app, fRf_eq, List.append_assoc, List.take_zero, List.map_nil, List.flatten_nil, List.append_nil]
    rintro w6 m t n ⟨i, rfl, hi, hm, rfl, c6⟩ -
    refine ⟨_, _, _, cell _ 12 _ c6 rfl, ?_⟩
    by_cases hlt : (i : Int) < (s.ps.length : Int)
    · have hi' : i < s.ps.length := by omega
      have hgi : s.ps[i]? = some s.ps[i] := by simp [hi']
      obtain ⟨hIn, h6⟩ := hPp _ (List.mem_of_getElem? hgi)
      have hl4 := hP i
      have htl := tl_len' hIn (by omega)
      refine cT (by simpa using hlt) ⟨i64le (by simp only [bs_size, List.length_append, List.length_cons, List.length_nil]; omega), ?_⟩
      refine ⟨fun t n w7 m => ∃ j : Nat, n = j ∧ j ≤ 6 ∧ m = 6 - j ∧ t = bs (kl s.cs 10 ++ fRf s.ref ++ ((s.ps.take i).map fP).flatten ++ [112, 114, 105, 99, 101, 115] ++ tl (s.ps[i].take j)) ∧ Chg w1 w7 [], ⟨6, 0, rfl, by omega, by omega, ?_, c6⟩, ?_⟩
      · simp only [bs_app, tl, Lib.joinTail, List.take_zero, List.map_nil, List.flatten_nil, List.append_nil]
      rintro w7 m t n ⟨j, rfl, hj, hm', rfl, c7⟩ -
      have htj := htl j
      by_cases hj6 : (j : Int) < 6
      · have hj' : j < 6 := by omega
        have hgx : s.ps[i][j]? = some (s.ps[i].getD j 0) := by simp [h6, hj']
        have hIx : In (s.ps[i].getD j 0) := hIn _ (List.mem_of_getElem? hgx)
        obtain ⟨_, _, q, hq, hc6⟩ := (hch c7).ps i s.ps[i] hgi
        have hcx := cells_get hc6 j (iv (s.ps[i].getD j 0)) (by rw [List.getElem?_map, hgx]; rfl)
        have hl3 := it_len hIx
        refine cT (by simpa using hj6) ⟨i64le (by simp only [bs_size, List.length_append, List.length_cons, List.length_nil]; omega), _, _, _, cell _ 12 _ c7 rfl, ?_⟩
        rw [hq]
        refine ⟨by omega, by omega, by omega, by omega, s.ps[i].getD j 0, by simpa using hcx, useC (number_c w7 hIx) ?_⟩
        rintro _ w8 ⟨rfl, c8⟩
        refine ⟨_, rfl, i64le (by simp only [bs_app, bs_size, List.length_append, List.length_cons, List.length_nil]; omega), 6 - (j + 1), by omega, j + 1, by rw [iwrap ⟨by omega, by omega⟩]; rfl, by omega, rfl, ?_, c7.trans c8 (by simp)⟩
        simp only [bs_app, tl_snoc hgx, List.append_assoc]
      · have hje : j = 6 := by omega
        subst hje
        refine cF (by simp) ⟨i64le (by simp only [bs_size, List.length_append, List.length_cons, List.length_nil]; omega), s.ps.length - (i + 1), by omega, i + 1, ?_, by omega, rfl, ?_, c7⟩
        · have := hf.l1
          rw [iwrap ⟨by omega, by omega⟩]; rfl
        · rw [snoc_flat hgi, fP_eq, List.take_of_length_le (show s.ps[i].length ≤ 6 by omega)]
          simp only [bs_app, List.append_assoc]
    · have hie : i = s.ps.length := by omega
      subst hie
      have hP' := hP s.ps.length
      rw [List.take_length] at hP' ⊢
      refine cF (by simp) ?_
      refine ⟨fun t n w6 m => ∃ i : Nat, n = i ∧ i ≤ s.rer.length ∧ m = s.rer.length - i ∧ t = bs (kl s.cs 10 ++ fRf s.ref ++ (s.ps.map fP).flatten ++ ((s.rer.take i).map fR).flatten) ∧ Chg w1 w6 [], ⟨s.rer.length, 0, rfl, by omega, by omega, by simp, c6⟩, ?_⟩
      rintro w9 m t n ⟨i, rfl, hi, hm, rfl, c9⟩ -
      refine ⟨_, _, _, cell _ 14 _ c9 rfl, ?_⟩
      by_cases hlt2 : (i : Int) < (s.rer.length : Int)
      · have hi' : i < s.rer.length := by omega
        have hgi : s.rer[i]? = some s.rer[i] := by simp [hi']
        obtain ⟨q, hq, hcq⟩ := (hch c9).rer i (iv s.rer[i]) (by rw [List.getElem?_map, hgi]; rfl)
        have hIx := h.reri _ (List.mem_of_getElem? hgi)
        have hl3 := it_len hIx
        have hl4 := hR i
        refine cT (by simpa using hlt2) ⟨i64le (by simp only [bs_size, List.length_append, List.length_cons, List.length_nil]; omega), _, _, _, cell _ 14 _ c9 rfl, ?_⟩
        rw [hq]
        refine ⟨by omega, by omega, s.rer[i], hcq, useC (number_c w9 hIx) ?_⟩
        rintro _ w10 ⟨rfl, c10⟩
        refine ⟨_, rfl, ?_, ?_, s.rer.length - (i + 1), by omega, i + 1, ?_, by omega, rfl, ?_, c9.trans c10 (by simp)⟩
        · exact i64le (by simp only [bs_app, bs_size, List.length_append, List.length_cons, List.length_nil]; omega)
        · exact i64le (by simp only [bs_app, bs_size, List.length_append, List.length_cons, List.length_nil]; omega)
        · have := hf.l3
          rw [iwrap ⟨by omega, by omega⟩]; rfl
        · rw [snoc_flat hgi, fR_eq]
          simp only [bs_app, List.append_assoc]
      · have hie : i = s.rer.length := by omega
        subst hie
        have hR' := hR s.rer.length
        rw [List.take_length] at hR' ⊢
        refine cF (by simp) ?_
        refine ⟨fun t n w6 m => ∃ i : Nat, n = i ∧ i ≤ s.bds.length ∧ m = s.bds.length - i ∧ t = bs (kl s.cs 10 ++ fRf s.ref ++ (s.ps.map fP).flatten ++ (s.rer.map fR).flatten ++ ((s.bds.take i).map fB).flatten) ∧ Chg w1 w6 [], ⟨s.bds.length, 0, rfl, by omega, by omega, by simp, c9⟩, ?_⟩
        rintro w11 m t n ⟨i, rfl, hi, hm, rfl, c11⟩ -
        refine ⟨_, _, _, cell _ 13 _ c11 rfl, ?_⟩
        by_cases hlt3 : (i : Int) < (s.bds.length : Int)
        · have hi' : i < s.bds.length := by omega
          have hgi : s.bds[i]? = some s.bds[i] := by simp [hi']
          obtain ⟨hIb, hRd, q, hq, hcq⟩ := (hch c11).bds i s.bds[i] hgi
          have hmem := List.mem_of_getElem? hgi
          have hnm := hf.nm _ hmem
          have hpt := hf.pt _ hmem
          have hl4 := hB i
          refine cT (by simpa using hlt3) ⟨_, _, _, cell _ 13 _ c11 rfl, ?_⟩
          generalize hx : s.bds[i] = x at *
          have g1 := it_len hIb.1
          have g2 := it_len hIb.2.1
          have g3 := it_len hIb.2.2.1
          have hio : (io x.out).length ≤ 3 := by unfold io; split <;> decide
          have htl := tl_len' hIb.2.2.2 hpt
          rw [hq]
          refine ⟨by omega, by omega, bs x.nm, x.d, x.b, x.wd, x.out, x.pa, x.pts.length, x.pc, hcq, ?_⟩
          refine newK_mk (((St.start w11).one.boxL _ 46).stLAt 0 rfl x.cells rfl x.one fun w13 s13 => ?_)
          have c13 : ∀ (w9 : World) (j : Nat) (v : Value), Chg w13 w9 [] → x.cells[j]? = some v → w9.cell? ⟨w11.heap.size, j, none⟩ = some v := fun w9 j v hc hv =>
            cell_chg (by rw [s13.boxedAt 0 rfl]; simpa using hv) hc
          have cd := Chg.drew w13 []
          refine ⟨i64le (by simp only [bs_size, List.length_append, List.length_cons, List.length_nil]; omega), _, c13 _ 0 _ cd rfl, i64le (by simp only [bs_app, bs_size, List.length_append, List.length_cons, List.length_nil]; omega), i64le (by simp only [bs_app, bs_size, List.length_append, List.length_cons, List.length_nil]; omega), _, c13 _ 1 _ cd rfl, _, c13 _ 2 _ cd rfl, _, c13 _ 3 _ cd rfl, useC (number_c _ hIb.1) ?_⟩
          rintro _ w14 ⟨rfl, e14⟩
          have cd1 := cd.trans e14 (by simp)
          refine ⟨_, rfl, c13 _ 3 _ cd1 rfl, c13 _ 2 _ cd1 rfl, c13 _ 0 _ cd1 rfl, i64le (by simp only [bs_app, bs_size, List.length_append, List.length_cons, List.length_nil]; omega), i64le (by simp only [bs_app, bs_size, List.length_append, List.length_cons, List.length_nil]; omega), useC (number_c _ hIb.2.1) ?_⟩
          rintro _ w15 ⟨rfl, e15⟩
          have cd2 := cd1.trans e15 (by simp)
          refine ⟨_, rfl, c13 _ 3 _ cd2 rfl, c13 _ 0 _ cd2 rfl, i64le (by simp only [bs_app, bs_size, List.length_append, List.length_cons, List.length_nil]; omega), i64le (by simp only [bs_app, bs_size, List.length_append, List.length_cons, List.length_nil]; omega), useC (number_c _ hIb.2.2.1) ?_⟩
          rintro _ w16 ⟨rfl, e16⟩
          have cd3 := cd2.trans e16 (by simp)
          refine ⟨_, rfl, c13 _ 0 _ cd3 rfl, i64le (by simp only [bs_app, bs_size, List.length_append, List.length_cons, List.length_nil]; omega), ?_⟩
          let P0 : List UInt8 := kl s.cs 10 ++ fRf s.ref ++ (s.ps.map fP).flatten ++ (s.rer.map fR).flatten ++ ((s.bds.take i).map fB).flatten
          let H : List UInt8 := P0 ++ ([98, 105, 100, 100, 101, 114, 32] ++ x.nm ++ [32] ++ Lib.itoa x.d ++ [32] ++ Lib.itoa x.b ++ [32] ++ Lib.itoa x.wd ++ (32 :: io x.out))
          have hHl : H.length ≤ 300000 := by simp only [H, P0, List.length_append, List.length_cons, List.length_nil]; omega
          refine ⟨fun t w17 => t = bs H ∧ Chg w13 w17 [], ?_, x.out, c13 _ 4 _ cd3 rfl, ?_⟩
          · rintro w17 t ⟨rfl, c17⟩ -
            refine ⟨fun t n w18 m => ∃ j : Nat, n = j ∧ j ≤ x.pts.length ∧ m = x.pts.length - j ∧ t = bs (H ++ tl (x.pts.take j)) ∧ Chg w13 w18 [], ⟨x.pts.length, 0, rfl, by omega, by omega, by simp [tl, Lib.joinTail], c17⟩, ?_⟩
            rintro w18 m t n ⟨j, rfl, hj, hm', rfl, c18⟩ -
            have htj := htl j
            refine ⟨_, _, _, c13 _ 5 _ c18 rfl, ?_⟩
            by_cases hjl : (j : Int) < (x.pts.length : Int)
            · have hj' : j < x.pts.length := by omega
              have hgx : x.pts[j]? = some x.pts[j] := by simp [hj']
              have hIx : In x.pts[j] := hIb.2.2.2 _ (List.mem_of_getElem? hgx)
              obtain ⟨q4, hq4, hc4⟩ := (hRd.chg (s13.chg.trans c18 (by simp))) j (iv x.pts[j]) (by rw [List.getElem?_map, hgx]; rfl)
              have hl3 := it_len hIx
              refine cT (by simpa using hjl) ⟨i64le (by simp only [bs_size, List.length_append, List.length_cons, List.length_nil]; omega), _, _, _, c13 _ 5 _ c18 rfl, ?_⟩
              rw [hq4]
              refine ⟨by omega, by omega, x.pts[j], hc4, useC (number_c w18 hIx) ?_⟩
              rintro _ w19 ⟨rfl, c19⟩
              refine ⟨_, rfl, i64le (by simp only [bs_app, bs_size, List.length_append, List.length_cons, List.length_nil]; omega), x.pts.length - (j + 1), by omega, j + 1, by rw [iwrap ⟨by omega, by omega⟩]; rfl, by omega, rfl, ?_, c18.trans c19 (by simp)⟩
              simp only [bs_app, tl_snoc hgx, List.append_assoc]
            · have hje : j = x.pts.length := by omega
              subst hje
              rw [List.take_length] at htj ⊢
              refine cF (by simp) ⟨i64le (by simp only [bs_size, List.length_append, List.length_cons, List.length_nil]; omega), s.bds.length - (i + 1), by omega, i + 1, ?_, by omega, rfl, ?_, (c11.trans s13.chg (by simp)).trans c18 (by simp)⟩
              · have := hf.l2
                rw [iwrap ⟨by omega, by omega⟩]; rfl
              · rw [snoc_flat hgi, fB_eq]
                simp only [H, P0, bs_app, List.append_assoc]
          · cases hout : x.out with
            | true =>
              refine cT rfl ⟨i64le (by simp only [bs_app, bs_size, List.length_append, List.length_cons, List.length_nil]; omega), ?_, cd3⟩
              simp only [H, P0, io, hout, bs_app, List.append_assoc, if_true]
            | false =>
              refine cF rfl ⟨i64le (by simp only [bs_app, bs_size, List.length_append, List.length_cons, List.length_nil]; omega), ?_, cd3⟩
              simp only [H, P0, io, hout, bs_app, List.append_assoc]
              rfl
        · have hie : i = s.bds.length := by omega
          subst hie
          rw [List.take_length]
          exact cF (by simp) ⟨rfl, s1.chg.trans c11 (by simp)⟩

end Go.Proofs.YtdpcgfcabikjmaaGreatDoor

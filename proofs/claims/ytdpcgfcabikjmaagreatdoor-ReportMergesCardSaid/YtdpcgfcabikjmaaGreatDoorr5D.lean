import Derived.Test.YtdpcgfcabikjmaaGreatDoorr5C
import Derived.Lib.ItoaLen
namespace Go.Proofs.YtdpcgfcabikjmaaGreatDoor
open Go Go.Vc Go.Sort Go.RowKit

/-! The text of a summary. -/
def fK (k : Nat) (n : Int) : List UInt8 := lin [knm k, Lib.itoa n]
def fRf (n : Int) : List UInt8 := lin [[114, 101, 102, 117, 115, 101, 100], Lib.itoa n]
def fP (p : List Int) : List UInt8 := lin ([112, 114, 105, 99, 101, 115] :: p.map Lib.itoa)
def fR (n : Int) : List UInt8 := lin [[114, 101, 115, 101, 116], Lib.itoa n]
def io (b : Bool) : List UInt8 := if b then [111, 117, 116] else [105, 110]
def fB (x : Bd) : List UInt8 := lin ([98, 105, 100, 100, 101, 114] :: x.nm :: Lib.itoa x.d :: Lib.itoa x.b :: Lib.itoa x.wd :: io x.out :: x.pts.map Lib.itoa)
def kl (cs : List Int) : Nat → List UInt8
  | 0 => []
  | k + 1 => kl cs k ++ fK (k + 1) (cs.getD (k + 1) 0)

def fmt (s : Sm) : List UInt8 := kl s.cs 10 ++ fRf s.ref ++ (s.ps.map fP).flatten ++ (s.rer.map fR).flatten ++ (s.bds.map fB).flatten

theorem tl_len {B : Nat} : ∀ {r : List (List UInt8)}, (∀ x ∈ r, x.length ≤ B) → (Lib.joinTail [32] r).length ≤ r.length * (B + 1)
  | [], _ => by simp [Lib.joinTail]
  | x :: r, h => by
    have h1 := h x (List.mem_cons_self ..)
    have h2 := tl_len (r := r) fun y hy => h y (List.mem_cons_of_mem _ hy)
    simp only [Lib.joinTail, List.map_cons, List.flatten_cons, List.length_append, List.length_cons, List.length_nil] at h2 ⊢
    rw [Nat.add_mul]
    omega

theorem join_len {B : Nat} {r : List (List UInt8)} (h : ∀ x ∈ r, x.length ≤ B) : (Lib.join r [32]).length ≤ r.length * (B + 1) := by
  cases r with
  | nil => simp [Lib.join_nil]
  | cons x r =>
    rw [Lib.join_cons, List.length_append]
    have h1 := h x (List.mem_cons_self ..)
    have h2 := tl_len (r := r) fun y hy => h y (List.mem_cons_of_mem _ hy)
    simp only [List.length_cons, Nat.add_mul, Nat.one_mul] at h2 ⊢
    omega

theorem lin_len {B : Nat} {r : List (List UInt8)} (h : ∀ x ∈ r, x.length ≤ B) : (lin r).length ≤ r.length * (B + 1) + 1 := by
  unfold lin
  have := join_len h
  simp
  exact this

theorem flat_le {α : Type} {f : α → List UInt8} {B : Nat} : ∀ {l : List α}, (∀ x ∈ l, (f x).length ≤ B) → ((l.map f).flatten).length ≤ l.length * B
  | [], _ => by simp
  | x :: l, h => by
    have h1 := h x (List.mem_cons_self ..)
    have h2 := flat_le (l := l) fun y hy => h y (List.mem_cons_of_mem _ hy)
    simp only [List.map_cons, List.flatten_cons, List.length_append, List.length_cons, Nat.add_mul, Nat.one_mul]
    omega

theorem it_len {n : Int} (h : In n) : (Lib.itoa n).length ≤ 21 := Lib.itoa_length_le n h.1 h.2

theorem fK_len {k : Nat} {n : Int} (h : In n) : (fK k n).length ≤ 100 := by
  have := lin_len (B := 30) (r := [knm k, Lib.itoa n]) (by
    intro x hx; simp at hx; rcases hx with rfl | rfl
    · have := knm_len k; omega
    · have := it_len h; omega)
  simp at this; unfold fK; omega

theorem fRf_len {n : Int} (h : In n) : (fRf n).length ≤ 100 := by
  have := lin_len (B := 30) (r := [[114, 101, 102, 117, 115, 101, 100], Lib.itoa n]) (by
    intro x hx; simp at hx; rcases hx with rfl | rfl
    · decide
    · have := it_len h; omega)
  simp at this; unfold fRf; omega

theorem fR_len {n : Int} (h : In n) : (fR n).length ≤ 100 := by
  have := lin_len (B := 30) (r := [[114, 101, 115, 101, 116], Lib.itoa n]) (by
    intro x hx; simp at hx; rcases hx with rfl | rfl
    · decide
    · have := it_len h; omega)
  simp at this; unfold fR; omega

theorem fP_words {p : List Int} (h : ∀ n ∈ p, In n) : ∀ x ∈ ([112, 114, 105, 99, 101, 115] :: p.map Lib.itoa : List (List UInt8)), x.length ≤ 30 := by
  intro x hx
  rcases List.mem_cons.1 hx with rfl | hx
  · decide
  · obtain ⟨n, hn, rfl⟩ := List.mem_map.1 hx
    have := it_len (h n hn); omega

theorem fP_len {p : List Int} (h : ∀ n ∈ p, In n) (hp : p.length = 6) : (fP p).length ≤ 1000 := by
  have := lin_len (fP_words h)
  simp [hp] at this; unfold fP; omega

theorem fB_words {x : Bd} (h : In x.d ∧ In x.b ∧ In x.wd ∧ ∀ n ∈ x.pts, In n) (hn : x.nm.length ≤ 100) : ∀ y ∈ ([98, 105, 100, 100, 101, 114] :: x.nm :: Lib.itoa x.d :: Lib.itoa x.b :: Lib.itoa x.wd :: io x.out :: x.pts.map Lib.itoa : List (List UInt8)), y.length ≤ 100 := by
  obtain ⟨h1, h2, h3, h4⟩ := h
  intro y hy
  simp only [List.mem_cons] at hy
  rcases hy with rfl | rfl | rfl | rfl | rfl | rfl | hy
  · decide
  · exact hn
  · have := it_len h1; omega
  · have := it_len h2; omega
  · have := it_len h3; omega
  · unfold io; split <;> decide
  · obtain ⟨n, hn, rfl⟩ := List.mem_map.1 hy
    have := it_len (h4 n hn); omega

theorem fB_len {x : Bd} (h : In x.d ∧ In x.b ∧ In x.wd ∧ ∀ n ∈ x.pts, In n) (hn : x.nm.length ≤ 100) (hp : x.pts.length ≤ 40) : (fB x).length ≤ 5000 := by
  have := lin_len (fB_words h hn)
  simp at this; unfold fB; omega

theorem kl_len {cs : List Int} (h : ∀ n ∈ cs, In n) : ∀ k, (kl cs k).length ≤ k * 100
  | 0 => by simp [kl]
  | k + 1 => by
    have h1 := kl_len h k
    have h2 : (fK (k + 1) (cs.getD (k + 1) 0)).length ≤ 100 := fK_len (by
      rcases Nat.lt_or_ge (k + 1) cs.length with hl | hl
      · have : cs.getD (k + 1) 0 = cs[k + 1] := by simp [hl]
        rw [this]; exact h _ (List.getElem_mem hl)
      · have : cs.getD (k + 1) 0 = 0 := by simp [List.getElem?_eq_none hl]
        rw [this]; exact ⟨by decide, by decide⟩)
    simp only [kl, List.length_append]
    omega

theorem sl67 : SlT Tryz.prog 67 9 (.string ⟨#[]⟩) 1 16 := SlT.mk' Tryz.underlying67 (by kernel_rfl) rfl (by decide)

/-- Words in a block of their own, made a line. -/
theorem lbox_c {w w1 : World} {g : Nat} {xs : List (List UInt8)} {n : Nat} (h : St w w1 (Sep [boxA g (xs.map sv).toArray 9, emp])) (hn : n = xs.length) (hb : ∀ x ∈ xs, x.length ≤ 1000) (hN : xs.length ≤ 1000) :
    Calls Tryz.prog 19 #[.slice (some ⟨g, 0, none⟩) n n] w1 (RetC fun r w' => r = sv (lin xs) ∧ Chg w w' []) := by
  subst hn
  have hlt : g < w1.heap.size := by
    obtain ⟨F, hF⟩ := (h.out 0 rfl).first.get
    exact lt_of_heap hF.1
  have hj := join_len hb
  have : xs.length * 1001 ≤ 1000 * 1001 := Nat.mul_le_mul_right _ hN
  exact useC (line_c (w := w1) (g := g) (o := 0) (fun j x hx => by
    rw [Nat.zero_add, h.boxedAt 0 rfl]
    simp [hx]) hlt (Nat.le_refl _) (by omega) (by omega)) fun v w' ⟨hv, hc⟩ => ⟨v, rfl, hv, h.chg.trans hc (by simp)⟩

/-- Words in a row, made a line. -/
theorem lrow_c {w w1 : World} {a : Option Addr} {c n : Nat} {xs : List (List UInt8)} (h : St w w1 (Sep [rowA 9 1 (.slice a n c) n (xs.map sv), emp])) (hn : n = xs.length) (h0 : 0 < n) (hb : ∀ x ∈ xs, x.length ≤ 1000) (hN : xs.length ≤ 1000) :
    Calls Tryz.prog 19 #[.slice a n c] w1 (RetC fun r w' => r = sv (lin xs) ∧ Chg w w' []) := by
  subst hn
  have own := h.rowAt 0 rfl
  obtain ⟨g, rfl, hget⟩ := row_get own h0
  have hinf := row_info own
  have hlt : g < w1.heap.size := World.block_lt_of_cell? w1 ⟨g, 0, none⟩ (hget 0 (sv xs[0]) (by simp [h0]))
  have hj := join_len hb
  have : xs.length * 1001 ≤ 1000 * 1001 := Nat.mul_le_mul_right _ hN
  exact useC (line_c (w := w1) (g := g) (o := 0) (fun j x hx => by
    rw [Nat.zero_add]
    exact hget j (sv x) (by simp [hx])) hlt hinf.1 (by omega) (by omega)) fun v w' ⟨hv, hc⟩ => ⟨v, rfl, hv, h.chg.trans hc (by simp)⟩

theorem Fw.cell {w0 w : World} {r1 b : Nat} {cs : Array Value} {T : TypeId} {l : List UInt8} (h : Fw w0 r1 b (.cells cs T (0, 0)) l w) (j : Nat) : w.cell? ⟨r1, j, none⟩ = cs[j]? := by
  rw [cell_blk, h.box, getC_cells]

theorem snoc_flat {α : Type} {f : α → List UInt8} {l : List α} {i : Nat} {a : α} (h : l[i]? = some a) : ((l.take (i + 1)).map f).flatten = ((l.take i).map f).flatten ++ f a := by
  rw [take_snoc h, List.map_append, List.flatten_append]
  simp

set_option maxHeartbeats 4000000 in
theorem format_c {w : World} {s : Sm} (h : s.In w) (hf : s.Few) (ht : Tab w) : Calls Tryz.prog 8 #[.agg s.val.toArray] w (RetC fun r w' => r = sv (fmt s) ∧ Chg w w' []) := by
  obtain ⟨n1, n2, n3, n4, n5, n6, n7, n8, n9, n10, n11, he⟩ := len11 h.n11
  have hval : s.val = [iv n1, iv n2, iv n3, iv n4, iv n5, iv n6, iv n7, iv n8, iv n9, iv n10, iv n11, iv s.ref, .slice s.a1 s.ps.length s.c1, .slice s.a2 s.bds.length s.c2, .slice s.a3 s.rer.length s.c3] := by
    unfold Sm.val; rw [he]; rfl
  have hcl : s.cs.map iv = [iv n1, iv n2, iv n3, iv n4, iv n5, iv n6, iv n7, iv n8, iv n9, iv n10, iv n11] := by rw [he]; rfl
  rw [hval]
  refine rFormat_ok ?_
  unfold rFormat
  refine newK_mk (newK_mk ?_)
  let box : Array Value := #[iv n1, iv n2, iv n3, iv n4, iv n5, iv n6, iv n7, iv n8, iv n9, iv n10, iv n11, iv s.ref, .slice s.a1 s.ps.length s.c1, .slice s.a2 s.bds.length s.c2, .slice s.a3 s.rer.length s.c3]
  have f2 : Fw w w.heap.size (w.alloc (.cells box 27)).heap.size (.cells box 27 (0, 0)) [] ((w.alloc (.cells box 27)).alloc (.cells #[.pointer none, .slice none 0 0] 58)) :=
    ⟨(Chg.new w _ []).trans (Chg.new _ _ []) (by simp), by rw [heap_new, if_neg (by simp)]; rw [heap_new, if_pos rfl], Bl.new _, by simp, by simp⟩
  generalize hr1 : w.heap.size = r1 at f2 ⊢
  generalize hr2 : (w.alloc (.cells box 27)).heap.size = r2 at f2
  have hK : ∀ k, (kl s.cs k).length ≤ k * 100 := kl_len h.cs
  have hPp : ∀ p ∈ s.ps, (∀ n ∈ p, In n) ∧ p.length = 6 := fun p hp => by
    obtain ⟨i, hi, rfl⟩ := List.mem_iff_getElem.1 hp
    obtain ⟨q1, q2, _⟩ := h.ps i _ (List.getElem?_eq_getElem hi)
    exact ⟨q2, q1⟩
  have hP : ∀ i, (((s.ps.take i).map fP).flatten).length ≤ 40000 := fun i => by
    have := flat_le (f := fP) (B := 1000) (l := s.ps.take i) (fun p hp => fP_len (hPp p (List.mem_of_mem_take hp)).1 (hPp p (List.mem_of_mem_take hp)).2)
    have h2 : (s.ps.take i).length ≤ 40 := by rw [List.length_take]; have := hf.l1; omega
    have := Nat.mul_le_mul_right 1000 h2
    omega
  have hR : ∀ i, (((s.rer.take i).map fR).flatten).length ≤ 4000 := fun i => by
    have := flat_le (f := fR) (B := 100) (l := s.rer.take i) (fun n hn => fR_len (h.reri n (List.mem_of_mem_take hn)))
    have h2 : (s.rer.take i).length ≤ 40 := by rw [List.length_take]; have := hf.l3; omega
    have := Nat.mul_le_mul_right 100 h2
    omega
  have hBb : ∀ b ∈ s.bds, (In b.d ∧ In b.b ∧ In b.wd ∧ ∀ n ∈ b.pts, In n) := fun b hb => by
    obtain ⟨i, hi, rfl⟩ := List.mem_iff_getElem.1 hb
    exact (h.bds i _ (List.getElem?_eq_getElem hi)).1
  have hB : ∀ i, (((s.bds.take i).map fB).flatten).length ≤ 200000 := fun i => by
    have := flat_le (f := fB) (B := 5000) (l := s.bds.take i) (fun b hb => fB_len (hBb b (List.mem_of_mem_take hb)) (hf.nm b (List.mem_of_mem_take hb)) (hf.pt b (List.mem_of_mem_take hb)))
    have h2 : (s.bds.take i).length ≤ 40 := by rw [List.length_take]; have := hf.l2; omega
    have := Nat.mul_le_mul_right 5000 h2
    omega
  have hRf := fRf_len h.ref
  refine ⟨fun n w3 m => ∃ k : Nat, n = k ∧ k ≤ 10 ∧ m = 10 - k ∧ Fw w r1 r2 (.cells box 27 (0, 0)) (kl s.cs k) w3, ⟨10, 0, rfl, by omega, by omega, f2⟩, ?_⟩
  rintro w3 m n ⟨k, rfl, hk, hm, f3⟩ -
  by_cases hk10 : (k : Int) < 10
  · have hk' : k < 10 := by omega
    have hwr : IntKind.i64.wrap ((k : Int) + 1) = ((k + 1 : Nat) : Int) := by rw [iwrap ⟨by omega, by omega⟩]; rfl
    have hgx : s.cs[k + 1]? = some (s.cs.getD (k + 1) 0) := by
      have : k + 1 < s.cs.length := by rw [h.n11]; omega
      simp [this]
    have hIx : In (s.cs.getD (k + 1) 0) := h.cs _ (List.mem_of_getElem? hgx)
    have hbx : box[k + 1]? = some (iv (s.cs.getD (k + 1) 0)) := by
      have h1 : (s.cs.map iv)[k + 1]? = some (iv (s.cs.getD (k + 1) 0)) := by rw [List.getElem?_map, hgx]; rfl
      rw [hcl] at h1
      match k, hk', h1 with
      | 0, _, h1 | 1, _, h1 | 2, _, h1 | 3, _, h1 | 4, _, h1 | 5, _, h1 | 6, _, h1 | 7, _, h1 | 8, _, h1 | 9, _, h1 => exact h1
    have f3d := f3.to (Chg.drew w3 [])
    rw [hwr]
    refine cT (by simpa using hk10) ⟨by omega, by omega, s.cs.getD (k + 1) 0, ?_, useC (ename_c w3.drew (k := k + 1) (by omega) (by omega)) ?_⟩
    · rw [addA2, Nat.zero_add, Nat.mul_one]
      exact (f3d.cell (k + 1)).trans hbx
    rintro _ w4 ⟨rfl, c4⟩
    have f4 := f3d.to c4
    refine ⟨_, rfl, ?_, useC (itoa_c (ht.chg f4.chg) hIx) ?_⟩
    · rw [addA2, Nat.zero_add, Nat.mul_one]
      exact (f4.cell (k + 1)).trans hbx
    rintro _ w5 ⟨rfl, c5⟩
    have f5 := f4.to c5
    have s6 := (St.start w5).one.boxL (([knm (k + 1), Lib.itoa (s.cs.getD (k + 1) 0)] : List (List UInt8)).map sv).toArray 9
    refine ⟨_, rfl, newK_mk (useC (lbox_c s6 rfl ?_ (by simp)) ?_)⟩
    · intro x hx; simp at hx; rcases hx with rfl | rfl
      · have := knm_len (k + 1); omega
      · have := it_len hIx; simp at this ⊢; omega
    rintro _ w7 ⟨rfl, c7⟩
    have hl1 := hK k
    have hl2 := fK_len (k := k + 1) hIx
    refine ⟨_, rfl, useC (write_c (f5.to c7) (s := fK (k + 1) (s.cs.getD (k + 1) 0)) (by omega)) ?_⟩
    rintro _ w8 ⟨⟨n', v', rfl⟩, f8⟩
    exact ⟨n', v', rfl, 10 - (k + 1), by omega, k + 1, rfl, by omega, rfl, f8⟩
  · have hke : k = 10 := by omega
    subst hke
    refine cF (by simp) ⟨s.ref, (f3.cell 11).trans rfl, useC (itoa_c (ht.chg f3.chg) h.ref) ?_⟩
    rintro _ w9 ⟨rfl, c9⟩
    have s10 := (St.start w9).one.boxL (([[114, 101, 102, 117, 115, 101, 100], Lib.itoa s.ref] : List (List UInt8)).map sv).toArray 9
    refine ⟨_, rfl, newK_mk (useC (lbox_c s10 rfl ?_ (by simp)) ?_)⟩
    · intro x hx; simp at hx; rcases hx with rfl | rfl
      · decide
      · have := it_len h.ref; omega
    rintro _ w11 ⟨rfl, c11⟩
    have hK10 := hK 10
    refine ⟨_, rfl, useC (write_c ((f3.to c9).to c11) (s := fRf s.ref) (by omega)) ?_⟩
    rintro _ w12 ⟨⟨n', v', rfl⟩, f12⟩
    refine ⟨n', v', rfl, _, _, _, (f12.cell 12).trans rfl, ?_⟩
    refine ⟨fun n w13 m => ∃ i : Nat, n = i ∧ i ≤ s.ps.length ∧ m = s.ps.length - i ∧ Fw w r1 r2 (.cells box 27 (0, 0)) (kl s.cs 10 ++ fRf s.ref ++ ((s.ps.take i).map fP).flatten) w13, ⟨s.ps.length, 0, rfl, by omega, by omega, by simpa using f12⟩, ?_⟩
    rintro w13 m n ⟨i, rfl, hi, hm, f13⟩ -
    by_cases hlt : (i : Int) < (s.ps.length : Int)
    · have hi' : i < s.ps.length := by omega
      have hgi : s.ps[i]? = some s.ps[i] := by simp [hi']
      obtain ⟨h6, hIn, q, hq, hc6⟩ := (h.chg f13.chg).ps i s.ps[i] hgi
      obtain ⟨p1, p2, p3, p4, p5, p6, hp6⟩ := len6 h6
      have hc6' : cellsAt w13 (q.add (i * 6)) 0 [iv p1, iv p2, iv p3, iv p4, iv p5, iv p6] := by rw [hp6] at hc6; exact hc6
      refine cT (by simpa using hlt) ?_
      rw [hq]
      refine ⟨by omega, by omega, p1, p2, p3, p4, p5, p6, hc6', ?_⟩
      refine newK_mk (((St.start w13).one.boxL _ 66).stLAt 0 rfl _ rfl (by intro v hv; simp at hv; rcases hv with rfl | rfl | rfl | rfl | rfl | rfl <;> rfl) fun w15 s15 => newK_mk ?_)
      have s16 := s15.boxL #[sv [112, 114, 105, 99, 101, 115]] 9
      refine ⟨p1, p2, p3, p4, p5, p6, s16.cellsIn 1 rfl, ?_⟩
      have r16 : St w13 (w15.alloc (.cells #[sv [112, 114, 105, 99, 101, 115]] 9)) (Sep [rowA 9 1 (.slice (some ⟨w15.heap.size, 0, none⟩) 1 1) 1 [sv [112, 114, 105, 99, 101, 115]], emp]) :=
        have ra : St w13 (w15.alloc (.cells #[sv [112, 114, 105, 99, 101, 115]] 9)) (Sep [rowA 9 1 (.slice (some ⟨w15.heap.size, 0, none⟩) 1 1) 1 [sv [112, 114, 105, 99, 101, 115]], boxA w13.heap.size #[iv p1, iv p2, iv p3, iv p4, iv p5, iv p6] 66, emp]) := St.weak s16 (Weak.left (boxRow rfl (by decide)))
        ra.picks [0, 2]
      let W : List (List UInt8) := [112, 114, 105, 99, 101, 115] :: s.ps[i].map Lib.itoa
      have hWl : W.length = 7 := by simp [W, h6]
      have hWb : ∀ x ∈ W, x.length ≤ 30 := fP_words hIn
      refine ⟨fun a l c n w17 m => ∃ j : Nat, n = j ∧ j ≤ 6 ∧ m = 6 - j ∧ l = j + 1 ∧ St w13 w17 (Sep [rowA 9 1 (.slice a l c) l ((W.take (j + 1)).map sv), emp]), ⟨6, 0, rfl, by omega, by omega, rfl, r16⟩, ?_⟩
      rintro w17 m a l c n ⟨j, rfl, hj, hm', rfl, s17⟩ -
      by_cases hj6 : (j : Int) < 6
      · have hj' : j < 6 := by omega
        have hgx : s.ps[i][j]? = some (s.ps[i].getD j 0) := by simp [h6, hj']
        have hIx : In (s.ps[i].getD j 0) := hIn _ (List.mem_of_getElem? hgx)
        have hax : (#[iv p1, iv p2, iv p3, iv p4, iv p5, iv p6] : Array Value)[j]? = some (iv (s.ps[i].getD j 0)) := by
          have h1 : (s.ps[i].map iv)[j]? = some (iv (s.ps[i].getD j 0)) := by rw [List.getElem?_map, hgx]; rfl
          rw [hp6] at h1 ⊢
          match j, hj', h1 with
          | 0, _, h1 | 1, _, h1 | 2, _, h1 | 3, _, h1 | 4, _, h1 | 5, _, h1 => exact h1
        refine cT (by simpa using hj6) ⟨by omega, by omega, s.ps[i].getD j 0, by simpa using hax, useC (fint_c (ht.chg (f13.chg.trans s17.chg (by simp))) hIx) ?_⟩
        rintro _ w18 ⟨rfl, c18⟩
        refine ⟨_, rfl, ?_⟩
        refine app1_st sl67 (s17.quiet c18) (news := [sv (Lib.itoa (s.ps[i].getD j 0))]) rfl (by simp [Value.oneCell']) (by omega) (by omega) (fun a4 c4 w20 s20 => ?_) rfl
        have hW : W[j + 1]? = some (Lib.itoa (s.ps[i].getD j 0)) := by simp only [W, List.getElem?_cons_succ, List.getElem?_map, hgx]; rfl
        have e : (W.take (j + 1 + 1)).map sv = (W.take (j + 1)).map sv ++ [sv (Lib.itoa (s.ps[i].getD j 0))] := by rw [take_snoc hW, List.map_append]; rfl
        refine ⟨6 - (j + 1), by omega, j + 1, by rw [iwrap ⟨by omega, by omega⟩]; rfl, by omega, rfl, rfl, ?_⟩
        rw [e]
        exact s20
      · have hje : j = 6 := by omega
        subst hje
        have hWt : W.take (6 + 1) = W := List.take_of_length_le (by rw [hWl]; exact Nat.le_refl _)
        rw [hWt] at s17
        refine cF (by simp) (useC (lrow_c s17 (by rw [hWl]) (by omega) (fun x hx => by have := hWb x hx; omega) (by omega)) ?_)
        rintro _ w21 ⟨rfl, c21⟩
        have hl := hP i
        have hl2 := fP_len hIn h6
        refine ⟨_, rfl, useC (write_c (f13.to c21) (s := fP s.ps[i]) (by simp only [List.length_append]; omega)) ?_⟩
        rintro _ w22 ⟨⟨n', v', rfl⟩, f22⟩
        refine ⟨n', v', rfl, s.ps.length - (i + 1), by omega, i + 1, ?_, by omega, rfl, ?_⟩
        · have := hf.l1
          rw [iwrap ⟨by omega, by omega⟩]; rfl
        · rw [snoc_flat hgi, ← List.append_assoc]
          exact f22
    · have hie : i = s.ps.length := by omega
      subst hie
      rw [List.take_length] at f13
      have hP' := hP s.ps.length
      rw [List.take_length] at hP'
      refine cF (by simp) ⟨_, _, _, (f13.cell 14).trans rfl, ?_⟩
      refine ⟨fun n w13 m => ∃ i : Nat, n = i ∧ i ≤ s.rer.length ∧ m = s.rer.length - i ∧ Fw w r1 r2 (.cells box 27 (0, 0)) (kl s.cs 10 ++ fRf s.ref ++ (s.ps.map fP).flatten ++ ((s.rer.take i).map fR).flatten) w13, ⟨s.rer.length, 0, rfl, by omega, by omega, by simpa using f13⟩, ?_⟩
      rintro w23 m n ⟨i, rfl, hi, hm, f23⟩ -
      by_cases hlt2 : (i : Int) < (s.rer.length : Int)
      · have hi' : i < s.rer.length := by omega
        have hgi : s.rer[i]? = some s.rer[i] := by simp [hi']
        obtain ⟨q, hq, hcq⟩ := (h.chg f23.chg).rer i (iv s.rer[i]) (by rw [List.getElem?_map, hgi]; rfl)
        have hIx := h.reri _ (List.mem_of_getElem? hgi)
        refine cT (by simpa using hlt2) ?_
        rw [hq]
        refine ⟨by omega, by omega, s.rer[i], hcq, useC (itoa_c (ht.chg f23.chg) hIx) ?_⟩
        rintro _ w24 ⟨rfl, c24⟩
        have s25 := (St.start w24).one.boxL (([[114, 101, 115, 101, 116], Lib.itoa s.rer[i]] : List (List UInt8)).map sv).toArray 9
        refine ⟨_, rfl, newK_mk (useC (lbox_c s25 rfl ?_ (by simp)) ?_)⟩
        · intro x hx; simp at hx; rcases hx with rfl | rfl
          · decide
          · have := it_len hIx; omega
        rintro _ w26 ⟨rfl, c26⟩
        have hl := hR i
        have hl2 := fR_len hIx
        refine ⟨_, rfl, useC (write_c ((f23.to c24).to c26) (s := fR s.rer[i]) (by simp only [List.length_append]; omega)) ?_⟩
        rintro _ w27 ⟨⟨n', v', rfl⟩, f27⟩
        refine ⟨n', v', rfl, s.rer.length - (i + 1), by omega, i + 1, ?_, by omega, rfl, ?_⟩
        · have := hf.l3
          rw [iwrap ⟨by omega, by omega⟩]; rfl
        · rw [snoc_flat hgi, ← List.append_assoc]
          exact f27
      · have hie : i = s.rer.length := by omega
        subst hie
        rw [List.take_length] at f23
        have hR' := hR s.rer.length
        rw [List.take_length] at hR'
        refine cF (by simp) ⟨_, _, _, (f23.cell 13).trans rfl, ?_⟩
        refine ⟨fun n w13 m => ∃ i : Nat, n = i ∧ i ≤ s.bds.length ∧ m = s.bds.length - i ∧ Fw w r1 r2 (.cells box 27 (0, 0)) (kl s.cs 10 ++ fRf s.ref ++ (s.ps.map fP).flatten ++ (s.rer.map fR).flatten ++ ((s.bds.take i).map fB).flatten) w13, ⟨s.bds.length, 0, rfl, by omega, by omega, by simpa using f23⟩, ?_⟩
        rintro w28 m n ⟨i, rfl, hi, hm, f28⟩ -
        by_cases hlt3 : (i : Int) < (s.bds.length : Int)
        · have hi' : i < s.bds.length := by omega
          have hgi : s.bds[i]? = some s.bds[i] := by simp [hi']
          obtain ⟨hIb, hRd, q, hq, hcq⟩ := (h.chg f28.chg).bds i s.bds[i] hgi
          have hmem := List.mem_of_getElem? hgi
          have hnm := hf.nm _ hmem
          have hpt := hf.pt _ hmem
          generalize hx : s.bds[i] = x at *
          refine cT (by simpa using hlt3) ?_
          rw [hq]
          refine ⟨by omega, by omega, bs x.nm, x.d, x.b, x.wd, x.out, x.pa, x.pts.length, x.pc, hcq, ?_⟩
          refine newK_mk (((St.start w28).one.boxL _ 47).stLAt 0 rfl x.cells rfl x.one fun w30 s30 => ?_)
          have c30 : ∀ (w9 : World) (j : Nat) (v : Value), Chg w30 w9 [] → x.cells[j]? = some v → w9.cell? ⟨w28.heap.size, j, none⟩ = some v := fun w9 j v hc hv =>
            cell_chg (by rw [s30.boxedAt 0 rfl]; simpa using hv) hc
          have cd := Chg.drew w30 []
          have f30 := f28.to s30.chg
          refine ⟨_, c30 _ 0 _ cd rfl, _, c30 _ 1 _ cd rfl, _, c30 _ 2 _ cd rfl, _, c30 _ 3 _ cd rfl, useC (itoa_c (ht.chg (f30.to cd).chg) hIb.1) ?_⟩
          rintro _ w31 ⟨rfl, c31⟩
          have cd1 := cd.trans c31 (by simp)
          refine ⟨_, rfl, c30 _ 3 _ cd1 rfl, c30 _ 2 _ cd1 rfl, c30 _ 0 _ cd1 rfl, useC (itoa_c (ht.chg (f30.to cd1).chg) hIb.2.1) ?_⟩
          rintro _ w32 ⟨rfl, c32⟩
          have cd2 := cd1.trans c32 (by simp)
          refine ⟨_, rfl, c30 _ 3 _ cd2 rfl, c30 _ 0 _ cd2 rfl, useC (itoa_c (ht.chg (f30.to cd2).chg) hIb.2.2.1) ?_⟩
          rintro _ w33 ⟨rfl, c33⟩
          have cd3 := cd2.trans c33 (by simp)
          refine ⟨_, rfl, c30 _ 0 _ cd3 rfl, newK_mk ?_⟩
          have s34 := (St.start w33).one.boxL #[sv [98, 105, 100, 100, 101, 114], sv x.nm, sv (Lib.itoa x.d), sv (Lib.itoa x.b), sv (Lib.itoa x.wd), sv [105, 110]] 9
          have c34 := cd3.trans s34.chg (by simp)
          generalize hw34 : w33.alloc _ = w34 at s34 c34 ⊢
          let W : List (List UInt8) := [98, 105, 100, 100, 101, 114] :: x.nm :: Lib.itoa x.d :: Lib.itoa x.b :: Lib.itoa x.wd :: io x.out :: x.pts.map Lib.itoa
          have hWl : W.length = x.pts.length + 6 := by simp [W]
          have hWb : ∀ y ∈ W, y.length ≤ 100 := fB_words hIb hnm
          refine ⟨fun w35 => St w33 w35 (Sep [boxA w33.heap.size ((W.take 6).map sv).toArray 9, emp]), ?_, x.out, c30 _ 4 _ c34 rfl, ?_⟩
          · rintro w35 s35 -
            have c35 := cd3.trans s35.chg (by simp)
            refine ⟨_, _, _, c30 _ 5 _ c35 rfl, ?_⟩
            have r35 : St w33 w35 (Sep [rowA 9 1 (.slice (some ⟨w33.heap.size, 0, none⟩) 6 6) 6 ((W.take 6).map sv), emp]) :=
              St.weak s35 (Weak.left (boxRow rfl (by decide)))
            refine ⟨fun a l c n w36 m => ∃ j : Nat, n = j ∧ j ≤ x.pts.length ∧ m = x.pts.length - j ∧ l = j + 6 ∧ St w33 w36 (Sep [rowA 9 1 (.slice a l c) l ((W.take (j + 6)).map sv), emp]), ⟨x.pts.length, 0, rfl, by omega, by omega, rfl, r35⟩, ?_⟩
            rintro w36 m a l c n ⟨j, rfl, hj, hm', rfl, s36⟩ -
            have c36 := (s30.chg.trans cd3 (by simp)).trans s36.chg (by simp)
            by_cases hjl : (j : Int) < (x.pts.length : Int)
            · have hj' : j < x.pts.length := by omega
              have hgx : x.pts[j]? = some x.pts[j] := by simp [hj']
              have hIx : In x.pts[j] := hIb.2.2.2 _ (List.mem_of_getElem? hgx)
              obtain ⟨q4, hq4, hc4⟩ := (hRd.chg c36) j (iv x.pts[j]) (by rw [List.getElem?_map, hgx]; rfl)
              refine cT (by simpa using hjl) ?_
              rw [hq4]
              refine ⟨by omega, by omega, x.pts[j], hc4, useC (itoa_c (ht.chg (f28.to c36).chg) hIx) ?_⟩
              rintro _ w37 ⟨rfl, c37⟩
              refine ⟨_, rfl, ?_⟩
              refine app1_st sl67 (s36.quiet c37) (news := [sv (Lib.itoa x.pts[j])]) rfl (by simp [Value.oneCell']) (by omega) (by omega) (fun a4 c4 w39 s39 => ?_) rfl
              have hW : W[j + 6]? = some (Lib.itoa x.pts[j]) := by simp only [W, List.getElem?_cons_succ, List.getElem?_map, hgx]; rfl
              have e : (W.take (j + 1 + 6)).map sv = (W.take (j + 6)).map sv ++ [sv (Lib.itoa x.pts[j])] := by
                rw [show j + 1 + 6 = j + 6 + 1 by omega, take_snoc hW, List.map_append]; rfl
              refine ⟨x.pts.length - (j + 1), by omega, j + 1, by rw [iwrap ⟨by omega, by omega⟩]; rfl, by omega, rfl, by omega, ?_⟩
              rw [e]
              exact s39
            · have hje : j = x.pts.length := by omega
              subst hje
              have hWt : W.take (x.pts.length + 6) = W := List.take_of_length_le (by rw [hWl]; exact Nat.le_refl _)
              rw [hWt] at s36
              refine cF (by simp) (useC (lrow_c s36 (by rw [hWl]) (by omega) (fun y hy => by have := hWb y hy; omega) (by omega)) ?_)
              rintro _ w40 ⟨rfl, c40⟩
              have hl := hB i
              have hl2 := fB_len hIb hnm hpt
              have f40 : Fw w r1 r2 (.cells box 27 (0, 0)) (kl s.cs 10 ++ fRf s.ref ++ (s.ps.map fP).flatten ++ (s.rer.map fR).flatten ++ ((s.bds.take i).map fB).flatten) w40 := f28.to ((s30.chg.trans cd3 (by simp)).trans c40 (by simp))
              refine ⟨_, rfl, useC (write_c f40 (s := fB x) (by simp only [List.length_append]; omega)) ?_⟩
              rintro _ w41 ⟨⟨n', v', rfl⟩, f41⟩
              refine ⟨n', v', rfl, s.bds.length - (i + 1), by omega, i + 1, ?_, by omega, rfl, ?_⟩
              · have := hf.l2
                rw [iwrap ⟨by omega, by omega⟩]; rfl
              · rw [snoc_flat hgi, ← List.append_assoc]
                exact f41
          · cases hout : x.out with
            | true =>
              refine cT rfl ⟨by omega, by omega, ?_⟩
              refine s34.stAt 0 rfl (show 5 < 6 by decide) rfl fun w42 s42 => ?_
              have e : (W.take 6).map sv = [sv [98, 105, 100, 100, 101, 114], sv x.nm, sv (Lib.itoa x.d), sv (Lib.itoa x.b), sv (Lib.itoa x.wd), sv [111, 117, 116]] := by simp [W, io, hout]
              show St w33 w42 (Sep [boxA w33.heap.size ((W.take 6).map sv).toArray 9, emp])
              rw [e]
              exact s42
            | false =>
              have e : (W.take 6).map sv = [sv [98, 105, 100, 100, 101, 114], sv x.nm, sv (Lib.itoa x.d), sv (Lib.itoa x.b), sv (Lib.itoa x.wd), sv [105, 110]] := by simp [W, io, hout]
              refine cF rfl ?_
              show St w33 w34 (Sep [boxA w33.heap.size ((W.take 6).map sv).toArray 9, emp])
              rw [e]
              exact s34
        · have hie : i = s.bds.length := by omega
          subst hie
          rw [List.take_length] at f28
          refine cF (by simp) (useC (string_c f28) ?_)
          rintro _ w43 ⟨rfl, c43⟩
          exact ⟨_, rfl, rfl, c43⟩

end Go.Proofs.YtdpcgfcabikjmaaGreatDoor

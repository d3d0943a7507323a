import Derived.Test.YtdpcgfcabikjmaaGreatDoorr5B
namespace Go.Proofs.YtdpcgfcabikjmaaGreatDoor
open Go Go.Vc Go.Sort Go.RowKit

theorem sl29 : SlT Tryz.prog 29 46 (.agg #[.string ⟨#[]⟩, iv 0, iv 0, iv 0, .bool false, .slice none 0 0]) 6 72 := SlT.mk' Tryz.underlying29 (by kernel_rfl) rfl (by decide)

theorem Bd.one (x : Bd) : ∀ v ∈ x.cells, v.oneCell' = true := by
  intro v hv; simp [Bd.cells] at hv; rcases hv with rfl | rfl | rfl | rfl | rfl | rfl <;> rfl

def Sm.with2 (s : Sm) (a : Option Addr) (c : Nat) : Sm := { s with a2 := a, c2 := c }

theorem flat_get {l : List Bd} : ∀ (i j : Nat) (b : Bd) (v : Value), l[i]? = some b → b.cells[j]? = some v → ((l.map Bd.cells).flatten)[i * 6 + j]? = some v := by
  induction l with
  | nil => intro i j b v hi; simp at hi
  | cons x l ih =>
    intro i j b v hi hj
    have hx : x.cells.length = 6 := rfl
    cases i with
    | zero =>
      simp at hi; subst hi
      have := (List.getElem?_eq_some_iff.1 hj).1
      simp only [List.map_cons, List.flatten_cons, Nat.zero_mul, Nat.zero_add]
      rw [List.getElem?_append_left this]; exact hj
    | succ i =>
      simp only [List.map_cons, List.flatten_cons]
      rw [List.getElem?_append_right (by omega), hx, show (i + 1) * 6 + j - 6 = i * 6 + j by omega]
      exact ih i j b v (by simpa using hi) hj

theorem flat_len (l : List Bd) : ((l.map Bd.cells).flatten).length = l.length * 6 := by
  induction l with
  | nil => rfl
  | cons x l ih =>
    have hx : x.cells.length = 6 := rfl
    simp only [List.map_cons, List.flatten_cons, List.length_append, ih, hx, List.length_cons]; omega

theorem rdB_row {w w0 : World} {a a' : Option Addr} {c n : Nat} {l : List Bd} (h : RdB w0 a l) (hc : Chg w0 w []) (own : w.ownsRow 0 46 6 (.slice a' n c) n ((l.map Bd.cells).flatten)) (hn : n = l.length) : RdB w a' l := fun i b hi => by
  obtain ⟨h1, h2, _⟩ := h i b hi
  have hlt := (List.getElem?_eq_some_iff.1 hi).1
  obtain ⟨g, rfl, hget⟩ := row_get own (by omega)
  refine ⟨h1, h2.chg hc, _, rfl, cells_of _ 0 fun j v hj => ?_⟩
  rw [addA2, addA2]
  have := hget (i * 6 + j) v (flat_get i j b v hi hj)
  rw [show 0 + i * 6 + (0 + j) = i * 6 + j by omega]
  exact this

set_option maxHeartbeats 1000000 in
theorem plain_c {w : World} {s : Sm} (h : s.In w) (hlim : s.bds.length ≤ 1954687338211) : Calls Tryz.prog 6 #[.agg s.val.toArray] w (RetC fun r w' => ∃ a c, r = .agg (s.with2 a c).val.toArray ∧ (s.with2 a c).In w' ∧ Chg w w' []) := by
  obtain ⟨n1, n2, n3, n4, n5, n6, n7, n8, n9, n10, n11, he⟩ := len11 h.n11
  have hval : s.val = [iv n1, iv n2, iv n3, iv n4, iv n5, iv n6, iv n7, iv n8, iv n9, iv n10, iv n11, iv s.ref, .slice s.a1 s.ps.length s.c1, .slice s.a2 s.bds.length s.c2, .slice s.a3 s.rer.length s.c3] := by
    unfold Sm.val; rw [he]; rfl
  rw [hval]
  refine lPlain_ok ?_
  unfold lPlain
  refine newK_mk (newK_mk ?_)
  have s2 := ((St.start w).one.boxL #[iv n1, iv n2, iv n3, iv n4, iv n5, iv n6, iv n7, iv n8, iv n9, iv n10, iv n11, iv s.ref, .slice s.a1 s.ps.length s.c1, .slice s.a2 s.bds.length s.c2, .slice s.a3 s.rer.length s.c3] 27).boxL #[(.int .i64 (0 : Int)), (.int .i64 (0 : Int)), (.int .i64 (0 : Int)), (.int .i64 (0 : Int)), (.int .i64 (0 : Int)), (.int .i64 (0 : Int)), (.int .i64 (0 : Int)), (.int .i64 (0 : Int)), (.int .i64 (0 : Int)), (.int .i64 (0 : Int)), (.int .i64 (0 : Int)), (.int .i64 (0 : Int)), (.slice none 0 0), (.slice none 0 0), (.slice none 0 0)] 31
  generalize hw2 : ((w.alloc _).alloc _) = w2 at s2 ⊢
  generalize hr1 : w.heap.size = r1 at s2 ⊢
  generalize hr2 : (w.alloc _).heap.size = r2 at s2 ⊢
  have c1 : ∀ (j : Nat) (v : Value), (#[iv n1, iv n2, iv n3, iv n4, iv n5, iv n6, iv n7, iv n8, iv n9, iv n10, iv n11, iv s.ref, .slice s.a1 s.ps.length s.c1, .slice s.a2 s.bds.length s.c2, .slice s.a3 s.rer.length s.c3] : Array Value)[j]? = some v → w2.cell? ⟨r1, j, none⟩ = some v := fun j v hv => by rw [s2.boxedAt 1 rfl]; exact hv
  refine ⟨n1, n2, n3, n4, n5, n6, n7, n8, n9, n10, n11, cells_of _ 0 fun j v hj => ?_, s.ref, c1 11 _ rfl, _, _, _, c1 12 _ rfl, _, _, _, c1 14 _ rfl, ?_⟩
  · rw [addA2, Nat.zero_add, Nat.zero_add]
    have hlt := (List.getElem?_eq_some_iff.1 hj).1
    match j, hlt, hj with
    | 0, _, hj | 1, _, hj | 2, _, hj | 3, _, hj | 4, _, hj | 5, _, hj | 6, _, hj | 7, _, hj | 8, _, hj | 9, _, hj | 10, _, hj => cases hj; exact c1 _ _ rfl
    | j + 11, hlt, _ => simp at hlt; omega
  refine newK_mk ((s2.boxL _ 31).stLAt 0 rfl _ rfl (by intro v hv; simp at hv; rcases hv with rfl | rfl | rfl | rfl | rfl | rfl | rfl | rfl | rfl | rfl | rfl | rfl | rfl | rfl | rfl <;> rfl) fun w4 s4 => ?_)
  generalize hr3 : w2.heap.size = r3 at s4 ⊢
  let box3 (a : Option Addr) (l c : Nat) : Array Value := #[iv n1, iv n2, iv n3, iv n4, iv n5, iv n6, iv n7, iv n8, iv n9, iv n10, iv n11, iv s.ref, .slice s.a1 s.ps.length s.c1, .slice a l c, .slice s.a3 s.rer.length s.c3]
  refine ⟨fun n w5 m => ∃ (i : Nat) (a : Option Addr) (c : Nat), n = i ∧ i ≤ s.bds.length ∧ m = s.bds.length - i ∧
    St w w5 (Sep [rowA 46 6 (.slice a i c) i (((s.bds.take i).map Bd.cells).flatten), boxA r3 (box3 a i c) 31,
      boxA r2 #[(.int .i64 (0 : Int)), (.int .i64 (0 : Int)), (.int .i64 (0 : Int)), (.int .i64 (0 : Int)), (.int .i64 (0 : Int)), (.int .i64 (0 : Int)), (.int .i64 (0 : Int)), (.int .i64 (0 : Int)), (.int .i64 (0 : Int)), (.int .i64 (0 : Int)), (.int .i64 (0 : Int)), (.int .i64 (0 : Int)), (.slice none 0 0), (.slice none 0 0), (.slice none 0 0)] 31,
      boxA r1 #[iv n1, iv n2, iv n3, iv n4, iv n5, iv n6, iv n7, iv n8, iv n9, iv n10, iv n11, iv s.ref, .slice s.a1 s.ps.length s.c1, .slice s.a2 s.bds.length s.c2, .slice s.a3 s.rer.length s.c3] 27, emp]), ⟨s.bds.length, 0, none, 0, rfl, by omega, by omega, s4.rowL 46 6⟩, ?_⟩
  rintro w5 m n ⟨i, a, c, rfl, hi, hm, s5⟩ -
  have d1 : w5.cell? ⟨r1, 13, none⟩ = some (.slice s.a2 s.bds.length s.c2) := by rw [s5.boxedAt 3 rfl]; rfl
  refine ⟨_, _, _, d1, ?_⟩
  by_cases hlt : (i : Int) < (s.bds.length : Int)
  · have hi' : i < s.bds.length := by omega
    have hgi : s.bds[i]? = some s.bds[i] := by simp [hi']
    obtain ⟨_, _, q, hq, hcl⟩ := (h.chg s5.chg).bds i s.bds[i] hgi
    refine cT (by simpa using hlt) ⟨_, _, _, d1, ?_⟩
    rw [hq]
    refine ⟨by omega, by omega, bs s.bds[i].nm, s.bds[i].d, s.bds[i].b, s.bds[i].wd, s.bds[i].out, s.bds[i].pa, s.bds[i].pts.length, s.bds[i].pc, hcl, ?_⟩
    refine newK_mk ((s5.boxL _ 47).stLAt 0 rfl s.bds[i].cells rfl s.bds[i].one fun w7 s7 => ?_)
    have c7 : ∀ (j : Nat) (v : Value), s.bds[i].cells[j]? = some v → w7.cell? ⟨w5.heap.size, j, none⟩ = some v := fun j v hv => by
      rw [s7.boxedAt 0 rfl]; simpa using hv
    refine ⟨a, i, c, by rw [s7.boxedAt 2 rfl]; rfl, _, c7 0 _ rfl, _, c7 1 _ rfl, _, c7 2 _ rfl, _, c7 3 _ rfl, _, c7 4 _ rfl, _, _, _, c7 5 _ rfl, ?_⟩
    have hl2 := h.l2
    have s7' := s7.out 1 rfl
    refine app1_st sl29 s7' (news := s.bds[i].cells) rfl s.bds[i].one (by omega) (by omega) (fun a4 c4 w9 s9 => ?_) rfl
    have s9' := s9.back (l := _) (i := 1) (by simp)
    refine s9'.stAt 2 rfl (show 13 < 15 by decide) rfl fun w10 s10 => ?_
    refine ⟨s.bds.length - (i + 1), by omega, i + 1, a4, c4, by rw [iwrap ⟨by omega, by omega⟩]; rfl, by omega, rfl, ?_⟩
    have e : ((s.bds.take (i + 1)).map Bd.cells).flatten = ((s.bds.take i).map Bd.cells).flatten ++ s.bds[i].cells := by
      rw [take_snoc hgi, List.map_append, List.flatten_append]
      simp only [List.map_cons, List.map_nil, List.flatten_cons, List.flatten_nil, List.append_nil]
    rw [e]
    rw [hq] at s10
    exact s10.picks [1, 2, 3, 4, 5]
  · have hie : i = s.bds.length := by omega
    subst hie
    rw [List.take_length] at s5
    refine cF (by simp) ⟨n1, n2, n3, n4, n5, n6, n7, n8, n9, n10, n11, s.ref, s.a1, s.ps.length, s.c1, a, s.bds.length, c, s.a3, s.rer.length, s.c3, s5.cellsIn 1 rfl, ?_⟩
    refine s5.stLAt 2 rfl _ rfl (by intro v hv; simp at hv; rcases hv with rfl | rfl | rfl | rfl | rfl | rfl | rfl | rfl | rfl | rfl | rfl | rfl | rfl | rfl | rfl <;> rfl) fun w11 s11 => ?_
    refine ⟨n1, n2, n3, n4, n5, n6, n7, n8, n9, n10, n11, s.ref, s.a1, s.ps.length, s.c1, a, s.bds.length, c, s.a3, s.rer.length, s.c3, s11.cellsIn 2 rfl, a, c, ?_, ?_, s11.chg⟩
    · unfold Sm.val Sm.with2; rw [he]; rfl
    · have h' := h.chg s11.chg
      exact ⟨h'.n11, h'.cs, h'.ref, h'.ps, rdB_row h.bds s11.chg (s11.rowAt 0 rfl) rfl, h'.rer, h'.reri, h'.l1, h'.l2, h'.l3, h'.lp⟩

end Go.Proofs.YtdpcgfcabikjmaaGreatDoor

import Derived.Test.YtdpcgfcabikjmaaGreatDoorr5E
import Derived.DataReads
namespace Go.Proofs.YtdpcgfcabikjmaaGreatDoor
open Go Go.Vc Go.Sort Go.RowKit Go.Deep
set_option maxRecDepth 100000

/-! The argument, opened. -/
theorem opn_field {P : Program} {w : World} {d : Nat} {t : TypeId} {cs : List Value} {fs : Array Field} (h : Opn P w (d + 1) t cs) (hu : P.underlying t = some (.struct fs)) (i : Nat) (f : Field) (hf : fs[i]? = some f) :
    Opn P w d f.type ((cs.drop f.offset).take (P.cellsOf f.type)) := by
  unfold Opn at h
  simp only [hu] at h
  exact h.2 f (by simpa using Array.mem_of_getElem? hf)

theorem list_of {α : Type} {Q : Nat → α → Prop} : ∀ {l : Nat}, (∀ i, i < l → ∃ a, Q i a) → ∃ L : List α, L.length = l ∧ ∀ i a, L[i]? = some a → Q i a
  | 0, _ => ⟨[], rfl, fun i a h => by simp at h⟩
  | l + 1, h => by
    obtain ⟨L, h1, h2⟩ := list_of (l := l) fun i hi => h i (by omega)
    obtain ⟨a, ha⟩ := h l (by omega)
    refine ⟨L ++ [a], by simp [h1], fun i b hb => ?_⟩
    rcases Nat.lt_or_ge i L.length with hi | hi
    · rw [List.getElem?_append_left hi] at hb; exact h2 i b hb
    · rw [List.getElem?_append_right hi] at hb
      have h0 : i - L.length = 0 := by
        have := (List.getElem?_eq_some_iff.1 hb).1
        simp at this; omega
      rw [h0] at hb
      simp at hb
      subst hb
      rw [show i = l by omega]; exact ha

theorem ints_of : ∀ {cs : List Value}, (∀ v ∈ cs, ∃ n, v = iv n ∧ In n) → ∃ ns : List Int, cs = ns.map iv ∧ ∀ n ∈ ns, In n
  | [], _ => ⟨[], rfl, by simp⟩
  | v :: cs, h => by
    obtain ⟨n, rfl, hn⟩ := h v (List.mem_cons_self ..)
    obtain ⟨ns, rfl, hs⟩ := ints_of (cs := cs) fun u hu => h u (List.mem_cons_of_mem _ hu)
    refine ⟨n :: ns, rfl, fun x hx => ?_⟩
    rcases List.mem_cons.1 hx with rfl | hx
    · exact hn
    · exact hs x hx

theorem opn_int {w : World} {d t : Nat} {cs : List Value} (h : Opn Tryz.prog w (d + 1) t cs) (hu : Tryz.prog.underlying t = some (.int .i64)) : ∃ n, cs = [iv n] ∧ In n := by
  unfold Opn at h
  simp only [hu] at h
  obtain ⟨n, rfl, hw⟩ := h
  refine ⟨n, rfl, ?_⟩
  simp [Lit.wf, IntKind.min, IntKind.max, IntKind.signed, IntKind.bits] at hw
  exact ⟨by omega, by omega⟩

theorem opn_arr {w : World} {d t k e : Nat} {cs : List Value} (h : Opn Tryz.prog w (d + 2) t cs) (hu : Tryz.prog.underlying t = some (.array k e)) (he : Tryz.prog.underlying e = some (.int .i64)) (hc : Tryz.prog.cellsOf t = k) (h1 : Tryz.prog.cellsOf e = 1) :
    ∃ ns : List Int, cs = ns.map iv ∧ ns.length = k ∧ ∀ n ∈ ns, In n := by
  unfold Opn at h
  simp only [hu] at h
  obtain ⟨hl, hi⟩ := h
  rw [hc] at hl
  obtain ⟨ns, rfl, hs⟩ := ints_of (cs := cs) fun v hv => by
    obtain ⟨i, hlt, rfl⟩ := List.mem_iff_getElem.1 hv
    obtain ⟨n, hn, hI⟩ := opn_int (hi i (by omega)) he
    rw [h1, Nat.mul_one] at hn
    have e1 : (cs.drop i).take 1 = [cs[i]] := by
      rw [List.drop_eq_getElem_cons hlt]; rfl
    rw [e1] at hn
    exact ⟨n, by simpa using hn, hI⟩
  exact ⟨ns, rfl, by simpa using hl, hs⟩

theorem opn_slice {w : World} {d t e : Nat} {cs : List Value} (h : Opn Tryz.prog w (d + 1) t cs) (hu : Tryz.prog.underlying t = some (.slice e)) :
    ∃ (a : Option Addr) (l c : Nat), cs = [.slice a l c] ∧ l ≤ 9223372036854775807 ∧ l * Tryz.prog.bytesOf e ≤ 140737488351232 ∧
      ∀ i, i < l → ∃ q cs', a = some q ∧ cs'.length = Tryz.prog.cellsOf e ∧ cellsAt w (q.add (i * Tryz.prog.cellsOf e)) 0 cs' ∧ Opn Tryz.prog w d e cs' := by
  unfold Opn at h
  simp only [hu] at h
  obtain ⟨a, l, c, rfl, hlc, hcm, _, hb, hi⟩ := h
  refine ⟨a, l, c, rfl, by unfold maxLen at hcm; omega, hb, fun i hl => ?_⟩
  obtain ⟨q, cs', ha, hcs, ho⟩ := hi i hl
  obtain ⟨_, hlen, hg⟩ := World.cells?_some hcs
  exact ⟨q, cs', ha, hlen, cells_of _ 0 fun j v hj => by
    rw [Nat.zero_add, hg j (by have := (List.getElem?_eq_some_iff.1 hj).1; omega)]; exact hj, ho⟩

theorem cells2 : Tryz.prog.cellsOf 2 = 1 := by kernel_rfl
theorem cells3 : Tryz.prog.cellsOf 3 = 1 := by kernel_rfl
theorem cells22 : Tryz.prog.cellsOf 22 = 11 := by kernel_rfl
theorem cells66 : Tryz.prog.cellsOf 66 = 6 := by kernel_rfl
theorem cells47 : Tryz.prog.cellsOf 47 = 6 := by kernel_rfl
theorem cells27 : Tryz.prog.cellsOf 27 = 15 := by kernel_rfl
theorem cells23 : Tryz.prog.cellsOf 23 = 1 := by kernel_rfl
theorem cells24 : Tryz.prog.cellsOf 24 = 1 := by kernel_rfl
theorem cells25 : Tryz.prog.cellsOf 25 = 1 := by kernel_rfl
theorem cells9 : Tryz.prog.cellsOf 9 = 1 := by kernel_rfl
theorem cells4 : Tryz.prog.cellsOf 4 = 1 := by kernel_rfl
theorem bytes47 : Tryz.prog.bytesOf 47 = 72 := by kernel_rfl

theorem opn_intL {w : World} {d : Nat} {cs : List Value} (h : Opn Tryz.prog w (d + 2) 25 cs) : ∃ (a : Option Addr) (c : Nat) (ns : List Int), cs = [.slice a ns.length c] ∧ Rd w a (ns.map iv) ∧ (∀ n ∈ ns, In n) ∧ ns.length ≤ 9223372036854775807 := by
  obtain ⟨a, l, c, rfl, hl, _, hi⟩ := opn_slice h Tryz.underlying25
  obtain ⟨L, h1, h2⟩ := list_of (Q := fun i (n : Int) => In n ∧ ∃ q, a = some q ∧ w.cell? (q.add (i * 1)) = some (iv n)) (l := l) fun i hl => by
    obtain ⟨q, cs', ha, hlen, hc, ho⟩ := hi i hl
    obtain ⟨n, rfl, hn⟩ := opn_int ho Tryz.underlying3
    rw [cells3] at hc
    exact ⟨n, hn, q, ha, by simpa [Addr.add] using hc.1⟩
  refine ⟨a, c, L, by rw [h1], fun i v hv => ?_, fun n hn => ?_, by omega⟩
  · rw [List.getElem?_map, Option.map_eq_some_iff] at hv
    obtain ⟨n, hn, rfl⟩ := hv
    exact (h2 i n hn).2
  · obtain ⟨i, hlt, rfl⟩ := List.mem_iff_getElem.1 hn
    exact (h2 i _ (List.getElem?_eq_getElem hlt)).1

theorem opn_bd {w : World} {cs : List Value} (h : Opn Tryz.prog w 4 47 cs) (hlen : cs.length = 6) : ∃ b : Bd, cs = b.cells ∧ (In b.d ∧ In b.b ∧ In b.wd ∧ ∀ n ∈ b.pts, In n) ∧ Rd w b.pa (b.pts.map iv) ∧ b.pts.length ≤ 9223372036854775807 := by
  match cs, hlen with
  | [x0, x1, x2, x3, x4, x5], _ =>
    have q0 : Opn Tryz.prog w 3 9 (([x0, x1, x2, x3, x4, x5].drop 0).take (Tryz.prog.cellsOf 9)) := opn_field h Tryz.underlying47 0 _ rfl
    have q1 : Opn Tryz.prog w 3 3 (([x0, x1, x2, x3, x4, x5].drop 1).take (Tryz.prog.cellsOf 3)) := opn_field h Tryz.underlying47 1 _ rfl
    have q2 : Opn Tryz.prog w 3 3 (([x0, x1, x2, x3, x4, x5].drop 2).take (Tryz.prog.cellsOf 3)) := opn_field h Tryz.underlying47 2 _ rfl
    have q3 : Opn Tryz.prog w 3 3 (([x0, x1, x2, x3, x4, x5].drop 3).take (Tryz.prog.cellsOf 3)) := opn_field h Tryz.underlying47 3 _ rfl
    have q4 : Opn Tryz.prog w 3 4 (([x0, x1, x2, x3, x4, x5].drop 4).take (Tryz.prog.cellsOf 4)) := opn_field h Tryz.underlying47 4 _ rfl
    have q5 : Opn Tryz.prog w 3 25 (([x0, x1, x2, x3, x4, x5].drop 5).take (Tryz.prog.cellsOf 25)) := opn_field h Tryz.underlying47 5 _ rfl
    rw [cells9] at q0; rw [cells3] at q1 q2 q3; rw [cells4] at q4; rw [cells25] at q5
    obtain ⟨n1, e1, i1⟩ := opn_int q1 Tryz.underlying3
    obtain ⟨n2, e2, i2⟩ := opn_int q2 Tryz.underlying3
    obtain ⟨n3, e3, i3⟩ := opn_int q3 Tryz.underlying3
    obtain ⟨a, c, ns, e5, r5, i5, l5⟩ := opn_intL q5
    unfold Opn at q0 q4
    simp only [Tryz.underlying9] at q0
    simp only [Tryz.underlying4] at q4
    obtain ⟨s, e0, _⟩ := q0
    obtain ⟨b, e4⟩ := q4
    simp at e0 e1 e2 e3 e4 e5
    subst e0 e1 e2 e3 e4 e5
    exact ⟨⟨s.data.toList, n1, n2, n3, b, ns, a, c⟩, rfl, ⟨i1, i2, i3, i5⟩, r5, l5⟩

theorem open_sm {w : World} {cs : List Value} (h : Opn Tryz.prog w 6 27 cs) : ∃ s : Sm, cs = s.val ∧ s.In w ∧ s.bds.length ≤ 1954687338211 := by
  have hlen : cs.length = 15 := by
    have h' := h
    unfold Opn at h'
    simp only [Tryz.underlying27] at h'
    rw [← cells27]; exact h'.1
  have q0 : Opn Tryz.prog w 5 22 ((cs.drop 0).take (Tryz.prog.cellsOf 22)) := opn_field h Tryz.underlying27 0 _ rfl
  have q1 : Opn Tryz.prog w 5 3 ((cs.drop 11).take (Tryz.prog.cellsOf 3)) := opn_field h Tryz.underlying27 1 _ rfl
  have q2 : Opn Tryz.prog w 5 23 ((cs.drop 12).take (Tryz.prog.cellsOf 23)) := opn_field h Tryz.underlying27 2 _ rfl
  have q3 : Opn Tryz.prog w 5 24 ((cs.drop 13).take (Tryz.prog.cellsOf 24)) := opn_field h Tryz.underlying27 3 _ rfl
  have q4 : Opn Tryz.prog w 5 25 ((cs.drop 14).take (Tryz.prog.cellsOf 25)) := opn_field h Tryz.underlying27 4 _ rfl
  rw [cells22] at q0; rw [cells3] at q1; rw [cells23] at q2; rw [cells24] at q3; rw [cells25] at q4
  obtain ⟨ns, e0, hns, hnI⟩ := opn_arr q0 Tryz.underlying22 Tryz.underlying3 cells22 cells3
  obtain ⟨n, e1, hI⟩ := opn_int q1 Tryz.underlying3
  obtain ⟨a4, c4, rs, e4, r4, i4, l4⟩ := opn_intL q4
  obtain ⟨a2, l2, c2, e2, m2, _, g2⟩ := opn_slice q2 Tryz.underlying23
  obtain ⟨a3, l3, c3, e3, m3, b3, g3⟩ := opn_slice q3 Tryz.underlying24
  obtain ⟨ps, hpl, hps⟩ := list_of (Q := fun i (p : List Int) => p.length = 6 ∧ (∀ n ∈ p, In n) ∧ ∃ q, a2 = some q ∧ cellsAt w (q.add (i * 6)) 0 (p.map iv)) (l := l2) fun i hi => by
    obtain ⟨q, cs', ha, hl, hc, ho⟩ := g2 i hi
    obtain ⟨p, rfl, hp, hpI⟩ := opn_arr ho Tryz.underlying66 Tryz.underlying2 cells66 cells2
    rw [cells66] at hc
    exact ⟨p, hp, hpI, q, ha, hc⟩
  obtain ⟨bds, hbl, hbds⟩ := list_of (Q := fun i (b : Bd) => ((In b.d ∧ In b.b ∧ In b.wd ∧ ∀ n ∈ b.pts, In n) ∧ Rd w b.pa (b.pts.map iv) ∧ ∃ q, a3 = some q ∧ cellsAt w (q.add (i * 6)) 0 b.cells) ∧ b.pts.length ≤ 9223372036854775807) (l := l3) fun i hi => by
    obtain ⟨q, cs', ha, hl, hc, ho⟩ := g3 i hi
    rw [cells47] at hc hl
    obtain ⟨b, rfl, hb, hr, hbl⟩ := opn_bd ho hl
    exact ⟨b, ⟨hb, hr, q, ha, hc⟩, hbl⟩
  refine ⟨⟨ns, n, a2, c2, ps, a3, c3, bds, a4, c4, rs⟩, ?_, ⟨hns, hnI, hI, hps, fun i b hb => (hbds i b hb).1, r4, i4, by simp only; omega, by simp only; omega, l4, fun b hb => ?_⟩, ?_⟩
  · unfold Sm.val
    simp only
    rw [hpl, hbl, ← e0, List.drop_zero]
    match cs, hlen with
    | [x0, x1, x2, x3, x4, x5, x6, x7, x8, x9, x10, x11, x12, x13, x14], _ =>
      simp at e1 e2 e3 e4
      subst e1 e2 e3 e4
      rfl
  · obtain ⟨i, hlt, rfl⟩ := List.mem_iff_getElem.1 hb
    exact (hbds i _ (List.getElem?_eq_getElem hlt)).2
  · rw [bytes47] at b3
    simp only
    omega

end Go.Proofs.YtdpcgfcabikjmaaGreatDoor

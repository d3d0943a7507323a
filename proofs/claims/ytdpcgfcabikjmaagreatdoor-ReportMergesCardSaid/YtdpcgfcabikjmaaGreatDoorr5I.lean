import Derived.Test.YtdpcgfcabikjmaaGreatDoorr5H
import Derived.DataElems
namespace Go.Proofs.YtdpcgfcabikjmaaGreatDoor
open Go Go.Vc Go.Sort Go.RowKit
set_option maxRecDepth 100000

theorem appR_st {P : Program} {w0 w : World} {B : Asn} {t ty e : TypeId} {z : Value} {sz by_ : Nat} (hT : SlT P t e z sz by_) {v : Value} {n : Nat} {xs : List Value} (h : St w0 w (star (rowA e sz v n xs) B))
    {a : Option Addr} {m c : Nat} {news : List Value} (hl : news.length = m * sz) (hr : ∀ j u, news[j]? = some u → ∃ q, a = some q ∧ w.cell? (q.add j) = some u) (h1 : ∀ u ∈ news, u.oneCell' = true)
    (hb : (n + m) * by_ ≤ 140737488355328) (hm : n + m ≤ 9223372036854775807) {R : Option Addr → Nat → Nat → World → Prop}
    (k : ∀ a' c' w', St w0 w' (star (rowA e sz (.slice a' (n + m) c') (n + m) (xs ++ news)) B) → R a' (n + m) c' w') :
    rnS P (Builtin.append_ #[t, t] ty #[v, .slice a m c]) w fun e w1 => ∃ a l c, e = .slice a l c ∧ R a l c w1 := by
  cases a with
  | some q =>
    refine app_st hT h hl (fun j u hj => ?_) h1 hb hm fun v' w' h'' => ?_
    · obtain ⟨q', hq, hc⟩ := hr j u hj
      cases hq; exact hc
    · obtain ⟨a', c', rfl⟩ := own_slice h''.rowOf
      exact ⟨a', _, c', rfl, k a' c' w' h''⟩
  | none =>
    have hn : news = [] := by
      cases news with
      | nil => rfl
      | cons u l => obtain ⟨q, hq, _⟩ := hr 0 u rfl; cases hq
    subst hn
    have hm0 : m = 0 := by
      have := hT.pos
      rcases Nat.mul_eq_zero.1 (show m * sz = 0 by simpa using hl.symm) with h0 | h0
      · exact h0
      · omega
    subst hm0
    obtain ⟨a', c', rfl⟩ := own_slice h.rowOf
    refine ⟨_, w, append_none hT (row_info h.rowOf).1, a', _, c', rfl, k a' c' w ?_⟩
    simpa using h

theorem sl25 : SlT Tryz.prog 25 3 (.int .i64 0) 1 8 := SlT.mk' Tryz.underlying25 (by kernel_rfl) rfl (by decide)
theorem sl23 : SlT Tryz.prog 23 66 (.agg #[.int .i64 0, .int .i64 0, .int .i64 0, .int .i64 0, .int .i64 0, .int .i64 0]) 6 48 := SlT.mk' Tryz.underlying23 (by kernel_rfl) rfl (by decide)
theorem sl24 : SlT Tryz.prog 24 47 (.agg #[.string ⟨#[]⟩, iv 0, iv 0, iv 0, .bool false, .slice none 0 0]) 6 72 := SlT.mk' Tryz.underlying24 (by kernel_rfl) rfl (by decide)

/-- Lists of prices, cell by cell. -/
def fl (ps : List (List Int)) : List Value := (ps.map fun p => p.map iv).flatten
theorem fl_app (a b : List (List Int)) : fl (a ++ b) = fl a ++ fl b := by simp [fl]
theorem fl_len : ∀ {ps : List (List Int)}, (∀ p ∈ ps, p.length = 6) → (fl ps).length = ps.length * 6
  | [], _ => rfl
  | p :: ps, h => by
    have h1 := h p (List.mem_cons_self ..)
    have h2 := fl_len (ps := ps) fun q hq => h q (List.mem_cons_of_mem _ hq)
    simp only [fl, List.map_cons, List.flatten_cons, List.length_append, List.length_map, h1, List.length_cons] at h2 ⊢
    omega
theorem fl_one {ps : List (List Int)} : ∀ u ∈ fl ps, u.oneCell' = true := by
  intro u hu
  simp only [fl, List.mem_flatten, List.mem_map] at hu
  obtain ⟨l, ⟨p, _, rfl⟩, hu⟩ := hu
  obtain ⟨n, _, rfl⟩ := List.mem_map.1 hu
  rfl
theorem map_one {xs : List Int} : ∀ u ∈ xs.map iv, u.oneCell' = true := by
  intro u hu
  obtain ⟨n, _, rfl⟩ := List.mem_map.1 hu
  rfl
theorem fl_get : ∀ {ps : List (List Int)} {j : Nat} {u : Value}, (∀ p ∈ ps, p.length = 6) → (fl ps)[j]? = some u → ∃ i r p, j = i * 6 + r ∧ ps[i]? = some p ∧ (p.map iv)[r]? = some u
  | [], j, u, _, h => by simp [fl] at h
  | p :: ps, j, u, hp, h => by
    have h1 := hp p (List.mem_cons_self ..)
    simp only [fl, List.map_cons, List.flatten_cons] at h
    by_cases hj : j < 6
    · rw [List.getElem?_append_left (by simpa [h1] using hj)] at h
      exact ⟨0, j, p, by omega, rfl, h⟩
    · rw [List.getElem?_append_right (by simp [h1]; omega), List.length_map, h1] at h
      obtain ⟨i, r, q, hjr, hi, hr⟩ := fl_get (ps := ps) (fun q hq => hp q (List.mem_cons_of_mem _ hq)) h
      exact ⟨i + 1, r, q, by omega, by simpa using hi, hr⟩

theorem RdP.len {w : World} {a : Option Addr} {ps : List (List Int)} (h : RdP w a ps) : ∀ p ∈ ps, p.length = 6 := fun p hp => by
  obtain ⟨i, hi, rfl⟩ := List.mem_iff_getElem.1 hp
  exact (h i _ (List.getElem?_eq_getElem hi)).1
theorem RdP.ins {w : World} {a : Option Addr} {ps : List (List Int)} (h : RdP w a ps) : ∀ p ∈ ps, ∀ n ∈ p, In n := fun p hp => by
  obtain ⟨i, hi, rfl⟩ := List.mem_iff_getElem.1 hp
  exact (h i _ (List.getElem?_eq_getElem hi)).2.1
theorem RdP.cell {w : World} {a : Option Addr} {ps : List (List Int)} (h : RdP w a ps) (j : Nat) (u : Value) (hj : (fl ps)[j]? = some u) : ∃ q, a = some q ∧ w.cell? (q.add j) = some u := by
  obtain ⟨i, r, p, rfl, hi, hr⟩ := fl_get h.len hj
  obtain ⟨_, _, q, hq, hc⟩ := h i p hi
  refine ⟨q, hq, ?_⟩
  have := cells_get hc r u hr
  rw [Nat.zero_add, Addr.add_add] at this
  exact this
theorem rdCell {w : World} {a : Option Addr} {xs : List Value} (h : Rd w a xs) (j : Nat) (u : Value) (hj : xs[j]? = some u) : ∃ q, a = some q ∧ w.cell? (q.add j) = some u := by
  obtain ⟨q, hq, hc⟩ := h j u hj
  exact ⟨q, hq, by simpa using hc⟩

theorem fl_at : ∀ {ps : List (List Int)} (i r : Nat) (p : List Int) (u : Value), (∀ p ∈ ps, p.length = 6) → ps[i]? = some p → (p.map iv)[r]? = some u → (fl ps)[i * 6 + r]? = some u
  | [], i, r, p, u, _, hi, _ => by simp at hi
  | x :: l, i, r, p, u, hl, hi, hr => by
    have hx := hl x (List.mem_cons_self ..)
    have hl' := fun q hq => hl q (List.mem_cons_of_mem x hq)
    simp only [fl, List.map_cons, List.flatten_cons]
    cases i with
    | zero =>
      simp at hi; subst hi
      have := (List.getElem?_eq_some_iff.1 hr).1
      rw [List.getElem?_append_left (by omega)]
      simpa using hr
    | succ i =>
      rw [List.getElem?_append_right (by simp [hx]; omega), List.length_map, hx, show (i + 1) * 6 + r - 6 = i * 6 + r by omega]
      exact fl_at i r p u hl' (by simpa using hi) hr

theorem rdP_row {w : World} {a : Option Addr} {c n e : Nat} {ps : List (List Int)} (own : w.ownsRow 0 e 6 (.slice a n c) n (fl ps)) (hn : n = ps.length) (hl : ∀ p ∈ ps, p.length = 6) (hi : ∀ p ∈ ps, ∀ n ∈ p, In n) : RdP w a ps := fun i p hp => by
  have hlt := (List.getElem?_eq_some_iff.1 hp).1
  obtain ⟨g, rfl, hget⟩ := row_get own (by omega)
  refine ⟨hl p (List.mem_of_getElem? hp), hi p (List.mem_of_getElem? hp), _, rfl, cells_of _ 0 fun j v hj => ?_⟩
  rw [addA2, addA2]
  have := hget (i * 6 + j) v (fl_at i j p v hl hp hj)
  rw [show 0 + i * 6 + (0 + j) = i * 6 + j by omega]
  exact this

theorem rdB_mk {w : World} {a : Option Addr} {c n e : Nat} {l : List Bd} (own : w.ownsRow 0 e 6 (.slice a n c) n ((l.map Bd.cells).flatten)) (hn : n = l.length) (hi : ∀ b ∈ l, In b.d ∧ In b.b ∧ In b.wd ∧ ∀ n ∈ b.pts, In n) (hr : ∀ b ∈ l, Rd w b.pa (b.pts.map iv)) : RdB w a l := fun i b hb => by
  have hlt := (List.getElem?_eq_some_iff.1 hb).1
  obtain ⟨g, rfl, hget⟩ := row_get own (by omega)
  refine ⟨hi b (List.mem_of_getElem? hb), hr b (List.mem_of_getElem? hb), _, rfl, cells_of _ 0 fun j v hj => ?_⟩
  rw [addA2, addA2]
  have := hget (i * 6 + j) v (flat_get i j b v hb hj)
  rw [show 0 + i * 6 + (0 + j) = i * 6 + j by omega]
  exact this

theorem joinI_c {w : World} {a1 a2 : Option Addr} {c1 c2 : Nat} {xs ys : List Int} (h1 : Rd w a1 (xs.map iv)) (h2 : Rd w a2 (ys.map iv)) (hx : xs.length ≤ 100000) (hy : ys.length ≤ 100000) :
    Calls Tryz.prog 27 #[.slice a1 xs.length c1, .slice a2 ys.length c2] w (RetC fun r w' => ∃ a c, r = .slice a (xs ++ ys).length c ∧ St w w' (rowA 3 1 (.slice a (xs ++ ys).length c) (xs ++ ys).length ((xs ++ ys).map iv))) := by
  refine rJoinI_ok ?_
  unfold rJoinI
  refine appR_st sl25 ((St.start w).one.rowL 3 1) (news := xs.map iv) (by simp) (fun j u hj => rdCell h1 j u hj) map_one (by omega) (by omega) fun a c w1 s1 => ?_
  refine appR_st sl25 s1 (news := ys.map iv) (by simp) (fun j u hj => rdCell (h2.chg s1.chg) j u hj) map_one (by omega) (by omega) fun a' c' w2 s2 => ?_
  refine ⟨a', c', by simp, ?_⟩
  rw [Nat.zero_add, List.nil_append] at s2
  rw [List.length_append, List.map_append]
  exact s2.first

theorem joinP_c {w : World} {a1 a2 : Option Addr} {c1 c2 : Nat} {xs ys : List (List Int)} (h1 : RdP w a1 xs) (h2 : RdP w a2 ys) (hx : xs.length ≤ 100000) (hy : ys.length ≤ 100000) :
    Calls Tryz.prog 26 #[.slice a1 xs.length c1, .slice a2 ys.length c2] w (RetC fun r w' => ∃ a c, r = .slice a (xs ++ ys).length c ∧ St w w' (rowA 66 6 (.slice a (xs ++ ys).length c) (xs ++ ys).length (fl (xs ++ ys)))) := by
  refine rJoinP_ok ?_
  unfold rJoinP
  refine appR_st sl23 ((St.start w).one.rowL 66 6) (news := fl xs) (by rw [fl_len h1.len]) (fun j u hj => h1.cell j u hj) fl_one (by omega) (by omega) fun a c w1 s1 => ?_
  refine appR_st sl23 s1 (news := fl ys) (by rw [fl_len h2.len]) (fun j u hj => (h2.chg s1.chg).cell j u hj) fl_one (by omega) (by omega) fun a' c' w2 s2 => ?_
  refine ⟨a', c', by simp, ?_⟩
  rw [Nat.zero_add, List.nil_append] at s2
  rw [List.length_append, fl_app]
  exact s2.first

end Go.Proofs.YtdpcgfcabikjmaaGreatDoor

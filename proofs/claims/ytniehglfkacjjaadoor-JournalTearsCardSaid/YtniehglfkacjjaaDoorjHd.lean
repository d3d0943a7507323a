import Derived.Test.YtniehglfkacjjaaDoorjMt
namespace Go.Proofs.YtniehglfkacjjaaDoor
open Go Go.Vc

theorem sl40 : SlT Tryd.prog 40 32 (.int .u64 0) 1 8 := SlT.mk' Tryd.underlying40 (by kernel_rfl) rfl (by decide)

def u64V (n : Nat) : Value := .int .u64 (n : Int)

/-- A list that can be read. -/
def Rd (w : World) (a : Option Addr) (xs : List Value) : Prop := ∀ (i : Nat) (v : Value), xs[i]? = some v → ∃ q, a = some q ∧ w.cell? (q.add (i * 1)) = some v

theorem Rd.chg {w w' : World} {a : Option Addr} {xs : List Value} (h : Rd w a xs) (hc : Chg w w' []) : Rd w' a xs := fun i v hi =>
  let ⟨q, hq, hv⟩ := h i v hi
  ⟨q, hq, cell_chg hv hc⟩

theorem Rd.row {w : World} {e : TypeId} {n : Nat} {a : Option Addr} {c : Nat} {xs : List Value} (own : w.ownsRow 0 e 1 (.slice a n c) n xs) : Rd w a xs := fun i v hi => by
  have hl : i < n := by
    have h1 := (List.getElem?_eq_some_iff.1 hi).1
    have h2 := own.1
    omega
  obtain ⟨g, rfl, hget⟩ := row_get own (by omega)
  exact ⟨_, rfl, by rw [Nat.mul_one, addA]; exact hget i v hi⟩

theorem boxRow {r : Nat} {cs : Array Value} {T : TypeId} {n : Nat} (hn : cs.size = n) (hm : n ≤ maxLen) : Weak (boxA r cs T) (rowA T 1 (.slice (some ⟨r, 0, none⟩) n n) n cs.toList) := by
  rintro w F ⟨h, rfl⟩
  refine ⟨[r], ⟨⟨by simp [hn], .inr ⟨r, n, cs, rfl, Nat.zero_le _, h, Nat.le_refl _, hm, by omega, ?_⟩⟩, by simp [Value.ownBlock]⟩, by simp⟩
  rw [Nat.mul_one]
  exact List.take_of_length_le (by simp [hn])

theorem Weak.left {A B C : Asn} (h : Weak A B) : Weak (star A C) (star B C) := by
  rintro w F ⟨F1, F2, rfl, h1, h2, hd⟩
  obtain ⟨F1', h1', hj⟩ := h w F1 h1
  exact ⟨F1' ++ F2, ⟨F1', F2, rfl, h1', h2, fun k hk hk2 => hd k (hj k hk) hk2⟩, fun j hj' => by rcases List.mem_append.1 hj' with h | h <;> simp [h, hj j]⟩

theorem headF_lt {h : Nat} (hh : h < 18446744073709551616) (l : List (List UInt8)) : headF h l < 18446744073709551616 := by
  induction l generalizing h with
  | nil => exact hh
  | cons s l ih => rw [headF_cons]; exact ih (chainM_lt _ _)

theorem hds_get (h : Nat) (l : List (List UInt8)) : (h :: hdsF h l)[l.length]? = some (headF h l) := by
  induction l generalizing h with
  | nil => rfl
  | cons s l ih => rw [hdsF_cons, headF_cons, List.length_cons, List.getElem?_cons_succ]; exact ih _

theorem hds_at (h : Nat) (l : List (List UInt8)) {i : Nat} (hi : i ≤ l.length) : (h :: hdsF h l)[i]? = some (headF h (l.take i)) := by
  conv => lhs; rw [← List.take_append_drop i l]
  rw [hdsF_append, ← List.cons_append, List.getElem?_append_left (by simp [hdsF_length]; omega)]
  have := hds_get h (l.take i)
  rwa [List.length_take, Nat.min_eq_left hi] at this

theorem take_snoc {α : Type} {l : List α} {i : Nat} {a : α} (h : l[i]? = some a) : l.take (i + 1) = l.take i ++ [a] := by
  rw [List.take_add_one, h]; rfl

theorem St.after {w0 w w' : World} {A B : Asn} (h : St w0 w A) (k : St w w' B) : St w0 w' (star B A) := by
  obtain ⟨F, hA, hc, hn⟩ := h
  obtain ⟨G, hB, hc', hn'⟩ := k
  refine ⟨G ++ F, ⟨G, F, rfl, hB, A.loc hA hc' (by simp), fun k hk hk2 => ?_⟩, hc.trans hc' (by simp), fun k hk => ?_⟩
  · have := hn' k hk
    have := A.lt hA k hk2
    omega
  · rcases List.mem_append.1 hk with h | h
    · exact Nat.le_trans hc.size (hn' k h)
    · exact hn k h

theorem heads_c {w : World} {a : Option Addr} {c : Nat} {xs : List (List UInt8)} (hn : xs.length ≤ 1000000) (hl : ∀ x ∈ xs, x.length ≤ 4611686018427387904) (hr : Rd w a (xs.map strV)) :
    Calls Tryd.prog 20 #[.slice a xs.length c] w (RetC fun r w' => ∃ a2 c2, r = .slice a2 (xs.length + 1) c2 ∧
      St w w' (rowA 32 1 (.slice a2 (xs.length + 1) c2) (xs.length + 1) ((0 :: hdsF 0 xs).map u64V))) := by
  refine sHeads_ok ?_
  unfold sHeads
  refine newK_mk ?_
  obtain ⟨r1, hr1⟩ : ∃ r1, w.heap.size = r1 := ⟨_, rfl⟩
  have h1 := ((St.start w).box #[.int .u64 0] 32).swap
  rw [hr1] at h1 ⊢
  have h1 := h1.weak (Weak.left (boxRow (n := 1) rfl (by decide)))
  refine ⟨fun a2 l2 c2 n1 w' m => ∃ i : Nat, n1 = (i : Int) ∧ i ≤ xs.length ∧ m = xs.length - i ∧ l2 = i + 1 ∧ St w w' (star (rowA 32 1 (.slice a2 (i + 1) c2) (i + 1) ((0 :: hdsF 0 (xs.take i)).map u64V)) emp),
    ⟨xs.length, 0, rfl, by omega, by omega, rfl, h1⟩, ?_⟩
  rintro w1 m a2 l2 c2 n1 ⟨i, rfl, hi, rfl, rfl, hst⟩ -
  by_cases hlt : i < xs.length
  · have hst := hst.quiet (Chg.drew w1 [])
    obtain ⟨g, rfl, hget⟩ := row_get (St.rowOf hst) (by omega)
    obtain ⟨q2, rfl, hq2⟩ := hr.chg hst.chg i (strV xs[i]) (by simp [hlt])
    refine cT (decide_eq_true (by omega)) ⟨by omega, by omega, (headF 0 (xs.take i) : Int), ?_, by omega, by omega, bs xs[i], ?_, ?_⟩
    · rw [Int.toNat_natCast, Nat.mul_one, addA]
      refine hget _ _ ?_
      rw [List.getElem?_map]
      have := hds_get 0 (xs.take i)
      rw [List.length_take, Nat.min_eq_left hi] at this
      rw [this]
      rfl
    · rw [Int.toNat_natCast]; exact hq2
    · refine usePure (rchain_c _ (headF_lt (by decide) _) (bs xs[i]) (by rw [bs_size]; exact hl _ (by simp))) fun w2 hc2 => ⟨_, rfl, ?_⟩
      have e0 : (bs xs[i]).data.toList = xs[i] := rfl
      rw [e0]
      refine app1_st sl40 (hst.quiet hc2) (news := [u64V (chainM (headF 0 (xs.take i)) xs[i])]) rfl (by simp [u64V, Value.oneCell']) (by omega) (by omega) (fun a4 c4 w4 h4 => ?_) rfl
      refine ⟨xs.length - (i + 1), by omega, i + 1, ?_, by omega, rfl, rfl, ?_⟩
      · rw [IntWalk.i64_in _ (by omega)]; omega
      · have e1 : xs.take (i + 1) = xs.take i ++ [xs[i]] := take_snoc (by simp [hlt])
        rw [e1, hdsF_append]
        simp only [List.map_append, List.map_cons, List.cons_append] at h4 ⊢
        exact h4
  · obtain rfl : i = xs.length := by omega
    rw [List.take_length] at hst
    exact cF (decide_eq_false (by omega)) ⟨a2, c2, rfl, hst.first⟩

theorem framesF_snoc (h : Nat) (l : List (List UInt8)) (s : List UInt8) : framesF h (l ++ [s]) = framesF h l ++ frameM s (chainM (headF h l) s) := by
  rw [framesF_append, framesF_cons, framesF_nil, List.append_nil]

theorem frames_take_le (h : Nat) (l : List (List UInt8)) (i : Nat) : (framesF h (l.take i)).length ≤ (framesF h l).length := by
  conv => rhs; rw [← List.take_append_drop i l, framesF_append]
  simp

theorem frames_c {w : World} {a : Option Addr} {c : Nat} {xs : List (List UInt8)} (hn : xs.length ≤ 1000000) (hl : ∀ x ∈ xs, x.length ≤ 4611686018427387904) (hf : (framesF 0 xs).length ≤ 4611686018427387904) (hr : Rd w a (xs.map strV)) :
    Calls Tryd.prog 21 #[.slice a xs.length c] w (RetC fun r w' => r = .string (bs (framesF 0 xs)) ∧ Chg w w' []) := by
  refine sFrames_ok ?_
  unfold sFrames
  refine useC (heads_c hn hl hr) ?_
  rintro _ w1 ⟨a2, c2, rfl, h1⟩
  refine ⟨a2, _, c2, rfl, ?_⟩
  refine ⟨fun s n1 w' m => ∃ i : Nat, n1 = (i : Int) ∧ i ≤ xs.length ∧ m = xs.length - i ∧ s = bs (framesF 0 (xs.take i)) ∧ St w w' (star (rowA 32 1 (.slice a2 (xs.length + 1) c2) (xs.length + 1) ((0 :: hdsF 0 xs).map u64V)) emp),
    ⟨xs.length, 0, rfl, by omega, by omega, by rw [List.take_zero, framesF_nil], h1.one⟩, ?_⟩
  rintro w2 m s n1 ⟨i, rfl, hi, rfl, rfl, hst⟩ -
  by_cases hlt : i < xs.length
  · have hst := hst.quiet (Chg.drew w2 [])
    obtain ⟨g, rfl, _⟩ := row_get (St.rowOf hst) (by omega)
    obtain ⟨q2, rfl, hq2⟩ := hr.chg hst.chg i (strV xs[i]) (by simp [hlt])
    have hw : IntKind.i64.wrap ((i : Int) + 1) = ((i + 1 : Nat) : Int) := by rw [IntWalk.i64_in _ (by omega)]; omega
    have e1 : xs.take (i + 1) = xs.take i ++ [xs[i]] := take_snoc (by simp [hlt])
    have hcell : ∀ {w' : World}, St w w' (star (rowA 32 1 (.slice (some ⟨g, 0, none⟩) (xs.length + 1) c2) (xs.length + 1) ((0 :: hdsF 0 xs).map u64V)) emp) → w'.cell? ((⟨g, 0, none⟩ : Addr).add (((i + 1 : Nat) : Int).toNat * 1)) = some (.int .u64 (headF 0 (xs.take (i + 1)) : Int)) := fun h => by
      obtain ⟨g', hg', hget⟩ := row_get (St.rowOf h) (by omega)
      cases hg'
      rw [Int.toNat_natCast, Nat.mul_one, addA]
      refine hget _ _ ?_
      rw [List.getElem?_map, hds_at 0 xs (by omega)]
      rfl
    rw [hw]
    refine cT (decide_eq_true (by omega)) ⟨by omega, by omega, bs xs[i], by rw [Int.toNat_natCast]; exact hq2, by omega, by omega, _, hcell hst, ?_⟩
    refine usePure (qtext_c (bs xs[i]) (by rw [bs_size]; exact hl _ (by simp))) fun w3 hc3 => ⟨_, rfl, hcell (hst.quiet hc3), ?_⟩
    refine usePure (eight_c _) fun w4 hc4 => ⟨_, rfl, ?_⟩
    have e0 : (bs xs[i]).data.toList = xs[i] := rfl
    have hfr := frames_take_le 0 xs (i + 1)
    have hsn := framesF_snoc 0 (xs.take i) xs[i]
    rw [← e1] at hsn
    have hhd : headF 0 (xs.take (i + 1)) = chainM (headF 0 (xs.take i)) xs[i] := by rw [e1, headF_append, headF_cons, headF_nil]
    have hln := congrArg List.length hsn
    rw [List.length_append] at hln
    have hfl : (frameM xs[i] (chainM (headF 0 (xs.take i)) xs[i])).length = (textM xs[i]).length + (leB 8 (headF 0 (xs.take (i + 1)))).length := by rw [hhd]; unfold frameM; rw [List.length_append]
    have emax : IntKind.i64.max = 9223372036854775807 := rfl
    rw [e0]
    show (((textM xs[i]).length + (leB 8 (headF 0 (xs.take (i + 1)))).length : Nat) : Int) ≤ IntKind.i64.max ∧ (((bs (framesF 0 (xs.take i))).size + (bs (textM xs[i]) ++ bs (leB 8 (headF 0 (xs.take (i + 1))))).size : Nat) : Int) ≤ IntKind.i64.max ∧ _
    rw [bs_app, bs_size, bs_size, List.length_append]
    refine ⟨by omega, by omega, xs.length - (i + 1), by omega, i + 1, rfl, by omega, rfl, ?_, (hst.quiet hc3).quiet hc4⟩
    show bs _ ++ (bs (textM xs[i]) ++ bs (leB 8 (headF 0 (xs.take (i + 1))))) = _
    rw [bs_app, bs_app, hsn, hhd]
    rfl
  · obtain rfl : i = xs.length := by omega
    rw [List.take_length]
    exact cF (decide_eq_false (by omega)) ⟨rfl, hst.chg⟩

end Go.Proofs.YtniehglfkacjjaaDoor

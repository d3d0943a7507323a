import Derived.Test.YtniehglfkacjjaaDoorjSt
import Derived.Laws.OwnMore
import Derived.Deep.Fields
namespace Go.Proofs.YtniehglfkacjjaaDoor
open Go Go.Vc

theorem app_rd {w0 w : World} {B : Asn} {v : Value} {n : Nat} {zs : List Value} (h : St w0 w (star (rowA 9 1 v n zs) B)) {a : Option Addr} {c k : Nat} {xs : List (List UInt8)} (hr : Rd w a (xs.map strV)) (hk : k ≤ xs.length)
    (hc : xs.length ≤ c) (ha : a = none → c = 0) (hb : n + xs.length ≤ 1000000) {K : Value → World → Prop}
    (kk : ∀ v' w', St w0 w' (star (rowA 9 1 v' (n + (xs.length - k)) (zs ++ (xs.drop k).map strV)) B) → K v' w') :
    rnS Tryd.prog (Builtin.append_ #[22, 22] 22 #[v, .slice (if c = k then a else Option.map (fun x => Addr.add x (k * 1)) a) (xs.length - k) (c - k)]) w K := by
  cases a with
  | none =>
    have hc0 := ha rfl
    subst hc0
    have hx : xs.length = 0 := by omega
    obtain rfl : k = 0 := by omega
    obtain ⟨i, hi, _, hs, _⟩ := sl22.i
    have e1 : (if 0 = 0 then none else Option.map (fun x => Addr.add x (0 * 1)) none : Option Addr) = none := rfl
    have hr2 := run_append_owned_none (P := Tryd.prog) (w := w) 0 22 22 9 i 1 sl22.u hi v n zs (St.rowOf h)
    refine ⟨v, w, ?_, kk v w ?_⟩
    · rw [hx]; exact hr2
    · rw [hx, List.length_eq_zero_iff.1 hx]
      simpa using h
  | some q =>
    have hdl : ((xs.drop k).map strV).length = (xs.length - k) * 1 := by simp
    have key : ∀ q', (∀ j, j < xs.length - k → q'.add j = q.add (k + j)) → rnS Tryd.prog (Builtin.append_ #[22, 22] 22 #[v, .slice (some q') (xs.length - k) (c - k)]) w K := fun q' hq' => by
      refine app_st sl22 h (m := xs.length - k) (news := (xs.drop k).map strV) hdl (fun j u hj => ?_) (fun u hu => by obtain ⟨x, _, rfl⟩ := List.mem_map.1 hu; rfl) (by omega) (by omega) kk
      have hjl : j < xs.length - k := by
        have := (List.getElem?_eq_some_iff.1 hj).1
        rw [hdl] at this; omega
      rw [List.map_drop, List.getElem?_drop] at hj
      obtain ⟨q2, hq2, hcell⟩ := hr _ _ hj
      cases hq2
      rw [hq' j hjl]
      rw [Nat.mul_one] at hcell
      exact hcell
    by_cases hck : c = k
    · rw [if_pos hck]
      exact key q fun j hj => by omega
    · rw [if_neg hck, Option.map_some]
      exact key _ fun j _ => by rw [Nat.mul_one, Go.Deep.add_add]

def proofM (xs : List (List UInt8)) (n : Int) : Nat × List (List UInt8) × Int := if 0 ≤ n ∧ n ≤ xs.length then (headF 0 (xs.take n.toNat), xs.drop n.toNat, 0) else (0, [], 4)

theorem jproof_c {w : World} {a : Option Addr} {c : Nat} {xs : List (List UInt8)} (hr : Rd w a (xs.map strV)) (hc : xs.length ≤ c) (ha : a = none → c = 0) (hn : xs.length ≤ 1000) (hl : ∀ x ∈ xs, x.length ≤ 4611686018427387904) (n : Int) :
    Calls Tryd.prog 31 #[.slice a xs.length c, .int .i64 n] w (RetC fun r w' => ∃ a2 c2, r = .tuple #[.int .u64 ((proofM xs n).1 : Int), .slice a2 (proofM xs n).2.1.length c2, .int .i64 (proofM xs n).2.2] ∧
      St w w' (rowA 9 1 (.slice a2 (proofM xs n).2.1.length c2) (proofM xs n).2.1.length ((proofM xs n).2.1.map strV))) := by
  refine jProof_ok ?_
  unfold jProof
  refine ⟨fun g w' => w' = w ∧ g = !decide (0 ≤ n ∧ n ≤ xs.length), ?_, ?_⟩
  · rintro w1 g ⟨rfl, rfl⟩ -
    by_cases hin : 0 ≤ n ∧ n ≤ xs.length
    · have hp : proofM xs n = (headF 0 (xs.take n.toNat), xs.drop n.toNat, 0) := if_pos hin
      obtain ⟨k, rfl⟩ : ∃ k : Nat, n = (k : Int) := ⟨n.toNat, by omega⟩
      have hk : k ≤ xs.length := by omega
      rw [hp]
      refine cF (by simp [hin]) ⟨by omega, by omega, ?_⟩
      refine ⟨fun n2 n3 w' m => ∃ i : Nat, n3 = (i : Int) ∧ i ≤ k ∧ m = k - i ∧ n2 = (headF 0 (xs.take i) : Int) ∧ Chg w1 w' [], ⟨k, 0, rfl, by omega, by omega, rfl, Chg.refl _ _⟩, ?_⟩
      rintro w2 m n2 n3 ⟨i, rfl, hi, rfl, rfl, hc2⟩ -
      rw [Int.toNat_natCast, Nat.sub_zero, slice0]
      by_cases hlt : i < k
      · obtain ⟨q, rfl, hq⟩ := hr.chg hc2 i (strV xs[i]) (by simp [show i < xs.length by omega])
        refine cT (decide_eq_true (by omega)) ⟨by omega, by omega, bs xs[i], by rw [Int.toNat_natCast]; exact hq, ?_⟩
        refine usePure (chain_c _ (bs xs[i]) (by rw [bs_size]; exact hl _ (by simp))) fun w3 hc3 => ⟨_, rfl, k - (i + 1), by omega, i + 1, by rw [IntWalk.i64_in _ (by omega)]; omega, by omega, rfl, ?_, hc2.trans hc3 (by simp)⟩
        rw [take_snoc (l := xs) (i := i) (a := xs[i]) (by simp [show i < xs.length by omega]), headF_append, headF_cons, headF_nil]
        rfl
      · obtain rfl : i = k := by omega
        refine cF (decide_eq_false (by omega)) ⟨by omega, by omega, ?_⟩
        have h0 := ((St.start' hc2).nilRow 9 1).swap
        refine app_rd h0 (hr.chg hc2) hk hc ha (by omega) fun v' w4 h4 => ?_
        rw [Nat.zero_add, List.nil_append] at h4
        obtain ⟨a2, c2, rfl⟩ := own_slice (St.rowOf h4)
        rw [← List.length_drop] at h4 ⊢
        exact ⟨a2, _, c2, rfl, a2, c2, rfl, h4.first⟩
    · have hp : proofM xs n = (0, [], 4) := if_neg hin
      rw [hp]
      exact cT (by simp only [hin, decide_false, Bool.not_false]) ⟨none, 0, rfl, ((St.start w1).nilRow 9 1).swap.first⟩
  · by_cases h0 : n < 0
    · refine cT (decide_eq_true h0) ⟨rfl, ?_⟩
      rw [decide_eq_false (by omega)]; rfl
    · refine cF (decide_eq_false h0) ⟨rfl, ?_⟩
      by_cases h1 : n ≤ xs.length
      · rw [decide_eq_true (show 0 ≤ n ∧ n ≤ xs.length by omega)]; exact decide_eq_false (by omega)
      · rw [decide_eq_false (show ¬ (0 ≤ n ∧ n ≤ xs.length) by omega)]; exact decide_eq_true (by omega)

theorem since_st {w0 w1 w : World} {A : Asn} (hc : Chg w0 w1 []) (h : St w1 w A) : St w0 w A :=
  let ⟨F, hF, hc', hn⟩ := h
  ⟨F, hF, hc.trans hc' (by simp), fun k hk => Nat.le_trans hc.size (hn k hk)⟩

theorem emptyRow {w0 w : World} {A : Asn} (h : St w0 w A) : St w0 (w.alloc (.cells #[] 9)) (star (rowA 9 1 (.slice (some ⟨w.heap.size, 0, none⟩) 0 0) 0 []) A) :=
  ((h.box #[] 9).swap).weak (Weak.left (boxRow (cs := #[]) (n := 0) rfl (by decide)))

theorem sproof_c {w : World} {a : Option Addr} {c : Nat} {xs : List (List UInt8)} (hr : Rd w a (xs.map strV)) (hc : xs.length ≤ c) (ha : a = none → c = 0) (hn : xs.length ≤ 1000) (hl : ∀ x ∈ xs, x.length ≤ 4611686018427387904) (n : Int) :
    Calls Tryd.prog 32 #[.slice a xs.length c, .int .i64 n] w (RetC fun r w' => ∃ a2 c2, r = .tuple #[.int .u64 ((proofM xs n).1 : Int), .slice a2 (proofM xs n).2.1.length c2, .int .i64 (proofM xs n).2.2] ∧
      St w w' (rowA 9 1 (.slice a2 (proofM xs n).2.1.length c2) (proofM xs n).2.1.length ((proofM xs n).2.1.map strV))) := by
  refine sProof_ok ?_
  unfold sProof
  refine ⟨fun g w' => w' = w ∧ g = !decide (0 ≤ n ∧ n ≤ xs.length), ?_, ?_⟩
  · rintro w1 g ⟨rfl, rfl⟩ -
    by_cases hin : 0 ≤ n ∧ n ≤ xs.length
    · have hp : proofM xs n = (headF 0 (xs.take n.toNat), xs.drop n.toNat, 0) := if_pos hin
      obtain ⟨k, rfl⟩ : ∃ k : Nat, n = (k : Int) := ⟨n.toNat, by omega⟩
      have hk : k ≤ xs.length := by omega
      rw [hp]
      have hcell : ∀ {w' : World} {a2 : Option Addr} {c2 : Nat}, w'.ownsRow 0 32 1 (.slice a2 (xs.length + 1) c2) (xs.length + 1) ((0 :: hdsF 0 xs).map u64V) → ∃ g, a2 = some ⟨g, 0, none⟩ ∧ w'.cell? ((⟨g, 0, none⟩ : Addr).add ((k : Int).toNat * 1)) = some (.int .u64 (headF 0 (xs.take k) : Int)) := fun own => by
        obtain ⟨g, hg, hget⟩ := row_get own (by omega)
        refine ⟨g, hg, ?_⟩
        rw [Int.toNat_natCast, Nat.mul_one, addA]
        refine hget _ _ ?_
        rw [List.getElem?_map, hds_at 0 xs hk]
        rfl
      refine cF (by simp [hin]) ⟨by omega, by omega, ?_, ?_⟩
      · refine useC (heads_c (by omega) hl (hr.chg (Chg.drew w1 []))) ?_
        rintro _ w2 ⟨a2, c2, rfl, h2⟩
        obtain ⟨g, rfl, hg⟩ := hcell (St.rowOf h2.one)
        refine ⟨_, _, c2, rfl, by omega, by omega, _, hg, newK_mk ?_⟩
        have h3 := emptyRow h2.one
        obtain ⟨g', hg', hg3⟩ := hcell (h3.out (l := [_, _]) 1 rfl).rowOf
        cases hg'
        refine ⟨hg3, ?_⟩
        have hcw : Chg w1 (w2.alloc (.cells #[] 9)) [] := (Chg.drew w1 []).trans h3.chg (by simp)
        rw [Int.toNat_natCast]
        refine app_rd h3 (hr.chg hcw) hk hc ha (by omega) fun v' w4 h4 => ?_
        rw [Nat.zero_add, List.nil_append] at h4
        obtain ⟨a3, c3, rfl⟩ := own_slice (St.rowOf h4)
        obtain ⟨g', hg', hg4⟩ := hcell (h4.out (l := [_, _]) 1 rfl).rowOf
        cases hg'
        rw [← List.length_drop] at h4 ⊢
        exact ⟨a3, _, c3, rfl, hg4, a3, c3, rfl, since_st (Chg.drew w1 []) h4.first⟩
      · refine newK_mk ?_
        have h3 := emptyRow ((St.start w1).quiet (Chg.drew w1 []))
        obtain ⟨r2, hr2⟩ : ∃ r2, w1.drew.heap.size = r2 := ⟨_, rfl⟩
        rw [hr2] at h3 ⊢
        refine useC (heads_c (by omega) hl (hr.chg h3.chg)) ?_
        rintro _ w2 ⟨a2, c2, rfl, h2⟩
        obtain ⟨g, rfl, hg⟩ := hcell (St.rowOf h2.one)
        refine ⟨_, _, c2, rfl, by omega, by omega, _, hg, ?_⟩
        have h5 := (Go.Proofs.YtniehglfkacjjaaDoor.St.after h3 h2).rot
        rw [Int.toNat_natCast]
        refine app_rd h5 (hr.chg h5.chg) hk hc ha (by omega) fun v' w4 h4 => ?_
        rw [Nat.zero_add, List.nil_append] at h4
        obtain ⟨a3, c3, rfl⟩ := own_slice (St.rowOf h4)
        obtain ⟨g', hg', hg4⟩ := hcell (h4.out (l := [_, _]) 1 rfl).rowOf
        cases hg'
        rw [← List.length_drop] at h4 ⊢
        exact ⟨a3, _, c3, rfl, hg4, a3, c3, rfl, h4.first⟩
    · have hp : proofM xs n = (0, [], 4) := if_neg hin
      rw [hp]
      exact cT (by simp only [hin, decide_false, Bool.not_false]) ⟨none, 0, rfl, ((St.start w1).nilRow 9 1).swap.first⟩
  · by_cases h0 : n < 0
    · refine cT (decide_eq_true h0) ⟨rfl, ?_⟩
      rw [decide_eq_false (by omega)]; rfl
    · refine cF (decide_eq_false h0) ⟨rfl, ?_⟩
      by_cases h1 : n ≤ xs.length
      · rw [decide_eq_true (show 0 ≤ n ∧ n ≤ xs.length by omega)]; exact decide_eq_false (by omega)
      · rw [decide_eq_false (show ¬ (0 ≤ n ∧ n ≤ xs.length) by omega)]; exact decide_eq_true (by omega)

end Go.Proofs.YtniehglfkacjjaaDoor

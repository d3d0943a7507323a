import Derived.Test.YtniehglfkacjjaaDoorjAs
import Derived.Test.YtniehglfkacjjaaDoorjShE
namespace Go.Proofs.YtniehglfkacjjaaDoor
open Go Go.Vc

/-- The variable that holds the type 'error' for errors.As. -/
def ErrT (w : World) : Prop := w.cell? ⟨0, 0, none⟩ = some (.iface 101 (.agg #[.pointer (some ⟨1, 73, none⟩)]))

theorem ErrT.chg {w w' : World} (h : ErrT w) (hc : Chg w w' []) : ErrT w' := cell_chg h hc

theorem codeE_c (n : Int) (w : World) (hg : ErrT w) : Calls Tryd.prog 58 #[.iface 25 (.int .i64 n)] w (RetC fun r w' => r = .int .i64 n ∧ Chg w w' []) := by
  refine jCodeE_ok (newK_mk ?_)
  obtain ⟨t, ht⟩ : ∃ t, w.heap.size = t := ⟨_, rfl⟩
  have hc0 : Chg w (w.alloc (.cells #[.int .i64 0] 25)) [] := Chg.new _ _ _
  have ho : (w.alloc (.cells #[.int .i64 0] 25)).heap[t]? = some (.cells #[.int .i64 0] 25 (0, 0)) := by rw [heap_new, if_pos ht.symm]
  rw [ht]
  generalize w.alloc (.cells #[.int .i64 0] 25) = w1 at hc0 ho
  have hg1 := hg.chg hc0
  refine (as_hit n ⟨t, 0, none⟩ (.int .i64 0) w1 hg1 (by rw [cell_blk, ho, getC_cells]; rfl) (by rw [frozen_blk, ho, getF_cells])).mono ?_
  rintro _ w2 ⟨he, rfl⟩
  refine ⟨true, he, cT rfl ?_⟩
  have hlt := lt_of_heap ho
  refine ⟨n, ?_, rfl, ?_⟩
  · rw [cell_blk, heap_set, if_pos rfl, heap_new, if_neg (by simp; omega), heap_new, if_neg (by simp; omega), heap_new, if_neg (by simp; omega), heap_new, if_neg (by omega), ho]
    rfl
  · refine hc0.trans (Chg.trans (F := [t]) ((Chg.new _ _ _).trans ((Chg.new _ _ []).trans ((Chg.new _ _ []).trans (Chg.new _ _ []) (by simp)) (by simp)) (by simp)) (Chg.set _ t 0 _ (F := [t]) (by simp)) (fun i hi => .inl hi)) (fun i hi => .inr (by simp at hi; omega))

theorem addA2 (g i j : Nat) : (⟨g, i, none⟩ : Addr).add j = ⟨g, i + j, none⟩ := by unfold Addr.add; split <;> simp_all

def errV (n : Int) : Value := if n = 0 then .nilIface else .iface 25 (.int .i64 n)

theorem failure_c (n : Int) : PureC 39 #[.int .i64 n] (errV n) := fun w => by
  refine jFailure_ok ?_
  unfold jFailure errV
  by_cases h : n = 0
  · rw [if_pos h]; exact cT (by simp [h]) ⟨rfl, Chg.refl _ _⟩
  · rw [if_neg h]; exact cF (by simp [h]) ⟨rfl, Chg.refl _ _⟩

theorem codeV_c (n : Int) (w : World) (hg : n = 0 ∨ ErrT w) : Calls Tryd.prog 58 #[errV n] w (RetC fun r w' => r = .int .i64 n ∧ Chg w w' []) := by
  unfold errV
  by_cases h : n = 0
  · rw [if_pos h, h]; exact codeN_c w
  · rw [if_neg h]; exact codeE_c n w (hg.resolve_left h)

section jou
variable {w0 w : World} {x b dur : Nat} {es : List Ent} {stp : Bool} {B : Asn}

theorem jou_open (h : St w0 w (star (jouA x b es dur stp) B)) : ∃ a c, St w0 w (Sep [boxA x #[.pointer (some ⟨b, 0, none⟩), .slice a es.length c, .int .i64 (dur : Int), .bool stp] 64, rowA 69 3 (.slice a es.length c) es.length (es.flatMap entC), B]) := by
  obtain ⟨v, h⟩ := h.ex
  have h := h.pair'.two
  obtain ⟨a, c, rfl⟩ := own_slice (h.rowAt 1 rfl)
  exact ⟨a, c, h⟩

theorem jou_shut {v : Value} (h : St w0 w (Sep [boxA x #[.pointer (some ⟨b, 0, none⟩), v, .int .i64 (dur : Int), .bool stp] 64, rowA 69 3 v es.length (es.flatMap entC), B])) : St w0 w (star (jouA x b es dur stp) B) :=
  St.mkEx (f := fun v : Value => star (boxA x #[.pointer (some ⟨b, 0, none⟩), v, .int .i64 (dur : Int), .bool stp] 64) (rowA 69 3 v es.length (es.flatMap entC))) v h.join.pair

theorem check_st (h : St w0 w (star (jouA x b es dur stp) B)) (n : Int) (hg : n = 0 ∨ ErrT w0) :
    Calls Tryd.prog 38 #[.pointer (some ⟨x, 0, none⟩), errV n] w (RetC fun r w' => r = .int .i64 n ∧ St w0 w' (star (jouA x b es dur (stp || (n != 0 && n != 18))) B)) := by
  refine jcheck_ok ?_
  unfold jcheck
  refine useC (codeV_c n w (hg.imp_right fun hg => hg.chg h.chg)) ?_
  rintro _ w1 ⟨rfl, hc⟩
  have h1 := h.quiet hc
  refine ⟨n, rfl, fun w' => St w0 w' (star (jouA x b es dur (stp || (n != 0 && n != 18))) B), fun w2 h2 _ => ⟨rfl, h2⟩, fun g w' => g = (n != 0 && n != 18) ∧ St w0 w' (star (jouA x b es dur stp) B), ?_, ?_⟩
  · rintro w2 g ⟨hgg, h2⟩ -
    subst hgg
    cases hn : (n != 0 && n != 18) with
    | false => refine cF rfl ?_; rw [Bool.or_false]; exact h2
    | true =>
      obtain ⟨a, c, h3⟩ := jou_open h2
      refine cT rfl (h3.stAt 0 rfl (by show 3 < 4; decide) rfl fun w3 h3 => ?_)
      rw [Bool.or_true]
      exact jou_shut h3
  · by_cases hn : n = 0
    · exact cF (by simp [hn]) ⟨by simp [hn], h1⟩
    · exact cT (by simp [hn]) ⟨by simp [hn], h1⟩

def jhead (es : List Ent) : Nat := (es.getLast?.map (·.head)).getD 0

theorem entC_get {es : List Ent} {i : Nat} {e : Ent} (h : es[i]? = some e) (j : Nat) (hj : j < 3) : (es.flatMap entC)[i * 3 + j]? = (entC e)[j]? := by
  induction es generalizing i with
  | nil => simp at h
  | cons d es ih =>
    rw [List.flatMap_cons]
    cases i with
    | zero =>
      simp at h; subst h
      rw [List.getElem?_append_left (by show 0 * 3 + j < 3; omega)]
      simp
    | succ i =>
      rw [List.getElem?_append_right (by show 3 ≤ (i + 1) * 3 + j; omega)]
      have : (i + 1) * 3 + j - (entC d).length = i * 3 + j := by show (i + 1) * 3 + j - 3 = i * 3 + j; omega
      rw [this]
      exact ih (by simpa using h)

theorem row_get {e : TypeId} {sz n : Nat} {a : Option Addr} {c : Nat} {xs : List Value} (own : w.ownsRow 0 e sz (.slice a n c) n xs) (hn : 0 < n) : ∃ g, a = some ⟨g, 0, none⟩ ∧ ∀ (k : Nat) (v : Value), xs[k]? = some v → w.cell? ⟨g, k, none⟩ = some v := by
  rcases own.2 with ⟨hv, rfl⟩ | ⟨g, cap, cur, hv, _, hg, h1, _, h3, h4⟩
  · omega
  · cases hv
    refine ⟨g, rfl, fun k v hk => ?_⟩
    rw [cell_blk, hg, getC_cells, ← Array.getElem?_toList, ← hk, ← h4, List.getElem?_take]
    rw [← h4, List.getElem?_take] at hk
    split at hk
    · rename_i hlt; rw [if_pos hlt]
    · cases hk

theorem count_j (h : St w0 w (star (jouA x b es dur stp) B)) : Calls Tryd.prog 16 #[.pointer (some ⟨x, 0, none⟩)] w (RetC fun r w' => r = .int .i64 (es.length : Int) ∧ w' = w) := by
  obtain ⟨a, c, h⟩ := jou_open h
  exact jCount_ok ⟨a, _, c, h.boxedAt 0 rfl 1, rfl, rfl⟩

theorem durable_j (h : St w0 w (star (jouA x b es dur stp) B)) : Calls Tryd.prog 17 #[.pointer (some ⟨x, 0, none⟩)] w (RetC fun r w' => r = .int .i64 (dur : Int) ∧ w' = w) := by
  obtain ⟨a, c, h⟩ := jou_open h
  exact jDurable_ok ⟨_, h.boxedAt 0 rfl 2, rfl, rfl⟩

theorem record_j (h : St w0 w (star (jouA x b es dur stp) B)) {i : Nat} {e : Ent} (he : es[i]? = some e) : Calls Tryd.prog 18 #[.pointer (some ⟨x, 0, none⟩), .int .i64 (i : Int)] w (RetC fun r w' => r = .tuple #[.string (bs e.s), .int .i64 0] ∧ w' = w) := by
  obtain ⟨a, c, h⟩ := jou_open h
  have hi : i < es.length := (List.getElem?_eq_some_iff.1 he).1
  refine jRecord_ok ?_
  unfold jRecord
  refine ⟨fun g w' => g = false ∧ w' = w, ?_, cF (decide_eq_false (by omega)) ⟨a, _, c, h.boxedAt 0 rfl 1, decide_eq_false (by omega), rfl⟩⟩
  rintro w1 g ⟨rfl, rfl⟩ -
  obtain ⟨g, rfl, hget⟩ := row_get (h.rowAt 1 rfl) (by omega)
  refine cF rfl ⟨_, _, c, h.boxedAt 0 rfl 1, by omega, by omega, bs e.s, ?_, rfl, rfl⟩
  rw [Int.toNat_natCast, addA]
  refine hget _ _ ?_
  have := entC_get he 0 (by decide)
  rw [Nat.add_zero] at this
  rw [this]
  rfl

theorem recordX_j (h : St w0 w (star (jouA x b es dur stp) B)) {n : Int} (hn : n < 0 ∨ es.length ≤ n) : Calls Tryd.prog 18 #[.pointer (some ⟨x, 0, none⟩), .int .i64 n] w (RetC fun r w' => r = .tuple #[.string (bs []), .int .i64 4] ∧ w' = w) := by
  obtain ⟨a, c, h⟩ := jou_open h
  refine jRecord_ok ?_
  unfold jRecord
  refine ⟨fun g w' => g = true ∧ w' = w, ?_, ?_⟩
  · rintro w1 g ⟨rfl, rfl⟩ -
    exact cT rfl ⟨rfl, rfl⟩
  · by_cases h0 : n < 0
    · exact cT (decide_eq_true h0) ⟨rfl, rfl⟩
    · exact cF (decide_eq_false h0) ⟨a, _, c, h.boxedAt 0 rfl 1, decide_eq_true (by omega), rfl⟩

theorem head_j (h : St w0 w (star (jouA x b es dur stp) B)) (hs : es.length ≤ 9223372036854775807) : Calls Tryd.prog 27 #[.pointer (some ⟨x, 0, none⟩)] w (RetC fun r w' => r = .int .u64 (jhead es : Int) ∧ Chg w w' []) := by
  obtain ⟨a, c, h⟩ := jou_open h
  refine jHead_ok ?_
  unfold jHead
  refine ⟨fun g w' => g = decide (es.length = 0) ∧ w' = w, ?_, a, _, c, h.boxedAt 0 rfl 1, by rw [Bool.eq_iff_iff]; simp, rfl⟩
  rintro w1 g ⟨rfl, rfl⟩ -
  by_cases h0 : es.length = 0
  · refine cT (decide_eq_true h0) ⟨?_, Chg.refl _ _⟩
    rw [List.length_eq_zero_iff.1 h0]; rfl
  · have hl := h.quiet (Chg.drew w1 [])
    obtain ⟨g, rfl, hget⟩ := row_get (hl.rowAt 1 rfl) (by omega)
    obtain ⟨e, he⟩ : ∃ e, es[es.length - 1]? = some e := ⟨es[es.length - 1], by simp [show es.length - 1 < es.length by omega]⟩
    have hw : IntKind.i64.wrap ((es.length : Int) - 1) = ((es.length - 1 : Nat) : Int) := by rw [IntWalk.i64_in _ (by omega)]; omega
    refine cF (decide_eq_false h0) ⟨_, _, c, hl.boxedAt 0 rfl 1, _, _, c, hl.boxedAt 0 rfl 1, by rw [hw]; omega, by rw [hw]; omega, e.head, ?_, ?_, Chg.drew _ _⟩
    · rw [hw, Int.toNat_natCast, addA, addA2]
      exact hget _ _ (by rw [entC_get he 1 (by decide)]; rfl)
    · unfold jhead
      rw [List.getLast?_eq_getElem?, he]; rfl

theorem headAt_j (h : St w0 w (star (jouA x b es dur stp) B)) (hs : es.length ≤ 9223372036854775807) {n : Nat} (hn : n ≤ es.length) : Calls Tryd.prog 34 #[.pointer (some ⟨x, 0, none⟩), .int .i64 (n : Int)] w (RetC fun r w' => r = .tuple #[.int .u64 (jhead (es.take n) : Int), .int .i64 0] ∧ w' = w) := by
  obtain ⟨a, c, h⟩ := jou_open h
  refine jHeadAt_ok ?_
  unfold jHeadAt
  refine ⟨fun g w' => g = false ∧ w' = w, ?_, cF (decide_eq_false (by omega)) ⟨a, _, c, h.boxedAt 0 rfl 1, decide_eq_false (by omega), rfl⟩⟩
  rintro w1 g ⟨rfl, rfl⟩ -
  refine cF rfl ?_
  by_cases h0 : n = 0
  · subst h0
    exact cT rfl ⟨rfl, rfl⟩
  · obtain ⟨g, rfl, hget⟩ := row_get (h.rowAt 1 rfl) (by omega)
    obtain ⟨e, he⟩ : ∃ e, es[n - 1]? = some e := ⟨es[n - 1], by simp [show n - 1 < es.length by omega]⟩
    have hw : IntKind.i64.wrap ((n : Int) - 1) = ((n - 1 : Nat) : Int) := by rw [IntWalk.i64_in _ (by omega)]; omega
    refine cF (by simp [h0]) ⟨_, _, c, h.boxedAt 0 rfl 1, by rw [hw]; omega, by rw [hw]; omega, e.head, ?_, ?_, rfl⟩
    · rw [hw, Int.toNat_natCast, addA, addA2]
      exact hget _ _ (by rw [entC_get he 1 (by decide)]; rfl)
    · unfold jhead
      rw [List.getLast?_take, if_neg h0, he]; rfl

theorem headAtX_j (h : St w0 w (star (jouA x b es dur stp) B)) {n : Int} (hn : n < 0 ∨ es.length < n) : Calls Tryd.prog 34 #[.pointer (some ⟨x, 0, none⟩), .int .i64 n] w (RetC fun r w' => r = .tuple #[.int .u64 0, .int .i64 4] ∧ w' = w) := by
  obtain ⟨a, c, h⟩ := jou_open h
  refine jHeadAt_ok ?_
  unfold jHeadAt
  refine ⟨fun g w' => g = true ∧ w' = w, ?_, ?_⟩
  · rintro w1 g ⟨rfl, rfl⟩ -
    exact cT rfl ⟨rfl, rfl⟩
  · by_cases h0 : n < 0
    · exact cT (decide_eq_true h0) ⟨rfl, rfl⟩
    · exact cF (decide_eq_false h0) ⟨a, _, c, h.boxedAt 0 rfl 1, decide_eq_true (by omega), rfl⟩

/-- What Append does: the head, the error, the entries, whether it is stopped, the medium. -/
structure JO where
  head : Nat
  err : Int
  es : List Ent
  stp : Bool
  s : MS

def appJ (es : List Ent) (stp : Bool) (s : MS) (rc : List UInt8) : JO :=
  if 4000 < rc.length then ⟨0, 3, es, stp, s⟩ else if stp = true then ⟨0, 19, es, stp, s⟩ else
  if (s.app (frameM rc (chainM (jhead es) rc))).1 = 0 then ⟨chainM (jhead es) rc, 0, es ++ [⟨rc, chainM (jhead es) rc, 0⟩], stp, (s.app (frameM rc (chainM (jhead es) rc))).2⟩
  else ⟨0, (s.app (frameM rc (chainM (jhead es) rc))).1, es, (s.app (frameM rc (chainM (jhead es) rc))).1 != 18, (s.app (frameM rc (chainM (jhead es) rc))).2⟩

theorem append_j {s : MS} (h : St w0 w (star (jouA x b es dur stp) (star (medA b s) B))) (ho : s.Ok) (hs : es.length ≤ 1000000000) (rc : List UInt8) (hr : rc.length ≤ 4611686018427387904)
    (hg : (s.app (frameM rc (chainM (jhead es) rc))).1 = 0 ∨ ErrT w0) :
    Calls Tryd.prog 14 #[.pointer (some ⟨x, 0, none⟩), .string (bs rc)] w (RetC fun r w' => r = .tuple #[.int .u64 ((appJ es stp s rc).head : Int), .int .i64 (appJ es stp s rc).err] ∧
      St w0 w' (star (jouA x b (appJ es stp s rc).es dur (appJ es stp s rc).stp) (star (medA b (appJ es stp s rc).s) B))) := by
  refine jAppend_ok ?_
  unfold jAppend appJ
  by_cases h4 : 4000 < rc.length
  · rw [if_pos h4]
    exact cT (decide_eq_true (by rw [bs_size]; omega)) ⟨rfl, h⟩
  rw [if_neg h4]
  obtain ⟨a, c, h1⟩ := jou_open h
  refine cF (decide_eq_false (by rw [bs_size]; omega)) ⟨stp, h1.boxedAt 0 rfl 3, ?_⟩
  cases stp with
  | true => exact cT rfl ⟨rfl, h⟩
  | false =>
    rw [if_neg (by decide)]
    refine cF rfl (useC (head_j h (by omega)) ?_)
    rintro _ w1 ⟨rfl, hc1⟩
    have h1 := h.quiet hc1
    refine ⟨_, rfl, usePure (chain_c (jhead es) (bs rc) (by rw [bs_size]; omega)) fun w2 hc2 => ⟨_, rfl, ?_⟩⟩
    have h2 := (h1.quiet hc2).quiet (Chg.drew w2 [])
    have e0 : (bs rc).data.toList = rc := rfl
    rw [e0]
    obtain ⟨hd, hhd⟩ : ∃ hd, chainM (jhead es) rc = hd := ⟨_, rfl⟩
    rw [hhd] at hg ⊢
    obtain ⟨a, c, k2⟩ := jou_open h2
    refine ⟨_, k2.boxedAt 0 rfl 0, usePure (frame_c (bs rc) (by rw [bs_size]; omega) hd) fun w3 hc3 => ⟨_, rfl, ?_⟩⟩
    rw [e0]
    have h3 := h2.quiet hc3
    obtain ⟨a, c, k3⟩ := jou_open h3
    refine ⟨k3.boxedAt 0 rfl 0, useC (append_st h3.rot ho ⟨(frameM rc hd).toArray⟩) ?_⟩
    rintro _ w4 ⟨rfl, h4⟩
    have h4 := h4.rot
    refine ⟨_, rfl, usePure (failure_c _) fun w5 hc5 => ⟨_, rfl, useC (check_st (h4.quiet hc5) _ hg) ?_⟩⟩
    rintro _ w6 ⟨rfl, h6⟩
    refine ⟨_, rfl, ?_⟩
    by_cases hz : (s.app (frameM rc hd)).1 = 0
    · rw [if_pos hz]
      have hb : (false || ((s.app (frameM rc hd)).1 != 0 && (s.app (frameM rc hd)).1 != 18)) = false := by simp [hz]
      have h6 : St w0 w6 (star (jouA x b es dur false) (star (medA b (s.app (frameM rc hd)).2) B)) := by rw [← hb]; exact h6
      obtain ⟨a, c, k6⟩ := jou_open h6
      refine cF (by rw [show (s.app (ByteArray.mk (frameM rc hd).toArray).data.toList).1 = 0 from hz]; rfl) ⟨a, _, c, k6.boxedAt 0 rfl 1, ?_⟩
      refine app1_st sl62 (k6.out 1 rfl) (news := entC ⟨rc, hd, 0⟩) rfl (by simp [entC, Value.oneCell']) (by omega) (by omega) (fun a4 c4 w8 h8 => ?_) rfl
      have h8 := h8.back (i := 1) (by show 1 < 3; decide)
      refine h8.stAt 0 rfl (by show 1 < 4; decide) rfl fun w9 h9 => ⟨rfl, ?_⟩
      have hl : (es ++ [(⟨rc, hd, 0⟩ : Ent)]).length = es.length + 1 := by simp
      have hm : (es ++ [(⟨rc, hd, 0⟩ : Ent)]).flatMap entC = es.flatMap entC ++ entC ⟨rc, hd, 0⟩ := by simp
      refine jou_shut (v := .slice a4 (es.length + 1) c4) ?_
      rw [hl, hm]
      exact h9
    · rw [if_neg hz]
      refine cT (by simp; exact hz) ⟨rfl, ?_⟩
      have hb : (false || ((s.app (frameM rc hd)).1 != 0 && (s.app (frameM rc hd)).1 != 18)) = ((s.app (frameM rc hd)).1 != 18) := by simp [hz]
      rw [← hb]
      exact h6

/-- What Sync does: the error, how many are durable, whether it is stopped, the medium. -/
def synJ (es : List Ent) (dur : Nat) (stp : Bool) (s : MS) : Int × Nat × Bool × MS :=
  if stp = true then (19, dur, stp, s) else if s.syn.1 = 0 then (0, es.length, stp, s.syn.2) else (s.syn.1, dur, s.syn.1 != 18, s.syn.2)

theorem sync_j {s : MS} (h : St w0 w (star (jouA x b es dur stp) (star (medA b s) B))) (ho : s.Ok) (hg : s.syn.1 = 0 ∨ ErrT w0) :
    Calls Tryd.prog 13 #[.pointer (some ⟨x, 0, none⟩)] w (RetC fun r w' => r = .int .i64 (synJ es dur stp s).1 ∧
      St w0 w' (star (jouA x b es (synJ es dur stp s).2.1 (synJ es dur stp s).2.2.1) (star (medA b (synJ es dur stp s).2.2.2) B))) := by
  refine jSync_ok ?_
  unfold jSync synJ
  obtain ⟨a, c, h1⟩ := jou_open h
  refine ⟨stp, h1.boxedAt 0 rfl 3, ?_⟩
  cases stp with
  | true => exact cT rfl ⟨rfl, h⟩
  | false =>
    rw [if_neg (by decide)]
    refine cF rfl ⟨_, h1.boxedAt 0 rfl 0, useC (sync_st h.rot ho) ?_⟩
    rintro _ w4 ⟨rfl, h4⟩
    have h4 := h4.rot
    refine ⟨_, rfl, usePure (failure_c _) fun w5 hc5 => ⟨_, rfl, useC (check_st (h4.quiet hc5) _ hg) ?_⟩⟩
    rintro _ w6 ⟨rfl, h6⟩
    refine ⟨_, rfl, ?_⟩
    by_cases hz : s.syn.1 = 0
    · rw [if_pos hz]
      rw [show (false || (s.syn.1 != 0 && s.syn.1 != 18)) = false by simp [hz]] at h6
      obtain ⟨a, c, k6⟩ := jou_open h6
      refine cF (by rw [hz]; rfl) ⟨a, _, c, k6.boxedAt 0 rfl 1, ?_⟩
      exact k6.stAt 0 rfl (by show 2 < 4; decide) rfl fun w9 h9 => ⟨rfl, jou_shut h9⟩
    · rw [if_neg hz]
      refine cT (by simp; exact hz) ⟨rfl, ?_⟩
      rw [show (false || (s.syn.1 != 0 && s.syn.1 != 18)) = (s.syn.1 != 18) by simp [hz]] at h6
      exact h6

end jou
end Go.Proofs.YtniehglfkacjjaaDoor

import Derived.Test.YtniehglfkacjjaaDoorjSt
namespace Go.Proofs.YtniehglfkacjjaaDoor
open Go Go.Vc

theorem textM60 {x : List UInt8} (h : x.length ≤ 60) : (textM x).length ≤ 70 := by have := textM_len x; omega

theorem frames60 : ∀ (l : List (List UInt8)) (h : Nat), (∀ x ∈ l, x.length ≤ 60) → (framesF h l).length ≤ 78 * l.length
  | [], _, _ => by simp [framesF]
  | x :: l, h, hl => by
    have h1 := frames60 l (chainM h x) fun y hy => hl y (by simp [hy])
    have h2 := textM60 (hl x (by simp))
    rw [framesF_cons, List.length_append, frame_len, List.length_cons]
    omega

/-- What is known of a medium and its journal while nothing goes wrong. -/
structure Good (es : List Ent) (l : List (List UInt8)) (s : MS) (n : Int) : Prop where
  has : Has es l
  b : s.b = framesF 0 l
  ok : s.Ok
  dn : s.down = false
  lf : s.left = none
  sz : s.size = n

theorem Good.snoc {es : List Ent} {l : List (List UInt8)} {s : MS} {n : Int} (h : Good es l s n) {x : List UInt8} (hx : x.length ≤ 60) (hl : ∀ y ∈ l, y.length ≤ 60) (hn : (l.length : Int) * 78 + 78 ≤ n) :
    appJ es false s x = ⟨headF 0 (l ++ [x]), 0, es ++ [⟨x, headF 0 (l ++ [x]), 0⟩], false, { s with b := framesF 0 (l ++ [x]) }⟩ ∧ Good (es ++ [⟨x, headF 0 (l ++ [x]), 0⟩]) (l ++ [x]) { s with b := framesF 0 (l ++ [x]) } n ∧ (s.app (frameM x (chainM (jhead es) x))).1 = 0 := by
  have hh : chainM (jhead es) x = headF 0 (l ++ [x]) := by rw [h.has.head, headF_append, headF_cons, headF_nil]
  have hb : s.b ++ frameM x (chainM (jhead es) x) = framesF 0 (l ++ [x]) := by rw [framesF_snoc, h.b, ← h.has.head]
  have hfl : (framesF 0 (l ++ [x])).length ≤ 78 * (l ++ [x]).length := frames60 _ _ fun y hy => by
    rcases List.mem_append.1 hy with h | h
    · exact hl y h
    · rw [List.mem_singleton.1 h]; exact hx
  have hln : (l ++ [x]).length = l.length + 1 := by simp
  have hbl := congrArg List.length hb
  rw [List.length_append] at hbl
  have hfit : (s.b.length : Int) + (frameM x (chainM (jhead es) x)).length ≤ s.size := by rw [h.sz]; omega
  have hap := app_fits h.dn h.lf hfit
  have hok := MS.app_ok h.ok (frameM x (chainM (jhead es) x))
  refine ⟨?_, ⟨?_, rfl, ?_, h.dn, h.lf, h.sz⟩, by rw [hap]⟩
  · rw [appJ_fits (by omega) h.dn h.lf hfit, hb, hh]
  · rw [← hh]; exact h.has.snoc x 0
  · rw [hap, hb] at hok
    exact hok

theorem Good.init (n : Int) (hn : ¬ (n < 1 ∨ 262144 < n)) : Good [] [] (ms0 n) n := ⟨Has.nil, rfl, okNew hn, rfl, rfl, rfl⟩

theorem take_succ' {α : Type} {l : List α} {i : Nat} (h : i < l.length) : l.take (i + 1) = l.take i ++ [l[i]] := take_snoc (by simp [h])

theorem hds_take : ∀ (l : List (List UInt8)) (h k : Nat), hdsF h (l.take k) = (hdsF h l).take k
  | [], h, k => by simp [hdsF]
  | x :: l, h, 0 => by simp [hdsF]
  | x :: l, h, k + 1 => by rw [List.take_succ_cons, hdsF_cons, hdsF_cons, List.take_succ_cons, hds_take l]

theorem Has.take {es : List Ent} {l : List (List UInt8)} (h : Has es l) (k : Nat) : Has (es.take k) (l.take k) :=
  ⟨by rw [List.map_take, h.s], by rw [List.map_take, h.h, hds_take]⟩

/-- HeadAt and Record at any number. -/
theorem headAtA_j {w0 w : World} {x b dur : Nat} {es : List Ent} {stp : Bool} {B : Asn} (h : St w0 w (star (jouA x b es dur stp) B)) (hs : es.length ≤ 9223372036854775807) (n : Int) :
    Calls Tryd.prog 34 #[.pointer (some ⟨x, 0, none⟩), .int .i64 n] w (RetC fun r w' => ∃ (hd : Nat) (e : Int), r = .tuple #[.int .u64 (hd : Int), .int .i64 e] ∧ w' = w ∧ ((0 ≤ n ∧ n ≤ es.length ∧ e = 0 ∧ hd = jhead (es.take n.toNat)) ∨ (¬ (0 ≤ n ∧ n ≤ es.length) ∧ e = 4 ∧ hd = 0))) := by
  by_cases hin : 0 ≤ n ∧ n ≤ es.length
  · obtain ⟨k, rfl⟩ : ∃ k : Nat, n = (k : Int) := ⟨n.toNat, by omega⟩
    exact (headAt_j h hs (n := k) (by omega)).mono fun e w' ⟨v, he, hv, hw⟩ => ⟨v, he, _, 0, hv, hw, .inl ⟨hin.1, hin.2, rfl, rfl⟩⟩
  · exact (headAtX_j h (by omega)).mono fun e w' ⟨v, he, hv, hw⟩ => ⟨v, he, 0, 4, hv, hw, .inr ⟨hin, rfl, rfl⟩⟩

theorem recordA_j {w0 w : World} {x b dur : Nat} {es : List Ent} {stp : Bool} {B : Asn} (h : St w0 w (star (jouA x b es dur stp) B)) (n : Int) :
    Calls Tryd.prog 18 #[.pointer (some ⟨x, 0, none⟩), .int .i64 n] w (RetC fun r w' => ∃ (s : ByteArray) (e : Int), r = .tuple #[.string s, .int .i64 e] ∧ w' = w ∧ ((0 ≤ n ∧ n < es.length ∧ e = 0) ∨ (¬ (0 ≤ n ∧ n < es.length) ∧ e = 4))) := by
  by_cases hin : 0 ≤ n ∧ n < es.length
  · obtain ⟨k, rfl⟩ : ∃ k : Nat, n = (k : Int) := ⟨n.toNat, by omega⟩
    exact (record_j h (i := k) (e := es[k]'(by omega)) (by simp [show k < es.length by omega])).mono fun e w' ⟨v, he, hv, hw⟩ => ⟨v, he, _, 0, hv, hw, .inl ⟨hin.1, hin.2, rfl⟩⟩
  · exact (recordX_j h (by omega)).mono fun e w' ⟨v, he, hv, hw⟩ => ⟨v, he, _, 4, hv, hw, .inr ⟨hin, rfl⟩⟩

theorem journalFrames_c (w : World) {a : Option Addr} {c : Nat} {xs : List (List UInt8)} (hr : Rd w a (xs.map strV)) (hc : xs.length ≤ c) (hcm : c ≤ 9223372036854775807) (_ : a = none → c = 0) (n : Int) (_ : (Lit.int .i64 n).wf = true) :
    Calls Tryd.prog 9 #[.slice a xs.length c, .int .i64 n] w (RetC fun r w' => r = .bool true ∧ Chg w w' []) := by
  refine lJournalFrames_ok ?_
  unfold lJournalFrames
  refine useC (short_c hr hc (by omega)) ?_
  rintro _ w1 ⟨a2, c2, rfl, h1⟩
  have hl6 := shortM_len xs
  have h60 := shortM_60 (xs := xs)
  obtain ⟨l, hl⟩ : ∃ l, shortM xs = l := ⟨_, rfl⟩
  rw [hl] at h1 hl6 h60 ⊢
  refine ⟨_, _, _, rfl, useC (new_st h1.one (by omega)) ?_⟩
  rintro _ w2 ⟨y, rfl, h2⟩
  have h2 : St w w2 (Sep [medA y (ms0 2000), rowA 9 1 (.slice a2 l.length c2) l.length (l.map strV)]) := h2.swap
  refine ⟨_, _, rfl, fun g w' => g = false ∧ w' = w2, ?_, cF rfl ⟨rfl, rfl⟩⟩
  rintro w3 g ⟨rfl, rfl⟩ -
  refine cF rfl (useC (open0 h2 (by omega)) ?_)
  rintro _ w4 ⟨x, rfl, h4⟩
  have h4 : St w w4 (Sep [jouA x y [] 0 false, medA y (ms0 2000), rowA 9 1 (.slice a2 l.length c2) l.length (l.map strV)]) := h4
  refine ⟨_, _, rfl, fun g w' => g = false ∧ St w w' (Sep [jouA x y [] 0 false, medA y (ms0 2000), rowA 9 1 (.slice a2 l.length c2) l.length (l.map strV)]), ?_, ?_⟩
  rotate_left
  · refine cF rfl (cF rfl (useC (count_j h4) ?_))
    rintro _ w5 ⟨rfl, rfl⟩
    refine ⟨_, rfl, cF rfl (useC (head_j h4 (by simp)) ?_)⟩
    rintro _ w6 ⟨rfl, hc6⟩
    exact ⟨_, rfl, rfl, h4.quiet hc6⟩
  rintro w5 g ⟨rfl, h5⟩ -
  have hlS : ∀ z ∈ l, z.length ≤ 4611686018427387904 := fun z hz => by have := h60 z hz; omega
  refine cF rfl (useC (heads_c (by omega) hlS (Rd.row (h5.rowAt 2 rfl))) ?_)
  rintro _ w6 ⟨a3, c3, rfl, hh⟩
  have h6 : St w w6 (Sep [jouA x y [] 0 false, medA y (ms0 2000), rowA 9 1 (.slice a2 l.length c2) l.length (l.map strV), rowA 32 1 (.slice a3 (l.length + 1) c3) (l.length + 1) ((0 :: hdsF 0 l).map u64V)]) :=
    St.picks (l := [_, _, _, _]) (Go.Proofs.YtniehglfkacjjaaDoor.St.after h5 hh) [1, 2, 3, 0]
  refine ⟨_, _, _, rfl, fun n4 w' m => ∃ (i : Nat) (es : List Ent) (s : MS), n4 = (i : Int) ∧ i ≤ l.length ∧ m = l.length - i ∧ Good es (l.take i) s 2000 ∧
      St w w' (Sep [jouA x y es 0 false, medA y s, rowA 9 1 (.slice a2 l.length c2) l.length (l.map strV), rowA 32 1 (.slice a3 (l.length + 1) c3) (l.length + 1) ((0 :: hdsF 0 l).map u64V)]),
    ⟨l.length, 0, _, _, rfl, by omega, by omega, Good.init 2000 (by omega), h6⟩, ?_⟩
  rintro w7 m n4 ⟨i, es, s, rfl, hi, rfl, hG, h7⟩ -
  have hheads : ∀ {w' : World} {es : List Ent} {s : MS} {d : Nat}, St w w' (Sep [jouA x y es d false, medA y s, rowA 9 1 (.slice a2 l.length c2) l.length (l.map strV), rowA 32 1 (.slice a3 (l.length + 1) c3) (l.length + 1) ((0 :: hdsF 0 l).map u64V)]) → ∀ k, k ≤ l.length → ∃ q, a3 = some q ∧ w'.cell? (q.add (k * 1)) = some (.int .u64 (headF 0 (l.take k) : Int)) := fun h k hk => by
    refine Rd.row (h.rowAt 3 rfl) k _ ?_
    rw [List.getElem?_map, hds_at 0 l hk]
    rfl
  have hesl : es.length = i := by rw [hG.has.len, List.length_take]; omega
  by_cases hlt : i < l.length
  · obtain ⟨q, rfl, hq⟩ := Rd.row (h7.rowAt 2 rfl) i (strV l[i]) (by simp [hlt])
    have hx60 : l[i].length ≤ 60 := h60 _ (by simp)
    refine cT (decide_eq_true (by omega)) ⟨by omega, by omega, bs l[i], by rw [Int.toNat_natCast]; exact hq, ?_⟩
    obtain ⟨e1, hG', e2⟩ := hG.snoc hx60 (fun z hz => h60 z (List.mem_of_mem_take hz)) (by rw [List.length_take]; omega)
    rw [← take_succ' hlt] at e1 hG'
    refine useC (append_j h7 hG.ok (by omega) l[i] (by omega) (.inl e2)) ?_
    rw [e1]
    rintro _ w8 ⟨rfl, h8⟩
    obtain ⟨es', hes'⟩ : ∃ es', es ++ [⟨l[i], headF 0 (l.take (i + 1)), 0⟩] = es' := ⟨_, rfl⟩
    rw [hes'] at hG'
    have h8 : St w w8 (Sep [jouA x y es' 0 false, medA y { s with b := framesF 0 (l.take (i + 1)) }, rowA 9 1 (.slice (some q) l.length c2) l.length (l.map strV), rowA 32 1 (.slice a3 (l.length + 1) c3) (l.length + 1) ((0 :: hdsF 0 l).map u64V)]) := by rw [← hes']; exact h8
    have hel : es'.length = i + 1 := by rw [hG'.has.len, List.length_take]; omega
    obtain ⟨e, he, hse⟩ := hG'.has.get (i := i) (x := l[i]) (by rw [List.getElem?_take, if_pos (by omega)]; simp [hlt])
    refine ⟨_, _, rfl, useC (record_j h8 he) ?_⟩
    rintro _ w9 ⟨rfl, rfl⟩
    obtain ⟨q3, rfl, hq3⟩ := hheads h8 (i + 1) (by omega)
    have hw : IntKind.i64.wrap ((i : Int) + 1) = ((i + 1 : Nat) : Int) := by rw [IntWalk.i64_in _ (by omega)]; omega
    rw [hw]
    refine ⟨_, _, rfl, fun g w' => g = false ∧ St w w' (Sep [jouA x y es' 0 false, medA y { s with b := framesF 0 (l.take (i + 1)) }, rowA 9 1 (.slice (some q) l.length c2) l.length (l.map strV), rowA 32 1 (.slice (some q3) (l.length + 1) c3) (l.length + 1) ((0 :: hdsF 0 l).map u64V)]), ?_, ?_⟩
    · rintro w10 g ⟨rfl, h10⟩ -
      exact cF rfl ⟨l.length - (i + 1), by omega, i + 1, es', _, rfl, by omega, rfl, hG', h10⟩
    · refine cF rfl ⟨by omega, by omega, _, by rw [Int.toNat_natCast]; exact hq3, cF (by simp) (useC (head_j h8 (by omega)) ?_)⟩
      rintro _ w10 ⟨rfl, hc10⟩
      have h10 := h8.quiet hc10
      refine ⟨_, rfl, cF (by rw [hG'.has.head]; simp) (useC (count_j h10) ?_)⟩
      rintro _ w11 ⟨rfl, rfl⟩
      refine ⟨_, rfl, cF (by rw [hel]; simp) (useC (durable_j h10) ?_)⟩
      rintro _ w12 ⟨rfl, rfl⟩
      obtain ⟨q', hq', hqq⟩ := Rd.row (h10.rowAt 2 rfl) i (strV l[i]) (by simp [hlt])
      cases hq'
      exact ⟨_, rfl, cF rfl (cF rfl ⟨by omega, by omega, bs l[i], by rw [Int.toNat_natCast]; exact hqq, bytes_bne _ _ (by rw [hse]), h10⟩)⟩
  · obtain rfl : i = l.length := by omega
    rw [List.take_length] at hG
    refine cF (decide_eq_false (by omega)) (useC (read_st (h7.out 1 rfl)) ?_)
    rintro _ w8 ⟨rfl, rfl⟩
    have hrd : s.rd = (framesF 0 l, 0) := by unfold MS.rd; rw [if_neg (by rw [hG.dn]; decide), hG.b]
    rw [hrd]
    refine ⟨_, _, rfl, useC (headAtA_j h7 (by omega) n) ?_⟩
    rintro _ w9 ⟨n13, n14, rfl, rfl, hA⟩
    refine ⟨_, _, rfl, useC (recordA_j h7 n) ?_⟩
    rintro _ w10 ⟨s5, n15, rfl, rfl, hB⟩
    rw [hesl] at hA hB
    refine ⟨_, _, rfl, fun g w' => g = false ∧ Chg w10 w' [], ?_, ?_⟩
    · rintro w11 g ⟨rfl, hc11⟩ -
      have h11 := h7.quiet hc11
      refine cF rfl ⟨fun g w' => g = false ∧ w' = w11, ?_, ?_⟩
      · rintro w12 g ⟨rfl, rfl⟩ -
        refine cF rfl (useC (sync_j h11 hG.ok (.inl ?_)) ?_)
        · rw [syn_none hG.dn hG.lf]
        rw [synJ_ok hG.dn hG.lf]
        rintro _ w13 ⟨rfl, h13⟩
        refine ⟨_, rfl, cT rfl (useC (durable_j h13) ?_)⟩
        rintro _ w14 ⟨rfl, rfl⟩
        refine ⟨_, rfl, cT (by rw [hesl]; simp) (useC (lives_c w14) ?_)⟩
        rintro _ w15 ⟨rfl, hc15⟩
        exact ⟨_, rfl, rfl, h13.chg.trans hc15 (by simp)⟩
      · rcases hA with ⟨k0, k1, rfl, rfl⟩ | ⟨k0, rfl, rfl⟩
        · obtain ⟨q3, rfl, hq3⟩ := hheads h11 n.toNat (by omega)
          refine cT rfl ⟨by omega, by omega, _, hq3, cF ?_ (cF rfl ?_)⟩
          · rw [(hG.has.take n.toNat).head]; simp
          · rcases hB with ⟨b0, b1, rfl⟩ | ⟨b0, rfl⟩
            · exact cF rfl ⟨rfl, rfl⟩
            · exact cT rfl ⟨rfl, rfl⟩
        · refine cF rfl (cT rfl (cF rfl (cF rfl ?_)))
          rcases hB with ⟨b0, b1, rfl⟩ | ⟨b0, rfl⟩
          · omega
          · exact cT rfl ⟨rfl, rfl⟩
    · refine cF rfl (useC (frames_c (by omega) hlS (by have := frames60 l 0 h60; omega) (Rd.row (h7.rowAt 2 rfl))) ?_)
      rintro _ w11 ⟨rfl, hc11⟩
      refine ⟨_, rfl, cF (bytes_bne _ _ rfl) ?_⟩
      have fin : ∀ b : Bool, b = false → (b = false ∧ Chg w10 w11 []) := fun b hb => ⟨hb, hc11⟩
      by_cases hn0 : n ≥ 0
      · refine cT (decide_eq_true hn0) ?_
        rcases hA with ⟨k0, k1, rfl, rfl⟩ | ⟨k0, rfl, rfl⟩
        · refine cF (by rw [decide_eq_true k1]; rfl) (cT (decide_eq_true hn0) (fin _ ?_))
          rcases hB with ⟨b0, b1, rfl⟩ | ⟨b0, rfl⟩
          · rw [decide_eq_true b1]; rfl
          · rw [decide_eq_false (by omega)]; rfl
        · refine cF (by rw [decide_eq_false (by omega)]; rfl) (cT (decide_eq_true hn0) (fin _ ?_))
          rcases hB with ⟨b0, b1, rfl⟩ | ⟨b0, rfl⟩
          · omega
          · rw [decide_eq_false (by omega)]; rfl
      · refine cF (decide_eq_false hn0) ?_
        rcases hA with ⟨k0, k1, rfl, rfl⟩ | ⟨k0, rfl, rfl⟩
        · omega
        · refine cF rfl (cF (decide_eq_false hn0) (fin _ ?_))
          rcases hB with ⟨b0, b1, rfl⟩ | ⟨b0, rfl⟩
          · omega
          · rfl

end Go.Proofs.YtniehglfkacjjaaDoor

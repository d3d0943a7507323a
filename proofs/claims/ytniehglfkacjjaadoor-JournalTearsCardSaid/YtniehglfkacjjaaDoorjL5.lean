import Derived.Test.YtniehglfkacjjaaDoorjL4
import Derived.Test.YtniehglfkacjjaaDoorjPr
import Derived.Test.YtniehglfkacjjaaDoorjL2
namespace Go.Proofs.YtniehglfkacjjaaDoor
open Go Go.Vc

theorem row_info {w : World} {e : TypeId} {sz n c : Nat} {a : Option Addr} {xs : List Value} (own : w.ownsRow 0 e sz (.slice a n c) n xs) : n ≤ c ∧ (a = none → c = 0) := by
  rcases own.2 with ⟨hv, rfl⟩ | ⟨g, cap, cur, hv, _, _, h1, _⟩
  · cases hv; exact ⟨Nat.zero_le _, fun _ => rfl⟩
  · cases hv; exact ⟨h1, fun h => by cases h⟩

theorem tmod_at {n : Int} (h0 : 0 ≤ n) (h1 : n ≤ 65535) {k : Nat} (hk : k ≤ 1000) : ∃ t : Nat, t ≤ k ∧ Int.tmod (IntKind.i64.wrap n) (IntKind.i64.wrap (((k : Nat) : Int) + 1)) = (t : Int) := by
  rw [IntWalk.i64_in _ (by omega), IntWalk.i64_in _ (by omega), Int.tmod_eq_emod_of_nonneg h0]
  have h2 := Int.emod_nonneg n (show ((k : Int) + 1) ≠ 0 by omega)
  have h3 := Int.emod_lt_of_pos n (show (0 : Int) < (k : Int) + 1 by omega)
  exact ⟨(n % ((k : Int) + 1)).toNat, by omega, by omega⟩

theorem journalPrefix_c' (w : World) {a : Option Addr} {c : Nat} {xs : List (List UInt8)} (hr : Rd w a (xs.map strV)) (hc : xs.length ≤ c) (hcm : c ≤ 9223372036854775807) (n1 : Int) (h1a : 0 ≤ n1) (h1b : n1 ≤ 65535) (n2 : Int) (h2 : n2 ≤ 9223372036854775807) (more : ByteArray) :
    Calls Tryd.prog 3 #[.slice a xs.length c, .int .u8 n1, .int .i64 n2, .string more] w (RetC fun r w' => r = .bool true ∧ Chg w w' []) := by
  refine lJournalPrefix_ok ?_
  unfold lJournalPrefix
  refine useC (short_c hr hc (by omega)) ?_
  rintro _ w1 ⟨a2, c2, rfl, h1⟩
  have hl6 := shortM_len xs
  have h60 := shortM_60 (xs := xs)
  obtain ⟨l, hl⟩ : ∃ l, shortM xs = l := ⟨_, rfl⟩
  rw [hl] at h1 hl6 h60 ⊢
  obtain ⟨t, ht, htm⟩ := tmod_at h1a h1b (show l.length ≤ 1000 by omega)
  have h4000 : ∀ z ∈ l, z.length ≤ 4000 := fun z hz => by have := h60 z hz; omega
  refine ⟨_, _, _, rfl, fun s2 w' => w' = w1 ∧ s2.size ≤ 60, ?_, ?_⟩
  rotate_left
  · by_cases h : 60 < more.size
    · refine cT (decide_eq_true (by omega)) ⟨by omega, by omega, rfl, ?_⟩
      show (more.extract 0 60).size ≤ 60
      rw [ByteArray.size_extract]; omega
    · exact cF (decide_eq_false (by omega)) ⟨rfl, by omega⟩
  rintro w2 s2 ⟨rfl, hs2⟩ -
  obtain ⟨mo, rfl⟩ : ∃ mo, s2 = bs mo := ⟨s2.data.toList, rfl⟩
  rw [bs_size] at hs2
  refine useC (new_st h1.one (by omega)) ?_
  rintro _ w3 ⟨y, rfl, h3⟩
  have h3 : St w w3 (Sep [medA y (ms0 2000), rowA 9 1 (.slice a2 l.length c2) l.length (l.map strV)]) := h3.swap
  refine ⟨_, _, rfl, fun g w' => g = false ∧ w' = w3, ?_, cF rfl ⟨rfl, rfl⟩⟩
  rintro w4 g ⟨rfl, rfl⟩ -
  refine cF rfl (useC (open0 h3 (by omega)) ?_)
  rintro _ w5 ⟨x, rfl, h5⟩
  have h5 : St w w5 (Sep [jouA x y [] 0 false, medA y (ms0 2000), rowA 9 1 (.slice a2 l.length c2) l.length (l.map strV)]) := h5
  refine ⟨_, _, rfl, fun g w' => g = false ∧ w' = w5, ?_, cF rfl ⟨rfl, rfl⟩⟩
  rintro w6 g ⟨rfl, rfl⟩ -
  refine cF rfl ⟨by rw [IntWalk.i64_in _ (by omega)]; omega, ?_⟩
  refine ⟨fun n5 w' m => ∃ (i : Nat) (es : List Ent) (s : MS) (d : Nat), n5 = (i : Int) ∧ i ≤ l.length ∧ m = l.length - i ∧ Good es (l.take i) s 2000 ∧ (t < i → (framesF 0 (l.take t)).length ≤ s.dur) ∧
      St w w' (Sep [jouA x y es d false, medA y s, rowA 9 1 (.slice a2 l.length c2) l.length (l.map strV)]),
    ⟨l.length, 0, _, _, 0, rfl, by omega, by omega, Good.init 2000 (by omega), by omega, h5⟩, ?_⟩
  rintro w7 m n5 ⟨i, es, s, d, rfl, hi, rfl, hG, hD, h7⟩ -
  have hesl : es.length = i := by rw [hG.has.len, List.length_take]; omega
  by_cases hlt : i < l.length
  · refine cT (decide_eq_true (by omega)) ⟨fun g w' => g = false ∧ ∃ (s : MS) (d : Nat), Good es (l.take i) s 2000 ∧ (t < i + 1 → (framesF 0 (l.take t)).length ≤ s.dur) ∧
      St w w' (Sep [jouA x y es d false, medA y s, rowA 9 1 (.slice a2 l.length c2) l.length (l.map strV)]), ?_, ?_⟩
    · rintro w8 g ⟨rfl, s, d, hG, hD, h8⟩ -
      obtain ⟨q, rfl, hq⟩ := Rd.row (h8.rowAt 2 rfl) i (strV l[i]) (by simp [hlt])
      have hx60 : l[i].length ≤ 60 := h60 _ (by simp)
      obtain ⟨e1, hG', e2⟩ := hG.snoc hx60 (fun z hz => h60 z (List.mem_of_mem_take hz)) (by rw [List.length_take]; omega)
      rw [← take_succ' hlt] at e1 hG'
      refine cF rfl ⟨by omega, by omega, bs l[i], by rw [Int.toNat_natCast]; exact hq, useC (append_j h8 hG.ok (by omega) l[i] (by omega) (.inl e2)) ?_⟩
      rw [e1]
      rintro _ w9 ⟨rfl, h9⟩
      exact ⟨_, _, rfl, cF rfl ⟨l.length - (i + 1), by omega, i + 1, _, _, d, by rw [IntWalk.i64_in _ (by omega)]; omega, by omega, rfl, hG', hD, h9⟩⟩
    · by_cases hit : i = t
      · refine cT (by rw [htm]; simp [hit]) (useC (sync_j h7 hG.ok (.inl (by rw [syn_none hG.dn hG.lf]))) ?_)
        rw [synJ_ok hG.dn hG.lf]
        rintro _ w8 ⟨rfl, h8⟩
        refine ⟨_, rfl, rfl, { s with dur := s.b.length }, _, ⟨hG.has, hG.b, ?_, hG.dn, hG.lf, hG.sz⟩, fun _ => ?_, h8⟩
        · have := MS.syn_ok hG.ok
          rw [syn_none hG.dn hG.lf] at this
          exact this
        · show _ ≤ s.b.length
          rw [hG.b, hit]; exact Nat.le_refl _
      · exact cF (by rw [htm]; simp; omega) ⟨rfl, s, d, hG, fun h => hD (by omega), h7⟩
  · obtain rfl : i = l.length := by omega
    rw [List.take_length] at hG
    refine cF (decide_eq_false (by omega)) ⟨fun w' => ∃ (s : MS) (d : Nat), Good es l s 2000 ∧ (framesF 0 (l.take t)).length ≤ s.dur ∧
      St w w' (Sep [jouA x y es d false, medA y s, rowA 9 1 (.slice a2 l.length c2) l.length (l.map strV)]), ?_, ?_⟩
    rotate_left
    · by_cases hit : t = l.length
      · refine cT (by rw [htm]; simp [hit]) (useC (sync_j h7 hG.ok (.inl (by rw [syn_none hG.dn hG.lf]))) ?_)
        rw [synJ_ok hG.dn hG.lf]
        rintro _ w8 ⟨rfl, h8⟩
        refine ⟨_, rfl, { s with dur := s.b.length }, _, ⟨hG.has, hG.b, ?_, hG.dn, hG.lf, hG.sz⟩, ?_, h8⟩
        · have := MS.syn_ok hG.ok
          rw [syn_none hG.dn hG.lf] at this
          exact this
        · show _ ≤ s.b.length
          rw [hG.b, hit, List.take_length]; exact Nat.le_refl _
      · exact cF (by rw [htm]; simp; omega) ⟨s, d, hG, hD (by omega), h7⟩
    rintro w8 ⟨s, d, hG, hD, h8⟩ -
    refine useC (crash_st (n := n2) h8.rot hG.ok h2) ?_
    rintro _ w9 ⟨rfl, h9⟩
    refine ⟨rfl, useC (open_c h9 (MS.crash_ok hG.ok n2) rfl rfl) ?_⟩
    obtain ⟨m, hm1, hm2, hp, hop, _⟩ := crash_open (k := t) hG.b hD ht h4000 n2
    have hok2 := opnM_ok (MS.crash_ok hG.ok n2)
    rw [hp, hop] at *
    rw [hG.sz] at *
    rintro _ w10 ⟨x2, rfl, h10⟩
    have hG2 : Good (entsF 0 0 (l.take m)) (l.take m) ⟨2000, framesF 0 (l.take m), (framesF 0 (l.take m)).length, false, none⟩ 2000 := ⟨Has.ents _, rfl, hok2, rfl, rfl, rfl⟩
    obtain ⟨es2, hes2⟩ : ∃ es2, entsF 0 0 (l.take m) = es2 := ⟨_, rfl⟩
    obtain ⟨s2, hs2'⟩ : ∃ s2 : MS, (⟨2000, framesF 0 (l.take m), (framesF 0 (l.take m)).length, false, none⟩ : MS) = s2 := ⟨_, rfl⟩
    rw [hes2, hs2'] at hG2 h10
    have hel2 : es2.length = m := by rw [hG2.has.len, List.length_take]; omega
    have h10 : St w w10 (Sep [jouA x2 y es2 es2.length false, medA y s2, jouA x y es d false, rowA 9 1 (.slice a2 l.length c2) l.length (l.map strV)]) := h10
    refine ⟨_, _, rfl, fun g w' => g = false ∧ w' = w10, ?_, ?_⟩
    rotate_left
    · refine cF rfl (cF rfl (useC (count_j h10) ?_))
      rintro _ w11 ⟨rfl, rfl⟩
      refine ⟨_, rfl, cF (decide_eq_false (by rw [htm]; omega)) (useC (count_j h10) ?_)⟩
      rintro _ w12 ⟨rfl, rfl⟩
      refine ⟨_, rfl, cF (decide_eq_false (by omega)) (useC (durable_j h10) ?_)⟩
      rintro _ w13 ⟨rfl, rfl⟩
      refine ⟨_, rfl, useC (count_j h10) ?_⟩
      rintro _ w14 ⟨rfl, rfl⟩
      exact ⟨_, rfl, by simp, rfl⟩
    rintro w11 g ⟨rfl, rfl⟩ -
    refine cF rfl (useC (count_j h10) ?_)
    rintro _ w12 ⟨rfl, rfl⟩
    refine ⟨_, rfl, fun n11 w' mm => ∃ i : Nat, n11 = (i : Int) ∧ i ≤ m ∧ mm = m - i ∧ w' = w12, ⟨m, 0, rfl, by omega, by omega, rfl⟩, ?_⟩
    rintro w13 mm n11 ⟨i, rfl, hi, rfl, rfl⟩ -
    rw [hel2]
    by_cases hlt2 : i < m
    · obtain ⟨e, he, hse⟩ := hG2.has.get (i := i) (x := l[i]'(by omega)) (by rw [List.getElem?_take, if_pos (by omega)]; simp [show i < l.length by omega])
      obtain ⟨q, rfl, hq⟩ := Rd.row (h10.rowAt 3 rfl) i (strV (l[i]'(by omega))) (by simp [show i < l.length by omega])
      refine cT (decide_eq_true (by omega)) (useC (record_j h10 he) ?_)
      rintro _ w14 ⟨rfl, rfl⟩
      refine ⟨_, _, rfl, fun g w' => g = false ∧ w' = w14, ?_, cF rfl ⟨by omega, by omega, bs (l[i]'(by omega)), by rw [Int.toNat_natCast]; exact hq, bytes_bne _ _ (by rw [hse]), rfl⟩⟩
      rintro w15 g ⟨rfl, rfl⟩ -
      exact cF rfl ⟨m - (i + 1), by omega, i + 1, by rw [IntWalk.i64_in _ (by omega)]; omega, by omega, rfl, rfl⟩
    · refine cF (decide_eq_false (by omega)) (newK_mk ?_)
      obtain ⟨hlc, hnc⟩ := row_info (h10.rowAt 3 rfl)
      refine ⟨by omega, by omega, ?_⟩
      have hrd : Rd w13 a2 ((l.take m).map strV) := by
        have := (Rd.row (h10.rowAt 3 rfl)).take m
        rwa [← List.map_take] at this
      have h14 := emptyRow h10
      obtain ⟨w14, hw14⟩ : ∃ w14, w13.alloc (.cells #[] 9) = w14 := ⟨_, rfl⟩
      obtain ⟨r1, hr1⟩ : ∃ r1, w13.heap.size = r1 := ⟨_, rfl⟩
      have hrd := hrd.chg (Chg.new w13 (.cells #[] 9) [])
      rw [hw14] at h14 hrd ⊢
      rw [hr1] at h14 ⊢
      have hml : (l.take m).length = m := by rw [List.length_take]; omega
      have e5 : ((m : Int).toNat - 0) = (l.take m).length - 0 := by rw [hml]; omega
      rw [e5]
      refine app_rd (k := 0) h14 hrd (by omega) (by omega) hnc (by omega) fun v' w15 h15 => ?_
      rw [Nat.zero_add, List.nil_append, List.drop_zero, Nat.sub_zero] at h15
      obtain ⟨a3, c3, rfl⟩ := own_slice (St.rowOf h15)
      refine ⟨a3, _, c3, rfl, ?_⟩
      refine app1_st sl22 h15 (news := [strV mo]) rfl (by simp [strV, Value.oneCell']) (by omega) (by omega) (fun a4 c4 w16 h16 => ?_) rfl
      obtain ⟨want, hwant⟩ : ∃ want, l.take m ++ [mo] = want := ⟨_, rfl⟩
      have hwl : want.length = m + 1 := by rw [← hwant]; simp [hml]
      have h16 : St w w16 (Sep [rowA 9 1 (.slice a4 want.length c4) want.length (want.map strV), jouA x2 y es2 es2.length false, medA y s2, jouA x y es d false, rowA 9 1 (.slice a2 l.length c2) l.length (l.map strV)]) := by
        rw [← hwant]
        have e1 : (l.take m ++ [mo]).length = (l.take m).length + 1 := by simp
        have e2 : (l.take m ++ [mo]).map strV = (l.take m).map strV ++ [strV mo] := by simp
        rw [e1, e2]
        exact h16
      have e6 : (l.take m).length + 1 = want.length := by rw [hml, hwl]
      rw [e6]
      have h17 : St w w16 (Sep [jouA x2 y es2 es2.length false, medA y s2, rowA 9 1 (.slice a4 want.length c4) want.length (want.map strV)]) := h16.picks [1, 2, 0]
      obtain ⟨k1, hG3, k2⟩ := hG2.snoc hs2 (fun z hz => h60 z (List.mem_of_mem_take hz)) (by omega)
      rw [hwant] at k1 hG3
      refine useC (append_j h17 hG2.ok (by omega) mo (by omega) (.inl k2)) ?_
      rw [k1]
      rintro _ w18 ⟨rfl, h18⟩
      obtain ⟨es3, hes3⟩ : ∃ es3, es2 ++ [⟨mo, headF 0 want, 0⟩] = es3 := ⟨_, rfl⟩
      have h18 : St w w18 (Sep [jouA x2 y es3 es2.length false, medA y { s2 with b := framesF 0 want }, rowA 9 1 (.slice a4 want.length c4) want.length (want.map strV)]) := by rw [← hes3]; exact h18
      refine ⟨_, _, rfl, useC (read_st (h18.out 1 rfl)) ?_⟩
      rintro _ w19 ⟨rfl, rfl⟩
      have hrd2 : ({ s2 with b := framesF 0 want } : MS).rd = (framesF 0 want, 0) := by unfold MS.rd; rw [if_neg (by rw [hG3.dn]; decide)]
      rw [hrd2]
      have hw60 : ∀ z ∈ want, z.length ≤ 60 := fun z hz => by
        rw [← hwant] at hz
        rcases List.mem_append.1 hz with h | h
        · exact h60 z (List.mem_of_mem_take h)
        · rw [List.mem_singleton.1 h]; exact hs2
      have hwS : ∀ z ∈ want, z.length ≤ 4611686018427387904 := fun z hz => by have := hw60 z hz; omega
      refine ⟨_, _, rfl, cT rfl (useC (heads_c (by omega) hwS (Rd.row (h18.rowAt 2 rfl))) ?_)⟩
      rintro _ w20 ⟨a5, c5, rfl, h20⟩
      obtain ⟨q5, rfl, hq5⟩ := Rd.row (St.rowOf h20.one) want.length (u64V (headF 0 want)) (by rw [List.getElem?_map, hds_get]; rfl)
      have hwr : IntKind.i64.wrap ((m : Int) + 1) = ((want.length : Nat) : Int) := by rw [IntWalk.i64_in _ (by omega)]; omega
      rw [hwr]
      refine ⟨_, _, c5, rfl, by omega, by omega, (headF 0 want : Int), by rw [Int.toNat_natCast]; exact hq5, cT (by simp) (cT rfl (useC (frames_c (by omega) hwS (by have := frames60 want 0 hw60; omega) ((Rd.row (h18.rowAt 2 rfl)).chg h20.chg)) ?_))⟩
      rintro _ w21 ⟨rfl, hc21⟩
      refine ⟨_, rfl, cT (bytes_beq _ _ rfl) (useC (lives_c w21) ?_)⟩
      rintro _ w22 ⟨rfl, hc22⟩
      exact ⟨_, rfl, rfl, ((h18.chg.trans h20.chg (by simp)).trans hc21 (by simp)).trans hc22 (by simp)⟩

theorem wf_i64 {n : Int} (h : (Lit.int .i64 n).wf = true) : n ≤ 9223372036854775807 := by
  simp [Lit.wf, IntKind.min, IntKind.max, IntKind.signed, IntKind.bits] at h
  omega

theorem wf_u8 {n : Int} (h : (Lit.int .u8 n).wf = true) : 0 ≤ n ∧ n ≤ 255 := by
  simp [Lit.wf, IntKind.min, IntKind.max, IntKind.signed, IntKind.bits] at h
  omega

theorem wf_u16 {n : Int} (h : (Lit.int .u16 n).wf = true) : 0 ≤ n ∧ n ≤ 65535 := by
  simp [Lit.wf, IntKind.min, IntKind.max, IntKind.signed, IntKind.bits] at h
  omega

theorem journalPrefix_c (w : World) {a : Option Addr} {c : Nat} {xs : List (List UInt8)} (hr : Rd w a (xs.map strV)) (hc : xs.length ≤ c) (hcm : c ≤ 9223372036854775807) (_ : a = none → c = 0) (n1 : Int) (h1 : (Lit.int .u8 n1).wf = true) (n2 : Int) (h2 : (Lit.int .i64 n2).wf = true) (more : ByteArray) :
    Calls Tryd.prog 3 #[.slice a xs.length c, .int .u8 n1, .int .i64 n2, .string more] w (RetC fun r w' => r = .bool true ∧ Chg w w' []) :=
  journalPrefix_c' w hr hc hcm n1 (wf_u8 h1).1 (by have := (wf_u8 h1).2; omega) n2 (wf_i64 h2) more

end Go.Proofs.YtniehglfkacjjaaDoor

import Derived.Test.YtniehglfkacjjaaDoorjL7
namespace Go.Proofs.YtniehglfkacjjaaDoor
open Go Go.Vc

theorem tmod_k {n : Int} (h0 : 0 ≤ n) {k : Int} (hk : 0 < k) (hk2 : k ≤ 1000) : ∃ t : Nat, IntKind.i64.wrap (Int.tmod n k) = (t : Int) ∧ (t : Int) ≤ 1000 := by
  rw [Int.tmod_eq_emod_of_nonneg h0]
  have h2 := Int.emod_nonneg n (show k ≠ 0 by omega)
  have h3 := Int.emod_lt_of_pos n hk
  exact ⟨(n % k).toNat, by rw [IntWalk.i64_in _ (by omega)]; omega, by omega⟩

theorem journalTears_c' (w : World) (hg : ErrT w) {a : Option Addr} {c : Nat} {xs : List (List UInt8)} (hr : Rd w a (xs.map strV)) (hc : xs.length ≤ c) (hcm : c ≤ 9223372036854775807) (n1 : Int) (h1a : 0 ≤ n1) (n2 : Int) (h2a : 0 ≤ n2) :
    Calls Tryd.prog 6 #[.slice a xs.length c, .int .u16 n1, .int .u16 n2] w (RetC fun r w' => r = .bool true ∧ Chg w w' []) := by
  refine lJournalTears_ok ?_
  unfold lJournalTears
  refine useC (short_c hr hc (by omega)) ?_
  rintro _ w1 ⟨a2, c2, rfl, h1⟩
  have hl6 := shortM_len xs
  have h60 := shortM_60 (xs := xs)
  obtain ⟨l, hl⟩ : ∃ l, shortM xs = l := ⟨_, rfl⟩
  rw [hl] at h1 hl6 h60 ⊢
  obtain ⟨k0, hk0, hk0'⟩ := tmod_k h1a (k := 500) (by decide) (by decide)
  obtain ⟨kk, hkk, hkk'⟩ := tmod_k h2a (k := 600) (by decide) (by decide)
  refine ⟨_, _, _, rfl, useC (new_st h1.one (by omega)) ?_⟩
  rintro _ w3 ⟨y, rfl, h3⟩
  have h3 : St w w3 (Sep [medA y (ms0 2000), rowA 9 1 (.slice a2 l.length c2) l.length (l.map strV)]) := h3.swap
  refine ⟨_, _, rfl, fun g w' => g = false ∧ w' = w3, ?_, cF rfl ⟨rfl, rfl⟩⟩
  rintro w4 g ⟨rfl, rfl⟩ -
  refine cF rfl (useC (open0 h3 (by omega)) ?_)
  rintro _ w5 ⟨x, rfl, h5⟩
  have h5 : St w w5 (Sep [jouA x y [] 0 false, medA y (ms0 2000), rowA 9 1 (.slice a2 l.length c2) l.length (l.map strV)]) := h5
  refine ⟨_, _, rfl, fun g w' => g = false ∧ w' = w5, ?_, cF rfl ⟨rfl, rfl⟩⟩
  rintro w6 g ⟨rfl, rfl⟩ -
  rw [hk0]
  refine cF rfl ⟨by decide, useC (arm_st (h5.out 1 rfl) (k0 : Int)) ?_⟩
  have harm : (ms0 2000).arm (k0 : Int) = { ms0 2000 with left := some k0 } := by
    unfold MS.arm
    rw [if_neg (show ¬ (ms0 2000).down = true by decide), if_pos (by omega), Int.toNat_natCast]
  have hokA := MS.arm_ok (okNew (n := 2000) (by omega)) (k0 : Int) (by omega)
  rw [show (⟨2000, [], 0, false, none⟩ : MS) = ms0 2000 from rfl, harm] at hokA
  rw [harm]
  rintro _ w7 ⟨rfl, h7⟩
  have h7 : St w w7 (Sep [jouA x y [] 0 false, medA y { ms0 2000 with left := some k0 }, rowA 9 1 (.slice a2 l.length c2) l.length (l.map strV)]) := h7.back (i := 1) (by show 1 < 3; decide)
  refine ⟨rfl, fun n5 b3 n6 w' m => ∃ (i d : Nat) (es : List Ent) (s : MS), n5 = (d : Int) ∧ n6 = (i : Int) ∧ i ≤ l.length ∧ m = l.length - i ∧ Torn l i d b3 es s ∧
      St w w' (Sep [jouA x y es 0 b3, medA y s, rowA 9 1 (.slice a2 l.length c2) l.length (l.map strV)]),
    ⟨l.length, 0, 0, _, _, rfl, rfl, by omega, by omega, ⟨Nat.le_refl _, Has.nil, hokA, rfl, rfl, rfl, fun _ => ⟨rfl, rfl, _, rfl⟩, fun h => by cases h⟩, h7⟩, ?_⟩
  rintro w8 m n5 b3 n6 ⟨i, d, es, s, rfl, rfl, hi, rfl, hT, h8⟩ -
  have hdl := hT.di
  have hesl : es.length = d := by rw [hT.has.len, List.length_take]; omega
  by_cases hlt : i < l.length
  · obtain ⟨q, rfl, hq⟩ := Rd.row (h8.rowAt 2 rfl) i (strV l[i]) (by simp [hlt])
    have hx60 : l[i].length ≤ 60 := h60 _ (by simp)
    obtain ⟨d', dn', hd, es', s', e1, hT', k1, k2, k3⟩ := hT.next hlt h60 hl6
    refine cT (decide_eq_true (by omega)) ⟨fun n7 b4 w' => n7 = (d' : Int) ∧ b4 = dn' ∧ St w w' (Sep [jouA x y es' 0 dn', medA y s', rowA 9 1 (.slice (some q) l.length c2) l.length (l.map strV)]), ?_, ?_⟩
    · rintro w9 n7 b4 ⟨rfl, rfl, h9⟩ -
      exact ⟨l.length - (i + 1), by omega, i + 1, d', es', s', rfl, by rw [IntWalk.i64_in _ (by omega)]; omega, by omega, rfl, hT', h9⟩
    · refine ⟨by omega, by omega, bs l[i], by rw [Int.toNat_natCast]; exact hq, useC (append_j h8 hT.ok (by omega) l[i] (by omega) (.inr hg)) ?_⟩
      rw [e1]
      rintro _ w9 ⟨rfl, h9⟩
      have h9 : St w w9 (Sep [jouA x y es' 0 dn', medA y s', rowA 9 1 (.slice (some q) l.length c2) l.length (l.map strV)]) := h9
      refine ⟨_, _, rfl, fun g w' => g = false ∧ w' = w9, ?_, ?_⟩
      · rintro w10 g ⟨rfl, rfl⟩ -
        refine cF rfl ⟨fun g w' => g = dn' ∧ w' = w10, ?_, ?_⟩
        · rintro w11 g ⟨rfl, rfl⟩ -
          cases g with
          | false => exact cT rfl ⟨by rw [k2 rfl, IntWalk.i64_in _ (by omega)]; omega, rfl, h9⟩
          | true => exact cF rfl ⟨by rw [k3 rfl], rfl, h9⟩
        · cases b3 with
          | true => exact cT rfl ⟨(k1 rfl).1.symm, rfl⟩
          | false => refine cF rfl ⟨?_, rfl⟩; cases dn' <;> rfl
      · cases dn' with
        | true =>
          refine cT rfl (cF rfl ?_)
          cases b3 with
          | true => exact cT rfl ⟨rfl, rfl⟩
          | false => exact cF rfl ⟨rfl, rfl⟩
        | false =>
          cases b3 with
          | true => exact absurd (k1 rfl).1 (by decide)
          | false => exact cF rfl (cF rfl ⟨rfl, rfl⟩)
  · obtain rfl : i = l.length := by omega
    refine cF (decide_eq_false (by omega)) (useC (count_j h8) ?_)
    rintro _ w9 ⟨rfl, rfl⟩
    refine ⟨_, rfl, cF (by rw [hesl]; simp) ⟨fun g w' => g = false ∧ St w w' (Sep [jouA x y es 0 b3, medA y s, rowA 9 1 (.slice a2 l.length c2) l.length (l.map strV)]), ?_, ?_⟩⟩
    rotate_left
    · cases b3 with
      | false => exact cF rfl ⟨rfl, h8⟩
      | true =>
        refine cT rfl (useC (sync_j h8 hT.ok (.inr hg)) ?_)
        have e : synJ es 0 true s = (19, 0, true, s) := by unfold synJ; rw [if_pos rfl]
        rw [e]
        rintro _ w10 ⟨rfl, h10⟩
        exact ⟨_, rfl, rfl, h10⟩
    rintro w10 g ⟨rfl, h10⟩ -
    rw [hkk]
    refine cF rfl ⟨by decide, useC (crash_st (n := (kk : Int)) h10.rot hT.ok (by omega)) ?_⟩
    rintro _ w11 ⟨rfl, h11⟩
    refine ⟨rfl, useC (open_c h11 (MS.crash_ok hT.ok _) rfl rfl) ?_⟩
    obtain ⟨m, hmd, hp, hmi⟩ := hT.crash h60 kk
    rw [hp]
    rintro _ w12 ⟨x2, rfl, h12⟩
    have hH := Has.ents (l.take m)
    obtain ⟨es2, hes2⟩ : ∃ es2, entsF 0 0 (l.take m) = es2 := ⟨_, rfl⟩
    rw [hes2] at hH h12
    have hel2 : es2.length = m := by rw [hH.len, List.length_take]; omega
    have h12 : St w w12 (Sep [jouA x2 y es2 es2.length false, medA y (opnM (s.crash (kk : Int))), jouA x y es 0 b3, rowA 9 1 (.slice a2 l.length c2) l.length (l.map strV)]) := h12
    refine ⟨_, _, rfl, fun g w' => g = false ∧ w' = w12, ?_, ?_⟩
    rotate_left
    · refine cF rfl (cF rfl (useC (count_j h12) ?_))
      rintro _ w13 ⟨rfl, rfl⟩
      exact ⟨_, rfl, decide_eq_false (by omega), rfl⟩
    rintro w13 g ⟨rfl, rfl⟩ -
    refine cF rfl ⟨fun n12 w' mm => ∃ j : Nat, n12 = (j : Int) ∧ j ≤ m ∧ mm = m - j ∧ w' = w13, ⟨m, 0, rfl, by omega, by omega, rfl⟩, ?_⟩
    rintro w14 mm n12 ⟨j, rfl, hj, rfl, rfl⟩ -
    refine useC (count_j h12) ?_
    rintro _ w15 ⟨rfl, rfl⟩
    refine ⟨_, rfl, ?_⟩
    rw [hel2]
    by_cases hlt2 : j < m
    · obtain ⟨e, he, hse⟩ := hH.get (i := j) (x := l[j]'(by omega)) (by rw [List.getElem?_take, if_pos (by omega)]; simp [show j < l.length by omega])
      obtain ⟨q, rfl, hq⟩ := Rd.row (h12.rowAt 3 rfl) j (strV (l[j]'(by omega))) (by simp [show j < l.length by omega])
      refine cT (decide_eq_true (by omega)) (useC (record_j h12 he) ?_)
      rintro _ w16 ⟨rfl, rfl⟩
      refine ⟨_, _, rfl, fun g w' => g = false ∧ w' = w16, ?_, cF rfl ⟨by omega, by omega, bs (l[j]'(by omega)), by rw [Int.toNat_natCast]; exact hq, bytes_bne _ _ (by rw [hse]), rfl⟩⟩
      rintro w17 g ⟨rfl, rfl⟩ -
      exact cF rfl ⟨m - (j + 1), by omega, j + 1, by rw [IntWalk.i64_in _ (by omega)]; omega, by omega, rfl, rfl⟩
    · refine cF (decide_eq_false (by omega)) ⟨fun n15 w' mm => ∃ j : Nat, n15 = (j : Int) ∧ j ≤ m ∧ mm = m - j ∧ Chg w15 w' [], ⟨m, 0, rfl, by omega, by omega, Chg.refl _ _⟩, ?_⟩
      rintro w16 mm n15 ⟨j, rfl, hj, rfl, hc16⟩ -
      refine ⟨fun g w' => ((g = true ∧ j + 1 ≤ m) ∨ (g = false ∧ j = m)) ∧ Chg w15 w' [], ?_, ?_⟩
      · rintro w17 g ⟨hcase, hc17⟩ -
        rcases hcase with ⟨rfl, hjm⟩ | ⟨rfl, rfl⟩
        · exact cT rfl ⟨m - (j + 1), by omega, j + 1, by rw [IntWalk.i64_in _ (by omega)]; omega, by omega, rfl, hc17⟩
        · refine cF rfl (useC (count_j (h12.quiet hc17)) ?_)
          rintro _ w18 ⟨rfl, rfl⟩
          refine ⟨_, rfl, cT (by rw [hel2]; simp) (useC (lives_c w18) ?_)⟩
          rintro _ w19 ⟨rfl, hc19⟩
          exact ⟨_, rfl, rfl, (h12.chg.trans hc17 (by simp)).trans hc19 (by simp)⟩
      · by_cases hjd : j < d
        · obtain ⟨hlc, hnc⟩ := row_info (h12.rowAt 3 rfl)
          have hw : IntKind.i64.wrap ((j : Int) + 1) = ((j + 1 : Nat) : Int) := by rw [IntWalk.i64_in _ (by omega)]; omega
          rw [hw]
          refine cT (decide_eq_true (by omega)) ⟨by omega, by omega, ?_⟩
          have e5 : ((j + 1 : Nat) : Int).toNat - 0 = (l.take (j + 1)).length := by rw [List.length_take]; omega
          have hrd : Rd w16 a2 ((l.take (j + 1)).map strV) := by
            have := ((Rd.row (h12.rowAt 3 rfl)).chg hc16).take (j + 1)
            rwa [← List.map_take] at this
          rw [e5, slice0]
          have hf := frames60 (l.take (j + 1)) 0 fun z hz => h60 z (List.mem_of_mem_take hz)
          have htl : (l.take (j + 1)).length ≤ 6 := by rw [List.length_take]; omega
          refine useC (frames_c (by omega) (fun z hz => by have := h60 z (List.mem_of_mem_take hz); omega) (by omega) hrd) ?_
          rintro _ w17 ⟨rfl, hc17⟩
          refine ⟨_, rfl, by decide, ?_, hc16.trans hc17 (by simp)⟩
          have hiff := hmi (j + 1) (by omega)
          rw [bs_size]
          by_cases hle : (framesF 0 (l.take (j + 1))).length ≤ kk
          · exact .inl ⟨decide_eq_true (by omega), hiff.1 hle⟩
          · refine .inr ⟨decide_eq_false (by omega), ?_⟩
            have : ¬ j + 1 ≤ m := fun h => hle (hiff.2 h)
            omega
        · exact cF (decide_eq_false (by omega)) ⟨.inr ⟨rfl, by omega⟩, hc16⟩

theorem journalTears_c (w : World) (hg : ErrT w) {a : Option Addr} {c : Nat} {xs : List (List UInt8)} (hr : Rd w a (xs.map strV)) (hc : xs.length ≤ c) (hcm : c ≤ 9223372036854775807) (_ : a = none → c = 0) (n1 : Int) (h1 : (Lit.int .u16 n1).wf = true) (n2 : Int) (h2 : (Lit.int .u16 n2).wf = true) :
    Calls Tryd.prog 6 #[.slice a xs.length c, .int .u16 n1, .int .u16 n2] w (RetC fun r w' => r = .bool true ∧ Chg w w' []) :=
  journalTears_c' w hg hr hc hcm n1 (wf_u16 h1).1 n2 (wf_u16 h2).1

end Go.Proofs.YtniehglfkacjjaaDoor

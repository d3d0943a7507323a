import Derived.Test.YtbjbfppaghfpcaaMl3
namespace Go.Proofs.Ytbjbfppaghfpcaa
open Go Go.Vc

theorem ine (a : Int) : (a != a) = false := by simp

theorem iwrap1 {k m : Nat} (h : k < m) (hm : m ≤ 9223372036854775807) : IntKind.i64.wrap ((k : Int) + 1) = ((k + 1 : Nat) : Int) := by
  rw [IntWalk.i64_in _ (by omega)]; omega

theorem stepsCells {w : World} {a : Option Addr} {ss : List StepV} (h : StepsAt w a ss) {k : Nat} (hk : k < ss.length) : ∃ q, a = some q ∧ cellsAt w (q.add (k * 4)) 0 ss[k].cells :=
  h k ss[k] (by simp [hk])

theorem mediaExact_c {w : World} {a : Option Addr} {c : Nat} {ss : List StepV} (n : Int) (h : StepsAt w a ss) (hb : ∀ t ∈ ss, t.n ≤ 9223372036854775807) (hl : ss.length ≤ 9223372036854775807) :
    Calls Try.prog 3 #[.int .i64 n, .slice a ss.length c] w (RetC fun r w' => r = .bool true ∧ Chg w w' []) := by
  refine lMediaExact_ok ?_
  unfold lMediaExact
  have aw : ∀ {w1 : World}, Chg w w1 [] → Calls Try.prog 9 #[] w1 fun e w2 => ∃ b2 : Bool, e = .returned (.bool b2) ∧ (Value.bool b2 = .bool true ∧ Chg w w2 []) := fun hc =>
    useC (awake_c _) (by rintro _ w2 ⟨rfl, hc2⟩; exact ⟨_, rfl, rfl, hc.trans hc2 (by simp)⟩)
  refine useC (few_c h hl) ?_
  rintro _ w1 ⟨rfl, rfl⟩
  refine ⟨_, rfl, ?_⟩
  cases hf : fewB ss with
  | false => exact cT rfl (aw (Chg.refl _ _))
  | true =>
    refine cF rfl ?_
    by_cases hn : n < 1 ∨ 262144 < n
    · refine useC (new_calls w1 n) ?_
      rintro _ w3 h3
      rw [if_pos hn] at h3
      obtain ⟨rfl, rfl⟩ := h3
      refine ⟨_, _, rfl, useC (rnew_calls _ n) ?_⟩
      rintro _ w4 h4
      rw [if_pos hn] at h4
      obtain ⟨rfl, rfl⟩ := h4
      exact ⟨_, _, rfl, cF rfl (cT rfl (cT rfl (aw (Chg.refl _ _))))⟩
    · refine useC (new_st (St.start w1) hn) ?_
      rintro _ w3 ⟨x, rfl, h3⟩
      refine ⟨_, _, rfl, useC (rnew_st h3 hn) ?_⟩
      rintro _ w4 ⟨y, rfl, h4⟩
      refine ⟨_, _, rfl, cF rfl (cF rfl (cF rfl ?_))⟩
      have z4 : St w1 w4 (Sep [medA x ⟨n, [], 0, false, none⟩, refA y ⟨n, [], 0, false, none⟩]) := by
        have h5 := h4.assoc.swap
        refine h5.eqv ?_
        rintro v F ⟨F1, F2, rfl, ⟨F3, F4, rfl, hM, hR, hd⟩, rfl, _⟩
        exact ⟨F3 ++ (F4 ++ []), ⟨F3, F4 ++ [], rfl, hM, ⟨F4, [], rfl, hR, rfl, by simp⟩, by simpa using hd⟩, fun j => by simp⟩
      refine ⟨fun k w' m => ∃ (i : Nat) (s : MS), k = (i : Int) ∧ i ≤ ss.length ∧ m = ss.length - i ∧ s.Ok ∧ St w1 w' (Sep [medA x s, refA y s]), ⟨ss.length, 0, _, rfl, by omega, by omega, okNew hn, z4⟩, ?_⟩
      rintro w6 m k ⟨i, s, rfl, hi, rfl, ho, hst⟩ -
      by_cases hlt : i < ss.length
      · refine cT (decide_eq_true (by omega)) ?_
        refine ⟨fun b w' => b = false ∧ ∃ s' : MS, s'.Ok ∧ St w1 w' (Sep [medA x s', refA y s']), ?_, ?_⟩
        · rintro w7 b ⟨rfl, s', ho', h7⟩ -
          exact cF rfl ⟨ss.length - (i + 1), by omega, i + 1, s', iwrap1 hlt hl, by omega, rfl, ho', h7⟩
        · obtain ⟨q, rfl, hcs⟩ := stepsCells (h.chg hst.chg) hlt
          refine ⟨by omega, by omega, _, _, _, _, by rw [Int.toNat_natCast]; exact hcs, ?_⟩
          have hbn := hb ss[i] (List.getElem_mem hlt)
          refine useC (do_c hst ho ss[i] hbn) ?_
          rintro _ w8 ⟨rfl, h8⟩
          refine ⟨_, rfl, cF rfl (useC (same_c h8) ?_)⟩
          rintro _ w9 ⟨rfl, rfl⟩
          exact ⟨_, rfl, rfl, _, MS.doS_ok ho _ _ _ _ hbn, h8⟩
      · refine cF (decide_eq_false (by omega)) (aw hst.chg)

theorem mediaCopies_c {w : World} {a a2 : Option Addr} {c c2 : Nat} {ss ss2 : List StepV} (n : Int) (h : StepsAt w a ss) (hb : ∀ t ∈ ss, t.n ≤ 9223372036854775807) (hl : ss.length ≤ 9223372036854775807)
    (h2 : StepsAt w a2 ss2) (hb2 : ∀ t ∈ ss2, t.n ≤ 9223372036854775807) (hl2 : ss2.length ≤ 9223372036854775807) :
    Calls Try.prog 5 #[.int .i64 n, .slice a ss.length c, .slice a2 ss2.length c2] w (RetC fun r w' => r = .bool true ∧ Chg w w' []) := by
  refine lMediaCopies_ok ?_
  unfold lMediaCopies
  have aw : ∀ {w1 : World}, Chg w w1 [] → Calls Try.prog 9 #[] w1 fun e w2 => ∃ b2 : Bool, e = .returned (.bool b2) ∧ (Value.bool b2 = .bool true ∧ Chg w w2 []) := fun hc =>
    useC (awake_c _) (by rintro _ w2 ⟨rfl, hc2⟩; exact ⟨_, rfl, rfl, hc.trans hc2 (by simp)⟩)
  refine ⟨fun _ w' => w' = w, ?_, ?_⟩
  · rintro w1 b rfl -
    cases b with
    | true => exact cT rfl (aw (Chg.refl _ _))
    | false =>
      refine cF rfl ?_
      by_cases hn : n < 1 ∨ 262144 < n
      · refine useC (new_calls w1 n) ?_
        rintro _ w3 h3
        rw [if_pos hn] at h3
        obtain ⟨rfl, rfl⟩ := h3
        refine ⟨_, _, rfl, useC (rnew_calls _ n) ?_⟩
        rintro _ w4 h4
        rw [if_pos hn] at h4
        obtain ⟨rfl, rfl⟩ := h4
        exact ⟨_, _, rfl, cF rfl (cT rfl (aw (Chg.refl _ _)))⟩
      · refine useC (new_st (St.start w1) hn) ?_
        rintro _ w3 ⟨x, rfl, h3⟩
        refine ⟨_, _, rfl, useC (rnew_st h3 hn) ?_⟩
        rintro _ w4 ⟨y, rfl, h4⟩
        refine ⟨_, _, rfl, cF rfl (cF rfl (cF rfl ?_))⟩
        have z4 : St w1 w4 (Sep [medA x ⟨n, [], 0, false, none⟩, refA y ⟨n, [], 0, false, none⟩]) := by
          have h5 := h4.assoc.swap
          refine h5.eqv ?_
          rintro v F ⟨F1, F2, rfl, ⟨F3, F4, rfl, hM, hR, hd⟩, rfl, _⟩
          exact ⟨F3 ++ (F4 ++ []), ⟨F3, F4 ++ [], rfl, hM, ⟨F4, [], rfl, hR, rfl, by simp⟩, by simpa using hd⟩, fun j => by simp⟩
        refine ⟨fun k w' m => ∃ (i : Nat) (s : MS), k = (i : Int) ∧ i ≤ ss.length ∧ m = ss.length - i ∧ s.Ok ∧ St w1 w' (Sep [medA x s, refA y s]), ⟨ss.length, 0, _, rfl, by omega, by omega, okNew hn, z4⟩, ?_⟩
        rintro w6 m k ⟨i, s, rfl, hi, rfl, ho, hst⟩ -
        by_cases hlt : i < ss.length
        · refine cT (decide_eq_true (by omega)) ?_
          obtain ⟨q, rfl, hcs⟩ := stepsCells (h.chg hst.chg) hlt
          refine ⟨by omega, by omega, _, _, _, _, by rw [Int.toNat_natCast]; exact hcs, ?_⟩
          have hbn := hb ss[i] (List.getElem_mem hlt)
          refine useC (do_c hst ho ss[i] hbn) ?_
          rintro _ w8 ⟨rfl, h8⟩
          exact ⟨_, rfl, cF rfl ⟨ss.length - (i + 1), by omega, i + 1, _, iwrap1 hlt hl, by omega, rfl, MS.doS_ok ho _ _ _ _ hbn, h8⟩⟩
        · refine cF (decide_eq_false (by omega)) ?_
          refine useC (copy_st hst ho) ?_
          rintro _ w8 ⟨x', rfl, h8⟩
          refine ⟨_, rfl, ?_⟩
          have z8 : St w1 w8 (Sep [refA y s, medA x s, medA x' s]) := by
            refine h8.eqv ?_
            rintro v F ⟨F1, F2, rfl, ⟨F3, F4, rfl, hM, ⟨F5, F6, rfl, hR, rfl, hd3⟩, hd1⟩, hC, hd⟩
            refine ⟨F5 ++ (F3 ++ (F2 ++ [])), ⟨F5, _, rfl, hR, ⟨F3, _, rfl, hM, ⟨F2, [], rfl, hC, rfl, by simp⟩, fun k hk hk2 => hd k (by simp [hk]) (by simpa using hk2)⟩, fun k hk hk2 => ?_⟩, fun j => by simp; constructor <;> (rintro (h | h | h) <;> simp [h])⟩
            rcases List.mem_append.1 hk2 with h | h
            · exact hd1 k h (by simp [hk])
            · exact hd k (by simp [hk]) (by simpa using h)
          refine useC (rcopy_st z8) ?_
          rintro _ w9 ⟨y', rfl, h9⟩
          refine ⟨_, rfl, ?_⟩
          have z9 : St w1 w9 (Sep [medA x' s, refA y' s, medA x s, refA y s]) := by
            refine h9.eqv ?_
            rintro v F ⟨F1, F2, rfl, ⟨F3, F4, rfl, hR, ⟨F5, F6, rfl, hM, ⟨F7, F8, rfl, hC, rfl, _⟩, hd3⟩, hd1⟩, hR', hd⟩
            have e1 : ∀ k ∈ F7, k ∉ F2 := fun k hk => hd k (by simp [hk])
            have e2 : ∀ k ∈ F7, k ∉ F5 := fun k hk hk2 => hd3 k hk2 (by simp [hk])
            have e3 : ∀ k ∈ F7, k ∉ F3 := fun k hk hk2 => hd1 k hk2 (by simp [hk])
            have e4 : ∀ k ∈ F2, k ∉ F5 := fun k hk hk2 => hd k (by simp [hk2]) hk
            have e5 : ∀ k ∈ F2, k ∉ F3 := fun k hk hk2 => hd k (by simp [hk2]) hk
            have e6 : ∀ k ∈ F5, k ∉ F3 := fun k hk hk2 => hd1 k hk2 (by simp [hk])
            refine ⟨F7 ++ (F2 ++ (F5 ++ (F3 ++ []))), ⟨F7, _, rfl, hC, ⟨F2, _, rfl, hR', ⟨F5, _, rfl, hM, ⟨F3, [], rfl, hR, rfl, by simp⟩, ?_⟩, ?_⟩, ?_⟩, fun j => by simp; constructor <;> (rintro (h | h | h | h) <;> simp [h])⟩
            · intro k hk hk2; simp at hk2; exact e6 k hk hk2
            · intro k hk hk2; simp at hk2; rcases hk2 with h | h
              · exact e4 k hk h
              · exact e5 k hk h
            · intro k hk hk2; simp at hk2; rcases hk2 with h | h | h
              · exact e1 k hk h
              · exact e2 k hk h
              · exact e3 k hk h
          refine ⟨fun b w' => b = false ∧ St w1 w' (Sep [medA x' s, refA y' s, medA x s, refA y s]), ?_, ?_⟩
          · rintro w10 b ⟨rfl, h10⟩ -
            refine cF rfl ?_
            refine ⟨fun k w' m => ∃ (i : Nat) (t : MS), k = (i : Int) ∧ i ≤ ss2.length ∧ m = ss2.length - i ∧ t.Ok ∧ St w1 w' (Sep [medA x' t, refA y' t, medA x s, refA y s]), ⟨ss2.length, 0, _, rfl, by omega, by omega, ho, h10⟩, ?_⟩
            rintro w11 m k ⟨i, t, rfl, hi, rfl, ho', hst'⟩ -
            by_cases hlt : i < ss2.length
            · refine cT (decide_eq_true (by omega)) ?_
              refine ⟨fun b w' => b = false ∧ ∃ t' : MS, t'.Ok ∧ St w1 w' (Sep [medA x' t', refA y' t', medA x s, refA y s]), ?_, ?_⟩
              · rintro w7 b ⟨rfl, s', ho', h7⟩ -
                exact cF rfl ⟨ss2.length - (i + 1), by omega, i + 1, s', iwrap1 hlt hl2, by omega, rfl, ho', h7⟩
              · obtain ⟨q, rfl, hcs⟩ := stepsCells (h2.chg hst'.chg) hlt
                refine ⟨by omega, by omega, _, _, _, _, by rw [Int.toNat_natCast]; exact hcs, ?_⟩
                have hbn := hb2 ss2[i] (List.getElem_mem hlt)
                refine useC (do_c hst' ho' ss2[i] hbn) ?_
                rintro _ w13 ⟨rfl, h13⟩
                refine ⟨_, rfl, cF rfl (useC (same_c h13) ?_)⟩
                rintro _ w14 ⟨rfl, rfl⟩
                have h14 := (St.pull (St.pull h13 3) 3)
                refine ⟨_, rfl, cF rfl (useC (same_c h14) ?_)⟩
                rintro _ w15 ⟨rfl, rfl⟩
                exact ⟨_, rfl, rfl, _, MS.doS_ok ho' _ _ _ _ hbn, h13⟩
            · refine cF (decide_eq_false (by omega)) ?_
              have h16 := (St.pull (St.pull hst' 3) 3)
              refine ⟨fun k w' m => ∃ (i : Nat) (t' : MS), k = (i : Int) ∧ i ≤ ss2.length ∧ m = ss2.length - i ∧ t'.Ok ∧ St w1 w' (Sep [medA x t', refA y t', medA x' t, refA y' t]), ⟨ss2.length, 0, _, rfl, by omega, by omega, ho, h16⟩, ?_⟩
              rintro w16 m k ⟨i, t', rfl, hi, rfl, ho'', hst''⟩ -
              by_cases hlt : i < ss2.length
              · refine cT (decide_eq_true (by omega)) ?_
                refine ⟨fun b w' => b = false ∧ ∃ u : MS, u.Ok ∧ St w1 w' (Sep [medA x u, refA y u, medA x' t, refA y' t]), ?_, ?_⟩
                · rintro w7 b ⟨rfl, s', ho', h7⟩ -
                  exact cF rfl ⟨ss2.length - (i + 1), by omega, i + 1, s', iwrap1 hlt hl2, by omega, rfl, ho', h7⟩
                · obtain ⟨q, rfl, hcs⟩ := stepsCells (h2.chg hst''.chg) hlt
                  refine ⟨by omega, by omega, _, _, _, _, by rw [Int.toNat_natCast]; exact hcs, ?_⟩
                  have hbn := hb2 ss2[i] (List.getElem_mem hlt)
                  refine useC (do_c hst'' ho'' ss2[i] hbn) ?_
                  rintro _ w13 ⟨rfl, h13⟩
                  refine ⟨_, rfl, cF rfl (useC (same_c h13) ?_)⟩
                  rintro _ w14 ⟨rfl, rfl⟩
                  have h14 := (St.pull (St.pull h13 3) 3)
                  refine ⟨_, rfl, cF rfl (useC (same_c h14) ?_)⟩
                  rintro _ w15 ⟨rfl, rfl⟩
                  exact ⟨_, rfl, rfl, _, MS.doS_ok ho'' _ _ _ _ hbn, h13⟩
              · exact cF (decide_eq_false (by omega)) (aw hst''.chg)
          · refine cF rfl (useC (same_c z9) ?_)
            rintro _ w22 ⟨rfl, rfl⟩
            exact ⟨_, rfl, rfl, z9⟩
  · refine useC (few_c h hl) ?_
    rintro _ w1 ⟨rfl, rfl⟩
    refine ⟨_, rfl, ?_⟩
    cases hf : fewB ss with
    | false => exact cT rfl rfl
    | true =>
      refine cF rfl (useC (few_c h2 hl2) ?_)
      rintro _ w1 ⟨rfl, rfl⟩
      exact ⟨_, rfl, rfl⟩

end Go.Proofs.Ytbjbfppaghfpcaa

import Derived.Test.YtniehglfkacjjaaDoorjL1
namespace Go.Proofs.YtniehglfkacjjaaDoor
open Go Go.Vc

theorem opnM_ok {s : MS} (h : s.Ok) : (opnM s).Ok := by
  obtain ⟨_, _, _, h4⟩ := parseM_canon s.b
  have h1 := h.s1
  refine ⟨?_, h.s2, ?_, h.l⟩ <;> simp only [opnM, List.length_take] <;> omega

theorem opnM_len (s : MS) : (opnM s).b.length = tillM (parseM s.b) := by
  obtain ⟨_, _, _, h4⟩ := parseM_canon s.b
  simp only [opnM, List.length_take]; omega

theorem opnM_again (s : MS) : parseM (opnM s).b = parseM s.b := parseM_again s.b

theorem journalOpens_c (w : World) (s : ByteArray) : Calls Tryd.prog 4 #[.string s] w (RetC fun r w' => r = .bool true ∧ Chg w w' []) := by
  refine lJournalOpens_ok ?_
  unfold lJournalOpens
  refine ⟨fun s2 w' => w' = w ∧ s2.size ≤ 1500, ?_, ?_⟩
  · rintro w1 s2 ⟨rfl, hs⟩ -
    have hs' := size_list s2
    refine useC (new_st (St.start w1) (by omega)) ?_
    rintro _ w2 ⟨y, rfl, h2⟩
    have h2 := h2.swap
    have hfit : (((ms0 2000).b.length : Nat) : Int) + s2.data.toList.length ≤ (ms0 2000).size := by
      show ((0 : Nat) : Int) + s2.data.toList.length ≤ 2000
      omega
    have hap := app_fits (s := ms0 2000) (x := s2.data.toList) rfl rfl hfit
    have hoS : (({ ms0 2000 with b := (ms0 2000).b ++ s2.data.toList } : MS)).Ok := by
      have := MS.app_ok (okNew (n := 2000) (by omega)) s2.data.toList
      rw [show (⟨2000, [], 0, false, none⟩ : MS) = ms0 2000 from rfl, hap] at this
      exact this
    refine ⟨_, _, rfl, fun g w' => g = false ∧ St w1 w' (star (medA y { ms0 2000 with b := (ms0 2000).b ++ s2.data.toList }) emp), ?_, cF rfl (cF rfl (useC (append_st h2 (okNew (by omega)) s2) ?_))⟩
    rotate_left
    · rw [show (⟨2000, [], 0, false, none⟩ : MS) = ms0 2000 from rfl, hap]
      rintro _ w3 ⟨rfl, h3⟩
      exact ⟨_, rfl, rfl, h3⟩
    · rintro w3 g ⟨rfl, h3⟩ -
      refine cF rfl (useC (qverify_c h3 s2 (by omega)) ?_)
      rintro _ w4 ⟨a1, c1, rfl, h4⟩
      obtain ⟨hc1, hc2, hc3, hc4⟩ := parseM_canon s2.data.toList
      have hlen : (parseM s2.data.toList).length ≤ s2.data.toList.length := parseF_len _ _ _ _
      obtain ⟨es, hes⟩ : ∃ es, parseM s2.data.toList = es := ⟨_, rfl⟩
      rw [hes] at h4 hc1 hc2 hc3 hc4 hlen ⊢
      refine ⟨_, _, _, _, rfl, fun n w' m => ∃ (k : Nat) (S : MS), n = (k : Int) ∧ k ≤ 2 ∧ m = 2 - k ∧ S.Ok ∧ S.down = false ∧ S.left = none ∧ parseM S.b = es ∧ St w1 w' (Sep [rowA 9 1 (.slice a1 es.length c1) es.length (es.map recV), medA y S]),
        ⟨2, 0, _, rfl, by omega, by omega, hoS, rfl, rfl, hes, h4⟩, ?_⟩
      rintro w5 m n ⟨k, S, rfl, hk, rfl, hoS, hd, hl, hp, h5⟩ -
      by_cases hlt : k < 2
      · refine cT (decide_eq_true (by omega)) (useC (open_c (h5.out 1 rfl) hoS hd hl) ?_)
        have hlenM := opnM_len S
        have hag := opnM_again S
        rw [hp] at hlenM hag ⊢
        rintro _ w6 ⟨x, rfl, h6⟩
        have h6 : St w1 w6 (Sep [jouA x y es es.length false, medA y (opnM S), rowA 9 1 (.slice a1 es.length c1) es.length (es.map recV)]) := h6
        refine ⟨_, _, rfl, fun g w' => g = false ∧ w' = w6, ?_, ?_⟩
        · rintro w7 g ⟨rfl, rfl⟩ -
          refine cF rfl ⟨fun n w' m => ∃ i : Nat, n = (i : Int) ∧ i ≤ es.length ∧ m = es.length - i ∧ w' = w7, ⟨es.length, 0, rfl, by omega, by omega, rfl⟩, ?_⟩
          rintro w8 m n ⟨i, rfl, hi, rfl, rfl⟩ -
          by_cases hlt2 : i < es.length
          · refine cT (decide_eq_true (by omega)) (useC (record_j h6 (i := i) (e := es[i]) (by simp [hlt2])) ?_)
            rintro _ w9 ⟨rfl, rfl⟩
            refine ⟨_, _, rfl, fun g w' => g = false ∧ w' = w9, ?_, cF rfl ?_⟩
            · rintro w10 g ⟨rfl, rfl⟩ -
              exact cF rfl ⟨es.length - (i + 1), by omega, i + 1, by rw [IntWalk.i64_in _ (by omega)]; omega, by omega, rfl, rfl⟩
            · obtain ⟨q, rfl, hq⟩ := Rd.row (h6.rowAt 2 rfl) i (recV es[i]) (by simp [hlt2])
              refine ⟨by omega, by omega, bs es[i].s, ?_, bytes_bne _ _ rfl, rfl⟩
              rw [Int.toNat_natCast]; exact hq
          · exact cF (decide_eq_false (by omega)) ⟨2 - (k + 1), by omega, k + 1, opnM S, by rw [IntWalk.i64_in _ (by omega)]; omega, by omega, rfl, opnM_ok hoS, hd, hl, hag, h6.picks [2, 1]⟩
        · refine cF rfl (cF rfl (useC (count_j h6) ?_))
          rintro _ w7 ⟨rfl, rfl⟩
          refine ⟨_, rfl, cF (by simp) (useC (durable_j h6) ?_)⟩
          rintro _ w8 ⟨rfl, rfl⟩
          refine ⟨_, rfl, cF (by simp) (useC (size_st (h6.out 1 rfl)) ?_)⟩
          rintro _ w9 ⟨rfl, rfl⟩
          refine ⟨_, rfl, cF (by rw [hlenM]; simp) (useC (durable_st (h6.out 1 rfl)) ?_)⟩
          rintro _ w10 ⟨rfl, rfl⟩
          refine ⟨_, rfl, ?_, rfl⟩
          have : (opnM S).dur = tillM es := by show tillM (parseM S.b) = _; rw [hp]
          rw [this]; simp
      · refine cF (decide_eq_false (by omega)) (useC (lives_c w5) ?_)
        rintro _ w6 ⟨rfl, hc6⟩
        exact ⟨_, rfl, rfl, h5.chg.trans hc6 (by simp)⟩
  · by_cases h : 1500 < s.size
    · refine cT (decide_eq_true (by omega)) ⟨by omega, by omega, rfl, ?_⟩
      show (s.extract 0 1500).size ≤ 1500
      rw [ByteArray.size_extract]; omega
    · exact cF (decide_eq_false (by omega)) ⟨rfl, by omega⟩

end Go.Proofs.YtniehglfkacjjaaDoor

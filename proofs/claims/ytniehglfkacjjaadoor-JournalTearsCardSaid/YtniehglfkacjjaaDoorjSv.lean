import Derived.Test.YtniehglfkacjjaaDoorjSm
namespace Go.Proofs.YtniehglfkacjjaaDoor
open Go Go.Vc

theorem qnew_c {w0 w : World} {A : Asn} (h : St w0 w A) (l : List UInt8) : Calls Tryd.prog 48 #[.string (bs l)] w (RetC fun r w' => ∃ x, r = .pointer (some ⟨x, 0, none⟩) ∧ St w0 w' (star (qdA x l 0) A)) :=
  qNew_ok ⟨_, rfl, (h.box _ _).swap⟩

theorem qverify_c {w0 w : World} {A : Asn} (h : St w0 w A) (s : ByteArray) (hs : s.size ≤ 230584300921) :
    Calls Tryd.prog 24 #[.string s] w (RetC fun r w' => ∃ a c, r = .tuple #[.slice a (parseM s.data.toList).length c, .int .i64 (tillM (parseM s.data.toList) : Int)] ∧
      St w0 w' (star (rowA 9 1 (.slice a (parseM s.data.toList).length c) (parseM s.data.toList).length ((parseM s.data.toList).map recV)) A)) := by
  obtain ⟨L, rfl⟩ : ∃ L, s = bs L := ⟨s.data.toList, rfl⟩
  have hL : (bs L).data.toList = L := rfl
  rw [hL]
  rw [bs_size] at hs
  refine sVerify_ok ?_
  unfold sVerify
  refine ⟨fun a l c n1 n2 w' m => ∃ (pre : List Ent) (k at_ hd : Nat), l = pre.length ∧ n1 = (at_ : Int) ∧ n2 = (hd : Int) ∧ hd < 18446744073709551616 ∧ at_ ≤ L.length ∧ tillM pre = at_ ∧ m = L.length - at_ ∧ m ≤ k ∧ parseM L = pre ++ parseF k (L.drop at_) at_ hd ∧
      St w0 w' (star (rowA 9 1 (.slice a l c) pre.length (pre.map recV)) A),
    ⟨L.length, [], L.length, 0, 0, rfl, rfl, rfl, by decide, by omega, rfl, by omega, by omega, rfl, (h.nilRow 9 1).swap⟩, ?_⟩
  rintro w1 m a l c n1 n2 ⟨pre, k, at_, hd, rfl, rfl, rfl, hhd, hat, htill, rfl, hk, hp, hst⟩ -
  have hplen : pre.length ≤ L.length := by
    have h1 := congrArg List.length hp
    have h2 := parseF_len L.length L 0 0
    unfold parseM at h1
    rw [List.length_append] at h1
    omega
  refine ⟨by omega, by rw [bs_size]; omega, ?_⟩
  rw [Int.toNat_natCast, bs_from]
  obtain ⟨rest, hrest⟩ : ∃ rest, L.drop at_ = rest := ⟨_, rfl⟩
  have hlen : rest.length = L.length - at_ := by rw [← hrest, List.length_drop]
  rw [hrest] at hp ⊢
  refine useC (qnew_c hst rest) ?_
  rintro _ w2 ⟨x, rfl, h2⟩
  refine ⟨_, rfl, useC (qtext_rd h2 (by omega)) ?_⟩
  intro r w3 h3
  have hstop : ∀ {w' : World}, parseM L = pre → St w0 w' (star (rowA 9 1 (.slice a pre.length c) pre.length (pre.map recV)) A) →
      ∃ a' c', Value.tuple #[.slice a pre.length c, .int .i64 (at_ : Int)] = .tuple #[.slice a' (parseM L).length c', .int .i64 (tillM (parseM L) : Int)] ∧ St w0 w' (star (rowA 9 1 (.slice a' (parseM L).length c') (parseM L).length ((parseM L).map recV)) A) := fun he hs => by
    rw [he, htill]
    exact ⟨a, c, rfl, hs⟩
  cases hr : textR rest with
  | none =>
    rw [hr] at h3
    obtain ⟨s2, e, l', rfl, hs2, he, h3⟩ := h3
    refine ⟨_, rfl, usePure (rchain_c hd hhd (bs s2) (by rw [bs_size]; omega)) fun w4 hc4 => ⟨_, rfl, useC (qleft_c (h3.quiet hc4)) ?_⟩⟩
    rintro _ w5 ⟨rfl, rfl⟩
    have h5 := (h3.quiet hc4).quiet (Chg.drew w5 [])
    refine ⟨_, rfl, fun g w' => g = true ∧ w' = w5.drew, ?_, _, by rw [addA]; exact qd1 h5, cT (by simpa using he) ⟨rfl, rfl⟩⟩
    rintro w6 g ⟨rfl, rfl⟩ -
    exact cT rfl (hstop (by rw [hp, parseF_none hr, List.append_nil]) h5.second)
  | some p =>
    obtain ⟨s2, t⟩ := p
    rw [hr] at h3
    obtain ⟨rfl, h3⟩ := h3
    obtain ⟨hcan, hs4⟩ := textR_canon hr
    have htl : rest.length = (textM s2).length + t.length := by rw [hcan, List.length_append]
    refine ⟨_, rfl, usePure (rchain_c hd hhd (bs s2) (by rw [bs_size]; omega)) fun w4 hc4 => ⟨_, rfl, useC (qleft_c (h3.quiet hc4)) ?_⟩⟩
    rintro _ w5 ⟨rfl, rfl⟩
    have h5 := (h3.quiet hc4).quiet (Chg.drew w5 [])
    have e0 : (bs s2).data.toList = s2 := rfl
    rw [e0, if_pos rfl]
    have hA : IntKind.i64.wrap ((((bs L).size : Nat) : Int) - ((t.length : Nat) : Int)) = ((L.length - t.length : Nat) : Int) := by
      rw [bs_size, IntWalk.i64_in _ (by omega)]; omega
    have hE : IntKind.i64.wrap (((L.length - t.length : Nat) : Int) + (8 : Int)) = ((L.length - t.length + 8 : Nat) : Int) := by
      rw [IntWalk.i64_in _ (by omega)]; omega
    have hB : IntKind.i64.wrap ((((bs L).size : Nat) : Int) - ((L.length - t.length : Nat) : Int)) = (t.length : Int) := by
      rw [bs_size, IntWalk.i64_in _ (by omega)]; omega
    refine ⟨_, rfl, ?_⟩
    rw [hA, hE, hB]
    refine ⟨fun g w' => (g = false ∧ t.take 8 = leB 8 (chainM hd s2) ∨ g = true ∧ t.take 8 ≠ leB 8 (chainM hd s2)) ∧ St w0 w' (star (rowA 9 1 (.slice a pre.length c) pre.length (pre.map recV)) A), ?_, _, by rw [addA]; exact qd1 h5, cF rfl ?_⟩
    · rintro w6 g ⟨⟨rfl, hgood⟩ | ⟨rfl, hbad⟩, h6⟩ -
      · obtain ⟨hfr, _, hfl⟩ := frame_step hr hgood
        obtain ⟨k', rfl⟩ : ∃ k', k = k' + 1 := ⟨k - 1, by omega⟩
        have hat' : at_ + (frameM s2 (chainM hd s2)).length = L.length - t.length + 8 := by omega
        refine cF rfl (app1_st sl22 h6 (news := [.string (bs s2)]) rfl (by simp [Value.oneCell']) (by omega) (by omega) (fun a2 c2 w8 h8 => ?_) rfl)
        refine ⟨L.length - (L.length - t.length + 8), by omega, pre ++ [⟨s2, chainM hd s2, at_ + (frameM s2 (chainM hd s2)).length⟩], k', L.length - t.length + 8, chainM hd s2, by simp, rfl, rfl, chainM_lt _ _, by omega, by rw [tillM_snoc]; exact hat', rfl, by omega, ?_, by simpa [recV] using h8⟩
        rw [hp, parseF_good hr hgood, ← hat', List.append_assoc]
        congr 2
        rw [hat', show L.drop (L.length - t.length + 8) = t.drop 8 from ?_]
        · rfl
        · have : L.drop (L.length - t.length + 8) = (L.drop at_).drop ((textM s2).length + 8) := by rw [List.drop_drop]; congr 1; omega
          rw [this, hrest, hcan, ← List.drop_drop, List.drop_left]
      · exact cT rfl (hstop (by rw [hp, parseF_bad hr hbad, List.append_nil]) h6)
    · by_cases ht8 : t.length < 8
      · exact cT (decide_eq_true (by omega)) ⟨.inr ⟨rfl, fun hh => by have := congrArg List.length hh; rw [leB_length, List.length_take] at this; omega⟩, h5.second⟩
      · refine cF (decide_eq_false (by omega)) ⟨by omega, by rw [bs_size]; omega, by omega, by omega, usePure (eight_c _) fun w9 hc9 => ⟨_, rfl, ?_, (h5.quiet hc9).second⟩⟩
        have hcmp : ((bs L).extract (((L.length - t.length : Nat) : Int)).toNat (((L.length - t.length + 8 : Nat) : Int)).toNat).data.toList = t.take 8 := by
          rw [Int.toNat_natCast, Int.toNat_natCast, ByteArray.data_extract, Array.toList_extract, List.extract_eq_drop_take']
          have e1 : (bs L).data.toList = L := rfl
          have e2 : L.drop (L.length - t.length) = t := by
            have : L.drop (L.length - t.length) = (L.drop at_).drop ((textM s2).length) := by rw [List.drop_drop]; congr 1; omega
            rw [this, hrest, hcan, List.drop_left]
          rw [e1, List.drop_take, e2]
          congr 1; omega
        by_cases hgood : t.take 8 = leB 8 (chainM hd s2)
        · exact .inl ⟨bytes_bne _ _ (by rw [hcmp, hgood]), hgood⟩
        · refine .inr ⟨?_, hgood⟩
          rw [Go.ByteArray.toList_eq, Go.ByteArray.toList_eq, hcmp]
          simpa using hgood

end Go.Proofs.YtniehglfkacjjaaDoor

import Derived.Test.YtbjbfppaghfpcaaMl5
namespace Go.Proofs.Ytbjbfppaghfpcaa
open Go Go.Vc

theorem appL_b : ∀ (x : List UInt8) (s : MS), ∃ k, k ≤ x.length ∧ (MS.appL x s).2.b = s.b ++ x.take k ∧ (MS.appL x s).2.dur = s.dur
  | [], s => ⟨0, Nat.le_refl _, by simp [MS.appL], rfl⟩
  | c :: cs, s => by
    unfold MS.appL
    split
    · exact ⟨0, Nat.zero_le _, by simp, rfl⟩
    · rename_i n hn
      obtain ⟨k, hk, hb, hd⟩ := appL_b cs { s with left := some n, b := s.b ++ [c] }
      exact ⟨k + 1, by simp; omega, by rw [hb]; simp, hd⟩
    · obtain ⟨k, hk, hb, hd⟩ := appL_b cs { s with b := s.b ++ [c] }
      exact ⟨k + 1, by simp; omega, by rw [hb]; simp, hd⟩

theorem app_b (x : List UInt8) (s : MS) : ∃ k, k ≤ x.length ∧ (s.app x).2.b = s.b ++ x.take k ∧ (s.app x).2.dur = s.dur := by
  unfold MS.app
  split
  · exact ⟨0, Nat.zero_le _, by simp, rfl⟩
  · split
    · exact ⟨0, Nat.zero_le _, by simp, rfl⟩
    · exact appL_b x s

theorem syn_cases (s : MS) : (s.syn.1 = 0 ∧ s.syn.2.b = s.b ∧ s.syn.2.dur = s.b.length) ∨ (s.syn.1 = 19 ∧ s.syn.2.b = s.b ∧ s.syn.2.dur = s.dur) := by
  have h2 := MS.stp_b s
  unfold MS.syn
  split
  · exact .inr ⟨rfl, rfl, rfl⟩
  · split
    · exact .inl ⟨rfl, h2.1, rfl⟩
    · exact .inr ⟨rfl, h2.1, h2.2.2⟩

theorem arm_b (n : Int) (s : MS) : (s.arm n).b = s.b ∧ (s.arm n).dur = s.dur := by
  unfold MS.arm; split <;> exact ⟨rfl, rfl⟩

theorem rd_crash (n : Int) (s : MS) : (s.crash n).rd = (s.b.take (s.keeps n), 0) := rfl

theorem ba_size (b : ByteArray) : b.size = b.data.toList.length := by
  cases b; rfl

theorem ext_list (s : ByteArray) {m : Nat} : (s.extract 0 m).data.toList = s.data.toList.take m := by
  rw [ByteArray.data_extract, Array.toList_extract, List.extract_eq_take_drop]
  simp

theorem app_list (a b : ByteArray) : (a ++ b).data.toList = a.data.toList ++ b.data.toList := by
  rw [ByteArray.data_append, Array.toList_append]

theorem mediaDurable_c {w : World} {a : Option Addr} {c : Nat} {ss : List StepV} (n n2 : Int) (hn2 : n2 ≤ 9223372036854775807) (h : StepsAt w a ss) (hb : ∀ t ∈ ss, t.n ≤ 9223372036854775807) (hl : ss.length ≤ 9223372036854775807) :
    Calls Try.prog 4 #[.int .i64 n, .slice a ss.length c, .int .i64 n2] w (RetC fun r w' => r = .bool true ∧ Chg w w' []) := by
  refine lMediaDurable_ok ?_
  unfold lMediaDurable
  have aw : ∀ {w1 : World}, Chg w w1 [] → Calls Try.prog 9 #[] w1 fun e w2 => ∃ b2 : Bool, e = .returned (.bool b2) ∧ (Value.bool b2 = .bool true ∧ Chg w w2 []) := fun hc =>
    useC (awake_c _) (by rintro _ w2 ⟨rfl, hc2⟩; exact ⟨_, rfl, rfl, hc.trans hc2 (by simp)⟩)
  refine useC (few_c h hl) ?_
  rintro _ w1 ⟨rfl, rfl⟩
  refine ⟨_, rfl, ?_⟩
  cases hf : fewB ss with
  | false => exact cT rfl (aw (Chg.refl _ _))
  | true =>
    refine cF rfl ?_
    by_cases hn : n < 1 ∨ 262144 < n
    · refine useC (new_calls w1 n) ?_
      rintro _ w3 h3
      rw [if_pos hn] at h3
      obtain ⟨rfl, rfl⟩ := h3
      refine ⟨_, _, rfl, fun b w' => b = true ∧ w' = w3, ?_, cT rfl ⟨rfl, rfl⟩⟩
      rintro w4 b ⟨rfl, rfl⟩ -
      refine cT rfl ?_
      by_cases h1 : n < 1
      · exact cT (decide_eq_true h1) ⟨rfl, Chg.refl _ _⟩
      · exact cF (decide_eq_false h1) ⟨by rw [decide_eq_true (by omega)], Chg.refl _ _⟩
    · refine useC (new_st (St.start w1) hn) ?_
      rintro _ w3 ⟨x, rfl, h3⟩
      refine ⟨_, _, rfl, fun b w' => b = false ∧ w' = w3, ?_, cF rfl ⟨rfl, rfl⟩⟩
      rintro w4 b ⟨rfl, rfl⟩ -
      refine cF rfl ?_
      have z4 : St w1 w4 (Sep [medA x ⟨n, [], 0, false, none⟩]) := h3.swap
      refine ⟨fun s1 s2 k w' m => ∃ (i : Nat) (s : MS), k = (i : Int) ∧ i ≤ ss.length ∧ m = ss.length - i ∧ s.Ok ∧ s1.data.toList = s.b ∧ s2.data.toList = s.b.take s.dur ∧ St w1 w' (Sep [medA x s]),
        ⟨ss.length, 0, _, rfl, by omega, by omega, okNew hn, rfl, rfl, z4⟩, ?_⟩
      rintro w5 m s1 s2 k ⟨i, s, rfl, hi, rfl, ho, hs1, hs2, hst⟩ -
      have hbl : s.b.length ≤ 262144 := by have := ho.s1; have := ho.s2; omega
      have hz1 : s1.size = s.b.length := by rw [ba_size, hs1]
      have hz2 : s2.size = s.dur := by rw [ba_size, hs2, List.length_take]; have := ho.d; omega
      by_cases hlt : i < ss.length
      · refine cT (decide_eq_true (by omega)) ?_
        refine ⟨fun s3 s4 w' => ∃ s' : MS, s'.Ok ∧ s3.data.toList = s'.b ∧ s4.data.toList = s'.b.take s'.dur ∧ St w1 w' (Sep [medA x s']), ?_, ?_⟩
        · rintro w6 s3 s4 ⟨s', ho', e3, e4, h6⟩ -
          exact ⟨ss.length - (i + 1), by omega, i + 1, s', iwrap1 hlt hl, by omega, rfl, ho', e3, e4, h6⟩
        · have hcells : ∀ {w' : World}, St w1 w' (Sep [medA x s]) → _ := fun {w'} hw => stepsCells (h.chg hw.chg) hlt
          have hbn := hb ss[i] (List.getElem_mem hlt)
          refine useC (size_st hst) ?_
          rintro _ w7 ⟨rfl, rfl⟩
          refine ⟨_, rfl, ?_⟩
          obtain ⟨q, rfl, hcs⟩ := stepsCells (h.chg hst.chg) hlt
          refine ⟨by omega, by omega, ss[i].k, by rw [Int.toNat_natCast]; exact hcs.1, ?_⟩
          by_cases k0 : ss[i].k = 0
          · refine cT (by rw [k0]; rfl) ⟨by omega, by omega, ss[i].s, by rw [Int.toNat_natCast]; exact hcs.2.2.1, ?_⟩
            refine useC (append_st hst ho ss[i].s) ?_
            rintro _ w8 ⟨rfl, h8⟩
            refine ⟨_, rfl, useC (size_st h8) ?_⟩
            rintro _ w9 ⟨rfl, rfl⟩
            refine ⟨_, rfl, ?_⟩
            obtain ⟨d, hd, eb, ed⟩ := app_b ss[i].s.data.toList s
            have hoA := MS.app_ok ho ss[i].s.data.toList
            have hbl' : (s.app ss[i].s.data.toList).2.b.length ≤ 262144 := by have := hoA.s1; have := hoA.s2; omega
            have hlen : (s.app ss[i].s.data.toList).2.b.length = s.b.length + d := by rw [eb, List.length_append, List.length_take, Nat.min_eq_left hd]
            have hwr : IntKind.i64.wrap (((s.app ss[i].s.data.toList).2.b.length : Int) - (s.b.length : Int)) = (d : Int) := by
              rw [IntWalk.i64_in _ (by omega)]; omega
            have hsz : ss[i].s.size = ss[i].s.data.toList.length := ba_size _
            obtain ⟨q', hq', hcs'⟩ := stepsCells (h.chg (St.chg h8)) hlt
            cases hq'
            refine ⟨fun b w' => b = false ∧ w' = w9, ?_, ?_⟩
            · rintro w10 b ⟨rfl, rfl⟩ -
              refine cF rfl ⟨by omega, by omega, ss[i].s, by rw [Int.toNat_natCast]; exact hcs'.2.2.1, ?_⟩
              rw [hwr]
              have hd2 : (ss[i].s.extract (0 : Int).toNat ((d : Int)).toNat).data.toList = ss[i].s.data.toList.take d := by
                rw [Int.toNat_natCast]; exact ext_list _
              refine ⟨by omega, by omega, by omega, by omega, ?_, _, hoA, ?_, ?_, h8⟩
              · have : (ss[i].s.extract (0 : Int).toNat ((d : Int)).toNat).size = d := by
                  rw [ba_size, hd2, List.length_take]; omega
                rw [this, hz1]
                have : IntKind.i64.max = 9223372036854775807 := rfl
                omega
              · rw [app_list, hd2, hs1, eb]
              · rw [eb, ed, hs2, List.take_append_of_le_length ho.d]
            · rw [hwr]
              exact cF (decide_eq_false (by omega)) ⟨by omega, by omega, ss[i].s, by rw [Int.toNat_natCast]; exact hcs'.2.2.1, by simpa using (by omega : (d : Int) ≤ (ss[i].s.size : Int)), rfl⟩
          refine cF (by simpa using k0) ?_
          by_cases k1 : ss[i].k = 1
          · refine cT (by rw [k1]; rfl) ?_
            refine useC (sync_st hst ho) ?_
            rintro _ w8 ⟨rfl, h8⟩
            refine ⟨_, rfl, ?_⟩
            have hoS := MS.syn_ok ho
            rcases syn_cases s with ⟨e1, e2, e3⟩ | ⟨e1, e2, e3⟩
            · rw [e1]
              exact cT rfl ⟨_, hoS, by rw [e2, hs1], by rw [e2, e3, hs1, List.take_length], h8⟩
            · rw [e1]
              exact cF rfl ⟨_, hoS, by rw [e2, hs1], by rw [e2, e3, hs2], h8⟩
          refine cF (by simpa using k1) ?_
          by_cases k3 : ss[i].k = 3
          · refine cT (by rw [k3]; rfl) ⟨by omega, by omega, ss[i].n, by rw [Int.toNat_natCast]; exact hcs.2.1, ?_⟩
            refine useC (crash_st hst ho hbn) ?_
            rintro _ w8 ⟨rfl, h8⟩
            refine ⟨rfl, useC (read_st h8) ?_⟩
            rintro _ w9 ⟨rfl, rfl⟩
            have hoC := MS.crash_ok ho ss[i].n
            have hk := MS.keeps_le ho ss[i].n
            have hk2 : s.dur ≤ s.keeps ss[i].n := by unfold MS.keeps; omega
            have hz8 : (⟨(s.crash ss[i].n).rd.1.toArray⟩ : ByteArray).size = s.keeps ss[i].n := by
              rw [ba_size, rd_crash]; simp only [List.length_take]; omega
            refine ⟨_, _, rfl, fun b w' => b = false ∧ w' = w9, ?_, ?_⟩
            · rintro w10 b ⟨rfl, rfl⟩ -
              refine cF rfl ⟨_, hoC, rfl, ?_, h8⟩
              show s.b.take (s.keeps _) = (s.b.take (s.keeps _)).take (s.keeps _)
              rw [List.take_take, Nat.min_self]
            · refine cF rfl (cF (decide_eq_false (by rw [hz8, hz2]; omega)) (cF (decide_eq_false (by rw [hz8, hz1]; omega)) ?_))
              refine ⟨by omega, by rw [hz8, hz1]; omega, by omega, by omega, ?_, rfl⟩
              refine bytes_bne _ _ ?_
              rw [hz8, Int.toNat_natCast]
              exact ((ext_list s1).trans (by rw [hs1]; rfl)).symm
          refine cF (by simpa using k3) ?_
          by_cases k4 : ss[i].k = 4
          · refine cT (by rw [k4]; rfl) ⟨by omega, by omega, ss[i].n, by rw [Int.toNat_natCast]; exact hcs.2.1, ?_⟩
            refine useC (arm_st hst ss[i].n) ?_
            rintro _ w8 ⟨rfl, h8⟩
            have ha := arm_b ss[i].n s
            exact ⟨rfl, _, MS.arm_ok ho _ hbn, by rw [ha.1, hs1], by rw [ha.1, ha.2, hs2], h8⟩
          · exact cF (by simpa using k4) ⟨s, ho, hs1, hs2, hst⟩
      · refine cF (decide_eq_false (by omega)) ?_
        refine useC (crash_st hst ho hn2) ?_
        rintro _ w8 ⟨rfl, h8⟩
        refine ⟨rfl, useC (read_st h8) ?_⟩
        rintro _ w9 ⟨rfl, rfl⟩
        have hk := MS.keeps_le ho n2
        have hk2 : s.dur ≤ s.keeps n2 := by unfold MS.keeps; omega
        have hz8 : (⟨(s.crash n2).rd.1.toArray⟩ : ByteArray).size = s.keeps n2 := by
          rw [ba_size, rd_crash]; simp only [List.length_take]; omega
        refine ⟨_, _, rfl, cT rfl (cT (decide_eq_true (by rw [hz8, hz2]; omega)) (cT (decide_eq_true (by rw [hz8, hz1]; omega)) ?_))⟩
        refine ⟨by omega, by rw [hz8, hz1]; omega, by omega, by omega, cT (bytes_beq _ _ ?_) ?_⟩
        · rw [hz8, Int.toNat_natCast]
          exact ((ext_list s1).trans (by rw [hs1]; rfl)).symm
        · refine useC (durable_st h8) ?_
          rintro _ w10 ⟨rfl, rfl⟩
          refine ⟨_, rfl, cT ?_ (aw h8.chg)⟩
          rw [hz8]
          exact ibeq _

end Go.Proofs.Ytbjbfppaghfpcaa

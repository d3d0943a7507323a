import Derived.Test.YtniehglfkacjjaaDoorjLv
namespace Go.Proofs.YtniehglfkacjjaaDoor
open Go Go.Vc

theorem recV_map (es : List Ent) : es.map recV = (es.map (·.s)).map strV := by
  rw [List.map_map]; rfl

theorem journalVerifies_c (w : World) (s : ByteArray) : Calls Tryd.prog 7 #[.string s] w (RetC fun r w' => r = .bool true ∧ Chg w w' []) := by
  refine lJournalVerifies_ok ?_
  unfold lJournalVerifies
  refine ⟨fun s2 w' => w' = w ∧ s2.size ≤ 3000, ?_, ?_⟩
  · rintro w1 s2 ⟨rfl, hs⟩ -
    refine useC (verify_c (St.start w1) s2 (by omega)) ?_
    rintro _ w2 ⟨a1, c1, rfl, h2⟩
    refine ⟨_, _, _, _, rfl, useC (qverify_c h2 s2 (by omega)) ?_⟩
    rintro _ w3 ⟨a2, c2, rfl, h3⟩
    refine ⟨_, _, _, _, rfl, cT (by simp) ?_⟩
    have hlen := parseF_len s2.data.toList.length s2.data.toList 0 0
    have hlen : (parseM s2.data.toList).length ≤ s2.data.toList.length := hlen
    rw [size_list] at hs
    obtain ⟨es, hes⟩ : ∃ es, parseM s2.data.toList = es := ⟨_, rfl⟩
    rw [hes, recV_map] at h3
    rw [hes] at hlen ⊢
    have hl : es.length = (es.map (·.s)).length := by simp
    rw [hl] at h3 hlen ⊢
    have h4 : St w1 w3 (Sep [rowA 9 1 (.slice a1 (es.map (·.s)).length c1) (es.map (·.s)).length ((es.map (·.s)).map strV), rowA 9 1 (.slice a2 (es.map (·.s)).length c2) (es.map (·.s)).length ((es.map (·.s)).map strV), emp]) :=
      St.picks (l := [rowA 9 1 (.slice a2 (es.map (·.s)).length c2) (es.map (·.s)).length ((es.map (·.s)).map strV), rowA 9 1 (.slice a1 (es.map (·.s)).length c1) (es.map (·.s)).length ((es.map (·.s)).map strV)]) h3 [1, 0, 2]
    refine useC (same_c (by omega) h4) ?_
    rintro _ w4 ⟨rfl, hc4⟩
    refine ⟨_, rfl, cT rfl (useC (lives_c w4) ?_)⟩
    rintro _ w5 ⟨rfl, hc5⟩
    exact ⟨_, rfl, rfl, (h4.chg.trans hc4 (by simp)).trans hc5 (by simp)⟩
  · by_cases h : 3000 < s.size
    · refine cT (decide_eq_true (by omega)) ⟨by omega, by omega, rfl, ?_⟩
      show (s.extract 0 3000).size ≤ 3000
      rw [ByteArray.size_extract]; omega
    · exact cF (decide_eq_false (by omega)) ⟨rfl, by omega⟩

end Go.Proofs.YtniehglfkacjjaaDoor

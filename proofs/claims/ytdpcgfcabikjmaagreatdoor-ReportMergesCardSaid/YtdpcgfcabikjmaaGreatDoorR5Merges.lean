/- ReportMerges returns true for every three Summaries, and they read afterwards as before. Conditions: the card's listed package-level variables hold what the program's text lays. -/
import Derived.Test.YtdpcgfcabikjmaaGreatDoorr5Ws
import Derived.Test.YtdpcgfcabikjmaaGreatDoorr5N
namespace Go.Proofs.YtdpcgfcabikjmaaGreatDoor
open Go Go.Vc Go.ChangeShapes Go.WideShapes Go.ChangeAt Go.RowKit

theorem laidWorld_met' (os : Os) (args : Array Value) : laidMetH Tryz.prog Rows.reportMergesRow.laid ((laidWorld os).forCall (fun _ _ => 0) ⟨#[], args, []⟩).memory := laidWorld_met os args

set_option maxRecDepth 100000 in
theorem reportMerges_lifted (os : Os) (started : os.Started) (H : Type) (enc : TypeId × Value → H) :
    ReturnsInHanded {} Tryz.checked os 4 .any (fun w args => (Rows.reportMergesSpec.pre enc Tryz.prog Tryz.f4 [] false w args ∧ laidMetH Tryz.prog Rows.reportMergesRow.laid w) ∧ sizedMet enc Tryz.prog Tryz.f4 (OpenSpec.ofChange Rows.reportMergesSpec) false w args)
      (Rows.reportMergesSpec.post enc Tryz.prog Tryz.f4 false true false false) := by
  refine returnsInHanded_of_change_and (C := Tryz.checked) (X := fun w _ => laidMetH Tryz.prog Rows.reportMergesRow.laid w) (fun _ _ _ hh h => h.of_heap hh) own started (by kernel_rfl) Tryz.func4
    (ChangeSpec.witness_shaped (enc := enc) (C := Tryz.checked) (os := os) (X := fun w _ => laidMetH Tryz.prog Rows.reportMergesRow.laid w) false (laidWorld os) #[.agg #[.int .i64 0, .int .i64 0, .int .i64 0, .int .i64 0, .int .i64 0, .int .i64 0, .int .i64 0, .int .i64 0, .int .i64 0, .int .i64 0, .int .i64 0, .int .i64 0, .slice none 0 0, .slice none 0 0, .slice none 0 0], .agg #[.int .i64 0, .int .i64 0, .int .i64 0, .int .i64 0, .int .i64 0, .int .i64 0, .int .i64 0, .int .i64 0, .int .i64 0, .int .i64 0, .int .i64 0, .int .i64 0, .slice none 0 0, .slice none 0 0, .slice none 0 0], .agg #[.int .i64 0, .int .i64 0, .int .i64 0, .int .i64 0, .int .i64 0, .int .i64 0, .int .i64 0, .int .i64 0, .int .i64 0, .int .i64 0, .int .i64 0, .int .i64 0, .slice none 0 0, .slice none 0 0, .slice none 0 0]] 8 (laidWorld_os os)
      (World.shaped_of_ZipB (by kernel_rfl) (by kernel_rfl)) (by kernel_rfl) (by kernel_rfl) (by kernel_rfl) (laidWorld_met' os _)) ?_
  intro W base args ds gs before hval0 hW _ hwt _ _
  have hval : ∀ (j : Nat) t v, Tryz.f4.params[j]? = some t → args[j]? = some v → Value.okWide Tryz.prog W .any base t v := hval0
  have hW' := hW
  obtain ⟨p, q, hA0, hV, rfl, hfz, hnd⟩ := hW
  have hA : DataW.TrodAll enc Tryz.prog W 0 (fun _ => true) true Tryz.f4.params.toList args.toList ds p := hA0
  rw [Tryz.params4] at hA hval
  obtain ⟨v0, vs0, d0, ds0, p0, q0, hargs, rfl, rfl, h0, r0⟩ := trodAll_cons hA
  obtain ⟨v1, vs1, d1, ds1, p1, q1, rfl, rfl, rfl, h1, r1⟩ := trodAll_cons r0
  obtain ⟨v2, vs2, d2, ds2, p2, q2, rfl, rfl, rfl, h2, r2⟩ := trodAll_cons r1
  obtain ⟨rfl, rfl, rfl⟩ := trodAll_nil r2
  obtain rfl : args = #[v0, v1, v2] := by cases args; simp_all
  obtain ⟨rfl, rfl⟩ := trodVars_none hV
  have k0 := h0
  have lt0 : ∀ x ∈ p0, x.block < W.heap.size := by obtain ⟨m, hm⟩ := k0; exact DataW.trod_lt m _ _ _ hm
  have k1 := h1
  have lt1 : ∀ x ∈ p1, x.block < W.heap.size := by obtain ⟨m, hm⟩ := k1; exact DataW.trod_lt m _ _ _ hm
  have k2 := h2
  have lt2 : ∀ x ∈ p2, x.block < W.heap.size := by obtain ⟨m, hm⟩ := k2; exact DataW.trod_lt m _ _ _ hm
  have o0 := hval 0 27 v0 rfl rfl
  unfold Value.okWide at o0
  simp only [Tryz.underlying27] at o0
  obtain ⟨cs0, rfl, -, -⟩ := o0
  obtain ⟨g0, hg0⟩ := h0
  have hop0 : Opn Tryz.prog W 6 27 cs0.toList := opn_trod 6 hg0 fun y hy => by
    have h' := List.all_eq_true.1 hwt y (w_each (i := 0) (t := 27) (d := d0) (by rw [Tryz.params4]; rfl) rfl hy)
    simpa using h'
  obtain ⟨s0, he0, hs0, hlim0⟩ := open_sm hop0
  have hcs0 : cs0 = s0.val.toArray := by rw [← he0]
  have o1 := hval 1 27 v1 rfl rfl
  unfold Value.okWide at o1
  simp only [Tryz.underlying27] at o1
  obtain ⟨cs1, rfl, -, -⟩ := o1
  obtain ⟨g1, hg1⟩ := h1
  have hop1 : Opn Tryz.prog W 6 27 cs1.toList := opn_trod 6 hg1 fun y hy => by
    have h' := List.all_eq_true.1 hwt y (w_each (i := 1) (t := 27) (d := d1) (by rw [Tryz.params4]; rfl) rfl hy)
    simpa using h'
  obtain ⟨s1, he1, hs1, hlim1⟩ := open_sm hop1
  have hcs1 : cs1 = s1.val.toArray := by rw [← he1]
  have o2 := hval 2 27 v2 rfl rfl
  unfold Value.okWide at o2
  simp only [Tryz.underlying27] at o2
  obtain ⟨cs2, rfl, -, -⟩ := o2
  obtain ⟨g2, hg2⟩ := h2
  have hop2 : Opn Tryz.prog W 6 27 cs2.toList := opn_trod 6 hg2 fun y hy => by
    have h' := List.all_eq_true.1 hwt y (w_each (i := 2) (t := 27) (d := d2) (by rw [Tryz.params4]; rfl) rfl hy)
    simpa using h'
  obtain ⟨s2, he2, hs2, hlim2⟩ := open_sm hop2
  have hcs2 : cs2 = s2.val.toArray := by rw [← he2]
  clear hA0 hval0
  have hcall : Calls Tryz.prog 4 #[.agg cs0, .agg cs1, .agg cs2] W (RetC fun r w' => r = .bool true ∧ Chg W w' []) := by rw [hcs0, hcs1, hcs2]; exact merges_c hs0 hs1 hs2 hlim0 hlim1 hlim2
  refine hcall.mono fun e W' ⟨v, he, hv, hc⟩ => ?_
  subst hv
  subst he
  have bel := below_of hc
  exact ⟨_, rfl, _, _, _, [], _, [], hW', trodAll_mk1 (shut_bool Tryz.underlying4 _), (trodAll_cons_mk (Below.trod laidOut (by kernel_rfl) (of_decide_eq_true (by kernel_rfl)) k0 bel lt0) (trodAll_cons_mk (Below.trod laidOut (by kernel_rfl) (of_decide_eq_true (by kernel_rfl)) k1 bel lt1) (trodAll_cons_mk (Below.trod laidOut (by kernel_rfl) (of_decide_eq_true (by kernel_rfl)) k2 bel lt2) trodAll_mk0))), rfl, bel.frame _, fun h => by cases h⟩

theorem reportMerges_holds0 : Rows.ReportMergesSaid :=
  OpenClaim.holds_of_wide 4 Tryz.f4 rfl rfl rfl rfl rfl rfl rfl ⟨rfl, rfl, rfl, rfl, rfl⟩ rfl rfl rfl rfl rfl (by kernel_rfl) Tryz.func4 (by kernel_rfl)
    (of_decide_eq_true (by kernel_rfl)) (by unfold Func.isWrapper; first | (rw [if_pos (by decide +kernel)]; kernel_rfl) | (rw [if_neg (by decide +kernel)]; exact ⟨rfl, rfl⟩))
    (fun os started H enc _ => reportMerges_lifted os started H enc)

theorem reportMerges_holds : Rows.ReportMergesCardSaid :=
  Claim7.holds_tied_plain_at .later [] [.data, .data, .data, .data, .sentinel, .sentinel, .pinned] true (true, "438a06ca7fe4ce6b4b4b6d9ce0020d59122ddd86e656666e0319dcb62accf4a7") true
    reportMerges_holds0 (fun _ h => by cases h) (by kernel_rfl) (fun _ h => by cases h) reportMerges_row_tie rfl ⟨rfl, rfl⟩ (by kernel_rfl) rfl
    (fun f fn hf hfn => by
      obtain rfl : f = 4 := Option.some.inj ((show Tryz.prog.funcNamed "saleroom/saleroomlaw55.ReportMerges" = some 4 by kernel_rfl).symm.trans hf) |>.symm
      obtain rfl : fn = Tryz.f4 := (Option.some.inj (Tryz.func4.symm.trans hfn)).symm
      exact ⟨by kernel_rfl, fun j t ht => by
        rw [Tryz.params4] at ht
        have hm : t ∈ [27, 27, 27] := by simpa using Array.mem_of_getElem? ht
        have hall : ([27, 27, 27].all fun u => !Tryz.prog.wantsStandIn u) = true := by kernel_rfl
        exact (show Tryz.prog.wantsStandIn t = false by simpa using List.all_eq_true.1 hall t hm)⟩)
    (by kernel_rfl)
#print axioms reportMerges_holds

end Go.Proofs.YtdpcgfcabikjmaaGreatDoor

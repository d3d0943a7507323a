import Derived.Test.YtemiicbbbojdiaaGreatDoorD21
set_option linter.unusedVariables false
set_option maxRecDepth 100000
namespace Go.Proofs.YtemiicbbbojdiaaGreatDoor
open Go Go.Vc Go.ChangeShapes Go.WideShapes Go.ChangeAt Go.RowKit
open Go.ChangeMaps (open_string shut_string)

theorem discloseShows_q1 : Rows.discloseShowsRow.wf (OpenSpec.ofChange Rows.discloseShowsSpec) = true := by kernel_rfl
theorem discloseShows_q4 : Tryz.f3.params.all (Tryz.prog.readableRec ·) = true := by kernel_rfl
theorem discloseShows_q5 : namedTie Tryz.prog Rows.discloseShowsRow.named Rows.discloseShowsSpec.vars = true := by kernel_rfl
theorem discloseShows_q6 : (Rows.discloseShowsRow.stops == []) = true := by kernel_rfl
theorem discloseShows_q8 : (Rows.discloseShowsRow.knobs == []) = true := by kernel_rfl
theorem discloseShows_q10 : (Rows.discloseShowsRow.inPlace == Tryz.prog.inPlace 3) = true := by kernel_rfl
theorem discloseShows_q11 : (Rows.discloseShowsRow.unfollowed == Tryz.prog.unfollowed 3) = true := by kernel_rfl
theorem discloseShows_q12 : (Rows.discloseShowsRow.recurses == Tryz.prog.recurses 3) = true := by kernel_rfl
theorem discloseShows_q13 : (Rows.discloseShowsRow.named == Tryz.prog.varsNamed 3) = true := by kernel_rfl
theorem discloseShows_q14 : (Rows.discloseShowsRow.maps == (Tryz.f3.params.toList ++ Rows.discloseShowsSpec.plain.varTypes Tryz.prog).any (Tryz.prog.mapsRec ·)) = true := by kernel_rfl
theorem discloseShows_q15 : (Rows.discloseShowsRow.ifaces == (Tryz.f3.params.toList ++ Rows.discloseShowsSpec.plain.varTypes Tryz.prog).any (Tryz.prog.ifacesRec ·)) = true := by kernel_rfl
theorem discloseShows_q16 : (Rows.discloseShowsRow.mapsOut == Tryz.prog.mapsAmong Tryz.f3.resultTypes.toList) = true := by kernel_rfl
theorem discloseShows_q17 : (Rows.discloseShowsRow.loops == (Tryz.f3.params.toList ++ Rows.discloseShowsSpec.plain.varTypes Tryz.prog).any (Tryz.prog.loopsFrom ·)) = true := by kernel_rfl
theorem discloseShows_q18 : (Rows.discloseShowsRow.wideKeys == (Tryz.f3.params.toList ++ Rows.discloseShowsSpec.plain.varTypes Tryz.prog ++ Tryz.f3.resultTypes.toList).any (Tryz.prog.wideKeysFrom ·)) = true := by kernel_rfl
theorem discloseShows_q19 : Rows.discloseShowsSpec.vars.all (Tryz.prog.varReadable ·) = true := by kernel_rfl
theorem discloseShows_q20 : Tryz.f3.resultTypes.all (fun t => Tryz.prog.readableRec t && decide (t < Tryz.prog.types.size)) = true := by kernel_rfl
theorem discloseShows_q21 : (Rows.discloseShowsRow.ifacesOut == Tryz.f3.resultTypes.toList.any (Tryz.prog.ifacesRec ·)) = true := by kernel_rfl
theorem discloseShows_q22 : (Rows.discloseShowsRow.loopsOut == Tryz.f3.resultTypes.toList.any (Tryz.prog.loopsFrom ·)) = true := by kernel_rfl
theorem discloseShows_q23 : (Rows.discloseShowsRow.plainKeys == Tryz.prog.plainKeys) = true := by kernel_rfl
theorem discloseShows_q24 : Rows.discloseShowsRow.shortTexts.isNone = true := by kernel_rfl
theorem discloseShows_q27 : (Rows.discloseShowsRow.lifted == Tryz.prog.liftsFinal) = true := by kernel_rfl
theorem discloseShows_q28 : (Tryz.prog.make == some Rows.discloseShowsRow.make) = true := by kernel_rfl
theorem discloseShows_q29 : (Rows.discloseShowsRow.kinds == (if Rows.discloseShowsRow.domain.isEmpty then [] else Tryz.f3.params.toList.map fun t => match Tryz.prog.underlying t with | some (.int k) => some k | _ => none)) = true := by kernel_rfl
theorem discloseShows_q30 : (Rows.discloseShowsRow.pinned == Rows.discloseShowsRow.pinnedBy) = true := by kernel_rfl
theorem discloseShows_q31 : (Rows.discloseShowsRow.veiled == (Tryz.f3.params.toList ++ Rows.discloseShowsSpec.plain.varTypes Tryz.prog ++ Tryz.f3.resultTypes.toList).any (Tryz.prog.veiledRec ·)) = true := by kernel_rfl
theorem discloseShows_q32 : Rows.discloseShowsRow.veiledFits Tryz.prog Tryz.f3.params.toList (Tryz.f3.params.toList ++ Rows.discloseShowsSpec.plain.varTypes Tryz.prog ++ Tryz.f3.resultTypes.toList) = true := by kernel_rfl
theorem discloseShows_joined : joinedFacts Tryz.prog 3 Tryz.f3 Rows.discloseShowsSpec Rows.discloseShowsRow = true := by
  unfold joinedFacts
  simp only [Bool.and_eq_true]
  exact ⟨⟨⟨⟨⟨⟨⟨⟨⟨⟨⟨⟨⟨⟨⟨⟨⟨⟨⟨⟨⟨⟨⟨⟨⟨⟨⟨⟨⟨⟨⟨discloseShows_q1, laidOut⟩, W2⟩, discloseShows_q4⟩, discloseShows_q5⟩, discloseShows_q6⟩, W3⟩, discloseShows_q8⟩, W4⟩, discloseShows_q10⟩, discloseShows_q11⟩, discloseShows_q12⟩, discloseShows_q13⟩, discloseShows_q14⟩, discloseShows_q15⟩, discloseShows_q16⟩, discloseShows_q17⟩, discloseShows_q18⟩, discloseShows_q19⟩, discloseShows_q20⟩, discloseShows_q21⟩, discloseShows_q22⟩, discloseShows_q23⟩, discloseShows_q24⟩, Re⟩, Rf⟩, discloseShows_q27⟩, discloseShows_q28⟩, discloseShows_q29⟩, discloseShows_q30⟩, discloseShows_q31⟩, discloseShows_q32⟩
theorem discloseShows_wf : Rows.discloseShowsRow.wfByText (OpenSpec.ofChange Rows.discloseShowsSpec) = true := by kernel_rfl
theorem discloseShows_mn : Tryz.pinned.checked.prog.mainIs = some (true, ("fdcfe39a0245d34095ffdffb770076baf0f152099cb7286e26b812c7ed515f28" : String).toList) := by kernel_rfl
theorem discloseShows_go : false = Rows.discloseShowsRow.goesBy Tryz.pinned.checked.prog := by kernel_rfl
theorem discloseShows_named : Tryz.prog.funcNamed Rows.discloseShowsRow.func = some 3 := by kernel_rfl

set_option maxRecDepth 100000 in
theorem discloseShows_lifted (os : Os) (started : os.Started) (H : Type) (enc : TypeId × Value → H) :
    ReturnsInHanded {} Tryz.checked os 3 .any (fun w args => (Rows.discloseShowsSpec.pre enc Tryz.prog Tryz.f3 [] false w args ∧ laidMetH Tryz.prog Rows.discloseShowsRow.laid w) ∧ sizedMet enc Tryz.prog Tryz.f3 (OpenSpec.ofChange Rows.discloseShowsSpec) false w args)
      (Rows.discloseShowsSpec.post enc Tryz.prog Tryz.f3 false true false false) := by
  refine returnsInHanded_of_change_and (C := Tryz.checked) (X := fun w _ => laidMetH Tryz.prog Rows.discloseShowsRow.laid w) (fun _ _ _ hh h => h.of_heap hh) own started (by kernel_rfl) Tryz.func3
    (ChangeSpec.witness_shaped (enc := enc) (C := Tryz.checked) (os := os) (X := fun w _ => laidMetH Tryz.prog Rows.discloseShowsRow.laid w) false (laidWorld os) #[.agg #[.int .i64 0, .int .i64 0, .int .i64 0, .int .i64 0], .slice none 0 0, .int .i64 0, .int .i64 0] 8 (laidWorld_os os)
      (World.shaped_of_ZipB (by kernel_rfl) (by kernel_rfl)) (by kernel_rfl) (by kernel_rfl) (by kernel_rfl) (laidWorld_met os _)) ?_
  intro W base args ds gs before hval0 hW _ hwt _ _
  have hval : ∀ (j : Nat) t v, Tryz.f3.params[j]? = some t → args[j]? = some v → Value.okWide Tryz.prog W .any base t v := hval0
  have hW' := hW
  obtain ⟨p, q, hA0, hV, rfl, hfz, hnd⟩ := hW
  have hA : DataW.TrodAll enc Tryz.prog W 0 (fun _ => true) true Tryz.f3.params.toList args.toList ds p := hA0
  rw [Tryz.params3] at hA hval
  obtain ⟨v0, vs0, d0, ds0, p0, q0, hargs, rfl, rfl, h0, r0⟩ := trodAll_cons hA
  obtain ⟨v1, vs1, d1, ds1, p1, q1, rfl, rfl, rfl, h1, r1⟩ := trodAll_cons r0
  obtain ⟨v2, vs2, d2, ds2, p2, q2, rfl, rfl, rfl, h2, r2⟩ := trodAll_cons r1
  obtain ⟨v3, vs3, d3, ds3, p3, q3, rfl, rfl, rfl, h3, r3⟩ := trodAll_cons r2
  obtain ⟨rfl, rfl, rfl⟩ := trodAll_nil r3
  obtain rfl : args = #[v0, v1, v2, v3] := by cases args; simp_all
  obtain ⟨rfl, rfl⟩ := trodVars_none hV
  have k0 := h0
  have lt0 : ∀ x ∈ p0, x.block < W.heap.size := by obtain ⟨m, hm⟩ := k0; exact DataW.trod_lt m _ _ _ hm
  have o0 := hval 0 23 v0 rfl rfl
  unfold Value.okWide at o0
  simp only [Tryz.underlying23] at o0
  obtain ⟨cs0, rfl, -, -⟩ := o0
  obtain ⟨g0, hg0⟩ := h0
  have hop0 : Opn Tryz.prog W 6 23 cs0.toList := opn_trod 6 hg0 fun y hy => by
    have h' := List.all_eq_true.1 hwt y (w_each (i := 0) (t := 23) (d := d0) (by rw [Tryz.params3]; rfl) rfl hy)
    simpa using h'
  obtain ⟨o, he0⟩ := open_po hop0
  have hcs0 : cs0 = o.cells.toArray := by rw [← he0]
  have k1 := h1
  have lt1 : ∀ x ∈ p1, x.block < W.heap.size := by obtain ⟨m, hm⟩ := k1; exact DataW.trod_lt m _ _ _ hm
  obtain ⟨a1, l1, c1, rfl⟩ := okWide_slice Tryz.underlying24 (hval 1 24 v1 rfl rfl)
  obtain ⟨g1, hg1⟩ := h1
  have hop1 : Opn Tryz.prog W 6 24 [.slice a1 l1 c1] := opn_trod 6 hg1 fun y hy => by
    have h' := List.all_eq_true.1 hwt y (w_each (i := 1) (t := 24) (d := d1) (by rw [Tryz.params3]; rfl) rfl hy)
    simpa using h'
  obtain ⟨a, c, l, he1, hc, hf, hi⟩ := open_evs hop1
  have e1 : (Value.slice a1 l1 c1) = .slice a l.length c := List.singleton_inj.1 he1
  obtain ⟨n2, rfl, rfl, rfl, w2⟩ := open_int Tryz.underlying3 (hval 2 3 v2 rfl rfl) h2
  obtain ⟨n3, rfl, rfl, rfl, w3⟩ := open_int Tryz.underlying3 (hval 3 3 v3 rfl rfl) h3
  clear hA0 hval0
  have hcall : Calls Tryz.prog 3 #[.agg cs0, .slice a1 l1 c1, .int .i64 n2, .int .i64 n3] W (RetC fun r w' => r = .bool true ∧ Chg W w' []) := by rw [hcs0, e1]; exact shows45_c W45_c o n2 n3 hf hi
  refine hcall.mono fun e W' ⟨v, he, hv, hc⟩ => ?_
  subst hv
  subst he
  have bel := below_of hc
  exact ⟨_, rfl, _, _, _, [], _, [], hW', trodAll_mk1 (shut_bool Tryz.underlying4 _), (trodAll_cons_mk (Below.trod laidOut (by kernel_rfl) (of_decide_eq_true (by kernel_rfl)) k0 bel lt0) (trodAll_cons_mk (Below.trod laidOut (by kernel_rfl) (of_decide_eq_true (by kernel_rfl)) k1 bel lt1) (trodAll_cons_mk (shut_int Tryz.underlying3 w2) (trodAll_cons_mk (shut_int Tryz.underlying3 w3) trodAll_mk0)))), rfl, bel.frame _, fun h => by cases h⟩

theorem discloseShows_holds0 : Rows.DiscloseShowsSaid :=
  OpenClaim.holds_of_wide 3 Tryz.f3 rfl rfl rfl rfl rfl rfl rfl ⟨rfl, rfl, rfl, rfl, rfl⟩ rfl rfl rfl rfl rfl discloseShows_named Tryz.func3 discloseShows_joined
    (of_decide_eq_true (by kernel_rfl)) (by unfold Func.isWrapper; first | (rw [if_pos (by decide +kernel)]; kernel_rfl) | (rw [if_neg (by decide +kernel)]; exact ⟨rfl, rfl⟩))
    (fun os started H enc _ => discloseShows_lifted os started H enc)

theorem discloseShows_holds : Rows.DiscloseShowsCardSaid :=
  Claim7.holds_tied_plain_at .later [] [.data, .data, .data, .data, .sentinel, .sentinel, .pinned] true (true, "fdcfe39a0245d34095ffdffb770076baf0f152099cb7286e26b812c7ed515f28") true
    discloseShows_holds0 (fun _ h => by cases h) discloseShows_wf (fun _ h => by cases h) discloseShows_row_tie rfl ⟨rfl, rfl⟩ discloseShows_mn rfl
    (fun f fn hf hfn => by
      obtain rfl : f = 3 := Option.some.inj ((show Tryz.prog.funcNamed "saleroom/saleroomlaw45.DiscloseShows" = some 3 by kernel_rfl).symm.trans hf) |>.symm
      obtain rfl : fn = Tryz.f3 := (Option.some.inj (Tryz.func3.symm.trans hfn)).symm
      exact ⟨W5, fun j t ht => by
        rw [Tryz.params3] at ht
        have hm : t ∈ [23, 24, 3, 3] := by simpa using Array.mem_of_getElem? ht
        have hall : ([23, 24, 3, 3].all fun u => !Tryz.prog.wantsStandIn u) = true := by kernel_rfl
        exact (show Tryz.prog.wantsStandIn t = false by simpa using List.all_eq_true.1 hall t hm)⟩)
    discloseShows_go
#print axioms discloseShows_holds

end Go.Proofs.YtemiicbbbojdiaaGreatDoor

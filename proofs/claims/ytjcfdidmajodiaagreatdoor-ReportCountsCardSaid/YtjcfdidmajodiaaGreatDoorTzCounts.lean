import Derived.Test.YtjcfdidmajodiaaGreatDoorH18
set_option linter.unusedVariables false
set_option linter.defProp false
set_option maxRecDepth 100000
namespace Go.Proofs.YtjcfdidmajodiaaGreatDoor
open Go Go.Vc Go.ChangeShapes Go.WideShapes Go.ChangeAt Go.RowKit
open Go.ChangeMaps (open_string shut_string)
theorem reportCounts_q1:Rows.reportCountsRow.wf (OpenSpec.ofChange Rows.reportCountsSpec)=true:=by kernel_rfl
theorem reportCounts_q4:Tryz.f3.params.all (Tryz.prog.readableRec ·)=true:=by kernel_rfl
theorem reportCounts_q5:namedTie Tryz.prog Rows.reportCountsRow.named Rows.reportCountsSpec.vars=true:=by kernel_rfl
theorem reportCounts_q6:(Rows.reportCountsRow.stops==[])=true:=by kernel_rfl
theorem reportCounts_q8:(Rows.reportCountsRow.knobs==[])=true:=by kernel_rfl
theorem reportCounts_q10:(Rows.reportCountsRow.inPlace==Tryz.prog.inPlace 3)=true:=by kernel_rfl
theorem reportCounts_q11:(Rows.reportCountsRow.unfollowed==Tryz.prog.unfollowed 3)=true:=by kernel_rfl
theorem reportCounts_q12:(Rows.reportCountsRow.recurses==Tryz.prog.recurses 3)=true:=by kernel_rfl
theorem reportCounts_q13:(Rows.reportCountsRow.named==Tryz.prog.varsNamed 3)=true:=by kernel_rfl
theorem reportCounts_q14:(Rows.reportCountsRow.maps==(Tryz.f3.params.toList++Rows.reportCountsSpec.plain.varTypes Tryz.prog).any (Tryz.prog.mapsRec ·))=true:=by kernel_rfl
theorem reportCounts_q15:(Rows.reportCountsRow.ifaces==(Tryz.f3.params.toList++Rows.reportCountsSpec.plain.varTypes Tryz.prog).any (Tryz.prog.ifacesRec ·))=true:=by kernel_rfl
theorem reportCounts_q16:(Rows.reportCountsRow.mapsOut==Tryz.prog.mapsAmong Tryz.f3.resultTypes.toList)=true:=by kernel_rfl
theorem reportCounts_q17:(Rows.reportCountsRow.loops==(Tryz.f3.params.toList++Rows.reportCountsSpec.plain.varTypes Tryz.prog).any (Tryz.prog.loopsFrom ·))=true:=by kernel_rfl
theorem reportCounts_q18:(Rows.reportCountsRow.wideKeys==(Tryz.f3.params.toList++Rows.reportCountsSpec.plain.varTypes Tryz.prog++Tryz.f3.resultTypes.toList).any (Tryz.prog.wideKeysFrom ·))=true:=by kernel_rfl
theorem reportCounts_q19:Rows.reportCountsSpec.vars.all (Tryz.prog.varReadable ·)=true:=by kernel_rfl
theorem reportCounts_q20:Tryz.f3.resultTypes.all (λ t=>Tryz.prog.readableRec t&&decide (t<Tryz.prog.types.size))=true:=by kernel_rfl
theorem reportCounts_q21:(Rows.reportCountsRow.ifacesOut==Tryz.f3.resultTypes.toList.any (Tryz.prog.ifacesRec ·))=true:=by kernel_rfl
theorem reportCounts_q22:(Rows.reportCountsRow.loopsOut==Tryz.f3.resultTypes.toList.any (Tryz.prog.loopsFrom ·))=true:=by kernel_rfl
theorem reportCounts_q23:(Rows.reportCountsRow.plainKeys==Tryz.prog.plainKeys)=true:=by kernel_rfl
theorem reportCounts_q24:Rows.reportCountsRow.shortTexts.isNone=true:=by kernel_rfl
theorem reportCounts_q27:(Rows.reportCountsRow.lifted==Tryz.prog.liftsFinal)=true:=by kernel_rfl
theorem reportCounts_q28:(Tryz.prog.make==some Rows.reportCountsRow.make)=true:=by kernel_rfl
theorem reportCounts_q29:(Rows.reportCountsRow.kinds==(if Rows.reportCountsRow.domain.isEmpty then [] else Tryz.f3.params.toList.map λ t=>match Tryz.prog.underlying t with|some (.int k)=>some k|_=>none))=true:=by kernel_rfl
theorem reportCounts_q30:(Rows.reportCountsRow.pinned==Rows.reportCountsRow.pinnedBy)=true:=by kernel_rfl
theorem reportCounts_q31:(Rows.reportCountsRow.veiled==(Tryz.f3.params.toList++Rows.reportCountsSpec.plain.varTypes Tryz.prog++Tryz.f3.resultTypes.toList).any (Tryz.prog.veiledRec ·))=true:=by kernel_rfl
theorem reportCounts_q32:Rows.reportCountsRow.veiledFits Tryz.prog Tryz.f3.params.toList (Tryz.f3.params.toList++Rows.reportCountsSpec.plain.varTypes Tryz.prog++Tryz.f3.resultTypes.toList)=true:=by kernel_rfl
set_option maxRecDepth 100000 in
theorem reportCounts_joined:joinedFacts Tryz.prog 3 Tryz.f3 Rows.reportCountsSpec Rows.reportCountsRow=true:=by
 unfold joinedFacts;simp only[Bool.and_eq_true];exact⟨⟨⟨⟨⟨⟨⟨⟨⟨⟨⟨⟨⟨⟨⟨⟨⟨⟨⟨⟨⟨⟨⟨⟨⟨⟨⟨⟨⟨⟨⟨reportCounts_q1,laidOut⟩,pf3⟩,reportCounts_q4⟩,reportCounts_q5⟩,reportCounts_q6⟩,pf7⟩,reportCounts_q8⟩,pf9⟩,reportCounts_q10⟩,reportCounts_q11⟩,reportCounts_q12⟩,reportCounts_q13⟩,reportCounts_q14⟩,reportCounts_q15⟩,reportCounts_q16⟩,reportCounts_q17⟩,reportCounts_q18⟩,reportCounts_q19⟩,reportCounts_q20⟩,reportCounts_q21⟩,reportCounts_q22⟩,reportCounts_q23⟩,reportCounts_q24⟩,ZI⟩,ZJ⟩,reportCounts_q27⟩,reportCounts_q28⟩,reportCounts_q29⟩,reportCounts_q30⟩,reportCounts_q31⟩,reportCounts_q32⟩
theorem reportCounts_wf:Rows.reportCountsRow.wfByText (OpenSpec.ofChange Rows.reportCountsSpec)=true:=by kernel_rfl
theorem reportCounts_mn:Tryz.pinned.checked.prog.mainIs=some (true,("7599c5a7119e28ac5e7762f8b5dcb4716533efc8fc9e13ce9161291c74bb84a6" : String).toList):=by kernel_rfl
theorem reportCounts_go:false=Rows.reportCountsRow.goesBy Tryz.pinned.checked.prog:=by kernel_rfl
theorem reportCounts_named:Tryz.prog.funcNamed Rows.reportCountsRow.func=some 3:=by kernel_rfl
set_option maxRecDepth 100000 in
theorem reportCounts_lifted(os:Os)(started:os.Started)(H:Type)(enc:TypeId×Value->H) :
  ReturnsInHanded {} Tryz.checked os 3 .any (λ w args=>(Rows.reportCountsSpec.pre enc Tryz.prog Tryz.f3 [] false w args/\laidMetH Tryz.prog Rows.reportCountsRow.laid w)/\sizedMet enc Tryz.prog Tryz.f3 (OpenSpec.ofChange Rows.reportCountsSpec) false w args) (Rows.reportCountsSpec.post enc Tryz.prog Tryz.f3 false true false false):=by
 refine returnsInHanded_of_change_and (C:=Tryz.checked) (X:=λ w _=>laidMetH Tryz.prog Rows.reportCountsRow.laid w) (λ _ _ _ hh h=>h.of_heap hh) own started (by kernel_rfl) Tryz.func3 (ChangeSpec.witness_shaped (enc:=enc) (C:=Tryz.checked) (os:=os) (X:=λ w _=>laidMetH Tryz.prog Rows.reportCountsRow.laid w) false (oT os) #[.slice none 0 0,.agg #[.int .i64 0,.int .i64 0,.int .i64 0,.int .i64 0]] 8 (D0 os)
   (World.shaped_of_ZipB (by kernel_rfl) (by kernel_rfl)) (by kernel_rfl) (by kernel_rfl) (by kernel_rfl) (BC os _)) ?_
 intro W base args ds gs before hval0 hW _ hwt hL _;have hval:∀ (j:Nat) t v,Tryz.f3.params[j]?=some t->args[j]?=some v->Value.okWide Tryz.prog W .any base t v:=hval0;have hW':=hW;obtain⟨p,q,hA0,hV,rfl,hfz,hnd⟩:=hW;have hA:DataW.TrodAll enc Tryz.prog W 0 (λ _=>true) true Tryz.f3.params.toList args.toList ds p:=hA0;rw[Tryz.params3] at hA hval;obtain⟨v0,vs0,d0,ds0,p0,q0,hargs,rfl,rfl,h0,r0⟩:=trodAll_cons hA;obtain⟨v1,vs1,d1,ds1,p1,q1,rfl,rfl,rfl,h1,r1⟩:=trodAll_cons r0;obtain⟨rfl,rfl,rfl⟩:=trodAll_nil r1;obtain rfl:args = #[v0,v1]:=by cases args; simp_all
 obtain⟨rfl,rfl⟩:=trodVars_none hV;have k0:=h0;have lt0:∀ x∈p0,x.block<W.heap.size:=by obtain⟨m,hm⟩:=k0; exact DataW.trod_lt m _ _ _ hm
 obtain⟨a0,l0,c0,rfl⟩:=okWide_slice Tryz.underlying22 (hval 0 22 v0 rfl rfl);obtain⟨g0,hg0⟩:=h0;have hop0:tX Tryz.prog W 6 22 [.slice a0 l0 c0]:=rQ 6 hg0 λ y hy=>by
  have h':=List.all_eq_true.1 hwt y (EV (i:=0) (t:=22) (d:=d0) (by rw[Tryz.params3]; rfl) rfl hy);simpa using h'
 obtain⟨a,c,l,he0,hc,hf,hi⟩:=Pd hop0;have e0:(Value.slice a0 l0 c0)=.slice a l.length c:=List.singleton_inj.1 he0;have k1:=h1;have lt1:∀ x∈p1,x.block<W.heap.size:=by obtain⟨m,hm⟩:=k1; exact DataW.trod_lt m _ _ _ hm
 have o1:=hval 1 24 v1 rfl rfl;unfold Value.okWide at o1;simp only[Tryz.underlying24] at o1;obtain⟨cs1,rfl,-,-⟩:=o1;obtain⟨g1,hg1⟩:=h1;have hop1:tX Tryz.prog W 6 24 cs1.toList:=rQ 6 hg1 λ y hy=>by
  have h':=List.all_eq_true.1 hwt y (EV (i:=1) (t:=24) (d:=d1) (by rw[Tryz.params3]; rfl) rfl hy);simpa using h'
 obtain⟨o,he1⟩:=SI hop1;have hcs1:cs1=o.cells.toArray:=by rw[<- he1]
 clear hA0 hval0;have hcall:Calls Tryz.prog 3 #[.slice a0 l0 c0,.agg cs1] W (yd λ r w'=>r=.bool true/\aC W w' []):=by rw[e0,hcs1]; exact NT (WQ hL) o hf hi
 refine hcall.mono λ e W' ⟨v,he,hv,hc⟩=>?_;subst hv;subst he;have bel:=ND hc;exact⟨_,rfl,_,_,_,[],_,[],hW',trodAll_mk1 (shut_bool Tryz.underlying4 _),(trodAll_cons_mk (Below.trod laidOut (by kernel_rfl) (of_decide_eq_true (by kernel_rfl)) k0 bel lt0) (trodAll_cons_mk (Below.trod laidOut (by kernel_rfl) (of_decide_eq_true (by kernel_rfl)) k1 bel lt1) trodAll_mk0)),rfl,bel.frame _,λ h=>by cases h⟩
theorem reportCounts_holds0:Rows.ReportCountsSaid :=
 OpenClaim.holds_of_wide 3 Tryz.f3 rfl rfl rfl rfl rfl rfl rfl ⟨rfl,rfl,rfl,rfl,rfl⟩ rfl rfl rfl rfl rfl reportCounts_named Tryz.func3 reportCounts_joined
  (of_decide_eq_true (by kernel_rfl)) (by unfold Func.isWrapper; first|(rw[if_pos (by decide +kernel)]; kernel_rfl)|(rw[if_neg (by decide +kernel)]; exact⟨rfl,rfl⟩))
  (λ os started H enc _=>reportCounts_lifted os started H enc)
theorem reportCounts_holds:Rows.ReportCountsCardSaid :=
 Claim7.holds_tied_plain_at .later [] [.data,.data,.data,.data,.sentinel,.sentinel,.pinned] true (true, "7599c5a7119e28ac5e7762f8b5dcb4716533efc8fc9e13ce9161291c74bb84a6") true
  reportCounts_holds0 (λ _ h=>by cases h) reportCounts_wf (λ _ h=>by cases h) reportCounts_row_tie rfl ⟨rfl,rfl⟩ reportCounts_mn rfl
  (λ f fn hf hfn=>by
   obtain rfl:f=3:=Option.some.inj ((show Tryz.prog.funcNamed "saleroom/saleroomlaw55.ReportCounts" = some 3 by kernel_rfl).symm.trans hf) |>.symm;obtain rfl:fn=Tryz.f3:=(Option.some.inj (Tryz.func3.symm.trans hfn)).symm;exact⟨pfl,λ j t ht=>by
    rw[Tryz.params3] at ht;have hm:t∈[22,24]:=by simpa using Array.mem_of_getElem? ht
    have hall:([22,24].all λ u=>!Tryz.prog.wantsStandIn u)=true:=by kernel_rfl
    exact(show Tryz.prog.wantsStandIn t=false by simpa using List.all_eq_true.1 hall t hm)⟩)
  reportCounts_go
#print axioms reportCounts_holds
end Go.Proofs.YtjcfdidmajodiaaGreatDoor

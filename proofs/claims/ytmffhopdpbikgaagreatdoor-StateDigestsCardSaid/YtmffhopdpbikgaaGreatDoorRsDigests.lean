import Derived.Test.YtmffhopdpbikgaaGreatDoorE12
set_option linter.unusedVariables false
set_option maxRecDepth 100000
namespace Go.Proofs.YtmffhopdpbikgaaGreatDoor
open Go Go.Vc Go.ChangeShapes Go.WideShapes Go.ChangeAt Go.RowKit
open Go.ChangeMaps (open_string shut_string)
theorem stateDigests_q1:Rows.stateDigestsRow.wf (OpenSpec.ofChange Rows.stateDigestsSpec)=true:=by kernel_rfl
theorem stateDigests_q4:Tryz.f3.params.all (Tryz.prog.readableRec ·)=true:=by kernel_rfl
theorem stateDigests_q5:namedTie Tryz.prog Rows.stateDigestsRow.named Rows.stateDigestsSpec.vars=true:=by kernel_rfl
theorem stateDigests_q6:(Rows.stateDigestsRow.stops==[])=true:=by kernel_rfl
theorem stateDigests_q8:(Rows.stateDigestsRow.knobs==[])=true:=by kernel_rfl
theorem stateDigests_q10:(Rows.stateDigestsRow.inPlace==Tryz.prog.inPlace 3)=true:=by kernel_rfl
theorem stateDigests_q11:(Rows.stateDigestsRow.unfollowed==Tryz.prog.unfollowed 3)=true:=by kernel_rfl
theorem stateDigests_q12:(Rows.stateDigestsRow.recurses==Tryz.prog.recurses 3)=true:=by kernel_rfl
theorem stateDigests_q13:(Rows.stateDigestsRow.named==Tryz.prog.varsNamed 3)=true:=by kernel_rfl
theorem stateDigests_q14:(Rows.stateDigestsRow.maps==(Tryz.f3.params.toList++Rows.stateDigestsSpec.plain.varTypes Tryz.prog).any (Tryz.prog.mapsRec ·))=true:=by kernel_rfl
theorem stateDigests_q15:(Rows.stateDigestsRow.ifaces==(Tryz.f3.params.toList++Rows.stateDigestsSpec.plain.varTypes Tryz.prog).any (Tryz.prog.ifacesRec ·))=true:=by kernel_rfl
theorem stateDigests_q16:(Rows.stateDigestsRow.mapsOut==Tryz.prog.mapsAmong Tryz.f3.resultTypes.toList)=true:=by kernel_rfl
theorem stateDigests_q17:(Rows.stateDigestsRow.loops==(Tryz.f3.params.toList++Rows.stateDigestsSpec.plain.varTypes Tryz.prog).any (Tryz.prog.loopsFrom ·))=true:=by kernel_rfl
theorem stateDigests_q18:(Rows.stateDigestsRow.wideKeys==(Tryz.f3.params.toList++Rows.stateDigestsSpec.plain.varTypes Tryz.prog++Tryz.f3.resultTypes.toList).any (Tryz.prog.wideKeysFrom ·))=true:=by kernel_rfl
theorem stateDigests_q19:Rows.stateDigestsSpec.vars.all (Tryz.prog.varReadable ·)=true:=by kernel_rfl
theorem stateDigests_q20:Tryz.f3.resultTypes.all (λ t=>Tryz.prog.readableRec t&&decide (t<Tryz.prog.types.size))=true:=by kernel_rfl
theorem stateDigests_q21:(Rows.stateDigestsRow.ifacesOut==Tryz.f3.resultTypes.toList.any (Tryz.prog.ifacesRec ·))=true:=by kernel_rfl
theorem stateDigests_q22:(Rows.stateDigestsRow.loopsOut==Tryz.f3.resultTypes.toList.any (Tryz.prog.loopsFrom ·))=true:=by kernel_rfl
theorem stateDigests_q23:(Rows.stateDigestsRow.plainKeys==Tryz.prog.plainKeys)=true:=by kernel_rfl
theorem stateDigests_q24:Rows.stateDigestsRow.shortTexts.isNone=true:=by kernel_rfl
theorem stateDigests_q27:(Rows.stateDigestsRow.lifted==Tryz.prog.liftsFinal)=true:=by kernel_rfl
theorem stateDigests_q28:(Tryz.prog.make==some Rows.stateDigestsRow.make)=true:=by kernel_rfl
theorem stateDigests_q29:(Rows.stateDigestsRow.kinds==(if Rows.stateDigestsRow.domain.isEmpty then [] else Tryz.f3.params.toList.map λ t=>match Tryz.prog.underlying t with|some (.int k)=>some k|_=>none))=true:=by kernel_rfl
theorem stateDigests_q30:(Rows.stateDigestsRow.pinned==Rows.stateDigestsRow.pinnedBy)=true:=by kernel_rfl
theorem stateDigests_q31:(Rows.stateDigestsRow.veiled==(Tryz.f3.params.toList++Rows.stateDigestsSpec.plain.varTypes Tryz.prog++Tryz.f3.resultTypes.toList).any (Tryz.prog.veiledRec ·))=true:=by kernel_rfl
theorem stateDigests_q32:Rows.stateDigestsRow.veiledFits Tryz.prog Tryz.f3.params.toList (Tryz.f3.params.toList++Rows.stateDigestsSpec.plain.varTypes Tryz.prog++Tryz.f3.resultTypes.toList)=true:=by kernel_rfl
theorem stateDigests_joined:joinedFacts Tryz.prog 3 Tryz.f3 Rows.stateDigestsSpec Rows.stateDigestsRow=true:=by
 unfold joinedFacts;simp only[Bool.and_eq_true];exact⟨⟨⟨⟨⟨⟨⟨⟨⟨⟨⟨⟨⟨⟨⟨⟨⟨⟨⟨⟨⟨⟨⟨⟨⟨⟨⟨⟨⟨⟨⟨stateDigests_q1,laidOut⟩,Sb⟩,stateDigests_q4⟩,stateDigests_q5⟩,stateDigests_q6⟩,Sd⟩,stateDigests_q8⟩,Sf⟩,stateDigests_q10⟩,stateDigests_q11⟩,stateDigests_q12⟩,stateDigests_q13⟩,stateDigests_q14⟩,stateDigests_q15⟩,stateDigests_q16⟩,stateDigests_q17⟩,stateDigests_q18⟩,stateDigests_q19⟩,stateDigests_q20⟩,stateDigests_q21⟩,stateDigests_q22⟩,stateDigests_q23⟩,stateDigests_q24⟩,PZ⟩,P0⟩,stateDigests_q27⟩,stateDigests_q28⟩,stateDigests_q29⟩,stateDigests_q30⟩,stateDigests_q31⟩,stateDigests_q32⟩
theorem stateDigests_wf:Rows.stateDigestsRow.wfByText (OpenSpec.ofChange Rows.stateDigestsSpec)=true:=by kernel_rfl
theorem stateDigests_mn:Tryz.pinned.checked.prog.mainIs=some (true,("ea20c93d59f869202421a2baed335480b583cfdfa3358f62e3739f1b885a44bc" : String).toList):=by kernel_rfl
theorem stateDigests_go:false=Rows.stateDigestsRow.goesBy Tryz.pinned.checked.prog:=by kernel_rfl
theorem stateDigests_named:Tryz.prog.funcNamed Rows.stateDigestsRow.func=some 3:=by kernel_rfl
set_option maxRecDepth 100000 in
theorem stateDigests_lifted(os:Os)(started:os.Started)(H:Type)(enc:TypeId×Value->H) :
  ReturnsInHanded {} Tryz.checked os 3 .any (λ w args=>(Rows.stateDigestsSpec.pre enc Tryz.prog Tryz.f3 [] false w args/\laidMetH Tryz.prog Rows.stateDigestsRow.laid w)/\sizedMet enc Tryz.prog Tryz.f3 (OpenSpec.ofChange Rows.stateDigestsSpec) false w args) (Rows.stateDigestsSpec.post enc Tryz.prog Tryz.f3 false true false false):=by
 refine returnsInHanded_of_change_and (C:=Tryz.checked) (X:=λ w _=>laidMetH Tryz.prog Rows.stateDigestsRow.laid w) (λ _ _ _ hh h=>h.of_heap hh) own started (by kernel_rfl) Tryz.func3 (ChangeSpec.witness_shaped (enc:=enc) (C:=Tryz.checked) (os:=os) (X:=λ w _=>laidMetH Tryz.prog Rows.stateDigestsRow.laid w) false (fu os) #[.agg #[.int .i64 0,.int .i64 0,.int .i64 0,.int .i64 0],.slice none 0 0] 8 (mb os)
   (World.shaped_of_ZipB (by kernel_rfl) (by kernel_rfl)) (by kernel_rfl) (by kernel_rfl) (by kernel_rfl) (j4 os _)) ?_
 intro W base args ds gs before hval0 hW _ hwt _ _;have hval:∀ (j:Nat) t v,Tryz.f3.params[j]?=some t->args[j]?=some v->Value.okWide Tryz.prog W .any base t v:=hval0;have hW':=hW;obtain⟨p,q,hA0,hV,rfl,hfz,hnd⟩:=hW;have hA:DataW.TrodAll enc Tryz.prog W 0 (λ _=>true) true Tryz.f3.params.toList args.toList ds p:=hA0;rw[Tryz.params3] at hA hval;obtain⟨v0,vs0,d0,ds0,p0,q0,hargs,rfl,rfl,h0,r0⟩:=trodAll_cons hA;obtain⟨v1,vs1,d1,ds1,p1,q1,rfl,rfl,rfl,h1,r1⟩:=trodAll_cons r0;obtain⟨rfl,rfl,rfl⟩:=trodAll_nil r1;obtain rfl:args = #[v0,v1]:=by cases args; simp_all
 obtain⟨rfl,rfl⟩:=trodVars_none hV;have k0:=h0;have lt0:∀ x∈p0,x.block<W.heap.size:=by obtain⟨m,hm⟩:=k0; exact DataW.trod_lt m _ _ _ hm
 have o0:=hval 0 23 v0 rfl rfl;unfold Value.okWide at o0;simp only[Tryz.underlying23] at o0;obtain⟨cs0,rfl,-,-⟩:=o0;obtain⟨g0,hg0⟩:=h0;have hop0:nQ Tryz.prog W 6 23 cs0.toList:=eB 6 hg0 λ y hy=>by
  have h':=List.all_eq_true.1 hwt y (pJ (i:=0) (t:=23) (d:=d0) (by rw[Tryz.params3]; rfl) rfl hy);simpa using h'
 obtain⟨o,he0⟩:=Ca hop0;have hcs0:cs0=o.cells.toArray:=by rw[<- he0]
 have k1:=h1;have lt1:∀ x∈p1,x.block<W.heap.size:=by obtain⟨m,hm⟩:=k1; exact DataW.trod_lt m _ _ _ hm
 obtain⟨a1,l1,c1,rfl⟩:=okWide_slice Tryz.underlying24 (hval 1 24 v1 rfl rfl);obtain⟨g1,hg1⟩:=h1;have hop1:nQ Tryz.prog W 6 24 [.slice a1 l1 c1]:=eB 6 hg1 λ y hy=>by
  have h':=List.all_eq_true.1 hwt y (pJ (i:=1) (t:=24) (d:=d1) (by rw[Tryz.params3]; rfl) rfl hy);simpa using h'
 obtain⟨a,c,l,he1,hc,hf,hi⟩:=y5 hop1;have e1:(Value.slice a1 l1 c1)=.slice a l.length c:=List.singleton_inj.1 he1;clear hA0 hval0;have hcall:Calls Tryz.prog 3 #[.agg cs0,.slice a1 l1 c1] W (ur λ r w'=>r=.bool true/\aA W w' []):=by rw[hcs0,e1]; exact Dp ux o hf hi
 refine hcall.mono λ e W' ⟨v,he,hv,hc⟩=>?_;subst hv;subst he;have bel:=xS hc;exact⟨_,rfl,_,_,_,[],_,[],hW',trodAll_mk1 (shut_bool Tryz.underlying4 _),(trodAll_cons_mk (Below.trod laidOut (by kernel_rfl) (of_decide_eq_true (by kernel_rfl)) k0 bel lt0) (trodAll_cons_mk (Below.trod laidOut (by kernel_rfl) (of_decide_eq_true (by kernel_rfl)) k1 bel lt1) trodAll_mk0)),rfl,bel.frame _,λ h=>by cases h⟩
theorem stateDigests_holds0:Rows.StateDigestsSaid :=
 OpenClaim.holds_of_wide 3 Tryz.f3 rfl rfl rfl rfl rfl rfl rfl ⟨rfl,rfl,rfl,rfl,rfl⟩ rfl rfl rfl rfl rfl stateDigests_named Tryz.func3 stateDigests_joined
  (of_decide_eq_true (by kernel_rfl)) (by unfold Func.isWrapper; first|(rw[if_pos (by decide +kernel)]; kernel_rfl)|(rw[if_neg (by decide +kernel)]; exact⟨rfl,rfl⟩))
  (λ os started H enc _=>stateDigests_lifted os started H enc)
theorem stateDigests_holds:Rows.StateDigestsCardSaid :=
 Claim7.holds_tied_plain_at .later [] [.data,.data,.data,.data,.sentinel,.sentinel,.pinned] true (true, "ea20c93d59f869202421a2baed335480b583cfdfa3358f62e3739f1b885a44bc") true
  stateDigests_holds0 (λ _ h=>by cases h) stateDigests_wf (λ _ h=>by cases h) stateDigests_row_tie rfl ⟨rfl,rfl⟩ stateDigests_mn rfl
  (λ f fn hf hfn=>by
   obtain rfl:f=3:=Option.some.inj ((show Tryz.prog.funcNamed "saleroom/saleroomlaw44.StateDigests" = some 3 by kernel_rfl).symm.trans hf) |>.symm;obtain rfl:fn=Tryz.f3:=(Option.some.inj (Tryz.func3.symm.trans hfn)).symm;exact⟨Sg,λ j t ht=>by
    rw[Tryz.params3] at ht;have hm:t∈[23,24]:=by simpa using Array.mem_of_getElem? ht
    have hall:([23,24].all λ u=>!Tryz.prog.wantsStandIn u)=true:=by kernel_rfl
    exact(show Tryz.prog.wantsStandIn t=false by simpa using List.all_eq_true.1 hall t hm)⟩)
  stateDigests_go
#print axioms stateDigests_holds
end Go.Proofs.YtmffhopdpbikgaaGreatDoor

import Derived.Test.YtmhhlijfepaphaaGreatDoorH20
set_option linter.all false
set_option maxRecDepth 100000
namespace Go.Proofs.YtmhhlijfepaphaaGreatDoor
open Go Go.Vc Go.ChangeShapes Go.WideShapes Go.ChangeAt Go.RowKit
open Go.ChangeMaps (open_string shut_string)
theorem stateRuns_q1:Rows.stateRunsRow.wf (OpenSpec.ofChange Rows.stateRunsSpec)=true:=by kernel_rfl
theorem stateRuns_q4:Tryz.f3.params.all (Tryz.prog.readableRec ·)=true:=by kernel_rfl
theorem stateRuns_q5:namedTie Tryz.prog Rows.stateRunsRow.named Rows.stateRunsSpec.vars=true:=by kernel_rfl
theorem stateRuns_q6:(Rows.stateRunsRow.stops==[])=true:=by kernel_rfl
theorem stateRuns_q8:(Rows.stateRunsRow.knobs==[])=true:=by kernel_rfl
theorem stateRuns_q10:(Rows.stateRunsRow.inPlace==Tryz.prog.inPlace 3)=true:=by kernel_rfl
theorem stateRuns_q11:(Rows.stateRunsRow.unfollowed==Tryz.prog.unfollowed 3)=true:=by kernel_rfl
theorem stateRuns_q12:(Rows.stateRunsRow.recurses==Tryz.prog.recurses 3)=true:=by kernel_rfl
theorem stateRuns_q13:(Rows.stateRunsRow.named==Tryz.prog.varsNamed 3)=true:=by kernel_rfl
theorem stateRuns_q14:(Rows.stateRunsRow.maps==(Tryz.f3.params.toList++Rows.stateRunsSpec.plain.varTypes Tryz.prog).any (Tryz.prog.mapsRec ·))=true:=by kernel_rfl
theorem stateRuns_q15:(Rows.stateRunsRow.ifaces==(Tryz.f3.params.toList++Rows.stateRunsSpec.plain.varTypes Tryz.prog).any (Tryz.prog.ifacesRec ·))=true:=by kernel_rfl
theorem stateRuns_q16:(Rows.stateRunsRow.mapsOut==Tryz.prog.mapsAmong Tryz.f3.resultTypes.toList)=true:=by kernel_rfl
theorem stateRuns_q17:(Rows.stateRunsRow.loops==(Tryz.f3.params.toList++Rows.stateRunsSpec.plain.varTypes Tryz.prog).any (Tryz.prog.loopsFrom ·))=true:=by kernel_rfl
theorem stateRuns_q18:(Rows.stateRunsRow.wideKeys==(Tryz.f3.params.toList++Rows.stateRunsSpec.plain.varTypes Tryz.prog++Tryz.f3.resultTypes.toList).any (Tryz.prog.wideKeysFrom ·))=true:=by kernel_rfl
theorem stateRuns_q19:Rows.stateRunsSpec.vars.all (Tryz.prog.varReadable ·)=true:=by kernel_rfl
theorem stateRuns_q20:Tryz.f3.resultTypes.all (λt=>Tryz.prog.readableRec t&&decide (t<Tryz.prog.types.size))=true:=by kernel_rfl
theorem stateRuns_q21:(Rows.stateRunsRow.ifacesOut==Tryz.f3.resultTypes.toList.any (Tryz.prog.ifacesRec ·))=true:=by kernel_rfl
theorem stateRuns_q22:(Rows.stateRunsRow.loopsOut==Tryz.f3.resultTypes.toList.any (Tryz.prog.loopsFrom ·))=true:=by kernel_rfl
theorem stateRuns_q23:(Rows.stateRunsRow.plainKeys==Tryz.prog.plainKeys)=true:=by kernel_rfl
theorem stateRuns_q24:Rows.stateRunsRow.shortTexts.isNone=true:=by kernel_rfl
theorem stateRuns_q27:(Rows.stateRunsRow.lifted==Tryz.prog.liftsFinal)=true:=by kernel_rfl
theorem stateRuns_q28:(Tryz.prog.make==some Rows.stateRunsRow.make)=true:=by kernel_rfl
theorem stateRuns_q29:(Rows.stateRunsRow.kinds==(if Rows.stateRunsRow.domain.isEmpty then [] else Tryz.f3.params.toList.map λt=>match Tryz.prog.underlying t with|some (.int k)=>some k|_=>none))=true:=by kernel_rfl
theorem stateRuns_q30:(Rows.stateRunsRow.pinned==Rows.stateRunsRow.pinnedBy)=true:=by kernel_rfl
theorem stateRuns_q31:(Rows.stateRunsRow.veiled==(Tryz.f3.params.toList++Rows.stateRunsSpec.plain.varTypes Tryz.prog++Tryz.f3.resultTypes.toList).any (Tryz.prog.veiledRec ·))=true:=by kernel_rfl
theorem stateRuns_q32:Rows.stateRunsRow.veiledFits Tryz.prog Tryz.f3.params.toList (Tryz.f3.params.toList++Rows.stateRunsSpec.plain.varTypes Tryz.prog++Tryz.f3.resultTypes.toList)=true:=by kernel_rfl
set_option maxRecDepth 100000 in
theorem stateRuns_joined:joinedFacts Tryz.prog 3 Tryz.f3 Rows.stateRunsSpec Rows.stateRunsRow=true:=by
 unfold joinedFacts;simp only[Bool.and_eq_true];exact⟨⟨⟨⟨⟨⟨⟨⟨⟨⟨⟨⟨⟨⟨⟨⟨⟨⟨⟨⟨⟨⟨⟨⟨⟨⟨⟨⟨⟨⟨⟨stateRuns_q1,laidOut⟩,pf3⟩,stateRuns_q4⟩,stateRuns_q5⟩,stateRuns_q6⟩,pf7⟩,stateRuns_q8⟩,pf9⟩,stateRuns_q10⟩,stateRuns_q11⟩,stateRuns_q12⟩,stateRuns_q13⟩,stateRuns_q14⟩,stateRuns_q15⟩,stateRuns_q16⟩,stateRuns_q17⟩,stateRuns_q18⟩,stateRuns_q19⟩,stateRuns_q20⟩,stateRuns_q21⟩,stateRuns_q22⟩,stateRuns_q23⟩,stateRuns_q24⟩,ZP⟩,ZQ⟩,stateRuns_q27⟩,stateRuns_q28⟩,stateRuns_q29⟩,stateRuns_q30⟩,stateRuns_q31⟩,stateRuns_q32⟩
theorem stateRuns_wf:Rows.stateRunsRow.wfByText (OpenSpec.ofChange Rows.stateRunsSpec)=true:=by kernel_rfl
theorem stateRuns_mn:Tryz.pinned.checked.prog.mainIs=some (true,("dca6d89dad1658def55491488d0ad7935d584a13507a6c23d143656be7231c6f" : String).toList):=by kernel_rfl
theorem stateRuns_go:false=Rows.stateRunsRow.goesBy Tryz.pinned.checked.prog:=(SD Zy _ _).symm
theorem stateRuns_named:Tryz.prog.funcNamed Rows.stateRunsRow.func=some 3:=by kernel_rfl
set_option maxRecDepth 100000 in
theorem stateRuns_lifted(os:Os)(started:os.Started)(H:Type)(enc:TypeId×Value->H):
  ReturnsInHanded {} Tryz.checked os 3 .any (λw args=>(Rows.stateRunsSpec.pre enc Tryz.prog Tryz.f3 [] false w args/\laidMetH Tryz.prog Rows.stateRunsRow.laid w)/\sizedMet enc Tryz.prog Tryz.f3 (OpenSpec.ofChange Rows.stateRunsSpec) false w args) (Rows.stateRunsSpec.post enc Tryz.prog Tryz.f3 false true false false):=by
 refine returnsInHanded_of_change_and (C:=Tryz.checked) (X:=λw _=>laidMetH Tryz.prog Rows.stateRunsRow.laid w) (λ_ _ _ hh h=>h.of_heap hh) own started (by kernel_rfl) Tryz.func3 (ChangeSpec.witness_shaped (enc:=enc) (C:=Tryz.checked) (os:=os) (X:=λw _=>laidMetH Tryz.prog Rows.stateRunsRow.laid w) false (qO os) #[.agg #[.int .i64 0,.int .i64 0,.int .i64 0,.int .i64 0],.slice none 0 0] 8 (vF os)
   (World.shaped_of_ZipB (by kernel_rfl) (by kernel_rfl)) (by kernel_rfl) (by kernel_rfl) (by kernel_rfl) (uz os _)) ?_
 intro W base args ds gs before hval0 hW _ hwt _ _;have hval:∀(j:Nat) t v,Tryz.f3.params[j]?=some t->args[j]?=some v->Value.okWide Tryz.prog W .any base t v:=hval0;have hW':=hW;obtain⟨p,q,hA0,hV,rfl,hfz,hnd⟩:=hW;have hA:DataW.TrodAll enc Tryz.prog W 0 (λ_=>true) true Tryz.f3.params.toList args.toList ds p:=hA0;rw[Tryz.params3] at hA hval;obtain⟨v0,vs0,d0,ds0,p0,q0,hargs,rfl,rfl,h0,r0⟩:=trodAll_cons hA;obtain⟨v1,vs1,d1,ds1,p1,q1,rfl,rfl,rfl,h1,r1⟩:=trodAll_cons r0;obtain⟨rfl,rfl,rfl⟩:=trodAll_nil r1;obtain rfl:args = #[v0,v1]:=by cases args;simp_all
 obtain⟨rfl,rfl⟩:=trodVars_none hV;have k0:=h0;have lt0:∀x∈p0,x.block<W.heap.size:=by obtain⟨m,hm⟩:=k0;exact DataW.trod_lt m _ _ _ hm
 have o0:=hval 0 23 v0 rfl rfl;unfold Value.okWide at o0;simp only[Tryz.underlying23] at o0;obtain⟨cs0,rfl,-,-⟩:=o0;obtain⟨g0,hg0⟩:=h0;have hop0:wm Tryz.prog W 6 23 cs0.toList:=oO 6 hg0 λy hy=>by
  have h':=List.all_eq_true.1 hwt y (vV (i:=0) (t:=23) (d:=d0) (by rw[Tryz.params3];rfl) rfl hy);simpa using h'
 obtain⟨o,he0⟩:=HT hop0;have hcs0:cs0=o.cells.toArray:=by rw[<-he0]
 have k1:=h1;have lt1:∀x∈p1,x.block<W.heap.size:=by obtain⟨m,hm⟩:=k1;exact DataW.trod_lt m _ _ _ hm
 obtain⟨a1,l1,c1,rfl⟩:=okWide_slice Tryz.underlying24 (hval 1 24 v1 rfl rfl);obtain⟨g1,hg1⟩:=h1;have hop1:wm Tryz.prog W 6 24 [.slice a1 l1 c1]:=oO 6 hg1 λy hy=>by
  have h':=List.all_eq_true.1 hwt y (vV (i:=1) (t:=24) (d:=d1) (by rw[Tryz.params3];rfl) rfl hy);simpa using h'
 obtain⟨a,c,l,he1,hc,hf,hi⟩:=As hop1;have e1:(Value.slice a1 l1 c1)=.slice a l.length c:=List.singleton_inj.1 he1;clear hA0 hval0;have hcall:Calls Tryz.prog 3 #[.agg cs0,.slice a1 l1 c1] W (wo λr w'=>r=.bool true/\aZ W w' []):=by rw[hcs0,e1];exact Uj A6 o hf hi
 refine hcall.mono λe W' ⟨v,he,hv,hc⟩=>?_;subst hv;subst he;have bel:=Dy hc;exact⟨_,rfl,_,_,_,[],_,[],hW',trodAll_mk1 (shut_bool Tryz.underlying4 _),(trodAll_cons_mk (Below.trod laidOut (by kernel_rfl) (of_decide_eq_true (by kernel_rfl)) k0 bel lt0) (trodAll_cons_mk (Below.trod laidOut (by kernel_rfl) (of_decide_eq_true (by kernel_rfl)) k1 bel lt1) trodAll_mk0)),rfl,bel.frame _,λh=>by cases h⟩
theorem stateRuns_holds0:Rows.StateRunsSaid:=
 OpenClaim.holds_of_wide 3 Tryz.f3 rfl rfl rfl rfl rfl rfl rfl ⟨rfl,rfl,rfl,rfl,rfl⟩ rfl rfl rfl rfl rfl stateRuns_named Tryz.func3 stateRuns_joined
  (of_decide_eq_true (by kernel_rfl)) (by unfold Func.isWrapper;first|(rw[if_pos (by decide +kernel)];kernel_rfl)|(rw[if_neg (by decide +kernel)];exact⟨rfl,rfl⟩))
  (λos started H enc _=>stateRuns_lifted os started H enc)
theorem stateRuns_holds:Rows.StateRunsCardSaid:=
 Claim7.holds_tied_plain_at .later [] [.data,.data,.data,.data,.sentinel,.sentinel,.pinned] true (true, "dca6d89dad1658def55491488d0ad7935d584a13507a6c23d143656be7231c6f") true
  stateRuns_holds0 (λ_ h=>by cases h) stateRuns_wf (λ_ h=>by cases h) stateRuns_row_tie rfl ⟨rfl,rfl⟩ stateRuns_mn rfl
  (λf fn hf hfn=>by
   obtain rfl:f=3:=Option.some.inj ((show Tryz.prog.funcNamed "saleroom/saleroomlaw44.StateRuns" = some 3 by kernel_rfl).symm.trans hf) |>.symm;obtain rfl:fn=Tryz.f3:=(Option.some.inj (Tryz.func3.symm.trans hfn)).symm;exact⟨pfl,λj t ht=>by
    rw[Tryz.params3] at ht;have hm:t∈[23,24]:=by simpa using Array.mem_of_getElem? ht
    have hall:([23,24].all λu=>!Tryz.prog.wantsStandIn u)=true:=by kernel_rfl
    exact(show Tryz.prog.wantsStandIn t=false by simpa using List.all_eq_true.1 hall t hm)⟩)
  stateRuns_go
#print axioms stateRuns_holds
end Go.Proofs.YtmhhlijfepaphaaGreatDoor

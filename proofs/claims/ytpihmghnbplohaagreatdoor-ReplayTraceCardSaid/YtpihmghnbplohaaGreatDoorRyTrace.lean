import Derived.Test.YtpihmghnbplohaaGreatDoorM34
set_option linter.unusedVariables false
set_option maxRecDepth 100000
namespace Go.Proofs.YtpihmghnbplohaaGreatDoor
open Go Go.Vc Go.ChangeShapes Go.WideShapes Go.ChangeAt Go.RowKit
open Go.ChangeMaps (open_string shut_string)
theorem replayTrace_q1:Rows.replayTraceRow.wf (OpenSpec.ofChange Rows.replayTraceSpec)=true:=by kernel_rfl
theorem replayTrace_q4:Tryz.f3.params.all (Tryz.prog.readableRec ·)=true:=by kernel_rfl
theorem replayTrace_q5:namedTie Tryz.prog Rows.replayTraceRow.named Rows.replayTraceSpec.vars=true:=by kernel_rfl
theorem replayTrace_q6:(Rows.replayTraceRow.stops==[])=true:=by kernel_rfl
theorem replayTrace_q8:(Rows.replayTraceRow.knobs==[])=true:=by kernel_rfl
theorem replayTrace_q10:(Rows.replayTraceRow.inPlace==Tryz.prog.inPlace 3)=true:=by kernel_rfl
theorem replayTrace_q11:(Rows.replayTraceRow.unfollowed==Tryz.prog.unfollowed 3)=true:=by kernel_rfl
theorem replayTrace_q12:(Rows.replayTraceRow.recurses==Tryz.prog.recurses 3)=true:=by kernel_rfl
theorem replayTrace_q13:(Rows.replayTraceRow.named==Tryz.prog.varsNamed 3)=true:=by kernel_rfl
theorem replayTrace_q14:(Rows.replayTraceRow.maps==(Tryz.f3.params.toList++Rows.replayTraceSpec.plain.varTypes Tryz.prog).any (Tryz.prog.mapsRec ·))=true:=by kernel_rfl
theorem replayTrace_q15:(Rows.replayTraceRow.ifaces==(Tryz.f3.params.toList++Rows.replayTraceSpec.plain.varTypes Tryz.prog).any (Tryz.prog.ifacesRec ·))=true:=by kernel_rfl
theorem replayTrace_q16:(Rows.replayTraceRow.mapsOut==Tryz.prog.mapsAmong Tryz.f3.resultTypes.toList)=true:=by kernel_rfl
theorem replayTrace_q17:(Rows.replayTraceRow.loops==(Tryz.f3.params.toList++Rows.replayTraceSpec.plain.varTypes Tryz.prog).any (Tryz.prog.loopsFrom ·))=true:=by kernel_rfl
theorem replayTrace_q18:(Rows.replayTraceRow.wideKeys==(Tryz.f3.params.toList++Rows.replayTraceSpec.plain.varTypes Tryz.prog++Tryz.f3.resultTypes.toList).any (Tryz.prog.wideKeysFrom ·))=true:=by kernel_rfl
theorem replayTrace_q19:Rows.replayTraceSpec.vars.all (Tryz.prog.varReadable ·)=true:=by kernel_rfl
theorem replayTrace_q20:Tryz.f3.resultTypes.all (λ t=>Tryz.prog.readableRec t&&decide (t<Tryz.prog.types.size))=true:=by kernel_rfl
theorem replayTrace_q21:(Rows.replayTraceRow.ifacesOut==Tryz.f3.resultTypes.toList.any (Tryz.prog.ifacesRec ·))=true:=by kernel_rfl
theorem replayTrace_q22:(Rows.replayTraceRow.loopsOut==Tryz.f3.resultTypes.toList.any (Tryz.prog.loopsFrom ·))=true:=by kernel_rfl
theorem replayTrace_q23:(Rows.replayTraceRow.plainKeys==Tryz.prog.plainKeys)=true:=by kernel_rfl
theorem replayTrace_q24:Rows.replayTraceRow.shortTexts.isNone=true:=by kernel_rfl
theorem replayTrace_q27:(Rows.replayTraceRow.lifted==Tryz.prog.liftsFinal)=true:=by kernel_rfl
theorem replayTrace_q28:(Tryz.prog.make==some Rows.replayTraceRow.make)=true:=by kernel_rfl
theorem replayTrace_q29:(Rows.replayTraceRow.kinds==(if Rows.replayTraceRow.domain.isEmpty then [] else Tryz.f3.params.toList.map λ t=>match Tryz.prog.underlying t with | some (.int k)=>some k | _=>none))=true:=by kernel_rfl
theorem replayTrace_q30:(Rows.replayTraceRow.pinned==Rows.replayTraceRow.pinnedBy)=true:=by kernel_rfl
theorem replayTrace_q31:(Rows.replayTraceRow.veiled==(Tryz.f3.params.toList++Rows.replayTraceSpec.plain.varTypes Tryz.prog++Tryz.f3.resultTypes.toList).any (Tryz.prog.veiledRec ·))=true:=by kernel_rfl
theorem replayTrace_q32:Rows.replayTraceRow.veiledFits Tryz.prog Tryz.f3.params.toList (Tryz.f3.params.toList++Rows.replayTraceSpec.plain.varTypes Tryz.prog++Tryz.f3.resultTypes.toList)=true:=by kernel_rfl
set_option maxRecDepth 100000 in
theorem replayTrace_joined:joinedFacts Tryz.prog 3 Tryz.f3 Rows.replayTraceSpec Rows.replayTraceRow=true:=by
  unfold joinedFacts;simp only[Bool.and_eq_true];exact⟨⟨⟨⟨⟨⟨⟨⟨⟨⟨⟨⟨⟨⟨⟨⟨⟨⟨⟨⟨⟨⟨⟨⟨⟨⟨⟨⟨⟨⟨⟨replayTrace_q1,laidOut⟩,SQ⟩,replayTrace_q4⟩,replayTrace_q5⟩,replayTrace_q6⟩,SR⟩,replayTrace_q8⟩,SS⟩,replayTrace_q10⟩,replayTrace_q11⟩,replayTrace_q12⟩,replayTrace_q13⟩,replayTrace_q14⟩,replayTrace_q15⟩,replayTrace_q16⟩,replayTrace_q17⟩,replayTrace_q18⟩,replayTrace_q19⟩,replayTrace_q20⟩,replayTrace_q21⟩,replayTrace_q22⟩,replayTrace_q23⟩,replayTrace_q24⟩,NI⟩,NJ⟩,replayTrace_q27⟩,replayTrace_q28⟩,replayTrace_q29⟩,replayTrace_q30⟩,replayTrace_q31⟩,replayTrace_q32⟩
theorem replayTrace_wf:Rows.replayTraceRow.wfByText (OpenSpec.ofChange Rows.replayTraceSpec)=true:=by kernel_rfl
theorem replayTrace_mn:Tryz.pinned.checked.prog.mainIs=some (true,("20699dfec6fc46b8e70919ff8ad9d757c0eee2bdc353ec6b0475fda64e1f6ba7" : String).toList):=by kernel_rfl
theorem replayTrace_go:false=Rows.replayTraceRow.goesBy Tryz.pinned.checked.prog:=by kernel_rfl
theorem replayTrace_named:Tryz.prog.funcNamed Rows.replayTraceRow.func=some 3:=by kernel_rfl
set_option maxRecDepth 100000 in
theorem replayTrace_lifted(os:Os)(started:os.Started)(H:Type)(enc:TypeId×Value->H) :
    ReturnsInHanded {} Tryz.checked os 3 .any (λ w args=>(Rows.replayTraceSpec.pre enc Tryz.prog Tryz.f3 [] false w args/\laidMetH Tryz.prog Rows.replayTraceRow.laid w)/\sizedMet enc Tryz.prog Tryz.f3 (OpenSpec.ofChange Rows.replayTraceSpec) false w args) (Rows.replayTraceSpec.post enc Tryz.prog Tryz.f3 false true false false):=by
  refine returnsInHanded_of_change_and (C:=Tryz.checked) (X:=λ w _=>laidMetH Tryz.prog Rows.replayTraceRow.laid w) (λ _ _ _ hh h=>h.of_heap hh) own started (by kernel_rfl) Tryz.func3 (ChangeSpec.witness_shaped (enc:=enc) (C:=Tryz.checked) (os:=os) (X:=λ w _=>laidMetH Tryz.prog Rows.replayTraceRow.laid w) false (dX os) #[.agg #[.int .i64 0,.int .i64 0,.int .i64 0,.int .i64 0],.slice none 0 0] 8 (ie os)
      (World.shaped_of_ZipB (by kernel_rfl) (by kernel_rfl)) (by kernel_rfl) (by kernel_rfl) (by kernel_rfl) (fL os _)) ?_
  intro W base args ds gs before hval0 hW _ hwt _ _;have hval:∀ (j:Nat) t v,Tryz.f3.params[j]? = some t->args[j]? = some v->Value.okWide Tryz.prog W .any base t v:=hval0;have hW':=hW;obtain⟨p,q,hA0,hV,rfl,hfz,hnd⟩:=hW;have hA:DataW.TrodAll enc Tryz.prog W 0 (λ _=>true) true Tryz.f3.params.toList args.toList ds p:=hA0;rw[Tryz.params3] at hA hval;obtain⟨v0,vs0,d0,ds0,p0,q0,hargs,rfl,rfl,h0,r0⟩:=trodAll_cons hA;obtain⟨v1,vs1,d1,ds1,p1,q1,rfl,rfl,rfl,h1,r1⟩:=trodAll_cons r0;obtain⟨rfl,rfl,rfl⟩:=trodAll_nil r1;obtain rfl:args = #[v0,v1]:=by cases args; simp_all
  obtain⟨rfl,rfl⟩:=trodVars_none hV;have k0:=h0;have lt0:∀ x∈p0,x.block<W.heap.size:=by obtain⟨m,hm⟩:=k0; exact DataW.trod_lt m _ _ _ hm
  have o0:=hval 0 23 v0 rfl rfl;unfold Value.okWide at o0;simp only[Tryz.underlying23] at o0;obtain⟨cs0,rfl,-,-⟩:=o0;obtain⟨g0,hg0⟩:=h0;have hop0:mc Tryz.prog W 6 23 cs0.toList:=di 6 hg0 λ y hy=>by
    have h':=List.all_eq_true.1 hwt y (j4 (i:=0) (t:=23) (d:=d0) (by rw[Tryz.params3]; rfl) rfl hy);simpa using h'
  obtain⟨o,he0⟩:=wR hop0;have hcs0:cs0=o.cells.toArray:=by rw[<- he0]
  have k1:=h1;have lt1:∀ x∈p1,x.block<W.heap.size:=by obtain⟨m,hm⟩:=k1; exact DataW.trod_lt m _ _ _ hm
  obtain⟨a1,l1,c1,rfl⟩:=okWide_slice Tryz.underlying24 (hval 1 24 v1 rfl rfl);obtain⟨g1,hg1⟩:=h1;have hop1:mc Tryz.prog W 6 24 [.slice a1 l1 c1]:=di 6 hg1 λ y hy=>by
    have h':=List.all_eq_true.1 hwt y (j4 (i:=1) (t:=24) (d:=d1) (by rw[Tryz.params3]; rfl) rfl hy);simpa using h'
  obtain⟨a,c,l,he1,hc,hf,hi⟩:=sL hop1;have e1:(Value.slice a1 l1 c1)=.slice a l.length c:=List.singleton_inj.1 he1;clear hA0 hval0;have hcall:Calls Tryz.prog 3 #[.agg cs0,.slice a1 l1 c1] W (qw λ r w'=>r=.bool true/\az W w' []):=by rw[hcs0,e1]; exact zF o hf hi
  refine hcall.mono λ e W' ⟨v,he,hv,hc⟩=>?_;subst hv;subst he;have bel:=rD hc;exact⟨_,rfl,_,_,_,[],_,[],hW',trodAll_mk1 (shut_bool Tryz.underlying4 _),(trodAll_cons_mk (Below.trod laidOut (by kernel_rfl) (of_decide_eq_true (by kernel_rfl)) k0 bel lt0) (trodAll_cons_mk (Below.trod laidOut (by kernel_rfl) (of_decide_eq_true (by kernel_rfl)) k1 bel lt1) trodAll_mk0)),rfl,bel.frame _,λ h=>by cases h⟩
theorem replayTrace_holds0:Rows.ReplayTraceSaid :=
  OpenClaim.holds_of_wide 3 Tryz.f3 rfl rfl rfl rfl rfl rfl rfl ⟨rfl,rfl,rfl,rfl,rfl⟩ rfl rfl rfl rfl rfl replayTrace_named Tryz.func3 replayTrace_joined
    (of_decide_eq_true (by kernel_rfl)) (by unfold Func.isWrapper; first | (rw[if_pos (by decide +kernel)]; kernel_rfl) | (rw[if_neg (by decide +kernel)]; exact⟨rfl,rfl⟩))
    (λ os started H enc _=>replayTrace_lifted os started H enc)
theorem replayTrace_holds:Rows.ReplayTraceCardSaid :=
  Claim7.holds_tied_plain_at .later [] [.data,.data,.data,.data,.handle,.sentinel,.sentinel,.pinned] true (true, "20699dfec6fc46b8e70919ff8ad9d757c0eee2bdc353ec6b0475fda64e1f6ba7") true
    replayTrace_holds0 (λ _ h=>by cases h) replayTrace_wf (λ _ h=>by cases h) replayTrace_row_tie rfl ⟨rfl,rfl⟩ replayTrace_mn rfl
    (λ f fn hf hfn=>by
      obtain rfl:f=3:=Option.some.inj ((show Tryz.prog.funcNamed "saleroom/saleroomlaw47.ReplayTrace" = some 3 by kernel_rfl).symm.trans hf) |>.symm;obtain rfl:fn=Tryz.f3:=(Option.some.inj (Tryz.func3.symm.trans hfn)).symm;exact⟨SU,λ j t ht=>by
        rw[Tryz.params3] at ht;have hm:t∈[23,24]:=by simpa using Array.mem_of_getElem? ht
        have hall:([23,24].all λ u=>!Tryz.prog.wantsStandIn u)=true:=by kernel_rfl
        exact(show Tryz.prog.wantsStandIn t=false by simpa using List.all_eq_true.1 hall t hm)⟩)
    replayTrace_go
#print axioms replayTrace_holds
end Go.Proofs.YtpihmghnbplohaaGreatDoor

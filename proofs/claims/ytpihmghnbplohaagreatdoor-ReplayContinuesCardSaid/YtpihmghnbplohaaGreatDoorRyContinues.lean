import Derived.Test.YtpihmghnbplohaaGreatDoorM34
set_option linter.unusedVariables false
set_option maxRecDepth 100000
namespace Go.Proofs.YtpihmghnbplohaaGreatDoor
open Go Go.Vc Go.ChangeShapes Go.WideShapes Go.ChangeAt Go.RowKit
open Go.ChangeMaps (open_string shut_string)
theorem replayContinues_q1:Rows.replayContinuesRow.wf (OpenSpec.ofChange Rows.replayContinuesSpec)=true:=by kernel_rfl
theorem replayContinues_q4:Tryz.f6.params.all (Tryz.prog.readableRec ·)=true:=by kernel_rfl
theorem replayContinues_q5:namedTie Tryz.prog Rows.replayContinuesRow.named Rows.replayContinuesSpec.vars=true:=by kernel_rfl
theorem replayContinues_q6:(Rows.replayContinuesRow.stops==[])=true:=by kernel_rfl
theorem replayContinues_q8:(Rows.replayContinuesRow.knobs==[])=true:=by kernel_rfl
theorem replayContinues_q10:(Rows.replayContinuesRow.inPlace==Tryz.prog.inPlace 6)=true:=by kernel_rfl
theorem replayContinues_q11:(Rows.replayContinuesRow.unfollowed==Tryz.prog.unfollowed 6)=true:=by kernel_rfl
theorem replayContinues_q12:(Rows.replayContinuesRow.recurses==Tryz.prog.recurses 6)=true:=by kernel_rfl
theorem replayContinues_q13:(Rows.replayContinuesRow.named==Tryz.prog.varsNamed 6)=true:=by kernel_rfl
theorem replayContinues_q14:(Rows.replayContinuesRow.maps==(Tryz.f6.params.toList++Rows.replayContinuesSpec.plain.varTypes Tryz.prog).any (Tryz.prog.mapsRec ·))=true:=by kernel_rfl
theorem replayContinues_q15:(Rows.replayContinuesRow.ifaces==(Tryz.f6.params.toList++Rows.replayContinuesSpec.plain.varTypes Tryz.prog).any (Tryz.prog.ifacesRec ·))=true:=by kernel_rfl
theorem replayContinues_q16:(Rows.replayContinuesRow.mapsOut==Tryz.prog.mapsAmong Tryz.f6.resultTypes.toList)=true:=by kernel_rfl
theorem replayContinues_q17:(Rows.replayContinuesRow.loops==(Tryz.f6.params.toList++Rows.replayContinuesSpec.plain.varTypes Tryz.prog).any (Tryz.prog.loopsFrom ·))=true:=by kernel_rfl
theorem replayContinues_q18:(Rows.replayContinuesRow.wideKeys==(Tryz.f6.params.toList++Rows.replayContinuesSpec.plain.varTypes Tryz.prog++Tryz.f6.resultTypes.toList).any (Tryz.prog.wideKeysFrom ·))=true:=by kernel_rfl
theorem replayContinues_q19:Rows.replayContinuesSpec.vars.all (Tryz.prog.varReadable ·)=true:=by kernel_rfl
theorem replayContinues_q20:Tryz.f6.resultTypes.all (λ t=>Tryz.prog.readableRec t&&decide (t<Tryz.prog.types.size))=true:=by kernel_rfl
theorem replayContinues_q21:(Rows.replayContinuesRow.ifacesOut==Tryz.f6.resultTypes.toList.any (Tryz.prog.ifacesRec ·))=true:=by kernel_rfl
theorem replayContinues_q22:(Rows.replayContinuesRow.loopsOut==Tryz.f6.resultTypes.toList.any (Tryz.prog.loopsFrom ·))=true:=by kernel_rfl
theorem replayContinues_q23:(Rows.replayContinuesRow.plainKeys==Tryz.prog.plainKeys)=true:=by kernel_rfl
theorem replayContinues_q24:Rows.replayContinuesRow.shortTexts.isNone=true:=by kernel_rfl
theorem replayContinues_q27:(Rows.replayContinuesRow.lifted==Tryz.prog.liftsFinal)=true:=by kernel_rfl
theorem replayContinues_q28:(Tryz.prog.make==some Rows.replayContinuesRow.make)=true:=by kernel_rfl
theorem replayContinues_q29:(Rows.replayContinuesRow.kinds==(if Rows.replayContinuesRow.domain.isEmpty then [] else Tryz.f6.params.toList.map λ t=>match Tryz.prog.underlying t with | some (.int k)=>some k | _=>none))=true:=by kernel_rfl
theorem replayContinues_q30:(Rows.replayContinuesRow.pinned==Rows.replayContinuesRow.pinnedBy)=true:=by kernel_rfl
theorem replayContinues_q31:(Rows.replayContinuesRow.veiled==(Tryz.f6.params.toList++Rows.replayContinuesSpec.plain.varTypes Tryz.prog++Tryz.f6.resultTypes.toList).any (Tryz.prog.veiledRec ·))=true:=by kernel_rfl
theorem replayContinues_q32:Rows.replayContinuesRow.veiledFits Tryz.prog Tryz.f6.params.toList (Tryz.f6.params.toList++Rows.replayContinuesSpec.plain.varTypes Tryz.prog++Tryz.f6.resultTypes.toList)=true:=by kernel_rfl
set_option maxRecDepth 100000 in
theorem replayContinues_joined:joinedFacts Tryz.prog 6 Tryz.f6 Rows.replayContinuesSpec Rows.replayContinuesRow=true:=by
  unfold joinedFacts;simp only[Bool.and_eq_true];exact⟨⟨⟨⟨⟨⟨⟨⟨⟨⟨⟨⟨⟨⟨⟨⟨⟨⟨⟨⟨⟨⟨⟨⟨⟨⟨⟨⟨⟨⟨⟨replayContinues_q1,laidOut⟩,SQ⟩,replayContinues_q4⟩,replayContinues_q5⟩,replayContinues_q6⟩,SR⟩,replayContinues_q8⟩,SS⟩,replayContinues_q10⟩,replayContinues_q11⟩,replayContinues_q12⟩,replayContinues_q13⟩,replayContinues_q14⟩,replayContinues_q15⟩,replayContinues_q16⟩,replayContinues_q17⟩,replayContinues_q18⟩,replayContinues_q19⟩,replayContinues_q20⟩,replayContinues_q21⟩,replayContinues_q22⟩,replayContinues_q23⟩,replayContinues_q24⟩,NI⟩,NJ⟩,replayContinues_q27⟩,replayContinues_q28⟩,replayContinues_q29⟩,replayContinues_q30⟩,replayContinues_q31⟩,replayContinues_q32⟩
theorem replayContinues_wf:Rows.replayContinuesRow.wfByText (OpenSpec.ofChange Rows.replayContinuesSpec)=true:=by kernel_rfl
theorem replayContinues_mn:Tryz.pinned.checked.prog.mainIs=some (true,("20699dfec6fc46b8e70919ff8ad9d757c0eee2bdc353ec6b0475fda64e1f6ba7" : String).toList):=by kernel_rfl
theorem replayContinues_go:false=Rows.replayContinuesRow.goesBy Tryz.pinned.checked.prog:=by kernel_rfl
theorem replayContinues_named:Tryz.prog.funcNamed Rows.replayContinuesRow.func=some 6:=by kernel_rfl
set_option maxRecDepth 100000 in
theorem replayContinues_lifted(os:Os)(started:os.Started)(H:Type)(enc:TypeId×Value->H) :
    ReturnsInHanded {} Tryz.checked os 6 .any (λ w args=>(Rows.replayContinuesSpec.pre enc Tryz.prog Tryz.f6 [] false w args/\laidMetH Tryz.prog Rows.replayContinuesRow.laid w)/\sizedMet enc Tryz.prog Tryz.f6 (OpenSpec.ofChange Rows.replayContinuesSpec) false w args) (Rows.replayContinuesSpec.post enc Tryz.prog Tryz.f6 false true false false):=by
  refine returnsInHanded_of_change_and (C:=Tryz.checked) (X:=λ w _=>laidMetH Tryz.prog Rows.replayContinuesRow.laid w) (λ _ _ _ hh h=>h.of_heap hh) own started (by kernel_rfl) Tryz.func6 (ChangeSpec.witness_shaped (enc:=enc) (C:=Tryz.checked) (os:=os) (X:=λ w _=>laidMetH Tryz.prog Rows.replayContinuesRow.laid w) false (dX os) #[.agg #[.int .i64 0,.int .i64 0,.int .i64 0,.int .i64 0],.slice none 0 0,.int .u8 0] 8 (ie os)
      (World.shaped_of_ZipB (by kernel_rfl) (by kernel_rfl)) (by kernel_rfl) (by kernel_rfl) (by kernel_rfl) (fL os _)) ?_
  intro W base args ds gs before hval0 hW _ hwt _ _;have hval:∀ (j:Nat) t v,Tryz.f6.params[j]? = some t->args[j]? = some v->Value.okWide Tryz.prog W .any base t v:=hval0;have hW':=hW;obtain⟨p,q,hA0,hV,rfl,hfz,hnd⟩:=hW;have hA:DataW.TrodAll enc Tryz.prog W 0 (λ _=>true) true Tryz.f6.params.toList args.toList ds p:=hA0;rw[Tryz.params6] at hA hval;obtain⟨v0,vs0,d0,ds0,p0,q0,hargs,rfl,rfl,h0,r0⟩:=trodAll_cons hA;obtain⟨v1,vs1,d1,ds1,p1,q1,rfl,rfl,rfl,h1,r1⟩:=trodAll_cons r0;obtain⟨v2,vs2,d2,ds2,p2,q2,rfl,rfl,rfl,h2,r2⟩:=trodAll_cons r1;obtain⟨rfl,rfl,rfl⟩:=trodAll_nil r2;obtain rfl:args = #[v0,v1,v2]:=by cases args; simp_all
  obtain⟨rfl,rfl⟩:=trodVars_none hV;have k0:=h0;have lt0:∀ x∈p0,x.block<W.heap.size:=by obtain⟨m,hm⟩:=k0; exact DataW.trod_lt m _ _ _ hm
  have o0:=hval 0 23 v0 rfl rfl;unfold Value.okWide at o0;simp only[Tryz.underlying23] at o0;obtain⟨cs0,rfl,-,-⟩:=o0;obtain⟨g0,hg0⟩:=h0;have hop0:mc Tryz.prog W 6 23 cs0.toList:=di 6 hg0 λ y hy=>by
    have h':=List.all_eq_true.1 hwt y (j4 (i:=0) (t:=23) (d:=d0) (by rw[Tryz.params6]; rfl) rfl hy);simpa using h'
  obtain⟨o,he0⟩:=wR hop0;have hcs0:cs0=o.cells.toArray:=by rw[<- he0]
  have k1:=h1;have lt1:∀ x∈p1,x.block<W.heap.size:=by obtain⟨m,hm⟩:=k1; exact DataW.trod_lt m _ _ _ hm
  obtain⟨a1,l1,c1,rfl⟩:=okWide_slice Tryz.underlying24 (hval 1 24 v1 rfl rfl);obtain⟨g1,hg1⟩:=h1;have hop1:mc Tryz.prog W 6 24 [.slice a1 l1 c1]:=di 6 hg1 λ y hy=>by
    have h':=List.all_eq_true.1 hwt y (j4 (i:=1) (t:=24) (d:=d1) (by rw[Tryz.params6]; rfl) rfl hy);simpa using h'
  obtain⟨a,c,l,he1,hc,hf,hi⟩:=sL hop1;have e1:(Value.slice a1 l1 c1)=.slice a l.length c:=List.singleton_inj.1 he1;obtain⟨n2,rfl,rfl,rfl,w2⟩:=open_int Tryz.underlying5 (hval 2 5 v2 rfl rfl) h2;clear hA0 hval0;have hcall:Calls Tryz.prog 6 #[.agg cs0,.slice a1 l1 c1,.int .u8 n2] W (qw λ r w'=>r=.bool true/\az W w' []):=by rw[hcs0,e1]; exact sU o n2 (SE w2) hf hi
  refine hcall.mono λ e W' ⟨v,he,hv,hc⟩=>?_;subst hv;subst he;have bel:=rD hc;exact⟨_,rfl,_,_,_,[],_,[],hW',trodAll_mk1 (shut_bool Tryz.underlying4 _),(trodAll_cons_mk (Below.trod laidOut (by kernel_rfl) (of_decide_eq_true (by kernel_rfl)) k0 bel lt0) (trodAll_cons_mk (Below.trod laidOut (by kernel_rfl) (of_decide_eq_true (by kernel_rfl)) k1 bel lt1) (trodAll_cons_mk (shut_int Tryz.underlying5 w2) trodAll_mk0))),rfl,bel.frame _,λ h=>by cases h⟩
theorem replayContinues_holds0:Rows.ReplayContinuesSaid :=
  OpenClaim.holds_of_wide 6 Tryz.f6 rfl rfl rfl rfl rfl rfl rfl ⟨rfl,rfl,rfl,rfl,rfl⟩ rfl rfl rfl rfl rfl replayContinues_named Tryz.func6 replayContinues_joined
    (of_decide_eq_true (by kernel_rfl)) (by unfold Func.isWrapper; first | (rw[if_pos (by decide +kernel)]; kernel_rfl) | (rw[if_neg (by decide +kernel)]; exact⟨rfl,rfl⟩))
    (λ os started H enc _=>replayContinues_lifted os started H enc)
theorem replayContinues_holds:Rows.ReplayContinuesCardSaid :=
  Claim7.holds_tied_plain_at .later [] [.data,.data,.data,.data,.handle,.sentinel,.sentinel,.pinned] true (true, "20699dfec6fc46b8e70919ff8ad9d757c0eee2bdc353ec6b0475fda64e1f6ba7") true
    replayContinues_holds0 (λ _ h=>by cases h) replayContinues_wf (λ _ h=>by cases h) replayContinues_row_tie rfl ⟨rfl,rfl⟩ replayContinues_mn rfl
    (λ f fn hf hfn=>by
      obtain rfl:f=6:=Option.some.inj ((show Tryz.prog.funcNamed "saleroom/saleroomlaw47.ReplayContinues" = some 6 by kernel_rfl).symm.trans hf) |>.symm;obtain rfl:fn=Tryz.f6:=(Option.some.inj (Tryz.func6.symm.trans hfn)).symm;exact⟨SU,λ j t ht=>by
        rw[Tryz.params6] at ht;have hm:t∈[23,24,5]:=by simpa using Array.mem_of_getElem? ht
        have hall:([23,24,5].all λ u=>!Tryz.prog.wantsStandIn u)=true:=by kernel_rfl
        exact(show Tryz.prog.wantsStandIn t=false by simpa using List.all_eq_true.1 hall t hm)⟩)
    replayContinues_go
#print axioms replayContinues_holds
end Go.Proofs.YtpihmghnbplohaaGreatDoor

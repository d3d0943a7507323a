import Derived.Test.YtpihmghnbplohaaGreatDoorM34
set_option linter.unusedVariables false
set_option maxRecDepth 100000
namespace Go.Proofs.YtpihmghnbplohaaGreatDoor
open Go Go.Vc Go.ChangeShapes Go.WideShapes Go.ChangeAt Go.RowKit
open Go.ChangeMaps (open_string shut_string)
theorem replayDamaged_q1:Rows.replayDamagedRow.wf (OpenSpec.ofChange Rows.replayDamagedSpec)=true:=by kernel_rfl
theorem replayDamaged_q4:Tryz.f4.params.all (Tryz.prog.readableRec ·)=true:=by kernel_rfl
theorem replayDamaged_q5:namedTie Tryz.prog Rows.replayDamagedRow.named Rows.replayDamagedSpec.vars=true:=by kernel_rfl
theorem replayDamaged_q6:(Rows.replayDamagedRow.stops==[])=true:=by kernel_rfl
theorem replayDamaged_q8:(Rows.replayDamagedRow.knobs==[])=true:=by kernel_rfl
theorem replayDamaged_q10:(Rows.replayDamagedRow.inPlace==Tryz.prog.inPlace 4)=true:=by kernel_rfl
theorem replayDamaged_q11:(Rows.replayDamagedRow.unfollowed==Tryz.prog.unfollowed 4)=true:=by kernel_rfl
theorem replayDamaged_q12:(Rows.replayDamagedRow.recurses==Tryz.prog.recurses 4)=true:=by kernel_rfl
theorem replayDamaged_q13:(Rows.replayDamagedRow.named==Tryz.prog.varsNamed 4)=true:=by kernel_rfl
theorem replayDamaged_q14:(Rows.replayDamagedRow.maps==(Tryz.f4.params.toList++Rows.replayDamagedSpec.plain.varTypes Tryz.prog).any (Tryz.prog.mapsRec ·))=true:=by kernel_rfl
theorem replayDamaged_q15:(Rows.replayDamagedRow.ifaces==(Tryz.f4.params.toList++Rows.replayDamagedSpec.plain.varTypes Tryz.prog).any (Tryz.prog.ifacesRec ·))=true:=by kernel_rfl
theorem replayDamaged_q16:(Rows.replayDamagedRow.mapsOut==Tryz.prog.mapsAmong Tryz.f4.resultTypes.toList)=true:=by kernel_rfl
theorem replayDamaged_q17:(Rows.replayDamagedRow.loops==(Tryz.f4.params.toList++Rows.replayDamagedSpec.plain.varTypes Tryz.prog).any (Tryz.prog.loopsFrom ·))=true:=by kernel_rfl
theorem replayDamaged_q18:(Rows.replayDamagedRow.wideKeys==(Tryz.f4.params.toList++Rows.replayDamagedSpec.plain.varTypes Tryz.prog++Tryz.f4.resultTypes.toList).any (Tryz.prog.wideKeysFrom ·))=true:=by kernel_rfl
theorem replayDamaged_q19:Rows.replayDamagedSpec.vars.all (Tryz.prog.varReadable ·)=true:=by kernel_rfl
theorem replayDamaged_q20:Tryz.f4.resultTypes.all (λ t=>Tryz.prog.readableRec t&&decide (t<Tryz.prog.types.size))=true:=by kernel_rfl
theorem replayDamaged_q21:(Rows.replayDamagedRow.ifacesOut==Tryz.f4.resultTypes.toList.any (Tryz.prog.ifacesRec ·))=true:=by kernel_rfl
theorem replayDamaged_q22:(Rows.replayDamagedRow.loopsOut==Tryz.f4.resultTypes.toList.any (Tryz.prog.loopsFrom ·))=true:=by kernel_rfl
theorem replayDamaged_q23:(Rows.replayDamagedRow.plainKeys==Tryz.prog.plainKeys)=true:=by kernel_rfl
theorem replayDamaged_q24:Rows.replayDamagedRow.shortTexts.isNone=true:=by kernel_rfl
theorem replayDamaged_q27:(Rows.replayDamagedRow.lifted==Tryz.prog.liftsFinal)=true:=by kernel_rfl
theorem replayDamaged_q28:(Tryz.prog.make==some Rows.replayDamagedRow.make)=true:=by kernel_rfl
theorem replayDamaged_q29:(Rows.replayDamagedRow.kinds==(if Rows.replayDamagedRow.domain.isEmpty then [] else Tryz.f4.params.toList.map λ t=>match Tryz.prog.underlying t with | some (.int k)=>some k | _=>none))=true:=by kernel_rfl
theorem replayDamaged_q30:(Rows.replayDamagedRow.pinned==Rows.replayDamagedRow.pinnedBy)=true:=by kernel_rfl
theorem replayDamaged_q31:(Rows.replayDamagedRow.veiled==(Tryz.f4.params.toList++Rows.replayDamagedSpec.plain.varTypes Tryz.prog++Tryz.f4.resultTypes.toList).any (Tryz.prog.veiledRec ·))=true:=by kernel_rfl
theorem replayDamaged_q32:Rows.replayDamagedRow.veiledFits Tryz.prog Tryz.f4.params.toList (Tryz.f4.params.toList++Rows.replayDamagedSpec.plain.varTypes Tryz.prog++Tryz.f4.resultTypes.toList)=true:=by kernel_rfl
set_option maxRecDepth 100000 in
theorem replayDamaged_joined:joinedFacts Tryz.prog 4 Tryz.f4 Rows.replayDamagedSpec Rows.replayDamagedRow=true:=by
  unfold joinedFacts;simp only[Bool.and_eq_true];exact⟨⟨⟨⟨⟨⟨⟨⟨⟨⟨⟨⟨⟨⟨⟨⟨⟨⟨⟨⟨⟨⟨⟨⟨⟨⟨⟨⟨⟨⟨⟨replayDamaged_q1,laidOut⟩,SQ⟩,replayDamaged_q4⟩,replayDamaged_q5⟩,replayDamaged_q6⟩,SR⟩,replayDamaged_q8⟩,SS⟩,replayDamaged_q10⟩,replayDamaged_q11⟩,replayDamaged_q12⟩,replayDamaged_q13⟩,replayDamaged_q14⟩,replayDamaged_q15⟩,replayDamaged_q16⟩,replayDamaged_q17⟩,replayDamaged_q18⟩,replayDamaged_q19⟩,replayDamaged_q20⟩,replayDamaged_q21⟩,replayDamaged_q22⟩,replayDamaged_q23⟩,replayDamaged_q24⟩,NI⟩,NJ⟩,replayDamaged_q27⟩,replayDamaged_q28⟩,replayDamaged_q29⟩,replayDamaged_q30⟩,replayDamaged_q31⟩,replayDamaged_q32⟩
theorem replayDamaged_wf:Rows.replayDamagedRow.wfByText (OpenSpec.ofChange Rows.replayDamagedSpec)=true:=by kernel_rfl
theorem replayDamaged_mn:Tryz.pinned.checked.prog.mainIs=some (true,("20699dfec6fc46b8e70919ff8ad9d757c0eee2bdc353ec6b0475fda64e1f6ba7" : String).toList):=by kernel_rfl
theorem replayDamaged_go:false=Rows.replayDamagedRow.goesBy Tryz.pinned.checked.prog:=by kernel_rfl
theorem replayDamaged_named:Tryz.prog.funcNamed Rows.replayDamagedRow.func=some 4:=by kernel_rfl
set_option maxRecDepth 100000 in
theorem replayDamaged_lifted(os:Os)(started:os.Started)(H:Type)(enc:TypeId×Value->H) :
    ReturnsInHanded {} Tryz.checked os 4 .any (λ w args=>(Rows.replayDamagedSpec.pre enc Tryz.prog Tryz.f4 [] false w args/\laidMetH Tryz.prog Rows.replayDamagedRow.laid w)/\sizedMet enc Tryz.prog Tryz.f4 (OpenSpec.ofChange Rows.replayDamagedSpec) false w args) (Rows.replayDamagedSpec.post enc Tryz.prog Tryz.f4 false true false false):=by
  refine returnsInHanded_of_change_and (C:=Tryz.checked) (X:=λ w _=>laidMetH Tryz.prog Rows.replayDamagedRow.laid w) (λ _ _ _ hh h=>h.of_heap hh) own started (by kernel_rfl) Tryz.func4 (ChangeSpec.witness_shaped (enc:=enc) (C:=Tryz.checked) (os:=os) (X:=λ w _=>laidMetH Tryz.prog Rows.replayDamagedRow.laid w) false (dX os) #[.agg #[.int .i64 0,.int .i64 0,.int .i64 0,.int .i64 0],.slice none 0 0,.string ⟨#[]⟩] 8 (ie os)
      (World.shaped_of_ZipB (by kernel_rfl) (by kernel_rfl)) (by kernel_rfl) (by kernel_rfl) (by kernel_rfl) (fL os _)) ?_
  intro W base args ds gs before hval0 hW _ hwt _ _;have hval:∀ (j:Nat) t v,Tryz.f4.params[j]? = some t->args[j]? = some v->Value.okWide Tryz.prog W .any base t v:=hval0;have hW':=hW;obtain⟨p,q,hA0,hV,rfl,hfz,hnd⟩:=hW;have hA:DataW.TrodAll enc Tryz.prog W 0 (λ _=>true) true Tryz.f4.params.toList args.toList ds p:=hA0;rw[Tryz.params4] at hA hval;obtain⟨v0,vs0,d0,ds0,p0,q0,hargs,rfl,rfl,h0,r0⟩:=trodAll_cons hA;obtain⟨v1,vs1,d1,ds1,p1,q1,rfl,rfl,rfl,h1,r1⟩:=trodAll_cons r0;obtain⟨v2,vs2,d2,ds2,p2,q2,rfl,rfl,rfl,h2,r2⟩:=trodAll_cons r1;obtain⟨rfl,rfl,rfl⟩:=trodAll_nil r2;obtain rfl:args = #[v0,v1,v2]:=by cases args; simp_all
  obtain⟨rfl,rfl⟩:=trodVars_none hV;have k0:=h0;have lt0:∀ x∈p0,x.block<W.heap.size:=by obtain⟨m,hm⟩:=k0; exact DataW.trod_lt m _ _ _ hm
  have o0:=hval 0 23 v0 rfl rfl;unfold Value.okWide at o0;simp only[Tryz.underlying23] at o0;obtain⟨cs0,rfl,-,-⟩:=o0;obtain⟨g0,hg0⟩:=h0;have hop0:mc Tryz.prog W 6 23 cs0.toList:=di 6 hg0 λ y hy=>by
    have h':=List.all_eq_true.1 hwt y (j4 (i:=0) (t:=23) (d:=d0) (by rw[Tryz.params4]; rfl) rfl hy);simpa using h'
  obtain⟨o,he0⟩:=wR hop0;have hcs0:cs0=o.cells.toArray:=by rw[<- he0]
  have k1:=h1;have lt1:∀ x∈p1,x.block<W.heap.size:=by obtain⟨m,hm⟩:=k1; exact DataW.trod_lt m _ _ _ hm
  obtain⟨a1,l1,c1,rfl⟩:=okWide_slice Tryz.underlying24 (hval 1 24 v1 rfl rfl);obtain⟨g1,hg1⟩:=h1;have hop1:mc Tryz.prog W 6 24 [.slice a1 l1 c1]:=di 6 hg1 λ y hy=>by
    have h':=List.all_eq_true.1 hwt y (j4 (i:=1) (t:=24) (d:=d1) (by rw[Tryz.params4]; rfl) rfl hy);simpa using h'
  obtain⟨a,c,l,he1,hc,hf,hi⟩:=sL hop1;have e1:(Value.slice a1 l1 c1)=.slice a l.length c:=List.singleton_inj.1 he1;obtain⟨s2,rfl,rfl,rfl,z2⟩:=open_string Tryz.underlying9 (hval 2 9 v2 rfl rfl) h2;clear hA0 hval0;have hcall:Calls Tryz.prog 4 #[.agg cs0,.slice a1 l1 c1,.string s2] W (qw λ r w'=>r=.bool true/\az W w' []):=by rw[hcs0,e1]; exact(by rw[OK s2]; exact wj o _ hf hi)
  refine hcall.mono λ e W' ⟨v,he,hv,hc⟩=>?_;subst hv;subst he;have bel:=rD hc;exact⟨_,rfl,_,_,_,[],_,[],hW',trodAll_mk1 (shut_bool Tryz.underlying4 _),(trodAll_cons_mk (Below.trod laidOut (by kernel_rfl) (of_decide_eq_true (by kernel_rfl)) k0 bel lt0) (trodAll_cons_mk (Below.trod laidOut (by kernel_rfl) (of_decide_eq_true (by kernel_rfl)) k1 bel lt1) (trodAll_cons_mk (shut_string Tryz.underlying9 z2) trodAll_mk0))),rfl,bel.frame _,λ h=>by cases h⟩
theorem replayDamaged_holds0:Rows.ReplayDamagedSaid :=
  OpenClaim.holds_of_wide 4 Tryz.f4 rfl rfl rfl rfl rfl rfl rfl ⟨rfl,rfl,rfl,rfl,rfl⟩ rfl rfl rfl rfl rfl replayDamaged_named Tryz.func4 replayDamaged_joined
    (of_decide_eq_true (by kernel_rfl)) (by unfold Func.isWrapper; first | (rw[if_pos (by decide +kernel)]; kernel_rfl) | (rw[if_neg (by decide +kernel)]; exact⟨rfl,rfl⟩))
    (λ os started H enc _=>replayDamaged_lifted os started H enc)
theorem replayDamaged_holds:Rows.ReplayDamagedCardSaid :=
  Claim7.holds_tied_plain_at .later [] [.data,.data,.data,.data,.handle,.sentinel,.sentinel,.pinned] true (true, "20699dfec6fc46b8e70919ff8ad9d757c0eee2bdc353ec6b0475fda64e1f6ba7") true
    replayDamaged_holds0 (λ _ h=>by cases h) replayDamaged_wf (λ _ h=>by cases h) replayDamaged_row_tie rfl ⟨rfl,rfl⟩ replayDamaged_mn rfl
    (λ f fn hf hfn=>by
      obtain rfl:f=4:=Option.some.inj ((show Tryz.prog.funcNamed "saleroom/saleroomlaw47.ReplayDamaged" = some 4 by kernel_rfl).symm.trans hf) |>.symm;obtain rfl:fn=Tryz.f4:=(Option.some.inj (Tryz.func4.symm.trans hfn)).symm;exact⟨SU,λ j t ht=>by
        rw[Tryz.params4] at ht;have hm:t∈[23,24,9]:=by simpa using Array.mem_of_getElem? ht
        have hall:([23,24,9].all λ u=>!Tryz.prog.wantsStandIn u)=true:=by kernel_rfl
        exact(show Tryz.prog.wantsStandIn t=false by simpa using List.all_eq_true.1 hall t hm)⟩)
    replayDamaged_go
#print axioms replayDamaged_holds
end Go.Proofs.YtpihmghnbplohaaGreatDoor

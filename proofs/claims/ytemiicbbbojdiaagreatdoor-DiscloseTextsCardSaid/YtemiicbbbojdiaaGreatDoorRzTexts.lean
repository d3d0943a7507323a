import Derived.Test.YtemiicbbbojdiaaGreatDoorT04
import Derived.Test.YtemiicbbbojdiaaGreatDoorT12
set_option linter.unusedVariables false
set_option maxRecDepth 100000
namespace Go.Proofs.YtemiicbbbojdiaaGreatDoor
open Go Go.Vc Go.ChangeShapes Go.WideShapes Go.ChangeAt Go.RowKit
open Go.ChangeMaps (open_string shut_string)
theorem discloseTexts_q1:Rows.discloseTextsRow.wf (OpenSpec.ofChange Rows.discloseTextsSpec)=true:=by kernel_rfl
theorem discloseTexts_q4:Tryz.f6.params.all (Tryz.prog.readableRec ·)=true:=by kernel_rfl
theorem discloseTexts_q5:namedTie Tryz.prog Rows.discloseTextsRow.named Rows.discloseTextsSpec.vars=true:=by kernel_rfl
theorem discloseTexts_q6:(Rows.discloseTextsRow.stops==[])=true:=by kernel_rfl
theorem discloseTexts_q8:(Rows.discloseTextsRow.knobs==[])=true:=by kernel_rfl
theorem discloseTexts_q10:(Rows.discloseTextsRow.inPlace==Tryz.prog.inPlace 6)=true:=by kernel_rfl
theorem discloseTexts_q11:(Rows.discloseTextsRow.unfollowed==Tryz.prog.unfollowed 6)=true:=by kernel_rfl
theorem discloseTexts_q12:(Rows.discloseTextsRow.recurses==Tryz.prog.recurses 6)=true:=by kernel_rfl
theorem discloseTexts_q13:(Rows.discloseTextsRow.named==Tryz.prog.varsNamed 6)=true:=by kernel_rfl
theorem discloseTexts_q14:(Rows.discloseTextsRow.maps==(Tryz.f6.params.toList++Rows.discloseTextsSpec.plain.varTypes Tryz.prog).any (Tryz.prog.mapsRec ·))=true:=by kernel_rfl
theorem discloseTexts_q15:(Rows.discloseTextsRow.ifaces==(Tryz.f6.params.toList++Rows.discloseTextsSpec.plain.varTypes Tryz.prog).any (Tryz.prog.ifacesRec ·))=true:=by kernel_rfl
theorem discloseTexts_q16:(Rows.discloseTextsRow.mapsOut==Tryz.prog.mapsAmong Tryz.f6.resultTypes.toList)=true:=by kernel_rfl
theorem discloseTexts_q17:(Rows.discloseTextsRow.loops==(Tryz.f6.params.toList++Rows.discloseTextsSpec.plain.varTypes Tryz.prog).any (Tryz.prog.loopsFrom ·))=true:=by kernel_rfl
theorem discloseTexts_q18:(Rows.discloseTextsRow.wideKeys==(Tryz.f6.params.toList++Rows.discloseTextsSpec.plain.varTypes Tryz.prog++Tryz.f6.resultTypes.toList).any (Tryz.prog.wideKeysFrom ·))=true:=by kernel_rfl
theorem discloseTexts_q19:Rows.discloseTextsSpec.vars.all (Tryz.prog.varReadable ·)=true:=by kernel_rfl
theorem discloseTexts_q20:Tryz.f6.resultTypes.all (λ t=>Tryz.prog.readableRec t&&decide (t<Tryz.prog.types.size))=true:=by kernel_rfl
theorem discloseTexts_q21:(Rows.discloseTextsRow.ifacesOut==Tryz.f6.resultTypes.toList.any (Tryz.prog.ifacesRec ·))=true:=by kernel_rfl
theorem discloseTexts_q22:(Rows.discloseTextsRow.loopsOut==Tryz.f6.resultTypes.toList.any (Tryz.prog.loopsFrom ·))=true:=by kernel_rfl
theorem discloseTexts_q23:(Rows.discloseTextsRow.plainKeys==Tryz.prog.plainKeys)=true:=by kernel_rfl
theorem discloseTexts_q24:Rows.discloseTextsRow.shortTexts.isNone=true:=by kernel_rfl
theorem discloseTexts_q27:(Rows.discloseTextsRow.lifted==Tryz.prog.liftsFinal)=true:=by kernel_rfl
theorem discloseTexts_q28:(Tryz.prog.make==some Rows.discloseTextsRow.make)=true:=by kernel_rfl
theorem discloseTexts_q29:(Rows.discloseTextsRow.kinds==(if Rows.discloseTextsRow.domain.isEmpty then [] else Tryz.f6.params.toList.map λ t=>match Tryz.prog.underlying t with | some (.int k)=>some k | _=>none))=true:=by kernel_rfl
theorem discloseTexts_q30:(Rows.discloseTextsRow.pinned==Rows.discloseTextsRow.pinnedBy)=true:=by kernel_rfl
theorem discloseTexts_q31:(Rows.discloseTextsRow.veiled==(Tryz.f6.params.toList++Rows.discloseTextsSpec.plain.varTypes Tryz.prog++Tryz.f6.resultTypes.toList).any (Tryz.prog.veiledRec ·))=true:=by kernel_rfl
theorem discloseTexts_q32:Rows.discloseTextsRow.veiledFits Tryz.prog Tryz.f6.params.toList (Tryz.f6.params.toList++Rows.discloseTextsSpec.plain.varTypes Tryz.prog++Tryz.f6.resultTypes.toList)=true:=by kernel_rfl
theorem discloseTexts_joined:joinedFacts Tryz.prog 6 Tryz.f6 Rows.discloseTextsSpec Rows.discloseTextsRow=true:=by
  unfold joinedFacts;simp only[Bool.and_eq_true];exact⟨⟨⟨⟨⟨⟨⟨⟨⟨⟨⟨⟨⟨⟨⟨⟨⟨⟨⟨⟨⟨⟨⟨⟨⟨⟨⟨⟨⟨⟨⟨discloseTexts_q1,laidOut⟩,zU⟩,discloseTexts_q4⟩,discloseTexts_q5⟩,discloseTexts_q6⟩,zV⟩,discloseTexts_q8⟩,zW⟩,discloseTexts_q10⟩,discloseTexts_q11⟩,discloseTexts_q12⟩,discloseTexts_q13⟩,discloseTexts_q14⟩,discloseTexts_q15⟩,discloseTexts_q16⟩,discloseTexts_q17⟩,discloseTexts_q18⟩,discloseTexts_q19⟩,discloseTexts_q20⟩,discloseTexts_q21⟩,discloseTexts_q22⟩,discloseTexts_q23⟩,discloseTexts_q24⟩,zF⟩,zG⟩,discloseTexts_q27⟩,discloseTexts_q28⟩,discloseTexts_q29⟩,discloseTexts_q30⟩,discloseTexts_q31⟩,discloseTexts_q32⟩
theorem discloseTexts_wf:Rows.discloseTextsRow.wfByText (OpenSpec.ofChange Rows.discloseTextsSpec)=true:=by kernel_rfl
theorem discloseTexts_mn:Tryz.pinned.checked.prog.mainIs=some (true,("fdcfe39a0245d34095ffdffb770076baf0f152099cb7286e26b812c7ed515f28" : String).toList):=by kernel_rfl
theorem discloseTexts_go:false=Rows.discloseTextsRow.goesBy Tryz.pinned.checked.prog:=by kernel_rfl
theorem discloseTexts_named:Tryz.prog.funcNamed Rows.discloseTextsRow.func=some 6:=by kernel_rfl
set_option maxRecDepth 100000 in
theorem discloseTexts_lifted(os:Os)(started:os.Started)(H:Type)(enc:TypeId×Value->H) :
    ReturnsInHanded {} Tryz.checked os 6 .any (λ w args=>(Rows.discloseTextsSpec.pre enc Tryz.prog Tryz.f6 [] false w args/\laidMetH Tryz.prog Rows.discloseTextsRow.laid w)/\sizedMet enc Tryz.prog Tryz.f6 (OpenSpec.ofChange Rows.discloseTextsSpec) false w args) (Rows.discloseTextsSpec.post enc Tryz.prog Tryz.f6 false true false false):=by
  refine returnsInHanded_of_change_and (C:=Tryz.checked) (X:=λ w _=>laidMetH Tryz.prog Rows.discloseTextsRow.laid w) (λ _ _ _ hh h=>h.of_heap hh) own started (by kernel_rfl) Tryz.func6 (ChangeSpec.witness_shaped (enc:=enc) (C:=Tryz.checked) (os:=os) (X:=λ w _=>laidMetH Tryz.prog Rows.discloseTextsRow.laid w) false (dH os) #[.agg #[.slice none 0 0,.slice none 0 0,.slice none 0 0,.slice none 0 0],.agg #[.int .i64 0,.int .i64 0,.int .i64 0,.int .i64 0,.int .i64 0,.int .i64 0,.int .i64 0,.int .i64 0,.int .i64 0,.int .i64 0,.int .i64 0,.int .i64 0,.int .i64 0,.int .i64 0,.slice none 0 0,.slice none 0 0,.slice none 0 0],.int .i64 0] 8 (ki os)
      (World.shaped_of_ZipB (by kernel_rfl) (by kernel_rfl)) (by kernel_rfl) (by kernel_rfl) (by kernel_rfl) (jk os _)) ?_
  intro W base args ds gs before hval0 hW _ hwt hL _;have hval:∀ (j:Nat) t v,Tryz.f6.params[j]? = some t->args[j]? = some v->Value.okWide Tryz.prog W .any base t v:=hval0;have hW':=hW;obtain⟨p,q,hA0,hV,rfl,hfz,hnd⟩:=hW;have hA:DataW.TrodAll enc Tryz.prog W 0 (λ _=>true) true Tryz.f6.params.toList args.toList ds p:=hA0;rw[Tryz.params6] at hA hval;obtain⟨v0,vs0,d0,ds0,p0,q0,hargs,rfl,rfl,h0,r0⟩:=trodAll_cons hA;obtain⟨v1,vs1,d1,ds1,p1,q1,rfl,rfl,rfl,h1,r1⟩:=trodAll_cons r0;obtain⟨v2,vs2,d2,ds2,p2,q2,rfl,rfl,rfl,h2,r2⟩:=trodAll_cons r1;obtain⟨rfl,rfl,rfl⟩:=trodAll_nil r2;obtain rfl:args = #[v0,v1,v2]:=by cases args; simp_all
  obtain⟨rfl,rfl⟩:=trodVars_none hV;have k0:=h0;have lt0:∀ x∈p0,x.block<W.heap.size:=by obtain⟨m,hm⟩:=k0; exact DataW.trod_lt m _ _ _ hm
  have o0:=hval 0 34 v0 rfl rfl;unfold Value.okWide at o0;simp only[Tryz.underlying34] at o0;obtain⟨cs0,rfl,-,-⟩:=o0;obtain⟨g0,hg0⟩:=h0;have hop0:cw Tryz.prog W 6 34 cs0.toList:=eC 6 hg0 λ y hy=>by
    have h':=List.all_eq_true.1 hwt y (kV (i:=0) (t:=34) (d:=d0) (by rw[Tryz.params6]; rfl) rfl hy);simpa using h'
  obtain⟨sG,he0,hsG⟩:=uA hop0;have hcs0:cs0=sG.arr:=Array.ext' he0;have k1:=h1;have lt1:∀ x∈p1,x.block<W.heap.size:=by obtain⟨m,hm⟩:=k1; exact DataW.trod_lt m _ _ _ hm
  have o1:=hval 1 44 v1 rfl rfl;unfold Value.okWide at o1;simp only[Tryz.underlying44] at o1;obtain⟨cs1,rfl,-,-⟩:=o1;obtain⟨g1,hg1⟩:=h1;have hop1:cw Tryz.prog W 6 44 cs1.toList:=eC 6 hg1 λ y hy=>by
    have h':=List.all_eq_true.1 hwt y (kV (i:=1) (t:=44) (d:=d1) (by rw[Tryz.params6]; rfl) rfl hy);simpa using h'
  obtain⟨vV,he1,hvV,hnV⟩:=uB hop1;have hcs1:cs1=vV.vals.toArray:=by rw[<- he1]
  obtain⟨n2,rfl,rfl,rfl,w2⟩:=open_int Tryz.underlying3 (hval 2 3 v2 rfl rfl) h2;clear hA0 hval0;have hcall:Calls Tryz.prog 6 #[.agg cs0,.agg cs1,.int .i64 n2] W (sD λ r w'=>r=.bool true/\an W w' []):=by rw[hcs0,hcs1]; exact uP uU n2 hsG hvV hnV (wX hL)
  refine hcall.mono λ e W' ⟨v,he,hv,hc⟩=>?_;subst hv;subst he;have bel:=qm hc;exact⟨_,rfl,_,_,_,[],_,[],hW',trodAll_mk1 (shut_bool Tryz.underlying4 _),(trodAll_cons_mk (Below.trod laidOut (by kernel_rfl) (of_decide_eq_true (by kernel_rfl)) k0 bel lt0) (trodAll_cons_mk (Below.trod laidOut (by kernel_rfl) (of_decide_eq_true (by kernel_rfl)) k1 bel lt1) (trodAll_cons_mk (shut_int Tryz.underlying3 w2) trodAll_mk0))),rfl,bel.frame _,λ h=>by cases h⟩
theorem discloseTexts_holds0:Rows.DiscloseTextsSaid :=
  OpenClaim.holds_of_wide 6 Tryz.f6 rfl rfl rfl rfl rfl rfl rfl ⟨rfl,rfl,rfl,rfl,rfl⟩ rfl rfl rfl rfl rfl discloseTexts_named Tryz.func6 discloseTexts_joined
    (of_decide_eq_true (by kernel_rfl)) (by unfold Func.isWrapper; first | (rw[if_pos (by decide +kernel)]; kernel_rfl) | (rw[if_neg (by decide +kernel)]; exact⟨rfl,rfl⟩))
    (λ os started H enc _=>discloseTexts_lifted os started H enc)
theorem discloseTexts_holds:Rows.DiscloseTextsCardSaid :=
  Claim7.holds_tied_plain_at .later [] [.data,.data,.data,.data,.sentinel,.sentinel,.pinned] true (true, "fdcfe39a0245d34095ffdffb770076baf0f152099cb7286e26b812c7ed515f28") true
    discloseTexts_holds0 (λ _ h=>by cases h) discloseTexts_wf (λ _ h=>by cases h) discloseTexts_row_tie rfl ⟨rfl,rfl⟩ discloseTexts_mn rfl
    (λ f fn hf hfn=>by
      obtain rfl:f=6:=Option.some.inj ((show Tryz.prog.funcNamed "saleroom/saleroomlaw45.DiscloseTexts" = some 6 by kernel_rfl).symm.trans hf) |>.symm;obtain rfl:fn=Tryz.f6:=(Option.some.inj (Tryz.func6.symm.trans hfn)).symm;exact⟨zX,λ j t ht=>by
        rw[Tryz.params6] at ht;have hm:t∈[34,44,3]:=by simpa using Array.mem_of_getElem? ht
        have hall:([34,44,3].all λ u=>!Tryz.prog.wantsStandIn u)=true:=by kernel_rfl
        exact(show Tryz.prog.wantsStandIn t=false by simpa using List.all_eq_true.1 hall t hm)⟩)
    discloseTexts_go
#print axioms discloseTexts_holds
end Go.Proofs.YtemiicbbbojdiaaGreatDoor

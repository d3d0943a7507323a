import Derived.Test.YtpddenfeaadgpaaGreatDoorF12
set_option linter.unusedVariables false
set_option maxRecDepth 100000
namespace Go.Proofs.YtpddenfeaadgpaaGreatDoor
open Go Go.Vc Go.ChangeShapes Go.WideShapes Go.ChangeAt Go.RowKit
open Go.ChangeMaps (open_string shut_string)
theorem proxySupplements_q1:Rows.proxySupplementsRow.wf (OpenSpec.ofChange Rows.proxySupplementsSpec)=true:=by kernel_rfl
theorem proxySupplements_q4:Tryz.f7.params.all (Tryz.prog.readableRec ·)=true:=by kernel_rfl
theorem proxySupplements_q5:namedTie Tryz.prog Rows.proxySupplementsRow.named Rows.proxySupplementsSpec.vars=true:=by kernel_rfl
theorem proxySupplements_q6:(Rows.proxySupplementsRow.stops==[])=true:=by kernel_rfl
theorem proxySupplements_q8:(Rows.proxySupplementsRow.knobs==[])=true:=by kernel_rfl
theorem proxySupplements_q10:(Rows.proxySupplementsRow.inPlace==Tryz.prog.inPlace 7)=true:=by kernel_rfl
theorem proxySupplements_q11:(Rows.proxySupplementsRow.unfollowed==Tryz.prog.unfollowed 7)=true:=by kernel_rfl
theorem proxySupplements_q12:(Rows.proxySupplementsRow.recurses==Tryz.prog.recurses 7)=true:=by kernel_rfl
theorem proxySupplements_q13:(Rows.proxySupplementsRow.named==Tryz.prog.varsNamed 7)=true:=by kernel_rfl
theorem proxySupplements_q14:(Rows.proxySupplementsRow.maps==(Tryz.f7.params.toList++Rows.proxySupplementsSpec.plain.varTypes Tryz.prog).any (Tryz.prog.mapsRec ·))=true:=by kernel_rfl
theorem proxySupplements_q15:(Rows.proxySupplementsRow.ifaces==(Tryz.f7.params.toList++Rows.proxySupplementsSpec.plain.varTypes Tryz.prog).any (Tryz.prog.ifacesRec ·))=true:=by kernel_rfl
theorem proxySupplements_q16:(Rows.proxySupplementsRow.mapsOut==Tryz.prog.mapsAmong Tryz.f7.resultTypes.toList)=true:=by kernel_rfl
theorem proxySupplements_q17:(Rows.proxySupplementsRow.loops==(Tryz.f7.params.toList++Rows.proxySupplementsSpec.plain.varTypes Tryz.prog).any (Tryz.prog.loopsFrom ·))=true:=by kernel_rfl
theorem proxySupplements_q18:(Rows.proxySupplementsRow.wideKeys==(Tryz.f7.params.toList++Rows.proxySupplementsSpec.plain.varTypes Tryz.prog++Tryz.f7.resultTypes.toList).any (Tryz.prog.wideKeysFrom ·))=true:=by kernel_rfl
theorem proxySupplements_q19:Rows.proxySupplementsSpec.vars.all (Tryz.prog.varReadable ·)=true:=by kernel_rfl
theorem proxySupplements_q20:Tryz.f7.resultTypes.all (λ t=>Tryz.prog.readableRec t&&decide (t<Tryz.prog.types.size))=true:=by kernel_rfl
theorem proxySupplements_q21:(Rows.proxySupplementsRow.ifacesOut==Tryz.f7.resultTypes.toList.any (Tryz.prog.ifacesRec ·))=true:=by kernel_rfl
theorem proxySupplements_q22:(Rows.proxySupplementsRow.loopsOut==Tryz.f7.resultTypes.toList.any (Tryz.prog.loopsFrom ·))=true:=by kernel_rfl
theorem proxySupplements_q23:(Rows.proxySupplementsRow.plainKeys==Tryz.prog.plainKeys)=true:=by kernel_rfl
theorem proxySupplements_q24:Rows.proxySupplementsRow.shortTexts.isNone=true:=by kernel_rfl
theorem proxySupplements_q27:(Rows.proxySupplementsRow.lifted==Tryz.prog.liftsFinal)=true:=by kernel_rfl
theorem proxySupplements_q28:(Tryz.prog.make==some Rows.proxySupplementsRow.make)=true:=by kernel_rfl
theorem proxySupplements_q29:(Rows.proxySupplementsRow.kinds==(if Rows.proxySupplementsRow.domain.isEmpty then [] else Tryz.f7.params.toList.map λ t=>match Tryz.prog.underlying t with|some (.int k)=>some k|_=>none))=true:=by kernel_rfl
theorem proxySupplements_q30:(Rows.proxySupplementsRow.pinned==Rows.proxySupplementsRow.pinnedBy)=true:=by kernel_rfl
theorem proxySupplements_q31:(Rows.proxySupplementsRow.veiled==(Tryz.f7.params.toList++Rows.proxySupplementsSpec.plain.varTypes Tryz.prog++Tryz.f7.resultTypes.toList).any (Tryz.prog.veiledRec ·))=true:=by kernel_rfl
theorem proxySupplements_q32:Rows.proxySupplementsRow.veiledFits Tryz.prog Tryz.f7.params.toList (Tryz.f7.params.toList++Rows.proxySupplementsSpec.plain.varTypes Tryz.prog++Tryz.f7.resultTypes.toList)=true:=by kernel_rfl
set_option maxRecDepth 100000 in
theorem proxySupplements_joined:joinedFacts Tryz.prog 7 Tryz.f7 Rows.proxySupplementsSpec Rows.proxySupplementsRow=true:=by
 unfold joinedFacts;simp only[Bool.and_eq_true];exact⟨⟨⟨⟨⟨⟨⟨⟨⟨⟨⟨⟨⟨⟨⟨⟨⟨⟨⟨⟨⟨⟨⟨⟨⟨⟨⟨⟨⟨⟨⟨proxySupplements_q1,laidOut⟩,Jx⟩,proxySupplements_q4⟩,proxySupplements_q5⟩,proxySupplements_q6⟩,Jy⟩,proxySupplements_q8⟩,Jz⟩,proxySupplements_q10⟩,proxySupplements_q11⟩,proxySupplements_q12⟩,proxySupplements_q13⟩,proxySupplements_q14⟩,proxySupplements_q15⟩,proxySupplements_q16⟩,proxySupplements_q17⟩,proxySupplements_q18⟩,proxySupplements_q19⟩,proxySupplements_q20⟩,proxySupplements_q21⟩,proxySupplements_q22⟩,proxySupplements_q23⟩,proxySupplements_q24⟩,ER⟩,ES⟩,proxySupplements_q27⟩,proxySupplements_q28⟩,proxySupplements_q29⟩,proxySupplements_q30⟩,proxySupplements_q31⟩,proxySupplements_q32⟩
theorem proxySupplements_wf:Rows.proxySupplementsRow.wfByText (OpenSpec.ofChange Rows.proxySupplementsSpec)=true:=by kernel_rfl
theorem proxySupplements_mn:Tryz.pinned.checked.prog.mainIs=some (true,("f8f3c2898091aad4b0043d70b4e55fce6bdcc5b6d7893fe70112dfdedc57dd51" : String).toList):=by kernel_rfl
theorem proxySupplements_go:false=Rows.proxySupplementsRow.goesBy Tryz.pinned.checked.prog:=by kernel_rfl
theorem proxySupplements_named:Tryz.prog.funcNamed Rows.proxySupplementsRow.func=some 7:=by kernel_rfl
set_option maxRecDepth 100000 in
theorem proxySupplements_lifted(os:Os)(started:os.Started)(H:Type)(enc:TypeId×Value->H) :
  ReturnsInHanded {} Tryz.checked os 7 .any (λ w args=>(Rows.proxySupplementsSpec.pre enc Tryz.prog Tryz.f7 [] false w args/\laidMetH Tryz.prog Rows.proxySupplementsRow.laid w)/\sizedMet enc Tryz.prog Tryz.f7 (OpenSpec.ofChange Rows.proxySupplementsSpec) false w args) (Rows.proxySupplementsSpec.post enc Tryz.prog Tryz.f7 false true false false):=by
 refine returnsInHanded_of_change_and (C:=Tryz.checked) (X:=λ w _=>laidMetH Tryz.prog Rows.proxySupplementsRow.laid w) (λ _ _ _ hh h=>h.of_heap hh) own started (by kernel_rfl) Tryz.func7 (ChangeSpec.witness_shaped (enc:=enc) (C:=Tryz.checked) (os:=os) (X:=λ w _=>laidMetH Tryz.prog Rows.proxySupplementsRow.laid w) false (cV os) #[.agg #[.slice none 0 0,.slice none 0 0,.slice none 0 0,.slice none 0 0],.agg #[.int .i64 0,.int .i64 0,.int .i64 0,.int .i64 0],.slice none 0 0,.int .i64 0,.slice none 0 0] 8 (dR os)
   (World.shaped_of_ZipB (by kernel_rfl) (by kernel_rfl)) (by kernel_rfl) (by kernel_rfl) (by kernel_rfl) (dx os _)) ?_
 intro W base args ds gs before hval0 hW _ hwt hL _;have hval:∀ (j:Nat) t v,Tryz.f7.params[j]?=some t->args[j]?=some v->Value.okWide Tryz.prog W .any base t v:=hval0;have hW':=hW;obtain⟨p,q,hA0,hV,rfl,hfz,hnd⟩:=hW;have hA:DataW.TrodAll enc Tryz.prog W 0 (λ _=>true) true Tryz.f7.params.toList args.toList ds p:=hA0;rw[Tryz.params7] at hA hval;obtain⟨v0,vs0,d0,ds0,p0,q0,hargs,rfl,rfl,h0,r0⟩:=trodAll_cons hA;obtain⟨v1,vs1,d1,ds1,p1,q1,rfl,rfl,rfl,h1,r1⟩:=trodAll_cons r0;obtain⟨v2,vs2,d2,ds2,p2,q2,rfl,rfl,rfl,h2,r2⟩:=trodAll_cons r1;obtain⟨v3,vs3,d3,ds3,p3,q3,rfl,rfl,rfl,h3,r3⟩:=trodAll_cons r2;obtain⟨v4,vs4,d4,ds4,p4,q4,rfl,rfl,rfl,h4,r4⟩:=trodAll_cons r3;obtain⟨rfl,rfl,rfl⟩:=trodAll_nil r4;obtain rfl:args = #[v0,v1,v2,v3,v4]:=by cases args; simp_all
 obtain⟨rfl,rfl⟩:=trodVars_none hV;have k0:=h0;have lt0:∀ x∈p0,x.block<W.heap.size:=by obtain⟨m,hm⟩:=k0; exact DataW.trod_lt m _ _ _ hm
 have o0:=hval 0 27 v0 rfl rfl;unfold Value.okWide at o0;simp only[Tryz.underlying27] at o0;obtain⟨cs0,rfl,-,-⟩:=o0;obtain⟨g0,hg0⟩:=h0;have hop0:cY Tryz.prog W 6 27 cs0.toList:=bp 6 hg0 λ y hy=>by
  have h':=List.all_eq_true.1 hwt y (cA (i:=0) (t:=27) (d:=d0) (by rw[Tryz.params7]; rfl) rfl hy);simpa using h'
 obtain⟨sG,he0,hsG⟩:=og hop0;have hcs0:cs0=sG.arr:=Array.ext' he0;have k1:=h1;have lt1:∀ x∈p1,x.block<W.heap.size:=by obtain⟨m,hm⟩:=k1; exact DataW.trod_lt m _ _ _ hm
 have o1:=hval 1 41 v1 rfl rfl;unfold Value.okWide at o1;simp only[Tryz.underlying41] at o1;obtain⟨cs1,rfl,-,-⟩:=o1;obtain⟨g1,hg1⟩:=h1;have hop1:cY Tryz.prog W 6 41 cs1.toList:=bp 6 hg1 λ y hy=>by
  have h':=List.all_eq_true.1 hwt y (cA (i:=1) (t:=41) (d:=d1) (by rw[Tryz.params7]; rfl) rfl hy);simpa using h'
 obtain⟨o,he1⟩:=ru hop1;have hcs1:cs1=o.cells.toArray:=by rw[<- he1]
 have k2:=h2;have lt2:∀ x∈p2,x.block<W.heap.size:=by obtain⟨m,hm⟩:=k2; exact DataW.trod_lt m _ _ _ hm
 obtain⟨a2,l2,c2,rfl⟩:=okWide_slice Tryz.underlying32 (hval 2 32 v2 rfl rfl);obtain⟨g2,hg2⟩:=h2;have hop2:cY Tryz.prog W 6 32 [.slice a2 l2 c2]:=bp 6 hg2 λ y hy=>by
  have h':=List.all_eq_true.1 hwt y (cA (i:=2) (t:=32) (d:=d2) (by rw[Tryz.params7]; rfl) rfl hy);simpa using h'
 obtain⟨aD,cD,lD,he2,hfD,hiD⟩:=oe hop2;have e2:(Value.slice a2 l2 c2)=.slice aD lD.length cD:=List.singleton_inj.1 he2;obtain⟨n3,rfl,rfl,rfl,w3⟩:=open_int Tryz.underlying3 (hval 3 3 v3 rfl rfl) h3;have k4:=h4;have lt4:∀ x∈p4,x.block<W.heap.size:=by obtain⟨m,hm⟩:=k4; exact DataW.trod_lt m _ _ _ hm
 obtain⟨a4,l4,c4,rfl⟩:=okWide_slice Tryz.underlying28 (hval 4 28 v4 rfl rfl);obtain⟨g4,hg4⟩:=h4;have hop4:cY Tryz.prog W 6 28 [.slice a4 l4 c4]:=bp 6 hg4 λ y hy=>by
  have h':=List.all_eq_true.1 hwt y (cA (i:=4) (t:=28) (d:=d4) (by rw[Tryz.params7]; rfl) rfl hy);simpa using h'
 obtain⟨aO,cO,lO,he4,hrO⟩:=sr (d:=2) hop4;have e4:(Value.slice a4 l4 c4)=.slice aO lO.length cO:=List.singleton_inj.1 he4;clear hA0 hval0;have hcall:Calls Tryz.prog 7 #[.agg cs0,.agg cs1,.slice a2 l2 c2,.int .i64 n3,.slice a4 l4 c4] W (nH λ r w'=>r=.bool true/\ax W w' []):=by rw[hcs0,hcs1,e2,e4]; exact G0 (td hL) hsG o hfD hiD n3 hrO
 refine hcall.mono λ e W' ⟨v,he,hv,hc⟩=>?_;subst hv;subst he;have bel:=jS hc;exact⟨_,rfl,_,_,_,[],_,[],hW',trodAll_mk1 (shut_bool Tryz.underlying4 _),(trodAll_cons_mk (Below.trod laidOut (by kernel_rfl) (of_decide_eq_true (by kernel_rfl)) k0 bel lt0) (trodAll_cons_mk (Below.trod laidOut (by kernel_rfl) (of_decide_eq_true (by kernel_rfl)) k1 bel lt1) (trodAll_cons_mk (Below.trod laidOut (by kernel_rfl) (of_decide_eq_true (by kernel_rfl)) k2 bel lt2) (trodAll_cons_mk (shut_int Tryz.underlying3 w3) (trodAll_cons_mk (Below.trod laidOut (by kernel_rfl) (of_decide_eq_true (by kernel_rfl)) k4 bel lt4) trodAll_mk0))))),rfl,bel.frame _,λ h=>by cases h⟩
theorem proxySupplements_holds0:Rows.ProxySupplementsSaid :=
 OpenClaim.holds_of_wide 7 Tryz.f7 rfl rfl rfl rfl rfl rfl rfl ⟨rfl,rfl,rfl,rfl,rfl⟩ rfl rfl rfl rfl rfl proxySupplements_named Tryz.func7 proxySupplements_joined
  (of_decide_eq_true (by kernel_rfl)) (by unfold Func.isWrapper; first|(rw[if_pos (by decide +kernel)]; kernel_rfl)|(rw[if_neg (by decide +kernel)]; exact⟨rfl,rfl⟩))
  (λ os started H enc _=>proxySupplements_lifted os started H enc)
theorem proxySupplements_holds:Rows.ProxySupplementsCardSaid :=
 Claim7.holds_tied_plain_at .later [] [.data,.data,.data] true (true, "f8f3c2898091aad4b0043d70b4e55fce6bdcc5b6d7893fe70112dfdedc57dd51") false
  proxySupplements_holds0 (λ _ h=>by cases h) proxySupplements_wf (λ _ h=>by cases h) proxySupplements_row_tie rfl ⟨rfl,rfl⟩ proxySupplements_mn rfl
  (λ f fn hf hfn=>by
   obtain rfl:f=7:=Option.some.inj ((show Tryz.prog.funcNamed "saleroom/saleroomlaw54.ProxySupplements" = some 7 by kernel_rfl).symm.trans hf) |>.symm;obtain rfl:fn=Tryz.f7:=(Option.some.inj (Tryz.func7.symm.trans hfn)).symm;exact⟨JA,λ j t ht=>by
    rw[Tryz.params7] at ht;have hm:t∈[27,41,32,3,28]:=by simpa using Array.mem_of_getElem? ht
    have hall:([27,41,32,3,28].all λ u=>!Tryz.prog.wantsStandIn u)=true:=by kernel_rfl
    exact(show Tryz.prog.wantsStandIn t=false by simpa using List.all_eq_true.1 hall t hm)⟩)
  proxySupplements_go
#print axioms proxySupplements_holds
end Go.Proofs.YtpddenfeaadgpaaGreatDoor

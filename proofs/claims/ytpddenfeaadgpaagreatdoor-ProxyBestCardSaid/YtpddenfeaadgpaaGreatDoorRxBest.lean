import Derived.Test.YtpddenfeaadgpaaGreatDoorF12
set_option linter.unusedVariables false
set_option maxRecDepth 100000
namespace Go.Proofs.YtpddenfeaadgpaaGreatDoor
open Go Go.Vc Go.ChangeShapes Go.WideShapes Go.ChangeAt Go.RowKit
open Go.ChangeMaps (open_string shut_string)
theorem proxyBest_q1:Rows.proxyBestRow.wf (OpenSpec.ofChange Rows.proxyBestSpec)=true:=by kernel_rfl
theorem proxyBest_q4:Tryz.f3.params.all (Tryz.prog.readableRec ·)=true:=by kernel_rfl
theorem proxyBest_q5:namedTie Tryz.prog Rows.proxyBestRow.named Rows.proxyBestSpec.vars=true:=by kernel_rfl
theorem proxyBest_q6:(Rows.proxyBestRow.stops==[])=true:=by kernel_rfl
theorem proxyBest_q8:(Rows.proxyBestRow.knobs==[])=true:=by kernel_rfl
theorem proxyBest_q10:(Rows.proxyBestRow.inPlace==Tryz.prog.inPlace 3)=true:=by kernel_rfl
theorem proxyBest_q11:(Rows.proxyBestRow.unfollowed==Tryz.prog.unfollowed 3)=true:=by kernel_rfl
theorem proxyBest_q12:(Rows.proxyBestRow.recurses==Tryz.prog.recurses 3)=true:=by kernel_rfl
theorem proxyBest_q13:(Rows.proxyBestRow.named==Tryz.prog.varsNamed 3)=true:=by kernel_rfl
theorem proxyBest_q14:(Rows.proxyBestRow.maps==(Tryz.f3.params.toList++Rows.proxyBestSpec.plain.varTypes Tryz.prog).any (Tryz.prog.mapsRec ·))=true:=by kernel_rfl
theorem proxyBest_q15:(Rows.proxyBestRow.ifaces==(Tryz.f3.params.toList++Rows.proxyBestSpec.plain.varTypes Tryz.prog).any (Tryz.prog.ifacesRec ·))=true:=by kernel_rfl
theorem proxyBest_q16:(Rows.proxyBestRow.mapsOut==Tryz.prog.mapsAmong Tryz.f3.resultTypes.toList)=true:=by kernel_rfl
theorem proxyBest_q17:(Rows.proxyBestRow.loops==(Tryz.f3.params.toList++Rows.proxyBestSpec.plain.varTypes Tryz.prog).any (Tryz.prog.loopsFrom ·))=true:=by kernel_rfl
theorem proxyBest_q18:(Rows.proxyBestRow.wideKeys==(Tryz.f3.params.toList++Rows.proxyBestSpec.plain.varTypes Tryz.prog++Tryz.f3.resultTypes.toList).any (Tryz.prog.wideKeysFrom ·))=true:=by kernel_rfl
theorem proxyBest_q19:Rows.proxyBestSpec.vars.all (Tryz.prog.varReadable ·)=true:=by kernel_rfl
theorem proxyBest_q20:Tryz.f3.resultTypes.all (λ t=>Tryz.prog.readableRec t&&decide (t<Tryz.prog.types.size))=true:=by kernel_rfl
theorem proxyBest_q21:(Rows.proxyBestRow.ifacesOut==Tryz.f3.resultTypes.toList.any (Tryz.prog.ifacesRec ·))=true:=by kernel_rfl
theorem proxyBest_q22:(Rows.proxyBestRow.loopsOut==Tryz.f3.resultTypes.toList.any (Tryz.prog.loopsFrom ·))=true:=by kernel_rfl
theorem proxyBest_q23:(Rows.proxyBestRow.plainKeys==Tryz.prog.plainKeys)=true:=by kernel_rfl
theorem proxyBest_q24:Rows.proxyBestRow.shortTexts.isNone=true:=by kernel_rfl
theorem proxyBest_q27:(Rows.proxyBestRow.lifted==Tryz.prog.liftsFinal)=true:=by kernel_rfl
theorem proxyBest_q28:(Tryz.prog.make==some Rows.proxyBestRow.make)=true:=by kernel_rfl
theorem proxyBest_q29:(Rows.proxyBestRow.kinds==(if Rows.proxyBestRow.domain.isEmpty then [] else Tryz.f3.params.toList.map λ t=>match Tryz.prog.underlying t with|some (.int k)=>some k|_=>none))=true:=by kernel_rfl
theorem proxyBest_q30:(Rows.proxyBestRow.pinned==Rows.proxyBestRow.pinnedBy)=true:=by kernel_rfl
theorem proxyBest_q31:(Rows.proxyBestRow.veiled==(Tryz.f3.params.toList++Rows.proxyBestSpec.plain.varTypes Tryz.prog++Tryz.f3.resultTypes.toList).any (Tryz.prog.veiledRec ·))=true:=by kernel_rfl
theorem proxyBest_q32:Rows.proxyBestRow.veiledFits Tryz.prog Tryz.f3.params.toList (Tryz.f3.params.toList++Rows.proxyBestSpec.plain.varTypes Tryz.prog++Tryz.f3.resultTypes.toList)=true:=by kernel_rfl
set_option maxRecDepth 100000 in
theorem proxyBest_joined:joinedFacts Tryz.prog 3 Tryz.f3 Rows.proxyBestSpec Rows.proxyBestRow=true:=by
 unfold joinedFacts;simp only[Bool.and_eq_true];exact⟨⟨⟨⟨⟨⟨⟨⟨⟨⟨⟨⟨⟨⟨⟨⟨⟨⟨⟨⟨⟨⟨⟨⟨⟨⟨⟨⟨⟨⟨⟨proxyBest_q1,laidOut⟩,Jx⟩,proxyBest_q4⟩,proxyBest_q5⟩,proxyBest_q6⟩,Jy⟩,proxyBest_q8⟩,Jz⟩,proxyBest_q10⟩,proxyBest_q11⟩,proxyBest_q12⟩,proxyBest_q13⟩,proxyBest_q14⟩,proxyBest_q15⟩,proxyBest_q16⟩,proxyBest_q17⟩,proxyBest_q18⟩,proxyBest_q19⟩,proxyBest_q20⟩,proxyBest_q21⟩,proxyBest_q22⟩,proxyBest_q23⟩,proxyBest_q24⟩,ER⟩,ES⟩,proxyBest_q27⟩,proxyBest_q28⟩,proxyBest_q29⟩,proxyBest_q30⟩,proxyBest_q31⟩,proxyBest_q32⟩
theorem proxyBest_wf:Rows.proxyBestRow.wfByText (OpenSpec.ofChange Rows.proxyBestSpec)=true:=by kernel_rfl
theorem proxyBest_mn:Tryz.pinned.checked.prog.mainIs=some (true,("f8f3c2898091aad4b0043d70b4e55fce6bdcc5b6d7893fe70112dfdedc57dd51" : String).toList):=by kernel_rfl
theorem proxyBest_go:false=Rows.proxyBestRow.goesBy Tryz.pinned.checked.prog:=by kernel_rfl
theorem proxyBest_named:Tryz.prog.funcNamed Rows.proxyBestRow.func=some 3:=by kernel_rfl
set_option maxRecDepth 100000 in
theorem proxyBest_lifted(os:Os)(started:os.Started)(H:Type)(enc:TypeId×Value->H) :
  ReturnsInHanded {} Tryz.checked os 3 .any (λ w args=>(Rows.proxyBestSpec.pre enc Tryz.prog Tryz.f3 [] false w args/\laidMetH Tryz.prog Rows.proxyBestRow.laid w)/\sizedMet enc Tryz.prog Tryz.f3 (OpenSpec.ofChange Rows.proxyBestSpec) false w args) (Rows.proxyBestSpec.post enc Tryz.prog Tryz.f3 false true false false):=by
 refine returnsInHanded_of_change_and (C:=Tryz.checked) (X:=λ w _=>laidMetH Tryz.prog Rows.proxyBestRow.laid w) (λ _ _ _ hh h=>h.of_heap hh) own started (by kernel_rfl) Tryz.func3 (ChangeSpec.witness_shaped (enc:=enc) (C:=Tryz.checked) (os:=os) (X:=λ w _=>laidMetH Tryz.prog Rows.proxyBestRow.laid w) false (cV os) #[.agg #[.slice none 0 0,.slice none 0 0,.slice none 0 0,.slice none 0 0],.int .i64 0,.slice none 0 0,.agg #[.int .i64 0,.int .i64 0,.int .i64 0,.int .i64 0,.int .i64 0,.int .i64 0]] 8 (dR os)
   (World.shaped_of_ZipB (by kernel_rfl) (by kernel_rfl)) (by kernel_rfl) (by kernel_rfl) (by kernel_rfl) (dx os _)) ?_
 intro W base args ds gs before hval0 hW _ hwt hL _;have hval:∀ (j:Nat) t v,Tryz.f3.params[j]?=some t->args[j]?=some v->Value.okWide Tryz.prog W .any base t v:=hval0;have hW':=hW;obtain⟨p,q,hA0,hV,rfl,hfz,hnd⟩:=hW;have hA:DataW.TrodAll enc Tryz.prog W 0 (λ _=>true) true Tryz.f3.params.toList args.toList ds p:=hA0;rw[Tryz.params3] at hA hval;obtain⟨v0,vs0,d0,ds0,p0,q0,hargs,rfl,rfl,h0,r0⟩:=trodAll_cons hA;obtain⟨v1,vs1,d1,ds1,p1,q1,rfl,rfl,rfl,h1,r1⟩:=trodAll_cons r0;obtain⟨v2,vs2,d2,ds2,p2,q2,rfl,rfl,rfl,h2,r2⟩:=trodAll_cons r1;obtain⟨v3,vs3,d3,ds3,p3,q3,rfl,rfl,rfl,h3,r3⟩:=trodAll_cons r2;obtain⟨rfl,rfl,rfl⟩:=trodAll_nil r3;obtain rfl:args = #[v0,v1,v2,v3]:=by cases args; simp_all
 obtain⟨rfl,rfl⟩:=trodVars_none hV;have k0:=h0;have lt0:∀ x∈p0,x.block<W.heap.size:=by obtain⟨m,hm⟩:=k0; exact DataW.trod_lt m _ _ _ hm
 have o0:=hval 0 27 v0 rfl rfl;unfold Value.okWide at o0;simp only[Tryz.underlying27] at o0;obtain⟨cs0,rfl,-,-⟩:=o0;obtain⟨g0,hg0⟩:=h0;have hop0:cY Tryz.prog W 6 27 cs0.toList:=bp 6 hg0 λ y hy=>by
  have h':=List.all_eq_true.1 hwt y (cA (i:=0) (t:=27) (d:=d0) (by rw[Tryz.params3]; rfl) rfl hy);simpa using h'
 obtain⟨sG,he0,hsG⟩:=og hop0;have hcs0:cs0=sG.arr:=Array.ext' he0;obtain⟨n1,rfl,rfl,rfl,w1⟩:=open_int Tryz.underlying3 (hval 1 3 v1 rfl rfl) h1;have k2:=h2;have lt2:∀ x∈p2,x.block<W.heap.size:=by obtain⟨m,hm⟩:=k2; exact DataW.trod_lt m _ _ _ hm
 obtain⟨a2,l2,c2,rfl⟩:=okWide_slice Tryz.underlying28 (hval 2 28 v2 rfl rfl);obtain⟨g2,hg2⟩:=h2;have hop2:cY Tryz.prog W 6 28 [.slice a2 l2 c2]:=bp 6 hg2 λ y hy=>by
  have h':=List.all_eq_true.1 hwt y (cA (i:=2) (t:=28) (d:=d2) (by rw[Tryz.params3]; rfl) rfl hy);simpa using h'
 obtain⟨aO,cO,lO,he2,hrO⟩:=sr (d:=2) hop2;have e2:(Value.slice a2 l2 c2)=.slice aO lO.length cO:=List.singleton_inj.1 he2;have k3:=h3;have lt3:∀ x∈p3,x.block<W.heap.size:=by obtain⟨m,hm⟩:=k3; exact DataW.trod_lt m _ _ _ hm
 have o3:=hval 3 30 v3 rfl rfl;unfold Value.okWide at o3;simp only[Tryz.underlying30] at o3;obtain⟨cs3,rfl,-,-⟩:=o3;obtain⟨g3,hg3⟩:=h3;have hop3:cY Tryz.prog W 6 30 cs3.toList:=bp 6 hg3 λ y hy=>by
  have h':=List.all_eq_true.1 hwt y (cA (i:=3) (t:=30) (d:=d3) (by rw[Tryz.params3]; rfl) rfl hy);simpa using h'
 obtain⟨uC,he3⟩:=GX hop3;have hcs3:cs3=uC.vs.toArray:=by rw[<- he3]
 clear hA0 hval0;have hcall:Calls Tryz.prog 3 #[.agg cs0,.int .i64 n1,.slice a2 l2 c2,.agg cs3] W (nH λ r w'=>r=.bool true/\ax W w' []):=by rw[hcs0,e2,hcs3]; exact EV (td hL) hsG hrO n1 uC
 refine hcall.mono λ e W' ⟨v,he,hv,hc⟩=>?_;subst hv;subst he;have bel:=jS hc;exact⟨_,rfl,_,_,_,[],_,[],hW',trodAll_mk1 (shut_bool Tryz.underlying4 _),(trodAll_cons_mk (Below.trod laidOut (by kernel_rfl) (of_decide_eq_true (by kernel_rfl)) k0 bel lt0) (trodAll_cons_mk (shut_int Tryz.underlying3 w1) (trodAll_cons_mk (Below.trod laidOut (by kernel_rfl) (of_decide_eq_true (by kernel_rfl)) k2 bel lt2) (trodAll_cons_mk (Below.trod laidOut (by kernel_rfl) (of_decide_eq_true (by kernel_rfl)) k3 bel lt3) trodAll_mk0)))),rfl,bel.frame _,λ h=>by cases h⟩
theorem proxyBest_holds0:Rows.ProxyBestSaid :=
 OpenClaim.holds_of_wide 3 Tryz.f3 rfl rfl rfl rfl rfl rfl rfl ⟨rfl,rfl,rfl,rfl,rfl⟩ rfl rfl rfl rfl rfl proxyBest_named Tryz.func3 proxyBest_joined
  (of_decide_eq_true (by kernel_rfl)) (by unfold Func.isWrapper; first|(rw[if_pos (by decide +kernel)]; kernel_rfl)|(rw[if_neg (by decide +kernel)]; exact⟨rfl,rfl⟩))
  (λ os started H enc _=>proxyBest_lifted os started H enc)
theorem proxyBest_holds:Rows.ProxyBestCardSaid :=
 Claim7.holds_tied_plain_at .later [] [.data,.data,.data] true (true, "f8f3c2898091aad4b0043d70b4e55fce6bdcc5b6d7893fe70112dfdedc57dd51") false
  proxyBest_holds0 (λ _ h=>by cases h) proxyBest_wf (λ _ h=>by cases h) proxyBest_row_tie rfl ⟨rfl,rfl⟩ proxyBest_mn rfl
  (λ f fn hf hfn=>by
   obtain rfl:f=3:=Option.some.inj ((show Tryz.prog.funcNamed "saleroom/saleroomlaw54.ProxyBest" = some 3 by kernel_rfl).symm.trans hf) |>.symm;obtain rfl:fn=Tryz.f3:=(Option.some.inj (Tryz.func3.symm.trans hfn)).symm;exact⟨JA,λ j t ht=>by
    rw[Tryz.params3] at ht;have hm:t∈[27,3,28,30]:=by simpa using Array.mem_of_getElem? ht
    have hall:([27,3,28,30].all λ u=>!Tryz.prog.wantsStandIn u)=true:=by kernel_rfl
    exact(show Tryz.prog.wantsStandIn t=false by simpa using List.all_eq_true.1 hall t hm)⟩)
  proxyBest_go
#print axioms proxyBest_holds
end Go.Proofs.YtpddenfeaadgpaaGreatDoor

import Derived.Test.YtpddenfeaadgpaaGreatDoorF12
set_option linter.unusedVariables false
set_option maxRecDepth 100000
namespace Go.Proofs.YtpddenfeaadgpaaGreatDoor
open Go Go.Vc Go.ChangeShapes Go.WideShapes Go.ChangeAt Go.RowKit
open Go.ChangeMaps (open_string shut_string)
theorem proxyFree_q1:Rows.proxyFreeRow.wf (OpenSpec.ofChange Rows.proxyFreeSpec)=true:=by kernel_rfl
theorem proxyFree_q4:Tryz.f6.params.all (Tryz.prog.readableRec ·)=true:=by kernel_rfl
theorem proxyFree_q5:namedTie Tryz.prog Rows.proxyFreeRow.named Rows.proxyFreeSpec.vars=true:=by kernel_rfl
theorem proxyFree_q6:(Rows.proxyFreeRow.stops==[])=true:=by kernel_rfl
theorem proxyFree_q8:(Rows.proxyFreeRow.knobs==[])=true:=by kernel_rfl
theorem proxyFree_q10:(Rows.proxyFreeRow.inPlace==Tryz.prog.inPlace 6)=true:=by kernel_rfl
theorem proxyFree_q11:(Rows.proxyFreeRow.unfollowed==Tryz.prog.unfollowed 6)=true:=by kernel_rfl
theorem proxyFree_q12:(Rows.proxyFreeRow.recurses==Tryz.prog.recurses 6)=true:=by kernel_rfl
theorem proxyFree_q13:(Rows.proxyFreeRow.named==Tryz.prog.varsNamed 6)=true:=by kernel_rfl
theorem proxyFree_q14:(Rows.proxyFreeRow.maps==(Tryz.f6.params.toList++Rows.proxyFreeSpec.plain.varTypes Tryz.prog).any (Tryz.prog.mapsRec ·))=true:=by kernel_rfl
theorem proxyFree_q15:(Rows.proxyFreeRow.ifaces==(Tryz.f6.params.toList++Rows.proxyFreeSpec.plain.varTypes Tryz.prog).any (Tryz.prog.ifacesRec ·))=true:=by kernel_rfl
theorem proxyFree_q16:(Rows.proxyFreeRow.mapsOut==Tryz.prog.mapsAmong Tryz.f6.resultTypes.toList)=true:=by kernel_rfl
theorem proxyFree_q17:(Rows.proxyFreeRow.loops==(Tryz.f6.params.toList++Rows.proxyFreeSpec.plain.varTypes Tryz.prog).any (Tryz.prog.loopsFrom ·))=true:=by kernel_rfl
theorem proxyFree_q18:(Rows.proxyFreeRow.wideKeys==(Tryz.f6.params.toList++Rows.proxyFreeSpec.plain.varTypes Tryz.prog++Tryz.f6.resultTypes.toList).any (Tryz.prog.wideKeysFrom ·))=true:=by kernel_rfl
theorem proxyFree_q19:Rows.proxyFreeSpec.vars.all (Tryz.prog.varReadable ·)=true:=by kernel_rfl
theorem proxyFree_q20:Tryz.f6.resultTypes.all (λ t=>Tryz.prog.readableRec t&&decide (t<Tryz.prog.types.size))=true:=by kernel_rfl
theorem proxyFree_q21:(Rows.proxyFreeRow.ifacesOut==Tryz.f6.resultTypes.toList.any (Tryz.prog.ifacesRec ·))=true:=by kernel_rfl
theorem proxyFree_q22:(Rows.proxyFreeRow.loopsOut==Tryz.f6.resultTypes.toList.any (Tryz.prog.loopsFrom ·))=true:=by kernel_rfl
theorem proxyFree_q23:(Rows.proxyFreeRow.plainKeys==Tryz.prog.plainKeys)=true:=by kernel_rfl
theorem proxyFree_q24:Rows.proxyFreeRow.shortTexts.isNone=true:=by kernel_rfl
theorem proxyFree_q27:(Rows.proxyFreeRow.lifted==Tryz.prog.liftsFinal)=true:=by kernel_rfl
theorem proxyFree_q28:(Tryz.prog.make==some Rows.proxyFreeRow.make)=true:=by kernel_rfl
theorem proxyFree_q29:(Rows.proxyFreeRow.kinds==(if Rows.proxyFreeRow.domain.isEmpty then [] else Tryz.f6.params.toList.map λ t=>match Tryz.prog.underlying t with|some (.int k)=>some k|_=>none))=true:=by kernel_rfl
theorem proxyFree_q30:(Rows.proxyFreeRow.pinned==Rows.proxyFreeRow.pinnedBy)=true:=by kernel_rfl
theorem proxyFree_q31:(Rows.proxyFreeRow.veiled==(Tryz.f6.params.toList++Rows.proxyFreeSpec.plain.varTypes Tryz.prog++Tryz.f6.resultTypes.toList).any (Tryz.prog.veiledRec ·))=true:=by kernel_rfl
theorem proxyFree_q32:Rows.proxyFreeRow.veiledFits Tryz.prog Tryz.f6.params.toList (Tryz.f6.params.toList++Rows.proxyFreeSpec.plain.varTypes Tryz.prog++Tryz.f6.resultTypes.toList)=true:=by kernel_rfl
set_option maxRecDepth 100000 in
theorem proxyFree_joined:joinedFacts Tryz.prog 6 Tryz.f6 Rows.proxyFreeSpec Rows.proxyFreeRow=true:=by
 unfold joinedFacts;simp only[Bool.and_eq_true];exact⟨⟨⟨⟨⟨⟨⟨⟨⟨⟨⟨⟨⟨⟨⟨⟨⟨⟨⟨⟨⟨⟨⟨⟨⟨⟨⟨⟨⟨⟨⟨proxyFree_q1,laidOut⟩,Jx⟩,proxyFree_q4⟩,proxyFree_q5⟩,proxyFree_q6⟩,Jy⟩,proxyFree_q8⟩,Jz⟩,proxyFree_q10⟩,proxyFree_q11⟩,proxyFree_q12⟩,proxyFree_q13⟩,proxyFree_q14⟩,proxyFree_q15⟩,proxyFree_q16⟩,proxyFree_q17⟩,proxyFree_q18⟩,proxyFree_q19⟩,proxyFree_q20⟩,proxyFree_q21⟩,proxyFree_q22⟩,proxyFree_q23⟩,proxyFree_q24⟩,ER⟩,ES⟩,proxyFree_q27⟩,proxyFree_q28⟩,proxyFree_q29⟩,proxyFree_q30⟩,proxyFree_q31⟩,proxyFree_q32⟩
theorem proxyFree_wf:Rows.proxyFreeRow.wfByText (OpenSpec.ofChange Rows.proxyFreeSpec)=true:=by kernel_rfl
theorem proxyFree_mn:Tryz.pinned.checked.prog.mainIs=some (true,("f8f3c2898091aad4b0043d70b4e55fce6bdcc5b6d7893fe70112dfdedc57dd51" : String).toList):=by kernel_rfl
theorem proxyFree_go:false=Rows.proxyFreeRow.goesBy Tryz.pinned.checked.prog:=by kernel_rfl
theorem proxyFree_named:Tryz.prog.funcNamed Rows.proxyFreeRow.func=some 6:=by kernel_rfl
set_option maxRecDepth 100000 in
theorem proxyFree_lifted(os:Os)(started:os.Started)(H:Type)(enc:TypeId×Value->H) :
  ReturnsInHanded {} Tryz.checked os 6 .any (λ w args=>(Rows.proxyFreeSpec.pre enc Tryz.prog Tryz.f6 [] false w args/\laidMetH Tryz.prog Rows.proxyFreeRow.laid w)/\sizedMet enc Tryz.prog Tryz.f6 (OpenSpec.ofChange Rows.proxyFreeSpec) false w args) (Rows.proxyFreeSpec.post enc Tryz.prog Tryz.f6 false true false false):=by
 refine returnsInHanded_of_change_and (C:=Tryz.checked) (X:=λ w _=>laidMetH Tryz.prog Rows.proxyFreeRow.laid w) (λ _ _ _ hh h=>h.of_heap hh) own started (by kernel_rfl) Tryz.func6 (ChangeSpec.witness_shaped (enc:=enc) (C:=Tryz.checked) (os:=os) (X:=λ w _=>laidMetH Tryz.prog Rows.proxyFreeRow.laid w) false (cV os) #[.agg #[.slice none 0 0,.slice none 0 0,.slice none 0 0,.slice none 0 0],.agg #[.int .i64 0,.int .i64 0,.int .i64 0,.int .i64 0],.slice none 0 0] 8 (dR os)
   (World.shaped_of_ZipB (by kernel_rfl) (by kernel_rfl)) (by kernel_rfl) (by kernel_rfl) (by kernel_rfl) (dx os _)) ?_
 intro W base args ds gs before hval0 hW _ hwt hL _;have hval:∀ (j:Nat) t v,Tryz.f6.params[j]?=some t->args[j]?=some v->Value.okWide Tryz.prog W .any base t v:=hval0;have hW':=hW;obtain⟨p,q,hA0,hV,rfl,hfz,hnd⟩:=hW;have hA:DataW.TrodAll enc Tryz.prog W 0 (λ _=>true) true Tryz.f6.params.toList args.toList ds p:=hA0;rw[Tryz.params6] at hA hval;obtain⟨v0,vs0,d0,ds0,p0,q0,hargs,rfl,rfl,h0,r0⟩:=trodAll_cons hA;obtain⟨v1,vs1,d1,ds1,p1,q1,rfl,rfl,rfl,h1,r1⟩:=trodAll_cons r0;obtain⟨v2,vs2,d2,ds2,p2,q2,rfl,rfl,rfl,h2,r2⟩:=trodAll_cons r1;obtain⟨rfl,rfl,rfl⟩:=trodAll_nil r2;obtain rfl:args = #[v0,v1,v2]:=by cases args; simp_all
 obtain⟨rfl,rfl⟩:=trodVars_none hV;have k0:=h0;have lt0:∀ x∈p0,x.block<W.heap.size:=by obtain⟨m,hm⟩:=k0; exact DataW.trod_lt m _ _ _ hm
 have o0:=hval 0 27 v0 rfl rfl;unfold Value.okWide at o0;simp only[Tryz.underlying27] at o0;obtain⟨cs0,rfl,-,-⟩:=o0;obtain⟨g0,hg0⟩:=h0;have hop0:cY Tryz.prog W 6 27 cs0.toList:=bp 6 hg0 λ y hy=>by
  have h':=List.all_eq_true.1 hwt y (cA (i:=0) (t:=27) (d:=d0) (by rw[Tryz.params6]; rfl) rfl hy);simpa using h'
 obtain⟨sG,he0,hsG⟩:=og hop0;have hcs0:cs0=sG.arr:=Array.ext' he0;have k1:=h1;have lt1:∀ x∈p1,x.block<W.heap.size:=by obtain⟨m,hm⟩:=k1; exact DataW.trod_lt m _ _ _ hm
 have o1:=hval 1 41 v1 rfl rfl;unfold Value.okWide at o1;simp only[Tryz.underlying41] at o1;obtain⟨cs1,rfl,-,-⟩:=o1;obtain⟨g1,hg1⟩:=h1;have hop1:cY Tryz.prog W 6 41 cs1.toList:=bp 6 hg1 λ y hy=>by
  have h':=List.all_eq_true.1 hwt y (cA (i:=1) (t:=41) (d:=d1) (by rw[Tryz.params6]; rfl) rfl hy);simpa using h'
 obtain⟨o,he1⟩:=ru hop1;have hcs1:cs1=o.cells.toArray:=by rw[<- he1]
 have k2:=h2;have lt2:∀ x∈p2,x.block<W.heap.size:=by obtain⟨m,hm⟩:=k2; exact DataW.trod_lt m _ _ _ hm
 obtain⟨a2,l2,c2,rfl⟩:=okWide_slice Tryz.underlying32 (hval 2 32 v2 rfl rfl);obtain⟨g2,hg2⟩:=h2;have hop2:cY Tryz.prog W 6 32 [.slice a2 l2 c2]:=bp 6 hg2 λ y hy=>by
  have h':=List.all_eq_true.1 hwt y (cA (i:=2) (t:=32) (d:=d2) (by rw[Tryz.params6]; rfl) rfl hy);simpa using h'
 obtain⟨aD,cD,lD,he2,hfD,hiD⟩:=oe hop2;have e2:(Value.slice a2 l2 c2)=.slice aD lD.length cD:=List.singleton_inj.1 he2;clear hA0 hval0;have hcall:Calls Tryz.prog 6 #[.agg cs0,.agg cs1,.slice a2 l2 c2] W (nH λ r w'=>r=.bool true/\ax W w' []):=by rw[hcs0,hcs1,e2]; exact EW (td hL) hsG o hfD hiD
 refine hcall.mono λ e W' ⟨v,he,hv,hc⟩=>?_;subst hv;subst he;have bel:=jS hc;exact⟨_,rfl,_,_,_,[],_,[],hW',trodAll_mk1 (shut_bool Tryz.underlying4 _),(trodAll_cons_mk (Below.trod laidOut (by kernel_rfl) (of_decide_eq_true (by kernel_rfl)) k0 bel lt0) (trodAll_cons_mk (Below.trod laidOut (by kernel_rfl) (of_decide_eq_true (by kernel_rfl)) k1 bel lt1) (trodAll_cons_mk (Below.trod laidOut (by kernel_rfl) (of_decide_eq_true (by kernel_rfl)) k2 bel lt2) trodAll_mk0))),rfl,bel.frame _,λ h=>by cases h⟩
theorem proxyFree_holds0:Rows.ProxyFreeSaid :=
 OpenClaim.holds_of_wide 6 Tryz.f6 rfl rfl rfl rfl rfl rfl rfl ⟨rfl,rfl,rfl,rfl,rfl⟩ rfl rfl rfl rfl rfl proxyFree_named Tryz.func6 proxyFree_joined
  (of_decide_eq_true (by kernel_rfl)) (by unfold Func.isWrapper; first|(rw[if_pos (by decide +kernel)]; kernel_rfl)|(rw[if_neg (by decide +kernel)]; exact⟨rfl,rfl⟩))
  (λ os started H enc _=>proxyFree_lifted os started H enc)
theorem proxyFree_holds:Rows.ProxyFreeCardSaid :=
 Claim7.holds_tied_plain_at .later [] [.data,.data,.data] true (true, "f8f3c2898091aad4b0043d70b4e55fce6bdcc5b6d7893fe70112dfdedc57dd51") false
  proxyFree_holds0 (λ _ h=>by cases h) proxyFree_wf (λ _ h=>by cases h) proxyFree_row_tie rfl ⟨rfl,rfl⟩ proxyFree_mn rfl
  (λ f fn hf hfn=>by
   obtain rfl:f=6:=Option.some.inj ((show Tryz.prog.funcNamed "saleroom/saleroomlaw54.ProxyFree" = some 6 by kernel_rfl).symm.trans hf) |>.symm;obtain rfl:fn=Tryz.f6:=(Option.some.inj (Tryz.func6.symm.trans hfn)).symm;exact⟨JA,λ j t ht=>by
    rw[Tryz.params6] at ht;have hm:t∈[27,41,32]:=by simpa using Array.mem_of_getElem? ht
    have hall:([27,41,32].all λ u=>!Tryz.prog.wantsStandIn u)=true:=by kernel_rfl
    exact(show Tryz.prog.wantsStandIn t=false by simpa using List.all_eq_true.1 hall t hm)⟩)
  proxyFree_go
#print axioms proxyFree_holds
end Go.Proofs.YtpddenfeaadgpaaGreatDoor

import Derived.Test.YtbnolaiklhbkkaaGreatDoorG14
set_option linter.unusedVariables false
set_option maxRecDepth 100000
namespace Go.Proofs.YtbnolaiklhbkkaaGreatDoor
open Go Go.Vc Go.ChangeShapes Go.WideShapes Go.ChangeAt Go.RowKit
open Go.ChangeMaps (open_string shut_string)
theorem proxyFollows_q1:Rows.proxyFollowsRow.wf (OpenSpec.ofChange Rows.proxyFollowsSpec)=true:=by kernel_rfl
theorem proxyFollows_q4:Tryz.f3.params.all (Tryz.prog.readableRec ·)=true:=by kernel_rfl
theorem proxyFollows_q5:namedTie Tryz.prog Rows.proxyFollowsRow.named Rows.proxyFollowsSpec.vars=true:=by kernel_rfl
theorem proxyFollows_q6:(Rows.proxyFollowsRow.stops==[])=true:=by kernel_rfl
theorem proxyFollows_q8:(Rows.proxyFollowsRow.knobs==[])=true:=by kernel_rfl
theorem proxyFollows_q10:(Rows.proxyFollowsRow.inPlace==Tryz.prog.inPlace 3)=true:=by kernel_rfl
theorem proxyFollows_q11:(Rows.proxyFollowsRow.unfollowed==Tryz.prog.unfollowed 3)=true:=by kernel_rfl
theorem proxyFollows_q12:(Rows.proxyFollowsRow.recurses==Tryz.prog.recurses 3)=true:=by kernel_rfl
theorem proxyFollows_q13:(Rows.proxyFollowsRow.named==Tryz.prog.varsNamed 3)=true:=by kernel_rfl
theorem proxyFollows_q14:(Rows.proxyFollowsRow.maps==(Tryz.f3.params.toList++Rows.proxyFollowsSpec.plain.varTypes Tryz.prog).any (Tryz.prog.mapsRec ·))=true:=by kernel_rfl
theorem proxyFollows_q15:(Rows.proxyFollowsRow.ifaces==(Tryz.f3.params.toList++Rows.proxyFollowsSpec.plain.varTypes Tryz.prog).any (Tryz.prog.ifacesRec ·))=true:=by kernel_rfl
theorem proxyFollows_q16:(Rows.proxyFollowsRow.mapsOut==Tryz.prog.mapsAmong Tryz.f3.resultTypes.toList)=true:=by kernel_rfl
theorem proxyFollows_q17:(Rows.proxyFollowsRow.loops==(Tryz.f3.params.toList++Rows.proxyFollowsSpec.plain.varTypes Tryz.prog).any (Tryz.prog.loopsFrom ·))=true:=by kernel_rfl
theorem proxyFollows_q18:(Rows.proxyFollowsRow.wideKeys==(Tryz.f3.params.toList++Rows.proxyFollowsSpec.plain.varTypes Tryz.prog++Tryz.f3.resultTypes.toList).any (Tryz.prog.wideKeysFrom ·))=true:=by kernel_rfl
theorem proxyFollows_q19:Rows.proxyFollowsSpec.vars.all (Tryz.prog.varReadable ·)=true:=by kernel_rfl
theorem proxyFollows_q20:Tryz.f3.resultTypes.all (λ t=>Tryz.prog.readableRec t&&decide (t<Tryz.prog.types.size))=true:=by kernel_rfl
theorem proxyFollows_q21:(Rows.proxyFollowsRow.ifacesOut==Tryz.f3.resultTypes.toList.any (Tryz.prog.ifacesRec ·))=true:=by kernel_rfl
theorem proxyFollows_q22:(Rows.proxyFollowsRow.loopsOut==Tryz.f3.resultTypes.toList.any (Tryz.prog.loopsFrom ·))=true:=by kernel_rfl
theorem proxyFollows_q23:(Rows.proxyFollowsRow.plainKeys==Tryz.prog.plainKeys)=true:=by kernel_rfl
theorem proxyFollows_q24:Rows.proxyFollowsRow.shortTexts.isNone=true:=by kernel_rfl
theorem proxyFollows_q27:(Rows.proxyFollowsRow.lifted==Tryz.prog.liftsFinal)=true:=by kernel_rfl
theorem proxyFollows_q28:(Tryz.prog.make==some Rows.proxyFollowsRow.make)=true:=by kernel_rfl
theorem proxyFollows_q29:(Rows.proxyFollowsRow.kinds==(if Rows.proxyFollowsRow.domain.isEmpty then [] else Tryz.f3.params.toList.map λ t=>match Tryz.prog.underlying t with|some (.int k)=>some k|_=>none))=true:=by kernel_rfl
theorem proxyFollows_q30:(Rows.proxyFollowsRow.pinned==Rows.proxyFollowsRow.pinnedBy)=true:=by kernel_rfl
theorem proxyFollows_q31:(Rows.proxyFollowsRow.veiled==(Tryz.f3.params.toList++Rows.proxyFollowsSpec.plain.varTypes Tryz.prog++Tryz.f3.resultTypes.toList).any (Tryz.prog.veiledRec ·))=true:=by kernel_rfl
theorem proxyFollows_q32:Rows.proxyFollowsRow.veiledFits Tryz.prog Tryz.f3.params.toList (Tryz.f3.params.toList++Rows.proxyFollowsSpec.plain.varTypes Tryz.prog++Tryz.f3.resultTypes.toList)=true:=by kernel_rfl
set_option maxRecDepth 100000 in
theorem proxyFollows_joined:joinedFacts Tryz.prog 3 Tryz.f3 Rows.proxyFollowsSpec Rows.proxyFollowsRow=true:=by
 unfold joinedFacts;simp only[Bool.and_eq_true];exact⟨⟨⟨⟨⟨⟨⟨⟨⟨⟨⟨⟨⟨⟨⟨⟨⟨⟨⟨⟨⟨⟨⟨⟨⟨⟨⟨⟨⟨⟨⟨proxyFollows_q1,laidOut⟩,UN⟩,proxyFollows_q4⟩,proxyFollows_q5⟩,proxyFollows_q6⟩,UO⟩,proxyFollows_q8⟩,UP⟩,proxyFollows_q10⟩,proxyFollows_q11⟩,proxyFollows_q12⟩,proxyFollows_q13⟩,proxyFollows_q14⟩,proxyFollows_q15⟩,proxyFollows_q16⟩,proxyFollows_q17⟩,proxyFollows_q18⟩,proxyFollows_q19⟩,proxyFollows_q20⟩,proxyFollows_q21⟩,proxyFollows_q22⟩,proxyFollows_q23⟩,proxyFollows_q24⟩,Un⟩,Uo⟩,proxyFollows_q27⟩,proxyFollows_q28⟩,proxyFollows_q29⟩,proxyFollows_q30⟩,proxyFollows_q31⟩,proxyFollows_q32⟩
theorem proxyFollows_wf:Rows.proxyFollowsRow.wfByText (OpenSpec.ofChange Rows.proxyFollowsSpec)=true:=by kernel_rfl
theorem proxyFollows_mn:Tryz.pinned.checked.prog.mainIs=some (true,("dd0bb8965f7af718511c058d27370f73e05cfe9960a1c85e244956a6e3322ddc" : String).toList):=by kernel_rfl
theorem proxyFollows_go:false=Rows.proxyFollowsRow.goesBy Tryz.pinned.checked.prog:=by kernel_rfl
theorem proxyFollows_named:Tryz.prog.funcNamed Rows.proxyFollowsRow.func=some 3:=by kernel_rfl
set_option maxRecDepth 100000 in
theorem proxyFollows_lifted(os:Os)(started:os.Started)(H:Type)(enc:TypeId×Value->H) :
  ReturnsInHanded {} Tryz.checked os 3 .any (λ w args=>(Rows.proxyFollowsSpec.pre enc Tryz.prog Tryz.f3 [] false w args/\laidMetH Tryz.prog Rows.proxyFollowsRow.laid w)/\sizedMet enc Tryz.prog Tryz.f3 (OpenSpec.ofChange Rows.proxyFollowsSpec) false w args) (Rows.proxyFollowsSpec.post enc Tryz.prog Tryz.f3 false true false false):=by
 refine returnsInHanded_of_change_and (C:=Tryz.checked) (X:=λ w _=>laidMetH Tryz.prog Rows.proxyFollowsRow.laid w) (λ _ _ _ hh h=>h.of_heap hh) own started (by kernel_rfl) Tryz.func3 (ChangeSpec.witness_shaped (enc:=enc) (C:=Tryz.checked) (os:=os) (X:=λ w _=>laidMetH Tryz.prog Rows.proxyFollowsRow.laid w) false (kT os) #[.agg #[.slice none 0 0,.slice none 0 0,.slice none 0 0,.slice none 0 0],.agg #[.int .i64 0,.int .i64 0,.int .i64 0,.int .i64 0],.slice none 0 0] 8 (Co os)
   (World.shaped_of_ZipB (by kernel_rfl) (by kernel_rfl)) (by kernel_rfl) (by kernel_rfl) (by kernel_rfl) (Au os _)) ?_
 intro W base args ds gs before hval0 hW _ hwt hL _;have hval:∀ (j:Nat) t v,Tryz.f3.params[j]?=some t->args[j]?=some v->Value.okWide Tryz.prog W .any base t v:=hval0;have hW':=hW;obtain⟨p,q,hA0,hV,rfl,hfz,hnd⟩:=hW;have hA:DataW.TrodAll enc Tryz.prog W 0 (λ _=>true) true Tryz.f3.params.toList args.toList ds p:=hA0;rw[Tryz.params3] at hA hval;obtain⟨v0,vs0,d0,ds0,p0,q0,hargs,rfl,rfl,h0,r0⟩:=trodAll_cons hA;obtain⟨v1,vs1,d1,ds1,p1,q1,rfl,rfl,rfl,h1,r1⟩:=trodAll_cons r0;obtain⟨v2,vs2,d2,ds2,p2,q2,rfl,rfl,rfl,h2,r2⟩:=trodAll_cons r1;obtain⟨rfl,rfl,rfl⟩:=trodAll_nil r2;obtain rfl:args = #[v0,v1,v2]:=by cases args; simp_all
 obtain⟨rfl,rfl⟩:=trodVars_none hV;have k0:=h0;have lt0:∀ x∈p0,x.block<W.heap.size:=by obtain⟨m,hm⟩:=k0; exact DataW.trod_lt m _ _ _ hm
 have o0:=hval 0 27 v0 rfl rfl;unfold Value.okWide at o0;simp only[Tryz.underlying27] at o0;obtain⟨cs0,rfl,-,-⟩:=o0;obtain⟨g0,hg0⟩:=h0;have hop0:fO Tryz.prog W 6 27 cs0.toList:=kZ 6 hg0 λ y hy=>by
  have h':=List.all_eq_true.1 hwt y (zZ (i:=0) (t:=27) (d:=d0) (by rw[Tryz.params3]; rfl) rfl hy);simpa using h'
 obtain⟨sG,he0,hsG⟩:=OM hop0;have hcs0:cs0=sG.arr:=Array.ext' he0;have k1:=h1;have lt1:∀ x∈p1,x.block<W.heap.size:=by obtain⟨m,hm⟩:=k1; exact DataW.trod_lt m _ _ _ hm
 have o1:=hval 1 29 v1 rfl rfl;unfold Value.okWide at o1;simp only[Tryz.underlying29] at o1;obtain⟨cs1,rfl,-,-⟩:=o1;obtain⟨g1,hg1⟩:=h1;have hop1:fO Tryz.prog W 6 29 cs1.toList:=kZ 6 hg1 λ y hy=>by
  have h':=List.all_eq_true.1 hwt y (zZ (i:=1) (t:=29) (d:=d1) (by rw[Tryz.params3]; rfl) rfl hy);simpa using h'
 obtain⟨o,he1⟩:=OL hop1;have hcs1:cs1=o.cells.toArray:=by rw[<- he1]
 have k2:=h2;have lt2:∀ x∈p2,x.block<W.heap.size:=by obtain⟨m,hm⟩:=k2; exact DataW.trod_lt m _ _ _ hm
 obtain⟨a2,l2,c2,rfl⟩:=okWide_slice Tryz.underlying30 (hval 2 30 v2 rfl rfl);obtain⟨g2,hg2⟩:=h2;have hop2:fO Tryz.prog W 6 30 [.slice a2 l2 c2]:=kZ 6 hg2 λ y hy=>by
  have h':=List.all_eq_true.1 hwt y (zZ (i:=2) (t:=30) (d:=d2) (by rw[Tryz.params3]; rfl) rfl hy);simpa using h'
 obtain⟨aD,cD,lD,he2,hfD,hiD⟩:=LF hop2;have e2:(Value.slice a2 l2 c2)=.slice aD lD.length cD:=List.singleton_inj.1 he2;clear hA0 hval0;have hcall:Calls Tryz.prog 3 #[.agg cs0,.agg cs1,.slice a2 l2 c2] W (xV λ r w'=>r=.bool true/\ay W w' []):=by rw[hcs0,hcs1,e2]; exact EE (Sf hL) hsG o hfD hiD
 refine hcall.mono λ e W' ⟨v,he,hv,hc⟩=>?_;subst hv;subst he;have bel:=Kf hc;exact⟨_,rfl,_,_,_,[],_,[],hW',trodAll_mk1 (shut_bool Tryz.underlying4 _),(trodAll_cons_mk (Below.trod laidOut (by kernel_rfl) (of_decide_eq_true (by kernel_rfl)) k0 bel lt0) (trodAll_cons_mk (Below.trod laidOut (by kernel_rfl) (of_decide_eq_true (by kernel_rfl)) k1 bel lt1) (trodAll_cons_mk (Below.trod laidOut (by kernel_rfl) (of_decide_eq_true (by kernel_rfl)) k2 bel lt2) trodAll_mk0))),rfl,bel.frame _,λ h=>by cases h⟩
theorem proxyFollows_holds0:Rows.ProxyFollowsSaid :=
 OpenClaim.holds_of_wide 3 Tryz.f3 rfl rfl rfl rfl rfl rfl rfl ⟨rfl,rfl,rfl,rfl,rfl⟩ rfl rfl rfl rfl rfl proxyFollows_named Tryz.func3 proxyFollows_joined
  (of_decide_eq_true (by kernel_rfl)) (by unfold Func.isWrapper; first|(rw[if_pos (by decide +kernel)]; kernel_rfl)|(rw[if_neg (by decide +kernel)]; exact⟨rfl,rfl⟩))
  (λ os started H enc _=>proxyFollows_lifted os started H enc)
theorem proxyFollows_holds:Rows.ProxyFollowsCardSaid :=
 Claim7.holds_tied_plain_at .later [] [.data,.data,.data,.data,.sentinel,.sentinel,.pinned] true (true, "dd0bb8965f7af718511c058d27370f73e05cfe9960a1c85e244956a6e3322ddc") true
  proxyFollows_holds0 (λ _ h=>by cases h) proxyFollows_wf (λ _ h=>by cases h) proxyFollows_row_tie rfl ⟨rfl,rfl⟩ proxyFollows_mn rfl
  (λ f fn hf hfn=>by
   obtain rfl:f=3:=Option.some.inj ((show Tryz.prog.funcNamed "saleroom/saleroomlaw54.ProxyFollows" = some 3 by kernel_rfl).symm.trans hf) |>.symm;obtain rfl:fn=Tryz.f3:=(Option.some.inj (Tryz.func3.symm.trans hfn)).symm;exact⟨UQ,λ j t ht=>by
    rw[Tryz.params3] at ht;have hm:t∈[27,29,30]:=by simpa using Array.mem_of_getElem? ht
    have hall:([27,29,30].all λ u=>!Tryz.prog.wantsStandIn u)=true:=by kernel_rfl
    exact(show Tryz.prog.wantsStandIn t=false by simpa using List.all_eq_true.1 hall t hm)⟩)
  proxyFollows_go
#print axioms proxyFollows_holds
end Go.Proofs.YtbnolaiklhbkkaaGreatDoor

import Derived.Test.YtemiicbbbojdiaaGreatDoorD21
set_option linter.unusedVariables false
set_option maxRecDepth 100000
namespace Go.Proofs.YtemiicbbbojdiaaGreatDoor
open Go Go.Vc Go.ChangeShapes Go.WideShapes Go.ChangeAt Go.RowKit
open Go.ChangeMaps (open_string shut_string)
theorem discloseAuctioneer_q1:Rows.discloseAuctioneerRow.wf (OpenSpec.ofChange Rows.discloseAuctioneerSpec)=true:=by kernel_rfl
theorem discloseAuctioneer_q4:Tryz.f5.params.all (Tryz.prog.readableRec ·)=true:=by kernel_rfl
theorem discloseAuctioneer_q5:namedTie Tryz.prog Rows.discloseAuctioneerRow.named Rows.discloseAuctioneerSpec.vars=true:=by kernel_rfl
theorem discloseAuctioneer_q6:(Rows.discloseAuctioneerRow.stops==[])=true:=by kernel_rfl
theorem discloseAuctioneer_q8:(Rows.discloseAuctioneerRow.knobs==[])=true:=by kernel_rfl
theorem discloseAuctioneer_q10:(Rows.discloseAuctioneerRow.inPlace==Tryz.prog.inPlace 5)=true:=by kernel_rfl
theorem discloseAuctioneer_q11:(Rows.discloseAuctioneerRow.unfollowed==Tryz.prog.unfollowed 5)=true:=by kernel_rfl
theorem discloseAuctioneer_q12:(Rows.discloseAuctioneerRow.recurses==Tryz.prog.recurses 5)=true:=by kernel_rfl
theorem discloseAuctioneer_q13:(Rows.discloseAuctioneerRow.named==Tryz.prog.varsNamed 5)=true:=by kernel_rfl
theorem discloseAuctioneer_q14:(Rows.discloseAuctioneerRow.maps==(Tryz.f5.params.toList++Rows.discloseAuctioneerSpec.plain.varTypes Tryz.prog).any (Tryz.prog.mapsRec ·))=true:=by kernel_rfl
theorem discloseAuctioneer_q15:(Rows.discloseAuctioneerRow.ifaces==(Tryz.f5.params.toList++Rows.discloseAuctioneerSpec.plain.varTypes Tryz.prog).any (Tryz.prog.ifacesRec ·))=true:=by kernel_rfl
theorem discloseAuctioneer_q16:(Rows.discloseAuctioneerRow.mapsOut==Tryz.prog.mapsAmong Tryz.f5.resultTypes.toList)=true:=by kernel_rfl
theorem discloseAuctioneer_q17:(Rows.discloseAuctioneerRow.loops==(Tryz.f5.params.toList++Rows.discloseAuctioneerSpec.plain.varTypes Tryz.prog).any (Tryz.prog.loopsFrom ·))=true:=by kernel_rfl
theorem discloseAuctioneer_q18:(Rows.discloseAuctioneerRow.wideKeys==(Tryz.f5.params.toList++Rows.discloseAuctioneerSpec.plain.varTypes Tryz.prog++Tryz.f5.resultTypes.toList).any (Tryz.prog.wideKeysFrom ·))=true:=by kernel_rfl
theorem discloseAuctioneer_q19:Rows.discloseAuctioneerSpec.vars.all (Tryz.prog.varReadable ·)=true:=by kernel_rfl
theorem discloseAuctioneer_q20:Tryz.f5.resultTypes.all (λ t=>Tryz.prog.readableRec t&&decide (t<Tryz.prog.types.size))=true:=by kernel_rfl
theorem discloseAuctioneer_q21:(Rows.discloseAuctioneerRow.ifacesOut==Tryz.f5.resultTypes.toList.any (Tryz.prog.ifacesRec ·))=true:=by kernel_rfl
theorem discloseAuctioneer_q22:(Rows.discloseAuctioneerRow.loopsOut==Tryz.f5.resultTypes.toList.any (Tryz.prog.loopsFrom ·))=true:=by kernel_rfl
theorem discloseAuctioneer_q23:(Rows.discloseAuctioneerRow.plainKeys==Tryz.prog.plainKeys)=true:=by kernel_rfl
theorem discloseAuctioneer_q24:Rows.discloseAuctioneerRow.shortTexts.isNone=true:=by kernel_rfl
theorem discloseAuctioneer_q27:(Rows.discloseAuctioneerRow.lifted==Tryz.prog.liftsFinal)=true:=by kernel_rfl
theorem discloseAuctioneer_q28:(Tryz.prog.make==some Rows.discloseAuctioneerRow.make)=true:=by kernel_rfl
theorem discloseAuctioneer_q29:(Rows.discloseAuctioneerRow.kinds==(if Rows.discloseAuctioneerRow.domain.isEmpty then [] else Tryz.f5.params.toList.map λ t=>match Tryz.prog.underlying t with|some (.int k)=>some k|_=>none))=true:=by kernel_rfl
theorem discloseAuctioneer_q30:(Rows.discloseAuctioneerRow.pinned==Rows.discloseAuctioneerRow.pinnedBy)=true:=by kernel_rfl
theorem discloseAuctioneer_q31:(Rows.discloseAuctioneerRow.veiled==(Tryz.f5.params.toList++Rows.discloseAuctioneerSpec.plain.varTypes Tryz.prog++Tryz.f5.resultTypes.toList).any (Tryz.prog.veiledRec ·))=true:=by kernel_rfl
theorem discloseAuctioneer_q32:Rows.discloseAuctioneerRow.veiledFits Tryz.prog Tryz.f5.params.toList (Tryz.f5.params.toList++Rows.discloseAuctioneerSpec.plain.varTypes Tryz.prog++Tryz.f5.resultTypes.toList)=true:=by kernel_rfl
theorem discloseAuctioneer_joined:joinedFacts Tryz.prog 5 Tryz.f5 Rows.discloseAuctioneerSpec Rows.discloseAuctioneerRow=true:=by
 unfold joinedFacts;simp only[Bool.and_eq_true];exact⟨⟨⟨⟨⟨⟨⟨⟨⟨⟨⟨⟨⟨⟨⟨⟨⟨⟨⟨⟨⟨⟨⟨⟨⟨⟨⟨⟨⟨⟨⟨discloseAuctioneer_q1,laidOut⟩,W2⟩,discloseAuctioneer_q4⟩,discloseAuctioneer_q5⟩,discloseAuctioneer_q6⟩,W3⟩,discloseAuctioneer_q8⟩,W4⟩,discloseAuctioneer_q10⟩,discloseAuctioneer_q11⟩,discloseAuctioneer_q12⟩,discloseAuctioneer_q13⟩,discloseAuctioneer_q14⟩,discloseAuctioneer_q15⟩,discloseAuctioneer_q16⟩,discloseAuctioneer_q17⟩,discloseAuctioneer_q18⟩,discloseAuctioneer_q19⟩,discloseAuctioneer_q20⟩,discloseAuctioneer_q21⟩,discloseAuctioneer_q22⟩,discloseAuctioneer_q23⟩,discloseAuctioneer_q24⟩,Re⟩,Rf⟩,discloseAuctioneer_q27⟩,discloseAuctioneer_q28⟩,discloseAuctioneer_q29⟩,discloseAuctioneer_q30⟩,discloseAuctioneer_q31⟩,discloseAuctioneer_q32⟩
theorem discloseAuctioneer_wf:Rows.discloseAuctioneerRow.wfByText (OpenSpec.ofChange Rows.discloseAuctioneerSpec)=true:=by kernel_rfl
theorem discloseAuctioneer_mn:Tryz.pinned.checked.prog.mainIs=some (true,("fdcfe39a0245d34095ffdffb770076baf0f152099cb7286e26b812c7ed515f28" : String).toList):=by kernel_rfl
theorem discloseAuctioneer_go:false=Rows.discloseAuctioneerRow.goesBy Tryz.pinned.checked.prog:=by kernel_rfl
theorem discloseAuctioneer_named:Tryz.prog.funcNamed Rows.discloseAuctioneerRow.func=some 5:=by kernel_rfl
set_option maxRecDepth 100000 in
theorem discloseAuctioneer_lifted(os:Os)(started:os.Started)(H:Type)(enc:TypeId×Value->H) :
  ReturnsInHanded {} Tryz.checked os 5 .any (λ w args=>(Rows.discloseAuctioneerSpec.pre enc Tryz.prog Tryz.f5 [] false w args/\laidMetH Tryz.prog Rows.discloseAuctioneerRow.laid w)/\sizedMet enc Tryz.prog Tryz.f5 (OpenSpec.ofChange Rows.discloseAuctioneerSpec) false w args) (Rows.discloseAuctioneerSpec.post enc Tryz.prog Tryz.f5 false true false false):=by
 refine returnsInHanded_of_change_and (C:=Tryz.checked) (X:=λ w _=>laidMetH Tryz.prog Rows.discloseAuctioneerRow.laid w) (λ _ _ _ hh h=>h.of_heap hh) own started (by kernel_rfl) Tryz.func5 (ChangeSpec.witness_shaped (enc:=enc) (C:=Tryz.checked) (os:=os) (X:=λ w _=>laidMetH Tryz.prog Rows.discloseAuctioneerRow.laid w) false (laidWorld os) #[.agg #[.int .i64 0,.int .i64 0,.int .i64 0,.int .i64 0],.slice none 0 0,.int .i64 0,.int .i64 0] 8 (laidWorld_os os)
   (World.shaped_of_ZipB (by kernel_rfl) (by kernel_rfl)) (by kernel_rfl) (by kernel_rfl) (by kernel_rfl) (laidWorld_met os _)) ?_
 intro W base args ds gs before hval0 hW _ hwt _ _;have hval:∀ (j:Nat) t v,Tryz.f5.params[j]?=some t->args[j]?=some v->Value.okWide Tryz.prog W .any base t v:=hval0;have hW':=hW;obtain⟨p,q,hA0,hV,rfl,hfz,hnd⟩:=hW;have hA:DataW.TrodAll enc Tryz.prog W 0 (λ _=>true) true Tryz.f5.params.toList args.toList ds p:=hA0;rw[Tryz.params5] at hA hval;obtain⟨v0,vs0,d0,ds0,p0,q0,hargs,rfl,rfl,h0,r0⟩:=trodAll_cons hA;obtain⟨v1,vs1,d1,ds1,p1,q1,rfl,rfl,rfl,h1,r1⟩:=trodAll_cons r0;obtain⟨v2,vs2,d2,ds2,p2,q2,rfl,rfl,rfl,h2,r2⟩:=trodAll_cons r1;obtain⟨v3,vs3,d3,ds3,p3,q3,rfl,rfl,rfl,h3,r3⟩:=trodAll_cons r2;obtain⟨rfl,rfl,rfl⟩:=trodAll_nil r3;obtain rfl:args = #[v0,v1,v2,v3]:=by cases args; simp_all
 obtain⟨rfl,rfl⟩:=trodVars_none hV;have k0:=h0;have lt0:∀ x∈p0,x.block<W.heap.size:=by obtain⟨m,hm⟩:=k0; exact DataW.trod_lt m _ _ _ hm
 have o0:=hval 0 23 v0 rfl rfl;unfold Value.okWide at o0;simp only[Tryz.underlying23] at o0;obtain⟨cs0,rfl,-,-⟩:=o0;obtain⟨g0,hg0⟩:=h0;have hop0:Opn Tryz.prog W 6 23 cs0.toList:=opn_trod 6 hg0 λ y hy=>by
  have h':=List.all_eq_true.1 hwt y (w_each (i:=0) (t:=23) (d:=d0) (by rw[Tryz.params5]; rfl) rfl hy);simpa using h'
 obtain⟨o,he0⟩:=open_po hop0;have hcs0:cs0=o.cells.toArray:=by rw[<- he0]
 have k1:=h1;have lt1:∀ x∈p1,x.block<W.heap.size:=by obtain⟨m,hm⟩:=k1; exact DataW.trod_lt m _ _ _ hm
 obtain⟨a1,l1,c1,rfl⟩:=okWide_slice Tryz.underlying24 (hval 1 24 v1 rfl rfl);obtain⟨g1,hg1⟩:=h1;have hop1:Opn Tryz.prog W 6 24 [.slice a1 l1 c1]:=opn_trod 6 hg1 λ y hy=>by
  have h':=List.all_eq_true.1 hwt y (w_each (i:=1) (t:=24) (d:=d1) (by rw[Tryz.params5]; rfl) rfl hy);simpa using h'
 obtain⟨a,c,l,he1,hc,hf,hi⟩:=open_evs hop1;have e1:(Value.slice a1 l1 c1)=.slice a l.length c:=List.singleton_inj.1 he1;obtain⟨n2,rfl,rfl,rfl,w2⟩:=open_int Tryz.underlying3 (hval 2 3 v2 rfl rfl) h2;obtain⟨n3,rfl,rfl,rfl,w3⟩:=open_int Tryz.underlying3 (hval 3 3 v3 rfl rfl) h3;clear hA0 hval0;have hcall:Calls Tryz.prog 5 #[.agg cs0,.slice a1 l1 c1,.int .i64 n2,.int .i64 n3] W (RetC λ r w'=>r=.bool true/\Chg W w' []):=by rw[hcs0,e1]; exact Mi W45_c o n2 n3 hf hi
 refine hcall.mono λ e W' ⟨v,he,hv,hc⟩=>?_;subst hv;subst he;have bel:=below_of hc;exact⟨_,rfl,_,_,_,[],_,[],hW',trodAll_mk1 (shut_bool Tryz.underlying4 _),(trodAll_cons_mk (Below.trod laidOut (by kernel_rfl) (of_decide_eq_true (by kernel_rfl)) k0 bel lt0) (trodAll_cons_mk (Below.trod laidOut (by kernel_rfl) (of_decide_eq_true (by kernel_rfl)) k1 bel lt1) (trodAll_cons_mk (shut_int Tryz.underlying3 w2) (trodAll_cons_mk (shut_int Tryz.underlying3 w3) trodAll_mk0)))),rfl,bel.frame _,λ h=>by cases h⟩
theorem discloseAuctioneer_holds0:Rows.DiscloseAuctioneerSaid :=
 OpenClaim.holds_of_wide 5 Tryz.f5 rfl rfl rfl rfl rfl rfl rfl ⟨rfl,rfl,rfl,rfl,rfl⟩ rfl rfl rfl rfl rfl discloseAuctioneer_named Tryz.func5 discloseAuctioneer_joined
  (of_decide_eq_true (by kernel_rfl)) (by unfold Func.isWrapper; first|(rw[if_pos (by decide +kernel)]; kernel_rfl)|(rw[if_neg (by decide +kernel)]; exact⟨rfl,rfl⟩))
  (λ os started H enc _=>discloseAuctioneer_lifted os started H enc)
theorem discloseAuctioneer_holds:Rows.DiscloseAuctioneerCardSaid :=
 Claim7.holds_tied_plain_at .later [] [.data,.data,.data,.data,.sentinel,.sentinel,.pinned] true (true, "fdcfe39a0245d34095ffdffb770076baf0f152099cb7286e26b812c7ed515f28") true
  discloseAuctioneer_holds0 (λ _ h=>by cases h) discloseAuctioneer_wf (λ _ h=>by cases h) discloseAuctioneer_row_tie rfl ⟨rfl,rfl⟩ discloseAuctioneer_mn rfl
  (λ f fn hf hfn=>by
   obtain rfl:f=5:=Option.some.inj ((show Tryz.prog.funcNamed "saleroom/saleroomlaw45.DiscloseAuctioneer" = some 5 by kernel_rfl).symm.trans hf) |>.symm;obtain rfl:fn=Tryz.f5:=(Option.some.inj (Tryz.func5.symm.trans hfn)).symm;exact⟨W5,λ j t ht=>by
    rw[Tryz.params5] at ht;have hm:t∈[23,24,3,3]:=by simpa using Array.mem_of_getElem? ht
    have hall:([23,24,3,3].all λ u=>!Tryz.prog.wantsStandIn u)=true:=by kernel_rfl
    exact(show Tryz.prog.wantsStandIn t=false by simpa using List.all_eq_true.1 hall t hm)⟩)
  discloseAuctioneer_go
#print axioms discloseAuctioneer_holds
end Go.Proofs.YtemiicbbbojdiaaGreatDoor

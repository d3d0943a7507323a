import Derived.Test.YtmffhopdpbikgaaGreatDoorE12
set_option linter.unusedVariables false
set_option maxRecDepth 100000
namespace Go.Proofs.YtmffhopdpbikgaaGreatDoor
open Go Go.Vc Go.ChangeShapes Go.WideShapes Go.ChangeAt Go.RowKit
open Go.ChangeMaps (open_string shut_string)
theorem stateReruns_q1:Rows.stateRerunsRow.wf (OpenSpec.ofChange Rows.stateRerunsSpec)=true:=by kernel_rfl
theorem stateReruns_q4:Tryz.f5.params.all (Tryz.prog.readableRec ·)=true:=by kernel_rfl
theorem stateReruns_q5:namedTie Tryz.prog Rows.stateRerunsRow.named Rows.stateRerunsSpec.vars=true:=by kernel_rfl
theorem stateReruns_q6:(Rows.stateRerunsRow.stops==[])=true:=by kernel_rfl
theorem stateReruns_q8:(Rows.stateRerunsRow.knobs==[])=true:=by kernel_rfl
theorem stateReruns_q10:(Rows.stateRerunsRow.inPlace==Tryz.prog.inPlace 5)=true:=by kernel_rfl
theorem stateReruns_q11:(Rows.stateRerunsRow.unfollowed==Tryz.prog.unfollowed 5)=true:=by kernel_rfl
theorem stateReruns_q12:(Rows.stateRerunsRow.recurses==Tryz.prog.recurses 5)=true:=by kernel_rfl
theorem stateReruns_q13:(Rows.stateRerunsRow.named==Tryz.prog.varsNamed 5)=true:=by kernel_rfl
theorem stateReruns_q14:(Rows.stateRerunsRow.maps==(Tryz.f5.params.toList++Rows.stateRerunsSpec.plain.varTypes Tryz.prog).any (Tryz.prog.mapsRec ·))=true:=by kernel_rfl
theorem stateReruns_q15:(Rows.stateRerunsRow.ifaces==(Tryz.f5.params.toList++Rows.stateRerunsSpec.plain.varTypes Tryz.prog).any (Tryz.prog.ifacesRec ·))=true:=by kernel_rfl
theorem stateReruns_q16:(Rows.stateRerunsRow.mapsOut==Tryz.prog.mapsAmong Tryz.f5.resultTypes.toList)=true:=by kernel_rfl
theorem stateReruns_q17:(Rows.stateRerunsRow.loops==(Tryz.f5.params.toList++Rows.stateRerunsSpec.plain.varTypes Tryz.prog).any (Tryz.prog.loopsFrom ·))=true:=by kernel_rfl
theorem stateReruns_q18:(Rows.stateRerunsRow.wideKeys==(Tryz.f5.params.toList++Rows.stateRerunsSpec.plain.varTypes Tryz.prog++Tryz.f5.resultTypes.toList).any (Tryz.prog.wideKeysFrom ·))=true:=by kernel_rfl
theorem stateReruns_q19:Rows.stateRerunsSpec.vars.all (Tryz.prog.varReadable ·)=true:=by kernel_rfl
theorem stateReruns_q20:Tryz.f5.resultTypes.all (λ t=>Tryz.prog.readableRec t&&decide (t<Tryz.prog.types.size))=true:=by kernel_rfl
theorem stateReruns_q21:(Rows.stateRerunsRow.ifacesOut==Tryz.f5.resultTypes.toList.any (Tryz.prog.ifacesRec ·))=true:=by kernel_rfl
theorem stateReruns_q22:(Rows.stateRerunsRow.loopsOut==Tryz.f5.resultTypes.toList.any (Tryz.prog.loopsFrom ·))=true:=by kernel_rfl
theorem stateReruns_q23:(Rows.stateRerunsRow.plainKeys==Tryz.prog.plainKeys)=true:=by kernel_rfl
theorem stateReruns_q24:Rows.stateRerunsRow.shortTexts.isNone=true:=by kernel_rfl
theorem stateReruns_q27:(Rows.stateRerunsRow.lifted==Tryz.prog.liftsFinal)=true:=by kernel_rfl
theorem stateReruns_q28:(Tryz.prog.make==some Rows.stateRerunsRow.make)=true:=by kernel_rfl
theorem stateReruns_q29:(Rows.stateRerunsRow.kinds==(if Rows.stateRerunsRow.domain.isEmpty then [] else Tryz.f5.params.toList.map λ t=>match Tryz.prog.underlying t with|some (.int k)=>some k|_=>none))=true:=by kernel_rfl
theorem stateReruns_q30:(Rows.stateRerunsRow.pinned==Rows.stateRerunsRow.pinnedBy)=true:=by kernel_rfl
theorem stateReruns_q31:(Rows.stateRerunsRow.veiled==(Tryz.f5.params.toList++Rows.stateRerunsSpec.plain.varTypes Tryz.prog++Tryz.f5.resultTypes.toList).any (Tryz.prog.veiledRec ·))=true:=by kernel_rfl
theorem stateReruns_q32:Rows.stateRerunsRow.veiledFits Tryz.prog Tryz.f5.params.toList (Tryz.f5.params.toList++Rows.stateRerunsSpec.plain.varTypes Tryz.prog++Tryz.f5.resultTypes.toList)=true:=by kernel_rfl
theorem stateReruns_joined:joinedFacts Tryz.prog 5 Tryz.f5 Rows.stateRerunsSpec Rows.stateRerunsRow=true:=by
 unfold joinedFacts;simp only[Bool.and_eq_true];exact⟨⟨⟨⟨⟨⟨⟨⟨⟨⟨⟨⟨⟨⟨⟨⟨⟨⟨⟨⟨⟨⟨⟨⟨⟨⟨⟨⟨⟨⟨⟨stateReruns_q1,laidOut⟩,Sb⟩,stateReruns_q4⟩,stateReruns_q5⟩,stateReruns_q6⟩,Sd⟩,stateReruns_q8⟩,Sf⟩,stateReruns_q10⟩,stateReruns_q11⟩,stateReruns_q12⟩,stateReruns_q13⟩,stateReruns_q14⟩,stateReruns_q15⟩,stateReruns_q16⟩,stateReruns_q17⟩,stateReruns_q18⟩,stateReruns_q19⟩,stateReruns_q20⟩,stateReruns_q21⟩,stateReruns_q22⟩,stateReruns_q23⟩,stateReruns_q24⟩,PZ⟩,P0⟩,stateReruns_q27⟩,stateReruns_q28⟩,stateReruns_q29⟩,stateReruns_q30⟩,stateReruns_q31⟩,stateReruns_q32⟩
theorem stateReruns_wf:Rows.stateRerunsRow.wfByText (OpenSpec.ofChange Rows.stateRerunsSpec)=true:=by kernel_rfl
theorem stateReruns_mn:Tryz.pinned.checked.prog.mainIs=some (true,("ea20c93d59f869202421a2baed335480b583cfdfa3358f62e3739f1b885a44bc" : String).toList):=by kernel_rfl
theorem stateReruns_go:false=Rows.stateRerunsRow.goesBy Tryz.pinned.checked.prog:=by kernel_rfl
theorem stateReruns_named:Tryz.prog.funcNamed Rows.stateRerunsRow.func=some 5:=by kernel_rfl
set_option maxRecDepth 100000 in
theorem stateReruns_lifted(os:Os)(started:os.Started)(H:Type)(enc:TypeId×Value->H) :
  ReturnsInHanded {} Tryz.checked os 5 .any (λ w args=>(Rows.stateRerunsSpec.pre enc Tryz.prog Tryz.f5 [] false w args/\laidMetH Tryz.prog Rows.stateRerunsRow.laid w)/\sizedMet enc Tryz.prog Tryz.f5 (OpenSpec.ofChange Rows.stateRerunsSpec) false w args) (Rows.stateRerunsSpec.post enc Tryz.prog Tryz.f5 false true false false):=by
 refine returnsInHanded_of_change_and (C:=Tryz.checked) (X:=λ w _=>laidMetH Tryz.prog Rows.stateRerunsRow.laid w) (λ _ _ _ hh h=>h.of_heap hh) own started (by kernel_rfl) Tryz.func5 (ChangeSpec.witness_shaped (enc:=enc) (C:=Tryz.checked) (os:=os) (X:=λ w _=>laidMetH Tryz.prog Rows.stateRerunsRow.laid w) false (fu os) #[.agg #[.int .i64 0,.int .i64 0,.int .i64 0,.int .i64 0],.slice none 0 0,.int .u8 0] 8 (mb os)
   (World.shaped_of_ZipB (by kernel_rfl) (by kernel_rfl)) (by kernel_rfl) (by kernel_rfl) (by kernel_rfl) (j4 os _)) ?_
 intro W base args ds gs before hval0 hW _ hwt _ _;have hval:∀ (j:Nat) t v,Tryz.f5.params[j]?=some t->args[j]?=some v->Value.okWide Tryz.prog W .any base t v:=hval0;have hW':=hW;obtain⟨p,q,hA0,hV,rfl,hfz,hnd⟩:=hW;have hA:DataW.TrodAll enc Tryz.prog W 0 (λ _=>true) true Tryz.f5.params.toList args.toList ds p:=hA0;rw[Tryz.params5] at hA hval;obtain⟨v0,vs0,d0,ds0,p0,q0,hargs,rfl,rfl,h0,r0⟩:=trodAll_cons hA;obtain⟨v1,vs1,d1,ds1,p1,q1,rfl,rfl,rfl,h1,r1⟩:=trodAll_cons r0;obtain⟨v2,vs2,d2,ds2,p2,q2,rfl,rfl,rfl,h2,r2⟩:=trodAll_cons r1;obtain⟨rfl,rfl,rfl⟩:=trodAll_nil r2;obtain rfl:args = #[v0,v1,v2]:=by cases args; simp_all
 obtain⟨rfl,rfl⟩:=trodVars_none hV;have k0:=h0;have lt0:∀ x∈p0,x.block<W.heap.size:=by obtain⟨m,hm⟩:=k0; exact DataW.trod_lt m _ _ _ hm
 have o0:=hval 0 23 v0 rfl rfl;unfold Value.okWide at o0;simp only[Tryz.underlying23] at o0;obtain⟨cs0,rfl,-,-⟩:=o0;obtain⟨g0,hg0⟩:=h0;have hop0:nQ Tryz.prog W 6 23 cs0.toList:=eB 6 hg0 λ y hy=>by
  have h':=List.all_eq_true.1 hwt y (pJ (i:=0) (t:=23) (d:=d0) (by rw[Tryz.params5]; rfl) rfl hy);simpa using h'
 obtain⟨o,he0⟩:=Ca hop0;have hcs0:cs0=o.cells.toArray:=by rw[<- he0]
 have k1:=h1;have lt1:∀ x∈p1,x.block<W.heap.size:=by obtain⟨m,hm⟩:=k1; exact DataW.trod_lt m _ _ _ hm
 obtain⟨a1,l1,c1,rfl⟩:=okWide_slice Tryz.underlying24 (hval 1 24 v1 rfl rfl);obtain⟨g1,hg1⟩:=h1;have hop1:nQ Tryz.prog W 6 24 [.slice a1 l1 c1]:=eB 6 hg1 λ y hy=>by
  have h':=List.all_eq_true.1 hwt y (pJ (i:=1) (t:=24) (d:=d1) (by rw[Tryz.params5]; rfl) rfl hy);simpa using h'
 obtain⟨a,c,l,he1,hc,hf,hi⟩:=y5 hop1;have e1:(Value.slice a1 l1 c1)=.slice a l.length c:=List.singleton_inj.1 he1;obtain⟨n2,rfl,rfl,rfl,w2⟩:=open_int Tryz.underlying5 (hval 2 5 v2 rfl rfl) h2;clear hA0 hval0;have hcall:Calls Tryz.prog 5 #[.agg cs0,.slice a1 l1 c1,.int .u8 n2] W (ur λ r w'=>r=.bool true/\aA W w' []):=by rw[hcs0,e1]; exact FF ux o (OE w2).1 hf hi
 refine hcall.mono λ e W' ⟨v,he,hv,hc⟩=>?_;subst hv;subst he;have bel:=xS hc;exact⟨_,rfl,_,_,_,[],_,[],hW',trodAll_mk1 (shut_bool Tryz.underlying4 _),(trodAll_cons_mk (Below.trod laidOut (by kernel_rfl) (of_decide_eq_true (by kernel_rfl)) k0 bel lt0) (trodAll_cons_mk (Below.trod laidOut (by kernel_rfl) (of_decide_eq_true (by kernel_rfl)) k1 bel lt1) (trodAll_cons_mk (shut_int Tryz.underlying5 w2) trodAll_mk0))),rfl,bel.frame _,λ h=>by cases h⟩
theorem stateReruns_holds0:Rows.StateRerunsSaid :=
 OpenClaim.holds_of_wide 5 Tryz.f5 rfl rfl rfl rfl rfl rfl rfl ⟨rfl,rfl,rfl,rfl,rfl⟩ rfl rfl rfl rfl rfl stateReruns_named Tryz.func5 stateReruns_joined
  (of_decide_eq_true (by kernel_rfl)) (by unfold Func.isWrapper; first|(rw[if_pos (by decide +kernel)]; kernel_rfl)|(rw[if_neg (by decide +kernel)]; exact⟨rfl,rfl⟩))
  (λ os started H enc _=>stateReruns_lifted os started H enc)
theorem stateReruns_holds:Rows.StateRerunsCardSaid :=
 Claim7.holds_tied_plain_at .later [] [.data,.data,.data,.data,.sentinel,.sentinel,.pinned] true (true, "ea20c93d59f869202421a2baed335480b583cfdfa3358f62e3739f1b885a44bc") true
  stateReruns_holds0 (λ _ h=>by cases h) stateReruns_wf (λ _ h=>by cases h) stateReruns_row_tie rfl ⟨rfl,rfl⟩ stateReruns_mn rfl
  (λ f fn hf hfn=>by
   obtain rfl:f=5:=Option.some.inj ((show Tryz.prog.funcNamed "saleroom/saleroomlaw44.StateReruns" = some 5 by kernel_rfl).symm.trans hf) |>.symm;obtain rfl:fn=Tryz.f5:=(Option.some.inj (Tryz.func5.symm.trans hfn)).symm;exact⟨Sg,λ j t ht=>by
    rw[Tryz.params5] at ht;have hm:t∈[23,24,5]:=by simpa using Array.mem_of_getElem? ht
    have hall:([23,24,5].all λ u=>!Tryz.prog.wantsStandIn u)=true:=by kernel_rfl
    exact(show Tryz.prog.wantsStandIn t=false by simpa using List.all_eq_true.1 hall t hm)⟩)
  stateReruns_go
#print axioms stateReruns_holds
end Go.Proofs.YtmffhopdpbikgaaGreatDoor

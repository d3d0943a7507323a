import Derived.Test.YtemiicbbbojdiaaGreatDoorD21
set_option linter.unusedVariables false
set_option maxRecDepth 100000
namespace Go.Proofs.YtemiicbbbojdiaaGreatDoor
open Go Go.Vc Go.ChangeShapes Go.WideShapes Go.ChangeAt Go.RowKit
open Go.ChangeMaps (open_string shut_string)
theorem discloseHides_q1:Rows.discloseHidesRow.wf (OpenSpec.ofChange Rows.discloseHidesSpec)=true:=by kernel_rfl
theorem discloseHides_q4:Tryz.f4.params.all (Tryz.prog.readableRec ·)=true:=by kernel_rfl
theorem discloseHides_q5:namedTie Tryz.prog Rows.discloseHidesRow.named Rows.discloseHidesSpec.vars=true:=by kernel_rfl
theorem discloseHides_q6:(Rows.discloseHidesRow.stops==[])=true:=by kernel_rfl
theorem discloseHides_q8:(Rows.discloseHidesRow.knobs==[])=true:=by kernel_rfl
theorem discloseHides_q10:(Rows.discloseHidesRow.inPlace==Tryz.prog.inPlace 4)=true:=by kernel_rfl
theorem discloseHides_q11:(Rows.discloseHidesRow.unfollowed==Tryz.prog.unfollowed 4)=true:=by kernel_rfl
theorem discloseHides_q12:(Rows.discloseHidesRow.recurses==Tryz.prog.recurses 4)=true:=by kernel_rfl
theorem discloseHides_q13:(Rows.discloseHidesRow.named==Tryz.prog.varsNamed 4)=true:=by kernel_rfl
theorem discloseHides_q14:(Rows.discloseHidesRow.maps==(Tryz.f4.params.toList++Rows.discloseHidesSpec.plain.varTypes Tryz.prog).any (Tryz.prog.mapsRec ·))=true:=by kernel_rfl
theorem discloseHides_q15:(Rows.discloseHidesRow.ifaces==(Tryz.f4.params.toList++Rows.discloseHidesSpec.plain.varTypes Tryz.prog).any (Tryz.prog.ifacesRec ·))=true:=by kernel_rfl
theorem discloseHides_q16:(Rows.discloseHidesRow.mapsOut==Tryz.prog.mapsAmong Tryz.f4.resultTypes.toList)=true:=by kernel_rfl
theorem discloseHides_q17:(Rows.discloseHidesRow.loops==(Tryz.f4.params.toList++Rows.discloseHidesSpec.plain.varTypes Tryz.prog).any (Tryz.prog.loopsFrom ·))=true:=by kernel_rfl
theorem discloseHides_q18:(Rows.discloseHidesRow.wideKeys==(Tryz.f4.params.toList++Rows.discloseHidesSpec.plain.varTypes Tryz.prog++Tryz.f4.resultTypes.toList).any (Tryz.prog.wideKeysFrom ·))=true:=by kernel_rfl
theorem discloseHides_q19:Rows.discloseHidesSpec.vars.all (Tryz.prog.varReadable ·)=true:=by kernel_rfl
theorem discloseHides_q20:Tryz.f4.resultTypes.all (λ t=>Tryz.prog.readableRec t&&decide (t<Tryz.prog.types.size))=true:=by kernel_rfl
theorem discloseHides_q21:(Rows.discloseHidesRow.ifacesOut==Tryz.f4.resultTypes.toList.any (Tryz.prog.ifacesRec ·))=true:=by kernel_rfl
theorem discloseHides_q22:(Rows.discloseHidesRow.loopsOut==Tryz.f4.resultTypes.toList.any (Tryz.prog.loopsFrom ·))=true:=by kernel_rfl
theorem discloseHides_q23:(Rows.discloseHidesRow.plainKeys==Tryz.prog.plainKeys)=true:=by kernel_rfl
theorem discloseHides_q24:Rows.discloseHidesRow.shortTexts.isNone=true:=by kernel_rfl
theorem discloseHides_q27:(Rows.discloseHidesRow.lifted==Tryz.prog.liftsFinal)=true:=by kernel_rfl
theorem discloseHides_q28:(Tryz.prog.make==some Rows.discloseHidesRow.make)=true:=by kernel_rfl
theorem discloseHides_q29:(Rows.discloseHidesRow.kinds==(if Rows.discloseHidesRow.domain.isEmpty then [] else Tryz.f4.params.toList.map λ t=>match Tryz.prog.underlying t with|some (.int k)=>some k|_=>none))=true:=by kernel_rfl
theorem discloseHides_q30:(Rows.discloseHidesRow.pinned==Rows.discloseHidesRow.pinnedBy)=true:=by kernel_rfl
theorem discloseHides_q31:(Rows.discloseHidesRow.veiled==(Tryz.f4.params.toList++Rows.discloseHidesSpec.plain.varTypes Tryz.prog++Tryz.f4.resultTypes.toList).any (Tryz.prog.veiledRec ·))=true:=by kernel_rfl
theorem discloseHides_q32:Rows.discloseHidesRow.veiledFits Tryz.prog Tryz.f4.params.toList (Tryz.f4.params.toList++Rows.discloseHidesSpec.plain.varTypes Tryz.prog++Tryz.f4.resultTypes.toList)=true:=by kernel_rfl
theorem discloseHides_joined:joinedFacts Tryz.prog 4 Tryz.f4 Rows.discloseHidesSpec Rows.discloseHidesRow=true:=by
 unfold joinedFacts;simp only[Bool.and_eq_true];exact⟨⟨⟨⟨⟨⟨⟨⟨⟨⟨⟨⟨⟨⟨⟨⟨⟨⟨⟨⟨⟨⟨⟨⟨⟨⟨⟨⟨⟨⟨⟨discloseHides_q1,laidOut⟩,W2⟩,discloseHides_q4⟩,discloseHides_q5⟩,discloseHides_q6⟩,W3⟩,discloseHides_q8⟩,W4⟩,discloseHides_q10⟩,discloseHides_q11⟩,discloseHides_q12⟩,discloseHides_q13⟩,discloseHides_q14⟩,discloseHides_q15⟩,discloseHides_q16⟩,discloseHides_q17⟩,discloseHides_q18⟩,discloseHides_q19⟩,discloseHides_q20⟩,discloseHides_q21⟩,discloseHides_q22⟩,discloseHides_q23⟩,discloseHides_q24⟩,Re⟩,Rf⟩,discloseHides_q27⟩,discloseHides_q28⟩,discloseHides_q29⟩,discloseHides_q30⟩,discloseHides_q31⟩,discloseHides_q32⟩
theorem discloseHides_wf:Rows.discloseHidesRow.wfByText (OpenSpec.ofChange Rows.discloseHidesSpec)=true:=by kernel_rfl
theorem discloseHides_mn:Tryz.pinned.checked.prog.mainIs=some (true,("fdcfe39a0245d34095ffdffb770076baf0f152099cb7286e26b812c7ed515f28" : String).toList):=by kernel_rfl
theorem discloseHides_go:false=Rows.discloseHidesRow.goesBy Tryz.pinned.checked.prog:=by kernel_rfl
theorem discloseHides_named:Tryz.prog.funcNamed Rows.discloseHidesRow.func=some 4:=by kernel_rfl
set_option maxRecDepth 100000 in
set_option maxHeartbeats 2000000 in
theorem discloseHides_lifted(os:Os)(started:os.Started)(H:Type)(enc:TypeId×Value->H) :
  ReturnsInHanded {} Tryz.checked os 4 .any (λ w args=>(Rows.discloseHidesSpec.pre enc Tryz.prog Tryz.f4 [] false w args/\laidMetH Tryz.prog Rows.discloseHidesRow.laid w)/\sizedMet enc Tryz.prog Tryz.f4 (OpenSpec.ofChange Rows.discloseHidesSpec) false w args) (Rows.discloseHidesSpec.post enc Tryz.prog Tryz.f4 false true false false):=by
 refine returnsInHanded_of_change_and (C:=Tryz.checked) (X:=λ w _=>laidMetH Tryz.prog Rows.discloseHidesRow.laid w) (λ _ _ _ hh h=>h.of_heap hh) own started (by kernel_rfl) Tryz.func4 (ChangeSpec.witness_shaped (enc:=enc) (C:=Tryz.checked) (os:=os) (X:=λ w _=>laidMetH Tryz.prog Rows.discloseHidesRow.laid w) false (laidWorld os) #[.agg #[.int .i64 0,.int .i64 0,.int .i64 0,.int .i64 0],.slice none 0 0,.slice none 0 0,.int .i64 0,.int .i64 0] 8 (laidWorld_os os)
   (World.shaped_of_ZipB (by kernel_rfl) (by kernel_rfl)) (by kernel_rfl) (by kernel_rfl) (by kernel_rfl) (laidWorld_met os _)) ?_
 intro W base args ds gs before hval0 hW _ hwt _ _;have hval:∀ (j:Nat) t v,Tryz.f4.params[j]?=some t->args[j]?=some v->Value.okWide Tryz.prog W .any base t v:=hval0;have hW':=hW;obtain⟨p,q,hA0,hV,rfl,hfz,hnd⟩:=hW;have hA:DataW.TrodAll enc Tryz.prog W 0 (λ _=>true) true Tryz.f4.params.toList args.toList ds p:=hA0;rw[Tryz.params4] at hA hval;obtain⟨v0,vs0,d0,ds0,p0,q0,hargs,rfl,rfl,h0,r0⟩:=trodAll_cons hA;obtain⟨v1,vs1,d1,ds1,p1,q1,rfl,rfl,rfl,h1,r1⟩:=trodAll_cons r0;obtain⟨v2,vs2,d2,ds2,p2,q2,rfl,rfl,rfl,h2,r2⟩:=trodAll_cons r1;obtain⟨v3,vs3,d3,ds3,p3,q3,rfl,rfl,rfl,h3,r3⟩:=trodAll_cons r2;obtain⟨v4,vs4,d4,ds4,p4,q4,rfl,rfl,rfl,h4,r4⟩:=trodAll_cons r3;obtain⟨rfl,rfl,rfl⟩:=trodAll_nil r4;obtain rfl:args = #[v0,v1,v2,v3,v4]:=by cases args; simp_all
 obtain⟨rfl,rfl⟩:=trodVars_none hV;have k0:=h0;have lt0:∀ x∈p0,x.block<W.heap.size:=by obtain⟨m,hm⟩:=k0; exact DataW.trod_lt m _ _ _ hm
 have o0:=hval 0 23 v0 rfl rfl;unfold Value.okWide at o0;simp only[Tryz.underlying23] at o0;obtain⟨cs0,rfl,-,-⟩:=o0;obtain⟨g0,hg0⟩:=h0;have hop0:Opn Tryz.prog W 6 23 cs0.toList:=opn_trod 6 hg0 λ y hy=>by
  have h':=List.all_eq_true.1 hwt y (w_each (i:=0) (t:=23) (d:=d0) (by rw[Tryz.params4]; rfl) rfl hy);simpa using h'
 obtain⟨o,he0⟩:=open_po hop0;have hcs0:cs0=o.cells.toArray:=by rw[<- he0]
 have k1:=h1;have lt1:∀ x∈p1,x.block<W.heap.size:=by obtain⟨m,hm⟩:=k1; exact DataW.trod_lt m _ _ _ hm
 obtain⟨a1,l1,c1,rfl⟩:=okWide_slice Tryz.underlying24 (hval 1 24 v1 rfl rfl);obtain⟨g1,hg1⟩:=h1;have hop1:Opn Tryz.prog W 6 24 [.slice a1 l1 c1]:=opn_trod 6 hg1 λ y hy=>by
  have h':=List.all_eq_true.1 hwt y (w_each (i:=1) (t:=24) (d:=d1) (by rw[Tryz.params4]; rfl) rfl hy);simpa using h'
 obtain⟨a,c,l,he1,hc,hf,hi⟩:=open_evs hop1;have e1:(Value.slice a1 l1 c1)=.slice a l.length c:=List.singleton_inj.1 he1;have k2:=h2;have lt2:∀ x∈p2,x.block<W.heap.size:=by obtain⟨m,hm⟩:=k2; exact DataW.trod_lt m _ _ _ hm
 obtain⟨a2,l2,c2,rfl⟩:=okWide_slice Tryz.underlying24 (hval 2 24 v2 rfl rfl);obtain⟨g2,hg2⟩:=h2;have hop2:Opn Tryz.prog W 6 24 [.slice a2 l2 c2]:=opn_trod 6 hg2 λ y hy=>by
  have h':=List.all_eq_true.1 hwt y (w_each (i:=2) (t:=24) (d:=d2) (by rw[Tryz.params4]; rfl) rfl hy);simpa using h'
 obtain⟨ax,cx,lx,he2,hcx,hfx,hix⟩:=open_evs hop2;have e2:(Value.slice a2 l2 c2)=.slice ax lx.length cx:=List.singleton_inj.1 he2;obtain⟨n3,rfl,rfl,rfl,w3⟩:=open_int Tryz.underlying3 (hval 3 3 v3 rfl rfl) h3;obtain⟨n4,rfl,rfl,rfl,w4⟩:=open_int Tryz.underlying3 (hval 4 3 v4 rfl rfl) h4;clear hA0 hval0;have hcall:Calls Tryz.prog 4 #[.agg cs0,.slice a1 l1 c1,.slice a2 l2 c2,.int .i64 n3,.int .i64 n4] W (RetC λ r w'=>r=.bool true/\Chg W w' []):=by rw[hcs0,e1,e2]; exact KQ W45_c o n3 n4 hf hi hfx hix
 refine hcall.mono λ e W' ⟨v,he,hv,hc⟩=>?_;subst hv;subst he;have bel:=below_of hc;exact⟨_,rfl,_,_,_,[],_,[],hW',trodAll_mk1 (shut_bool Tryz.underlying4 _),(trodAll_cons_mk (Below.trod laidOut (by kernel_rfl) (of_decide_eq_true (by kernel_rfl)) k0 bel lt0) (trodAll_cons_mk (Below.trod laidOut (by kernel_rfl) (of_decide_eq_true (by kernel_rfl)) k1 bel lt1) (trodAll_cons_mk (Below.trod laidOut (by kernel_rfl) (of_decide_eq_true (by kernel_rfl)) k2 bel lt2) (trodAll_cons_mk (shut_int Tryz.underlying3 w3) (trodAll_cons_mk (shut_int Tryz.underlying3 w4) trodAll_mk0))))),rfl,bel.frame _,λ h=>by cases h⟩
theorem discloseHides_holds0:Rows.DiscloseHidesSaid :=
 OpenClaim.holds_of_wide 4 Tryz.f4 rfl rfl rfl rfl rfl rfl rfl ⟨rfl,rfl,rfl,rfl,rfl⟩ rfl rfl rfl rfl rfl discloseHides_named Tryz.func4 discloseHides_joined
  (of_decide_eq_true (by kernel_rfl)) (by unfold Func.isWrapper; first|(rw[if_pos (by decide +kernel)]; kernel_rfl)|(rw[if_neg (by decide +kernel)]; exact⟨rfl,rfl⟩))
  (λ os started H enc _=>discloseHides_lifted os started H enc)
theorem discloseHides_holds:Rows.DiscloseHidesCardSaid :=
 Claim7.holds_tied_plain_at .later [] [.data,.data,.data,.data,.sentinel,.sentinel,.pinned] true (true, "fdcfe39a0245d34095ffdffb770076baf0f152099cb7286e26b812c7ed515f28") true
  discloseHides_holds0 (λ _ h=>by cases h) discloseHides_wf (λ _ h=>by cases h) discloseHides_row_tie rfl ⟨rfl,rfl⟩ discloseHides_mn rfl
  (λ f fn hf hfn=>by
   obtain rfl:f=4:=Option.some.inj ((show Tryz.prog.funcNamed "saleroom/saleroomlaw45.DiscloseHides" = some 4 by kernel_rfl).symm.trans hf) |>.symm;obtain rfl:fn=Tryz.f4:=(Option.some.inj (Tryz.func4.symm.trans hfn)).symm;exact⟨W5,λ j t ht=>by
    rw[Tryz.params4] at ht;have hm:t∈[23,24,24,3,3]:=by simpa using Array.mem_of_getElem? ht
    have hall:([23,24,24,3,3].all λ u=>!Tryz.prog.wantsStandIn u)=true:=by kernel_rfl
    exact(show Tryz.prog.wantsStandIn t=false by simpa using List.all_eq_true.1 hall t hm)⟩)
  discloseHides_go
#print axioms discloseHides_holds
end Go.Proofs.YtemiicbbbojdiaaGreatDoor

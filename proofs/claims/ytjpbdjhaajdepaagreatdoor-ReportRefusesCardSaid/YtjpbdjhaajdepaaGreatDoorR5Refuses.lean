import Derived.Test.YtjpbdjhaajdepaaGreatDoorM40
set_option linter.unusedVariables false
set_option maxRecDepth 100000
namespace Go.Proofs.YtjpbdjhaajdepaaGreatDoor
open Go Go.Vc Go.ChangeShapes Go.WideShapes Go.ChangeAt Go.RowKit
set_option maxRecDepth 100000 in
theorem reportRefuses_lifted(os:Os)(started:os.Started)(H:Type)(enc:TypeId×Value->H) :
    ReturnsInHanded {} Tryz.checked os 4 .any (λ w args=>(Rows.reportRefusesSpec.pre enc Tryz.prog Tryz.f4 [] false w args/\laidMetH Tryz.prog Rows.reportRefusesRow.laid w)/\sizedMet enc Tryz.prog Tryz.f4 (OpenSpec.ofChange Rows.reportRefusesSpec) false w args) (Rows.reportRefusesSpec.post enc Tryz.prog Tryz.f4 false true false false):=by
  refine returnsInHanded_of_change_and (C:=Tryz.checked) (X:=λ w _=>laidMetH Tryz.prog Rows.reportRefusesRow.laid w) (λ _ _ _ hh h=>h.of_heap hh) own started (by kernel_rfl) Tryz.func4 (ChangeSpec.witness_shaped (enc:=enc) (C:=Tryz.checked) (os:=os) (X:=λ w _=>laidMetH Tryz.prog Rows.reportRefusesRow.laid w) false (gx os) #[.slice none 0 0,.agg #[.int .i64 0,.int .i64 0,.int .i64 0,.int .i64 0]] 8 (tn os)
      (World.shaped_of_ZipB (by kernel_rfl) (by kernel_rfl)) (by kernel_rfl) (by kernel_rfl) (by kernel_rfl) (yJ os _)) ?_
  intro W base args ds gs before hval0 hW _ hwt _ _;have hval:∀ (j:Nat) t v,Tryz.f4.params[j]? = some t->args[j]? = some v->Value.okWide Tryz.prog W .any base t v:=hval0;have hW':=hW;obtain⟨p,q,hA0,hV,rfl,hfz,hnd⟩:=hW;have hA:DataW.TrodAll enc Tryz.prog W 0 (λ _=>true) true Tryz.f4.params.toList args.toList ds p:=hA0;rw[Tryz.params4] at hA hval;obtain⟨v0,vs0,d0,ds0,p0,q0,hargs,rfl,rfl,h0,r0⟩:=trodAll_cons hA;obtain⟨v1,vs1,d1,ds1,p1,q1,rfl,rfl,rfl,h1,r1⟩:=trodAll_cons r0;obtain⟨rfl,rfl,rfl⟩:=trodAll_nil r1;obtain rfl:args = #[v0,v1]:=by cases args; simp_all
  obtain⟨rfl,rfl⟩:=trodVars_none hV;have k0:=h0;have lt0:∀ x∈p0,x.block<W.heap.size:=by obtain⟨m,hm⟩:=k0; exact DataW.trod_lt m _ _ _ hm
  have k1:=h1;have lt1:∀ x∈p1,x.block<W.heap.size:=by obtain⟨m,hm⟩:=k1; exact DataW.trod_lt m _ _ _ hm
  obtain⟨a0,l0,c0,rfl⟩:=okWide_slice Tryz.underlying22 (hval 0 22 v0 rfl rfl);obtain⟨g0,hg0⟩:=h0;have hop0:pQ Tryz.prog W 6 22 [.slice a0 l0 c0]:=jo 6 hg0 λ y hy=>by
    have h':=List.all_eq_true.1 hwt y (vz (i:=0) (t:=22) (d:=d0) (by rw[Tryz.params4]; rfl) rfl hy);simpa using h'
  obtain⟨a,c,l,he0,hc0,hf0,hi0⟩:=D3 hop0;have e0:(Value.slice a0 l0 c0)=.slice a l.length c:=List.singleton_inj.1 he0;have o1:=hval 1 24 v1 rfl rfl;unfold Value.okWide at o1;simp only[Tryz.underlying24] at o1;obtain⟨cs1,rfl,-,-⟩:=o1;obtain⟨g1,hg1⟩:=h1;have hop1:pQ Tryz.prog W 6 24 cs1.toList:=jo 6 hg1 λ y hy=>by
    have h':=List.all_eq_true.1 hwt y (vz (i:=1) (t:=24) (d:=d1) (by rw[Tryz.params4]; rfl) rfl hy);simpa using h'
  obtain⟨o,he1⟩:=G3 hop1;have hcs1:cs1=o.cells.toArray:=by rw[<- he1]
  clear hA0 hval0;have hcall:Calls Tryz.prog 4 #[.slice a0 l0 c0,.agg cs1] W (xC λ r w'=>r=.bool true/\aF W w' []):=by rw[e0,hcs1]; exact IN Gk o hf0 hc0 hi0
  refine hcall.mono λ e W' ⟨v,he,hv,hc⟩=>?_;subst hv;subst he;have bel:=C9 hc;exact⟨_,rfl,_,_,_,[],_,[],hW',trodAll_mk1 (shut_bool Tryz.underlying4 _),(trodAll_cons_mk (Below.trod laidOut (by kernel_rfl) (of_decide_eq_true (by kernel_rfl)) k0 bel lt0) (trodAll_cons_mk (Below.trod laidOut (by kernel_rfl) (of_decide_eq_true (by kernel_rfl)) k1 bel lt1) trodAll_mk0)),rfl,bel.frame _,λ h=>by cases h⟩
theorem reportRefuses_holds0:Rows.ReportRefusesSaid :=
  OpenClaim.holds_of_wide 4 Tryz.f4 rfl rfl rfl rfl rfl rfl rfl ⟨rfl,rfl,rfl,rfl,rfl⟩ rfl rfl rfl rfl rfl (by kernel_rfl) Tryz.func4 (by kernel_rfl)
    (of_decide_eq_true (by kernel_rfl)) (by unfold Func.isWrapper; first | (rw[if_pos (by decide +kernel)]; kernel_rfl) | (rw[if_neg (by decide +kernel)]; exact⟨rfl,rfl⟩))
    (λ os started H enc _=>reportRefuses_lifted os started H enc)
theorem reportRefuses_holds:Rows.ReportRefusesCardSaid :=
  Claim7.holds_tied_plain_at .later [] [.data,.data,.data,.data,.sentinel,.sentinel,.pinned] true (true, "724e7ff7d7ba0d8f980c54baf852e831ce788c03628d0980c13f01a665a8e989") true
    reportRefuses_holds0 (λ _ h=>by cases h) (by kernel_rfl) (λ _ h=>by cases h) reportRefuses_row_tie rfl ⟨rfl,rfl⟩ (by kernel_rfl) rfl
    (λ f fn hf hfn=>by
      obtain rfl:f=4:=Option.some.inj ((show Tryz.prog.funcNamed "saleroom/saleroomlaw55.ReportRefuses" = some 4 by kernel_rfl).symm.trans hf) |>.symm;obtain rfl:fn=Tryz.f4:=(Option.some.inj (Tryz.func4.symm.trans hfn)).symm;exact⟨by kernel_rfl,λ j t ht=>by
        rw[Tryz.params4] at ht;have hm:t∈[22,24]:=by simpa using Array.mem_of_getElem? ht
        have hall:([22,24].all λ u=>!Tryz.prog.wantsStandIn u)=true:=by kernel_rfl
        exact(show Tryz.prog.wantsStandIn t=false by simpa using List.all_eq_true.1 hall t hm)⟩)
    (by kernel_rfl)
#print axioms reportRefuses_holds
end Go.Proofs.YtjpbdjhaajdepaaGreatDoor

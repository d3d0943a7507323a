import Derived.Test.YtpihmghnbplohaaGreatDoorQ18
set_option linter.unusedVariables false
set_option maxRecDepth 100000
namespace Go.Proofs.YtpihmghnbplohaaGreatDoor
set_option linter.ambiguousOpen false
open Rows _root_.Go.Proofs.Tryz Go Go.Vc Go.ChangeShapes Go.WideShapes Go.ChangeAt Go.RowKit
open Go.ChangeMaps (open_string shut_string)
theorem Xq6:(reportReadsRow.inPlace==prog.inPlace 7)=true:=by kernel_rfl
theorem Xq7:(reportReadsRow.unfollowed==prog.unfollowed 7)=true:=by kernel_rfl
theorem Xq2:(reportReadsRow.recurses==prog.recurses 7)=true:=by kernel_rfl
theorem Xq3:(reportReadsRow.named==prog.varsNamed 7)=true:=by kernel_rfl
theorem Xq4:(reportReadsRow.wideKeys==(f7.params.toList++reportReadsSpec.plain.varTypes prog++f7.resultTypes.toList).any (prog.wideKeysFrom ·))=true:=by kernel_rfl
theorem Xq1:(reportReadsRow.plainKeys==prog.plainKeys)=true:=by kernel_rfl
theorem Xq5:(reportReadsRow.lifted==prog.liftsFinal)=true:=by kernel_rfl
theorem Xx1:joinedFacts prog 7 f7 reportReadsSpec reportReadsRow=true:=by
 unfold joinedFacts;simp only[Bool.and_eq_true];exact⟨⟨⟨⟨⟨⟨⟨⟨⟨⟨⟨⟨⟨⟨⟨⟨⟨⟨⟨⟨⟨⟨⟨⟨⟨⟨⟨⟨⟨⟨⟨by kernel_rfl,laidOut⟩,ZQ⟩,by kernel_rfl⟩,by kernel_rfl⟩,by kernel_rfl⟩,ZR⟩,by kernel_rfl⟩,ZS⟩,Xq6⟩,Xq7⟩,Xq2⟩,Xq3⟩,by kernel_rfl⟩,by kernel_rfl⟩,by kernel_rfl⟩,by kernel_rfl⟩,Xq4⟩,by kernel_rfl⟩,by kernel_rfl⟩,by kernel_rfl⟩,by kernel_rfl⟩,Xq1⟩,by kernel_rfl⟩,Zo⟩,Zp⟩,Xq5⟩,by kernel_rfl⟩,by kernel_rfl⟩,by kernel_rfl⟩,by kernel_rfl⟩,by kernel_rfl⟩
theorem Xq0:false=reportReadsRow.goesBy Tryz.pinned.checked.prog:=by kernel_rfl
theorem Xq8:prog.funcNamed reportReadsRow.func=some 7:=by kernel_rfl
theorem Xq9(os:Os)(sd:os.Started)(H:Type)(enc:TypeId×Value->H) :
  ReturnsInHanded {} checked os 7 .any (λ w args=>(reportReadsSpec.pre enc prog f7 [] false w args/\laidMetH prog reportReadsRow.laid w)/\sizedMet enc prog f7 (OpenSpec.ofChange reportReadsSpec) false w args) (reportReadsSpec.post enc prog f7 false true false false):=by
 refine returnsInHanded_of_change_and (C:=checked) (X:=λ w _=>laidMetH prog reportReadsRow.laid w) (λ _ _ _ hh h=>h.of_heap hh) own sd (by kernel_rfl) func7 (ChangeSpec.witness_shaped (enc:=enc) (C:=checked) (os:=os) (X:=λ w _=>laidMetH prog reportReadsRow.laid w) false (lY os) #[.slice none 0 0,.agg #[.int .i64 0,.int .i64 0,.int .i64 0,.int .i64 0],.string ⟨#[]⟩,.bool false] 8 (DW os)
   (World.shaped_of_ZipB (by kernel_rfl) (by kernel_rfl)) (by kernel_rfl) (by kernel_rfl) (by kernel_rfl) (Bv os _)) ?_
 intro W base args ds gs bf hz hW _ hwt _ _;have hval:∀ (j:Nat) t v,f7.params[j]?=some t->args[j]?=some v->Value.okWide prog W .any base t v:=hz;have hW':=hW;obtain⟨p,q,hA0,hV,rfl,hfz,hnd⟩:=hW;have hA:DataW.TrodAll enc prog W 0 (λ _=>true) true f7.params.toList args.toList ds p:=hA0;rw[params7] at hA hval;obtain⟨v0,vs0,d0,ds0,p0,q0,hr,rfl,rfl,h0,r0⟩:=trodAll_cons hA;obtain⟨v1,vs1,d1,ds1,p1,q1,rfl,rfl,rfl,h1,r1⟩:=trodAll_cons r0;obtain⟨v2,vs2,d2,ds2,p2,q2,rfl,rfl,rfl,h2,r2⟩:=trodAll_cons r1;obtain⟨v3,vs3,d3,ds3,p3,q3,rfl,rfl,rfl,h3,r3⟩:=trodAll_cons r2;obtain⟨rfl,rfl,rfl⟩:=trodAll_nil r3;obtain rfl:args = #[v0,v1,v2,v3]:=by cases args; simp_all
 obtain⟨rfl,rfl⟩:=trodVars_none hV;have k0:=h0;have lt0:∀ x∈p0,x.block<W.heap.size:=by obtain⟨m,hm⟩:=k0; exact DataW.trod_lt m _ _ _ hm
 obtain⟨a0,l0,c0,rfl⟩:=okWide_slice underlying24 (hval 0 24 v0 rfl rfl);obtain⟨g0,hg0⟩:=h0;have o09:rQ prog W 6 24 [.slice a0 l0 c0]:=pU 6 hg0 λ y hy=>by
  have h':=List.all_eq_true.1 hwt y (EK (i:=0) (t:=24) (d:=d0) (by rw[params7]; rfl) rfl hy);simpa using h'
 obtain⟨a,c,l,he0,hc,hf,hi⟩:=Ot o09;have e0:(Value.slice a0 l0 c0)=.slice a l.length c:=List.singleton_inj.1 he0;have k1:=h1;have lt1:∀ x∈p1,x.block<W.heap.size:=by obtain⟨m,hm⟩:=k1; exact DataW.trod_lt m _ _ _ hm
 have o1:=hval 1 23 v1 rfl rfl;unfold Value.okWide at o1;simp only[underlying23] at o1;obtain⟨cs1,rfl,-,-⟩:=o1;obtain⟨g1,hg1⟩:=h1;have o19:rQ prog W 6 23 cs1.toList:=pU 6 hg1 λ y hy=>by
  have h':=List.all_eq_true.1 hwt y (EK (i:=1) (t:=23) (d:=d1) (by rw[params7]; rfl) rfl hy);simpa using h'
 obtain⟨o,he1⟩:=R2 o19;have hcs1:cs1=o.cells.toArray:=by rw[<- he1]
 obtain⟨s2,rfl,rfl,rfl,z2⟩:=open_string underlying9 (hval 2 9 v2 rfl rfl) h2;obtain⟨b3,rfl,rfl,rfl⟩:=open_bool underlying4 (hval 3 4 v3 rfl rfl) h3;clear hA0 hz;have hK:Calls prog 7 #[.slice a0 l0 c0,.agg cs1,.string s2,.bool b3] W (xK λ r w'=>r=.bool true/\aD W w' []):=by rw[e0,hcs1]; exact(by rw[Tg s2]; exact Si P6 o _ b3 hf hi)
 refine hK.mono λ e W' ⟨v,he,hv,hc⟩=>?_;subst hv;subst he;have bel:=MC hc;exact⟨_,rfl,_,_,_,[],_,[],hW',trodAll_mk1 (shut_bool underlying4 _),(trodAll_cons_mk (Below.trod laidOut (by kernel_rfl) (of_decide_eq_true (by kernel_rfl)) k0 bel lt0) (trodAll_cons_mk (Below.trod laidOut (by kernel_rfl) (of_decide_eq_true (by kernel_rfl)) k1 bel lt1) (trodAll_cons_mk (shut_string underlying9 z2) (trodAll_cons_mk (shut_bool underlying4 b3) trodAll_mk0)))),rfl,bel.frame _,λ h=>by cases h⟩
theorem Xx0:ReportReadsSaid :=
 OpenClaim.holds_of_wide 7 f7 rfl rfl rfl rfl rfl rfl rfl ⟨rfl,rfl,rfl,rfl,rfl⟩ rfl rfl rfl rfl rfl Xq8 func7 Xx1
  (of_decide_eq_true (by kernel_rfl)) (by unfold Func.isWrapper; first|(rw[if_pos (by decide +kernel)]; kernel_rfl)|(rw[if_neg (by decide +kernel)]; exact⟨rfl,rfl⟩))
  (λ os sd H enc _=>Xq9 os sd H enc)
theorem reportReads_holds:ReportReadsCardSaid :=
 Claim7.holds_tied_plain_at .later [] [.data,.data,.data,.data,.handle,.sentinel,.sentinel,.pinned] true (true, "20699dfec6fc46b8e70919ff8ad9d757c0eee2bdc353ec6b0475fda64e1f6ba7") true
  Xx0 (λ _ h=>by cases h) (by kernel_rfl) (λ _ h=>by cases h) reportReads_row_tie rfl ⟨rfl,rfl⟩ (by kernel_rfl) rfl
  (λ f fn hf hfn=>by
   obtain rfl:f=7:=Option.some.inj ((show prog.funcNamed "saleroom/saleroomlaw55.ReportReads" = some 7 by kernel_rfl).symm.trans hf) |>.symm;obtain rfl:fn=f7:=(Option.some.inj (func7.symm.trans hfn)).symm;exact⟨ZT,λ j t ht=>by
    rw[params7] at ht;have hm:t∈[24,23,9,4]:=by simpa using Array.mem_of_getElem? ht
    have hA:([24,23,9,4].all λ u=>!prog.wantsStandIn u)=true:=by kernel_rfl
    exact(show prog.wantsStandIn t=false by simpa using List.all_eq_true.1 hA t hm)⟩)
  Xq0

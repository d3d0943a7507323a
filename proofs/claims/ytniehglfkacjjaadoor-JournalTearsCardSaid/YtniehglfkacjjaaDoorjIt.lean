import Derived.Test.YtniehglfkacjjaaDoorjPm
import Derived.Test.YtniehglfkacjjaaDoorjShJ
namespace Go.Proofs.YtniehglfkacjjaaDoor
open Go Go.Vc

def encE (e : Ent) : Value := .agg #[.string (bs e.s), .int .u64 (e.head : Int), .int .i64 (e.till : Int)]

theorem parseF_none {k at_ h : Nat} {l : List UInt8} (hr : textR l = none) : parseF k l at_ h = [] := by
  cases k with
  | zero => rfl
  | succ k => unfold parseF; rw [hr]

theorem parseF_bad {k at_ h : Nat} {l s t : List UInt8} (hr : textR l = some (s, t)) (ht : t.take 8 ≠ leB 8 (chainM h s)) : parseF k l at_ h = [] := by
  cases k with
  | zero => rfl
  | succ k => unfold parseF; rw [hr]; dsimp only; rw [if_neg ht]

theorem parseF_good {k at_ h : Nat} {l s t : List UInt8} (hr : textR l = some (s, t)) (ht : t.take 8 = leB 8 (chainM h s)) :
    parseF (k + 1) l at_ h = ⟨s, chainM h s, at_ + (frameM s (chainM h s)).length⟩ :: parseF k (t.drop 8) (at_ + (frameM s (chainM h s)).length) (chainM h s) := by
  conv => lhs; unfold parseF
  rw [hr]; dsimp only; rw [if_pos ht]

theorem wnew_c {w0 w : World} {A : Asn} (h : St w0 w A) (l : List UInt8) : Calls Tryd.prog 54 #[.string (bs l)] w (RetC fun r w' => ∃ x, r = .pointer (some ⟨x, 0, none⟩) ∧ St w0 w' (star (rdA x l 0) A)) :=
  wNew_ok ⟨_, rfl, (h.box _ _).swap⟩

/-- The iterator: each entry of the valid prefix is handed to a round; 'R pre': what the rounds have made of the entries that came; whatever else there is, 'Fr', stays. -/
theorem iter_c {w0 w : World} {b l : Nat} {L : List UInt8} (hL : L.length ≤ 2305843009213693952) {R : List Ent → Asn} {B : Asn}
    (hY : ∀ (pre : List Ent) (e : Ent) (w1 : World) (Fr : Asn), pre ++ [e] <+: parseM L → St w0 w1 (star (R pre) Fr) → YieldC Tryd.prog l #[encE e] w1 fun g w2 => g = true ∧ St w0 w2 (star (R (pre ++ [e])) Fr))
    (h : St w0 w (star (R []) (star (boxA b #[.string (bs L)] 9) B))) :
    Calls Tryd.prog 53 #[.func (.yield l) #[] #[], .pointer (some ⟨b, 0, none⟩)] w (RetC fun r w' => r = .tuple #[] ∧ St w0 w' (star (R (parseM L)) (star (boxA b #[.string (bs L)] 9) B))) := by
  refine jIter_ok ?_
  unfold jIter
  refine ⟨fun n1 n2 w' m => ∃ (pre : List Ent) (k at_ hd : Nat), n1 = (at_ : Int) ∧ n2 = (hd : Int) ∧ at_ ≤ L.length ∧ m = L.length - at_ ∧ m ≤ k ∧ parseM L = pre ++ parseF k (L.drop at_) at_ hd ∧ St w0 w' (star (R pre) (star (boxA b #[.string (bs L)] 9) B)),
    ⟨L.length, [], L.length, 0, 0, rfl, rfl, by omega, by omega, by omega, rfl, h⟩, ?_⟩
  rintro w1 m n1 n2 ⟨pre, k, at_, hd, rfl, rfl, hat, rfl, hk, hp, hst⟩ -
  have hcell : ∀ {w' : World} {A : Asn}, St w0 w' (star A (star (boxA b #[.string (bs L)] 9) B)) → w'.cell? ⟨b, 0, none⟩ = some (.string (bs L)) := fun h => h.rot.boxed 0
  refine ⟨_, hcell hst, by omega, by rw [bs_size]; omega, ?_⟩
  rw [Int.toNat_natCast, bs_from]
  obtain ⟨rest, hrest⟩ : ∃ rest, L.drop at_ = rest := ⟨_, rfl⟩
  have hlen : rest.length = L.length - at_ := by rw [← hrest, List.length_drop]
  rw [hrest] at hp ⊢
  refine useC (wnew_c hst rest) ?_
  rintro _ w2 ⟨x, rfl, h2⟩
  refine ⟨_, rfl, useC (rtext_c h2 (by omega)) ?_⟩
  intro r w3 h3
  cases hr : textR rest with
  | none =>
    rw [hr] at h3
    obtain ⟨s, e, l', rfl, he, h3⟩ := h3
    have hend : parseM L = pre := by rw [hp, parseF_none hr, List.append_nil]
    refine ⟨_, rfl, fun g w' => g = true ∧ w' = w3, ?_, useC (err_c h3) ?_⟩
    · rintro w4 g ⟨rfl, rfl⟩ -
      exact cT rfl ⟨rfl, by rw [hend]; exact h3.second⟩
    · rintro _ w4 ⟨rfl, rfl⟩
      exact ⟨_, rfl, cT (by simpa using he) ⟨rfl, rfl⟩⟩
  | some p =>
    obtain ⟨s, t⟩ := p
    rw [hr] at h3
    obtain ⟨rfl, h3⟩ := h3
    obtain ⟨hcan, hs4⟩ := textR_canon hr
    have htl : rest.length = (textM s).length + t.length := by rw [hcan, List.length_append]
    refine ⟨_, rfl, fun g w' => g = decide (t.length < 8) ∧ w' = w3, ?_, useC (err_c h3) ?_⟩
    rotate_left
    · rintro _ w4 ⟨rfl, rfl⟩
      refine ⟨_, rfl, cF rfl (useC (left_c h3) ?_)⟩
      rintro _ w5 ⟨rfl, rfl⟩
      refine ⟨_, rfl, ?_, rfl⟩
      rw [if_pos rfl]
      exact decide_eq_decide.2 ⟨fun h => by omega, fun h => by omega⟩
    · rintro w4 g ⟨rfl, rfl⟩ -
      by_cases ht8 : t.length < 8
      · have hend : parseM L = pre := by
          rw [hp, parseF_bad hr (fun hh => by have := congrArg List.length hh; rw [leB_length, List.length_take] at this; omega), List.append_nil]
        exact cT (decide_eq_true ht8) ⟨rfl, by rw [hend]; exact h3.second⟩
      · refine cF (decide_eq_false ht8) (usePure (chain_c hd (bs s) (by rw [bs_size]; omega)) fun w5 hc5 => ⟨_, rfl, ?_⟩)
        have h5 := (h3.quiet hc5).quiet (Chg.drew w5 [])
        have e0 : (bs s).data.toList = s := rfl
        rw [e0]
        refine ⟨_, hcell h5.second, useC (left_c h5) ?_⟩
        rintro _ w6 ⟨rfl, rfl⟩
        refine ⟨_, rfl, hcell h5.second, ?_⟩
        rw [if_pos rfl]
        have hE : IntKind.i64.wrap ((IntKind.i64.wrap ((((bs L).size : Nat) : Int) - ((t.length : Nat) : Int))) + (8 : Int)) = ((L.length - t.length + 8 : Nat) : Int) := by
          rw [bs_size, IntWalk.i64_in ((L.length : Int) - (t.length : Int)) (by omega), IntWalk.i64_in _ (by omega)]; omega
        rw [hE]
        have h6 := h5.quiet (Chg.drew w5.drew [])
        refine ⟨fun g w' => (g = false ∧ t.take 8 = leB 8 (chainM hd s) ∧ St w0 w' (star (R (pre ++ [⟨s, chainM hd s, at_ + (frameM s (chainM hd s)).length⟩])) (star (boxA b #[.string (bs L)] 9) B))) ∨
            (g = true ∧ t.take 8 ≠ leB 8 (chainM hd s) ∧ St w0 w' (star (R pre) (star (boxA b #[.string (bs L)] 9) B))), ?_, _, hcell h6.second, by omega, by rw [bs_size]; omega, by omega, by omega, ?_⟩
        · rintro w7 g (⟨rfl, hgood, h7⟩ | ⟨rfl, hbad, h7⟩) -
          · obtain ⟨hfr, _, hfl⟩ := frame_step hr hgood
            obtain ⟨k', rfl⟩ : ∃ k', k = k' + 1 := ⟨k - 1, by omega⟩
            have hat' : at_ + (frameM s (chainM hd s)).length = L.length - t.length + 8 := by omega
            refine cF rfl ⟨L.length - (L.length - t.length + 8), by omega, _, k', L.length - t.length + 8, chainM hd s, rfl, rfl, by omega, rfl, by omega, ?_, h7⟩
            rw [hp, parseF_good hr hgood, ← hat', List.append_assoc]
            congr 2
            rw [hat', show L.drop (L.length - t.length + 8) = t.drop 8 from ?_]
            · rfl
            · have : L.drop (L.length - t.length + 8) = (L.drop at_).drop ((textM s).length + 8) := by rw [List.drop_drop]; congr 1; omega
              rw [this, hrest, hcan, ← List.drop_drop, List.drop_left]
          · have hend : parseM L = pre := by rw [hp, parseF_bad hr hbad, List.append_nil]
            exact cT rfl ⟨rfl, by rw [hend]; exact h7⟩
        · refine usePure (frame_c (bs s) (by rw [bs_size]; omega) (chainM hd s)) fun w8 hc8 => ⟨_, rfl, ?_⟩
          rw [e0]
          have h8 := h6.quiet hc8
          refine ⟨hcell h8.second, ?_⟩
          have hcmp : ((bs L).extract at_ ((L.length - t.length + 8 : Nat) : Int).toNat).data.toList = textM s ++ t.take 8 := by
            rw [Int.toNat_natCast, ByteArray.data_extract, Array.toList_extract, List.extract_eq_drop_take']
            have e1 : (bs L).data.toList = L := rfl
            rw [e1, List.drop_take, hrest, hcan, show L.length - t.length + 8 - at_ = (textM s).length + 8 by omega, List.take_append, List.take_of_length_le (by omega)]
            congr 2
            omega
          by_cases hgood : t.take 8 = leB 8 (chainM hd s)
          · refine cF (bytes_bne _ _ (by rw [hcmp, hgood]; rfl)) ?_
            have hmem : pre ++ [⟨s, chainM hd s, at_ + (frameM s (chainM hd s)).length⟩] <+: parseM L := by
              obtain ⟨k', rfl⟩ : ∃ k', k = k' + 1 := ⟨k - 1, by omega⟩
              rw [hp, parseF_good hr hgood]
              exact ⟨_, by rw [List.append_assoc]; rfl⟩
            obtain ⟨_, _, hfl⟩ := frame_step hr hgood
            have hv : Value.agg #[.string (bs s), .int .u64 ((chainM hd s : Nat) : Int), .int .i64 ((L.length - t.length + 8 : Nat) : Int)] = encE ⟨s, chainM hd s, at_ + (frameM s (chainM hd s)).length⟩ := by
              unfold encE
              rw [show at_ + (frameM s (chainM hd s)).length = L.length - t.length + 8 by omega]
            have := hY pre _ w8 _ hmem h8.second
            rw [← hv] at this
            obtain ⟨fn, tmps, asg, bdy, hrun, hR⟩ := this
            refine ⟨fn, tmps, asg, bdy, hrun, hR.mono fun e w9 ⟨g, he, hg, h9⟩ => ⟨g, he, ?_⟩⟩
            subst hg
            exact .inl ⟨rfl, hgood, h9⟩
          · refine cT ?_ (.inr ⟨rfl, hgood, h8.second⟩)
            have hne : textM s ++ t.take 8 ≠ frameM s (chainM hd s) := fun hh => hgood (List.append_cancel_left hh)
            rw [Go.ByteArray.toList_eq, Go.ByteArray.toList_eq, hcmp]
            simpa using hne

end Go.Proofs.YtniehglfkacjjaaDoor

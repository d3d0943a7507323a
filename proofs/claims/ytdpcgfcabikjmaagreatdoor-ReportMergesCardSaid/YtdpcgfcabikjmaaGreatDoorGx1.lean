import Derived.Test.YtdpcgfcabikjmaaGreatDoorVc5
namespace Go.Gx
open Go Go.Vc

/-! Regions, whatever is known of their operations. -/
def nextG (P : Program) (K : Value → List Deferred → World → Prop) : Next → World → Prop
  | .value v, w => K v [] w
  | .skip, w => K undef [] w
  | .defer d, w => K undef [d] w
  | .enter f args, w => Calls P f args w fun e w' => ∃ v, e = .returned v ∧ K v [] w'
  | .round l f tmps assign body, w => RoundIn Fence.wide 0 P l f tmps assign body w fun e w' => ∃ v, e = .returned v ∧ K v [] w'
  | _, _ => False

def OpK (P : Program) (o : Oper) (t : Tm) (w : World) (K : Value → List Deferred → World → Prop) : Prop := ∃ n w', (execOp (ev t) o).run P w = .ok n w' ∧ nextG P K n w'
def RdK (P : Program) (o : Oper) (t : Tm) (w : World) (K : Value → List (World → Prop) → Prop) : Prop := ∃ v T, K v T ∧ holds T w ∧ ∀ w', holds T w' → (execOp (ev t) o).run P w' = .ok (.value v) w'

theorem semAt_fit {ro : Option Nat} {o : Oper} (hd : ro = none ∨ noDefer o.op = true) (r : Operand → Value) : o.semAt (FW ro).round r = execOp r o := by
  rcases hd with rfl | hd
  · rfl
  · exact Oper.semAt_eq _ _ _ (noDefer_ne hd)

theorem opK_wp {P : Program} {ro : Option Nat} {o : Oper} {t : Tm} {d : List Deferred} {w : World} {K : Value → List Deferred → World → Prop} {N : Act → World → Prop} {Q : Exit → Act → World → Prop}
    (hd : ro = none ∨ noDefer o.op = true) (hN : ∀ v nd w', K v nd w' → N (mkD (pt t o.dst v) (nd ++ d)) w') (h : OpK P o t w K) : o.wpIn (FW ro) 0 P (mkD t d) w N Q := by
  obtain ⟨n, w', hr, hk⟩ := h
  refine ⟨fun _ _ => trivial, ?_⟩
  rw [semAt_fit hd, mkD_eval, hr]
  cases n <;> simp only [nextG] at hk <;> simp only [Oper.uponIn]
  · rw [mkD_put]; exact hN _ _ _ hk
  · rw [mkD_put]; exact hN _ _ _ hk
  · rename_i f args
    refine ⟨fun h => (by cases h), ?_⟩
    have h1 : CallsIn Fence.wide 0 P _ _ w' _ := callsIn_wide.2 hk
    refine CallsIn.mono (show CallsIn (FW ro) 0 P _ _ w' _ from h1) fun e w'' he => ?_
    obtain ⟨v, rfl, hv⟩ := he
    show N ((mkD t d).put o.dst v) w''
    rw [mkD_put]
    exact hN _ _ _ hv
  · refine ⟨fun h => (by cases h), RoundIn.mono (show RoundIn (FW ro) 0 P _ _ _ _ _ w' _ from hk) fun e w'' he => ?_⟩
    obtain ⟨v, rfl, hv⟩ := he
    show N ((mkD t d).put o.dst v) w''
    rw [mkD_put]
    exact hN _ _ _ hv
  · rename_i dd
    have : ({ (mkD t d) with defers := dd :: (mkD t d).defers } : Act) = mkD t (dd :: d) := rfl
    rw [this, mkD_put]
    exact hN _ _ _ hk

def opsK (P : Program) (ops : Array Oper) : List Oper → Tm → List Deferred → World → (Tm → List Deferred → World → Prop) → Prop
  | [], t, d, w, K => K t d w
  | o :: rest, t, d, w, K => gd ops t o (fun t => OpK P o t w fun v nd w' => opsK P ops rest (pt t o.dst v) (nd ++ d) w' K) (fun t => opsK P ops rest (pt t o.dst undef) d w K)

theorem opsK_wp {P : Program} {ro : Option Nat} {ops : Array Oper} {Q : Exit → Act → World → Prop} : ∀ (l : List Oper) (t : Tm) (d : List Deferred) (w : World) (K : Tm → List Deferred → World → Prop),
    (ro = none ∨ noDefers l = true) → (∀ t d w, K t d w → Q .normal (mkD t d) w) → opsK P ops l t d w K → wpListIn (FW ro) 0 P ops Q l (mkD t d) w
  | [], t, d, w, K, _, hK, h => hK _ _ _ h
  | o :: rest, t, d, w, K, hn, hK, h => by
    have hn1 : ro = none ∨ noDefer o.op = true := hn.imp id fun h => by simp only [noDefers, List.all_cons, Bool.and_eq_true] at h; exact h.1
    have hn2 : ro = none ∨ noDefers rest = true := hn.imp id fun h => by simp only [noDefers, List.all_cons, Bool.and_eq_true] at h; exact h.2
    unfold wpListIn
    rcases gd_spec (dd := d) h with ⟨hw, h⟩ | ⟨hw, h⟩
    · rw [if_pos hw]
      exact opK_wp hn1 (fun v nd w' h' => opsK_wp rest _ _ _ K hn2 hK h') h
    · rw [if_neg (by simpa using hw), mkD_put]
      exact ⟨fun _ _ => trivial, opsK_wp rest _ _ _ K hn2 hK h⟩

/-- A region that draws its order: what only reads is taken as soon as it may come up; of the others whichever may come up. -/
def drawK (P : Program) (ops : Array Oper) : Nat → Array Bool → Pend → Tm → World → (Tm → World → Prop) → Prop
  | 0, listed, _, t, w, K => cond (Region.ready .any ops listed).isEmpty (K t w) False
  | n + 1, listed, pend, t, w, K =>
    match pick ops (Region.ready .any ops listed) with
    | some i => match ops[i]? with
      | none => False
      | some o => cond (Region.free .any ops listed i)
        (gd ops t o (fun t => RdK P o t w fun v T => drawK P ops n (listed.setIfInBounds i true) ((i, T) :: pend) (pt t o.dst v) w K)
          (fun t => drawK P ops n (listed.setIfInBounds i true) pend (pt t o.dst undef) w K)) False
    | none => match Region.ready .any ops listed with
      | [] => K t w
      | i :: is => andL ((i :: is).map fun i => match ops[i]? with
        | none => False
        | some o => gd ops t o
          (fun t => OpK P o t w fun v nd w' => nd = [] ∧ andP (drop ops i pend) w' (drawK P ops n (listed.setIfInBounds i true) (drop ops i pend) (pt t o.dst v) w' K))
          (fun t => drawK P ops n (listed.setIfInBounds i true) (drop ops i pend) (pt t o.dst undef) w K))

theorem drawK_T {ro : Option Nat} {P : Program} {ops : Array Oper} {dd : List Deferred} {Q : Exit → Act → World → Prop} (hnd : ∀ (j : Nat) (o : Oper), ops[j]? = some o → noDefer o.op = true) (hs : Region.noSelect ops = true) (hQ : ∀ c a w, ¬ Q (.panic c) a w) {K : Tm → World → Prop}
    (hK : ∀ t w, K t w → Q .normal (mkD t dd) w) :
    ∀ (n : Nat) (listed : Array Bool) (pend : Pend) (t : Tm) (w : World), closed ops listed → (∀ p ∈ pend, holds p.2 w) →
    drawK P ops n listed pend t w K → wpAnyT ro P ops Q n listed pend (mkD t dd) w
  | 0, listed, pend, t, w, _, _, h => by
    obtain ⟨h1, h2⟩ := condF h
    exact ⟨List.isEmpty_iff.1 h1, hK _ _ h2⟩
  | n + 1, listed, pend, t, w, hc, hp, h => by
    unfold drawK at h
    split at h
    · rename_i i hi
      have hir := pick_mem hi
      split at h
      · exact h.elim
      · rename_i o ho
        obtain ⟨hf, h⟩ := condF h
        rcases gd_spec h with ⟨hw, h⟩ | ⟨hw, h⟩
        · obtain ⟨v, T, hk, hT, hr⟩ := h
          refine wpAnyT_first hnd ho (Region.noSelect_spec hs) hQ n listed pend (mkD t dd) w hc (Region.free_spec ho hf) hir (.inl ⟨hw, fun w' hw' => by rw [mkD_eval]; exact hr w' hw'⟩) hT hp ?_
          rw [mkD_put]
          refine drawK_T hnd hs hQ hK n _ _ _ _ (closed_set hc hir) ?_ hk
          intro p hp'
          rcases List.mem_cons.1 hp' with rfl | hp'
          · exact hT
          · exact hp p hp'
        · refine wpAnyT_first (T := []) hnd ho (Region.noSelect_spec hs) hQ n listed pend (mkD t dd) w hc (Region.free_spec ho hf) hir (.inr ⟨hw, rfl⟩) (fun f hf => by cases hf) hp ?_
          rw [mkD_put]
          refine wpAnyT_ext n _ pend _ _ _ (fun p hp' => ?_) (drawK_T hnd hs hQ hK n _ _ _ _ (closed_set hc hir) hp h)
          rcases List.mem_cons.1 hp' with rfl | hp'
          · exact .inr rfl
          · exact .inl hp'
    · split at h
      · rename_i hr
        exact ⟨fun _ => hK _ _ h, fun i hi => by rw [hr] at hi; cases hi⟩
      · rename_i i0 is hr
        refine ⟨fun h0 => (by rw [h0] at hr; cases hr), fun i hi => ?_⟩
        have hm : (match ops[i]? with
          | none => False
          | some o => gd ops t o
            (fun t => OpK P o t w fun v nd w' => nd = [] ∧ andP (drop ops i pend) w' (drawK P ops n (listed.setIfInBounds i true) (drop ops i pend) (pt t o.dst v) w' K))
            (fun t => drawK P ops n (listed.setIfInBounds i true) (drop ops i pend) (pt t o.dst undef) w K)) := by
          refine andL_spec h _ (List.mem_map.2 ⟨i, by rw [← hr]; exact hi, rfl⟩)
        have hcs := closed_set hc hi
        unfold wpOpIn
        cases ho : ops[i]? with
        | none => rw [ho] at hm; exact hm.elim
        | some o =>
          simp only [ho] at hm ⊢
          rcases gd_spec hm with ⟨hw, hm⟩ | ⟨hw, hm⟩
          · rw [if_pos hw]
            refine (opK_wp (.inr (hnd _ _ ho)) (fun v nd w' hv => ?_) hm)
            obtain ⟨rfl, hv⟩ := hv
            obtain ⟨h1, h2⟩ := andP_spec hv
            exact ⟨h1, drawK_T hnd hs hQ hK n _ _ _ _ hcs h1 h2⟩
          · rw [if_neg (by simp [hw]), mkD_put]
            have h1 : ∀ p ∈ drop ops i pend, holds p.2 w := fun p hp' => hp p ((List.mem_filter.1 hp').1)
            exact ⟨fun _ _ => trivial, h1, drawK_T hnd hs hQ hK n _ _ _ _ hcs h1 hm⟩

end Go.Gx

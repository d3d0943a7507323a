import Derived.Test.YtdpcgfcabikjmaaGreatDoorVc3
namespace Go.Vc

abbrev Pend := List (Nat × List (World → Prop))

/-- Operation 'j' waits, directly or through others, for operation 'i'. -/
def dep (ops : Array Oper) : Nat → Nat → Nat → Bool
  | 0, _, _ => false
  | n + 1, j, i => match ops[j]? with
    | none => false
    | some o => o.after.toList.any fun e => Region.binds .any e && (Nat.beq e.on i || dep ops n e.on i)

def closed (ops : Array Oper) (listed : Array Bool) : Prop :=
  ∀ j o, ops[j]? = some o → listed.getD j false = true → ∀ e ∈ o.after, Region.binds .any e = true → listed.getD e.on false = true

theorem dep_closed {ops : Array Oper} {listed : Array Bool} (hc : closed ops listed) {i : Nat} (hi : listed.getD i false = false) :
    ∀ n j o, ops[j]? = some o → (∀ e ∈ o.after, Region.binds .any e = true → listed.getD e.on false = true) → dep ops n j i = false
  | 0, _, _, _, _ => rfl
  | n + 1, j, o, ho, hj => by
    simp only [dep, ho, List.any_eq_false]
    intro e he
    simp only [Bool.and_eq_true, not_and, Bool.or_eq_true, not_or]
    intro hb
    have h1 := hj e (by simpa using he) hb
    refine ⟨fun h => ?_, ?_⟩
    · rw [Nat.eq_of_beq_eq_true h, hi] at h1
      cases h1
    · cases ho' : ops[e.on]? with
      | none => cases n <;> simp [dep, ho']
      | some o' => rw [dep_closed hc hi n e.on o' ho' (hc _ _ ho' h1)]; simp

def drop (ops : Array Oper) (j : Nat) (pend : Pend) : Pend := pend.filter fun p => !dep ops ops.size j p.1

/-- Every order; behind each operation what has been read and is perhaps still to come up must be as it was. -/
def wpAnyT (ro : Option Nat) (P : Program) (ops : Array Oper) (Q : Exit → Act → World → Prop) : Nat → Array Bool → Pend → Act → World → Prop
  | 0, listed, _, a, w => Region.ready .any ops listed = [] ∧ Q .normal a w
  | n + 1, listed, pend, a, w => (Region.ready .any ops listed = [] → Q .normal a w) ∧
    ∀ i ∈ Region.ready .any ops listed, wpOpIn (FW ro) 0 P ops Q i (fun a' w' => (∀ p ∈ drop ops i pend, holds p.2 w') ∧ wpAnyT ro P ops Q n (listed.setIfInBounds i true) (drop ops i pend) a' w') a w

theorem wpAny_of_T {ro : Option Nat} {P : Program} {ops : Array Oper} {Q : Exit → Act → World → Prop} : ∀ (n : Nat) (listed : Array Bool) (pend : Pend) (a : Act) (w : World),
    wpAnyT ro P ops Q n listed pend a w → wpAnyIn (FW ro) 0 P .any ops Q n listed a w
  | 0, _, _, _, _, h => h
  | n + 1, _, _, _, _, h => ⟨h.1, fun i hi => wpOpIn_mono (fun _ _ h => wpAny_of_T n _ _ _ _ h.2) (h.2 i hi)⟩

theorem wpAnyT_ext {ro : Option Nat} {P : Program} {ops : Array Oper} {Q : Exit → Act → World → Prop} : ∀ (n : Nat) (listed : Array Bool) (pend pend' : Pend) (a : Act) (w : World),
    (∀ p ∈ pend', p ∈ pend ∨ p.2 = []) → wpAnyT ro P ops Q n listed pend a w → wpAnyT ro P ops Q n listed pend' a w
  | 0, _, _, _, _, _, _, h => h
  | n + 1, _, pend, pend', _, _, hs, h => by
    refine ⟨h.1, fun i hi => wpOpIn_mono (fun _ _ h => ?_) (h.2 i hi)⟩
    have hs' : ∀ p ∈ drop ops i pend', p ∈ drop ops i pend ∨ p.2 = [] := fun p hp => by
      simp only [drop, List.mem_filter] at hp ⊢
      exact (hs p hp.1).imp (fun h => ⟨h, hp.2⟩) id
    refine ⟨fun p hp => ?_, wpAnyT_ext n _ _ _ _ _ hs' h.2⟩
    rcases hs' p hp with h1 | h1
    · exact h.1 p h1
    · rw [h1]; exact fun f hf => by cases hf

theorem wpAnyT_sub {ro : Option Nat} {P : Program} {ops : Array Oper} {Q : Exit → Act → World → Prop} (n : Nat) (listed : Array Bool) (pend pend' : Pend) (a : Act) (w : World)
    (hs : ∀ p ∈ pend', p ∈ pend) (h : wpAnyT ro P ops Q n listed pend a w) : wpAnyT ro P ops Q n listed pend' a w :=
  wpAnyT_ext n listed pend pend' a w (fun p hp => .inl (hs p hp)) h

theorem yieldsIf_op {ro : Option Nat} {P : Program} {ops : Array Oper} {Q : Exit → Act → World → Prop} {S : World → Prop} {i : Nat} {o : Oper} {v : Value} {a : Act} (hnd : noDefer o.op = true) (hi : ops[i]? = some o) (hy : YieldsIf P ops S o v a)
    {K : Act → World → Prop} {w : World} (hS : S w) (h : K (a.put o.dst v) w) : wpOpIn (FW ro) 0 P ops Q i K a w := by
  unfold wpOpIn
  simp only [hi]
  rcases hy with ⟨hw, hv⟩ | ⟨hw, rfl⟩
  · rw [if_pos hw]
    refine ⟨fun _ _ => trivial, ?_⟩
    rw [Oper.semAt_eq _ _ _ (noDefer_ne hnd), hv w hS]
    exact h
  · rw [if_neg (by simp [hw])]
    exact ⟨fun _ _ => trivial, h⟩

theorem wpOpIn_putIf {ro : Option Nat} {P : Program} {ops : Array Oper} {Q : Exit → Act → World → Prop} {S : World → Prop} {j : Nat} {oi oj : Oper} {v : Value} (hnd : noDefer oj.op = true) (hj : ops[j]? = some oj) (hap : oi.apart ops oj = true)
    (hsi : ∀ cs b, oi.op ≠ .select cs b) (hsj : ∀ cs b, oj.op ≠ .select cs b)
    (hQ : ∀ c a w, Q (.panic c) (a.put oi.dst v) w → Q (.panic c) a w) {K : Act → World → Prop} {a : Act} {w : World}
    (hy : YieldsIf P ops S oi v a) (h : wpOpIn (FW ro) 0 P ops Q j K (a.put oi.dst v) w) :
    wpOpIn (FW ro) 0 P ops Q j (fun a' w' => YieldsIf P ops S oi v a' ∧ K (a'.put oi.dst v) w') a w := by
  obtain ⟨h1, h2, h3⟩ := Oper.apart_spec hap
  have keep : ∀ (a : Act), YieldsIf P ops S oi v a → ∀ u, YieldsIf P ops S oi v (a.put oj.dst u) := fun a hy u =>
    hy.of_same (execOp_put oi hsi a oj.dst u h3) (wanted_put oi a oj.dst u h3)
  have keepD : ∀ d, YieldsIf P ops S oi v { a with defers := d :: a.defers } := fun d => hy.of_same rfl rfl
  unfold wpOpIn at *
  simp only [hj] at *
  rw [wanted_put oj a oi.dst v h1] at h
  split
  · rename_i hw
    simp only [hw, if_true] at h
    unfold Oper.wpIn at *
    refine ⟨fun _ _ => trivial, ?_⟩
    have h := h.2
    rw [Oper.semAt_eq _ _ _ (noDefer_ne hnd), execOp_put oj hsj a oi.dst v h1] at h
    rw [Oper.semAt_eq _ _ _ (noDefer_ne hnd)]
    generalize (execOp a.eval oj).run P w = r at *
    cases r with
    | ok x w' =>
      cases x <;> simp only [Oper.uponIn] at h ⊢
      case value u => exact ⟨keep a hy u, by rw [← Act.put_comm a v u h2]; exact h⟩
      case skip => exact ⟨keep a hy _, by rw [← Act.put_comm a v undef h2]; exact h⟩
      case defer d =>
        refine ⟨keep _ (keepD d) _, ?_⟩
        rw [← Act.put_comm _ v undef h2, ← Act.put_defers]
        exact h
      case enter f args =>
        refine ⟨h.1, CallsIn.mono h.2 fun e w'' he => ?_⟩
        cases e with
        | returned u => exact ⟨keep a hy u, by rw [← Act.put_comm a v u h2]; exact he⟩
        | panicked c => exact hQ _ _ _ he
        | outgrown => exact he
      case row row args => exact ⟨h.1, RowsIn.mono h.2 fun u w'' he => ⟨keep a hy u, by rw [← Act.put_comm a v u h2]; exact he⟩⟩
      case round l f tmps assign body =>
        refine ⟨h.1, RoundIn.mono h.2 fun e w'' he => ?_⟩
        cases e with
        | returned u => exact ⟨keep a hy u, by rw [← Act.put_comm a v u h2]; exact he⟩
        | panicked c => exact hQ _ _ _ he
        | outgrown => exact he
    | halt x w' =>
      cases x <;> simp only [Oper.uponIn] at h ⊢
      case panic u => exact hQ _ _ _ h
  · rename_i hw
    simp only [hw] at h
    exact ⟨fun _ _ => trivial, keep a hy _, by rw [← Act.put_comm a v undef h2]; exact h.2⟩

theorem wpAnyT_first {ro : Option Nat} {P : Program} {ops : Array Oper} {Q : Exit → Act → World → Prop} {i : Nat} {oi : Oper} {v : Value} {T : List (World → Prop)} (hnd : ∀ (j : Nat) (o : Oper), ops[j]? = some o → noDefer o.op = true) (hi : ops[i]? = some oi)
    (hsel : ∀ (j : Nat) (o : Oper) cs b, ops[j]? = some o → o.op ≠ .select cs b) (hQ : ∀ c a w, ¬ Q (.panic c) a w) :
    ∀ (fuel : Nat) (listed : Array Bool) (pend : Pend) (a : Act) (w : World), closed ops listed →
      (∀ j oj, ops[j]? = some oj → j ≠ i → listed.getD j true = false → (∀ e ∈ oj.after, Region.binds .any e = true → e.on ≠ i) → oi.apart ops oj = true) →
      i ∈ Region.ready .any ops listed → YieldsIf P ops (holds T) oi v a → holds T w → (∀ p ∈ pend, holds p.2 w) →
      wpAnyT ro P ops Q fuel (listed.setIfInBounds i true) ((i, T) :: pend) (a.put oi.dst v) w → wpAnyT ro P ops Q (fuel + 1) listed pend a w := by
  intro fuel
  induction fuel with
  | zero =>
    intro listed pend a w _ _ hr hy hT hp H
    refine ⟨fun h => (by rw [h] at hr; cases hr), fun j hj => ?_⟩
    by_cases hji : j = i
    · subst hji
      exact yieldsIf_op (hnd _ _ hi) hi hy hT ⟨fun p hp' => hp p ((List.mem_filter.1 hp').1), wpAnyT_sub 0 _ _ _ _ _ (fun p hp => List.mem_cons_of_mem _ ((List.mem_filter.1 hp).1)) H⟩
    · have := ready_mono hj hji
      rw [H.1] at this
      cases this
  | succ fuel ih =>
    intro listed pend a w hc hfree hr hy hT hp H
    refine ⟨fun h => (by rw [h] at hr; cases hr), fun j hj => ?_⟩
    by_cases hji : j = i
    · subst hji
      exact yieldsIf_op (hnd _ _ hi) hi hy hT ⟨fun p hp' => hp p ((List.mem_filter.1 hp').1), wpAnyT_sub _ _ _ _ _ _ (fun p hp => List.mem_cons_of_mem _ ((List.mem_filter.1 hp).1)) H⟩
    · have h1 := H.2 j (ready_mono hj hji)
      obtain ⟨hjun, oj, hoj, hall⟩ := mem_ready.1 hj
      have hiun : listed.getD i false = false := by
        have h0 := (mem_ready.1 hr).1
        rcases Nat.lt_or_ge i listed.size with h' | h'
        · simp [h'] at h0 ⊢; exact h0
        · simp [Array.getElem?_eq_none h'] at h0
      have hnot : ∀ e ∈ oj.after, Region.binds .any e = true → e.on ≠ i := fun e he hb heq => by
        have h1 := hall e he hb
        rw [heq, hiun] at h1
        cases h1
      have hdep : dep ops ops.size j i = false := dep_closed hc hiun _ _ _ hoj hall
      have h2 := wpOpIn_putIf (hnd _ _ hoj) hoj (hfree j oj hoj hji hjun hnot) (fun cs b => hsel i oi cs b hi) (fun cs b => hsel j oj cs b hoj) (fun c a w h => (hQ _ _ _ h).elim) hy h1
      have hd : drop ops j ((i, T) :: pend) = (i, T) :: drop ops j pend := by simp [drop, hdep]
      refine wpOpIn_mono (fun a' w' h3 => ?_) h2
      obtain ⟨hy', hpend, hrest⟩ := h3
      rw [hd] at hpend hrest
      refine ⟨fun p hp => hpend p (List.mem_cons_of_mem _ hp), ?_⟩
      have hfree' : ∀ k ok, ops[k]? = some ok → k ≠ i → (listed.setIfInBounds j true).getD k true = false →
          (∀ e ∈ ok.after, Region.binds .any e = true → e.on ≠ i) → oi.apart ops ok = true := fun k ok hk hki hun hno => by
        refine hfree k ok hk hki ?_ hno
        by_cases hjk : j = k
        · subst hjk; exact hjun
        · rw [getD_set_ne true hjk] at hun; exact hun
      have hc' : closed ops (listed.setIfInBounds j true) := fun k ok hk hl e he hb => by
        by_cases hjk : j = k
        · subst hjk
          have : ok = oj := Option.some.inj (hk.symm.trans hoj)
          subst this
          exact getD_set_true (hall e he hb)
        · rw [getD_set_ne false hjk] at hl
          exact getD_set_true (hc k ok hk hl e he hb)
      refine ih (listed.setIfInBounds j true) (drop ops j pend) a' w' hc' hfree' (ready_mono hr (Ne.symm hji)) hy' (hpend (i, T) (List.mem_cons_self ..)) (fun p hp => hpend p (List.mem_cons_of_mem _ hp)) ?_
      rw [Array.setIfInBounds_comm _ _ hji]
      exact hrest

/-- Does the operation only read? (An operation of which this is false may be anything.) -/
def isRd : Op → Bool
  | .move _ | .assign _ | .pick _ _ _ | .load _ _ | .nilCheck _ | .binOp _ _ _ _ _ | .unOp _ _ _ | .makeInterface _ _ | .makeFunc _ _ _
  | .slice _ _ _ _ _ | .fieldAddr _ _ _ | .field _ _ _ | .indexAddr _ _ _ | .index _ _ _ | .extract _ _ | .typeAssert _ _ _ _ | .build _ _ => true
  | .call { callee := .builtin .len, .. } | .call { callee := .builtin .min, .. } | .call { callee := .builtin .max, .. } | .call { callee := .builtin .cap, .. } => true
  | _ => false

def pick (ops : Array Oper) : List Nat → Option Nat
  | [] => none
  | i :: is => match ops[i]? with
    | some o => cond (isRd o.op) (some i) (pick ops is)
    | none => pick ops is

theorem pick_mem {ops : Array Oper} {i : Nat} : ∀ {l : List Nat}, pick ops l = some i → i ∈ l
  | [], h => by cases h
  | j :: is, h => by
    unfold pick at h
    split at h
    · rename_i o ho
      cases hr : isRd o.op with
      | true => rw [hr] at h; cases h; exact List.mem_cons_self ..
      | false => rw [hr] at h; exact List.mem_cons_of_mem _ (pick_mem h)
    · exact List.mem_cons_of_mem _ (pick_mem h)

def andT : List (World → Prop) → World → Prop → Prop
  | [], _, R => R
  | f :: fs, w, R => f w ∧ andT fs w R

theorem andT_spec : ∀ {T : List (World → Prop)} {w : World} {R : Prop}, andT T w R → holds T w ∧ R
  | [], _, _, h => ⟨fun _ hf => (by cases hf), h⟩
  | _ :: _, _, _, h => by
    obtain ⟨h1, h2⟩ := andT_spec h.2
    refine ⟨fun g hg => ?_, h2⟩
    rcases List.mem_cons.1 hg with rfl | hg
    · exact h.1
    · exact h1 g hg

def andP : Pend → World → Prop → Prop
  | [], _, R => R
  | p :: ps, w, R => andT p.2 w (andP ps w R)

theorem andP_spec : ∀ {ps : Pend} {w : World} {R : Prop}, andP ps w R → (∀ p ∈ ps, holds p.2 w) ∧ R
  | [], _, _, h => ⟨fun _ hf => (by cases hf), h⟩
  | _ :: _, _, _, h => by
    obtain ⟨h1, h2⟩ := andT_spec h
    obtain ⟨h3, h4⟩ := andP_spec h2
    refine ⟨fun g hg => ?_, h4⟩
    rcases List.mem_cons.1 hg with rfl | hg
    · exact h1
    · exact h3 g hg

def andL : List Prop → Prop
  | [] => True
  | [p] => p
  | p :: q :: ps => p ∧ andL (q :: ps)

theorem andL_spec : ∀ {l : List Prop}, andL l → ∀ p ∈ l, p
  | [], _, _, h => by cases h
  | [p], h, q, hq => by
    have : q = p := by simpa using hq
    rw [this]; exact h
  | p :: q :: ps, h, r, hr => by
    rcases List.mem_cons.1 hr with rfl | hr
    · exact h.1
    · exact andL_spec h.2 r hr

/-- A region that draws its order: what only reads is taken as soon as it may come up; of the others whichever may come up. -/
def vcDraw (P : Program) (ops : Array Oper) : Nat → Array Bool → Pend → Tm → World → (Tm → World → Prop) → Prop
  | 0, listed, _, t, w, K => cond (Region.ready .any ops listed).isEmpty (K t w) False
  | n + 1, listed, pend, t, w, K =>
    match pick ops (Region.ready .any ops listed) with
    | some i => match ops[i]? with
      | none => False
      | some o => cond (Region.free .any ops listed i)
        (gd ops t o (fun t => rdOp P o t w fun v T => vcDraw P ops n (listed.setIfInBounds i true) ((i, T) :: pend) (pt t o.dst v) w K)
          (fun t => vcDraw P ops n (listed.setIfInBounds i true) pend (pt t o.dst undef) w K)) False
    | none => match Region.ready .any ops listed with
      | [] => K t w
      | i :: is => andL ((i :: is).map fun i => match ops[i]? with
        | none => False
        | some o => gd ops t o
          (fun t => vcOp P o t w fun v w' => andP (drop ops i pend) w' (vcDraw P ops n (listed.setIfInBounds i true) (drop ops i pend) (pt t o.dst v) w' K))
          (fun t => vcDraw P ops n (listed.setIfInBounds i true) (drop ops i pend) (pt t o.dst undef) w K))

theorem closed_set {ops : Array Oper} {listed : Array Bool} {i : Nat} (hc : closed ops listed) (hi : i ∈ Region.ready .any ops listed) : closed ops (listed.setIfInBounds i true) := by
  obtain ⟨_, oi, hoi, hall⟩ := mem_ready.1 hi
  intro k ok hk hl e he hb
  by_cases hik : i = k
  · subst hik
    have : ok = oi := Option.some.inj (hk.symm.trans hoi)
    subst this
    exact getD_set_true (hall e he hb)
  · rw [getD_set_ne false hik] at hl
    exact getD_set_true (hc k ok hk hl e he hb)

theorem vcDraw_T {ro : Option Nat} {P : Program} {ops : Array Oper} {dd : List Deferred} {Q : Exit → Act → World → Prop} (hnd : ∀ (j : Nat) (o : Oper), ops[j]? = some o → noDefer o.op = true) (hs : Region.noSelect ops = true) (hQ : ∀ c a w, ¬ Q (.panic c) a w) {K : Tm → World → Prop} {ds : List Nat} {t0 : Tm}
    (hK : ∀ t w, agr ds t0 t → K t w → Q .normal (mkD t dd) w) (hd : ∀ (i : Nat) (o : Oper), ops[i]? = some o → ∀ d, o.dst = some d → d ∈ ds) :
    ∀ (n : Nat) (listed : Array Bool) (pend : Pend) (t : Tm) (w : World), agr ds t0 t → closed ops listed → (∀ p ∈ pend, holds p.2 w) →
    vcDraw P ops n listed pend t w K → wpAnyT ro P ops Q n listed pend (mkD t dd) w
  | 0, listed, pend, t, w, ha, _, _, h => by
    obtain ⟨h1, h2⟩ := condF h
    exact ⟨List.isEmpty_iff.1 h1, hK _ _ ha h2⟩
  | n + 1, listed, pend, t, w, ha, hc, hp, h => by
    unfold vcDraw at h
    split at h
    · rename_i i hi
      have hir := pick_mem hi
      split at h
      · exact h.elim
      · rename_i o ho
        obtain ⟨hf, h⟩ := condF h
        rcases gd_spec h with ⟨hw, h⟩ | ⟨hw, h⟩
        · obtain ⟨v, T, hk, hT, hr⟩ := rdOp_run h
          refine wpAnyT_first hnd ho (Region.noSelect_spec hs) hQ n listed pend (mkD t dd) w hc (Region.free_spec ho hf) hir (.inl ⟨hw, fun w' hw' => by rw [mkD_eval]; exact hr w' hw'⟩) hT hp ?_
          rw [mkD_put]
          refine vcDraw_T hnd hs hQ hK hd n _ _ _ _ (agr_pt ha (hd _ _ ho)) (closed_set hc hir) ?_ hk
          intro p hp'
          rcases List.mem_cons.1 hp' with rfl | hp'
          · exact hT
          · exact hp p hp'
        · refine wpAnyT_first (T := []) hnd ho (Region.noSelect_spec hs) hQ n listed pend (mkD t dd) w hc (Region.free_spec ho hf) hir (.inr ⟨hw, rfl⟩) (fun f hf => by cases hf) hp ?_
          rw [mkD_put]
          refine wpAnyT_ext n _ pend _ _ _ (fun p hp' => ?_) (vcDraw_T hnd hs hQ hK hd n _ _ _ _ (agr_pt ha (hd _ _ ho)) (closed_set hc hir) hp h)
          rcases List.mem_cons.1 hp' with rfl | hp'
          · exact .inr rfl
          · exact .inl hp'
    · split at h
      · rename_i hr
        exact ⟨fun _ => hK _ _ ha h, fun i hi => by rw [hr] at hi; cases hi⟩
      · rename_i i0 is hr
        refine ⟨fun h0 => (by rw [h0] at hr; cases hr), fun i hi => ?_⟩
        have hm : (match ops[i]? with
          | none => False
          | some o => gd ops t o
            (fun t => vcOp P o t w fun v w' => andP (drop ops i pend) w' (vcDraw P ops n (listed.setIfInBounds i true) (drop ops i pend) (pt t o.dst v) w' K))
            (fun t => vcDraw P ops n (listed.setIfInBounds i true) (drop ops i pend) (pt t o.dst undef) w K)) := by
          refine andL_spec h _ (List.mem_map.2 ⟨i, by rw [← hr]; exact hi, rfl⟩)
        have hcs := closed_set hc hi
        unfold wpOpIn
        cases ho : ops[i]? with
        | none => rw [ho] at hm; exact hm.elim
        | some o =>
          simp only [ho] at hm ⊢
          rcases gd_spec hm with ⟨hw, hm⟩ | ⟨hw, hm⟩
          · rw [if_pos hw]
            refine (vcOp_wp (hnd _ _ ho) (fun v w' hv => ?_) hm)
            obtain ⟨h1, h2⟩ := andP_spec hv
            exact ⟨h1, vcDraw_T hnd hs hQ hK hd n _ _ _ _ (agr_pt ha (hd _ _ ho)) hcs h1 h2⟩
          · rw [if_neg (by simp [hw]), mkD_put]
            have h1 : ∀ p ∈ drop ops i pend, holds p.2 w := fun p hp' => hp p ((List.mem_filter.1 hp').1)
            exact ⟨fun _ _ => trivial, h1, vcDraw_T hnd hs hQ hK hd n _ _ _ _ (agr_pt ha (hd _ _ ho)) hcs h1 hm⟩

end Go.Vc

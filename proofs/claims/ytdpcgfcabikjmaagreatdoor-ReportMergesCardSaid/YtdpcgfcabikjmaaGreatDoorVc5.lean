import Derived.Test.YtdpcgfcabikjmaaGreatDoorVc4
import Derived.Shelf.Abstract
namespace Go.Vc

def dsts : Code → List Nat
  | .region _ ops _ => ops.toList.filterMap (·.dst)
  | .seq a b => dsts a ++ dsts b
  | .cond _ a b => dsts a ++ dsts b
  | .block _ c => dsts c
  | .loop c => dsts c
  | _ => []

abbrev Live := List (Nat × TK)

def memN : List Nat → Nat → Bool
  | [], _ => false
  | x :: l, n => cond (Nat.beq x n) true (memN l n)

theorem memN_spec : ∀ {l : List Nat} {n : Nat}, memN l n = true ↔ n ∈ l
  | [], n => by simp [memN]
  | x :: l, n => by
    simp only [memN, List.mem_cons]
    cases h : Nat.beq x n with
    | true => simp [Nat.eq_of_beq_eq_true h]
    | false =>
      have : n ≠ x := fun e => by rw [e, Nat.beq_refl] at h; cases h
      simp [memN_spec, this]

def lk : List (Nat × Value) → Nat → Option Value
  | [], _ => none
  | (s, v) :: l, n => cond (Nat.beq s n) (some v) (lk l n)

def zipV : Live → List Value → List (Nat × Value)
  | (s, _) :: l, v :: vs => (s, v) :: zipV l vs
  | _, _ => []

def fillAt (mods : List Nat) (lv : List (Nat × Value)) (d : Nat → Value) : Nat → Tm → Tm
  | _, [] => []
  | i, x :: t => (match lk lv i with | some v => v | none => cond (memN mods i) (d i) x) :: fillAt mods lv d (i + 1) t

/-! A cut's assertion: a function of what lives there, part by part. -/
def SJ : SK → Type → Type
  | .int _, X => Int → X
  | .bool, X => Bool → X
  | .str, X => ByteArray → X
  | .ptr, X => Option Addr → X
  | .slice, X => Option Addr → Nat → Nat → X
  | .map, X => Option Nat → X
  | .raw, X => Value → X

def LJ : List SK → Type → Type
  | [], X => X
  | k :: ks, X => SJ k (LJ ks X)

def VJ : Live → Type → Type
  | [], X => X
  | (_, .s k) :: l, X => SJ k (VJ l X)
  | (_, .agg ks) :: l, X => LJ ks (VJ l X)

def alSJ {X : Type} : (k : SK) → SJ k X → (Value → X → Prop) → Prop
  | .int k, J, F => ∀ n : Int, F (.int k n) (J n)
  | .bool, J, F => ∀ b : Bool, F (.bool b) (J b)
  | .str, J, F => ∀ s : ByteArray, F (.string s) (J s)
  | .ptr, J, F => ∀ p : Option Addr, F (.pointer p) (J p)
  | .slice, J, F => ∀ (a : Option Addr) (l c : Nat), F (.slice a l c) (J a l c)
  | .map, J, F => ∀ r : Option Nat, F (.map r) (J r)
  | .raw, J, F => ∀ v : Value, F v (J v)

def alLJ {X : Type} : (ks : List SK) → LJ ks X → (List Value → X → Prop) → Prop
  | [], J, F => F [] J
  | k :: ks, J, F => alSJ k J fun v J => alLJ ks J fun vs J => F (v :: vs) J

def alVJ {X : Type} : (l : Live) → VJ l X → (List Value → X → Prop) → Prop
  | [], J, F => F [] J
  | (_, .s k) :: l, J, F => alSJ k J fun v J => alVJ l J fun vs J => F (v :: vs) J
  | (_, .agg ks) :: l, J, F => alLJ ks J fun cs J => alVJ l J fun vs J => F (.agg cs.toArray :: vs) J

def apSJ {X : Type} : (k : SK) → SJ k X → Value → (X → Prop) → Prop
  | .int k, J, v, F => match v with
    | .int k' n => cond (eqK k k') (F (J n)) False
    | _ => False
  | .bool, J, v, F => match v with
    | .bool b => F (J b)
    | _ => False
  | .str, J, v, F => match v with
    | .string s => F (J s)
    | _ => False
  | .ptr, J, v, F => match v with
    | .pointer p => F (J p)
    | _ => False
  | .slice, J, v, F => match v with
    | .slice a l c => F (J a l c)
    | _ => False
  | .map, J, v, F => match v with
    | .map r => F (J r)
    | _ => False
  | .raw, J, v, F => F (J v)

def apLJ {X : Type} : (ks : List SK) → LJ ks X → List Value → (X → Prop) → Prop
  | [], J, [], F => F J
  | k :: ks, J, v :: vs, F => apSJ k J v fun J => apLJ ks J vs F
  | _, _, _, _ => False

def apVJ {X : Type} : (l : Live) → VJ l X → Tm → (X → Prop) → Prop
  | [], J, _, F => F J
  | (s, .s k) :: l, J, t, F => apSJ k J (gt t s) fun J => apVJ l J t F
  | (s, .agg ks) :: l, J, t, F => match gt t s with
    | .agg cs => apLJ ks J cs.toList fun J => apVJ l J t F
    | _ => False

theorem apSJ_spec {X : Type} {k : SK} {J : SJ k X} {v : Value} {F : X → Prop} (h : apSJ k J v F) : ∃ j, F j ∧ ∀ G, alSJ k J G → G v j := by
  cases k with
  | int k =>
    cases v <;> simp only [apSJ] at h
    obtain ⟨hk, hR⟩ := condF h
    have := eqK_spec hk
    subst this
    exact ⟨_, hR, fun G hG => hG _⟩
  | bool => cases v <;> simp only [apSJ] at h; exact ⟨_, h, fun G hG => hG _⟩
  | str => cases v <;> simp only [apSJ] at h; exact ⟨_, h, fun G hG => hG _⟩
  | ptr => cases v <;> simp only [apSJ] at h; exact ⟨_, h, fun G hG => hG _⟩
  | slice => cases v <;> simp only [apSJ] at h; exact ⟨_, h, fun G hG => hG _ _ _⟩
  | map => cases v <;> simp only [apSJ] at h; exact ⟨_, h, fun G hG => hG _⟩
  | raw => exact ⟨_, h, fun G hG => hG _⟩

theorem apLJ_spec {X : Type} : ∀ {ks : List SK} {J : LJ ks X} {vs : List Value} {F : X → Prop}, apLJ ks J vs F → ∃ j, F j ∧ ∀ G, alLJ ks J G → G vs j
  | [], J, [], F, h => ⟨J, h, fun G hG => hG⟩
  | k :: ks, J, v :: vs, F, h => by
    obtain ⟨j, h1, h2⟩ := apSJ_spec (show apSJ k J v fun J => apLJ ks J vs F from h)
    obtain ⟨j', h3, h4⟩ := apLJ_spec h1
    exact ⟨j', h3, fun G hG => h4 (fun vs J => G (v :: vs) J) (h2 _ hG)⟩
  | [], _, _ :: _, _, h => h.elim
  | _ :: _, _, [], _, h => h.elim

def valsOf (l : Live) (t : Tm) : List Value := l.map fun s => gt t s.1

theorem apVJ_spec {X : Type} {t : Tm} : ∀ {l : Live} {J : VJ l X} {F : X → Prop}, apVJ l J t F → ∃ j, F j ∧ ∀ G, alVJ l J G → G (valsOf l t) j
  | [], J, F, h => ⟨J, h, fun G hG => hG⟩
  | (s, .s k) :: l, J, F, h => by
    obtain ⟨j, h1, h2⟩ := apSJ_spec (show apSJ k J (gt t s) fun J => apVJ l J t F from h)
    obtain ⟨j', h3, h4⟩ := apVJ_spec h1
    exact ⟨j', h3, fun G hG => h4 (fun vs J => G (gt t s :: vs) J) (h2 _ hG)⟩
  | (s, .agg ks) :: l, J, F, h => by
    unfold apVJ at h
    split at h
    · rename_i cs hcs
      obtain ⟨j, h1, h2⟩ := apLJ_spec h
      obtain ⟨j', h3, h4⟩ := apVJ_spec h1
      refine ⟨j', h3, fun G hG => ?_⟩
      have := h4 (fun vs J => G (.agg cs :: vs) J) (by simpa using h2 _ hG)
      simpa [valsOf, hcs] using this
    · exact h.elim

theorem lk_vals {t : Tm} {n : Nat} {v : Value} : ∀ {l : Live}, lk (zipV l (valsOf l t)) n = some v → v = gt t n
  | [], h => by cases h
  | (s, k) :: l, h => by
    simp only [valsOf, List.map_cons, zipV, lk] at h
    cases hb : Nat.beq s n with
    | true => rw [hb] at h; cases h; rw [Nat.eq_of_beq_eq_true hb]
    | false => rw [hb] at h; exact lk_vals h

theorem gt_fill {mods : List Nat} {lv : List (Nat × Value)} {d : Nat → Value} : ∀ (t : Tm) (i j : Nat), j < t.length →
    gt (fillAt mods lv d i t) j = match lk lv (i + j) with | some v => v | none => cond (memN mods (i + j)) (d (i + j)) (gt t j)
  | [], _, j, h => by simp at h
  | x :: t, i, 0, _ => by simp [fillAt, gt]
  | x :: t, i, j + 1, h => by
    have := gt_fill (mods := mods) (lv := lv) (d := d) t (i + 1) j (by simpa using h)
    rw [show i + 1 + j = i + (j + 1) by omega] at this
    exact this

theorem length_fill {mods : List Nat} {lv : List (Nat × Value)} {d : Nat → Value} : ∀ (t : Tm) (i : Nat), (fillAt mods lv d i t).length = t.length
  | [], _ => rfl
  | x :: t, i => by simp [fillAt, length_fill t (i + 1)]

theorem fill_eq {mods : List Nat} {l : Live} {t t' : Tm} (h : agr mods t t') : fillAt mods (zipV l (valsOf l t')) (gt t') 0 t = t' := by
  refine gt_ext _ _ ((length_fill t 0).trans h.1.symm) fun i hi => ?_
  rw [length_fill] at hi
  rw [gt_fill t 0 i hi, Nat.zero_add]
  cases hl : lk (zipV l (valsOf l t')) i with
  | some v => exact lk_vals hl
  | none =>
    cases hm : memN mods i with
    | true => rfl
    | false =>
      have : i ∉ mods := fun h => by rw [memN_spec.2 h] at hm; cases hm
      exact (h.2 i this).symm

abbrev Df := List Deferred

def thenQ (F : Tm → Df → World → Prop) (Q : Exit → Tm → Df → World → Prop) : Exit → Tm → Df → World → Prop
  | .normal, t, d, w => F t d w
  | e, t, d, w => Q e t d w

def blkQ (id : Nat) (Q : Exit → Tm → Df → World → Prop) : Exit → Tm → Df → World → Prop
  | .exit i, t, d, w => cond (Nat.beq i id) (Q .normal t d w) (Q (.exit i) t d w)
  | e, t, d, w => Q e t d w

/-- Nothing is deferred here. -/
def calm : Code → Bool
  | .seq a b => calm a && calm b
  | .cond _ a b => calm a && calm b
  | .block _ a => calm a
  | .loop a => calm a
  | .rangeFunc _ _ _ _ => false
  | _ => true

/-- The blocks that a text may leave. -/
def exs : Code → List Nat
  | .exit i => [i]
  | .seq a b => exs a ++ exs b
  | .cond _ a b => exs a ++ exs b
  | .block id c => (exs c).filter fun i => !(Nat.beq i id)
  | .loop c => exs c
  | .rangeFunc _ _ a b => exs a ++ exs b
  | _ => []

def rets : Code → Bool
  | .ret => true
  | .seq a b => rets a || rets b
  | .cond _ a b => rets a || rets b
  | .block _ c => rets c
  | .loop c => rets c
  | .rangeFunc _ _ a b => rets a || rets b
  | _ => false

def lkX : List (Nat × (World → Prop)) → Nat → World → Prop
  | [], _, _ => False
  | x :: l, i, w => cond (Nat.beq i x.1) (x.2 w) (lkX l i w)

theorem lkX_spec {F : Nat → World → Prop} {i : Nat} {w : World} : ∀ {l : List Nat}, lkX (l.map fun id => (id, F id)) i w → F i w
  | [], h => h.elim
  | j :: l, h => by
    simp only [List.map_cons, lkX] at h
    cases hb : Nat.beq i j with
    | true => rw [hb] at h; rw [Nat.eq_of_beq_eq_true hb]; exact h
    | false => rw [hb] at h; exact lkX_spec h

/-- What a range over a function comes to: the iterator is called; then the jump that a round has left. -/
def rangeK (P : Program) (gf : FuncId) (lb : List Value) (rec : FuncId → Nat → Loop) (w : World) (N R : World → Prop) (X : List (Nat × (World → Prop))) : Prop :=
  ∀ fn : FuncId, Calls P gf (Value.func (.yield (w.heap.size + 1)) #[] #[] :: lb).toArray ((w.alloc (.deferred (some []))).alloc (.loop (rec fn w.heap.size))) fun e w2 => (∃ v, e = .returned v) ∧
    ∃ r, w2.heap[w.heap.size + 1]? = some (.loop r) ∧ r.state ≠ .busy ∧ match r.pending with
      | none => N (w2.putObj (w.heap.size + 1) (.loop { r with state := .exhausted }))
      | some .ret => R (w2.putObj (w.heap.size + 1) (.loop { r with state := .exhausted }))
      | some (.exit i) => lkX X i (w2.putObj (w.heap.size + 1) (.loop { r with state := .exhausted }))
      | _ => False

/-- The function that is ranged over. -/
def rangeV (P : Program) (v : Value) (F : FuncId → List Value → Prop) : Prop := match v with
  | .func (.func gf) first lb => cond (first.isEmpty && entersB P gf) (F gf lb.toList) False
  | _ => False

/-- What a function's text must meet. 'ann': at which places of the text a cut is made, and what lives there. -/
def vc (P : Program) (ann : Nat → Option Live) : Code → Nat → (Exit → Tm → Df → World → Prop) → Tm → Df → World → Prop
  | .skip, _, Q, t, d, w => Q .normal t d w
  | .label _, _, Q, t, d, w => Q .normal t d w
  | .region _ ops draw, _, Q, t, d, w => cond (noDefers ops.toList) (match draw with
    | false => vcOps P ops ops.toList t w (fun t w => Q .normal t d w)
    | true => cond (P.follows .mixedOrders && Region.noSelect ops) (vcDraw P ops ops.size (Array.replicate ops.size false) [] t w.drew (fun t w => Q .normal t d w)) False) False
  | .seq a b, p, Q, t, d, w => match ann p with
    | none => vc P ann a (2 * p) (thenQ (vc P ann b (2 * p + 1) Q) Q) t d w
    | some lv => cond (calm a) (∃ J : VJ lv (World → Prop),
        (∀ w', alVJ lv J fun vs j => j w' → ∀ x : Nat → Value, vc P ann b (2 * p + 1) Q (fillAt (dsts a) (zipV lv vs) x 0 t) d w') ∧
        vc P ann a (2 * p) (thenQ (fun t' _ w' => apVJ lv J t' fun j => j w') Q) t d w) False
  | .cond c a b, p, Q, t, d, w => match ev t c with
    | .bool x => cond x (vc P ann a (2 * p) Q t d w) (vc P ann b (2 * p + 1) Q t d w)
    | _ => False
  | .block id c, p, Q, t, d, w => vc P ann c (2 * p) (blkQ id Q) t d w
  | .loop c, p, Q, t, d, w => match ann p with
    | none => vc P ann c (2 * p) (thenQ (fun _ _ _ => False) Q) t d w
    | some lv => cond (calm c) (∃ I : VJ lv (World → Nat → Prop), (apVJ lv I t fun i => ∃ m, i w m) ∧
        ∀ w' m, alVJ lv I fun vs i => i w' m → ∀ x : Nat → Value,
          vc P ann c (2 * p) (thenQ (fun t' _ w'' => apVJ lv I t' fun i' => ∃ m', m' < m ∧ i' w'' m') Q) (fillAt (dsts c) (zipV lv vs) x 0 t) d w') False
  | .exit id, _, Q, t, d, w => Q (.exit id) t d w
  | .ret, _, Q, t, d, w => Q .ret t d w
  | .rangeFunc g ps assign body, _, Q, t, d, w => rangeV P (ev t g) fun gf lb =>
      rangeK P gf lb (fun fn D => { state := .ready, pending := none, fn := fn, tmps := t.toArray, params := ps, assign := assign, body := body, defers := D }) w
        (fun w' => Q .normal t ({ target := .collected w.heap.size, args := #[] } :: d) w') (fun w' => cond (rets body) (Q .ret t ({ target := .collected w.heap.size, args := #[] } :: d) w') False)
        ((exs body).map fun i => (i, fun w' => Q (.exit i) t ({ target := .collected w.heap.size, args := #[] } :: d) w'))
  | _, _, _, _, _, _ => False

def lift (t0 : Tm) (d0 : Df) (c : Code) (Q : Exit → Tm → Df → World → Prop) : Exit → Act → World → Prop := fun e a w =>
  (∀ c, e ≠ .panic c) ∧ ∃ t' d', a = mkD t' d' ∧ agr (dsts c) t0 t' ∧ (calm c = true → d' = d0) ∧ Q e t' d' w

theorem vc_wp {P : Program} {ann : Nat → Option Live} {ro : Option Nat} : ∀ (c : Code) (p : Nat) (Q : Exit → Tm → Df → World → Prop) (t : Tm) (d : Df) (w : World), (ro = none ∨ calm c = true) →
    vc P ann c p Q t d w → c.wpIn (FW ro) 0 P (lift t d c Q) (mkD t d) w
  | .skip, _, Q, t, d, w, _, h => wpIn_skip ⟨by simp, t, d, rfl, agr_refl _ _, fun _ => rfl, h⟩
  | .label _, _, Q, t, d, w, _, h => wpIn_label ⟨by simp, t, d, rfl, agr_refl _ _, fun _ => rfl, h⟩
  | .exit id, _, Q, t, d, w, _, h => wpIn_exit ⟨by simp, t, d, rfl, agr_refl _ _, fun _ => rfl, h⟩
  | .ret, _, Q, t, d, w, _, h => wpIn_ret ⟨by simp, t, d, rfl, agr_refl _ _, fun _ => rfl, h⟩
  | .region id ops draw, _, Q, t, d, w, _, h => by
    have hds : ∀ (i : Nat) (o : Oper), ops[i]? = some o → ∀ d, o.dst = some d → d ∈ ops.toList.filterMap (·.dst) := fun i o ho d hd =>
      List.mem_filterMap.2 ⟨o, by simpa using Array.mem_of_getElem? ho, hd⟩
    obtain ⟨hn, h⟩ := condF h
    cases draw with
    | false =>
      refine wpIn_region_list (vcOps_wp (d := d) (ds := dsts (.region id ops false)) (t0 := t) ops.toList t w _ hn (fun t' w' ha hk => ⟨by simp, t', d, rfl, ha, fun _ => rfl, hk⟩) (fun o ho d hd => List.mem_filterMap.2 ⟨o, ho, hd⟩) (agr_refl _ _) h)
    | true =>
      obtain ⟨h1, h2⟩ := condF h
      simp only [Bool.and_eq_true] at h1
      have hnd : ∀ (j : Nat) (o : Oper), ops[j]? = some o → noDefer o.op = true := fun j o ho => by
        have := List.all_eq_true.1 hn o (by simpa using Array.mem_of_getElem? ho)
        exact this
      refine wpIn_region_any h1.1 (wpAny_of_T _ _ [] _ _ ?_)
      refine vcDraw_T (dd := d) (ds := dsts (.region id ops true)) (t0 := t) (K := fun t w => Q .normal t d w) hnd h1.2 (fun c a w h => h.1 c rfl) (fun t' w' ha hk => ⟨by simp, t', d, rfl, ha, fun _ => rfl, hk⟩) hds _ _ [] t _ (agr_refl _ _) ?_ (fun p hp => by cases hp) h2
      intro j o _ hj
      rcases Nat.lt_or_ge j ops.size with h | h <;> simp [h] at hj
  | .seq a b, p, Q, t, d, w, hc, h => by
    have hca : ro = none ∨ calm a = true := hc.imp id fun h => by simp only [calm, Bool.and_eq_true] at h; exact h.1
    have hcb : ro = none ∨ calm b = true := hc.imp id fun h => by simp only [calm, Bool.and_eq_true] at h; exact h.2
    refine wpIn_seq ?_
    simp only [vc] at h
    split at h
    · refine wpIn_mono (vc_wp a _ _ t d w hca h) (fun e a' w' hq => ?_)
      obtain ⟨hp, t', d', rfl, ha, hd, hq⟩ := hq
      cases e with
      | normal =>
        refine wpIn_mono (vc_wp b _ _ t' d' w' hcb hq) (fun e a'' w'' hq' => ?_)
        obtain ⟨hp', t'', d'', rfl, ha', hd', hq'⟩ := hq'
        refine ⟨hp', t'', d'', rfl, agr_trans ha ha', fun hk => ?_, hq'⟩
        simp only [calm, Bool.and_eq_true] at hk
        rw [hd' hk.2, hd hk.1]
      | panic c => exact absurd rfl (hp c)
      | _ => exact ⟨hp, t', d', rfl, agr_mono (fun d hd => List.mem_append_left _ hd) ha, fun hk => hd (by simp only [calm, Bool.and_eq_true] at hk; exact hk.1), hq⟩
    · obtain ⟨hk0, J, hb, h⟩ := condF h
      refine wpIn_mono (vc_wp a _ _ t d w hca h) (fun e a' w' hq => ?_)
      obtain ⟨hp, t', d', rfl, ha, hd, hq⟩ := hq
      obtain rfl := hd hk0
      cases e with
      | normal =>
        obtain ⟨j, h1, h2⟩ := apVJ_spec hq
        have h3 := h2 _ (hb w') h1 (gt t')
        rw [fill_eq ha] at h3
        refine wpIn_mono (vc_wp b _ _ t' d' w' hcb h3) (fun e a'' w'' hq' => ?_)
        obtain ⟨hp', t'', d'', rfl, ha', hd', hq'⟩ := hq'
        refine ⟨hp', t'', d'', rfl, agr_trans ha ha', fun hk => ?_, hq'⟩
        simp only [calm, Bool.and_eq_true] at hk
        exact hd' hk.2
      | panic c => exact absurd rfl (hp c)
      | _ => exact ⟨hp, t', d', rfl, agr_mono (fun d hd => List.mem_append_left _ hd) ha, fun _ => rfl, hq⟩
  | .cond c a b, p, Q, t, d, w, hc, h => by
    simp only [vc] at h
    split at h
    · rename_i x hx
      refine wpIn_cond (t := x) (by rw [mkD_eval]; exact hx) ?_
      cases x with
      | true =>
        refine wpIn_mono (vc_wp a _ _ t d w (hc.imp id fun h => by simp only [calm, Bool.and_eq_true] at h; exact h.1) h) (fun e a' w' hq => ?_)
        obtain ⟨hp, t', d', rfl, ha, hd, hq⟩ := hq
        exact ⟨hp, t', d', rfl, agr_mono (fun d hd => List.mem_append_left _ hd) ha, fun hk => hd (by simp only [calm, Bool.and_eq_true] at hk; exact hk.1), hq⟩
      | false =>
        refine wpIn_mono (vc_wp b _ _ t d w (hc.imp id fun h => by simp only [calm, Bool.and_eq_true] at h; exact h.2) h) (fun e a' w' hq => ?_)
        obtain ⟨hp, t', d', rfl, ha, hd, hq⟩ := hq
        exact ⟨hp, t', d', rfl, agr_mono (fun d hd => List.mem_append_right _ hd) ha, fun hk => hd (by simp only [calm, Bool.and_eq_true] at hk; exact hk.2), hq⟩
    · exact h.elim
  | .block id c, p, Q, t, d, w, hc, h => by
    refine wpIn_block (wpIn_mono (vc_wp c _ _ t d w hc h) (fun e a' w' hq => ?_))
    obtain ⟨hp, t', d', rfl, ha, hd, hq⟩ := hq
    cases e with
    | exit i =>
      simp only [Exit.inBlock]
      simp only [blkQ] at hq
      cases hb : Nat.beq i id with
      | true => rw [hb] at hq; rw [if_pos (Nat.eq_of_beq_eq_true hb)]; exact ⟨by simp, t', d', rfl, ha, hd, hq⟩
      | false =>
        rw [hb] at hq
        rw [if_neg (fun e => by rw [e, Nat.beq_refl] at hb; cases hb)]
        exact ⟨by simp, t', d', rfl, ha, hd, hq⟩
    | _ => exact ⟨hp, t', d', rfl, ha, hd, hq⟩
  | .loop c, p, Q, t, d, w, hc, h => by
    simp only [vc] at h
    split at h
    · refine wpIn_loop_once (wpIn_mono (vc_wp c _ _ t d w hc h) (fun e a'' w'' hq' => ?_))
      obtain ⟨hp', t'', d'', rfl, ha', hd', hq'⟩ := hq'
      cases e with
      | normal => exact hq'.elim
      | panic c => exact absurd rfl (hp' c)
      | _ => exact ⟨hp', t'', d'', rfl, ha', hd', hq'⟩
    · rename_i lv hlv
      obtain ⟨hk0, I, h0, hr⟩ := condF h
      obtain ⟨i0, ⟨m, h1⟩, h2⟩ := apVJ_spec h0
      refine wpIn_loop_ghost (fun n a w => ∃ t' i, a = mkD t' d ∧ agr (dsts c) t t' ∧ i w n ∧ ∀ G, alVJ lv I G → G (valsOf lv t') i) m ⟨t, i0, rfl, agr_refl _ _, h1, h2⟩ ?_
      rintro n a w' ⟨t', i1, rfl, ha, hI, hG⟩
      have h3 := hG _ (hr w' n) hI (gt t')
      rw [fill_eq ha] at h3
      refine wpIn_mono (vc_wp c _ _ t' d w' hc h3) (fun e a'' w'' hq' => ?_)
      obtain ⟨hp', t'', d'', rfl, ha', hd', hq'⟩ := hq'
      obtain rfl := hd' hk0
      have hag : agr (dsts c) t t'' := agr_mono (fun d hd => (List.mem_append.1 hd).elim id id) (agr_trans ha ha')
      cases e with
      | normal =>
        obtain ⟨i2, ⟨m', hm, h4⟩, h5⟩ := apVJ_spec hq'
        exact ⟨m', hm, t'', i2, rfl, hag, h4, h5⟩
      | panic c => exact absurd rfl (hp' c)
      | _ => exact ⟨hp', t'', d'', rfl, hag, fun _ => rfl, hq'⟩
  | .rangeFunc g ps assign body, p, Q, t, d, w, hc, h => by
    simp only [vc, rangeV] at h
    split at h
    · rename_i gf first lb hg
      obtain ⟨he, hh⟩ := condF h
      clear h
      simp only [Bool.and_eq_true, Array.isEmpty_iff] at he
      obtain ⟨rfl, he⟩ := he
      obtain rfl : ro = none := hc.resolve_right (by simp [calm])
      refine wpIn_rangeFunc fun fn _ => ?_
      refine ⟨w.heap.size + 1, [{ target := .collected w.heap.size, args := #[] }], ((w.alloc (.deferred (some []))).alloc (.loop { state := .ready, pending := none, fn := fn, tmps := t.toArray, params := ps, assign := assign, body := body, defers := w.heap.size })),
        { target := .fn (.func gf) lb, args := #[.func (.yield (w.heap.size + 1)) #[] #[]] }, ((w.alloc (.deferred (some []))).alloc (.loop { state := .ready, pending := none, fn := fn, tmps := t.toArray, params := ps, assign := assign, body := body, defers := w.heap.size })), gf,
        #[.func (.yield (w.heap.size + 1)) #[] #[]] ++ lb, ((w.alloc (.deferred (some []))).alloc (.loop { state := .ready, pending := none, fn := fn, tmps := t.toArray, params := ps, assign := assign, body := body, defers := w.heap.size })), run_enterLoop_outer _ _ _ _ _, ?_, fun _ _ => trivial, ?_, fun h => (by cases h), ?_⟩
      · simp only [resolve, mkD_eval, hg]
        simp [go_sem, ev, Deferred.ofValue]
      · simp [invoke, go_sem, enters_run he]
      · have h1 := hh fn
        have h2 : (Value.func (.yield (w.heap.size + 1)) #[] #[] :: lb.toList).toArray = #[.func (.yield (w.heap.size + 1)) #[] #[]] ++ lb := by simp
        rw [h2] at h1
        refine CallsIn.mono (callsIn_wide.2 h1) fun e w2 hq => ?_
        obtain ⟨⟨v, rfl⟩, r, hr, hb, hq⟩ := hq
        refine ⟨r.pending, _, run_endLoop hr hb, ?_⟩
        split at hq
        · rename_i hp
          rw [hp] at hq ⊢
          exact ⟨by simp, t, _, rfl, agr_refl _ _, fun h => (by cases h), hq⟩
        · rename_i hp
          rw [hp] at hq ⊢
          exact wpIn_ret ⟨by simp, t, _, rfl, agr_refl _ _, fun h => (by cases h), (condF hq).2⟩
        · rename_i i hp
          rw [hp] at hq ⊢
          exact wpIn_exit ⟨by simp, t, _, rfl, agr_refl _ _, fun h => (by cases h), lkX_spec (F := fun i w' => Q (.exit i) t ({ target := .collected w.heap.size, args := #[] } :: d) w') hq⟩
        · exact hq.elim
    · exact h.elim
  | .scope _, _, _, _, _, _, _, h => h.elim
  | .goto _, _, _, _, _, _, _, h => h.elim
  | .refuse _, _, _, _, _, _, _, h => h.elim

/-! A function's end. -/
def resK (P : Program) : List ResultVar → Tm → World → (List Value → Prop) → Prop
  | [], _, _, F => F []
  | .tmp s :: rs, t, w, F => resK P rs t w fun vs => F (gt t s :: vs)
  | .cell a ty :: rs, t, w, F => ldK P ty (gt t a) w fun v _ => resK P rs t w fun vs => F (v :: vs)

def tupOf : List Value → Value
  | [v] => v
  | vs => .tuple vs.toArray

/-- The way out: what is deferred is met first. -/
def dfK (P : Program) (fn : Func) (t : Tm) (K : Value → World → Prop) : Df → World → Prop
  | [], w => resK P fn.results.toList t w fun vs => K (tupOf vs) w
  | d :: ds, w => match d.target with
    | .collected r => w.heap[r]? = some (.deferred (some [])) ∧ dfK P fn t K ds (w.putObj r (.deferred none))
    | _ => False

def bodyQ (P : Program) (fn : Func) (K : Value → World → Prop) : Exit → Tm → Df → World → Prop
  | .normal, t, d, w => dfK P fn t K d w
  | .ret, t, d, w => dfK P fn t K d w
  | _, _, _, _ => False

def resF (t : Tm) : ResultVar → Sem Value
  | .tmp s => pure (t.toArray.getD s undef)
  | .cell a ty => do loadVar ty (← asAddr (t.toArray.getD a undef))

theorem resK_run {P : Program} {w : World} {t : Tm} : ∀ (rs : List ResultVar) (F : List Value → Prop), resK P rs t w F →
    ∃ vs, (rs.mapM (resF t)).run P w = .ok vs w ∧ F vs
  | [], F, h => ⟨[], by simp, h⟩
  | .tmp s :: rs, F, h => by
    obtain ⟨vs, hr, hF⟩ := resK_run rs _ h
    exact ⟨_, by simp only [List.mapM_cons, resF, Sem.run_bind, Sem.run_pure, Result.andThen_ok, hr, gt_eq], hF⟩
  | .cell a ty :: rs, F, h => by
    obtain ⟨v, T, h1, h2, h3⟩ := ldK_run h
    obtain ⟨vs, hr, hF⟩ := resK_run rs _ h3
    refine ⟨v :: vs, ?_, hF⟩
    have h4 := h2 w h1
    rw [gt_eq] at h4
    have h5 : (resF t (.cell a ty)).run P w = .ok v w := by
      show (Sem.bind (asAddr (t.toArray.getD a undef)) fun p => loadVar ty p).run P w = .ok v w
      rw [Sem.run_bind']
      generalize t.toArray.getD a undef = x at h4 ⊢
      cases x with
      | pointer p => cases p with
        | none => simp [Instr.loadAt, Instr.sureAddr] at h4
        | some p => simpa [Instr.loadAt, Instr.sureAddr, asAddr] using h4
      | _ => simp [Instr.loadAt, Instr.sureAddr] at h4
    rw [List.mapM_cons, Sem.run_bind, h5]
    simp only [Result.andThen_ok, Sem.run_bind, hr, Sem.run_pure]

def bodyOf (fn : Func) : Code := fn.body.getD .skip

theorem res_run {P : Program} {fn : Func} {t : Tm} {w : World} {K : Value → World → Prop} (hr : resK P fn.results.toList t w fun vs => K (tupOf vs) w) :
    ∃ v, (results fn t.toArray).run P w = .ok v w ∧ K v w := by
  obtain ⟨vs, hrun, hk⟩ := resK_run _ _ hr
  refine ⟨tupOf vs, ?_, hk⟩
  have h3 : results fn t.toArray = (do
      let vs ← fn.results.mapM (resF t)
      pure (if h : vs.size = 1 then vs[0] else .tuple vs)) := by
    unfold results
    have : (fun r => match r with
        | .tmp i => (pure (t.toArray.getD i undef) : Sem Value)
        | .cell a i => do loadVar i (← asAddr (t.toArray.getD a undef))) = resF t := by
      funext x; cases x <;> rfl
    rw [← this]
    rfl
  rw [h3, Array.mapM_eq_mapM_toList]
  simp only [Sem.run_map, bind_pure_comp, hrun, Result.andThen_ok]
  cases vs with
  | nil => rfl
  | cons v vs => cases vs <;> rfl

theorem leaves_of_df {P : Program} {fn : Func} {t : Tm} {K : Value → World → Prop} : ∀ (d : Df) (w : World), dfK P fn t K d w →
    LeavesInM (FW none) 0 P fn t.toArray (fun e w' => ∃ v, e = .returned v ∧ K v w') d .returning w
  | [], w, h => by
    obtain ⟨v, hr, hk⟩ := res_run h
    exact ⟨v, hr, v, rfl, hk⟩
  | d :: ds, w, h => by
    refine ⟨by simp, ?_⟩
    simp only [dfK] at h
    split at h
    · rename_i r hr
      exact .inl ⟨r, _, hr, run_takeDeferred h.1, leaves_of_df ds _ h.2⟩
    · exact h.elim

theorem calls_of_vc {P : Program} {ann : Nat → Option Live} {f : FuncId} {fn : Func} {c : Code} {args : List Value} {w : World} {K : Value → World → Prop}
    (hf : P.funcs[f]? = some fn) (hb : fn.body = some c)
    (h : vc P ann c 1 (bodyQ P fn K) (args ++ List.replicate (fn.ntmps - args.length) undef) [] w) :
    Calls P f args.toArray w fun e w' => ∃ v, e = .returned v ∧ K v w' := by
  refine (callsIn_wide (n := 0)).1 (callsIn_of_wp_marks hf hb trivial ?_ rfl)
  have h1 : ({ tmps := args.toArray ++ Array.replicate (fn.ntmps - args.toArray.size) undef, defers := [] } : Act) = mkD (args ++ List.replicate (fn.ntmps - args.length) undef) [] := by
    simp [mkD]
  rw [h1]
  refine wpIn_mono (vc_wp (ro := none) c 1 _ _ _ w (.inl rfl) h) (fun e a' w' hq => ?_)
  obtain ⟨hp, t', d', rfl, _, _, hq⟩ := hq
  cases e with
  | normal => exact leaves_of_df d' w' hq
  | ret => exact leaves_of_df d' w' hq
  | panic c => exact absurd rfl (hp c)
  | _ => exact hq.elim

/-! One round of a range over a function. -/
def rndQ (l : Nat) (K : Bool → World → Prop) : Exit → Tm → Df → World → Prop
  | .normal, _, _, w => ∃ r, w.heap[l]? = some (.loop r) ∧ K true (w.putObj l (.loop { r with state := .ready, pending := none }))
  | .ret, _, _, w => ∃ r, w.heap[l]? = some (.loop r) ∧ K false (w.putObj l (.loop { r with state := .done, pending := some .ret }))
  | .exit i, _, _, w => ∃ r, w.heap[l]? = some (.loop r) ∧ K false (w.putObj l (.loop { r with state := .done, pending := some (.exit i) }))
  | _, _, _, _ => False

def begQ (l : Nat) (F : Tm → World → Prop) : Exit → Tm → Df → World → Prop
  | .normal, t, _, w => ∃ r, w.heap[l]? = some (.loop r) ∧ r.state = .ready ∧ F t (w.putObj l (.loop { r with state := .busy }))
  | _, _, _, _ => False

def putL : List Tmp → List Value → Tm → Tm
  | p :: ps, v :: vs, t => putL ps vs (st t p v)
  | _, _, t => t

/-- A round: the left sides are laid, the round begins, the body runs. -/
def rndK (P : Program) (ann : Nat → Option Live) (l : Nat) (assign body : Code) (K : Bool → World → Prop) (t : Tm) (w : World) : Prop :=
  vc P ann assign 2 (begQ l fun t w => vc P ann body 3 (rndQ l K) t [] w) t [] w

theorem putL_eq : ∀ (ps : List Tmp) (vs : List Value) (t : Tm), ((ps.zip vs).foldl (fun (tm : Array Value) (x : Tmp × Value) => tm.setIfInBounds x.1 x.2) t.toArray) = (putL ps vs t).toArray
  | [], vs, t => by simp [putL]
  | p :: ps, [], t => by simp [putL]
  | p :: ps, v :: vs, t => by
    have := putL_eq ps vs (st t p v)
    simp only [List.zip_cons_cons, List.foldl_cons, putL]
    rw [← this, st_eq]
    simp

theorem yieldC_of {P : Program} {ann : Nat → Option Live} {l : Nat} {args : List Value} {w : World} {K : Bool → World → Prop} {r : Loop} {t : Tm}
    (hl : w.heap[l]? = some (.loop r)) (ht : r.tmps = t.toArray) (hs : args.length = r.params.size) (hc : (calm r.assign && calm r.body) = true)
    (h : rndK P ann l r.assign r.body K (putL r.params.toList args t) w) : YieldC P l args.toArray w K := by
  simp only [Bool.and_eq_true] at hc
  have hy := run_yield (P := P) (args := args.toArray) hl (by simpa using hs)
  refine ⟨_, _, _, _, hy, roundIn_of_wpIn (F := Fence.wide) trivial ?_⟩
  have h1 : (r.params.zip args.toArray).foldl (fun tmps (x : Tmp × Value) => tmps.setIfInBounds x.1 x.2) r.tmps = (putL r.params.toList args t).toArray := by
    rw [← putL_eq, ht, ← Array.foldl_toList]
    congr 1
    simp
  have h2 : ({ tmps := (r.params.zip args.toArray).foldl (fun tmps (x : Tmp × Value) => tmps.setIfInBounds x.1 x.2) r.tmps, defers := [] } : Act) = mkD (putL r.params.toList args t) [] := by
    rw [h1]; rfl
  refine wpIn_mono (show Code.wpIn (FW (some l)) 0 P r.assign _ _ w from h2 ▸ vc_wp (ro := some l) _ _ _ _ _ _ (.inr hc.1) h) fun e a' w' hq => ?_
  obtain ⟨hp, t', d', rfl, _, hd, hq⟩ := hq
  obtain rfl := hd hc.1
  cases e with
  | normal =>
    obtain ⟨r1, hr1, hst, hq⟩ := hq
    refine ⟨_, run_beginRound hr1 hst, ?_⟩
    refine wpIn_mono (show Code.wpIn (FW (some l)) 0 P r.body _ _ _ from vc_wp (ro := some l) _ _ _ _ _ _ (.inr hc.2) hq) fun e a'' w'' hq => ?_
    obtain ⟨hp, t'', d'', rfl, _, _, hq⟩ := hq
    cases e with
    | normal => obtain ⟨r2, hr2, hk⟩ := hq; exact ⟨_, _, run_endRound none hr2, _, rfl, hk⟩
    | ret => obtain ⟨r2, hr2, hk⟩ := hq; exact ⟨_, _, run_endRound (some .ret) hr2, _, rfl, hk⟩
    | exit i => obtain ⟨r2, hr2, hk⟩ := hq; exact ⟨_, _, run_endRound (some (.exit i)) hr2, _, rfl, hk⟩
    | panic c => exact absurd rfl (hp c)
    | _ => exact hq.elim
  | panic c => exact absurd rfl (hp c)
  | _ => exact hq.elim

/-- The form that the printed texts use. -/
theorem calls_sh {P : Program} (ann : Nat → Option Live) {f : FuncId} {fn : Func} {args : List Value} {w : World} {K : Value → World → Prop} {S : Prop}
    (hf : P.funcs[f]? = some fn) (hb : fn.body = some (bodyOf fn))
    (h : S = vc P ann (bodyOf fn) 1 (bodyQ P fn K) (args ++ List.replicate (fn.ntmps - args.length) undef) [] w) (hS : S) :
    Calls P f args.toArray w fun e w' => ∃ v, e = .returned v ∧ K v w' := calls_of_vc hf hb (h ▸ hS)

def annL (l : List (Nat × Live)) (p : Nat) : Option Live :=
  match l with
  | [] => none
  | (q, lv) :: l => cond (Nat.beq q p) (some lv) (annL l p)

/-! The pieces of a range over a function, found by its place. -/
def rfAt : Code → Nat → Nat → Option (Array Tmp × Code × Code)
  | .seq a b, p, q => (rfAt a (2 * p) q).or (rfAt b (2 * p + 1) q)
  | .cond _ a b, p, q => (rfAt a (2 * p) q).or (rfAt b (2 * p + 1) q)
  | .block _ a, p, q => rfAt a (2 * p) q
  | .loop a, p, q => rfAt a (2 * p) q
  | .rangeFunc _ ps a b, p, q => cond (Nat.beq p q) (some (ps, a, b)) none
  | _, _, _ => none

def rfPs (c : Code) (q : Nat) : Array Tmp := ((rfAt c 1 q).getD (#[], .skip, .skip)).1
def rfAs (c : Code) (q : Nat) : Code := ((rfAt c 1 q).getD (#[], .skip, .skip)).2.1
def rfBd (c : Code) (q : Nat) : Code := ((rfAt c 1 q).getD (#[], .skip, .skip)).2.2

/-- The form that the printed rounds use. -/
theorem yield_sh {P : Program} (ann : Nat → Option Live) {l : Nat} {args : List Value} {w : World} {K : Bool → World → Prop} {r : Loop} {t : Tm} {ps : Array Tmp} {asg bdy : Code} {S : Prop}
    (hl : w.heap[l]? = some (.loop r)) (ht : r.tmps = t.toArray) (hp : r.params = ps) (ha : r.assign = asg) (hb : r.body = bdy) (hs : args.length = ps.size) (hc : (calm asg && calm bdy) = true)
    (h : S = rndK P ann l asg bdy K (putL ps.toList args t) w) (hS : S) : YieldC P l args.toArray w K := by
  subst hp ha hb
  exact yieldC_of hl ht hs hc (h ▸ hS)

/-! Words of the printed texts. -/
def stK (w : World) (a : Addr) (v : Value) (R : World → Prop) : Prop :=
  v.oneCell' = true ∧ (∃ x, w.cell? a = some x) ∧ w.frozen? a = false ∧ R (w.setCell a v)

def stL (a : Addr) : Nat → List Value → World → (World → Prop) → Prop
  | _, [], w, R => R w
  | i, v :: vs, w, R => stK w (a.add i) v fun w' => stL a (i + 1) vs w' R

def newK (w : World) (o : Obj) (R : Nat → World → Prop) : Prop := R w.heap.size (w.alloc o)

def andI (k : IntKind) (x y : Int) : Int := k.wrap ((BitVec.ofInt k.bits x &&& BitVec.ofInt k.bits y).toNat : Int)
def orI (k : IntKind) (x y : Int) : Int := k.wrap ((BitVec.ofInt k.bits x ||| BitVec.ofInt k.bits y).toNat : Int)
def xorI (k : IntKind) (x y : Int) : Int := k.wrap ((BitVec.ofInt k.bits x ^^^ BitVec.ofInt k.bits y).toNat : Int)
def andNotI (k : IntKind) (x y : Int) : Int := k.wrap ((BitVec.ofInt k.bits x &&& ~~~BitVec.ofInt k.bits y).toNat : Int)

def bs (l : List UInt8) : ByteArray := ⟨l.toArray⟩

end Go.Vc

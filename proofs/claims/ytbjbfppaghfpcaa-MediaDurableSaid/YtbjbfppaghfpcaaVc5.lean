import Derived.Test.YtbjbfppaghfpcaaVc4
namespace Go.Vc

def dsts : Code → List Nat
  | .region _ ops _ => ops.toList.filterMap (·.dst)
  | .seq a b => dsts a ++ dsts b
  | .cond _ a b => dsts a ++ dsts b
  | .block _ c => dsts c
  | .loop c => dsts c
  | _ => []

abbrev Live := List (Nat × TK)

def memN : List Nat → Nat → Bool
  | [], _ => false
  | x :: l, n => cond (Nat.beq x n) true (memN l n)

theorem memN_spec : ∀ {l : List Nat} {n : Nat}, memN l n = true ↔ n ∈ l
  | [], n => by simp [memN]
  | x :: l, n => by
    simp only [memN, List.mem_cons]
    cases h : Nat.beq x n with
    | true => simp [Nat.eq_of_beq_eq_true h]
    | false =>
      have : n ≠ x := fun e => by rw [e, Nat.beq_refl] at h; cases h
      simp [memN_spec, this]

def lk : List (Nat × Value) → Nat → Option Value
  | [], _ => none
  | (s, v) :: l, n => cond (Nat.beq s n) (some v) (lk l n)

def zipV : Live → List Value → List (Nat × Value)
  | (s, _) :: l, v :: vs => (s, v) :: zipV l vs
  | _, _ => []

def fillAt (mods : List Nat) (lv : List (Nat × Value)) (d : Nat → Value) : Nat → Tm → Tm
  | _, [] => []
  | i, x :: t => (match lk lv i with | some v => v | none => cond (memN mods i) (d i) x) :: fillAt mods lv d (i + 1) t

/-! A cut's assertion: a function of what lives there, part by part. -/
def SJ : SK → Type → Type
  | .int _, X => Int → X
  | .bool, X => Bool → X
  | .str, X => ByteArray → X
  | .ptr, X => Option Addr → X
  | .slice, X => Option Addr → Nat → Nat → X
  | .map, X => Option Nat → X
  | .raw, X => Value → X

def LJ : List SK → Type → Type
  | [], X => X
  | k :: ks, X => SJ k (LJ ks X)

def VJ : Live → Type → Type
  | [], X => X
  | (_, .s k) :: l, X => SJ k (VJ l X)
  | (_, .agg ks) :: l, X => LJ ks (VJ l X)

def alSJ {X : Type} : (k : SK) → SJ k X → (Value → X → Prop) → Prop
  | .int k, J, F => ∀ n : Int, F (.int k n) (J n)
  | .bool, J, F => ∀ b : Bool, F (.bool b) (J b)
  | .str, J, F => ∀ s : ByteArray, F (.string s) (J s)
  | .ptr, J, F => ∀ p : Option Addr, F (.pointer p) (J p)
  | .slice, J, F => ∀ (a : Option Addr) (l c : Nat), F (.slice a l c) (J a l c)
  | .map, J, F => ∀ r : Option Nat, F (.map r) (J r)
  | .raw, J, F => ∀ v : Value, F v (J v)

def alLJ {X : Type} : (ks : List SK) → LJ ks X → (List Value → X → Prop) → Prop
  | [], J, F => F [] J
  | k :: ks, J, F => alSJ k J fun v J => alLJ ks J fun vs J => F (v :: vs) J

def alVJ {X : Type} : (l : Live) → VJ l X → (List Value → X → Prop) → Prop
  | [], J, F => F [] J
  | (_, .s k) :: l, J, F => alSJ k J fun v J => alVJ l J fun vs J => F (v :: vs) J
  | (_, .agg ks) :: l, J, F => alLJ ks J fun cs J => alVJ l J fun vs J => F (.agg cs.toArray :: vs) J

def apSJ {X : Type} : (k : SK) → SJ k X → Value → (X → Prop) → Prop
  | .int k, J, v, F => match v with
    | .int k' n => cond (eqK k k') (F (J n)) False
    | _ => False
  | .bool, J, v, F => match v with
    | .bool b => F (J b)
    | _ => False
  | .str, J, v, F => match v with
    | .string s => F (J s)
    | _ => False
  | .ptr, J, v, F => match v with
    | .pointer p => F (J p)
    | _ => False
  | .slice, J, v, F => match v with
    | .slice a l c => F (J a l c)
    | _ => False
  | .map, J, v, F => match v with
    | .map r => F (J r)
    | _ => False
  | .raw, J, v, F => F (J v)

def apLJ {X : Type} : (ks : List SK) → LJ ks X → List Value → (X → Prop) → Prop
  | [], J, [], F => F J
  | k :: ks, J, v :: vs, F => apSJ k J v fun J => apLJ ks J vs F
  | _, _, _, _ => False

def apVJ {X : Type} : (l : Live) → VJ l X → Tm → (X → Prop) → Prop
  | [], J, _, F => F J
  | (s, .s k) :: l, J, t, F => apSJ k J (gt t s) fun J => apVJ l J t F
  | (s, .agg ks) :: l, J, t, F => match gt t s with
    | .agg cs => apLJ ks J cs.toList fun J => apVJ l J t F
    | _ => False

theorem apSJ_spec {X : Type} {k : SK} {J : SJ k X} {v : Value} {F : X → Prop} (h : apSJ k J v F) : ∃ j, F j ∧ ∀ G, alSJ k J G → G v j := by
  cases k with
  | int k =>
    cases v <;> simp only [apSJ] at h
    obtain ⟨hk, hR⟩ := condF h
    have := eqK_spec hk
    subst this
    exact ⟨_, hR, fun G hG => hG _⟩
  | bool => cases v <;> simp only [apSJ] at h; exact ⟨_, h, fun G hG => hG _⟩
  | str => cases v <;> simp only [apSJ] at h; exact ⟨_, h, fun G hG => hG _⟩
  | ptr => cases v <;> simp only [apSJ] at h; exact ⟨_, h, fun G hG => hG _⟩
  | slice => cases v <;> simp only [apSJ] at h; exact ⟨_, h, fun G hG => hG _ _ _⟩
  | map => cases v <;> simp only [apSJ] at h; exact ⟨_, h, fun G hG => hG _⟩
  | raw => exact ⟨_, h, fun G hG => hG _⟩

theorem apLJ_spec {X : Type} : ∀ {ks : List SK} {J : LJ ks X} {vs : List Value} {F : X → Prop}, apLJ ks J vs F → ∃ j, F j ∧ ∀ G, alLJ ks J G → G vs j
  | [], J, [], F, h => ⟨J, h, fun G hG => hG⟩
  | k :: ks, J, v :: vs, F, h => by
    obtain ⟨j, h1, h2⟩ := apSJ_spec (show apSJ k J v fun J => apLJ ks J vs F from h)
    obtain ⟨j', h3, h4⟩ := apLJ_spec h1
    exact ⟨j', h3, fun G hG => h4 (fun vs J => G (v :: vs) J) (h2 _ hG)⟩
  | [], _, _ :: _, _, h => h.elim
  | _ :: _, _, [], _, h => h.elim

def valsOf (l : Live) (t : Tm) : List Value := l.map fun s => gt t s.1

theorem apVJ_spec {X : Type} {t : Tm} : ∀ {l : Live} {J : VJ l X} {F : X → Prop}, apVJ l J t F → ∃ j, F j ∧ ∀ G, alVJ l J G → G (valsOf l t) j
  | [], J, F, h => ⟨J, h, fun G hG => hG⟩
  | (s, .s k) :: l, J, F, h => by
    obtain ⟨j, h1, h2⟩ := apSJ_spec (show apSJ k J (gt t s) fun J => apVJ l J t F from h)
    obtain ⟨j', h3, h4⟩ := apVJ_spec h1
    exact ⟨j', h3, fun G hG => h4 (fun vs J => G (gt t s :: vs) J) (h2 _ hG)⟩
  | (s, .agg ks) :: l, J, F, h => by
    unfold apVJ at h
    split at h
    · rename_i cs hcs
      obtain ⟨j, h1, h2⟩ := apLJ_spec h
      obtain ⟨j', h3, h4⟩ := apVJ_spec h1
      refine ⟨j', h3, fun G hG => ?_⟩
      have := h4 (fun vs J => G (.agg cs :: vs) J) (by simpa using h2 _ hG)
      simpa [valsOf, hcs] using this
    · exact h.elim

theorem lk_vals {t : Tm} {n : Nat} {v : Value} : ∀ {l : Live}, lk (zipV l (valsOf l t)) n = some v → v = gt t n
  | [], h => by cases h
  | (s, k) :: l, h => by
    simp only [valsOf, List.map_cons, zipV, lk] at h
    cases hb : Nat.beq s n with
    | true => rw [hb] at h; cases h; rw [Nat.eq_of_beq_eq_true hb]
    | false => rw [hb] at h; exact lk_vals h

theorem gt_fill {mods : List Nat} {lv : List (Nat × Value)} {d : Nat → Value} : ∀ (t : Tm) (i j : Nat), j < t.length →
    gt (fillAt mods lv d i t) j = match lk lv (i + j) with | some v => v | none => cond (memN mods (i + j)) (d (i + j)) (gt t j)
  | [], _, j, h => by simp at h
  | x :: t, i, 0, _ => by simp [fillAt, gt]
  | x :: t, i, j + 1, h => by
    have := gt_fill (mods := mods) (lv := lv) (d := d) t (i + 1) j (by simpa using h)
    rw [show i + 1 + j = i + (j + 1) by omega] at this
    exact this

theorem length_fill {mods : List Nat} {lv : List (Nat × Value)} {d : Nat → Value} : ∀ (t : Tm) (i : Nat), (fillAt mods lv d i t).length = t.length
  | [], _ => rfl
  | x :: t, i => by simp [fillAt, length_fill t (i + 1)]

theorem fill_eq {mods : List Nat} {l : Live} {t t' : Tm} (h : agr mods t t') : fillAt mods (zipV l (valsOf l t')) (gt t') 0 t = t' := by
  refine gt_ext _ _ ((length_fill t 0).trans h.1.symm) fun i hi => ?_
  rw [length_fill] at hi
  rw [gt_fill t 0 i hi, Nat.zero_add]
  cases hl : lk (zipV l (valsOf l t')) i with
  | some v => exact lk_vals hl
  | none =>
    cases hm : memN mods i with
    | true => rfl
    | false =>
      have : i ∉ mods := fun h => by rw [memN_spec.2 h] at hm; cases hm
      exact (h.2 i this).symm

def thenQ (F : Tm → World → Prop) (Q : Exit → Tm → World → Prop) : Exit → Tm → World → Prop
  | .normal, t, w => F t w
  | e, t, w => Q e t w

def blkQ (id : Nat) (Q : Exit → Tm → World → Prop) : Exit → Tm → World → Prop
  | .exit i, t, w => cond (Nat.beq i id) (Q .normal t w) (Q (.exit i) t w)
  | e, t, w => Q e t w

/-- What a function's text must meet. 'ann': at which places of the text a cut is made, and what lives there. -/
def vc (P : Program) (ann : Nat → Option Live) : Code → Nat → (Exit → Tm → World → Prop) → Tm → World → Prop
  | .skip, _, Q, t, w => Q .normal t w
  | .label _, _, Q, t, w => Q .normal t w
  | .region _ ops draw, _, Q, t, w => match draw with
    | false => vcOps P ops ops.toList t w (Q .normal)
    | true => cond (P.follows .mixedOrders && Region.noSelect ops) (vcDraw P ops ops.size (Array.replicate ops.size false) [] t w.drew (Q .normal)) False
  | .seq a b, p, Q, t, w => match ann p with
    | none => vc P ann a (2 * p) (thenQ (vc P ann b (2 * p + 1) Q) Q) t w
    | some lv => ∃ J : VJ lv (World → Prop),
        (∀ w', alVJ lv J fun vs j => j w' → ∀ d : Nat → Value, vc P ann b (2 * p + 1) Q (fillAt (dsts a) (zipV lv vs) d 0 t) w') ∧
        vc P ann a (2 * p) (thenQ (fun t' w' => apVJ lv J t' fun j => j w') Q) t w
  | .cond c a b, p, Q, t, w => match ev t c with
    | .bool x => cond x (vc P ann a (2 * p) Q t w) (vc P ann b (2 * p + 1) Q t w)
    | _ => False
  | .block id c, p, Q, t, w => vc P ann c (2 * p) (blkQ id Q) t w
  | .loop c, p, Q, t, w => match ann p with
    | none => vc P ann c (2 * p) (thenQ (fun _ _ => False) Q) t w
    | some lv => ∃ I : VJ lv (World → Nat → Prop), (apVJ lv I t fun i => ∃ m, i w m) ∧
        ∀ w' m, alVJ lv I fun vs i => i w' m → ∀ d : Nat → Value,
          vc P ann c (2 * p) (thenQ (fun t' w'' => apVJ lv I t' fun i' => ∃ m', m' < m ∧ i' w'' m') Q) (fillAt (dsts c) (zipV lv vs) d 0 t) w'
  | .exit id, _, Q, t, w => Q (.exit id) t w
  | .ret, _, Q, t, w => Q .ret t w
  | _, _, _, _, _ => False

def lift (t0 : Tm) (ds : List Nat) (Q : Exit → Tm → World → Prop) : Exit → Act → World → Prop := fun e a w =>
  (∀ c, e ≠ .panic c) ∧ ∃ t', a = mkA t' ∧ agr ds t0 t' ∧ Q e t' w

theorem vc_wp {P : Program} {ann : Nat → Option Live} : ∀ (c : Code) (p : Nat) (Q : Exit → Tm → World → Prop) (t : Tm) (w : World),
    vc P ann c p Q t w → c.wp P (lift t (dsts c) Q) (mkA t) w
  | .skip, _, Q, t, w, h => wp_skip ⟨by simp, t, rfl, agr_refl _ _, h⟩
  | .label _, _, Q, t, w, h => wp_label ⟨by simp, t, rfl, agr_refl _ _, h⟩
  | .exit id, _, Q, t, w, h => wp_exit ⟨by simp, t, rfl, agr_refl _ _, h⟩
  | .ret, _, Q, t, w, h => wp_ret ⟨by simp, t, rfl, agr_refl _ _, h⟩
  | .region id ops draw, _, Q, t, w, h => by
    have hds : ∀ (i : Nat) (o : Oper), ops[i]? = some o → ∀ d, o.dst = some d → d ∈ ops.toList.filterMap (·.dst) := fun i o ho d hd =>
      List.mem_filterMap.2 ⟨o, by simpa using Array.mem_of_getElem? ho, hd⟩
    cases draw with
    | false =>
      refine wp_region_list (vcOps_wp (ds := dsts (.region id ops false)) (t0 := t) ops.toList t w _ (fun t' w' ha hk => ⟨by simp, t', rfl, ha, hk⟩) (fun o ho d hd => List.mem_filterMap.2 ⟨o, ho, hd⟩) (agr_refl _ _) h)
    | true =>
      obtain ⟨h1, h2⟩ := condF h
      simp only [Bool.and_eq_true] at h1
      refine wp_region_any h1.1 (wpAny_of_T _ _ [] _ _ ?_)
      refine vcDraw_T (ds := dsts (.region id ops true)) (t0 := t) (K := Q .normal) h1.2 (fun c a w h => h.1 c rfl) (fun t' w' ha hk => ⟨by simp, t', rfl, ha, hk⟩) hds _ _ [] t _ (agr_refl _ _) ?_ (fun p hp => by cases hp) h2
      intro j o _ hj
      rcases Nat.lt_or_ge j ops.size with h | h <;> simp [h] at hj
  | .seq a b, p, Q, t, w, h => by
    refine wp_seq ?_
    simp only [vc] at h
    split at h
    · refine Code.wp_mono (fun e a' w' hq => ?_) (vc_wp a _ _ t w h)
      obtain ⟨hp, t', rfl, ha, hq⟩ := hq
      cases e with
      | normal =>
        refine Code.wp_mono (fun e a'' w'' hq' => ?_) (vc_wp b _ _ t' w' hq)
        obtain ⟨hp', t'', rfl, ha', hq'⟩ := hq'
        exact ⟨hp', t'', rfl, agr_trans ha ha', hq'⟩
      | panic c => exact absurd rfl (hp c)
      | _ => exact ⟨hp, t', rfl, agr_mono (fun d hd => List.mem_append_left _ hd) ha, hq⟩
    · obtain ⟨J, hb, h⟩ := h
      refine Code.wp_mono (fun e a' w' hq => ?_) (vc_wp a _ _ t w h)
      obtain ⟨hp, t', rfl, ha, hq⟩ := hq
      cases e with
      | normal =>
        obtain ⟨j, h1, h2⟩ := apVJ_spec hq
        have h3 := h2 _ (hb w') h1 (gt t')
        rw [fill_eq ha] at h3
        refine Code.wp_mono (fun e a'' w'' hq' => ?_) (vc_wp b _ _ t' w' h3)
        obtain ⟨hp', t'', rfl, ha', hq'⟩ := hq'
        exact ⟨hp', t'', rfl, agr_trans ha ha', hq'⟩
      | panic c => exact absurd rfl (hp c)
      | _ => exact ⟨hp, t', rfl, agr_mono (fun d hd => List.mem_append_left _ hd) ha, hq⟩
  | .cond c a b, p, Q, t, w, h => by
    simp only [vc] at h
    split at h
    · rename_i x hx
      refine wp_cond (t := x) (by rw [mkA_eval]; exact hx) ?_
      cases x with
      | true =>
        refine Code.wp_mono (fun e a' w' hq => ?_) (vc_wp a _ _ t w h)
        obtain ⟨hp, t', rfl, ha, hq⟩ := hq
        exact ⟨hp, t', rfl, agr_mono (fun d hd => List.mem_append_left _ hd) ha, hq⟩
      | false =>
        refine Code.wp_mono (fun e a' w' hq => ?_) (vc_wp b _ _ t w h)
        obtain ⟨hp, t', rfl, ha, hq⟩ := hq
        exact ⟨hp, t', rfl, agr_mono (fun d hd => List.mem_append_right _ hd) ha, hq⟩
    · exact h.elim
  | .block id c, p, Q, t, w, h => by
    refine wp_block (Code.wp_mono (fun e a' w' hq => ?_) (vc_wp c _ _ t w h))
    obtain ⟨hp, t', rfl, ha, hq⟩ := hq
    cases e with
    | exit i =>
      simp only [Exit.inBlock]
      simp only [blkQ] at hq
      cases hb : Nat.beq i id with
      | true => rw [hb] at hq; rw [if_pos (Nat.eq_of_beq_eq_true hb)]; exact ⟨by simp, t', rfl, ha, hq⟩
      | false =>
        rw [hb] at hq
        rw [if_neg (fun e => by rw [e, Nat.beq_refl] at hb; cases hb)]
        exact ⟨by simp, t', rfl, ha, hq⟩
    | _ => exact ⟨hp, t', rfl, ha, hq⟩
  | .loop c, p, Q, t, w, h => by
    simp only [vc] at h
    split at h
    · refine wp_loop_once (Code.wp_mono (fun e a'' w'' hq' => ?_) (vc_wp c _ _ t w h))
      obtain ⟨hp', t'', rfl, ha', hq'⟩ := hq'
      cases e with
      | normal => exact hq'.elim
      | panic c => exact absurd rfl (hp' c)
      | _ => exact ⟨hp', t'', rfl, ha', hq'⟩
    · rename_i lv hlv
      obtain ⟨I, h0, hr⟩ := h
      obtain ⟨i0, ⟨m, h1⟩, h2⟩ := apVJ_spec h0
      refine wp_loop_ghost (fun n a w => ∃ t' i, a = mkA t' ∧ agr (dsts c) t t' ∧ i w n ∧ ∀ G, alVJ lv I G → G (valsOf lv t') i) m ⟨t, i0, rfl, agr_refl _ _, h1, h2⟩ ?_
      rintro n a w' ⟨t', i1, rfl, ha, hI, hG⟩
      have h3 := hG _ (hr w' n) hI (gt t')
      rw [fill_eq ha] at h3
      refine Code.wp_mono (fun e a'' w'' hq' => ?_) (vc_wp c _ _ t' w' h3)
      obtain ⟨hp', t'', rfl, ha', hq'⟩ := hq'
      have hag : agr (dsts c) t t'' := agr_mono (fun d hd => (List.mem_append.1 hd).elim id id) (agr_trans ha ha')
      cases e with
      | normal =>
        obtain ⟨i2, ⟨m', hm, h4⟩, h5⟩ := apVJ_spec hq'
        exact ⟨m', hm, t'', i2, rfl, hag, h4, h5⟩
      | panic c => exact absurd rfl (hp' c)
      | _ => exact ⟨hp', t'', rfl, hag, hq'⟩
  | .rangeFunc _ _ _ _, _, _, _, _, h => h.elim
  | .scope _, _, _, _, _, h => h.elim
  | .goto _, _, _, _, _, h => h.elim
  | .refuse _, _, _, _, _, h => h.elim

/-! A function's end. -/
def resK (P : Program) : List ResultVar → Tm → World → (List Value → Prop) → Prop
  | [], _, _, F => F []
  | .tmp s :: rs, t, w, F => resK P rs t w fun vs => F (gt t s :: vs)
  | .cell a ty :: rs, t, w, F => ldK P ty (gt t a) w fun v _ => resK P rs t w fun vs => F (v :: vs)

def tupOf : List Value → Value
  | [v] => v
  | vs => .tuple vs.toArray

def bodyQ (P : Program) (fn : Func) (K : Value → World → Prop) : Exit → Tm → World → Prop
  | .normal, t, w => resK P fn.results.toList t w fun vs => K (tupOf vs) w
  | .ret, t, w => resK P fn.results.toList t w fun vs => K (tupOf vs) w
  | _, _, _ => False

def resF (t : Tm) : ResultVar → Sem Value
  | .tmp s => pure (t.toArray.getD s undef)
  | .cell a ty => do loadVar ty (← asAddr (t.toArray.getD a undef))

theorem resK_run {P : Program} {w : World} {t : Tm} : ∀ (rs : List ResultVar) (F : List Value → Prop), resK P rs t w F →
    ∃ vs, (rs.mapM (resF t)).run P w = .ok vs w ∧ F vs
  | [], F, h => ⟨[], by simp, h⟩
  | .tmp s :: rs, F, h => by
    obtain ⟨vs, hr, hF⟩ := resK_run rs _ h
    exact ⟨_, by simp only [List.mapM_cons, resF, Sem.run_bind, Sem.run_pure, Result.andThen_ok, hr, gt_eq], hF⟩
  | .cell a ty :: rs, F, h => by
    obtain ⟨v, T, h1, h2, h3⟩ := ldK_run h
    obtain ⟨vs, hr, hF⟩ := resK_run rs _ h3
    refine ⟨v :: vs, ?_, hF⟩
    have h4 := h2 w h1
    rw [gt_eq] at h4
    have h5 : (resF t (.cell a ty)).run P w = .ok v w := by
      show (Sem.bind (asAddr (t.toArray.getD a undef)) fun p => loadVar ty p).run P w = .ok v w
      rw [Sem.run_bind']
      generalize t.toArray.getD a undef = x at h4 ⊢
      cases x with
      | pointer p => cases p with
        | none => simp [Instr.loadAt, Instr.sureAddr] at h4
        | some p => simpa [Instr.loadAt, Instr.sureAddr, asAddr] using h4
      | _ => simp [Instr.loadAt, Instr.sureAddr] at h4
    rw [List.mapM_cons, Sem.run_bind, h5]
    simp only [Result.andThen_ok, Sem.run_bind, hr, Sem.run_pure]

def bodyOf (fn : Func) : Code := fn.body.getD .skip

theorem calls_of_vc {P : Program} {ann : Nat → Option Live} {f : FuncId} {fn : Func} {c : Code} {args : List Value} {w : World} {K : Value → World → Prop}
    (hf : P.funcs[f]? = some fn) (hb : fn.body = some c)
    (h : vc P ann c 1 (bodyQ P fn K) (args ++ List.replicate (fn.ntmps - args.length) undef) w) :
    Calls P f args.toArray w fun e w' => ∃ v, e = .returned v ∧ K v w' := by
  refine calls_of_wp hf hb ?_
  have h1 : ({ tmps := args.toArray ++ Array.replicate (fn.ntmps - args.toArray.size) undef, defers := [] } : Act) = mkA (args ++ List.replicate (fn.ntmps - args.length) undef) := by
    simp [mkA]
  rw [h1]
  refine Code.wp_mono (fun e a' w' hq => ?_) (vc_wp c 1 _ _ w h)
  obtain ⟨hp, t', rfl, _, hq⟩ := hq
  have key : resK P fn.results.toList t' w' (fun vs => K (tupOf vs) w') → bodyPost P fn (fun e w' => ∃ v, e = .returned v ∧ K v w') .ret (mkA t') w' := fun hr => by
    obtain ⟨vs, hrun, hk⟩ := resK_run _ _ hr
    refine ⟨rfl, tupOf vs, ?_, tupOf vs, rfl, hk⟩
    have h2 : (results fn t'.toArray).run P w' = .ok (tupOf vs) w' := by
      have h3 : results fn t'.toArray = (do
          let vs ← fn.results.mapM (resF t')
          pure (if h : vs.size = 1 then vs[0] else .tuple vs)) := by
        unfold results
        have : (fun r => match r with
            | .tmp t => (pure (t'.toArray.getD t undef) : Sem Value)
            | .cell a t => do loadVar t (← asAddr (t'.toArray.getD a undef))) = resF t' := by
          funext x; cases x <;> rfl
        rw [← this]
        rfl
      rw [h3, Array.mapM_eq_mapM_toList]
      simp only [Sem.run_map, bind_pure_comp, hrun, Result.andThen_ok]
      cases vs with
      | nil => rfl
      | cons v vs => cases vs <;> rfl
    exact h2
  cases e with
  | normal => exact key hq
  | ret => exact key hq
  | panic c => exact absurd rfl (hp c)
  | _ => exact hq.elim

/-- The form that the printed texts use. -/
theorem calls_sh {P : Program} (ann : Nat → Option Live) {f : FuncId} {fn : Func} {args : List Value} {w : World} {K : Value → World → Prop} {S : Prop}
    (hf : P.funcs[f]? = some fn) (hb : fn.body = some (bodyOf fn))
    (h : S = vc P ann (bodyOf fn) 1 (bodyQ P fn K) (args ++ List.replicate (fn.ntmps - args.length) undef) w) (hS : S) :
    Calls P f args.toArray w fun e w' => ∃ v, e = .returned v ∧ K v w' := calls_of_vc hf hb (h ▸ hS)

def annL (l : List (Nat × Live)) (p : Nat) : Option Live :=
  match l with
  | [] => none
  | (q, lv) :: l => cond (Nat.beq q p) (some lv) (annL l p)

/-! Words of the printed texts. -/
def stK (w : World) (a : Addr) (v : Value) (R : World → Prop) : Prop :=
  v.oneCell' = true ∧ (∃ x, w.cell? a = some x) ∧ w.frozen? a = false ∧ R (w.setCell a v)

def stL (a : Addr) : Nat → List Value → World → (World → Prop) → Prop
  | _, [], w, R => R w
  | i, v :: vs, w, R => stK w (a.add i) v fun w' => stL a (i + 1) vs w' R

def newK (w : World) (o : Obj) (R : Nat → World → Prop) : Prop := R w.heap.size (w.alloc o)

def andI (k : IntKind) (x y : Int) : Int := k.wrap ((BitVec.ofInt k.bits x &&& BitVec.ofInt k.bits y).toNat : Int)
def orI (k : IntKind) (x y : Int) : Int := k.wrap ((BitVec.ofInt k.bits x ||| BitVec.ofInt k.bits y).toNat : Int)
def xorI (k : IntKind) (x y : Int) : Int := k.wrap ((BitVec.ofInt k.bits x ^^^ BitVec.ofInt k.bits y).toNat : Int)
def andNotI (k : IntKind) (x y : Int) : Int := k.wrap ((BitVec.ofInt k.bits x &&& ~~~BitVec.ofInt k.bits y).toNat : Int)

def bs (l : List UInt8) : ByteArray := ⟨l.toArray⟩

end Go.Vc

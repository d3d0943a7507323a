import Derived.Test.YtdpcgfcabikjmaaGreatDoorGx3
namespace Go.Gx
open Go Go.Vc

/-! Values put together of parts. -/
noncomputable def setAt {α : Type} : List α → Nat → List α → List α
  | [], _, _ => []
  | x :: l, 0, [] => x :: l
  | _ :: l, 0, c :: cs => c :: setAt l 0 cs
  | x :: l, n + 1, cs => x :: setAt l n cs

theorem setAt_nil {α : Type} : ∀ (l : List α) (n : Nat), setAt l n [] = l
  | [], _ => rfl
  | _ :: _, 0 => rfl
  | _ :: l, n + 1 => by simp [setAt, setAt_nil l n]

theorem setAt_cons {α : Type} : ∀ (l : List α) (n : Nat) (c : α) (cs : List α), setAt l n (c :: cs) = setAt (l.set n c) (n + 1) cs
  | [], _, _, _ => rfl
  | _ :: _, 0, _, _ => rfl
  | x :: l, n + 1, c, cs => by simp [setAt, setAt_cons l n c cs]

theorem setAt_length {α : Type} : ∀ (l : List α) (n : Nat) (cs : List α), (setAt l n cs).length = l.length
  | [], _, _ => rfl
  | _ :: _, 0, [] => rfl
  | _ :: l, 0, _ :: cs => by simp [setAt, setAt_length l 0 cs]
  | _ :: l, n + 1, cs => by simp [setAt, setAt_length l n cs]

theorem setAt_eq {α : Type} : ∀ (l : List α) (n : Nat) (cs : List α), n + cs.length ≤ l.length → setAt l n cs = l.take n ++ cs ++ l.drop (n + cs.length)
  | [], n, cs, h => by
    have h : n + cs.length ≤ 0 := h
    obtain ⟨rfl, h2⟩ : n = 0 ∧ cs.length = 0 := by omega
    have : cs = [] := List.eq_nil_of_length_eq_zero h2
    subst this
    rfl
  | _ :: _, 0, [], _ => by simp [setAt]
  | _ :: l, 0, _ :: cs, h => by
    simp at h
    simp [setAt, setAt_eq l 0 cs (by simpa using h)]
  | _ :: l, n + 1, cs, h => by
    simp at h
    rw [setAt, setAt_eq l n cs (by omega), show n + 1 + cs.length = (n + cs.length) + 1 by omega]
    simp

theorem setAt_take {α : Type} : ∀ (l : List α) (n : Nat) (cs : List α) (m : Nat), n + cs.length ≤ m → (setAt l n cs).take m = setAt (l.take m) n cs
  | [], _, _, _, _ => by simp [setAt]
  | _ :: _, 0, [], m, _ => by simp [setAt_nil]
  | _ :: l, 0, _ :: cs, m, h => by
    simp at h
    obtain ⟨m', rfl⟩ : ∃ m', m = m' + 1 := ⟨m - 1, by omega⟩
    simp [setAt, setAt_take l 0 cs m' (by omega)]
  | _ :: l, n + 1, cs, m, h => by
    obtain ⟨m', rfl⟩ : ∃ m', m = m' + 1 := ⟨m - 1, by omega⟩
    simp [setAt, setAt_take l n cs m' (by omega)]

theorem setAt_rvL {ρ : Names} : ∀ {l : List AV} {vs : List Value} (n : Nat) {cs : List AV} {us : List Value}, rvL ρ l = some vs → rvL ρ cs = some us → rvL ρ (setAt l n cs) = some (setAt vs n us)
  | [], _, _, _, _, h, _ => by cases h; rfl
  | x :: l, vs, 0, [], us, h, k => by
    cases k
    rw [setAt_nil, setAt_nil]; exact h
  | x :: l, vs, 0, c :: cs, us, h, k => by
    obtain ⟨v, vs', rfl, h1, h2⟩ := rvL_cons h
    obtain ⟨u, us', rfl, k1, k2⟩ := rvL_cons k
    exact rvL_mk k1 (setAt_rvL 0 h2 k2)
  | x :: l, vs, n + 1, cs, us, h, k => by
    obtain ⟨v, vs', rfl, h1, h2⟩ := rvL_cons h
    exact rvL_mk h1 (setAt_rvL n h2 k)

noncomputable def acells : AV → List AV
  | .agg cs => cs
  | v => [v]

theorem acells_ok {ρ : Names} {a : AV} {v : Value} (h : rv ρ a = some v) : rvL ρ (acells a) = some v.cells.toList := by
  cases a with
  | agg cs =>
    obtain ⟨vs, hvs, rfl⟩ := rv_agg h
    simpa [acells, Value.cells] using hvs
  | int k n => cases rv_int h; rfl
  | bool b => cases rv_bool h; rfl
  | str l => cases rv_str h; rfl
  | nilp => cases h; rfl
  | nils => cases h; rfl
  | nili => cases h; rfl
  | nilf => cases h; rfl
  | ptr i o => obtain ⟨L, hL, rfl⟩ := rv_ptr h; exact rvL_mk h rfl
  | sli i o l z => obtain ⟨L, hL, _, _, rfl⟩ := rv_sli h; exact rvL_mk h rfl
  | iface T x =>
    have h' := h
    simp only [rv, Option.map_eq_some_iff] at h'
    obtain ⟨u, _, rfl⟩ := h'
    exact rvL_mk h rfl
  | fn f x y =>
    have h' := h
    simp only [rv] at h'
    split at h'
    · cases h'; exact rvL_mk h rfl
    · cases h'
  | yld i =>
    have h' := h
    simp only [rv, Option.map_eq_some_iff] at h'
    obtain ⟨u, _, rfl⟩ := h'
    exact rvL_mk h rfl
  | tup vs => obtain ⟨us, _, rfl⟩ := rv_tup h; exact rvL_mk h rfl

noncomputable def afill (place : Nat → Option (Nat × Nat)) (cells : List AV) : List (Nat × AV) → Option (List AV)
  | [] => some cells
  | (i, v) :: rest => match place i with
    | none => none
    | some (off, size) => cond (Nat.beq (acells v).length size && Nat.ble (Nat.add off (acells v).length) cells.length) (afill place (setAt cells off (acells v)) rest) none

theorem zip_set (l : List Value) : ∀ (cs : List Value) (off j : Nat) , ((cs.zipIdx j).foldl (fun (a : Array Value) (x : Value × Nat) => a.setIfInBounds (off + x.2) x.1) l.toArray) = (setAt l (off + j) cs).toArray
  | [], off, j => by simp [setAt_nil]
  | c :: cs, off, j => by
    simp only [List.zipIdx_cons, List.foldl_cons, setAt_cons]
    have : l.toArray.setIfInBounds (off + j) c = (l.set (off + j) c).toArray := by simp
    rw [this, zip_set (l.set (off + j) c) cs off (j + 1)]
    rfl

noncomputable def partsR (ρ : Names) : List (Nat × AV) → List (Nat × Value) → Prop
  | [], [] => True
  | p :: ps, q :: qs => p.1 = q.1 ∧ rv ρ p.2 = some q.2 ∧ partsR ρ ps qs
  | _, _ => False

theorem afill_ok {ρ : Names} {place : Nat → Option (Nat × Nat)} : ∀ {ps : List (Nat × AV)} {qs : List (Nat × Value)} {cells res : List AV} {vs : List Value}, afill place cells ps = some res → rvL ρ cells = some vs → partsR ρ ps qs →
    ∃ us, rvL ρ res = some us ∧ Instr.fill place vs.toArray qs = some us.toArray
  | [], [], cells, res, vs, h, hv, _ => by cases h; exact ⟨vs, hv, rfl⟩
  | [], _ :: _, _, _, _, _, _, hp => hp.elim
  | _ :: _, [], _, _, _, _, _, hp => hp.elim
  | (i, a) :: ps, (j, v) :: qs, cells, res, vs, h, hv, hp => by
    obtain ⟨rfl, ha, hp⟩ := hp
    simp only [afill] at h
    unfold Instr.fill
    split at h
    · cases h
    · rename_i off size hpl
      simp only at hpl ha
      simp only [hpl]
      cases hb : (Nat.beq (acells a).length size && Nat.ble (Nat.add off (acells a).length) cells.length) with
      | false => rw [hb] at h; cases h
      | true =>
        rw [hb] at h
        simp only [Bool.and_eq_true] at hb
        have h1 := beq_iff.1 hb.1
        have h2 : off + (acells a).length ≤ cells.length := Nat.le_of_ble_eq_true hb.2
        have hc := acells_ok ha
        have hcl := rvL_length hc
        have hvl := rvL_length hv
        have hcl' : v.cells.size = size := by rw [← h1, ← hcl]; simp
        have hno : ¬ (v.cells.size ≠ size || decide (off + v.cells.size > vs.toArray.size)) = true := by
          simp [hcl']
          rw [← h1, hvl]; omega
        rw [if_neg hno]
        have hz : (v.cells.zipIdx.foldl (fun (cs : Array Value) (x : Value × Nat) => cs.setIfInBounds (off + x.2) x.1) vs.toArray) = (setAt vs off v.cells.toList).toArray := by
          have := zip_set vs v.cells.toList off 0
          rw [Nat.add_zero] at this
          rw [← this, ← Array.foldl_toList]
          congr 1
          simp
        obtain ⟨us, h3, h4⟩ := afill_ok (ps := ps) (qs := qs) h (setAt_rvL off hv hc) hp
        exact ⟨us, h3, by rw [← h4, ← hz]⟩

/-! Zero values. -/
noncomputable def zeroA (P : Program) (t : TypeId) : Option AV := match P.info? t with
  | some i => match i.zero with
    | some v => ofV v
    | none => none
  | none => none

theorem zeroA_ok {P : Program} {t : TypeId} {a : AV} (h : zeroA P t = some a) (ρ : Names) : ∃ v, rv ρ a = some v ∧ (∃ i, P.info? t = some i ∧ i.zero = some v) ∧ ∀ w, (zeroValue t).run P w = .ok v w := by
  unfold zeroA at h
  split at h
  · rename_i i hi
    split at h
    · rename_i v hz
      exact ⟨v, ofV_rv h, ⟨i, hi, hz⟩, fun w => by simp [zeroValue, typeInfo, hi, hz]⟩
    · cases h
  · cases h

noncomputable def plcs (P : Program) : List Field → Option (List (Nat × Nat))
  | [] => some []
  | f :: fs => match szOf P f.type, plcs P fs with
    | some s, some l => some ((f.offset, s) :: l)
    | _, _ => none

theorem plcs_ok {P : Program} {w : World} : ∀ {fs : List Field} {l : List (Nat × Nat)}, plcs P fs = some l → (fs.mapM fun f => (do pure (f.offset, ← sizeOf f.type) : Sem (Nat × Nat))).run P w = .ok l w
  | [], l, h => by cases h; simp
  | f :: fs, l, h => by
    simp only [plcs] at h
    cases hs : szOf P f.type with
    | none => rw [hs] at h; cases h
    | some s =>
      cases hl : plcs P fs with
      | none => rw [hs, hl] at h; cases h
      | some l' =>
        rw [hs, hl] at h
        cases h
        have ih := plcs_ok (w := w) hl
        simp only [List.mapM_cons, Sem.run_bind, sz_run hs, Sem.run_pure, Result.andThen_ok, ih]

noncomputable def gbld (P : Program) (ty : TypeId) (ps : List (Nat × AV)) : Option AV := match zeroA P ty with
  | some z => match P.underlying ty with
    | some (.struct fs) => match plcs P fs.toList with
      | some pl => (afill (fun i => lget pl i) (acells z) ps).map .agg
      | none => none
    | some (.array _ e) => match szOf P e with
      | some sz => (afill (fun i => some (Nat.mul i sz, sz)) (acells z) ps).map .agg
      | none => none
    | _ => none
  | none => none

theorem gbld_ok {P : Program} {ρ : Names} {ty : TypeId} {ps : List (Nat × AV)} {qs : Array (Nat × Value)} {r : AV} (h : gbld P ty ps = some r) (hp : partsR ρ ps qs.toList) : PureOK P ρ (Instr.build ty qs) r := by
  unfold gbld at h
  split at h
  · rename_i z hz
    obtain ⟨v, hv, _, hzr⟩ := zeroA_ok hz ρ
    have hvc := acells_ok hv
    split at h
    · rename_i fs hu
      split at h
      · rename_i pl hpl
        simp only [Option.map_eq_some_iff] at h
        obtain ⟨res, hres, rfl⟩ := h
        obtain ⟨us, h1, h2⟩ := afill_ok hres hvc hp
        refine ⟨.agg us.toArray, by simp only [rv, h1, Option.map_some], fun w => ?_⟩
        have hm : (fs.mapM fun f => (do pure (f.offset, ← sizeOf f.type) : Sem (Nat × Nat))).run P w = .ok pl.toArray w := by
          rw [Array.mapM_eq_mapM_toList]
          simp only [Sem.run_map, plcs_ok hpl, Result.andThen_ok]
        have h2' : Instr.fill (fun x => pl.toArray[x]?) v.cells qs.toList = some us.toArray := by
          rw [← h2]
          congr 1
          · funext x; rw [lget_eq]; simp
        simp only [Instr.build, Sem.run_bind, hzr, und_run hu, Result.andThen_ok, hm, h2']
        simp
      · cases h
    · rename_i n e hu
      split at h
      · rename_i sz hsz
        simp only [Option.map_eq_some_iff] at h
        obtain ⟨res, hres, rfl⟩ := h
        obtain ⟨us, h1, h2⟩ := afill_ok hres hvc hp
        refine ⟨.agg us.toArray, by simp only [rv, h1, Option.map_some], fun w => ?_⟩
        have h2' : Instr.fill (fun i => some (i * sz, sz)) v.cells qs.toList = some us.toArray := by
          rw [← h2]; rfl
        simp only [Instr.build, Sem.run_bind, hzr, und_run hu, sz_run hsz, Result.andThen_ok, h2']
        simp
      · cases h
    · cases h
  · cases h

noncomputable def aevP (e : Tr AV) : List (Nat × Operand) → Option (List (Nat × AV))
  | [] => some []
  | (i, x) :: l => match aev e x, aevP e l with
    | some a, some az => some ((i, a) :: az)
    | _, _ => none

theorem aevP_ok {ρ : Names} {e : Tr AV} {t : Tm} (he : EnvOK ρ e t) : ∀ {l : List (Nat × Operand)} {az : List (Nat × AV)}, aevP e l = some az → partsR ρ az (l.map fun x => (x.1, ev t x.2))
  | [], _, h => by cases h; trivial
  | (i, x) :: l, az, h => by
    simp only [aevP] at h
    cases ha : aev e x with
    | none => rw [ha] at h; cases h
    | some a =>
      cases hl : aevP e l with
      | none => rw [ha, hl] at h; cases h
      | some bs =>
        rw [ha, hl] at h
        cases h
        exact ⟨rfl, aev_ev he ha, aevP_ok he hl⟩

/-! Lengths; the least, the greatest. -/
noncomputable def glen (P : Program) (ty : TypeId) (a : AV) : Option AV := match P.underlying ty, a with
  | some .string, .str s => some (.int .i64 (.ofNat s.length))
  | some (.slice _), .sli _ _ l _ => some (.int .i64 (.ofNat l))
  | some (.slice _), .nils => some (.int .i64 (.ofNat 0))
  | some (.array n _), _ => some (.int .i64 (.ofNat n))
  | some (.pointer b), _ => match P.underlying b with
    | some (.array n _) => some (.int .i64 (.ofNat n))
    | _ => none
  | _, _ => none

theorem glen_ok {P : Program} {ρ : Names} {ty dst : TypeId} {a r : AV} {v : Value} {tys : Array TypeId} (h : glen P ty a = some r) (ha : rv ρ a = some v) (ht : tys[0]? = some ty) : PureOK P ρ (Builtin.len_ tys dst #[v]) r := by
  unfold glen at h
  split at h
  · rename_i s hu
    cases rv_str ha; cases h
    refine ⟨_, rfl, fun w => ?_⟩
    have hs : (⟨s.toArray⟩ : ByteArray).size = s.length := by simp [ByteArray.size]
    simp [Builtin.len_, ht, und_run hu, hs, goInt]
  · rename_i e i o l z hu
    obtain ⟨L, _, _, _, rfl⟩ := rv_sli ha
    cases h
    exact ⟨_, rfl, fun w => by simp [Builtin.len_, ht, und_run hu, goInt]⟩
  · rename_i e hu
    cases ha; cases h
    exact ⟨_, rfl, fun w => by simp [Builtin.len_, ht, und_run hu, goInt]⟩
  · rename_i n e hu
    cases h
    exact ⟨_, rfl, fun w => by simp [Builtin.len_, ht, und_run hu, goInt]⟩
  · rename_i b hu
    split at h
    · rename_i n e hb
      cases h
      exact ⟨_, rfl, fun w => by simp [Builtin.len_, ht, und_run hu, und_run hb, goInt]⟩
    · cases h
  · cases h

noncomputable def gmm (mx : Bool) : AV → List AV → Option AV
  | a, [] => some a
  | a, b :: l => match a, b with
    | .int k x, .int _ y => gmm mx (.int k (cond mx (cond (ile y x) x y) (cond (ile x y) x y))) l
    | _, _ => none

theorem gmm_ok {P : Program} {ρ : Names} {mx : Bool} : ∀ {l : List AV} {a r : AV} {vs : List Value} {v : Value}, gmm mx a l = some r → rv ρ a = some v → rvL ρ l = some vs →
    ∃ u, rv ρ r = some u ∧ ∀ w, (vs.foldlM (cond mx Builtin.max2 Builtin.min2) v).run P w = .ok u w
  | [], a, r, vs, v, h, ha, hl => by
    cases h; cases hl
    exact ⟨v, ha, fun w => by simp⟩
  | b :: l, a, r, vs, v, h, ha, hl => by
    obtain ⟨vb, vs', rfl, hb, hl'⟩ := rvL_cons hl
    unfold gmm at h
    split at h
    · rename_i k x k' y
      cases rv_int ha; cases rv_int hb
      obtain ⟨u, h1, h2⟩ := gmm_ok (P := P) h rfl hl'
      refine ⟨u, h1, fun w => ?_⟩
      rw [List.foldlM_cons, Sem.run_bind]
      have h3 : ((cond mx Builtin.max2 Builtin.min2) (.int k x) (.int k' y)).run P w = .ok (.int k (cond mx (cond (ile y x) x y) (cond (ile x y) x y))) w := by
        cases mx with
        | true =>
          simp only [cond_true, Builtin.max2, Sem.run_pure, ile_eq]
          by_cases hc : y ≤ x
          · simp [hc, Int.not_lt.2 hc]
          · simp [hc, Int.not_le.1 hc]
        | false =>
          simp only [cond_false, Builtin.min2, Sem.run_pure, ile_eq]
          by_cases hc : x ≤ y
          · simp [hc, Int.not_lt.2 hc]
          · simp [hc, Int.not_le.1 hc]
      rw [h3]
      exact h2 w
    · cases h

end Go.Gx

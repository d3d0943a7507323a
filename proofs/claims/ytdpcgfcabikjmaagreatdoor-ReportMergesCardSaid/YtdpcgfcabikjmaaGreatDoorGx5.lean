import Derived.Test.YtdpcgfcabikjmaaGreatDoorGx4
namespace Go.Gx
open Go Go.Vc

noncomputable def aevO (e : Tr AV) : Option Operand → Option (Option AV)
  | none => some none
  | some x => match aev e x with
    | some a => some (some a)
    | none => none

theorem aevO_ok {ρ : Names} {e : Tr AV} {t : Tm} (he : EnvOK ρ e t) {x : Option Operand} {r : Option AV} (h : aevO e x = some r) :
    (∀ a, r = some a → ∃ v, x.map (ev t) = some v ∧ rv ρ a = some v) ∧ (r = none → x.map (ev t) = none) := by
  cases x with
  | none => cases h; exact ⟨fun a h => (by cases h), fun _ => rfl⟩
  | some x =>
    simp only [aevO] at h
    cases ha : aev e x with
    | none => rw [ha] at h; cases h
    | some a =>
      rw [ha] at h
      cases h
      exact ⟨fun b hb => by cases hb; exact ⟨_, rfl, aev_ev he ha⟩, fun h => (by cases h)⟩

/-! Operations that only reckon. -/
noncomputable def gpu (P : Program) (o : Oper) (e : Tr AV) : Option AV := match o.op with
  | .move x => aev e x
  | .assign x => aev e x
  | .pick c a b => match aev e c with
    | some (.bool x) => aev e (cond x a b)
    | _ => none
  | .nilCheck x => match aev e x with
    | some (.ptr i j) => some (.ptr i j)
    | _ => none
  | .convert src dst x => match P.underlying src, P.underlying dst, aev e x with
    | some _, some (.int k), some (.int _ n) => some (frc k (gwrap k n))
    | some .string, some .string, some (.str s) => some (.str s)
    | _, _, _ => none
  | .fieldAddr ty x f => match goff P ty f, aev e x with
    | some off, some (.ptr i j) => some (.ptr i (Nat.add j off))
    | _, _ => none
  | .field ty x f => match aev e x with
    | some a => gfld P ty a f
    | none => none
  | .extract x i => match aev e x with
    | some (.tup vs) => lget vs i
    | _ => none
  | .makeInterface ty x => match P.underlying ty, aev e x with
    | some (.interface _), _ => none
    | some _, some a => some (.iface ty a)
    | _, _ => none
  | .makeFunc fn first cap => match fn, aevL e first.toList, aevL e cap.toList with
    | .func f, some xs, some ys => some (.fn f xs ys)
    | _, _, _ => none
  | .unOp op _ x => match op, aev e x with
    | .not, some (.bool b) => some (.bool (not b))
    | .neg, some (.int k n) => some (frc k (gwrap k (Int.sub 0 n)))
    | _, _ => none
  | .binOp op ty x y _ => match aev e x, aev e y with
    | some a, some b => gbin P op ty x y a b
    | _, _ => none
  | .index ty x i => match aev e x, aev e i with
    | some a, some b => gidx P ty a b
    | _, _ => none
  | .indexAddr ty x i => match aev e x, aev e i with
    | some a, some b => gixa P ty a b
    | _, _ => none
  | .slice ty x lo hi none => match aev e x, aevO e lo, aevO e hi with
    | some a, some l, some h => gslc P ty a l h
    | _, _, _ => none
  | .build ty ps => match aevP e ps.toList with
    | some ps => gbld P ty ps
    | none => none
  | .call { callee := .builtin .len, args := args, argTypes := tys } => match args.toList, tys[0]? with
    | [x], some ty => match aev e x with
      | some a => glen P ty a
      | none => none
    | _, _ => none
  | .call { callee := .builtin .min, args := args, argTypes := _ } => match aevL e args.toList with
    | some (a :: l) => gmm false a l
    | _ => none
  | .call { callee := .builtin .max, args := args, argTypes := _ } => match aevL e args.toList with
    | some (a :: l) => gmm true a l
    | _ => none
  | .call { callee := .builtin .cap, args := args, argTypes := tys } => match args.toList, tys[0]? with
    | [x], some ty => match aev e x, P.underlying ty with
      | some .nils, some (.slice _) => some (.int .i64 (.ofNat 0))
      | _, _ => none
    | _, _ => none
  | _ => none

theorem rv_nils {ρ : Names} {v : Value} (h : rv ρ .nils = some v) : v = .slice none 0 0 := (Option.some.inj h).symm

theorem gpu_ok {P : Program} {ρ : Names} {o : Oper} {e : Tr AV} {t : Tm} {a : AV} (h : gpu P o e = some a) (he : EnvOK ρ e t) :
    ∃ v, rv ρ a = some v ∧ ∀ w, (execOp (ev t) o).run P w = .ok (.value v) w := by
  have lift : ∀ {s : Sem Value}, (execOp (ev t) o = do pure (.value (← s))) → PureOK P ρ s a → ∃ v, rv ρ a = some v ∧ ∀ w, (execOp (ev t) o).run P w = .ok (.value v) w := fun {s} hs hp => by
    obtain ⟨v, h1, h2⟩ := hp
    exact ⟨v, h1, fun w => by rw [hs]; simp only [Sem.run_bind, h2, Result.andThen_ok, Sem.run_pure]⟩
  unfold gpu at h
  split at h
  · rename_i x hx
    exact ⟨_, aev_ev he h, fun w => by simp [execOp, hx]⟩
  · rename_i x hx
    exact ⟨_, aev_ev he h, fun w => by simp [execOp, hx]⟩
  · rename_i c x y hx
    split at h
    · rename_i b hc
      have hcv : ev t c = .bool b := rv_bool (aev_ev he hc)
      refine ⟨_, aev_ev he h, fun w => ?_⟩
      cases b <;> simp [execOp, hx, hcv, asBool]
    · cases h
  · rename_i x hx
    split at h
    · rename_i i j ha
      cases h
      have hv := aev_ev he ha
      obtain ⟨L, hL, hv'⟩ := rv_ptr hv
      exact ⟨_, hv, fun w => by simp [execOp, hx, hv']⟩
    · cases h
  · rename_i src dst x hx
    split at h
    · rename_i d k k' n hs hd ha
      cases h
      have hv : ev t x = .int k' n := rv_int (aev_ev he ha)
      exact ⟨_, by rw [frc_eq]; rfl, fun w => by simp [execOp, hx, hv, convert, und_run hs, und_run hd, Conv.intToInt, gwrap_eq]⟩
    · rename_i s hs hd ha
      cases h
      have hv := aev_ev he ha
      have hv' := rv_str hv
      exact ⟨_, hv, fun w => by simp [execOp, hx, hv', convert, und_run hs, und_run hd]⟩
    · cases h
  · rename_i ty x f hx
    split at h
    · rename_i off i j ho ha
      cases h
      obtain ⟨L, hL, hv⟩ := rv_ptr (aev_ev he ha)
      refine lift (s := Instr.fieldAt ty (ev t x) f) (by simp [execOp, hx]) ⟨.pointer (some ⟨L.b, j + off, none⟩), by simp only [rv, hL, Option.map_some]; rfl, fun w => by rw [hv]; exact goff_ok ho w⟩
    · cases h
  · rename_i ty x f hx
    split at h
    · rename_i a' ha
      exact lift (s := Instr.field ty (ev t x) f) (by simp [execOp, hx]) (gfld_ok h (aev_ev he ha))
    · cases h
  · rename_i x i hx
    split at h
    · rename_i vs ha
      obtain ⟨us, hus, hv⟩ := rv_tup (aev_ev he ha)
      rw [lget_eq] at h
      obtain ⟨u, h1, h2⟩ := rvL_get hus h
      exact lift (s := Instr.extract (ev t x) i) (by simp [execOp, hx]) ⟨u, h2, fun w => by rw [hv]; simp [Instr.extract, h1]⟩
    · cases h
  · rename_i ty x hx
    split at h
    · cases h
    · rename_i d a' hni hu ha
      cases h
      refine lift (s := Instr.makeInterface ty (ev t x)) (by simp [execOp, hx]) ⟨.iface ty (ev t x), by simp only [rv, aev_ev he ha, Option.map_some], fun w => ?_⟩
      simp only [Instr.makeInterface, Sem.run_bind, und_run hu, Result.andThen_ok]
      cases d <;> first | rfl | exact absurd rfl (hni _)
    · cases h
  · rename_i fn first cap hx
    split at h
    · rename_i f xs ys h1 h2
      cases h
      have g1 := aevL_ev he h1
      have g2 := aevL_ev he h2
      refine lift (s := Instr.makeFunc (.func f) (first.map (ev t)) (cap.map (ev t))) (by simp [execOp, hx]) ⟨.func (.func f) (first.toList.map (ev t)).toArray (cap.toList.map (ev t)).toArray, by simp only [rv, g1, g2], fun w => ?_⟩
      have e1 : first.map (ev t) = (first.toList.map (ev t)).toArray := Array.ext' (by rw [Array.toList_map])
      have e2 : cap.map (ev t) = (cap.toList.map (ev t)).toArray := Array.ext' (by rw [Array.toList_map])
      simp only [Instr.makeFunc, Sem.run_pure, e1, e2]
    · cases h
  · rename_i op ty x hx
    split at h
    · rename_i b ha
      cases h
      have hv : ev t x = .bool b := rv_bool (aev_ev he ha)
      exact lift (s := Op.unary .not (ev t x)) (by simp [execOp, hx]) ⟨_, rfl, fun w => by simp [hv, Op.unary]⟩
    · rename_i k n ha
      cases h
      have hv : ev t x = .int k n := rv_int (aev_ev he ha)
      exact lift (s := Op.unary .neg (ev t x)) (by simp [execOp, hx]) ⟨_, by rw [frc_eq]; rfl, fun w => by rw [hv, gwrap_eq]; rfl⟩
    · cases h
  · rename_i op ty x y yt hx
    split at h
    · rename_i a' b' ha hb
      exact lift (s := do eqGuard op ty x y (ev t x) (ev t y); binOp op ty (ev t x) (ev t y)) (by simp only [execOp, hx]) (gbin_ok h (aev_ev he ha) (aev_ev he hb))
    · cases h
  · rename_i ty x i hx
    split at h
    · rename_i a' b' ha hb
      exact lift (s := Instr.index ty (ev t x) (ev t i)) (by simp [execOp, hx]) (gidx_ok h (aev_ev he ha) (aev_ev he hb))
    · cases h
  · rename_i ty x i hx
    split at h
    · rename_i a' b' ha hb
      exact lift (s := Instr.indexAt ty (ev t x) (ev t i)) (by simp [execOp, hx]) (gixa_ok h (aev_ev he ha) (aev_ev he hb))
    · cases h
  · rename_i ty x lo hi hx
    split at h
    · rename_i a' l' h' ha hl hh
      obtain ⟨l1, l2⟩ := aevO_ok he hl
      obtain ⟨h1, h2⟩ := aevO_ok he hh
      exact lift (s := Instr.sliceAt ty (ev t x) (lo.map (ev t)) (hi.map (ev t)) none) (by simp [execOp, hx]) (gslc_ok h (aev_ev he ha) l1 l2 h1 h2)
    · cases h
  · rename_i ty ps hx
    split at h
    · rename_i az hps
      have hp := aevP_ok he hps
      refine lift (s := Instr.build ty (ps.map fun (i, x) => (i, ev t x))) (by simp [execOp, hx]) (gbld_ok h ?_)
      simpa using hp
    · cases h
  · rename_i args tys hx
    split at h
    · rename_i x ty hargs ht
      split at h
      · rename_i a' ha
        refine lift (s := Builtin.len_ tys o.type #[ev t x]) ?_ (glen_ok h (aev_ev he ha) ht)
        have : args.map (ev t) = #[ev t x] := by
          have : args = #[x] := by rw [← hargs]
          rw [this]; simp
        simp [execOp, hx, resolve, invoke, builtin, this]
      · cases h
    · cases h
  · rename_i args tys hx
    split at h
    · rename_i a' l hl
      have hv := aevL_ev he hl
      obtain ⟨u, us, hm, h1, h2⟩ := rvL_cons hv
      obtain ⟨r, g1, g2⟩ := gmm_ok (P := P) h h1 h2
      refine lift (s := Builtin.min_ tys o.type (args.map (ev t))) (by simp [execOp, hx, resolve, invoke, builtin]) ⟨r, g1, fun w => ?_⟩
      have : (args.map (ev t)).toList = u :: us := by simpa using hm
      simp only [Builtin.min_, this]
      exact g2 w
    · cases h
  · rename_i args tys hx
    split at h
    · rename_i a' l hl
      have hv := aevL_ev he hl
      obtain ⟨u, us, hm, h1, h2⟩ := rvL_cons hv
      obtain ⟨r, g1, g2⟩ := gmm_ok (P := P) h h1 h2
      refine lift (s := Builtin.max_ tys o.type (args.map (ev t))) (by simp [execOp, hx, resolve, invoke, builtin]) ⟨r, g1, fun w => ?_⟩
      have : (args.map (ev t)).toList = u :: us := by simpa using hm
      simp only [Builtin.max_, this]
      exact g2 w
    · cases h
  · rename_i args tys hx
    split at h
    · rename_i x ty hargs ht
      split at h
      · rename_i e' ha hu
        cases h
        refine lift (s := Builtin.cap_ tys o.type #[.slice none 0 0]) ?_ ⟨_, rfl, fun w => by simp [Builtin.cap_, ht, und_run hu, goInt]⟩
        have : args.map (ev t) = #[ev t x] := by
          have : args = #[x] := by rw [← hargs]
          rw [this]; simp
        simp [execOp, hx, resolve, invoke, builtin, this, rv_nils (aev_ev he ha)]
      · cases h
    · cases h
  · cases h

/-! What a reader hangs on. -/
structure Dep where
  i : Nat
  o : Nat
  vs : List AV

noncomputable def factOf (ρ : Names) (d : Dep) : World → Prop := fun w => ∃ L vs, ρ d.i = some L ∧ rvL ρ d.vs = some vs ∧ cellsAt w ⟨L.b, d.o, none⟩ 0 vs

noncomputable def cellsOfH (h : AH) (i o n : Nat) : Option (List AV) := match h.get i with
  | some (some ao) => cond (Nat.ble (Nat.add o n) ao.cells.length) (some ((ao.cells.drop o).take n)) none
  | _ => none

theorem cells_fact {w0 w : World} {ρ : Names} {h : AH} (hr : Rep w0 w ρ h) {i o n : Nat} {az : List AV} (hc : cellsOfH h i o n = some az) :
    ∃ L vs, ρ i = some L ∧ rvL ρ az = some vs ∧ vs.length = n ∧ cellsAt w ⟨L.b, o, none⟩ 0 vs := by
  unfold cellsOfH at hc
  split at hc
  · rename_i ao hi
    cases hb : Nat.ble (Nat.add o n) ao.cells.length with
    | false => rw [hb] at hc; cases hc
    | true =>
      rw [hb] at hc
      cases hc
      have hle : o + n ≤ ao.cells.length := Nat.le_of_ble_eq_true hb
      obtain ⟨L, cur, vs, hl⟩ := hr.live i ao hi
      have hv := rvL_take n (rvL_drop o hl.val)
      refine ⟨L, _, hl.at_, hv, ?_, cells_of _ 0 fun j u hj => ?_⟩
      · have := rvL_length hl.val
        simp; omega
      · rw [List.getElem?_take] at hj
        split at hj
        · rw [List.getElem?_drop] at hj
          have ha : ∃ a, ao.cells[o + j]? = some a := ⟨ao.cells[o + j]'(by omega), by simp [show o + j < ao.cells.length by omega]⟩
          obtain ⟨a, ha⟩ := ha
          obtain ⟨v, hv1, hv2⟩ := rvL_get hl.val ha
          rw [hv1] at hj
          have hj : v = u := Option.some.inj hj
          subst hj
          obtain ⟨v', hv', hcell⟩ := hl.cell ha
          have : v' = v := Option.some.inj (hv'.symm.trans hv2)
          subst this
          have e : (⟨L.b, o, none⟩ : Addr).add (0 + j) = ⟨L.b, o + j, none⟩ := by rw [addA2]; congr 1; omega
          rw [e]
          exact hcell
        · cases hj
  · cases hc

/-- How many cells a value of a type takes; whether it is of several parts. -/
noncomputable def sizeT (P : Program) (ty : TypeId) : Option (Nat × Bool) := match P.underlying ty, szOf P ty with
  | some d, some n => cond (isAggD d) (some (n, true)) (some (1, false))
  | _, _ => none

noncomputable def packA (b : Bool) (az : List AV) : Option AV := match b, az with
  | true, az => some (.agg az)
  | false, [a] => some a
  | false, _ => none

noncomputable def gld (P : Program) (ty : TypeId) (a : AV) (h : AH) : Option (AV × List Dep) := match a, sizeT P ty with
  | .ptr i o, some (n, b) => match cellsOfH h i o n with
    | some az => match packA b az with
      | some r => some (r, [⟨i, o, az⟩])
      | none => none
    | none => none
  | _, _ => none

theorem gld_ok {P : Program} {ty : TypeId} {a r : AV} {h : AH} {ds : List Dep} (hg : gld P ty a h = some (r, ds)) {w0 w : World} {ρ : Names} (hr : Rep w0 w ρ h) {va : Value} (ha : rv ρ a = some va) :
    ∃ v, rv ρ r = some v ∧ holds (ds.map (factOf ρ)) w ∧ ∀ w', holds (ds.map (factOf ρ)) w' → (Instr.loadAt ty va).run P w' = .ok v w' := by
  unfold gld at hg
  split at hg
  · rename_i i o n b hs
    split at hg
    · rename_i az hc
      split at hg
      · rename_i r' hp
        cases hg
        obtain ⟨L, hL, rfl⟩ := rv_ptr ha
        obtain ⟨L', vs, hL', hvs, hlen, hat⟩ := cells_fact hr hc
        obtain rfl : L = L' := Option.some.inj (hL.symm.trans hL')
        have hT : holds (([⟨i, o, az⟩] : List Dep).map (factOf ρ)) w := fun f hf => by
          simp at hf; subst hf
          exact ⟨L, vs, hL, hvs, hat⟩
        have hfact : ∀ w', holds (([⟨i, o, az⟩] : List Dep).map (factOf ρ)) w' → cellsAt w' ⟨L.b, o, none⟩ 0 vs := by
          intro w' hw'
          obtain ⟨L2, vs2, h1, h2, h3⟩ := hw' (factOf ρ ⟨i, o, az⟩) (List.mem_cons_self ..)
          obtain rfl : L = L2 := Option.some.inj (hL.symm.trans h1)
          obtain rfl : vs = vs2 := Option.some.inj (hvs.symm.trans h2)
          exact h3
        unfold sizeT at hs
        split at hs
        · rename_i d n' hu hsz
          cases hd : isAggD d with
          | false =>
            rw [hd] at hs
            cases hs
            have hag : ∀ w, (isAgg ty).run P w = .ok false w := fun w => by cases d <;> first | (cases hd; done) | simp [isAgg, und_run hu]
            unfold packA at hp
            split at hp
            · rename_i heq; cases heq
            · rename_i a0
              cases hp
              obtain ⟨v0, us, rfl, hv0, hu'⟩ := rvL_cons hvs
              cases hu'
              refine ⟨v0, hv0, hT, fun w' hw' => ?_⟩
              have h3 := (hfact w' hw').1
              have h3 : w'.cell? ⟨L.b, o, none⟩ = some v0 := by simpa [Addr.add] using h3
              simp [Instr.loadAt, Instr.sureAddr, loadVar, hag, h3]
            · cases hp
          | true =>
            rw [hd] at hs
            cases hs
            have hag : ∀ w, (isAgg ty).run P w = .ok true w := fun w => by cases d <;> first | (cases hd; done) | simp [isAgg, und_run hu]
            unfold packA at hp
            split at hp
            · cases hp
              refine ⟨.agg vs.toArray, by simp only [rv, hvs, Option.map_some], hT, fun w' hw' => ?_⟩
              have h3 := hfact w' hw'
              have hn : szOf P ty = some vs.length := by rw [hlen]; exact hsz
              simp only [Instr.loadAt, Instr.sureAddr, loadVar, Sem.run_bind, Sem.run_pure, Result.andThen_ok, hag, if_true, sz_run hn, loadCells, cells_run vs 0 _ h3]
              simp
            · rename_i heq; cases heq
            · rename_i heq _; cases heq
        · cases hs
      · cases hg
    · cases hg
  · cases hg

noncomputable def grd (P : Program) (o : Oper) (e : Tr AV) (h : AH) : Option (AV × List Dep) := match o.op with
  | .load ty x => match aev e x with
    | some a => gld P ty a h
    | none => none
  | _ => match gpu P o e with
    | some a => some (a, [])
    | none => none

theorem grd_ok {P : Program} {o : Oper} {e : Tr AV} {h : AH} {a : AV} {ds : List Dep} (hg : grd P o e h = some (a, ds)) {w0 w : World} {ρ : Names} (hr : Rep w0 w ρ h) {t : Tm} (he : EnvOK ρ e t) :
    ∃ v, rv ρ a = some v ∧ holds (ds.map (factOf ρ)) w ∧ ∀ w', holds (ds.map (factOf ρ)) w' → (execOp (ev t) o).run P w' = .ok (.value v) w' := by
  unfold grd at hg
  split at hg
  · rename_i ty x hx
    split at hg
    · rename_i a' ha
      obtain ⟨v, h1, h2, h3⟩ := gld_ok hg hr (aev_ev he ha)
      exact ⟨v, h1, h2, fun w' hw' => by simp [execOp, hx, h3 w' hw']⟩
    · cases hg
  · split at hg
    · rename_i a' ha
      cases hg
      obtain ⟨v, h1, h2⟩ := gpu_ok ha he
      exact ⟨v, h1, fun f hf => (by cases hf), fun w' _ => h2 w'⟩
    · cases hg

end Go.Gx

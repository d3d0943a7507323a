import Derived.Test.YtdpcgfcabikjmaaGreatDoorGxA
namespace Go.Gx
open Go Go.Vc

/-! Sameness. -/
mutual
noncomputable def beqA : AV → AV → Bool
  | .int k n, .int k' m => cond (eqK k k') (ieq n m) false
  | .bool a, .bool b => cond a b (not b)
  | .str l, .str m => lbeq l m
  | .nilp, .nilp => true
  | .ptr i o, .ptr j p => cond (Nat.beq i j) (Nat.beq o p) false
  | .nils, .nils => true
  | .sli i o l z, .sli i' o' l' z' => cond (Nat.beq i i') (cond (Nat.beq o o') (cond (Nat.beq l l') (Nat.beq z z') false) false) false
  | .nili, .nili => true
  | .iface T v, .iface T' v' => cond (Nat.beq T T') (beqA v v') false
  | .nilf, .nilf => true
  | .fn f x y, .fn f' x' y' => cond (Nat.beq f f') (cond (beqL x x') (beqL y y') false) false
  | .yld i, .yld j => Nat.beq i j
  | .agg cs, .agg cs' => beqL cs cs'
  | .tup cs, .tup cs' => beqL cs cs'
  | _, _ => false
noncomputable def beqL : List AV → List AV → Bool
  | [], [] => true
  | a :: l, b :: m => cond (beqA a b) (beqL l m) false
  | _, _ => false
end

theorem condT {a b : Bool} (h : cond a b false = true) : a = true ∧ b = true := by cases a <;> simp_all

mutual
theorem beqA_eq : ∀ {a b : AV}, beqA a b = true → a = b
  | .int k n, b, h => by
    cases b <;> simp only [beqA] at h <;> try cases h
    obtain ⟨h1, h2⟩ := condT h
    rw [ieq_eq] at h2
    rw [eqK_spec h1, eq_of_beq h2]
  | .bool x, b, h => by
    cases b <;> simp only [beqA] at h <;> try cases h
    rename_i y
    cases x <;> cases y <;> first | rfl | cases h
  | .str l, b, h => by
    cases b <;> simp only [beqA] at h <;> try cases h
    rw [lbeq_eq] at h
    rw [eq_of_beq h]
  | .nilp, b, h => by cases b <;> simp only [beqA] at h <;> first | rfl | cases h
  | .nils, b, h => by cases b <;> simp only [beqA] at h <;> first | rfl | cases h
  | .nili, b, h => by cases b <;> simp only [beqA] at h <;> first | rfl | cases h
  | .nilf, b, h => by cases b <;> simp only [beqA] at h <;> first | rfl | cases h
  | .ptr i o, b, h => by
    cases b <;> simp only [beqA] at h <;> try cases h
    obtain ⟨h1, h2⟩ := condT h
    rw [beq_iff.1 h1, beq_iff.1 h2]
  | .sli i o l z, b, h => by
    cases b <;> simp only [beqA] at h <;> try cases h
    obtain ⟨h1, h⟩ := condT h
    obtain ⟨h2, h⟩ := condT h
    obtain ⟨h3, h4⟩ := condT h
    rw [beq_iff.1 h1, beq_iff.1 h2, beq_iff.1 h3, beq_iff.1 h4]
  | .iface T v, b, h => by
    cases b <;> simp only [beqA] at h <;> try cases h
    obtain ⟨h1, h2⟩ := condT h
    rw [beq_iff.1 h1, beqA_eq h2]
  | .fn f x y, b, h => by
    cases b <;> simp only [beqA] at h <;> try cases h
    obtain ⟨h1, h⟩ := condT h
    obtain ⟨h2, h3⟩ := condT h
    rw [beq_iff.1 h1, beqL_eq h2, beqL_eq h3]
  | .yld i, b, h => by
    cases b <;> simp only [beqA] at h <;> try cases h
    rw [beq_iff.1 h]
  | .agg cs, b, h => by
    cases b <;> simp only [beqA] at h <;> try cases h
    rw [beqL_eq h]
  | .tup cs, b, h => by
    cases b <;> simp only [beqA] at h <;> try cases h
    rw [beqL_eq h]
theorem beqL_eq : ∀ {l m : List AV}, beqL l m = true → l = m
  | [], [], _ => rfl
  | [], _ :: _, h => by simp [beqL] at h
  | _ :: _, [], h => by simp [beqL] at h
  | a :: l, b :: m, h => by
    simp only [beqL] at h
    obtain ⟨h1, h2⟩ := condT h
    rw [beqA_eq h1, beqL_eq h2]
end

noncomputable def beqT {α : Type} (f : α → α → Bool) : List (Nat × α) → List (Nat × α) → Bool
  | [], [] => true
  | a :: l, b :: m => cond (Nat.beq a.1 b.1) (cond (f a.2 b.2) (beqT f l m) false) false
  | _, _ => false

theorem beqT_eq {α : Type} {f : α → α → Bool} (hf : ∀ {a b}, f a b = true → a = b) : ∀ {l m : List (Nat × α)}, beqT f l m = true → l = m
  | [], [], _ => rfl
  | [], _ :: _, h => by simp [beqT] at h
  | _ :: _, [], h => by simp [beqT] at h
  | (i, a) :: l, (j, b) :: m, h => by
    simp only [beqT] at h
    obtain ⟨h1, h⟩ := condT h
    obtain ⟨h2, h3⟩ := condT h
    rw [beq_iff.1 h1, hf h2, beqT_eq hf h3]

noncomputable def Tr.beq {α : Type} (f : α → α → Bool) : Tr α → Tr α → Bool
  | .leaf l, .leaf m => beqT f l m
  | .node a b, .node c d => cond (Tr.beq f a c) (Tr.beq f b d) false
  | _, _ => false

theorem Tr.beq_eq {α : Type} {f : α → α → Bool} (hf : ∀ {a b}, f a b = true → a = b) : ∀ {t u : Tr α}, Tr.beq f t u = true → t = u
  | .leaf l, .leaf m, h => by rw [beqT_eq hf (show beqT f l m = true from h)]
  | .leaf _, .node _ _, h => by simp [Tr.beq] at h
  | .node _ _, .leaf _, h => by simp [Tr.beq] at h
  | .node a b, .node c d, h => by
    simp only [Tr.beq] at h
    obtain ⟨h1, h2⟩ := condT h
    rw [Tr.beq_eq hf h1, Tr.beq_eq hf h2]

noncomputable def beqO : Option AO → Option AO → Bool
  | none, none => true
  | some a, some b => cond (Nat.beq a.T b.T) (cond (beqL a.cells b.cells) (cond a.ro b.ro (not b.ro)) false) false
  | _, _ => false

theorem beqO_eq : ∀ {a b : Option AO}, beqO a b = true → a = b
  | none, none, _ => rfl
  | none, some _, h => by simp [beqO] at h
  | some _, none, h => by simp [beqO] at h
  | some ⟨T, c, r⟩, some ⟨T', c', r'⟩, h => by
    simp only [beqO] at h
    obtain ⟨h1, h2⟩ := condT h
    obtain ⟨h2, h3⟩ := condT h2
    have : r = r' := by cases r <;> cases r' <;> first | rfl | cases h3
    rw [beq_iff.1 h1, beqL_eq h2, this]

/-! What is deferred. -/
structure AD where
  f : FuncId
  cap : List AV
  args : List AV

noncomputable def dv (ρ : Names) (d : AD) : Option Deferred := match rvL ρ d.cap, rvL ρ d.args with
  | some c, some a => some { target := .fn (.func d.f) c.toArray, args := a.toArray }
  | _, _ => none

noncomputable def dvL (ρ : Names) : List AD → Option (List Deferred)
  | [] => some []
  | d :: l => match dv ρ d, dvL ρ l with
    | some x, some xs => some (x :: xs)
    | _, _ => none

theorem dv_mono {ρ σ : Names} (hx : Ext ρ σ) {d : AD} {x : Deferred} (h : dv ρ d = some x) : dv σ d = some x := by
  unfold dv at h ⊢
  split at h
  · rename_i c a h1 h2
    rw [rvL_mono hx h1, rvL_mono hx h2]; exact h
  · cases h

theorem dvL_mono {ρ σ : Names} (hx : Ext ρ σ) : ∀ {l : List AD} {xs : List Deferred}, dvL ρ l = some xs → dvL σ l = some xs
  | [], _, h => h
  | d :: l, xs, h => by
    simp only [dvL] at h ⊢
    split at h
    · rename_i x xs' h1 h2
      rw [dv_mono hx h1, dvL_mono hx h2]; exact h
    · cases h

theorem dvL_app {ρ : Names} : ∀ {l m : List AD} {xs ys : List Deferred}, dvL ρ l = some xs → dvL ρ m = some ys → dvL ρ (l ++ m) = some (xs ++ ys)
  | [], _, _, _, h, k => by cases h; exact k
  | d :: l, m, xs, ys, h, k => by
    simp only [dvL] at h
    split at h
    · rename_i x xs' h1 h2
      cases h
      simp only [List.cons_append, dvL, h1, dvL_app h2 k]
    · cases h

/-! Calls. -/
abbrev CallFn := FuncId → List AV → AH → Nat → Option (AV × AH × Nat)

noncomputable def CallOK (P : Program) (w0 : World) (call : CallFn) : Prop := ∀ (f : FuncId) (args : List AV) (h : AH) (n : Nat) (a : AV) (h' : AH) (n' : Nat), call f args h n = some (a, h', n') →
  ∀ (ρ : Names) (w : World) (vs : List Value) (R : Ending → World → Prop), Rep w0 w ρ h → rvL ρ args = some vs →
    (∀ (ρ' : Names) (w' : World) (v : Value), Ext ρ ρ' → Rep w0 w' ρ' h' → rv ρ' a = some v → R (.returned v) w') → Calls P f vs.toArray w R

noncomputable def XtOK (P : Program) (w0 : World) (ext : CallFn) : Prop := ∀ (f : FuncId) (args : List AV) (h : AH) (n : Nat) (a : AV) (h' : AH) (n' : Nat), ext f args h n = some (a, h', n') →
  ∀ (ρ : Names) (w : World) (vs : List Value), Rep w0 w ρ h → rvL ρ args = some vs →
    ∃ v w' ρ', (callFunc f vs.toArray).run P w = .ok (.value v) w' ∧ Ext ρ ρ' ∧ Rep w0 w' ρ' h' ∧ rv ρ' a = some v

abbrev GO := Option (AV × List AD × AH × Nat)

noncomputable def goO (n : Nat) : Option (AV × AH) → GO
  | some (a, h) => some (a, [], h, n)
  | none => none

noncomputable def isSl (P : Program) (t : TypeId) : Bool := match P.underlying t with
  | some (.slice e) => (szOf P e).isSome
  | _ => false

theorem isSl_ok {P : Program} {t : TypeId} (h : isSl P t = true) : ∃ e, P.underlying t = some (.slice e) ∧ ∃ n, szOf P e = some n := by
  unfold isSl at h
  split at h
  · rename_i e hu
    exact ⟨e, hu, Option.isSome_iff_exists.1 h⟩
  · cases h

noncomputable def gop (P : Program) (call ext : CallFn) (o : Oper) (e : Tr AV) (h : AH) (n : Nat) : GO := match o.op with
  | .store ty x v => match aev e x, aev e v with
    | some p, some a => match gsto P ty p a h with
      | some h' => some (.tup [], [], h', n)
      | none => none
    | _, _ => none
  | .alloc T => match zeroA P T with
    | some z => goO (Nat.succ n) (gnew T z h n)
    | none => none
  | .box T x => match aev e x with
    | some a => goO (Nat.succ n) (gnew T a h n)
    | none => none
  | .buildSlice ty len ps => match aevP e ps.toList with
    | some az => goO (Nat.succ n) (gbsl P ty len az h n)
    | none => none
  | .makeSlice ty l c => match aev e l, aev e c with
    | some a, some b => goO (Nat.succ n) (gmsl P ty a b h n)
    | _, _ => none
  | .convert src dst x => match gpu P o e with
    | some a => some (a, [], h, n)
    | none => match aev e x with
      | some a => match gtos P src dst a h with
        | some r => some (r, [], h, n)
        | none => match gup P src dst a h with
          | some r => some (r, [], h, n)
          | none => match a with
            | .str l => goO (Nat.succ n) (gbos P src dst l h n)
            | _ => none
      | none => none
  | .call { callee := .builtin .copy, args := args, argTypes := tys } => match aevL e args.toList, tys[0]? with
    | some [d, s], some t => cond (isSl P t) (goO n (gcpy P t d s h)) none
    | _, _ => none
  | .call { callee := .builtin .unsafeSliceData, args := args, argTypes := _ } => match aevL e args.toList with
    | some [s] => match gusd s with
      | some r => some (r, [], h, n)
      | none => none
    | _ => none
  | .call { callee := .builtin .unsafeString, args := args, argTypes := tys } => match aevL e args.toList with
    | some [p, m] => goO n (gust P tys.toList p m h)
    | _ => none
  | .call { callee := .builtin .append, args := args, argTypes := tys } => match aevL e args.toList with
    | some [s, x] => match x with
      | .str l => goO (Nat.succ n) (gaps P tys.toList s l h n)
      | x => goO (Nat.succ n) (gapp P tys.toList s x h n)
    | _ => none
  | .call { callee := .value f, args := args, argTypes := _ } => match aev e f, aevL e args.toList with
    | some (.fn g xs ys), some az => match cond (entersB P g) (call g (xs ++ az ++ ys) h n) (ext g (xs ++ az ++ ys) h n) with
      | some (r, h', n') => some (r, [], h', n')
      | none => none
    | _, _ => none
  | .defer { callee := .value f, args := args, argTypes := _ } => match aev e f, aevL e args.toList with
    | some (.fn g xs ys), some az => some (.tup [], [⟨g, ys, xs ++ az⟩], h, n)
    | _, _ => none
  | _ => match grd P o e h with
    | some (a, _) => some (a, [], h, n)
    | none => none

theorem rv_fn {ρ : Names} {f : FuncId} {x y : List AV} {v : Value} (h : rv ρ (.fn f x y) = some v) : ∃ xs ys, rvL ρ x = some xs ∧ rvL ρ y = some ys ∧ v = .func (.func f) xs.toArray ys.toArray := by
  simp only [rv] at h
  split at h
  · rename_i xs ys h1 h2
    cases h; exact ⟨xs, ys, h1, h2, rfl⟩
  · cases h

theorem gop_ok {P : Program} {w0 : World} {call ext : CallFn} (hcall : CallOK P w0 call) (hext : XtOK P w0 ext) {o : Oper} {e : Tr AV} {h h' : AH} {n n' : Nat} {a : AV} {ds : List AD} (hg : gop P call ext o e h n = some (a, ds, h', n'))
    {w : World} {ρ : Names} (hr : Rep w0 w ρ h) {t : Tm} (he : EnvOK ρ e t) {K : Value → List Deferred → World → Prop}
    (k : ∀ (ρ' : Names) (v : Value) (nd : List Deferred) (w' : World), Ext ρ ρ' → Rep w0 w' ρ' h' → rv ρ' a = some v → dvL ρ' ds = some nd → K v nd w') : OpK P o t w K := by
  have fin : ∀ {s : Sem Value}, execOp (ev t) o = (do pure (.value (← s)) : Sem Next) → ds = [] → WrOK P w0 w ρ s a h' → OpK P o t w K := fun {s} hs hd hw => by
    obtain ⟨v, w', ρ', h1, h2, h3, h4⟩ := hw
    refine ⟨.value v, w', by rw [hs]; simp only [Sem.run_bind, h1, Result.andThen_ok, Sem.run_pure], ?_⟩
    subst hd
    exact k ρ' v [] w' h2 h3 h4 rfl
  have rd : (∃ T, grd P o e h = some (a, T)) → ds = [] → h' = h → OpK P o t w K := fun ⟨T, hT⟩ hd hh => by
    obtain ⟨v, h1, h2, h3⟩ := grd_ok hT hr he
    subst hd hh
    exact ⟨.value v, w, h3 w h2, k ρ v [] w (Ext.refl _) hr h1 rfl⟩
  have goO_ok : ∀ {x : Option (AV × AH)} {m : Nat}, goO m x = some (a, ds, h', n') → x = some (a, h') ∧ ds = [] := fun {x m} hx => by
    unfold goO at hx
    split at hx
    · cases hx; exact ⟨rfl, rfl⟩
    · cases hx
  unfold gop at hg
  split at hg
  · rename_i ty x v hx
    split at hg
    · rename_i p b hp hb
      split at hg
      · rename_i h2 hs
        cases hg
        obtain ⟨w', hrun, hr'⟩ := gsto_ok hs hr (aev_ev he hp) (aev_ev he hb)
        exact ⟨.skip, w', by simp [execOp, hx, hrun], k ρ undef [] w' (Ext.refl _) hr' rfl rfl⟩
      · cases hg
    · cases hg
  · rename_i T hx
    split at hg
    · rename_i z hz
      obtain ⟨hn, rfl⟩ := goO_ok hg
      obtain ⟨v, hv, _, hrun⟩ := zeroA_ok hz ρ
      obtain ⟨u, w', ρ', h1, h2, h3, h4⟩ := gnew_ok (P := P) hn hr hv
      refine fin (s := Instr.alloc T true (.tuple #[])) (by simp [execOp, hx]) rfl ⟨u, w', ρ', ?_, h2, h3, h4⟩
      simp only [Instr.alloc, Sem.run_bind, hrun, Result.andThen_ok]
      simpa only [Sem.run_bind] using h1
    · cases hg
  · rename_i T x hx
    split at hg
    · rename_i b hb
      obtain ⟨hn, rfl⟩ := goO_ok hg
      exact fin (s := Instr.box T (ev t x)) (by simp [execOp, hx]) rfl (gnew_ok (P := P) hn hr (aev_ev he hb))
    · cases hg
  · rename_i ty len ps hx
    split at hg
    · rename_i az haz
      obtain ⟨hn, rfl⟩ := goO_ok hg
      refine fin (s := Instr.buildSlice ty len (ps.map fun (i, x) => (i, ev t x))) (by simp [execOp, hx]) rfl (gbsl_ok hn hr ?_)
      simpa using aevP_ok he haz
    · cases hg
  · rename_i ty l c hx
    split at hg
    · rename_i a1 b1 ha hb
      obtain ⟨hn, rfl⟩ := goO_ok hg
      exact fin (s := Instr.makeSlice ty (ev t l) (ev t c)) (by simp [execOp, hx]) rfl (gmsl_ok hn hr (aev_ev he ha) (aev_ev he hb))
    · cases hg
  · rename_i src dst x hx
    split at hg
    · rename_i b hb
      cases hg
      obtain ⟨v, h1, h2⟩ := gpu_ok hb he
      exact ⟨.value v, w, h2 w, k ρ v [] w (Ext.refl _) hr h1 rfl⟩
    · split at hg
      · rename_i b hb
        split at hg
        · rename_i r hr2
          cases hg
          exact fin (s := convert src dst (ev t x)) (by simp [execOp, hx]) rfl (gtos_ok hr2 hr (aev_ev he hb))
        · split at hg
          · rename_i r hr2
            cases hg
            exact fin (s := convert src dst (ev t x)) (by simp [execOp, hx]) rfl (gup_ok hr2 hr (aev_ev he hb))
          · split at hg
            · rename_i l
              obtain ⟨hn, rfl⟩ := goO_ok hg
              exact fin (s := convert src dst (ev t x)) (by simp [execOp, hx]) rfl (by rw [rv_str (aev_ev he hb)]; exact gbos_ok hn hr)
            · cases hg
      · cases hg
  · rename_i args tys hx
    split at hg
    · rename_i d s ty hds ht
      cases hsl : isSl P ty with
      | false => rw [hsl] at hg; cases hg
      | true =>
        rw [hsl] at hg
        obtain ⟨hn, rfl⟩ := goO_ok hg
        have hv := aevL_ev he hds
        obtain ⟨vs, us, hm, h1, h2⟩ := rvL_cons hv
        obtain ⟨vx, us', rfl, h3, h4⟩ := rvL_cons h2
        cases h4
        have hargs : args.map (ev t) = #[vs, vx] := Array.ext' (by rw [Array.toList_map, hm])
        refine fin (s := Builtin.copy_ tys o.type #[vs, vx]) ?_ rfl (gcpy_ok hn ht (isSl_ok hsl) hr h1 h3)
        simp [execOp, hx, resolve, invoke, builtin, hargs]
    · cases hg
  · rename_i args tys hx
    split at hg
    · rename_i s hs
      split at hg
      · rename_i r hr2
        cases hg
        have hv := aevL_ev he hs
        obtain ⟨vs, us, hm, h1, h2⟩ := rvL_cons hv
        cases h2
        have hargs : args.map (ev t) = #[vs] := Array.ext' (by rw [Array.toList_map, hm])
        obtain ⟨v, k1, k2⟩ := gusd_ok (P := P) (tys := tys) (ty := o.type) hr2 h1
        refine fin (s := Builtin.unsafeSliceData_ tys o.type #[vs]) ?_ rfl ⟨v, w, ρ, k2 w, Ext.refl _, hr, k1⟩
        simp [execOp, hx, resolve, invoke, builtin, hargs]
      · cases hg
    · cases hg
  · rename_i args tys hx
    split at hg
    · rename_i p m hpm
      obtain ⟨hn, rfl⟩ := goO_ok hg
      have hv := aevL_ev he hpm
      obtain ⟨vs, us, hm, h1, h2⟩ := rvL_cons hv
      obtain ⟨vx, us', rfl, h3, h4⟩ := rvL_cons h2
      cases h4
      have hargs : args.map (ev t) = #[vs, vx] := Array.ext' (by rw [Array.toList_map, hm])
      refine fin (s := Builtin.unsafeString_ tys o.type #[vs, vx]) ?_ rfl (gust_ok hn hr h1 h3)
      simp [execOp, hx, resolve, invoke, builtin, hargs]
    · cases hg
  · rename_i args tys hx
    split at hg
    · rename_i s x hs
      have hv := aevL_ev he hs
      obtain ⟨vs, us, hm, h1, h2⟩ := rvL_cons hv
      obtain ⟨vx, us', rfl, h3, h4⟩ := rvL_cons h2
      cases h4
      have hargs : args.map (ev t) = #[vs, vx] := Array.ext' (by rw [Array.toList_map, hm])
      have hex : execOp (ev t) o = (do pure (.value (← Builtin.append_ tys o.type #[vs, vx])) : Sem Next) := by simp [execOp, hx, resolve, invoke, builtin, hargs]
      split at hg
      · rename_i l
        obtain ⟨hn, rfl⟩ := goO_ok hg
        exact fin hex rfl (by rw [rv_str h3]; exact gaps_ok hn hr h1)
      · obtain ⟨hn, rfl⟩ := goO_ok hg
        exact fin hex rfl (gapp_ok hn hr h1 h3)
    · cases hg
  · rename_i f args tys hx
    split at hg
    · rename_i g xs ys az hf haz
      obtain ⟨vxs, vys, h1, h2, h3⟩ := rv_fn (aev_ev he hf)
      have h4 := aevL_ev he haz
      have hall := rvL_app (rvL_app h1 h4) h2
      have hargs : args.map (ev t) = (args.toList.map (ev t)).toArray := Array.ext' (by rw [Array.toList_map])
      have hex : ∀ w, (execOp (ev t) o).run P w = (callFunc g (vxs ++ args.toList.map (ev t) ++ vys).toArray).run P w := fun w => by
        have : (vxs ++ args.toList.map (ev t) ++ vys).toArray = vxs.toArray ++ args.map (ev t) ++ vys.toArray := by rw [hargs]; simp
        rw [this]
        simp only [execOp, hx, resolve, h3, Deferred.ofValue, Sem.run_bind, Sem.run_pure, Result.andThen_ok, invoke]
      split at hg
      · rename_i r h2' n2 hc
        cases hg
        cases hen : entersB P g with
        | true =>
          rw [hen] at hc
          refine ⟨.enter g (vxs ++ args.toList.map (ev t) ++ vys).toArray, w, by rw [hex w]; exact enters_run hen _ w, ?_⟩
          exact hcall g _ h n a h' n' hc ρ w _ _ hr hall fun ρ' w' v hx hr' hv => ⟨v, rfl, k ρ' v [] w' hx hr' hv rfl⟩
        | false =>
          rw [hen] at hc
          obtain ⟨v, w', ρ', g1, g2, g3, g4⟩ := hext g _ h n a h' n' hc ρ w _ hr hall
          exact ⟨.value v, w', by rw [hex w]; exact g1, k ρ' v [] w' g2 g3 g4 rfl⟩
      · cases hg
    · cases hg
  · rename_i f args tys hx
    split at hg
    · rename_i g xs ys az hf haz
      cases hg
      obtain ⟨vxs, vys, h1, h2, h3⟩ := rv_fn (aev_ev he hf)
      have h4 := aevL_ev he haz
      have hargs : args.map (ev t) = (args.toList.map (ev t)).toArray := Array.ext' (by rw [Array.toList_map])
      refine ⟨.defer { target := .fn (.func g) vys.toArray, args := (vxs ++ args.toList.map (ev t)).toArray }, w, ?_, ?_⟩
      · simp [execOp, hx, resolve, h3, Deferred.ofValue]
      · refine k ρ undef _ w (Ext.refl _) hr rfl ?_
        simp only [dvL, dv, h2, rvL_app h1 h4]
    · cases hg
  · split at hg
    · rename_i b T hb
      cases hg
      exact rd ⟨_, hb⟩ rfl rfl
    · cases hg

end Go.Gx

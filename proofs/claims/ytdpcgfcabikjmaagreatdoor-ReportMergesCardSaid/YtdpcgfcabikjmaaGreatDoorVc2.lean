import Derived.Test.YtdpcgfcabikjmaaGreatDoorVc1
namespace Go.Vc

def onSome {α : Type} (p : Option α) (F : α → Prop) : Prop :=
  match p with
  | some a => F a
  | none => False

theorem onSome_ex {α : Type} {p : Option α} {F : α → Prop} (h : onSome p F) : ∃ a, p = some a ∧ F a := by
  cases p with
  | none => exact h.elim
  | some a => exact ⟨a, rfl, h⟩

def szOf (P : Program) (t : TypeId) : Option Nat := (P.info? t).map (·.size)

/-! Operations that only reckon: a nicer form than their run. -/
def bndK (x : Option Value) (dflt top : Nat) (F : Nat → Prop) : Prop :=
  match x with
  | none => F dflt
  | some (.int _ i) => 0 ≤ i ∧ i ≤ (top : Int) ∧ F i.toNat
  | some _ => False

def slK (P : Program) (ty : TypeId) (x : Value) (lo hi mx : Option Value) (K : Value → Prop) : Prop :=
  match P.underlying ty with
  | some .string => match x, mx with
    | .string s, none => bndK hi s.size s.size fun h => bndK lo 0 h fun l => K (.string (s.extract l h))
    | _, _ => False
  | some (.slice e) => match x with
    | .slice a len cap => cond (mx.isSome && hi.isNone) False <| onSome (szOf P e) fun sz => bndK mx cap cap fun m => bndK hi len m fun h => bndK lo 0 h fun l =>
        K (.slice (if m = l then a else a.map (·.add (l * sz))) (h - l) (m - l))
    | _ => False
  | _ => False

def ixK (P : Program) (ty : TypeId) (x i : Value) (K : Value → Prop) : Prop :=
  match P.underlying ty, i with
  | some .string, .int _ i => match x with
    | .string s => 0 ≤ i ∧ onSome s[i.toNat]? fun b => K (.int .u8 b.toNat)
    | _ => False
  | some (.array n e), .int _ i => match x with
    | .agg cs => 0 ≤ i ∧ i < (n : Int) ∧ onSome (szOf P e) fun sz => (match tkOf P e with
        | .s k => cond (P.underlying e).isSome (exS k fun v => cs[i.toNat * sz]? = some v ∧ K v) False
        | .agg _ => K (.agg (cs.extract (i.toNat * sz) (i.toNat * sz + sz))))
    | _ => False
  | _, _ => False

def ixaK (P : Program) (ty : TypeId) (x i : Value) (K : Value → Prop) : Prop :=
  match P.underlying ty, i with
  | some (.slice e), .int _ i => match x with
    | .slice base len _ => onSome base fun ad => 0 ≤ i ∧ i < (len : Int) ∧ onSome (szOf P e) fun sz => K (.pointer (some (ad.add (i.toNat * sz))))
    | _ => False
  | some (.array n e), .int _ i => match x with
    | .pointer base => onSome base fun ad => 0 ≤ i ∧ i < (n : Int) ∧ onSome (szOf P e) fun sz => K (.pointer (some (ad.add (i.toNat * sz))))
    | _ => False
  | _, _ => False

def nilIK (v : Value) (F : Bool → Prop) : Prop :=
  match v with
  | .nilIface => F true
  | .iface _ _ => F false
  | _ => False

/-- Against nil ('y' is written nil). -/
def nilK (P : Program) (ty : TypeId) (neg : Bool) (x : Value) (y : Operand) : Option ((Value → Prop) → Prop) :=
  match P.underlying ty, y with
  | some (.pointer _), .const (.pointer none) => match x with
    | .pointer p => some fun K => K (.bool (cond neg (!p.isNone) p.isNone))
    | _ => none
  | some (.slice _), .const (.slice none _ _) => match x with
    | .slice a _ _ => some fun K => K (.bool (cond neg (!a.isNone) a.isNone))
    | _ => none
  | some (.interface _), .const .nilIface => some fun K => nilIK x fun b => K (.bool (cond neg (!b) b))
  | _, _ => none



def isAggD : TypeDesc → Bool
  | .struct _ => true
  | .array _ _ => true
  | _ => false

def partC (P : Program) (e : TypeId) (cs : Array Value) (off : Nat) : Option Value :=
  match P.underlying e, szOf P e with
  | some d, some sz => cond (isAggD d) (some (.agg (cs.extract off (off + sz)))) cs[off]?
  | _, _ => none

def andO : List (Option Bool) → Option Bool
  | [] => some true
  | none :: _ => none
  | some b :: l => match andO l with
    | none => none
    | some r => some (b && r)

/-- '==' of values of flat types. -/
def eqC (P : Program) : Nat → TypeId → Value → Value → Option Bool
  | 0, _, _, _ => none
  | d + 1, t, x, y =>
    match P.underlying t with
    | some .bool => match x, y with
      | .bool a, .bool b => some (a == b)
      | _, _ => none
    | some (.int _) => match x, y with
      | .int k a, .int k' b => cond (eqK k k') (some (a == b)) none
      | _, _ => none
    | some .string => match x, y with
      | .string a, .string b => some (a == b)
      | _, _ => none
    | some (.struct fs) => match x, y with
      | .agg xs, .agg ys => cond (P.stoodInHeld t || fs.toList.any fun f => f.name == "_") none
          (andO (fs.toList.map fun f => match partC P f.type xs f.offset, partC P f.type ys f.offset with
            | some a, some b => eqC P d f.type a b
            | _, _ => none))
      | _, _ => none
    | some (.array n e) => match x, y with
      | .agg xs, .agg ys => match szOf P e with
        | none => none
        | some sz => andO ((List.range n).map fun i => match partC P e xs (i * sz), partC P e ys (i * sz) with
            | some a, some b => eqC P d e a b
            | _, _ => none)
      | _, _ => none
    | _ => none

def aggK (P : Program) (ty : TypeId) (neg : Bool) (x y : Value) : Option ((Value → Prop) → Prop) :=
  match x, y with
  | .agg xs, .agg ys => cond (P.eqGuardType P.depth ty) none (match eqC P 12 ty (.agg xs) (.agg ys) with
    | some b => some fun K => K (.bool (cond neg (!b) b))
    | none => none)
  | _, _ => none

def arK (op : BinOp) (x y : Value) : Option ((Value → Prop) → Prop) :=
  match op, x, y with
  | .quo, .int k a, .int k' b => cond (eqK k k') (some fun K => b ≠ 0 ∧ K (.int k (k.wrap (a.tdiv b)))) none
  | .rem, .int k a, .int k' b => cond (eqK k k') (some fun K => b ≠ 0 ∧ K (.int k (a.tmod b))) none
  | .shl, .int k a, .int _ b => some fun K => 0 ≤ b ∧ K (.int k (k.wrap (a * 2 ^ (min b.toNat k.bits))))
  | .shr, .int k a, .int _ b => some fun K => 0 ≤ b ∧ K (.int k (a.fdiv (2 ^ (min b.toNat k.bits))))
  | .add, .string a, .string b => some fun K => ((a.size + b.size : Nat) : Int) ≤ IntKind.i64.max ∧ K (.string (a ++ b))
  | _, _, _ => none

def orE {α : Type} (x y : Option α) : Option α :=
  match x with
  | some a => some a
  | none => y

def spOp (P : Program) (o : Oper) (t : Tm) : Option ((Value → Prop) → Prop) :=
  match o.op with
  | .move x | .assign x => some fun K => K (ev t x)
  | .pick c a b => match ev t c with
    | .bool x => some fun K => cond x (K (ev t a)) (K (ev t b))
    | _ => none
  | .convert src dst x => match P.underlying src, P.underlying dst, ev t x with
    | some _, some (.int k), .int _ n => some fun K => K (.int k (k.wrap n))
    | _, _, _ => none
  | .nilCheck x => match ev t x with
    | .pointer p => some fun K => onSome p fun a => K (.pointer (some a))
    | _ => none
  | .slice ty x lo hi mx => some (slK P ty (ev t x) (lo.map (ev t)) (hi.map (ev t)) (mx.map (ev t)))
  | .index ty x i => some (ixK P ty (ev t x) (ev t i))
  | .indexAddr ty x i => some (ixaK P ty (ev t x) (ev t i))
  | .binOp op ty x y _ => match op with
    | .eql => orE (nilK P ty false (ev t x) y) (orE (nilK P ty false (ev t y) x) (aggK P ty false (ev t x) (ev t y)))
    | .neq => orE (nilK P ty true (ev t x) y) (orE (nilK P ty true (ev t y) x) (aggK P ty true (ev t x) (ev t y)))
    | op => arK op (ev t x) (ev t y)
  | _ => none

theorem bnd_run {P : Program} {x : Option Value} {d top : Nat} {F : Nat → Prop} (h : bndK x d top F) :
    ∃ n, F n ∧ ∀ (code : BoundsCode) (w : World), (match x with | some v => (Instr.sliceBound v top code).run P w | none => .ok d w) = .ok n w := by
  unfold bndK at h
  split at h
  · exact ⟨d, h, fun _ _ => rfl⟩
  · rename_i k i
    obtain ⟨h0, h1, h2⟩ := h
    exact ⟨i.toNat, h2, fun _ _ => by simp [Instr.sliceBound, asIntOf, h0, h1]⟩
  · exact h.elim

theorem und_run {P : Program} {t : TypeId} {d : TypeDesc} (h : P.underlying t = some d) (w : World) : (underlying t).run P w = .ok d w := by
  simp [underlying, h]

theorem sz_run {P : Program} {t : TypeId} {n : Nat} (h : szOf P t = some n) (w : World) : (sizeOf t).run P w = .ok n w := by
  unfold szOf at h
  cases hi : P.info? t with
  | none => simp [hi] at h
  | some i => simp [hi] at h; simp [sizeOf, typeInfo, hi, h]

theorem bounds_run {P : Program} {b : Bool} {len cap : Nat} {lo hi mx : Option Value} {F : Nat → Nat → Nat → Prop}
    (hm : mx = none ∨ hi ≠ none)
    (h : bndK mx cap cap fun m => bndK hi len m fun h => bndK lo 0 h fun l => F l h m) :
    ∃ l h m, F l h m ∧ ∀ w, (Instr.sliceBounds b len cap lo hi mx).run P w = .ok (l, h, m) w := by
  obtain ⟨m, g1, hm'⟩ := bnd_run (P := P) h
  obtain ⟨hh, g2, hh'⟩ := bnd_run (P := P) g1
  obtain ⟨l, g3, hl'⟩ := bnd_run (P := P) g2
  refine ⟨l, hh, m, g3, fun w => ?_⟩
  have a1 := fun c => hm' c w
  have a2 := fun c => hh' c w
  have a3 := fun c => hl' c w
  clear h g1 g2 g3 hm' hh' hl'
  cases mx with
  | none =>
    have := a1 .index
    simp only [Result.ok.injEq, and_true] at this
    subst this
    cases hi <;> cases lo <;> simp_all [Instr.sliceBounds]
  | some mv =>
    cases hi with
    | none => simp at hm
    | some hv => cases lo <;> simp_all [Instr.sliceBounds]

theorem slK_run {P : Program} {ty : TypeId} {x : Value} {lo hi mx : Option Value} {K : Value → Prop} (h : slK P ty x lo hi mx K) :
    ∃ v, (∀ w, (Instr.sliceAt ty x lo hi mx).run P w = .ok v w) ∧ K v := by
  unfold slK at h
  split at h
  · rename_i hu
    split at h
    · rename_i s
      obtain ⟨l, hh, m, hk, hr⟩ := bounds_run (P := P) (b := false) (len := s.size) (cap := s.size) (lo := lo) (hi := hi) (mx := none) (F := fun l hh _ => K (.string (s.extract l hh))) (.inl rfl) h
      exact ⟨_, fun w => by simp [Instr.sliceAt, Instr.slice, und_run hu, hr], hk⟩
    · exact h.elim
  · rename_i e hu
    split at h
    · rename_i a len cap
      have hm : mx = none ∨ hi ≠ none := by
        cases mx with
        | none => exact .inl rfl
        | some _ => cases hi with
          | none => exact h.elim
          | some _ => exact .inr (by simp)
      have h : onSome (szOf P e) fun sz => bndK mx cap cap fun m => bndK hi len m fun h => bndK lo 0 h fun l =>
          K (.slice (if m = l then a else a.map (·.add (l * sz))) (h - l) (m - l)) := by
        cases hb : (mx.isSome && hi.isNone) with
        | false => rw [hb] at h; exact h
        | true => rw [hb] at h; exact h.elim
      obtain ⟨sz, hsz, h⟩ := onSome_ex h
      obtain ⟨l, hh, m, hk, hr⟩ := bounds_run (P := P) (b := true) hm h
      exact ⟨_, fun w => by simp [Instr.sliceAt, Instr.slice, und_run hu, hr, sz_run hsz], hk⟩
    · exact h.elim
  · exact h.elim

theorem agg_run {P : Program} {t : TypeId} {ks : List SK} (h : tkOf P t = .agg ks) (w : World) : (isAgg t).run P w = .ok true w := by
  unfold tkOf at h
  split at h
  · rename_i hu; simp [isAgg, und_run hu]
  · rename_i hu; simp [isAgg, und_run hu]
  · cases h

theorem noagg_run {P : Program} {t : TypeId} {k : SK} (h : tkOf P t = .s k) (hi : (P.underlying t).isSome = true) (w : World) : (isAgg t).run P w = .ok false w := by
  unfold tkOf at h
  split at h
  · cases h
  · cases h
  · rename_i h1 h2
    cases hu : P.underlying t with
    | none => simp [hu] at hi
    | some d =>
      cases d <;> first | exact absurd hu (h1 _) | exact absurd hu (h2 _ _) | simp [isAgg, und_run hu]

theorem ixK_run {P : Program} {ty : TypeId} {x i : Value} {K : Value → Prop} (h : ixK P ty x i K) :
    ∃ v, (∀ w, (Instr.index ty x i).run P w = .ok v w) ∧ K v := by
  unfold ixK at h
  split at h
  · rename_i k n hu
    split at h
    · rename_i s
      obtain ⟨h0, h⟩ := h
      obtain ⟨b, hb, hk⟩ := onSome_ex h
      exact ⟨_, fun w => by simp [Instr.index, asIntOf, und_run hu, h0, hb], hk⟩
    · exact h.elim
  · rename_i n e k i hu
    split at h
    · rename_i cs
      obtain ⟨h0, h1, h⟩ := h
      obtain ⟨sz, hsz, h⟩ := onSome_ex h
      split at h
      · rename_i k hk
        obtain ⟨hi, h⟩ := condF h
        obtain ⟨v, hv, hK⟩ := exS_ex h
        exact ⟨v, fun w => by simp [Instr.index, asIntOf, und_run hu, h0, h1, part, noagg_run hk hi, sz_run hsz, hv], hK⟩
      · rename_i ks hk
        exact ⟨_, fun w => by simp [Instr.index, asIntOf, und_run hu, h0, h1, part, agg_run hk, sz_run hsz], h⟩
    · exact h.elim
  · exact h.elim

theorem ixaK_run {P : Program} {ty : TypeId} {x i : Value} {K : Value → Prop} (h : ixaK P ty x i K) :
    ∃ v, (∀ w, (Instr.indexAt ty x i).run P w = .ok v w) ∧ K v := by
  unfold ixaK at h
  split at h
  · rename_i e k i hu
    split at h
    · obtain ⟨ad, rfl, h0, h1, h⟩ := onSome_ex h
      obtain ⟨sz, hsz, h⟩ := onSome_ex h
      exact ⟨_, fun w => by simp [Instr.indexAt, asIntOf, und_run hu, h0, h1, sz_run hsz], h⟩
    · exact h.elim
  · rename_i n e k i hu
    split at h
    · obtain ⟨ad, rfl, h0, h1, h⟩ := onSome_ex h
      obtain ⟨sz, hsz, h⟩ := onSome_ex h
      exact ⟨_, fun w => by simp [Instr.indexAt, Instr.sureAddr, asIntOf, und_run hu, h0, h1, sz_run hsz], h⟩
    · exact h.elim
  · exact h.elim

theorem eq_deep {P : Program} {ty : TypeId} {x y : Value} {b : Bool} {w : World} (h : ∀ d, (Op.equalIn (d + 1) ty x y).run P w = .ok b w) :
    (Op.equal ty x y).run P w = .ok b w := h 9999

theorem eql_run {P : Program} {ty : TypeId} {x y : Value} {b neg : Bool} {w : World} (h : (Op.equal ty x y).run P w = .ok b w)
    (hb : (binOp (cond neg .neq .eql) ty x y) = (do let r ← Op.equal ty x y; pure (.bool (cond neg (!r) r)))) :
    (binOp (cond neg .neq .eql) ty x y).run P w = .ok (.bool (cond neg (!b) b)) w := by
  rw [hb]
  simp [h]

theorem nil_run {P : Program} {ty : TypeId} {neg : Bool} {t : Tm} {x y : Operand} {F : (Value → Prop) → Prop} (hF : nilK P ty neg (ev t x) y = some F) {K : Value → Prop} (h : F K) :
    ∃ v, (∀ w, (do eqGuard (cond neg .neq .eql) ty x y (ev t x) (ev t y); binOp (cond neg .neq .eql) ty (ev t x) (ev t y) : Sem Value).run P w = .ok v w ∧
      (do eqGuard (cond neg .neq .eql) ty y x (ev t y) (ev t x); binOp (cond neg .neq .eql) ty (ev t y) (ev t x) : Sem Value).run P w = .ok v w) ∧ K v := by
  unfold nilK at hF
  split at hF
  · rename_i e hu
    split at hF
    · rename_i p hp
      cases hF
      refine ⟨_, fun w => ?_, h⟩
      have h1 : (Op.equal ty (.pointer p) (.pointer none)).run P w = .ok p.isNone w := eq_deep fun d => by cases p <;> simp [Op.equalIn, und_run hu]
      have h2 : (Op.equal ty (.pointer none) (.pointer p)).run P w = .ok p.isNone w := eq_deep fun d => by cases p <;> simp [Op.equalIn, und_run hu]
      have h3 := eql_run (neg := neg) h1 (by cases neg <;> rfl)
      have h4 := eql_run (neg := neg) h2 (by cases neg <;> rfl)
      have g1 : ∀ a b : Operand, (eqGuard (cond neg .neq .eql) ty a b (.pointer p) (.pointer none)).run P w = .ok () w := fun a b => by cases neg <;> simp [eqGuard]
      have g2 : ∀ a b : Operand, (eqGuard (cond neg .neq .eql) ty a b (.pointer none) (.pointer p)).run P w = .ok () w := fun a b => by cases neg <;> simp [eqGuard]
      rw [hp]
      simp only [ev, Sem.run_bind, g1, g2, Result.andThen_ok, h3, h4, and_self]
    · cases hF
  · rename_i e l c hu
    split at hF
    · rename_i p l' c' hp
      cases hF
      refine ⟨_, fun w => ?_, h⟩
      have h1 : (Op.equal ty (.slice p l' c') (.slice none l c)).run P w = .ok p.isNone w := eq_deep fun d => by cases p <;> simp [Op.equalIn, und_run hu]
      have h2 : (Op.equal ty (.slice none l c) (.slice p l' c')).run P w = .ok p.isNone w := eq_deep fun d => by cases p <;> simp [Op.equalIn, und_run hu]
      have h3 := eql_run (neg := neg) h1 (by cases neg <;> rfl)
      have h4 := eql_run (neg := neg) h2 (by cases neg <;> rfl)
      have g1 : ∀ a b : Operand, (eqGuard (cond neg .neq .eql) ty a b (.slice p l' c') (.slice none l c)).run P w = .ok () w := fun a b => by cases neg <;> simp [eqGuard]
      have g2 : ∀ a b : Operand, (eqGuard (cond neg .neq .eql) ty a b (.slice none l c) (.slice p l' c')).run P w = .ok () w := fun a b => by cases neg <;> simp [eqGuard]
      rw [hp]
      simp only [ev, Sem.run_bind, g1, g2, Result.andThen_ok, h3, h4, and_self]
    · cases hF
  · rename_i ms hu
    cases hF
    revert h
    generalize ev t x = v
    intro h
    cases v <;> simp only [nilIK] at h
    · rename_i tx vx
      refine ⟨_, fun w => ?_, h⟩
      have h1 : (Op.equal ty (.iface tx vx) .nilIface).run P w = .ok false w := eq_deep fun d => by simp [Op.equalIn, und_run hu]
      have h2 : (Op.equal ty .nilIface (.iface tx vx)).run P w = .ok false w := eq_deep fun d => by simp [Op.equalIn, und_run hu]
      have h3 := eql_run (neg := neg) h1 (by cases neg <;> rfl)
      have h4 := eql_run (neg := neg) h2 (by cases neg <;> rfl)
      have g1 : (eqGuard (cond neg .neq .eql) ty x (.const .nilIface) (.iface tx vx) .nilIface).run P w = .ok () w := by cases neg <;> simp [eqGuard]
      have g2 : (eqGuard (cond neg .neq .eql) ty (.const .nilIface) x .nilIface (.iface tx vx)).run P w = .ok () w := by cases neg <;> simp [eqGuard]
      simp only [ev, Sem.run_bind, g1, g2, Result.andThen_ok, h3, h4, and_self]
    · refine ⟨_, fun w => ?_, h⟩
      have h1 : (Op.equal ty .nilIface .nilIface).run P w = .ok true w := eq_deep fun d => by simp [Op.equalIn, und_run hu]
      have h3 := eql_run (neg := neg) h1 (by cases neg <;> rfl)
      have g1 : (eqGuard (cond neg .neq .eql) ty x (.const .nilIface) .nilIface .nilIface).run P w = .ok () w := by cases neg <;> simp [eqGuard]
      have g2 : (eqGuard (cond neg .neq .eql) ty (.const .nilIface) x .nilIface .nilIface).run P w = .ok () w := by cases neg <;> simp [eqGuard]
      simp only [ev, Sem.run_bind, g1, g2, Result.andThen_ok, h3, and_self]
  · cases hF

theorem part_run {P : Program} {e : TypeId} {cs : Array Value} {off : Nat} {v : Value} (h : partC P e cs off = some v) (w : World) : (part e cs off).run P w = .ok v w := by
  unfold partC at h
  split at h
  · rename_i d sz hu hs
    cases hd : isAggD d with
    | true =>
      rw [hd] at h
      cases h
      have ha : (isAgg e).run P w = .ok true w := by cases d <;> first | (cases hd; done) | simp [isAgg, und_run hu]
      simp [part, ha, sz_run hs]
    | false =>
      rw [hd] at h
      have ha : (isAgg e).run P w = .ok false w := by cases d <;> first | (cases hd; done) | simp [isAgg, und_run hu]
      have h : cs[off]? = some v := h
      simp [part, ha, h]
  · cases h

abbrev RetS := Option Bool × Unit

theorem forIn_all {α : Type} {P : Program} {w : World} (body : α → RetS → Sem (ForInStep RetS)) : ∀ (l : List α) (os : List (Option Bool)) (b : Bool), andO os = some b → os.length = l.length →
    (∀ (i : Nat) (a : α) (c : Bool) (r : RetS), l[i]? = some a → os[i]? = some (some c) → (body a r).run P w = .ok (cond c (.yield (none, ())) (.done (some false, ()))) w) →
    (forIn l ((none, ()) : RetS) body).run P w = .ok (cond b (none, ()) (some false, ())) w
  | [], [], b, hb, _, _ => by
    simp [andO] at hb
    subst hb
    simp
  | [], _ :: _, _, _, hl, _ => by simp at hl
  | _ :: _, [], _, _, hl, _ => by simp at hl
  | a :: l, o :: os, b, hb, hl, hbody => by
    cases o with
    | none => simp [andO] at hb
    | some c =>
      simp only [andO] at hb
      split at hb
      · cases hb
      · rename_i r hr
        cases hb
        have h1 := hbody 0 a c (none, ()) rfl rfl
        have h2 := forIn_all body l os r hr (by simpa using hl) (fun i a c r' h h' => hbody (i + 1) a c r' (by simpa using h) (by simpa using h'))
        rw [List.forIn_cons, Sem.run_bind, h1]
        cases c with
        | true => simpa [Result.andThen] using h2
        | false => simp [Result.andThen]

theorem eq_run {P : Program} {w : World} : ∀ (d : Nat) (t : TypeId) (x y : Value) (b : Bool) (d' : Nat), eqC P d t x y = some b → d ≤ d' → (Op.equalIn d' t x y).run P w = .ok b w
  | 0, _, _, _, _, _, h, _ => by cases h
  | d + 1, t, x, y, b, 0, _, hd => by omega
  | d + 1, t, x, y, b, d' + 1, h, hd => by
    unfold eqC at h
    split at h
    · rename_i hu
      split at h
      · cases h; simp [Op.equalIn, und_run hu]
      · cases h
    · rename_i k hu
      split at h
      · rename_i k1 a k2 c
        cases he : eqK k1 k2 with
        | false => simp [he] at h
        | true =>
          have := eqK_spec he
          subst this
          rw [he] at h
          cases h
          simp [Op.equalIn, und_run hu]
      · cases h
    · rename_i hu
      split at h
      · cases h; simp [Op.equalIn, und_run hu]
      · cases h
    · rename_i fs hu
      split at h
      · rename_i xs ys
        cases hs : (P.stoodInHeld t || fs.toList.any fun f => f.name == "_") with
        | true => rw [hs] at h; cases h
        | false =>
          rw [hs] at h
          simp only [Bool.or_eq_false_iff] at hs
          have h : andO (fs.toList.map fun f => match partC P f.type xs f.offset, partC P f.type ys f.offset with
            | some a, some b => eqC P d f.type a b
            | _, _ => none) = some b := h
          unfold Op.equalIn
          simp only [Sem.run_bind, und_run hu, Result.andThen_ok]
          have hp : (Sem.run P program w) = .ok P w := rfl
          rw [hp, Result.andThen_ok, if_neg (by rw [hs.1]; decide), Sem.run_bind, ← Array.forIn_toList]
          have hl := forIn_all (P := P) (w := w) (fun f (__s : RetS) =>
                if f.name ≠ "_" then do
                  let __do_lift ← part f.type xs f.offset
                  let __do_lift_1 ← part f.type ys f.offset
                  let __do_lift ← Op.equalIn d' f.type __do_lift __do_lift_1
                  if (!__do_lift) = true then pure (ForInStep.done (some false, ()))
                    else pure (ForInStep.yield (none, ()))
                else pure (ForInStep.yield (none, ()))) fs.toList _ b h (by simp) (fun i f c r hf hc => ?_)
          · rw [hl]
            cases b <;> rfl
          · have hmem : f ∈ fs.toList := List.mem_of_getElem? hf
            have hname : f.name ≠ "_" := fun e => by
              have := List.any_eq_false.1 hs.2 f hmem
              rw [e] at this
              exact this rfl
            rw [List.getElem?_map, hf] at hc
            simp only [Option.map_some, Option.some.injEq] at hc
            rw [if_pos hname]
            split at hc
            · rename_i va vb ha hb
              have hr := eq_run (w := w) d f.type va vb c d' hc (by omega)
              simp only [Sem.run_bind, part_run ha, part_run hb, hr, Result.andThen_ok]
              cases c <;> rfl
            · cases hc
      · cases h
    · rename_i n e hu
      split at h
      · rename_i xs ys
        split at h
        · cases h
        · rename_i sz hsz
          unfold Op.equalIn
          simp only [Sem.run_bind, und_run hu, sz_run hsz, Result.andThen_ok]
          have hl := forIn_all (P := P) (w := w) (fun (i : Nat) (__s : RetS) => do
            let __do_lift ← part e xs (i * sz)
            let __do_lift_1 ← part e ys (i * sz)
            let __do_lift ← Op.equalIn d' e __do_lift __do_lift_1
            if (!__do_lift) = true then pure (ForInStep.done (some false, ())) else pure (ForInStep.yield (none, ()))) (List.range n) _ b h (by simp) (fun i j c r hf hc => ?_)
          · have hr : (forIn [:n] ((none, ()) : RetS) (fun (i : Nat) (__s : RetS) => (do
                let __do_lift ← part e xs (i * sz)
                let __do_lift_1 ← part e ys (i * sz)
                let __do_lift ← Op.equalIn d' e __do_lift __do_lift_1
                if (!__do_lift) = true then pure (ForInStep.done (some false, ())) else pure (ForInStep.yield (none, ())) : Sem (ForInStep RetS)))) = forIn (List.range n) ((none, ()) : RetS) (fun (i : Nat) (__s : RetS) => (do
                let __do_lift ← part e xs (i * sz)
                let __do_lift_1 ← part e ys (i * sz)
                let __do_lift ← Op.equalIn d' e __do_lift __do_lift_1
                if (!__do_lift) = true then pure (ForInStep.done (some false, ())) else pure (ForInStep.yield (none, ())) : Sem (ForInStep RetS))) := by
              rw [Std.Legacy.Range.forIn_eq_forIn_range', List.range_eq_range']
              simp [Std.Legacy.Range.size]
            rw [hr, hl]
            cases b <;> rfl
          · rw [List.getElem?_map, hf] at hc
            simp only [Option.map_some, Option.some.injEq] at hc
            split at hc
            · rename_i va vb ha hb
              have hr := eq_run (w := w) d e va vb c d' hc (by omega)
              simp only [Sem.run_bind, part_run ha, part_run hb, hr, Result.andThen_ok]
              cases c <;> rfl
            · cases hc
      · cases h
    · cases h

theorem agg_eq_run {P : Program} {ty : TypeId} {neg : Bool} {x y : Operand} {a b : Value} {F : (Value → Prop) → Prop} (hF : aggK P ty neg a b = some F) {K : Value → Prop} (h : F K) :
    ∃ v, (∀ w, (do eqGuard (cond neg .neq .eql) ty x y a b; binOp (cond neg .neq .eql) ty a b : Sem Value).run P w = .ok v w) ∧ K v := by
  unfold aggK at hF
  split at hF
  · rename_i xs ys
    cases hg : P.eqGuardType P.depth ty with
    | true => rw [hg] at hF; cases hF
    | false =>
      rw [hg] at hF
      simp only [cond_false] at hF
      split at hF
      · rename_i b hb
        cases hF
        refine ⟨_, fun w => ?_, h⟩
        have h1 : (Op.equal ty (.agg xs) (.agg ys)).run P w = .ok b w := eq_run 12 ty _ _ b Op.maxDepth hb (by decide)
        have h3 := eql_run (neg := neg) h1 (by cases neg <;> rfl)
        have g1 : (eqGuard (cond neg .neq .eql) ty x y (.agg xs) (.agg ys)).run P w = .ok () w := by
          have hp : (Sem.run P program w) = .ok P w := rfl
          cases neg <;> simp [eqGuard, hp, hg]
        simp only [Sem.run_bind, g1, Result.andThen_ok, h3]
      · cases hF
  · cases hF

theorem orE_some {α : Type} {x y : Option α} {a : α} (h : orE x y = some a) : x = some a ∨ y = some a := by
  cases x with
  | none => exact .inr h
  | some b => exact .inl h

theorem ar_run {P : Program} {op : BinOp} {ty : TypeId} {x y : Operand} {a b : Value} {F : (Value → Prop) → Prop} (hF : arK op a b = some F) {K : Value → Prop} (h : F K) :
    ∃ v, (∀ w, (do eqGuard op ty x y a b; binOp op ty a b : Sem Value).run P w = .ok v w) ∧ K v := by
  unfold arK at hF
  split at hF
  · rename_i k a k' b
    cases he : eqK k k' with
    | false => simp [he] at hF
    | true =>
      have := eqK_spec he
      subst this
      rw [he] at hF
      cases hF
      exact ⟨_, fun w => by simp [eqGuard, binOp, Op.intDiv, h.1], h.2⟩
  · rename_i k a k' b
    cases he : eqK k k' with
    | false => simp [he] at hF
    | true =>
      have := eqK_spec he
      subst this
      rw [he] at hF
      cases hF
      exact ⟨_, fun w => by simp [eqGuard, binOp, Op.intDiv, h.1], h.2⟩
  · cases hF
    exact ⟨_, fun w => by simp [eqGuard, binOp, Op.shift, Int.not_lt.2 h.1], h.2⟩
  · cases hF
    exact ⟨_, fun w => by simp [eqGuard, binOp, Op.shift, Int.not_lt.2 h.1], h.2⟩
  · rename_i a b
    cases hF
    refine ⟨_, fun w => ?_, h.2⟩
    have h9 := h.1
    have hm : IntKind.i64.max = 9223372036854775807 := rfl
    rw [hm] at h9
    simp only [eqGuard, binOp, Op.stringOp]
    simp
    omega
  · cases hF

theorem spOp_run {P : Program} {o : Oper} {t : Tm} {F : (Value → Prop) → Prop} (hF : spOp P o t = some F) {K : Value → Prop} (h : F K) :
    ∃ v, (∀ w, (execOp (ev t) o).run P w = .ok (.value v) w) ∧ K v := by
  unfold spOp at hF
  split at hF
  · rename_i x hx; cases hF; exact ⟨_, fun w => by simp [execOp, hx], h⟩
  · rename_i x hx; cases hF; exact ⟨_, fun w => by simp [execOp, hx], h⟩
  · rename_i c a b hx
    split at hF
    · rename_i x hc
      cases hF
      cases x with
      | true => exact ⟨_, fun w => by simp [execOp, hx, hc, asBool], h⟩
      | false => exact ⟨_, fun w => by simp [execOp, hx, hc, asBool], h⟩
    · cases hF
  · rename_i src dst x hx
    split at hF
    · rename_i d k k' n hs hu hn
      cases hF
      refine ⟨_, fun w => ?_, h⟩
      simp [execOp, hx, hn, convert, und_run hu, und_run hs, Conv.intToInt]
    · cases hF
  · rename_i x hx
    split at hF
    · rename_i p hp
      cases hF
      obtain ⟨a, rfl, h⟩ := onSome_ex h
      exact ⟨_, fun w => by simp [execOp, hx, hp], h⟩
    · cases hF
  · rename_i ty x lo hi mx hx
    cases hF
    obtain ⟨v, hr, hk⟩ := slK_run h
    exact ⟨v, fun w => by simp [execOp, hx, hr], hk⟩
  · rename_i ty x i hx
    cases hF
    obtain ⟨v, hr, hk⟩ := ixK_run h
    exact ⟨v, fun w => by simp [execOp, hx, hr], hk⟩
  · rename_i ty x i hx
    cases hF
    obtain ⟨v, hr, hk⟩ := ixaK_run h
    exact ⟨v, fun w => by simp [execOp, hx, hr], hk⟩
  · rename_i op ty x y yt hx
    have key : ∀ v w, (do eqGuard op ty x y (ev t x) (ev t y); binOp op ty (ev t x) (ev t y) : Sem Value).run P w = .ok v w → (execOp (ev t) o).run P w = .ok (.value v) w := fun v w hr => by
      simp only [execOp, hx, Sem.run_bind] at hr ⊢
      rw [hr]; rfl
    split at hF
    · rcases orE_some hF with hF | hF
      · obtain ⟨v, hr, hk⟩ := nil_run hF h
        exact ⟨v, fun w => key v w (hr w).1, hk⟩
      rcases orE_some hF with hF | hF
      · obtain ⟨v, hr, hk⟩ := nil_run hF h
        exact ⟨v, fun w => key v w (hr w).2, hk⟩
      · obtain ⟨v, hr, hk⟩ := agg_eq_run hF h
        exact ⟨v, fun w => key v w (hr w), hk⟩
    · rcases orE_some hF with hF | hF
      · obtain ⟨v, hr, hk⟩ := nil_run hF h
        exact ⟨v, fun w => key v w (hr w).1, hk⟩
      rcases orE_some hF with hF | hF
      · obtain ⟨v, hr, hk⟩ := nil_run hF h
        exact ⟨v, fun w => key v w (hr w).2, hk⟩
      · obtain ⟨v, hr, hk⟩ := agg_eq_run hF h
        exact ⟨v, fun w => key v w (hr w), hk⟩
    · obtain ⟨v, hr, hk⟩ := ar_run (P := P) (ty := ty) (x := x) (y := y) hF h
      exact ⟨v, fun w => key v w (hr w), hk⟩
  · cases hF

end Go.Vc

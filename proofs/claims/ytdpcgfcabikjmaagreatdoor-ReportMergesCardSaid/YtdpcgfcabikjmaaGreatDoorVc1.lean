import Derived.OrdersHeld
import Derived.OrdersIn
import Derived.TacticsIn
import Derived.Sort.LoopGhostIn
import Derived.RangeFuncLeaves
import Derived.RangeFuncRecord
import Derived.RangeFuncSeq
import Derived.Still
import Derived.Tactics
import Derived.Laws.World
import Derived.Deep.LoopGhost
namespace Go.Vc

/-! Frames as lists. -/
abbrev Tm := List Value

def gt : Tm → Nat → Value
  | [], _ => undef
  | v :: _, 0 => v
  | _ :: t, n + 1 => gt t n

def st : Tm → Nat → Value → Tm
  | [], _, _ => []
  | _ :: t, 0, v => v :: t
  | x :: t, n + 1, v => x :: st t n v

def pt (t : Tm) (d : Option Nat) (v : Value) : Tm :=
  match d with
  | some d => st t d v
  | none => t

def ev (t : Tm) : Operand → Value
  | .tmp i => gt t i
  | .const v => v
  | .global g => .pointer (some ⟨g, 0, none⟩)
  | .func f => .func (.func f) #[] #[]

def mkA (t : Tm) : Act := { tmps := t.toArray, defers := [] }

theorem gt_eq (t : Tm) : ∀ i, gt t i = t.toArray.getD i undef := by
  induction t with
  | nil => intro i; simp [gt]
  | cons x t ih =>
    intro i
    cases i with
    | zero => simp [gt]
    | succ n => simp [gt, ih]

theorem st_eq (t : Tm) : ∀ i v, (st t i v) = t.set i v := by
  induction t with
  | nil => intro i v; simp [st]
  | cons x t ih =>
    intro i v
    cases i with
    | zero => simp [st]
    | succ n => simp [st, ih]

theorem mkA_put (t : Tm) (d : Option Nat) (v : Value) : (mkA t).put d v = mkA (pt t d v) := by
  cases d with
  | none => rfl
  | some d => simp [mkA, Act.put, pt, st_eq]

theorem mkA_eval (t : Tm) : (mkA t).eval = ev t := by
  funext x
  cases x with
  | tmp i => simp [Act.eval, mkA, ev, gt_eq]
  | _ => rfl

def mkD (t : Tm) (d : List Deferred) : Act := { tmps := t.toArray, defers := d }

theorem mkD_put (t : Tm) (ds : List Deferred) (d : Option Nat) (v : Value) : (mkD t ds).put d v = mkD (pt t d v) ds := by
  cases d with
  | none => rfl
  | some d => simp [mkD, Act.put, pt, st_eq]

theorem mkD_eval (t : Tm) (ds : List Deferred) : (mkD t ds).eval = ev t := by
  funext x
  cases x with
  | tmp i => simp [Act.eval, mkD, ev, gt_eq]
  | _ => rfl


theorem gt_st_ne (t : Tm) : ∀ (i j : Nat) (v : Value), i ≠ j → gt (st t i v) j = gt t j := by
  induction t with
  | nil => intro i j v _; rfl
  | cons x t ih =>
    intro i j v h
    cases i with
    | zero => cases j with
      | zero => exact absurd rfl h
      | succ j => rfl
    | succ i => cases j with
      | zero => rfl
      | succ j => exact ih i j v (by omega)

theorem length_st (t : Tm) (i : Nat) (v : Value) : (st t i v).length = t.length := by simp [st_eq]

theorem gt_ext : ∀ (t t' : Tm), t.length = t'.length → (∀ i, i < t.length → gt t i = gt t' i) → t = t'
  | [], [], _, _ => rfl
  | x :: t, y :: t', hl, h => by
    have h0 := h 0 (by simp)
    simp only [gt] at h0
    rw [h0, gt_ext t t' (by simpa using hl) (fun i hi => by have := h (i + 1) (by simpa using hi); simpa [gt] using this)]

/-! Kinds of values. -/
inductive SK where
  | int (k : IntKind)
  | bool
  | str
  | ptr
  | slice
  | map
  | raw

inductive TK where
  | s (k : SK)
  | agg (ks : List SK)

inductive Kd where
  | t (k : TK)
  | tup (ks : List TK)

def exS : SK → (Value → Prop) → Prop
  | .int k, K => ∃ n : Int, K (.int k n)
  | .bool, K => ∃ b : Bool, K (.bool b)
  | .str, K => ∃ s : ByteArray, K (.string s)
  | .ptr, K => ∃ p : Option Addr, K (.pointer p)
  | .slice, K => ∃ (a : Option Addr) (l c : Nat), K (.slice a l c)
  | .map, K => ∃ r : Option Nat, K (.map r)
  | .raw, K => ∃ v : Value, K v

def exL : List SK → (List Value → Prop) → Prop
  | [], K => K []
  | k :: ks, K => exS k fun v => exL ks fun vs => K (v :: vs)

def exT : TK → (Value → Prop) → Prop
  | .s k, K => exS k K
  | .agg ks, K => exL ks fun vs => K (.agg vs.toArray)

def exTL : List TK → (List Value → Prop) → Prop
  | [], K => K []
  | k :: ks, K => exT k fun v => exTL ks fun vs => K (v :: vs)

def exK : Kd → (Value → Prop) → Prop
  | .t k, K => exT k K
  | .tup ks, K => exTL ks fun vs => K (.tuple vs.toArray)

theorem exS_ex {k : SK} {K : Value → Prop} (h : exS k K) : ∃ v, K v := by
  cases k <;> simp only [exS] at h
  case slice => obtain ⟨a, l, c, h⟩ := h; exact ⟨_, h⟩
  all_goals (obtain ⟨v, h⟩ := h; exact ⟨_, h⟩)

theorem exL_ex : ∀ {ks : List SK} {K : List Value → Prop}, exL ks K → ∃ vs, vs.length = ks.length ∧ K vs
  | [], _, h => ⟨[], rfl, h⟩
  | _ :: _, _, h => by
    obtain ⟨v, h⟩ := exS_ex h
    obtain ⟨vs, hl, h⟩ := exL_ex h
    exact ⟨v :: vs, by simp [hl], h⟩

theorem exT_ex {k : TK} {K : Value → Prop} (h : exT k K) : ∃ v, K v := by
  cases k with
  | s k => exact exS_ex h
  | agg ks => obtain ⟨vs, _, h⟩ := exL_ex h; exact ⟨_, h⟩

theorem exTL_ex : ∀ {ks : List TK} {K : List Value → Prop}, exTL ks K → ∃ vs, K vs
  | [], _, h => ⟨[], h⟩
  | _ :: _, _, h => by
    obtain ⟨v, h⟩ := exT_ex h
    obtain ⟨vs, h⟩ := exTL_ex h
    exact ⟨v :: vs, h⟩

theorem exK_ex {k : Kd} {K : Value → Prop} (h : exK k K) : ∃ v, K v := by
  cases k with
  | t k => exact exT_ex h
  | tup ks => obtain ⟨vs, h⟩ := exTL_ex h; exact ⟨_, h⟩

/-! The same for all values of a kind, and the test of a kind. -/
def alS : SK → (Value → Prop) → Prop
  | .int k, K => ∀ n : Int, K (.int k n)
  | .bool, K => ∀ b : Bool, K (.bool b)
  | .str, K => ∀ s : ByteArray, K (.string s)
  | .ptr, K => ∀ p : Option Addr, K (.pointer p)
  | .slice, K => ∀ (a : Option Addr) (l c : Nat), K (.slice a l c)
  | .map, K => ∀ r : Option Nat, K (.map r)
  | .raw, K => ∀ v : Value, K v

def alL : List SK → (List Value → Prop) → Prop
  | [], K => K []
  | k :: ks, K => alS k fun v => alL ks fun vs => K (v :: vs)

def alT : TK → (Value → Prop) → Prop
  | .s k, K => alS k K
  | .agg ks, K => alL ks fun vs => K (.agg vs.toArray)

def eqK : IntKind → IntKind → Bool
  | .i8, .i8 | .i16, .i16 | .i32, .i32 | .i64, .i64 | .u8, .u8 | .u16, .u16 | .u32, .u32 | .u64, .u64 => true
  | _, _ => false

theorem eqK_spec {a b : IntKind} (h : eqK a b = true) : a = b := by cases a <;> cases b <;> first | rfl | (simp [eqK] at h)

def hsS (k : SK) (v : Value) (R : Prop) : Prop :=
  match k with
  | .raw => R
  | .int k => match v with
    | .int k' _ => cond (eqK k k') R False
    | _ => False
  | .bool => match v with
    | .bool _ => R
    | _ => False
  | .str => match v with
    | .string _ => R
    | _ => False
  | .ptr => match v with
    | .pointer _ => R
    | _ => False
  | .slice => match v with
    | .slice _ _ _ => R
    | _ => False
  | .map => match v with
    | .map _ => R
    | _ => False

theorem condF {b : Bool} {R : Prop} (h : cond b R False) : b = true ∧ R := by cases b <;> simp_all

theorem hsS_spec {k : SK} {v : Value} {R : Prop} (h : hsS k v R) : R ∧ ∀ F, alS k F → F v := by
  cases k with
  | raw => exact ⟨h, fun F hF => hF v⟩
  | int k =>
    cases v <;> simp only [hsS] at h
    obtain ⟨hk, hR⟩ := condF h
    have := eqK_spec hk
    subst this
    exact ⟨hR, fun F hF => hF _⟩
  | bool => cases v <;> simp only [hsS] at h; exact ⟨h, fun F hF => hF _⟩
  | str => cases v <;> simp only [hsS] at h; exact ⟨h, fun F hF => hF _⟩
  | ptr => cases v <;> simp only [hsS] at h; exact ⟨h, fun F hF => hF _⟩
  | slice => cases v <;> simp only [hsS] at h; exact ⟨h, fun F hF => hF _ _ _⟩
  | map => cases v <;> simp only [hsS] at h; exact ⟨h, fun F hF => hF _⟩

def hsL : List SK → List Value → Prop → Prop
  | [], [], R => R
  | k :: ks, v :: vs, R => hsS k v (hsL ks vs R)
  | _, _, _ => False

theorem hsL_spec : ∀ {ks : List SK} {vs : List Value} {R : Prop}, hsL ks vs R → R ∧ ∀ F, alL ks F → F vs
  | [], [], _, h => ⟨h, fun _ hF => hF⟩
  | k :: ks, v :: vs, R, h => by
    obtain ⟨h, h1⟩ := hsS_spec (show hsS k v (hsL ks vs R) from h)
    obtain ⟨h, h2⟩ := hsL_spec h
    exact ⟨h, fun F hF => h2 (fun vs => F (v :: vs)) (h1 _ hF)⟩
  | [], _ :: _, _, h => h.elim
  | _ :: _, [], _, h => h.elim

def hsT (k : TK) (v : Value) (R : Prop) : Prop :=
  match k with
  | .s k => hsS k v R
  | .agg ks => match v with
    | .agg cs => hsL ks cs.toList R
    | _ => False

theorem hsT_spec {k : TK} {v : Value} {R : Prop} (h : hsT k v R) : R ∧ ∀ F, alT k F → F v := by
  cases k with
  | s k => exact hsS_spec h
  | agg ks =>
    cases v <;> simp only [hsT] at h
    obtain ⟨h, h1⟩ := hsL_spec h
    exact ⟨h, fun F hF => by have := h1 (fun vs => F (.agg vs.toArray)) hF; simpa using this⟩

/-! Kinds of types. -/
def skOf (P : Program) (t : TypeId) : SK :=
  match P.underlying t with
  | some .bool => .bool
  | some (.int k) => .int k
  | some .string => .str
  | some (.pointer _) => .ptr
  | some (.slice _) => .slice
  | some (.map _ _) => .map
  | _ => .raw

def cellsK (P : Program) : Nat → TypeId → List SK
  | 0, _ => []
  | n + 1, t =>
    match P.underlying t with
    | some (.struct fs) => fs.toList.flatMap fun f => cellsK P n f.type
    | some (.array len e) => (List.replicate len (cellsK P n e)).flatten
    | _ => [skOf P t]

def tkOf (P : Program) (t : TypeId) : TK :=
  match P.underlying t with
  | some (.struct _) => .agg (cellsK P 12 t)
  | some (.array _ _) => .agg (cellsK P 12 t)
  | _ => .s (skOf P t)

def kdOf (P : Program) (t : TypeId) : Kd :=
  match P.underlying t with
  | some (.tuple ts) => .tup (ts.toList.map (tkOf P))
  | _ => .t (tkOf P t)

/-! What a computation must meet so that it ends, and ends so. -/
def isRow : Obj → Bool
  | .cells .. => true
  | _ => false

def okS (P : Program) {α : Type} : Sem α → World → (α → World → Prop) → Prop
  | .pure a, w, K => K a w
  | .load _ a k, w, K => ∃ v, w.cell? a = some v ∧ okS P (k v) w K
  | .store _ a v k, w, K => v.oneCell' = true ∧ (∃ x, w.cell? a = some x) ∧ w.frozen? a = false ∧ okS P k (w.setCell a v) K
  | .new o k, w, K => okS P (k w.heap.size) (w.alloc o) K
  | .shape r k, w, K => okS P (k (w.shape? r)) w K
  | .freeze a n k, w, K => okS P k (w.freeze a n) K
  | .frozen a k, w, K => okS P (k (w.frozen? a)) w K
  | .getObj r k, w, K => ∃ o, w.heap[r]? = some o ∧ isRow o = false ∧ okS P (k o) w K
  | .setObj r o k, w, K => ∃ x, w.heap[r]? = some x ∧ isRow x = false ∧ okS P k { w with heap := w.heap.setIfInBounds r o } K
  | .choose q k, w, K => cond q.forced (okS P (k 0) w K) (∀ t, okS P (k (q.cut t)) w.drew K)
  | .sys _ _, _, _ => False
  | .program k, w, K => okS P (k P) w K
  | .mark _ k, w, K => okS P k w K
  | .halt _, _, _ => False

theorem okS_run {P : Program} {α : Type} : ∀ (s : Sem α) (w : World) (K : α → World → Prop), okS P s w K → ∃ a w', s.run P w = .ok a w' ∧ K a w' := by
  intro s
  induction s with
  | pure a => exact fun w K h => ⟨a, w, rfl, h⟩
  | load m a k ih =>
    rintro w K ⟨v, hv, h⟩
    obtain ⟨x, w', hr, hk⟩ := ih v w K h
    exact ⟨x, w', by simp only [Sem.run, hv]; exact hr, hk⟩
  | store m a v k ih =>
    rintro w K ⟨h1, ⟨x, hx⟩, hf, h⟩
    obtain ⟨y, w', hr, hk⟩ := ih (w.setCell a v) K h
    refine ⟨y, w', ?_, hk⟩
    cases v <;> first | (simp [Value.oneCell'] at h1; done) | (simp only [Sem.run, hx, hf]; exact hr)
  | new o k ih => exact fun w K h => ih _ _ K h
  | shape r k ih => exact fun w K h => ih _ _ K h
  | freeze a n k ih => exact fun w K h => ih _ K h
  | frozen a k ih => exact fun w K h => ih _ _ K h
  | getObj r k ih =>
    rintro w K ⟨o, ho, hn, h⟩
    obtain ⟨x, w', hr, hk⟩ := ih o w K h
    refine ⟨x, w', ?_, hk⟩
    simp only [Sem.run, ho]
    cases o <;> first | (simp [isRow] at hn; done) | exact hr
  | setObj r o k ih =>
    rintro w K ⟨o', ho, hn, h⟩
    obtain ⟨x, w', hr, hk⟩ := ih _ K h
    refine ⟨x, w', ?_, hk⟩
    simp only [Sem.run, ho]
    cases o' <;> first | (simp [isRow] at hn; done) | exact hr
  | choose q k ih =>
    intro w K h
    simp only [okS] at h
    cases hq : q.forced with
    | true =>
      rw [hq] at h
      obtain ⟨x, w', hr, hk⟩ := ih 0 w K h
      exact ⟨x, w', by simp only [Sem.run, hq, if_true]; exact hr, hk⟩
    | false =>
      rw [hq] at h
      obtain ⟨x, w', hr, hk⟩ := ih _ w.drew K (h (w.tape w.drawn q))
      exact ⟨x, w', by simp only [Sem.run, hq, Bool.false_eq_true, if_false]; exact hr, hk⟩
  | sys c k ih => exact fun w K h => h.elim
  | program k ih => exact fun w K h => ih P w K h
  | mark m k ih => exact fun w K h => ih w K h
  | halt x => exact fun w K h => h.elim

theorem okS_mono {P : Program} {α : Type} {K K' : α → World → Prop} (hk : ∀ a w, K a w → K' a w) : ∀ (s : Sem α) (w : World), okS P s w K → okS P s w K' := by
  intro s
  induction s with
  | pure a => exact fun w h => hk _ _ h
  | load m a k ih => exact fun w ⟨v, hv, h⟩ => ⟨v, hv, ih v w h⟩
  | store m a v k ih => exact fun w ⟨h1, h2, h3, h⟩ => ⟨h1, h2, h3, ih _ h⟩
  | new o k ih => exact fun w h => ih _ _ h
  | shape r k ih => exact fun w h => ih _ _ h
  | freeze a n k ih => exact fun w h => ih _ h
  | frozen a k ih => exact fun w h => ih _ _ h
  | getObj r k ih => exact fun w ⟨v, h1, h2, h⟩ => ⟨v, h1, h2, ih v w h⟩
  | setObj r o k ih => exact fun w ⟨v, h1, h2, h⟩ => ⟨v, h1, h2, ih _ h⟩
  | choose q k ih =>
    intro w h
    simp only [okS] at h ⊢
    cases hq : q.forced with
    | true => rw [hq] at h; exact ih _ _ h
    | false => rw [hq] at h; exact fun t => ih _ _ (h t)
  | sys c k ih => exact fun w h => h
  | program k ih => exact fun w h => ih _ w h
  | mark m k ih => exact fun w h => ih w h
  | halt x => exact fun w h => h

/-- One run that is known. -/
theorem okS_bind {P : Program} {α β : Type} (f : α → Sem β) (K : β → World → Prop) : ∀ (s : Sem α) (w : World), okS P s w (fun a w' => okS P (f a) w' K) → okS P (s.bind f) w K := by
  intro s
  induction s with
  | pure a => exact fun w h => h
  | load m a k ih => exact fun w ⟨v, hv, h⟩ => ⟨v, hv, ih v w h⟩
  | store m a v k ih => exact fun w ⟨h1, h2, h3, h⟩ => ⟨h1, h2, h3, ih _ h⟩
  | new o k ih => exact fun w h => ih _ _ h
  | shape r k ih => exact fun w h => ih _ _ h
  | freeze a n k ih => exact fun w h => ih _ h
  | frozen a k ih => exact fun w h => ih _ _ h
  | getObj r k ih => exact fun w ⟨v, h1, h2, h⟩ => ⟨v, h1, h2, ih v w h⟩
  | setObj r o k ih => exact fun w ⟨v, h1, h2, h⟩ => ⟨v, h1, h2, ih _ h⟩
  | choose q k ih =>
    intro w h
    simp only [okS, Sem.bind] at h ⊢
    cases hq : q.forced with
    | true => rw [hq] at h; exact ih _ _ h
    | false => rw [hq] at h; exact fun t => ih _ _ (h t)
  | sys c k ih => exact fun w h => h
  | program k ih => exact fun w h => ih _ w h
  | mark m k ih => exact fun w h => ih w h
  | halt x => exact fun w h => h

/-- The fence that lets everything in; of a frame that is, or is not, a round's. -/
abbrev FW (ro : Option Nat) : Fence := { Fence.wide with round := ro }

/-- What is asked of the operation's outcome. -/
def nextK (P : Program) (ty : TypeId) (K : Value → World → Prop) : Next → World → Prop
  | .value v, w => K v w
  | .skip, w => K undef w
  | .enter f args, w => Calls P f args w fun e w' => exK (kdOf P ty) fun v => e = .returned v ∧ K v w'
  | .round l f tmps assign body, w => RoundIn Fence.wide 0 P l f tmps assign body w fun e w' => ∃ v, e = .returned v ∧ K v w'
  | _, _ => False

/-- A call of yield: the round ends, and says whether it goes on. -/
def YieldC (P : Program) (l : Nat) (args : Array Value) (w : World) (K : Bool → World → Prop) : Prop :=
  YieldAt Fence.wide 0 P l args w fun e w' => ∃ b, e = .returned (.bool b) ∧ K b w'

def noDefer : Op → Bool
  | .defer _ => false
  | _ => true

theorem noDefer_ne {o : Op} (h : noDefer o = true) : ∀ c, o ≠ .defer c := fun c e => by rw [e] at h; cases h

theorem uponIn_of_next {P : Program} {ro : Option Nat} {o : Oper} {a : Act} {w : World} {ty : TypeId} {K : Value → World → Prop} {N : Act → World → Prop} {Q : Exit → Act → World → Prop} {n : Next}
    (hN : ∀ v w', K v w' → N (a.put o.dst v) w') (hk : nextK P ty K n w) : o.uponIn (FW ro) 0 P a N Q (.ok n w) := by
  cases n <;> simp only [nextK] at hk <;> simp only [Oper.uponIn]
  · exact hN _ _ hk
  · exact hN _ _ hk
  · refine ⟨fun h => (by cases h), ?_⟩
    have h1 : CallsIn Fence.wide 0 P _ _ w _ := callsIn_wide.2 hk
    refine CallsIn.mono (show CallsIn (FW ro) 0 P _ _ w _ from h1) fun e w'' he => ?_
    obtain ⟨v, rfl, hv⟩ := exK_ex he
    exact hN _ _ hv
  · refine ⟨fun h => (by cases h), RoundIn.mono (show RoundIn (FW ro) 0 P _ _ _ _ _ w _ from hk) fun e w'' he => ?_⟩
    obtain ⟨v, rfl, hv⟩ := he
    exact hN _ _ hv

/-! Reading: the value, and what of the world it hangs on. -/
def holds (T : List (World → Prop)) (w : World) : Prop := ∀ f ∈ T, f w

def rdS (P : Program) {α : Type} : Sem α → World → List (World → Prop) → (α → List (World → Prop) → Prop) → Prop
  | .pure a, _, T, K => K a T
  | .load _ a k, w, T, K => ∃ v, w.cell? a = some v ∧ rdS P (k v) w ((fun w' => w'.cell? a = some v) :: T) K
  | .shape r k, w, T, K => rdS P (k (w.shape? r)) w ((fun w' => w'.shape? r = w.shape? r) :: T) K
  | .frozen a k, w, T, K => rdS P (k (w.frozen? a)) w ((fun w' => w'.frozen? a = w.frozen? a) :: T) K
  | .getObj r k, w, T, K => ∃ o, w.heap[r]? = some o ∧ isRow o = false ∧ rdS P (k o) w ((fun w' => w'.heap[r]? = some o) :: T) K
  | .choose q k, w, T, K => cond q.forced (rdS P (k 0) w T K) False
  | .program k, w, T, K => rdS P (k P) w T K
  | _, _, _, _ => False

theorem rdS_run {P : Program} {α : Type} : ∀ (s : Sem α) (w : World) (T : List (World → Prop)) (K : α → List (World → Prop) → Prop), rdS P s w T K →
    ∃ a T', K a T' ∧ (holds T w → holds T' w) ∧ ∀ w', holds T' w' → holds T w' ∧ s.run P w' = .ok a w' := by
  intro s
  induction s with
  | pure a => exact fun w T K h => ⟨a, T, h, id, fun w' hw => ⟨hw, rfl⟩⟩
  | load m a k ih =>
    rintro w T K ⟨v, hv, h⟩
    obtain ⟨x, T', hk, hw, hr⟩ := ih v w _ K h
    refine ⟨x, T', hk, fun hT => hw fun f hf => ?_, fun w' hw' => ?_⟩
    · rcases List.mem_cons.1 hf with rfl | hf
      · exact hv
      · exact hT f hf
    · obtain ⟨h1, h2⟩ := hr w' hw'
      have h3 : w'.cell? a = some v := h1 _ (List.mem_cons_self ..)
      exact ⟨fun f hf => h1 f (List.mem_cons_of_mem _ hf), by simp only [Sem.run, h3]; exact h2⟩
  | shape r k ih =>
    intro w T K h
    obtain ⟨x, T', hk, hw, hr⟩ := ih _ w _ K h
    refine ⟨x, T', hk, fun hT => hw fun f hf => ?_, fun w' hw' => ?_⟩
    · rcases List.mem_cons.1 hf with rfl | hf
      · rfl
      · exact hT f hf
    · obtain ⟨h1, h2⟩ := hr w' hw'
      have h3 : w'.shape? r = w.shape? r := h1 _ (List.mem_cons_self ..)
      exact ⟨fun f hf => h1 f (List.mem_cons_of_mem _ hf), by simp only [Sem.run, h3]; exact h2⟩
  | frozen r k ih =>
    intro w T K h
    obtain ⟨x, T', hk, hw, hr⟩ := ih _ w _ K h
    refine ⟨x, T', hk, fun hT => hw fun f hf => ?_, fun w' hw' => ?_⟩
    · rcases List.mem_cons.1 hf with rfl | hf
      · rfl
      · exact hT f hf
    · obtain ⟨h1, h2⟩ := hr w' hw'
      have h3 : w'.frozen? r = w.frozen? r := h1 _ (List.mem_cons_self ..)
      exact ⟨fun f hf => h1 f (List.mem_cons_of_mem _ hf), by simp only [Sem.run, h3]; exact h2⟩
  | getObj r k ih =>
    rintro w T K ⟨v, hv, hn, h⟩
    obtain ⟨x, T', hk, hw, hr⟩ := ih v w _ K h
    refine ⟨x, T', hk, fun hT => hw fun f hf => ?_, fun w' hw' => ?_⟩
    · rcases List.mem_cons.1 hf with rfl | hf
      · exact hv
      · exact hT f hf
    · obtain ⟨h1, h2⟩ := hr w' hw'
      have h3 : w'.heap[r]? = some v := h1 _ (List.mem_cons_self ..)
      refine ⟨fun f hf => h1 f (List.mem_cons_of_mem _ hf), ?_⟩
      simp only [Sem.run, h3]
      cases v <;> first | (simp [isRow] at hn; done) | exact h2
  | choose q k ih =>
    intro w T K h
    simp only [rdS] at h
    cases hq : q.forced with
    | true =>
      rw [hq] at h
      obtain ⟨x, T', hk, hw, hr⟩ := ih _ w _ K h
      exact ⟨x, T', hk, hw, fun w' hw' => ⟨(hr w' hw').1, by simp only [Sem.run, hq, if_true]; exact (hr w' hw').2⟩⟩
    | false => rw [hq] at h; exact h.elim
  | program k ih => exact fun w T K h => ih P w T K h
  | store => exact fun w T K h => h.elim
  | new => exact fun w T K h => h.elim
  | freeze => exact fun w T K h => h.elim
  | setObj => exact fun w T K h => h.elim
  | sys => exact fun w T K h => h.elim
  | mark => exact fun w T K h => h.elim
  | halt => exact fun w T K h => h.elim

end Go.Vc

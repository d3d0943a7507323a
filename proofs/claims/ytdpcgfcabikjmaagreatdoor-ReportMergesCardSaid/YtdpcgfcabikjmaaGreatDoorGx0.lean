import Derived.Test.YtdpcgfcabikjmaaGreatDoorGn
namespace Go.Gx
open Go Go.Vc

/-! Tables by number. -/
inductive Tr (α : Type) where
  | leaf (l : List (Nat × α))
  | node (a b : Tr α)

noncomputable def look {α : Type} (l : List (Nat × α)) : Nat → Option α :=
  List.rec (motive := fun _ => Nat → Option α) (fun _ => none) (fun p _ ih i => Bool.rec (motive := fun _ => Option α) (ih i) (some p.2) (Nat.beq p.1 i)) l

noncomputable def lput {α : Type} (l : List (Nat × α)) : Nat → α → List (Nat × α) :=
  List.rec (motive := fun _ => Nat → α → List (Nat × α)) (fun i v => [(i, v)])
    (fun p l ih i v => Bool.rec (motive := fun _ => List (Nat × α)) (Bool.rec (motive := fun _ => List (Nat × α)) (p :: ih i v) ((i, v) :: p :: l) (Nat.ble i p.1)) ((i, v) :: l) (Nat.beq p.1 i)) l

noncomputable def Tr.get {α : Type} (t : Tr α) : Nat → Option α :=
  Tr.rec (motive := fun _ => Nat → Option α) (fun l => look l) (fun _ _ iha ihb i => Bool.rec (motive := fun _ => Option α) (ihb (Nat.div i 2)) (iha (Nat.div i 2)) (Nat.beq (Nat.mod i 2) 0)) t

noncomputable def Tr.put {α : Type} (t : Tr α) : Nat → α → Tr α :=
  Tr.rec (motive := fun _ => Nat → α → Tr α) (fun l i v => .leaf (lput l i v)) (fun a b iha ihb i v => Bool.rec (motive := fun _ => Tr α) (.node a (ihb (Nat.div i 2) v)) (.node (iha (Nat.div i 2) v) b) (Nat.beq (Nat.mod i 2) 0)) t

theorem look_nil {α : Type} (i : Nat) : look ([] : List (Nat × α)) i = none := rfl
theorem look_cons {α : Type} (p : Nat × α) (l : List (Nat × α)) (i : Nat) : look (p :: l) i = cond (Nat.beq p.1 i) (some p.2) (look l i) := by
  show Bool.rec (motive := fun _ => Option α) (look l i) (some p.2) (Nat.beq p.1 i) = _
  cases Nat.beq p.1 i <;> rfl
theorem lput_nil {α : Type} (i : Nat) (v : α) : lput [] i v = [(i, v)] := rfl
theorem lput_cons {α : Type} (p : Nat × α) (l : List (Nat × α)) (i : Nat) (v : α) : lput (p :: l) i v = cond (Nat.beq p.1 i) ((i, v) :: l) (cond (Nat.ble i p.1) ((i, v) :: p :: l) (p :: lput l i v)) := by
  show Bool.rec (motive := fun _ => List (Nat × α)) (Bool.rec (motive := fun _ => List (Nat × α)) (p :: lput l i v) ((i, v) :: p :: l) (Nat.ble i p.1)) ((i, v) :: l) (Nat.beq p.1 i) = _
  cases Nat.beq p.1 i <;> cases Nat.ble i p.1 <;> rfl
theorem Tr.get_leaf {α : Type} (l : List (Nat × α)) (i : Nat) : (Tr.leaf l).get i = look l i := rfl
theorem Tr.get_node {α : Type} (a b : Tr α) (i : Nat) : (Tr.node a b).get i = cond (Nat.beq (Nat.mod i 2) 0) (a.get (Nat.div i 2)) (b.get (Nat.div i 2)) := by
  show Bool.rec (motive := fun _ => Option α) (b.get (Nat.div i 2)) (a.get (Nat.div i 2)) (Nat.beq (Nat.mod i 2) 0) = _
  cases Nat.beq (Nat.mod i 2) 0 <;> rfl
theorem Tr.put_leaf {α : Type} (l : List (Nat × α)) (i : Nat) (v : α) : (Tr.leaf l).put i v = .leaf (lput l i v) := rfl
theorem Tr.put_node {α : Type} (a b : Tr α) (i : Nat) (v : α) : (Tr.node a b).put i v = cond (Nat.beq (Nat.mod i 2) 0) (.node (a.put (Nat.div i 2) v) b) (.node a (b.put (Nat.div i 2) v)) := by
  show Bool.rec (motive := fun _ => Tr α) (.node a (b.put (Nat.div i 2) v)) (.node (a.put (Nat.div i 2) v) b) (Nat.beq (Nat.mod i 2) 0) = _
  cases Nat.beq (Nat.mod i 2) 0 <;> rfl

noncomputable def Tr.full {α : Type} : Nat → Tr α
  | 0 => .leaf []
  | n + 1 => .node (Tr.full n) (Tr.full n)

theorem beq_iff {a b : Nat} : Nat.beq a b = true ↔ a = b := ⟨Nat.eq_of_beq_eq_true, fun h => h ▸ Nat.beq_refl a⟩
theorem beq_ne {a b : Nat} (h : a ≠ b) : Nat.beq a b = false := by
  cases hb : Nat.beq a b with
  | false => rfl
  | true => exact absurd (beq_iff.1 hb) h

theorem look_lput {α : Type} : ∀ (l : List (Nat × α)) (i : Nat) (v : α) (j : Nat), look (lput l i v) j = if j = i then some v else look l j
  | [], i, v, j => by
    rw [lput_nil, look_cons]
    by_cases h : j = i
    · subst h; simp [Nat.beq_refl]
    · simp [look_nil, h, beq_ne (Ne.symm h)]
  | p :: l, i, v, j => by
    rw [lput_cons]
    cases hb : Nat.beq p.1 i with
    | true =>
      have := beq_iff.1 hb
      by_cases h : j = i
      · subst h; simp [look_cons, Nat.beq_refl]
      · simp [look_cons, h, beq_ne (Ne.symm h), this]
    | false =>
      simp only [cond_false]
      cases Nat.ble i p.1 with
      | true =>
        by_cases h : j = i
        · subst h; simp [look_cons, Nat.beq_refl]
        · simp [look_cons, h, beq_ne (Ne.symm h)]
      | false =>
        simp only [cond_false, look_cons]
        rw [look_lput l i v j]
        by_cases h : j = i
        · subst h; simp [hb]
        · simp [h]

theorem half_ne {i j : Nat} (hm : Nat.mod j 2 = Nat.mod i 2) : Nat.div j 2 = Nat.div i 2 ↔ j = i := by
  refine ⟨fun h => ?_, fun h => by rw [h]⟩
  have h1 : j % 2 = i % 2 := hm
  have h2 : j / 2 = i / 2 := h
  omega

theorem mod01 (i : Nat) : Nat.mod i 2 = 0 ∨ Nat.mod i 2 = 1 := by
  have : i % 2 = 0 ∨ i % 2 = 1 := by omega
  exact this

theorem get_put {α : Type} : ∀ (t : Tr α) (i : Nat) (v : α) (j : Nat), (t.put i v).get j = if j = i then some v else t.get j
  | .leaf l, i, v, j => look_lput l i v j
  | .node a b, i, v, j => by
    rw [Tr.put_node]
    rcases mod01 i with hi | hi <;> rcases mod01 j with hj | hj
    · have e : Nat.beq (Nat.mod i 2) 0 = true := beq_iff.2 hi
      have e' : Nat.beq (Nat.mod j 2) 0 = true := beq_iff.2 hj
      rw [e]
      simp only [cond_true, Tr.get_node, e', get_put a]
      by_cases h : j = i
      · simp [h]
      · have := (not_congr (half_ne (hj.trans hi.symm))).2 h
        simp [h, this]
    · have e : Nat.beq (Nat.mod i 2) 0 = true := beq_iff.2 hi
      have e' : Nat.beq (Nat.mod j 2) 0 = false := by rw [hj]; rfl
      rw [e]
      have h : j ≠ i := fun h => by rw [h, hi] at hj; cases hj
      simp [Tr.get_node, e', h]
    · have e : Nat.beq (Nat.mod i 2) 0 = false := by rw [hi]; rfl
      have e' : Nat.beq (Nat.mod j 2) 0 = true := beq_iff.2 hj
      rw [e]
      have h : j ≠ i := fun h => by rw [h, hi] at hj; cases hj
      simp [Tr.get_node, e', h]
    · have e : Nat.beq (Nat.mod i 2) 0 = false := by rw [hi]; rfl
      have e' : Nat.beq (Nat.mod j 2) 0 = false := by rw [hj]; rfl
      rw [e]
      simp only [cond_false, Tr.get_node, e', get_put b]
      by_cases h : j = i
      · simp [h]
      · have := (not_congr (half_ne (hj.trans hi.symm))).2 h
        simp [h, this]

theorem get_full {α : Type} : ∀ (n i : Nat), (Tr.full n : Tr α).get i = none
  | 0, _ => rfl
  | n + 1, i => by
    unfold Tr.full
    rw [Tr.get_node, get_full n]
    cases Nat.beq (Nat.mod i 2) 0 <;> rfl

/-! A closed run: values whose blocks go by names. -/
inductive AV where
  | int (k : IntKind) (n : Int)
  | bool (b : Bool)
  | str (l : List UInt8)
  | nilp
  | ptr (i o : Nat)
  | nils
  | sli (i o l z : Nat)
  | nili
  | iface (T : TypeId) (v : AV)
  | nilf
  | fn (f : FuncId) (x y : List AV)
  | yld (i : Nat)
  | agg (cs : List AV)
  | tup (vs : List AV)

/-- Where a name's row lies: the block, the cells of an element, how many elements have room. -/
structure Loc where
  b : Nat
  esz : Nat
  tot : Nat

abbrev Names := Nat → Option Loc

mutual
/-- The value that is meant. -/
noncomputable def rv (ρ : Names) : AV → Option Value
  | .int k n => some (.int k n)
  | .bool b => some (.bool b)
  | .str l => some (.string ⟨l.toArray⟩)
  | .nilp => some (.pointer none)
  | .ptr i o => (ρ i).map fun L => .pointer (some ⟨L.b, o, none⟩)
  | .nils => some (.slice none 0 0)
  | .sli i o l z => (ρ i).bind fun L => if o + l ≤ L.tot ∧ L.esz = z then some (.slice (some ⟨L.b, o * z, none⟩) l (L.tot - o)) else none
  | .nili => some .nilIface
  | .iface T v => (rv ρ v).map (.iface T)
  | .nilf => some .nilFunc
  | .fn f x y => match rvL ρ x, rvL ρ y with
    | some xs, some ys => some (.func (.func f) xs.toArray ys.toArray)
    | _, _ => none
  | .yld i => (ρ i).map fun L => .func (.yield L.b) #[] #[]
  | .agg cs => (rvL ρ cs).map fun l => .agg l.toArray
  | .tup vs => (rvL ρ vs).map fun l => .tuple l.toArray
noncomputable def rvL (ρ : Names) : List AV → Option (List Value)
  | [] => some []
  | a :: l => match rv ρ a, rvL ρ l with
    | some v, some vs => some (v :: vs)
    | _, _ => none
end

noncomputable def Ext (ρ σ : Names) : Prop := ∀ i L, ρ i = some L → σ i = some L
theorem Ext.refl (ρ : Names) : Ext ρ ρ := fun _ _ h => h
theorem Ext.trans {ρ σ τ : Names} (h : Ext ρ σ) (k : Ext σ τ) : Ext ρ τ := fun i L hi => k i L (h i L hi)

mutual
theorem rv_mono {ρ σ : Names} (hx : Ext ρ σ) : ∀ {a : AV} {v : Value}, rv ρ a = some v → rv σ a = some v
  | .int _ _, _, h => h
  | .bool _, _, h => h
  | .str _, _, h => h
  | .nilp, _, h => h
  | .nils, _, h => h
  | .nili, _, h => h
  | .nilf, _, h => h
  | .ptr i o, v, h => by
    simp only [rv, Option.map_eq_some_iff] at h ⊢
    obtain ⟨L, hL, rfl⟩ := h
    exact ⟨L, hx _ _ hL, rfl⟩
  | .yld i, v, h => by
    simp only [rv, Option.map_eq_some_iff] at h ⊢
    obtain ⟨L, hL, rfl⟩ := h
    exact ⟨L, hx _ _ hL, rfl⟩
  | .sli i o l z, v, h => by
    simp only [rv, Option.bind_eq_some_iff] at h ⊢
    obtain ⟨L, hL, h⟩ := h
    exact ⟨L, hx _ _ hL, h⟩
  | .iface T a, v, h => by
    simp only [rv, Option.map_eq_some_iff] at h ⊢
    obtain ⟨u, hu, rfl⟩ := h
    exact ⟨u, rv_mono hx hu, rfl⟩
  | .fn f x y, v, h => by
    simp only [rv] at h ⊢
    cases hx' : rvL ρ x with
    | none => rw [hx'] at h; cases h
    | some xs =>
      cases hy : rvL ρ y with
      | none => rw [hx', hy] at h; cases h
      | some ys =>
        rw [hx', hy] at h
        rw [rvL_mono hx hx', rvL_mono hx hy]
        exact h
  | .agg cs, v, h => by
    simp only [rv, Option.map_eq_some_iff] at h ⊢
    obtain ⟨l, hl, rfl⟩ := h
    exact ⟨l, rvL_mono hx hl, rfl⟩
  | .tup cs, v, h => by
    simp only [rv, Option.map_eq_some_iff] at h ⊢
    obtain ⟨l, hl, rfl⟩ := h
    exact ⟨l, rvL_mono hx hl, rfl⟩
theorem rvL_mono {ρ σ : Names} (hx : Ext ρ σ) : ∀ {l : List AV} {vs : List Value}, rvL ρ l = some vs → rvL σ l = some vs
  | [], _, h => h
  | a :: l, vs, h => by
    simp only [rvL] at h ⊢
    cases ha : rv ρ a with
    | none => rw [ha] at h; cases h
    | some v =>
      cases hl : rvL ρ l with
      | none => rw [ha, hl] at h; cases h
      | some us =>
        rw [ha, hl] at h
        rw [rv_mono hx ha, rvL_mono hx hl]
        exact h
end

theorem rvL_cons {ρ : Names} {a : AV} {l : List AV} {vs : List Value} (h : rvL ρ (a :: l) = some vs) : ∃ v us, vs = v :: us ∧ rv ρ a = some v ∧ rvL ρ l = some us := by
  simp only [rvL] at h
  cases ha : rv ρ a with
  | none => rw [ha] at h; cases h
  | some v =>
    cases hl : rvL ρ l with
    | none => rw [ha, hl] at h; cases h
    | some us => rw [ha, hl] at h; cases h; exact ⟨v, us, rfl, rfl, rfl⟩

theorem rvL_mk {ρ : Names} {a : AV} {l : List AV} {v : Value} {us : List Value} (h1 : rv ρ a = some v) (h2 : rvL ρ l = some us) : rvL ρ (a :: l) = some (v :: us) := by
  simp only [rvL, h1, h2]

theorem rvL_length {ρ : Names} : ∀ {l : List AV} {vs : List Value}, rvL ρ l = some vs → vs.length = l.length
  | [], _, h => by cases h; rfl
  | a :: l, vs, h => by
    obtain ⟨v, us, rfl, _, h2⟩ := rvL_cons h
    simp [rvL_length h2]

theorem rvL_get {ρ : Names} : ∀ {l : List AV} {vs : List Value} {i : Nat} {a : AV}, rvL ρ l = some vs → l[i]? = some a → ∃ v, vs[i]? = some v ∧ rv ρ a = some v
  | [], _, _, _, _, h => by simp at h
  | b :: l, vs, i, a, h, hi => by
    obtain ⟨v, us, rfl, h1, h2⟩ := rvL_cons h
    cases i with
    | zero => simp at hi; subst hi; exact ⟨v, rfl, h1⟩
    | succ i =>
      have hi' : l[i]? = some a := by simpa using hi
      obtain ⟨x, hx, hr⟩ := rvL_get h2 hi'
      exact ⟨x, by simpa using hx, hr⟩

theorem rvL_set {ρ : Names} : ∀ {l : List AV} {vs : List Value} {i : Nat} {a : AV} {v : Value}, rvL ρ l = some vs → rv ρ a = some v → rvL ρ (l.set i a) = some (vs.set i v)
  | [], _, _, _, _, h, _ => by cases h; rfl
  | b :: l, vs, i, a, v, h, ha => by
    obtain ⟨u, us, rfl, h1, h2⟩ := rvL_cons h
    cases i with
    | zero => exact rvL_mk ha h2
    | succ i => exact rvL_mk h1 (rvL_set h2 ha)

theorem rvL_app {ρ : Names} : ∀ {l m : List AV} {vs us : List Value}, rvL ρ l = some vs → rvL ρ m = some us → rvL ρ (l ++ m) = some (vs ++ us)
  | [], _, _, _, h, k => by cases h; exact k
  | a :: l, m, vs, us, h, k => by
    obtain ⟨v, ws, rfl, h1, h2⟩ := rvL_cons h
    exact rvL_mk h1 (rvL_app h2 k)

theorem rvL_take {ρ : Names} : ∀ {l : List AV} {vs : List Value} (n : Nat), rvL ρ l = some vs → rvL ρ (l.take n) = some (vs.take n)
  | [], _, _, h => by cases h; simp [rvL]
  | a :: l, vs, 0, h => rfl
  | a :: l, vs, n + 1, h => by
    obtain ⟨v, ws, rfl, h1, h2⟩ := rvL_cons h
    exact rvL_mk h1 (rvL_take n h2)

theorem rvL_drop {ρ : Names} : ∀ {l : List AV} {vs : List Value} (n : Nat), rvL ρ l = some vs → rvL ρ (l.drop n) = some (vs.drop n)
  | [], _, _, h => by cases h; simp [rvL]
  | a :: l, vs, 0, h => h
  | a :: l, vs, n + 1, h => by
    obtain ⟨v, ws, rfl, _, h2⟩ := rvL_cons h
    exact rvL_drop n h2

/-- A row of cells: its element type, the cells that are known (from its first on). -/
structure AO where
  T : TypeId
  cells : List AV
  ro : Bool

/-- The memory of a closed run, by names. 'none': what the name meant is stale. -/
abbrev AH := Tr (Option AO)

noncomputable def upd (ρ : Names) (i : Nat) (L : Loc) : Names := fun j => if j = i then some L else ρ j

structure Live (ρ : Names) (w0 w : World) (i : Nat) (ao : AO) (L : Loc) (cur : Array Value) (vs : List Value) : Prop where
  at_ : ρ i = some L
  new : w0.heap.size ≤ L.b
  blk : ∃ fz, w.heap[L.b]? = some (.cells cur ao.T fz) ∧ (ao.ro = false → fz = (0, 0))
  val : rvL ρ ao.cells = some vs
  here : cur.toList.take vs.length = vs
  room : L.tot * L.esz = cur.size
  most : L.tot ≤ maxLen

structure Rep (w0 w : World) (ρ : Names) (h : AH) : Prop where
  chg : Chg w0 w []
  dom : ∀ (i : Nat) (L : Loc), ρ i = some L → ∃ x, h.get i = some x
  live : ∀ (i : Nat) (ao : AO), h.get i = some (some ao) → ∃ L cur vs, Live ρ w0 w i ao L cur vs
  inj : ∀ (i j : Nat) (ao ao' : AO) (L L' : Loc), i ≠ j → h.get i = some (some ao) → h.get j = some (some ao') → ρ i = some L → ρ j = some L' → L.b ≠ L'.b

theorem Live.cell {ρ : Names} {w0 w : World} {i : Nat} {ao : AO} {L : Loc} {cur : Array Value} {vs : List Value} (h : Live ρ w0 w i ao L cur vs) {o : Nat} {a : AV} (ho : ao.cells[o]? = some a) :
    ∃ v, rv ρ a = some v ∧ w.cell? ⟨L.b, o, none⟩ = some v := by
  obtain ⟨v, hv, ha⟩ := rvL_get h.val ho
  refine ⟨v, ha, ?_⟩
  obtain ⟨fz, hblk, _⟩ := h.blk
  rw [cell_blk, hblk, getC_cells, ← Array.getElem?_toList]
  have h1 : (cur.toList.take vs.length)[o]? = some v := by rw [h.here]; exact hv
  rw [List.getElem?_take] at h1
  split at h1
  · exact h1
  · cases h1

/-- A live row whose block is written anew. -/
theorem Rep.rewrite {w0 w w' : World} {ρ : Names} {h : AH} (hr : Rep w0 w ρ h) {i : Nat} {ao : AO} (hi : h.get i = some (some ao)) {L : Loc} (hL : ρ i = some L) {cells : List AV} {cur' : Array Value} {vs' : List Value}
    (hc : Chg w w' [L.b]) (hb : w'.heap[L.b]? = some (.cells cur' ao.T (0, 0))) (hv : rvL ρ cells = some vs') (hh : cur'.toList.take vs'.length = vs') (hs : L.tot * L.esz = cur'.size) :
    Rep w0 w' ρ (h.put i (some { ao with cells := cells })) := by
  obtain ⟨L1, cur, vs, hl⟩ := hr.live i ao hi
  obtain rfl : L = L1 := Option.some.inj (hL.symm.trans hl.at_)
  have get : ∀ {x : Nat} {ax : AO}, (h.put i (some { ao with cells := cells })).get x = some (some ax) → ∃ ax', h.get x = some (some ax') := fun {x ax} hx => by
    rw [get_put] at hx
    split at hx
    · rename_i e; subst e; exact ⟨ao, hi⟩
    · exact ⟨ax, hx⟩
  refine ⟨hr.chg.trans hc (fun x hx => .inr (by simp at hx; subst hx; exact hl.new)), fun j Lj hj => ?_, fun j aj hj => ?_, fun j k aj ak Lj Lk hjk hj hk hLj hLk => ?_⟩
  · rw [get_put]
    split
    · exact ⟨_, rfl⟩
    · exact hr.dom j Lj hj
  · by_cases hji : j = i
    · subst hji
      rw [get_put, if_pos rfl] at hj
      cases hj
      exact ⟨L, cur', vs', hl.at_, hl.new, ⟨_, hb, fun _ => rfl⟩, hv, hh, hs, hl.most⟩
    · rw [get_put, if_neg hji] at hj
      obtain ⟨L2, cur2, vs2, hl2⟩ := hr.live j aj hj
      refine ⟨L2, cur2, vs2, hl2.at_, hl2.new, ?_, hl2.val, hl2.here, hl2.room, hl2.most⟩
      have := hr.inj j i aj ao L2 L hji hj hi hl2.at_ hL
      obtain ⟨fz, hblk, hfz⟩ := hl2.blk
      exact ⟨fz, hc.keep hblk (by simpa using this), hfz⟩
  · obtain ⟨aj', hj'⟩ := get hj
    obtain ⟨ak', hk'⟩ := get hk
    exact hr.inj j k aj' ak' Lj Lk hjk hj' hk' hLj hLk

theorem fresh_name {w0 w : World} {ρ : Names} {h : AH} (hr : Rep w0 w ρ h) {i : Nat} (hi : h.get i = none) : ρ i = none := by
  cases hρ : ρ i with
  | none => rfl
  | some L => obtain ⟨x, hx⟩ := hr.dom i L hρ; rw [hi] at hx; cases hx

theorem Ext.upd {ρ : Names} {i : Nat} {L : Loc} (h : ρ i = none) : Ext ρ (upd ρ i L) := fun j L' hj => by
  unfold Gx.upd
  rw [if_neg (fun e => by rw [e, h] at hj; cases hj)]
  exact hj

theorem Rep.below {w0 w : World} {ρ : Names} {h : AH} (hr : Rep w0 w ρ h) {j : Nat} {ao : AO} {L : Loc} (hj : h.get j = some (some ao)) (hL : ρ j = some L) : L.b < w.heap.size := by
  obtain ⟨L1, cur, vs, hl⟩ := hr.live j ao hj
  obtain rfl : L = L1 := Option.some.inj (hL.symm.trans hl.at_)
  obtain ⟨fz, hblk, _⟩ := hl.blk
  exact lt_of_heap hblk

/-- Blocks that no live name means may change. -/
theorem Rep.quietF {w0 w w' : World} {ρ : Names} {h : AH} (hr : Rep w0 w ρ h) {F : List Nat} (hc : Chg w w' F) (hF : ∀ f ∈ F, w0.heap.size ≤ f ∧ ∀ (j : Nat) (ao : AO) (L : Loc), h.get j = some (some ao) → ρ j = some L → L.b ≠ f) : Rep w0 w' ρ h :=
  ⟨hr.chg.trans hc (fun f hf => .inr (hF f hf).1), hr.dom, fun i ao hi => by
    obtain ⟨L, cur, vs, hl⟩ := hr.live i ao hi
    obtain ⟨fz, hblk, hfz⟩ := hl.blk
    exact ⟨L, cur, vs, hl.at_, hl.new, ⟨fz, hc.keep hblk (fun hf => (hF _ hf).2 i ao L hi hl.at_ rfl), hfz⟩, hl.val, hl.here, hl.room, hl.most⟩, hr.inj⟩

/-- A block that no live name means gets a name. -/
theorem Rep.name {w0 w : World} {ρ : Names} {h : AH} (hr : Rep w0 w ρ h) {i : Nat} (hi : h.get i = none) {L : Loc} {T : TypeId} {cells : List AV} {cur : Array Value} {vs : List Value}
    {ro : Bool} {fz : Nat × Nat} (hnew : w0.heap.size ≤ L.b) (hb : w.heap[L.b]? = some (.cells cur T fz)) (hfz : ro = false → fz = (0, 0)) (hno : ∀ (j : Nat) (ao : AO) (L' : Loc), h.get j = some (some ao) → ρ j = some L' → L'.b ≠ L.b)
    (hv : rvL (upd ρ i L) cells = some vs) (hh : cur.toList.take vs.length = vs) (hs : L.tot * L.esz = cur.size) (hm : L.tot ≤ maxLen) :
    Rep w0 w (upd ρ i L) (h.put i (some ⟨T, cells, ro⟩)) := by
  have hρ := fresh_name hr hi
  have hx : Ext ρ (upd ρ i L) := Ext.upd hρ
  refine ⟨hr.chg, fun j Lj hj => ?_, fun j aj hj => ?_, fun j k aj ak Lj Lk hjk hj hk hLj hLk => ?_⟩
  · rw [get_put]
    split
    · exact ⟨_, rfl⟩
    · rename_i e
      unfold Gx.upd at hj
      rw [if_neg e] at hj
      exact hr.dom j Lj hj
  · by_cases hji : j = i
    · subst hji
      rw [get_put, if_pos rfl] at hj
      cases hj
      exact ⟨L, cur, vs, by simp [Gx.upd], hnew, ⟨fz, hb, hfz⟩, hv, hh, hs, hm⟩
    · rw [get_put, if_neg hji] at hj
      obtain ⟨L2, cur2, vs2, hl2⟩ := hr.live j aj hj
      exact ⟨L2, cur2, vs2, hx _ _ hl2.at_, hl2.new, hl2.blk, rvL_mono hx hl2.val, hl2.here, hl2.room, hl2.most⟩
  · have side : ∀ {k : Nat} {ak : AO} {Lk : Loc}, (h.put i (some ⟨T, cells, ro⟩)).get k = some (some ak) → upd ρ i L k = some Lk → (k ≠ i ∧ h.get k = some (some ak) ∧ ρ k = some Lk) ∨ (k = i ∧ Lk = L) := fun {k ak Lk} hk hLk => by
      by_cases hki : k = i
      · subst hki
        simp [Gx.upd] at hLk
        exact .inr ⟨rfl, hLk.symm⟩
      · rw [get_put, if_neg hki] at hk
        simp [Gx.upd, hki] at hLk
        exact .inl ⟨hki, hk, hLk⟩
    rcases side hj hLj with ⟨h1, h2, h3⟩ | ⟨h1, h2⟩ <;> rcases side hk hLk with ⟨k1, k2, k3⟩ | ⟨k1, k2⟩
    · exact hr.inj j k aj ak Lj Lk hjk h2 k2 h3 k3
    · subst k2; exact hno j aj Lj h2 h3
    · subst h2; exact (hno k ak Lk k2 k3).symm
    · exact absurd (h1.trans k1.symm) hjk

/-- A new row under a new name, in a world in which nothing else has changed. -/
theorem Rep.new {w0 w w' : World} {ρ : Names} {h : AH} (hr : Rep w0 w ρ h) {i : Nat} (hi : h.get i = none) {L : Loc} {T : TypeId} {cells : List AV} {cur : Array Value} {vs : List Value}
    {ro : Bool} {fz : Nat × Nat} (hc : Chg w w' []) (hb : w'.heap[L.b]? = some (.cells cur T fz)) (hfz : ro = false → fz = (0, 0)) (hn : w.heap.size ≤ L.b) (hv : rvL (upd ρ i L) cells = some vs) (hh : cur.toList.take vs.length = vs) (hs : L.tot * L.esz = cur.size) (hm : L.tot ≤ maxLen) :
    Rep w0 w' (upd ρ i L) (h.put i (some ⟨T, cells, ro⟩)) :=
  (hr.quietF hc (by simp)).name hi (Nat.le_trans hr.chg.size hn) hb hfz (fun j ao L' hj hL => by have := hr.below hj hL; omega) hv hh hs hm

theorem Rep.alloc {w0 w : World} {ρ : Names} {h : AH} (hr : Rep w0 w ρ h) {i : Nat} (hi : h.get i = none) {T : TypeId} {cells : List AV} {vs : List Value} (hv : rvL ρ cells = some vs) {esz tot : Nat} (hs : tot * esz = vs.length) (hm : tot ≤ maxLen) :
    Rep w0 (w.alloc (.cells vs.toArray T)) (upd ρ i ⟨w.heap.size, esz, tot⟩) (h.put i (some ⟨T, cells, false⟩)) :=
  hr.new hi (Chg.new w _ []) (by rw [heap_new, if_pos rfl]) (fun _ => rfl) (Nat.le_refl _) (rvL_mono (Ext.upd (fresh_name hr hi)) hv) (by simp) (by simpa using hs) hm

/-- A name that is given up. -/
theorem Rep.stale {w0 w : World} {ρ : Names} {h : AH} (hr : Rep w0 w ρ h) (i : Nat) : Rep w0 w ρ (h.put i none) := by
  have get : ∀ {x : Nat} {ax : AO}, (h.put i none).get x = some (some ax) → h.get x = some (some ax) := fun {x ax} hx => by
    rw [get_put] at hx
    split at hx
    · cases hx
    · exact hx
  exact ⟨hr.chg, fun j Lj hj => by
    rw [get_put]
    split
    · exact ⟨_, rfl⟩
    · exact hr.dom j Lj hj, fun j aj hj => hr.live j aj (get hj), fun j k aj ak Lj Lk hjk hj hk hLj hLk => hr.inj j k aj ak Lj Lk hjk (get hj) (get hk) hLj hLk⟩

theorem Rep.quiet {w0 w w' : World} {ρ : Names} {h : AH} (hr : Rep w0 w ρ h) (hc : Chg w w' []) : Rep w0 w' ρ h :=
  ⟨hr.chg.trans hc (by simp), hr.dom, fun i ao hi => by
    obtain ⟨L, cur, vs, hl⟩ := hr.live i ao hi
    obtain ⟨fz, hblk, hfz⟩ := hl.blk
    exact ⟨L, cur, vs, hl.at_, hl.new, ⟨fz, hc.keep hblk (by simp), hfz⟩, hl.val, hl.here, hl.room, hl.most⟩, hr.inj⟩

end Go.Gx

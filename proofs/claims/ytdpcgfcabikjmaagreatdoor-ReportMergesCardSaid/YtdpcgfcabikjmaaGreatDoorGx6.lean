import Derived.Test.YtdpcgfcabikjmaaGreatDoorGx5
namespace Go.Gx
open Go Go.Vc

/-! Writers. -/
/-- What an operation that acts comes to: the value, the memory. -/
noncomputable def WrOK (P : Program) (w0 w : World) (ρ : Names) (s : Sem Value) (a : AV) (h' : AH) : Prop :=
  ∃ v w' ρ', s.run P w = .ok v w' ∧ Ext ρ ρ' ∧ Rep w0 w' ρ' h' ∧ rv ρ' a = some v

noncomputable def one : AV → Bool
  | .agg _ => false
  | .tup _ => false
  | _ => true

theorem one_ok {ρ : Names} {a : AV} {v : Value} (h1 : one a = true) (h : rv ρ a = some v) : v.oneCell' = true := by
  cases a with
  | agg cs => cases h1
  | tup cs => cases h1
  | int k n => cases rv_int h; rfl
  | bool b => cases rv_bool h; rfl
  | str l => cases rv_str h; rfl
  | nilp => cases h; rfl
  | nils => cases h; rfl
  | nili => cases h; rfl
  | nilf => cases h; rfl
  | ptr i o => obtain ⟨L, hL, rfl⟩ := rv_ptr h; rfl
  | sli i o l z => obtain ⟨L, hL, _, _, rfl⟩ := rv_sli h; rfl
  | iface T x =>
    simp only [rv, Option.map_eq_some_iff] at h
    obtain ⟨u, _, rfl⟩ := h
    rfl
  | fn f x y =>
    simp only [rv] at h
    split at h
    · cases h; rfl
    · cases h
  | yld i =>
    simp only [rv, Option.map_eq_some_iff] at h
    obtain ⟨u, _, rfl⟩ := h
    rfl

noncomputable def ones : List AV → Bool
  | [] => true
  | a :: l => cond (one a) (ones l) false

theorem ones_ok {ρ : Names} : ∀ {l : List AV} {vs : List Value}, ones l = true → rvL ρ l = some vs → ∀ v ∈ vs, v.oneCell' = true
  | [], _, _, h => by cases h; simp
  | a :: l, vs, h1, h => by
    obtain ⟨v, us, rfl, g1, g2⟩ := rvL_cons h
    unfold ones at h1
    cases ha : one a with
    | false => rw [ha] at h1; cases h1
    | true =>
      rw [ha] at h1
      intro u hu
      rcases List.mem_cons.1 hu with rfl | hu
      · exact one_ok ha g1
      · exact ones_ok h1 g2 u hu

noncomputable def gsto (P : Program) (ty : TypeId) (p a : AV) (h : AH) : Option AH := match p, szOf P ty with
  | .ptr i o, some sz => match h.get i with
    | some (some ao) => cond (Nat.beq (acells a).length sz && Nat.ble (Nat.add o sz) ao.cells.length && ones (acells a) && not ao.ro) (some (h.put i (some ⟨ao.T, setAt ao.cells o (acells a), ao.ro⟩))) none
    | _ => none
  | _, _ => none

theorem gsto_ok {P : Program} {ty : TypeId} {p a : AV} {h h' : AH} (hg : gsto P ty p a h = some h') {w0 w : World} {ρ : Names} (hr : Rep w0 w ρ h) {vp va : Value} (hp : rv ρ p = some vp) (ha : rv ρ a = some va) :
    ∃ w', (Instr.storeAt ty vp va).run P w = .ok () w' ∧ Rep w0 w' ρ h' := by
  unfold gsto at hg
  split at hg
  · rename_i i o sz hsz
    split at hg
    · rename_i ao hi
      cases hb : (Nat.beq (acells a).length sz && Nat.ble (Nat.add o sz) ao.cells.length && ones (acells a) && not ao.ro) with
      | false => rw [hb] at hg; cases hg
      | true =>
        rw [hb] at hg
        cases hg
        simp only [Bool.and_eq_true] at hb
        obtain ⟨⟨⟨h1, h2⟩, h3⟩, hro⟩ := hb
        have hro : ao.ro = false := by cases hq : ao.ro with
          | false => rfl
          | true => rw [hq] at hro; cases hro
        have h1 := beq_iff.1 h1
        have h2 : o + sz ≤ ao.cells.length := Nat.le_of_ble_eq_true h2
        obtain ⟨L, hL, rfl⟩ := rv_ptr hp
        obtain ⟨L1, cur, vs, hl⟩ := hr.live i ao hi
        obtain rfl : L = L1 := Option.some.inj (hL.symm.trans hl.at_)
        obtain ⟨fz, hblk, hfz⟩ := hl.blk
        obtain rfl := hfz hro
        have hc := acells_ok ha
        have hcl := rvL_length hc
        have hvl := rvL_length hl.val
        have hone := ones_ok h3 hc
        have hcs : va.cells.toList.length = sz := by rw [hcl, h1]
        have hcur : vs.length ≤ cur.toList.length := by rw [← hl.here]; simp; omega
        have hfit : o + 0 + va.cells.toList.length ≤ cur.size := by simp at hcur; omega
        refine ⟨_, ?_, hr.rewrite hi hL (w' := w.setRow L.b (setAt cur.toList o va.cells.toList).toArray) (cells := setAt ao.cells o (acells a)) (cur' := (setAt cur.toList o va.cells.toList).toArray) (vs' := setAt vs o va.cells.toList) ?_ ?_ (setAt_rvL o hl.val hc) ?_ ?_⟩
        · have hno : ¬ va.cells.size ≠ sz := by simp at hcs; simp [hcs]
          simp only [Instr.storeAt, Instr.sureAddr, storeVar, Sem.run_bind, Sem.run_pure, Result.andThen_ok, sz_run hsz, if_neg hno]
          rw [run_storeCells_at (P := P) L.b o ao.T va.cells.toList 0 cur w hblk hfit hone]
          rw [setAt_eq _ _ _ (by simpa using hfit)]
          simp
        · exact ⟨by simp [World.setRow], fun k _ hn => setRow_other w L.b k _ (by simpa using hn), ⟨rfl, rfl, rfl⟩⟩
        · exact setRow_heap w L.b cur _ ao.T _ hblk
        · rw [setAt_length, setAt_take _ _ _ _ (by omega)]
          rw [hl.here]
        · simp only [List.size_toArray, setAt_length]
          simpa using hl.room
    · cases hg
  · cases hg

/-- A variable made new. -/
noncomputable def gnew (T : TypeId) (a : AV) (h : AH) (n : Nat) : Option (AV × AH) := match h.get n with
  | none => some (.ptr n 0, h.put n (some ⟨T, acells a, false⟩))
  | some _ => none

theorem gnew_ok {P : Program} {T : TypeId} {a r : AV} {h h' : AH} {n : Nat} (hg : gnew T a h n = some (r, h')) {w0 w : World} {ρ : Names} (hr : Rep w0 w ρ h) {va : Value} (ha : rv ρ a = some va) :
    WrOK P w0 w ρ (do pure (.pointer (some (← newVar T va)))) r h' := by
  unfold gnew at hg
  split at hg
  · rename_i hn
    cases hg
    have hc := acells_ok ha
    have := hr.alloc hn (T := T) hc (esz := va.cells.toList.length) (tot := 1) (by simp) (by simp [maxLen])
    refine ⟨_, _, _, ?_, Ext.upd (fresh_name hr hn), this, by simp only [rv, upd, if_true, Option.map_some]; rfl⟩
    simp [newVar, newRow, newObj]
    rfl
  · cases hg

noncomputable def reps {α : Type} : Nat → List α → List α
  | 0, _ => []
  | n + 1, l => l ++ reps n l

theorem reps_length {α : Type} (l : List α) : ∀ n, (reps n l).length = n * l.length
  | 0 => by simp [reps]
  | n + 1 => by simp [reps, reps_length l n, Nat.add_mul]; omega

theorem reps_get {α : Type} [Inhabited α] (l : List α) : ∀ (n i : Nat), i < n * l.length → (reps n l)[i]? = some (l.toArray[i % l.length]!)
  | 0, i, h => by simp at h
  | n + 1, i, h => by
    unfold reps
    by_cases hi : i < l.length
    · rw [List.getElem?_append_left hi, Nat.mod_eq_of_lt hi]
      simp [hi]
    · rw [List.getElem?_append_right (by omega)]
      have hn : (n + 1) * l.length = n * l.length + l.length := by rw [Nat.add_mul, Nat.one_mul]
      rw [hn] at h
      rw [reps_get l n (i - l.length) (by omega)]
      have : i % l.length = (i - l.length) % l.length := Nat.mod_eq_sub_mod (by omega)
      rw [this]

theorem reps_made (z : Array Value) (n : Nat) : (reps n z.toList) = (madeCells z (n * z.size)).toList := by
  apply List.ext_getElem?
  intro i
  by_cases hi : i < n * z.size
  · rw [reps_get z.toList n i (by simpa using hi)]
    simp [madeCells, hi]
  · have h1 : (reps n z.toList).length ≤ i := by rw [reps_length]; simpa using hi
    have h2 : (madeCells z (n * z.size)).toList.length ≤ i := by simpa [size_madeCells] using hi
    rw [List.getElem?_eq_none h1, List.getElem?_eq_none h2]

theorem reps_rvL {ρ : Names} {l : List AV} {vs : List Value} (h : rvL ρ l = some vs) : ∀ n, rvL ρ (reps n l) = some (reps n vs)
  | 0 => rfl
  | n + 1 => rvL_app h (reps_rvL h n)

/-- A slice's element: its type, its cells' number, its bytes, its zero's cells. -/
noncomputable def elemP (P : Program) (t : TypeId) : Option (TypeId × Nat × Nat × List AV) := match P.underlying t with
  | some (.slice e) => match P.info? e, zeroA P e with
    | some i, some z => cond (Nat.beq (acells z).length i.size && Nat.ble 1 i.size) (some (e, i.size, i.bytes, acells z)) none
    | _, _ => none
  | _ => none

structure ElemOK (P : Program) (t e : TypeId) (sz by_ : Nat) (zs : List AV) : Prop where
  slT : ∃ z, SlT P t e z sz by_ ∧ ∀ ρ, rvL ρ zs = some z.cells.toList

theorem elemP_ok {P : Program} {t e : TypeId} {sz by_ : Nat} {zs : List AV} (h : elemP P t = some (e, sz, by_, zs)) : ElemOK P t e sz by_ zs := by
  unfold elemP at h
  split at h
  · rename_i e' hu
    split at h
    · rename_i i z hi hz
      cases hb : (Nat.beq (acells z).length i.size && Nat.ble 1 i.size) with
      | false => rw [hb] at h; cases h
      | true =>
        rw [hb] at h
        cases h
        simp only [Bool.and_eq_true] at hb
        have h1 := beq_iff.1 hb.1
        have h2 := Nat.le_of_ble_eq_true hb.2
        obtain ⟨v, hv, ⟨i', hi', hz'⟩, _⟩ := zeroA_ok hz (fun _ => none)
        obtain rfl : i = i' := Option.some.inj (hi.symm.trans hi')
        have hlen := rvL_length (acells_ok hv)
        refine ⟨v, ⟨hu, ⟨i, hi, hz', rfl, rfl⟩, by rw [← h1, ← hlen]; simp, h2⟩, fun ρ => ?_⟩
        obtain ⟨v2, hv2, ⟨i2, hi2, hz2⟩, _⟩ := zeroA_ok hz ρ
        obtain rfl : i = i2 := Option.some.inj (hi.symm.trans hi2)
        obtain rfl : v = v2 := Option.some.inj (hz'.symm.trans hz2)
        exact acells_ok hv2
    · cases h
  · cases h

noncomputable def gbsl (P : Program) (ty : TypeId) (len : Nat) (ps : List (Nat × AV)) (h : AH) (n : Nat) : Option (AV × AH) := match elemP P ty, h.get n with
  | some (e, sz, _, zs), none => match afill (fun i => some (Nat.mul i sz, sz)) (reps len zs) ps with
    | some cells => cond (Nat.ble (Nat.mul len sz) 16777216) (some (.sli n 0 len sz, h.put n (some ⟨e, cells, false⟩))) none
    | none => none
  | _, _ => none

theorem gbsl_ok {P : Program} {ty : TypeId} {len n : Nat} {ps : List (Nat × AV)} {qs : Array (Nat × Value)} {h h' : AH} {r : AV} (hg : gbsl P ty len ps h n = some (r, h')) {w0 w : World} {ρ : Names} (hr : Rep w0 w ρ h) (hp : partsR ρ ps qs.toList) :
    WrOK P w0 w ρ (Instr.buildSlice ty len qs) r h' := by
  unfold gbsl at hg
  split at hg
  · rename_i e sz by_ zs he hn
    split at hg
    · rename_i cells hf
      cases hb : Nat.ble (Nat.mul len sz) 16777216 with
      | false => rw [hb] at hg; cases hg
      | true =>
        rw [hb] at hg
        cases hg
        have hle : len * sz ≤ 16777216 := Nat.le_of_ble_eq_true hb
        obtain ⟨z, hT, hzs⟩ := (elemP_ok he).slT
        obtain ⟨i, hi, hz, hs, hby⟩ := hT.i
        have hzl : z.cells.toList.length = sz := by simpa using hT.zc
        obtain ⟨us, h1, h2⟩ := afill_ok hf (reps_rvL (hzs ρ) len) hp
        have hlen : us.length = len * sz := by
          have a1 := rvL_length h1
          have : ∀ {ps : List (Nat × AV)} {c res : List AV}, afill (fun i => some (Nat.mul i sz, sz)) c ps = some res → res.length = c.length := by
            intro ps
            induction ps with
            | nil => intro c res hh; cases hh; rfl
            | cons p ps ih =>
              intro c res hh
              obtain ⟨j, v⟩ := p
              simp only [afill] at hh
              cases hb2 : (Nat.beq (acells v).length sz && Nat.ble (Nat.add (Nat.mul j sz) (acells v).length) c.length) with
              | false => rw [hb2] at hh; cases hh
              | true => rw [hb2] at hh; rw [ih hh, setAt_length]
          have a2 := this hf
          have a3 := rvL_length (hzs ρ)
          rw [a1, a2, reps_length, ← a3, hzl]
        have hal := hr.alloc hn (T := e) h1 (esz := sz) (tot := len) hlen.symm (by unfold maxLen; have : len ≤ len * sz := Nat.le_mul_of_pos_right _ hT.pos; omega)
        refine ⟨.slice (some ⟨w.heap.size, 0, none⟩) len len, _, _, ?_, Ext.upd (fresh_name hr hn), hal, ?_⟩
        · have hsz : szOf P e = some sz := by simp [szOf, hi, hs]
          have hno : ¬ (len * sz > 2 ^ 24) := by simpa using hle
          have hzv : ∀ w, (zeroValue e).run P w = .ok z w := fun w => by simp [zeroValue, typeInfo, hi, hz]
          have hfill : ∀ zz : Array Value, (len * sz = 0 ∨ zz = z.cells) → Instr.fill (fun i => some (i * sz, sz)) ((Array.range (len * sz)).map (zz[· % zz.size]!)) qs.toList = some us.toArray := by
            intro zz hzz
            have hm : (Array.range (len * sz)).map (zz[· % zz.size]!) = (reps len z.cells.toList).toArray := by
              rcases hzz with h0 | rfl
              · have hl0 : len = 0 := by
                  rcases Nat.mul_eq_zero.1 h0 with h | h
                  · exact h
                  · have := hT.pos; omega
                subst hl0
                simp [reps]
              · have hrm := reps_made z.cells len
                have hzz : z.cells.size = sz := hT.zc
                rw [hrm, Array.toArray_toList]
                unfold madeCells
                rw [hzz]
            rw [hm]
            exact h2
          have hnew : ∀ c : Array Value, (newRow e c).run P w = .ok (⟨w.heap.size, 0, none⟩ : Addr) (w.alloc (.cells c e)) := fun c => by simp [newRow, newObj]; rfl
          by_cases h0 : len * sz = 0
          · have h5 := hfill #[] (.inl h0)
            simp only [Instr.buildSlice, Sem.run_bind, und_run hT.u, sz_run hsz, Result.andThen_ok, if_neg hno, if_pos h0, Sem.run_pure, h5, hnew]
          · have h5 := hfill z.cells (.inr rfl)
            simp only [Instr.buildSlice, Sem.run_bind, und_run hT.u, sz_run hsz, Result.andThen_ok, if_neg hno, if_neg h0, Sem.run_pure, hzv, h5, hnew]
        · simp [rv, upd]
    · cases hg
  · cases hg

noncomputable def gmsl (P : Program) (ty : TypeId) (l c : AV) (h : AH) (n : Nat) : Option (AV × AH) := match l, c, elemP P ty, h.get n with
  | .int _ (.ofNat l), .int _ (.ofNat c), some (e, sz, by_, zs), none =>
    cond (Nat.ble l c && Nat.ble (Nat.mul by_ c) 281474976710656 && Nat.ble c 9223372036854775807) (some (.sli n 0 l sz, h.put n (some ⟨e, reps c zs, false⟩))) none
  | _, _, _, _ => none

theorem gmsl_ok {P : Program} {ty : TypeId} {l c r : AV} {h h' : AH} {n : Nat} (hg : gmsl P ty l c h n = some (r, h')) {w0 w : World} {ρ : Names} (hr : Rep w0 w ρ h) {vl vc : Value} (hl : rv ρ l = some vl) (hc : rv ρ c = some vc) :
    WrOK P w0 w ρ (Instr.makeSlice ty vl vc) r h' := by
  unfold gmsl at hg
  split at hg
  · rename_i k l k' c e sz by_ zs he hn
    cases hb : (Nat.ble l c && Nat.ble (Nat.mul by_ c) 281474976710656 && Nat.ble c 9223372036854775807) with
    | false => rw [hb] at hg; cases hg
    | true =>
      rw [hb] at hg
      cases hg
      cases rv_int hl; cases rv_int hc
      simp only [Bool.and_eq_true] at hb
      obtain ⟨⟨h1, h2⟩, h3⟩ := hb
      have h1 := Nat.le_of_ble_eq_true h1
      have h2 : by_ * c ≤ 281474976710656 := Nat.le_of_ble_eq_true h2
      have h3 := Nat.le_of_ble_eq_true h3
      obtain ⟨z, hT, hzs⟩ := (elemP_ok he).slT
      obtain ⟨i, hi, hz, hs, hby⟩ := hT.i
      have hrun := run_make (P := P) w ty e i z hT.u hi hz k k' (l : Int) (c : Int) (by omega) (by omega) (by rw [hby, ← Int.natCast_mul]; exact Int.ofNat_le.2 h2) (by omega)
      have hzl : z.cells.size = sz := hT.zc
      have hcells : rvL ρ (reps c zs) = some (madeCells z.cells (c * i.size)).toList := by
        rw [hs, ← hzl, ← reps_made]
        exact reps_rvL (hzs ρ) c
      have hal := hr.alloc hn (T := e) hcells (esz := sz) (tot := c) (by simp [size_madeCells, hs]) h3
      refine ⟨_, _, _, hrun, Ext.upd (fresh_name hr hn), by simpa using hal, ?_⟩
      simp [rv, upd, h1]
  · cases hg

/-- 'append'. -/
noncomputable def gapp (P : Program) (tys : List TypeId) (s x : AV) (h : AH) (n : Nat) : Option (AV × AH) := match tys with
  | [t, t'] => cond (Nat.beq t t') (match elemP P t with
    | some (e, sz, by_, _) => match x with
      | .nils => match s with
        | .nils => some (.nils, h)
        | .sli i o l z => some (.sli i o l z, h)
        | _ => none
      | .sli j o m z => match cellsOfH h j (Nat.mul o z) (Nat.mul m z), h.get n with
        | some news, none => cond (Nat.beq z sz && ones news && Nat.ble 1 m) (match s with
          | .nils => cond (Nat.ble (Nat.mul m by_) 140737488355328 && Nat.ble m 9223372036854775807) (some (.sli n 0 m sz, h.put n (some ⟨e, news, false⟩))) none
          | .sli i 0 l z' => match cellsOfH h i 0 (Nat.mul l z'), h.get i with
            | some olds, some (some ao) => cond (Nat.beq z' sz && not ao.ro && Nat.beq ao.T e && Nat.ble (Nat.mul (Nat.add l m) by_) 140737488355328 && Nat.ble (Nat.add l m) 9223372036854775807)
                (some (.sli n 0 (Nat.add l m) sz, (h.put i none).put n (some ⟨e, olds ++ news, false⟩))) none
            | _, _ => none
          | _ => none) none
        | _, _ => none
      | _ => none
    | none => none) none
  | _ => none

theorem app_none {P : Program} {w : World} {t ty e : TypeId} {z : Value} {sz by_ : Nat} (hT : SlT P t e z sz by_) {base : Option Addr} {n c : Nat} (hn : n ≤ c) :
    (Builtin.append_ #[t, t] ty #[.slice base n c, .slice none 0 0]).run P w = .ok (.slice base n c) w := by
  obtain ⟨i, hi, hz, hs, hby⟩ := hT.i
  have hsz : szOf P e = some sz := by simp [szOf, hi, hs]
  have hni : ∀ w, (underlying t).run P w = .ok (.slice e) w := und_run hT.u
  cases base with
  | none => simp [Builtin.append_, hni, sz_run hsz, Builtin.lenOf, hn, Builtin.firstCells]
  | some a => simp [Builtin.append_, hni, sz_run hsz, Builtin.lenOf, hn, Builtin.firstCells, storeCells]

theorem gapp_ok {P : Program} {tys : Array TypeId} {dst : TypeId} {s x r : AV} {h h' : AH} {n : Nat} (hg : gapp P tys.toList s x h n = some (r, h')) {w0 w : World} {ρ : Names} (hr : Rep w0 w ρ h) {vs vx : Value} (hs : rv ρ s = some vs) (hx : rv ρ x = some vx) :
    WrOK P w0 w ρ (Builtin.append_ tys dst #[vs, vx]) r h' := by
  unfold gapp at hg
  split at hg
  · rename_i t t' htys
    cases ht : Nat.beq t t' with
    | false => rw [ht] at hg; cases hg
    | true =>
      rw [ht] at hg
      obtain rfl := beq_iff.1 ht
      have htys' : tys = #[t, t] := by rw [← htys]
      subst htys'
      simp only [cond_true] at hg
      split at hg
      · rename_i e sz by_ zs he
        obtain ⟨z0, hT, hzs⟩ := (elemP_ok he).slT
        split at hg
        · cases hx
          split at hg
          · cases hg; cases hs
            exact ⟨_, w, ρ, app_none hT (Nat.le_refl _), Ext.refl _, hr, rfl⟩
          · cases hg
            obtain ⟨L, hL, hle, hz, rfl⟩ := rv_sli hs
            exact ⟨_, w, ρ, app_none hT (by omega), Ext.refl _, hr, hs⟩
          · cases hg
        · rename_i j o m z
          split at hg
          · rename_i news hnews hn
            cases hb : (Nat.beq z sz && ones news && Nat.ble 1 m) with
            | false => rw [hb] at hg; cases hg
            | true =>
              rw [hb] at hg
              simp only [cond_true] at hg
              simp only [Bool.and_eq_true] at hb
              obtain ⟨⟨hz1, hones⟩, hm1⟩ := hb
              obtain rfl := beq_iff.1 hz1
              have hm1 := Nat.le_of_ble_eq_true hm1
              obtain ⟨Lx, hLx, _, _, rfl⟩ := rv_sli hx
              obtain ⟨Lx', us, hLx', hus, hul, hat⟩ := cells_fact hr hnews
              obtain rfl : Lx = Lx' := Option.some.inj (hLx.symm.trans hLx')
              have hul : us.length = m * z := hul
              have hat : cellsAt w ⟨Lx.b, o * z, none⟩ 0 us := hat
              have hnews' : ∀ j u, us[j]? = some u → w.cell? ((⟨Lx.b, o * z, none⟩ : Addr).add j) = some u := by
                have : ∀ (l : List Value) (i : Nat), cellsAt w ⟨Lx.b, o * z, none⟩ i l → ∀ j u, l[j]? = some u → w.cell? ((⟨Lx.b, o * z, none⟩ : Addr).add (i + j)) = some u := by
                  intro l
                  induction l with
                  | nil => intro i _ j u hj; simp at hj
                  | cons a l ih =>
                    intro i hc j u hj
                    cases j with
                    | zero => simp at hj; subst hj; exact hc.1
                    | succ j =>
                      have := ih (i + 1) hc.2 j u (by simpa using hj)
                      rw [show i + (j + 1) = i + 1 + j by omega]
                      exact this
                intro j u hj
                have := this us 0 hat j u hj
                simpa using this
              have hone := ones_ok hones hus
              split at hg
              · cases hb2 : (Nat.ble (Nat.mul m by_) 140737488355328 && Nat.ble m 9223372036854775807) with
                | false => rw [hb2] at hg; cases hg
                | true =>
                  rw [hb2] at hg
                  cases hg; cases hs
                  simp only [Bool.and_eq_true] at hb2
                  have g1 : m * by_ ≤ 140737488355328 := Nat.le_of_ble_eq_true hb2.1
                  have g2 : m ≤ 9223372036854775807 := Nat.le_of_ble_eq_true hb2.2
                  have own : w.ownsRow 0 e z (.slice none 0 0) 0 [] := ⟨by simp, .inl ⟨rfl, rfl⟩⟩
                  obtain ⟨v', w', hrun, hown, hchg, hnxt⟩ := append_c (P := P) (ty := dst) (c := Lx.tot - o) hT own hul hnews' hone (by simpa using g1) (by simpa using g2) (K := fun v' w' => w'.ownsRow 0 e z v' (0 + m) ([] ++ us) ∧ Chg w w' [] ∧ Nxt w (.slice none 0 0) v') (fun v' w' h1 h2 h3 => ⟨h1, h2, h3⟩)
                  rcases hown.2 with ⟨_, h0⟩ | ⟨g, cap, cur, rfl, _, hgg, hnc, hcm, hcs, htake⟩
                  · omega
                  · have hge : w.heap.size ≤ g := (hnxt g rfl).resolve_left (fun h => by cases h)
                    simp only [Nat.zero_add, List.nil_append] at hnc htake hrun
                    have hul2 : us.length = m * z := hul
                    have hext := Ext.upd (L := ⟨g, z, cap⟩) (fresh_name hr hn)
                    have := hr.new hn (L := ⟨g, z, cap⟩) (T := e) (cells := news) (cur := cur) (vs := us) (ro := false) hchg hgg (fun _ => rfl) hge (rvL_mono hext hus) (by rw [hul2]; exact htake) hcs.symm hcm
                    exact ⟨_, w', _, hrun, hext, this, by simp [rv, upd, hnc]⟩
              · rename_i i l z'
                split at hg
                · rename_i olds ao holds hi
                  cases hb2 : (Nat.beq z' z && not ao.ro && Nat.beq ao.T e && Nat.ble (Nat.mul (Nat.add l m) by_) 140737488355328 && Nat.ble (Nat.add l m) 9223372036854775807) with
                  | false => rw [hb2] at hg; cases hg
                  | true =>
                    rw [hb2] at hg
                    cases hg
                    simp only [Bool.and_eq_true] at hb2
                    obtain ⟨⟨⟨⟨k1, hro⟩, k2⟩, k3⟩, k4⟩ := hb2
                    have hro : ao.ro = false := by cases hq : ao.ro with
                      | false => rfl
                      | true => rw [hq] at hro; cases hro
                    obtain rfl := beq_iff.1 k1
                    have k2 := beq_iff.1 k2
                    have g1 : (l + m) * by_ ≤ 140737488355328 := Nat.le_of_ble_eq_true k3
                    have g2 : l + m ≤ 9223372036854775807 := Nat.le_of_ble_eq_true k4
                    obtain ⟨L, hL, hle, hez, rfl⟩ := rv_sli hs
                    obtain ⟨L1, cur0, vs0, hl⟩ := hr.live i ao hi
                    obtain rfl : L = L1 := Option.some.inj (hL.symm.trans hl.at_)
                    obtain ⟨fz, hblk, hfz⟩ := hl.blk
                    obtain rfl := hfz hro
                    have hold : olds = (ao.cells.drop 0).take (l * z') ∧ 0 + l * z' ≤ ao.cells.length := by
                      unfold cellsOfH at holds
                      simp only [hi] at holds
                      cases hb3 : Nat.ble (Nat.add 0 (Nat.mul l z')) ao.cells.length with
                      | false => rw [hb3] at holds; cases holds
                      | true => rw [hb3] at holds; cases holds; exact ⟨rfl, Nat.le_of_ble_eq_true hb3⟩
                    have hvl := rvL_length hl.val
                    have hvo : rvL ρ olds = some (vs0.take (l * z')) := by rw [hold.1]; simpa using rvL_take (l * z') hl.val
                    have own : w.ownsRow 0 e z' (.slice (some ⟨L.b, 0, none⟩) l L.tot) l (vs0.take (l * z')) := by
                      refine ⟨by simp; omega, .inr ⟨L.b, L.tot, cur0, rfl, Nat.zero_le _, by rw [← k2]; exact hblk, by omega, hl.most, by rw [← hl.room, hez], ?_⟩⟩
                      rw [← hl.here, List.take_take]
                      congr 1
                      omega
                    obtain ⟨v', w', hrun, hown, hchg, hnxt⟩ := append_c (P := P) (ty := dst) (c := Lx.tot - o) hT own hul hnews' hone g1 g2 (K := fun v' w' => w'.ownsRow 0 e z' v' (l + m) (vs0.take (l * z') ++ us) ∧ Chg w w' [L.b] ∧ Nxt w (.slice (some ⟨L.b, 0, none⟩) l L.tot) v') (fun v' w' h1 h2 h3 => ⟨h1, h2, h3⟩)
                    rcases hown.2 with ⟨_, h0⟩ | ⟨g, cap, cur, rfl, _, hgg, hnc, hcm, hcs, htake⟩
                    · omega
                    · have hge : g = L.b ∨ w.heap.size ≤ g := (hnxt g rfl).imp (fun h => by simp [Value.ownBlock] at h; exact h.symm) id
                      have hst := hr.stale i
                      have hdead : ∀ (j : Nat) (ao' : AO) (L' : Loc), (h.put i none).get j = some (some ao') → ρ j = some L' → L'.b ≠ L.b := fun j ao' L' hj hL' => by
                        rw [get_put] at hj
                        split at hj
                        · cases hj
                        · rename_i hji
                          exact hr.inj j i ao' ao L' L hji hj hi hL' hL
                      have hq := hst.quietF hchg (fun f hf => by
                        simp at hf; subst hf
                        exact ⟨hl.new, hdead⟩)
                      have hni : n ≠ i := fun e => by rw [e, hi] at hn; cases hn
                      have hn' : (h.put i none).get n = none := by rw [get_put, if_neg hni]; exact hn
                      have hext := Ext.upd (L := ⟨g, z', cap⟩) (fresh_name hr hn)
                      have hul2 : us.length = m * z' := hul
                      have hnm := hq.name hn' (ro := false) (L := ⟨g, z', cap⟩) (T := e) (cells := olds ++ news) (cur := cur) (vs := vs0.take (l * z') ++ us)
                        (by rcases hge with rfl | hge
                            · exact hl.new
                            · exact Nat.le_trans hr.chg.size hge) hgg (fun _ => rfl)
                        (fun j ao' L' hj hL' => by
                          rcases hge with rfl | hge
                          · exact hdead j ao' L' hj hL'
                          · have := hst.below hj hL'
                            show L'.b ≠ g
                            omega)
                        (rvL_app (rvL_mono hext hvo) (rvL_mono hext hus)) (by
                          have : (vs0.take (l * z') ++ us).length = (l + m) * z' := by rw [hown.1]
                          rw [this]; exact htake) hcs.symm hcm
                      refine ⟨_, w', _, by simpa using hrun, hext, hnm, ?_⟩
                      simp [rv, upd, hnc]
                · cases hg
              · cases hg
          · cases hg
        · cases hg
      · cases hg
  · cases hg

/-- Bytes to a string. -/
noncomputable def toB : List AV → Option (List UInt8)
  | [] => some []
  | .int .u8 (.ofNat n) :: l => match toB l with
    | some m => some (UInt8.ofNat n :: m)
    | none => none
  | _ => none

theorem toB_ok {ρ : Names} : ∀ {l : List AV} {m : List UInt8} {vs : List Value}, toB l = some m → rvL ρ l = some vs → ∃ xs : List Int, vs = xs.map (Value.int .u8) ∧ m = xs.map fun n => UInt8.ofNat n.toNat
  | [], m, vs, h, hv => by cases h; cases hv; exact ⟨[], rfl, rfl⟩
  | a :: l, m, vs, h, hv => by
    obtain ⟨v, us, rfl, h1, h2⟩ := rvL_cons hv
    unfold toB at h
    split at h
    · rename_i heq; cases heq
    · rename_i n l' heq
      cases heq
      split at h
      · rename_i m' hm
        cases h
        obtain ⟨xs, rfl, rfl⟩ := toB_ok hm h2
        cases rv_int h1
        exact ⟨(n : Int) :: xs, rfl, rfl⟩
      · cases h
    · cases h

noncomputable def gtos (P : Program) (src dst : TypeId) (a : AV) (h : AH) : Option AV := match P.underlying src, P.underlying dst with
  | some (.slice e), some .string => match P.underlying e, a with
    | some (.int .u8), .nils => some (.str [])
    | some (.int .u8), .sli i o m 1 => match cellsOfH h i o m with
      | some az => match toB az with
        | some l => some (.str l)
        | none => none
      | none => none
    | _, _ => none
  | _, _ => none

theorem gtos_ok {P : Program} {src dst : TypeId} {a r : AV} {h : AH} (hg : gtos P src dst a h = some r) {w0 w : World} {ρ : Names} (hr : Rep w0 w ρ h) {va : Value} (ha : rv ρ a = some va) :
    WrOK P w0 w ρ (convert src dst va) r h := by
  unfold gtos at hg
  split at hg
  · rename_i e hs hd
    split at hg
    · rename_i he
      cases hg; cases ha
      exact ⟨_, w, ρ, run_convert_bytes_nil (P := P) w src e hs he 0 0 dst hd, Ext.refl _, hr, rfl⟩
    · rename_i i o m he
      split at hg
      · rename_i az haz
        split at hg
        · rename_i l hl
          cases hg
          obtain ⟨L, hL, _, _, rfl⟩ := rv_sli ha
          obtain ⟨L', us, hL', hus, hul, hat⟩ := cells_fact hr haz
          obtain rfl : L = L' := Option.some.inj (hL.symm.trans hL')
          obtain ⟨xs, rfl, rfl⟩ := toB_ok hl hus
          have hcell : ∀ i, i < m → w.cell? ⟨L.b, o + i, none⟩ = some (.int .u8 (xs.getD i 0)) := by
            intro i hi
            have key : ∀ (l : List Value) (k : Nat), cellsAt w ⟨L.b, o, none⟩ k l → ∀ j u, l[j]? = some u → w.cell? ((⟨L.b, o, none⟩ : Addr).add (k + j)) = some u := by
              intro l
              induction l with
              | nil => intro k _ j u hj; simp at hj
              | cons a l ih =>
                intro k hc j u hj
                cases j with
                | zero => simp at hj; subst hj; exact hc.1
                | succ j =>
                  have := ih (k + 1) hc.2 j u (by simpa using hj)
                  rw [show k + (j + 1) = k + 1 + j by omega]
                  exact this
            have hlt : i < xs.length := by simp at hul; omega
            have := key _ 0 hat i (.int .u8 xs[i]) (by simp [hlt])
            rw [addA2] at this
            simp only [Nat.zero_add] at this
            rw [this]
            simp [hlt]
          have hrun := run_convert_bytes_arg (P := P) w src e hs he L.b o m (L.tot - o) xs (by simpa using hul) hcell dst hd
          refine ⟨.string (strOfNums xs), w, ρ, by simpa using hrun, Ext.refl _, hr, rfl⟩
        · cases hg
      · cases hg
    · cases hg
  · cases hg

end Go.Gx

import Derived.Test.YtdpcgfcabikjmaaGreatDoorVc5
import Derived.Laws.AppendOwn
import Derived.Laws.MakeOwn
import Derived.Laws.CopyRow
import Derived.Laws.IdiomCopy
import Derived.Laws.BytesArg
namespace Go.Vc

theorem cT {b : Bool} {A B : Prop} (h : b = true) (k : A) : cond b A B := by rw [h]; exact k
theorem cF {b : Bool} {A B : Prop} (h : b = false) (k : B) : cond b A B := by rw [h]; exact k

/-! Memory, block by block. -/
def getC (o : Option Obj) (i : Nat) : Option Value :=
  match o with
  | some (.cells c _ _) => c[i]?
  | _ => none

def getF (o : Option Obj) (i : Nat) : Bool :=
  match o with
  | some (.cells _ _ (lo, hi)) => lo ≤ i && i < hi
  | _ => false

def setO (i : Nat) (v : Value) (o : Option Obj) : Option Obj :=
  match o with
  | some (.cells c e f) => some (.cells (c.setIfInBounds i v) e f)
  | o => o

theorem cell_blk (w : World) (b i : Nat) : w.cell? ⟨b, i, none⟩ = getC w.heap[b]? i := by
  simp only [World.cell?, getC]
  cases w.heap[b]? with
  | none => rfl
  | some o => cases o <;> simp

theorem frozen_blk (w : World) (b i : Nat) : w.frozen? ⟨b, i, none⟩ = getF w.heap[b]? i := by
  simp only [World.frozen?, getF]
  cases w.heap[b]? with
  | none => rfl
  | some o => cases o <;> rfl

theorem heap_set (w : World) (b i k : Nat) (v : Value) : (w.setCell ⟨b, i, none⟩ v).heap[k]? = if b = k then setO i v w.heap[k]? else w.heap[k]? := by
  simp only [World.setCell, Array.getElem?_modify]
  by_cases h : b = k
  · simp only [h, if_true, setO]
    cases w.heap[k]? with
    | none => rfl
    | some o => cases o <;> simp
  · simp [h]

theorem heap_new (w : World) (o : Obj) (k : Nat) : (w.alloc o).heap[k]? = if k = w.heap.size then some o else w.heap[k]? := by
  simp only [World.alloc, Array.getElem?_push]

theorem heap_drew (w : World) : w.drew.heap = w.heap := rfl

theorem getC_cells (c : Array Value) (e : TypeId) (f : Nat × Nat) (i : Nat) : getC (some (.cells c e f)) i = c[i]? := rfl
theorem getF_cells (c : Array Value) (e : TypeId) (i : Nat) : getF (some (.cells c e (0, 0))) i = false := by simp [getF]
theorem setO_cells (c : Array Value) (e : TypeId) (f : Nat × Nat) (i : Nat) (v : Value) : setO i v (some (.cells c e f)) = some (.cells (c.setIfInBounds i v) e f) := rfl

/-- What lies outside memory. -/
structure Env (w w' : World) : Prop where
  os : w'.os = w.os
  tape : w'.tape = w.tape
  out : w'.output = w.output

theorem Env.refl (w : World) : Env w w := ⟨rfl, rfl, rfl⟩
theorem Env.trans {w w1 w2 : World} (h : Env w w1) (k : Env w1 w2) : Env w w2 := ⟨k.os.trans h.os, k.tape.trans h.tape, k.out.trans h.out⟩
theorem Env.set (w : World) (a : Addr) (v : Value) : Env w (w.setCell a v) := ⟨rfl, rfl, rfl⟩

/-- From w to w' at most the blocks of F have changed, of those that were there. -/
structure Chg (w w' : World) (F : List Nat) : Prop where
  size : w.heap.size ≤ w'.heap.size
  same : ∀ i, i < w.heap.size → i ∉ F → w'.heap[i]? = w.heap[i]?
  env : Env w w'

theorem Chg.refl (w : World) (F : List Nat) : Chg w w F := ⟨Nat.le_refl _, fun _ _ _ => rfl, Env.refl _⟩
theorem Chg.drew (w : World) (F : List Nat) : Chg w w.drew F := ⟨Nat.le_refl _, fun _ _ _ => rfl, ⟨rfl, rfl, rfl⟩⟩
theorem Chg.trans {w w1 w2 : World} {F G : List Nat} (h : Chg w w1 F) (h' : Chg w1 w2 G) (hG : ∀ i ∈ G, i ∈ F ∨ w.heap.size ≤ i) : Chg w w2 F :=
  ⟨Nat.le_trans h.size h'.size, fun i hi hn => (h'.same i (Nat.lt_of_lt_of_le hi h.size) fun hg => (hG i hg).elim hn (by omega)).trans (h.same i hi hn), h.env.trans h'.env⟩
theorem Chg.mono {w w1 : World} {F G : List Nat} (h : Chg w w1 F) (hs : ∀ i ∈ F, i ∈ G) : Chg w w1 G := ⟨h.size, fun i hi hn => h.same i hi fun hf => hn (hs i hf), h.env⟩
theorem Chg.set (w : World) (b i : Nat) (v : Value) {F : List Nat} (h : b ∈ F) : Chg w (w.setCell ⟨b, i, none⟩ v) F :=
  ⟨by simp, fun k _ hn => by rw [heap_set, if_neg (fun e : b = k => hn (e ▸ h))], ⟨rfl, rfl, rfl⟩⟩
theorem Chg.new (w : World) (o : Obj) (F : List Nat) : Chg w (w.alloc o) F :=
  ⟨by simp, fun k hk _ => by rw [heap_new, if_neg (by omega)], ⟨rfl, rfl, rfl⟩⟩
theorem Chg.grown {w w' : World} {r : Option Nat} (h : w.grownBy w' r) : Chg w w' r.toList :=
  ⟨h.size, fun i hi hn => h.block i hi (fun e => hn (by rw [← e]; simp)), ⟨h.os, h.tape, h.output⟩⟩

theorem lt_of_heap {w : World} {b : Nat} {o : Obj} (h : w.heap[b]? = some o) : b < w.heap.size := (Array.getElem?_eq_some_iff.1 h).1

theorem Chg.keep {w w' : World} {F : List Nat} (h : Chg w w' F) {b : Nat} {o : Obj} (hb : w.heap[b]? = some o) (hn : b ∉ F) : w'.heap[b]? = some o :=
  (h.same b (lt_of_heap hb) hn).trans hb

theorem stK_mk {w : World} {b i : Nat} {v : Value} {R : World → Prop} {cs : Array Value} {T : TypeId} (h : w.heap[b]? = some (.cells cs T (0, 0))) (hi : i < cs.size) (hv : v.oneCell' = true)
    (k : R (w.setCell ⟨b, i, none⟩ v)) : stK w ⟨b, i, none⟩ v R :=
  ⟨hv, ⟨cs[i], by rw [cell_blk, h, getC_cells]; simp [hi]⟩, by rw [frozen_blk, h, getF_cells], k⟩

theorem newK_mk {w : World} {o : Obj} {R : Nat → World → Prop} (h : R w.heap.size (w.alloc o)) : newK w o R := h

theorem addA (g j : Nat) : (⟨g, 0, none⟩ : Addr).add j = ⟨g, j, none⟩ := by unfold Addr.add; split <;> simp_all

theorem stL_mk {b o : Nat} {T : TypeId} {R : World → Prop} : ∀ (vs : List Value) (i : Nat) (w : World) (c : Array Value), w.heap[b]? = some (.cells c T (0, 0)) → o + i + vs.length ≤ c.size → (∀ v ∈ vs, v.oneCell' = true) →
    (∀ w', w'.heap[b]? = some (.cells (c.toList.take (o + i) ++ vs ++ c.toList.drop (o + i + vs.length)).toArray T (0, 0)) → Chg w w' [b] → w'.heap.size = w.heap.size → R w') → stL ⟨b, o, none⟩ i vs w R
  | [], i, w, c, h, _, _, k => k w (by simpa using h) (Chg.refl _ _) rfl
  | v :: vs, i, w, c, h, hl, h1, k => by
    have ha : (⟨b, o, none⟩ : Addr).add i = ⟨b, o + i, none⟩ := by unfold Addr.add; split <;> simp_all
    show stK w _ v _
    rw [ha]
    simp only [List.length_cons] at hl
    refine stK_mk h (by omega) (h1 v (List.mem_cons_self ..)) ?_
    refine stL_mk vs (i + 1) _ (c.setIfInBounds (o + i) v) (by rw [heap_set, if_pos rfl, h]; rfl) (by simp; omega) (fun u hu => h1 u (List.mem_cons_of_mem _ hu)) ?_
    intro w' hb hc hs
    refine k w' ?_ ((Chg.set w b (o + i) v (by simp)).trans hc (fun j hj => .inl hj)) (by rw [hs]; simp)
    rw [hb]
    congr 3
    have hlt : o + i < c.toList.length := by simp; omega
    simp only [Array.toList_setIfInBounds, List.length_cons]
    rw [show o + (i + 1) = o + i + 1 by omega, List.take_succ_eq_append_getElem (by simpa using hlt), List.take_set_of_le (Nat.le_refl _)]
    simp only [List.getElem_set_self, List.append_assoc, List.cons_append, List.nil_append]
    congr 3
    rw [List.drop_set_of_lt (by omega)]
    congr 1
    omega

/-! Bytes. -/
def byteV (b : UInt8) : Value := .int .u8 (b.toNat : Int)

theorem ownsRow_heap {w : World} {base : Nat} {e : TypeId} {size : Nat} {v : Value} {n : Nat} {xs : List Value} {w' : World}
    (h : w.ownsRow base e size v n xs) (hs : ∀ k, v.ownBlock = some k → w'.heap[k]? = w.heap[k]?) : w'.ownsRow base e size v n xs := by
  refine ⟨h.1, ?_⟩
  rcases h.2 with hn | ⟨g, cap, cur, rfl, hb, hgg, rest⟩
  · exact .inl hn
  · exact .inr ⟨g, cap, cur, rfl, hb, (hs g rfl).trans hgg, rest⟩

theorem ownsRow_chg {w : World} {base : Nat} {e : TypeId} {size : Nat} {v : Value} {n : Nat} {xs : List Value} {w' : World} {F : List Nat}
    (h : w.ownsRow base e size v n xs) (hc : Chg w w' F) (hs : ∀ k, v.ownBlock = some k → k ∉ F) : w'.ownsRow base e size v n xs :=
  ownsRow_heap h fun k hk => hc.same k (h.lt k hk).2 (hs k hk)

end Go.Vc

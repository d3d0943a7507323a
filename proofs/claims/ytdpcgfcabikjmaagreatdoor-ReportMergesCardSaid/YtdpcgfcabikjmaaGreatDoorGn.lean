import Derived.Test.YtdpcgfcabikjmaaGreatDoorAt
namespace Go.Vc

def RetC (K : Value → World → Prop) : Ending → World → Prop := fun e w' => ∃ v, e = .returned v ∧ K v w'

theorem useC {P : Program} {f : FuncId} {args : Array Value} {w : World} {K : Value → World → Prop} {R : Ending → World → Prop}
    (h : Calls P f args w (RetC K)) (k : ∀ v w', K v w' → R (.returned v) w') : Calls P f args w R :=
  h.mono fun e w' ⟨v, he, hv⟩ => by subst he; exact k v w' hv

/-! A list that can be read; one's own rows, cell by cell; a call's new things beside what was. -/
theorem addA2 (g i j : Nat) : (⟨g, i, none⟩ : Addr).add j = ⟨g, i + j, none⟩ := by unfold Addr.add; split <;> simp_all

theorem row_get {w : World} {e : TypeId} {sz n : Nat} {a : Option Addr} {c : Nat} {xs : List Value} (own : w.ownsRow 0 e sz (.slice a n c) n xs) (hn : 0 < n) : ∃ g, a = some ⟨g, 0, none⟩ ∧ ∀ (k : Nat) (v : Value), xs[k]? = some v → w.cell? ⟨g, k, none⟩ = some v := by
  rcases own.2 with ⟨hv, rfl⟩ | ⟨g, cap, cur, hv, _, hg, h1, _, h3, h4⟩
  · omega
  · cases hv
    refine ⟨g, rfl, fun k v hk => ?_⟩
    rw [cell_blk, hg, getC_cells, ← Array.getElem?_toList, ← hk, ← h4, List.getElem?_take]
    rw [← h4, List.getElem?_take] at hk
    split at hk
    · rename_i hlt; rw [if_pos hlt]
    · cases hk

def Rd (w : World) (a : Option Addr) (xs : List Value) : Prop := ∀ (i : Nat) (v : Value), xs[i]? = some v → ∃ q, a = some q ∧ w.cell? (q.add (i * 1)) = some v

theorem Rd.chg {w w' : World} {a : Option Addr} {xs : List Value} (h : Rd w a xs) (hc : Chg w w' []) : Rd w' a xs := fun i v hi =>
  let ⟨q, hq, hv⟩ := h i v hi
  ⟨q, hq, cell_chg hv hc⟩

theorem Rd.row {w : World} {e : TypeId} {n : Nat} {a : Option Addr} {c : Nat} {xs : List Value} (own : w.ownsRow 0 e 1 (.slice a n c) n xs) : Rd w a xs := fun i v hi => by
  have hl : i < n := by
    have h1 := (List.getElem?_eq_some_iff.1 hi).1
    have h2 := own.1
    omega
  obtain ⟨g, rfl, hget⟩ := row_get own (by omega)
  exact ⟨_, rfl, by rw [Nat.mul_one, addA]; exact hget i v hi⟩

theorem boxRow {r : Nat} {cs : Array Value} {T : TypeId} {n : Nat} (hn : cs.size = n) (hm : n ≤ maxLen) : Weak (boxA r cs T) (rowA T 1 (.slice (some ⟨r, 0, none⟩) n n) n cs.toList) := by
  rintro w F ⟨h, rfl⟩
  refine ⟨[r], ⟨⟨by simp [hn], .inr ⟨r, n, cs, rfl, Nat.zero_le _, h, Nat.le_refl _, hm, by omega, ?_⟩⟩, by simp [Value.ownBlock]⟩, by simp⟩
  rw [Nat.mul_one]
  exact List.take_of_length_le (by simp [hn])

theorem Weak.left {A B C : Asn} (h : Weak A B) : Weak (star A C) (star B C) := by
  rintro w F ⟨F1, F2, rfl, h1, h2, hd⟩
  obtain ⟨F1', h1', hj⟩ := h w F1 h1
  exact ⟨F1' ++ F2, ⟨F1', F2, rfl, h1', h2, fun k hk hk2 => hd k (hj k hk) hk2⟩, fun j hj' => by rcases List.mem_append.1 hj' with h | h <;> simp [h, hj j]⟩

theorem take_snoc {α : Type} {l : List α} {i : Nat} {a : α} (h : l[i]? = some a) : l.take (i + 1) = l.take i ++ [a] := by
  rw [List.take_add_one, h]; rfl

theorem St.after {w0 w w' : World} {A B : Asn} (h : St w0 w A) (k : St w w' B) : St w0 w' (star B A) := by
  obtain ⟨F, hA, hc, hn⟩ := h
  obtain ⟨G, hB, hc', hn'⟩ := k
  refine ⟨G ++ F, ⟨G, F, rfl, hB, A.loc hA hc' (by simp), fun k hk hk2 => ?_⟩, hc.trans hc' (by simp), fun k hk => ?_⟩
  · have := hn' k hk
    have := A.lt hA k hk2
    omega
  · rcases List.mem_append.1 hk with h | h
    · exact Nat.le_trans hc.size (hn' k h)
    · exact hn k h

theorem slice0 {a : Option Addr} {c : Nat} : (if c = 0 then a else Option.map (fun x => Addr.add x (0 * 1)) a) = a := by
  split
  · rfl
  · cases a with
    | none => rfl
    | some q => rw [Option.map_some]; unfold Addr.add; rfl

theorem Rd.take {w : World} {a : Option Addr} {xs : List Value} (h : Rd w a xs) (n : Nat) : Rd w a (xs.take n) := fun i v hi => by
  rw [List.getElem?_take] at hi
  split at hi
  · exact h i v hi
  · cases hi

theorem since_st {w0 w1 w : World} {A : Asn} (hc : Chg w0 w1 []) (h : St w1 w A) : St w0 w A :=
  let ⟨F, hF, hc', hn⟩ := h
  ⟨F, hF, hc.trans hc' (by simp), fun k hk => Nat.le_trans hc.size (hn k hk)⟩

theorem row_info {w : World} {e : TypeId} {sz n c : Nat} {a : Option Addr} {xs : List Value} (own : w.ownsRow 0 e sz (.slice a n c) n xs) : n ≤ c ∧ (a = none → c = 0) := by
  rcases own.2 with ⟨hv, rfl⟩ | ⟨g, cap, cur, hv, _, _, h1, _⟩
  · cases hv; exact ⟨Nat.zero_le _, fun _ => rfl⟩
  · cases hv; exact ⟨h1, fun h => by cases h⟩

theorem cells_of {w : World} {a : Addr} : ∀ (vs : List Value) (i : Nat), (∀ (j : Nat) (v : Value), vs[j]? = some v → w.cell? (a.add (i + j)) = some v) → cellsAt w a i vs
  | [], _, _ => trivial
  | v :: vs, i, h => ⟨h 0 v rfl, cells_of vs (i + 1) fun j u hj => by have := h (j + 1) u (by simpa using hj); rwa [show i + (j + 1) = i + 1 + j by omega] at this⟩

theorem St.cellsIn {w0 w : World} {l : List Asn} {r : Nat} {cs : Array Value} {T : TypeId} (h : St w0 w (Sep l)) (i : Nat) (e : l[i]? = some (boxA r cs T)) : cellsAt w ⟨r, 0, none⟩ 0 cs.toList :=
  cells_of _ 0 fun j v hj => by
    rw [addA, Nat.zero_add, h.boxedAt i e]
    simpa using hj

theorem rangeV_mk {P : Program} {gf : FuncId} {lb : Array Value} {F : FuncId → List Value → Prop} (he : entersB P gf = true) (h : F gf lb.toList) : rangeV P (.func (.func gf) #[] lb) F := by
  show cond (true && entersB P gf) (F gf lb.toList) False
  rw [he]
  exact h

theorem callF_mk {P : Program} {g : FuncId} {x y args : Array Value} {w : World} {R : Ending → World → Prop} (he : entersB P g = true) (h : Calls P g (x ++ args ++ y) w R) : callF P (.func (.func g) x y) args w R := by
  show cond (entersB P g) (Calls P g (x ++ args ++ y) w R) False
  rw [he]
  exact h

theorem bytes_beq' (a b : ByteArray) (h : a.data.toList = b.data.toList) : (a.toList == b.toList) = true := by
  rw [Go.ByteArray.toList_eq, Go.ByteArray.toList_eq, h]; simp

end Go.Vc

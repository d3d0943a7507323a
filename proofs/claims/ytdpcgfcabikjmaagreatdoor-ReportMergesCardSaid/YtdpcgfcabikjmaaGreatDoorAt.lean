import Derived.Test.YtdpcgfcabikjmaaGreatDoorFl
namespace Go.Vc

/-! Claims side by side, by their places. -/
theorem Eqv.unit' (A : Asn) : Eqv (star A emp) A := by
  rintro w F ⟨F1, F2, rfl, h, rfl, _⟩
  exact ⟨F1, h, fun j => by simp⟩

theorem Eqv.out : ∀ {l : List Asn} (i : Nat) {A : Asn}, l[i]? = some A → Eqv (Sep l) (star A (Sep (l.eraseIdx i)))
  | [], _, _, h => by simp at h
  | B :: l, 0, A, h => by simp at h; subst h; exact Eqv.refl _
  | B :: l, i + 1, A, h => (Eqv.right (Eqv.out (l := l) i (by simpa using h))).trans Eqv.rot

theorem Eqv.back : ∀ {l : List Asn} (i : Nat) {A : Asn}, i < l.length → Eqv (star A (Sep (l.eraseIdx i))) (Sep (l.set i A))
  | [], _, _, h => by simp at h
  | B :: l, 0, A, h => Eqv.refl _
  | B :: l, i + 1, A, h => Eqv.rot.trans (Eqv.right (Eqv.back (l := l) i (by simpa using h)))

theorem St.out {w0 w : World} {l : List Asn} (h : St w0 w (Sep l)) (i : Nat) {A : Asn} (e : l[i]? = some A) : St w0 w (star A (Sep (l.eraseIdx i))) := h.eqv (Eqv.out i e)
theorem St.back {w0 w : World} {l : List Asn} {A : Asn} {i : Nat} (h : St w0 w (star A (Sep (l.eraseIdx i)))) (hi : i < l.length := by decide) : St w0 w (Sep (l.set i A)) := h.eqv (Eqv.back i hi)

section at_
variable {w0 w : World} {l : List Asn}

theorem St.boxedAt {r : Nat} {cs : Array Value} {T : TypeId} (h : St w0 w (Sep l)) (i : Nat) (e : l[i]? = some (boxA r cs T)) (j : Nat) : w.cell? ⟨r, j, none⟩ = cs[j]? := (h.out i e).boxed j
theorem St.objAt {b : Nat} {o : Obj} (h : St w0 w (Sep l)) (i : Nat) (e : l[i]? = some (objA b o)) : w.heap[b]? = some o := (h.out i e).obj
theorem St.rowAt {e : TypeId} {sz n : Nat} {v : Value} {xs : List Value} (h : St w0 w (Sep l)) (i : Nat) (e1 : l[i]? = some (rowA e sz v n xs)) : w.ownsRow 0 e sz v n xs := (h.out i e1).rowOf

theorem lt_of_some {i : Nat} {A : Asn} (e : l[i]? = some A) : i < l.length := by
  rcases Nat.lt_or_ge i l.length with h | h
  · exact h
  · rw [List.getElem?_eq_none h] at e; cases e

theorem St.putAt {b : Nat} {o : Obj} (h : St w0 w (Sep l)) (i : Nat) (e : l[i]? = some (objA b o)) (o' : Obj) : St w0 (w.putObj b o') (Sep (l.set i (objA b o'))) :=
  (St.put (h.out i e) o').back (lt_of_some e)

theorem St.boxL (h : St w0 w (Sep l)) (cs : Array Value) (T : TypeId) : St w0 (w.alloc (.cells cs T)) (Sep (boxA w.heap.size cs T :: l)) := (h.box cs T).swap
theorem St.objL (h : St w0 w (Sep l)) (o : Obj) : St w0 (w.alloc o) (Sep (objA w.heap.size o :: l)) := (h.newObj o).swap
theorem St.rowL (h : St w0 w (Sep l)) (e : TypeId) (sz : Nat) : St w0 w (Sep (rowA e sz (.slice none 0 0) 0 [] :: l)) := (h.nilRow e sz).swap

theorem St.stAt {cs : Array Value} {r : Nat} {T : TypeId} {v : Value} {j : Nat} {R : World → Prop} (h : St w0 w (Sep l)) (i : Nat) (e : l[i]? = some (boxA r cs T)) (hj : j < cs.size) (hv : v.oneCell' = true)
    (k : ∀ w', St w0 w' (Sep (l.set i (boxA r (cs.setIfInBounds j v) T))) → R w') : stK w ⟨r, j, none⟩ v R := by
  obtain ⟨F, ⟨ho, rfl⟩, use⟩ := (h.out i e).use
  refine stK_mk ho hj hv (k _ ((use _ (boxA r (cs.setIfInBounds j v) T) ⟨[r], ⟨?_, rfl⟩, Chg.set _ _ _ _ (by simp), fun j hj => .inl hj⟩).back (lt_of_some e)))
  rw [heap_set, if_pos rfl, ho]; rfl

theorem St.stLAt {x : Nat} {cs : Array Value} {T : TypeId} {R : World → Prop} (h : St w0 w (Sep l)) (i : Nat) (e : l[i]? = some (boxA x cs T)) (vs : List Value) (hn : vs.length = cs.size) (h1 : ∀ v ∈ vs, v.oneCell' = true)
    (k : ∀ w', St w0 w' (Sep (l.set i (boxA x vs.toArray T))) → R w') : stL ⟨x, 0, none⟩ 0 vs w R := by
  obtain ⟨F, ⟨ho, rfl⟩, use⟩ := (h.out i e).use
  refine stL_mk vs 0 w cs ho (by omega) h1 fun w' hb hc _ => k w' ((use w' (boxA x vs.toArray T) ⟨[x], ⟨?_, rfl⟩, hc, fun j hj => .inl hj⟩).back (lt_of_some e))
  rw [hb]
  have : cs.toList.drop (0 + 0 + vs.length) = [] := List.drop_of_length_le (by simp; omega)
  rw [this]
  simp

end at_

def Weak (A B : Asn) : Prop := ∀ w F, A.p w F → ∃ F', B.p w F' ∧ ∀ j ∈ F', j ∈ F
theorem Eqv.weak {A B : Asn} (h : Eqv A B) : Weak A B := fun w F hA => let ⟨F', hB, hj⟩ := h w F hA; ⟨F', hB, fun j hj' => (hj j).1 hj'⟩
theorem Weak.trans {A B C : Asn} (h : Weak A B) (k : Weak B C) : Weak A C := fun w F hA =>
  let ⟨_, hB, h1⟩ := h w F hA
  let ⟨F'', hC, h2⟩ := k w _ hB
  ⟨F'', hC, fun j hj => h1 j (h2 j hj)⟩
theorem Weak.right {A B C : Asn} (h : Weak B C) : Weak (star A B) (star A C) := by
  rintro w F ⟨F1, F2, rfl, h1, h2, hd⟩
  obtain ⟨F2', h2', hj⟩ := h w F2 h2
  exact ⟨F1 ++ F2', ⟨F1, F2', rfl, h1, h2', fun k hk hk2 => hd k hk (hj k hk2)⟩, fun j hj' => by rcases List.mem_append.1 hj' with h | h <;> simp [h, hj j]⟩
theorem Weak.none (A : Asn) : Weak A emp := fun _ _ _ => ⟨[], rfl, by simp⟩
theorem St.weak {w0 w : World} {A B : Asn} (h : St w0 w A) (k : Weak A B) : St w0 w B := by
  obtain ⟨F, hA, hc, hn⟩ := h
  obtain ⟨F', hB, hs⟩ := k w F hA
  exact ⟨F', hB, hc, fun j hj => hn j (hs j hj)⟩

/-- Some of them, in another order. -/
def picks : List Nat → List Asn → List Asn
  | [], _ => []
  | i :: is, l => l.getD i emp :: picks is (l.set i emp)

theorem Weak.pick : ∀ (is : List Nat) (l : List Asn), Weak (Sep l) (Sep (picks is l))
  | [], l => Weak.none _
  | i :: is, l => by
    by_cases hi : i < l.length
    · have e : l[i]? = some (l.getD i emp) := by simp [hi]
      refine (Eqv.out i e).weak.trans (Weak.right ?_)
      refine Weak.trans ?_ (Weak.pick is (l.set i emp))
      refine Weak.trans (Eqv.weak ?_) (Eqv.back (l := l) (A := emp) i hi).weak
      exact (Eqv.unit _).trans Eqv.swap
    · have e : l.getD i emp = emp := by simp [List.getElem?_eq_none (Nat.le_of_not_lt hi)]
      have e2 : l.set i emp = l := List.set_eq_of_length_le (Nat.le_of_not_lt hi)
      unfold Vc.picks
      rw [e, e2]
      exact (Weak.pick is l).trans ((Eqv.unit _).trans Eqv.swap).weak

theorem St.picks {w0 w : World} {l : List Asn} (h : St w0 w (Sep l)) (is : List Nat) : St w0 w (Sep (Vc.picks is l)) := h.weak (Weak.pick is l)

theorem Eqv.split {m : List Asn} : ∀ (l : List Asn), Eqv (Sep (l ++ m)) (star (Sep l) (Sep m))
  | [] => (Eqv.unit _).trans Eqv.swap
  | _ :: l => (Eqv.right (Eqv.split l)).trans Eqv.assoc'

theorem Eqv.cat {m : List Asn} : ∀ (l : List Asn), Eqv (star (Sep l) (Sep m)) (Sep (l ++ m))
  | [] => Eqv.swap.trans (Eqv.unit' _)
  | _ :: l => Eqv.assoc.trans (Eqv.right (Eqv.cat l))

theorem St.split {w0 w : World} {m : List Asn} (l : List Asn) (h : St w0 w (Sep (l ++ m))) : St w0 w (star (Sep l) (Sep m)) := h.eqv (Eqv.split l)
theorem St.cat {w0 w : World} {l m : List Asn} (h : St w0 w (star (Sep l) (Sep m))) : St w0 w (Sep (l ++ m)) := h.eqv (Eqv.cat l)

/-- A list in the list. -/
theorem St.two {w0 w : World} {A B : Asn} {l : List Asn} (h : St w0 w (Sep (star A B :: l))) : St w0 w (Sep (A :: B :: l)) := h.assoc
theorem St.join {w0 w : World} {A B : Asn} {l : List Asn} (h : St w0 w (Sep (A :: B :: l))) : St w0 w (Sep (star A B :: l)) := h.eqv Eqv.assoc'
theorem St.one {w0 w : World} {A : Asn} (h : St w0 w A) : St w0 w (Sep [A]) := h.eqv (Eqv.unit A)
theorem St.single {w0 w : World} {A : Asn} (h : St w0 w (Sep [A])) : St w0 w A := h.eqv (Eqv.unit' A)
theorem St.pair {w0 w : World} {A B : Asn} (h : St w0 w (Sep [A, B])) : St w0 w (star A B) := h.eqv (Eqv.right (Eqv.unit' B))
theorem St.pair' {w0 w : World} {A B : Asn} (h : St w0 w (star A B)) : St w0 w (Sep [A, B]) := h.eqv (Eqv.right (Eqv.unit B))
theorem St.triple {w0 w : World} {A B C : Asn} (h : St w0 w (Sep [A, B, C])) : St w0 w (star A (star B C)) := h.eqv (Eqv.right (Eqv.right (Eqv.unit' C)))
theorem St.triple' {w0 w : World} {A B C : Asn} (h : St w0 w (star A (star B C))) : St w0 w (Sep [A, B, C]) := h.eqv (Eqv.right (Eqv.right (Eqv.unit C)))

end Go.Vc

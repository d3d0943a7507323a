import Derived.Test.YtniehglfkacjjaaDoorjShM
import Derived.Test.YtniehglfkacjjaaDoorHp2
import Derived.Test.YtniehglfkacjjaaDoorMdl
import Derived.IntWalk
namespace Go.Vc

def RetC (K : Value → World → Prop) : Ending → World → Prop := fun e w' => ∃ v, e = .returned v ∧ K v w'

theorem useC {P : Program} {f : FuncId} {args : Array Value} {w : World} {K : Value → World → Prop} {R : Ending → World → Prop}
    (h : Calls P f args w (RetC K)) (k : ∀ v w', K v w' → R (.returned v) w') : Calls P f args w R :=
  h.mono fun e w' ⟨v, he, hv⟩ => by subst he; exact k v w' hv

end Go.Vc
namespace Go.Proofs.YtniehglfkacjjaaDoor
open Go Go.Vc

def medCells (s : MS) (v : Value) : Array Value := #[.int .i64 s.size, v, .int .i64 (s.dur : Int), .bool s.down, .bool s.left.isSome, .int .i64 (s.left.getD 0 : Nat)]

/-- The program's medium. -/
structure MedV (w : World) (x : Nat) (s : MS) (v : Value) : Prop where
  blk : w.heap[x]? = some (.cells (medCells s v) 61 (0, 0))
  own : w.ownsRow 0 5 1 v s.b.length (s.b.map byteV)
  ne : v.ownBlock ≠ some x

def Med (w : World) (x : Nat) (s : MS) (F : List Nat) : Prop := ∃ v, MedV w x s v ∧ F = x :: v.ownBlock.toList

/-- It has become this, and nothing else has changed. -/
def MedTo (w w' : World) (x : Nat) (s : MS) (F : List Nat) : Prop := ∃ F', Med w' x s F' ∧ Chg w w' F ∧ ∀ k ∈ F', k ∈ F ∨ w.heap.size ≤ k

theorem Med.lt {w : World} {x : Nat} {s : MS} {F : List Nat} (h : Med w x s F) : ∀ k ∈ F, k < w.heap.size := by
  obtain ⟨v, h, rfl⟩ := h
  intro k hk
  rcases List.mem_cons.1 hk with rfl | hk
  · exact lt_of_heap h.blk
  · exact (h.own.lt k (by simpa using hk)).2

theorem Med.keep {w w' : World} {x : Nat} {s : MS} {F G : List Nat} (h : Med w x s F) (hc : Chg w w' G) (hd : ∀ k ∈ F, k ∉ G) : Med w' x s F := by
  obtain ⟨v, h, rfl⟩ := h
  exact ⟨v, ⟨hc.keep h.blk (hd x (by simp)), ownsRow_chg h.own hc fun k hk => hd k (by simp [hk]), h.ne⟩, rfl⟩

theorem MedTo.refl {w w' : World} {x : Nat} {s : MS} {F : List Nat} (h : Med w x s F) (hc : Chg w w' []) : MedTo w w' x s F :=
  ⟨F, h.keep hc (by simp), hc.mono (by simp), fun _ hk => .inl hk⟩

theorem MedTo.trans {w w1 w2 : World} {x : Nat} {s s' : MS} {F : List Nat} (h : MedTo w w1 x s F) (k : ∀ F', Med w1 x s F' → MedTo w1 w2 x s' F') : MedTo w w2 x s' F := by
  obtain ⟨F1, h1, hc, hf⟩ := h
  obtain ⟨F2, h2, hc2, hf2⟩ := k F1 h1
  refine ⟨F2, h2, hc.trans hc2 hf, fun i hi => ?_⟩
  rcases hf2 i hi with h | h
  · exact hf i h
  · exact .inr (Nat.le_trans hc.size h)

/-- The struct's cells are written anew, the bytes stay. -/
theorem medTo_set {w w' : World} {x : Nat} {s s' : MS} {v : Value} (h : MedV w x s v) (hb : w'.heap[x]? = some (.cells (medCells s' v) 61 (0, 0))) (hc : Chg w w' [x]) (hs : s'.b = s.b) :
    MedTo w w' x s' (x :: v.ownBlock.toList) := by
  refine ⟨_, ⟨v, ⟨hb, ?_, h.ne⟩, rfl⟩, hc.mono (by simp), fun _ hk => .inl hk⟩
  rw [hs]
  exact ownsRow_chg h.own hc fun k hk => by simp; intro e; subst e; exact h.ne hk


theorem medV_set {w : World} {x : Nat} {s s' : MS} {v u : Value} {i : Nat} (h : MedV w x s v) (hc : (medCells s v).setIfInBounds i u = medCells s' v) (hb : s'.b = s.b) :
    MedV (w.setCell ⟨x, i, none⟩ u) x s' v :=
  ⟨by rw [heap_set, if_pos rfl, h.blk, setO_cells, hc], by rw [hb]; exact ownsRow_heap h.own fun k hk => by rw [heap_set, if_neg (fun e : x = k => h.ne (e ▸ hk))], h.ne⟩

theorem med_st {w : World} {x : Nat} {s : MS} {v u : Value} {i : Nat} {R : World → Prop} (h : MedV w x s v) (hi : i < 6) (hu : u.oneCell' = true) (k : R (w.setCell ⟨x, i, none⟩ u)) : stK w ⟨x, i, none⟩ u R :=
  stK_mk h.blk (by simpa [medCells] using hi) hu k

theorem med_cell {w : World} {x : Nat} {s : MS} {v : Value} (h : MedV w x s v) (i : Nat) : w.cell? ⟨x, i, none⟩ = (medCells s v)[i]? := by
  rw [cell_blk, h.blk, getC_cells]

theorem state_c {w : World} {x : Nat} {s : MS} {v : Value} (h : MedV w x s v) :
    Calls Tryd.prog 42 #[.pointer (some ⟨x, 0, none⟩)] w (RetC fun r w' => r = .int .i64 (if s.down = true then 19 else 0) ∧ w' = w) := by
  refine mstate_ok ?_
  unfold mstate
  refine ⟨s.down, med_cell h 3, ?_⟩
  cases s.down <;> exact ⟨rfl, rfl⟩

theorem step_c {w : World} {x : Nat} {s : MS} {v : Value} (h : MedV w x s v) (ho : s.Ok) :
    Calls Tryd.prog 46 #[.pointer (some ⟨x, 0, none⟩)] w (RetC fun r w' => r = (if s.stp.1 = true then .nilIface else .iface 25 (.int .i64 19)) ∧ MedV w' x s.stp.2 v ∧ Chg w w' [x]) := by
  refine mstep_ok ?_
  unfold mstep
  have c4 := med_cell h 4
  have c5 := med_cell h 5
  have ol := ho.l
  cases hl : s.left with
  | none =>
    have hs : s.stp = (true, s) := by simp [MS.stp, hl]
    simp only [medCells, hl] at c4 c5
    refine ⟨fun b w' => w' = w ∧ b = false, ?_, ⟨false, c4, rfl, rfl⟩⟩
    rintro w1 b ⟨rfl, rfl⟩ -
    refine ⟨fun w' => w' = w1, ?_, ⟨false, c4, rfl⟩⟩
    rintro w2 rfl -
    exact ⟨by rw [hs]; rfl, by rw [hs]; exact h, Chg.refl _ _⟩
  | some n =>
    have c4' : w.cell? ⟨x, 4, none⟩ = some (.bool true) := by rw [c4]; simp [medCells, hl]
    have c5' : w.cell? ⟨x, 5, none⟩ = some (.int .i64 (n : Int)) := by rw [c5]; simp [medCells, hl]
    refine ⟨fun b w' => w' = w ∧ b = ((n : Int) == 0), ?_, ⟨true, c4', _, c5', rfl, rfl⟩⟩
    rintro w1 b ⟨rfl, rfl⟩ -
    cases n with
    | zero =>
      have hs : s.stp = (false, { s with down := true }) := by simp [MS.stp, hl]
      exact med_st h (by omega) rfl ⟨by rw [hs]; rfl, by rw [hs]; exact medV_set h rfl rfl, Chg.set _ _ _ _ (by simp)⟩
    | succ n =>
      have hs : s.stp = (true, { s with left := some n }) := by simp [MS.stp, hl]
      have hne : (((n + 1 : Nat) : Int) == 0) = false := by simp; omega
      rw [hne]
      refine ⟨fun w' => w' = w1.setCell ⟨x, 5, none⟩ (.int .i64 (n : Int)), ?_, ⟨true, c4', _, c5', ?_⟩⟩
      · rintro w2 rfl -
        exact ⟨by rw [hs]; rfl, by rw [hs]; exact medV_set h (by simp [medCells, hl]) rfl, Chg.set _ _ _ _ (by simp)⟩
      · have hw : IntKind.i64.wrap (((n + 1 : Nat) : Int) - 1) = (n : Int) := by
          have := ol _ hl
          rw [IntWalk.i64_in _ (by omega)]; omega
        rw [hw]
        exact med_st h (by omega) rfl rfl


theorem isN_c (w : World) : Calls Tryd.prog 47 #[.nilIface, .iface 25 (.int .i64 19)] w (RetC fun r w' => r = .bool false ∧ w' = w) := shIsN_ok ⟨rfl, rfl⟩

theorem isD_c (w : World) : Calls Tryd.prog 47 #[.iface 25 (.int .i64 19), .iface 25 (.int .i64 19)] w (RetC fun r w' => r = .bool true ∧ w' = w) := by
  refine shIsD_ok ?_
  unfold shIsD
  refine useC (shis_ok (K := fun r w' => r = .bool true ∧ w' = w) ⟨rfl, rfl⟩) ?_
  rintro v w' ⟨rfl, rfl⟩
  exact ⟨true, rfl, rfl, rfl⟩

/-- 'step', and the test of its error. -/
theorem stepIs_c {w : World} {x : Nat} {s : MS} {v : Value} (h : MedV w x s v) (ho : s.Ok) {R : Ending → World → Prop} {C : Value → World → Ending → World → Prop}
    (hC : ∀ r w1, Calls Tryd.prog 47 #[r, .iface 25 (.int .i64 19)] w1 (C r w1) → R (.returned r) w1)
    (k : ∀ r w1, MedV w1 x s.stp.2 v → Chg w w1 [x] → C r w1 (.returned (.bool (!s.stp.1))) w1) :
    Calls Tryd.prog 46 #[.pointer (some ⟨x, 0, none⟩)] w R := by
  refine useC (step_c h ho) ?_
  rintro r w1 ⟨rfl, hM, hc⟩
  refine hC _ _ ?_
  have hk := k (if s.stp.1 = true then .nilIface else .iface 25 (.int .i64 19)) w1 hM hc
  cases hs : s.stp.1 with
  | true =>
    rw [hs] at hk
    refine useC (isN_c w1) ?_
    rintro v w' ⟨rfl, rfl⟩
    exact hk
  | false =>
    rw [hs] at hk
    refine useC (isD_c w1) ?_
    rintro v w' ⟨rfl, rfl⟩
    exact hk

theorem sl52 : SlT Tryd.prog 59 5 (.int .u8 0) 1 1 := SlT.mk' Tryd.underlying59 (by kernel_rfl) rfl (by decide)

theorem appL_cons (c : UInt8) (cs : List UInt8) (s : MS) : MS.appL (c :: cs) s = if s.stp.1 = true then MS.appL cs { s.stp.2 with b := s.b ++ [c] } else (19, s.stp.2) := by
  unfold MS.stp
  simp only [MS.appL]
  split <;> simp_all

theorem append_med {w : World} {x : Nat} {s : MS} {v : Value} (h : MedV w x s v) (ho : s.Ok) (hsz : s.b.length < s.size) (c : UInt8) {a : Option Addr} {l cp : Nat} (hv : v = .slice a l cp) {R : World → Prop}
    (k : ∀ w', MedTo w w' x { s with b := s.b ++ [c] } (x :: v.ownBlock.toList) → R w') :
    newK w (.cells #[.int .u8 (c.toNat : Int)] 5) fun r w5 => w5.cell? ⟨x, 1, none⟩ = some (.slice a l cp) ∧
      rnS Tryd.prog (Builtin.append_ #[59, 59] 59 #[.slice a l cp, .slice (some ⟨r, 0, none⟩) 1 1]) w5 fun e w6 => ∃ (a3 : Option Addr) (l3 c3 : Nat),
        e = .slice a3 l3 c3 ∧ stK w6 ⟨x, 1, none⟩ (.slice a3 l3 c3) fun w7 => R w7 := by
  subst hv
  have hx := lt_of_heap h.blk
  have h5 : (w.alloc (.cells #[.int .u8 (c.toNat : Int)] 5)).heap[x]? = some (.cells (medCells s (.slice a l cp)) 61 (0, 0)) := by rw [heap_new, if_neg (by omega)]; exact h.blk
  have own5 := ownsRow_chg (w' := w.alloc (.cells #[.int .u8 (c.toNat : Int)] 5)) h.own (Chg.new w _ []) (by simp)
  have s1 := ho.s1
  have s2 := ho.s2
  refine ⟨by rw [cell_blk, h5]; rfl, append_c sl52 own5 (m := 1) (news := [byteV c]) rfl (fun j u hj => ?_) (by simp [byteV, Value.oneCell']) (by omega) (by omega) ?_⟩
  · cases j with
    | zero => simp at hj; subst hj; rw [show (⟨w.heap.size, 0, none⟩ : Addr).add 0 = ⟨w.heap.size, 0, none⟩ from rfl, cell_blk, heap_new, if_pos rfl]; rfl
    | succ j => simp at hj
  · intro v' w6 own6 hc6 hn6
    obtain ⟨a3, c3, rfl⟩ := own_slice own6
    have hx6 : w6.heap[x]? = some (.cells (medCells s (.slice a l cp)) 61 (0, 0)) := hc6.keep h5 (by intro e; exact h.ne (by simpa using e))
    refine ⟨a3, _, c3, rfl, stK_mk hx6 (by simp [medCells]) rfl (k _ ?_)⟩
    have hne : Value.ownBlock (.slice a3 (s.b.length + 1) c3) ≠ some x := by
      intro e
      rcases hn6 x e with h' | h'
      · exact h.ne h'
      · simp at h'; omega
    refine ⟨_, ⟨.slice a3 (s.b.length + 1) c3, ⟨?_, ?_, hne⟩, rfl⟩, ?_, ?_⟩
    · rw [heap_set, if_pos rfl, hx6]; rfl
    · have := ownsRow_heap (w' := w6.setCell ⟨x, 1, none⟩ (.slice a3 (s.b.length + 1) c3)) own6 fun k hk => by rw [heap_set, if_neg (fun e : x = k => hne (e ▸ hk))]
      simpa using this
    · refine ((Chg.new w _ _).trans (hc6.mono (G := x :: (Value.ownBlock (.slice a l cp)).toList) (fun i hi => List.mem_cons_of_mem _ hi)) (fun i hi => .inl hi)).trans (Chg.set _ _ _ _ (F := [x]) (by simp)) (fun i hi => .inl (by simp at hi; simp [hi]))
    · intro i hi
      rcases List.mem_cons.1 hi with rfl | hi
      · exact .inl (by simp)
      · rcases hn6 i (by simpa using hi) with h' | h'
        · exact .inl (by simp [h'])
        · exact .inr (by simp at h'; omega)


theorem appL_left {s s' : MS} (c : UInt8) (ho : s.Ok) (hsz : s.b.length < s.size) (hs : s' = { s.stp.2 with b := s.b ++ [c] }) : s'.Ok := by
  subst hs
  have h1 := MS.stp_ok ho
  have h2 := MS.stp_b s
  refine ⟨?_, ?_, ?_, ?_⟩
  · simp; rw [h2.2.1]; omega
  · exact h1.s2
  · have := h1.d
    simp
    rw [h2.1] at this
    omega
  · exact h1.l

theorem append_calls {w : World} {x : Nat} {s : MS} {F : List Nat} (h : Med w x s F) (ho : s.Ok) (t : ByteArray) :
    Calls Tryd.prog 23 #[.pointer (some ⟨x, 0, none⟩), .string t] w (RetC fun r w' => r = .int .i64 (s.app t.data.toList).1 ∧ MedTo w w' x (s.app t.data.toList).2 F) := by
  obtain ⟨v, hv, rfl⟩ := h
  refine mAppend_ok ?_
  unfold mAppend
  refine useC (state_c hv) ?_
  rintro _ w1 ⟨rfl, rfl⟩
  refine ⟨_, rfl, ?_⟩
  have hsize : t.size = t.data.toList.length := Array.length_toList.symm
  cases hd : s.down with
  | true =>
    have : s.app t.data.toList = (19, s) := MS.app_down hd
    rw [this]
    exact ⟨rfl, MedTo.refl ⟨v, hv, rfl⟩ (Chg.refl _ _)⟩
  | false =>
    show cond ((0 : Int) != 0) _ _
    obtain ⟨a, cp, hve⟩ := own_slice hv.own
    have e0 : w1.drew.cell? ⟨x, 0, none⟩ = some (.int .i64 s.size) := med_cell hv 0
    have e1 : w1.drew.cell? ⟨x, 1, none⟩ = some (.slice a s.b.length cp) := by rw [← hve]; exact med_cell hv 1
    refine ⟨s.size, e0, a, s.b.length, cp, e1, ?_⟩
    have s1 := ho.s1
    have s2 := ho.s2
    have hw : IntKind.i64.wrap (s.size - (s.b.length : Int)) = s.size - s.b.length := IntWalk.i64_in _ (by omega)
    rw [hw]
    by_cases hfull : s.size - s.b.length < (t.size : Int)
    · have : s.app t.data.toList = (18, s) := MS.app_full hd (by rw [← hsize]; exact hfull)
      rw [this, decide_eq_true (show ((t.size : Nat) : Int) > s.size - s.b.length from hfull)]
      exact ⟨rfl, MedTo.refl ⟨v, hv, rfl⟩ (Chg.drew _ _)⟩
    · have : s.app t.data.toList = MS.appL t.data.toList s := MS.app_go hd (by rw [← hsize]; exact hfull)
      rw [this, decide_eq_false (show ¬ ((t.size : Nat) : Int) > s.size - s.b.length from hfull)]
      refine ⟨fun n w' m => ∃ (k : Nat) (s' : MS), n = (k : Int) ∧ k ≤ t.size ∧ m = t.size - k ∧ s'.Ok ∧ s'.b.length + (t.size - k) ≤ s'.size ∧
        MS.appL (t.data.toList.drop k) s' = MS.appL t.data.toList s ∧ MedTo w1 w' x s' (x :: v.ownBlock.toList), ?_, ?_⟩
      · exact ⟨t.size, 0, s, rfl, by omega, by omega, ho, by omega, rfl, MedTo.refl ⟨v, hv, rfl⟩ (Chg.drew _ _)⟩
      · rintro w2 m n ⟨k, s', rfl, hk, rfl, ho', hsz', happ, hto⟩ -
        by_cases hlt : k < t.size
        · rw [decide_eq_true (show (k : Int) < ((t.size : Nat) : Int) by omega)]
          have hkl : k < t.data.toList.length := by omega
          have hdrop : t.data.toList.drop k = t.data.toList[k] :: t.data.toList.drop (k + 1) := List.drop_eq_getElem_cons hkl
          rw [hdrop, appL_cons] at happ
          obtain ⟨F', ⟨v', hv', rfl⟩, hc', hf'⟩ := hto
          refine stepIs_c hv' ho' (fun r w3 hh => ⟨_, rfl, hh⟩) ?_
          intro r w3 hM3 hc3
          refine ⟨_, rfl, ?_⟩
          have hto3 : MedTo w1 w3 x s'.stp.2 (x :: v.ownBlock.toList) := ⟨_, ⟨v', hM3, rfl⟩, hc'.trans hc3 (fun i hi => by simp at hi; subst hi; exact .inl (by simp)), hf'⟩
          cases hst : s'.stp.1 with
          | false =>
            rw [hst] at happ
            rw [← happ]
            exact ⟨rfl, hto3⟩
          | true =>
            rw [hst, if_pos rfl] at happ
            show cond false _ _
            obtain ⟨a', cp', hve'⟩ := own_slice hM3.own
            have hb := MS.stp_b s'
            have hM3d : MedV w3.drew x s'.stp.2 v' := ⟨hM3.blk, hM3.own, hM3.ne⟩
            have e1' : w3.drew.cell? ⟨x, 1, none⟩ = some (.slice a' s'.stp.2.b.length cp') := by rw [← hve']; exact med_cell hM3d 1
            refine ⟨a', _, cp', e1', by omega, ?_⟩
            have hget : t[(k : Int).toNat]? = some t.data.toList[k] := by
              simp [hlt]
              rfl
            rw [hget]
            refine append_med hM3d (MS.stp_ok ho') (by rw [hb.1, hb.2.1]; omega) t.data.toList[k] hve' ?_
            intro w4 hto4
            have hs'' := appL_left (s := s') t.data.toList[k] ho' (by omega) rfl
            refine ⟨t.size - (k + 1), by omega, k + 1, { s'.stp.2 with b := s'.b ++ [t.data.toList[k]] }, ?_, by omega, rfl, hs'', ?_, happ, ?_⟩
            · exact IntWalk.i64_in _ (by omega)
            · simp; rw [hb.2.1]; omega
            · have e : { s'.stp.2 with b := s'.b ++ [t.data.toList[k]] } = { s'.stp.2 with b := s'.stp.2.b ++ [t.data.toList[k]] } := by rw [hb.1]
              rw [e]
              refine hto3.trans fun F' hF' => ?_
              obtain ⟨v2, hv2, rfl⟩ := hF'
              have : v2 = v' := by
                have h1 := hv2.blk.symm.trans hM3.blk
                simp [medCells] at h1
                exact h1
              subst this
              obtain ⟨F4, h4, hc4, hf4⟩ := hto4
              exact ⟨F4, h4, (Chg.drew w3 _).trans hc4 (fun i hi => .inl hi), hf4⟩
        · have hkk : k = t.size := by omega
          subst hkk
          rw [decide_eq_false (show ¬ ((t.size : Int) < ((t.size : Nat) : Int)) by omega)]
          have : t.data.toList.drop t.size = [] := List.drop_eq_nil_of_le (by omega)
          rw [this] at happ
          rw [← happ]
          exact ⟨rfl, hto⟩

end Go.Proofs.YtniehglfkacjjaaDoor

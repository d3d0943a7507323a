import Derived.Test.YtbjbfppaghfpcaaMl2
namespace Go.Proofs.Ytbjbfppaghfpcaa
open Go Go.Vc

structure StepV where
  k : Int
  n : Int
  s : ByteArray
  m : UInt8

def StepV.cells (t : StepV) : List Value := [.int .i64 t.k, .int .i64 t.n, .string t.s, .int .u8 (t.m.toNat : Int)]

/-- A slice of steps, as it lies in memory. -/
def StepsAt (w : World) (a : Option Addr) (ss : List StepV) : Prop := ∀ (i : Nat) (t : StepV), ss[i]? = some t → ∃ q, a = some q ∧ cellsAt w (q.add (i * 4)) 0 t.cells

theorem StepsAt.chg {w w' : World} {a : Option Addr} {ss : List StepV} (h : StepsAt w a ss) (hc : Chg w w' []) : StepsAt w' a ss := fun i t hi =>
  let ⟨q, hq, hcs⟩ := h i t hi
  ⟨q, hq, cellsAt_chg hc hcs⟩

def fewB (ss : List StepV) : Bool := decide (ss.length ≤ 60) && ss.all fun t => decide (t.s.size ≤ 200)

theorem few_c {w : World} {a : Option Addr} {c : Nat} {ss : List StepV} (h : StepsAt w a ss) (hl : ss.length ≤ 9223372036854775807) :
    Calls Try.prog 8 #[.slice a ss.length c] w (RetC fun r w' => r = .bool (fewB ss) ∧ w' = w) := by
  refine lfew_ok ?_
  unfold lfew
  by_cases h60 : ss.length ≤ 60
  · refine cF (decide_eq_false (by omega)) ?_
    refine ⟨fun n w' m => ∃ k : Nat, n = (k : Int) ∧ k ≤ ss.length ∧ m = ss.length - k ∧ w' = w ∧ (ss.take k).all (fun t => decide (t.s.size ≤ 200)) = true, ⟨ss.length, 0, rfl, by omega, by omega, rfl, rfl⟩, ?_⟩
    rintro w1 m n ⟨k, rfl, hk, rfl, rfl, hall⟩ -
    by_cases hlt : k < ss.length
    · refine cT (decide_eq_true (by omega)) ?_
      obtain ⟨q, rfl, hcs⟩ := h k ss[k] (by simp [hlt])
      refine ⟨by omega, by omega, ss[k].s, ?_, ?_⟩
      · rw [Int.toNat_natCast]; exact hcs.2.2.1
      · by_cases hs : ss[k].s.size ≤ 200
        · refine cF (decide_eq_false (by omega)) ⟨ss.length - (k + 1), by omega, k + 1, ?_, by omega, rfl, rfl, ?_⟩
          · rw [IntWalk.i64_in _ (by omega)]; omega
          · rw [List.take_succ_eq_append_getElem hlt, List.all_append, hall]; simp [hs]
        · refine cT (decide_eq_true (by omega)) ⟨?_, rfl⟩
          have : fewB ss = false := by
            unfold fewB
            rw [Bool.and_eq_false_iff]
            right
            rw [List.all_eq_false]
            exact ⟨ss[k], List.getElem_mem hlt, by simpa using hs⟩
          rw [this]
    · refine cF (decide_eq_false (by omega)) ⟨?_, rfl⟩
      have : k = ss.length := by omega
      subst this
      rw [List.take_length] at hall
      have : fewB ss = true := by unfold fewB; rw [hall, decide_eq_true h60]; rfl
      rw [this]
  · refine cT (decide_eq_true (by omega)) ⟨?_, rfl⟩
    have : fewB ss = false := by unfold fewB; rw [decide_eq_false h60]; rfl
    rw [this]

theorem ibeq (a : Int) : (a == a) = true := by simp

theorem St.drop {w0 w : World} {A : Asn} {l : List Asn} (h : St w0 w (Sep (A :: l))) : St w0 w (Sep l) := St.second h

/-- One step of a medium and of the reference's: the same, with one answer. -/
theorem do_c {w0 w : World} {x y : Nat} {s : MS} {l : List Asn} (h : St w0 w (Sep (medA x s :: refA y s :: l))) (ho : s.Ok) (t : StepV) (hn : t.n ≤ 9223372036854775807) :
    Calls Try.prog 12 #[.pointer (some ⟨x, 0, none⟩), .pointer (some ⟨y, 0, none⟩), .agg #[.int .i64 t.k, .int .i64 t.n, .string t.s, .int .u8 (t.m.toNat : Int)]] w
      (RetC fun r w' => r = .bool true ∧ St w0 w' (Sep (medA x (s.doS t.k t.n t.s.data.toList t.m) :: refA y (s.doS t.k t.n t.s.data.toList t.m) :: l))) := by
  refine ldo_ok ?_
  unfold ldo
  refine newK_mk ?_
  have h1 := (h.box #[.int .i64 t.k, .int .i64 t.n, .string t.s, .int .u8 (t.m.toNat : Int)] 34).swap
  generalize w.alloc (.cells #[.int .i64 t.k, .int .i64 t.n, .string t.s, .int .u8 (t.m.toNat : Int)] 34) = w1 at h1
  generalize w.heap.size = r1 at h1
  generalize hX : boxA r1 #[.int .i64 t.k, .int .i64 t.n, .string t.s, .int .u8 (t.m.toNat : Int)] 34 = X at h1
  have hbox : ∀ {w' : World} {l' : List Asn} (i : Nat), St w0 w' (Sep (X :: l')) → w'.cell? ⟨r1, i, none⟩ = (#[.int .i64 t.k, .int .i64 t.n, .string t.s, .int .u8 (t.m.toNat : Int)] : Array Value)[i]? := fun i h => by
    subst hX; exact St.boxed h i
  have z : St w0 w1 (Sep [X, medA x s, refA y s, Sep l]) := by
    have h2 : St w0 w1 (Sep (X :: medA x s :: refA y s :: l)) := h1
    refine h2.eqv (Eqv.right (Eqv.right (Eqv.right ?_)))
    rintro v F hF
    exact ⟨F ++ [], ⟨F, [], rfl, hF, rfl, by simp⟩, by simp⟩
  have fin : ∀ {w' : World} {s' : MS}, St w0 w' (Sep [X, medA x s', refA y s', Sep l]) → St w0 w' (Sep (medA x s' :: refA y s' :: l)) := fun h => by
    refine St.eqv (St.drop h) (Eqv.right (Eqv.right ?_))
    rintro v F ⟨F1, F2, rfl, h1, rfl, _⟩
    exact ⟨F1, h1, by simp⟩
  refine ⟨fun w' => St w0 w' (Sep (medA x (s.doS t.k t.n t.s.data.toList t.m) :: refA y (s.doS t.k t.n t.s.data.toList t.m) :: l)), fun w2 h2 _ => ⟨rfl, h2⟩, _, hbox 0 z, ?_⟩
  by_cases k0 : t.k = 0
  · have hd : s.doS t.k t.n t.s.data.toList t.m = (s.app t.s.data.toList).2 := by unfold MS.doS; rw [if_pos k0]
    rw [hd]
    have zd := z.quiet (Chg.drew w1 [])
    refine cT (by rw [k0]; rfl) ⟨_, hbox 2 zd, _, hbox 2 zd, ?_⟩
    refine useC (append_st (zd.pull 1) ho t.s) ?_
    rintro _ w3 ⟨rfl, h3⟩
    have z3 := St.push (l := [medA x (s.app t.s.data.toList).2, X, refA y s, Sep l]) h3 1
    refine ⟨_, rfl, hbox 2 z3, ?_⟩
    refine useC (rappend_st (z3.pull 2) ho t.s) ?_
    rintro _ w4 ⟨rfl, h4⟩
    have z4 := St.push (l := [refA y (s.app t.s.data.toList).2, X, medA x (s.app t.s.data.toList).2, Sep l]) h4 2
    exact ⟨_, rfl, by rw [ibeq], fin z4⟩
  refine cF (by simpa using k0) ?_
  by_cases k1 : t.k = 1
  · have hd : s.doS t.k t.n t.s.data.toList t.m = s.syn.2 := by unfold MS.doS; rw [if_neg k0, if_pos k1]
    rw [hd]
    refine cT (by rw [k1]; rfl) ?_
    refine useC (sync_st (z.pull 1) ho) ?_
    rintro _ w3 ⟨rfl, h3⟩
    have z3 := St.push (l := [medA x s.syn.2, X, refA y s, Sep l]) h3 1
    refine ⟨_, rfl, ?_⟩
    refine useC (rsync_st (z3.pull 2) ho) ?_
    rintro _ w4 ⟨rfl, h4⟩
    have z4 := St.push (l := [refA y s.syn.2, X, medA x s.syn.2, Sep l]) h4 2
    exact ⟨_, rfl, by rw [ibeq], fin z4⟩
  refine cF (by simpa using k1) ?_
  by_cases k2 : t.k = 2
  · have hd : s.doS t.k t.n t.s.data.toList t.m = (s.tru t.n).2 := by unfold MS.doS; rw [if_neg k0, if_neg k1, if_pos k2]
    rw [hd]
    have zd := z.quiet (Chg.drew w1 [])
    refine cT (by rw [k2]; rfl) ⟨_, hbox 1 zd, _, hbox 1 zd, ?_⟩
    refine useC (truncate_st (zd.pull 1) ho t.n) ?_
    rintro _ w3 ⟨rfl, h3⟩
    have z3 := St.push (l := [medA x (s.tru t.n).2, X, refA y s, Sep l]) h3 1
    refine ⟨_, rfl, hbox 1 z3, ?_⟩
    refine useC (rtruncate_st (z3.pull 2) ho t.n) ?_
    rintro _ w4 ⟨rfl, h4⟩
    have z4 := St.push (l := [refA y (s.tru t.n).2, X, medA x (s.tru t.n).2, Sep l]) h4 2
    exact ⟨_, rfl, by rw [ibeq], fin z4⟩
  refine cF (by simpa using k2) ?_
  by_cases k3 : t.k = 3
  · have hd : s.doS t.k t.n t.s.data.toList t.m = s.crash t.n := by unfold MS.doS; rw [if_neg k0, if_neg k1, if_neg k2, if_pos k3]
    rw [hd]
    refine cT (by rw [k3]; rfl) ⟨_, hbox 1 z, ?_⟩
    refine useC (crash_st (z.pull 1) ho hn) ?_
    rintro _ w3 ⟨rfl, h3⟩
    have z3 := St.push (l := [medA x (s.crash t.n), X, refA y s, Sep l]) h3 1
    refine ⟨rfl, _, hbox 1 z3, ?_⟩
    refine useC (rcrash_st (z3.pull 2) ho hn) ?_
    rintro _ w4 ⟨rfl, h4⟩
    have z4 := St.push (l := [refA y (s.crash t.n), X, medA x (s.crash t.n), Sep l]) h4 2
    exact ⟨rfl, fin z4⟩
  refine cF (by simpa using k3) ?_
  by_cases k4 : t.k = 4
  · have hd : s.doS t.k t.n t.s.data.toList t.m = s.arm t.n := by unfold MS.doS; rw [if_neg k0, if_neg k1, if_neg k2, if_neg k3, if_pos k4]
    rw [hd]
    refine cT (by rw [k4]; rfl) ⟨_, hbox 1 z, ?_⟩
    refine useC (arm_st (z.pull 1) t.n) ?_
    rintro _ w3 ⟨rfl, h3⟩
    have z3 := St.push (l := [medA x (s.arm t.n), X, refA y s, Sep l]) h3 1
    refine ⟨rfl, _, hbox 1 z3, ?_⟩
    refine useC (rarm_st (z3.pull 2) t.n) ?_
    rintro _ w4 ⟨rfl, h4⟩
    have z4 := St.push (l := [refA y (s.arm t.n), X, medA x (s.arm t.n), Sep l]) h4 2
    exact ⟨rfl, fin z4⟩
  refine cF (by simpa using k4) ?_
  by_cases k5 : t.k = 5
  · have hd : s.doS t.k t.n t.s.data.toList t.m = (s.flip t.n t.m).2 := by unfold MS.doS; rw [if_neg k0, if_neg k1, if_neg k2, if_neg k3, if_neg k4, if_pos k5]
    rw [hd]
    have zd := z.quiet (Chg.drew w1 [])
    refine cT (by rw [k5]; rfl) ⟨_, hbox 1 zd, _, hbox 3 zd, _, hbox 1 zd, _, hbox 3 zd, ?_⟩
    refine useC (flip_st (zd.pull 1) t.n t.m) ?_
    rintro _ w3 ⟨rfl, h3⟩
    have z3 := St.push (l := [medA x (s.flip t.n t.m).2, X, refA y s, Sep l]) h3 1
    refine ⟨_, rfl, hbox 3 z3, hbox 1 z3, ?_⟩
    refine useC (rflip_st (z3.pull 2) ho t.n t.m) ?_
    rintro _ w4 ⟨rfl, h4⟩
    have z4 := St.push (l := [refA y (s.flip t.n t.m).2, X, medA x (s.flip t.n t.m).2, Sep l]) h4 2
    exact ⟨_, rfl, by rw [ibeq], fin z4⟩
  have hd : s.doS t.k t.n t.s.data.toList t.m = s := by unfold MS.doS; rw [if_neg k0, if_neg k1, if_neg k2, if_neg k3, if_neg k4, if_neg k5]
  rw [hd]
  exact cF (by simpa using k5) (fin z)

theorem same_c {w0 w : World} {x y : Nat} {s : MS} {l : List Asn} (h : St w0 w (Sep (medA x s :: refA y s :: l))) :
    Calls Try.prog 13 #[.pointer (some ⟨x, 0, none⟩), .pointer (some ⟨y, 0, none⟩)] w (RetC fun r w' => r = .bool true ∧ w' = w) := by
  refine lsame_ok ?_
  unfold lsame
  have h' := St.pull h 1
  refine useC (read_st h) ?_
  rintro _ w1 ⟨rfl, rfl⟩
  refine ⟨_, _, rfl, useC (rread_st h') ?_⟩
  rintro _ w1 ⟨rfl, rfl⟩
  refine ⟨_, _, rfl, cT (bytes_beq _ _ rfl) (cT (ibeq _) (useC (size_st h) ?_))⟩
  rintro _ w1 ⟨rfl, rfl⟩
  refine ⟨_, rfl, useC (rsize_st h') ?_⟩
  rintro _ w1 ⟨rfl, rfl⟩
  refine ⟨_, rfl, cT (ibeq _) (useC (durable_st h) ?_)⟩
  rintro _ w1 ⟨rfl, rfl⟩
  refine ⟨_, rfl, useC (rdurable_st h') ?_⟩
  rintro _ w1 ⟨rfl, rfl⟩
  exact ⟨_, rfl, by rw [ibeq], rfl⟩

end Go.Proofs.Ytbjbfppaghfpcaa

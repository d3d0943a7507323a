import Derived.Test.YtbjbfppaghfpcaaMl6
namespace Go.Proofs.Ytbjbfppaghfpcaa
open Go Go.Vc Go.RowKit Go.ChangeAt Go.ChangeShapes Go.WideShapes Go.Deep

/-- A slice of strings, as it lies in memory. -/
def StrsAt (w : World) (a : Option Addr) (ss : List ByteArray) : Prop := ∀ (i : Nat) (t : ByteArray), ss[i]? = some t → ∃ q, a = some q ∧ w.cell? (q.add (i * 1)) = some (.string t)

theorem StrsAt.chg {w w' : World} {a : Option Addr} {ss : List ByteArray} (h : StrsAt w a ss) (hc : Chg w w' []) : StrsAt w' a ss := fun i t hi =>
  let ⟨q, hq, hcs⟩ := h i t hi
  ⟨q, hq, (cell_chg hcs hc)⟩

theorem open_strL {H : Type} {base : Nat} {enc : TypeId × Value → H} {w : World} {held : Bool} {v : Value} {d : DataW H} {p : List MemPlace}
    (hv : Value.okWide Try.prog w .any base 50 v) (h : DataW.Trod enc Try.prog w 0 (fun _ => true) held 50 v d p) :
    ∃ (a : Option Addr) (c : Nat) (ss : List ByteArray), v = .slice a ss.length c ∧ StrsAt w a ss ∧ ss.length ≤ 9223372036854775807 := by
  obtain ⟨a0, l0, c0, rfl⟩ := okWide_slice Try.underlying50 hv
  obtain ⟨fuel, hf⟩ := h
  rcases open_strs Try.underlying50 Try.underlying9 (by kernel_rfl) hf with ⟨hcs, _⟩ | ⟨x, l, c, m, Sx, hcs, _, hl, hm, hmm, _, hi⟩
  · simp [Value.cells] at hcs
    obtain ⟨rfl, rfl, rfl⟩ := hcs
    exact ⟨none, 0, [], rfl, fun i t hi => by simp at hi, by simp⟩
  · simp [Value.cells] at hcs
    obtain ⟨rfl, rfl, rfl⟩ := hcs
    refine ⟨some x, c0, (List.range l0).map Sx, by simp, fun i t hit => ?_, by simp; simp [maxLen] at hm; omega⟩
    have hi2 : i < l0 := by
      have := (List.getElem?_eq_some_iff.1 hit).1
      simpa using this
    rw [List.getElem?_map, List.getElem?_range hi2] at hit
    simp at hit
    subst hit
    exact ⟨x, rfl, by rw [Nat.mul_one]; exact (hi i (by rw [hmm]; simp; omega)).1⟩

/-- The first i strings, joined. -/
def catL (ss : List ByteArray) (i : Nat) : List UInt8 := ((ss.take i).map (·.data.toList)).flatten

theorem catL_succ {ss : List ByteArray} {i : Nat} (h : i < ss.length) : catL ss (i + 1) = catL ss i ++ ss[i].data.toList := by
  unfold catL
  rw [List.take_succ_eq_append_getElem h, List.map_append, List.flatten_append]
  simp

theorem catL_pre {ss : List ByteArray} : ∀ {i : Nat} (k : Nat), i + k ≤ ss.length → catL ss i <+: catL ss (i + k)
  | i, 0, _ => List.prefix_refl _
  | i, k + 1, h => by
    have h1 := catL_pre (ss := ss) (i := i) k (by omega)
    rw [← Nat.add_assoc, catL_succ (by omega)]
    exact h1.trans (List.prefix_append _ _)

theorem catL_len {ss : List ByteArray} : ∀ {i : Nat}, i ≤ ss.length → (∀ (j : Nat) (hj : j < ss.length), j < i → (ss[j]).size ≤ 200) → (catL ss i).length ≤ 200 * i
  | 0, _, _ => by simp [catL]
  | i + 1, h, hs => by
    have h1 := catL_len (i := i) (by omega) (fun j hj hi => hs j hj (by omega))
    have h2 := hs i (by omega) (by omega)
    rw [catL_succ (by omega), List.length_append, ← ba_size]
    omega

theorem appL_in : ∀ (x : List UInt8) (s : MS) (n : Nat), s.left = some n → x.length ≤ n → MS.appL x s = (0, { s with left := some (n - x.length), b := s.b ++ x })
  | [], s, n, hl, _ => by
    unfold MS.appL
    cases s
    simp at hl
    simp [hl]
  | c :: cs, s, n, hl, hx => by
    simp only [List.length_cons] at hx
    obtain ⟨k, rfl⟩ : ∃ k, n = k + 1 := ⟨n - 1, by omega⟩
    unfold MS.appL
    rw [hl]
    dsimp only
    rw [appL_in cs _ k rfl (by omega)]
    simp

theorem appL_out : ∀ (x : List UInt8) (s : MS) (n : Nat), s.left = some n → n < x.length → MS.appL x s = (19, { s with left := some 0, b := s.b ++ x.take n, down := true })
  | [], s, n, hl, h => by simp at h
  | c :: cs, s, 0, hl, hx => by
    unfold MS.appL
    rw [hl]
    cases s
    simp at hl
    simp
  | c :: cs, s, k + 1, hl, hx => by
    simp only [List.length_cons] at hx
    unfold MS.appL
    rw [hl]
    dsimp only
    rw [appL_out cs _ k rfl (by omega)]
    simp

theorem strsCell {w : World} {a : Option Addr} {ss : List ByteArray} (h : StrsAt w a ss) {i : Nat} (hi : i < ss.length) :
    ∃ q, a = some q ∧ w.cell? (q.add (((i : Int)).toNat * 1)) = some (.string ss[i]) := h i _ (by simp [hi])

theorem inot (a : Int) : (a != a) = false := by simp

theorem mediaArms_c {w : World} {a : Option Addr} {c : Nat} {ss : List ByteArray} (n : Int) (hn : n ≤ 9223372036854775807) (h : StrsAt w a ss) (hl : ss.length ≤ 9223372036854775807) :
    Calls Try.prog 7 #[.int .i64 n, .slice a ss.length c] w (RetC fun r w' => r = .bool true ∧ Chg w w' []) := by
  refine lMediaArms_ok ?_
  unfold lMediaArms
  have aw : ∀ {w1 : World}, Chg w w1 [] → Calls Try.prog 9 #[] w1 fun e w2 => ∃ b2 : Bool, e = .returned (.bool b2) ∧ (Value.bool b2 = .bool true ∧ Chg w w2 []) := fun hc =>
    useC (awake_c _) (by rintro _ w2 ⟨rfl, hc2⟩; exact ⟨_, rfl, rfl, hc.trans hc2 (by simp)⟩)
  refine ⟨fun b w' => w' = w ∧ (b = false → ss.length ≤ 20 ∧ 0 ≤ n), ?_, ?_⟩
  rotate_left
  · by_cases h20 : ss.length > 20
    · exact cT (decide_eq_true (by omega)) ⟨rfl, fun h => by cases h⟩
    · exact cF (decide_eq_false (by omega)) ⟨rfl, fun h => ⟨by omega, by have := of_decide_eq_false h; omega⟩⟩
  rintro w1 b ⟨rfl, hb⟩ -
  cases b with
  | true => exact cT rfl (aw (Chg.refl _ _))
  | false =>
    obtain ⟨h20, hn0⟩ := hb rfl
    refine cF rfl ?_
    refine ⟨fun s1 k w' m => ∃ i : Nat, k = (i : Int) ∧ i ≤ ss.length ∧ m = ss.length - i ∧ w' = w1 ∧ s1.data.toList = catL ss i ∧ ∀ (j : Nat) (hj : j < ss.length), j < i → (ss[j]).size ≤ 200,
      ⟨ss.length, 0, rfl, by omega, by omega, rfl, by simp [catL, bs], fun j hj hi => by omega⟩, ?_⟩
    rintro w3 m s1 k ⟨i, rfl, hi, rfl, rfl, hs1, hsz⟩ -
    have hz1 : s1.size = (catL ss i).length := by rw [ba_size, hs1]
    have hcl := catL_len hi hsz
    by_cases hlt : i < ss.length
    · refine cT (decide_eq_true (by omega)) ?_
      obtain ⟨q, rfl, hc⟩ := strsCell h hlt
      refine ⟨by omega, by omega, _, hc, ?_⟩
      by_cases hs : ss[i].size > 200
      · exact cT (decide_eq_true (by omega)) (aw (Chg.refl _ _))
      · refine cF (decide_eq_false (by omega)) ⟨by omega, by omega, _, hc, ?_, ss.length - (i + 1), by omega, i + 1, iwrap1 hlt hl, by omega, rfl, rfl, ?_, ?_⟩
        · have : IntKind.i64.max = 9223372036854775807 := rfl
          omega
        · rw [app_list, hs1, catL_succ hlt]
        · intro j hj hji
          by_cases hj2 : j < i
          · exact hsz j hj hj2
          · obtain rfl : j = i := by omega
            omega
    obtain rfl : i = ss.length := by omega
    refine cF (decide_eq_false (by omega)) ?_
    refine useC (new_st (St.start w3) (n := 8000) (by omega)) ?_
    rintro _ w5 ⟨x, rfl, h5⟩
    have z5 : St w3 w5 (Sep [medA x ⟨8000, [], 0, false, none⟩]) := h5.swap
    refine ⟨_, _, rfl, fun b w' => b = false ∧ w' = w5, ?_, cF rfl ⟨rfl, rfl⟩⟩
    rintro w6 b ⟨rfl, rfl⟩ -
    refine cF rfl ?_
    refine useC (arm_st z5 n) ?_
    rintro _ w7 ⟨rfl, h7⟩
    refine ⟨rfl, ?_⟩
    have ha : MS.arm n ⟨8000, [], 0, false, none⟩ = ⟨8000, [], 0, false, some n.toNat⟩ := by
      unfold MS.arm; rw [if_neg (by decide), if_pos hn0]
    rw [ha] at h7
    refine ⟨fun b5 k4 k5 w' m => ∃ (i : Nat) (s : MS), k5 = (i : Int) ∧ i ≤ ss.length ∧ m = ss.length - i ∧ s.size = 8000 ∧ s.dur = 0 ∧ s.b <+: catL ss ss.length ∧ k4 = (s.b.length : Int) ∧
        ((b5 = false ∧ s.down = false ∧ s.b = catL ss i ∧ k4 ≤ n ∧ s.left = some (n.toNat - s.b.length)) ∨ (b5 = true ∧ s.down = true ∧ s.left = some 0 ∧ k4 = n ∧ n ≤ (s1.size : Int))) ∧ St w3 w' (Sep [medA x s]),
      ⟨ss.length, 0, _, rfl, by omega, by omega, rfl, rfl, List.nil_prefix, rfl, .inl ⟨rfl, rfl, rfl, hn0, rfl⟩, h7⟩, ?_⟩
    rintro w8 m b5 k4 k5 ⟨i, s, rfl, hi, rfl, hsS, hsD, hpre, rfl, hst, hS⟩ -
    have hpl := hpre.length_le
    have hoS : s.Ok := by
      refine ⟨by omega, by omega, by omega, fun k hk => ?_⟩
      rcases hst with ⟨_, _, _, _, h5⟩ | ⟨_, _, h5, _⟩ <;> rw [h5] at hk <;> cases hk <;> omega
    by_cases hlt : i < ss.length
    · refine cT (decide_eq_true (by omega)) ?_
      obtain ⟨q, rfl, hc⟩ := strsCell (h.chg hS.chg) hlt
      have hsi := hsz i hlt hlt
      have hsl : ss[i].size = ss[i].data.toList.length := ba_size _
      have hfull : ¬ s.size - s.b.length < ss[i].data.toList.length := by omega
      have hpi := (catL_pre (ss := ss) (i := i + 1) (ss.length - (i + 1)) (by omega))
      rw [show i + 1 + (ss.length - (i + 1)) = ss.length by omega] at hpi
      have hpil := hpi.length_le
      have hcs := catL_succ hlt
      have hcsl : (catL ss (i + 1)).length = (catL ss i).length + ss[i].data.toList.length := by rw [hcs, List.length_append]
      refine ⟨fun b6 k6 k7 w' => w' = w8 ∧ ∃ s' : MS, s.app ss[i].data.toList = (k7, s') ∧ k6 = (s'.b.length : Int) ∧ s'.size = 8000 ∧ s'.dur = 0 ∧ s'.b <+: catL ss ss.length ∧
         ((b6 = false ∧ s'.down = false ∧ s'.b = catL ss (i + 1) ∧ k6 ≤ n ∧ s'.left = some (n.toNat - s'.b.length)) ∨ (b6 = true ∧ s'.down = true ∧ s'.left = some 0 ∧ k6 = n ∧ n ≤ (s1.size : Int))), ?_, ?_⟩
      · rintro w9 b6 k6 k7 ⟨rfl, s', happ, rfl, hS', hD', hP', hst'⟩ -
        refine ⟨fun b w' => b = false ∧ St w3 w' (Sep [medA x s']), ?_, ?_⟩
        · rintro w10 b ⟨rfl, h10⟩ -
          exact cF rfl ⟨ss.length - (i + 1), by omega, i + 1, s', iwrap1 hlt hl, by omega, rfl, hS', hD', hP', rfl, hst', h10⟩
        · refine ⟨by omega, by omega, _, hc, useC (append_st hS hoS ss[i]) ?_⟩
          rintro _ w11 ⟨rfl, h11⟩
          rw [happ] at h11 ⊢
          refine ⟨_, rfl, cF (inot _) (useC (size_st h11) ?_)⟩
          rintro _ w12 ⟨rfl, rfl⟩
          exact ⟨_, rfl, inot _, h11⟩
      · rcases hst with ⟨rfl, hdn, hbb, hle, hleft⟩ | ⟨rfl, hdn, hleft, heq, hle⟩
        · have happ := MS.app_go hdn hfull
          have hbl : s.b.length = (catL ss i).length := by rw [hbb]
          refine ⟨fun b w' => w' = w8 ∧ b = decide ((ss[i].size : Int) > n - s.b.length), ?_, ?_⟩
          · rintro w13 b ⟨rfl, rfl⟩ -
            by_cases hover : (ss[i].size : Int) > n - s.b.length
            · refine cT (decide_eq_true hover) ⟨rfl, _, happ.trans (appL_out _ _ _ hleft (by omega)), ?_, hsS, hsD, ?_, .inr ⟨rfl, rfl, rfl, ?_, ?_⟩⟩
              · simp only [List.length_append, List.length_take]
                rw [if_neg (by omega)]
                omega
              · refine List.IsPrefix.trans ?_ hpi
                rw [hcs, hbb]
                exact (List.prefix_append_right_inj _).2 (List.take_prefix _ _)
              · rw [if_neg (by omega)]
              · omega
            · refine cF (decide_eq_false hover) ⟨by omega, by omega, _, hc, rfl, _, happ.trans (appL_in _ _ _ hleft (by omega)), ?_, hsS, hsD, ?_, .inl ⟨rfl, hdn, ?_, ?_, ?_⟩⟩
              · rw [IntWalk.i64_in _ (by omega)]; simp only [List.length_append]; omega
              · rw [hbb, ← hcs]; exact hpi
              · rw [hbb, ← hcs]
              · rw [IntWalk.i64_in _ (by omega)]; omega
              · simp only [List.length_append]; congr 1; omega
          · refine cF rfl ⟨by omega, by omega, _, hc, rfl, ?_⟩
            rw [IntWalk.i64_in _ (by omega)]
        · refine ⟨fun b w' => w' = w8 ∧ b = true, ?_, cT rfl ⟨rfl, rfl⟩⟩
          rintro w13 b ⟨rfl, rfl⟩ -
          refine cT rfl ⟨rfl, s, MS.app_down hdn, ?_, hsS, hsD, hpre, .inr ⟨rfl, hdn, hleft, ?_, hle⟩⟩
          · split <;> omega
          · split <;> omega
    · refine cF (decide_eq_false (by omega)) ?_
      refine useC (crash_st hS hoS (n := 8000) (by omega)) ?_
      rintro _ w14 ⟨rfl, h14⟩
      refine ⟨rfl, useC (read_st h14) ?_⟩
      rintro _ w15 ⟨rfl, rfl⟩
      have hk : s.keeps 8000 = s.b.length := by unfold MS.keeps; rw [hsD]; omega
      refine ⟨_, _, rfl, cT rfl ⟨by omega, by omega, by omega, by omega, cT (bytes_beq _ _ ?_) (aw h14.chg)⟩⟩
      rw [Int.toNat_natCast]
      refine Eq.trans ?_ (ext_list s1).symm
      rw [rd_crash, hk, hs1, List.take_length]
      exact (List.prefix_iff_eq_take.1 hpre)

end Go.Proofs.Ytbjbfppaghfpcaa

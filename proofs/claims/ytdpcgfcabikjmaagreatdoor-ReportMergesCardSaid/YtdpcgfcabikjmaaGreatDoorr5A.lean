import Derived.Test.YtdpcgfcabikjmaaGreatDoorOpn
import Derived.Test.YtdpcgfcabikjmaaGreatDoorr5Lib
import Derived.Test.YtdpcgfcabikjmaaGreatDoorr5Shrep
namespace Go.Proofs.YtdpcgfcabikjmaaGreatDoor
open Go Go.Vc Go.Sort Go.RowKit

abbrev iv (n : Int) : Value := .int .i64 n
abbrev sv (l : List UInt8) : Value := .string (bs l)
def In (n : Int) : Prop := -9223372036854775808 ≤ n ∧ n ≤ 9223372036854775807
def Tab (w : World) : Prop := Lib.TabIs Tryz.prog w "internal/strconv.uint64pow10" .u64 Lib.pow10Tab

theorem chg_grow (w : World) (k : Nat) (os : Array Obj) : Chg w (grow (w.drewN k) os) [] :=
  ⟨by simp [grow, World.drewN], fun i hi _ => Array.getElem?_append_left hi, ⟨rfl, rfl, rfl⟩⟩

theorem chg_below {w w' : World} (h : Below w.heap.size w w') : Chg w w' [] := ⟨h.size, fun i hi _ => h.block i hi, ⟨h.os, h.tape, h.output⟩⟩

theorem Tab.chg {w w' : World} (h : Tab w) (hc : Chg w w' []) : Tab w' := by
  unfold Tab Lib.TabIs World.var? at h ⊢
  cases hg : Tryz.prog.globalNamed "internal/strconv.uint64pow10" with
  | none => simp [hg] at h
  | some g =>
    simp only [hg, Option.bind_some] at h ⊢
    have hlt : g < w.heap.size := by
      rcases Nat.lt_or_ge g w.heap.size with h' | h'
      · exact h'
      · simp [Array.getElem?_eq_none h'] at h
    rw [hc.same g hlt (by simp)]
    exact h

section
variable {w : World}

theorem itoa_c (ht : Tab w) {n : Int} (hn : In n) : Calls Tryz.prog 21 #[iv n] w (RetC fun r w' => r = sv (Lib.itoa n) ∧ Chg w w' []) :=
  (Tryz.strconv_Itoa n hn.1 hn.2 w ht).mono fun _ _ ⟨he, k, os, hw⟩ => ⟨_, he, rfl, hw ▸ chg_grow w k os⟩

theorem fint_c (ht : Tab w) {n : Int} (hn : In n) : Calls Tryz.prog 22 #[iv n, iv 10] w (RetC fun r w' => r = sv (Lib.itoa n) ∧ Chg w w' []) :=
  (Tryz.strconv_FormatInt_10 n hn.1 hn.2 w ht).mono fun _ _ ⟨he, k, os, hw⟩ => ⟨_, he, rfl, hw ▸ chg_grow w k os⟩

/-- A line of words. -/
def lin (xs : List (List UInt8)) : List UInt8 := Lib.join xs [32] ++ [10]

theorem line_c {g o c : Nat} {xs : List (List UInt8)} (hcells : ∀ (j : Nat) x, xs[j]? = some x → w.cell? ⟨g, o + j, none⟩ = some (sv x)) (hg : g < w.heap.size) (hc : xs.length ≤ c) (hN : xs.length ≤ 1000000) (hl : (Lib.join xs [32]).length ≤ 140737488355328) :
    Calls Tryz.prog 19 #[.slice (some ⟨g, o, none⟩) xs.length c] w (RetC fun r w' => r = sv (lin xs) ∧ Chg w w' []) := by
  refine rLine_ok ?_
  unfold rLine
  have e1 : (xs.map bs).map (·.data.toList) = xs := by
    rw [List.map_map]
    conv => rhs; rw [← List.map_id xs]
    exact List.map_congr_left fun x _ => by simp [bs]
  have hj := Tryz.strings_Join g o c (xs.map bs) (bs [32]) w (fun j x hx => by
    rw [List.getElem?_map, Option.map_eq_some_iff] at hx
    obtain ⟨y, hy, rfl⟩ := hx
    exact hcells j y hy) hg (by simp; omega) (by simpa using hc) (by rw [e1]; exact hl)
  rw [e1, List.length_map] at hj
  refine hj.mono fun e w' ⟨he, hb⟩ => ⟨_, he, ?_, ?_, chg_below hb⟩
  · have : (⟨(Lib.join xs (bs [32]).data.toList).toArray⟩ : ByteArray).size = (Lib.join xs [32]).length := by simp [ByteArray.size, bs]
    rw [this]
    have h2 : (bs [10]).size = 1 := rfl
    rw [h2]
    have : IntKind.i64.max = 9223372036854775807 := rfl
    omega
  · congr 1

/-- A builder in a block of one's own. -/
abbrev Bl (w : World) (b : Nat) (l : List UInt8) : Prop := Lib.IsBuilder 58 5 b b (Lib.byteCells l) w

theorem ownsRow_base {w w' : World} {B : Nat} {e : TypeId} {v : Value} {n : Nat} {xs : List Value} (h : w.ownsRow B e 1 v n xs) (hc : ∀ k, k < w.heap.size → w'.heap[k]? = w.heap[k]?) : w'.ownsRow B e 1 v n xs := by
  refine ⟨h.1, h.2.imp id ?_⟩
  rintro ⟨g, cap, cur, hv, hb, hg, rest⟩
  exact ⟨g, cap, cur, hv, hb, by rw [hc g (lt_of_heap hg)]; exact hg, rest⟩

theorem Bl.chg {w w' : World} {b : Nat} {l : List UInt8} (h : Bl w b l) (hc : Chg w w' []) : Bl w' b l := by
  have key : ∀ {p : Value}, Lib.BuilderAt 58 5 b b p (Lib.byteCells l) w → Lib.BuilderAt 58 5 b b p (Lib.byteCells l) w' := by
    rintro p ⟨h1, v, h2, h3, h4⟩
    exact ⟨h1, v, by rw [hc.same b (lt_of_heap h2) (by simp)]; exact h2, ownsRow_base h3 fun k hk => hc.same k hk (by simp), h4⟩
  exact h.imp key key

theorem Bl.lt {b : Nat} {l : List UInt8} (h : Bl w b l) : b < w.heap.size := by
  rcases h with ⟨_, v, h2, _⟩ | ⟨_, v, h2, _⟩ <;> exact lt_of_heap h2

theorem Bl.new (w : World) : Bl (w.alloc (.cells #[.pointer none, .slice none 0 0] 58)) w.heap.size [] :=
  .inl ⟨Nat.le_refl _, .slice none 0 0, by rw [heap_new, if_pos rfl], ⟨by simp [Lib.byteCells], .inl ⟨rfl, rfl⟩⟩, by simp [Value.ownBlock]⟩

/-- A function that writes into a builder: its frame 'r1', what the frame holds, the bytes so far. -/
structure Fw (w0 : World) (r1 b : Nat) (o : Obj) (l : List UInt8) (w : World) : Prop where
  chg : Chg w0 w []
  box : w.heap[r1]? = some o
  bld : Bl w b l
  lt : r1 < b
  new : w0.heap.size ≤ b

theorem Fw.to {w0 : World} {r1 b : Nat} {o : Obj} {l : List UInt8} {w w' : World} (h : Fw w0 r1 b o l w) (hc : Chg w w' []) : Fw w0 r1 b o l w' :=
  ⟨h.chg.trans hc (by simp), by rw [hc.same r1 (lt_of_heap h.box) (by simp)]; exact h.box, h.bld.chg hc, h.lt, h.new⟩

theorem write_c {w0 : World} {r1 b : Nat} {o : Obj} {l s : List UInt8} (h : Fw w0 r1 b o l w) (hl : l.length + s.length ≤ 140737488355328) :
    Calls Tryz.prog 18 #[.pointer (some ⟨b, 0, none⟩), sv s] w (RetC fun r w' => (∃ (n : Int) (v : Value), r = .tuple #[iv n, v]) ∧ Fw w0 r1 b o (l ++ s) w') := by
  have hs : (bs s).size = s.length := by simp [ByteArray.size, bs]
  refine (Tryz.builder_write b b (Lib.byteCells l) (bs s) w h.bld (by rw [Lib.byteCells_length, hs]; exact hl) (Nat.le_of_lt h.bld.lt)).mono fun e w' ⟨he, hb, hbel⟩ => ⟨_, he, ⟨_, _, rfl⟩, ?_⟩
  refine ⟨⟨Nat.le_trans h.chg.size hbel.size, fun i hi _ => ?_, ⟨hbel.os.trans h.chg.env.os, hbel.tape.trans h.chg.env.tape, hbel.output.trans h.chg.env.out⟩⟩, ?_, ?_, h.lt, h.new⟩
  · rw [hbel.block i (Nat.lt_of_lt_of_le hi h.new)]
    exact h.chg.same i hi (by simp)
  · rw [hbel.block r1 h.lt]; exact h.box
  · have : Lib.byteCells (l ++ s) = Lib.byteCells l ++ Lib.strCells (bs s) := by
      rw [Lib.byteCells_append]; simp [Lib.strCells, Lib.byteCells, bs]
    rw [← this] at hb
    exact .inr hb

theorem string_c {w0 : World} {r1 b : Nat} {o : Obj} {l : List UInt8} (h : Fw w0 r1 b o l w) : Calls Tryz.prog 23 #[.pointer (some ⟨b, 0, none⟩)] w (RetC fun r w' => r = sv l ∧ Chg w0 w' []) :=
  (Tryz.builder_string b b l w h.bld (Nat.le_of_lt h.bld.lt)).mono fun e w' ⟨he, hbel⟩ => ⟨_, he, rfl, Nat.le_trans h.chg.size hbel.size, fun i hi _ => by
    rw [hbel.block i (Nat.lt_of_lt_of_le hi h.new)]
    exact h.chg.same i hi (by simp), ⟨hbel.os.trans h.chg.env.os, hbel.tape.trans h.chg.env.tape, hbel.output.trans h.chg.env.out⟩⟩

end

/-! The reference's numerals. -/
theorem wrapU {n : Int} (h0 : 0 ≤ n) (h1 : n < 18446744073709551616) : IntKind.u64.wrap n = n := by
  simp only [IntKind.wrap, IntKind.signed, IntKind.bits]
  simp
  omega

theorem conv_c {w0 w : World} {r : Nat} {x : Int} {R : Value → World → Prop} (h : St w0 w (Sep [boxA r #[.int .u8 x] 5])) (k : R (.string ⟨#[UInt8.ofNat x.toNat]⟩) w) : rnS Tryz.prog (convert 56 9 (.slice (some ⟨r, 0, none⟩) 1 1)) w R := by
  refine ⟨_, w, ?_, k⟩
  have hr := run_convert_bytes_arg (P := Tryz.prog) w 56 5 Tryz.underlying56 Tryz.underlying5 r 0 1 1 [x] rfl (fun i hi => by
    obtain rfl : i = 0 := by omega
    rw [h.boxedAt 0 rfl]
    rfl) 9 Tryz.underlying9
  rw [hr]
  rfl

theorem nDig : ∀ (k u : Nat), u < 10 ^ (k + 1) → Lib.nDigits u ≤ k + 1
  | 0, u, h => by unfold Lib.nDigits; rw [dif_pos (by simpa using h)]; exact Nat.le_refl _
  | k + 1, u, h => by
    unfold Lib.nDigits
    split
    · omega
    · have := nDig k (u / 10) (by rw [Nat.pow_succ] at h; omega)
      omega

theorem dd_len {u : Nat} (h : u < 18446744073709551616) : (Lib.decDigits u).length ≤ 20 := by
  rw [Lib.decDigits_length]
  exact nDig 19 u (by omega)

theorem dd_step {v : Nat} (h : ¬ v < 10) : Lib.decDigits v = Lib.decDigits (v / 10) ++ [UInt8.ofNat (48 + v % 10)] := by rw [Lib.decDigits, dif_neg h]

theorem byte_dig {v : Nat} (h : v < 10) : UInt8.ofNat (IntKind.u8.wrap (IntKind.u64.wrap ((48 : Int) + (v : Int)))).toNat = UInt8.ofNat (48 + v) := by
  have : (IntKind.u8.wrap (IntKind.u64.wrap ((48 : Int) + (v : Int)))) = ((48 + v : Nat) : Int) := by
    rw [wrapU (by omega) (by omega)]
    simp only [IntKind.wrap, IntKind.signed, IntKind.bits]
    simp
    omega
  rw [this]
  rfl

theorem digits_c (w : World) (u : Nat) (hu : u < 18446744073709551616) : Calls Tryz.prog 45 #[.int .u64 u] w (RetC fun r w' => r = sv (Lib.decDigits u) ∧ Chg w w' []) := by
  refine qDigits_ok ?_
  unfold qDigits
  refine ⟨fun n s w' m => ∃ (v : Nat) (l : List UInt8), n = v ∧ s = bs l ∧ v ≤ u ∧ m = v ∧ Lib.decDigits u = Lib.decDigits v ++ l ∧ Chg w w' [], ⟨u, u, [], rfl, rfl, Nat.le_refl _, rfl, by simp, Chg.refl _ _⟩, ?_⟩
  rintro w1 m n s ⟨v, l, rfl, rfl, hv, hm, hd, hc⟩ -
  have hl : l.length ≤ 20 := by
    have := dd_len hu
    rw [hd, List.length_append] at this
    omega
  have hls : (bs l).size = l.length := by simp [bs, ByteArray.size]
  have hmax : IntKind.i64.max = 9223372036854775807 := rfl
  by_cases h9 : (v : Int) > 9
  · refine cT (by simpa using h9) ⟨by omega, newK_mk ?_⟩
    have e1 : Int.tmod (v : Int) 10 = ((v % 10 : Nat) : Int) := by rw [Int.tmod_eq_emod_of_nonneg (by omega)]; rfl
    have e2 : Int.tdiv (v : Int) 10 = ((v / 10 : Nat) : Int) := by rw [Int.tdiv_eq_ediv_of_nonneg (by omega)]; rfl
    have st := (St.start' hc).one.boxL #[(.int .u8 (IntKind.u8.wrap (IntKind.u64.wrap ((48 : Int) + (Int.tmod (v : Int) (10 : Int))))))] 5
    have st0 : St w1 (w1.alloc (.cells #[(.int .u8 (IntKind.u8.wrap (IntKind.u64.wrap ((48 : Int) + (Int.tmod (v : Int) (10 : Int))))))] 5)) (Sep [boxA w1.heap.size #[(.int .u8 (IntKind.u8.wrap (IntKind.u64.wrap ((48 : Int) + (Int.tmod (v : Int) (10 : Int))))))] 5]) :=
      ((St.start w1).one.boxL _ 5).weak (Weak.pick [0] _)
    refine conv_c st0 ⟨_, rfl, ?_, by omega, v / 10, ?_, v / 10, UInt8.ofNat (48 + v % 10) :: l, ?_, ?_, by omega, rfl, ?_, hc.trans st0.chg (by simp)⟩
    · rw [hls, hmax]
      have : (⟨#[UInt8.ofNat (IntKind.u8.wrap (IntKind.u64.wrap ((48 : Int) + (Int.tmod (v : Int) (10 : Int))))).toNat]⟩ : ByteArray).size = 1 := rfl
      rw [this]
      omega
    · omega
    · rw [e2, wrapU (by omega) (by omega)]
    · rw [e1, byte_dig (by omega)]
      apply ByteArray.ext
      simp [bs]
    · rw [hd, dd_step (by omega)]
      simp
  · refine cF (by simpa using h9) (newK_mk ?_)
    have st0 : St w1 (w1.alloc (.cells #[(.int .u8 (IntKind.u8.wrap (IntKind.u64.wrap ((48 : Int) + (v : Int)))))] 5)) (Sep [boxA w1.heap.size #[(.int .u8 (IntKind.u8.wrap (IntKind.u64.wrap ((48 : Int) + (v : Int)))))] 5]) :=
      ((St.start w1).one.boxL _ 5).weak (Weak.pick [0] _)
    refine conv_c st0 ⟨_, rfl, ?_, ?_, hc.trans st0.chg (by simp)⟩
    · rw [hls, hmax]
      have : (⟨#[UInt8.ofNat (IntKind.u8.wrap (IntKind.u64.wrap ((48 : Int) + (v : Int)))).toNat]⟩ : ByteArray).size = 1 := rfl
      rw [this]
      omega
    · rw [byte_dig (by omega), hd, Lib.decDigits_one (by omega)]
      congr 1

theorem number_c (w : World) {n : Int} (hn : In n) : Calls Tryz.prog 25 #[iv n] w (RetC fun r w' => r = sv (Lib.itoa n) ∧ Chg w w' []) := by
  obtain ⟨h0, h1⟩ := hn
  refine qNumber_ok ?_
  unfold qNumber
  by_cases hneg : n < 0
  · refine cT (by simpa using hneg) ?_
    have hw1 : IntKind.i64.wrap (n + 1) = n + 1 := by
      simp only [IntKind.wrap, IntKind.signed, IntKind.bits]; simp; omega
    have hw2 : IntKind.i64.wrap (0 - (n + 1)) = -(n + 1) := by
      simp only [IntKind.wrap, IntKind.signed, IntKind.bits]; simp; omega
    have e : (IntKind.u64.wrap ((IntKind.u64.wrap (IntKind.i64.wrap (0 - (IntKind.i64.wrap (n + (1 : Int)))))) + (1 : Int))) = ((n.natAbs : Nat) : Int) := by
      rw [hw1, hw2, wrapU (n := -(n + 1)) (by omega) (by omega), wrapU (by omega) (by omega)]
      omega
    rw [e]
    refine useC (digits_c w n.natAbs (by omega)) ?_
    rintro _ w1 ⟨rfl, hc⟩
    have hl := dd_len (u := n.natAbs) (by omega)
    refine ⟨_, rfl, ?_, ?_, hc⟩
    · have h1 : (bs [45]).size = 1 := rfl
      have h2 : (bs (Lib.decDigits n.natAbs)).size = (Lib.decDigits n.natAbs).length := by simp [bs, ByteArray.size]
      have hmax : IntKind.i64.max = 9223372036854775807 := rfl
      rw [h1, h2, hmax]
      omega
    · congr 1
      unfold Lib.itoa
      rw [if_pos hneg]
      apply ByteArray.ext
      simp [bs]
  · refine cF (by simpa using hneg) ?_
    have e : IntKind.u64.wrap n = ((n.toNat : Nat) : Int) := by
      rw [wrapU (by omega) (by omega)]; omega
    rw [e]
    refine useC (digits_c w n.toNat (by omega)) ?_
    rintro _ w1 ⟨rfl, hc⟩
    refine ⟨_, rfl, ?_, hc⟩
    unfold Lib.itoa
    rw [if_neg hneg]

end Go.Proofs.YtdpcgfcabikjmaaGreatDoor

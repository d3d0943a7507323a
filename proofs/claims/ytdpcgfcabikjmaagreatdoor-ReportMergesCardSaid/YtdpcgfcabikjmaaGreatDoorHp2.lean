import Derived.Test.YtdpcgfcabikjmaaGreatDoorHp1
namespace Go.Vc

/-- What a slice type's element is: its number, its cells, its bytes. -/
structure SlT (P : Program) (t e : TypeId) (z : Value) (sz by_ : Nat) : Prop where
  u : P.underlying t = some (.slice e)
  i : ∃ i, P.info? e = some i ∧ i.zero = some z ∧ i.size = sz ∧ i.bytes = by_
  zc : z.cells.size = sz
  pos : 0 < sz

theorem SlT.mk' {P : Program} {t e : TypeId} {z : Value} {sz by_ : Nat} (hu : P.underlying t = some (.slice e)) (hi : (P.info? e).map (fun i => (i.zero, i.size, i.bytes)) = some (some z, sz, by_))
    (hz : z.cells.size = sz) (hp : 0 < sz) : SlT P t e z sz by_ := by
  refine ⟨hu, ?_, hz, hp⟩
  cases h : P.info? e with
  | none => simp [h] at hi
  | some i => simp [h] at hi; exact ⟨i, rfl, hi.1, hi.2.1, hi.2.2⟩

/-- The block of a slice after a change: the one that it had, or a new one. -/
def Nxt (w : World) (v v' : Value) : Prop := ∀ j, v'.ownBlock = some j → v.ownBlock = some j ∨ w.heap.size ≤ j

theorem append_c {P : Program} {w : World} {t ty e : TypeId} {z : Value} {sz by_ : Nat} (hT : SlT P t e z sz by_) {v : Value} {n : Nat} {xs : List Value} (own : w.ownsRow 0 e sz v n xs)
    {a : Addr} {m c : Nat} {news : List Value} (hl : news.length = m * sz) (hnews : ∀ j u, news[j]? = some u → w.cell? (a.add j) = some u) (h1 : ∀ u ∈ news, u.oneCell' = true)
    (hb : (n + m) * by_ ≤ 140737488355328) (hm : n + m ≤ 9223372036854775807) {K : Value → World → Prop}
    (k : ∀ v' w', w'.ownsRow 0 e sz v' (n + m) (xs ++ news) → Chg w w' v.ownBlock.toList → Nxt w v v' → K v' w') :
    rnS P (Builtin.append_ #[t, t] ty #[v, .slice (some a) m c]) w K := by
  obtain ⟨i, hi, hz, hs, hby⟩ := hT.i
  have hml : n + m ≤ maxLen := by unfold maxLen; omega
  obtain ⟨v', w', hr, ho, hg, _⟩ := run_append_own (P := P) w 0 t ty e i z sz by_ hT.u hi hz hs hby hT.zc hT.pos v n xs own a m c news hl hnews h1 hml hb (Nat.zero_le _)
  refine ⟨v', w', hr, k v' w' ho (Chg.grown hg) ?_⟩
  rcases own.2 with ⟨rfl, rfl⟩ | ⟨g, cap, cur, rfl, _, hgg, hnc, hcm, hcs, htake⟩
  · have own' : w.ownsRow w.heap.size e sz (.slice none 0 0) 0 xs := ⟨own.1, .inl ⟨rfl, rfl⟩⟩
    obtain ⟨v2, w2, hr2, ho2, _⟩ := run_append_own (P := P) w w.heap.size t ty e i z sz by_ hT.u hi hz hs hby hT.zc hT.pos _ 0 xs own' a m c news hl hnews h1 hml hb (Nat.le_refl _)
    rw [hr] at hr2
    cases hr2
    exact fun j hj => .inr (ho2.lt j hj).1
  · by_cases hroom : n + m ≤ cap
    · have hfit : n * i.size + news.length ≤ cur.size := by rw [hl, hcs, hs, ← Nat.add_mul]; exact Nat.mul_le_mul_right _ hroom
      have hr2 := run_append_room (P := P) w t ty e i hT.u hi g n cap cur hgg a m c news (by rw [hs]; exact hl) hnews h1 hroom hfit
      rw [hr] at hr2
      cases hr2
      exact fun j hj => .inl hj
    · have holds : ∀ j u, xs[j]? = some u → w.cell? ((⟨g, 0, none⟩ : Addr).add j) = some u := own.cells (g := g) rfl
      have hr2 := run_append_grow (P := P) w t ty e i z hT.u hi hz ⟨g, 0, none⟩ n cap xs (by rw [hs]; exact own.1) holds a m c news (by rw [hs]; exact hl) hnews (by omega) (by omega) (growslice_fits (by omega) (by rw [hby]; exact hb))
      rw [hr] at hr2
      cases hr2
      intro j hj
      simp [Value.ownBlock] at hj
      exact .inr (by omega)

/-- The elements of an owned slice, one by one. -/
theorem own_cell {w : World} {base : Nat} {e : TypeId} {v : Value} {n : Nat} {xs : List Value} (own : w.ownsRow base e 1 v n xs) {a : Option Addr} {l c : Nat} (hv : v = .slice a l c) :
    l = n ∧ (0 < n → ∃ g cur, a = some ⟨g, 0, none⟩ ∧ v.ownBlock = some g ∧ w.heap[g]? = some (.cells cur e (0, 0)) ∧ n ≤ cur.size ∧ cur.toList.take n = xs) ∧ n ≤ c := by
  subst hv
  rcases own.2 with ⟨hv, rfl⟩ | ⟨g, cap, cur, hv, _, hg, h1, _, h3, h4⟩
  · cases hv; exact ⟨rfl, fun h => absurd h (by omega), by omega⟩
  · cases hv
    refine ⟨rfl, fun _ => ⟨g, cur, rfl, rfl, hg, ?_, ?_⟩, h1⟩
    · rw [h3]; omega
    · rw [← h4, Nat.mul_one]

theorem own_slice {w : World} {base : Nat} {e : TypeId} {sz : Nat} {v : Value} {n : Nat} {xs : List Value} (own : w.ownsRow base e sz v n xs) : ∃ a c, v = .slice a n c := by
  rcases own.2 with ⟨rfl, rfl⟩ | ⟨g, cap, cur, rfl, _⟩
  · exact ⟨_, _, rfl⟩
  · exact ⟨_, _, rfl⟩

/-- 'make([]T, n)' of elements of one cell. -/
theorem make_c {P : Program} {w : World} {t e : TypeId} {z : Value} {by_ : Nat} (hT : SlT P t e z 1 by_) (hz1 : z.cells = #[z]) {n : Int} (h0 : 0 ≤ n) (hn : (by_ : Int) * n ≤ 281474976710656) (h63 : n ≤ 9223372036854775807)
    {K : Value → World → Prop} (k : K (.slice (some ⟨w.heap.size, 0, none⟩) n.toNat n.toNat) (w.alloc (.cells (Array.replicate n.toNat z) e))) :
    rnS P (Instr.makeSlice t (.int .i64 n) (.int .i64 n)) w K := by
  obtain ⟨i, hi, hz, hs, hby⟩ := hT.i
  have hr := run_make (P := P) w t e i z hT.u hi hz .i64 .i64 n n h0 (Int.le_refl _) (by rw [hby]; exact hn) h63
  refine ⟨_, _, hr, ?_⟩
  have : madeCells z.cells (n.toNat * i.size) = Array.replicate n.toNat z := by
    rw [hs, Nat.mul_one, hz1]
    apply Array.ext
    · simp [size_madeCells]
    · intro j h1 h2
      simp [madeCells, Nat.mod_one]
  rw [this]
  exact k

/-- 'copy' of elements of one cell over the beginning of a block. -/
theorem copy_c {P : Program} {w : World} {t ty e : TypeId} {z : Value} {by_ : Nat} (hT : SlT P t e z 1 by_) {g dLen dCap : Nat} {cur : Array Value} (hg : w.heap[g]? = some (.cells cur e (0, 0)))
    {a : Option Addr} {sLen sCap : Nat} {cs : List Value} (hn : cs.length = Nat.min sLen dLen) (hfit : dLen ≤ cur.size)
    (hsrc : 0 < cs.length → ∃ ad, a = some ad ∧ ∀ j u, cs[j]? = some u → w.cell? (ad.add j) = some u) (h1 : ∀ u ∈ cs, u.oneCell' = true)
    {K : Value → World → Prop} (k : ∀ w', w'.heap[g]? = some (.cells (cs ++ cur.toList.drop cs.length).toArray e (0, 0)) → Chg w w' [g] → K (goInt cs.length) w') :
    rnS P (Builtin.copy_ #[t, t] ty #[.slice (some ⟨g, 0, none⟩) dLen dCap, .slice a sLen sCap]) w K := by
  obtain ⟨i, hi, hz, hs, hby⟩ := hT.i
  have hsz : (P.info? e).map (·.size) = some 1 := by simp [hi, hs]
  by_cases h0 : cs.length = 0
  · obtain rfl : cs = [] := List.eq_nil_of_length_eq_zero h0
    have hr := run_copy_none (P := P) w t t ty e (some ⟨g, 0, none⟩) a dLen dCap sLen sCap hT.u hsz (by simpa using hn.symm)
    exact ⟨_, _, hr, k w (by simpa using hg) (Chg.refl _ _)⟩
  · obtain ⟨ad, rfl, hc⟩ := hsrc (by omega)
    have hm : cs.length ≤ dLen := by have := Nat.min_le_right sLen dLen; simp only [hn]; exact this
    have hr := run_copy_row (P := P) w t t ty e g 0 dLen dCap ad sLen sCap cur e cs hT.u hsz hg hn hc (by omega) h1
    refine ⟨_, _, hr, k _ ?_ ?_⟩
    · rw [setRow_heap w g cur _ e _ hg]; simp
    · exact ⟨by simp [World.setRow], fun j _ hj => setRow_other w g j _ (by simpa using hj), ⟨rfl, rfl, rfl⟩⟩

theorem strOfNums_bytes (l : List UInt8) : strOfNums (l.map fun b => (b.toNat : Int)) = ⟨l.toArray⟩ := by
  unfold strOfNums
  congr 1
  congr 1
  induction l with
  | nil => rfl
  | cons b l ih => simp [ih]

/-- 'string(b)'. -/
theorem tostr_c {P : Program} {w : World} {t e dst : TypeId} (ht : P.underlying t = some (.slice e)) (he : P.underlying e = some (.int .u8)) (hd : P.underlying dst = some .string)
    {v : Value} {l : List UInt8} {base : Nat} {e' : TypeId} (own : w.ownsRow base e' 1 v l.length (l.map byteV)) {K : Value → World → Prop} (k : K (.string ⟨l.toArray⟩) w) : rnS P (convert t dst v) w K := by
  obtain ⟨a, c, rfl⟩ := own_slice own
  obtain ⟨_, hc, _⟩ := own_cell own rfl
  by_cases h0 : l = []
  · subst h0
    rcases own.2 with ⟨hv, _⟩ | ⟨g, cap, cur, hv, _⟩
    · cases hv
      exact ⟨_, _, run_convert_bytes_nil (P := P) w t e ht he 0 0 dst hd, k⟩
    · cases hv
      refine ⟨_, _, run_convert_bytes_arg (P := P) w t e ht he g 0 0 _ [] rfl (fun i hi => absurd hi (by omega)) dst hd, ?_⟩
      exact k
  · have hpos : 0 < l.length := List.length_pos_iff.2 h0
    obtain ⟨g, cur, rfl, _, hg, hle, htake⟩ := hc hpos
    refine ⟨_, _, run_convert_bytes_arg (P := P) w t e ht he g 0 l.length c (l.map fun b => (b.toNat : Int)) (by simp) (fun i hi => ?_) dst hd, by rw [strOfNums_bytes]; exact k⟩
    rw [cell_blk, hg, getC_cells]
    have h2 : (cur.toList.take l.length)[i]? = (l.map byteV)[i]? := by rw [htake]
    rw [List.getElem?_take, if_pos hi] at h2
    simp only [Nat.zero_add]
    rw [← Array.getElem?_toList, h2]
    simp [byteV, hi]

end Go.Vc

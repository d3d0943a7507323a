import Derived.Test.YtdpcgfcabikjmaaGreatDoorHp2
import Derived.Test.YtdpcgfcabikjmaaGreatDoorSl
import Derived.IntWalk
import Derived.Laws.Bits64
import Derived.Laws.Strings
namespace Go.Vc

/-! Bytes of a number. -/
def leB : Nat → Nat → List UInt8
  | 0, _ => []
  | k + 1, x => UInt8.ofNat (x % 256) :: leB k (x / 256)

theorem leB_length : ∀ (k x : Nat), (leB k x).length = k
  | 0, _ => rfl
  | k + 1, x => by simp [leB, leB_length k]

theorem leB_get : ∀ (k x i : Nat), i < k → (leB k x)[i]? = some (UInt8.ofNat (x / 256 ^ i % 256))
  | 0, _, _, h => absurd h (by omega)
  | k + 1, x, 0, _ => by simp [leB]
  | k + 1, x, i + 1, h => by
    simp only [leB, List.getElem?_cons_succ]
    rw [leB_get k (x / 256) i (by omega), Nat.div_div_eq_div_mul, Nat.pow_succ, Nat.mul_comm 256]

theorem leB_snoc (k x : Nat) : leB (k + 1) x = leB k x ++ [UInt8.ofNat (x / 256 ^ k % 256)] := by
  apply List.ext_getElem?
  intro i
  by_cases h : i < k
  · rw [leB_get _ _ _ (by omega), List.getElem?_append_left (by rw [leB_length]; exact h), leB_get _ _ _ h]
  · by_cases h2 : i = k
    · subst h2
      rw [leB_get _ _ _ (by omega), List.getElem?_append_right (by rw [leB_length]; exact Nat.le_refl _)]
      simp [leB_length]
    · rw [List.getElem?_eq_none (by rw [leB_length]; omega), List.getElem?_eq_none (by simp [leB_length]; omega)]

theorem own_block {w : World} {g : Nat} {e : TypeId} {l : List UInt8} (h : w.heap[g]? = some (.cells (l.map byteV).toArray e (0, 0))) (hl : l.length ≤ 9223372036854775807) :
    w.ownsRow 0 e 1 (.slice (some ⟨g, 0, none⟩) l.length l.length) l.length (l.map byteV) := by
  refine ⟨by simp, .inr ⟨g, l.length, (l.map byteV).toArray, rfl, Nat.zero_le _, h, Nat.le_refl _, ?_, ?_, ?_⟩⟩
  · unfold maxLen; exact hl
  · simp
  · simp only [Nat.mul_one]
    exact List.take_of_length_le (by simp)

theorem ofNat_toNat (n : Nat) : ((UInt8.ofNat (n % 256)).toNat : Int) = ((n % 256 : Nat) : Int) := by
  rw [UInt8.toNat_ofNat']; simp

theorem low_byte (x i : Nat) (hi : i < 8) : IntKind.u8.wrap (Int.fdiv (x : Int) (2 ^ (min ((IntKind.i64.wrap ((8 : Int) * (i : Int)))).toNat IntKind.u64.bits))) = ((UInt8.ofNat (x / 256 ^ i % 256)).toNat : Int) := by
  have h1 : IntKind.i64.wrap ((8 : Int) * (i : Int)) = ((8 * i : Nat) : Int) := by rw [IntWalk.i64_in _ (by omega)]; omega
  have h2 : min (8 * i) IntKind.u64.bits = 8 * i := by
    have : IntKind.u64.bits = 64 := rfl
    omega
  rw [h1, Int.toNat_natCast, h2, ofNat_toNat]
  have h3 : ((2 : Int) ^ (8 * i)) = ((256 ^ i : Nat) : Int) := by
    rw [Int.pow_mul]; simp
  rw [h3]
  have h4 : Int.fdiv (x : Int) ((256 ^ i : Nat) : Int) = ((x / 256 ^ i : Nat) : Int) := by
    rw [Int.fdiv_eq_ediv_of_nonneg _ (Int.natCast_nonneg _)]; exact (Int.natCast_ediv _ _).symm
  rw [h4, IntKind.wrap_u8]
  omega

/-- 'b := make([]byte, k); for i := range b { b[i] = byte(x >> (8*i)) }'. -/
theorem low_loop {P : Program} {t : TypeId} {by_ : Nat} (hT : SlT P t 5 (.int .u8 0) 1 by_) (hby : by_ = 1) (x k : Nat) (hk : k ≤ 8) {w : World} {A : Option Addr → Nat → Nat → World → Prop}
    (hA : ∀ w2 g, Chg w w2 [] → w2.heap[g]? = some (.cells ((leB k x).map byteV).toArray 5 (0, 0)) → w.heap.size ≤ g → A (some ⟨g, 0, none⟩) k k w2) :
    rnS P (Instr.makeSlice t (.int .i64 (k : Int)) (.int .i64 (k : Int))) w fun e1 w1 => ∃ (a1 : Option Addr) (l1 c1 : Nat), e1 = (.slice a1 l1 c1) ∧
      ∃ I1 : Int → World → Nat → Prop, (∃ m1, I1 (0 : Int) w1 m1) ∧ ∀ (w2 : World) (m1 : Nat) (n3 : Int), I1 n3 w2 m1 → ∀ _ : Nat → Value,
        cond (decide (n3 < ((l1 : Nat) : Int)))
          (0 ≤ (IntKind.i64.wrap ((8 : Int) * n3)) ∧ onSome a1 fun q1 => 0 ≤ n3 ∧ n3 < ((l1 : Nat) : Int) ∧
            stK w2 (Addr.add q1 ((n3).toNat * 1)) (.int .u8 (IntKind.u8.wrap (Int.fdiv (x : Int) (2 ^ (min ((IntKind.i64.wrap ((8 : Int) * n3))).toNat IntKind.u64.bits))))) fun w3 =>
            ∃ m2, m2 < m1 ∧ I1 (IntKind.i64.wrap (n3 + (1 : Int))) w3 m2)
          (A a1 l1 c1 w2) := by
  subst hby
  refine make_c hT rfl (by omega) (by omega) (by omega) ⟨_, _, _, rfl, ?_⟩
  obtain ⟨g, hg⟩ : ∃ g, w.heap.size = g := ⟨_, rfl⟩
  rw [hg, Int.toNat_natCast]
  refine ⟨fun n3 w2 m => ∃ i : Nat, n3 = (i : Int) ∧ i ≤ k ∧ m = k - i ∧ Chg w w2 [] ∧ w2.heap[g]? = some (.cells (((leB i x).map byteV) ++ List.replicate (k - i) (Value.int .u8 0)).toArray 5 (0, 0)),
    ⟨k, 0, rfl, by omega, by omega, Chg.new _ _ _, by rw [heap_new, if_pos hg.symm]; simp [leB]⟩, ?_⟩
  rintro w2 m n3 ⟨i, rfl, hi, rfl, hc, hgg⟩ -
  by_cases hlt : i < k
  · refine cT (decide_eq_true (by omega)) ⟨?_, by omega, by omega, ?_⟩
    · rw [IntWalk.i64_in _ (by omega)]; omega
    · rw [Int.toNat_natCast, addA, Nat.mul_one]
      refine stK_mk hgg (by simp [leB_length]; omega) rfl ⟨k - (i + 1), by omega, i + 1, ?_, by omega, rfl, ?_, ?_⟩
      · rw [IntWalk.i64_in _ (by omega)]; omega
      · refine hc.trans (Chg.set w2 g i _ (F := [g]) (by simp)) (fun j hj => .inr (by simp at hj; omega))
      · rw [heap_set, if_pos rfl, hgg, setO_cells, low_byte x i (by omega), leB_snoc]
        congr 2
        rw [List.setIfInBounds_toArray]
        congr 1
        rw [List.set_append_right _ _ (by simp [leB_length])]
        rw [show k - i = (k - (i + 1)) + 1 by omega, List.replicate_succ]
        simp [leB_length, byteV]
  · obtain rfl : i = k := by omega
    refine cF (decide_eq_false (by omega)) (hA w2 g hc ?_ (by omega))
    rw [hgg]; simp

/-- 'string([]byte{b})'. -/
theorem onebyte_c {P : Program} {w : World} {t dst : TypeId} (ht : P.underlying t = some (.slice 5)) (he : P.underlying 5 = some (.int .u8)) (hd : P.underlying dst = some .string) {n : Int} {b : UInt8} (hn : n = (b.toNat : Int))
    {K : Value → World → Prop} (k : K (.string ⟨#[b]⟩) (w.alloc (.cells #[.int .u8 n] 5))) :
    rnS P (convert t dst (.slice (some ⟨w.heap.size, 0, none⟩) 1 1)) (w.alloc (.cells #[.int .u8 n] 5)) K := by
  subst hn
  have own : (w.alloc (.cells #[.int .u8 (b.toNat : Int)] 5)).ownsRow 0 5 1 (.slice (some ⟨w.heap.size, 0, none⟩) [b].length [b].length) [b].length ([b].map byteV) :=
    own_block (l := [b]) (by rw [heap_new, if_pos rfl]; rfl) (by simp)
  exact tostr_c ht he hd own k

/-! A slice that is owned. -/
def rowA (e : TypeId) (sz : Nat) (v : Value) (n : Nat) (xs : List Value) : Asn where
  p w F := w.ownsRow 0 e sz v n xs ∧ F = v.ownBlock.toList
  loc := fun ⟨h, he⟩ hc hd => ⟨ownsRow_chg h hc fun k hk => hd k (by rw [he]; simp [hk]), he⟩
  lt := fun ⟨h, he⟩ k hk => by subst he; simp at hk; exact (h.lt k hk).2

theorem St.nilRow {w0 w : World} {A : Asn} (h : St w0 w A) (e : TypeId) (sz : Nat) : St w0 w (star A (rowA e sz (.slice none 0 0) 0 [])) :=
  h.add (Chg.refl _ _) (B := rowA e sz _ 0 []) (G := []) ⟨⟨by simp, .inl ⟨rfl, rfl⟩⟩, rfl⟩ (by simp)

theorem app_st {P : Program} {w0 w : World} {B : Asn} {t ty e : TypeId} {z : Value} {sz by_ : Nat} (hT : SlT P t e z sz by_) {v : Value} {n : Nat} {xs : List Value} (h : St w0 w (star (rowA e sz v n xs) B))
    {a : Addr} {m c : Nat} {news : List Value} (hl : news.length = m * sz) (hnews : ∀ j u, news[j]? = some u → w.cell? (a.add j) = some u) (h1 : ∀ u ∈ news, u.oneCell' = true)
    (hb : (n + m) * by_ ≤ 140737488355328) (hm : n + m ≤ 9223372036854775807) {K : Value → World → Prop}
    (k : ∀ v' w', St w0 w' (star (rowA e sz v' (n + m) (xs ++ news)) B) → K v' w') : rnS P (Builtin.append_ #[t, t] ty #[v, .slice (some a) m c]) w K := by
  obtain ⟨F, ⟨own, rfl⟩, use⟩ := h.use
  refine append_c hT own hl hnews h1 hb hm fun v' w' own' hc hn => k v' w' (use w' (rowA e sz v' (n + m) (xs ++ news)) ⟨_, ⟨own', rfl⟩, hc, fun j hj => ?_⟩)
  rcases hn j (by simpa using hj) with h' | h'
  · exact .inl (by simp [h'])
  · exact .inr h'

/-- 'append(s, x)': x's cells are laid in a new block first. -/
theorem app1_st {P : Program} {w0 w : World} {B : Asn} {t ty e : TypeId} {z : Value} {sz by_ : Nat} (hT : SlT P t e z sz by_) {v : Value} {n : Nat} {xs : List Value} (h : St w0 w (star (rowA e sz v n xs) B))
    {news : List Value} (hl : news.length = sz) (h1 : ∀ u ∈ news, u.oneCell' = true) (hb : (n + 1) * by_ ≤ 140737488355328) (hm : n + 1 ≤ 9223372036854775807) {R : Option Addr → Nat → Nat → World → Prop}
    (k : ∀ a c w', St w0 w' (star (rowA e sz (.slice a (n + 1) c) (n + 1) (xs ++ news)) B) → R a (n + 1) c w') {cs : Array Value} (hcs : cs = news.toArray) :
    newK w (.cells cs e) fun r w1 => rnS P (Builtin.append_ #[t, t] ty #[v, .slice (some ⟨r, 0, none⟩) 1 1]) w1 fun e w2 => ∃ a l c, e = .slice a l c ∧ R a l c w2 := by
  subst hcs
  refine newK_mk ?_
  have h' : St w0 (w.alloc (.cells news.toArray e)) (star (rowA e sz v n xs) B) := h.quiet (Chg.new _ _ _)
  refine app_st hT h' (m := 1) (news := news) (by omega) (fun j u hj => ?_) h1 hb hm fun v' w' h'' => ?_
  · rw [addA, cell_blk, heap_new, if_pos rfl, getC_cells]; simpa using hj
  · obtain ⟨F, ⟨own, _⟩, _⟩ := h''.use
    obtain ⟨a, c, rfl⟩ := own_slice own
    exact ⟨a, _, c, rfl, k a c w' h''⟩

theorem tostr_st {P : Program} {w0 w : World} {B : Asn} {t e dst : TypeId} (ht : P.underlying t = some (.slice e)) (he : P.underlying e = some (.int .u8)) (hd : P.underlying dst = some .string)
    {v : Value} {l : List UInt8} {e' : TypeId} (h : St w0 w (star (rowA e' 1 v l.length (l.map byteV)) B)) {K : Value → World → Prop} (k : K (.string ⟨l.toArray⟩) w) : rnS P (convert t dst v) w K := by
  obtain ⟨F, ⟨own, _⟩, _⟩ := h.use
  exact tostr_c ht he hd own k

theorem St.rowOf {w0 w : World} {B : Asn} {e : TypeId} {sz n : Nat} {v : Value} {xs : List Value} (h : St w0 w (star (rowA e sz v n xs) B)) : w.ownsRow 0 e sz v n xs := by
  obtain ⟨F, ⟨own, _⟩, _⟩ := h.use
  exact own

/-! An object that is owned whole. -/
def objA (b : Nat) (o : Obj) : Asn where
  p w F := w.heap[b]? = some o ∧ F = [b]
  loc := fun ⟨h, he⟩ hc hd => ⟨hc.keep h (hd b (by rw [he]; simp)), he⟩
  lt := fun ⟨h, he⟩ k hk => by subst he; simp at hk; subst hk; exact lt_of_heap h

theorem Chg.put (w : World) (b : Nat) (o : Obj) {F : List Nat} (h : b ∈ F) : Chg w (w.putObj b o) F :=
  ⟨by simp [World.putObj], fun i _ hn => World.putObj_heap_other (fun e => hn (e ▸ h)), ⟨rfl, rfl, rfl⟩⟩

theorem St.obj {w0 w : World} {B : Asn} {b : Nat} {o : Obj} (h : St w0 w (star (objA b o) B)) : w.heap[b]? = some o := by
  obtain ⟨F, ⟨ho, _⟩, _⟩ := h.use
  exact ho

theorem St.put {w0 w : World} {B : Asn} {b : Nat} {o : Obj} (h : St w0 w (star (objA b o) B)) (o' : Obj) : St w0 (w.putObj b o') (star (objA b o') B) := by
  obtain ⟨F, ⟨ho, rfl⟩, use⟩ := h.use
  exact use _ (objA b o') ⟨[b], ⟨World.putObj_heap_same (lt_of_heap ho), rfl⟩, Chg.put w b o' (by simp), fun j hj => .inl hj⟩

theorem St.newObj {w0 w : World} {A : Asn} (h : St w0 w A) (o : Obj) : St w0 (w.alloc o) (star A (objA w.heap.size o)) :=
  h.add (Chg.new _ _ _) (B := objA w.heap.size o) (G := [w.heap.size]) ⟨by rw [heap_new, if_pos rfl], rfl⟩ (by simp)

/-! The hash. -/
def hashStep (h : Nat) (b : UInt8) : Nat := (h ^^^ b.toNat) * 1099511628211 % 18446744073709551616
def hashM (l : List UInt8) : Nat := l.foldl hashStep 14695981039346656037

theorem hashStep_lt (h : Nat) (b : UInt8) : hashStep h b < 18446744073709551616 := Nat.mod_lt _ (by decide)

theorem hash_step (h : Nat) (hh : h < 18446744073709551616) (b : UInt8) :
    IntKind.u64.wrap ((xorI .u64 (h : Int) (IntKind.u64.wrap (b.toNat : Int))) * (1099511628211 : Int)) = ((hashStep h b : Nat) : Int) := by
  have hb := b.toNat_lt
  have h1 : IntKind.u64.wrap (b.toNat : Int) = (b.toNat : Int) := IntWalk.u64_in _ (by omega)
  have h2 : xorI .u64 (h : Int) (b.toNat : Int) = ((h ^^^ b.toNat : Nat) : Int) := by
    show IntKind.u64.wrap (((BitVec.ofInt 64 (h : Int) ^^^ BitVec.ofInt 64 (b.toNat : Int)).toNat : Nat) : Int) = _
    have h3 : (BitVec.ofInt 64 (h : Int) ^^^ BitVec.ofInt 64 (b.toNat : Int)).toNat = h ^^^ b.toNat := by
      rw [BitVec.toNat_xor, BitVec.toNat_ofInt, BitVec.toNat_ofInt]
      have e1 : ((h : Int) % ((2 ^ 64 : Nat) : Int)).toNat = h := by omega
      have e2 : ((b.toNat : Int) % ((2 ^ 64 : Nat) : Int)).toNat = b.toNat := by omega
      rw [e1, e2]
    rw [h3]
    have h4 : h ^^^ b.toNat < 2 ^ 64 := Nat.xor_lt_two_pow (by omega) (by omega)
    exact IntWalk.u64_in _ (by omega)
  rw [h1, h2, IntKind.wrap_u64]
  unfold hashStep
  omega

end Go.Vc

import Derived.Test.YtbjbfppaghfpcaaMd3
namespace Go.Proofs.Ytbjbfppaghfpcaa
open Go Go.Vc

theorem xor_u8 (a m : UInt8) : xorI .u8 (a.toNat : Int) (m.toNat : Int) = ((a ^^^ m).toNat : Int) := by
  have h : ∀ c : UInt8, BitVec.ofInt 8 (c.toNat : Int) = c.toBitVec := fun c => by
    apply BitVec.eq_of_toNat_eq
    simp
  show IntKind.u8.wrap (((BitVec.ofInt 8 (a.toNat : Int) ^^^ BitVec.ofInt 8 (m.toNat : Int)).toNat : Nat) : Int) = _
  rw [h, h]
  have h2 : (a.toBitVec ^^^ m.toBitVec).toNat = (a ^^^ m).toNat := rfl
  rw [h2]
  have := (a ^^^ m).toNat_lt
  exact IntWalk.u8_in _ (by omega)

theorem flip_calls {w : World} {x : Nat} {s : MS} {F : List Nat} (h : Med w x s F) (n : Int) (m : UInt8) :
    Calls Try.prog 24 #[.pointer (some ⟨x, 0, none⟩), .int .i64 n, .int .u8 (m.toNat : Int)] w (RetC fun r w' => r = .int .i64 (s.flip n m).1 ∧ MedTo w w' x (s.flip n m).2 F) := by
  obtain ⟨v, hv, rfl⟩ := h
  refine mFlip_ok ?_
  unfold mFlip
  obtain ⟨a, cp, hve⟩ := own_slice hv.own
  refine ⟨fun b w' => w' = w ∧ b = decide (n < 0 ∨ (s.b.length : Int) ≤ n), ?_, ?_⟩
  · rintro w1 b ⟨rfl, rfl⟩ -
    by_cases hbad : n < 0 ∨ (s.b.length : Int) ≤ n
    · have : s.flip n m = (4, s) := by unfold MS.flip; rw [if_pos hbad]
      rw [this, decide_eq_true hbad]
      exact ⟨rfl, MedTo.refl ⟨v, hv, rfl⟩ (Chg.refl _ _)⟩
    · have : s.flip n m = (0, { s with b := s.b.set n.toNat ((s.b.getD n.toNat 0) ^^^ m) }) := by unfold MS.flip; rw [if_neg hbad]
      rw [this, decide_eq_false hbad, cond_false]
      have hpos : 0 < s.b.length := by omega
      have hn : n.toNat < s.b.length := by omega
      obtain ⟨_, hown, hcap⟩ := own_cell hv.own hve
      obtain ⟨g, cur, rfl, hg, hh, hle, htake⟩ := hown hpos
      have hgx : g ≠ x := fun e => hv.ne (by rw [hg, e])
      refine ⟨some ⟨g, 0, none⟩, _, cp, by rw [← hve]; exact med_cell hv 1, ?_⟩
      have hadd : Addr.add ⟨g, 0, none⟩ (n.toNat * 1) = ⟨g, n.toNat, none⟩ := by rw [Nat.mul_one, addA]
      show 0 ≤ n ∧ _
      rw [hadd]
      have hc : cur[n.toNat]? = some (byteV (s.b.getD n.toNat 0)) := by
        have h2 : (cur.toList.take s.b.length)[n.toNat]? = (s.b.map byteV)[n.toNat]? := by rw [htake]
        rw [List.getElem?_take, if_pos hn, Array.getElem?_toList] at h2
        rw [h2]
        simp [hn]
      refine ⟨by omega, by omega, _, by rw [cell_blk, hh, getC_cells, hc]; rfl, ?_⟩
      show 0 ≤ n ∧ _
      rw [hadd]
      refine ⟨by omega, by omega, stK_mk hh (by omega) rfl ⟨rfl, ?_⟩⟩
      rw [xor_u8]
      have hx1 : ∀ u, (w1.setCell ⟨g, n.toNat, none⟩ u).heap[x]? = w1.heap[x]? := fun u => by rw [heap_set, if_neg hgx]
      refine ⟨_, ⟨v, ⟨?_, ?_, hv.ne⟩, rfl⟩, Chg.set _ _ _ _ (by rw [hg]; simp), fun _ hk => .inl hk⟩
      · rw [hx1, hv.blk]; rfl
      · rcases hv.own.2 with ⟨hv2, _⟩ | ⟨g2, cap2, cur2, hv2, hb2, hg2, h1, h2, h3, h4⟩
        · rw [hve] at hv2; cases hv2
        · rw [hve] at hv2
          cases hv2
          rw [hh] at hg2
          cases hg2
          rw [hve]
          refine ⟨by simp, .inr ⟨g, cp, cur.setIfInBounds n.toNat (byteV (s.b.getD n.toNat 0 ^^^ m)), by simp, Nat.zero_le _, ?_, by simpa using h1, h2, by simpa using h3, ?_⟩⟩
          · rw [heap_set, if_pos rfl, hh]; rfl
          · rw [Nat.mul_one] at h4 ⊢
            simp only [Array.toList_setIfInBounds, List.length_set, List.map_set]
            rw [List.take_set, h4]
  · by_cases hneg : n < 0
    · rw [decide_eq_true hneg]
      exact ⟨rfl, (decide_eq_true (Or.inl hneg)).symm⟩
    · rw [decide_eq_false hneg]
      refine ⟨a, s.b.length, cp, by rw [← hve]; exact med_cell hv 1, rfl, ?_⟩
      rw [decide_eq_decide]
      omega

theorem copy_calls {w : World} {x : Nat} {s : MS} {F : List Nat} (h : Med w x s F) (ho : s.Ok) :
    Calls Try.prog 21 #[.pointer (some ⟨x, 0, none⟩)] w (RetC fun r w' => ∃ y F', r = .pointer (some ⟨y, 0, none⟩) ∧ Med w' y s F' ∧ Chg w w' [] ∧ ∀ k ∈ F', w.heap.size ≤ k) := by
  obtain ⟨v, hv, rfl⟩ := h
  refine mCopy_ok ?_
  unfold mCopy
  have s1 := ho.s1
  have s2 := ho.s2
  have hx := lt_of_heap hv.blk
  obtain ⟨a, cp, hve⟩ := own_slice hv.own
  have hcells := med_cell hv
  refine ⟨s.size, a, s.b.length, cp, (s.dur : Int), s.down, s.left.isSome, ((s.left.getD 0 : Nat) : Int), ⟨by rw [show (⟨x, 0, none⟩ : Addr).add 0 = ⟨x, 0, none⟩ from rfl, hcells]; rfl, by rw [show (⟨x, 0, none⟩ : Addr).add 1 = ⟨x, 1, none⟩ from rfl, hcells, ← hve]; rfl,
    by rw [show (⟨x, 0, none⟩ : Addr).add 2 = ⟨x, 2, none⟩ from rfl, hcells]; rfl, by rw [show (⟨x, 0, none⟩ : Addr).add 3 = ⟨x, 3, none⟩ from rfl, hcells]; rfl,
    by rw [show (⟨x, 0, none⟩ : Addr).add 4 = ⟨x, 4, none⟩ from rfl, hcells]; rfl, by rw [show (⟨x, 0, none⟩ : Addr).add 5 = ⟨x, 5, none⟩ from rfl, hcells]; rfl, trivial⟩, ?_⟩
  refine newK_mk ?_
  generalize hy : w.heap.size = y
  have hyx : y ≠ x := by omega
  refine stL_mk [.int .i64 s.size, .slice a s.b.length cp, .int .i64 (s.dur : Int), .bool s.down, .bool s.left.isSome, .int .i64 ((s.left.getD 0 : Nat) : Int)] 0 _
    #[.int .i64 0, .slice none 0 0, .int .i64 0, .bool false, .bool false, .int .i64 0] (by rw [heap_new, if_pos hy.symm]) (by simp) (by simp [Value.oneCell']) ?_
  intro w7 hy7' hc7' hs7
  have hy7 : w7.heap[y]? = some (.cells (medCells s (.slice a s.b.length cp)) 54 (0, 0)) := hy7'
  have hc7 : Chg w w7 [] := (Chg.new w _ []).trans hc7' (fun j hj => .inr (by simp at hj; omega))
  have hx7 := hc7.keep hv.blk (by simp)
  have own7 := ownsRow_chg hv.own hc7 (by simp)
  refine ⟨a, s.b.length, cp, by rw [cell_blk, hx7, ← hve]; rfl, make_c sl52 rfl (by omega) (by omega) (by omega) ?_⟩
  rw [Int.toNat_natCast]
  generalize hg : w7.heap.size = g
  generalize hw8 : w7.alloc (.cells (Array.replicate s.b.length (.int .u8 0)) 5) = w8
  have hg8 : w8.heap[g]? = some (.cells (Array.replicate s.b.length (.int .u8 0)) 5 (0, 0)) := by rw [← hw8, heap_new, if_pos hg.symm]
  have hsz7 := hc7.size
  have hy7l := lt_of_heap hy7
  have hy8 : w8.heap[y]? = some (.cells (medCells s (.slice a s.b.length cp)) 54 (0, 0)) := by rw [← hw8, heap_new, if_neg (by omega)]; exact hy7
  have hc8 : Chg w w8 [] := by rw [← hw8]; exact hc7.trans (Chg.new _ _ []) (by simp)
  have hgy : g ≠ y := by omega
  have hgx : g ≠ x := by omega
  refine ⟨_, _, _, rfl, stK_mk hy8 (by simp [medCells]) rfl ?_⟩
  generalize hw9 : w8.setCell ⟨y, 1, none⟩ (.slice (some ⟨g, 0, none⟩) s.b.length s.b.length) = w9
  have hy9 : w9.heap[y]? = some (.cells (medCells s (.slice (some ⟨g, 0, none⟩) s.b.length s.b.length)) 54 (0, 0)) := by rw [← hw9, heap_set, if_pos rfl, hy8]; rfl
  have hg9 : w9.heap[g]? = some (.cells (Array.replicate s.b.length (.int .u8 0)) 5 (0, 0)) := by rw [← hw9, heap_set, if_neg hgy.symm]; exact hg8
  have hc9 : Chg w w9 [] := by rw [← hw9]; exact hc8.trans (Chg.set _ _ _ _ (F := [y]) (by simp)) (fun j hj => .inr (by simp at hj; omega))
  have hx9 := hc9.keep hv.blk (by simp)
  have own9 := ownsRow_chg hv.own hc9 (by simp)
  have own9d : w9.drew.ownsRow 0 5 1 v s.b.length (s.b.map byteV) := own9
  refine ⟨some ⟨g, 0, none⟩, s.b.length, s.b.length, by rw [cell_blk, heap_drew, hy9]; rfl, a, s.b.length, cp, by rw [cell_blk, heap_drew, hx9, ← hve]; rfl, ?_⟩
  refine copy_c sl52 (w := w9.drew) (g := g) hg9 (cs := s.b.map byteV) (by simp) (by simp) (fun hpos => ?_) (bytes_one _) ?_
  · obtain ⟨g0, rfl, _, hc⟩ := own_cells_at own9d hve (by simpa using hpos)
    refine ⟨_, rfl, fun j u hj => ?_⟩
    rw [addA]
    exact hc j u hj
  · intro w10 hg10 hc10
    have hy10 := hc10.keep (b := y) hy9 (by simpa using hgy.symm)
    refine ⟨y, [y, g], rfl, ⟨.slice (some ⟨g, 0, none⟩) s.b.length s.b.length, ⟨hy10, ?_, by simp [Value.ownBlock]; omega⟩, by simp [Value.ownBlock]⟩, ?_, ?_⟩
    · refine ⟨by simp, .inr ⟨g, s.b.length, _, rfl, Nat.zero_le _, hg10, Nat.le_refl _, by unfold maxLen; omega, by simp, ?_⟩⟩
      simp
      exact List.take_of_length_le (by simp)
    · exact ((hc9.trans (Chg.drew w9 []) (by simp)).trans hc10 (fun j hj => .inr (by simp at hj; omega)))
    · intro k hk
      simp at hk
      omega

theorem new_calls (w : World) (n : Int) :
    Calls Try.prog 10 #[.int .i64 n] w (RetC fun r w' => if n < 1 ∨ 262144 < n then r = .tuple #[.pointer none, .int .i64 4] ∧ w' = w else
      ∃ y, r = .tuple #[.pointer (some ⟨y, 0, none⟩), .int .i64 0] ∧ Med w' y ⟨n, [], 0, false, none⟩ [y] ∧ Chg w w' [] ∧ w.heap.size ≤ y) := by
  refine mNew_ok ?_
  unfold mNew
  refine ⟨fun b w' => w' = w ∧ b = decide (n < 1 ∨ 262144 < n), ?_, ?_⟩
  · rintro w1 b ⟨rfl, rfl⟩ -
    by_cases hbad : n < 1 ∨ 262144 < n
    · rw [decide_eq_true hbad, cond_true]
      dsimp only
      rw [if_pos hbad]
      exact ⟨rfl, rfl⟩
    · rw [decide_eq_false hbad, cond_false]
      refine newK_mk ?_
      dsimp only
      rw [if_neg hbad]
      refine ⟨w1.heap.size, rfl, ⟨.slice none 0 0, ⟨?_, World.ownsRow_nil _ _ _ _, by simp [Value.ownBlock]⟩, by simp [Value.ownBlock]⟩, Chg.new _ _ _, Nat.le_refl _⟩
      rw [heap_new, if_pos rfl]
      rfl
  · by_cases h1 : n < 1
    · rw [decide_eq_true h1]; exact ⟨rfl, (decide_eq_true (Or.inl h1)).symm⟩
    · rw [decide_eq_false h1]
      refine ⟨rfl, ?_⟩
      rw [decide_eq_decide]
      omega

end Go.Proofs.Ytbjbfppaghfpcaa

import Derived.Test.YtniehglfkacjjaaDoorjMd1
namespace Go.Proofs.YtniehglfkacjjaaDoor
open Go Go.Vc

theorem MedTo.set {w w0 : World} {x : Nat} {s s' : MS} {v u : Value} {i : Nat} {F : List Nat} (h0 : MedTo w0 w x s F) (h : MedV w x s v) (hc : (medCells s v).setIfInBounds i u = medCells s' v) (hb : s'.b = s.b) :
    MedTo w0 (w.setCell ⟨x, i, none⟩ u) x s' F := by
  refine h0.trans fun F' hF' => ?_
  obtain ⟨v2, hv2, rfl⟩ := hF'
  have : v2 = v := by
    have h1 := hv2.blk.symm.trans h.blk
    simp [medCells] at h1
    exact h1
  subst this
  exact ⟨_, ⟨v2, medV_set h hc hb, rfl⟩, Chg.set _ _ _ _ (by simp), fun _ hk => .inl hk⟩

theorem medTo_of {w w' : World} {x : Nat} {s s' : MS} {v : Value} (_h : MedV w x s v) (h' : MedV w' x s' v) (hc : Chg w w' [x]) : MedTo w w' x s' (x :: v.ownBlock.toList) :=
  ⟨_, ⟨v, h', rfl⟩, hc.mono (by simp), fun _ hk => .inl hk⟩

theorem sync_calls {w : World} {x : Nat} {s : MS} {F : List Nat} (h : Med w x s F) (ho : s.Ok) :
    Calls Tryd.prog 37 #[.pointer (some ⟨x, 0, none⟩)] w (RetC fun r w' => r = .int .i64 s.syn.1 ∧ MedTo w w' x s.syn.2 F) := by
  obtain ⟨v, hv, rfl⟩ := h
  refine mSync_ok ?_
  unfold mSync
  refine useC (state_c hv) ?_
  rintro _ w1 ⟨rfl, rfl⟩
  refine ⟨_, rfl, ?_⟩
  cases hd : s.down with
  | true =>
    have : s.syn = (19, s) := by unfold MS.syn; rw [if_pos hd]
    rw [this]
    exact ⟨rfl, MedTo.refl ⟨v, hv, rfl⟩ (Chg.refl _ _)⟩
  | false =>
    show cond ((0 : Int) != 0) _ _
    refine stepIs_c hv ho (fun r w3 hh => ⟨_, rfl, hh⟩) ?_
    intro r w3 hM3 hc3
    refine ⟨_, rfl, ?_⟩
    cases hst : s.stp.1 with
    | false =>
      have : s.syn = (19, s.stp.2) := by unfold MS.syn; rw [if_neg (by rw [hd]; decide), if_neg (by rw [hst]; decide)]
      rw [this]
      exact ⟨rfl, medTo_of hv hM3 hc3⟩
    | true =>
      have : s.syn = (0, { s.stp.2 with dur := s.b.length }) := by unfold MS.syn; rw [if_neg (by rw [hd]; decide), if_pos hst]
      rw [this]
      show cond false _ _
      obtain ⟨a', cp', hve'⟩ := own_slice hM3.own
      have hb := MS.stp_b s
      refine ⟨a', _, cp', by rw [← hve']; exact med_cell hM3 1, med_st hM3 (by omega) rfl ⟨rfl, ?_⟩⟩
      refine medTo_of hv (medV_set hM3 (by rw [hb.1]; rfl) rfl) (hc3.trans (Chg.set _ _ _ _ (F := [x]) (by simp)) (fun i hi => .inl hi))

theorem own_cells_at {w : World} {base : Nat} {e : TypeId} {v : Value} {n : Nat} {xs : List Value} (own : w.ownsRow base e 1 v n xs) {a : Option Addr} {l c : Nat} (hv : v = .slice a l c) (h0 : 0 < n) :
    ∃ g, a = some ⟨g, 0, none⟩ ∧ v.ownBlock = some g ∧ ∀ j u, xs[j]? = some u → w.cell? ⟨g, j, none⟩ = some u := by
  obtain ⟨_, h, _⟩ := own_cell own hv
  obtain ⟨g, cur, ha, hg, hh, hle, ht⟩ := h h0
  refine ⟨g, ha, hg, fun j u hj => ?_⟩
  rw [cell_blk, hh, getC_cells, ← Array.getElem?_toList]
  rw [← ht, List.getElem?_take] at hj
  split at hj
  · exact hj
  · cases hj

theorem bytes_one (l : List UInt8) : ∀ u ∈ l.map byteV, u.oneCell' = true := by
  intro u hu
  obtain ⟨b, _, rfl⟩ := List.mem_map.1 hu
  rfl

theorem cut_calls {w : World} {x : Nat} {s : MS} {F : List Nat} (h : Med w x s F) (ho : s.Ok) {n : Int} (h0 : 0 ≤ n) (hn : n ≤ s.b.length) :
    Calls Tryd.prog 41 #[.pointer (some ⟨x, 0, none⟩), .int .i64 n] w (RetC fun r w' => r = .tuple #[] ∧ MedTo w w' x (s.cut n.toNat) F) := by
  obtain ⟨v, hv, rfl⟩ := h
  refine mcut_ok ?_
  unfold mcut
  have s1 := ho.s1
  have s2 := ho.s2
  have hx := lt_of_heap hv.blk
  refine make_c sl52 rfl h0 (by omega) (by omega) ?_
  generalize hg : w.heap.size = g
  generalize hw1 : w.alloc (.cells (Array.replicate n.toNat (.int .u8 0)) 5) = w1
  have hg1 : w1.heap[g]? = some (.cells (Array.replicate n.toNat (.int .u8 0)) 5 (0, 0)) := by rw [← hw1, heap_new, if_pos hg.symm]
  have hx1 : w1.heap[x]? = some (.cells (medCells s v) 61 (0, 0)) := by rw [← hw1, heap_new, if_neg (by omega)]; exact hv.blk
  have hc1 : Chg w w1 [] := by rw [← hw1]; exact Chg.new _ _ _
  have own1 := ownsRow_chg hv.own hc1 (by simp)
  obtain ⟨a, cp, hve⟩ := own_slice own1
  have hgx : g ≠ x := by omega
  refine ⟨_, _, _, rfl, a, s.b.length, cp, by rw [cell_blk, hx1, getC_cells, ← hve]; rfl, ?_⟩
  have hlen : ((s.b.take n.toNat).map byteV).length = n.toNat := by simp; omega
  refine copy_c sl52 hg1 (cs := (s.b.take n.toNat).map byteV) (by rw [hlen]; show _ = min _ _; omega) (by simp) (fun hpos => ?_) (bytes_one _) ?_
  · rw [hlen] at hpos
    obtain ⟨g0, rfl, _, hc⟩ := own_cells_at own1 hve (by omega)
    refine ⟨_, rfl, fun j u hj => ?_⟩
    have : (⟨g0, 0, none⟩ : Addr).add j = ⟨g0, j, none⟩ := by unfold Addr.add; split <;> simp_all
    rw [this]
    refine hc j u ?_
    rw [List.map_take] at hj
    rw [List.getElem?_take] at hj
    split at hj
    · exact hj
    · cases hj
  · intro w2 hg2 hc2
    rw [hlen] at hg2
    have hx2 := hc2.keep hx1 (by simpa using hgx.symm)
    refine ⟨(s.dur : Int), by rw [cell_blk, hx2]; rfl, stK_mk hx2 (by simp [medCells]) rfl ?_⟩
    have hx3 : (w2.setCell ⟨x, 1, none⟩ (.slice (some ⟨g, 0, none⟩) n.toNat n.toNat)).heap[x]? = some (.cells (medCells s (.slice (some ⟨g, 0, none⟩) n.toNat n.toNat)) 61 (0, 0)) := by
      rw [heap_set, if_pos rfl, hx2]; rfl
    refine stK_mk hx3 (by simp [medCells]) rfl ⟨rfl, ?_⟩
    refine ⟨_, ⟨.slice (some ⟨g, 0, none⟩) n.toNat n.toNat, ⟨?_, ?_, ?_⟩, rfl⟩, ?_, ?_⟩
    · rw [heap_set, if_pos rfl, hx3]
      have : (if n < (s.dur : Int) then n else (s.dur : Int)) = ((min s.dur n.toNat : Nat) : Int) := by split <;> omega
      rw [this]
      rfl
    · refine ⟨by simp [MS.cut], .inr ⟨g, n.toNat, ((s.b.take n.toNat).map byteV ++ (Array.replicate n.toNat (Value.int .u8 0)).toList.drop n.toNat).toArray, ?_, Nat.zero_le _, ?_, ?_, ?_, ?_, ?_⟩⟩
      · simp [MS.cut]; omega
      · rw [heap_set, if_neg hgx.symm, heap_set, if_neg hgx.symm, hg2]
      · simp [MS.cut]; omega
      · unfold maxLen; omega
      · simp; omega
      · have h1 : (s.cut n.toNat).b.length = n.toNat := by simp [MS.cut]; omega
        rw [h1, Nat.mul_one]
        have h2 : (s.cut n.toNat).b = s.b.take n.toNat := rfl
        rw [h2]
        exact List.take_left' hlen
    · simp [Value.ownBlock]; omega
    · refine ⟨?_, fun i hi hn => ?_, (hc1.env.trans hc2.env).trans ((Env.set _ _ _).trans (Env.set _ _ _))⟩
      · have := hc1.size
        have := hc2.size
        simp; omega
      · have hix : x ≠ i := fun e => hn (by simp [e])
        rw [heap_set, if_neg hix, heap_set, if_neg hix, hc2.same i (by have := hc1.size; omega) (by simp; omega), hc1.same i hi (by simp)]
    · intro k hk
      simp [Value.ownBlock] at hk
      rcases hk with rfl | rfl
      · exact .inl (by simp)
      · exact .inr (by omega)

end Go.Proofs.YtniehglfkacjjaaDoor

import Derived.Test.YtdpcgfcabikjmaaGreatDoorr5M
import Derived.Test.YtdpcgfcabikjmaaGreatDoorr5G
import Derived.Test.YtdpcgfcabikjmaaGreatDoorr5Shlawm
namespace Go.Proofs.YtdpcgfcabikjmaaGreatDoor
open Go Go.Vc Go.Sort Go.RowKit
set_option maxRecDepth 100000

structure Sm.Le (s : Sm) (N : Nat) : Prop where
  l1 : s.ps.length ≤ N
  l2 : s.bds.length ≤ N
  l3 : s.rer.length ≤ N
  pt : ∀ b ∈ s.bds, b.pts.length ≤ N

theorem Sm.Few.le {s : Sm} (h : s.Few) : s.Le 40 := ⟨h.l1, h.l2, h.l3, h.pt⟩
theorem Sm.Le.mid {s : Sm} {N : Nat} (h : s.Le N) (hN : N ≤ 1000) : s.Mid := ⟨Nat.le_trans h.l1 hN, Nat.le_trans h.l2 hN, Nat.le_trans h.l3 hN, fun b hb => Nat.le_trans (h.pt b hb) hN⟩

theorem zip_mem {α : Type} {f : α → α → α} {z : α} : ∀ {l m : List α}, z ∈ List.zipWith f l m → ∃ x ∈ l, ∃ y ∈ m, z = f x y
  | [], _, h => by simp at h
  | _ :: _, [], h => by simp at h
  | x :: l, y :: m, h => by
    rcases List.mem_cons.1 (by simpa using h) with h | h
    · exact ⟨x, List.mem_cons_self .., y, List.mem_cons_self .., h⟩
    · obtain ⟨x', hx, y', hy, he⟩ := zip_mem h
      exact ⟨x', List.mem_cons_of_mem _ hx, y', List.mem_cons_of_mem _ hy, he⟩

theorem mg_le {a b s : Sm} {N M : Nat} (ha : a.Le N) (hb : b.Le M) (e : s.ab = (mg a.ab b.ab).1) : s.Le (N + M) := by
  obtain ⟨a1, a2, a3, a4⟩ := ha
  obtain ⟨b1, b2, b3, b4⟩ := hb
  by_cases h : a.ab.nms = b.ab.nms
  · have e' : s.ab = a.ab.pl b.ab := by rw [e]; unfold mg; rw [if_pos h]
    have e1 : s.ps = a.ps ++ b.ps := congrArg AS.ps e'
    have e2 : s.rer = a.rer ++ b.rer := congrArg AS.rer e'
    have e3 : s.bds.map Bd.ab = List.zipWith AB.pl (a.bds.map Bd.ab) (b.bds.map Bd.ab) := congrArg AS.bds e'
    refine ⟨by rw [e1, List.length_append]; omega, ?_, by rw [e2, List.length_append]; omega, fun z hz => ?_⟩
    · have := congrArg List.length e3
      simp at this
      omega
    · have hm : z.ab ∈ s.bds.map Bd.ab := List.mem_map.2 ⟨z, hz, rfl⟩
      rw [e3] at hm
      obtain ⟨x, hx, y, hy, he⟩ := zip_mem hm
      obtain ⟨x', hx', rfl⟩ := List.mem_map.1 hx
      obtain ⟨y', hy', rfl⟩ := List.mem_map.1 hy
      have h1 := a4 x' hx'
      have h2 := b4 y' hy'
      have : z.pts = x'.pts ++ y'.pts := congrArg AB.pts he
      rw [this, List.length_append]
      omega
  · have e' : s.ab = AS.zero := by rw [e]; unfold mg; rw [if_neg h]
    have e1 : s.ps = [] := congrArg AS.ps e'
    have e2 : s.rer = [] := congrArg AS.rer e'
    have e3 : s.bds.map Bd.ab = [] := congrArg AS.bds e'
    have e4 : s.bds = [] := by simpa using e3
    refine ⟨by rw [e1]; simp, by rw [e4]; simp, by rw [e2]; simp, by rw [e4]; simp⟩

theorem mg_assoc {a b c : AS} (he : (mg a b).2 = 0) (hf : (mg b c).2 = 0) : (mg (mg a b).1 c).2 = 0 ∧ (mg a (mg b c).1).2 = 0 ∧ (mg (mg a b).1 c).1 = (mg a (mg b c).1).1 := by
  have h1 : a.nms = b.nms := by
    by_cases h : a.nms = b.nms
    · exact h
    · unfold mg at he; rw [if_neg h] at he; cases he
  have h2 : b.nms = c.nms := by
    by_cases h : b.nms = c.nms
    · exact h
    · unfold mg at hf; rw [if_neg h] at hf; cases hf
  have e1 : mg a b = (a.pl b, 0) := by unfold mg; rw [if_pos h1]
  have e2 : mg b c = (b.pl c, 0) := by unfold mg; rw [if_pos h2]
  rw [e1, e2]
  have h3 : (a.pl b).nms = c.nms := by rw [pl_nms h1, h1, h2]
  have h4 : a.nms = (b.pl c).nms := by rw [pl_nms h2, h1]
  have e3 : mg (a.pl b) c = ((a.pl b).pl c, 0) := by unfold mg; rw [if_pos h3]
  have e4 : mg a (b.pl c) = (a.pl (b.pl c), 0) := by unfold mg; rw [if_pos h4]
  rw [e3, e4]
  exact ⟨rfl, rfl, AS.pl_assoc a b c⟩

/-- A new block, filled at once. -/
theorem box_new {w0 w : World} {l : List Asn} (h : St w0 w (Sep l)) {zs : Array Value} {vs : List Value} {T : TypeId} (hn : vs.length = zs.size) (h1 : ∀ v ∈ vs, v.oneCell' = true) {R : Nat → World → Prop}
    (k : ∀ r w', St w0 w' (Sep (boxA r vs.toArray T :: l)) → R r w') : newK w (.cells zs T) fun r w1 => stL ⟨r, 0, none⟩ 0 vs w1 (R r) := by
  refine newK_mk (((St.start w).one.boxL zs T).stLAt 0 rfl vs hn h1 fun w' p' => k _ w' ?_)
  have h2 : St w0 w' (star (boxA w.heap.size vs.toArray T) (star emp (Sep l))) := (h.after p').weak (weak_cat [boxA w.heap.size vs.toArray T, emp] l)
  exact h2.weak (Weak.right weak_emp)

set_option maxHeartbeats 8000000 in
theorem merges_c {w : World} {a b c : Sm} (ha : a.In w) (hb : b.In w) (hc : c.In w) (limA : a.bds.length ≤ 1954687338211) (limB : b.bds.length ≤ 1954687338211) (limC : c.bds.length ≤ 1954687338211) :
    Calls Tryz.prog 4 #[.agg a.val.toArray, .agg b.val.toArray, .agg c.val.toArray] w (RetC fun r w' => r = .bool true ∧ Chg w w' []) := by
  obtain ⟨n1, n2, n3, n4, n5, n6, n7, n8, n9, n10, n11, he_a⟩ := len11 (ha).n11
  have hv_a : a.val.toArray = #[iv n1, iv n2, iv n3, iv n4, iv n5, iv n6, iv n7, iv n8, iv n9, iv n10, iv n11, iv a.ref, .slice a.a1 a.ps.length a.c1, .slice a.a2 a.bds.length a.c2, .slice a.a3 a.rer.length a.c3] := by unfold Sm.val; rw [he_a]; rfl
  have hw_a : ∀ p q, (a.with2 p q).val.toArray = #[iv n1, iv n2, iv n3, iv n4, iv n5, iv n6, iv n7, iv n8, iv n9, iv n10, iv n11, iv a.ref, .slice a.a1 a.ps.length a.c1, .slice p a.bds.length q, .slice a.a3 a.rer.length a.c3] := by intro p q; simp only [Sm.val, Sm.with2, he_a]; rfl
  obtain ⟨m1, m2, m3, m4, m5, m6, m7, m8, m9, m10, m11, he_b⟩ := len11 (hb).n11
  have hv_b : b.val.toArray = #[iv m1, iv m2, iv m3, iv m4, iv m5, iv m6, iv m7, iv m8, iv m9, iv m10, iv m11, iv b.ref, .slice b.a1 b.ps.length b.c1, .slice b.a2 b.bds.length b.c2, .slice b.a3 b.rer.length b.c3] := by unfold Sm.val; rw [he_b]; rfl
  have hw_b : ∀ p q, (b.with2 p q).val.toArray = #[iv m1, iv m2, iv m3, iv m4, iv m5, iv m6, iv m7, iv m8, iv m9, iv m10, iv m11, iv b.ref, .slice b.a1 b.ps.length b.c1, .slice p b.bds.length q, .slice b.a3 b.rer.length b.c3] := by intro p q; simp only [Sm.val, Sm.with2, he_b]; rfl
  obtain ⟨k1, k2, k3, k4, k5, k6, k7, k8, k9, k10, k11, he_c⟩ := len11 (hc).n11
  have hv_c : c.val.toArray = #[iv k1, iv k2, iv k3, iv k4, iv k5, iv k6, iv k7, iv k8, iv k9, iv k10, iv k11, iv c.ref, .slice c.a1 c.ps.length c.c1, .slice c.a2 c.bds.length c.c2, .slice c.a3 c.rer.length c.c3] := by unfold Sm.val; rw [he_c]; rfl
  have hw_c : ∀ p q, (c.with2 p q).val.toArray = #[iv k1, iv k2, iv k3, iv k4, iv k5, iv k6, iv k7, iv k8, iv k9, iv k10, iv k11, iv c.ref, .slice c.a1 c.ps.length c.c1, .slice p c.bds.length q, .slice c.a3 c.rer.length c.c3] := by intro p q; simp only [Sm.val, Sm.with2, he_c]; rfl
  have pl_a : ∀ w', a.In w' → Calls Tryz.prog 6 #[.agg #[iv n1, iv n2, iv n3, iv n4, iv n5, iv n6, iv n7, iv n8, iv n9, iv n10, iv n11, iv a.ref, .slice a.a1 a.ps.length a.c1, .slice a.a2 a.bds.length a.c2, .slice a.a3 a.rer.length a.c3]] w' (RetC fun r w'' => ∃ p q, r = .agg (a.with2 p q).val.toArray ∧ (a.with2 p q).In w'' ∧ Chg w' w'' []) := fun w' hs => by rw [← hv_a]; exact plain_c hs (by have := limA; omega)
  have pl_b : ∀ w', b.In w' → Calls Tryz.prog 6 #[.agg #[iv m1, iv m2, iv m3, iv m4, iv m5, iv m6, iv m7, iv m8, iv m9, iv m10, iv m11, iv b.ref, .slice b.a1 b.ps.length b.c1, .slice b.a2 b.bds.length b.c2, .slice b.a3 b.rer.length b.c3]] w' (RetC fun r w'' => ∃ p q, r = .agg (b.with2 p q).val.toArray ∧ (b.with2 p q).In w'' ∧ Chg w' w'' []) := fun w' hs => by rw [← hv_b]; exact plain_c hs (by have := limB; omega)
  have pl_c : ∀ w', c.In w' → Calls Tryz.prog 6 #[.agg #[iv k1, iv k2, iv k3, iv k4, iv k5, iv k6, iv k7, iv k8, iv k9, iv k10, iv k11, iv c.ref, .slice c.a1 c.ps.length c.c1, .slice c.a2 c.bds.length c.c2, .slice c.a3 c.rer.length c.c3]] w' (RetC fun r w'' => ∃ p q, r = .agg (c.with2 p q).val.toArray ∧ (c.with2 p q).In w'' ∧ Chg w' w'' []) := fun w' hs => by rw [← hv_c]; exact plain_c hs (by have := limC; omega)
  rw [hv_a, hv_b, hv_c]
  refine lMerges_ok ?_
  unfold lMerges
  refine newK_mk (newK_mk (newK_mk ?_))
  have s3 := (((St.start w).one.boxL #[iv n1, iv n2, iv n3, iv n4, iv n5, iv n6, iv n7, iv n8, iv n9, iv n10, iv n11, iv a.ref, .slice a.a1 a.ps.length a.c1, .slice a.a2 a.bds.length a.c2, .slice a.a3 a.rer.length a.c3] 27).boxL #[iv m1, iv m2, iv m3, iv m4, iv m5, iv m6, iv m7, iv m8, iv m9, iv m10, iv m11, iv b.ref, .slice b.a1 b.ps.length b.c1, .slice b.a2 b.bds.length b.c2, .slice b.a3 b.rer.length b.c3] 27).boxL #[iv k1, iv k2, iv k3, iv k4, iv k5, iv k6, iv k7, iv k8, iv k9, iv k10, iv k11, iv c.ref, .slice c.a1 c.ps.length c.c1, .slice c.a2 c.bds.length c.c2, .slice c.a3 c.rer.length c.c3] 27
  generalize hw3 : (((w.alloc _).alloc _).alloc _) = w3 at s3 ⊢
  generalize hr1 : w.heap.size = r1 at s3 ⊢
  generalize hr2 : (w.alloc _).heap.size = r2 at s3 ⊢
  generalize hr3 : ((w.alloc _).alloc _).heap.size = r3 at s3 ⊢
  have fin : ∀ {w2 : World}, Chg w w2 [] → Calls Tryz.prog 7 #[] w2 (fun e w' => ∃ b, e = .returned (.bool b) ∧ (Value.bool b = .bool true ∧ Chg w w' [])) := fun d => useC (awake_c _) fun v w' ⟨h1, h2⟩ => by subst h1; exact ⟨true, rfl, rfl, d.trans h2 (by simp)⟩
  refine ⟨fun b1 w4 => Chg w3 w4 [] ∧ (b1 = false → a.Few ∧ b.Few ∧ c.Few), ?_, ?_⟩
  · rintro w4 b1 ⟨d4, hfew⟩ -
    have s4 := s3.quiet d4
    have f4 := s4.chg
    cases b1 with
    | true => exact cT rfl (fin f4)
    | false =>
      obtain ⟨fa, fb, fc⟩ := hfew rfl
      have la := fa.le
      have lb := fb.le
      have lc := fc.le
      have ma := la.mid (by omega)
      have mb := lb.mid (by omega)
      have mc := lc.mid (by omega)
      have mAB : ∀ w', a.In w' → b.In w' → Calls Tryz.prog 10 #[.agg #[iv n1, iv n2, iv n3, iv n4, iv n5, iv n6, iv n7, iv n8, iv n9, iv n10, iv n11, iv a.ref, .slice a.a1 a.ps.length a.c1, .slice a.a2 a.bds.length a.c2, .slice a.a3 a.rer.length a.c3], .agg #[iv m1, iv m2, iv m3, iv m4, iv m5, iv m6, iv m7, iv m8, iv m9, iv m10, iv m11, iv b.ref, .slice b.a1 b.ps.length b.c1, .slice b.a2 b.bds.length b.c2, .slice b.a3 b.rer.length b.c3]] w' (RetC (MgR a b w')) := fun w' hs ht => by rw [← hv_a, ← hv_b]; exact rmerge_c hs ht ma mb
      have mBC : ∀ w', b.In w' → c.In w' → Calls Tryz.prog 10 #[.agg #[iv m1, iv m2, iv m3, iv m4, iv m5, iv m6, iv m7, iv m8, iv m9, iv m10, iv m11, iv b.ref, .slice b.a1 b.ps.length b.c1, .slice b.a2 b.bds.length b.c2, .slice b.a3 b.rer.length b.c3], .agg #[iv k1, iv k2, iv k3, iv k4, iv k5, iv k6, iv k7, iv k8, iv k9, iv k10, iv k11, iv c.ref, .slice c.a1 c.ps.length c.c1, .slice c.a2 c.bds.length c.c2, .slice c.a3 c.rer.length c.c3]] w' (RetC (MgR b c w')) := fun w' hs ht => by rw [← hv_b, ← hv_c]; exact rmerge_c hs ht mb mc
      have qm : ∀ w' p q p' q', (a.with2 p q).In w' → (b.with2 p' q').In w' → Calls Tryz.prog 11 #[.agg #[iv n1, iv n2, iv n3, iv n4, iv n5, iv n6, iv n7, iv n8, iv n9, iv n10, iv n11, iv a.ref, .slice a.a1 a.ps.length a.c1, .slice p a.bds.length q, .slice a.a3 a.rer.length a.c3], .agg #[iv m1, iv m2, iv m3, iv m4, iv m5, iv m6, iv m7, iv m8, iv m9, iv m10, iv m11, iv b.ref, .slice b.a1 b.ps.length b.c1, .slice p' b.bds.length q', .slice b.a3 b.rer.length b.c3]] w' (RetC (MgR a b w')) := fun w' p q p' q' hs ht => by
        rw [← hw_a p q, ← hw_b p' q']
        exact qmerge_c hs ht ⟨ma.l1, ma.l2, ma.l3, ma.pt⟩ ⟨mb.l1, mb.l2, mb.l3, mb.pt⟩
      refine cF rfl ⟨_, _, _, _, _, _, _, _, _, _, _, _, _, _, _, _, _, _, _, _, _, s4.cellsIn 2 rfl, _, _, _, _, _, _, _, _, _, _, _, _, _, _, _, _, _, _, _, _, _, s4.cellsIn 1 rfl, useC (mAB w4 (ha.chg f4) (hb.chg f4)) ?_⟩
      rintro v w6 ⟨x, AX, rfl, ix, ex, kx⟩
      obtain ⟨x1, x2, x3, x4, x5, x6, x7, x8, x9, x10, x11, he_x⟩ := len11 (ix _ _ kx).n11
      have hv_x : x.val.toArray = #[iv x1, iv x2, iv x3, iv x4, iv x5, iv x6, iv x7, iv x8, iv x9, iv x10, iv x11, iv x.ref, .slice x.a1 x.ps.length x.c1, .slice x.a2 x.bds.length x.c2, .slice x.a3 x.rer.length x.c3] := by unfold Sm.val; rw [he_x]; rfl
      have hw_x : ∀ p q, (x.with2 p q).val.toArray = #[iv x1, iv x2, iv x3, iv x4, iv x5, iv x6, iv x7, iv x8, iv x9, iv x10, iv x11, iv x.ref, .slice x.a1 x.ps.length x.c1, .slice p x.bds.length q, .slice x.a3 x.rer.length x.c3] := by intro p q; simp only [Sm.val, Sm.with2, he_x]; rfl
      rw [hv_x]
      refine ⟨_, _, _, _, _, _, _, _, _, _, _, _, _, _, _, _, _, _, _, _, _, _, rfl, ?_⟩
      refine box_new (zs := #[iv 0, iv 0, iv 0, iv 0, iv 0, iv 0, iv 0, iv 0, iv 0, iv 0, iv 0, iv 0, .slice none 0 0, .slice none 0 0, .slice none 0 0]) (vs := [iv x1, iv x2, iv x3, iv x4, iv x5, iv x6, iv x7, iv x8, iv x9, iv x10, iv x11, iv x.ref, .slice x.a1 x.ps.length x.c1, .slice x.a2 x.bds.length x.c2, .slice x.a3 x.rer.length x.c3]) (l := [AX, _, _, _, _]) (s4.after kx) rfl (by intro v hv; simp at hv; rcases hv with rfl | rfl | rfl | rfl | rfl | rfl | rfl | rfl | rfl | rfl | rfl | rfl | rfl | rfl | rfl <;> rfl) fun r4 w8 s8' => ?_
      have lx := mg_le la lb ex
      have mx := lx.mid (by omega)
      have pl_x : ∀ w', x.In w' → Calls Tryz.prog 6 #[.agg #[iv x1, iv x2, iv x3, iv x4, iv x5, iv x6, iv x7, iv x8, iv x9, iv x10, iv x11, iv x.ref, .slice x.a1 x.ps.length x.c1, .slice x.a2 x.bds.length x.c2, .slice x.a3 x.rer.length x.c3]] w' (RetC fun r w'' => ∃ p q, r = .agg (x.with2 p q).val.toArray ∧ (x.with2 p q).In w'' ∧ Chg w' w'' []) := fun w' hs => by rw [← hv_x]; exact plain_c hs (by have := lx.l2; omega)
      have mXC : ∀ w', x.In w' → c.In w' → Calls Tryz.prog 10 #[.agg #[iv x1, iv x2, iv x3, iv x4, iv x5, iv x6, iv x7, iv x8, iv x9, iv x10, iv x11, iv x.ref, .slice x.a1 x.ps.length x.c1, .slice x.a2 x.bds.length x.c2, .slice x.a3 x.rer.length x.c3], .agg #[iv k1, iv k2, iv k3, iv k4, iv k5, iv k6, iv k7, iv k8, iv k9, iv k10, iv k11, iv c.ref, .slice c.a1 c.ps.length c.c1, .slice c.a2 c.bds.length c.c2, .slice c.a3 c.rer.length c.c3]] w' (RetC (MgR x c w')) := fun w' hs ht => by rw [← hv_x, ← hv_c]; exact rmerge_c hs ht mx mc
      have s8 := s8'.quiet (Chg.drew w8 [])
      clear s8' kx
      generalize hw9 : w8.drew = w9 at s8 ⊢
      have ha9 := ha.chg s8.chg
      have hb9 := hb.chg s8.chg
      refine ⟨_, _, _, _, _, _, _, _, _, _, _, _, _, _, _, _, _, _, _, _, _, s8.cellsIn 4 rfl, _, _, _, _, _, _, _, _, _, _, _, _, _, _, _, _, _, _, _, _, _, s8.cellsIn 3 rfl, ?_, ?_⟩
      · refine useC (pl_a w9 ha9) ?_
        rintro v w10 ⟨p, q, rfl, ia, c10⟩
        rw [hw_a]
        have s10 := s8.quiet c10
        refine ⟨_, _, _, _, _, _, _, _, _, _, _, _, _, _, _, _, _, _, _, _, _, rfl, s10.cellsIn 3 rfl, ?_, ?_⟩
        · refine useC (pl_b w10 (hb9.chg c10)) ?_
          rintro v w11 ⟨p', q', rfl, ib, c11⟩
          rw [hw_b]
          have s11 := s10.quiet c11
          refine ⟨_, _, _, _, _, _, _, _, _, _, _, _, _, _, _, _, _, _, _, _, _, rfl, ?_, ?_⟩
          · refine useC (qm w11 p q p' q' (ia.chg c11) ib) ?_
            rintro v w12 ⟨y, AY, rfl, iy, ey, ky⟩
            obtain ⟨y1, y2, y3, y4, y5, y6, y7, y8, y9, y10, y11, he_y⟩ := len11 (iy _ _ ky).n11
            have hv_y : y.val.toArray = #[iv y1, iv y2, iv y3, iv y4, iv y5, iv y6, iv y7, iv y8, iv y9, iv y10, iv y11, iv y.ref, .slice y.a1 y.ps.length y.c1, .slice y.a2 y.bds.length y.c2, .slice y.a3 y.rer.length y.c3] := by unfold Sm.val; rw [he_y]; rfl
            have hw_y : ∀ p q, (y.with2 p q).val.toArray = #[iv y1, iv y2, iv y3, iv y4, iv y5, iv y6, iv y7, iv y8, iv y9, iv y10, iv y11, iv y.ref, .slice y.a1 y.ps.length y.c1, .slice p y.bds.length q, .slice y.a3 y.rer.length y.c3] := by intro p q; simp only [Sm.val, Sm.with2, he_y]; rfl
            rw [hv_y]
            refine ⟨_, _, _, _, _, _, _, _, _, _, _, _, _, _, _, _, _, _, _, _, _, _, rfl, ?_⟩
            refine box_new (zs := #[iv 0, iv 0, iv 0, iv 0, iv 0, iv 0, iv 0, iv 0, iv 0, iv 0, iv 0, iv 0, .slice none 0 0, .slice none 0 0, .slice none 0 0]) (vs := [iv y1, iv y2, iv y3, iv y4, iv y5, iv y6, iv y7, iv y8, iv y9, iv y10, iv y11, iv y.ref, .slice y.a1 y.ps.length y.c1, .slice y.a2 y.bds.length y.c2, .slice y.a3 y.rer.length y.c3]) (l := [AY, _, _, _, _, _, _]) (s11.after ky) rfl (by intro v hv; simp at hv; rcases hv with rfl | rfl | rfl | rfl | rfl | rfl | rfl | rfl | rfl | rfl | rfl | rfl | rfl | rfl | rfl <;> rfl) fun r5 w13 s13 => ?_
            clear ky s11 s10 c11 c10
            refine ⟨fun b w14 => b = false ∧ Chg w13 w14 [], ?_, cF (by simp) ?_⟩
            · rintro w14 b ⟨rfl, d14⟩ -
              have s14 := s13.quiet d14
              have f14 := s14.chg
              refine cF rfl ⟨_, _, _, _, _, _, _, _, _, _, _, _, _, _, _, _, _, _, _, _, _, s14.cellsIn 5 rfl, _, _, _, _, _, _, _, _, _, _, _, _, _, _, _, _, _, _, _, _, _, s14.cellsIn 4 rfl, useC (mBC w14 (hb.chg f14) (hc.chg f14)) ?_⟩
              rintro v w15 ⟨z, AZ, rfl, iz, ez, kz⟩
              obtain ⟨z1, z2, z3, z4, z5, z6, z7, z8, z9, z10, z11, he_z⟩ := len11 (iz _ _ kz).n11
              have hv_z : z.val.toArray = #[iv z1, iv z2, iv z3, iv z4, iv z5, iv z6, iv z7, iv z8, iv z9, iv z10, iv z11, iv z.ref, .slice z.a1 z.ps.length z.c1, .slice z.a2 z.bds.length z.c2, .slice z.a3 z.rer.length z.c3] := by unfold Sm.val; rw [he_z]; rfl
              have hw_z : ∀ p q, (z.with2 p q).val.toArray = #[iv z1, iv z2, iv z3, iv z4, iv z5, iv z6, iv z7, iv z8, iv z9, iv z10, iv z11, iv z.ref, .slice z.a1 z.ps.length z.c1, .slice p z.bds.length q, .slice z.a3 z.rer.length z.c3] := by intro p q; simp only [Sm.val, Sm.with2, he_z]; rfl
              rw [hv_z]
              refine ⟨_, _, _, _, _, _, _, _, _, _, _, _, _, _, _, _, _, _, _, _, _, _, rfl, ?_⟩
              refine box_new (zs := #[iv 0, iv 0, iv 0, iv 0, iv 0, iv 0, iv 0, iv 0, iv 0, iv 0, iv 0, iv 0, .slice none 0 0, .slice none 0 0, .slice none 0 0]) (vs := [iv z1, iv z2, iv z3, iv z4, iv z5, iv z6, iv z7, iv z8, iv z9, iv z10, iv z11, iv z.ref, .slice z.a1 z.ps.length z.c1, .slice z.a2 z.bds.length z.c2, .slice z.a3 z.rer.length z.c3]) (l := [AZ, _, _, _, _, _, _, _, _]) (s14.after kz) rfl (by intro v hv; simp at hv; rcases hv with rfl | rfl | rfl | rfl | rfl | rfl | rfl | rfl | rfl | rfl | rfl | rfl | rfl | rfl | rfl <;> rfl) fun r6 w17 s17 => ?_
              have lz := mg_le lb lc ez
              have mz := lz.mid (by omega)
              have mAZ : ∀ w', a.In w' → z.In w' → Calls Tryz.prog 10 #[.agg #[iv n1, iv n2, iv n3, iv n4, iv n5, iv n6, iv n7, iv n8, iv n9, iv n10, iv n11, iv a.ref, .slice a.a1 a.ps.length a.c1, .slice a.a2 a.bds.length a.c2, .slice a.a3 a.rer.length a.c3], .agg #[iv z1, iv z2, iv z3, iv z4, iv z5, iv z6, iv z7, iv z8, iv z9, iv z10, iv z11, iv z.ref, .slice z.a1 z.ps.length z.c1, .slice z.a2 z.bds.length z.c2, .slice z.a3 z.rer.length z.c3]] w' (RetC (MgR a z w')) := fun w' hs ht => by rw [← hv_a, ← hv_z]; exact rmerge_c hs ht ma mz
              refine ⟨fun b4 w18 => Chg w17 w18 [] ∧ (b4 = false → (mg a.ab b.ab).2 = 0 ∧ (mg b.ab c.ab).2 = 0), ?_, ?_⟩
              · rintro w18 b4 ⟨d18, hbb⟩ -
                have s18 := s17.quiet d18
                cases b4 with
                | true => exact cT rfl (fin s18.chg)
                | false =>
                  obtain ⟨h0, h1⟩ := hbb rfl
                  obtain ⟨ka, kb, kc⟩ := mg_assoc h0 h1
                  refine cF rfl ⟨_, _, _, _, _, _, _, _, _, _, _, _, _, _, _, _, _, _, _, _, _, s18.cellsIn 4 rfl, _, _, _, _, _, _, _, _, _, _, _, _, _, _, _, _, _, _, _, _, _, s18.cellsIn 6 rfl, useC (mXC w18 (ix _ _ (s18.out 5 rfl).first) (hc.chg s18.chg)) ?_⟩
                  rintro v w20 ⟨u, AU, rfl, iu, eu, ku⟩
                  obtain ⟨u1, u2, u3, u4, u5, u6, u7, u8, u9, u10, u11, he_u⟩ := len11 (iu _ _ ku).n11
                  have hv_u : u.val.toArray = #[iv u1, iv u2, iv u3, iv u4, iv u5, iv u6, iv u7, iv u8, iv u9, iv u10, iv u11, iv u.ref, .slice u.a1 u.ps.length u.c1, .slice u.a2 u.bds.length u.c2, .slice u.a3 u.rer.length u.c3] := by unfold Sm.val; rw [he_u]; rfl
                  have hw_u : ∀ p q, (u.with2 p q).val.toArray = #[iv u1, iv u2, iv u3, iv u4, iv u5, iv u6, iv u7, iv u8, iv u9, iv u10, iv u11, iv u.ref, .slice u.a1 u.ps.length u.c1, .slice p u.bds.length q, .slice u.a3 u.rer.length u.c3] := by intro p q; simp only [Sm.val, Sm.with2, he_u]; rfl
                  rw [hv_u]
                  refine ⟨_, _, _, _, _, _, _, _, _, _, _, _, _, _, _, _, _, _, _, _, _, _, rfl, ?_⟩
                  refine box_new (zs := #[iv 0, iv 0, iv 0, iv 0, iv 0, iv 0, iv 0, iv 0, iv 0, iv 0, iv 0, iv 0, .slice none 0 0, .slice none 0 0, .slice none 0 0]) (vs := [iv u1, iv u2, iv u3, iv u4, iv u5, iv u6, iv u7, iv u8, iv u9, iv u10, iv u11, iv u.ref, .slice u.a1 u.ps.length u.c1, .slice u.a2 u.bds.length u.c2, .slice u.a3 u.rer.length u.c3]) (l := [AU, _, _, _, _, _, _, _, _, _, _]) (s18.after ku) rfl (by intro v hv; simp at hv; rcases hv with rfl | rfl | rfl | rfl | rfl | rfl | rfl | rfl | rfl | rfl | rfl | rfl | rfl | rfl | rfl <;> rfl) fun r7 w22 s22 => ?_
                  have lu := mg_le lx lc eu
                  have pl_u : ∀ w', u.In w' → Calls Tryz.prog 6 #[.agg #[iv u1, iv u2, iv u3, iv u4, iv u5, iv u6, iv u7, iv u8, iv u9, iv u10, iv u11, iv u.ref, .slice u.a1 u.ps.length u.c1, .slice u.a2 u.bds.length u.c2, .slice u.a3 u.rer.length u.c3]] w' (RetC fun r w'' => ∃ p q, r = .agg (u.with2 p q).val.toArray ∧ (u.with2 p q).In w'' ∧ Chg w' w'' []) := fun w' hs => by rw [← hv_u]; exact plain_c hs (by have := lu.l2; omega)
                  refine ⟨_, _, _, _, _, _, _, _, _, _, _, _, _, _, _, _, _, _, _, _, _, s22.cellsIn 10 rfl, _, _, _, _, _, _, _, _, _, _, _, _, _, _, _, _, _, _, _, _, _, s22.cellsIn 2 rfl, useC (mAZ w22 (ha.chg s22.chg) (iz _ _ (s22.out 3 rfl).first)) ?_⟩
                  rintro v w23 ⟨t, AT, rfl, it, et, kt⟩
                  obtain ⟨t1, t2, t3, t4, t5, t6, t7, t8, t9, t10, t11, he_t⟩ := len11 (it _ _ kt).n11
                  have hv_t : t.val.toArray = #[iv t1, iv t2, iv t3, iv t4, iv t5, iv t6, iv t7, iv t8, iv t9, iv t10, iv t11, iv t.ref, .slice t.a1 t.ps.length t.c1, .slice t.a2 t.bds.length t.c2, .slice t.a3 t.rer.length t.c3] := by unfold Sm.val; rw [he_t]; rfl
                  have hw_t : ∀ p q, (t.with2 p q).val.toArray = #[iv t1, iv t2, iv t3, iv t4, iv t5, iv t6, iv t7, iv t8, iv t9, iv t10, iv t11, iv t.ref, .slice t.a1 t.ps.length t.c1, .slice p t.bds.length q, .slice t.a3 t.rer.length t.c3] := by intro p q; simp only [Sm.val, Sm.with2, he_t]; rfl
                  rw [hv_t]
                  refine ⟨_, _, _, _, _, _, _, _, _, _, _, _, _, _, _, _, _, _, _, _, _, _, rfl, ?_⟩
                  refine box_new (zs := #[iv 0, iv 0, iv 0, iv 0, iv 0, iv 0, iv 0, iv 0, iv 0, iv 0, iv 0, iv 0, .slice none 0 0, .slice none 0 0, .slice none 0 0]) (vs := [iv t1, iv t2, iv t3, iv t4, iv t5, iv t6, iv t7, iv t8, iv t9, iv t10, iv t11, iv t.ref, .slice t.a1 t.ps.length t.c1, .slice t.a2 t.bds.length t.c2, .slice t.a3 t.rer.length t.c3]) (l := [AT, _, _, _, _, _, _, _, _, _, _, _, _]) (s22.after kt) rfl (by intro v hv; simp at hv; rcases hv with rfl | rfl | rfl | rfl | rfl | rfl | rfl | rfl | rfl | rfl | rfl | rfl | rfl | rfl | rfl <;> rfl) fun r8 w25 s25 => ?_
                  have lt := mg_le la lz et
                  have pl_t : ∀ w', t.In w' → Calls Tryz.prog 6 #[.agg #[iv t1, iv t2, iv t3, iv t4, iv t5, iv t6, iv t7, iv t8, iv t9, iv t10, iv t11, iv t.ref, .slice t.a1 t.ps.length t.c1, .slice t.a2 t.bds.length t.c2, .slice t.a3 t.rer.length t.c3]] w' (RetC fun r w'' => ∃ p q, r = .agg (t.with2 p q).val.toArray ∧ (t.with2 p q).In w'' ∧ Chg w' w'' []) := fun w' hs => by rw [← hv_t]; exact plain_c hs (by have := lt.l2; omega)
                  have u0 : (mg x.ab c.ab).2 = 0 := by rw [ex]; exact ka
                  have t0 : (mg a.ab z.ab).2 = 0 := by rw [ez]; exact kb
                  have ut : u.ab = t.ab := by rw [eu, et, ex, ez]; exact kc
                  refine cT (by rw [u0]; rfl) (cT (by rw [t0]; rfl) ?_)
                  have s26 := s25.quiet (Chg.drew w25 [])
                  refine ⟨_, _, _, _, _, _, _, _, _, _, _, _, _, _, _, _, _, _, _, _, _, s26.cellsIn 2 rfl, _, _, _, _, _, _, _, _, _, _, _, _, _, _, _, _, _, _, _, _, _, s26.cellsIn 0 rfl, useC (pl_u _ (iu _ _ (s26.out 3 rfl).first)) ?_⟩
                  rintro v w27 ⟨p3, q3, rfl, iu3, c27⟩
                  rw [hw_u]
                  have s27 := s26.quiet c27
                  refine ⟨_, _, _, _, _, _, _, _, _, _, _, _, _, _, _, _, _, _, _, _, _, rfl, s27.cellsIn 0 rfl, useC (pl_t _ (it _ _ (s27.out 1 rfl).first)) ?_⟩
                  rintro v w28 ⟨p4, q4, rfl, it4, c28⟩
                  rw [hw_t]
                  have s28 := s27.quiet c28
                  refine ⟨_, _, _, _, _, _, _, _, _, _, _, _, _, _, _, _, _, _, _, _, _, rfl, ?_⟩
                  rw [← hw_u p3 q3, ← hw_t p4 q4]
                  refine useC (same_c (iu3.chg c28) it4 ut) ?_
                  rintro v w29 ⟨rfl, c29⟩
                  exact ⟨true, rfl, cT rfl (fin (s28.quiet c29).chg)⟩
              · by_cases h0 : (mg a.ab b.ab).2 = 0
                · exact cF (by simp [h0]) ⟨Chg.refl _ _, fun h => ⟨h0, by simpa using h⟩⟩
                · exact cT (by simp [h0]) ⟨Chg.refl _ _, fun h => by cases h⟩
            · have s14 := s13.quiet (Chg.drew w13 [])
              refine ⟨_, _, _, _, _, _, _, _, _, _, _, _, _, _, _, _, _, _, _, _, _, s14.cellsIn 2 rfl, _, _, _, _, _, _, _, _, _, _, _, _, _, _, _, _, _, _, _, _, _, s14.cellsIn 0 rfl, useC (pl_x _ (ix _ _ (s14.out 3 rfl).first)) ?_⟩
              rintro v w15 ⟨p3, q3, rfl, ix3, c15⟩
              rw [hw_x]
              have s15 := s14.quiet c15
              refine ⟨_, _, _, _, _, _, _, _, _, _, _, _, _, _, _, _, _, _, _, _, _, rfl, s15.cellsIn 0 rfl, ?_⟩
              rw [← hw_x p3 q3, ← hv_y]
              refine useC (same_c ix3 (iy _ _ (s15.out 1 rfl).first) (show x.ab = y.ab by rw [ex, ey])) ?_
              rintro v w16 ⟨rfl, c16⟩
              exact ⟨true, rfl, rfl, (Chg.drew w13 []).trans (c15.trans c16 (by simp)) (by simp)⟩
          · refine newK_mk ?_
            have s12 := s11.boxL #[iv 0, iv 0, iv 0, iv 0, iv 0, iv 0, iv 0, iv 0, iv 0, iv 0, iv 0, iv 0, .slice none 0 0, .slice none 0 0, .slice none 0 0] 31
            have c12 : Chg w11 (w11.alloc (.cells #[iv 0, iv 0, iv 0, iv 0, iv 0, iv 0, iv 0, iv 0, iv 0, iv 0, iv 0, iv 0, .slice none 0 0, .slice none 0 0, .slice none 0 0] 31)) [] := Chg.new _ _ []
            refine useC (qm _ p q p' q' ((ia.chg c11).chg c12) (ib.chg c12)) ?_
            rintro v w14 ⟨y, AY, rfl, iy, ey, ky⟩
            obtain ⟨y1, y2, y3, y4, y5, y6, y7, y8, y9, y10, y11, he_y⟩ := len11 (iy _ _ ky).n11
            have hv_y : y.val.toArray = #[iv y1, iv y2, iv y3, iv y4, iv y5, iv y6, iv y7, iv y8, iv y9, iv y10, iv y11, iv y.ref, .slice y.a1 y.ps.length y.c1, .slice y.a2 y.bds.length y.c2, .slice y.a3 y.rer.length y.c3] := by unfold Sm.val; rw [he_y]; rfl
            have hw_y : ∀ p q, (y.with2 p q).val.toArray = #[iv y1, iv y2, iv y3, iv y4, iv y5, iv y6, iv y7, iv y8, iv y9, iv y10, iv y11, iv y.ref, .slice y.a1 y.ps.length y.c1, .slice p y.bds.length q, .slice y.a3 y.rer.length y.c3] := by intro p q; simp only [Sm.val, Sm.with2, he_y]; rfl
            rw [hv_y]
            refine ⟨_, _, _, _, _, _, _, _, _, _, _, _, _, _, _, _, _, _, _, _, _, _, rfl, ?_⟩
            refine St.stLAt (l := [AY, boxA _ _ 31, _, _, _, _, _, _]) (s12.after ky) 1 rfl [iv y1, iv y2, iv y3, iv y4, iv y5, iv y6, iv y7, iv y8, iv y9, iv y10, iv y11, iv y.ref, .slice y.a1 y.ps.length y.c1, .slice y.a2 y.bds.length y.c2, .slice y.a3 y.rer.length y.c3] rfl (by intro v hv; simp at hv; rcases hv with rfl | rfl | rfl | rfl | rfl | rfl | rfl | rfl | rfl | rfl | rfl | rfl | rfl | rfl | rfl <;> rfl) fun w13 s13' => ?_
            have s13 := s13'.picks [1, 0, 2, 3, 4, 5, 6, 7]
            generalize hr5 : w11.heap.size = r5 at s13 ⊢
            clear s13' ky s12 s11 s10 c12 c11 c10
            refine ⟨fun b w14 => b = false ∧ Chg w13 w14 [], ?_, cF (by simp) ?_⟩
            · rintro w14 b ⟨rfl, d14⟩ -
              have s14 := s13.quiet d14
              have f14 := s14.chg
              refine cF rfl ⟨_, _, _, _, _, _, _, _, _, _, _, _, _, _, _, _, _, _, _, _, _, s14.cellsIn 5 rfl, _, _, _, _, _, _, _, _, _, _, _, _, _, _, _, _, _, _, _, _, _, s14.cellsIn 4 rfl, useC (mBC w14 (hb.chg f14) (hc.chg f14)) ?_⟩
              rintro v w15 ⟨z, AZ, rfl, iz, ez, kz⟩
              obtain ⟨z1, z2, z3, z4, z5, z6, z7, z8, z9, z10, z11, he_z⟩ := len11 (iz _ _ kz).n11
              have hv_z : z.val.toArray = #[iv z1, iv z2, iv z3, iv z4, iv z5, iv z6, iv z7, iv z8, iv z9, iv z10, iv z11, iv z.ref, .slice z.a1 z.ps.length z.c1, .slice z.a2 z.bds.length z.c2, .slice z.a3 z.rer.length z.c3] := by unfold Sm.val; rw [he_z]; rfl
              have hw_z : ∀ p q, (z.with2 p q).val.toArray = #[iv z1, iv z2, iv z3, iv z4, iv z5, iv z6, iv z7, iv z8, iv z9, iv z10, iv z11, iv z.ref, .slice z.a1 z.ps.length z.c1, .slice p z.bds.length q, .slice z.a3 z.rer.length z.c3] := by intro p q; simp only [Sm.val, Sm.with2, he_z]; rfl
              rw [hv_z]
              refine ⟨_, _, _, _, _, _, _, _, _, _, _, _, _, _, _, _, _, _, _, _, _, _, rfl, ?_⟩
              refine box_new (zs := #[iv 0, iv 0, iv 0, iv 0, iv 0, iv 0, iv 0, iv 0, iv 0, iv 0, iv 0, iv 0, .slice none 0 0, .slice none 0 0, .slice none 0 0]) (vs := [iv z1, iv z2, iv z3, iv z4, iv z5, iv z6, iv z7, iv z8, iv z9, iv z10, iv z11, iv z.ref, .slice z.a1 z.ps.length z.c1, .slice z.a2 z.bds.length z.c2, .slice z.a3 z.rer.length z.c3]) (l := [AZ, _, _, _, _, _, _, _, _]) (s14.after kz) rfl (by intro v hv; simp at hv; rcases hv with rfl | rfl | rfl | rfl | rfl | rfl | rfl | rfl | rfl | rfl | rfl | rfl | rfl | rfl | rfl <;> rfl) fun r6 w17 s17 => ?_
              have lz := mg_le lb lc ez
              have mz := lz.mid (by omega)
              have mAZ : ∀ w', a.In w' → z.In w' → Calls Tryz.prog 10 #[.agg #[iv n1, iv n2, iv n3, iv n4, iv n5, iv n6, iv n7, iv n8, iv n9, iv n10, iv n11, iv a.ref, .slice a.a1 a.ps.length a.c1, .slice a.a2 a.bds.length a.c2, .slice a.a3 a.rer.length a.c3], .agg #[iv z1, iv z2, iv z3, iv z4, iv z5, iv z6, iv z7, iv z8, iv z9, iv z10, iv z11, iv z.ref, .slice z.a1 z.ps.length z.c1, .slice z.a2 z.bds.length z.c2, .slice z.a3 z.rer.length z.c3]] w' (RetC (MgR a z w')) := fun w' hs ht => by rw [← hv_a, ← hv_z]; exact rmerge_c hs ht ma mz
              refine ⟨fun b4 w18 => Chg w17 w18 [] ∧ (b4 = false → (mg a.ab b.ab).2 = 0 ∧ (mg b.ab c.ab).2 = 0), ?_, ?_⟩
              · rintro w18 b4 ⟨d18, hbb⟩ -
                have s18 := s17.quiet d18
                cases b4 with
                | true => exact cT rfl (fin s18.chg)
                | false =>
                  obtain ⟨h0, h1⟩ := hbb rfl
                  obtain ⟨ka, kb, kc⟩ := mg_assoc h0 h1
                  refine cF rfl ⟨_, _, _, _, _, _, _, _, _, _, _, _, _, _, _, _, _, _, _, _, _, s18.cellsIn 4 rfl, _, _, _, _, _, _, _, _, _, _, _, _, _, _, _, _, _, _, _, _, _, s18.cellsIn 6 rfl, useC (mXC w18 (ix _ _ (s18.out 5 rfl).first) (hc.chg s18.chg)) ?_⟩
                  rintro v w20 ⟨u, AU, rfl, iu, eu, ku⟩
                  obtain ⟨u1, u2, u3, u4, u5, u6, u7, u8, u9, u10, u11, he_u⟩ := len11 (iu _ _ ku).n11
                  have hv_u : u.val.toArray = #[iv u1, iv u2, iv u3, iv u4, iv u5, iv u6, iv u7, iv u8, iv u9, iv u10, iv u11, iv u.ref, .slice u.a1 u.ps.length u.c1, .slice u.a2 u.bds.length u.c2, .slice u.a3 u.rer.length u.c3] := by unfold Sm.val; rw [he_u]; rfl
                  have hw_u : ∀ p q, (u.with2 p q).val.toArray = #[iv u1, iv u2, iv u3, iv u4, iv u5, iv u6, iv u7, iv u8, iv u9, iv u10, iv u11, iv u.ref, .slice u.a1 u.ps.length u.c1, .slice p u.bds.length q, .slice u.a3 u.rer.length u.c3] := by intro p q; simp only [Sm.val, Sm.with2, he_u]; rfl
                  rw [hv_u]
                  refine ⟨_, _, _, _, _, _, _, _, _, _, _, _, _, _, _, _, _, _, _, _, _, _, rfl, ?_⟩
                  refine box_new (zs := #[iv 0, iv 0, iv 0, iv 0, iv 0, iv 0, iv 0, iv 0, iv 0, iv 0, iv 0, iv 0, .slice none 0 0, .slice none 0 0, .slice none 0 0]) (vs := [iv u1, iv u2, iv u3, iv u4, iv u5, iv u6, iv u7, iv u8, iv u9, iv u10, iv u11, iv u.ref, .slice u.a1 u.ps.length u.c1, .slice u.a2 u.bds.length u.c2, .slice u.a3 u.rer.length u.c3]) (l := [AU, _, _, _, _, _, _, _, _, _, _]) (s18.after ku) rfl (by intro v hv; simp at hv; rcases hv with rfl | rfl | rfl | rfl | rfl | rfl | rfl | rfl | rfl | rfl | rfl | rfl | rfl | rfl | rfl <;> rfl) fun r7 w22 s22 => ?_
                  have lu := mg_le lx lc eu
                  have pl_u : ∀ w', u.In w' → Calls Tryz.prog 6 #[.agg #[iv u1, iv u2, iv u3, iv u4, iv u5, iv u6, iv u7, iv u8, iv u9, iv u10, iv u11, iv u.ref, .slice u.a1 u.ps.length u.c1, .slice u.a2 u.bds.length u.c2, .slice u.a3 u.rer.length u.c3]] w' (RetC fun r w'' => ∃ p q, r = .agg (u.with2 p q).val.toArray ∧ (u.with2 p q).In w'' ∧ Chg w' w'' []) := fun w' hs => by rw [← hv_u]; exact plain_c hs (by have := lu.l2; omega)
                  refine ⟨_, _, _, _, _, _, _, _, _, _, _, _, _, _, _, _, _, _, _, _, _, s22.cellsIn 10 rfl, _, _, _, _, _, _, _, _, _, _, _, _, _, _, _, _, _, _, _, _, _, s22.cellsIn 2 rfl, useC (mAZ w22 (ha.chg s22.chg) (iz _ _ (s22.out 3 rfl).first)) ?_⟩
                  rintro v w23 ⟨t, AT, rfl, it, et, kt⟩
                  obtain ⟨t1, t2, t3, t4, t5, t6, t7, t8, t9, t10, t11, he_t⟩ := len11 (it _ _ kt).n11
                  have hv_t : t.val.toArray = #[iv t1, iv t2, iv t3, iv t4, iv t5, iv t6, iv t7, iv t8, iv t9, iv t10, iv t11, iv t.ref, .slice t.a1 t.ps.length t.c1, .slice t.a2 t.bds.length t.c2, .slice t.a3 t.rer.length t.c3] := by unfold Sm.val; rw [he_t]; rfl
                  have hw_t : ∀ p q, (t.with2 p q).val.toArray = #[iv t1, iv t2, iv t3, iv t4, iv t5, iv t6, iv t7, iv t8, iv t9, iv t10, iv t11, iv t.ref, .slice t.a1 t.ps.length t.c1, .slice p t.bds.length q, .slice t.a3 t.rer.length t.c3] := by intro p q; simp only [Sm.val, Sm.with2, he_t]; rfl
                  rw [hv_t]
                  refine ⟨_, _, _, _, _, _, _, _, _, _, _, _, _, _, _, _, _, _, _, _, _, _, rfl, ?_⟩
                  refine box_new (zs := #[iv 0, iv 0, iv 0, iv 0, iv 0, iv 0, iv 0, iv 0, iv 0, iv 0, iv 0, iv 0, .slice none 0 0, .slice none 0 0, .slice none 0 0]) (vs := [iv t1, iv t2, iv t3, iv t4, iv t5, iv t6, iv t7, iv t8, iv t9, iv t10, iv t11, iv t.ref, .slice t.a1 t.ps.length t.c1, .slice t.a2 t.bds.length t.c2, .slice t.a3 t.rer.length t.c3]) (l := [AT, _, _, _, _, _, _, _, _, _, _, _, _]) (s22.after kt) rfl (by intro v hv; simp at hv; rcases hv with rfl | rfl | rfl | rfl | rfl | rfl | rfl | rfl | rfl | rfl | rfl | rfl | rfl | rfl | rfl <;> rfl) fun r8 w25 s25 => ?_
                  have lt := mg_le la lz et
                  have pl_t : ∀ w', t.In w' → Calls Tryz.prog 6 #[.agg #[iv t1, iv t2, iv t3, iv t4, iv t5, iv t6, iv t7, iv t8, iv t9, iv t10, iv t11, iv t.ref, .slice t.a1 t.ps.length t.c1, .slice t.a2 t.bds.length t.c2, .slice t.a3 t.rer.length t.c3]] w' (RetC fun r w'' => ∃ p q, r = .agg (t.with2 p q).val.toArray ∧ (t.with2 p q).In w'' ∧ Chg w' w'' []) := fun w' hs => by rw [← hv_t]; exact plain_c hs (by have := lt.l2; omega)
                  have u0 : (mg x.ab c.ab).2 = 0 := by rw [ex]; exact ka
                  have t0 : (mg a.ab z.ab).2 = 0 := by rw [ez]; exact kb
                  have ut : u.ab = t.ab := by rw [eu, et, ex, ez]; exact kc
                  refine cT (by rw [u0]; rfl) (cT (by rw [t0]; rfl) ?_)
                  have s26 := s25.quiet (Chg.drew w25 [])
                  refine ⟨_, _, _, _, _, _, _, _, _, _, _, _, _, _, _, _, _, _, _, _, _, s26.cellsIn 2 rfl, _, _, _, _, _, _, _, _, _, _, _, _, _, _, _, _, _, _, _, _, _, s26.cellsIn 0 rfl, useC (pl_u _ (iu _ _ (s26.out 3 rfl).first)) ?_⟩
                  rintro v w27 ⟨p3, q3, rfl, iu3, c27⟩
                  rw [hw_u]
                  have s27 := s26.quiet c27
                  refine ⟨_, _, _, _, _, _, _, _, _, _, _, _, _, _, _, _, _, _, _, _, _, rfl, s27.cellsIn 0 rfl, useC (pl_t _ (it _ _ (s27.out 1 rfl).first)) ?_⟩
                  rintro v w28 ⟨p4, q4, rfl, it4, c28⟩
                  rw [hw_t]
                  have s28 := s27.quiet c28
                  refine ⟨_, _, _, _, _, _, _, _, _, _, _, _, _, _, _, _, _, _, _, _, _, rfl, ?_⟩
                  rw [← hw_u p3 q3, ← hw_t p4 q4]
                  refine useC (same_c (iu3.chg c28) it4 ut) ?_
                  rintro v w29 ⟨rfl, c29⟩
                  exact ⟨true, rfl, cT rfl (fin (s28.quiet c29).chg)⟩
              · by_cases h0 : (mg a.ab b.ab).2 = 0
                · exact cF (by simp [h0]) ⟨Chg.refl _ _, fun h => ⟨h0, by simpa using h⟩⟩
                · exact cT (by simp [h0]) ⟨Chg.refl _ _, fun h => by cases h⟩
            · have s14 := s13.quiet (Chg.drew w13 [])
              refine ⟨_, _, _, _, _, _, _, _, _, _, _, _, _, _, _, _, _, _, _, _, _, s14.cellsIn 2 rfl, _, _, _, _, _, _, _, _, _, _, _, _, _, _, _, _, _, _, _, _, _, s14.cellsIn 0 rfl, useC (pl_x _ (ix _ _ (s14.out 3 rfl).first)) ?_⟩
              rintro v w15 ⟨p3, q3, rfl, ix3, c15⟩
              rw [hw_x]
              have s15 := s14.quiet c15
              refine ⟨_, _, _, _, _, _, _, _, _, _, _, _, _, _, _, _, _, _, _, _, _, rfl, s15.cellsIn 0 rfl, ?_⟩
              rw [← hw_x p3 q3, ← hv_y]
              refine useC (same_c ix3 (iy _ _ (s15.out 1 rfl).first) (show x.ab = y.ab by rw [ex, ey])) ?_
              rintro v w16 ⟨rfl, c16⟩
              exact ⟨true, rfl, rfl, (Chg.drew w13 []).trans (c15.trans c16 (by simp)) (by simp)⟩
        · refine newK_mk ?_
          have s12 := s10.boxL #[iv 0, iv 0, iv 0, iv 0, iv 0, iv 0, iv 0, iv 0, iv 0, iv 0, iv 0, iv 0, .slice none 0 0, .slice none 0 0, .slice none 0 0] 31
          have c12 : Chg w10 (w10.alloc (.cells #[iv 0, iv 0, iv 0, iv 0, iv 0, iv 0, iv 0, iv 0, iv 0, iv 0, iv 0, iv 0, .slice none 0 0, .slice none 0 0, .slice none 0 0] 31)) [] := Chg.new _ _ []
          refine ⟨s12.cellsIn 4 rfl, useC (pl_b _ ((hb9.chg c10).chg c12)) ?_⟩
          rintro v w14 ⟨p', q', rfl, ib, c14⟩
          rw [hw_b]
          refine ⟨_, _, _, _, _, _, _, _, _, _, _, _, _, _, _, _, _, _, _, _, _, rfl, useC (qm _ p q p' q' ((ia.chg c12).chg c14) ib) ?_⟩
          rintro v w15 ⟨y, AY, rfl, iy, ey, ky⟩
          obtain ⟨y1, y2, y3, y4, y5, y6, y7, y8, y9, y10, y11, he_y⟩ := len11 (iy _ _ ky).n11
          have hv_y : y.val.toArray = #[iv y1, iv y2, iv y3, iv y4, iv y5, iv y6, iv y7, iv y8, iv y9, iv y10, iv y11, iv y.ref, .slice y.a1 y.ps.length y.c1, .slice y.a2 y.bds.length y.c2, .slice y.a3 y.rer.length y.c3] := by unfold Sm.val; rw [he_y]; rfl
          have hw_y : ∀ p q, (y.with2 p q).val.toArray = #[iv y1, iv y2, iv y3, iv y4, iv y5, iv y6, iv y7, iv y8, iv y9, iv y10, iv y11, iv y.ref, .slice y.a1 y.ps.length y.c1, .slice p y.bds.length q, .slice y.a3 y.rer.length y.c3] := by intro p q; simp only [Sm.val, Sm.with2, he_y]; rfl
          rw [hv_y]
          refine ⟨_, _, _, _, _, _, _, _, _, _, _, _, _, _, _, _, _, _, _, _, _, _, rfl, ?_⟩
          refine St.stLAt (l := [AY, boxA _ _ 31, _, _, _, _, _, _]) ((s12.quiet c14).after ky) 1 rfl [iv y1, iv y2, iv y3, iv y4, iv y5, iv y6, iv y7, iv y8, iv y9, iv y10, iv y11, iv y.ref, .slice y.a1 y.ps.length y.c1, .slice y.a2 y.bds.length y.c2, .slice y.a3 y.rer.length y.c3] rfl (by intro v hv; simp at hv; rcases hv with rfl | rfl | rfl | rfl | rfl | rfl | rfl | rfl | rfl | rfl | rfl | rfl | rfl | rfl | rfl <;> rfl) fun w13 s13' => ?_
          have s13 := s13'.picks [1, 0, 2, 3, 4, 5, 6, 7]
          generalize hr5 : w10.heap.size = r5 at s13 ⊢
          clear s13' ky s12 s10 c14 c12 c10
          refine ⟨fun b w14 => b = false ∧ Chg w13 w14 [], ?_, cF (by simp) ?_⟩
          · rintro w14 b ⟨rfl, d14⟩ -
            have s14 := s13.quiet d14
            have f14 := s14.chg
            refine cF rfl ⟨_, _, _, _, _, _, _, _, _, _, _, _, _, _, _, _, _, _, _, _, _, s14.cellsIn 5 rfl, _, _, _, _, _, _, _, _, _, _, _, _, _, _, _, _, _, _, _, _, _, s14.cellsIn 4 rfl, useC (mBC w14 (hb.chg f14) (hc.chg f14)) ?_⟩
            rintro v w15 ⟨z, AZ, rfl, iz, ez, kz⟩
            obtain ⟨z1, z2, z3, z4, z5, z6, z7, z8, z9, z10, z11, he_z⟩ := len11 (iz _ _ kz).n11
            have hv_z : z.val.toArray = #[iv z1, iv z2, iv z3, iv z4, iv z5, iv z6, iv z7, iv z8, iv z9, iv z10, iv z11, iv z.ref, .slice z.a1 z.ps.length z.c1, .slice z.a2 z.bds.length z.c2, .slice z.a3 z.rer.length z.c3] := by unfold Sm.val; rw [he_z]; rfl
            have hw_z : ∀ p q, (z.with2 p q).val.toArray = #[iv z1, iv z2, iv z3, iv z4, iv z5, iv z6, iv z7, iv z8, iv z9, iv z10, iv z11, iv z.ref, .slice z.a1 z.ps.length z.c1, .slice p z.bds.length q, .slice z.a3 z.rer.length z.c3] := by intro p q; simp only [Sm.val, Sm.with2, he_z]; rfl
            rw [hv_z]
            refine ⟨_, _, _, _, _, _, _, _, _, _, _, _, _, _, _, _, _, _, _, _, _, _, rfl, ?_⟩
            refine box_new (zs := #[iv 0, iv 0, iv 0, iv 0, iv 0, iv 0, iv 0, iv 0, iv 0, iv 0, iv 0, iv 0, .slice none 0 0, .slice none 0 0, .slice none 0 0]) (vs := [iv z1, iv z2, iv z3, iv z4, iv z5, iv z6, iv z7, iv z8, iv z9, iv z10, iv z11, iv z.ref, .slice z.a1 z.ps.length z.c1, .slice z.a2 z.bds.length z.c2, .slice z.a3 z.rer.length z.c3]) (l := [AZ, _, _, _, _, _, _, _, _]) (s14.after kz) rfl (by intro v hv; simp at hv; rcases hv with rfl | rfl | rfl | rfl | rfl | rfl | rfl | rfl | rfl | rfl | rfl | rfl | rfl | rfl | rfl <;> rfl) fun r6 w17 s17 => ?_
            have lz := mg_le lb lc ez
            have mz := lz.mid (by omega)
            have mAZ : ∀ w', a.In w' → z.In w' → Calls Tryz.prog 10 #[.agg #[iv n1, iv n2, iv n3, iv n4, iv n5, iv n6, iv n7, iv n8, iv n9, iv n10, iv n11, iv a.ref, .slice a.a1 a.ps.length a.c1, .slice a.a2 a.bds.length a.c2, .slice a.a3 a.rer.length a.c3], .agg #[iv z1, iv z2, iv z3, iv z4, iv z5, iv z6, iv z7, iv z8, iv z9, iv z10, iv z11, iv z.ref, .slice z.a1 z.ps.length z.c1, .slice z.a2 z.bds.length z.c2, .slice z.a3 z.rer.length z.c3]] w' (RetC (MgR a z w')) := fun w' hs ht => by rw [← hv_a, ← hv_z]; exact rmerge_c hs ht ma mz
            refine ⟨fun b4 w18 => Chg w17 w18 [] ∧ (b4 = false → (mg a.ab b.ab).2 = 0 ∧ (mg b.ab c.ab).2 = 0), ?_, ?_⟩
            · rintro w18 b4 ⟨d18, hbb⟩ -
              have s18 := s17.quiet d18
              cases b4 with
              | true => exact cT rfl (fin s18.chg)
              | false =>
                obtain ⟨h0, h1⟩ := hbb rfl
                obtain ⟨ka, kb, kc⟩ := mg_assoc h0 h1
                refine cF rfl ⟨_, _, _, _, _, _, _, _, _, _, _, _, _, _, _, _, _, _, _, _, _, s18.cellsIn 4 rfl, _, _, _, _, _, _, _, _, _, _, _, _, _, _, _, _, _, _, _, _, _, s18.cellsIn 6 rfl, useC (mXC w18 (ix _ _ (s18.out 5 rfl).first) (hc.chg s18.chg)) ?_⟩
                rintro v w20 ⟨u, AU, rfl, iu, eu, ku⟩
                obtain ⟨u1, u2, u3, u4, u5, u6, u7, u8, u9, u10, u11, he_u⟩ := len11 (iu _ _ ku).n11
                have hv_u : u.val.toArray = #[iv u1, iv u2, iv u3, iv u4, iv u5, iv u6, iv u7, iv u8, iv u9, iv u10, iv u11, iv u.ref, .slice u.a1 u.ps.length u.c1, .slice u.a2 u.bds.length u.c2, .slice u.a3 u.rer.length u.c3] := by unfold Sm.val; rw [he_u]; rfl
                have hw_u : ∀ p q, (u.with2 p q).val.toArray = #[iv u1, iv u2, iv u3, iv u4, iv u5, iv u6, iv u7, iv u8, iv u9, iv u10, iv u11, iv u.ref, .slice u.a1 u.ps.length u.c1, .slice p u.bds.length q, .slice u.a3 u.rer.length u.c3] := by intro p q; simp only [Sm.val, Sm.with2, he_u]; rfl
                rw [hv_u]
                refine ⟨_, _, _, _, _, _, _, _, _, _, _, _, _, _, _, _, _, _, _, _, _, _, rfl, ?_⟩
                refine box_new (zs := #[iv 0, iv 0, iv 0, iv 0, iv 0, iv 0, iv 0, iv 0, iv 0, iv 0, iv 0, iv 0, .slice none 0 0, .slice none 0 0, .slice none 0 0]) (vs := [iv u1, iv u2, iv u3, iv u4, iv u5, iv u6, iv u7, iv u8, iv u9, iv u10, iv u11, iv u.ref, .slice u.a1 u.ps.length u.c1, .slice u.a2 u.bds.length u.c2, .slice u.a3 u.rer.length u.c3]) (l := [AU, _, _, _, _, _, _, _, _, _, _]) (s18.after ku) rfl (by intro v hv; simp at hv; rcases hv with rfl | rfl | rfl | rfl | rfl | rfl | rfl | rfl | rfl | rfl | rfl | rfl | rfl | rfl | rfl <;> rfl) fun r7 w22 s22 => ?_
                have lu := mg_le lx lc eu
                have pl_u : ∀ w', u.In w' → Calls Tryz.prog 6 #[.agg #[iv u1, iv u2, iv u3, iv u4, iv u5, iv u6, iv u7, iv u8, iv u9, iv u10, iv u11, iv u.ref, .slice u.a1 u.ps.length u.c1, .slice u.a2 u.bds.length u.c2, .slice u.a3 u.rer.length u.c3]] w' (RetC fun r w'' => ∃ p q, r = .agg (u.with2 p q).val.toArray ∧ (u.with2 p q).In w'' ∧ Chg w' w'' []) := fun w' hs => by rw [← hv_u]; exact plain_c hs (by have := lu.l2; omega)
                refine ⟨_, _, _, _, _, _, _, _, _, _, _, _, _, _, _, _, _, _, _, _, _, s22.cellsIn 10 rfl, _, _, _, _, _, _, _, _, _, _, _, _, _, _, _, _, _, _, _, _, _, s22.cellsIn 2 rfl, useC (mAZ w22 (ha.chg s22.chg) (iz _ _ (s22.out 3 rfl).first)) ?_⟩
                rintro v w23 ⟨t, AT, rfl, it, et, kt⟩
                obtain ⟨t1, t2, t3, t4, t5, t6, t7, t8, t9, t10, t11, he_t⟩ := len11 (it _ _ kt).n11
                have hv_t : t.val.toArray = #[iv t1, iv t2, iv t3, iv t4, iv t5, iv t6, iv t7, iv t8, iv t9, iv t10, iv t11, iv t.ref, .slice t.a1 t.ps.length t.c1, .slice t.a2 t.bds.length t.c2, .slice t.a3 t.rer.length t.c3] := by unfold Sm.val; rw [he_t]; rfl
                have hw_t : ∀ p q, (t.with2 p q).val.toArray = #[iv t1, iv t2, iv t3, iv t4, iv t5, iv t6, iv t7, iv t8, iv t9, iv t10, iv t11, iv t.ref, .slice t.a1 t.ps.length t.c1, .slice p t.bds.length q, .slice t.a3 t.rer.length t.c3] := by intro p q; simp only [Sm.val, Sm.with2, he_t]; rfl
                rw [hv_t]
                refine ⟨_, _, _, _, _, _, _, _, _, _, _, _, _, _, _, _, _, _, _, _, _, _, rfl, ?_⟩
                refine box_new (zs := #[iv 0, iv 0, iv 0, iv 0, iv 0, iv 0, iv 0, iv 0, iv 0, iv 0, iv 0, iv 0, .slice none 0 0, .slice none 0 0, .slice none 0 0]) (vs := [iv t1, iv t2, iv t3, iv t4, iv t5, iv t6, iv t7, iv t8, iv t9, iv t10, iv t11, iv t.ref, .slice t.a1 t.ps.length t.c1, .slice t.a2 t.bds.length t.c2, .slice t.a3 t.rer.length t.c3]) (l := [AT, _, _, _, _, _, _, _, _, _, _, _, _]) (s22.after kt) rfl (by intro v hv; simp at hv; rcases hv with rfl | rfl | rfl | rfl | rfl | rfl | rfl | rfl | rfl | rfl | rfl | rfl | rfl | rfl | rfl <;> rfl) fun r8 w25 s25 => ?_
                have lt := mg_le la lz et
                have pl_t : ∀ w', t.In w' → Calls Tryz.prog 6 #[.agg #[iv t1, iv t2, iv t3, iv t4, iv t5, iv t6, iv t7, iv t8, iv t9, iv t10, iv t11, iv t.ref, .slice t.a1 t.ps.length t.c1, .slice t.a2 t.bds.length t.c2, .slice t.a3 t.rer.length t.c3]] w' (RetC fun r w'' => ∃ p q, r = .agg (t.with2 p q).val.toArray ∧ (t.with2 p q).In w'' ∧ Chg w' w'' []) := fun w' hs => by rw [← hv_t]; exact plain_c hs (by have := lt.l2; omega)
                have u0 : (mg x.ab c.ab).2 = 0 := by rw [ex]; exact ka
                have t0 : (mg a.ab z.ab).2 = 0 := by rw [ez]; exact kb
                have ut : u.ab = t.ab := by rw [eu, et, ex, ez]; exact kc
                refine cT (by rw [u0]; rfl) (cT (by rw [t0]; rfl) ?_)
                have s26 := s25.quiet (Chg.drew w25 [])
                refine ⟨_, _, _, _, _, _, _, _, _, _, _, _, _, _, _, _, _, _, _, _, _, s26.cellsIn 2 rfl, _, _, _, _, _, _, _, _, _, _, _, _, _, _, _, _, _, _, _, _, _, s26.cellsIn 0 rfl, useC (pl_u _ (iu _ _ (s26.out 3 rfl).first)) ?_⟩
                rintro v w27 ⟨p3, q3, rfl, iu3, c27⟩
                rw [hw_u]
                have s27 := s26.quiet c27
                refine ⟨_, _, _, _, _, _, _, _, _, _, _, _, _, _, _, _, _, _, _, _, _, rfl, s27.cellsIn 0 rfl, useC (pl_t _ (it _ _ (s27.out 1 rfl).first)) ?_⟩
                rintro v w28 ⟨p4, q4, rfl, it4, c28⟩
                rw [hw_t]
                have s28 := s27.quiet c28
                refine ⟨_, _, _, _, _, _, _, _, _, _, _, _, _, _, _, _, _, _, _, _, _, rfl, ?_⟩
                rw [← hw_u p3 q3, ← hw_t p4 q4]
                refine useC (same_c (iu3.chg c28) it4 ut) ?_
                rintro v w29 ⟨rfl, c29⟩
                exact ⟨true, rfl, cT rfl (fin (s28.quiet c29).chg)⟩
            · by_cases h0 : (mg a.ab b.ab).2 = 0
              · exact cF (by simp [h0]) ⟨Chg.refl _ _, fun h => ⟨h0, by simpa using h⟩⟩
              · exact cT (by simp [h0]) ⟨Chg.refl _ _, fun h => by cases h⟩
          · have s14 := s13.quiet (Chg.drew w13 [])
            refine ⟨_, _, _, _, _, _, _, _, _, _, _, _, _, _, _, _, _, _, _, _, _, s14.cellsIn 2 rfl, _, _, _, _, _, _, _, _, _, _, _, _, _, _, _, _, _, _, _, _, _, s14.cellsIn 0 rfl, useC (pl_x _ (ix _ _ (s14.out 3 rfl).first)) ?_⟩
            rintro v w15 ⟨p3, q3, rfl, ix3, c15⟩
            rw [hw_x]
            have s15 := s14.quiet c15
            refine ⟨_, _, _, _, _, _, _, _, _, _, _, _, _, _, _, _, _, _, _, _, _, rfl, s15.cellsIn 0 rfl, ?_⟩
            rw [← hw_x p3 q3, ← hv_y]
            refine useC (same_c ix3 (iy _ _ (s15.out 1 rfl).first) (show x.ab = y.ab by rw [ex, ey])) ?_
            rintro v w16 ⟨rfl, c16⟩
            exact ⟨true, rfl, rfl, (Chg.drew w13 []).trans (c15.trans c16 (by simp)) (by simp)⟩
      · refine newK_mk ?_
        have s12 := s8.boxL #[iv 0, iv 0, iv 0, iv 0, iv 0, iv 0, iv 0, iv 0, iv 0, iv 0, iv 0, iv 0, .slice none 0 0, .slice none 0 0, .slice none 0 0] 31
        have c12 : Chg w9 (w9.alloc (.cells #[iv 0, iv 0, iv 0, iv 0, iv 0, iv 0, iv 0, iv 0, iv 0, iv 0, iv 0, iv 0, .slice none 0 0, .slice none 0 0, .slice none 0 0] 31)) [] := Chg.new _ _ []
        refine ⟨s12.cellsIn 4 rfl, s12.cellsIn 5 rfl, useC (pl_a _ (ha9.chg c12)) ?_⟩
        rintro v w14 ⟨p, q, rfl, ia, c14⟩
        rw [hw_a]
        have s14 := s12.quiet c14
        refine ⟨_, _, _, _, _, _, _, _, _, _, _, _, _, _, _, _, _, _, _, _, _, rfl, s14.cellsIn 4 rfl, useC (pl_b _ ((hb9.chg c12).chg c14)) ?_⟩
        rintro v w15 ⟨p', q', rfl, ib, c15⟩
        rw [hw_b]
        refine ⟨_, _, _, _, _, _, _, _, _, _, _, _, _, _, _, _, _, _, _, _, _, rfl, useC (qm _ p q p' q' (ia.chg c15) ib) ?_⟩
        rintro v w16 ⟨y, AY, rfl, iy, ey, ky⟩
        obtain ⟨y1, y2, y3, y4, y5, y6, y7, y8, y9, y10, y11, he_y⟩ := len11 (iy _ _ ky).n11
        have hv_y : y.val.toArray = #[iv y1, iv y2, iv y3, iv y4, iv y5, iv y6, iv y7, iv y8, iv y9, iv y10, iv y11, iv y.ref, .slice y.a1 y.ps.length y.c1, .slice y.a2 y.bds.length y.c2, .slice y.a3 y.rer.length y.c3] := by unfold Sm.val; rw [he_y]; rfl
        have hw_y : ∀ p q, (y.with2 p q).val.toArray = #[iv y1, iv y2, iv y3, iv y4, iv y5, iv y6, iv y7, iv y8, iv y9, iv y10, iv y11, iv y.ref, .slice y.a1 y.ps.length y.c1, .slice p y.bds.length q, .slice y.a3 y.rer.length y.c3] := by intro p q; simp only [Sm.val, Sm.with2, he_y]; rfl
        rw [hv_y]
        refine ⟨_, _, _, _, _, _, _, _, _, _, _, _, _, _, _, _, _, _, _, _, _, _, rfl, ?_⟩
        refine St.stLAt (l := [AY, boxA _ _ 31, _, _, _, _, _, _]) ((s14.quiet c15).after ky) 1 rfl [iv y1, iv y2, iv y3, iv y4, iv y5, iv y6, iv y7, iv y8, iv y9, iv y10, iv y11, iv y.ref, .slice y.a1 y.ps.length y.c1, .slice y.a2 y.bds.length y.c2, .slice y.a3 y.rer.length y.c3] rfl (by intro v hv; simp at hv; rcases hv with rfl | rfl | rfl | rfl | rfl | rfl | rfl | rfl | rfl | rfl | rfl | rfl | rfl | rfl | rfl <;> rfl) fun w13 s13' => ?_
        have s13 := s13'.picks [1, 0, 2, 3, 4, 5, 6, 7]
        generalize hr5 : w9.heap.size = r5 at s13 ⊢
        clear s13' ky s14 s12 c15 c14 c12
        refine ⟨fun b w14 => b = false ∧ Chg w13 w14 [], ?_, cF (by simp) ?_⟩
        · rintro w14 b ⟨rfl, d14⟩ -
          have s14 := s13.quiet d14
          have f14 := s14.chg
          refine cF rfl ⟨_, _, _, _, _, _, _, _, _, _, _, _, _, _, _, _, _, _, _, _, _, s14.cellsIn 5 rfl, _, _, _, _, _, _, _, _, _, _, _, _, _, _, _, _, _, _, _, _, _, s14.cellsIn 4 rfl, useC (mBC w14 (hb.chg f14) (hc.chg f14)) ?_⟩
          rintro v w15 ⟨z, AZ, rfl, iz, ez, kz⟩
          obtain ⟨z1, z2, z3, z4, z5, z6, z7, z8, z9, z10, z11, he_z⟩ := len11 (iz _ _ kz).n11
          have hv_z : z.val.toArray = #[iv z1, iv z2, iv z3, iv z4, iv z5, iv z6, iv z7, iv z8, iv z9, iv z10, iv z11, iv z.ref, .slice z.a1 z.ps.length z.c1, .slice z.a2 z.bds.length z.c2, .slice z.a3 z.rer.length z.c3] := by unfold Sm.val; rw [he_z]; rfl
          have hw_z : ∀ p q, (z.with2 p q).val.toArray = #[iv z1, iv z2, iv z3, iv z4, iv z5, iv z6, iv z7, iv z8, iv z9, iv z10, iv z11, iv z.ref, .slice z.a1 z.ps.length z.c1, .slice p z.bds.length q, .slice z.a3 z.rer.length z.c3] := by intro p q; simp only [Sm.val, Sm.with2, he_z]; rfl
          rw [hv_z]
          refine ⟨_, _, _, _, _, _, _, _, _, _, _, _, _, _, _, _, _, _, _, _, _, _, rfl, ?_⟩
          refine box_new (zs := #[iv 0, iv 0, iv 0, iv 0, iv 0, iv 0, iv 0, iv 0, iv 0, iv 0, iv 0, iv 0, .slice none 0 0, .slice none 0 0, .slice none 0 0]) (vs := [iv z1, iv z2, iv z3, iv z4, iv z5, iv z6, iv z7, iv z8, iv z9, iv z10, iv z11, iv z.ref, .slice z.a1 z.ps.length z.c1, .slice z.a2 z.bds.length z.c2, .slice z.a3 z.rer.length z.c3]) (l := [AZ, _, _, _, _, _, _, _, _]) (s14.after kz) rfl (by intro v hv; simp at hv; rcases hv with rfl | rfl | rfl | rfl | rfl | rfl | rfl | rfl | rfl | rfl | rfl | rfl | rfl | rfl | rfl <;> rfl) fun r6 w17 s17 => ?_
          have lz := mg_le lb lc ez
          have mz := lz.mid (by omega)
          have mAZ : ∀ w', a.In w' → z.In w' → Calls Tryz.prog 10 #[.agg #[iv n1, iv n2, iv n3, iv n4, iv n5, iv n6, iv n7, iv n8, iv n9, iv n10, iv n11, iv a.ref, .slice a.a1 a.ps.length a.c1, .slice a.a2 a.bds.length a.c2, .slice a.a3 a.rer.length a.c3], .agg #[iv z1, iv z2, iv z3, iv z4, iv z5, iv z6, iv z7, iv z8, iv z9, iv z10, iv z11, iv z.ref, .slice z.a1 z.ps.length z.c1, .slice z.a2 z.bds.length z.c2, .slice z.a3 z.rer.length z.c3]] w' (RetC (MgR a z w')) := fun w' hs ht => by rw [← hv_a, ← hv_z]; exact rmerge_c hs ht ma mz
          refine ⟨fun b4 w18 => Chg w17 w18 [] ∧ (b4 = false → (mg a.ab b.ab).2 = 0 ∧ (mg b.ab c.ab).2 = 0), ?_, ?_⟩
          · rintro w18 b4 ⟨d18, hbb⟩ -
            have s18 := s17.quiet d18
            cases b4 with
            | true => exact cT rfl (fin s18.chg)
            | false =>
              obtain ⟨h0, h1⟩ := hbb rfl
              obtain ⟨ka, kb, kc⟩ := mg_assoc h0 h1
              refine cF rfl ⟨_, _, _, _, _, _, _, _, _, _, _, _, _, _, _, _, _, _, _, _, _, s18.cellsIn 4 rfl, _, _, _, _, _, _, _, _, _, _, _, _, _, _, _, _, _, _, _, _, _, s18.cellsIn 6 rfl, useC (mXC w18 (ix _ _ (s18.out 5 rfl).first) (hc.chg s18.chg)) ?_⟩
              rintro v w20 ⟨u, AU, rfl, iu, eu, ku⟩
              obtain ⟨u1, u2, u3, u4, u5, u6, u7, u8, u9, u10, u11, he_u⟩ := len11 (iu _ _ ku).n11
              have hv_u : u.val.toArray = #[iv u1, iv u2, iv u3, iv u4, iv u5, iv u6, iv u7, iv u8, iv u9, iv u10, iv u11, iv u.ref, .slice u.a1 u.ps.length u.c1, .slice u.a2 u.bds.length u.c2, .slice u.a3 u.rer.length u.c3] := by unfold Sm.val; rw [he_u]; rfl
              have hw_u : ∀ p q, (u.with2 p q).val.toArray = #[iv u1, iv u2, iv u3, iv u4, iv u5, iv u6, iv u7, iv u8, iv u9, iv u10, iv u11, iv u.ref, .slice u.a1 u.ps.length u.c1, .slice p u.bds.length q, .slice u.a3 u.rer.length u.c3] := by intro p q; simp only [Sm.val, Sm.with2, he_u]; rfl
              rw [hv_u]
              refine ⟨_, _, _, _, _, _, _, _, _, _, _, _, _, _, _, _, _, _, _, _, _, _, rfl, ?_⟩
              refine box_new (zs := #[iv 0, iv 0, iv 0, iv 0, iv 0, iv 0, iv 0, iv 0, iv 0, iv 0, iv 0, iv 0, .slice none 0 0, .slice none 0 0, .slice none 0 0]) (vs := [iv u1, iv u2, iv u3, iv u4, iv u5, iv u6, iv u7, iv u8, iv u9, iv u10, iv u11, iv u.ref, .slice u.a1 u.ps.length u.c1, .slice u.a2 u.bds.length u.c2, .slice u.a3 u.rer.length u.c3]) (l := [AU, _, _, _, _, _, _, _, _, _, _]) (s18.after ku) rfl (by intro v hv; simp at hv; rcases hv with rfl | rfl | rfl | rfl | rfl | rfl | rfl | rfl | rfl | rfl | rfl | rfl | rfl | rfl | rfl <;> rfl) fun r7 w22 s22 => ?_
              have lu := mg_le lx lc eu
              have pl_u : ∀ w', u.In w' → Calls Tryz.prog 6 #[.agg #[iv u1, iv u2, iv u3, iv u4, iv u5, iv u6, iv u7, iv u8, iv u9, iv u10, iv u11, iv u.ref, .slice u.a1 u.ps.length u.c1, .slice u.a2 u.bds.length u.c2, .slice u.a3 u.rer.length u.c3]] w' (RetC fun r w'' => ∃ p q, r = .agg (u.with2 p q).val.toArray ∧ (u.with2 p q).In w'' ∧ Chg w' w'' []) := fun w' hs => by rw [← hv_u]; exact plain_c hs (by have := lu.l2; omega)
              refine ⟨_, _, _, _, _, _, _, _, _, _, _, _, _, _, _, _, _, _, _, _, _, s22.cellsIn 10 rfl, _, _, _, _, _, _, _, _, _, _, _, _, _, _, _, _, _, _, _, _, _, s22.cellsIn 2 rfl, useC (mAZ w22 (ha.chg s22.chg) (iz _ _ (s22.out 3 rfl).first)) ?_⟩
              rintro v w23 ⟨t, AT, rfl, it, et, kt⟩
              obtain ⟨t1, t2, t3, t4, t5, t6, t7, t8, t9, t10, t11, he_t⟩ := len11 (it _ _ kt).n11
              have hv_t : t.val.toArray = #[iv t1, iv t2, iv t3, iv t4, iv t5, iv t6, iv t7, iv t8, iv t9, iv t10, iv t11, iv t.ref, .slice t.a1 t.ps.length t.c1, .slice t.a2 t.bds.length t.c2, .slice t.a3 t.rer.length t.c3] := by unfold Sm.val; rw [he_t]; rfl
              have hw_t : ∀ p q, (t.with2 p q).val.toArray = #[iv t1, iv t2, iv t3, iv t4, iv t5, iv t6, iv t7, iv t8, iv t9, iv t10, iv t11, iv t.ref, .slice t.a1 t.ps.length t.c1, .slice p t.bds.length q, .slice t.a3 t.rer.length t.c3] := by intro p q; simp only [Sm.val, Sm.with2, he_t]; rfl
              rw [hv_t]
              refine ⟨_, _, _, _, _, _, _, _, _, _, _, _, _, _, _, _, _, _, _, _, _, _, rfl, ?_⟩
              refine box_new (zs := #[iv 0, iv 0, iv 0, iv 0, iv 0, iv 0, iv 0, iv 0, iv 0, iv 0, iv 0, iv 0, .slice none 0 0, .slice none 0 0, .slice none 0 0]) (vs := [iv t1, iv t2, iv t3, iv t4, iv t5, iv t6, iv t7, iv t8, iv t9, iv t10, iv t11, iv t.ref, .slice t.a1 t.ps.length t.c1, .slice t.a2 t.bds.length t.c2, .slice t.a3 t.rer.length t.c3]) (l := [AT, _, _, _, _, _, _, _, _, _, _, _, _]) (s22.after kt) rfl (by intro v hv; simp at hv; rcases hv with rfl | rfl | rfl | rfl | rfl | rfl | rfl | rfl | rfl | rfl | rfl | rfl | rfl | rfl | rfl <;> rfl) fun r8 w25 s25 => ?_
              have lt := mg_le la lz et
              have pl_t : ∀ w', t.In w' → Calls Tryz.prog 6 #[.agg #[iv t1, iv t2, iv t3, iv t4, iv t5, iv t6, iv t7, iv t8, iv t9, iv t10, iv t11, iv t.ref, .slice t.a1 t.ps.length t.c1, .slice t.a2 t.bds.length t.c2, .slice t.a3 t.rer.length t.c3]] w' (RetC fun r w'' => ∃ p q, r = .agg (t.with2 p q).val.toArray ∧ (t.with2 p q).In w'' ∧ Chg w' w'' []) := fun w' hs => by rw [← hv_t]; exact plain_c hs (by have := lt.l2; omega)
              have u0 : (mg x.ab c.ab).2 = 0 := by rw [ex]; exact ka
              have t0 : (mg a.ab z.ab).2 = 0 := by rw [ez]; exact kb
              have ut : u.ab = t.ab := by rw [eu, et, ex, ez]; exact kc
              refine cT (by rw [u0]; rfl) (cT (by rw [t0]; rfl) ?_)
              have s26 := s25.quiet (Chg.drew w25 [])
              refine ⟨_, _, _, _, _, _, _, _, _, _, _, _, _, _, _, _, _, _, _, _, _, s26.cellsIn 2 rfl, _, _, _, _, _, _, _, _, _, _, _, _, _, _, _, _, _, _, _, _, _, s26.cellsIn 0 rfl, useC (pl_u _ (iu _ _ (s26.out 3 rfl).first)) ?_⟩
              rintro v w27 ⟨p3, q3, rfl, iu3, c27⟩
              rw [hw_u]
              have s27 := s26.quiet c27
              refine ⟨_, _, _, _, _, _, _, _, _, _, _, _, _, _, _, _, _, _, _, _, _, rfl, s27.cellsIn 0 rfl, useC (pl_t _ (it _ _ (s27.out 1 rfl).first)) ?_⟩
              rintro v w28 ⟨p4, q4, rfl, it4, c28⟩
              rw [hw_t]
              have s28 := s27.quiet c28
              refine ⟨_, _, _, _, _, _, _, _, _, _, _, _, _, _, _, _, _, _, _, _, _, rfl, ?_⟩
              rw [← hw_u p3 q3, ← hw_t p4 q4]
              refine useC (same_c (iu3.chg c28) it4 ut) ?_
              rintro v w29 ⟨rfl, c29⟩
              exact ⟨true, rfl, cT rfl (fin (s28.quiet c29).chg)⟩
          · by_cases h0 : (mg a.ab b.ab).2 = 0
            · exact cF (by simp [h0]) ⟨Chg.refl _ _, fun h => ⟨h0, by simpa using h⟩⟩
            · exact cT (by simp [h0]) ⟨Chg.refl _ _, fun h => by cases h⟩
        · have s14 := s13.quiet (Chg.drew w13 [])
          refine ⟨_, _, _, _, _, _, _, _, _, _, _, _, _, _, _, _, _, _, _, _, _, s14.cellsIn 2 rfl, _, _, _, _, _, _, _, _, _, _, _, _, _, _, _, _, _, _, _, _, _, s14.cellsIn 0 rfl, useC (pl_x _ (ix _ _ (s14.out 3 rfl).first)) ?_⟩
          rintro v w15 ⟨p3, q3, rfl, ix3, c15⟩
          rw [hw_x]
          have s15 := s14.quiet c15
          refine ⟨_, _, _, _, _, _, _, _, _, _, _, _, _, _, _, _, _, _, _, _, _, rfl, s15.cellsIn 0 rfl, ?_⟩
          rw [← hw_x p3 q3, ← hv_y]
          refine useC (same_c ix3 (iy _ _ (s15.out 1 rfl).first) (show x.ab = y.ab by rw [ex, ey])) ?_
          rintro v w16 ⟨rfl, c16⟩
          exact ⟨true, rfl, rfl, (Chg.drew w13 []).trans (c15.trans c16 (by simp)) (by simp)⟩
  · refine ⟨_, _, _, _, _, _, _, _, _, _, _, _, _, _, _, _, _, _, _, _, _, s3.cellsIn 2 rfl, useC (pl_a w3 (ha.chg s3.chg)) ?_⟩
    rintro v w5 ⟨p, q, rfl, ia, c5⟩
    rw [hw_a]
    refine ⟨_, _, _, _, _, _, _, _, _, _, _, _, _, _, _, _, _, _, _, _, _, rfl, ?_⟩
    rw [← hw_a p q]
    refine useC (few_c ia) ?_
    rintro v w6 ⟨f1, rfl, hf1, c6⟩
    have d6 := c5.trans c6 (by simp)
    refine ⟨f1, rfl, ?_⟩
    cases f1 with
    | false => exact cT rfl ⟨d6, fun h => by cases h⟩
    | true =>
      have f6 := s3.chg.trans d6 (by simp)
      refine cF rfl ⟨_, _, _, _, _, _, _, _, _, _, _, _, _, _, _, _, _, _, _, _, _, (s3.quiet d6).cellsIn 1 rfl, useC (pl_b w6 (hb.chg f6)) ?_⟩
      rintro v w7 ⟨p', q', rfl, ib, c7⟩
      rw [hw_b]
      refine ⟨_, _, _, _, _, _, _, _, _, _, _, _, _, _, _, _, _, _, _, _, _, rfl, ?_⟩
      rw [← hw_b p' q']
      refine useC (few_c ib) ?_
      rintro v w8 ⟨f2, rfl, hf2, c8⟩
      have d8 := d6.trans (c7.trans c8 (by simp)) (by simp)
      refine ⟨f2, rfl, ?_⟩
      cases f2 with
      | false => exact cT rfl ⟨d8, fun h => by cases h⟩
      | true =>
        have f8 := s3.chg.trans d8 (by simp)
        refine cF rfl ⟨_, _, _, _, _, _, _, _, _, _, _, _, _, _, _, _, _, _, _, _, _, (s3.quiet d8).cellsIn 0 rfl, useC (pl_c w8 (hc.chg f8)) ?_⟩
        rintro v w9 ⟨p2, q2, rfl, ic, c9⟩
        rw [hw_c]
        refine ⟨_, _, _, _, _, _, _, _, _, _, _, _, _, _, _, _, _, _, _, _, _, rfl, ?_⟩
        rw [← hw_c p2 q2]
        refine useC (few_c ic) ?_
        rintro v w10 ⟨f3, rfl, hf3, c10⟩
        refine ⟨f3, rfl, d8.trans (c9.trans c10 (by simp)) (by simp), fun h => ?_⟩
        cases f3 with
        | false => cases h
        | true =>
          have g1 := hf1 rfl
          have g2 := hf2 rfl
          have g3 := hf3 rfl
          exact ⟨⟨g1.l1, g1.l2, g1.l3, g1.nm, g1.pt⟩, ⟨g2.l1, g2.l2, g2.l3, g2.nm, g2.pt⟩, ⟨g3.l1, g3.l2, g3.l3, g3.nm, g3.pt⟩⟩

end Go.Proofs.YtdpcgfcabikjmaaGreatDoor


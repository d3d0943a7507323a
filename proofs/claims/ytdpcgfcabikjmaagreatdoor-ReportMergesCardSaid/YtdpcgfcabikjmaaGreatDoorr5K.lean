import Derived.Test.YtdpcgfcabikjmaaGreatDoorr5J
namespace Go.Proofs.YtdpcgfcabikjmaaGreatDoor
open Go Go.Vc Go.Sort Go.RowKit
set_option maxRecDepth 100000

/-- What merging two summaries comes to. -/
def MgR (a b : Sm) (w : World) : Value → World → Prop := fun r w' => ∃ (s : Sm) (A : Asn), r = .tuple #[.agg s.val.toArray, iv (mg a.ab b.ab).2] ∧ (∀ w0 w2, St w0 w2 A → s.In w2) ∧ s.ab = (mg a.ab b.ab).1 ∧ St w w' A

theorem mg_bad {w w' : World} {a b : Sm} (h : a.bds.map Bd.nm ≠ b.bds.map Bd.nm) (hc : Chg w w' []) : MgR a b w (.tuple #[.agg #[iv 0, iv 0, iv 0, iv 0, iv 0, iv 0, iv 0, iv 0, iv 0, iv 0, iv 0, iv 0, .slice none 0 0, .slice none 0 0, .slice none 0 0], iv 2]) w' := by
  have hn : a.ab.nms ≠ b.ab.nms := by
    intro he
    apply h
    simp only [AS.nms, Sm.ab, List.map_map] at he
    exact he
  have e : mg a.ab b.ab = (AS.zero, 2) := by unfold mg; rw [if_neg hn]
  refine ⟨Sm.zero, emp, by rw [e]; rfl, fun _ w2 _ => Sm.zero_in w2, by rw [e]; rfl, St.start' hc⟩

def Bd.pl (x y : Bd) (p : Option Addr) (c : Nat) : Bd := ⟨x.nm, ad x.d y.d, ad x.b y.b, ad x.wd y.wd, x.out || y.out, x.pts ++ y.pts, p, c⟩
theorem Bd.pl_ab (x y : Bd) (p : Option Addr) (c : Nat) : (x.pl y p c).ab = x.ab.pl y.ab := rfl

theorem zip_snoc {α : Type} {f : α → α → α} {l m : List α} {i : Nat} {x y : α} (hx : l[i]? = some x) (hy : m[i]? = some y) : List.zipWith f (l.take (i + 1)) (m.take (i + 1)) = List.zipWith f (l.take i) (m.take i) ++ [f x y] := by
  have h1 := (List.getElem?_eq_some_iff.1 hx).1
  have h2 := (List.getElem?_eq_some_iff.1 hy).1
  rw [take_snoc hx, take_snoc hy, List.zipWith_append (by simp; omega)]
  rfl

/-- The list of merged bidders so far. -/
structure Lk (a b : Sm) (i : Nat) (L : List Bd) : Prop where
  len : L.length = i
  ab : L.map Bd.ab = List.zipWith AB.pl ((a.bds.map Bd.ab).take i) ((b.bds.map Bd.ab).take i)
  int : ∀ x ∈ L, In x.d ∧ In x.b ∧ In x.wd ∧ ∀ n ∈ x.pts, In n
  pt : ∀ x ∈ L, x.pts.length ≤ 2000

theorem Lk.zero (a b : Sm) : Lk a b 0 [] := ⟨rfl, rfl, by simp, by simp⟩
theorem Lk.snoc {w : World} {a b : Sm} {i : Nat} {L : List Bd} (h : Lk a b i L) (ha : a.In w) (hb : b.In w) (ma : a.Mid) (mb : b.Mid) {x y : Bd} (hx : a.bds[i]? = some x) (hy : b.bds[i]? = some y) (p : Option Addr) (c : Nat) : Lk a b (i + 1) (L ++ [x.pl y p c]) := by
  refine ⟨by simp [h.len], ?_, ?_, ?_⟩
  · rw [zip_snoc (x := x.ab) (y := y.ab) (by simp [hx]) (by simp [hy]), List.map_append, h.ab]; rfl
  · intro z hz
    rcases List.mem_append.1 hz with hz | hz
    · exact h.int z hz
    · obtain rfl := List.mem_singleton.1 hz
      refine ⟨ad_in _ _, ad_in _ _, ad_in _ _, fun n hn => ?_⟩
      rcases List.mem_append.1 hn with hn | hn
      · exact (ha.bds i x hx).1.2.2.2 n hn
      · exact (hb.bds i y hy).1.2.2.2 n hn
  · intro z hz
    rcases List.mem_append.1 hz with hz | hz
    · exact h.pt z hz
    · obtain rfl := List.mem_singleton.1 hz
      have h1 := ma.pt x (List.mem_of_getElem? hx)
      have h2 := mb.pt y (List.mem_of_getElem? hy)
      simp only [Bd.pl, List.length_append]
      omega

theorem mg_good {w w' : World} {a b : Sm} {i : Nat} {L : List Bd} (ha : a.In w) (hb : b.In w) (ma : a.Mid) (mb : b.Mid) (hn : a.bds.map Bd.nm = b.bds.map Bd.nm) (hL : Lk a b i L) (hi : i = a.bds.length)
    {v0 v1 v2 v3 v4 v5 v6 v7 v8 v9 v10 : Int} {aP aB aI : Option Addr} {cP cB cI T2 : Nat} (hv : List.zipWith ad a.cs b.cs = [v0, v1, v2, v3, v4, v5, v6, v7, v8, v9, v10])
    (S : St w w' (Sep [rowA T2 6 (.slice aB i cB) i ((L.map Bd.cells).flatten), BA L, rowA 3 1 (.slice aI (a.rer ++ b.rer).length cI) (a.rer ++ b.rer).length ((a.rer ++ b.rer).map iv), rowA 66 6 (.slice aP (a.ps ++ b.ps).length cP) (a.ps ++ b.ps).length (fl (a.ps ++ b.ps))])) :
    MgR a b w (.tuple #[.agg #[iv v0, iv v1, iv v2, iv v3, iv v4, iv v5, iv v6, iv v7, iv v8, iv v9, iv v10, iv (ad a.ref b.ref), .slice aP (a.ps ++ b.ps).length cP, .slice aB i cB, .slice aI (a.rer ++ b.rer).length cI], iv 0]) w' := by
  have hnm : a.ab.nms = b.ab.nms := by simp only [AS.nms, Sm.ab, List.map_map]; exact hn
  have e : mg a.ab b.ab = (a.ab.pl b.ab, 0) := by unfold mg; rw [if_pos hnm]
  have hlen : a.bds.length = b.bds.length := by have := congrArg List.length hn; simpa using this
  have hp : ∀ p ∈ a.ps ++ b.ps, p.length = 6 := fun p hp => by
    rcases List.mem_append.1 hp with h | h
    · exact ha.ps.len p h
    · exact hb.ps.len p h
  have l1 := ma.l1; have l2 := ma.l2; have l3 := ma.l3; have l4 := mb.l1; have l5 := mb.l3
  refine ⟨⟨[v0, v1, v2, v3, v4, v5, v6, v7, v8, v9, v10], ad a.ref b.ref, aP, cP, a.ps ++ b.ps, aB, cB, L, aI, cI, a.rer ++ b.rer⟩, _, ?_, fun w0 w2 S2 => ?_, ?_, S⟩
  · rw [e]; unfold Sm.val; simp only [hL.len]; rfl
  · refine ⟨rfl, ?_, ad_in _ _, rdP_row (S2.rowAt 3 rfl) rfl hp ?_, rdB_mk (S2.rowAt 0 rfl) hL.len.symm hL.int (ba_read ((S2.out 1 rfl).first)), Rd.row (S2.rowAt 2 rfl), ?_, ?_, ?_, ?_, ?_⟩
    · intro n hn
      simp only at hn
      rw [← hv] at hn
      obtain ⟨x, y, hxy⟩ : ∃ x y, n = ad x y := by
        have aux : ∀ (l m : List Int), n ∈ List.zipWith ad l m → ∃ x y, n = ad x y := by
          intro l
          induction l with
          | nil => intro m h; simp at h
          | cons x l ih =>
            intro m h
            cases m with
            | nil => simp at h
            | cons y m =>
              rcases List.mem_cons.1 (by simpa using h) with h | h
              · exact ⟨x, y, h⟩
              · exact ih m h
        exact aux _ _ hn
      rw [hxy]; exact ad_in _ _
    · intro p hp
      rcases List.mem_append.1 hp with h | h
      · exact ha.ps.ins p h
      · exact hb.ps.ins p h
    · intro n hn
      rcases List.mem_append.1 hn with h | h
      · exact ha.reri n h
      · exact hb.reri n h
    · simp only [List.length_append]; omega
    · simp only; rw [hL.len]; omega
    · simp only [List.length_append]; omega
    · intro x hx; have := hL.pt x hx; omega
  · rw [e]
    unfold Sm.ab AS.pl
    simp only
    have h1 : ((a.bds.map Bd.ab).take i) = a.bds.map Bd.ab := List.take_of_length_le (by simp; omega)
    have h2 : ((b.bds.map Bd.ab).take i) = b.bds.map Bd.ab := List.take_of_length_le (by simp; omega)
    have := hL.ab
    rw [h1, h2] at this
    rw [this, hv]

set_option maxHeartbeats 4000000 in
theorem rmerge_c {w : World} {a b : Sm} (ha : a.In w) (hb : b.In w) (ma : a.Mid) (mb : b.Mid) : Calls Tryz.prog 10 #[.agg a.val.toArray, .agg b.val.toArray] w (RetC (MgR a b w)) := by
  obtain ⟨n1, n2, n3, n4, n5, n6, n7, n8, n9, n10, n11, hea⟩ := len11 ha.n11
  obtain ⟨m1, m2, m3, m4, m5, m6, m7, m8, m9, m10, m11, heb⟩ := len11 hb.n11
  have hva : a.val.toArray = #[iv n1, iv n2, iv n3, iv n4, iv n5, iv n6, iv n7, iv n8, iv n9, iv n10, iv n11, iv a.ref, .slice a.a1 a.ps.length a.c1, .slice a.a2 a.bds.length a.c2, .slice a.a3 a.rer.length a.c3] := by unfold Sm.val; rw [hea]; rfl
  have hvb : b.val.toArray = #[iv m1, iv m2, iv m3, iv m4, iv m5, iv m6, iv m7, iv m8, iv m9, iv m10, iv m11, iv b.ref, .slice b.a1 b.ps.length b.c1, .slice b.a2 b.bds.length b.c2, .slice b.a3 b.rer.length b.c3] := by unfold Sm.val; rw [heb]; rfl
  rw [hva, hvb]
  refine rMerge_ok ?_
  unfold rMerge
  refine newK_mk (newK_mk (newK_mk ?_))
  have s3 := (((St.start w).one.boxL #[iv n1, iv n2, iv n3, iv n4, iv n5, iv n6, iv n7, iv n8, iv n9, iv n10, iv n11, iv a.ref, .slice a.a1 a.ps.length a.c1, .slice a.a2 a.bds.length a.c2, .slice a.a3 a.rer.length a.c3] 27).boxL #[iv m1, iv m2, iv m3, iv m4, iv m5, iv m6, iv m7, iv m8, iv m9, iv m10, iv m11, iv b.ref, .slice b.a1 b.ps.length b.c1, .slice b.a2 b.bds.length b.c2, .slice b.a3 b.rer.length b.c3] 27).boxL #[iv 0, iv 0, iv 0, iv 0, iv 0, iv 0, iv 0, iv 0, iv 0, iv 0, iv 0, iv 0, .slice none 0 0, .slice none 0 0, .slice none 0 0] 27
  generalize hw3 : (((w.alloc _).alloc _).alloc _) = w3 at s3 ⊢
  generalize hr1 : w.heap.size = r1 at s3 ⊢
  generalize hr2 : (w.alloc _).heap.size = r2 at s3 ⊢
  generalize hr3 : ((w.alloc _).alloc _).heap.size = r3 at s3 ⊢
  have c1 : ∀ {w' : World}, Chg w3 w' [] → ∀ (j : Nat) (v : Value), (#[iv n1, iv n2, iv n3, iv n4, iv n5, iv n6, iv n7, iv n8, iv n9, iv n10, iv n11, iv a.ref, .slice a.a1 a.ps.length a.c1, .slice a.a2 a.bds.length a.c2, .slice a.a3 a.rer.length a.c3] : Array Value)[j]? = some v → w'.cell? ⟨r1, j, none⟩ = some v := fun hc j v hv => cell_chg (by rw [s3.boxedAt 2 rfl]; exact hv) hc
  have c2 : ∀ {w' : World}, Chg w3 w' [] → ∀ (j : Nat) (v : Value), (#[iv m1, iv m2, iv m3, iv m4, iv m5, iv m6, iv m7, iv m8, iv m9, iv m10, iv m11, iv b.ref, .slice b.a1 b.ps.length b.c1, .slice b.a2 b.bds.length b.c2, .slice b.a3 b.rer.length b.c3] : Array Value)[j]? = some v → w'.cell? ⟨r2, j, none⟩ = some v := fun hc j v hv => cell_chg (by rw [s3.boxedAt 1 rfl]; exact hv) hc
  have z3 : Chg w3 w3 [] := Chg.refl _ _
  have la := ma.l2; have lb := mb.l2; have la1 := ma.l1; have lb1 := mb.l1; have la3 := ma.l3; have lb3 := mb.l3
  refine ⟨_, _, _, c1 z3 13 _ rfl, _, _, _, c2 z3 13 _ rfl, ?_⟩
  by_cases hlen : a.bds.length = b.bds.length
  · refine cF (by simp [hlen]) ⟨_, _, _, c1 z3 13 _ rfl, fun n w5 m => ∃ i : Nat, n = i ∧ i ≤ a.bds.length ∧ m = a.bds.length - i ∧ (a.bds.take i).map Bd.nm = (b.bds.take i).map Bd.nm ∧ Chg w3 w5 [], ⟨a.bds.length, 0, rfl, by omega, by omega, rfl, z3⟩, ?_⟩
    rintro w5 m n ⟨i, rfl, hi, hm, hnm, d5⟩ -
    have d6 : Chg w3 w5.drew [] := d5.trans (Chg.drew w5 []) (by simp)
    by_cases hlt : (i : Int) < (a.bds.length : Int)
    · have hi' : i < a.bds.length := by omega
      have f6 : Chg w w5.drew [] := s3.chg.trans d6 (by simp)
      have gx : a.bds[i]? = some a.bds[i] := by simp [hi']
      have gy : b.bds[i]? = some (b.bds[i]'(by omega)) := by simp [show i < b.bds.length by omega]
      generalize hx : a.bds[i] = x at gx
      generalize hy : b.bds[i]'(by omega) = y at gy
      obtain ⟨_, _, q1, hq1, g1⟩ := (ha.chg f6).bds i x gx
      obtain ⟨_, _, q2, hq2, g2⟩ := (hb.chg f6).bds i y gy
      have k1 : w5.drew.cell? (q1.add (i * 6)) = some (sv x.nm) := by have := g1.1; rwa [Addr.add_add] at this
      have k2 : w5.drew.cell? (q2.add (i * 6)) = some (sv y.nm) := by have := g2.1; rwa [Addr.add_add] at this
      refine cT (by simpa using hlt) ⟨_, _, _, c1 d6 13 _ rfl, ?_⟩
      rw [hq1]
      refine ⟨by omega, by omega, _, k1, _, _, _, c2 d6 13 _ rfl, ?_⟩
      rw [hq2]
      refine ⟨by omega, by omega, _, k2, ?_⟩
      by_cases hxy : x.nm = y.nm
      · refine cF (by rw [hxy]; simp) ⟨a.bds.length - (i + 1), by omega, i + 1, by rw [iwrap ⟨by omega, by omega⟩]; rfl, by omega, rfl, ?_, d6⟩
        rw [take_snoc gx, take_snoc gy, List.map_append, List.map_append, hnm]
        simp [hxy]
      · refine cT (by rw [bsl, bsl]; simpa using hxy) ?_
        have s6 := s3.quiet d6
        refine s6.stLAt 0 rfl [iv 0, iv 0, iv 0, iv 0, iv 0, iv 0, iv 0, iv 0, iv 0, iv 0, iv 0, iv 0, .slice none 0 0, .slice none 0 0, .slice none 0 0] rfl (by intro v hv; simp at hv; rcases hv with rfl | rfl <;> rfl) fun w' s' => ?_
        refine ⟨_, _, _, _, _, _, _, _, _, _, _, _, _, _, _, _, _, _, _, _, _, s'.cellsIn 0 rfl, mg_bad (fun he => hxy ?_) s'.chg⟩
        have := congrArg (fun l => l[i]?) he
        simpa [gx, gy] using this
    · have hie : i = a.bds.length := by omega
      have hn : a.bds.map Bd.nm = b.bds.map Bd.nm := by
        rw [List.take_of_length_le (by omega), List.take_of_length_le (by omega)] at hnm
        exact hnm
      clear hnm hm hlt hi
      have s6 := s3.quiet d6
      have f6 : Chg w w5.drew [] := s6.chg
      generalize hw6 : w5.drew = w6 at s6 d6 f6 ⊢
      refine cF (by simp; omega) ⟨_, c1 d6 11 _ rfl, _, c2 d6 11 _ rfl, _, _, _, c1 d6 12 _ rfl, _, _, _, c2 d6 12 _ rfl, _, _, _, c1 d6 14 _ rfl, _, _, _, c2 d6 14 _ rfl, ?_, ?_⟩
      · refine useC (joinP_c (ha.ps.chg f6) (hb.ps.chg f6) (by omega) (by omega)) ?_
        rintro v w7 ⟨aP, cP, rfl, kP⟩
        have s7 := s6.after kP
        have f7 := s7.chg
        have d7 : Chg w3 w7 [] := d6.trans kP.chg (by simp)
        refine ⟨_, _, _, rfl, c2 d7 14 _ rfl, c1 d7 14 _ rfl, c2 d7 11 _ rfl, c1 d7 11 _ rfl, ?_, ?_⟩
        · refine useC (joinI_c (ha.rer.chg f7) (hb.rer.chg f7) (by omega) (by omega)) ?_
          rintro v w8 ⟨aI, cI, rfl, kI⟩
          have s8 := s7.after kI
          have d8 : Chg w3 w8 [] := d7.trans kI.chg (by simp)
          have s9 := St.boxL (l := [rowA 3 1 _ _ _, rowA 66 6 _ _ _, _, _, _, _]) s8 #[iv 0, iv 0, iv 0, iv 0, iv 0, iv 0, iv 0, iv 0, iv 0, iv 0, iv 0, iv 0, .slice none 0 0, .slice none 0 0, .slice none 0 0] 27
          have d9 : Chg w3 (w8.alloc (.cells #[iv 0, iv 0, iv 0, iv 0, iv 0, iv 0, iv 0, iv 0, iv 0, iv 0, iv 0, iv 0, .slice none 0 0, .slice none 0 0, .slice none 0 0] 27)) [] := d8.trans (Chg.new _ _ []) (by simp)
          refine ⟨_, _, _, rfl, c2 d8 11 _ rfl, c1 d8 11 _ rfl, newK_mk ⟨c2 d9 11 _ rfl, c1 d9 11 _ rfl, ?_⟩⟩
          have S := s9
          generalize hwX : (w8.alloc (.cells #[iv 0, iv 0, iv 0, iv 0, iv 0, iv 0, iv 0, iv 0, iv 0, iv 0, iv 0, iv 0, .slice none 0 0, .slice none 0 0, .slice none 0 0] 27)) = wX at S ⊢
          generalize hr4 : w8.heap.size = r4 at S ⊢
          clear s9 d9 s8 d8 kI s7 f7 d7 kP
          refine S.stLAt 0 rfl [iv 0, iv 0, iv 0, iv 0, iv 0, iv 0, iv 0, iv 0, iv 0, iv 0, iv 0, iv (ad a.ref b.ref), .slice aP (a.ps ++ b.ps).length cP, .slice none 0 0, .slice aI (a.rer ++ b.rer).length cI] rfl (by intro v hv; simp at hv; rcases hv with rfl | rfl | rfl | rfl | rfl <;> rfl) fun w10 s10 => ?_
          let cnt : Nat → Array Value := fun k => ((List.zipWith ad ([n1, n2, n3, n4, n5, n6, n7, n8, n9, n10, n11].take k) ([m1, m2, m3, m4, m5, m6, m7, m8, m9, m10, m11].take k) ++ List.replicate (11 - k) 0).map iv ++ [iv (ad a.ref b.ref), .slice aP (a.ps ++ b.ps).length cP, .slice none 0 0, .slice aI (a.rer ++ b.rer).length cI]).toArray
          have hcnt : ∀ k, k < 11 → (cnt k).size = 15 ∧ (cnt k).setIfInBounds k (iv (ad ([n1, n2, n3, n4, n5, n6, n7, n8, n9, n10, n11].getD k 0) ([m1, m2, m3, m4, m5, m6, m7, m8, m9, m10, m11].getD k 0))) = cnt (k + 1) := fun k hk => by
            match k, hk with
            | 0, _ | 1, _ | 2, _ | 3, _ | 4, _ | 5, _ | 6, _ | 7, _ | 8, _ | 9, _ | 10, _ => exact ⟨rfl, rfl⟩
          have hra : ∀ k, k < 11 → (#[iv n1, iv n2, iv n3, iv n4, iv n5, iv n6, iv n7, iv n8, iv n9, iv n10, iv n11, iv a.ref, .slice a.a1 a.ps.length a.c1, .slice a.a2 a.bds.length a.c2, .slice a.a3 a.rer.length a.c3] : Array Value)[k]? = some (iv ([n1, n2, n3, n4, n5, n6, n7, n8, n9, n10, n11].getD k 0)) := fun k hk => by
            match k, hk with
            | 0, _ | 1, _ | 2, _ | 3, _ | 4, _ | 5, _ | 6, _ | 7, _ | 8, _ | 9, _ | 10, _ => rfl
          have hrb : ∀ k, k < 11 → (#[iv m1, iv m2, iv m3, iv m4, iv m5, iv m6, iv m7, iv m8, iv m9, iv m10, iv m11, iv b.ref, .slice b.a1 b.ps.length b.c1, .slice b.a2 b.bds.length b.c2, .slice b.a3 b.rer.length b.c3] : Array Value)[k]? = some (iv ([m1, m2, m3, m4, m5, m6, m7, m8, m9, m10, m11].getD k 0)) := fun k hk => by
            match k, hk with
            | 0, _ | 1, _ | 2, _ | 3, _ | 4, _ | 5, _ | 6, _ | 7, _ | 8, _ | 9, _ | 10, _ => rfl
          have ea : ∀ (r k : Nat), Addr.add ⟨r, 0, none⟩ (((k : Nat) : Int).toNat * 1) = ⟨r, k, none⟩ := fun r k => by rw [addA2]; simp
          refine ⟨fun n w11 m => ∃ k : Nat, n = k ∧ k ≤ 11 ∧ m = 11 - k ∧ St w w11 (Sep [boxA r4 (cnt k) 27, rowA 3 1 (.slice aI (a.rer ++ b.rer).length cI) (a.rer ++ b.rer).length ((a.rer ++ b.rer).map iv), rowA 66 6 (.slice aP (a.ps ++ b.ps).length cP) (a.ps ++ b.ps).length (fl (a.ps ++ b.ps)), boxA r3 #[iv 0, iv 0, iv 0, iv 0, iv 0, iv 0, iv 0, iv 0, iv 0, iv 0, iv 0, iv 0, .slice none 0 0, .slice none 0 0, .slice none 0 0] 27, boxA r2 #[iv m1, iv m2, iv m3, iv m4, iv m5, iv m6, iv m7, iv m8, iv m9, iv m10, iv m11, iv b.ref, .slice b.a1 b.ps.length b.c1, .slice b.a2 b.bds.length b.c2, .slice b.a3 b.rer.length b.c3] 27, boxA r1 #[iv n1, iv n2, iv n3, iv n4, iv n5, iv n6, iv n7, iv n8, iv n9, iv n10, iv n11, iv a.ref, .slice a.a1 a.ps.length a.c1, .slice a.a2 a.bds.length a.c2, .slice a.a3 a.rer.length a.c3] 27, emp]), ⟨11, 0, rfl, by omega, by omega, s10⟩, ?_⟩
          rintro w11 m n ⟨k, rfl, hk, hm, s11⟩ -
          by_cases hlt : ((k : Nat) : Int) < 11
          · have hk' : k < 11 := by omega
            have s12 := s11.quiet (Chg.drew w11 [])
            refine cT (by simpa using hlt) ⟨by omega, by omega, [n1, n2, n3, n4, n5, n6, n7, n8, n9, n10, n11].getD k 0, ?_, by omega, by omega, [m1, m2, m3, m4, m5, m6, m7, m8, m9, m10, m11].getD k 0, ?_, by omega, by omega, ?_⟩
            · rw [ea, s12.boxedAt 5 rfl]; exact hra k hk'
            · rw [ea, s12.boxedAt 4 rfl]; exact hrb k hk'
            · rw [ea]
              refine s12.stAt 0 rfl (by rw [(hcnt k hk').1]; omega) rfl fun w13 s13 => ?_
              refine ⟨11 - (k + 1), by omega, k + 1, by rw [iwrap ⟨by omega, by omega⟩]; rfl, by omega, rfl, ?_⟩
              rw [← (hcnt k hk').2]
              exact s13
          · obtain rfl : k = 11 := by omega
            refine cF (by simp) ⟨_, _, _, by rw [s11.boxedAt 5 rfl]; rfl, ?_⟩
            refine ⟨fun n w13 m => ∃ (i : Nat) (aB : Option Addr) (cB : Nat) (L : List Bd), n = i ∧ i ≤ a.bds.length ∧ m = a.bds.length - i ∧ Lk a b i L ∧
              St w w13 (Sep [rowA 47 6 (.slice aB i cB) i ((L.map Bd.cells).flatten), BA L, boxA r4 #[iv (ad n1 m1), iv (ad n2 m2), iv (ad n3 m3), iv (ad n4 m4), iv (ad n5 m5), iv (ad n6 m6), iv (ad n7 m7), iv (ad n8 m8), iv (ad n9 m9), iv (ad n10 m10), iv (ad n11 m11), iv (ad a.ref b.ref), .slice aP (a.ps ++ b.ps).length cP, .slice aB i cB, .slice aI (a.rer ++ b.rer).length cI] 27, rowA 3 1 (.slice aI (a.rer ++ b.rer).length cI) (a.rer ++ b.rer).length ((a.rer ++ b.rer).map iv), rowA 66 6 (.slice aP (a.ps ++ b.ps).length cP) (a.ps ++ b.ps).length (fl (a.ps ++ b.ps)), boxA r3 #[iv 0, iv 0, iv 0, iv 0, iv 0, iv 0, iv 0, iv 0, iv 0, iv 0, iv 0, iv 0, .slice none 0 0, .slice none 0 0, .slice none 0 0] 27, boxA r2 #[iv m1, iv m2, iv m3, iv m4, iv m5, iv m6, iv m7, iv m8, iv m9, iv m10, iv m11, iv b.ref, .slice b.a1 b.ps.length b.c1, .slice b.a2 b.bds.length b.c2, .slice b.a3 b.rer.length b.c3] 27, boxA r1 #[iv n1, iv n2, iv n3, iv n4, iv n5, iv n6, iv n7, iv n8, iv n9, iv n10, iv n11, iv a.ref, .slice a.a1 a.ps.length a.c1, .slice a.a2 a.bds.length a.c2, .slice a.a3 a.rer.length a.c3] 27, emp]), ⟨a.bds.length, 0, none, 0, [], rfl, by omega, by omega, Lk.zero a b, St.rowL (l := [emp, _, _, _, _, _, _, _]) (St.picks (l := [emp, boxA r4 _ 27, _, _, _, _, _, _]) (St.after s11 (St.start w11)) [0, 1, 2, 3, 4, 5, 6, 7]) 47 6⟩, ?_⟩
            rintro w13 m n ⟨i, aB, cB, L, rfl, hi, hm, hL, s13⟩ -
            by_cases hlt : (i : Int) < (a.bds.length : Int)
            · have hi' : i < a.bds.length := by omega
              have gx : a.bds[i]? = some a.bds[i] := by simp [hi']
              have gy : b.bds[i]? = some (b.bds[i]'(by omega)) := by simp [show i < b.bds.length by omega]
              generalize hx : a.bds[i] = x at gx
              generalize hy : b.bds[i]'(by omega) = y at gy
              have px := ma.pt x (List.mem_of_getElem? gx)
              have py := mb.pt y (List.mem_of_getElem? gy)
              obtain ⟨_, _, q1, hq1, g1⟩ := (ha.chg s13.chg).bds i x gx
              refine cT (by simpa using hlt) ⟨fun w14 => ∃ (aB : Option Addr) (cB : Nat) (L : List Bd), Lk a b (i + 1) L ∧
                St w w14 (Sep [rowA 47 6 (.slice aB (i + 1) cB) (i + 1) ((L.map Bd.cells).flatten), BA L, boxA r4 #[iv (ad n1 m1), iv (ad n2 m2), iv (ad n3 m3), iv (ad n4 m4), iv (ad n5 m5), iv (ad n6 m6), iv (ad n7 m7), iv (ad n8 m8), iv (ad n9 m9), iv (ad n10 m10), iv (ad n11 m11), iv (ad a.ref b.ref), .slice aP (a.ps ++ b.ps).length cP, .slice aB (i + 1) cB, .slice aI (a.rer ++ b.rer).length cI] 27, rowA 3 1 (.slice aI (a.rer ++ b.rer).length cI) (a.rer ++ b.rer).length ((a.rer ++ b.rer).map iv), rowA 66 6 (.slice aP (a.ps ++ b.ps).length cP) (a.ps ++ b.ps).length (fl (a.ps ++ b.ps)), boxA r3 #[iv 0, iv 0, iv 0, iv 0, iv 0, iv 0, iv 0, iv 0, iv 0, iv 0, iv 0, iv 0, .slice none 0 0, .slice none 0 0, .slice none 0 0] 27, boxA r2 #[iv m1, iv m2, iv m3, iv m4, iv m5, iv m6, iv m7, iv m8, iv m9, iv m10, iv m11, iv b.ref, .slice b.a1 b.ps.length b.c1, .slice b.a2 b.bds.length b.c2, .slice b.a3 b.rer.length b.c3] 27, boxA r1 #[iv n1, iv n2, iv n3, iv n4, iv n5, iv n6, iv n7, iv n8, iv n9, iv n10, iv n11, iv a.ref, .slice a.a1 a.ps.length a.c1, .slice a.a2 a.bds.length a.c2, .slice a.a3 a.rer.length a.c3] 27, emp]), ?_, ?_⟩
              · rintro w14 ⟨aB', cB', L', hL', s14⟩ -
                exact ⟨a.bds.length - (i + 1), by omega, i + 1, aB', cB', L', by rw [iwrap ⟨by omega, by omega⟩]; rfl, by omega, rfl, hL', s14⟩
              rw [hq1]
              refine ⟨by omega, by omega, _, _, _, _, _, _, _, _, g1, newK_mk ?_⟩
              refine (s13.boxL _ 47).stLAt 0 rfl x.cells rfl x.one fun w16 s16 => ?_
              obtain ⟨_, _, q2, hq2, g2⟩ := (hb.chg s16.chg).bds i y gy
              refine ⟨_, _, _, by rw [s16.boxedAt 7 rfl]; rfl, ?_⟩
              rw [hq2]
              refine ⟨by omega, by omega, _, _, _, _, _, _, _, _, g2, newK_mk ?_⟩
              refine (s16.boxL _ 47).stLAt 0 rfl y.cells rfl y.one fun w18 s18' => ?_
              have s18 := s18'.quiet (Chg.drew w18 [])
              clear s18'
              generalize hw19 : w18.drew = w19 at s18 ⊢
              generalize hr5 : w13.heap.size = r5 at s18 ⊢
              generalize hr6 : w16.heap.size = r6 at s18 ⊢
              have cx : ∀ {w' : World}, Chg w19 w' [] → ∀ (j : Nat) (v : Value), x.cells[j]? = some v → w'.cell? ⟨r5, j, none⟩ = some v := fun hc j v hv => cell_chg (by rw [s18.boxedAt 1 rfl]; simpa using hv) hc
              have cy : ∀ {w' : World}, Chg w19 w' [] → ∀ (j : Nat) (v : Value), y.cells[j]? = some v → w'.cell? ⟨r6, j, none⟩ = some v := fun hc j v hv => cell_chg (by rw [s18.boxedAt 0 rfl]; simpa using hv) hc
              have c4 : ∀ {w' : World}, Chg w19 w' [] → w'.cell? ⟨r4, 13, none⟩ = some (.slice aB i cB) := fun hc => cell_chg (by rw [s18.boxedAt 4 rfl]; rfl) hc
              have z9 : Chg w19 w19 [] := Chg.refl _ _
              have pts := joinI_c (c1 := x.pc) (c2 := y.pc) ((ha.chg s18.chg).bds i x gx).2.1 ((hb.chg s18.chg).bds i y gy).2.1 (by omega) (by omega)
              refine ⟨_, _, _, c4 z9, _, cx z9 0 _ rfl, _, cx z9 1 _ rfl, _, cy z9 1 _ rfl, _, cx z9 2 _ rfl, _, cy z9 2 _ rfl, _, cx z9 3 _ rfl, _, cy z9 3 _ rfl, x.out, cx z9 4 _ rfl, ?_⟩
              cases hox : x.out with
              | true =>
                refine cT rfl ⟨_, _, _, cx z9 5 _ rfl, _, _, _, cy z9 5 _ rfl, useC pts ?_⟩
                rintro v w20 ⟨pa, pc, rfl, k20⟩
                have d20 := k20.chg
                have s20 := s18.after k20
                refine ⟨_, _, _, rfl, cy d20 3 _ rfl, cx d20 3 _ rfl, cy d20 2 _ rfl, cx d20 2 _ rfl, cy d20 1 _ rfl, cx d20 1 _ rfl, cx d20 0 _ rfl, c4 d20, newK_mk ⟨c4 (d20.trans (Chg.new _ _ []) (by simp)), ?_⟩⟩
                have ez : (x.pl y pa pc).cells.toArray = #[sv x.nm, iv (ad x.d y.d), iv (ad x.b y.b), iv (ad x.wd y.wd), .bool true, .slice pa (x.pts ++ y.pts).length pc] := by unfold Bd.pl Bd.cells; rw [hox]; rfl
                have s21 := St.boxL (l := [rowA 3 1 _ _ _, _, _, _, _, _, _, _, _, _, _, _]) s20 (x.pl y pa pc).cells.toArray 47
                rw [ez] at s21
                have s21' := s21.out 4 rfl
                refine appR_st sl24 s21' (m := 1) (news := (x.pl y pa pc).cells) rfl (fun j u hj => ⟨_, rfl, ?_⟩) (x.pl y pa pc).one (by omega) (by omega) fun aN cN w22 s22 => ?_
                · rw [addA2, Nat.zero_add, s21.boxedAt 0 rfl, ← ez]; simpa using hj
                have s22' := s22.back (l := _) (i := 4) (by simp)
                refine s22'.stAt 6 rfl (show 13 < 15 by decide) rfl fun w23 s23 => ?_
                have s24 : St w w23 (Sep [ptsA (x.pl y pa pc), BA L, rowA 47 6 (.slice aN (i + 1) cN) (i + 1) ((L.map Bd.cells).flatten ++ (x.pl y pa pc).cells), boxA r4 #[iv (ad n1 m1), iv (ad n2 m2), iv (ad n3 m3), iv (ad n4 m4), iv (ad n5 m5), iv (ad n6 m6), iv (ad n7 m7), iv (ad n8 m8), iv (ad n9 m9), iv (ad n10 m10), iv (ad n11 m11), iv (ad a.ref b.ref), .slice aP (a.ps ++ b.ps).length cP, .slice aN (i + 1) cN, .slice aI (a.rer ++ b.rer).length cI] 27, rowA 3 1 (.slice aI (a.rer ++ b.rer).length cI) (a.rer ++ b.rer).length ((a.rer ++ b.rer).map iv), rowA 66 6 (.slice aP (a.ps ++ b.ps).length cP) (a.ps ++ b.ps).length (fl (a.ps ++ b.ps)), boxA r3 #[iv 0, iv 0, iv 0, iv 0, iv 0, iv 0, iv 0, iv 0, iv 0, iv 0, iv 0, iv 0, .slice none 0 0, .slice none 0 0, .slice none 0 0] 27, boxA r2 #[iv m1, iv m2, iv m3, iv m4, iv m5, iv m6, iv m7, iv m8, iv m9, iv m10, iv m11, iv b.ref, .slice b.a1 b.ps.length b.c1, .slice b.a2 b.bds.length b.c2, .slice b.a3 b.rer.length b.c3] 27, boxA r1 #[iv n1, iv n2, iv n3, iv n4, iv n5, iv n6, iv n7, iv n8, iv n9, iv n10, iv n11, iv a.ref, .slice a.a1 a.ps.length a.c1, .slice a.a2 a.bds.length a.c2, .slice a.a3 a.rer.length a.c3] 27, emp]) := s23.picks [1, 5, 4, 6, 7, 8, 9, 10, 11, 12]
                have s25 := ba_snoc (x := x.pl y pa pc) s24
                refine ⟨aN, cN, L ++ [x.pl y pa pc], hL.snoc ha hb ma mb gx gy pa pc, ?_⟩
                have e : ((L ++ [x.pl y pa pc]).map Bd.cells).flatten = (L.map Bd.cells).flatten ++ (x.pl y pa pc).cells := by simp
                rw [e, ← hq1, ← hq2]
                exact St.picks (l := [BA (L ++ [x.pl y pa pc]), rowA 47 6 _ _ _, _, _, _, _, _, _, _]) s25 [1, 0, 2, 3, 4, 5, 6, 7, 8]
              | false =>
                refine cF rfl ⟨y.out, cy z9 4 _ rfl, _, _, _, cx z9 5 _ rfl, _, _, _, cy z9 5 _ rfl, useC pts ?_⟩
                rintro v w20 ⟨pa, pc, rfl, k20⟩
                have d20 := k20.chg
                have s20 := s18.after k20
                refine ⟨_, _, _, rfl, cy d20 4 _ rfl, cy d20 3 _ rfl, cx d20 3 _ rfl, cy d20 2 _ rfl, cx d20 2 _ rfl, cy d20 1 _ rfl, cx d20 1 _ rfl, cx d20 0 _ rfl, c4 d20, newK_mk ⟨c4 (d20.trans (Chg.new _ _ []) (by simp)), ?_⟩⟩
                have ez : (x.pl y pa pc).cells.toArray = #[sv x.nm, iv (ad x.d y.d), iv (ad x.b y.b), iv (ad x.wd y.wd), .bool y.out, .slice pa (x.pts ++ y.pts).length pc] := by unfold Bd.pl Bd.cells; rw [hox]; rfl
                have s21 := St.boxL (l := [rowA 3 1 _ _ _, _, _, _, _, _, _, _, _, _, _, _]) s20 (x.pl y pa pc).cells.toArray 47
                rw [ez] at s21
                have s21' := s21.out 4 rfl
                refine appR_st sl24 s21' (m := 1) (news := (x.pl y pa pc).cells) rfl (fun j u hj => ⟨_, rfl, ?_⟩) (x.pl y pa pc).one (by omega) (by omega) fun aN cN w22 s22 => ?_
                · rw [addA2, Nat.zero_add, s21.boxedAt 0 rfl, ← ez]; simpa using hj
                have s22' := s22.back (l := _) (i := 4) (by simp)
                refine s22'.stAt 6 rfl (show 13 < 15 by decide) rfl fun w23 s23 => ?_
                have s24 : St w w23 (Sep [ptsA (x.pl y pa pc), BA L, rowA 47 6 (.slice aN (i + 1) cN) (i + 1) ((L.map Bd.cells).flatten ++ (x.pl y pa pc).cells), boxA r4 #[iv (ad n1 m1), iv (ad n2 m2), iv (ad n3 m3), iv (ad n4 m4), iv (ad n5 m5), iv (ad n6 m6), iv (ad n7 m7), iv (ad n8 m8), iv (ad n9 m9), iv (ad n10 m10), iv (ad n11 m11), iv (ad a.ref b.ref), .slice aP (a.ps ++ b.ps).length cP, .slice aN (i + 1) cN, .slice aI (a.rer ++ b.rer).length cI] 27, rowA 3 1 (.slice aI (a.rer ++ b.rer).length cI) (a.rer ++ b.rer).length ((a.rer ++ b.rer).map iv), rowA 66 6 (.slice aP (a.ps ++ b.ps).length cP) (a.ps ++ b.ps).length (fl (a.ps ++ b.ps)), boxA r3 #[iv 0, iv 0, iv 0, iv 0, iv 0, iv 0, iv 0, iv 0, iv 0, iv 0, iv 0, iv 0, .slice none 0 0, .slice none 0 0, .slice none 0 0] 27, boxA r2 #[iv m1, iv m2, iv m3, iv m4, iv m5, iv m6, iv m7, iv m8, iv m9, iv m10, iv m11, iv b.ref, .slice b.a1 b.ps.length b.c1, .slice b.a2 b.bds.length b.c2, .slice b.a3 b.rer.length b.c3] 27, boxA r1 #[iv n1, iv n2, iv n3, iv n4, iv n5, iv n6, iv n7, iv n8, iv n9, iv n10, iv n11, iv a.ref, .slice a.a1 a.ps.length a.c1, .slice a.a2 a.bds.length a.c2, .slice a.a3 a.rer.length a.c3] 27, emp]) := s23.picks [1, 5, 4, 6, 7, 8, 9, 10, 11, 12]
                have s25 := ba_snoc (x := x.pl y pa pc) s24
                refine ⟨aN, cN, L ++ [x.pl y pa pc], hL.snoc ha hb ma mb gx gy pa pc, ?_⟩
                have e : ((L ++ [x.pl y pa pc]).map Bd.cells).flatten = (L.map Bd.cells).flatten ++ (x.pl y pa pc).cells := by simp
                rw [e, ← hq1, ← hq2]
                exact St.picks (l := [BA (L ++ [x.pl y pa pc]), rowA 47 6 _ _ _, _, _, _, _, _, _, _]) s25 [1, 0, 2, 3, 4, 5, 6, 7, 8]
            · have hie2 : i = a.bds.length := by omega
              refine cF (by simpa using hlt) ⟨_, _, _, _, _, _, _, _, _, _, _, _, _, _, _, _, _, _, _, _, _, s13.cellsIn 2 rfl, ?_⟩
              refine s13.stLAt 5 rfl _ rfl (by intro v hv; simp at hv; rcases hv with rfl | rfl | rfl | rfl | rfl | rfl | rfl | rfl | rfl | rfl | rfl | rfl | rfl | rfl | rfl <;> rfl) fun w27 s27 => ?_
              refine ⟨_, _, _, _, _, _, _, _, _, _, _, _, _, _, _, _, _, _, _, _, _, s27.cellsIn 5 rfl, ?_⟩
              exact mg_good ha hb ma mb hn hL hie2 (by rw [hea, heb]; rfl) (s27.picks [0, 1, 3, 4])
        · have s8 := St.boxL (l := [rowA 66 6 _ _ _, _, _, _, _]) s7 #[iv 0, iv 0, iv 0, iv 0, iv 0, iv 0, iv 0, iv 0, iv 0, iv 0, iv 0, iv 0, .slice none 0 0, .slice none 0 0, .slice none 0 0] 27
          have d8 : Chg w3 (w7.alloc (.cells #[iv 0, iv 0, iv 0, iv 0, iv 0, iv 0, iv 0, iv 0, iv 0, iv 0, iv 0, iv 0, .slice none 0 0, .slice none 0 0, .slice none 0 0] 27)) [] := d7.trans (Chg.new _ _ []) (by simp)
          have f8 := s8.chg
          refine newK_mk ⟨c2 d8 14 _ rfl, c1 d8 14 _ rfl, c2 d8 11 _ rfl, c1 d8 11 _ rfl, useC (joinI_c (ha.rer.chg f8) (hb.rer.chg f8) (by omega) (by omega)) ?_⟩
          rintro v wX ⟨aI, cI, rfl, kI⟩
          have s9 := s8.after kI
          have d9 : Chg w3 wX [] := d8.trans kI.chg (by simp)
          refine ⟨_, _, _, rfl, c2 d9 11 _ rfl, c1 d9 11 _ rfl, ?_⟩
          have S := St.picks (l := [rowA 3 1 _ _ _, _, _, _, _, _, _]) s9 [1, 0, 2, 3, 4, 5, 6]
          generalize hr4 : w7.heap.size = r4 at S ⊢
          clear s9 d9 s8 d8 f8 kI s7 f7 d7 kP
          refine S.stLAt 0 rfl [iv 0, iv 0, iv 0, iv 0, iv 0, iv 0, iv 0, iv 0, iv 0, iv 0, iv 0, iv (ad a.ref b.ref), .slice aP (a.ps ++ b.ps).length cP, .slice none 0 0, .slice aI (a.rer ++ b.rer).length cI] rfl (by intro v hv; simp at hv; rcases hv with rfl | rfl | rfl | rfl | rfl <;> rfl) fun w10 s10 => ?_
          let cnt : Nat → Array Value := fun k => ((List.zipWith ad ([n1, n2, n3, n4, n5, n6, n7, n8, n9, n10, n11].take k) ([m1, m2, m3, m4, m5, m6, m7, m8, m9, m10, m11].take k) ++ List.replicate (11 - k) 0).map iv ++ [iv (ad a.ref b.ref), .slice aP (a.ps ++ b.ps).length cP, .slice none 0 0, .slice aI (a.rer ++ b.rer).length cI]).toArray
          have hcnt : ∀ k, k < 11 → (cnt k).size = 15 ∧ (cnt k).setIfInBounds k (iv (ad ([n1, n2, n3, n4, n5, n6, n7, n8, n9, n10, n11].getD k 0) ([m1, m2, m3, m4, m5, m6, m7, m8, m9, m10, m11].getD k 0))) = cnt (k + 1) := fun k hk => by
            match k, hk with
            | 0, _ | 1, _ | 2, _ | 3, _ | 4, _ | 5, _ | 6, _ | 7, _ | 8, _ | 9, _ | 10, _ => exact ⟨rfl, rfl⟩
          have hra : ∀ k, k < 11 → (#[iv n1, iv n2, iv n3, iv n4, iv n5, iv n6, iv n7, iv n8, iv n9, iv n10, iv n11, iv a.ref, .slice a.a1 a.ps.length a.c1, .slice a.a2 a.bds.length a.c2, .slice a.a3 a.rer.length a.c3] : Array Value)[k]? = some (iv ([n1, n2, n3, n4, n5, n6, n7, n8, n9, n10, n11].getD k 0)) := fun k hk => by
            match k, hk with
            | 0, _ | 1, _ | 2, _ | 3, _ | 4, _ | 5, _ | 6, _ | 7, _ | 8, _ | 9, _ | 10, _ => rfl
          have hrb : ∀ k, k < 11 → (#[iv m1, iv m2, iv m3, iv m4, iv m5, iv m6, iv m7, iv m8, iv m9, iv m10, iv m11, iv b.ref, .slice b.a1 b.ps.length b.c1, .slice b.a2 b.bds.length b.c2, .slice b.a3 b.rer.length b.c3] : Array Value)[k]? = some (iv ([m1, m2, m3, m4, m5, m6, m7, m8, m9, m10, m11].getD k 0)) := fun k hk => by
            match k, hk with
            | 0, _ | 1, _ | 2, _ | 3, _ | 4, _ | 5, _ | 6, _ | 7, _ | 8, _ | 9, _ | 10, _ => rfl
          have ea : ∀ (r k : Nat), Addr.add ⟨r, 0, none⟩ (((k : Nat) : Int).toNat * 1) = ⟨r, k, none⟩ := fun r k => by rw [addA2]; simp
          refine ⟨fun n w11 m => ∃ k : Nat, n = k ∧ k ≤ 11 ∧ m = 11 - k ∧ St w w11 (Sep [boxA r4 (cnt k) 27, rowA 3 1 (.slice aI (a.rer ++ b.rer).length cI) (a.rer ++ b.rer).length ((a.rer ++ b.rer).map iv), rowA 66 6 (.slice aP (a.ps ++ b.ps).length cP) (a.ps ++ b.ps).length (fl (a.ps ++ b.ps)), boxA r3 #[iv 0, iv 0, iv 0, iv 0, iv 0, iv 0, iv 0, iv 0, iv 0, iv 0, iv 0, iv 0, .slice none 0 0, .slice none 0 0, .slice none 0 0] 27, boxA r2 #[iv m1, iv m2, iv m3, iv m4, iv m5, iv m6, iv m7, iv m8, iv m9, iv m10, iv m11, iv b.ref, .slice b.a1 b.ps.length b.c1, .slice b.a2 b.bds.length b.c2, .slice b.a3 b.rer.length b.c3] 27, boxA r1 #[iv n1, iv n2, iv n3, iv n4, iv n5, iv n6, iv n7, iv n8, iv n9, iv n10, iv n11, iv a.ref, .slice a.a1 a.ps.length a.c1, .slice a.a2 a.bds.length a.c2, .slice a.a3 a.rer.length a.c3] 27, emp]), ⟨11, 0, rfl, by omega, by omega, s10⟩, ?_⟩
          rintro w11 m n ⟨k, rfl, hk, hm, s11⟩ -
          by_cases hlt : ((k : Nat) : Int) < 11
          · have hk' : k < 11 := by omega
            have s12 := s11.quiet (Chg.drew w11 [])
            refine cT (by simpa using hlt) ⟨by omega, by omega, [n1, n2, n3, n4, n5, n6, n7, n8, n9, n10, n11].getD k 0, ?_, by omega, by omega, [m1, m2, m3, m4, m5, m6, m7, m8, m9, m10, m11].getD k 0, ?_, by omega, by omega, ?_⟩
            · rw [ea, s12.boxedAt 5 rfl]; exact hra k hk'
            · rw [ea, s12.boxedAt 4 rfl]; exact hrb k hk'
            · rw [ea]
              refine s12.stAt 0 rfl (by rw [(hcnt k hk').1]; omega) rfl fun w13 s13 => ?_
              refine ⟨11 - (k + 1), by omega, k + 1, by rw [iwrap ⟨by omega, by omega⟩]; rfl, by omega, rfl, ?_⟩
              rw [← (hcnt k hk').2]
              exact s13
          · obtain rfl : k = 11 := by omega
            refine cF (by simp) ⟨_, _, _, by rw [s11.boxedAt 5 rfl]; rfl, ?_⟩
            refine ⟨fun n w13 m => ∃ (i : Nat) (aB : Option Addr) (cB : Nat) (L : List Bd), n = i ∧ i ≤ a.bds.length ∧ m = a.bds.length - i ∧ Lk a b i L ∧
              St w w13 (Sep [rowA 47 6 (.slice aB i cB) i ((L.map Bd.cells).flatten), BA L, boxA r4 #[iv (ad n1 m1), iv (ad n2 m2), iv (ad n3 m3), iv (ad n4 m4), iv (ad n5 m5), iv (ad n6 m6), iv (ad n7 m7), iv (ad n8 m8), iv (ad n9 m9), iv (ad n10 m10), iv (ad n11 m11), iv (ad a.ref b.ref), .slice aP (a.ps ++ b.ps).length cP, .slice aB i cB, .slice aI (a.rer ++ b.rer).length cI] 27, rowA 3 1 (.slice aI (a.rer ++ b.rer).length cI) (a.rer ++ b.rer).length ((a.rer ++ b.rer).map iv), rowA 66 6 (.slice aP (a.ps ++ b.ps).length cP) (a.ps ++ b.ps).length (fl (a.ps ++ b.ps)), boxA r3 #[iv 0, iv 0, iv 0, iv 0, iv 0, iv 0, iv 0, iv 0, iv 0, iv 0, iv 0, iv 0, .slice none 0 0, .slice none 0 0, .slice none 0 0] 27, boxA r2 #[iv m1, iv m2, iv m3, iv m4, iv m5, iv m6, iv m7, iv m8, iv m9, iv m10, iv m11, iv b.ref, .slice b.a1 b.ps.length b.c1, .slice b.a2 b.bds.length b.c2, .slice b.a3 b.rer.length b.c3] 27, boxA r1 #[iv n1, iv n2, iv n3, iv n4, iv n5, iv n6, iv n7, iv n8, iv n9, iv n10, iv n11, iv a.ref, .slice a.a1 a.ps.length a.c1, .slice a.a2 a.bds.length a.c2, .slice a.a3 a.rer.length a.c3] 27, emp]), ⟨a.bds.length, 0, none, 0, [], rfl, by omega, by omega, Lk.zero a b, St.rowL (l := [emp, _, _, _, _, _, _, _]) (St.picks (l := [emp, boxA r4 _ 27, _, _, _, _, _, _]) (St.after s11 (St.start w11)) [0, 1, 2, 3, 4, 5, 6, 7]) 47 6⟩, ?_⟩
            rintro w13 m n ⟨i, aB, cB, L, rfl, hi, hm, hL, s13⟩ -
            by_cases hlt : (i : Int) < (a.bds.length : Int)
            · have hi' : i < a.bds.length := by omega
              have gx : a.bds[i]? = some a.bds[i] := by simp [hi']
              have gy : b.bds[i]? = some (b.bds[i]'(by omega)) := by simp [show i < b.bds.length by omega]
              generalize hx : a.bds[i] = x at gx
              generalize hy : b.bds[i]'(by omega) = y at gy
              have px := ma.pt x (List.mem_of_getElem? gx)
              have py := mb.pt y (List.mem_of_getElem? gy)
              obtain ⟨_, _, q1, hq1, g1⟩ := (ha.chg s13.chg).bds i x gx
              refine cT (by simpa using hlt) ⟨fun w14 => ∃ (aB : Option Addr) (cB : Nat) (L : List Bd), Lk a b (i + 1) L ∧
                St w w14 (Sep [rowA 47 6 (.slice aB (i + 1) cB) (i + 1) ((L.map Bd.cells).flatten), BA L, boxA r4 #[iv (ad n1 m1), iv (ad n2 m2), iv (ad n3 m3), iv (ad n4 m4), iv (ad n5 m5), iv (ad n6 m6), iv (ad n7 m7), iv (ad n8 m8), iv (ad n9 m9), iv (ad n10 m10), iv (ad n11 m11), iv (ad a.ref b.ref), .slice aP (a.ps ++ b.ps).length cP, .slice aB (i + 1) cB, .slice aI (a.rer ++ b.rer).length cI] 27, rowA 3 1 (.slice aI (a.rer ++ b.rer).length cI) (a.rer ++ b.rer).length ((a.rer ++ b.rer).map iv), rowA 66 6 (.slice aP (a.ps ++ b.ps).length cP) (a.ps ++ b.ps).length (fl (a.ps ++ b.ps)), boxA r3 #[iv 0, iv 0, iv 0, iv 0, iv 0, iv 0, iv 0, iv 0, iv 0, iv 0, iv 0, iv 0, .slice none 0 0, .slice none 0 0, .slice none 0 0] 27, boxA r2 #[iv m1, iv m2, iv m3, iv m4, iv m5, iv m6, iv m7, iv m8, iv m9, iv m10, iv m11, iv b.ref, .slice b.a1 b.ps.length b.c1, .slice b.a2 b.bds.length b.c2, .slice b.a3 b.rer.length b.c3] 27, boxA r1 #[iv n1, iv n2, iv n3, iv n4, iv n5, iv n6, iv n7, iv n8, iv n9, iv n10, iv n11, iv a.ref, .slice a.a1 a.ps.length a.c1, .slice a.a2 a.bds.length a.c2, .slice a.a3 a.rer.length a.c3] 27, emp]), ?_, ?_⟩
              · rintro w14 ⟨aB', cB', L', hL', s14⟩ -
                exact ⟨a.bds.length - (i + 1), by omega, i + 1, aB', cB', L', by rw [iwrap ⟨by omega, by omega⟩]; rfl, by omega, rfl, hL', s14⟩
              rw [hq1]
              refine ⟨by omega, by omega, _, _, _, _, _, _, _, _, g1, newK_mk ?_⟩
              refine (s13.boxL _ 47).stLAt 0 rfl x.cells rfl x.one fun w16 s16 => ?_
              obtain ⟨_, _, q2, hq2, g2⟩ := (hb.chg s16.chg).bds i y gy
              refine ⟨_, _, _, by rw [s16.boxedAt 7 rfl]; rfl, ?_⟩
              rw [hq2]
              refine ⟨by omega, by omega, _, _, _, _, _, _, _, _, g2, newK_mk ?_⟩
              refine (s16.boxL _ 47).stLAt 0 rfl y.cells rfl y.one fun w18 s18' => ?_
              have s18 := s18'.quiet (Chg.drew w18 [])
              clear s18'
              generalize hw19 : w18.drew = w19 at s18 ⊢
              generalize hr5 : w13.heap.size = r5 at s18 ⊢
              generalize hr6 : w16.heap.size = r6 at s18 ⊢
              have cx : ∀ {w' : World}, Chg w19 w' [] → ∀ (j : Nat) (v : Value), x.cells[j]? = some v → w'.cell? ⟨r5, j, none⟩ = some v := fun hc j v hv => cell_chg (by rw [s18.boxedAt 1 rfl]; simpa using hv) hc
              have cy : ∀ {w' : World}, Chg w19 w' [] → ∀ (j : Nat) (v : Value), y.cells[j]? = some v → w'.cell? ⟨r6, j, none⟩ = some v := fun hc j v hv => cell_chg (by rw [s18.boxedAt 0 rfl]; simpa using hv) hc
              have c4 : ∀ {w' : World}, Chg w19 w' [] → w'.cell? ⟨r4, 13, none⟩ = some (.slice aB i cB) := fun hc => cell_chg (by rw [s18.boxedAt 4 rfl]; rfl) hc
              have z9 : Chg w19 w19 [] := Chg.refl _ _
              have pts := joinI_c (c1 := x.pc) (c2 := y.pc) ((ha.chg s18.chg).bds i x gx).2.1 ((hb.chg s18.chg).bds i y gy).2.1 (by omega) (by omega)
              refine ⟨_, _, _, c4 z9, _, cx z9 0 _ rfl, _, cx z9 1 _ rfl, _, cy z9 1 _ rfl, _, cx z9 2 _ rfl, _, cy z9 2 _ rfl, _, cx z9 3 _ rfl, _, cy z9 3 _ rfl, x.out, cx z9 4 _ rfl, ?_⟩
              cases hox : x.out with
              | true =>
                refine cT rfl ⟨_, _, _, cx z9 5 _ rfl, _, _, _, cy z9 5 _ rfl, useC pts ?_⟩
                rintro v w20 ⟨pa, pc, rfl, k20⟩
                have d20 := k20.chg
                have s20 := s18.after k20
                refine ⟨_, _, _, rfl, cy d20 3 _ rfl, cx d20 3 _ rfl, cy d20 2 _ rfl, cx d20 2 _ rfl, cy d20 1 _ rfl, cx d20 1 _ rfl, cx d20 0 _ rfl, c4 d20, newK_mk ⟨c4 (d20.trans (Chg.new _ _ []) (by simp)), ?_⟩⟩
                have ez : (x.pl y pa pc).cells.toArray = #[sv x.nm, iv (ad x.d y.d), iv (ad x.b y.b), iv (ad x.wd y.wd), .bool true, .slice pa (x.pts ++ y.pts).length pc] := by unfold Bd.pl Bd.cells; rw [hox]; rfl
                have s21 := St.boxL (l := [rowA 3 1 _ _ _, _, _, _, _, _, _, _, _, _, _, _]) s20 (x.pl y pa pc).cells.toArray 47
                rw [ez] at s21
                have s21' := s21.out 4 rfl
                refine appR_st sl24 s21' (m := 1) (news := (x.pl y pa pc).cells) rfl (fun j u hj => ⟨_, rfl, ?_⟩) (x.pl y pa pc).one (by omega) (by omega) fun aN cN w22 s22 => ?_
                · rw [addA2, Nat.zero_add, s21.boxedAt 0 rfl, ← ez]; simpa using hj
                have s22' := s22.back (l := _) (i := 4) (by simp)
                refine s22'.stAt 6 rfl (show 13 < 15 by decide) rfl fun w23 s23 => ?_
                have s24 : St w w23 (Sep [ptsA (x.pl y pa pc), BA L, rowA 47 6 (.slice aN (i + 1) cN) (i + 1) ((L.map Bd.cells).flatten ++ (x.pl y pa pc).cells), boxA r4 #[iv (ad n1 m1), iv (ad n2 m2), iv (ad n3 m3), iv (ad n4 m4), iv (ad n5 m5), iv (ad n6 m6), iv (ad n7 m7), iv (ad n8 m8), iv (ad n9 m9), iv (ad n10 m10), iv (ad n11 m11), iv (ad a.ref b.ref), .slice aP (a.ps ++ b.ps).length cP, .slice aN (i + 1) cN, .slice aI (a.rer ++ b.rer).length cI] 27, rowA 3 1 (.slice aI (a.rer ++ b.rer).length cI) (a.rer ++ b.rer).length ((a.rer ++ b.rer).map iv), rowA 66 6 (.slice aP (a.ps ++ b.ps).length cP) (a.ps ++ b.ps).length (fl (a.ps ++ b.ps)), boxA r3 #[iv 0, iv 0, iv 0, iv 0, iv 0, iv 0, iv 0, iv 0, iv 0, iv 0, iv 0, iv 0, .slice none 0 0, .slice none 0 0, .slice none 0 0] 27, boxA r2 #[iv m1, iv m2, iv m3, iv m4, iv m5, iv m6, iv m7, iv m8, iv m9, iv m10, iv m11, iv b.ref, .slice b.a1 b.ps.length b.c1, .slice b.a2 b.bds.length b.c2, .slice b.a3 b.rer.length b.c3] 27, boxA r1 #[iv n1, iv n2, iv n3, iv n4, iv n5, iv n6, iv n7, iv n8, iv n9, iv n10, iv n11, iv a.ref, .slice a.a1 a.ps.length a.c1, .slice a.a2 a.bds.length a.c2, .slice a.a3 a.rer.length a.c3] 27, emp]) := s23.picks [1, 5, 4, 6, 7, 8, 9, 10, 11, 12]
                have s25 := ba_snoc (x := x.pl y pa pc) s24
                refine ⟨aN, cN, L ++ [x.pl y pa pc], hL.snoc ha hb ma mb gx gy pa pc, ?_⟩
                have e : ((L ++ [x.pl y pa pc]).map Bd.cells).flatten = (L.map Bd.cells).flatten ++ (x.pl y pa pc).cells := by simp
                rw [e, ← hq1, ← hq2]
                exact St.picks (l := [BA (L ++ [x.pl y pa pc]), rowA 47 6 _ _ _, _, _, _, _, _, _, _]) s25 [1, 0, 2, 3, 4, 5, 6, 7, 8]
              | false =>
                refine cF rfl ⟨y.out, cy z9 4 _ rfl, _, _, _, cx z9 5 _ rfl, _, _, _, cy z9 5 _ rfl, useC pts ?_⟩
                rintro v w20 ⟨pa, pc, rfl, k20⟩
                have d20 := k20.chg
                have s20 := s18.after k20
                refine ⟨_, _, _, rfl, cy d20 4 _ rfl, cy d20 3 _ rfl, cx d20 3 _ rfl, cy d20 2 _ rfl, cx d20 2 _ rfl, cy d20 1 _ rfl, cx d20 1 _ rfl, cx d20 0 _ rfl, c4 d20, newK_mk ⟨c4 (d20.trans (Chg.new _ _ []) (by simp)), ?_⟩⟩
                have ez : (x.pl y pa pc).cells.toArray = #[sv x.nm, iv (ad x.d y.d), iv (ad x.b y.b), iv (ad x.wd y.wd), .bool y.out, .slice pa (x.pts ++ y.pts).length pc] := by unfold Bd.pl Bd.cells; rw [hox]; rfl
                have s21 := St.boxL (l := [rowA 3 1 _ _ _, _, _, _, _, _, _, _, _, _, _, _]) s20 (x.pl y pa pc).cells.toArray 47
                rw [ez] at s21
                have s21' := s21.out 4 rfl
                refine appR_st sl24 s21' (m := 1) (news := (x.pl y pa pc).cells) rfl (fun j u hj => ⟨_, rfl, ?_⟩) (x.pl y pa pc).one (by omega) (by omega) fun aN cN w22 s22 => ?_
                · rw [addA2, Nat.zero_add, s21.boxedAt 0 rfl, ← ez]; simpa using hj
                have s22' := s22.back (l := _) (i := 4) (by simp)
                refine s22'.stAt 6 rfl (show 13 < 15 by decide) rfl fun w23 s23 => ?_
                have s24 : St w w23 (Sep [ptsA (x.pl y pa pc), BA L, rowA 47 6 (.slice aN (i + 1) cN) (i + 1) ((L.map Bd.cells).flatten ++ (x.pl y pa pc).cells), boxA r4 #[iv (ad n1 m1), iv (ad n2 m2), iv (ad n3 m3), iv (ad n4 m4), iv (ad n5 m5), iv (ad n6 m6), iv (ad n7 m7), iv (ad n8 m8), iv (ad n9 m9), iv (ad n10 m10), iv (ad n11 m11), iv (ad a.ref b.ref), .slice aP (a.ps ++ b.ps).length cP, .slice aN (i + 1) cN, .slice aI (a.rer ++ b.rer).length cI] 27, rowA 3 1 (.slice aI (a.rer ++ b.rer).length cI) (a.rer ++ b.rer).length ((a.rer ++ b.rer).map iv), rowA 66 6 (.slice aP (a.ps ++ b.ps).length cP) (a.ps ++ b.ps).length (fl (a.ps ++ b.ps)), boxA r3 #[iv 0, iv 0, iv 0, iv 0, iv 0, iv 0, iv 0, iv 0, iv 0, iv 0, iv 0, iv 0, .slice none 0 0, .slice none 0 0, .slice none 0 0] 27, boxA r2 #[iv m1, iv m2, iv m3, iv m4, iv m5, iv m6, iv m7, iv m8, iv m9, iv m10, iv m11, iv b.ref, .slice b.a1 b.ps.length b.c1, .slice b.a2 b.bds.length b.c2, .slice b.a3 b.rer.length b.c3] 27, boxA r1 #[iv n1, iv n2, iv n3, iv n4, iv n5, iv n6, iv n7, iv n8, iv n9, iv n10, iv n11, iv a.ref, .slice a.a1 a.ps.length a.c1, .slice a.a2 a.bds.length a.c2, .slice a.a3 a.rer.length a.c3] 27, emp]) := s23.picks [1, 5, 4, 6, 7, 8, 9, 10, 11, 12]
                have s25 := ba_snoc (x := x.pl y pa pc) s24
                refine ⟨aN, cN, L ++ [x.pl y pa pc], hL.snoc ha hb ma mb gx gy pa pc, ?_⟩
                have e : ((L ++ [x.pl y pa pc]).map Bd.cells).flatten = (L.map Bd.cells).flatten ++ (x.pl y pa pc).cells := by simp
                rw [e, ← hq1, ← hq2]
                exact St.picks (l := [BA (L ++ [x.pl y pa pc]), rowA 47 6 _ _ _, _, _, _, _, _, _, _]) s25 [1, 0, 2, 3, 4, 5, 6, 7, 8]
            · have hie2 : i = a.bds.length := by omega
              refine cF (by simpa using hlt) ⟨_, _, _, _, _, _, _, _, _, _, _, _, _, _, _, _, _, _, _, _, _, s13.cellsIn 2 rfl, ?_⟩
              refine s13.stLAt 5 rfl _ rfl (by intro v hv; simp at hv; rcases hv with rfl | rfl | rfl | rfl | rfl | rfl | rfl | rfl | rfl | rfl | rfl | rfl | rfl | rfl | rfl <;> rfl) fun w27 s27 => ?_
              refine ⟨_, _, _, _, _, _, _, _, _, _, _, _, _, _, _, _, _, _, _, _, _, s27.cellsIn 5 rfl, ?_⟩
              exact mg_good ha hb ma mb hn hL hie2 (by rw [hea, heb]; rfl) (s27.picks [0, 1, 3, 4])
      · have s7 := s6.boxL #[iv 0, iv 0, iv 0, iv 0, iv 0, iv 0, iv 0, iv 0, iv 0, iv 0, iv 0, iv 0, .slice none 0 0, .slice none 0 0, .slice none 0 0] 27
        have d7 : Chg w3 (w6.alloc (.cells #[iv 0, iv 0, iv 0, iv 0, iv 0, iv 0, iv 0, iv 0, iv 0, iv 0, iv 0, iv 0, .slice none 0 0, .slice none 0 0, .slice none 0 0] 27)) [] := d6.trans (Chg.new _ _ []) (by simp)
        have f7 := s7.chg
        refine newK_mk ⟨c2 d7 14 _ rfl, c1 d7 14 _ rfl, c2 d7 12 _ rfl, c1 d7 12 _ rfl, c2 d7 11 _ rfl, c1 d7 11 _ rfl, useC (joinP_c (ha.ps.chg f7) (hb.ps.chg f7) (by omega) (by omega)) ?_⟩
        rintro v w8 ⟨aP, cP, rfl, kP⟩
        have s8 := s7.after kP
        have d8 : Chg w3 w8 [] := d7.trans kP.chg (by simp)
        have f8 := s8.chg
        refine ⟨_, _, _, rfl, c2 d8 14 _ rfl, c1 d8 14 _ rfl, c2 d8 11 _ rfl, c1 d8 11 _ rfl, useC (joinI_c (ha.rer.chg f8) (hb.rer.chg f8) (by omega) (by omega)) ?_⟩
        rintro v wX ⟨aI, cI, rfl, kI⟩
        have s9 := s8.after kI
        have d9 : Chg w3 wX [] := d8.trans kI.chg (by simp)
        refine ⟨_, _, _, rfl, c2 d9 11 _ rfl, c1 d9 11 _ rfl, ?_⟩
        have S := St.picks (l := [rowA 3 1 _ _ _, rowA 66 6 _ _ _, _, _, _, _, _]) s9 [2, 0, 1, 3, 4, 5, 6]
        generalize hr4 : w6.heap.size = r4 at S ⊢
        clear s9 d9 s8 d8 f8 kI s7 f7 d7 kP
        refine S.stLAt 0 rfl [iv 0, iv 0, iv 0, iv 0, iv 0, iv 0, iv 0, iv 0, iv 0, iv 0, iv 0, iv (ad a.ref b.ref), .slice aP (a.ps ++ b.ps).length cP, .slice none 0 0, .slice aI (a.rer ++ b.rer).length cI] rfl (by intro v hv; simp at hv; rcases hv with rfl | rfl | rfl | rfl | rfl <;> rfl) fun w10 s10 => ?_
        let cnt : Nat → Array Value := fun k => ((List.zipWith ad ([n1, n2, n3, n4, n5, n6, n7, n8, n9, n10, n11].take k) ([m1, m2, m3, m4, m5, m6, m7, m8, m9, m10, m11].take k) ++ List.replicate (11 - k) 0).map iv ++ [iv (ad a.ref b.ref), .slice aP (a.ps ++ b.ps).length cP, .slice none 0 0, .slice aI (a.rer ++ b.rer).length cI]).toArray
        have hcnt : ∀ k, k < 11 → (cnt k).size = 15 ∧ (cnt k).setIfInBounds k (iv (ad ([n1, n2, n3, n4, n5, n6, n7, n8, n9, n10, n11].getD k 0) ([m1, m2, m3, m4, m5, m6, m7, m8, m9, m10, m11].getD k 0))) = cnt (k + 1) := fun k hk => by
          match k, hk with
          | 0, _ | 1, _ | 2, _ | 3, _ | 4, _ | 5, _ | 6, _ | 7, _ | 8, _ | 9, _ | 10, _ => exact ⟨rfl, rfl⟩
        have hra : ∀ k, k < 11 → (#[iv n1, iv n2, iv n3, iv n4, iv n5, iv n6, iv n7, iv n8, iv n9, iv n10, iv n11, iv a.ref, .slice a.a1 a.ps.length a.c1, .slice a.a2 a.bds.length a.c2, .slice a.a3 a.rer.length a.c3] : Array Value)[k]? = some (iv ([n1, n2, n3, n4, n5, n6, n7, n8, n9, n10, n11].getD k 0)) := fun k hk => by
          match k, hk with
          | 0, _ | 1, _ | 2, _ | 3, _ | 4, _ | 5, _ | 6, _ | 7, _ | 8, _ | 9, _ | 10, _ => rfl
        have hrb : ∀ k, k < 11 → (#[iv m1, iv m2, iv m3, iv m4, iv m5, iv m6, iv m7, iv m8, iv m9, iv m10, iv m11, iv b.ref, .slice b.a1 b.ps.length b.c1, .slice b.a2 b.bds.length b.c2, .slice b.a3 b.rer.length b.c3] : Array Value)[k]? = some (iv ([m1, m2, m3, m4, m5, m6, m7, m8, m9, m10, m11].getD k 0)) := fun k hk => by
          match k, hk with
          | 0, _ | 1, _ | 2, _ | 3, _ | 4, _ | 5, _ | 6, _ | 7, _ | 8, _ | 9, _ | 10, _ => rfl
        have ea : ∀ (r k : Nat), Addr.add ⟨r, 0, none⟩ (((k : Nat) : Int).toNat * 1) = ⟨r, k, none⟩ := fun r k => by rw [addA2]; simp
        refine ⟨fun n w11 m => ∃ k : Nat, n = k ∧ k ≤ 11 ∧ m = 11 - k ∧ St w w11 (Sep [boxA r4 (cnt k) 27, rowA 3 1 (.slice aI (a.rer ++ b.rer).length cI) (a.rer ++ b.rer).length ((a.rer ++ b.rer).map iv), rowA 66 6 (.slice aP (a.ps ++ b.ps).length cP) (a.ps ++ b.ps).length (fl (a.ps ++ b.ps)), boxA r3 #[iv 0, iv 0, iv 0, iv 0, iv 0, iv 0, iv 0, iv 0, iv 0, iv 0, iv 0, iv 0, .slice none 0 0, .slice none 0 0, .slice none 0 0] 27, boxA r2 #[iv m1, iv m2, iv m3, iv m4, iv m5, iv m6, iv m7, iv m8, iv m9, iv m10, iv m11, iv b.ref, .slice b.a1 b.ps.length b.c1, .slice b.a2 b.bds.length b.c2, .slice b.a3 b.rer.length b.c3] 27, boxA r1 #[iv n1, iv n2, iv n3, iv n4, iv n5, iv n6, iv n7, iv n8, iv n9, iv n10, iv n11, iv a.ref, .slice a.a1 a.ps.length a.c1, .slice a.a2 a.bds.length a.c2, .slice a.a3 a.rer.length a.c3] 27, emp]), ⟨11, 0, rfl, by omega, by omega, s10⟩, ?_⟩
        rintro w11 m n ⟨k, rfl, hk, hm, s11⟩ -
        by_cases hlt : ((k : Nat) : Int) < 11
        · have hk' : k < 11 := by omega
          have s12 := s11.quiet (Chg.drew w11 [])
          refine cT (by simpa using hlt) ⟨by omega, by omega, [n1, n2, n3, n4, n5, n6, n7, n8, n9, n10, n11].getD k 0, ?_, by omega, by omega, [m1, m2, m3, m4, m5, m6, m7, m8, m9, m10, m11].getD k 0, ?_, by omega, by omega, ?_⟩
          · rw [ea, s12.boxedAt 5 rfl]; exact hra k hk'
          · rw [ea, s12.boxedAt 4 rfl]; exact hrb k hk'
          · rw [ea]
            refine s12.stAt 0 rfl (by rw [(hcnt k hk').1]; omega) rfl fun w13 s13 => ?_
            refine ⟨11 - (k + 1), by omega, k + 1, by rw [iwrap ⟨by omega, by omega⟩]; rfl, by omega, rfl, ?_⟩
            rw [← (hcnt k hk').2]
            exact s13
        · obtain rfl : k = 11 := by omega
          refine cF (by simp) ⟨_, _, _, by rw [s11.boxedAt 5 rfl]; rfl, ?_⟩
          refine ⟨fun n w13 m => ∃ (i : Nat) (aB : Option Addr) (cB : Nat) (L : List Bd), n = i ∧ i ≤ a.bds.length ∧ m = a.bds.length - i ∧ Lk a b i L ∧
            St w w13 (Sep [rowA 47 6 (.slice aB i cB) i ((L.map Bd.cells).flatten), BA L, boxA r4 #[iv (ad n1 m1), iv (ad n2 m2), iv (ad n3 m3), iv (ad n4 m4), iv (ad n5 m5), iv (ad n6 m6), iv (ad n7 m7), iv (ad n8 m8), iv (ad n9 m9), iv (ad n10 m10), iv (ad n11 m11), iv (ad a.ref b.ref), .slice aP (a.ps ++ b.ps).length cP, .slice aB i cB, .slice aI (a.rer ++ b.rer).length cI] 27, rowA 3 1 (.slice aI (a.rer ++ b.rer).length cI) (a.rer ++ b.rer).length ((a.rer ++ b.rer).map iv), rowA 66 6 (.slice aP (a.ps ++ b.ps).length cP) (a.ps ++ b.ps).length (fl (a.ps ++ b.ps)), boxA r3 #[iv 0, iv 0, iv 0, iv 0, iv 0, iv 0, iv 0, iv 0, iv 0, iv 0, iv 0, iv 0, .slice none 0 0, .slice none 0 0, .slice none 0 0] 27, boxA r2 #[iv m1, iv m2, iv m3, iv m4, iv m5, iv m6, iv m7, iv m8, iv m9, iv m10, iv m11, iv b.ref, .slice b.a1 b.ps.length b.c1, .slice b.a2 b.bds.length b.c2, .slice b.a3 b.rer.length b.c3] 27, boxA r1 #[iv n1, iv n2, iv n3, iv n4, iv n5, iv n6, iv n7, iv n8, iv n9, iv n10, iv n11, iv a.ref, .slice a.a1 a.ps.length a.c1, .slice a.a2 a.bds.length a.c2, .slice a.a3 a.rer.length a.c3] 27, emp]), ⟨a.bds.length, 0, none, 0, [], rfl, by omega, by omega, Lk.zero a b, St.rowL (l := [emp, _, _, _, _, _, _, _]) (St.picks (l := [emp, boxA r4 _ 27, _, _, _, _, _, _]) (St.after s11 (St.start w11)) [0, 1, 2, 3, 4, 5, 6, 7]) 47 6⟩, ?_⟩
          rintro w13 m n ⟨i, aB, cB, L, rfl, hi, hm, hL, s13⟩ -
          by_cases hlt : (i : Int) < (a.bds.length : Int)
          · have hi' : i < a.bds.length := by omega
            have gx : a.bds[i]? = some a.bds[i] := by simp [hi']
            have gy : b.bds[i]? = some (b.bds[i]'(by omega)) := by simp [show i < b.bds.length by omega]
            generalize hx : a.bds[i] = x at gx
            generalize hy : b.bds[i]'(by omega) = y at gy
            have px := ma.pt x (List.mem_of_getElem? gx)
            have py := mb.pt y (List.mem_of_getElem? gy)
            obtain ⟨_, _, q1, hq1, g1⟩ := (ha.chg s13.chg).bds i x gx
            refine cT (by simpa using hlt) ⟨fun w14 => ∃ (aB : Option Addr) (cB : Nat) (L : List Bd), Lk a b (i + 1) L ∧
              St w w14 (Sep [rowA 47 6 (.slice aB (i + 1) cB) (i + 1) ((L.map Bd.cells).flatten), BA L, boxA r4 #[iv (ad n1 m1), iv (ad n2 m2), iv (ad n3 m3), iv (ad n4 m4), iv (ad n5 m5), iv (ad n6 m6), iv (ad n7 m7), iv (ad n8 m8), iv (ad n9 m9), iv (ad n10 m10), iv (ad n11 m11), iv (ad a.ref b.ref), .slice aP (a.ps ++ b.ps).length cP, .slice aB (i + 1) cB, .slice aI (a.rer ++ b.rer).length cI] 27, rowA 3 1 (.slice aI (a.rer ++ b.rer).length cI) (a.rer ++ b.rer).length ((a.rer ++ b.rer).map iv), rowA 66 6 (.slice aP (a.ps ++ b.ps).length cP) (a.ps ++ b.ps).length (fl (a.ps ++ b.ps)), boxA r3 #[iv 0, iv 0, iv 0, iv 0, iv 0, iv 0, iv 0, iv 0, iv 0, iv 0, iv 0, iv 0, .slice none 0 0, .slice none 0 0, .slice none 0 0] 27, boxA r2 #[iv m1, iv m2, iv m3, iv m4, iv m5, iv m6, iv m7, iv m8, iv m9, iv m10, iv m11, iv b.ref, .slice b.a1 b.ps.length b.c1, .slice b.a2 b.bds.length b.c2, .slice b.a3 b.rer.length b.c3] 27, boxA r1 #[iv n1, iv n2, iv n3, iv n4, iv n5, iv n6, iv n7, iv n8, iv n9, iv n10, iv n11, iv a.ref, .slice a.a1 a.ps.length a.c1, .slice a.a2 a.bds.length a.c2, .slice a.a3 a.rer.length a.c3] 27, emp]), ?_, ?_⟩
            · rintro w14 ⟨aB', cB', L', hL', s14⟩ -
              exact ⟨a.bds.length - (i + 1), by omega, i + 1, aB', cB', L', by rw [iwrap ⟨by omega, by omega⟩]; rfl, by omega, rfl, hL', s14⟩
            rw [hq1]
            refine ⟨by omega, by omega, _, _, _, _, _, _, _, _, g1, newK_mk ?_⟩
            refine (s13.boxL _ 47).stLAt 0 rfl x.cells rfl x.one fun w16 s16 => ?_
            obtain ⟨_, _, q2, hq2, g2⟩ := (hb.chg s16.chg).bds i y gy
            refine ⟨_, _, _, by rw [s16.boxedAt 7 rfl]; rfl, ?_⟩
            rw [hq2]
            refine ⟨by omega, by omega, _, _, _, _, _, _, _, _, g2, newK_mk ?_⟩
            refine (s16.boxL _ 47).stLAt 0 rfl y.cells rfl y.one fun w18 s18' => ?_
            have s18 := s18'.quiet (Chg.drew w18 [])
            clear s18'
            generalize hw19 : w18.drew = w19 at s18 ⊢
            generalize hr5 : w13.heap.size = r5 at s18 ⊢
            generalize hr6 : w16.heap.size = r6 at s18 ⊢
            have cx : ∀ {w' : World}, Chg w19 w' [] → ∀ (j : Nat) (v : Value), x.cells[j]? = some v → w'.cell? ⟨r5, j, none⟩ = some v := fun hc j v hv => cell_chg (by rw [s18.boxedAt 1 rfl]; simpa using hv) hc
            have cy : ∀ {w' : World}, Chg w19 w' [] → ∀ (j : Nat) (v : Value), y.cells[j]? = some v → w'.cell? ⟨r6, j, none⟩ = some v := fun hc j v hv => cell_chg (by rw [s18.boxedAt 0 rfl]; simpa using hv) hc
            have c4 : ∀ {w' : World}, Chg w19 w' [] → w'.cell? ⟨r4, 13, none⟩ = some (.slice aB i cB) := fun hc => cell_chg (by rw [s18.boxedAt 4 rfl]; rfl) hc
            have z9 : Chg w19 w19 [] := Chg.refl _ _
            have pts := joinI_c (c1 := x.pc) (c2 := y.pc) ((ha.chg s18.chg).bds i x gx).2.1 ((hb.chg s18.chg).bds i y gy).2.1 (by omega) (by omega)
            refine ⟨_, _, _, c4 z9, _, cx z9 0 _ rfl, _, cx z9 1 _ rfl, _, cy z9 1 _ rfl, _, cx z9 2 _ rfl, _, cy z9 2 _ rfl, _, cx z9 3 _ rfl, _, cy z9 3 _ rfl, x.out, cx z9 4 _ rfl, ?_⟩
            cases hox : x.out with
            | true =>
              refine cT rfl ⟨_, _, _, cx z9 5 _ rfl, _, _, _, cy z9 5 _ rfl, useC pts ?_⟩
              rintro v w20 ⟨pa, pc, rfl, k20⟩
              have d20 := k20.chg
              have s20 := s18.after k20
              refine ⟨_, _, _, rfl, cy d20 3 _ rfl, cx d20 3 _ rfl, cy d20 2 _ rfl, cx d20 2 _ rfl, cy d20 1 _ rfl, cx d20 1 _ rfl, cx d20 0 _ rfl, c4 d20, newK_mk ⟨c4 (d20.trans (Chg.new _ _ []) (by simp)), ?_⟩⟩
              have ez : (x.pl y pa pc).cells.toArray = #[sv x.nm, iv (ad x.d y.d), iv (ad x.b y.b), iv (ad x.wd y.wd), .bool true, .slice pa (x.pts ++ y.pts).length pc] := by unfold Bd.pl Bd.cells; rw [hox]; rfl
              have s21 := St.boxL (l := [rowA 3 1 _ _ _, _, _, _, _, _, _, _, _, _, _, _]) s20 (x.pl y pa pc).cells.toArray 47
              rw [ez] at s21
              have s21' := s21.out 4 rfl
              refine appR_st sl24 s21' (m := 1) (news := (x.pl y pa pc).cells) rfl (fun j u hj => ⟨_, rfl, ?_⟩) (x.pl y pa pc).one (by omega) (by omega) fun aN cN w22 s22 => ?_
              · rw [addA2, Nat.zero_add, s21.boxedAt 0 rfl, ← ez]; simpa using hj
              have s22' := s22.back (l := _) (i := 4) (by simp)
              refine s22'.stAt 6 rfl (show 13 < 15 by decide) rfl fun w23 s23 => ?_
              have s24 : St w w23 (Sep [ptsA (x.pl y pa pc), BA L, rowA 47 6 (.slice aN (i + 1) cN) (i + 1) ((L.map Bd.cells).flatten ++ (x.pl y pa pc).cells), boxA r4 #[iv (ad n1 m1), iv (ad n2 m2), iv (ad n3 m3), iv (ad n4 m4), iv (ad n5 m5), iv (ad n6 m6), iv (ad n7 m7), iv (ad n8 m8), iv (ad n9 m9), iv (ad n10 m10), iv (ad n11 m11), iv (ad a.ref b.ref), .slice aP (a.ps ++ b.ps).length cP, .slice aN (i + 1) cN, .slice aI (a.rer ++ b.rer).length cI] 27, rowA 3 1 (.slice aI (a.rer ++ b.rer).length cI) (a.rer ++ b.rer).length ((a.rer ++ b.rer).map iv), rowA 66 6 (.slice aP (a.ps ++ b.ps).length cP) (a.ps ++ b.ps).length (fl (a.ps ++ b.ps)), boxA r3 #[iv 0, iv 0, iv 0, iv 0, iv 0, iv 0, iv 0, iv 0, iv 0, iv 0, iv 0, iv 0, .slice none 0 0, .slice none 0 0, .slice none 0 0] 27, boxA r2 #[iv m1, iv m2, iv m3, iv m4, iv m5, iv m6, iv m7, iv m8, iv m9, iv m10, iv m11, iv b.ref, .slice b.a1 b.ps.length b.c1, .slice b.a2 b.bds.length b.c2, .slice b.a3 b.rer.length b.c3] 27, boxA r1 #[iv n1, iv n2, iv n3, iv n4, iv n5, iv n6, iv n7, iv n8, iv n9, iv n10, iv n11, iv a.ref, .slice a.a1 a.ps.length a.c1, .slice a.a2 a.bds.length a.c2, .slice a.a3 a.rer.length a.c3] 27, emp]) := s23.picks [1, 5, 4, 6, 7, 8, 9, 10, 11, 12]
              have s25 := ba_snoc (x := x.pl y pa pc) s24
              refine ⟨aN, cN, L ++ [x.pl y pa pc], hL.snoc ha hb ma mb gx gy pa pc, ?_⟩
              have e : ((L ++ [x.pl y pa pc]).map Bd.cells).flatten = (L.map Bd.cells).flatten ++ (x.pl y pa pc).cells := by simp
              rw [e, ← hq1, ← hq2]
              exact St.picks (l := [BA (L ++ [x.pl y pa pc]), rowA 47 6 _ _ _, _, _, _, _, _, _, _]) s25 [1, 0, 2, 3, 4, 5, 6, 7, 8]
            | false =>
              refine cF rfl ⟨y.out, cy z9 4 _ rfl, _, _, _, cx z9 5 _ rfl, _, _, _, cy z9 5 _ rfl, useC pts ?_⟩
              rintro v w20 ⟨pa, pc, rfl, k20⟩
              have d20 := k20.chg
              have s20 := s18.after k20
              refine ⟨_, _, _, rfl, cy d20 4 _ rfl, cy d20 3 _ rfl, cx d20 3 _ rfl, cy d20 2 _ rfl, cx d20 2 _ rfl, cy d20 1 _ rfl, cx d20 1 _ rfl, cx d20 0 _ rfl, c4 d20, newK_mk ⟨c4 (d20.trans (Chg.new _ _ []) (by simp)), ?_⟩⟩
              have ez : (x.pl y pa pc).cells.toArray = #[sv x.nm, iv (ad x.d y.d), iv (ad x.b y.b), iv (ad x.wd y.wd), .bool y.out, .slice pa (x.pts ++ y.pts).length pc] := by unfold Bd.pl Bd.cells; rw [hox]; rfl
              have s21 := St.boxL (l := [rowA 3 1 _ _ _, _, _, _, _, _, _, _, _, _, _, _]) s20 (x.pl y pa pc).cells.toArray 47
              rw [ez] at s21
              have s21' := s21.out 4 rfl
              refine appR_st sl24 s21' (m := 1) (news := (x.pl y pa pc).cells) rfl (fun j u hj => ⟨_, rfl, ?_⟩) (x.pl y pa pc).one (by omega) (by omega) fun aN cN w22 s22 => ?_
              · rw [addA2, Nat.zero_add, s21.boxedAt 0 rfl, ← ez]; simpa using hj
              have s22' := s22.back (l := _) (i := 4) (by simp)
              refine s22'.stAt 6 rfl (show 13 < 15 by decide) rfl fun w23 s23 => ?_
              have s24 : St w w23 (Sep [ptsA (x.pl y pa pc), BA L, rowA 47 6 (.slice aN (i + 1) cN) (i + 1) ((L.map Bd.cells).flatten ++ (x.pl y pa pc).cells), boxA r4 #[iv (ad n1 m1), iv (ad n2 m2), iv (ad n3 m3), iv (ad n4 m4), iv (ad n5 m5), iv (ad n6 m6), iv (ad n7 m7), iv (ad n8 m8), iv (ad n9 m9), iv (ad n10 m10), iv (ad n11 m11), iv (ad a.ref b.ref), .slice aP (a.ps ++ b.ps).length cP, .slice aN (i + 1) cN, .slice aI (a.rer ++ b.rer).length cI] 27, rowA 3 1 (.slice aI (a.rer ++ b.rer).length cI) (a.rer ++ b.rer).length ((a.rer ++ b.rer).map iv), rowA 66 6 (.slice aP (a.ps ++ b.ps).length cP) (a.ps ++ b.ps).length (fl (a.ps ++ b.ps)), boxA r3 #[iv 0, iv 0, iv 0, iv 0, iv 0, iv 0, iv 0, iv 0, iv 0, iv 0, iv 0, iv 0, .slice none 0 0, .slice none 0 0, .slice none 0 0] 27, boxA r2 #[iv m1, iv m2, iv m3, iv m4, iv m5, iv m6, iv m7, iv m8, iv m9, iv m10, iv m11, iv b.ref, .slice b.a1 b.ps.length b.c1, .slice b.a2 b.bds.length b.c2, .slice b.a3 b.rer.length b.c3] 27, boxA r1 #[iv n1, iv n2, iv n3, iv n4, iv n5, iv n6, iv n7, iv n8, iv n9, iv n10, iv n11, iv a.ref, .slice a.a1 a.ps.length a.c1, .slice a.a2 a.bds.length a.c2, .slice a.a3 a.rer.length a.c3] 27, emp]) := s23.picks [1, 5, 4, 6, 7, 8, 9, 10, 11, 12]
              have s25 := ba_snoc (x := x.pl y pa pc) s24
              refine ⟨aN, cN, L ++ [x.pl y pa pc], hL.snoc ha hb ma mb gx gy pa pc, ?_⟩
              have e : ((L ++ [x.pl y pa pc]).map Bd.cells).flatten = (L.map Bd.cells).flatten ++ (x.pl y pa pc).cells := by simp
              rw [e, ← hq1, ← hq2]
              exact St.picks (l := [BA (L ++ [x.pl y pa pc]), rowA 47 6 _ _ _, _, _, _, _, _, _, _]) s25 [1, 0, 2, 3, 4, 5, 6, 7, 8]
          · have hie2 : i = a.bds.length := by omega
            refine cF (by simpa using hlt) ⟨_, _, _, _, _, _, _, _, _, _, _, _, _, _, _, _, _, _, _, _, _, s13.cellsIn 2 rfl, ?_⟩
            refine s13.stLAt 5 rfl _ rfl (by intro v hv; simp at hv; rcases hv with rfl | rfl | rfl | rfl | rfl | rfl | rfl | rfl | rfl | rfl | rfl | rfl | rfl | rfl | rfl <;> rfl) fun w27 s27 => ?_
            refine ⟨_, _, _, _, _, _, _, _, _, _, _, _, _, _, _, _, _, _, _, _, _, s27.cellsIn 5 rfl, ?_⟩
            exact mg_good ha hb ma mb hn hL hie2 (by rw [hea, heb]; rfl) (s27.picks [0, 1, 3, 4])
  · refine cT (by simp; omega) ?_
    refine s3.stLAt 0 rfl [iv 0, iv 0, iv 0, iv 0, iv 0, iv 0, iv 0, iv 0, iv 0, iv 0, iv 0, iv 0, .slice none 0 0, .slice none 0 0, .slice none 0 0] rfl (by intro v hv; simp at hv; rcases hv with rfl | rfl <;> rfl) fun w' s' => ?_
    refine ⟨_, _, _, _, _, _, _, _, _, _, _, _, _, _, _, _, _, _, _, _, _, s'.cellsIn 0 rfl, mg_bad (fun he => hlen (by have := congrArg List.length he; simpa using this)) s'.chg⟩

end Go.Proofs.YtdpcgfcabikjmaaGreatDoor


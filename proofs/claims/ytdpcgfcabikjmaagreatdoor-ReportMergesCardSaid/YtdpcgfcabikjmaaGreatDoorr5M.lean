import Derived.Test.YtdpcgfcabikjmaaGreatDoorr5K
namespace Go.Proofs.YtdpcgfcabikjmaaGreatDoor
open Go Go.Vc Go.Sort Go.RowKit
set_option maxRecDepth 100000
theorem weak_assoc {A B C : Asn} : Weak (star (star A B) C) (star A (star B C)) := by
  rintro w F ⟨F12, F3, rfl, ⟨F1, F2, rfl, h1, h2, hd⟩, h3, hd'⟩
  refine ⟨F1 ++ (F2 ++ F3), ⟨F1, F2 ++ F3, rfl, h1, ⟨F2, F3, rfl, h2, h3, fun k hk => hd' k (List.mem_append_right _ hk)⟩, fun k hk hk2 => ?_⟩, fun j hj => by simpa [List.append_assoc] using hj⟩
  rcases List.mem_append.1 hk2 with h | h
  · exact hd k hk h
  · exact hd' k (List.mem_append_left _ hk) h
theorem weak_emp {X : Asn} : Weak (star emp X) X := by
  rintro w F ⟨F1, F2, rfl, _, h2, _⟩
  exact ⟨F2, h2, fun j hj => List.mem_append_right _ hj⟩
theorem weak_cat : ∀ l1 l2 : List Asn, Weak (star (Sep l1) (Sep l2)) (Sep (l1 ++ l2))
  | [], _ => weak_emp
  | _ :: l, l2 => weak_assoc.trans ((weak_cat l l2).right)

set_option maxHeartbeats 4000000 in
theorem qmerge_c {w : World} {a b : Sm} (ha : a.In w) (hb : b.In w) (ma : a.Mid) (mb : b.Mid) : Calls Tryz.prog 11 #[.agg a.val.toArray, .agg b.val.toArray] w (RetC (MgR a b w)) := by
  obtain ⟨n1, n2, n3, n4, n5, n6, n7, n8, n9, n10, n11, hea⟩ := len11 ha.n11
  obtain ⟨m1, m2, m3, m4, m5, m6, m7, m8, m9, m10, m11, heb⟩ := len11 hb.n11
  have hva : a.val.toArray = #[iv n1, iv n2, iv n3, iv n4, iv n5, iv n6, iv n7, iv n8, iv n9, iv n10, iv n11, iv a.ref, .slice a.a1 a.ps.length a.c1, .slice a.a2 a.bds.length a.c2, .slice a.a3 a.rer.length a.c3] := by unfold Sm.val; rw [hea]; rfl
  have hvb : b.val.toArray = #[iv m1, iv m2, iv m3, iv m4, iv m5, iv m6, iv m7, iv m8, iv m9, iv m10, iv m11, iv b.ref, .slice b.a1 b.ps.length b.c1, .slice b.a2 b.bds.length b.c2, .slice b.a3 b.rer.length b.c3] := by unfold Sm.val; rw [heb]; rfl
  rw [hva, hvb]
  refine qMerge_ok ?_
  unfold qMerge
  refine newK_mk (newK_mk (newK_mk ?_))
  have s3 := (((St.start w).one.boxL #[iv n1, iv n2, iv n3, iv n4, iv n5, iv n6, iv n7, iv n8, iv n9, iv n10, iv n11, iv a.ref, .slice a.a1 a.ps.length a.c1, .slice a.a2 a.bds.length a.c2, .slice a.a3 a.rer.length a.c3] 31).boxL #[iv m1, iv m2, iv m3, iv m4, iv m5, iv m6, iv m7, iv m8, iv m9, iv m10, iv m11, iv b.ref, .slice b.a1 b.ps.length b.c1, .slice b.a2 b.bds.length b.c2, .slice b.a3 b.rer.length b.c3] 31).boxL #[iv 0, iv 0, iv 0, iv 0, iv 0, iv 0, iv 0, iv 0, iv 0, iv 0, iv 0, iv 0, .slice none 0 0, .slice none 0 0, .slice none 0 0] 31
  generalize hw3 : (((w.alloc _).alloc _).alloc _) = w3 at s3 ⊢
  generalize hr1 : w.heap.size = r1 at s3 ⊢
  generalize hr2 : (w.alloc _).heap.size = r2 at s3 ⊢
  generalize hr3 : ((w.alloc _).alloc _).heap.size = r3 at s3 ⊢
  have c1 : ∀ {w' : World}, Chg w3 w' [] → ∀ (j : Nat) (v : Value), (#[iv n1, iv n2, iv n3, iv n4, iv n5, iv n6, iv n7, iv n8, iv n9, iv n10, iv n11, iv a.ref, .slice a.a1 a.ps.length a.c1, .slice a.a2 a.bds.length a.c2, .slice a.a3 a.rer.length a.c3] : Array Value)[j]? = some v → w'.cell? ⟨r1, j, none⟩ = some v := fun hc j v hv => cell_chg (by rw [s3.boxedAt 2 rfl]; exact hv) hc
  have c2 : ∀ {w' : World}, Chg w3 w' [] → ∀ (j : Nat) (v : Value), (#[iv m1, iv m2, iv m3, iv m4, iv m5, iv m6, iv m7, iv m8, iv m9, iv m10, iv m11, iv b.ref, .slice b.a1 b.ps.length b.c1, .slice b.a2 b.bds.length b.c2, .slice b.a3 b.rer.length b.c3] : Array Value)[j]? = some v → w'.cell? ⟨r2, j, none⟩ = some v := fun hc j v hv => cell_chg (by rw [s3.boxedAt 1 rfl]; exact hv) hc
  have z3 : Chg w3 w3 [] := Chg.refl _ _
  have la := ma.l2; have lb := mb.l2; have la1 := ma.l1; have lb1 := mb.l1; have la3 := ma.l3; have lb3 := mb.l3
  refine ⟨_, _, _, c1 z3 13 _ rfl, _, _, _, c2 z3 13 _ rfl, ?_⟩
  by_cases hlen : a.bds.length = b.bds.length
  · refine cF (by simp [hlen]) ⟨_, c1 z3 11 _ rfl, _, c2 z3 11 _ rfl, newK_mk ?_⟩
    refine (s3.boxL _ 31).stLAt 0 rfl [iv 0, iv 0, iv 0, iv 0, iv 0, iv 0, iv 0, iv 0, iv 0, iv 0, iv 0, iv (ad a.ref b.ref), .slice none 0 0, .slice none 0 0, .slice none 0 0] rfl (by intro v hv; simp at hv; rcases hv with rfl | rfl | rfl <;> rfl) fun w6 s6 => ?_
    generalize hr4 : w3.heap.size = r4 at s6 ⊢
    let cnt : Nat → Array Value := fun k => ((List.zipWith ad ([n1, n2, n3, n4, n5, n6, n7, n8, n9, n10, n11].take k) ([m1, m2, m3, m4, m5, m6, m7, m8, m9, m10, m11].take k) ++ List.replicate (11 - k) 0).map iv ++ [iv (ad a.ref b.ref), .slice none 0 0, .slice none 0 0, .slice none 0 0]).toArray
    have hcnt : ∀ k, k < 11 → (cnt k).size = 15 ∧ (cnt k).setIfInBounds k (iv (ad ([n1, n2, n3, n4, n5, n6, n7, n8, n9, n10, n11].getD k 0) ([m1, m2, m3, m4, m5, m6, m7, m8, m9, m10, m11].getD k 0))) = cnt (k + 1) := fun k hk => by
      match k, hk with
      | 0, _ | 1, _ | 2, _ | 3, _ | 4, _ | 5, _ | 6, _ | 7, _ | 8, _ | 9, _ | 10, _ => exact ⟨rfl, rfl⟩
    have hra : ∀ k, k < 11 → (#[iv n1, iv n2, iv n3, iv n4, iv n5, iv n6, iv n7, iv n8, iv n9, iv n10, iv n11, iv a.ref, .slice a.a1 a.ps.length a.c1, .slice a.a2 a.bds.length a.c2, .slice a.a3 a.rer.length a.c3] : Array Value)[k]? = some (iv ([n1, n2, n3, n4, n5, n6, n7, n8, n9, n10, n11].getD k 0)) := fun k hk => by
      match k, hk with
      | 0, _ | 1, _ | 2, _ | 3, _ | 4, _ | 5, _ | 6, _ | 7, _ | 8, _ | 9, _ | 10, _ => rfl
    have hrb : ∀ k, k < 11 → (#[iv m1, iv m2, iv m3, iv m4, iv m5, iv m6, iv m7, iv m8, iv m9, iv m10, iv m11, iv b.ref, .slice b.a1 b.ps.length b.c1, .slice b.a2 b.bds.length b.c2, .slice b.a3 b.rer.length b.c3] : Array Value)[k]? = some (iv ([m1, m2, m3, m4, m5, m6, m7, m8, m9, m10, m11].getD k 0)) := fun k hk => by
      match k, hk with
      | 0, _ | 1, _ | 2, _ | 3, _ | 4, _ | 5, _ | 6, _ | 7, _ | 8, _ | 9, _ | 10, _ => rfl
    have ea : ∀ (r k : Nat), Addr.add ⟨r, 0, none⟩ (((k : Nat) : Int).toNat * 1) = ⟨r, k, none⟩ := fun r k => by rw [addA2]; simp
    refine ⟨fun n w11 m => ∃ k : Nat, n = k ∧ k ≤ 11 ∧ m = 11 - k ∧ St w w11 (Sep [boxA r4 (cnt k) 31, boxA r3 #[iv 0, iv 0, iv 0, iv 0, iv 0, iv 0, iv 0, iv 0, iv 0, iv 0, iv 0, iv 0, .slice none 0 0, .slice none 0 0, .slice none 0 0] 31, boxA r2 #[iv m1, iv m2, iv m3, iv m4, iv m5, iv m6, iv m7, iv m8, iv m9, iv m10, iv m11, iv b.ref, .slice b.a1 b.ps.length b.c1, .slice b.a2 b.bds.length b.c2, .slice b.a3 b.rer.length b.c3] 31, boxA r1 #[iv n1, iv n2, iv n3, iv n4, iv n5, iv n6, iv n7, iv n8, iv n9, iv n10, iv n11, iv a.ref, .slice a.a1 a.ps.length a.c1, .slice a.a2 a.bds.length a.c2, .slice a.a3 a.rer.length a.c3] 31, emp]), ⟨11, 0, rfl, by omega, by omega, s6⟩, ?_⟩
    clear s6
    rintro w11 m n ⟨k, rfl, hk, hm, s11⟩ -
    have s12 := s11.quiet (Chg.drew w11 [])
    by_cases hlt : ((k : Nat) : Int) ≤ 10
    · have hk' : k < 11 := by omega
      refine cT (by simpa using hlt) ⟨by omega, by omega, [n1, n2, n3, n4, n5, n6, n7, n8, n9, n10, n11].getD k 0, ?_, by omega, by omega, [m1, m2, m3, m4, m5, m6, m7, m8, m9, m10, m11].getD k 0, ?_, by omega, by omega, ?_⟩
      · rw [ea, s12.boxedAt 3 rfl]; exact hra k hk'
      · rw [ea, s12.boxedAt 2 rfl]; exact hrb k hk'
      · rw [ea]
        refine s12.stAt 0 rfl (by rw [(hcnt k hk').1]; omega) rfl fun w13 s13 => ?_
        refine ⟨11 - (k + 1), by omega, k + 1, by rw [iwrap ⟨by omega, by omega⟩]; rfl, by omega, rfl, ?_⟩
        rw [← (hcnt k hk').2]
        exact s13
    · obtain rfl : k = 11 := by omega
      clear s11
      generalize hw12 : w11.drew = w12 at s12 ⊢
      refine cF (by simp) ⟨none, 0, 0, by rw [s12.boxedAt 0 rfl]; rfl, _, _, _, by rw [s12.boxedAt 3 rfl]; rfl, _, _, _, by rw [s12.boxedAt 2 rfl]; rfl, ?_⟩
      refine appR_st sl23 (s12.rowL 66 6) (news := fl a.ps) (by rw [fl_len ha.ps.len]) (fun j u hj => (ha.ps.chg s12.chg).cell j u hj) fl_one (by omega) (by omega) fun aQ cQ w13 s13 => ?_
      refine ⟨by rw [St.boxedAt (l := [rowA 66 6 _ _ _, _, _, _, _, _]) s13 3 rfl]; rfl, ?_⟩
      refine appR_st sl23 s13 (news := fl b.ps) (by rw [fl_len hb.ps.len]) (fun j u hj => (hb.ps.chg s13.chg).cell j u hj) fl_one (by omega) (by omega) fun aP cP w14 s14 => ?_
      have e14 : 0 + a.ps.length + b.ps.length = (a.ps ++ b.ps).length := by simp
      rw [e14] at s14 ⊢
      rw [List.nil_append, ← fl_app] at s14
      refine St.stAt (l := [rowA 66 6 _ _ _, boxA r4 (cnt 11) 31, _, _, _, _]) s14 1 rfl (show 12 < 15 by decide) rfl fun w15 s15' => ?_
      have s15 := s15'.quiet (Chg.drew w15 [])
      clear s15' s14 s13 s12
      generalize hw16 : w15.drew = w16 at s15 ⊢
      refine ⟨none, 0, 0, by rw [s15.boxedAt 1 rfl]; rfl, _, _, _, by rw [s15.boxedAt 4 rfl]; rfl, _, _, _, by rw [s15.boxedAt 3 rfl]; rfl, ?_⟩
      refine appR_st sl25 (s15.rowL 3 1) (news := a.rer.map iv) (by simp) (fun j u hj => rdCell (ha.rer.chg s15.chg) j u hj) map_one (by omega) (by omega) fun aQ2 cQ2 w17 s17 => ?_
      refine ⟨by rw [St.boxedAt (l := [rowA 3 1 _ _ _, _, _, _, _, _, _]) s17 4 rfl]; rfl, ?_⟩
      refine appR_st sl25 s17 (news := b.rer.map iv) (by simp) (fun j u hj => rdCell (hb.rer.chg s17.chg) j u hj) map_one (by omega) (by omega) fun aI cI w18 s18 => ?_
      have e18 : 0 + a.rer.length + b.rer.length = (a.rer ++ b.rer).length := by simp
      rw [e18] at s18 ⊢
      rw [List.nil_append, ← List.map_append] at s18
      refine St.stAt (l := [rowA 3 1 _ _ _, rowA 66 6 _ _ _, boxA r4 _ 31, _, _, _, _]) s18 2 rfl (show 14 < 15 by decide) rfl fun w20 s20 => ?_
      refine ⟨fun n w21 m => ∃ (i : Nat) (aB : Option Addr) (cB : Nat) (L : List Bd), n = i ∧ i ≤ a.bds.length ∧ m = a.bds.length - i ∧ (a.bds.take i).map Bd.nm = (b.bds.take i).map Bd.nm ∧ Lk a b i L ∧
        St w w21 (Sep [rowA 46 6 (.slice aB i cB) i ((L.map Bd.cells).flatten), BA L, boxA r4 #[iv (ad n1 m1), iv (ad n2 m2), iv (ad n3 m3), iv (ad n4 m4), iv (ad n5 m5), iv (ad n6 m6), iv (ad n7 m7), iv (ad n8 m8), iv (ad n9 m9), iv (ad n10 m10), iv (ad n11 m11), iv (ad a.ref b.ref), .slice aP (a.ps ++ b.ps).length cP, .slice aB i cB, .slice aI (a.rer ++ b.rer).length cI] 31, rowA 3 1 (.slice aI (a.rer ++ b.rer).length cI) (a.rer ++ b.rer).length ((a.rer ++ b.rer).map iv), rowA 66 6 (.slice aP (a.ps ++ b.ps).length cP) (a.ps ++ b.ps).length (fl (a.ps ++ b.ps)), boxA r3 #[iv 0, iv 0, iv 0, iv 0, iv 0, iv 0, iv 0, iv 0, iv 0, iv 0, iv 0, iv 0, .slice none 0 0, .slice none 0 0, .slice none 0 0] 31, boxA r2 #[iv m1, iv m2, iv m3, iv m4, iv m5, iv m6, iv m7, iv m8, iv m9, iv m10, iv m11, iv b.ref, .slice b.a1 b.ps.length b.c1, .slice b.a2 b.bds.length b.c2, .slice b.a3 b.rer.length b.c3] 31, boxA r1 #[iv n1, iv n2, iv n3, iv n4, iv n5, iv n6, iv n7, iv n8, iv n9, iv n10, iv n11, iv a.ref, .slice a.a1 a.ps.length a.c1, .slice a.a2 a.bds.length a.c2, .slice a.a3 a.rer.length a.c3] 31, emp]), ⟨a.bds.length, 0, none, 0, [], rfl, by omega, by omega, rfl, Lk.zero a b, ?_⟩, ?_⟩
      · exact St.rowL (l := [emp, boxA r4 _ 31, rowA 3 1 _ _ _, rowA 66 6 _ _ _, _, _, _, _]) (St.picks (l := [emp, rowA 3 1 _ _ _, rowA 66 6 _ _ _, boxA r4 _ 31, _, _, _, _]) (St.after s20 (St.start w20)) [0, 3, 1, 2, 4, 5, 6, 7]) 46 6
      clear s20 s18 s17 s15
      rintro w21 m n ⟨i, aB, cB, L, rfl, hi, hm, hnm, hL, s21⟩ -
      refine ⟨_, _, _, by rw [s21.boxedAt 7 rfl]; rfl, ?_⟩
      by_cases hlt : (i : Int) < (a.bds.length : Int)
      · have hi' : i < a.bds.length := by omega
        have gx : a.bds[i]? = some a.bds[i] := by simp [hi']
        have gy : b.bds[i]? = some (b.bds[i]'(by omega)) := by simp [show i < b.bds.length by omega]
        generalize hx : a.bds[i] = x at gx
        generalize hy : b.bds[i]'(by omega) = y at gy
        have px := ma.pt x (List.mem_of_getElem? gx)
        have py := mb.pt y (List.mem_of_getElem? gy)
        have s6 := s21.quiet (Chg.drew w21 [])
        clear s21
        generalize hw6 : w21.drew = w6 at s6 ⊢
        obtain ⟨_, _, q1, hq1, g1⟩ := (ha.chg s6.chg).bds i x gx
        obtain ⟨_, _, q2, hq2, g2⟩ := (hb.chg s6.chg).bds i y gy
        have a1 : ∀ {w' : World}, Chg w6 w' [] → w'.cell? ⟨r1, 13, none⟩ = some (.slice a.a2 a.bds.length a.c2) := fun hc => cell_chg (by rw [s6.boxedAt 7 rfl]; rfl) hc
        have b1 : ∀ {w' : World}, Chg w6 w' [] → w'.cell? ⟨r2, 13, none⟩ = some (.slice b.a2 b.bds.length b.c2) := fun hc => cell_chg (by rw [s6.boxedAt 6 rfl]; rfl) hc
        have z6 : Chg w6 w6 [] := Chg.refl _ _
        have e6 : Chg w6 (w6.alloc (.cells #[.string (bs []), .int .i64 0, .int .i64 0, .int .i64 0, .bool false, .slice none 0 0] 46)) [] := Chg.new w6 _ []
        have e7 : Chg w6 ((w6.alloc (.cells #[.string (bs []), .int .i64 0, .int .i64 0, .int .i64 0, .bool false, .slice none 0 0] 46)).alloc (.cells #[.string (bs []), .int .i64 0, .int .i64 0, .int .i64 0, .bool false, .slice none 0 0] 46)) [] := e6.trans (Chg.new _ _ []) (by simp)
        refine cT (by simpa using hlt) ⟨a.a2, _, _, a1 z6, ?_⟩
        rw [hq1]
        refine ⟨by omega, by omega, _, _, _, _, _, _, _, _, g1, b.a2, _, _, b1 z6, ?_⟩
        rw [hq2]
        refine ⟨by omega, by omega, _, _, _, _, _, _, _, _, g2, ?_, ?_⟩
        · have p7 := ((St.start w6).one.boxL #[.string (bs []), .int .i64 0, .int .i64 0, .int .i64 0, .bool false, .slice none 0 0] 46).boxL #[.string (bs []), .int .i64 0, .int .i64 0, .int .i64 0, .bool false, .slice none 0 0] 46
          refine newK_mk ⟨cellsAt_chg e6 g2, by rw [← hq2]; exact b1 e6, cellsAt_chg e6 g1, by rw [← hq1]; exact a1 e6, newK_mk ⟨cellsAt_chg e7 g2, by rw [← hq2]; exact b1 e7, cellsAt_chg e7 g1, by rw [← hq1]; exact a1 e7, ?_⟩⟩
          refine p7.stLAt 1 rfl x.cells rfl x.one fun w8 p8 => ⟨cellsAt_chg p8.chg g2, by rw [← hq2]; exact b1 p8.chg, ?_⟩
          refine p8.stLAt 0 rfl y.cells rfl y.one fun w19 p9 => ?_
          have s19 : St w w19 (Sep [boxA (w6.alloc (.cells #[.string (bs []), .int .i64 0, .int .i64 0, .int .i64 0, .bool false, .slice none 0 0] 46)).heap.size y.cells.toArray 46, boxA w6.heap.size x.cells.toArray 46, rowA 46 6 (.slice aB i cB) i ((L.map Bd.cells).flatten), BA L, boxA r4 #[iv (ad n1 m1), iv (ad n2 m2), iv (ad n3 m3), iv (ad n4 m4), iv (ad n5 m5), iv (ad n6 m6), iv (ad n7 m7), iv (ad n8 m8), iv (ad n9 m9), iv (ad n10 m10), iv (ad n11 m11), iv (ad a.ref b.ref), .slice aP (a.ps ++ b.ps).length cP, .slice aB i cB, .slice aI (a.rer ++ b.rer).length cI] 31, rowA 3 1 (.slice aI (a.rer ++ b.rer).length cI) (a.rer ++ b.rer).length ((a.rer ++ b.rer).map iv), rowA 66 6 (.slice aP (a.ps ++ b.ps).length cP) (a.ps ++ b.ps).length (fl (a.ps ++ b.ps)), boxA r3 #[iv 0, iv 0, iv 0, iv 0, iv 0, iv 0, iv 0, iv 0, iv 0, iv 0, iv 0, iv 0, .slice none 0 0, .slice none 0 0, .slice none 0 0] 31, boxA r2 #[iv m1, iv m2, iv m3, iv m4, iv m5, iv m6, iv m7, iv m8, iv m9, iv m10, iv m11, iv b.ref, .slice b.a1 b.ps.length b.c1, .slice b.a2 b.bds.length b.c2, .slice b.a3 b.rer.length b.c3] 31, boxA r1 #[iv n1, iv n2, iv n3, iv n4, iv n5, iv n6, iv n7, iv n8, iv n9, iv n10, iv n11, iv a.ref, .slice a.a1 a.ps.length a.c1, .slice a.a2 a.bds.length a.c2, .slice a.a3 a.rer.length a.c3] 31, emp]) :=
            St.picks (l := _ ++ _) ((s6.after p9).weak (weak_cat _ _)) [0, 1, 3, 4, 5, 6, 7, 8, 9, 10, 11]
          clear p9 p8 p7
          generalize hrx : w6.heap.size = rx at s19 ⊢
          generalize hry : (w6.alloc _).heap.size = ry at s19 ⊢
          have cx : ∀ (j : Nat) (v : Value), x.cells[j]? = some v → w19.cell? ⟨rx, j, none⟩ = some v := fun j v hv => by rw [s19.boxedAt 1 rfl]; simpa using hv
          have cy : ∀ (j : Nat) (v : Value), y.cells[j]? = some v → w19.cell? ⟨ry, j, none⟩ = some v := fun j v hv => by rw [s19.boxedAt 0 rfl]; simpa using hv
          refine ⟨_, cx 0 _ rfl, _, cy 0 _ rfl, ?_⟩
          by_cases hxy : x.nm = y.nm
          · refine cF (by rw [hxy]; simp) ⟨_, cx 0 _ rfl, _, cx 1 _ rfl, _, cy 1 _ rfl, _, cx 2 _ rfl, _, cy 2 _ rfl, _, cx 3 _ rfl, _, cy 3 _ rfl, x.out, cx 4 _ rfl, ?_⟩
            cases hox : x.out with
            | true =>
              refine cT rfl (newK_mk ?_)
              refine (s19.boxL _ 46).stLAt 0 rfl [sv x.nm, iv (ad x.d y.d), iv (ad x.b y.b), iv (ad x.wd y.wd), .bool true, .slice none 0 0] rfl (by intro v hv; simp at hv; rcases hv with rfl | rfl | rfl | rfl | rfl | rfl <;> rfl) fun w22 s22' => ?_
              have s22 := s22'.quiet (Chg.drew w22 [])
              clear s22'
              generalize hw23 : w22.drew = w23 at s22 ⊢
              generalize hr7 : w19.heap.size = r7 at s22 ⊢
              refine ⟨none, 0, 0, by rw [s22.boxedAt 0 rfl]; rfl, _, _, _, by rw [s22.boxedAt 2 rfl]; rfl, _, _, _, by rw [s22.boxedAt 1 rfl]; rfl, ?_⟩
              refine appR_st sl25 (s22.rowL 3 1) (news := x.pts.map iv) (by simp) (fun j u hj => rdCell ((ha.chg s22.chg).bds i x gx).2.1 j u hj) map_one (by omega) (by omega) fun p1 k1 w24 s24 => ?_
              refine ⟨by rw [St.boxedAt (l := [rowA 3 1 _ _ _, _, _, _, _, _, _, _, _, _, _, _, _]) s24 2 rfl]; rfl, ?_⟩
              refine appR_st sl25 s24 (news := y.pts.map iv) (by simp) (fun j u hj => rdCell ((hb.chg s24.chg).bds i y gy).2.1 j u hj) map_one (by omega) (by omega) fun p2 k2 w25 s25 => ?_
              have e25 : 0 + x.pts.length + y.pts.length = (x.pts ++ y.pts).length := by simp
              rw [e25] at s25 ⊢
              rw [List.nil_append, ← List.map_append] at s25
              refine St.stAt (l := [rowA 3 1 _ _ _, boxA r7 _ 46, _, _, _, _, _, _, _, _, _, _, _]) s25 1 rfl (show 5 < 6 by decide) rfl fun w26 s26 => ?_
              refine ⟨aB, i, cB, by rw [s26.boxedAt 6 rfl]; rfl, _, _, _, _, _, _, _, _, s26.cellsIn 1 rfl, ?_⟩
              refine app1_st sl29 (s26.out 4 rfl) (news := (x.pl y p2 k2).cells) rfl (x.pl y p2 k2).one (by omega) (by omega) (fun aN cN w28 s28 => ?_) (by unfold Bd.pl Bd.cells; rw [hox]; rfl)
              have s28' := s28.back (l := _) (i := 4) (by simp)
              refine s28'.stAt 6 rfl (show 13 < 15 by decide) rfl fun w29 s29 => ?_
              have s30 : St w w29 (Sep [ptsA (x.pl y p2 k2), BA L, rowA 46 6 (.slice aN (i + 1) cN) (i + 1) ((L.map Bd.cells).flatten ++ (x.pl y p2 k2).cells), boxA r4 #[iv (ad n1 m1), iv (ad n2 m2), iv (ad n3 m3), iv (ad n4 m4), iv (ad n5 m5), iv (ad n6 m6), iv (ad n7 m7), iv (ad n8 m8), iv (ad n9 m9), iv (ad n10 m10), iv (ad n11 m11), iv (ad a.ref b.ref), .slice aP (a.ps ++ b.ps).length cP, .slice aN (i + 1) cN, .slice aI (a.rer ++ b.rer).length cI] 31, rowA 3 1 (.slice aI (a.rer ++ b.rer).length cI) (a.rer ++ b.rer).length ((a.rer ++ b.rer).map iv), rowA 66 6 (.slice aP (a.ps ++ b.ps).length cP) (a.ps ++ b.ps).length (fl (a.ps ++ b.ps)), boxA r3 #[iv 0, iv 0, iv 0, iv 0, iv 0, iv 0, iv 0, iv 0, iv 0, iv 0, iv 0, iv 0, .slice none 0 0, .slice none 0 0, .slice none 0 0] 31, boxA r2 #[iv m1, iv m2, iv m3, iv m4, iv m5, iv m6, iv m7, iv m8, iv m9, iv m10, iv m11, iv b.ref, .slice b.a1 b.ps.length b.c1, .slice b.a2 b.bds.length b.c2, .slice b.a3 b.rer.length b.c3] 31, boxA r1 #[iv n1, iv n2, iv n3, iv n4, iv n5, iv n6, iv n7, iv n8, iv n9, iv n10, iv n11, iv a.ref, .slice a.a1 a.ps.length a.c1, .slice a.a2 a.bds.length a.c2, .slice a.a3 a.rer.length a.c3] 31, emp]) := s29.picks [0, 5, 4, 6, 7, 8, 9, 10, 11, 12]
              have s31 := ba_snoc (x := x.pl y p2 k2) s30
              refine ⟨a.bds.length - (i + 1), by omega, i + 1, aN, cN, L ++ [x.pl y p2 k2], by rw [iwrap ⟨by omega, by omega⟩]; rfl, by omega, rfl, ?_, hL.snoc ha hb ma mb gx gy p2 k2, ?_⟩
              · rw [take_snoc gx, take_snoc gy, List.map_append, List.map_append, hnm]
                simp [hxy]
              have e : ((L ++ [x.pl y p2 k2]).map Bd.cells).flatten = (L.map Bd.cells).flatten ++ (x.pl y p2 k2).cells := by simp
              rw [e, ← hq1, ← hq2]
              exact St.picks (l := [BA (L ++ [x.pl y p2 k2]), rowA 46 6 _ _ _, _, _, _, _, _, _, _]) s31 [1, 0, 2, 3, 4, 5, 6, 7, 8]
            | false =>
              refine cF rfl ⟨y.out, cy 4 _ rfl, newK_mk ?_⟩
              refine (s19.boxL _ 46).stLAt 0 rfl [sv x.nm, iv (ad x.d y.d), iv (ad x.b y.b), iv (ad x.wd y.wd), .bool y.out, .slice none 0 0] rfl (by intro v hv; simp at hv; rcases hv with rfl | rfl | rfl | rfl | rfl | rfl <;> rfl) fun w22 s22' => ?_
              have s22 := s22'.quiet (Chg.drew w22 [])
              clear s22'
              generalize hw23 : w22.drew = w23 at s22 ⊢
              generalize hr7 : w19.heap.size = r7 at s22 ⊢
              refine ⟨none, 0, 0, by rw [s22.boxedAt 0 rfl]; rfl, _, _, _, by rw [s22.boxedAt 2 rfl]; rfl, _, _, _, by rw [s22.boxedAt 1 rfl]; rfl, ?_⟩
              refine appR_st sl25 (s22.rowL 3 1) (news := x.pts.map iv) (by simp) (fun j u hj => rdCell ((ha.chg s22.chg).bds i x gx).2.1 j u hj) map_one (by omega) (by omega) fun p1 k1 w24 s24 => ?_
              refine ⟨by rw [St.boxedAt (l := [rowA 3 1 _ _ _, _, _, _, _, _, _, _, _, _, _, _, _]) s24 2 rfl]; rfl, ?_⟩
              refine appR_st sl25 s24 (news := y.pts.map iv) (by simp) (fun j u hj => rdCell ((hb.chg s24.chg).bds i y gy).2.1 j u hj) map_one (by omega) (by omega) fun p2 k2 w25 s25 => ?_
              have e25 : 0 + x.pts.length + y.pts.length = (x.pts ++ y.pts).length := by simp
              rw [e25] at s25 ⊢
              rw [List.nil_append, ← List.map_append] at s25
              refine St.stAt (l := [rowA 3 1 _ _ _, boxA r7 _ 46, _, _, _, _, _, _, _, _, _, _, _]) s25 1 rfl (show 5 < 6 by decide) rfl fun w26 s26 => ?_
              refine ⟨aB, i, cB, by rw [s26.boxedAt 6 rfl]; rfl, _, _, _, _, _, _, _, _, s26.cellsIn 1 rfl, ?_⟩
              refine app1_st sl29 (s26.out 4 rfl) (news := (x.pl y p2 k2).cells) rfl (x.pl y p2 k2).one (by omega) (by omega) (fun aN cN w28 s28 => ?_) (by unfold Bd.pl Bd.cells; rw [hox]; rfl)
              have s28' := s28.back (l := _) (i := 4) (by simp)
              refine s28'.stAt 6 rfl (show 13 < 15 by decide) rfl fun w29 s29 => ?_
              have s30 : St w w29 (Sep [ptsA (x.pl y p2 k2), BA L, rowA 46 6 (.slice aN (i + 1) cN) (i + 1) ((L.map Bd.cells).flatten ++ (x.pl y p2 k2).cells), boxA r4 #[iv (ad n1 m1), iv (ad n2 m2), iv (ad n3 m3), iv (ad n4 m4), iv (ad n5 m5), iv (ad n6 m6), iv (ad n7 m7), iv (ad n8 m8), iv (ad n9 m9), iv (ad n10 m10), iv (ad n11 m11), iv (ad a.ref b.ref), .slice aP (a.ps ++ b.ps).length cP, .slice aN (i + 1) cN, .slice aI (a.rer ++ b.rer).length cI] 31, rowA 3 1 (.slice aI (a.rer ++ b.rer).length cI) (a.rer ++ b.rer).length ((a.rer ++ b.rer).map iv), rowA 66 6 (.slice aP (a.ps ++ b.ps).length cP) (a.ps ++ b.ps).length (fl (a.ps ++ b.ps)), boxA r3 #[iv 0, iv 0, iv 0, iv 0, iv 0, iv 0, iv 0, iv 0, iv 0, iv 0, iv 0, iv 0, .slice none 0 0, .slice none 0 0, .slice none 0 0] 31, boxA r2 #[iv m1, iv m2, iv m3, iv m4, iv m5, iv m6, iv m7, iv m8, iv m9, iv m10, iv m11, iv b.ref, .slice b.a1 b.ps.length b.c1, .slice b.a2 b.bds.length b.c2, .slice b.a3 b.rer.length b.c3] 31, boxA r1 #[iv n1, iv n2, iv n3, iv n4, iv n5, iv n6, iv n7, iv n8, iv n9, iv n10, iv n11, iv a.ref, .slice a.a1 a.ps.length a.c1, .slice a.a2 a.bds.length a.c2, .slice a.a3 a.rer.length a.c3] 31, emp]) := s29.picks [0, 5, 4, 6, 7, 8, 9, 10, 11, 12]
              have s31 := ba_snoc (x := x.pl y p2 k2) s30
              refine ⟨a.bds.length - (i + 1), by omega, i + 1, aN, cN, L ++ [x.pl y p2 k2], by rw [iwrap ⟨by omega, by omega⟩]; rfl, by omega, rfl, ?_, hL.snoc ha hb ma mb gx gy p2 k2, ?_⟩
              · rw [take_snoc gx, take_snoc gy, List.map_append, List.map_append, hnm]
                simp [hxy]
              have e : ((L ++ [x.pl y p2 k2]).map Bd.cells).flatten = (L.map Bd.cells).flatten ++ (x.pl y p2 k2).cells := by simp
              rw [e, ← hq1, ← hq2]
              exact St.picks (l := [BA (L ++ [x.pl y p2 k2]), rowA 46 6 _ _ _, _, _, _, _, _, _, _]) s31 [1, 0, 2, 3, 4, 5, 6, 7, 8]
          · refine cT (by rw [bsl, bsl]; simpa using hxy) ?_
            refine s19.stLAt 7 rfl [iv 0, iv 0, iv 0, iv 0, iv 0, iv 0, iv 0, iv 0, iv 0, iv 0, iv 0, iv 0, .slice none 0 0, .slice none 0 0, .slice none 0 0] rfl (by intro v hv; simp at hv; rcases hv with rfl | rfl <;> rfl) fun w' s' => ?_
            refine ⟨_, _, _, _, _, _, _, _, _, _, _, _, _, _, _, _, _, _, _, _, _, s'.cellsIn 7 rfl, mg_bad (fun he => hxy ?_) s'.chg⟩
            have := congrArg (fun l => l[i]?) he
            simpa [gx, gy] using this
        · have p7 := ((St.start w6).one.boxL #[.string (bs []), .int .i64 0, .int .i64 0, .int .i64 0, .bool false, .slice none 0 0] 46).boxL #[.string (bs []), .int .i64 0, .int .i64 0, .int .i64 0, .bool false, .slice none 0 0] 46
          refine newK_mk ⟨cellsAt_chg e6 g2, by rw [← hq2]; exact b1 e6, cellsAt_chg e6 g1, by rw [← hq1]; exact a1 e6, newK_mk ⟨cellsAt_chg e7 g2, by rw [← hq2]; exact b1 e7, cellsAt_chg e7 g1, by rw [← hq1]; exact a1 e7, ?_⟩⟩
          refine p7.stLAt 0 rfl x.cells rfl x.one fun w8 p8 => ⟨cellsAt_chg p8.chg g2, by rw [← hq2]; exact b1 p8.chg, ?_⟩
          refine p8.stLAt 1 rfl y.cells rfl y.one fun w19 p9 => ?_
          have s19 : St w w19 (Sep [boxA w6.heap.size y.cells.toArray 46, boxA (w6.alloc (.cells #[.string (bs []), .int .i64 0, .int .i64 0, .int .i64 0, .bool false, .slice none 0 0] 46)).heap.size x.cells.toArray 46, rowA 46 6 (.slice aB i cB) i ((L.map Bd.cells).flatten), BA L, boxA r4 #[iv (ad n1 m1), iv (ad n2 m2), iv (ad n3 m3), iv (ad n4 m4), iv (ad n5 m5), iv (ad n6 m6), iv (ad n7 m7), iv (ad n8 m8), iv (ad n9 m9), iv (ad n10 m10), iv (ad n11 m11), iv (ad a.ref b.ref), .slice aP (a.ps ++ b.ps).length cP, .slice aB i cB, .slice aI (a.rer ++ b.rer).length cI] 31, rowA 3 1 (.slice aI (a.rer ++ b.rer).length cI) (a.rer ++ b.rer).length ((a.rer ++ b.rer).map iv), rowA 66 6 (.slice aP (a.ps ++ b.ps).length cP) (a.ps ++ b.ps).length (fl (a.ps ++ b.ps)), boxA r3 #[iv 0, iv 0, iv 0, iv 0, iv 0, iv 0, iv 0, iv 0, iv 0, iv 0, iv 0, iv 0, .slice none 0 0, .slice none 0 0, .slice none 0 0] 31, boxA r2 #[iv m1, iv m2, iv m3, iv m4, iv m5, iv m6, iv m7, iv m8, iv m9, iv m10, iv m11, iv b.ref, .slice b.a1 b.ps.length b.c1, .slice b.a2 b.bds.length b.c2, .slice b.a3 b.rer.length b.c3] 31, boxA r1 #[iv n1, iv n2, iv n3, iv n4, iv n5, iv n6, iv n7, iv n8, iv n9, iv n10, iv n11, iv a.ref, .slice a.a1 a.ps.length a.c1, .slice a.a2 a.bds.length a.c2, .slice a.a3 a.rer.length a.c3] 31, emp]) :=
            St.picks (l := _ ++ _) ((s6.after p9).weak (weak_cat _ _)) [1, 0, 3, 4, 5, 6, 7, 8, 9, 10, 11]
          clear p9 p8 p7
          generalize hry : w6.heap.size = ry at s19 ⊢
          generalize hrx : (w6.alloc _).heap.size = rx at s19 ⊢
          have cx : ∀ (j : Nat) (v : Value), x.cells[j]? = some v → w19.cell? ⟨rx, j, none⟩ = some v := fun j v hv => by rw [s19.boxedAt 1 rfl]; simpa using hv
          have cy : ∀ (j : Nat) (v : Value), y.cells[j]? = some v → w19.cell? ⟨ry, j, none⟩ = some v := fun j v hv => by rw [s19.boxedAt 0 rfl]; simpa using hv
          refine ⟨_, cx 0 _ rfl, _, cy 0 _ rfl, ?_⟩
          by_cases hxy : x.nm = y.nm
          · refine cF (by rw [hxy]; simp) ⟨_, cx 0 _ rfl, _, cx 1 _ rfl, _, cy 1 _ rfl, _, cx 2 _ rfl, _, cy 2 _ rfl, _, cx 3 _ rfl, _, cy 3 _ rfl, x.out, cx 4 _ rfl, ?_⟩
            cases hox : x.out with
            | true =>
              refine cT rfl (newK_mk ?_)
              refine (s19.boxL _ 46).stLAt 0 rfl [sv x.nm, iv (ad x.d y.d), iv (ad x.b y.b), iv (ad x.wd y.wd), .bool true, .slice none 0 0] rfl (by intro v hv; simp at hv; rcases hv with rfl | rfl | rfl | rfl | rfl | rfl <;> rfl) fun w22 s22' => ?_
              have s22 := s22'.quiet (Chg.drew w22 [])
              clear s22'
              generalize hw23 : w22.drew = w23 at s22 ⊢
              generalize hr7 : w19.heap.size = r7 at s22 ⊢
              refine ⟨none, 0, 0, by rw [s22.boxedAt 0 rfl]; rfl, _, _, _, by rw [s22.boxedAt 2 rfl]; rfl, _, _, _, by rw [s22.boxedAt 1 rfl]; rfl, ?_⟩
              refine appR_st sl25 (s22.rowL 3 1) (news := x.pts.map iv) (by simp) (fun j u hj => rdCell ((ha.chg s22.chg).bds i x gx).2.1 j u hj) map_one (by omega) (by omega) fun p1 k1 w24 s24 => ?_
              refine ⟨by rw [St.boxedAt (l := [rowA 3 1 _ _ _, _, _, _, _, _, _, _, _, _, _, _, _]) s24 2 rfl]; rfl, ?_⟩
              refine appR_st sl25 s24 (news := y.pts.map iv) (by simp) (fun j u hj => rdCell ((hb.chg s24.chg).bds i y gy).2.1 j u hj) map_one (by omega) (by omega) fun p2 k2 w25 s25 => ?_
              have e25 : 0 + x.pts.length + y.pts.length = (x.pts ++ y.pts).length := by simp
              rw [e25] at s25 ⊢
              rw [List.nil_append, ← List.map_append] at s25
              refine St.stAt (l := [rowA 3 1 _ _ _, boxA r7 _ 46, _, _, _, _, _, _, _, _, _, _, _]) s25 1 rfl (show 5 < 6 by decide) rfl fun w26 s26 => ?_
              refine ⟨aB, i, cB, by rw [s26.boxedAt 6 rfl]; rfl, _, _, _, _, _, _, _, _, s26.cellsIn 1 rfl, ?_⟩
              refine app1_st sl29 (s26.out 4 rfl) (news := (x.pl y p2 k2).cells) rfl (x.pl y p2 k2).one (by omega) (by omega) (fun aN cN w28 s28 => ?_) (by unfold Bd.pl Bd.cells; rw [hox]; rfl)
              have s28' := s28.back (l := _) (i := 4) (by simp)
              refine s28'.stAt 6 rfl (show 13 < 15 by decide) rfl fun w29 s29 => ?_
              have s30 : St w w29 (Sep [ptsA (x.pl y p2 k2), BA L, rowA 46 6 (.slice aN (i + 1) cN) (i + 1) ((L.map Bd.cells).flatten ++ (x.pl y p2 k2).cells), boxA r4 #[iv (ad n1 m1), iv (ad n2 m2), iv (ad n3 m3), iv (ad n4 m4), iv (ad n5 m5), iv (ad n6 m6), iv (ad n7 m7), iv (ad n8 m8), iv (ad n9 m9), iv (ad n10 m10), iv (ad n11 m11), iv (ad a.ref b.ref), .slice aP (a.ps ++ b.ps).length cP, .slice aN (i + 1) cN, .slice aI (a.rer ++ b.rer).length cI] 31, rowA 3 1 (.slice aI (a.rer ++ b.rer).length cI) (a.rer ++ b.rer).length ((a.rer ++ b.rer).map iv), rowA 66 6 (.slice aP (a.ps ++ b.ps).length cP) (a.ps ++ b.ps).length (fl (a.ps ++ b.ps)), boxA r3 #[iv 0, iv 0, iv 0, iv 0, iv 0, iv 0, iv 0, iv 0, iv 0, iv 0, iv 0, iv 0, .slice none 0 0, .slice none 0 0, .slice none 0 0] 31, boxA r2 #[iv m1, iv m2, iv m3, iv m4, iv m5, iv m6, iv m7, iv m8, iv m9, iv m10, iv m11, iv b.ref, .slice b.a1 b.ps.length b.c1, .slice b.a2 b.bds.length b.c2, .slice b.a3 b.rer.length b.c3] 31, boxA r1 #[iv n1, iv n2, iv n3, iv n4, iv n5, iv n6, iv n7, iv n8, iv n9, iv n10, iv n11, iv a.ref, .slice a.a1 a.ps.length a.c1, .slice a.a2 a.bds.length a.c2, .slice a.a3 a.rer.length a.c3] 31, emp]) := s29.picks [0, 5, 4, 6, 7, 8, 9, 10, 11, 12]
              have s31 := ba_snoc (x := x.pl y p2 k2) s30
              refine ⟨a.bds.length - (i + 1), by omega, i + 1, aN, cN, L ++ [x.pl y p2 k2], by rw [iwrap ⟨by omega, by omega⟩]; rfl, by omega, rfl, ?_, hL.snoc ha hb ma mb gx gy p2 k2, ?_⟩
              · rw [take_snoc gx, take_snoc gy, List.map_append, List.map_append, hnm]
                simp [hxy]
              have e : ((L ++ [x.pl y p2 k2]).map Bd.cells).flatten = (L.map Bd.cells).flatten ++ (x.pl y p2 k2).cells := by simp
              rw [e, ← hq1, ← hq2]
              exact St.picks (l := [BA (L ++ [x.pl y p2 k2]), rowA 46 6 _ _ _, _, _, _, _, _, _, _]) s31 [1, 0, 2, 3, 4, 5, 6, 7, 8]
            | false =>
              refine cF rfl ⟨y.out, cy 4 _ rfl, newK_mk ?_⟩
              refine (s19.boxL _ 46).stLAt 0 rfl [sv x.nm, iv (ad x.d y.d), iv (ad x.b y.b), iv (ad x.wd y.wd), .bool y.out, .slice none 0 0] rfl (by intro v hv; simp at hv; rcases hv with rfl | rfl | rfl | rfl | rfl | rfl <;> rfl) fun w22 s22' => ?_
              have s22 := s22'.quiet (Chg.drew w22 [])
              clear s22'
              generalize hw23 : w22.drew = w23 at s22 ⊢
              generalize hr7 : w19.heap.size = r7 at s22 ⊢
              refine ⟨none, 0, 0, by rw [s22.boxedAt 0 rfl]; rfl, _, _, _, by rw [s22.boxedAt 2 rfl]; rfl, _, _, _, by rw [s22.boxedAt 1 rfl]; rfl, ?_⟩
              refine appR_st sl25 (s22.rowL 3 1) (news := x.pts.map iv) (by simp) (fun j u hj => rdCell ((ha.chg s22.chg).bds i x gx).2.1 j u hj) map_one (by omega) (by omega) fun p1 k1 w24 s24 => ?_
              refine ⟨by rw [St.boxedAt (l := [rowA 3 1 _ _ _, _, _, _, _, _, _, _, _, _, _, _, _]) s24 2 rfl]; rfl, ?_⟩
              refine appR_st sl25 s24 (news := y.pts.map iv) (by simp) (fun j u hj => rdCell ((hb.chg s24.chg).bds i y gy).2.1 j u hj) map_one (by omega) (by omega) fun p2 k2 w25 s25 => ?_
              have e25 : 0 + x.pts.length + y.pts.length = (x.pts ++ y.pts).length := by simp
              rw [e25] at s25 ⊢
              rw [List.nil_append, ← List.map_append] at s25
              refine St.stAt (l := [rowA 3 1 _ _ _, boxA r7 _ 46, _, _, _, _, _, _, _, _, _, _, _]) s25 1 rfl (show 5 < 6 by decide) rfl fun w26 s26 => ?_
              refine ⟨aB, i, cB, by rw [s26.boxedAt 6 rfl]; rfl, _, _, _, _, _, _, _, _, s26.cellsIn 1 rfl, ?_⟩
              refine app1_st sl29 (s26.out 4 rfl) (news := (x.pl y p2 k2).cells) rfl (x.pl y p2 k2).one (by omega) (by omega) (fun aN cN w28 s28 => ?_) (by unfold Bd.pl Bd.cells; rw [hox]; rfl)
              have s28' := s28.back (l := _) (i := 4) (by simp)
              refine s28'.stAt 6 rfl (show 13 < 15 by decide) rfl fun w29 s29 => ?_
              have s30 : St w w29 (Sep [ptsA (x.pl y p2 k2), BA L, rowA 46 6 (.slice aN (i + 1) cN) (i + 1) ((L.map Bd.cells).flatten ++ (x.pl y p2 k2).cells), boxA r4 #[iv (ad n1 m1), iv (ad n2 m2), iv (ad n3 m3), iv (ad n4 m4), iv (ad n5 m5), iv (ad n6 m6), iv (ad n7 m7), iv (ad n8 m8), iv (ad n9 m9), iv (ad n10 m10), iv (ad n11 m11), iv (ad a.ref b.ref), .slice aP (a.ps ++ b.ps).length cP, .slice aN (i + 1) cN, .slice aI (a.rer ++ b.rer).length cI] 31, rowA 3 1 (.slice aI (a.rer ++ b.rer).length cI) (a.rer ++ b.rer).length ((a.rer ++ b.rer).map iv), rowA 66 6 (.slice aP (a.ps ++ b.ps).length cP) (a.ps ++ b.ps).length (fl (a.ps ++ b.ps)), boxA r3 #[iv 0, iv 0, iv 0, iv 0, iv 0, iv 0, iv 0, iv 0, iv 0, iv 0, iv 0, iv 0, .slice none 0 0, .slice none 0 0, .slice none 0 0] 31, boxA r2 #[iv m1, iv m2, iv m3, iv m4, iv m5, iv m6, iv m7, iv m8, iv m9, iv m10, iv m11, iv b.ref, .slice b.a1 b.ps.length b.c1, .slice b.a2 b.bds.length b.c2, .slice b.a3 b.rer.length b.c3] 31, boxA r1 #[iv n1, iv n2, iv n3, iv n4, iv n5, iv n6, iv n7, iv n8, iv n9, iv n10, iv n11, iv a.ref, .slice a.a1 a.ps.length a.c1, .slice a.a2 a.bds.length a.c2, .slice a.a3 a.rer.length a.c3] 31, emp]) := s29.picks [0, 5, 4, 6, 7, 8, 9, 10, 11, 12]
              have s31 := ba_snoc (x := x.pl y p2 k2) s30
              refine ⟨a.bds.length - (i + 1), by omega, i + 1, aN, cN, L ++ [x.pl y p2 k2], by rw [iwrap ⟨by omega, by omega⟩]; rfl, by omega, rfl, ?_, hL.snoc ha hb ma mb gx gy p2 k2, ?_⟩
              · rw [take_snoc gx, take_snoc gy, List.map_append, List.map_append, hnm]
                simp [hxy]
              have e : ((L ++ [x.pl y p2 k2]).map Bd.cells).flatten = (L.map Bd.cells).flatten ++ (x.pl y p2 k2).cells := by simp
              rw [e, ← hq1, ← hq2]
              exact St.picks (l := [BA (L ++ [x.pl y p2 k2]), rowA 46 6 _ _ _, _, _, _, _, _, _, _]) s31 [1, 0, 2, 3, 4, 5, 6, 7, 8]
          · refine cT (by rw [bsl, bsl]; simpa using hxy) ?_
            refine s19.stLAt 7 rfl [iv 0, iv 0, iv 0, iv 0, iv 0, iv 0, iv 0, iv 0, iv 0, iv 0, iv 0, iv 0, .slice none 0 0, .slice none 0 0, .slice none 0 0] rfl (by intro v hv; simp at hv; rcases hv with rfl | rfl <;> rfl) fun w' s' => ?_
            refine ⟨_, _, _, _, _, _, _, _, _, _, _, _, _, _, _, _, _, _, _, _, _, s'.cellsIn 7 rfl, mg_bad (fun he => hxy ?_) s'.chg⟩
            have := congrArg (fun l => l[i]?) he
            simpa [gx, gy] using this
      · have hie2 : i = a.bds.length := by omega
        have hn : a.bds.map Bd.nm = b.bds.map Bd.nm := by
          rw [List.take_of_length_le (by omega), List.take_of_length_le (by omega)] at hnm
          exact hnm
        refine cF (by simpa using hlt) ⟨_, _, _, _, _, _, _, _, _, _, _, _, _, _, _, _, _, _, _, _, _, s21.cellsIn 2 rfl, ?_⟩
        refine s21.stLAt 5 rfl _ rfl (by intro v hv; simp at hv; rcases hv with rfl | rfl | rfl | rfl | rfl | rfl | rfl | rfl | rfl | rfl | rfl | rfl | rfl | rfl | rfl <;> rfl) fun w27 s27 => ?_
        refine ⟨_, _, _, _, _, _, _, _, _, _, _, _, _, _, _, _, _, _, _, _, _, s27.cellsIn 5 rfl, ?_⟩
        exact mg_good ha hb ma mb hn hL hie2 (by rw [hea, heb]; rfl) (s27.picks [0, 1, 3, 4])
  · refine cT (by simp; omega) ?_
    refine s3.stLAt 0 rfl [iv 0, iv 0, iv 0, iv 0, iv 0, iv 0, iv 0, iv 0, iv 0, iv 0, iv 0, iv 0, .slice none 0 0, .slice none 0 0, .slice none 0 0] rfl (by intro v hv; simp at hv; rcases hv with rfl | rfl <;> rfl) fun w' s' => ?_
    refine ⟨_, _, _, _, _, _, _, _, _, _, _, _, _, _, _, _, _, _, _, _, _, s'.cellsIn 0 rfl, mg_bad (fun he => hlen (by have := congrArg List.length he; simpa using this)) s'.chg⟩

end Go.Proofs.YtdpcgfcabikjmaaGreatDoor


import Derived.Test.YtdpcgfcabikjmaaGreatDoorr5F
import Derived.Test.YtdpcgfcabikjmaaGreatDoorr5W
import Derived.Test.YtdpcgfcabikjmaaGreatDoorr5Shlawt
namespace Go.Proofs.YtdpcgfcabikjmaaGreatDoor
open Go Go.Vc Go.Sort Go.RowKit Go.Deep
set_option maxRecDepth 100000

theorem isx {f : FuncId} {e : Array Value → Sem Value} (h : ∃ fn, Tryz.prog.funcs[f]? = some fn ∧ (fn.name == "runtime.NumGoroutine") = false ∧ fn.body.isNone = true ∧ (Extern.findNext fn).isNone = true ∧ Extern.find fn = some e) : Gx.IsX Tryz.prog f e := by
  obtain ⟨fn, h1, h2, h3, h4, h5⟩ := h
  exact ⟨fn, h1, h2, h3, by simpa using h4, h5⟩

theorem xok : xt.OK Tryz.prog where
  noEsc := isx ⟨_, Tryz.func69, by kernel_rfl, by kernel_rfl, by kernel_rfl, by kernel_rfl⟩
  idx := isx ⟨_, Tryz.func257, by kernel_rfl, by kernel_rfl, by kernel_rfl, by kernel_rfl⟩
  cnt := isx ⟨_, Tryz.func218, by kernel_rfl, by kernel_rfl, by kernel_rfl, by kernel_rfl⟩
  mnz := isx ⟨_, Tryz.func117, by kernel_rfl, by kernel_rfl, by kernel_rfl, by kernel_rfl⟩
  me := Tryz.underlying56

theorem awake_c (w : World) : Calls Tryz.prog 7 #[] w (RetC fun r w' => r = .bool true ∧ Chg w w' []) :=
  (Gx.gclosed (fun _ => Gx.fcall_ok (fun _ _ _ _ _ _ _ hg _ _ _ hr hv => Gx.gext_ok xok hg hr hv) 100) awake w).mono fun _ _ ⟨h1, h2⟩ => ⟨_, h1, rfl, h2⟩

theorem texts_c {w : World} {s : Sm} (h : s.In w) (hlim : s.bds.length ≤ 1954687338211) (ht : Tab w) : Calls Tryz.prog 3 #[.agg s.val.toArray] w (RetC fun r w' => r = .bool true ∧ Chg w w' []) := by
  obtain ⟨n1, n2, n3, n4, n5, n6, n7, n8, n9, n10, n11, he⟩ := len11 h.n11
  have hval : s.val.toArray = #[iv n1, iv n2, iv n3, iv n4, iv n5, iv n6, iv n7, iv n8, iv n9, iv n10, iv n11, iv s.ref, .slice s.a1 s.ps.length s.c1, .slice s.a2 s.bds.length s.c2, .slice s.a3 s.rer.length s.c3] := by
    unfold Sm.val; rw [he]; rfl
  have hval2 : ∀ a c, (s.with2 a c).val.toArray = #[iv n1, iv n2, iv n3, iv n4, iv n5, iv n6, iv n7, iv n8, iv n9, iv n10, iv n11, iv s.ref, .slice s.a1 s.ps.length s.c1, .slice a s.bds.length c, .slice s.a3 s.rer.length s.c3] := by
    intro a c; simp only [Sm.val, Sm.with2, he]; rfl
  have pl : ∀ w', s.In w' → Calls Tryz.prog 6 #[.agg #[iv n1, iv n2, iv n3, iv n4, iv n5, iv n6, iv n7, iv n8, iv n9, iv n10, iv n11, iv s.ref, .slice s.a1 s.ps.length s.c1, .slice s.a2 s.bds.length s.c2, .slice s.a3 s.rer.length s.c3]] w' (RetC fun r w'' => ∃ a c, r = .agg (s.with2 a c).val.toArray ∧ (s.with2 a c).In w'' ∧ Chg w' w'' []) := fun w' hs => by
    rw [← hval]; exact plain_c hs hlim
  rw [hval]
  refine lTexts_ok ?_
  unfold lTexts
  refine newK_mk ?_
  generalize hw1 : w.alloc _ = w1
  have s1 : St w w1 (Sep [boxA w.heap.size #[iv n1, iv n2, iv n3, iv n4, iv n5, iv n6, iv n7, iv n8, iv n9, iv n10, iv n11, iv s.ref, .slice s.a1 s.ps.length s.c1, .slice s.a2 s.bds.length s.c2, .slice s.a3 s.rer.length s.c3] 27, emp]) := by
    rw [← hw1]; exact (St.start w).one.boxL _ 27
  have cell : ∀ (w2 : World), Chg w1 w2 [] → cellsAt w2 ⟨w.heap.size, 0, none⟩ 0 [iv n1, iv n2, iv n3, iv n4, iv n5, iv n6, iv n7, iv n8, iv n9, iv n10, iv n11, iv s.ref, .slice s.a1 s.ps.length s.c1, .slice s.a2 s.bds.length s.c2, .slice s.a3 s.rer.length s.c3] := fun w2 hc =>
    cellsAt_chg hc (cells_of _ 0 fun j v hj => by
      rw [addA2, Nat.zero_add, Nat.zero_add, s1.boxedAt 0 rfl]; simpa using hj)
  generalize w.heap.size = r1 at *
  have aw : ∀ {w2 : World}, Chg w w2 [] → Calls Tryz.prog 7 #[] w2 (RetC fun r w' => r = .bool true ∧ Chg w w' []) := fun hc => (awake_c _).mono fun e w' ⟨v, h1, h2, h3⟩ => ⟨v, h1, h2, hc.trans h3 (by simp)⟩
  have fin : ∀ {w2 : World}, Chg w w2 [] → Calls Tryz.prog 7 #[] w2 (fun e w' => ∃ b, e = .returned (.bool b) ∧ (Value.bool b = .bool true ∧ Chg w w' [])) := fun hc => useC (aw hc) fun v w' ⟨h1, h2⟩ => by subst h1; exact ⟨true, rfl, rfl, h2⟩
  refine ⟨n1, n2, n3, n4, n5, n6, n7, n8, n9, n10, n11, s.ref, s.a1, _, s.c1, s.a2, _, s.c2, s.a3, _, s.c3, cell w1 (Chg.refl _ _), useC (pl w1 (h.chg s1.chg)) ?_⟩
  rintro v w2 ⟨a, c, rfl, hi, c2⟩
  rw [hval2]
  refine ⟨n1, n2, n3, n4, n5, n6, n7, n8, n9, n10, n11, s.ref, s.a1, _, s.c1, a, _, c, s.a3, _, s.c3, rfl, ?_⟩
  rw [← hval2 a c]
  refine useC (few_c hi) ?_
  rintro v w3 ⟨b, rfl, hf, c3⟩
  have d3 : Chg w1 w3 [] := c2.trans c3 (by simp)
  refine ⟨b, rfl, ?_⟩
  cases b with
  | false => exact cT rfl (fin (s1.chg.trans d3 (by simp)))
  | true =>
    have hF : s.Few := ⟨(hf rfl).l1, (hf rfl).l2, (hf rfl).l3, (hf rfl).nm, (hf rfl).pt⟩
    have d4 : Chg w1 w3.drew [] := d3.trans (Chg.drew w3 []) (by simp)
    refine cF rfl ⟨n1, n2, n3, n4, n5, n6, n7, n8, n9, n10, n11, s.ref, s.a1, _, s.c1, s.a2, _, s.c2, s.a3, _, s.c3, cell _ d4, n1, n2, n3, n4, n5, n6, n7, n8, n9, n10, n11, s.ref, s.a1, _, s.c1, s.a2, _, s.c2, s.a3, _, s.c3, cell _ d4, ?_⟩
    rw [← hval]
    have e4 : Chg w w3.drew [] := s1.chg.trans d4 (by simp)
    refine useC (format_c (h.chg e4) hF (ht.chg e4)) ?_
    rintro v w5 ⟨rfl, c5⟩
    have d5 : Chg w1 w5 [] := d4.trans c5 (by simp)
    refine ⟨_, rfl, cell _ d5, useC (plain_c (h.chg (s1.chg.trans d5 (by simp))) hlim) ?_⟩
    rintro v w6 ⟨a', c', rfl, hi', c6⟩
    rw [hval2]
    refine ⟨n1, n2, n3, n4, n5, n6, n7, n8, n9, n10, n11, s.ref, s.a1, _, s.c1, a', _, c', s.a3, _, s.c3, rfl, ?_⟩
    rw [← hval2 a' c']
    refine useC (qformat_c hi' ⟨hF.l1, hF.l2, hF.l3, hF.nm, hF.pt⟩) ?_
    rintro v w7 ⟨rfl, c7⟩
    refine ⟨_, rfl, cT (bytes_beq' _ _ rfl) (fin (s1.chg.trans (d5.trans (c6.trans c7 (by simp)) (by simp)) (by simp)))⟩

end Go.Proofs.YtdpcgfcabikjmaaGreatDoor

import Derived.Test.YtniehglfkacjjaaDoorjPf
import Derived.Test.YtniehglfkacjjaaDoorAt
namespace Go.Proofs.YtniehglfkacjjaaDoor
open Go Go.Vc

/-- What Open makes of a medium. -/
def opnM (s : MS) : MS := { s with b := s.b.take (tillM (parseM s.b)), dur := tillM (parseM s.b) }

noncomputable def opX (b : Nat) (s : ByteArray) (n1 : Int) (x r2 r3 : Nat) (v : Value) (fn : FuncId) (D : Nat) : Loop := { jOpen_rf1018_rec b s n1 x r2 r3 v fn D with state := .exhausted }

theorem stp_none {s : MS} (hl : s.left = none) : s.stp = (true, s) := by unfold MS.stp; rw [hl]

theorem open_c {w0 w : World} {b : Nat} {s : MS} {B : Asn} (h : St w0 w (star (medA b s) B)) (ho : s.Ok) (hd : s.down = false) (hl : s.left = none) :
    Calls Tryd.prog 12 #[.pointer (some ⟨b, 0, none⟩)] w (RetC fun r w' => ∃ x, r = .tuple #[.pointer (some ⟨x, 0, none⟩), .int .i64 0] ∧
      St w0 w' (star (jouA x b (parseM s.b) (parseM s.b).length false) (star (medA b (opnM s)) B))) := by
  have hlen : s.b.length ≤ 262144 := by have := ho.s1; have := ho.s2; omega
  obtain ⟨hc1, hc2, hc3, hc4⟩ := parseM_canon s.b
  refine jOpen_ok ?_
  unfold jOpen
  refine useC (read_st h) ?_
  rintro _ w1 ⟨rfl, rfl⟩
  unfold MS.rd
  rw [if_neg (by rw [hd]; decide)]
  refine ⟨_, _, rfl, cF rfl ?_⟩
  refine newK_mk ?_
  obtain ⟨x, hx⟩ : ∃ x, w1.heap.size = x := ⟨_, rfl⟩
  have h1 := h.pair'.boxL #[.pointer (some ⟨b, 0, none⟩), .slice none 0 0, .int .i64 0, .bool false] 64
  rw [hx] at h1 ⊢
  refine newK_mk ?_
  obtain ⟨r2, hr2⟩ : ∃ r2, (w1.alloc (.cells #[.pointer (some ⟨b, 0, none⟩), .slice none 0 0, .int .i64 0, .bool false] 64)).heap.size = r2 := ⟨_, rfl⟩
  have h2 := h1.boxL #[.pointer none] 28
  rw [hr2] at h2 ⊢
  refine h2.stAt 0 rfl (by decide) rfl fun w3 h3 => newK_mk ?_
  obtain ⟨r3, hr3⟩ : ∃ r3, w3.heap.size = r3 := ⟨_, rfl⟩
  have h4 := h3.boxL #[.int .i64 0] 3
  rw [hr3] at h4 ⊢
  refine h4.stAt 0 rfl (by decide) rfl fun w5 h5 => ?_
  refine useC (R := _) (jEntries_ok (K := fun v w' => ∃ y, v = .func (.func 53) #[] #[.pointer (some ⟨y, 0, none⟩)] ∧ St w0 w' (Sep [boxA y #[.string (bs s.b)] 9, boxA r3 #[.int .i64 0] 3, boxA r2 #[.pointer (some ⟨x, 0, none⟩)] 28, boxA x #[.pointer (some ⟨b, 0, none⟩), .slice none 0 0, .int .i64 0, .bool false] 64, medA b s, B])) (newK_mk ⟨_, rfl, h5.boxL _ _⟩)) ?_
  rintro _ w6 ⟨y, rfl, h6⟩
  refine ⟨_, rfl, ?_⟩
  show cond (true && entersB Tryd.prog 53) _ False
  refine cT (by rw [enters53]; rfl) ?_
  intro fn
  obtain ⟨D, hD⟩ : ∃ D, w6.heap.size = D := ⟨_, rfl⟩
  have h7 := h6.objL (.deferred (some []))
  rw [hD] at h7 ⊢
  have hD1 : (w6.alloc (.deferred (some []))).heap.size = D + 1 := by rw [World.size_alloc, hD]
  have h8 := h7.objL (.loop (jOpen_rf1018_rec b (bs s.b) 0 x r2 r3 (.func (.func 53) #[] #[.pointer (some ⟨y, 0, none⟩)]) fn D))
  rw [hD1] at h8
  have h9 := (h8.rowL 69 3).picks [1, 6, 0, 5, 4, 2, 3, 7, 8]
  have h9 : St w0 _ (Sep [objA (D + 1) (.loop (jOpen_rf1018_rec b (bs s.b) 0 x r2 r3 (.func (.func 53) #[] #[.pointer (some ⟨y, 0, none⟩)]) fn D)), boxA x #[.pointer (some ⟨b, 0, none⟩), .slice none 0 0, .int .i64 0, .bool false] 64, rowA 69 3 (.slice none 0 0) 0 [],
    boxA r2 #[.pointer (some ⟨x, 0, none⟩)] 28, boxA r3 #[.int .i64 0] 3, objA D (.deferred (some [])), boxA y #[.string (bs s.b)] 9, medA b s, B]) := h9
  have h10 := St.split (m := [boxA y #[.string (bs s.b)] 9, medA b s, B]) [_, _, _, _, _, _] h9
  have h11 := St.mkEx (f := fun v : Value => Sep [objA (D + 1) (.loop (jOpen_rf1018_rec b (bs s.b) 0 x r2 r3 (.func (.func 53) #[] #[.pointer (some ⟨y, 0, none⟩)]) fn D)), boxA x #[.pointer (some ⟨b, 0, none⟩), v, .int .i64 0, .bool false] 64, rowA 69 3 v 0 [],
    boxA r2 #[.pointer (some ⟨x, 0, none⟩)] 28, boxA r3 #[.int .i64 0] 3, objA D (.deferred (some []))]) (.slice none 0 0) h10
  obtain ⟨es, hes⟩ : ∃ es, parseM s.b = es := ⟨_, rfl⟩
  refine useC (iter_c (L := s.b) (by omega) (R := opR (D + 1) D x b r2 r3 (jOpen_rf1018_rec b (bs s.b) 0 x r2 r3 (.func (.func 53) #[] #[.pointer (some ⟨y, 0, none⟩)]) fn D)) (B := Sep [medA b s, B]) (fun pre e w1 Fr hpre hst => ?_) h11) ?_
  · refine op_round ?_ hst
    have h1 := hpre.length_le
    have h2 := parseF_len s.b.length s.b 0 0
    simp only [List.length_append, List.length_cons, List.length_nil] at h1
    unfold parseM at h1
    omega
  · rintro _ w7 ⟨rfl, hv⟩
    obtain ⟨v, hv⟩ := hv.ex
    have hv := St.cat (m := [boxA y #[.string (bs s.b)] 9, medA b s, B]) hv
    rw [hes] at hv hc1 hc2 hc3 hc4
    rw [opnM, hes]
    have hv : St w0 w7 (Sep [objA (D + 1) (.loop (jOpen_rf1018_rec b (bs s.b) 0 x r2 r3 (.func (.func 53) #[] #[.pointer (some ⟨y, 0, none⟩)]) fn D)), boxA x #[.pointer (some ⟨b, 0, none⟩), v, .int .i64 0, .bool false] 64, rowA 69 3 v es.length (es.flatMap entC),
      boxA r2 #[.pointer (some ⟨x, 0, none⟩)] 28, boxA r3 #[.int .i64 (tillM es : Int)] 3, objA D (.deferred (some [])), boxA y #[.string (bs s.b)] 9, medA b s, B]) := hv
    obtain ⟨a, c, rfl⟩ := own_slice (hv.rowAt 2 rfl)
    refine ⟨⟨_, rfl⟩, _, hv.objAt 0 rfl, by simp [jOpen_rf1018_rec], ?_⟩
    have k2 := (hv.putAt 0 rfl (.loop { jOpen_rf1018_rec b (bs s.b) 0 x r2 r3 (.func (.func 53) #[] #[.pointer (some ⟨y, 0, none⟩)]) fn D with state := .exhausted })).quiet (Chg.drew _ [])
    refine ⟨_, k2.boxedAt 3 rfl 0, _, k2.boxedAt 3 rfl 0, a, _, c, by rw [addA]; exact k2.boxedAt 1 rfl 1, ?_⟩
    dsimp only [onSome]
    rw [addA]
    refine k2.stAt 1 rfl (by show 2 < 4; decide) rfl fun w8 k3 => ?_
    have k3 : St w0 w8 (Sep [objA (D + 1) (.loop (opX b (bs s.b) 0 x r2 r3 (.func (.func 53) #[] #[.pointer (some ⟨y, 0, none⟩)]) fn D)), boxA x #[.pointer (some ⟨b, 0, none⟩), .slice a es.length c, .int .i64 (es.length : Int), .bool false] 64, rowA 69 3 (.slice a es.length c) es.length (es.flatMap entC),
      boxA r2 #[.pointer (some ⟨x, 0, none⟩)] 28, boxA r3 #[.int .i64 (tillM es : Int)] 3, objA D (.deferred (some [])), boxA y #[.string (bs s.b)] 9, medA b s, B]) := k3
    generalize opX b (bs s.b) 0 x r2 r3 (.func (.func 53) #[] #[.pointer (some ⟨y, 0, none⟩)]) fn D = lp at k3
    refine ⟨fun w' => St w0 w' (Sep [objA (D + 1) (.loop lp), boxA x #[.pointer (some ⟨b, 0, none⟩), .slice a es.length c, .int .i64 (es.length : Int), .bool false] 64, rowA 69 3 (.slice a es.length c) es.length (es.flatMap entC),
      boxA r2 #[.pointer (some ⟨x, 0, none⟩)] 28, boxA r3 #[.int .i64 (tillM es : Int)] 3, objA D (.deferred (some [])), boxA y #[.string (bs s.b)] 9, medA b (s.cut (tillM es)), B]), fun w9 k9 _ => ?_, ?_⟩
    · refine ⟨fun w' => St w0 w' (Sep [objA (D + 1) (.loop lp), boxA x #[.pointer (some ⟨b, 0, none⟩), .slice a es.length c, .int .i64 (es.length : Int), .bool false] 64, rowA 69 3 (.slice a es.length c) es.length (es.flatMap entC),
        boxA r2 #[.pointer (some ⟨x, 0, none⟩)] 28, boxA r3 #[.int .i64 (tillM es : Int)] 3, objA D (.deferred (some [])), boxA y #[.string (bs s.b)] 9, medA b { s with b := s.b.take (tillM es), dur := tillM es }, B]), fun w10 k10 _ => ?_, ?_⟩
      · refine ⟨_, k10.boxedAt 3 rfl 0, k10.objAt 5 rfl, x, rfl, ?_⟩
        have k11 := (k10.putAt 5 rfl (.deferred none)).picks [1, 2, 7, 8]
        have k12 := St.triple k11.join
        exact St.mkEx (f := fun v : Value => star (boxA x #[.pointer (some ⟨b, 0, none⟩), v, .int .i64 (es.length : Int), .bool false] 64) (rowA 69 3 v es.length (es.flatMap entC))) (.slice a es.length c) k12
      · refine useC (durable_st (k9.out 7 rfl)) ?_
        rintro _ w10 ⟨rfl, rfl⟩
        refine ⟨_, rfl, useC (size_st (k9.out 7 rfl)) ?_⟩
        rintro _ w11 ⟨rfl, rfl⟩
        refine ⟨_, rfl, ?_⟩
        have hbl : (s.cut (tillM es)).b.length = tillM es := by
          show (s.b.take (tillM es)).length = _
          rw [List.length_take]; omega
        have hdu : (s.cut (tillM es)).dur = min s.dur (tillM es) := rfl
        by_cases hlt : (s.cut (tillM es)).dur < (s.cut (tillM es)).b.length
        · refine cT (decide_eq_true (by omega)) (useC (sync_st (k9.out 7 rfl) (MS.cut_ok ho _)) ?_)
          have hsyn : (s.cut (tillM es)).syn = (0, { s with b := s.b.take (tillM es), dur := tillM es }) := by
            unfold MS.syn
            rw [if_neg (by show ¬ s.down = true; rw [hd]; decide), stp_none (by exact hl), if_pos rfl, hbl]
            rfl
          rw [hsyn]
          rintro _ w12 ⟨rfl, k12⟩
          exact ⟨_, rfl, cF rfl (k12.back (by show 7 < 9; decide))⟩
        · refine cF (decide_eq_false (by omega)) ?_
          have : s.cut (tillM es) = { s with b := s.b.take (tillM es), dur := tillM es } := by
            unfold MS.cut
            rw [show min s.dur (tillM es) = tillM es by omega]
          rw [this] at k9
          exact k9
    · refine ⟨_, k3.boxedAt 4 rfl 0, ?_⟩
      show cond (decide ((tillM es : Int) < ((s.b.length : Nat) : Int))) _ _
      by_cases hlt : tillM es < s.b.length
      · refine cT (decide_eq_true (by omega)) ⟨_, k3.boxedAt 4 rfl 0, useC (truncate_st (k3.out 7 rfl) ho _) ?_⟩
        have htru : s.tru (tillM es : Int) = (0, s.cut (tillM es)) := by
          unfold MS.tru
          rw [if_neg (by rw [hd]; decide), if_neg (by omega), stp_none hl, if_pos rfl]
          simp
        rw [htru]
        rintro _ w12 ⟨rfl, k12⟩
        exact ⟨_, rfl, cF rfl (k12.back (by show 7 < 9; decide))⟩
      · refine cF (decide_eq_false (by omega)) ?_
        have : s.cut (tillM es) = s := by
          unfold MS.cut
          have := ho.d
          rw [List.take_of_length_le (by omega), show min s.dur (tillM es) = s.dur by omega]
        rw [this]
        exact k3

end Go.Proofs.YtniehglfkacjjaaDoor

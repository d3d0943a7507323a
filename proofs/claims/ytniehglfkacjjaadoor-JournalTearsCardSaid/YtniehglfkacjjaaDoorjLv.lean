import Derived.Test.YtniehglfkacjjaaDoorjHd
import Derived.Test.YtniehglfkacjjaaDoorjShL
namespace Go.Proofs.YtniehglfkacjjaaDoor
open Go Go.Vc

theorem appL_none : ∀ (x : List UInt8) (s : MS), s.left = none → MS.appL x s = (0, { s with b := s.b ++ x })
  | [], s, _ => by unfold MS.appL; simp
  | c :: cs, s, h => by
    unfold MS.appL
    rw [h]
    dsimp only
    rw [appL_none cs _ rfl]
    simp

theorem app_fits {s : MS} {x : List UInt8} (hd : s.down = false) (hl : s.left = none) (hx : (s.b.length : Int) + x.length ≤ s.size) : s.app x = (0, { s with b := s.b ++ x }) := by
  rw [MS.app_go hd (by omega), appL_none x s hl]

theorem syn_none {s : MS} (hd : s.down = false) (hl : s.left = none) : s.syn = (0, { s with dur := s.b.length }) := by
  unfold MS.syn
  rw [if_neg (by rw [hd]; decide), stp_none hl, if_pos rfl]

theorem appJ_fits {es : List Ent} {s : MS} {rc : List UInt8} (h4 : rc.length ≤ 4000) (hd : s.down = false) (hl : s.left = none) (hx : (s.b.length : Int) + (frameM rc (chainM (jhead es) rc)).length ≤ s.size) :
    appJ es false s rc = ⟨chainM (jhead es) rc, 0, es ++ [⟨rc, chainM (jhead es) rc, 0⟩], false, { s with b := s.b ++ frameM rc (chainM (jhead es) rc) }⟩ := by
  unfold appJ
  rw [if_neg (by omega), if_neg (by decide), app_fits hd hl hx, if_pos rfl]

theorem synJ_ok {es : List Ent} {dur : Nat} {s : MS} (hd : s.down = false) (hl : s.left = none) : synJ es dur false s = (0, es.length, false, { s with dur := s.b.length }) := by
  unfold synJ
  rw [if_neg (by decide), syn_none hd hl, if_pos rfl]

theorem crash_open {s : MS} {l : List (List UInt8)} {k : Nat} (hb : s.b = framesF 0 l) (hd : (framesF 0 (l.take k)).length ≤ s.dur) (hk : k ≤ l.length) (hl : ∀ x ∈ l, x.length ≤ 4000) (n : Int) :
    ∃ m, k ≤ m ∧ m ≤ l.length ∧ parseM (s.crash n).b = entsF 0 0 (l.take m) ∧ opnM (s.crash n) = ⟨s.size, framesF 0 (l.take m), (framesF 0 (l.take m)).length, false, none⟩ ∧
      ∀ i, i ≤ l.length → ((framesF 0 (l.take i)).length ≤ s.keeps n ↔ i ≤ m) := by
  obtain ⟨m, j, hm, ht, hj, hi⟩ := take_frames l 0 (s.keeps n) hl
  have hcb : (s.crash n).b = framesF 0 (l.take m) ++ j := by
    show s.b.take (s.keeps n) = _
    rw [hb, ht]
  have hp : parseM (s.crash n).b = entsF 0 0 (l.take m) := by
    rw [hcb]
    exact parseM_frames (fun x hx => hl x (List.mem_of_mem_take hx)) hj
  refine ⟨m, ?_, hm, hp, ?_, hi⟩
  · refine (hi k hk).1 ?_
    unfold MS.keeps
    omega
  · unfold opnM
    rw [hp, tillM_ents, hcb, List.take_left]
    rfl

theorem jhead_heads {es : List Ent} {l : List (List UInt8)} (h : es.map (·.head) = hdsF 0 l) : jhead es = headF 0 l := by
  unfold jhead
  rw [← List.getLast?_map, h, hdsF_last]

/-- A journal that has these records. -/
structure Has (es : List Ent) (l : List (List UInt8)) : Prop where
  s : es.map (·.s) = l
  h : es.map (·.head) = hdsF 0 l

theorem Has.ents (l : List (List UInt8)) : Has (entsF 0 0 l) l := ⟨entsF_s _ _ _, entsF_head _ _ _⟩
theorem Has.len {es : List Ent} {l : List (List UInt8)} (h : Has es l) : es.length = l.length := by rw [← h.s]; simp
theorem Has.head {es : List Ent} {l : List (List UInt8)} (h : Has es l) : jhead es = headF 0 l := jhead_heads h.h
theorem Has.snoc {es : List Ent} {l : List (List UInt8)} (h : Has es l) (x : List UInt8) (t : Nat) : Has (es ++ [⟨x, chainM (jhead es) x, t⟩]) (l ++ [x]) := by
  refine ⟨by simp [h.s], ?_⟩
  rw [hdsF_append, ← h.head, ← h.h]
  simp [hdsF]
theorem Has.nil : Has [] [] := ⟨rfl, rfl⟩
theorem Has.get {es : List Ent} {l : List (List UInt8)} (h : Has es l) {i : Nat} {x : List UInt8} (hx : l[i]? = some x) : ∃ e, es[i]? = some e ∧ e.s = x := by
  rw [← h.s, List.getElem?_map] at hx
  cases he : es[i]? with
  | none => rw [he] at hx; cases hx
  | some e => rw [he] at hx; exact ⟨e, rfl, by simpa using hx⟩

def ms0 (n : Int) : MS := ⟨n, [], 0, false, none⟩

theorem opn0 (n : Int) : opnM (ms0 n) = ms0 n := by
  have hp : parseM [] = [] := rfl
  unfold opnM ms0
  rw [hp]
  rfl

theorem frame_len (s : List UInt8) (h : Nat) : (frameM s h).length = (textM s).length + 8 := by unfold frameM; rw [List.length_append, leB_length]

/-- Opening a new medium. -/
theorem open0 {w0 w : World} {b : Nat} {n : Int} {B : Asn} (h : St w0 w (star (medA b (ms0 n)) B)) (hn : ¬ (n < 1 ∨ 262144 < n)) :
    Calls Tryd.prog 12 #[.pointer (some ⟨b, 0, none⟩)] w (RetC fun r w' => ∃ x, r = .tuple #[.pointer (some ⟨x, 0, none⟩), .int .i64 0] ∧ St w0 w' (star (jouA x b [] 0 false) (star (medA b (ms0 n)) B))) := by
  have hp : parseM (ms0 n).b = [] := rfl
  refine (open_c h (okNew hn) rfl rfl).mono ?_
  rintro e w' ⟨v, he, x, hv, h'⟩
  rw [opn0, hp] at h'
  exact ⟨v, he, x, hv, h'⟩

theorem ab_len : (textM [97]).length = 2 ∧ (textM [98]).length = 2 := by decide

theorem lives_c (w : World) : Calls Tryd.prog 22 #[] w (RetC fun r w' => r = .bool true ∧ Chg w w' []) := by
  refine llives_ok ?_
  unfold llives
  refine useC (new_st (St.start w) (by omega)) ?_
  rintro _ w1 ⟨y, rfl, h1⟩
  have h1 := h1.swap
  refine ⟨_, _, rfl, fun g w' => g = false ∧ w' = w1, ?_, cF rfl ⟨rfl, rfl⟩⟩
  rintro w2 g ⟨rfl, rfl⟩ -
  refine cF rfl (useC (open0 h1 (by omega)) ?_)
  rintro _ w3 ⟨x, rfl, h3⟩
  refine ⟨_, _, rfl, fun g w' => g = false ∧ w' = w3, ?_, cF rfl ⟨rfl, rfl⟩⟩
  rintro w4 g ⟨rfl, rfl⟩ -
  have ha := ab_len
  refine cF rfl ?_
  -- the first record
  have l1 : (frameM [97] (chainM 0 [97])).length = 10 := by rw [frame_len, ha.1]
  have e1 : appJ [] false (ms0 1000) [97] = ⟨chainM 0 [97], 0, [⟨[97], chainM 0 [97], 0⟩], false, { ms0 1000 with b := frameM [97] (chainM 0 [97]) }⟩ := by
    refine appJ_fits (es := []) (s := ms0 1000) (by simp) rfl rfl ?_
    show ((0 : Nat) : Int) + ((frameM [97] (chainM 0 [97])).length : Int) ≤ 1000
    omega
  have H1 : Has [⟨[97], chainM 0 [97], 0⟩] [[97]] := Has.nil.snoc [97] 0
  refine useC (append_j h3 (okNew (by omega)) (by simp) [97] (by simp) (.inl ?_)) ?_
  · rw [app_fits rfl rfl]
    show ((0 : Nat) : Int) + ((frameM [97] (chainM 0 [97])).length : Int) ≤ 1000
    omega
  rw [e1]
  rintro _ w5 ⟨rfl, h5⟩
  refine ⟨_, _, rfl, ?_⟩
  obtain ⟨f1, hf1⟩ : ∃ f1, frameM [97] (chainM 0 [97]) = f1 := ⟨_, rfl⟩
  obtain ⟨c1, hc1⟩ : ∃ c1, chainM 0 [97] = c1 := ⟨_, rfl⟩
  have o5 : ({ ms0 1000 with b := frameM [97] (chainM 0 [97]) } : MS).Ok := ⟨by simp only [l1]; decide, by decide, by simp [ms0], fun _ h => by cases h⟩
  -- it is made durable
  refine useC (sync_j h5 o5 (.inl ?_)) ?_
  · rw [syn_none rfl rfl]
  rw [synJ_ok rfl rfl]
  rintro _ w6 ⟨rfl, h6⟩
  refine ⟨_, rfl, ?_⟩
  -- the second
  have o6 : ({ ms0 1000 with b := frameM [97] (chainM 0 [97]), dur := (frameM [97] (chainM 0 [97])).length } : MS).Ok := ⟨by simp only [l1]; decide, by decide, Nat.le_refl _, fun _ h => by cases h⟩
  have j1 : jhead [⟨[97], chainM 0 [97], 0⟩] = chainM 0 [97] := rfl
  have l2 : (frameM [98] (chainM (chainM 0 [97]) [98])).length = 10 := by rw [frame_len, ha.2]
  have fit2 : (({ ms0 1000 with b := frameM [97] (chainM 0 [97]), dur := (frameM [97] (chainM 0 [97])).length } : MS).b.length : Int) + (frameM [98] (chainM (jhead [⟨[97], chainM 0 [97], 0⟩]) [98])).length ≤ ({ ms0 1000 with b := frameM [97] (chainM 0 [97]), dur := (frameM [97] (chainM 0 [97])).length } : MS).size := by
    rw [j1]
    show ((frameM [97] (chainM 0 [97])).length : Int) + ((frameM [98] (chainM (chainM 0 [97]) [98])).length : Int) ≤ 1000
    omega
  refine useC (append_j h6 o6 (by simp) [98] (by simp) (.inl ?_)) ?_
  · rw [app_fits rfl rfl fit2]
  rw [appJ_fits (by simp) rfl rfl fit2, j1]
  rintro _ w7 ⟨rfl, h7⟩
  refine ⟨_, _, rfl, ?_⟩
  have hb7 : frameM [97] (chainM 0 [97]) ++ frameM [98] (chainM (chainM 0 [97]) [98]) = framesF 0 [[97], [98]] := by
    rw [framesF_cons, framesF_cons, framesF_nil, List.append_nil]
  rw [hb7, l1] at h7
  obtain ⟨es7, d7, h7⟩ : ∃ es7 d7, St w w7 (star (jouA x y es7 d7 false) (star (medA y ⟨1000, framesF 0 [[97], [98]], 10, false, none⟩) emp)) := ⟨_, _, h7⟩
  have lf : (framesF 0 [[97], [98]]).length = 20 := by rw [← hb7, List.length_append, l1, l2]
  have lf1 : (framesF 0 [[97]]).length = 10 := by rw [framesF_cons, framesF_nil, List.append_nil, l1]
  have o7 : (⟨1000, framesF 0 [[97], [98]], 10, false, none⟩ : MS).Ok := ⟨by simp only [lf]; decide, by decide, by simp only [lf]; decide, fun _ h => by cases h⟩
  -- the crash
  refine useC (crash_st (n := 3) h7.rot o7 (by decide)) ?_
  rintro _ w8 ⟨rfl, h8⟩
  refine ⟨rfl, useC (open_c h8 (MS.crash_ok o7 3) rfl rfl) ?_⟩
  obtain ⟨m, hm1, hm2, hp, hop, hi⟩ := crash_open (s := ⟨1000, framesF 0 [[97], [98]], 10, false, none⟩) (l := [[97], [98]]) (k := 1) rfl (by show (framesF 0 [[97]]).length ≤ 10; omega) (by simp) (by simp) 3
  have hk : (⟨1000, framesF 0 [[97], [98]], 10, false, none⟩ : MS).keeps 3 = 13 := by
    show 10 + min 3 ((framesF 0 [[97], [98]]).length - 10) = 13
    omega
  have hm : m = 1 := by
    have := hi 2 (by simp)
    rw [hk] at this
    have e2 : ([[97], [98]] : List (List UInt8)).take 2 = [[97], [98]] := rfl
    rw [e2] at this
    omega
  subst hm
  rw [hp, hop]
  have e3 : ([[97], [98]] : List (List UInt8)).take 1 = [[97]] := rfl
  rw [e3]
  have HE := Has.ents [[97]]
  have hle : (entsF 0 0 [[97]]).length = 1 := HE.len
  obtain ⟨es, hes⟩ : ∃ es, entsF 0 0 [[97]] = es := ⟨_, rfl⟩
  rw [hes] at HE hle ⊢
  rintro _ w9 ⟨z, rfl, h9⟩
  refine ⟨_, _, rfl, fun g w' => g = false ∧ w' = w9, ?_, cF rfl ⟨rfl, rfl⟩⟩
  rintro w10 g ⟨rfl, rfl⟩ -
  obtain ⟨e, he, hse⟩ := HE.get (i := 0) (x := [97]) rfl
  refine cF rfl (useC (record_j h9 he) ?_)
  rintro _ w11 ⟨rfl, rfl⟩
  refine ⟨_, _, rfl, cT rfl (usePure (chain_c 0 (bs [97]) (by rw [bs_size]; decide)) fun w12 hc12 => ⟨_, rfl, cT (by simp; rfl) (cT rfl ?_)⟩)⟩
  have h12 := h9.quiet hc12
  refine useC (count_j h12) ?_
  rintro _ w13 ⟨rfl, rfl⟩
  refine ⟨_, rfl, cT (by rw [hle]; rfl) (useC (durable_j h12) ?_)⟩
  rintro _ w14 ⟨rfl, rfl⟩
  refine ⟨_, rfl, cT (by rw [hle]; rfl) (cT rfl (cT (by rw [hse]; exact bytes_beq _ _ rfl) (useC (head_j h12 (by omega)) ?_)))⟩
  rintro _ w15 ⟨rfl, hc15⟩
  refine ⟨_, rfl, cT ?_ (useC (size_st (h12.quiet hc15).rot) ?_)⟩
  · rw [HE.head, headF_cons, headF_nil]; simp
  · rintro _ w16 ⟨rfl, rfl⟩
    refine ⟨_, rfl, ?_, (h12.quiet hc15).chg⟩
    show Value.bool (((framesF 0 [[97]]).length : Int) == 10) = .bool true
    rw [lf1]; rfl

end Go.Proofs.YtniehglfkacjjaaDoor

import Derived.Test.YtniehglfkacjjaaDoorjIt
import Derived.Test.YtniehglfkacjjaaDoorFl
namespace Go.Proofs.YtniehglfkacjjaaDoor
open Go Go.Vc

theorem sl22 : SlT Tryd.prog 22 9 (.string ⟨#[]⟩) 1 16 := SlT.mk' Tryd.underlying22 (by kernel_rfl) rfl (by decide)

def tillM (pre : List Ent) : Nat := (pre.getLast?.map (·.till)).getD 0
def recV (e : Ent) : Value := .string (bs e.s)

/-- What Verify's loop has: its record, its mark, the list, the length. -/
def verR (l D r1 r2 : Nat) (lp : Loop) (pre : List Ent) : Asn :=
  exA fun v : Value => Sep [objA l (.loop lp), boxA r1 #[v] 22, rowA 9 1 v pre.length (pre.map recV), boxA r2 #[.int .i64 (tillM pre : Int)] 3, objA D (.deferred (some []))]

theorem tillM_snoc (pre : List Ent) (e : Ent) : tillM (pre ++ [e]) = e.till := by simp [tillM]

theorem box_stL {w0 w : World} {x : Nat} {cs : Array Value} {T : TypeId} {B : Asn} {R : World → Prop} (h : St w0 w (star (boxA x cs T) B)) (vs : List Value) (hn : vs.length = cs.size) (h1 : ∀ v ∈ vs, v.oneCell' = true)
    (k : ∀ w', St w0 w' (star (boxA x vs.toArray T) B) → R w') : stL ⟨x, 0, none⟩ 0 vs w R := by
  obtain ⟨F, ⟨ho, rfl⟩, use⟩ := h.use
  refine stL_mk vs 0 w cs ho (by omega) h1 fun w' hb hc _ => k w' (use w' (boxA x vs.toArray T) ⟨[x], ⟨?_, rfl⟩, hc, fun j hj => .inl hj⟩)
  rw [hb]
  have : cs.toList.drop (0 + 0 + vs.length) = [] := List.drop_of_length_le (by simp; omega)
  rw [this]
  simp

theorem ver_round {w0 w : World} {s : ByteArray} {r1 r2 l D : Nat} {v1 : Value} {fn : FuncId} {pre : List Ent} {e : Ent} {Fr : Asn} (hlen : pre.length ≤ 230584300921)
    (h : St w0 w (star (verR l D r1 r2 (jVerify_rf26_rec s r1 r2 v1 fn D) pre) Fr)) :
    YieldC Tryd.prog l #[encE e] w fun g w2 => g = true ∧ St w0 w2 (star (verR l D r1 r2 (jVerify_rf26_rec s r1 r2 v1 fn D) (pre ++ [e])) Fr) := by
  obtain ⟨v, h⟩ := h.ex
  have h := h.flat
  refine jVerify_rf26_ok (s1 := s) (r1 := r1) (r2 := r2) (v1 := v1) (St.obj h) rfl rfl rfl rfl ?_
  unfold jVerify_rf26
  obtain ⟨a, c, hv⟩ := own_slice (St.rowOf (h.pull 2))
  refine newK_mk ?_
  have h3 := h.box #[.string (bs []), .int .u64 0, .int .i64 0] 69
  obtain ⟨x, hx⟩ : ∃ x, w.heap.size = x := ⟨_, rfl⟩
  rw [hx] at h3 ⊢
  have h4 := h3.swap
  refine box_stL h4 _ rfl (by simp [Value.oneCell']) fun w8 h8 => ?_
  have h8 : St w0 w8 (Sep (boxA x #[.string (bs e.s), .int .u64 (e.head : Int), .int .i64 (e.till : Int)] 69 :: objA l (.loop (jVerify_rf26_rec s r1 r2 v1 fn D)) :: boxA r1 #[v] 22 :: rowA 9 1 v pre.length (pre.map recV) :: boxA r2 #[.int .i64 (tillM pre : Int)] 3 :: objA D (.deferred (some [])) :: Fr :: [])) := h8
  have p8 := h8.pull 1
  refine ⟨_, St.obj p8, rfl, ?_⟩
  have p9 := St.put p8 (.loop { jVerify_rf26_rec s r1 r2 v1 fn D with state := .busy })
  have h9 : St w0 _ (Sep (objA l (.loop { jVerify_rf26_rec s r1 r2 v1 fn D with state := .busy }) :: boxA x #[.string (bs e.s), .int .u64 (e.head : Int), .int .i64 (e.till : Int)] 69 :: boxA r1 #[v] 22 :: rowA 9 1 v pre.length (pre.map recV) :: boxA r2 #[.int .i64 (tillM pre : Int)] 3 :: objA D (.deferred (some [])) :: Fr :: [])) := p9
  refine ⟨a, pre.length, c, by rw [← hv]; exact St.boxed (h9.pull 2) 0, bs e.s, St.boxed (h9.pull 1) 0, ?_⟩
  rw [← hv]
  have q9 := h9.pull 3
  refine app1_st sl22 q9 (news := [recV e]) rfl (by simp [recV, Value.oneCell']) (by omega) (by omega) (fun a4 c4 w10 h10 => ?_) rfl
  have h10 : St w0 w10 (Sep (rowA 9 1 (.slice a4 (pre.length + 1) c4) (pre.length + 1) (pre.map recV ++ [recV e]) :: objA l (.loop { jVerify_rf26_rec s r1 r2 v1 fn D with state := .busy }) :: boxA x #[.string (bs e.s), .int .u64 (e.head : Int), .int .i64 (e.till : Int)] 69 :: boxA r1 #[v] 22 :: boxA r2 #[.int .i64 (tillM pre : Int)] 3 :: objA D (.deferred (some [])) :: Fr :: [])) := h10
  refine box_st (h10.pull 3) (by simp) rfl fun w11 h11 => ?_
  have h11 : St w0 w11 (Sep (boxA r1 #[.slice a4 (pre.length + 1) c4] 22 :: rowA 9 1 (.slice a4 (pre.length + 1) c4) (pre.length + 1) (pre.map recV ++ [recV e]) :: objA l (.loop { jVerify_rf26_rec s r1 r2 v1 fn D with state := .busy }) :: boxA x #[.string (bs e.s), .int .u64 (e.head : Int), .int .i64 (e.till : Int)] 69 :: boxA r2 #[.int .i64 (tillM pre : Int)] 3 :: objA D (.deferred (some [])) :: Fr :: [])) := h11
  refine ⟨_, St.boxed (h11.pull 3) 2, box_st (h11.pull 4) (by simp) rfl fun w12 h12 => ?_⟩
  have h12 : St w0 w12 (Sep (boxA r2 #[.int .i64 (e.till : Int)] 3 :: boxA r1 #[.slice a4 (pre.length + 1) c4] 22 :: rowA 9 1 (.slice a4 (pre.length + 1) c4) (pre.length + 1) (pre.map recV ++ [recV e]) :: objA l (.loop { jVerify_rf26_rec s r1 r2 v1 fn D with state := .busy }) :: boxA x #[.string (bs e.s), .int .u64 (e.head : Int), .int .i64 (e.till : Int)] 69 :: objA D (.deferred (some [])) :: Fr :: [])) := h12
  refine ⟨_, St.obj (h12.pull 3), rfl, ?_⟩
  have h13 := St.put (h12.pull 3) (.loop (jVerify_rf26_rec s r1 r2 v1 fn D))
  have h13 : St w0 _ (Sep (objA l (.loop (jVerify_rf26_rec s r1 r2 v1 fn D)) :: boxA r2 #[.int .i64 (e.till : Int)] 3 :: boxA r1 #[.slice a4 (pre.length + 1) c4] 22 :: rowA 9 1 (.slice a4 (pre.length + 1) c4) (pre.length + 1) (pre.map recV ++ [recV e]) :: boxA x #[.string (bs e.s), .int .u64 (e.head : Int), .int .i64 (e.till : Int)] 69 :: objA D (.deferred (some [])) :: Fr :: [])) := h13
  refine St.mkEx (.slice a4 (pre.length + 1) c4) (St.unflat _ ?_)
  have h14 := ((h13.pull 4).second)
  have h14 : St w0 _ (Sep (objA l (.loop (jVerify_rf26_rec s r1 r2 v1 fn D)) :: boxA r2 #[.int .i64 (e.till : Int)] 3 :: boxA r1 #[.slice a4 (pre.length + 1) c4] 22 :: rowA 9 1 (.slice a4 (pre.length + 1) c4) (pre.length + 1) (pre.map recV ++ [recV e]) :: objA D (.deferred (some [])) :: Fr :: [])) := h14
  have h15 := h14.push 3
  have hl : (pre ++ [e]).length = pre.length + 1 := by simp
  have hm : (pre ++ [e]).map recV = pre.map recV ++ [recV e] := by simp
  rw [hl, hm, tillM_snoc]
  exact (((h14.pull 1).push 3).pull 0)

theorem enters53 : entersB Tryd.prog 53 = true := by kernel_rfl

theorem parseF_len : ∀ (k : Nat) (l : List UInt8) (a h : Nat), (parseF k l a h).length ≤ l.length
  | 0, _, _, _ => Nat.zero_le _
  | k + 1, l, a, h => by
    unfold parseF
    split
    · exact Nat.zero_le _
    · rename_i s t hr
      split
      · rename_i ht
        obtain ⟨hl, h8, _⟩ := frame_step hr ht
        have := parseF_len k (t.drop 8) (a + (frameM s (chainM h s)).length) (chainM h s)
        have h1 := congrArg List.length hl
        simp only [List.length_append, List.length_drop, List.length_cons] at h1 this ⊢
        unfold frameM at h1
        rw [List.length_append, leB_length] at h1
        omega
      · exact Nat.zero_le _

noncomputable def verX (s : ByteArray) (r1 r2 : Nat) (v : Value) (fn : FuncId) (D : Nat) : Loop := { jVerify_rf26_rec s r1 r2 v fn D with state := .exhausted }

theorem verify_c {w0 w : World} {A : Asn} (h : St w0 w A) (s : ByteArray) (hs : s.size ≤ 230584300921) :
    Calls Tryd.prog 29 #[.string s] w (RetC fun r w' => ∃ a c, r = .tuple #[.slice a (parseM s.data.toList).length c, .int .i64 (tillM (parseM s.data.toList) : Int)] ∧
      St w0 w' (star (rowA 9 1 (.slice a (parseM s.data.toList).length c) (parseM s.data.toList).length ((parseM s.data.toList).map recV)) A)) := by
  have hsz := size_list s
  refine jVerify_ok ?_
  unfold jVerify
  refine newK_mk (newK_mk ?_)
  obtain ⟨r1, hr1⟩ : ∃ r1, w.heap.size = r1 := ⟨_, rfl⟩
  have h1 := (h.box #[.slice none 0 0] 22).swap
  rw [hr1] at h1 ⊢
  obtain ⟨r2, hr2⟩ : ∃ r2, (w.alloc (.cells #[.slice none 0 0] 22)).heap.size = r2 := ⟨_, rfl⟩
  have h2 := (h1.box #[.int .i64 0] 3).swap
  rw [hr2] at h2 ⊢
  refine useC (R := _) (jEntries_ok (K := fun v w' => ∃ b, v = .func (.func 53) #[] #[.pointer (some ⟨b, 0, none⟩)] ∧ St w0 w' (star (boxA b #[.string s] 9) (star (boxA r2 #[.int .i64 0] 3) (star (boxA r1 #[.slice none 0 0] 22) A)))) (newK_mk ⟨_, rfl, (h2.box _ _).swap⟩)) ?_
  rintro _ w3 ⟨b, rfl, h3⟩
  refine ⟨_, rfl, ?_⟩
  show cond (true && entersB Tryd.prog 53) _ False
  refine cT (by rw [enters53]; rfl) ?_
  intro fn
  obtain ⟨D, hD⟩ : ∃ D, w3.heap.size = D := ⟨_, rfl⟩
  have h4 := (h3.newObj (.deferred (some []))).swap
  rw [hD] at h4 ⊢
  have hD1 : (w3.alloc (.deferred (some []))).heap.size = D + 1 := by rw [World.size_alloc, hD]
  have h5 := (h4.newObj (.loop (jVerify_rf26_rec s r1 r2 (.func (.func 53) #[] #[.pointer (some ⟨b, 0, none⟩)]) fn D))).swap
  rw [hD1] at h5
  have h6 := h5.nilRow 9 1
  have h6 := h6.swap
  have h6 := h6.eqv (Eqv.right (Eqv.right (Eqv.right (Eqv.right (Eqv.right (Eqv.right (Eqv.unit _)))))))
  have h6 : St w0 _ (Sep (rowA 9 1 (.slice none 0 0) 0 [] :: objA (D + 1) (.loop (jVerify_rf26_rec s r1 r2 (.func (.func 53) #[] #[.pointer (some ⟨b, 0, none⟩)]) fn D)) :: objA D (.deferred (some [])) :: boxA b #[.string s] 9 :: boxA r2 #[.int .i64 0] 3 :: boxA r1 #[.slice none 0 0] 22 :: [A])) := h6
  have h7 := (((((h6.pull 3).pull 3).pull 4).pull 3).pull 5).pull 5
  have h7 : St w0 _ (star (objA (D + 1) (.loop (jVerify_rf26_rec s r1 r2 (.func (.func 53) #[] #[.pointer (some ⟨b, 0, none⟩)]) fn D))) (star (boxA r1 #[.slice none 0 0] 22) (star (rowA 9 1 (.slice none 0 0) 0 []) (star (boxA r2 #[.int .i64 0] 3) (star (objA D (.deferred (some []))) (star (boxA b #[.string s] 9) (star A emp))))))) := h7
  have h8 := h7.eqv (Eqv.right (Eqv.right (Eqv.right (Eqv.right (Eqv.right Eqv.assoc')))))
  have h9 := St.mkEx (f := fun v : Value => Sep [objA (D + 1) (.loop (jVerify_rf26_rec s r1 r2 (.func (.func 53) #[] #[.pointer (some ⟨b, 0, none⟩)]) fn D)), boxA r1 #[v] 22, rowA 9 1 v 0 [], boxA r2 #[.int .i64 0] 3, objA D (.deferred (some []))]) (.slice none 0 0) (St.unflat [_, _, _, _, _] h8)
  refine useC (iter_c (L := s.data.toList) (by omega) (R := verR (D + 1) D r1 r2 (jVerify_rf26_rec s r1 r2 (.func (.func 53) #[] #[.pointer (some ⟨b, 0, none⟩)]) fn D)) (B := A) (fun pre e w1 Fr hpre hst => ?_) h9) ?_
  · refine ver_round ?_ hst
    have h1 := hpre.length_le
    have h2 := parseF_len s.data.toList.length s.data.toList 0 0
    simp only [List.length_append, List.length_cons, List.length_nil] at h1
    unfold parseM at h1
    omega
  · rintro _ w5 ⟨rfl, hv⟩
    obtain ⟨v, hv⟩ := hv.ex
    have hv := hv.flat
    obtain ⟨a, c, rfl⟩ := own_slice (St.rowOf (hv.pull 2))
    refine ⟨⟨_, rfl⟩, _, St.obj hv, by simp [jVerify_rf26_rec], ?_⟩
    have k1 := St.put hv (.loop { jVerify_rf26_rec s r1 r2 (.func (.func 53) #[] #[.pointer (some ⟨b, 0, none⟩)]) fn D with state := .exhausted })
    have k2 := k1.quiet (Chg.drew _ [])
    have k3 : St w0 _ (Sep [objA (D + 1) (.loop (verX s r1 r2 (.func (.func 53) #[] #[.pointer (some ⟨b, 0, none⟩)]) fn D)), boxA r1 #[.slice a (parseM s.data.toList).length c] 22, (rowA 9 1 (.slice a (parseM s.data.toList).length c) (parseM s.data.toList).length ((parseM s.data.toList).map recV)), boxA r2 #[.int .i64 (tillM (parseM s.data.toList) : Int)] 3, objA D (.deferred (some [])), star (boxA b #[.string s] 9) A]) := k2
    refine ⟨a, _, c, St.boxed (k3.pull 1) 0, _, St.boxed (k3.pull 3) 0, ?_⟩
    refine box_st (k3.pull 1) (by simp) rfl fun w6 h6 => ?_
    have h6 : St w0 _ (Sep [boxA r1 #[.slice a (parseM s.data.toList).length c] 22, objA (D + 1) (.loop (verX s r1 r2 (.func (.func 53) #[] #[.pointer (some ⟨b, 0, none⟩)]) fn D)), (rowA 9 1 (.slice a (parseM s.data.toList).length c) (parseM s.data.toList).length ((parseM s.data.toList).map recV)), boxA r2 #[.int .i64 (tillM (parseM s.data.toList) : Int)] 3, objA D (.deferred (some [])), star (boxA b #[.string s] 9) A]) := h6
    refine ⟨St.boxed (h6.pull 3) 0, box_st (h6.pull 3) (by simp) rfl fun w7 h7 => ?_⟩
    have h7 : St w0 _ (Sep [boxA r2 #[.int .i64 (tillM (parseM s.data.toList) : Int)] 3, boxA r1 #[.slice a (parseM s.data.toList).length c] 22, objA (D + 1) (.loop (verX s r1 r2 (.func (.func 53) #[] #[.pointer (some ⟨b, 0, none⟩)]) fn D)), (rowA 9 1 (.slice a (parseM s.data.toList).length c) (parseM s.data.toList).length ((parseM s.data.toList).map recV)), objA D (.deferred (some [])), star (boxA b #[.string s] 9) A]) := h7
    refine ⟨St.obj (h7.pull 4), ?_⟩
    have h8 := St.put (h7.pull 4) (.deferred none)
    have h8 : St w0 _ (Sep [objA D (.deferred none), boxA r2 #[.int .i64 (tillM (parseM s.data.toList) : Int)] 3, boxA r1 #[.slice a (parseM s.data.toList).length c] 22, objA (D + 1) (.loop (verX s r1 r2 (.func (.func 53) #[] #[.pointer (some ⟨b, 0, none⟩)]) fn D)), (rowA 9 1 (.slice a (parseM s.data.toList).length c) (parseM s.data.toList).length ((parseM s.data.toList).map recV)), star (boxA b #[.string s] 9) A]) := h8
    refine ⟨a, _, c, St.boxed (h8.pull 2) 0, _, St.boxed (h8.pull 1) 0, a, c, rfl, ?_⟩
    have h9 := h8.second.second.second.second
    have h9 : St w0 _ (star (rowA 9 1 (.slice a (parseM s.data.toList).length c) (parseM s.data.toList).length ((parseM s.data.toList).map recV)) (star (star (boxA b #[.string s] 9) A) emp)) := h9
    refine Go.Proofs.YtniehglfkacjjaaDoor.St.shape h9 ?_
    rintro v F ⟨F1, F2, rfl, hR, ⟨G1, G2, rfl, ⟨H1, H2, rfl, _, hA, _⟩, _, _⟩, hd⟩
    exact ⟨F1 ++ H2, ⟨F1, H2, rfl, hR, hA, fun k hk hk' => hd k hk (by simp [hk'])⟩, fun j hj => by rcases List.mem_append.1 hj with h | h <;> simp [h]⟩

end Go.Proofs.YtniehglfkacjjaaDoor

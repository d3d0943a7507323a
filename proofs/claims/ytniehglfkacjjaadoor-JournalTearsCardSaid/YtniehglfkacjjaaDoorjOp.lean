import Derived.Test.YtniehglfkacjjaaDoorjSv
namespace Go.Proofs.YtniehglfkacjjaaDoor
open Go Go.Vc

theorem sl62 : SlT Tryd.prog 62 69 (.agg #[.string ⟨#[]⟩, .int .u64 0, .int .i64 0]) 3 32 := SlT.mk' Tryd.underlying62 (by kernel_rfl) rfl (by decide)

def entC (e : Ent) : List Value := [.string (bs e.s), .int .u64 (e.head : Int), .int .i64 (e.till : Int)]

/-- A journal's own memory: the medium 'b', its entries, how many are durable, whether it has stopped. -/
def jouA (x b : Nat) (es : List Ent) (dur : Nat) (stp : Bool) : Asn :=
  exA fun v : Value => star (boxA x #[.pointer (some ⟨b, 0, none⟩), v, .int .i64 (dur : Int), .bool stp] 64) (rowA 69 3 v es.length (es.flatMap entC))

theorem asN_c (v : Value) (w : World) : Calls Tryd.prog 69 #[.nilIface, v] w (RetC fun r w' => r = .bool false ∧ w' = w) := shAsN_ok ⟨rfl, rfl⟩

theorem codeN_c : PureC 58 #[.nilIface] (.int .i64 0) := fun w => by
  refine jCodeN_ok (newK_mk (useC (asN_c _ _) ?_))
  rintro _ w2 ⟨rfl, rfl⟩
  exact ⟨_, rfl, cF rfl ⟨rfl, Chg.new _ _ _⟩⟩

theorem failure0_c : PureC 39 #[.int .i64 0] .nilIface := fun _ => jFailure_ok (cT rfl ⟨rfl, Chg.refl _ _⟩)

theorem check0_c (x : Nat) : PureC 38 #[.pointer (some ⟨x, 0, none⟩), .nilIface] (.int .i64 0) := fun w => by
  refine jcheck_ok ?_
  unfold jcheck
  refine usePure codeN_c fun w1 hc => ⟨_, rfl, fun w' => w' = w1, ?_, fun b w' => b = false ∧ w' = w1, ?_, cF rfl ⟨rfl, rfl⟩⟩
  · rintro w2 rfl -
    exact ⟨rfl, hc⟩
  · rintro w2 b ⟨rfl, rfl⟩ -
    exact cF rfl rfl

/-- What Open's loop has beside the journal and the mark. -/
def opR (l D x b r2 r3 : Nat) (lp : Loop) (pre : List Ent) : Asn :=
  exA fun v : Value => Sep [objA l (.loop lp), boxA x #[.pointer (some ⟨b, 0, none⟩), v, .int .i64 0, .bool false] 64, rowA 69 3 v pre.length (pre.flatMap entC), boxA r2 #[.pointer (some ⟨x, 0, none⟩)] 28,
    boxA r3 #[.int .i64 (tillM pre : Int)] 3, objA D (.deferred (some []))]

theorem op_round {w0 w : World} {s : ByteArray} {n1 : Int} {x b r2 r3 l D : Nat} {v1 : Value} {fn : FuncId} {pre : List Ent} {e : Ent} {Fr : Asn} (hlen : pre.length ≤ 230584300921)
    (h : St w0 w (star (opR l D x b r2 r3 (jOpen_rf1018_rec b s n1 x r2 r3 v1 fn D) pre) Fr)) :
    YieldC Tryd.prog l #[encE e] w fun g w2 => g = true ∧ St w0 w2 (star (opR l D x b r2 r3 (jOpen_rf1018_rec b s n1 x r2 r3 v1 fn D) (pre ++ [e])) Fr) := by
  obtain ⟨v, h⟩ := h.ex
  have h := h.flat
  refine jOpen_rf1018_ok (b1 := b) (s1 := s) (n1 := n1) (r1 := x) (r2 := r2) (r3 := r3) (v1 := v1) (St.obj h) rfl rfl rfl rfl ?_
  unfold jOpen_rf1018
  obtain ⟨a, c, hv⟩ := own_slice (St.rowOf (h.pull 2))
  refine newK_mk ?_
  have h3 := h.box #[.string (bs []), .int .u64 0, .int .i64 0] 69
  obtain ⟨y, hy⟩ : ∃ y, w.heap.size = y := ⟨_, rfl⟩
  rw [hy] at h3 ⊢
  refine box_stL h3.swap _ rfl (by simp [Value.oneCell']) fun w8 h8 => ?_
  have h8 : St w0 w8 (Sep [boxA y #[.string (bs e.s), .int .u64 (e.head : Int), .int .i64 (e.till : Int)] 69, objA l (.loop (jOpen_rf1018_rec b s n1 x r2 r3 v1 fn D)), boxA x #[.pointer (some ⟨b, 0, none⟩), v, .int .i64 0, .bool false] 64, rowA 69 3 v pre.length (pre.flatMap entC), boxA r2 #[.pointer (some ⟨x, 0, none⟩)] 28, boxA r3 #[.int .i64 (tillM pre : Int)] 3, objA D (.deferred (some [])), Fr]) := h8
  refine ⟨_, St.obj (h8.pull 1), rfl, ?_⟩
  have p9 := (St.put (h8.pull 1) (.loop { jOpen_rf1018_rec b s n1 x r2 r3 v1 fn D with state := .busy })).quiet (Chg.drew _ [])
  have h9 : St w0 _ (Sep [objA l (.loop { jOpen_rf1018_rec b s n1 x r2 r3 v1 fn D with state := .busy }), boxA y #[.string (bs e.s), .int .u64 (e.head : Int), .int .i64 (e.till : Int)] 69, boxA x #[.pointer (some ⟨b, 0, none⟩), v, .int .i64 0, .bool false] 64, rowA 69 3 v pre.length (pre.flatMap entC), boxA r2 #[.pointer (some ⟨x, 0, none⟩)] 28, boxA r3 #[.int .i64 (tillM pre : Int)] 3, objA D (.deferred (some [])), Fr]) := p9
  have c2 := St.boxed (h9.pull 4) 0
  have cx := St.boxed (h9.pull 2) 1
  refine ⟨_, c2, _, c2, a, pre.length, c, by rw [addA, ← hv]; exact cx, bs e.s, _, _, ⟨by rw [addA]; exact St.boxed (h9.pull 1) 0, by rw [addA]; exact St.boxed (h9.pull 1) 1, by rw [addA]; exact St.boxed (h9.pull 1) 2, trivial⟩, ?_⟩
  refine newK_mk ?_
  have n9 := h9.quiet (Chg.new _ (.cells #[.string (bs e.s), .int .u64 (e.head : Int), .int .i64 (e.till : Int)] 69) [])
  have d2 := St.boxed (n9.pull 4) 0
  refine ⟨by rw [addA, ← hv]; exact St.boxed (n9.pull 2) 1, d2, d2, ?_⟩
  rw [← hv]
  refine app_st sl62 (n9.pull 3) (m := 1) (news := entC e) rfl (fun j u hj => ?_) (by simp [entC, Value.oneCell']) (by omega) (by omega) fun v' w19 h19 => ?_
  · rw [addA, cell_blk, heap_new, if_pos rfl, getC_cells]
    simpa [entC] using hj
  obtain ⟨a3, c3, rfl⟩ := own_slice (St.rowOf h19)
  have h19 : St w0 w19 (Sep [rowA 69 3 (.slice a3 (pre.length + 1) c3) (pre.length + 1) (pre.flatMap entC ++ entC e), objA l (.loop { jOpen_rf1018_rec b s n1 x r2 r3 v1 fn D with state := .busy }), boxA y #[.string (bs e.s), .int .u64 (e.head : Int), .int .i64 (e.till : Int)] 69, boxA x #[.pointer (some ⟨b, 0, none⟩), v, .int .i64 0, .bool false] 64, boxA r2 #[.pointer (some ⟨x, 0, none⟩)] 28, boxA r3 #[.int .i64 (tillM pre : Int)] 3, objA D (.deferred (some [])), Fr]) := h19
  refine ⟨a3, _, c3, rfl, St.boxed (h19.pull 4) 0, ?_⟩
  dsimp only [onSome]
  rw [addA]
  refine box_st (h19.pull 3) (by simp) rfl fun w20 h20 => ?_
  have h20 : St w0 w20 (Sep [boxA x #[.pointer (some ⟨b, 0, none⟩), (.slice a3 (pre.length + 1) c3), .int .i64 0, .bool false] 64, rowA 69 3 (.slice a3 (pre.length + 1) c3) (pre.length + 1) (pre.flatMap entC ++ entC e), objA l (.loop { jOpen_rf1018_rec b s n1 x r2 r3 v1 fn D with state := .busy }), boxA y #[.string (bs e.s), .int .u64 (e.head : Int), .int .i64 (e.till : Int)] 69, boxA r2 #[.pointer (some ⟨x, 0, none⟩)] 28, boxA r3 #[.int .i64 (tillM pre : Int)] 3, objA D (.deferred (some [])), Fr]) := h20
  refine ⟨_, St.boxed (h20.pull 3) 2, box_st (h20.pull 5) (by simp) rfl fun w21 h21 => ?_⟩
  have h21 : St w0 w21 (Sep [boxA r3 #[.int .i64 (e.till : Int)] 3, boxA x #[.pointer (some ⟨b, 0, none⟩), (.slice a3 (pre.length + 1) c3), .int .i64 0, .bool false] 64, rowA 69 3 (.slice a3 (pre.length + 1) c3) (pre.length + 1) (pre.flatMap entC ++ entC e), objA l (.loop { jOpen_rf1018_rec b s n1 x r2 r3 v1 fn D with state := .busy }), boxA y #[.string (bs e.s), .int .u64 (e.head : Int), .int .i64 (e.till : Int)] 69, boxA r2 #[.pointer (some ⟨x, 0, none⟩)] 28, objA D (.deferred (some [])), Fr]) := h21
  refine ⟨_, St.obj (h21.pull 3), rfl, ?_⟩
  have h22 := St.put (h21.pull 3) (.loop (jOpen_rf1018_rec b s n1 x r2 r3 v1 fn D))
  have h22 : St w0 _ (Sep [objA l (.loop (jOpen_rf1018_rec b s n1 x r2 r3 v1 fn D)), boxA r3 #[.int .i64 (e.till : Int)] 3, boxA x #[.pointer (some ⟨b, 0, none⟩), (.slice a3 (pre.length + 1) c3), .int .i64 0, .bool false] 64, rowA 69 3 (.slice a3 (pre.length + 1) c3) (pre.length + 1) (pre.flatMap entC ++ entC e), boxA y #[.string (bs e.s), .int .u64 (e.head : Int), .int .i64 (e.till : Int)] 69, boxA r2 #[.pointer (some ⟨x, 0, none⟩)] 28, objA D (.deferred (some [])), Fr]) := h22
  have h23 := ((h22.pull 4).second)
  have h23 : St w0 _ (Sep [objA l (.loop (jOpen_rf1018_rec b s n1 x r2 r3 v1 fn D)), boxA r3 #[.int .i64 (e.till : Int)] 3, boxA x #[.pointer (some ⟨b, 0, none⟩), (.slice a3 (pre.length + 1) c3), .int .i64 0, .bool false] 64, rowA 69 3 (.slice a3 (pre.length + 1) c3) (pre.length + 1) (pre.flatMap entC ++ entC e), boxA r2 #[.pointer (some ⟨x, 0, none⟩)] 28, objA D (.deferred (some [])), Fr]) := h23
  refine St.mkEx (.slice a3 (pre.length + 1) c3) (St.unflat _ ?_)
  have hl : (pre ++ [e]).length = pre.length + 1 := by simp
  have hm : (pre ++ [e]).flatMap entC = pre.flatMap entC ++ entC e := by simp
  rw [hl, hm, tillM_snoc]
  exact (((h23.pull 1).push 4).pull 0)

end Go.Proofs.YtniehglfkacjjaaDoor

/- What each function of the seat comes to, printed by program (sh.py); the kernel holds each print against the loaded code. -/
import Derived.Test.YtniehglfkacjjaaDoorVc5
import Derived.Test.YtniehglfkacjjaaDoorProg
import Derived.KernelRfl
set_option linter.unusedVariables false
namespace Go.Proofs.YtniehglfkacjjaaDoor
open Go Go.Vc
-- saleroom/journal.entries
def jEntries (s1 : ByteArray) (w : World) (K : Value → World → Prop) : Prop :=
 newK w (.cells #[(.string s1)] 9) fun r1 w1 =>
 K (.func (.func 53) #[] #[(.pointer (some ⟨r1, 0, none⟩))]) w1
def jEntries_ann : List (Nat × Live) := []
theorem jEntries_ok {s1 : ByteArray} {w : World} {K : Value → World → Prop} (h : jEntries s1 w K) : Calls Tryd.prog 35 #[(.string s1)] w fun e w' => ∃ v, e = .returned v ∧ K v w' :=
  calls_sh (annL jEntries_ann) Tryd.func35 (by kernel_rfl) (args := [(.string s1)]) (by kernel_rfl) h

-- saleroom/journal.entries$1
def jIter (l1 : Nat) (b1 : Nat) (w : World) (K : Value → World → Prop) : Prop :=
 ∃ I1 : Int → Int → World → Nat → Prop, (∃ m1, I1 (0 : Int) (0 : Int) w m1) ∧
 ∀ (w1 : World) (m1 : Nat) (n1 : Int) (n2 : Int), I1 n1 n2 w1 m1 → ∀ x1 : Nat → Value,
 ∃ (s1 : ByteArray),
 w1.cell? ⟨b1, 0, none⟩ = some (.string s1) ∧
 0 ≤ n1 ∧ n1 ≤ ((s1.size : Nat) : Int) ∧
 Calls Tryd.prog 54 #[(.string (s1.extract ((n1).toNat) s1.size))] w1 fun e1 w2 => ∃ (p1 : Option Addr),
 e1 = .returned (.pointer p1) ∧
 Calls Tryd.prog 55 #[(.pointer p1), (.int .i64 (4000 : Int))] w2 fun e2 w3 => ∃ (s2 : ByteArray),
 e2 = .returned (.string s2) ∧
 ∃ J1 : Bool → World → Prop, (∀ (w4 : World) (b2 : Bool), J1 b2 w4 → ∀ x2 : Nat → Value,
  cond b2
  (K (.tuple #[]) w4)
  (Calls Tryd.prog 33 #[(.int .u64 n2), (.string s2)] w4 fun e3 w5 => ∃ (n3 : Int),
   e3 = .returned (.int .u64 n3) ∧
   ∃ (s3 : ByteArray),
   w5.drew.cell? ⟨b1, 0, none⟩ = some (.string s3) ∧
   Calls Tryd.prog 57 #[(.pointer p1)] w5.drew fun e4 w6 => ∃ (n4 : Int),
   e4 = .returned (.int .i64 n4) ∧
   w6.cell? ⟨b1, 0, none⟩ = some (.string s3) ∧
   ∃ J2 : Bool → World → Prop, (∀ (w7 : World) (b3 : Bool), J2 b3 w7 → ∀ x3 : Nat → Value,
    cond b3
    (K (.tuple #[]) w7)
    (∃ m2, m2 < m1 ∧ I1 (IntKind.i64.wrap ((IntKind.i64.wrap (((s3.size : Nat) : Int) - n4)) + (8 : Int))) n3 w7 m2)) ∧
   ∃ (s4 : ByteArray),
   w6.drew.cell? ⟨b1, 0, none⟩ = some (.string s4) ∧
   0 ≤ (IntKind.i64.wrap ((IntKind.i64.wrap (((s3.size : Nat) : Int) - n4)) + (8 : Int))) ∧ (IntKind.i64.wrap ((IntKind.i64.wrap (((s3.size : Nat) : Int) - n4)) + (8 : Int))) ≤ ((s4.size : Nat) : Int) ∧
   0 ≤ n1 ∧ n1 ≤ ((((IntKind.i64.wrap ((IntKind.i64.wrap (((s3.size : Nat) : Int) - n4)) + (8 : Int)))).toNat : Nat) : Int) ∧
   Calls Tryd.prog 40 #[(.string s2), (.int .u64 n3)] w6.drew fun e5 w8 => ∃ (s5 : ByteArray),
   e5 = .returned (.string s5) ∧
   w8.cell? ⟨b1, 0, none⟩ = some (.string s4) ∧
   cond (!((s4.extract ((n1).toNat) (((IntKind.i64.wrap ((IntKind.i64.wrap (((s3.size : Nat) : Int) - n4)) + (8 : Int)))).toNat)).toList == s5.toList))
   (J2 true w8)
   (YieldC Tryd.prog l1 #[(.agg #[(.string s2), (.int .u64 n3), (.int .i64 (IntKind.i64.wrap ((IntKind.i64.wrap (((s3.size : Nat) : Int) - n4)) + (8 : Int))))])] w8 fun b4 w9 =>
    J2 (!b4) w9))) ∧
 Calls Tryd.prog 56 #[(.pointer p1)] w3 fun e6 w10 => ∃ (n5 : Int),
 e6 = .returned (.int .i64 n5) ∧
 cond (n5 != (0 : Int))
 (J1 true w10)
 (Calls Tryd.prog 57 #[(.pointer p1)] w10 fun e7 w11 => ∃ (n6 : Int),
  e7 = .returned (.int .i64 n6) ∧
  J1 (decide (n6 < (8 : Int))) w11)
def jIter_ann : List (Nat × Live) := [(6, [(3, .s (.int .i64)), (4, .s (.int .u64))]), (198, [(21, .s (.bool))]), (1598, [(47, .s (.bool))])]
theorem jIter_ok {l1 : Nat} {b1 : Nat} {w : World} {K : Value → World → Prop} (h : jIter l1 b1 w K) : Calls Tryd.prog 53 #[(.func (.yield l1) #[] #[]), (.pointer (some ⟨b1, 0, none⟩))] w fun e w' => ∃ v, e = .returned v ∧ K v w' :=
  calls_sh (annL jIter_ann) Tryd.func53 (by kernel_rfl) (args := [(.func (.yield l1) #[] #[]), (.pointer (some ⟨b1, 0, none⟩))]) (by kernel_rfl) h

-- saleroom/journal.Verify
noncomputable def jVerify_rf26_tm (s1 : ByteArray) (r1 : Nat) (r2 : Nat) (v1 : Value) : Tm := [(.string s1), undef, (.pointer (some ⟨r1, 0, none⟩)), (.pointer (some ⟨r2, 0, none⟩)), undef, (.string s1), v1, undef, undef, undef, undef, undef, undef, undef, undef, undef, undef]
noncomputable def jVerify_rf26_rec (s1 : ByteArray) (r1 : Nat) (r2 : Nat) (v1 : Value) (fn : FuncId) (D : Nat) : Loop := { state := .ready, pending := none, fn := fn, tmps := (jVerify_rf26_tm s1 r1 r2 v1).toArray, params := rfPs (bodyOf Tryd.f29) 26, assign := rfAs (bodyOf Tryd.f29) 26, body := rfBd (bodyOf Tryd.f29) 26, defers := D }
def jVerify_rf26 (s1 : ByteArray) (r1 : Nat) (r2 : Nat) (v1 : Value) (l3 : Nat) (s2 : ByteArray) (n3 : Int) (n4 : Int) (w : World) (K : Bool → World → Prop) : Prop :=
 newK w (.cells #[(.string (bs [])), (.int .u64 (0 : Int)), (.int .i64 (0 : Int))] 69) fun r3 w7 =>
 stL ⟨r3, 0, none⟩ 0 [(.string s2), (.int .u64 n3), (.int .i64 n4)] w7 fun w8 =>
 ∃ r4, w8.heap[l3]? = some (.loop r4) ∧ r4.state = .ready ∧
 ∃ (a3 : Option Addr) (l4 c3 : Nat),
 (World.putObj w8 l3 (.loop { r4 with state := .busy })).cell? ⟨r1, 0, none⟩ = some (.slice a3 l4 c3) ∧
 ∃ (s3 : ByteArray),
 (World.putObj w8 l3 (.loop { r4 with state := .busy })).cell? ⟨r3, 0, none⟩ = some (.string s3) ∧
 newK (World.putObj w8 l3 (.loop { r4 with state := .busy })) (.cells #[(.string s3)] 9) fun r5 w9 =>
 rnS Tryd.prog (Builtin.append_ #[22, 22] 22 #[(.slice a3 l4 c3), (.slice (some ⟨r5, 0, none⟩) 1 1)]) w9 fun e2 w10 => ∃ (a4 : Option Addr) (l5 c4 : Nat),
 e2 = (.slice a4 l5 c4) ∧
 stK w10 ⟨r1, 0, none⟩ (.slice a4 l5 c4) fun w11 =>
 ∃ (n5 : Int),
 w11.cell? ⟨r3, 2, none⟩ = some (.int .i64 n5) ∧
 stK w11 ⟨r2, 0, none⟩ (.int .i64 n5) fun w12 =>
 ∃ r6, w12.heap[l3]? = some (.loop r6) ∧ K true (World.putObj w12 l3 (.loop { r6 with state := .ready, pending := none }))
def jVerify_rf26_ann : List (Nat × Live) := []
theorem jVerify_rf26_ok {s1 : ByteArray} {r1 : Nat} {r2 : Nat} {v1 : Value} {l3 : Nat} {s2 : ByteArray} {n3 : Int} {n4 : Int} {w : World} {K : Bool → World → Prop} {r : Loop} (hl : w.heap[l3]? = some (.loop r)) (ht : r.tmps = (jVerify_rf26_tm s1 r1 r2 v1).toArray) (hp : r.params = rfPs (bodyOf Tryd.f29) 26) (ha : r.assign = rfAs (bodyOf Tryd.f29) 26) (hb : r.body = rfBd (bodyOf Tryd.f29) 26) (h : jVerify_rf26 s1 r1 r2 v1 l3 s2 n3 n4 w K) : YieldC Tryd.prog l3 #[(.agg #[(.string s2), (.int .u64 n3), (.int .i64 n4)])] w K :=
  yield_sh (annL jVerify_rf26_ann) (args := [(.agg #[(.string s2), (.int .u64 n3), (.int .i64 n4)])]) hl ht hp ha hb (by kernel_rfl) (by kernel_rfl) (by kernel_rfl) h
def jVerify (s1 : ByteArray) (w : World) (K : Value → World → Prop) : Prop :=
 newK w (.cells #[(.slice none 0 0)] 22) fun r1 w1 =>
 newK w1 (.cells #[(.int .i64 (0 : Int))] 3) fun r2 w2 =>
 Calls Tryd.prog 35 #[(.string s1)] w2 fun e1 w3 => ∃ (v1 : Value),
 e1 = .returned v1 ∧
 rangeV Tryd.prog v1 fun g1 lb1 =>
 rangeK Tryd.prog g1 lb1 (jVerify_rf26_rec s1 r1 r2 v1) w3
 (fun w4 =>
  ∃ (a1 : Option Addr) (l1 c1 : Nat),
  w4.drew.cell? ⟨r1, 0, none⟩ = some (.slice a1 l1 c1) ∧
  ∃ (n1 : Int),
  w4.drew.cell? ⟨r2, 0, none⟩ = some (.int .i64 n1) ∧
  stK w4.drew ⟨r1, 0, none⟩ (.slice a1 l1 c1) fun w5 =>
  w5.cell? ⟨r2, 0, none⟩ = some (.int .i64 n1) ∧
  stK w5 ⟨r2, 0, none⟩ (.int .i64 n1) fun w6 =>
  w6.heap[w3.heap.size]? = some (.deferred (some [])) ∧
  ∃ (a2 : Option Addr) (l2 c2 : Nat),
  (World.putObj w6 w3.heap.size (.deferred none)).cell? ⟨r1, 0, none⟩ = some (.slice a2 l2 c2) ∧
  ∃ (n2 : Int),
  (World.putObj w6 w3.heap.size (.deferred none)).cell? ⟨r2, 0, none⟩ = some (.int .i64 n2) ∧
  K (.tuple #[(.slice a2 l2 c2), (.int .i64 n2)]) (World.putObj w6 w3.heap.size (.deferred none)))
 (fun _ => False)
 []
def jVerify_ann : List (Nat × Live) := []
theorem jVerify_ok {s1 : ByteArray} {w : World} {K : Value → World → Prop} (h : jVerify s1 w K) : Calls Tryd.prog 29 #[(.string s1)] w fun e w' => ∃ v, e = .returned v ∧ K v w' :=
  calls_sh (annL jVerify_ann) Tryd.func29 (by kernel_rfl) (args := [(.string s1)]) (by kernel_rfl) h

-- saleroom/journal.Proof
def jProof (a1 : Option Addr) (l1 c1 : Nat) (n1 : Int) (w : World) (K : Value → World → Prop) : Prop :=
 ∃ J1 : Bool → World → Prop, (∀ (w1 : World) (b1 : Bool), J1 b1 w1 → ∀ x1 : Nat → Value,
  cond b1
  (K (.tuple #[(.int .u64 (0 : Int)), (.slice none 0 0), (.int .i64 (4 : Int))]) w1)
  (0 ≤ n1 ∧ n1 ≤ ((c1 : Nat) : Int) ∧
   ∃ I1 : Int → Int → World → Nat → Prop, (∃ m1, I1 (0 : Int) (0 : Int) w1 m1) ∧
   ∀ (w2 : World) (m1 : Nat) (n2 : Int) (n3 : Int), I1 n2 n3 w2 m1 → ∀ x2 : Nat → Value,
   cond (decide (n3 < ((((n1).toNat - 0) : Nat) : Int)))
   (onSome (if c1 = 0 then a1 else Option.map (fun x => Addr.add x (0 * 1)) a1) fun q1 =>
    0 ≤ n3 ∧ n3 < ((((n1).toNat - 0) : Nat) : Int) ∧
    ∃ (s1 : ByteArray),
    w2.cell? (Addr.add q1 ((n3).toNat * 1)) = some (.string s1) ∧
    Calls Tryd.prog 33 #[(.int .u64 n2), (.string s1)] w2 fun e1 w3 => ∃ (n4 : Int),
    e1 = .returned (.int .u64 n4) ∧
    ∃ m2, m2 < m1 ∧ I1 n4 (IntKind.i64.wrap (n3 + (1 : Int))) w3 m2)
   (0 ≤ n1 ∧ n1 ≤ ((l1 : Nat) : Int) ∧
    rnS Tryd.prog (Builtin.append_ #[22, 22] 22 #[(.slice none 0 0), (.slice (if c1 = (n1).toNat then a1 else Option.map (fun x => Addr.add x ((n1).toNat * 1)) a1) (l1 - (n1).toNat) (c1 - (n1).toNat))]) w2 fun e2 w4 => ∃ (a2 : Option Addr) (l2 c2 : Nat),
    e2 = (.slice a2 l2 c2) ∧
    K (.tuple #[(.int .u64 n2), (.slice a2 l2 c2), (.int .i64 (0 : Int))]) w4))) ∧
 cond (decide (n1 < (0 : Int)))
 (J1 true w)
 (J1 (decide (n1 > ((l1 : Nat) : Int))) w)
def jProof_ann : List (Nat × Live) := [(6, [(17, .s (.bool))]), (122, [(7, .s (.int .u64)), (22, .s (.int .i64))])]
theorem jProof_ok {a1 : Option Addr} {l1 c1 : Nat} {n1 : Int} {w : World} {K : Value → World → Prop} (h : jProof a1 l1 c1 n1 w K) : Calls Tryd.prog 31 #[(.slice a1 l1 c1), (.int .i64 n1)] w fun e w' => ∃ v, e = .returned v ∧ K v w' :=
  calls_sh (annL jProof_ann) Tryd.func31 (by kernel_rfl) (args := [(.slice a1 l1 c1), (.int .i64 n1)]) (by kernel_rfl) h

-- saleroom/journal.failure
def jFailure (n1 : Int) (w : World) (K : Value → World → Prop) : Prop :=
 cond (n1 == (0 : Int))
 (K .nilIface w)
 (K (.iface 25 (.int .i64 n1)) w)
def jFailure_ann : List (Nat × Live) := []
theorem jFailure_ok {n1 : Int} {w : World} {K : Value → World → Prop} (h : jFailure n1 w K) : Calls Tryd.prog 39 #[(.int .i64 n1)] w fun e w' => ∃ v, e = .returned v ∧ K v w' :=
  calls_sh (annL jFailure_ann) Tryd.func39 (by kernel_rfl) (args := [(.int .i64 n1)]) (by kernel_rfl) h

-- errors.As
def shAsN (v1 : Value) (w : World) (K : Value → World → Prop) : Prop :=
 K (.bool false) w
def shAsN_ann : List (Nat × Live) := []
theorem shAsN_ok {v1 : Value} {w : World} {K : Value → World → Prop} (h : shAsN v1 w K) : Calls Tryd.prog 69 #[.nilIface, v1] w fun e w' => ∃ v, e = .returned v ∧ K v w' :=
  calls_sh (annL shAsN_ann) Tryd.func69 (by kernel_rfl) (args := [.nilIface, v1]) (by kernel_rfl) h

-- saleroom/journal.code
def jCodeN  (w : World) (K : Value → World → Prop) : Prop :=
 newK w (.cells #[(.int .i64 (0 : Int))] 25) fun r1 w1 =>
 Calls Tryd.prog 69 #[.nilIface, (.iface 99 (.pointer (some ⟨r1, 0, none⟩)))] w1 fun e1 w2 => ∃ (b1 : Bool),
 e1 = .returned (.bool b1) ∧
 cond b1
 (∃ (n1 : Int),
  w2.cell? ⟨r1, 0, none⟩ = some (.int .i64 n1) ∧
  K (.int .i64 n1) w2)
 (K (.int .i64 (0 : Int)) w2)
def jCodeN_ann : List (Nat × Live) := []
theorem jCodeN_ok {w : World} {K : Value → World → Prop} (h : jCodeN w K) : Calls Tryd.prog 58 #[.nilIface] w fun e w' => ∃ v, e = .returned v ∧ K v w' :=
  calls_sh (annL jCodeN_ann) Tryd.func58 (by kernel_rfl) (args := [.nilIface]) (by kernel_rfl) h

-- saleroom/journal.Open
noncomputable def jOpen_rf1018_tm (b1 : Nat) (s1 : ByteArray) (n1 : Int) (r1 : Nat) (r2 : Nat) (r3 : Nat) (v1 : Value) : Tm := [(.pointer (some ⟨b1, 0, none⟩)), undef, (.pointer none), (.int .i64 (0 : Int)), (.string s1), (.int .i64 n1), (.pointer (some ⟨r2, 0, none⟩)), (.pointer (some ⟨r3, 0, none⟩)), undef, undef, undef, (.pointer (some ⟨b1, 0, none⟩)), (.bool false), (.tuple #[(.string s1), (.int .i64 n1)]), (.pointer (some ⟨b1, 0, none⟩)), (.tuple #[(.string s1), (.int .i64 n1)]), (.string s1), (.int .i64 n1), (.int .i64 n1), (.bool (n1 != (0 : Int))), undef, (.pointer (some ⟨b1, 0, none⟩)), (.agg #[(.pointer (some ⟨b1, 0, none⟩)), (.slice none 0 0), (.int .i64 (0 : Int)), (.bool false)]), (.pointer (some ⟨r1, 0, none⟩)), (.string s1), v1, undef, undef, undef, undef, undef, undef, undef, undef, undef, undef, undef, undef, undef, undef, undef, undef, undef, undef, undef, undef, undef, undef, undef, undef, undef, undef, undef, undef, undef, undef, undef, undef, undef, undef, undef, undef, undef, undef, undef, undef, undef, undef]
noncomputable def jOpen_rf1018_rec (b1 : Nat) (s1 : ByteArray) (n1 : Int) (r1 : Nat) (r2 : Nat) (r3 : Nat) (v1 : Value) (fn : FuncId) (D : Nat) : Loop := { state := .ready, pending := none, fn := fn, tmps := (jOpen_rf1018_tm b1 s1 n1 r1 r2 r3 v1).toArray, params := rfPs (bodyOf Tryd.f12) 1018, assign := rfAs (bodyOf Tryd.f12) 1018, body := rfBd (bodyOf Tryd.f12) 1018, defers := D }
def jOpen_rf1018 (b1 : Nat) (s1 : ByteArray) (n1 : Int) (r1 : Nat) (r2 : Nat) (r3 : Nat) (v1 : Value) (l2 : Nat) (s2 : ByteArray) (n8 : Int) (n9 : Int) (w : World) (K : Bool → World → Prop) : Prop :=
 newK w (.cells #[(.string (bs [])), (.int .u64 (0 : Int)), (.int .i64 (0 : Int))] 69) fun r4 w16 =>
 stL ⟨r4, 0, none⟩ 0 [(.string s2), (.int .u64 n8), (.int .i64 n9)] w16 fun w17 =>
 ∃ r5, w17.heap[l2]? = some (.loop r5) ∧ r5.state = .ready ∧
 ∃ (p4 : Option Addr),
 (World.putObj w17 l2 (.loop { r5 with state := .busy })).drew.cell? ⟨r2, 0, none⟩ = some (.pointer p4) ∧
 ∃ (p5 : Option Addr),
 (World.putObj w17 l2 (.loop { r5 with state := .busy })).drew.cell? ⟨r2, 0, none⟩ = some (.pointer p5) ∧
 onSome p5 fun q3 =>
 ∃ (a2 : Option Addr) (l3 c2 : Nat),
 (World.putObj w17 l2 (.loop { r5 with state := .busy })).drew.cell? (Addr.add q3 1) = some (.slice a2 l3 c2) ∧
 ∃ (s3 : ByteArray) (n10 : Int) (n11 : Int),
 cellsAt (World.putObj w17 l2 (.loop { r5 with state := .busy })).drew ⟨r4, 0, none⟩ 0 [(.string s3), (.int .u64 n10), (.int .i64 n11)] ∧
 newK (World.putObj w17 l2 (.loop { r5 with state := .busy })).drew (.cells #[(.string s3), (.int .u64 n10), (.int .i64 n11)] 69) fun r6 w18 =>
 w18.cell? (Addr.add q3 1) = some (.slice a2 l3 c2) ∧
 w18.cell? ⟨r2, 0, none⟩ = some (.pointer p5) ∧
 w18.cell? ⟨r2, 0, none⟩ = some (.pointer p4) ∧
 rnS Tryd.prog (Builtin.append_ #[62, 62] 62 #[(.slice a2 l3 c2), (.slice (some ⟨r6, 0, none⟩) 1 1)]) w18 fun e7 w19 => ∃ (a3 : Option Addr) (l4 c3 : Nat),
 e7 = (.slice a3 l4 c3) ∧
 w19.cell? ⟨r2, 0, none⟩ = some (.pointer p4) ∧
 onSome p4 fun q4 =>
 stK w19 (Addr.add q4 1) (.slice a3 l4 c3) fun w20 =>
 ∃ (n12 : Int),
 w20.cell? ⟨r4, 2, none⟩ = some (.int .i64 n12) ∧
 stK w20 ⟨r3, 0, none⟩ (.int .i64 n12) fun w21 =>
 ∃ r7, w21.heap[l2]? = some (.loop r7) ∧ K true (World.putObj w21 l2 (.loop { r7 with state := .ready, pending := none }))
def jOpen_rf1018_ann : List (Nat × Live) := []
theorem jOpen_rf1018_ok {b1 : Nat} {s1 : ByteArray} {n1 : Int} {r1 : Nat} {r2 : Nat} {r3 : Nat} {v1 : Value} {l2 : Nat} {s2 : ByteArray} {n8 : Int} {n9 : Int} {w : World} {K : Bool → World → Prop} {r : Loop} (hl : w.heap[l2]? = some (.loop r)) (ht : r.tmps = (jOpen_rf1018_tm b1 s1 n1 r1 r2 r3 v1).toArray) (hp : r.params = rfPs (bodyOf Tryd.f12) 1018) (ha : r.assign = rfAs (bodyOf Tryd.f12) 1018) (hb : r.body = rfBd (bodyOf Tryd.f12) 1018) (h : jOpen_rf1018 b1 s1 n1 r1 r2 r3 v1 l2 s2 n8 n9 w K) : YieldC Tryd.prog l2 #[(.agg #[(.string s2), (.int .u64 n8), (.int .i64 n9)])] w K :=
  yield_sh (annL jOpen_rf1018_ann) (args := [(.agg #[(.string s2), (.int .u64 n8), (.int .i64 n9)])]) hl ht hp ha hb (by kernel_rfl) (by kernel_rfl) (by kernel_rfl) h
def jOpen (b1 : Nat) (w : World) (K : Value → World → Prop) : Prop :=
 Calls Tryd.prog 19 #[(.pointer (some ⟨b1, 0, none⟩))] w fun e1 w1 => ∃ (s1 : ByteArray) (n1 : Int),
 e1 = .returned (.tuple #[(.string s1), (.int .i64 n1)]) ∧
 cond (n1 != (0 : Int))
 (K (.tuple #[(.pointer none), (.int .i64 n1)]) w1)
 (newK w1 (.cells #[(.pointer (some ⟨b1, 0, none⟩)), (.slice none 0 0), (.int .i64 (0 : Int)), (.bool false)] 64) fun r1 w2 =>
  newK w2 (.cells #[(.pointer none)] 28) fun r2 w3 =>
  stK w3 ⟨r2, 0, none⟩ (.pointer (some ⟨r1, 0, none⟩)) fun w4 =>
  newK w4 (.cells #[(.int .i64 (0 : Int))] 3) fun r3 w5 =>
  stK w5 ⟨r3, 0, none⟩ (.int .i64 (0 : Int)) fun w6 =>
  Calls Tryd.prog 35 #[(.string s1)] w6 fun e2 w7 => ∃ (v1 : Value),
  e2 = .returned v1 ∧
  rangeV Tryd.prog v1 fun g1 lb1 =>
  rangeK Tryd.prog g1 lb1 (jOpen_rf1018_rec b1 s1 n1 r1 r2 r3 v1) w7
  (fun w8 =>
   ∃ (p1 : Option Addr),
   w8.drew.cell? ⟨r2, 0, none⟩ = some (.pointer p1) ∧
   ∃ (p2 : Option Addr),
   w8.drew.cell? ⟨r2, 0, none⟩ = some (.pointer p2) ∧
   onSome p2 fun q1 =>
   ∃ (a1 : Option Addr) (l1 c1 : Nat),
   w8.drew.cell? (Addr.add q1 1) = some (.slice a1 l1 c1) ∧
   onSome p1 fun q2 =>
   stK w8.drew (Addr.add q2 2) (.int .i64 ((l1 : Nat) : Int)) fun w9 =>
   ∃ J1 : World → Prop, (∀ (w10 : World), J1 w10 → ∀ x1 : Nat → Value,
    ∃ J2 : World → Prop, (∀ (w11 : World), J2 w11 → ∀ x2 : Nat → Value,
     ∃ (p3 : Option Addr),
     w11.cell? ⟨r2, 0, none⟩ = some (.pointer p3) ∧
     w11.heap[w7.heap.size]? = some (.deferred (some [])) ∧
     K (.tuple #[(.pointer p3), (.int .i64 (0 : Int))]) (World.putObj w11 w7.heap.size (.deferred none))) ∧
    Calls Tryd.prog 26 #[(.pointer (some ⟨b1, 0, none⟩))] w10 fun e3 w12 => ∃ (n2 : Int),
    e3 = .returned (.int .i64 n2) ∧
    Calls Tryd.prog 25 #[(.pointer (some ⟨b1, 0, none⟩))] w12 fun e4 w13 => ∃ (n3 : Int),
    e4 = .returned (.int .i64 n3) ∧
    cond (decide (n2 < n3))
    (Calls Tryd.prog 37 #[(.pointer (some ⟨b1, 0, none⟩))] w13 fun e5 w14 => ∃ (n4 : Int),
     e5 = .returned (.int .i64 n4) ∧
     cond (n4 != (0 : Int))
     (w14.heap[w7.heap.size]? = some (.deferred (some [])) ∧
      K (.tuple #[(.pointer none), (.int .i64 n4)]) (World.putObj w14 w7.heap.size (.deferred none)))
     (J2 w14))
    (J2 w13)) ∧
   ∃ (n5 : Int),
   w9.cell? ⟨r3, 0, none⟩ = some (.int .i64 n5) ∧
   cond (decide (n5 < ((s1.size : Nat) : Int)))
   (∃ (n6 : Int),
    w9.cell? ⟨r3, 0, none⟩ = some (.int .i64 n6) ∧
    Calls Tryd.prog 36 #[(.pointer (some ⟨b1, 0, none⟩)), (.int .i64 n6)] w9 fun e6 w15 => ∃ (n7 : Int),
    e6 = .returned (.int .i64 n7) ∧
    cond (n7 != (0 : Int))
    (w15.heap[w7.heap.size]? = some (.deferred (some [])) ∧
     K (.tuple #[(.pointer none), (.int .i64 n7)]) (World.putObj w15 w7.heap.size (.deferred none)))
    (J1 w15))
   (J1 w9))
  (fun _ => False)
  [])
def jOpen_ann : List (Nat × Live) := [(511, []), (1023, [])]
theorem jOpen_ok {b1 : Nat} {w : World} {K : Value → World → Prop} (h : jOpen b1 w K) : Calls Tryd.prog 12 #[(.pointer (some ⟨b1, 0, none⟩))] w fun e w' => ∃ v, e = .returned v ∧ K v w' :=
  calls_sh (annL jOpen_ann) Tryd.func12 (by kernel_rfl) (args := [(.pointer (some ⟨b1, 0, none⟩))]) (by kernel_rfl) h

-- saleroom/journal.Open
def jOpenN  (w : World) (K : Value → World → Prop) : Prop :=
 K (.tuple #[(.pointer none), (.int .i64 (6 : Int))]) w
def jOpenN_ann : List (Nat × Live) := []
theorem jOpenN_ok {w : World} {K : Value → World → Prop} (h : jOpenN w K) : Calls Tryd.prog 12 #[(.pointer none)] w fun e w' => ∃ v, e = .returned v ∧ K v w' :=
  calls_sh (annL jOpenN_ann) Tryd.func12 (by kernel_rfl) (args := [(.pointer none)]) (by kernel_rfl) h

-- (*saleroom/journal.Journal).check
def jcheck (b1 : Nat) (v1 : Value) (w : World) (K : Value → World → Prop) : Prop :=
 Calls Tryd.prog 58 #[v1] w fun e1 w1 => ∃ (n1 : Int),
 e1 = .returned (.int .i64 n1) ∧
 ∃ J1 : World → Prop, (∀ (w2 : World), J1 w2 → ∀ x1 : Nat → Value,
  K (.int .i64 n1) w2) ∧
 ∃ J2 : Bool → World → Prop, (∀ (w3 : World) (b2 : Bool), J2 b2 w3 → ∀ x2 : Nat → Value,
  cond b2
  (stK w3 ⟨b1, 3, none⟩ (.bool true) fun w4 =>
   J1 w4)
  (J1 w3)) ∧
 cond (n1 != (0 : Int))
 (J2 (n1 != (18 : Int)) w1)
 (J2 false w1)
def jcheck_ann : List (Nat × Live) := [(7, []), (14, [(13, .s (.bool))])]
theorem jcheck_ok {b1 : Nat} {v1 : Value} {w : World} {K : Value → World → Prop} (h : jcheck b1 v1 w K) : Calls Tryd.prog 38 #[(.pointer (some ⟨b1, 0, none⟩)), v1] w fun e w' => ∃ v, e = .returned v ∧ K v w' :=
  calls_sh (annL jcheck_ann) Tryd.func38 (by kernel_rfl) (args := [(.pointer (some ⟨b1, 0, none⟩)), v1]) (by kernel_rfl) h

-- (*saleroom/journal.Journal).Append
def jAppend (b1 : Nat) (s1 : ByteArray) (w : World) (K : Value → World → Prop) : Prop :=
 cond (decide (((s1.size : Nat) : Int) > (4000 : Int)))
 (K (.tuple #[(.int .u64 (0 : Int)), (.int .i64 (3 : Int))]) w)
 (∃ (b2 : Bool),
  w.cell? ⟨b1, 3, none⟩ = some (.bool b2) ∧
  cond b2
  (K (.tuple #[(.int .u64 (0 : Int)), (.int .i64 (19 : Int))]) w)
  (Calls Tryd.prog 27 #[(.pointer (some ⟨b1, 0, none⟩))] w fun e1 w1 => ∃ (n1 : Int),
   e1 = .returned (.int .u64 n1) ∧
   Calls Tryd.prog 33 #[(.int .u64 n1), (.string s1)] w1 fun e2 w2 => ∃ (n2 : Int),
   e2 = .returned (.int .u64 n2) ∧
   ∃ (p1 : Option Addr),
   w2.drew.cell? ⟨b1, 0, none⟩ = some (.pointer p1) ∧
   Calls Tryd.prog 40 #[(.string s1), (.int .u64 n2)] w2.drew fun e3 w3 => ∃ (s2 : ByteArray),
   e3 = .returned (.string s2) ∧
   w3.cell? ⟨b1, 0, none⟩ = some (.pointer p1) ∧
   Calls Tryd.prog 23 #[(.pointer p1), (.string s2)] w3 fun e4 w4 => ∃ (n3 : Int),
   e4 = .returned (.int .i64 n3) ∧
   Calls Tryd.prog 39 #[(.int .i64 n3)] w4 fun e5 w5 => ∃ (v1 : Value),
   e5 = .returned v1 ∧
   Calls Tryd.prog 38 #[(.pointer (some ⟨b1, 0, none⟩)), v1] w5 fun e6 w6 => ∃ (n4 : Int),
   e6 = .returned (.int .i64 n4) ∧
   cond (n4 != (0 : Int))
   (K (.tuple #[(.int .u64 (0 : Int)), (.int .i64 n4)]) w6)
   (∃ (a1 : Option Addr) (l1 c1 : Nat),
    w6.cell? ⟨b1, 1, none⟩ = some (.slice a1 l1 c1) ∧
    newK w6 (.cells #[(.string s1), (.int .u64 n2), (.int .i64 (0 : Int))] 69) fun r1 w7 =>
    rnS Tryd.prog (Builtin.append_ #[62, 62] 62 #[(.slice a1 l1 c1), (.slice (some ⟨r1, 0, none⟩) 1 1)]) w7 fun e7 w8 => ∃ (a2 : Option Addr) (l2 c2 : Nat),
    e7 = (.slice a2 l2 c2) ∧
    stK w8 ⟨b1, 1, none⟩ (.slice a2 l2 c2) fun w9 =>
    K (.tuple #[(.int .u64 n2), (.int .i64 (0 : Int))]) w9)))
def jAppend_ann : List (Nat × Live) := []
theorem jAppend_ok {b1 : Nat} {s1 : ByteArray} {w : World} {K : Value → World → Prop} (h : jAppend b1 s1 w K) : Calls Tryd.prog 14 #[(.pointer (some ⟨b1, 0, none⟩)), (.string s1)] w fun e w' => ∃ v, e = .returned v ∧ K v w' :=
  calls_sh (annL jAppend_ann) Tryd.func14 (by kernel_rfl) (args := [(.pointer (some ⟨b1, 0, none⟩)), (.string s1)]) (by kernel_rfl) h

-- (*saleroom/journal.Journal).Sync
def jSync (b1 : Nat) (w : World) (K : Value → World → Prop) : Prop :=
 ∃ (b2 : Bool),
 w.cell? ⟨b1, 3, none⟩ = some (.bool b2) ∧
 cond b2
 (K (.int .i64 (19 : Int)) w)
 (∃ (p1 : Option Addr),
  w.cell? ⟨b1, 0, none⟩ = some (.pointer p1) ∧
  Calls Tryd.prog 37 #[(.pointer p1)] w fun e1 w1 => ∃ (n1 : Int),
  e1 = .returned (.int .i64 n1) ∧
  Calls Tryd.prog 39 #[(.int .i64 n1)] w1 fun e2 w2 => ∃ (v1 : Value),
  e2 = .returned v1 ∧
  Calls Tryd.prog 38 #[(.pointer (some ⟨b1, 0, none⟩)), v1] w2 fun e3 w3 => ∃ (n2 : Int),
  e3 = .returned (.int .i64 n2) ∧
  cond (n2 != (0 : Int))
  (K (.int .i64 n2) w3)
  (∃ (a1 : Option Addr) (l1 c1 : Nat),
   w3.cell? ⟨b1, 1, none⟩ = some (.slice a1 l1 c1) ∧
   stK w3 ⟨b1, 2, none⟩ (.int .i64 ((l1 : Nat) : Int)) fun w4 =>
   K (.int .i64 (0 : Int)) w4))
def jSync_ann : List (Nat × Live) := []
theorem jSync_ok {b1 : Nat} {w : World} {K : Value → World → Prop} (h : jSync b1 w K) : Calls Tryd.prog 13 #[(.pointer (some ⟨b1, 0, none⟩))] w fun e w' => ∃ v, e = .returned v ∧ K v w' :=
  calls_sh (annL jSync_ann) Tryd.func13 (by kernel_rfl) (args := [(.pointer (some ⟨b1, 0, none⟩))]) (by kernel_rfl) h

-- (*saleroom/journal.Journal).Count
def jCount (b1 : Nat) (w : World) (K : Value → World → Prop) : Prop :=
 ∃ (a1 : Option Addr) (l1 c1 : Nat),
 w.cell? ⟨b1, 1, none⟩ = some (.slice a1 l1 c1) ∧
 K (.int .i64 ((l1 : Nat) : Int)) w
def jCount_ann : List (Nat × Live) := []
theorem jCount_ok {b1 : Nat} {w : World} {K : Value → World → Prop} (h : jCount b1 w K) : Calls Tryd.prog 16 #[(.pointer (some ⟨b1, 0, none⟩))] w fun e w' => ∃ v, e = .returned v ∧ K v w' :=
  calls_sh (annL jCount_ann) Tryd.func16 (by kernel_rfl) (args := [(.pointer (some ⟨b1, 0, none⟩))]) (by kernel_rfl) h

-- (*saleroom/journal.Journal).Durable
def jDurable (b1 : Nat) (w : World) (K : Value → World → Prop) : Prop :=
 ∃ (n1 : Int),
 w.cell? ⟨b1, 2, none⟩ = some (.int .i64 n1) ∧
 K (.int .i64 n1) w
def jDurable_ann : List (Nat × Live) := []
theorem jDurable_ok {b1 : Nat} {w : World} {K : Value → World → Prop} (h : jDurable b1 w K) : Calls Tryd.prog 17 #[(.pointer (some ⟨b1, 0, none⟩))] w fun e w' => ∃ v, e = .returned v ∧ K v w' :=
  calls_sh (annL jDurable_ann) Tryd.func17 (by kernel_rfl) (args := [(.pointer (some ⟨b1, 0, none⟩))]) (by kernel_rfl) h

-- (*saleroom/journal.Journal).Record
def jRecord (b1 : Nat) (n1 : Int) (w : World) (K : Value → World → Prop) : Prop :=
 ∃ J1 : Bool → World → Prop, (∀ (w1 : World) (b2 : Bool), J1 b2 w1 → ∀ x1 : Nat → Value,
  cond b2
  (K (.tuple #[(.string (bs [])), (.int .i64 (4 : Int))]) w1)
  (∃ (a1 : Option Addr) (l1 c1 : Nat),
   w1.cell? ⟨b1, 1, none⟩ = some (.slice a1 l1 c1) ∧
   onSome a1 fun q1 =>
   0 ≤ n1 ∧ n1 < ((l1 : Nat) : Int) ∧
   ∃ (s1 : ByteArray),
   w1.cell? (Addr.add q1 ((n1).toNat * 3)) = some (.string s1) ∧
   K (.tuple #[(.string s1), (.int .i64 (0 : Int))]) w1)) ∧
 cond (decide (n1 < (0 : Int)))
 (J1 true w)
 (∃ (a2 : Option Addr) (l2 c2 : Nat),
  w.cell? ⟨b1, 1, none⟩ = some (.slice a2 l2 c2) ∧
  J1 (decide (n1 ≥ ((l2 : Nat) : Int))) w)
def jRecord_ann : List (Nat × Live) := [(14, [(18, .s (.bool))])]
theorem jRecord_ok {b1 : Nat} {n1 : Int} {w : World} {K : Value → World → Prop} (h : jRecord b1 n1 w K) : Calls Tryd.prog 18 #[(.pointer (some ⟨b1, 0, none⟩)), (.int .i64 n1)] w fun e w' => ∃ v, e = .returned v ∧ K v w' :=
  calls_sh (annL jRecord_ann) Tryd.func18 (by kernel_rfl) (args := [(.pointer (some ⟨b1, 0, none⟩)), (.int .i64 n1)]) (by kernel_rfl) h

-- (*saleroom/journal.Journal).Head
def jHead (b1 : Nat) (w : World) (K : Value → World → Prop) : Prop :=
 ∃ J1 : Bool → World → Prop, (∀ (w1 : World) (b2 : Bool), J1 b2 w1 → ∀ x1 : Nat → Value,
  cond b2
  (K (.int .u64 (0 : Int)) w1)
  (∃ (a1 : Option Addr) (l1 c1 : Nat),
   w1.drew.cell? ⟨b1, 1, none⟩ = some (.slice a1 l1 c1) ∧
   ∃ (a2 : Option Addr) (l2 c2 : Nat),
   w1.drew.cell? ⟨b1, 1, none⟩ = some (.slice a2 l2 c2) ∧
   onSome a1 fun q1 =>
   0 ≤ (IntKind.i64.wrap (((l2 : Nat) : Int) - (1 : Int))) ∧ (IntKind.i64.wrap (((l2 : Nat) : Int) - (1 : Int))) < ((l1 : Nat) : Int) ∧
   ∃ (n1 : Int),
   w1.drew.cell? (Addr.add (Addr.add q1 (((IntKind.i64.wrap (((l2 : Nat) : Int) - (1 : Int)))).toNat * 3)) 1) = some (.int .u64 n1) ∧
   K (.int .u64 n1) w1.drew)) ∧
 ∃ (a3 : Option Addr) (l3 c3 : Nat),
 w.cell? ⟨b1, 1, none⟩ = some (.slice a3 l3 c3) ∧
 J1 (((l3 : Nat) : Int) == (0 : Int)) w
def jHead_ann : List (Nat × Live) := [(6, [(12, .s (.bool))])]
theorem jHead_ok {b1 : Nat} {w : World} {K : Value → World → Prop} (h : jHead b1 w K) : Calls Tryd.prog 27 #[(.pointer (some ⟨b1, 0, none⟩))] w fun e w' => ∃ v, e = .returned v ∧ K v w' :=
  calls_sh (annL jHead_ann) Tryd.func27 (by kernel_rfl) (args := [(.pointer (some ⟨b1, 0, none⟩))]) (by kernel_rfl) h

-- (*saleroom/journal.Journal).HeadAt
def jHeadAt (b1 : Nat) (n1 : Int) (w : World) (K : Value → World → Prop) : Prop :=
 ∃ J1 : Bool → World → Prop, (∀ (w1 : World) (b2 : Bool), J1 b2 w1 → ∀ x1 : Nat → Value,
  cond b2
  (K (.tuple #[(.int .u64 (0 : Int)), (.int .i64 (4 : Int))]) w1)
  (cond (n1 == (0 : Int))
   (K (.tuple #[(.int .u64 (0 : Int)), (.int .i64 (0 : Int))]) w1)
   (∃ (a1 : Option Addr) (l1 c1 : Nat),
    w1.cell? ⟨b1, 1, none⟩ = some (.slice a1 l1 c1) ∧
    onSome a1 fun q1 =>
    0 ≤ (IntKind.i64.wrap (n1 - (1 : Int))) ∧ (IntKind.i64.wrap (n1 - (1 : Int))) < ((l1 : Nat) : Int) ∧
    ∃ (n2 : Int),
    w1.cell? (Addr.add (Addr.add q1 (((IntKind.i64.wrap (n1 - (1 : Int)))).toNat * 3)) 1) = some (.int .u64 n2) ∧
    K (.tuple #[(.int .u64 n2), (.int .i64 (0 : Int))]) w1))) ∧
 cond (decide (n1 < (0 : Int)))
 (J1 true w)
 (∃ (a2 : Option Addr) (l2 c2 : Nat),
  w.cell? ⟨b1, 1, none⟩ = some (.slice a2 l2 c2) ∧
  J1 (decide (n1 > ((l2 : Nat) : Int))) w)
def jHeadAt_ann : List (Nat × Live) := [(14, [(18, .s (.bool))])]
theorem jHeadAt_ok {b1 : Nat} {n1 : Int} {w : World} {K : Value → World → Prop} (h : jHeadAt b1 n1 w K) : Calls Tryd.prog 34 #[(.pointer (some ⟨b1, 0, none⟩)), (.int .i64 n1)] w fun e w' => ∃ v, e = .returned v ∧ K v w' :=
  calls_sh (annL jHeadAt_ann) Tryd.func34 (by kernel_rfl) (args := [(.pointer (some ⟨b1, 0, none⟩)), (.int .i64 n1)]) (by kernel_rfl) h

-- (*saleroom/journal.Journal).Append
def jAppendN (s1 : ByteArray) (w : World) (K : Value → World → Prop) : Prop :=
 K (.tuple #[(.int .u64 (0 : Int)), (.int .i64 (6 : Int))]) w
def jAppendN_ann : List (Nat × Live) := []
theorem jAppendN_ok {s1 : ByteArray} {w : World} {K : Value → World → Prop} (h : jAppendN s1 w K) : Calls Tryd.prog 14 #[(.pointer none), (.string s1)] w fun e w' => ∃ v, e = .returned v ∧ K v w' :=
  calls_sh (annL jAppendN_ann) Tryd.func14 (by kernel_rfl) (args := [(.pointer none), (.string s1)]) (by kernel_rfl) h

-- (*saleroom/journal.Journal).Sync
def jSyncN  (w : World) (K : Value → World → Prop) : Prop :=
 K (.int .i64 (6 : Int)) w
def jSyncN_ann : List (Nat × Live) := []
theorem jSyncN_ok {w : World} {K : Value → World → Prop} (h : jSyncN w K) : Calls Tryd.prog 13 #[(.pointer none)] w fun e w' => ∃ v, e = .returned v ∧ K v w' :=
  calls_sh (annL jSyncN_ann) Tryd.func13 (by kernel_rfl) (args := [(.pointer none)]) (by kernel_rfl) h

-- (*saleroom/journal.Journal).Count
def jCountN  (w : World) (K : Value → World → Prop) : Prop :=
 K (.int .i64 (0 : Int)) w
def jCountN_ann : List (Nat × Live) := []
theorem jCountN_ok {w : World} {K : Value → World → Prop} (h : jCountN w K) : Calls Tryd.prog 16 #[(.pointer none)] w fun e w' => ∃ v, e = .returned v ∧ K v w' :=
  calls_sh (annL jCountN_ann) Tryd.func16 (by kernel_rfl) (args := [(.pointer none)]) (by kernel_rfl) h

-- (*saleroom/journal.Journal).Durable
def jDurableN  (w : World) (K : Value → World → Prop) : Prop :=
 K (.int .i64 (0 : Int)) w
def jDurableN_ann : List (Nat × Live) := []
theorem jDurableN_ok {w : World} {K : Value → World → Prop} (h : jDurableN w K) : Calls Tryd.prog 17 #[(.pointer none)] w fun e w' => ∃ v, e = .returned v ∧ K v w' :=
  calls_sh (annL jDurableN_ann) Tryd.func17 (by kernel_rfl) (args := [(.pointer none)]) (by kernel_rfl) h

-- (*saleroom/journal.Journal).Head
def jHeadN  (w : World) (K : Value → World → Prop) : Prop :=
 ∃ J1 : Bool → World → Prop, (∀ (w1 : World) (b1 : Bool), J1 b1 w1 → ∀ x1 : Nat → Value,
  cond b1
  (K (.int .u64 (0 : Int)) w1)
  (False)) ∧
 J1 true w
def jHeadN_ann : List (Nat × Live) := [(6, [(12, .s (.bool))])]
theorem jHeadN_ok {w : World} {K : Value → World → Prop} (h : jHeadN w K) : Calls Tryd.prog 27 #[(.pointer none)] w fun e w' => ∃ v, e = .returned v ∧ K v w' :=
  calls_sh (annL jHeadN_ann) Tryd.func27 (by kernel_rfl) (args := [(.pointer none)]) (by kernel_rfl) h

end Go.Proofs.YtniehglfkacjjaaDoor

/- What each function of the seat comes to, printed by program (sh.py); the kernel holds each print against the loaded code. -/
import Derived.Test.YtcnckiinbfbjkaaGreatDoorVc5
import Derived.Test.YtcnckiinbfbjkaaGreatDoorProg
import Derived.KernelRfl
set_option linter.unusedVariables false
namespace Go.Proofs.YtcnckiinbfbjkaaGreatDoor
open Go Go.Vc
-- saleroom/replay.at
def rAt (a1 : Option Addr) (l1 c1 : Nat) (n1 : Int) (w : World) (K : Value → World → Prop) : Prop :=
 cond (decide (n1 < ((l1 : Nat) : Int)))
 (onSome a1 fun q1 =>
  0 ≤ n1 ∧ n1 < ((l1 : Nat) : Int) ∧
  ∃ (n2 : Int),
  w.cell? (Addr.add q1 ((n1).toNat * 1)) = some (.int .u64 n2) ∧
  K (.int .u64 n2) w)
 (K (.int .u64 (0 : Int)) w)
def rAt_ann : List (Nat × Live) := []
theorem rAt_ok {a1 : Option Addr} {l1 c1 : Nat} {n1 : Int} {w : World} {K : Value → World → Prop} (h : rAt a1 l1 c1 n1 w K) : Calls Tryz.prog 12 #[(.slice a1 l1 c1), (.int .i64 n1)] w fun e w' => ∃ v, e = .returned v ∧ K v w' :=
  calls_sh (annL rAt_ann) Tryz.func12 (by kernel_rfl) (args := [(.slice a1 l1 c1), (.int .i64 n1)]) (by kernel_rfl) h

-- saleroom/replay.Compare
def rCompare (a1 : Option Addr) (l1 c1 : Nat) (a2 : Option Addr) (l2 c2 : Nat) (w : World) (K : Value → World → Prop) : Prop :=
 newK w (.cells #[(.int .i64 (0 : Int)), (.int .u64 (0 : Int)), (.int .u64 (0 : Int))] 26) fun r1 w1 =>
 ∃ I1 : Int → World → Nat → Prop, (∃ m1, I1 (0 : Int) w1 m1) ∧
 ∀ (w2 : World) (m1 : Nat) (n1 : Int), I1 n1 w2 m1 → ∀ x1 : Nat → Value,
 cond (decide (n1 < (if ((l2 : Nat) : Int) > ((l1 : Nat) : Int) then ((l2 : Nat) : Int) else ((l1 : Nat) : Int))))
 (∃ J1 : Bool → World → Prop, (∀ (w3 : World) (b1 : Bool), J1 b1 w3 → ∀ x2 : Nat → Value,
   cond b1
   (Calls Tryz.prog 12 #[(.slice a1 l1 c1), (.int .i64 n1)] w3 fun e1 w4 => ∃ (n2 : Int),
    e1 = .returned (.int .u64 n2) ∧
    Calls Tryz.prog 12 #[(.slice a2 l2 c2), (.int .i64 n1)] w4 fun e2 w5 => ∃ (n3 : Int),
    e2 = .returned (.int .u64 n3) ∧
    stL ⟨r1, 0, none⟩ 0 [(.int .i64 n1), (.int .u64 n2), (.int .u64 n3)] w5 fun w6 =>
    ∃ (n4 : Int) (n5 : Int) (n6 : Int),
    cellsAt w6 ⟨r1, 0, none⟩ 0 [(.int .i64 n4), (.int .u64 n5), (.int .u64 n6)] ∧
    K (.tuple #[(.agg #[(.int .i64 n4), (.int .u64 n5), (.int .u64 n6)]), (.bool true)]) w6)
   (∃ m2, m2 < m1 ∧ I1 (IntKind.i64.wrap (n1 + (1 : Int))) w3 m2)) ∧
  cond (decide (n1 ≥ ((l1 : Nat) : Int)))
  (J1 true w2.drew)
  (cond (decide (n1 ≥ ((l2 : Nat) : Int)))
   (J1 true w2.drew)
   (onSome a1 fun q1 =>
    0 ≤ n1 ∧ n1 < ((l1 : Nat) : Int) ∧
    ∃ (n7 : Int),
    w2.drew.cell? (Addr.add q1 ((n1).toNat * 1)) = some (.int .u64 n7) ∧
    onSome a2 fun q2 =>
    0 ≤ n1 ∧ n1 < ((l2 : Nat) : Int) ∧
    ∃ (n8 : Int),
    w2.drew.cell? (Addr.add q2 ((n1).toNat * 1)) = some (.int .u64 n8) ∧
    J1 (n7 != n8) w2.drew)))
 (stL ⟨r1, 0, none⟩ 0 [(.int .i64 (0 : Int)), (.int .u64 (0 : Int)), (.int .u64 (0 : Int))] w2 fun w7 =>
  ∃ (n9 : Int) (n10 : Int) (n11 : Int),
  cellsAt w7 ⟨r1, 0, none⟩ 0 [(.int .i64 n9), (.int .u64 n10), (.int .u64 n11)] ∧
  K (.tuple #[(.agg #[(.int .i64 n9), (.int .u64 n10), (.int .u64 n11)]), (.bool false)]) w7)
def rCompare_ann : List (Nat × Live) := [(26, [(12, .s (.int .i64))]), (1689, [(35, .s (.bool))])]
theorem rCompare_ok {a1 : Option Addr} {l1 c1 : Nat} {a2 : Option Addr} {l2 c2 : Nat} {w : World} {K : Value → World → Prop} (h : rCompare a1 l1 c1 a2 l2 c2 w K) : Calls Tryz.prog 6 #[(.slice a1 l1 c1), (.slice a2 l2 c2)] w fun e w' => ∃ v, e = .returned v ∧ K v w' :=
  calls_sh (annL rCompare_ann) Tryz.func6 (by kernel_rfl) (args := [(.slice a1 l1 c1), (.slice a2 l2 c2)]) (by kernel_rfl) h

-- saleroom/replay.events
def rEvents (b1 : Nat) (n1 : Int) (w : World) (K : Value → World → Prop) : Prop :=
 newK w (.cells #[(.pointer (some ⟨b1, 0, none⟩))] 48) fun r1 w1 =>
 newK w1 (.cells #[(.int .i64 n1)] 3) fun r2 w2 =>
 K (.func (.func 41) #[] #[(.pointer (some ⟨r2, 0, none⟩)), (.pointer (some ⟨r1, 0, none⟩))]) w2
def rEvents_ann : List (Nat × Live) := []
theorem rEvents_ok {b1 : Nat} {n1 : Int} {w : World} {K : Value → World → Prop} (h : rEvents b1 n1 w K) : Calls Tryz.prog 24 #[(.pointer (some ⟨b1, 0, none⟩)), (.int .i64 n1)] w fun e w' => ∃ v, e = .returned v ∧ K v w' :=
  calls_sh (annL rEvents_ann) Tryz.func24 (by kernel_rfl) (args := [(.pointer (some ⟨b1, 0, none⟩)), (.int .i64 n1)]) (by kernel_rfl) h

-- saleroom/replay.events$1
def rEvIter (l1 : Nat) (b1 : Nat) (b2 : Nat) (w : World) (K : Value → World → Prop) : Prop :=
 ∃ I1 : Int → World → Nat → Prop, (∃ m1, I1 (0 : Int) w m1) ∧
 ∀ (w1 : World) (m1 : Nat) (n1 : Int), I1 n1 w1 m1 → ∀ x1 : Nat → Value,
 ∃ J1 : Bool → World → Prop, (∀ (w2 : World) (b3 : Bool), J1 b3 w2 → ∀ x2 : Nat → Value,
  cond b3
  (∃ (p1 : Option Addr),
   w2.cell? ⟨b2, 0, none⟩ = some (.pointer p1) ∧
   Calls Tryz.prog 42 #[(.pointer p1), (.int .i64 n1)] w2 fun e1 w3 => ∃ (s1 : ByteArray) (n2 : Int),
   e1 = .returned (.tuple #[(.string s1), (.int .i64 n2)]) ∧
   cond (n2 != (0 : Int))
   (YieldC Tryz.prog l1 #[(.agg #[(.int .i64 (0 : Int)), (.int .i64 (0 : Int)), (.int .i64 (0 : Int)), (.int .i64 (0 : Int)), (.int .i64 (0 : Int)), (.int .i64 (0 : Int)), (.int .i64 (0 : Int)), (.int .i64 (0 : Int)), (.int .i64 (0 : Int)), (.string (bs [])), (.int .u64 (0 : Int))]), (.int .i64 n2)] w3 fun b4 w4 => ∃ (b5 : Bool),
    .returned (.bool b4) = Ending.returned (.bool b5) ∧
    K (.tuple #[]) w4)
   (Calls Tryz.prog 43 #[(.string s1)] w3 fun e2 w5 => ∃ (n3 : Int) (n4 : Int) (n5 : Int) (n6 : Int) (n7 : Int) (n8 : Int) (n9 : Int) (n10 : Int) (n11 : Int) (s2 : ByteArray) (n12 : Int) (n13 : Int),
    e2 = .returned (.tuple #[(.agg #[(.int .i64 n3), (.int .i64 n4), (.int .i64 n5), (.int .i64 n6), (.int .i64 n7), (.int .i64 n8), (.int .i64 n9), (.int .i64 n10), (.int .i64 n11), (.string s2), (.int .u64 n12)]), (.int .i64 n13)]) ∧
    YieldC Tryz.prog l1 #[(.agg #[(.int .i64 n3), (.int .i64 n4), (.int .i64 n5), (.int .i64 n6), (.int .i64 n7), (.int .i64 n8), (.int .i64 n9), (.int .i64 n10), (.int .i64 n11), (.string s2), (.int .u64 n12)]), (.int .i64 n13)] w5 fun b6 w6 => ∃ (b7 : Bool),
    .returned (.bool b6) = Ending.returned (.bool b7) ∧
    cond (!b7)
    (K (.tuple #[]) w6)
    (∃ m2, m2 < m1 ∧ I1 (IntKind.i64.wrap (n1 + (1 : Int))) w6 m2)))
  (K (.tuple #[]) w2)) ∧
 ∃ (n14 : Int),
 w1.cell? ⟨b1, 0, none⟩ = some (.int .i64 n14) ∧
 cond (decide (n1 < n14))
 (∃ (p2 : Option Addr),
  w1.cell? ⟨b2, 0, none⟩ = some (.pointer p2) ∧
  Calls Tryz.prog 15 #[(.pointer p2)] w1 fun e3 w7 => ∃ (n15 : Int),
  e3 = .returned (.int .i64 n15) ∧
  J1 (decide (n1 < n15)) w7)
 (J1 false w1)
def rEvIter_ann : List (Nat × Live) := [(6, [(4, .s (.int .i64))]), (24, [(15, .s (.bool))])]
theorem rEvIter_ok {l1 : Nat} {b1 : Nat} {b2 : Nat} {w : World} {K : Value → World → Prop} (h : rEvIter l1 b1 b2 w K) : Calls Tryz.prog 41 #[(.func (.yield l1) #[] #[]), (.pointer (some ⟨b1, 0, none⟩)), (.pointer (some ⟨b2, 0, none⟩))] w fun e w' => ∃ v, e = .returned v ∧ K v w' :=
  calls_sh (annL rEvIter_ann) Tryz.func41 (by kernel_rfl) (args := [(.func (.yield l1) #[] #[]), (.pointer (some ⟨b1, 0, none⟩)), (.pointer (some ⟨b2, 0, none⟩))]) (by kernel_rfl) h

-- saleroom/replay.Run$1
def rRun1 (p1 : Option Addr) (w : World) (K : Value → World → Prop) : Prop :=
 K (.tuple #[]) w
def rRun1_ann : List (Nat × Live) := []
theorem rRun1_ok {p1 : Option Addr} {w : World} {K : Value → World → Prop} (h : rRun1 p1 w K) : Calls Tryz.prog 14 #[(.pointer p1)] w fun e w' => ∃ v, e = .returned v ∧ K v w' :=
  calls_sh (annL rRun1_ann) Tryz.func14 (by kernel_rfl) (args := [(.pointer p1)]) (by kernel_rfl) h

-- saleroom/replay.Trace$1
def rTrace1 (b1 : Nat) (b2 : Nat) (w : World) (K : Value → World → Prop) : Prop :=
 ∃ (a1 : Option Addr) (l1 c1 : Nat),
 w.drew.cell? ⟨b2, 0, none⟩ = some (.slice a1 l1 c1) ∧
 Calls Tryz.prog 17 #[(.pointer (some ⟨b1, 0, none⟩))] w.drew fun e1 w1 => ∃ (n1 : Int),
 e1 = .returned (.int .u64 n1) ∧
 w1.cell? ⟨b2, 0, none⟩ = some (.slice a1 l1 c1) ∧
 newK w1 (.cells #[(.int .u64 n1)] 24) fun r1 w2 =>
 w2.cell? ⟨b2, 0, none⟩ = some (.slice a1 l1 c1) ∧
 rnS Tryz.prog (Builtin.append_ #[22, 22] 22 #[(.slice a1 l1 c1), (.slice (some ⟨r1, 0, none⟩) 1 1)]) w2 fun e2 w3 => ∃ (a2 : Option Addr) (l2 c2 : Nat),
 e2 = (.slice a2 l2 c2) ∧
 stK w3 ⟨b2, 0, none⟩ (.slice a2 l2 c2) fun w4 =>
 K (.tuple #[]) w4
def rTrace1_ann : List (Nat × Live) := []
theorem rTrace1_ok {b1 : Nat} {b2 : Nat} {w : World} {K : Value → World → Prop} (h : rTrace1 b1 b2 w K) : Calls Tryz.prog 16 #[(.pointer (some ⟨b1, 0, none⟩)), (.pointer (some ⟨b2, 0, none⟩))] w fun e w' => ∃ v, e = .returned v ∧ K v w' :=
  calls_sh (annL rTrace1_ann) Tryz.func16 (by kernel_rfl) (args := [(.pointer (some ⟨b1, 0, none⟩)), (.pointer (some ⟨b2, 0, none⟩))]) (by kernel_rfl) h

-- saleroom/replay.run
noncomputable def rrunA_rf506_tm (n1 : Int) (n2 : Int) (n3 : Int) (n4 : Int) (n5 : Int) (b1 : Nat) (r1 : Nat) (r2 : Nat) (r3 : Nat) (r4 : Nat) (r5 : Nat) (n6 : Int) (n7 : Int) (n8 : Int) (n9 : Int) (p1 : Option Addr) (r6 : Nat) (v1 : Value) (p2 : Option Addr) (r7 : Nat) (v2 : Value) : Tm := [(.pointer (some ⟨b1, 0, none⟩)), (.agg #[(.int .i64 n1), (.int .i64 n2), (.int .i64 n3), (.int .i64 n4)]), (.int .i64 n5), (.func (.func 14) #[] #[]), undef, (.pointer (some ⟨r1, 0, none⟩)), undef, (.pointer (some ⟨r2, 0, none⟩)), (.pointer (some ⟨r3, 0, none⟩)), (.pointer (some ⟨r4, 0, none⟩)), (.pointer (some ⟨r5, 0, none⟩)), (.pointer (some ⟨r6, 0, none⟩)), (.pointer (some ⟨r7, 0, none⟩)), undef, undef, (.pointer (some ⟨b1, 0, none⟩)), (.bool false), (.agg #[(.int .i64 n6), (.int .i64 n7), (.int .i64 n8), (.int .i64 n9)]), (.pointer p1), v1, (.pointer p2), (.tuple #[]), (.pointer (some ⟨b1, 0, none⟩)), (.int .i64 n5), v2, undef, undef, undef, undef, undef, undef, undef, undef, undef, undef, undef, undef, undef, undef, undef, undef, undef, undef, undef]
noncomputable def rrunA_rf506_rec (n1 : Int) (n2 : Int) (n3 : Int) (n4 : Int) (n5 : Int) (b1 : Nat) (r1 : Nat) (r2 : Nat) (r3 : Nat) (r4 : Nat) (r5 : Nat) (n6 : Int) (n7 : Int) (n8 : Int) (n9 : Int) (p1 : Option Addr) (r6 : Nat) (v1 : Value) (p2 : Option Addr) (r7 : Nat) (v2 : Value) (fn : FuncId) (D : Nat) : Loop := { state := .ready, pending := none, fn := fn, tmps := (rrunA_rf506_tm n1 n2 n3 n4 n5 b1 r1 r2 r3 r4 r5 n6 n7 n8 n9 p1 r6 v1 p2 r7 v2).toArray, params := rfPs (bodyOf Tryz.f13) 506, assign := rfAs (bodyOf Tryz.f13) 506, body := rfBd (bodyOf Tryz.f13) 506, defers := D }
def rrunA_rf506 (n1 : Int) (n2 : Int) (n3 : Int) (n4 : Int) (n5 : Int) (b1 : Nat) (r1 : Nat) (r2 : Nat) (r3 : Nat) (r4 : Nat) (r5 : Nat) (n6 : Int) (n7 : Int) (n8 : Int) (n9 : Int) (p1 : Option Addr) (r6 : Nat) (v1 : Value) (p2 : Option Addr) (r7 : Nat) (v2 : Value) (l1 : Nat) (n15 : Int) (n16 : Int) (n17 : Int) (n18 : Int) (n19 : Int) (n20 : Int) (n21 : Int) (n22 : Int) (n23 : Int) (s1 : ByteArray) (n24 : Int) (n25 : Int) (w : World) (K : Bool → World → Prop) : Prop :=
 newK w (.cells #[(.int .i64 (0 : Int)), (.int .i64 (0 : Int)), (.int .i64 (0 : Int)), (.int .i64 (0 : Int)), (.int .i64 (0 : Int)), (.int .i64 (0 : Int)), (.int .i64 (0 : Int)), (.int .i64 (0 : Int)), (.int .i64 (0 : Int)), (.string (bs [])), (.int .u64 (0 : Int))] 74) fun r8 w18 =>
 stL ⟨r8, 0, none⟩ 0 [(.int .i64 n15), (.int .i64 n16), (.int .i64 n17), (.int .i64 n18), (.int .i64 n19), (.int .i64 n20), (.int .i64 n21), (.int .i64 n22), (.int .i64 n23), (.string s1), (.int .u64 n24)] w18 fun w19 =>
 ∃ r9, w19.heap[l1]? = some (.loop r9) ∧ r9.state = .ready ∧
 ∃ J1 : Int → World → Prop, (∀ (w20 : World) (n26 : Int), J1 n26 w20 → ∀ x1 : Nat → Value,
  cond (n26 != (0 : Int))
  (∃ (p6 : Option Addr),
   w20.drew.cell? ⟨r6, 0, none⟩ = some (.pointer p6) ∧
   ∃ (n27 : Int),
   w20.drew.cell? ⟨r7, 0, none⟩ = some (.int .i64 n27) ∧
   stK w20.drew ⟨r3, 0, none⟩ (.pointer p6) fun w21 =>
   w21.cell? ⟨r7, 0, none⟩ = some (.int .i64 n27) ∧
   stK w21 ⟨r4, 0, none⟩ (.int .i64 n27) fun w22 =>
   stK w22 ⟨r5, 0, none⟩ (.int .i64 n26) fun w23 =>
   ∃ r10, w23.heap[l1]? = some (.loop r10) ∧ K false (World.putObj w23 l1 (.loop { r10 with state := .done, pending := some .ret })))
  (∃ (n28 : Int),
   w20.cell? ⟨r7, 0, none⟩ = some (.int .i64 n28) ∧
   stK w20 ⟨r7, 0, none⟩ (.int .i64 (IntKind.i64.wrap (n28 + (1 : Int)))) fun w24 =>
   ∃ (v3 : Value),
   w24.cell? ⟨r2, 0, none⟩ = some v3 ∧
   ∃ (p7 : Option Addr),
   w24.cell? ⟨r6, 0, none⟩ = some (.pointer p7) ∧
   callF Tryz.prog v3 #[(.pointer p7)] w24 fun e4 w25 => e4 = .returned (.tuple #[]) ∧
   ∃ r11, w25.heap[l1]? = some (.loop r11) ∧ K true (World.putObj w25 l1 (.loop { r11 with state := .ready, pending := none })))) ∧
 cond (n25 == (0 : Int))
 (∃ (p8 : Option Addr),
  (World.putObj w19 l1 (.loop { r9 with state := .busy })).cell? ⟨r6, 0, none⟩ = some (.pointer p8) ∧
  ∃ (n29 : Int) (n30 : Int) (n31 : Int) (n32 : Int) (n33 : Int) (n34 : Int) (n35 : Int) (n36 : Int) (n37 : Int) (s2 : ByteArray) (n38 : Int),
  cellsAt (World.putObj w19 l1 (.loop { r9 with state := .busy })) ⟨r8, 0, none⟩ 0 [(.int .i64 n29), (.int .i64 n30), (.int .i64 n31), (.int .i64 n32), (.int .i64 n33), (.int .i64 n34), (.int .i64 n35), (.int .i64 n36), (.int .i64 n37), (.string s2), (.int .u64 n38)] ∧
  Calls Tryz.prog 25 #[(.pointer p8), (.agg #[(.int .i64 n29), (.int .i64 n30), (.int .i64 n31), (.int .i64 n32), (.int .i64 n33), (.int .i64 n34), (.int .i64 n35), (.int .i64 n36), (.int .i64 n37), (.string s2), (.int .u64 n38)])] (World.putObj w19 l1 (.loop { r9 with state := .busy })) fun e5 w26 => ∃ (n39 : Int),
  e5 = .returned (.int .i64 n39) ∧
  J1 n39 w26)
 (J1 n25 (World.putObj w19 l1 (.loop { r9 with state := .busy })))
def rrunA_rf506_ann : List (Nat × Live) := [(6, [(14, .s (.int .i64))])]
theorem rrunA_rf506_ok {n1 : Int} {n2 : Int} {n3 : Int} {n4 : Int} {n5 : Int} {b1 : Nat} {r1 : Nat} {r2 : Nat} {r3 : Nat} {r4 : Nat} {r5 : Nat} {n6 : Int} {n7 : Int} {n8 : Int} {n9 : Int} {p1 : Option Addr} {r6 : Nat} {v1 : Value} {p2 : Option Addr} {r7 : Nat} {v2 : Value} {l1 : Nat} {n15 : Int} {n16 : Int} {n17 : Int} {n18 : Int} {n19 : Int} {n20 : Int} {n21 : Int} {n22 : Int} {n23 : Int} {s1 : ByteArray} {n24 : Int} {n25 : Int} {w : World} {K : Bool → World → Prop} {r : Loop} (hl : w.heap[l1]? = some (.loop r)) (ht : r.tmps = (rrunA_rf506_tm n1 n2 n3 n4 n5 b1 r1 r2 r3 r4 r5 n6 n7 n8 n9 p1 r6 v1 p2 r7 v2).toArray) (hp : r.params = rfPs (bodyOf Tryz.f13) 506) (ha : r.assign = rfAs (bodyOf Tryz.f13) 506) (hb : r.body = rfBd (bodyOf Tryz.f13) 506) (h : rrunA_rf506 n1 n2 n3 n4 n5 b1 r1 r2 r3 r4 r5 n6 n7 n8 n9 p1 r6 v1 p2 r7 v2 l1 n15 n16 n17 n18 n19 n20 n21 n22 n23 s1 n24 n25 w K) : YieldC Tryz.prog l1 #[(.agg #[(.int .i64 n15), (.int .i64 n16), (.int .i64 n17), (.int .i64 n18), (.int .i64 n19), (.int .i64 n20), (.int .i64 n21), (.int .i64 n22), (.int .i64 n23), (.string s1), (.int .u64 n24)]), (.int .i64 n25)] w K :=
  yield_sh (annL rrunA_rf506_ann) (args := [(.agg #[(.int .i64 n15), (.int .i64 n16), (.int .i64 n17), (.int .i64 n18), (.int .i64 n19), (.int .i64 n20), (.int .i64 n21), (.int .i64 n22), (.int .i64 n23), (.string s1), (.int .u64 n24)]), (.int .i64 n25)]) hl ht hp ha hb (by kernel_rfl) (by kernel_rfl) (by kernel_rfl) h
def rrunA (b1 : Nat) (n1 : Int) (n2 : Int) (n3 : Int) (n4 : Int) (n5 : Int) (w : World) (K : Value → World → Prop) : Prop :=
 newK w (.cells #[(.int .i64 n1), (.int .i64 n2), (.int .i64 n3), (.int .i64 n4)] 31) fun r1 w1 =>
 newK w1 (.cells #[(.func (.func 14) #[] #[])] 52) fun r2 w2 =>
 newK w2 (.cells #[(.pointer none)] 32) fun r3 w3 =>
 newK w3 (.cells #[(.int .i64 (0 : Int))] 3) fun r4 w4 =>
 newK w4 (.cells #[(.int .i64 (0 : Int))] 33) fun r5 w5 =>
 ∃ (n6 : Int) (n7 : Int) (n8 : Int) (n9 : Int),
 cellsAt w5 ⟨r1, 0, none⟩ 0 [(.int .i64 n6), (.int .i64 n7), (.int .i64 n8), (.int .i64 n9)] ∧
 Calls Tryz.prog 23 #[(.agg #[(.int .i64 n6), (.int .i64 n7), (.int .i64 n8), (.int .i64 n9)])] w5 fun e1 w6 => ∃ (p1 : Option Addr),
 e1 = .returned (.pointer p1) ∧
 newK w6 (.cells #[(.pointer none)] 32) fun r6 w7 =>
 stK w7 ⟨r6, 0, none⟩ (.pointer p1) fun w8 =>
 ∃ (v1 : Value),
 w8.cell? ⟨r2, 0, none⟩ = some v1 ∧
 ∃ (p2 : Option Addr),
 w8.cell? ⟨r6, 0, none⟩ = some (.pointer p2) ∧
 callF Tryz.prog v1 #[(.pointer p2)] w8 fun e2 w9 => e2 = .returned (.tuple #[]) ∧
 newK w9 (.cells #[(.int .i64 (0 : Int))] 3) fun r7 w10 =>
 stK w10 ⟨r7, 0, none⟩ (.int .i64 (0 : Int)) fun w11 =>
 Calls Tryz.prog 24 #[(.pointer (some ⟨b1, 0, none⟩)), (.int .i64 n5)] w11 fun e3 w12 => ∃ (v2 : Value),
 e3 = .returned v2 ∧
 rangeV Tryz.prog v2 fun g1 lb1 =>
 rangeK Tryz.prog g1 lb1 (rrunA_rf506_rec n1 n2 n3 n4 n5 b1 r1 r2 r3 r4 r5 n6 n7 n8 n9 p1 r6 v1 p2 r7 v2) w12
 (fun w14 =>
  ∃ (p4 : Option Addr),
  w14.drew.cell? ⟨r6, 0, none⟩ = some (.pointer p4) ∧
  ∃ (n12 : Int),
  w14.drew.cell? ⟨r7, 0, none⟩ = some (.int .i64 n12) ∧
  stK w14.drew ⟨r3, 0, none⟩ (.pointer p4) fun w15 =>
  w15.cell? ⟨r7, 0, none⟩ = some (.int .i64 n12) ∧
  stK w15 ⟨r4, 0, none⟩ (.int .i64 n12) fun w16 =>
  stK w16 ⟨r5, 0, none⟩ (.int .i64 (0 : Int)) fun w17 =>
  w17.heap[w12.heap.size]? = some (.deferred (some [])) ∧
  ∃ (p5 : Option Addr),
  (World.putObj w17 w12.heap.size (.deferred none)).cell? ⟨r3, 0, none⟩ = some (.pointer p5) ∧
  ∃ (n13 : Int),
  (World.putObj w17 w12.heap.size (.deferred none)).cell? ⟨r4, 0, none⟩ = some (.int .i64 n13) ∧
  ∃ (n14 : Int),
  (World.putObj w17 w12.heap.size (.deferred none)).cell? ⟨r5, 0, none⟩ = some (.int .i64 n14) ∧
  K (.tuple #[(.pointer p5), (.int .i64 n13), (.int .i64 n14)]) (World.putObj w17 w12.heap.size (.deferred none)))
 (fun w13 =>
  w13.heap[w12.heap.size]? = some (.deferred (some [])) ∧
  ∃ (p3 : Option Addr),
  (World.putObj w13 w12.heap.size (.deferred none)).cell? ⟨r3, 0, none⟩ = some (.pointer p3) ∧
  ∃ (n10 : Int),
  (World.putObj w13 w12.heap.size (.deferred none)).cell? ⟨r4, 0, none⟩ = some (.int .i64 n10) ∧
  ∃ (n11 : Int),
  (World.putObj w13 w12.heap.size (.deferred none)).cell? ⟨r5, 0, none⟩ = some (.int .i64 n11) ∧
  K (.tuple #[(.pointer p3), (.int .i64 n10), (.int .i64 n11)]) (World.putObj w13 w12.heap.size (.deferred none)))
 []
def rrunA_ann : List (Nat × Live) := []
theorem rrunA_ok {b1 : Nat} {n1 : Int} {n2 : Int} {n3 : Int} {n4 : Int} {n5 : Int} {w : World} {K : Value → World → Prop} (h : rrunA b1 n1 n2 n3 n4 n5 w K) : Calls Tryz.prog 13 #[(.pointer (some ⟨b1, 0, none⟩)), (.agg #[(.int .i64 n1), (.int .i64 n2), (.int .i64 n3), (.int .i64 n4)]), (.int .i64 n5), (.func (.func 14) #[] #[])] w fun e w' => ∃ v, e = .returned v ∧ K v w' :=
  calls_sh (annL rrunA_ann) Tryz.func13 (by kernel_rfl) (args := [(.pointer (some ⟨b1, 0, none⟩)), (.agg #[(.int .i64 n1), (.int .i64 n2), (.int .i64 n3), (.int .i64 n4)]), (.int .i64 n5), (.func (.func 14) #[] #[])]) (by kernel_rfl) h

-- saleroom/replay.run
noncomputable def rrunB_rf506_tm (n1 : Int) (n2 : Int) (n3 : Int) (n4 : Int) (n5 : Int) (b1 : Nat) (b2 : Nat) (r1 : Nat) (r2 : Nat) (r3 : Nat) (r4 : Nat) (r5 : Nat) (n6 : Int) (n7 : Int) (n8 : Int) (n9 : Int) (p1 : Option Addr) (r6 : Nat) (v1 : Value) (p2 : Option Addr) (r7 : Nat) (v2 : Value) : Tm := [(.pointer (some ⟨b1, 0, none⟩)), (.agg #[(.int .i64 n1), (.int .i64 n2), (.int .i64 n3), (.int .i64 n4)]), (.int .i64 n5), (.func (.func 16) #[] #[(.pointer (some ⟨b2, 0, none⟩))]), undef, (.pointer (some ⟨r1, 0, none⟩)), undef, (.pointer (some ⟨r2, 0, none⟩)), (.pointer (some ⟨r3, 0, none⟩)), (.pointer (some ⟨r4, 0, none⟩)), (.pointer (some ⟨r5, 0, none⟩)), (.pointer (some ⟨r6, 0, none⟩)), (.pointer (some ⟨r7, 0, none⟩)), undef, undef, (.pointer (some ⟨b1, 0, none⟩)), (.bool false), (.agg #[(.int .i64 n6), (.int .i64 n7), (.int .i64 n8), (.int .i64 n9)]), (.pointer p1), v1, (.pointer p2), (.tuple #[]), (.pointer (some ⟨b1, 0, none⟩)), (.int .i64 n5), v2, undef, undef, undef, undef, undef, undef, undef, undef, undef, undef, undef, undef, undef, undef, undef, undef, undef, undef, undef]
noncomputable def rrunB_rf506_rec (n1 : Int) (n2 : Int) (n3 : Int) (n4 : Int) (n5 : Int) (b1 : Nat) (b2 : Nat) (r1 : Nat) (r2 : Nat) (r3 : Nat) (r4 : Nat) (r5 : Nat) (n6 : Int) (n7 : Int) (n8 : Int) (n9 : Int) (p1 : Option Addr) (r6 : Nat) (v1 : Value) (p2 : Option Addr) (r7 : Nat) (v2 : Value) (fn : FuncId) (D : Nat) : Loop := { state := .ready, pending := none, fn := fn, tmps := (rrunB_rf506_tm n1 n2 n3 n4 n5 b1 b2 r1 r2 r3 r4 r5 n6 n7 n8 n9 p1 r6 v1 p2 r7 v2).toArray, params := rfPs (bodyOf Tryz.f13) 506, assign := rfAs (bodyOf Tryz.f13) 506, body := rfBd (bodyOf Tryz.f13) 506, defers := D }
def rrunB_rf506 (n1 : Int) (n2 : Int) (n3 : Int) (n4 : Int) (n5 : Int) (b1 : Nat) (b2 : Nat) (r1 : Nat) (r2 : Nat) (r3 : Nat) (r4 : Nat) (r5 : Nat) (n6 : Int) (n7 : Int) (n8 : Int) (n9 : Int) (p1 : Option Addr) (r6 : Nat) (v1 : Value) (p2 : Option Addr) (r7 : Nat) (v2 : Value) (l1 : Nat) (n15 : Int) (n16 : Int) (n17 : Int) (n18 : Int) (n19 : Int) (n20 : Int) (n21 : Int) (n22 : Int) (n23 : Int) (s1 : ByteArray) (n24 : Int) (n25 : Int) (w : World) (K : Bool → World → Prop) : Prop :=
 newK w (.cells #[(.int .i64 (0 : Int)), (.int .i64 (0 : Int)), (.int .i64 (0 : Int)), (.int .i64 (0 : Int)), (.int .i64 (0 : Int)), (.int .i64 (0 : Int)), (.int .i64 (0 : Int)), (.int .i64 (0 : Int)), (.int .i64 (0 : Int)), (.string (bs [])), (.int .u64 (0 : Int))] 74) fun r8 w18 =>
 stL ⟨r8, 0, none⟩ 0 [(.int .i64 n15), (.int .i64 n16), (.int .i64 n17), (.int .i64 n18), (.int .i64 n19), (.int .i64 n20), (.int .i64 n21), (.int .i64 n22), (.int .i64 n23), (.string s1), (.int .u64 n24)] w18 fun w19 =>
 ∃ r9, w19.heap[l1]? = some (.loop r9) ∧ r9.state = .ready ∧
 ∃ J1 : Int → World → Prop, (∀ (w20 : World) (n26 : Int), J1 n26 w20 → ∀ x1 : Nat → Value,
  cond (n26 != (0 : Int))
  (∃ (p6 : Option Addr),
   w20.drew.cell? ⟨r6, 0, none⟩ = some (.pointer p6) ∧
   ∃ (n27 : Int),
   w20.drew.cell? ⟨r7, 0, none⟩ = some (.int .i64 n27) ∧
   stK w20.drew ⟨r3, 0, none⟩ (.pointer p6) fun w21 =>
   w21.cell? ⟨r7, 0, none⟩ = some (.int .i64 n27) ∧
   stK w21 ⟨r4, 0, none⟩ (.int .i64 n27) fun w22 =>
   stK w22 ⟨r5, 0, none⟩ (.int .i64 n26) fun w23 =>
   ∃ r10, w23.heap[l1]? = some (.loop r10) ∧ K false (World.putObj w23 l1 (.loop { r10 with state := .done, pending := some .ret })))
  (∃ (n28 : Int),
   w20.cell? ⟨r7, 0, none⟩ = some (.int .i64 n28) ∧
   stK w20 ⟨r7, 0, none⟩ (.int .i64 (IntKind.i64.wrap (n28 + (1 : Int)))) fun w24 =>
   ∃ (v3 : Value),
   w24.cell? ⟨r2, 0, none⟩ = some v3 ∧
   ∃ (p7 : Option Addr),
   w24.cell? ⟨r6, 0, none⟩ = some (.pointer p7) ∧
   callF Tryz.prog v3 #[(.pointer p7)] w24 fun e4 w25 => e4 = .returned (.tuple #[]) ∧
   ∃ r11, w25.heap[l1]? = some (.loop r11) ∧ K true (World.putObj w25 l1 (.loop { r11 with state := .ready, pending := none })))) ∧
 cond (n25 == (0 : Int))
 (∃ (p8 : Option Addr),
  (World.putObj w19 l1 (.loop { r9 with state := .busy })).cell? ⟨r6, 0, none⟩ = some (.pointer p8) ∧
  ∃ (n29 : Int) (n30 : Int) (n31 : Int) (n32 : Int) (n33 : Int) (n34 : Int) (n35 : Int) (n36 : Int) (n37 : Int) (s2 : ByteArray) (n38 : Int),
  cellsAt (World.putObj w19 l1 (.loop { r9 with state := .busy })) ⟨r8, 0, none⟩ 0 [(.int .i64 n29), (.int .i64 n30), (.int .i64 n31), (.int .i64 n32), (.int .i64 n33), (.int .i64 n34), (.int .i64 n35), (.int .i64 n36), (.int .i64 n37), (.string s2), (.int .u64 n38)] ∧
  Calls Tryz.prog 25 #[(.pointer p8), (.agg #[(.int .i64 n29), (.int .i64 n30), (.int .i64 n31), (.int .i64 n32), (.int .i64 n33), (.int .i64 n34), (.int .i64 n35), (.int .i64 n36), (.int .i64 n37), (.string s2), (.int .u64 n38)])] (World.putObj w19 l1 (.loop { r9 with state := .busy })) fun e5 w26 => ∃ (n39 : Int),
  e5 = .returned (.int .i64 n39) ∧
  J1 n39 w26)
 (J1 n25 (World.putObj w19 l1 (.loop { r9 with state := .busy })))
def rrunB_rf506_ann : List (Nat × Live) := [(6, [(14, .s (.int .i64))])]
theorem rrunB_rf506_ok {n1 : Int} {n2 : Int} {n3 : Int} {n4 : Int} {n5 : Int} {b1 : Nat} {b2 : Nat} {r1 : Nat} {r2 : Nat} {r3 : Nat} {r4 : Nat} {r5 : Nat} {n6 : Int} {n7 : Int} {n8 : Int} {n9 : Int} {p1 : Option Addr} {r6 : Nat} {v1 : Value} {p2 : Option Addr} {r7 : Nat} {v2 : Value} {l1 : Nat} {n15 : Int} {n16 : Int} {n17 : Int} {n18 : Int} {n19 : Int} {n20 : Int} {n21 : Int} {n22 : Int} {n23 : Int} {s1 : ByteArray} {n24 : Int} {n25 : Int} {w : World} {K : Bool → World → Prop} {r : Loop} (hl : w.heap[l1]? = some (.loop r)) (ht : r.tmps = (rrunB_rf506_tm n1 n2 n3 n4 n5 b1 b2 r1 r2 r3 r4 r5 n6 n7 n8 n9 p1 r6 v1 p2 r7 v2).toArray) (hp : r.params = rfPs (bodyOf Tryz.f13) 506) (ha : r.assign = rfAs (bodyOf Tryz.f13) 506) (hb : r.body = rfBd (bodyOf Tryz.f13) 506) (h : rrunB_rf506 n1 n2 n3 n4 n5 b1 b2 r1 r2 r3 r4 r5 n6 n7 n8 n9 p1 r6 v1 p2 r7 v2 l1 n15 n16 n17 n18 n19 n20 n21 n22 n23 s1 n24 n25 w K) : YieldC Tryz.prog l1 #[(.agg #[(.int .i64 n15), (.int .i64 n16), (.int .i64 n17), (.int .i64 n18), (.int .i64 n19), (.int .i64 n20), (.int .i64 n21), (.int .i64 n22), (.int .i64 n23), (.string s1), (.int .u64 n24)]), (.int .i64 n25)] w K :=
  yield_sh (annL rrunB_rf506_ann) (args := [(.agg #[(.int .i64 n15), (.int .i64 n16), (.int .i64 n17), (.int .i64 n18), (.int .i64 n19), (.int .i64 n20), (.int .i64 n21), (.int .i64 n22), (.int .i64 n23), (.string s1), (.int .u64 n24)]), (.int .i64 n25)]) hl ht hp ha hb (by kernel_rfl) (by kernel_rfl) (by kernel_rfl) h
def rrunB (b1 : Nat) (n1 : Int) (n2 : Int) (n3 : Int) (n4 : Int) (n5 : Int) (b2 : Nat) (w : World) (K : Value → World → Prop) : Prop :=
 newK w (.cells #[(.int .i64 n1), (.int .i64 n2), (.int .i64 n3), (.int .i64 n4)] 31) fun r1 w1 =>
 newK w1 (.cells #[(.func (.func 16) #[] #[(.pointer (some ⟨b2, 0, none⟩))])] 52) fun r2 w2 =>
 newK w2 (.cells #[(.pointer none)] 32) fun r3 w3 =>
 newK w3 (.cells #[(.int .i64 (0 : Int))] 3) fun r4 w4 =>
 newK w4 (.cells #[(.int .i64 (0 : Int))] 33) fun r5 w5 =>
 ∃ (n6 : Int) (n7 : Int) (n8 : Int) (n9 : Int),
 cellsAt w5 ⟨r1, 0, none⟩ 0 [(.int .i64 n6), (.int .i64 n7), (.int .i64 n8), (.int .i64 n9)] ∧
 Calls Tryz.prog 23 #[(.agg #[(.int .i64 n6), (.int .i64 n7), (.int .i64 n8), (.int .i64 n9)])] w5 fun e1 w6 => ∃ (p1 : Option Addr),
 e1 = .returned (.pointer p1) ∧
 newK w6 (.cells #[(.pointer none)] 32) fun r6 w7 =>
 stK w7 ⟨r6, 0, none⟩ (.pointer p1) fun w8 =>
 ∃ (v1 : Value),
 w8.cell? ⟨r2, 0, none⟩ = some v1 ∧
 ∃ (p2 : Option Addr),
 w8.cell? ⟨r6, 0, none⟩ = some (.pointer p2) ∧
 callF Tryz.prog v1 #[(.pointer p2)] w8 fun e2 w9 => e2 = .returned (.tuple #[]) ∧
 newK w9 (.cells #[(.int .i64 (0 : Int))] 3) fun r7 w10 =>
 stK w10 ⟨r7, 0, none⟩ (.int .i64 (0 : Int)) fun w11 =>
 Calls Tryz.prog 24 #[(.pointer (some ⟨b1, 0, none⟩)), (.int .i64 n5)] w11 fun e3 w12 => ∃ (v2 : Value),
 e3 = .returned v2 ∧
 rangeV Tryz.prog v2 fun g1 lb1 =>
 rangeK Tryz.prog g1 lb1 (rrunB_rf506_rec n1 n2 n3 n4 n5 b1 b2 r1 r2 r3 r4 r5 n6 n7 n8 n9 p1 r6 v1 p2 r7 v2) w12
 (fun w14 =>
  ∃ (p4 : Option Addr),
  w14.drew.cell? ⟨r6, 0, none⟩ = some (.pointer p4) ∧
  ∃ (n12 : Int),
  w14.drew.cell? ⟨r7, 0, none⟩ = some (.int .i64 n12) ∧
  stK w14.drew ⟨r3, 0, none⟩ (.pointer p4) fun w15 =>
  w15.cell? ⟨r7, 0, none⟩ = some (.int .i64 n12) ∧
  stK w15 ⟨r4, 0, none⟩ (.int .i64 n12) fun w16 =>
  stK w16 ⟨r5, 0, none⟩ (.int .i64 (0 : Int)) fun w17 =>
  w17.heap[w12.heap.size]? = some (.deferred (some [])) ∧
  ∃ (p5 : Option Addr),
  (World.putObj w17 w12.heap.size (.deferred none)).cell? ⟨r3, 0, none⟩ = some (.pointer p5) ∧
  ∃ (n13 : Int),
  (World.putObj w17 w12.heap.size (.deferred none)).cell? ⟨r4, 0, none⟩ = some (.int .i64 n13) ∧
  ∃ (n14 : Int),
  (World.putObj w17 w12.heap.size (.deferred none)).cell? ⟨r5, 0, none⟩ = some (.int .i64 n14) ∧
  K (.tuple #[(.pointer p5), (.int .i64 n13), (.int .i64 n14)]) (World.putObj w17 w12.heap.size (.deferred none)))
 (fun w13 =>
  w13.heap[w12.heap.size]? = some (.deferred (some [])) ∧
  ∃ (p3 : Option Addr),
  (World.putObj w13 w12.heap.size (.deferred none)).cell? ⟨r3, 0, none⟩ = some (.pointer p3) ∧
  ∃ (n10 : Int),
  (World.putObj w13 w12.heap.size (.deferred none)).cell? ⟨r4, 0, none⟩ = some (.int .i64 n10) ∧
  ∃ (n11 : Int),
  (World.putObj w13 w12.heap.size (.deferred none)).cell? ⟨r5, 0, none⟩ = some (.int .i64 n11) ∧
  K (.tuple #[(.pointer p3), (.int .i64 n10), (.int .i64 n11)]) (World.putObj w13 w12.heap.size (.deferred none)))
 []
def rrunB_ann : List (Nat × Live) := []
theorem rrunB_ok {b1 : Nat} {n1 : Int} {n2 : Int} {n3 : Int} {n4 : Int} {n5 : Int} {b2 : Nat} {w : World} {K : Value → World → Prop} (h : rrunB b1 n1 n2 n3 n4 n5 b2 w K) : Calls Tryz.prog 13 #[(.pointer (some ⟨b1, 0, none⟩)), (.agg #[(.int .i64 n1), (.int .i64 n2), (.int .i64 n3), (.int .i64 n4)]), (.int .i64 n5), (.func (.func 16) #[] #[(.pointer (some ⟨b2, 0, none⟩))])] w fun e w' => ∃ v, e = .returned v ∧ K v w' :=
  calls_sh (annL rrunB_ann) Tryz.func13 (by kernel_rfl) (args := [(.pointer (some ⟨b1, 0, none⟩)), (.agg #[(.int .i64 n1), (.int .i64 n2), (.int .i64 n3), (.int .i64 n4)]), (.int .i64 n5), (.func (.func 16) #[] #[(.pointer (some ⟨b2, 0, none⟩))])]) (by kernel_rfl) h

-- saleroom/replay.run
def rrunAN (n1 : Int) (n2 : Int) (n3 : Int) (n4 : Int) (n5 : Int) (w : World) (K : Value → World → Prop) : Prop :=
 newK w (.cells #[(.int .i64 n1), (.int .i64 n2), (.int .i64 n3), (.int .i64 n4)] 31) fun r1 w1 =>
 newK w1 (.cells #[(.func (.func 14) #[] #[])] 52) fun r2 w2 =>
 newK w2 (.cells #[(.pointer none)] 32) fun r3 w3 =>
 newK w3 (.cells #[(.int .i64 (0 : Int))] 3) fun r4 w4 =>
 newK w4 (.cells #[(.int .i64 (0 : Int))] 33) fun r5 w5 =>
 stK w5 ⟨r3, 0, none⟩ (.pointer none) fun w6 =>
 stK w6 ⟨r4, 0, none⟩ (.int .i64 (0 : Int)) fun w7 =>
 stK w7 ⟨r5, 0, none⟩ (.int .i64 (6 : Int)) fun w8 =>
 ∃ (p1 : Option Addr),
 w8.cell? ⟨r3, 0, none⟩ = some (.pointer p1) ∧
 ∃ (n6 : Int),
 w8.cell? ⟨r4, 0, none⟩ = some (.int .i64 n6) ∧
 ∃ (n7 : Int),
 w8.cell? ⟨r5, 0, none⟩ = some (.int .i64 n7) ∧
 K (.tuple #[(.pointer p1), (.int .i64 n6), (.int .i64 n7)]) w8
def rrunAN_ann : List (Nat × Live) := []
theorem rrunAN_ok {n1 : Int} {n2 : Int} {n3 : Int} {n4 : Int} {n5 : Int} {w : World} {K : Value → World → Prop} (h : rrunAN n1 n2 n3 n4 n5 w K) : Calls Tryz.prog 13 #[(.pointer none), (.agg #[(.int .i64 n1), (.int .i64 n2), (.int .i64 n3), (.int .i64 n4)]), (.int .i64 n5), (.func (.func 14) #[] #[])] w fun e w' => ∃ v, e = .returned v ∧ K v w' :=
  calls_sh (annL rrunAN_ann) Tryz.func13 (by kernel_rfl) (args := [(.pointer none), (.agg #[(.int .i64 n1), (.int .i64 n2), (.int .i64 n3), (.int .i64 n4)]), (.int .i64 n5), (.func (.func 14) #[] #[])]) (by kernel_rfl) h

-- saleroom/replay.run
def rrunBN (n1 : Int) (n2 : Int) (n3 : Int) (n4 : Int) (n5 : Int) (b1 : Nat) (w : World) (K : Value → World → Prop) : Prop :=
 newK w (.cells #[(.int .i64 n1), (.int .i64 n2), (.int .i64 n3), (.int .i64 n4)] 31) fun r1 w1 =>
 newK w1 (.cells #[(.func (.func 16) #[] #[(.pointer (some ⟨b1, 0, none⟩))])] 52) fun r2 w2 =>
 newK w2 (.cells #[(.pointer none)] 32) fun r3 w3 =>
 newK w3 (.cells #[(.int .i64 (0 : Int))] 3) fun r4 w4 =>
 newK w4 (.cells #[(.int .i64 (0 : Int))] 33) fun r5 w5 =>
 stK w5 ⟨r3, 0, none⟩ (.pointer none) fun w6 =>
 stK w6 ⟨r4, 0, none⟩ (.int .i64 (0 : Int)) fun w7 =>
 stK w7 ⟨r5, 0, none⟩ (.int .i64 (6 : Int)) fun w8 =>
 ∃ (p1 : Option Addr),
 w8.cell? ⟨r3, 0, none⟩ = some (.pointer p1) ∧
 ∃ (n6 : Int),
 w8.cell? ⟨r4, 0, none⟩ = some (.int .i64 n6) ∧
 ∃ (n7 : Int),
 w8.cell? ⟨r5, 0, none⟩ = some (.int .i64 n7) ∧
 K (.tuple #[(.pointer p1), (.int .i64 n6), (.int .i64 n7)]) w8
def rrunBN_ann : List (Nat × Live) := []
theorem rrunBN_ok {n1 : Int} {n2 : Int} {n3 : Int} {n4 : Int} {n5 : Int} {b1 : Nat} {w : World} {K : Value → World → Prop} (h : rrunBN n1 n2 n3 n4 n5 b1 w K) : Calls Tryz.prog 13 #[(.pointer none), (.agg #[(.int .i64 n1), (.int .i64 n2), (.int .i64 n3), (.int .i64 n4)]), (.int .i64 n5), (.func (.func 16) #[] #[(.pointer (some ⟨b1, 0, none⟩))])] w fun e w' => ∃ v, e = .returned v ∧ K v w' :=
  calls_sh (annL rrunBN_ann) Tryz.func13 (by kernel_rfl) (args := [(.pointer none), (.agg #[(.int .i64 n1), (.int .i64 n2), (.int .i64 n3), (.int .i64 n4)]), (.int .i64 n5), (.func (.func 16) #[] #[(.pointer (some ⟨b1, 0, none⟩))])]) (by kernel_rfl) h

-- saleroom/replay.Run
def rRun (b1 : Nat) (n1 : Int) (n2 : Int) (n3 : Int) (n4 : Int) (n5 : Int) (w : World) (K : Value → World → Prop) : Prop :=
 newK w (.cells #[(.int .i64 n1), (.int .i64 n2), (.int .i64 n3), (.int .i64 n4)] 31) fun r1 w1 =>
 ∃ (n6 : Int) (n7 : Int) (n8 : Int) (n9 : Int),
 cellsAt w1 ⟨r1, 0, none⟩ 0 [(.int .i64 n6), (.int .i64 n7), (.int .i64 n8), (.int .i64 n9)] ∧
 Calls Tryz.prog 13 #[(.pointer (some ⟨b1, 0, none⟩)), (.agg #[(.int .i64 n6), (.int .i64 n7), (.int .i64 n8), (.int .i64 n9)]), (.int .i64 n5), (.func (.func 14) #[] #[])] w1 fun e1 w2 => ∃ (p1 : Option Addr) (n10 : Int) (n11 : Int),
 e1 = .returned (.tuple #[(.pointer p1), (.int .i64 n10), (.int .i64 n11)]) ∧
 K (.tuple #[(.pointer p1), (.int .i64 n10), (.int .i64 n11)]) w2
def rRun_ann : List (Nat × Live) := []
theorem rRun_ok {b1 : Nat} {n1 : Int} {n2 : Int} {n3 : Int} {n4 : Int} {n5 : Int} {w : World} {K : Value → World → Prop} (h : rRun b1 n1 n2 n3 n4 n5 w K) : Calls Tryz.prog 7 #[(.pointer (some ⟨b1, 0, none⟩)), (.agg #[(.int .i64 n1), (.int .i64 n2), (.int .i64 n3), (.int .i64 n4)]), (.int .i64 n5)] w fun e w' => ∃ v, e = .returned v ∧ K v w' :=
  calls_sh (annL rRun_ann) Tryz.func7 (by kernel_rfl) (args := [(.pointer (some ⟨b1, 0, none⟩)), (.agg #[(.int .i64 n1), (.int .i64 n2), (.int .i64 n3), (.int .i64 n4)]), (.int .i64 n5)]) (by kernel_rfl) h

-- saleroom/replay.Run
def rRunN (n1 : Int) (n2 : Int) (n3 : Int) (n4 : Int) (n5 : Int) (w : World) (K : Value → World → Prop) : Prop :=
 newK w (.cells #[(.int .i64 n1), (.int .i64 n2), (.int .i64 n3), (.int .i64 n4)] 31) fun r1 w1 =>
 ∃ (n6 : Int) (n7 : Int) (n8 : Int) (n9 : Int),
 cellsAt w1 ⟨r1, 0, none⟩ 0 [(.int .i64 n6), (.int .i64 n7), (.int .i64 n8), (.int .i64 n9)] ∧
 Calls Tryz.prog 13 #[(.pointer none), (.agg #[(.int .i64 n6), (.int .i64 n7), (.int .i64 n8), (.int .i64 n9)]), (.int .i64 n5), (.func (.func 14) #[] #[])] w1 fun e1 w2 => ∃ (p1 : Option Addr) (n10 : Int) (n11 : Int),
 e1 = .returned (.tuple #[(.pointer p1), (.int .i64 n10), (.int .i64 n11)]) ∧
 K (.tuple #[(.pointer p1), (.int .i64 n10), (.int .i64 n11)]) w2
def rRunN_ann : List (Nat × Live) := []
theorem rRunN_ok {n1 : Int} {n2 : Int} {n3 : Int} {n4 : Int} {n5 : Int} {w : World} {K : Value → World → Prop} (h : rRunN n1 n2 n3 n4 n5 w K) : Calls Tryz.prog 7 #[(.pointer none), (.agg #[(.int .i64 n1), (.int .i64 n2), (.int .i64 n3), (.int .i64 n4)]), (.int .i64 n5)] w fun e w' => ∃ v, e = .returned v ∧ K v w' :=
  calls_sh (annL rRunN_ann) Tryz.func7 (by kernel_rfl) (args := [(.pointer none), (.agg #[(.int .i64 n1), (.int .i64 n2), (.int .i64 n3), (.int .i64 n4)]), (.int .i64 n5)]) (by kernel_rfl) h

-- saleroom/replay.Trace
def rTrace (b1 : Nat) (n1 : Int) (n2 : Int) (n3 : Int) (n4 : Int) (w : World) (K : Value → World → Prop) : Prop :=
 newK w (.cells #[(.int .i64 n1), (.int .i64 n2), (.int .i64 n3), (.int .i64 n4)] 31) fun r1 w1 =>
 newK w1 (.cells #[(.slice none 0 0)] 22) fun r2 w2 =>
 ∃ (n5 : Int) (n6 : Int) (n7 : Int) (n8 : Int),
 cellsAt w2.drew ⟨r1, 0, none⟩ 0 [(.int .i64 n5), (.int .i64 n6), (.int .i64 n7), (.int .i64 n8)] ∧
 Calls Tryz.prog 15 #[(.pointer (some ⟨b1, 0, none⟩))] w2.drew fun e1 w3 => ∃ (n9 : Int),
 e1 = .returned (.int .i64 n9) ∧
 cellsAt w3 ⟨r1, 0, none⟩ 0 [(.int .i64 n5), (.int .i64 n6), (.int .i64 n7), (.int .i64 n8)] ∧
 Calls Tryz.prog 13 #[(.pointer (some ⟨b1, 0, none⟩)), (.agg #[(.int .i64 n5), (.int .i64 n6), (.int .i64 n7), (.int .i64 n8)]), (.int .i64 n9), (.func (.func 16) #[] #[(.pointer (some ⟨r2, 0, none⟩))])] w3 fun e2 w4 => ∃ (p1 : Option Addr) (n10 : Int) (n11 : Int),
 e2 = .returned (.tuple #[(.pointer p1), (.int .i64 n10), (.int .i64 n11)]) ∧
 cond (n11 != (0 : Int))
 (K (.tuple #[(.slice none 0 0), (.int .i64 n11)]) w4)
 (∃ (a1 : Option Addr) (l1 c1 : Nat),
  w4.cell? ⟨r2, 0, none⟩ = some (.slice a1 l1 c1) ∧
  K (.tuple #[(.slice a1 l1 c1), (.int .i64 (0 : Int))]) w4)
def rTrace_ann : List (Nat × Live) := []
theorem rTrace_ok {b1 : Nat} {n1 : Int} {n2 : Int} {n3 : Int} {n4 : Int} {w : World} {K : Value → World → Prop} (h : rTrace b1 n1 n2 n3 n4 w K) : Calls Tryz.prog 8 #[(.pointer (some ⟨b1, 0, none⟩)), (.agg #[(.int .i64 n1), (.int .i64 n2), (.int .i64 n3), (.int .i64 n4)])] w fun e w' => ∃ v, e = .returned v ∧ K v w' :=
  calls_sh (annL rTrace_ann) Tryz.func8 (by kernel_rfl) (args := [(.pointer (some ⟨b1, 0, none⟩)), (.agg #[(.int .i64 n1), (.int .i64 n2), (.int .i64 n3), (.int .i64 n4)])]) (by kernel_rfl) h

-- saleroom/replay.Trace
def rTraceN (n1 : Int) (n2 : Int) (n3 : Int) (n4 : Int) (w : World) (K : Value → World → Prop) : Prop :=
 newK w (.cells #[(.int .i64 n1), (.int .i64 n2), (.int .i64 n3), (.int .i64 n4)] 31) fun r1 w1 =>
 newK w1 (.cells #[(.slice none 0 0)] 22) fun r2 w2 =>
 ∃ (n5 : Int) (n6 : Int) (n7 : Int) (n8 : Int),
 cellsAt w2.drew ⟨r1, 0, none⟩ 0 [(.int .i64 n5), (.int .i64 n6), (.int .i64 n7), (.int .i64 n8)] ∧
 Calls Tryz.prog 15 #[(.pointer none)] w2.drew fun e1 w3 => ∃ (n9 : Int),
 e1 = .returned (.int .i64 n9) ∧
 cellsAt w3 ⟨r1, 0, none⟩ 0 [(.int .i64 n5), (.int .i64 n6), (.int .i64 n7), (.int .i64 n8)] ∧
 Calls Tryz.prog 13 #[(.pointer none), (.agg #[(.int .i64 n5), (.int .i64 n6), (.int .i64 n7), (.int .i64 n8)]), (.int .i64 n9), (.func (.func 16) #[] #[(.pointer (some ⟨r2, 0, none⟩))])] w3 fun e2 w4 => ∃ (p1 : Option Addr) (n10 : Int) (n11 : Int),
 e2 = .returned (.tuple #[(.pointer p1), (.int .i64 n10), (.int .i64 n11)]) ∧
 cond (n11 != (0 : Int))
 (K (.tuple #[(.slice none 0 0), (.int .i64 n11)]) w4)
 (∃ (a1 : Option Addr) (l1 c1 : Nat),
  w4.cell? ⟨r2, 0, none⟩ = some (.slice a1 l1 c1) ∧
  K (.tuple #[(.slice a1 l1 c1), (.int .i64 (0 : Int))]) w4)
def rTraceN_ann : List (Nat × Live) := []
theorem rTraceN_ok {n1 : Int} {n2 : Int} {n3 : Int} {n4 : Int} {w : World} {K : Value → World → Prop} (h : rTraceN n1 n2 n3 n4 w K) : Calls Tryz.prog 8 #[(.pointer none), (.agg #[(.int .i64 n1), (.int .i64 n2), (.int .i64 n3), (.int .i64 n4)])] w fun e w' => ∃ v, e = .returned v ∧ K v w' :=
  calls_sh (annL rTraceN_ann) Tryz.func8 (by kernel_rfl) (args := [(.pointer none), (.agg #[(.int .i64 n1), (.int .i64 n2), (.int .i64 n3), (.int .i64 n4)])]) (by kernel_rfl) h

-- saleroom/replay.Round
def rRoundN (n1 : Int) (n2 : Int) (n3 : Int) (n4 : Int) (n5 : Int) (w : World) (K : Value → World → Prop) : Prop :=
 newK w (.cells #[(.int .i64 n1), (.int .i64 n2), (.int .i64 n3), (.int .i64 n4)] 31) fun r1 w1 =>
 newK w1 (.cells #[(.int .i64 (0 : Int)), (.int .i64 (0 : Int)), (.int .i64 (0 : Int)), (.int .i64 (0 : Int)), (.int .i64 (0 : Int)), (.int .i64 (0 : Int)), (.slice none 0 0), (.slice none 0 0), (.slice none 0 0)] 43) fun r2 w2 =>
 ∃ (n6 : Int) (n7 : Int) (n8 : Int) (n9 : Int),
 cellsAt w2.drew ⟨r1, 0, none⟩ 0 [(.int .i64 n6), (.int .i64 n7), (.int .i64 n8), (.int .i64 n9)] ∧
 Calls Tryz.prog 15 #[(.pointer none)] w2.drew fun e1 w3 => ∃ (n10 : Int),
 e1 = .returned (.int .i64 n10) ∧
 cellsAt w3 ⟨r1, 0, none⟩ 0 [(.int .i64 n6), (.int .i64 n7), (.int .i64 n8), (.int .i64 n9)] ∧
 Calls Tryz.prog 7 #[(.pointer none), (.agg #[(.int .i64 n6), (.int .i64 n7), (.int .i64 n8), (.int .i64 n9)]), (.int .i64 n10)] w3 fun e2 w4 => ∃ (p1 : Option Addr) (n11 : Int) (n12 : Int),
 e2 = .returned (.tuple #[(.pointer p1), (.int .i64 n11), (.int .i64 n12)]) ∧
 cond (n12 != (0 : Int))
 (stL ⟨r2, 0, none⟩ 0 [(.int .i64 (0 : Int)), (.int .i64 (0 : Int)), (.int .i64 (0 : Int)), (.int .i64 (0 : Int)), (.int .i64 (0 : Int)), (.int .i64 (0 : Int)), (.slice none 0 0), (.slice none 0 0), (.slice none 0 0)] w4 fun w5 =>
  ∃ (n13 : Int) (n14 : Int) (n15 : Int) (n16 : Int) (n17 : Int) (n18 : Int) (a1 : Option Addr) (l1 c1 : Nat) (a2 : Option Addr) (l2 c2 : Nat) (a3 : Option Addr) (l3 c3 : Nat),
  cellsAt w5 ⟨r2, 0, none⟩ 0 [(.int .i64 n13), (.int .i64 n14), (.int .i64 n15), (.int .i64 n16), (.int .i64 n17), (.int .i64 n18), (.slice a1 l1 c1), (.slice a2 l2 c2), (.slice a3 l3 c3)] ∧
  K (.tuple #[(.agg #[(.int .i64 n13), (.int .i64 n14), (.int .i64 n15), (.int .i64 n16), (.int .i64 n17), (.int .i64 n18), (.slice a1 l1 c1), (.slice a2 l2 c2), (.slice a3 l3 c3)]), (.int .i64 n12)]) w5)
 (Calls Tryz.prog 18 #[(.pointer p1)] w4 fun e3 w6 => ∃ (p2 : Option Addr),
  e3 = .returned (.pointer p2) ∧
  cond (p2).isNone
  (stL ⟨r2, 0, none⟩ 0 [(.int .i64 (0 : Int)), (.int .i64 (0 : Int)), (.int .i64 (0 : Int)), (.int .i64 (0 : Int)), (.int .i64 (0 : Int)), (.int .i64 (0 : Int)), (.slice none 0 0), (.slice none 0 0), (.slice none 0 0)] w6 fun w7 =>
   ∃ (n19 : Int) (n20 : Int) (n21 : Int) (n22 : Int) (n23 : Int) (n24 : Int) (a4 : Option Addr) (l4 c4 : Nat) (a5 : Option Addr) (l5 c5 : Nat) (a6 : Option Addr) (l6 c6 : Nat),
   cellsAt w7 ⟨r2, 0, none⟩ 0 [(.int .i64 n19), (.int .i64 n20), (.int .i64 n21), (.int .i64 n22), (.int .i64 n23), (.int .i64 n24), (.slice a4 l4 c4), (.slice a5 l5 c5), (.slice a6 l6 c6)] ∧
   K (.tuple #[(.agg #[(.int .i64 n19), (.int .i64 n20), (.int .i64 n21), (.int .i64 n22), (.int .i64 n23), (.int .i64 n24), (.slice a4 l4 c4), (.slice a5 l5 c5), (.slice a6 l6 c6)]), (.int .i64 (10 : Int))]) w7)
  (Calls Tryz.prog 19 #[(.pointer p2)] w6 fun e4 w8 => ∃ (a7 : Option Addr) (l7 c7 : Nat),
   e4 = .returned (.slice a7 l7 c7) ∧
   ∃ J1 : Bool → World → Prop, (∀ (w9 : World) (b1 : Bool), J1 b1 w9 → ∀ x1 : Nat → Value,
    cond b1
    (stL ⟨r2, 0, none⟩ 0 [(.int .i64 (0 : Int)), (.int .i64 (0 : Int)), (.int .i64 (0 : Int)), (.int .i64 (0 : Int)), (.int .i64 (0 : Int)), (.int .i64 (0 : Int)), (.slice none 0 0), (.slice none 0 0), (.slice none 0 0)] w9 fun w10 =>
     ∃ (n25 : Int) (n26 : Int) (n27 : Int) (n28 : Int) (n29 : Int) (n30 : Int) (a8 : Option Addr) (l8 c8 : Nat) (a9 : Option Addr) (l9 c9 : Nat) (a10 : Option Addr) (l10 c10 : Nat),
     cellsAt w10 ⟨r2, 0, none⟩ 0 [(.int .i64 n25), (.int .i64 n26), (.int .i64 n27), (.int .i64 n28), (.int .i64 n29), (.int .i64 n30), (.slice a8 l8 c8), (.slice a9 l9 c9), (.slice a10 l10 c10)] ∧
     K (.tuple #[(.agg #[(.int .i64 n25), (.int .i64 n26), (.int .i64 n27), (.int .i64 n28), (.int .i64 n29), (.int .i64 n30), (.slice a8 l8 c8), (.slice a9 l9 c9), (.slice a10 l10 c10)]), (.int .i64 (4 : Int))]) w10)
    (onSome a7 fun q1 =>
     0 ≤ n5 ∧ n5 < ((l7 : Nat) : Int) ∧
     ∃ (n31 : Int) (n32 : Int) (n33 : Int) (n34 : Int) (n35 : Int) (n36 : Int) (a11 : Option Addr) (l11 c11 : Nat) (a12 : Option Addr) (l12 c12 : Nat) (a13 : Option Addr) (l13 c13 : Nat),
     cellsAt w9 (Addr.add q1 ((n5).toNat * 9)) 0 [(.int .i64 n31), (.int .i64 n32), (.int .i64 n33), (.int .i64 n34), (.int .i64 n35), (.int .i64 n36), (.slice a11 l11 c11), (.slice a12 l12 c12), (.slice a13 l13 c13)] ∧
     stL ⟨r2, 0, none⟩ 0 [(.int .i64 n31), (.int .i64 n32), (.int .i64 n33), (.int .i64 n34), (.int .i64 n35), (.int .i64 n36), (.slice a11 l11 c11), (.slice a12 l12 c12), (.slice a13 l13 c13)] w9 fun w11 =>
     ∃ (n37 : Int) (n38 : Int) (n39 : Int) (n40 : Int) (n41 : Int) (n42 : Int) (a14 : Option Addr) (l14 c14 : Nat) (a15 : Option Addr) (l15 c15 : Nat) (a16 : Option Addr) (l16 c16 : Nat),
     cellsAt w11 ⟨r2, 0, none⟩ 0 [(.int .i64 n37), (.int .i64 n38), (.int .i64 n39), (.int .i64 n40), (.int .i64 n41), (.int .i64 n42), (.slice a14 l14 c14), (.slice a15 l15 c15), (.slice a16 l16 c16)] ∧
     K (.tuple #[(.agg #[(.int .i64 n37), (.int .i64 n38), (.int .i64 n39), (.int .i64 n40), (.int .i64 n41), (.int .i64 n42), (.slice a14 l14 c14), (.slice a15 l15 c15), (.slice a16 l16 c16)]), (.int .i64 (0 : Int))]) w11)) ∧
   cond (decide (n5 < (0 : Int)))
   (J1 true w8)
   (J1 (decide (n5 ≥ ((l7 : Nat) : Int))) w8)))
def rRoundN_ann : List (Nat × Live) := [(254, [(40, .s (.bool))])]
theorem rRoundN_ok {n1 : Int} {n2 : Int} {n3 : Int} {n4 : Int} {n5 : Int} {w : World} {K : Value → World → Prop} (h : rRoundN n1 n2 n3 n4 n5 w K) : Calls Tryz.prog 9 #[(.pointer none), (.agg #[(.int .i64 n1), (.int .i64 n2), (.int .i64 n3), (.int .i64 n4)]), (.int .i64 n5)] w fun e w' => ∃ v, e = .returned v ∧ K v w' :=
  calls_sh (annL rRoundN_ann) Tryz.func9 (by kernel_rfl) (args := [(.pointer none), (.agg #[(.int .i64 n1), (.int .i64 n2), (.int .i64 n3), (.int .i64 n4)]), (.int .i64 n5)]) (by kernel_rfl) h

end Go.Proofs.YtcnckiinbfbjkaaGreatDoor

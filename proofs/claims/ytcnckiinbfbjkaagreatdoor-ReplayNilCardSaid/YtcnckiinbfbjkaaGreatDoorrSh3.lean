/- What each function of the seat comes to, printed by program (sh.py); the kernel holds each print against the loaded code. -/
import Derived.Test.YtcnckiinbfbjkaaGreatDoorVc5
import Derived.Test.YtcnckiinbfbjkaaGreatDoorProg
import Derived.KernelRfl
set_option linter.unusedVariables false
namespace Go.Proofs.YtcnckiinbfbjkaaGreatDoor
open Go Go.Vc
-- saleroom/saleroomlaw47.equal
def lequal (n1 : Int) (n2 : Int) (n3 : Int) (n4 : Int) (n5 : Int) (n6 : Int) (a1 : Option Addr) (l1 c1 : Nat) (a2 : Option Addr) (l2 c2 : Nat) (a3 : Option Addr) (l3 c3 : Nat) (n7 : Int) (n8 : Int) (n9 : Int) (n10 : Int) (n11 : Int) (n12 : Int) (a4 : Option Addr) (l4 c4 : Nat) (a5 : Option Addr) (l5 c5 : Nat) (a6 : Option Addr) (l6 c6 : Nat) (w : World) (K : Value → World → Prop) : Prop :=
 newK w (.cells #[(.int .i64 n1), (.int .i64 n2), (.int .i64 n3), (.int .i64 n4), (.int .i64 n5), (.int .i64 n6), (.slice a1 l1 c1), (.slice a2 l2 c2), (.slice a3 l3 c3)] 43) fun r1 w1 =>
 newK w1 (.cells #[(.int .i64 n7), (.int .i64 n8), (.int .i64 n9), (.int .i64 n10), (.int .i64 n11), (.int .i64 n12), (.slice a4 l4 c4), (.slice a5 l5 c5), (.slice a6 l6 c6)] 43) fun r2 w2 =>
 ∃ J1 : Bool → World → Prop, (∀ (w3 : World) (b1 : Bool), J1 b1 w3 → ∀ x1 : Nat → Value,
  cond b1
  (K (.bool false) w3)
  (∃ I1 : Int → World → Nat → Prop, (∃ m1, I1 (0 : Int) w3 m1) ∧
   ∀ (w4 : World) (m1 : Nat) (n13 : Int), I1 n13 w4 m1 → ∀ x2 : Nat → Value,
   ∃ (a7 : Option Addr) (l7 c7 : Nat),
   w4.cell? ⟨r1, 6, none⟩ = some (.slice a7 l7 c7) ∧
   cond (decide (n13 < ((l7 : Nat) : Int)))
   (∃ (a8 : Option Addr) (l8 c8 : Nat),
    w4.drew.cell? ⟨r1, 6, none⟩ = some (.slice a8 l8 c8) ∧
    onSome a8 fun q1 =>
    0 ≤ n13 ∧ n13 < ((l8 : Nat) : Int) ∧
    ∃ (n14 : Int) (n15 : Int) (n16 : Int) (n17 : Int) (n18 : Int) (n19 : Int),
    cellsAt w4.drew (Addr.add q1 ((n13).toNat * 6)) 0 [(.int .i64 n14), (.int .i64 n15), (.int .i64 n16), (.int .i64 n17), (.int .i64 n18), (.int .i64 n19)] ∧
    ∃ (a9 : Option Addr) (l9 c9 : Nat),
    w4.drew.cell? ⟨r2, 6, none⟩ = some (.slice a9 l9 c9) ∧
    onSome a9 fun q2 =>
    0 ≤ n13 ∧ n13 < ((l9 : Nat) : Int) ∧
    ∃ (n20 : Int) (n21 : Int) (n22 : Int) (n23 : Int) (n24 : Int) (n25 : Int),
    cellsAt w4.drew (Addr.add q2 ((n13).toNat * 6)) 0 [(.int .i64 n20), (.int .i64 n21), (.int .i64 n22), (.int .i64 n23), (.int .i64 n24), (.int .i64 n25)] ∧
    cond (!((n14 == n20) && ((n15 == n21) && ((n16 == n22) && ((n17 == n23) && ((n18 == n24) && ((n19 == n25) && true)))))))
    (K (.bool false) w4.drew)
    (∃ m2, m2 < m1 ∧ I1 (IntKind.i64.wrap (n13 + (1 : Int))) w4.drew m2))
   (∃ I2 : Int → World → Nat → Prop, (∃ m3, I2 (0 : Int) w4 m3) ∧
    ∀ (w5 : World) (m3 : Nat) (n26 : Int), I2 n26 w5 m3 → ∀ x3 : Nat → Value,
    ∃ (a10 : Option Addr) (l10 c10 : Nat),
    w5.cell? ⟨r1, 7, none⟩ = some (.slice a10 l10 c10) ∧
    cond (decide (n26 < ((l10 : Nat) : Int)))
    (∃ (a11 : Option Addr) (l11 c11 : Nat),
     w5.drew.cell? ⟨r1, 7, none⟩ = some (.slice a11 l11 c11) ∧
     onSome a11 fun q3 =>
     0 ≤ n26 ∧ n26 < ((l11 : Nat) : Int) ∧
     ∃ (n27 : Int) (n28 : Int) (n29 : Int) (n30 : Int) (n31 : Int) (n32 : Int),
     cellsAt w5.drew (Addr.add q3 ((n26).toNat * 6)) 0 [(.int .i64 n27), (.int .i64 n28), (.int .i64 n29), (.int .i64 n30), (.int .i64 n31), (.int .i64 n32)] ∧
     ∃ (a12 : Option Addr) (l12 c12 : Nat),
     w5.drew.cell? ⟨r2, 7, none⟩ = some (.slice a12 l12 c12) ∧
     onSome a12 fun q4 =>
     0 ≤ n26 ∧ n26 < ((l12 : Nat) : Int) ∧
     ∃ (n33 : Int) (n34 : Int) (n35 : Int) (n36 : Int) (n37 : Int) (n38 : Int),
     cellsAt w5.drew (Addr.add q4 ((n26).toNat * 6)) 0 [(.int .i64 n33), (.int .i64 n34), (.int .i64 n35), (.int .i64 n36), (.int .i64 n37), (.int .i64 n38)] ∧
     cond (!((n27 == n33) && ((n28 == n34) && ((n29 == n35) && ((n30 == n36) && ((n31 == n37) && ((n32 == n38) && true)))))))
     (K (.bool false) w5.drew)
     (∃ m4, m4 < m3 ∧ I2 (IntKind.i64.wrap (n26 + (1 : Int))) w5.drew m4))
    (∃ I3 : Int → World → Nat → Prop, (∃ m5, I3 (0 : Int) w5 m5) ∧
     ∀ (w6 : World) (m5 : Nat) (n39 : Int), I3 n39 w6 m5 → ∀ x4 : Nat → Value,
     ∃ (a13 : Option Addr) (l13 c13 : Nat),
     w6.cell? ⟨r1, 8, none⟩ = some (.slice a13 l13 c13) ∧
     cond (decide (n39 < ((l13 : Nat) : Int)))
     (∃ (a14 : Option Addr) (l14 c14 : Nat),
      w6.drew.cell? ⟨r1, 8, none⟩ = some (.slice a14 l14 c14) ∧
      onSome a14 fun q5 =>
      0 ≤ n39 ∧ n39 < ((l14 : Nat) : Int) ∧
      ∃ (b2 : Bool),
      w6.drew.cell? (Addr.add q5 ((n39).toNat * 1)) = some (.bool b2) ∧
      ∃ (a15 : Option Addr) (l15 c15 : Nat),
      w6.drew.cell? ⟨r2, 8, none⟩ = some (.slice a15 l15 c15) ∧
      onSome a15 fun q6 =>
      0 ≤ n39 ∧ n39 < ((l15 : Nat) : Int) ∧
      ∃ (b3 : Bool),
      w6.drew.cell? (Addr.add q6 ((n39).toNat * 1)) = some (.bool b3) ∧
      cond (!(b2 == b3))
      (K (.bool false) w6.drew)
      (∃ m6, m6 < m5 ∧ I3 (IntKind.i64.wrap (n39 + (1 : Int))) w6.drew m6))
     (K (.bool true) w6))))) ∧
 ∃ (n40 : Int) (n41 : Int) (n42 : Int) (n43 : Int) (n44 : Int) (n45 : Int),
 cellsAt w2 ⟨r1, 0, none⟩ 0 [(.int .i64 n40), (.int .i64 n41), (.int .i64 n42), (.int .i64 n43), (.int .i64 n44), (.int .i64 n45)] ∧
 ∃ (n46 : Int) (n47 : Int) (n48 : Int) (n49 : Int) (n50 : Int) (n51 : Int),
 cellsAt w2 ⟨r2, 0, none⟩ 0 [(.int .i64 n46), (.int .i64 n47), (.int .i64 n48), (.int .i64 n49), (.int .i64 n50), (.int .i64 n51)] ∧
 cond (!((n40 == n46) && ((n41 == n47) && ((n42 == n48) && ((n43 == n49) && ((n44 == n50) && ((n45 == n51) && true)))))))
 (J1 true w2)
 (∃ (a16 : Option Addr) (l16 c16 : Nat),
  w2.cell? ⟨r1, 6, none⟩ = some (.slice a16 l16 c16) ∧
  ∃ (a17 : Option Addr) (l17 c17 : Nat),
  w2.cell? ⟨r2, 6, none⟩ = some (.slice a17 l17 c17) ∧
  cond (((l16 : Nat) : Int) != ((l17 : Nat) : Int))
  (J1 true w2)
  (∃ (a18 : Option Addr) (l18 c18 : Nat),
   w2.cell? ⟨r1, 7, none⟩ = some (.slice a18 l18 c18) ∧
   ∃ (a19 : Option Addr) (l19 c19 : Nat),
   w2.cell? ⟨r2, 7, none⟩ = some (.slice a19 l19 c19) ∧
   cond (((l18 : Nat) : Int) != ((l19 : Nat) : Int))
   (J1 true w2)
   (∃ (a20 : Option Addr) (l20 c20 : Nat),
    w2.cell? ⟨r1, 8, none⟩ = some (.slice a20 l20 c20) ∧
    ∃ (a21 : Option Addr) (l21 c21 : Nat),
    w2.cell? ⟨r2, 8, none⟩ = some (.slice a21 l21 c21) ∧
    J1 (((l20 : Nat) : Int) != ((l21 : Nat) : Int)) w2)))
def lequal_ann : List (Nat × Live) := [(6, [(39, .s (.bool))]), (58, [(5, .s (.int .i64))]), (122, [(6, .s (.int .i64))]), (250, [(7, .s (.int .i64))])]
theorem lequal_ok {n1 : Int} {n2 : Int} {n3 : Int} {n4 : Int} {n5 : Int} {n6 : Int} {a1 : Option Addr} {l1 c1 : Nat} {a2 : Option Addr} {l2 c2 : Nat} {a3 : Option Addr} {l3 c3 : Nat} {n7 : Int} {n8 : Int} {n9 : Int} {n10 : Int} {n11 : Int} {n12 : Int} {a4 : Option Addr} {l4 c4 : Nat} {a5 : Option Addr} {l5 c5 : Nat} {a6 : Option Addr} {l6 c6 : Nat} {w : World} {K : Value → World → Prop} (h : lequal n1 n2 n3 n4 n5 n6 a1 l1 c1 a2 l2 c2 a3 l3 c3 n7 n8 n9 n10 n11 n12 a4 l4 c4 a5 l5 c5 a6 l6 c6 w K) : Calls Tryz.prog 10 #[(.agg #[(.int .i64 n1), (.int .i64 n2), (.int .i64 n3), (.int .i64 n4), (.int .i64 n5), (.int .i64 n6), (.slice a1 l1 c1), (.slice a2 l2 c2), (.slice a3 l3 c3)]), (.agg #[(.int .i64 n7), (.int .i64 n8), (.int .i64 n9), (.int .i64 n10), (.int .i64 n11), (.int .i64 n12), (.slice a4 l4 c4), (.slice a5 l5 c5), (.slice a6 l6 c6)])] w fun e w' => ∃ v, e = .returned v ∧ K v w' :=
  calls_sh (annL lequal_ann) Tryz.func10 (by kernel_rfl) (args := [(.agg #[(.int .i64 n1), (.int .i64 n2), (.int .i64 n3), (.int .i64 n4), (.int .i64 n5), (.int .i64 n6), (.slice a1 l1 c1), (.slice a2 l2 c2), (.slice a3 l3 c3)]), (.agg #[(.int .i64 n7), (.int .i64 n8), (.int .i64 n9), (.int .i64 n10), (.int .i64 n11), (.int .i64 n12), (.slice a4 l4 c4), (.slice a5 l5 c5), (.slice a6 l6 c6)])]) (by kernel_rfl) h

-- saleroom/saleroomlaw47.stored
def lstored  (w : World) (K : Value → World → Prop) : Prop :=
 Calls Tryz.prog 20 #[(.int .i64 (262144 : Int))] w fun e1 w1 => ∃ (p1 : Option Addr) (n1 : Int),
 e1 = .returned (.tuple #[(.pointer p1), (.int .i64 n1)]) ∧
 ∃ J1 : Bool → World → Prop, (∀ (w2 : World) (b1 : Bool), J1 b1 w2 → ∀ x1 : Nat → Value,
  cond b1
  (K (.pointer none) w2)
  (Calls Tryz.prog 21 #[(.pointer p1)] w2 fun e2 w3 => ∃ (p2 : Option Addr) (n2 : Int),
   e2 = .returned (.tuple #[(.pointer p2), (.int .i64 n2)]) ∧
   ∃ J2 : Bool → World → Prop, (∀ (w4 : World) (b2 : Bool), J2 b2 w4 → ∀ x2 : Nat → Value,
    cond b2
    (K (.pointer none) w4)
    (∃ I1 : Int → World → Nat → Prop, (∃ m1, I1 (0 : Int) w4 m1) ∧
     ∀ (w5 : World) (m1 : Nat) (n3 : Int), I1 n3 w5 m1 → ∀ x3 : Nat → Value,
     cond (decide (n3 < ((0 : Nat) : Int)))
     (False)
     (K (.pointer p2) w5))) ∧
   cond (n2 != (0 : Int))
   (J2 true w3)
   (J2 (p2).isNone w3))) ∧
 cond (n1 != (0 : Int))
 (J1 true w1)
 (J1 (p1).isNone w1)
def lstored_ann : List (Nat × Live) := [(14, [(19, .s (.bool))]), (62, [(30, .s (.bool))]), (506, [(7, .s (.int .i64))])]
theorem lstored_ok {w : World} {K : Value → World → Prop} (h : lstored w K) : Calls Tryz.prog 11 #[(.slice none 0 0)] w fun e w' => ∃ v, e = .returned v ∧ K v w' :=
  calls_sh (annL lstored_ann) Tryz.func11 (by kernel_rfl) (args := [(.slice none 0 0)]) (by kernel_rfl) h

-- saleroom/saleroomlaw47.lives
def llives  (w : World) (K : Value → World → Prop) : Prop :=
 newK w (.cells #[(.int .u64 (0 : Int)), (.int .u64 (5 : Int)), (.int .u64 (6 : Int))] 24) fun r1 w1 =>
 newK w1 (.cells #[(.int .u64 (0 : Int)), (.int .u64 (5 : Int)), (.int .u64 (7 : Int)), (.int .u64 (8 : Int))] 24) fun r2 w2 =>
 Calls Tryz.prog 6 #[(.slice (some ⟨r1, 0, none⟩) 3 3), (.slice (some ⟨r2, 0, none⟩) 4 4)] w2 fun e1 w3 => ∃ (n1 : Int) (n2 : Int) (n3 : Int) (b1 : Bool),
 e1 = .returned (.tuple #[(.agg #[(.int .i64 n1), (.int .u64 n2), (.int .u64 n3)]), (.bool b1)]) ∧
 newK w3 (.cells #[(.int .i64 (0 : Int)), (.int .u64 (0 : Int)), (.int .u64 (0 : Int))] 26) fun r3 w4 =>
 stL ⟨r3, 0, none⟩ 0 [(.int .i64 n1), (.int .u64 n2), (.int .u64 n3)] w4 fun w5 =>
 newK w5 (.cells #[(.int .u64 (0 : Int)), (.int .u64 (5 : Int))] 24) fun r4 w6 =>
 newK w6 (.cells #[(.int .u64 (0 : Int)), (.int .u64 (5 : Int)), (.int .u64 (7 : Int))] 24) fun r5 w7 =>
 Calls Tryz.prog 6 #[(.slice (some ⟨r4, 0, none⟩) 2 2), (.slice (some ⟨r5, 0, none⟩) 3 3)] w7 fun e2 w8 => ∃ (n4 : Int) (n5 : Int) (n6 : Int) (b2 : Bool),
 e2 = .returned (.tuple #[(.agg #[(.int .i64 n4), (.int .u64 n5), (.int .u64 n6)]), (.bool b2)]) ∧
 newK w8 (.cells #[(.int .i64 (0 : Int)), (.int .u64 (0 : Int)), (.int .u64 (0 : Int))] 26) fun r6 w9 =>
 stL ⟨r6, 0, none⟩ 0 [(.int .i64 n4), (.int .u64 n5), (.int .u64 n6)] w9 fun w10 =>
 Calls Tryz.prog 11 #[(.slice none 0 0)] w10 fun e3 w11 => ∃ (p1 : Option Addr),
 e3 = .returned (.pointer p1) ∧
 cond (p1).isNone
 (K (.bool false) w11)
 (Calls Tryz.prog 7 #[(.pointer p1), (.agg #[(.int .i64 (0 : Int)), (.int .i64 (0 : Int)), (.int .i64 (0 : Int)), (.int .i64 (0 : Int))]), (.int .i64 (3 : Int))] w11 fun e4 w12 => ∃ (p2 : Option Addr) (n7 : Int) (n8 : Int),
  e4 = .returned (.tuple #[(.pointer p2), (.int .i64 n7), (.int .i64 n8)]) ∧
  Calls Tryz.prog 8 #[(.pointer p1), (.agg #[(.int .i64 (0 : Int)), (.int .i64 (0 : Int)), (.int .i64 (0 : Int)), (.int .i64 (0 : Int))])] w12 fun e5 w13 => ∃ (a1 : Option Addr) (l1 c1 : Nat) (n9 : Int),
  e5 = .returned (.tuple #[(.slice a1 l1 c1), (.int .i64 n9)]) ∧
  cond b1
  (∃ (n10 : Int) (n11 : Int) (n12 : Int),
   cellsAt w13 ⟨r3, 0, none⟩ 0 [(.int .i64 n10), (.int .u64 n11), (.int .u64 n12)] ∧
   cond ((n10 == (2 : Int)) && ((n11 == (6 : Int)) && ((n12 == (7 : Int)) && true)))
   (cond b2
    (∃ (n13 : Int) (n14 : Int) (n15 : Int),
     cellsAt w13 ⟨r6, 0, none⟩ 0 [(.int .i64 n13), (.int .u64 n14), (.int .u64 n15)] ∧
     cond ((n13 == (2 : Int)) && ((n14 == (0 : Int)) && ((n15 == (7 : Int)) && true)))
     (cond (n8 == (0 : Int))
      (cond (!(p2).isNone)
       (cond (n7 == (0 : Int))
        (cond (n9 == (0 : Int))
         (cond (((l1 : Nat) : Int) == (1 : Int))
          (onSome a1 fun q1 =>
           0 ≤ (0 : Int) ∧ (0 : Int) < ((l1 : Nat) : Int) ∧
           ∃ (n16 : Int),
           w13.cell? (Addr.add q1 (((0 : Int)).toNat * 1)) = some (.int .u64 n16) ∧
           K (.bool (n16 == (0 : Int))) w13)
          (K (.bool false) w13))
         (K (.bool false) w13))
        (K (.bool false) w13))
       (K (.bool false) w13))
      (K (.bool false) w13))
     (K (.bool false) w13))
    (K (.bool false) w13))
   (K (.bool false) w13))
  (K (.bool false) w13))
def llives_ann : List (Nat × Live) := []
theorem llives_ok {w : World} {K : Value → World → Prop} (h : llives w K) : Calls Tryz.prog 5 #[] w fun e w' => ∃ v, e = .returned v ∧ K v w' :=
  calls_sh (annL llives_ann) Tryz.func5 (by kernel_rfl) (args := []) (by kernel_rfl) h

-- saleroom/saleroomlaw47.ReplayCompares
def lCompares (a1 : Option Addr) (l1 c1 : Nat) (a2 : Option Addr) (l2 c2 : Nat) (w : World) (K : Value → World → Prop) : Prop :=
 ∃ J1 : Bool → World → Prop, (∀ (w1 : World) (b1 : Bool), J1 b1 w1 → ∀ x1 : Nat → Value,
  cond b1
  (Calls Tryz.prog 5 #[] w1 fun e1 w2 => ∃ (b2 : Bool),
   e1 = .returned (.bool b2) ∧
   K (.bool b2) w2)
  (Calls Tryz.prog 6 #[(.slice a1 l1 c1), (.slice a2 l2 c2)] w1 fun e2 w3 => ∃ (n1 : Int) (n2 : Int) (n3 : Int) (b3 : Bool),
   e2 = .returned (.tuple #[(.agg #[(.int .i64 n1), (.int .u64 n2), (.int .u64 n3)]), (.bool b3)]) ∧
   newK w3 (.cells #[(.int .i64 (0 : Int)), (.int .u64 (0 : Int)), (.int .u64 (0 : Int))] 26) fun r1 w4 =>
   stL ⟨r1, 0, none⟩ 0 [(.int .i64 n1), (.int .u64 n2), (.int .u64 n3)] w4 fun w5 =>
   ∃ I1 : Int → World → Nat → Prop, (∃ m1, I1 (0 : Int) w5 m1) ∧
   ∀ (w6 : World) (m1 : Nat) (n4 : Int), I1 n4 w6 m1 → ∀ x2 : Nat → Value,
   ∃ J2 : Bool → World → Prop, (∀ (w7 : World) (b4 : Bool), J2 b4 w7 → ∀ x3 : Nat → Value,
    cond b4
    (∃ J3 : Int → World → Prop, (∀ (w8 : World) (n5 : Int), J3 n5 w8 → ∀ x4 : Nat → Value,
      ∃ J4 : Int → World → Prop, (∀ (w9 : World) (n6 : Int), J4 n6 w9 → ∀ x5 : Nat → Value,
       ∃ J5 : Bool → World → Prop, (∀ (w10 : World) (b5 : Bool), J5 b5 w10 → ∀ x6 : Nat → Value,
        cond b5
        (cond b3
         (∃ (n7 : Int) (n8 : Int) (n9 : Int),
          cellsAt w10 ⟨r1, 0, none⟩ 0 [(.int .i64 n7), (.int .u64 n8), (.int .u64 n9)] ∧
          cond ((n7 == n4) && ((n8 == n5) && ((n9 == n6) && true)))
          (Calls Tryz.prog 5 #[] w10 fun e3 w11 => ∃ (b6 : Bool),
           e3 = .returned (.bool b6) ∧
           K (.bool b6) w11)
          (K (.bool false) w10))
         (K (.bool false) w10))
        (∃ m2, m2 < m1 ∧ I1 (IntKind.i64.wrap (n4 + (1 : Int))) w10 m2)) ∧
       cond (n5 != n6)
       (J5 true w9)
       (cond (decide (n4 ≥ ((l1 : Nat) : Int)))
        (J5 true w9)
        (J5 (decide (n4 ≥ ((l2 : Nat) : Int))) w9))) ∧
      cond (decide (n4 < ((l2 : Nat) : Int)))
      (onSome a2 fun q1 =>
       0 ≤ n4 ∧ n4 < ((l2 : Nat) : Int) ∧
       ∃ (n10 : Int),
       w8.cell? (Addr.add q1 ((n4).toNat * 1)) = some (.int .u64 n10) ∧
       J4 n10 w8)
      (J4 (0 : Int) w8)) ∧
     cond (decide (n4 < ((l1 : Nat) : Int)))
     (onSome a1 fun q2 =>
      0 ≤ n4 ∧ n4 < ((l1 : Nat) : Int) ∧
      ∃ (n11 : Int),
      w7.cell? (Addr.add q2 ((n4).toNat * 1)) = some (.int .u64 n11) ∧
      J3 n11 w7)
     (J3 (0 : Int) w7))
    (cond (!b3)
     (∃ (n12 : Int) (n13 : Int) (n14 : Int),
      cellsAt w7 ⟨r1, 0, none⟩ 0 [(.int .i64 n12), (.int .u64 n13), (.int .u64 n14)] ∧
      cond ((n12 == (0 : Int)) && ((n13 == (0 : Int)) && ((n14 == (0 : Int)) && true)))
      (Calls Tryz.prog 5 #[] w7 fun e4 w12 => ∃ (b7 : Bool),
       e4 = .returned (.bool b7) ∧
       K (.bool b7) w12)
      (K (.bool false) w7))
     (K (.bool false) w7))) ∧
   cond (decide (n4 < ((l1 : Nat) : Int)))
   (J2 true w6)
   (J2 (decide (n4 < ((l2 : Nat) : Int))) w6))) ∧
 cond (decide (((l1 : Nat) : Int) > (100 : Int)))
 (J1 true w)
 (J1 (decide (((l2 : Nat) : Int) > (100 : Int))) w)
def lCompares_ann : List (Nat × Live) := [(6, [(17, .s (.bool))]), (122, [(7, .s (.int .i64))]), (488, [(34, .s (.bool))]), (3913, [(8, .s (.int .u64))]), (7827, [(9, .s (.int .u64))]), (15655, [(67, .s (.bool))])]
theorem lCompares_ok {a1 : Option Addr} {l1 c1 : Nat} {a2 : Option Addr} {l2 c2 : Nat} {w : World} {K : Value → World → Prop} (h : lCompares a1 l1 c1 a2 l2 c2 w K) : Calls Tryz.prog 3 #[(.slice a1 l1 c1), (.slice a2 l2 c2)] w fun e w' => ∃ v, e = .returned v ∧ K v w' :=
  calls_sh (annL lCompares_ann) Tryz.func3 (by kernel_rfl) (args := [(.slice a1 l1 c1), (.slice a2 l2 c2)]) (by kernel_rfl) h

-- saleroom/saleroomlaw47.ReplayNil
def lNil (n1 : Int) (n2 : Int) (n3 : Int) (n4 : Int) (n5 : Int) (w : World) (K : Value → World → Prop) : Prop :=
 newK w (.cells #[(.int .i64 n1), (.int .i64 n2), (.int .i64 n3), (.int .i64 n4)] 31) fun r1 w1 =>
 ∃ (n6 : Int) (n7 : Int) (n8 : Int) (n9 : Int),
 cellsAt w1 ⟨r1, 0, none⟩ 0 [(.int .i64 n6), (.int .i64 n7), (.int .i64 n8), (.int .i64 n9)] ∧
 Calls Tryz.prog 7 #[(.pointer none), (.agg #[(.int .i64 n6), (.int .i64 n7), (.int .i64 n8), (.int .i64 n9)]), (.int .i64 n5)] w1 fun e1 w2 => ∃ (p1 : Option Addr) (n10 : Int) (n11 : Int),
 e1 = .returned (.tuple #[(.pointer p1), (.int .i64 n10), (.int .i64 n11)]) ∧
 ∃ (n12 : Int) (n13 : Int) (n14 : Int) (n15 : Int),
 cellsAt w2 ⟨r1, 0, none⟩ 0 [(.int .i64 n12), (.int .i64 n13), (.int .i64 n14), (.int .i64 n15)] ∧
 Calls Tryz.prog 8 #[(.pointer none), (.agg #[(.int .i64 n12), (.int .i64 n13), (.int .i64 n14), (.int .i64 n15)])] w2 fun e2 w3 => ∃ (a1 : Option Addr) (l1 c1 : Nat) (n16 : Int),
 e2 = .returned (.tuple #[(.slice a1 l1 c1), (.int .i64 n16)]) ∧
 ∃ (n17 : Int) (n18 : Int) (n19 : Int) (n20 : Int),
 cellsAt w3 ⟨r1, 0, none⟩ 0 [(.int .i64 n17), (.int .i64 n18), (.int .i64 n19), (.int .i64 n20)] ∧
 Calls Tryz.prog 9 #[(.pointer none), (.agg #[(.int .i64 n17), (.int .i64 n18), (.int .i64 n19), (.int .i64 n20)]), (.int .i64 n5)] w3 fun e3 w4 => ∃ (n21 : Int) (n22 : Int) (n23 : Int) (n24 : Int) (n25 : Int) (n26 : Int) (a2 : Option Addr) (l2 c2 : Nat) (a3 : Option Addr) (l3 c3 : Nat) (a4 : Option Addr) (l4 c4 : Nat) (n27 : Int),
 e3 = .returned (.tuple #[(.agg #[(.int .i64 n21), (.int .i64 n22), (.int .i64 n23), (.int .i64 n24), (.int .i64 n25), (.int .i64 n26), (.slice a2 l2 c2), (.slice a3 l3 c3), (.slice a4 l4 c4)]), (.int .i64 n27)]) ∧
 newK w4 (.cells #[(.int .i64 (0 : Int)), (.int .i64 (0 : Int)), (.int .i64 (0 : Int)), (.int .i64 (0 : Int)), (.int .i64 (0 : Int)), (.int .i64 (0 : Int)), (.slice none 0 0), (.slice none 0 0), (.slice none 0 0)] 43) fun r2 w5 =>
 stL ⟨r2, 0, none⟩ 0 [(.int .i64 n21), (.int .i64 n22), (.int .i64 n23), (.int .i64 n24), (.int .i64 n25), (.int .i64 n26), (.slice a2 l2 c2), (.slice a3 l3 c3), (.slice a4 l4 c4)] w5 fun w6 =>
 cond (p1).isNone
 (cond (n10 == (0 : Int))
  (cond (n11 == (6 : Int))
   (cond (((l1 : Nat) : Int) == (0 : Int))
    (cond (n16 == (6 : Int))
     (∃ (n28 : Int) (n29 : Int) (n30 : Int) (n31 : Int) (n32 : Int) (n33 : Int) (a5 : Option Addr) (l5 c5 : Nat) (a6 : Option Addr) (l6 c6 : Nat) (a7 : Option Addr) (l7 c7 : Nat),
      cellsAt w6 ⟨r2, 0, none⟩ 0 [(.int .i64 n28), (.int .i64 n29), (.int .i64 n30), (.int .i64 n31), (.int .i64 n32), (.int .i64 n33), (.slice a5 l5 c5), (.slice a6 l6 c6), (.slice a7 l7 c7)] ∧
      Calls Tryz.prog 10 #[(.agg #[(.int .i64 n28), (.int .i64 n29), (.int .i64 n30), (.int .i64 n31), (.int .i64 n32), (.int .i64 n33), (.slice a5 l5 c5), (.slice a6 l6 c6), (.slice a7 l7 c7)]), (.agg #[(.int .i64 (0 : Int)), (.int .i64 (0 : Int)), (.int .i64 (0 : Int)), (.int .i64 (0 : Int)), (.int .i64 (0 : Int)), (.int .i64 (0 : Int)), (.slice none 0 0), (.slice none 0 0), (.slice none 0 0)])] w6 fun e4 w7 => ∃ (b1 : Bool),
      e4 = .returned (.bool b1) ∧
      cond b1
      (cond (n27 == (6 : Int))
       (Calls Tryz.prog 5 #[] w7 fun e5 w8 => ∃ (b2 : Bool),
        e5 = .returned (.bool b2) ∧
        K (.bool b2) w8)
       (K (.bool false) w7))
      (K (.bool false) w7))
     (K (.bool false) w6))
    (K (.bool false) w6))
   (K (.bool false) w6))
  (K (.bool false) w6))
 (K (.bool false) w6)
def lNil_ann : List (Nat × Live) := []
theorem lNil_ok {n1 : Int} {n2 : Int} {n3 : Int} {n4 : Int} {n5 : Int} {w : World} {K : Value → World → Prop} (h : lNil n1 n2 n3 n4 n5 w K) : Calls Tryz.prog 4 #[(.agg #[(.int .i64 n1), (.int .i64 n2), (.int .i64 n3), (.int .i64 n4)]), (.int .i64 n5)] w fun e w' => ∃ v, e = .returned v ∧ K v w' :=
  calls_sh (annL lNil_ann) Tryz.func4 (by kernel_rfl) (args := [(.agg #[(.int .i64 n1), (.int .i64 n2), (.int .i64 n3), (.int .i64 n4)]), (.int .i64 n5)]) (by kernel_rfl) h

end Go.Proofs.YtcnckiinbfbjkaaGreatDoor

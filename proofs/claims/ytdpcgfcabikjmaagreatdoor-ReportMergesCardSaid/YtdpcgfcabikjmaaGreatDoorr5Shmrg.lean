/- What each function of the seat comes to, printed by program (sh.py); the kernel holds each print against the loaded code. -/
import Derived.Test.YtdpcgfcabikjmaaGreatDoorVc5
import Derived.Test.YtdpcgfcabikjmaaGreatDoorProg
import Derived.KernelRfl
set_option linter.unusedVariables false
set_option maxRecDepth 20000
namespace Go.Proofs.YtdpcgfcabikjmaaGreatDoor
open Go Go.Vc
-- saleroom/report.joined[saleroom/api.Prices]
def rJoinP (a1 : Option Addr) (l1 c1 : Nat) (a2 : Option Addr) (l2 c2 : Nat) (w : World) (K : Value → World → Prop) : Prop :=
 rnS Tryz.prog (Builtin.append_ #[23, 23] 23 #[(.slice none 0 0), (.slice a1 l1 c1)]) w fun e1 w1 => ∃ (a3 : Option Addr) (l3 c3 : Nat),
 e1 = (.slice a3 l3 c3) ∧
 rnS Tryz.prog (Builtin.append_ #[23, 23] 23 #[(.slice a3 l3 c3), (.slice a2 l2 c2)]) w1 fun e2 w2 => ∃ (a4 : Option Addr) (l4 c4 : Nat),
 e2 = (.slice a4 l4 c4) ∧
 K (.slice a4 l4 c4) w2
def rJoinP_ann : List (Nat × Live) := []
theorem rJoinP_ok {a1 : Option Addr} {l1 c1 : Nat} {a2 : Option Addr} {l2 c2 : Nat} {w : World} {K : Value → World → Prop} (h : rJoinP a1 l1 c1 a2 l2 c2 w K) : Calls Tryz.prog 26 #[(.slice a1 l1 c1), (.slice a2 l2 c2)] w fun e w' => ∃ v, e = .returned v ∧ K v w' :=
  calls_sh (annL rJoinP_ann) Tryz.func26 (by kernel_rfl) (args := [(.slice a1 l1 c1), (.slice a2 l2 c2)]) (by kernel_rfl) h

-- saleroom/report.joined[int]
def rJoinI (a1 : Option Addr) (l1 c1 : Nat) (a2 : Option Addr) (l2 c2 : Nat) (w : World) (K : Value → World → Prop) : Prop :=
 rnS Tryz.prog (Builtin.append_ #[25, 25] 25 #[(.slice none 0 0), (.slice a1 l1 c1)]) w fun e1 w1 => ∃ (a3 : Option Addr) (l3 c3 : Nat),
 e1 = (.slice a3 l3 c3) ∧
 rnS Tryz.prog (Builtin.append_ #[25, 25] 25 #[(.slice a3 l3 c3), (.slice a2 l2 c2)]) w1 fun e2 w2 => ∃ (a4 : Option Addr) (l4 c4 : Nat),
 e2 = (.slice a4 l4 c4) ∧
 K (.slice a4 l4 c4) w2
def rJoinI_ann : List (Nat × Live) := []
theorem rJoinI_ok {a1 : Option Addr} {l1 c1 : Nat} {a2 : Option Addr} {l2 c2 : Nat} {w : World} {K : Value → World → Prop} (h : rJoinI a1 l1 c1 a2 l2 c2 w K) : Calls Tryz.prog 27 #[(.slice a1 l1 c1), (.slice a2 l2 c2)] w fun e w' => ∃ v, e = .returned v ∧ K v w' :=
  calls_sh (annL rJoinI_ann) Tryz.func27 (by kernel_rfl) (args := [(.slice a1 l1 c1), (.slice a2 l2 c2)]) (by kernel_rfl) h

-- saleroom/report.Merge
def rMerge (n1 : Int) (n2 : Int) (n3 : Int) (n4 : Int) (n5 : Int) (n6 : Int) (n7 : Int) (n8 : Int) (n9 : Int) (n10 : Int) (n11 : Int) (n12 : Int) (a1 : Option Addr) (l1 c1 : Nat) (a2 : Option Addr) (l2 c2 : Nat) (a3 : Option Addr) (l3 c3 : Nat) (n13 : Int) (n14 : Int) (n15 : Int) (n16 : Int) (n17 : Int) (n18 : Int) (n19 : Int) (n20 : Int) (n21 : Int) (n22 : Int) (n23 : Int) (n24 : Int) (a4 : Option Addr) (l4 c4 : Nat) (a5 : Option Addr) (l5 c5 : Nat) (a6 : Option Addr) (l6 c6 : Nat) (w : World) (K : Value → World → Prop) : Prop :=
 newK w (.cells #[(.int .i64 n1), (.int .i64 n2), (.int .i64 n3), (.int .i64 n4), (.int .i64 n5), (.int .i64 n6), (.int .i64 n7), (.int .i64 n8), (.int .i64 n9), (.int .i64 n10), (.int .i64 n11), (.int .i64 n12), (.slice a1 l1 c1), (.slice a2 l2 c2), (.slice a3 l3 c3)] 27) fun r1 w1 =>
 newK w1 (.cells #[(.int .i64 n13), (.int .i64 n14), (.int .i64 n15), (.int .i64 n16), (.int .i64 n17), (.int .i64 n18), (.int .i64 n19), (.int .i64 n20), (.int .i64 n21), (.int .i64 n22), (.int .i64 n23), (.int .i64 n24), (.slice a4 l4 c4), (.slice a5 l5 c5), (.slice a6 l6 c6)] 27) fun r2 w2 =>
 newK w2 (.cells #[(.int .i64 (0 : Int)), (.int .i64 (0 : Int)), (.int .i64 (0 : Int)), (.int .i64 (0 : Int)), (.int .i64 (0 : Int)), (.int .i64 (0 : Int)), (.int .i64 (0 : Int)), (.int .i64 (0 : Int)), (.int .i64 (0 : Int)), (.int .i64 (0 : Int)), (.int .i64 (0 : Int)), (.int .i64 (0 : Int)), (.slice none 0 0), (.slice none 0 0), (.slice none 0 0)] 27) fun r3 w3 =>
 ∃ (a7 : Option Addr) (l7 c7 : Nat),
 w3.cell? ⟨r1, 13, none⟩ = some (.slice a7 l7 c7) ∧
 ∃ (a8 : Option Addr) (l8 c8 : Nat),
 w3.cell? ⟨r2, 13, none⟩ = some (.slice a8 l8 c8) ∧
 cond (((l7 : Nat) : Int) != ((l8 : Nat) : Int))
 (stL ⟨r3, 0, none⟩ 0 [(.int .i64 (0 : Int)), (.int .i64 (0 : Int)), (.int .i64 (0 : Int)), (.int .i64 (0 : Int)), (.int .i64 (0 : Int)), (.int .i64 (0 : Int)), (.int .i64 (0 : Int)), (.int .i64 (0 : Int)), (.int .i64 (0 : Int)), (.int .i64 (0 : Int)), (.int .i64 (0 : Int)), (.int .i64 (0 : Int)), (.slice none 0 0), (.slice none 0 0), (.slice none 0 0)] w3 fun w4 =>
  ∃ (n25 : Int) (n26 : Int) (n27 : Int) (n28 : Int) (n29 : Int) (n30 : Int) (n31 : Int) (n32 : Int) (n33 : Int) (n34 : Int) (n35 : Int) (n36 : Int) (a9 : Option Addr) (l9 c9 : Nat) (a10 : Option Addr) (l10 c10 : Nat) (a11 : Option Addr) (l11 c11 : Nat),
  cellsAt w4 ⟨r3, 0, none⟩ 0 [(.int .i64 n25), (.int .i64 n26), (.int .i64 n27), (.int .i64 n28), (.int .i64 n29), (.int .i64 n30), (.int .i64 n31), (.int .i64 n32), (.int .i64 n33), (.int .i64 n34), (.int .i64 n35), (.int .i64 n36), (.slice a9 l9 c9), (.slice a10 l10 c10), (.slice a11 l11 c11)] ∧
  K (.tuple #[(.agg #[(.int .i64 n25), (.int .i64 n26), (.int .i64 n27), (.int .i64 n28), (.int .i64 n29), (.int .i64 n30), (.int .i64 n31), (.int .i64 n32), (.int .i64 n33), (.int .i64 n34), (.int .i64 n35), (.int .i64 n36), (.slice a9 l9 c9), (.slice a10 l10 c10), (.slice a11 l11 c11)]), (.int .i64 (2 : Int))]) w4)
 (∃ (a12 : Option Addr) (l12 c12 : Nat),
  w3.cell? ⟨r1, 13, none⟩ = some (.slice a12 l12 c12) ∧
  ∃ I1 : Int → World → Nat → Prop, (∃ m1, I1 (0 : Int) w3 m1) ∧
  ∀ (w5 : World) (m1 : Nat) (n37 : Int), I1 n37 w5 m1 → ∀ x1 : Nat → Value,
  cond (decide (n37 < ((l12 : Nat) : Int)))
  (∃ (a13 : Option Addr) (l13 c13 : Nat),
   w5.drew.cell? ⟨r1, 13, none⟩ = some (.slice a13 l13 c13) ∧
   onSome a13 fun q1 =>
   0 ≤ n37 ∧ n37 < ((l13 : Nat) : Int) ∧
   ∃ (s1 : ByteArray),
   w5.drew.cell? (Addr.add q1 ((n37).toNat * 6)) = some (.string s1) ∧
   ∃ (a14 : Option Addr) (l14 c14 : Nat),
   w5.drew.cell? ⟨r2, 13, none⟩ = some (.slice a14 l14 c14) ∧
   onSome a14 fun q2 =>
   0 ≤ n37 ∧ n37 < ((l14 : Nat) : Int) ∧
   ∃ (s2 : ByteArray),
   w5.drew.cell? (Addr.add q2 ((n37).toNat * 6)) = some (.string s2) ∧
   cond (!(s1.toList == s2.toList))
   (stL ⟨r3, 0, none⟩ 0 [(.int .i64 (0 : Int)), (.int .i64 (0 : Int)), (.int .i64 (0 : Int)), (.int .i64 (0 : Int)), (.int .i64 (0 : Int)), (.int .i64 (0 : Int)), (.int .i64 (0 : Int)), (.int .i64 (0 : Int)), (.int .i64 (0 : Int)), (.int .i64 (0 : Int)), (.int .i64 (0 : Int)), (.int .i64 (0 : Int)), (.slice none 0 0), (.slice none 0 0), (.slice none 0 0)] w5.drew fun w6 =>
    ∃ (n38 : Int) (n39 : Int) (n40 : Int) (n41 : Int) (n42 : Int) (n43 : Int) (n44 : Int) (n45 : Int) (n46 : Int) (n47 : Int) (n48 : Int) (n49 : Int) (a15 : Option Addr) (l15 c15 : Nat) (a16 : Option Addr) (l16 c16 : Nat) (a17 : Option Addr) (l17 c17 : Nat),
    cellsAt w6 ⟨r3, 0, none⟩ 0 [(.int .i64 n38), (.int .i64 n39), (.int .i64 n40), (.int .i64 n41), (.int .i64 n42), (.int .i64 n43), (.int .i64 n44), (.int .i64 n45), (.int .i64 n46), (.int .i64 n47), (.int .i64 n48), (.int .i64 n49), (.slice a15 l15 c15), (.slice a16 l16 c16), (.slice a17 l17 c17)] ∧
    K (.tuple #[(.agg #[(.int .i64 n38), (.int .i64 n39), (.int .i64 n40), (.int .i64 n41), (.int .i64 n42), (.int .i64 n43), (.int .i64 n44), (.int .i64 n45), (.int .i64 n46), (.int .i64 n47), (.int .i64 n48), (.int .i64 n49), (.slice a15 l15 c15), (.slice a16 l16 c16), (.slice a17 l17 c17)]), (.int .i64 (2 : Int))]) w6)
   (∃ m2, m2 < m1 ∧ I1 (IntKind.i64.wrap (n37 + (1 : Int))) w5.drew m2))
  (∃ (n50 : Int),
   w5.drew.cell? ⟨r1, 11, none⟩ = some (.int .i64 n50) ∧
   ∃ (n51 : Int),
   w5.drew.cell? ⟨r2, 11, none⟩ = some (.int .i64 n51) ∧
   ∃ (a18 : Option Addr) (l18 c18 : Nat),
   w5.drew.cell? ⟨r1, 12, none⟩ = some (.slice a18 l18 c18) ∧
   ∃ (a19 : Option Addr) (l19 c19 : Nat),
   w5.drew.cell? ⟨r2, 12, none⟩ = some (.slice a19 l19 c19) ∧
   ∃ (a20 : Option Addr) (l20 c20 : Nat),
   w5.drew.cell? ⟨r1, 14, none⟩ = some (.slice a20 l20 c20) ∧
   ∃ (a21 : Option Addr) (l21 c21 : Nat),
   w5.drew.cell? ⟨r2, 14, none⟩ = some (.slice a21 l21 c21) ∧
   (Calls Tryz.prog 26 #[(.slice a18 l18 c18), (.slice a19 l19 c19)] w5.drew fun e1 w7 => ∃ (a22 : Option Addr) (l22 c22 : Nat),
    e1 = .returned (.slice a22 l22 c22) ∧
    w7.cell? ⟨r2, 14, none⟩ = some (.slice a21 l21 c21) ∧
    w7.cell? ⟨r1, 14, none⟩ = some (.slice a20 l20 c20) ∧
    w7.cell? ⟨r2, 11, none⟩ = some (.int .i64 n51) ∧
    w7.cell? ⟨r1, 11, none⟩ = some (.int .i64 n50) ∧
    (Calls Tryz.prog 27 #[(.slice a20 l20 c20), (.slice a21 l21 c21)] w7 fun e2 w8 => ∃ (a23 : Option Addr) (l23 c23 : Nat),
     e2 = .returned (.slice a23 l23 c23) ∧
     w8.cell? ⟨r2, 11, none⟩ = some (.int .i64 n51) ∧
     w8.cell? ⟨r1, 11, none⟩ = some (.int .i64 n50) ∧
     newK w8 (.cells #[(.int .i64 (0 : Int)), (.int .i64 (0 : Int)), (.int .i64 (0 : Int)), (.int .i64 (0 : Int)), (.int .i64 (0 : Int)), (.int .i64 (0 : Int)), (.int .i64 (0 : Int)), (.int .i64 (0 : Int)), (.int .i64 (0 : Int)), (.int .i64 (0 : Int)), (.int .i64 (0 : Int)), (.int .i64 (0 : Int)), (.slice none 0 0), (.slice none 0 0), (.slice none 0 0)] 27) fun r4 w9 =>
     w9.cell? ⟨r2, 11, none⟩ = some (.int .i64 n51) ∧
     w9.cell? ⟨r1, 11, none⟩ = some (.int .i64 n50) ∧
     stL ⟨r4, 0, none⟩ 0 [(.int .i64 (0 : Int)), (.int .i64 (0 : Int)), (.int .i64 (0 : Int)), (.int .i64 (0 : Int)), (.int .i64 (0 : Int)), (.int .i64 (0 : Int)), (.int .i64 (0 : Int)), (.int .i64 (0 : Int)), (.int .i64 (0 : Int)), (.int .i64 (0 : Int)), (.int .i64 (0 : Int)), (.int .i64 (IntKind.i64.wrap (n50 + n51))), (.slice a22 l22 c22), (.slice none 0 0), (.slice a23 l23 c23)] w9 fun w10 =>
     ∃ I2 : Int → World → Nat → Prop, (∃ m3, I2 (0 : Int) w10 m3) ∧
     ∀ (w11 : World) (m3 : Nat) (n52 : Int), I2 n52 w11 m3 → ∀ x2 : Nat → Value,
     cond (decide (n52 < (11 : Int)))
     (0 ≤ n52 ∧ n52 < ((11 : Nat) : Int) ∧
      ∃ (n53 : Int),
      w11.drew.cell? (Addr.add ⟨r1, 0, none⟩ ((n52).toNat * 1)) = some (.int .i64 n53) ∧
      0 ≤ n52 ∧ n52 < ((11 : Nat) : Int) ∧
      ∃ (n54 : Int),
      w11.drew.cell? (Addr.add ⟨r2, 0, none⟩ ((n52).toNat * 1)) = some (.int .i64 n54) ∧
      0 ≤ n52 ∧ n52 < ((11 : Nat) : Int) ∧
      stK w11.drew (Addr.add ⟨r4, 0, none⟩ ((n52).toNat * 1)) (.int .i64 (IntKind.i64.wrap (n53 + n54))) fun w12 =>
      ∃ m4, m4 < m3 ∧ I2 (IntKind.i64.wrap (n52 + (1 : Int))) w12 m4)
     (∃ (a24 : Option Addr) (l24 c24 : Nat),
      w11.cell? ⟨r1, 13, none⟩ = some (.slice a24 l24 c24) ∧
      ∃ I3 : Int → World → Nat → Prop, (∃ m5, I3 (0 : Int) w11 m5) ∧
      ∀ (w13 : World) (m5 : Nat) (n55 : Int), I3 n55 w13 m5 → ∀ x3 : Nat → Value,
      cond (decide (n55 < ((l24 : Nat) : Int)))
      (∃ J1 : World → Prop, (∀ (w14 : World), J1 w14 → ∀ x4 : Nat → Value,
        ∃ m6, m6 < m5 ∧ I3 (IntKind.i64.wrap (n55 + (1 : Int))) w14 m6) ∧
       onSome a24 fun q3 =>
       0 ≤ n55 ∧ n55 < ((l24 : Nat) : Int) ∧
       ∃ (s3 : ByteArray) (n56 : Int) (n57 : Int) (n58 : Int) (b1 : Bool) (a25 : Option Addr) (l25 c25 : Nat),
       cellsAt w13 (Addr.add q3 ((n55).toNat * 6)) 0 [(.string s3), (.int .i64 n56), (.int .i64 n57), (.int .i64 n58), (.bool b1), (.slice a25 l25 c25)] ∧
       newK w13 (.cells #[(.string (bs [])), (.int .i64 (0 : Int)), (.int .i64 (0 : Int)), (.int .i64 (0 : Int)), (.bool false), (.slice none 0 0)] 47) fun r5 w15 =>
       stL ⟨r5, 0, none⟩ 0 [(.string s3), (.int .i64 n56), (.int .i64 n57), (.int .i64 n58), (.bool b1), (.slice a25 l25 c25)] w15 fun w16 =>
       ∃ (a26 : Option Addr) (l26 c26 : Nat),
       w16.cell? ⟨r2, 13, none⟩ = some (.slice a26 l26 c26) ∧
       onSome a26 fun q4 =>
       0 ≤ n55 ∧ n55 < ((l26 : Nat) : Int) ∧
       ∃ (s4 : ByteArray) (n59 : Int) (n60 : Int) (n61 : Int) (b2 : Bool) (a27 : Option Addr) (l27 c27 : Nat),
       cellsAt w16 (Addr.add q4 ((n55).toNat * 6)) 0 [(.string s4), (.int .i64 n59), (.int .i64 n60), (.int .i64 n61), (.bool b2), (.slice a27 l27 c27)] ∧
       newK w16 (.cells #[(.string (bs [])), (.int .i64 (0 : Int)), (.int .i64 (0 : Int)), (.int .i64 (0 : Int)), (.bool false), (.slice none 0 0)] 47) fun r6 w17 =>
       stL ⟨r6, 0, none⟩ 0 [(.string s4), (.int .i64 n59), (.int .i64 n60), (.int .i64 n61), (.bool b2), (.slice a27 l27 c27)] w17 fun w18 =>
       ∃ (a28 : Option Addr) (l28 c28 : Nat),
       w18.drew.cell? ⟨r4, 13, none⟩ = some (.slice a28 l28 c28) ∧
       ∃ (s5 : ByteArray),
       w18.drew.cell? ⟨r5, 0, none⟩ = some (.string s5) ∧
       ∃ (n62 : Int),
       w18.drew.cell? ⟨r5, 1, none⟩ = some (.int .i64 n62) ∧
       ∃ (n63 : Int),
       w18.drew.cell? ⟨r6, 1, none⟩ = some (.int .i64 n63) ∧
       ∃ (n64 : Int),
       w18.drew.cell? ⟨r5, 2, none⟩ = some (.int .i64 n64) ∧
       ∃ (n65 : Int),
       w18.drew.cell? ⟨r6, 2, none⟩ = some (.int .i64 n65) ∧
       ∃ (n66 : Int),
       w18.drew.cell? ⟨r5, 3, none⟩ = some (.int .i64 n66) ∧
       ∃ (n67 : Int),
       w18.drew.cell? ⟨r6, 3, none⟩ = some (.int .i64 n67) ∧
       ∃ (b3 : Bool),
       w18.drew.cell? ⟨r5, 4, none⟩ = some (.bool b3) ∧
       cond b3
       (∃ (a29 : Option Addr) (l29 c29 : Nat),
        w18.drew.cell? ⟨r5, 5, none⟩ = some (.slice a29 l29 c29) ∧
        ∃ (a30 : Option Addr) (l30 c30 : Nat),
        w18.drew.cell? ⟨r6, 5, none⟩ = some (.slice a30 l30 c30) ∧
        Calls Tryz.prog 27 #[(.slice a29 l29 c29), (.slice a30 l30 c30)] w18.drew fun e3 w19 => ∃ (a31 : Option Addr) (l31 c31 : Nat),
        e3 = .returned (.slice a31 l31 c31) ∧
        w19.cell? ⟨r6, 3, none⟩ = some (.int .i64 n67) ∧
        w19.cell? ⟨r5, 3, none⟩ = some (.int .i64 n66) ∧
        w19.cell? ⟨r6, 2, none⟩ = some (.int .i64 n65) ∧
        w19.cell? ⟨r5, 2, none⟩ = some (.int .i64 n64) ∧
        w19.cell? ⟨r6, 1, none⟩ = some (.int .i64 n63) ∧
        w19.cell? ⟨r5, 1, none⟩ = some (.int .i64 n62) ∧
        w19.cell? ⟨r5, 0, none⟩ = some (.string s5) ∧
        w19.cell? ⟨r4, 13, none⟩ = some (.slice a28 l28 c28) ∧
        newK w19 (.cells #[(.string s5), (.int .i64 (IntKind.i64.wrap (n62 + n63))), (.int .i64 (IntKind.i64.wrap (n64 + n65))), (.int .i64 (IntKind.i64.wrap (n66 + n67))), (.bool true), (.slice a31 l31 c31)] 47) fun r7 w20 =>
        w20.cell? ⟨r4, 13, none⟩ = some (.slice a28 l28 c28) ∧
        rnS Tryz.prog (Builtin.append_ #[24, 24] 24 #[(.slice a28 l28 c28), (.slice (some ⟨r7, 0, none⟩) 1 1)]) w20 fun e4 w21 => ∃ (a32 : Option Addr) (l32 c32 : Nat),
        e4 = (.slice a32 l32 c32) ∧
        stK w21 ⟨r4, 13, none⟩ (.slice a32 l32 c32) fun w22 =>
        J1 w22)
       (∃ (b4 : Bool),
        w18.drew.cell? ⟨r6, 4, none⟩ = some (.bool b4) ∧
        ∃ (a33 : Option Addr) (l33 c33 : Nat),
        w18.drew.cell? ⟨r5, 5, none⟩ = some (.slice a33 l33 c33) ∧
        ∃ (a34 : Option Addr) (l34 c34 : Nat),
        w18.drew.cell? ⟨r6, 5, none⟩ = some (.slice a34 l34 c34) ∧
        Calls Tryz.prog 27 #[(.slice a33 l33 c33), (.slice a34 l34 c34)] w18.drew fun e5 w23 => ∃ (a35 : Option Addr) (l35 c35 : Nat),
        e5 = .returned (.slice a35 l35 c35) ∧
        w23.cell? ⟨r6, 4, none⟩ = some (.bool b4) ∧
        w23.cell? ⟨r6, 3, none⟩ = some (.int .i64 n67) ∧
        w23.cell? ⟨r5, 3, none⟩ = some (.int .i64 n66) ∧
        w23.cell? ⟨r6, 2, none⟩ = some (.int .i64 n65) ∧
        w23.cell? ⟨r5, 2, none⟩ = some (.int .i64 n64) ∧
        w23.cell? ⟨r6, 1, none⟩ = some (.int .i64 n63) ∧
        w23.cell? ⟨r5, 1, none⟩ = some (.int .i64 n62) ∧
        w23.cell? ⟨r5, 0, none⟩ = some (.string s5) ∧
        w23.cell? ⟨r4, 13, none⟩ = some (.slice a28 l28 c28) ∧
        newK w23 (.cells #[(.string s5), (.int .i64 (IntKind.i64.wrap (n62 + n63))), (.int .i64 (IntKind.i64.wrap (n64 + n65))), (.int .i64 (IntKind.i64.wrap (n66 + n67))), (.bool b4), (.slice a35 l35 c35)] 47) fun r8 w24 =>
        w24.cell? ⟨r4, 13, none⟩ = some (.slice a28 l28 c28) ∧
        rnS Tryz.prog (Builtin.append_ #[24, 24] 24 #[(.slice a28 l28 c28), (.slice (some ⟨r8, 0, none⟩) 1 1)]) w24 fun e6 w25 => ∃ (a36 : Option Addr) (l36 c36 : Nat),
        e6 = (.slice a36 l36 c36) ∧
        stK w25 ⟨r4, 13, none⟩ (.slice a36 l36 c36) fun w26 =>
        J1 w26))
      (∃ (n68 : Int) (n69 : Int) (n70 : Int) (n71 : Int) (n72 : Int) (n73 : Int) (n74 : Int) (n75 : Int) (n76 : Int) (n77 : Int) (n78 : Int) (n79 : Int) (a37 : Option Addr) (l37 c37 : Nat) (a38 : Option Addr) (l38 c38 : Nat) (a39 : Option Addr) (l39 c39 : Nat),
       cellsAt w13 ⟨r4, 0, none⟩ 0 [(.int .i64 n68), (.int .i64 n69), (.int .i64 n70), (.int .i64 n71), (.int .i64 n72), (.int .i64 n73), (.int .i64 n74), (.int .i64 n75), (.int .i64 n76), (.int .i64 n77), (.int .i64 n78), (.int .i64 n79), (.slice a37 l37 c37), (.slice a38 l38 c38), (.slice a39 l39 c39)] ∧
       stL ⟨r3, 0, none⟩ 0 [(.int .i64 n68), (.int .i64 n69), (.int .i64 n70), (.int .i64 n71), (.int .i64 n72), (.int .i64 n73), (.int .i64 n74), (.int .i64 n75), (.int .i64 n76), (.int .i64 n77), (.int .i64 n78), (.int .i64 n79), (.slice a37 l37 c37), (.slice a38 l38 c38), (.slice a39 l39 c39)] w13 fun w27 =>
       ∃ (n80 : Int) (n81 : Int) (n82 : Int) (n83 : Int) (n84 : Int) (n85 : Int) (n86 : Int) (n87 : Int) (n88 : Int) (n89 : Int) (n90 : Int) (n91 : Int) (a40 : Option Addr) (l40 c40 : Nat) (a41 : Option Addr) (l41 c41 : Nat) (a42 : Option Addr) (l42 c42 : Nat),
       cellsAt w27 ⟨r3, 0, none⟩ 0 [(.int .i64 n80), (.int .i64 n81), (.int .i64 n82), (.int .i64 n83), (.int .i64 n84), (.int .i64 n85), (.int .i64 n86), (.int .i64 n87), (.int .i64 n88), (.int .i64 n89), (.int .i64 n90), (.int .i64 n91), (.slice a40 l40 c40), (.slice a41 l41 c41), (.slice a42 l42 c42)] ∧
       K (.tuple #[(.agg #[(.int .i64 n80), (.int .i64 n81), (.int .i64 n82), (.int .i64 n83), (.int .i64 n84), (.int .i64 n85), (.int .i64 n86), (.int .i64 n87), (.int .i64 n88), (.int .i64 n89), (.int .i64 n90), (.int .i64 n91), (.slice a40 l40 c40), (.slice a41 l41 c41), (.slice a42 l42 c42)]), (.int .i64 (0 : Int))]) w27))) ∧
    newK w7 (.cells #[(.int .i64 (0 : Int)), (.int .i64 (0 : Int)), (.int .i64 (0 : Int)), (.int .i64 (0 : Int)), (.int .i64 (0 : Int)), (.int .i64 (0 : Int)), (.int .i64 (0 : Int)), (.int .i64 (0 : Int)), (.int .i64 (0 : Int)), (.int .i64 (0 : Int)), (.int .i64 (0 : Int)), (.int .i64 (0 : Int)), (.slice none 0 0), (.slice none 0 0), (.slice none 0 0)] 27) fun r9 w28 =>
    w28.cell? ⟨r2, 14, none⟩ = some (.slice a21 l21 c21) ∧
    w28.cell? ⟨r1, 14, none⟩ = some (.slice a20 l20 c20) ∧
    w28.cell? ⟨r2, 11, none⟩ = some (.int .i64 n51) ∧
    w28.cell? ⟨r1, 11, none⟩ = some (.int .i64 n50) ∧
    Calls Tryz.prog 27 #[(.slice a20 l20 c20), (.slice a21 l21 c21)] w28 fun e7 w29 => ∃ (a43 : Option Addr) (l43 c43 : Nat),
    e7 = .returned (.slice a43 l43 c43) ∧
    w29.cell? ⟨r2, 11, none⟩ = some (.int .i64 n51) ∧
    w29.cell? ⟨r1, 11, none⟩ = some (.int .i64 n50) ∧
    stL ⟨r9, 0, none⟩ 0 [(.int .i64 (0 : Int)), (.int .i64 (0 : Int)), (.int .i64 (0 : Int)), (.int .i64 (0 : Int)), (.int .i64 (0 : Int)), (.int .i64 (0 : Int)), (.int .i64 (0 : Int)), (.int .i64 (0 : Int)), (.int .i64 (0 : Int)), (.int .i64 (0 : Int)), (.int .i64 (0 : Int)), (.int .i64 (IntKind.i64.wrap (n50 + n51))), (.slice a22 l22 c22), (.slice none 0 0), (.slice a43 l43 c43)] w29 fun w30 =>
    ∃ I4 : Int → World → Nat → Prop, (∃ m7, I4 (0 : Int) w30 m7) ∧
    ∀ (w31 : World) (m7 : Nat) (n92 : Int), I4 n92 w31 m7 → ∀ x5 : Nat → Value,
    cond (decide (n92 < (11 : Int)))
    (0 ≤ n92 ∧ n92 < ((11 : Nat) : Int) ∧
     ∃ (n93 : Int),
     w31.drew.cell? (Addr.add ⟨r1, 0, none⟩ ((n92).toNat * 1)) = some (.int .i64 n93) ∧
     0 ≤ n92 ∧ n92 < ((11 : Nat) : Int) ∧
     ∃ (n94 : Int),
     w31.drew.cell? (Addr.add ⟨r2, 0, none⟩ ((n92).toNat * 1)) = some (.int .i64 n94) ∧
     0 ≤ n92 ∧ n92 < ((11 : Nat) : Int) ∧
     stK w31.drew (Addr.add ⟨r9, 0, none⟩ ((n92).toNat * 1)) (.int .i64 (IntKind.i64.wrap (n93 + n94))) fun w32 =>
     ∃ m8, m8 < m7 ∧ I4 (IntKind.i64.wrap (n92 + (1 : Int))) w32 m8)
    (∃ (a44 : Option Addr) (l44 c44 : Nat),
     w31.cell? ⟨r1, 13, none⟩ = some (.slice a44 l44 c44) ∧
     ∃ I5 : Int → World → Nat → Prop, (∃ m9, I5 (0 : Int) w31 m9) ∧
     ∀ (w33 : World) (m9 : Nat) (n95 : Int), I5 n95 w33 m9 → ∀ x6 : Nat → Value,
     cond (decide (n95 < ((l44 : Nat) : Int)))
     (∃ J2 : World → Prop, (∀ (w34 : World), J2 w34 → ∀ x7 : Nat → Value,
       ∃ m10, m10 < m9 ∧ I5 (IntKind.i64.wrap (n95 + (1 : Int))) w34 m10) ∧
      onSome a44 fun q5 =>
      0 ≤ n95 ∧ n95 < ((l44 : Nat) : Int) ∧
      ∃ (s6 : ByteArray) (n96 : Int) (n97 : Int) (n98 : Int) (b5 : Bool) (a45 : Option Addr) (l45 c45 : Nat),
      cellsAt w33 (Addr.add q5 ((n95).toNat * 6)) 0 [(.string s6), (.int .i64 n96), (.int .i64 n97), (.int .i64 n98), (.bool b5), (.slice a45 l45 c45)] ∧
      newK w33 (.cells #[(.string (bs [])), (.int .i64 (0 : Int)), (.int .i64 (0 : Int)), (.int .i64 (0 : Int)), (.bool false), (.slice none 0 0)] 47) fun r10 w35 =>
      stL ⟨r10, 0, none⟩ 0 [(.string s6), (.int .i64 n96), (.int .i64 n97), (.int .i64 n98), (.bool b5), (.slice a45 l45 c45)] w35 fun w36 =>
      ∃ (a46 : Option Addr) (l46 c46 : Nat),
      w36.cell? ⟨r2, 13, none⟩ = some (.slice a46 l46 c46) ∧
      onSome a46 fun q6 =>
      0 ≤ n95 ∧ n95 < ((l46 : Nat) : Int) ∧
      ∃ (s7 : ByteArray) (n99 : Int) (n100 : Int) (n101 : Int) (b6 : Bool) (a47 : Option Addr) (l47 c47 : Nat),
      cellsAt w36 (Addr.add q6 ((n95).toNat * 6)) 0 [(.string s7), (.int .i64 n99), (.int .i64 n100), (.int .i64 n101), (.bool b6), (.slice a47 l47 c47)] ∧
      newK w36 (.cells #[(.string (bs [])), (.int .i64 (0 : Int)), (.int .i64 (0 : Int)), (.int .i64 (0 : Int)), (.bool false), (.slice none 0 0)] 47) fun r11 w37 =>
      stL ⟨r11, 0, none⟩ 0 [(.string s7), (.int .i64 n99), (.int .i64 n100), (.int .i64 n101), (.bool b6), (.slice a47 l47 c47)] w37 fun w38 =>
      ∃ (a48 : Option Addr) (l48 c48 : Nat),
      w38.drew.cell? ⟨r9, 13, none⟩ = some (.slice a48 l48 c48) ∧
      ∃ (s8 : ByteArray),
      w38.drew.cell? ⟨r10, 0, none⟩ = some (.string s8) ∧
      ∃ (n102 : Int),
      w38.drew.cell? ⟨r10, 1, none⟩ = some (.int .i64 n102) ∧
      ∃ (n103 : Int),
      w38.drew.cell? ⟨r11, 1, none⟩ = some (.int .i64 n103) ∧
      ∃ (n104 : Int),
      w38.drew.cell? ⟨r10, 2, none⟩ = some (.int .i64 n104) ∧
      ∃ (n105 : Int),
      w38.drew.cell? ⟨r11, 2, none⟩ = some (.int .i64 n105) ∧
      ∃ (n106 : Int),
      w38.drew.cell? ⟨r10, 3, none⟩ = some (.int .i64 n106) ∧
      ∃ (n107 : Int),
      w38.drew.cell? ⟨r11, 3, none⟩ = some (.int .i64 n107) ∧
      ∃ (b7 : Bool),
      w38.drew.cell? ⟨r10, 4, none⟩ = some (.bool b7) ∧
      cond b7
      (∃ (a49 : Option Addr) (l49 c49 : Nat),
       w38.drew.cell? ⟨r10, 5, none⟩ = some (.slice a49 l49 c49) ∧
       ∃ (a50 : Option Addr) (l50 c50 : Nat),
       w38.drew.cell? ⟨r11, 5, none⟩ = some (.slice a50 l50 c50) ∧
       Calls Tryz.prog 27 #[(.slice a49 l49 c49), (.slice a50 l50 c50)] w38.drew fun e8 w39 => ∃ (a51 : Option Addr) (l51 c51 : Nat),
       e8 = .returned (.slice a51 l51 c51) ∧
       w39.cell? ⟨r11, 3, none⟩ = some (.int .i64 n107) ∧
       w39.cell? ⟨r10, 3, none⟩ = some (.int .i64 n106) ∧
       w39.cell? ⟨r11, 2, none⟩ = some (.int .i64 n105) ∧
       w39.cell? ⟨r10, 2, none⟩ = some (.int .i64 n104) ∧
       w39.cell? ⟨r11, 1, none⟩ = some (.int .i64 n103) ∧
       w39.cell? ⟨r10, 1, none⟩ = some (.int .i64 n102) ∧
       w39.cell? ⟨r10, 0, none⟩ = some (.string s8) ∧
       w39.cell? ⟨r9, 13, none⟩ = some (.slice a48 l48 c48) ∧
       newK w39 (.cells #[(.string s8), (.int .i64 (IntKind.i64.wrap (n102 + n103))), (.int .i64 (IntKind.i64.wrap (n104 + n105))), (.int .i64 (IntKind.i64.wrap (n106 + n107))), (.bool true), (.slice a51 l51 c51)] 47) fun r12 w40 =>
       w40.cell? ⟨r9, 13, none⟩ = some (.slice a48 l48 c48) ∧
       rnS Tryz.prog (Builtin.append_ #[24, 24] 24 #[(.slice a48 l48 c48), (.slice (some ⟨r12, 0, none⟩) 1 1)]) w40 fun e9 w41 => ∃ (a52 : Option Addr) (l52 c52 : Nat),
       e9 = (.slice a52 l52 c52) ∧
       stK w41 ⟨r9, 13, none⟩ (.slice a52 l52 c52) fun w42 =>
       J2 w42)
      (∃ (b8 : Bool),
       w38.drew.cell? ⟨r11, 4, none⟩ = some (.bool b8) ∧
       ∃ (a53 : Option Addr) (l53 c53 : Nat),
       w38.drew.cell? ⟨r10, 5, none⟩ = some (.slice a53 l53 c53) ∧
       ∃ (a54 : Option Addr) (l54 c54 : Nat),
       w38.drew.cell? ⟨r11, 5, none⟩ = some (.slice a54 l54 c54) ∧
       Calls Tryz.prog 27 #[(.slice a53 l53 c53), (.slice a54 l54 c54)] w38.drew fun e10 w43 => ∃ (a55 : Option Addr) (l55 c55 : Nat),
       e10 = .returned (.slice a55 l55 c55) ∧
       w43.cell? ⟨r11, 4, none⟩ = some (.bool b8) ∧
       w43.cell? ⟨r11, 3, none⟩ = some (.int .i64 n107) ∧
       w43.cell? ⟨r10, 3, none⟩ = some (.int .i64 n106) ∧
       w43.cell? ⟨r11, 2, none⟩ = some (.int .i64 n105) ∧
       w43.cell? ⟨r10, 2, none⟩ = some (.int .i64 n104) ∧
       w43.cell? ⟨r11, 1, none⟩ = some (.int .i64 n103) ∧
       w43.cell? ⟨r10, 1, none⟩ = some (.int .i64 n102) ∧
       w43.cell? ⟨r10, 0, none⟩ = some (.string s8) ∧
       w43.cell? ⟨r9, 13, none⟩ = some (.slice a48 l48 c48) ∧
       newK w43 (.cells #[(.string s8), (.int .i64 (IntKind.i64.wrap (n102 + n103))), (.int .i64 (IntKind.i64.wrap (n104 + n105))), (.int .i64 (IntKind.i64.wrap (n106 + n107))), (.bool b8), (.slice a55 l55 c55)] 47) fun r13 w44 =>
       w44.cell? ⟨r9, 13, none⟩ = some (.slice a48 l48 c48) ∧
       rnS Tryz.prog (Builtin.append_ #[24, 24] 24 #[(.slice a48 l48 c48), (.slice (some ⟨r13, 0, none⟩) 1 1)]) w44 fun e11 w45 => ∃ (a56 : Option Addr) (l56 c56 : Nat),
       e11 = (.slice a56 l56 c56) ∧
       stK w45 ⟨r9, 13, none⟩ (.slice a56 l56 c56) fun w46 =>
       J2 w46))
     (∃ (n108 : Int) (n109 : Int) (n110 : Int) (n111 : Int) (n112 : Int) (n113 : Int) (n114 : Int) (n115 : Int) (n116 : Int) (n117 : Int) (n118 : Int) (n119 : Int) (a57 : Option Addr) (l57 c57 : Nat) (a58 : Option Addr) (l58 c58 : Nat) (a59 : Option Addr) (l59 c59 : Nat),
      cellsAt w33 ⟨r9, 0, none⟩ 0 [(.int .i64 n108), (.int .i64 n109), (.int .i64 n110), (.int .i64 n111), (.int .i64 n112), (.int .i64 n113), (.int .i64 n114), (.int .i64 n115), (.int .i64 n116), (.int .i64 n117), (.int .i64 n118), (.int .i64 n119), (.slice a57 l57 c57), (.slice a58 l58 c58), (.slice a59 l59 c59)] ∧
      stL ⟨r3, 0, none⟩ 0 [(.int .i64 n108), (.int .i64 n109), (.int .i64 n110), (.int .i64 n111), (.int .i64 n112), (.int .i64 n113), (.int .i64 n114), (.int .i64 n115), (.int .i64 n116), (.int .i64 n117), (.int .i64 n118), (.int .i64 n119), (.slice a57 l57 c57), (.slice a58 l58 c58), (.slice a59 l59 c59)] w33 fun w47 =>
      ∃ (n120 : Int) (n121 : Int) (n122 : Int) (n123 : Int) (n124 : Int) (n125 : Int) (n126 : Int) (n127 : Int) (n128 : Int) (n129 : Int) (n130 : Int) (n131 : Int) (a60 : Option Addr) (l60 c60 : Nat) (a61 : Option Addr) (l61 c61 : Nat) (a62 : Option Addr) (l62 c62 : Nat),
      cellsAt w47 ⟨r3, 0, none⟩ 0 [(.int .i64 n120), (.int .i64 n121), (.int .i64 n122), (.int .i64 n123), (.int .i64 n124), (.int .i64 n125), (.int .i64 n126), (.int .i64 n127), (.int .i64 n128), (.int .i64 n129), (.int .i64 n130), (.int .i64 n131), (.slice a60 l60 c60), (.slice a61 l61 c61), (.slice a62 l62 c62)] ∧
      K (.tuple #[(.agg #[(.int .i64 n120), (.int .i64 n121), (.int .i64 n122), (.int .i64 n123), (.int .i64 n124), (.int .i64 n125), (.int .i64 n126), (.int .i64 n127), (.int .i64 n128), (.int .i64 n129), (.int .i64 n130), (.int .i64 n131), (.slice a60 l60 c60), (.slice a61 l61 c61), (.slice a62 l62 c62)]), (.int .i64 (0 : Int))]) w47))) ∧
   newK w5.drew (.cells #[(.int .i64 (0 : Int)), (.int .i64 (0 : Int)), (.int .i64 (0 : Int)), (.int .i64 (0 : Int)), (.int .i64 (0 : Int)), (.int .i64 (0 : Int)), (.int .i64 (0 : Int)), (.int .i64 (0 : Int)), (.int .i64 (0 : Int)), (.int .i64 (0 : Int)), (.int .i64 (0 : Int)), (.int .i64 (0 : Int)), (.slice none 0 0), (.slice none 0 0), (.slice none 0 0)] 27) fun r14 w48 =>
   w48.cell? ⟨r2, 14, none⟩ = some (.slice a21 l21 c21) ∧
   w48.cell? ⟨r1, 14, none⟩ = some (.slice a20 l20 c20) ∧
   w48.cell? ⟨r2, 12, none⟩ = some (.slice a19 l19 c19) ∧
   w48.cell? ⟨r1, 12, none⟩ = some (.slice a18 l18 c18) ∧
   w48.cell? ⟨r2, 11, none⟩ = some (.int .i64 n51) ∧
   w48.cell? ⟨r1, 11, none⟩ = some (.int .i64 n50) ∧
   Calls Tryz.prog 26 #[(.slice a18 l18 c18), (.slice a19 l19 c19)] w48 fun e12 w49 => ∃ (a63 : Option Addr) (l63 c63 : Nat),
   e12 = .returned (.slice a63 l63 c63) ∧
   w49.cell? ⟨r2, 14, none⟩ = some (.slice a21 l21 c21) ∧
   w49.cell? ⟨r1, 14, none⟩ = some (.slice a20 l20 c20) ∧
   w49.cell? ⟨r2, 11, none⟩ = some (.int .i64 n51) ∧
   w49.cell? ⟨r1, 11, none⟩ = some (.int .i64 n50) ∧
   Calls Tryz.prog 27 #[(.slice a20 l20 c20), (.slice a21 l21 c21)] w49 fun e13 w50 => ∃ (a64 : Option Addr) (l64 c64 : Nat),
   e13 = .returned (.slice a64 l64 c64) ∧
   w50.cell? ⟨r2, 11, none⟩ = some (.int .i64 n51) ∧
   w50.cell? ⟨r1, 11, none⟩ = some (.int .i64 n50) ∧
   stL ⟨r14, 0, none⟩ 0 [(.int .i64 (0 : Int)), (.int .i64 (0 : Int)), (.int .i64 (0 : Int)), (.int .i64 (0 : Int)), (.int .i64 (0 : Int)), (.int .i64 (0 : Int)), (.int .i64 (0 : Int)), (.int .i64 (0 : Int)), (.int .i64 (0 : Int)), (.int .i64 (0 : Int)), (.int .i64 (0 : Int)), (.int .i64 (IntKind.i64.wrap (n50 + n51))), (.slice a63 l63 c63), (.slice none 0 0), (.slice a64 l64 c64)] w50 fun w51 =>
   ∃ I6 : Int → World → Nat → Prop, (∃ m11, I6 (0 : Int) w51 m11) ∧
   ∀ (w52 : World) (m11 : Nat) (n132 : Int), I6 n132 w52 m11 → ∀ x8 : Nat → Value,
   cond (decide (n132 < (11 : Int)))
   (0 ≤ n132 ∧ n132 < ((11 : Nat) : Int) ∧
    ∃ (n133 : Int),
    w52.drew.cell? (Addr.add ⟨r1, 0, none⟩ ((n132).toNat * 1)) = some (.int .i64 n133) ∧
    0 ≤ n132 ∧ n132 < ((11 : Nat) : Int) ∧
    ∃ (n134 : Int),
    w52.drew.cell? (Addr.add ⟨r2, 0, none⟩ ((n132).toNat * 1)) = some (.int .i64 n134) ∧
    0 ≤ n132 ∧ n132 < ((11 : Nat) : Int) ∧
    stK w52.drew (Addr.add ⟨r14, 0, none⟩ ((n132).toNat * 1)) (.int .i64 (IntKind.i64.wrap (n133 + n134))) fun w53 =>
    ∃ m12, m12 < m11 ∧ I6 (IntKind.i64.wrap (n132 + (1 : Int))) w53 m12)
   (∃ (a65 : Option Addr) (l65 c65 : Nat),
    w52.cell? ⟨r1, 13, none⟩ = some (.slice a65 l65 c65) ∧
    ∃ I7 : Int → World → Nat → Prop, (∃ m13, I7 (0 : Int) w52 m13) ∧
    ∀ (w54 : World) (m13 : Nat) (n135 : Int), I7 n135 w54 m13 → ∀ x9 : Nat → Value,
    cond (decide (n135 < ((l65 : Nat) : Int)))
    (∃ J3 : World → Prop, (∀ (w55 : World), J3 w55 → ∀ x10 : Nat → Value,
      ∃ m14, m14 < m13 ∧ I7 (IntKind.i64.wrap (n135 + (1 : Int))) w55 m14) ∧
     onSome a65 fun q7 =>
     0 ≤ n135 ∧ n135 < ((l65 : Nat) : Int) ∧
     ∃ (s9 : ByteArray) (n136 : Int) (n137 : Int) (n138 : Int) (b9 : Bool) (a66 : Option Addr) (l66 c66 : Nat),
     cellsAt w54 (Addr.add q7 ((n135).toNat * 6)) 0 [(.string s9), (.int .i64 n136), (.int .i64 n137), (.int .i64 n138), (.bool b9), (.slice a66 l66 c66)] ∧
     newK w54 (.cells #[(.string (bs [])), (.int .i64 (0 : Int)), (.int .i64 (0 : Int)), (.int .i64 (0 : Int)), (.bool false), (.slice none 0 0)] 47) fun r15 w56 =>
     stL ⟨r15, 0, none⟩ 0 [(.string s9), (.int .i64 n136), (.int .i64 n137), (.int .i64 n138), (.bool b9), (.slice a66 l66 c66)] w56 fun w57 =>
     ∃ (a67 : Option Addr) (l67 c67 : Nat),
     w57.cell? ⟨r2, 13, none⟩ = some (.slice a67 l67 c67) ∧
     onSome a67 fun q8 =>
     0 ≤ n135 ∧ n135 < ((l67 : Nat) : Int) ∧
     ∃ (s10 : ByteArray) (n139 : Int) (n140 : Int) (n141 : Int) (b10 : Bool) (a68 : Option Addr) (l68 c68 : Nat),
     cellsAt w57 (Addr.add q8 ((n135).toNat * 6)) 0 [(.string s10), (.int .i64 n139), (.int .i64 n140), (.int .i64 n141), (.bool b10), (.slice a68 l68 c68)] ∧
     newK w57 (.cells #[(.string (bs [])), (.int .i64 (0 : Int)), (.int .i64 (0 : Int)), (.int .i64 (0 : Int)), (.bool false), (.slice none 0 0)] 47) fun r16 w58 =>
     stL ⟨r16, 0, none⟩ 0 [(.string s10), (.int .i64 n139), (.int .i64 n140), (.int .i64 n141), (.bool b10), (.slice a68 l68 c68)] w58 fun w59 =>
     ∃ (a69 : Option Addr) (l69 c69 : Nat),
     w59.drew.cell? ⟨r14, 13, none⟩ = some (.slice a69 l69 c69) ∧
     ∃ (s11 : ByteArray),
     w59.drew.cell? ⟨r15, 0, none⟩ = some (.string s11) ∧
     ∃ (n142 : Int),
     w59.drew.cell? ⟨r15, 1, none⟩ = some (.int .i64 n142) ∧
     ∃ (n143 : Int),
     w59.drew.cell? ⟨r16, 1, none⟩ = some (.int .i64 n143) ∧
     ∃ (n144 : Int),
     w59.drew.cell? ⟨r15, 2, none⟩ = some (.int .i64 n144) ∧
     ∃ (n145 : Int),
     w59.drew.cell? ⟨r16, 2, none⟩ = some (.int .i64 n145) ∧
     ∃ (n146 : Int),
     w59.drew.cell? ⟨r15, 3, none⟩ = some (.int .i64 n146) ∧
     ∃ (n147 : Int),
     w59.drew.cell? ⟨r16, 3, none⟩ = some (.int .i64 n147) ∧
     ∃ (b11 : Bool),
     w59.drew.cell? ⟨r15, 4, none⟩ = some (.bool b11) ∧
     cond b11
     (∃ (a70 : Option Addr) (l70 c70 : Nat),
      w59.drew.cell? ⟨r15, 5, none⟩ = some (.slice a70 l70 c70) ∧
      ∃ (a71 : Option Addr) (l71 c71 : Nat),
      w59.drew.cell? ⟨r16, 5, none⟩ = some (.slice a71 l71 c71) ∧
      Calls Tryz.prog 27 #[(.slice a70 l70 c70), (.slice a71 l71 c71)] w59.drew fun e14 w60 => ∃ (a72 : Option Addr) (l72 c72 : Nat),
      e14 = .returned (.slice a72 l72 c72) ∧
      w60.cell? ⟨r16, 3, none⟩ = some (.int .i64 n147) ∧
      w60.cell? ⟨r15, 3, none⟩ = some (.int .i64 n146) ∧
      w60.cell? ⟨r16, 2, none⟩ = some (.int .i64 n145) ∧
      w60.cell? ⟨r15, 2, none⟩ = some (.int .i64 n144) ∧
      w60.cell? ⟨r16, 1, none⟩ = some (.int .i64 n143) ∧
      w60.cell? ⟨r15, 1, none⟩ = some (.int .i64 n142) ∧
      w60.cell? ⟨r15, 0, none⟩ = some (.string s11) ∧
      w60.cell? ⟨r14, 13, none⟩ = some (.slice a69 l69 c69) ∧
      newK w60 (.cells #[(.string s11), (.int .i64 (IntKind.i64.wrap (n142 + n143))), (.int .i64 (IntKind.i64.wrap (n144 + n145))), (.int .i64 (IntKind.i64.wrap (n146 + n147))), (.bool true), (.slice a72 l72 c72)] 47) fun r17 w61 =>
      w61.cell? ⟨r14, 13, none⟩ = some (.slice a69 l69 c69) ∧
      rnS Tryz.prog (Builtin.append_ #[24, 24] 24 #[(.slice a69 l69 c69), (.slice (some ⟨r17, 0, none⟩) 1 1)]) w61 fun e15 w62 => ∃ (a73 : Option Addr) (l73 c73 : Nat),
      e15 = (.slice a73 l73 c73) ∧
      stK w62 ⟨r14, 13, none⟩ (.slice a73 l73 c73) fun w63 =>
      J3 w63)
     (∃ (b12 : Bool),
      w59.drew.cell? ⟨r16, 4, none⟩ = some (.bool b12) ∧
      ∃ (a74 : Option Addr) (l74 c74 : Nat),
      w59.drew.cell? ⟨r15, 5, none⟩ = some (.slice a74 l74 c74) ∧
      ∃ (a75 : Option Addr) (l75 c75 : Nat),
      w59.drew.cell? ⟨r16, 5, none⟩ = some (.slice a75 l75 c75) ∧
      Calls Tryz.prog 27 #[(.slice a74 l74 c74), (.slice a75 l75 c75)] w59.drew fun e16 w64 => ∃ (a76 : Option Addr) (l76 c76 : Nat),
      e16 = .returned (.slice a76 l76 c76) ∧
      w64.cell? ⟨r16, 4, none⟩ = some (.bool b12) ∧
      w64.cell? ⟨r16, 3, none⟩ = some (.int .i64 n147) ∧
      w64.cell? ⟨r15, 3, none⟩ = some (.int .i64 n146) ∧
      w64.cell? ⟨r16, 2, none⟩ = some (.int .i64 n145) ∧
      w64.cell? ⟨r15, 2, none⟩ = some (.int .i64 n144) ∧
      w64.cell? ⟨r16, 1, none⟩ = some (.int .i64 n143) ∧
      w64.cell? ⟨r15, 1, none⟩ = some (.int .i64 n142) ∧
      w64.cell? ⟨r15, 0, none⟩ = some (.string s11) ∧
      w64.cell? ⟨r14, 13, none⟩ = some (.slice a69 l69 c69) ∧
      newK w64 (.cells #[(.string s11), (.int .i64 (IntKind.i64.wrap (n142 + n143))), (.int .i64 (IntKind.i64.wrap (n144 + n145))), (.int .i64 (IntKind.i64.wrap (n146 + n147))), (.bool b12), (.slice a76 l76 c76)] 47) fun r18 w65 =>
      w65.cell? ⟨r14, 13, none⟩ = some (.slice a69 l69 c69) ∧
      rnS Tryz.prog (Builtin.append_ #[24, 24] 24 #[(.slice a69 l69 c69), (.slice (some ⟨r18, 0, none⟩) 1 1)]) w65 fun e17 w66 => ∃ (a77 : Option Addr) (l77 c77 : Nat),
      e17 = (.slice a77 l77 c77) ∧
      stK w66 ⟨r14, 13, none⟩ (.slice a77 l77 c77) fun w67 =>
      J3 w67))
    (∃ (n148 : Int) (n149 : Int) (n150 : Int) (n151 : Int) (n152 : Int) (n153 : Int) (n154 : Int) (n155 : Int) (n156 : Int) (n157 : Int) (n158 : Int) (n159 : Int) (a78 : Option Addr) (l78 c78 : Nat) (a79 : Option Addr) (l79 c79 : Nat) (a80 : Option Addr) (l80 c80 : Nat),
     cellsAt w54 ⟨r14, 0, none⟩ 0 [(.int .i64 n148), (.int .i64 n149), (.int .i64 n150), (.int .i64 n151), (.int .i64 n152), (.int .i64 n153), (.int .i64 n154), (.int .i64 n155), (.int .i64 n156), (.int .i64 n157), (.int .i64 n158), (.int .i64 n159), (.slice a78 l78 c78), (.slice a79 l79 c79), (.slice a80 l80 c80)] ∧
     stL ⟨r3, 0, none⟩ 0 [(.int .i64 n148), (.int .i64 n149), (.int .i64 n150), (.int .i64 n151), (.int .i64 n152), (.int .i64 n153), (.int .i64 n154), (.int .i64 n155), (.int .i64 n156), (.int .i64 n157), (.int .i64 n158), (.int .i64 n159), (.slice a78 l78 c78), (.slice a79 l79 c79), (.slice a80 l80 c80)] w54 fun w68 =>
     ∃ (n160 : Int) (n161 : Int) (n162 : Int) (n163 : Int) (n164 : Int) (n165 : Int) (n166 : Int) (n167 : Int) (n168 : Int) (n169 : Int) (n170 : Int) (n171 : Int) (a81 : Option Addr) (l81 c81 : Nat) (a82 : Option Addr) (l82 c82 : Nat) (a83 : Option Addr) (l83 c83 : Nat),
     cellsAt w68 ⟨r3, 0, none⟩ 0 [(.int .i64 n160), (.int .i64 n161), (.int .i64 n162), (.int .i64 n163), (.int .i64 n164), (.int .i64 n165), (.int .i64 n166), (.int .i64 n167), (.int .i64 n168), (.int .i64 n169), (.int .i64 n170), (.int .i64 n171), (.slice a81 l81 c81), (.slice a82 l82 c82), (.slice a83 l83 c83)] ∧
     K (.tuple #[(.agg #[(.int .i64 n160), (.int .i64 n161), (.int .i64 n162), (.int .i64 n163), (.int .i64 n164), (.int .i64 n165), (.int .i64 n166), (.int .i64 n167), (.int .i64 n168), (.int .i64 n169), (.int .i64 n170), (.int .i64 n171), (.slice a81 l81 c81), (.slice a82 l82 c82), (.slice a83 l83 c83)]), (.int .i64 (0 : Int))]) w68))))
def rMerge_ann : List (Nat × Live) := [(58, [(23, .s (.int .i64))]), (250, [(57, .s (.int .i64))]), (506, [(76, .s (.int .i64))]), (4051, []), (250, [(57, .s (.int .i64))]), (506, [(76, .s (.int .i64))]), (4051, []), (250, [(57, .s (.int .i64))]), (506, [(76, .s (.int .i64))]), (4051, [])]
theorem rMerge_ok {n1 : Int} {n2 : Int} {n3 : Int} {n4 : Int} {n5 : Int} {n6 : Int} {n7 : Int} {n8 : Int} {n9 : Int} {n10 : Int} {n11 : Int} {n12 : Int} {a1 : Option Addr} {l1 c1 : Nat} {a2 : Option Addr} {l2 c2 : Nat} {a3 : Option Addr} {l3 c3 : Nat} {n13 : Int} {n14 : Int} {n15 : Int} {n16 : Int} {n17 : Int} {n18 : Int} {n19 : Int} {n20 : Int} {n21 : Int} {n22 : Int} {n23 : Int} {n24 : Int} {a4 : Option Addr} {l4 c4 : Nat} {a5 : Option Addr} {l5 c5 : Nat} {a6 : Option Addr} {l6 c6 : Nat} {w : World} {K : Value → World → Prop} (h : rMerge n1 n2 n3 n4 n5 n6 n7 n8 n9 n10 n11 n12 a1 l1 c1 a2 l2 c2 a3 l3 c3 n13 n14 n15 n16 n17 n18 n19 n20 n21 n22 n23 n24 a4 l4 c4 a5 l5 c5 a6 l6 c6 w K) : Calls Tryz.prog 10 #[(.agg #[(.int .i64 n1), (.int .i64 n2), (.int .i64 n3), (.int .i64 n4), (.int .i64 n5), (.int .i64 n6), (.int .i64 n7), (.int .i64 n8), (.int .i64 n9), (.int .i64 n10), (.int .i64 n11), (.int .i64 n12), (.slice a1 l1 c1), (.slice a2 l2 c2), (.slice a3 l3 c3)]), (.agg #[(.int .i64 n13), (.int .i64 n14), (.int .i64 n15), (.int .i64 n16), (.int .i64 n17), (.int .i64 n18), (.int .i64 n19), (.int .i64 n20), (.int .i64 n21), (.int .i64 n22), (.int .i64 n23), (.int .i64 n24), (.slice a4 l4 c4), (.slice a5 l5 c5), (.slice a6 l6 c6)])] w fun e w' => ∃ v, e = .returned v ∧ K v w' :=
  calls_sh (annL rMerge_ann) Tryz.func10 (by kernel_rfl) (args := [(.agg #[(.int .i64 n1), (.int .i64 n2), (.int .i64 n3), (.int .i64 n4), (.int .i64 n5), (.int .i64 n6), (.int .i64 n7), (.int .i64 n8), (.int .i64 n9), (.int .i64 n10), (.int .i64 n11), (.int .i64 n12), (.slice a1 l1 c1), (.slice a2 l2 c2), (.slice a3 l3 c3)]), (.agg #[(.int .i64 n13), (.int .i64 n14), (.int .i64 n15), (.int .i64 n16), (.int .i64 n17), (.int .i64 n18), (.int .i64 n19), (.int .i64 n20), (.int .i64 n21), (.int .i64 n22), (.int .i64 n23), (.int .i64 n24), (.slice a4 l4 c4), (.slice a5 l5 c5), (.slice a6 l6 c6)])]) (by kernel_rfl) h

-- saleroom/saleroomref55.Merge
def qMerge (n1 : Int) (n2 : Int) (n3 : Int) (n4 : Int) (n5 : Int) (n6 : Int) (n7 : Int) (n8 : Int) (n9 : Int) (n10 : Int) (n11 : Int) (n12 : Int) (a1 : Option Addr) (l1 c1 : Nat) (a2 : Option Addr) (l2 c2 : Nat) (a3 : Option Addr) (l3 c3 : Nat) (n13 : Int) (n14 : Int) (n15 : Int) (n16 : Int) (n17 : Int) (n18 : Int) (n19 : Int) (n20 : Int) (n21 : Int) (n22 : Int) (n23 : Int) (n24 : Int) (a4 : Option Addr) (l4 c4 : Nat) (a5 : Option Addr) (l5 c5 : Nat) (a6 : Option Addr) (l6 c6 : Nat) (w : World) (K : Value → World → Prop) : Prop :=
 newK w (.cells #[(.int .i64 n1), (.int .i64 n2), (.int .i64 n3), (.int .i64 n4), (.int .i64 n5), (.int .i64 n6), (.int .i64 n7), (.int .i64 n8), (.int .i64 n9), (.int .i64 n10), (.int .i64 n11), (.int .i64 n12), (.slice a1 l1 c1), (.slice a2 l2 c2), (.slice a3 l3 c3)] 31) fun r1 w1 =>
 newK w1 (.cells #[(.int .i64 n13), (.int .i64 n14), (.int .i64 n15), (.int .i64 n16), (.int .i64 n17), (.int .i64 n18), (.int .i64 n19), (.int .i64 n20), (.int .i64 n21), (.int .i64 n22), (.int .i64 n23), (.int .i64 n24), (.slice a4 l4 c4), (.slice a5 l5 c5), (.slice a6 l6 c6)] 31) fun r2 w2 =>
 newK w2 (.cells #[(.int .i64 (0 : Int)), (.int .i64 (0 : Int)), (.int .i64 (0 : Int)), (.int .i64 (0 : Int)), (.int .i64 (0 : Int)), (.int .i64 (0 : Int)), (.int .i64 (0 : Int)), (.int .i64 (0 : Int)), (.int .i64 (0 : Int)), (.int .i64 (0 : Int)), (.int .i64 (0 : Int)), (.int .i64 (0 : Int)), (.slice none 0 0), (.slice none 0 0), (.slice none 0 0)] 31) fun r3 w3 =>
 ∃ (a7 : Option Addr) (l7 c7 : Nat),
 w3.cell? ⟨r1, 13, none⟩ = some (.slice a7 l7 c7) ∧
 ∃ (a8 : Option Addr) (l8 c8 : Nat),
 w3.cell? ⟨r2, 13, none⟩ = some (.slice a8 l8 c8) ∧
 cond (((l7 : Nat) : Int) != ((l8 : Nat) : Int))
 (stL ⟨r3, 0, none⟩ 0 [(.int .i64 (0 : Int)), (.int .i64 (0 : Int)), (.int .i64 (0 : Int)), (.int .i64 (0 : Int)), (.int .i64 (0 : Int)), (.int .i64 (0 : Int)), (.int .i64 (0 : Int)), (.int .i64 (0 : Int)), (.int .i64 (0 : Int)), (.int .i64 (0 : Int)), (.int .i64 (0 : Int)), (.int .i64 (0 : Int)), (.slice none 0 0), (.slice none 0 0), (.slice none 0 0)] w3 fun w4 =>
  ∃ (n25 : Int) (n26 : Int) (n27 : Int) (n28 : Int) (n29 : Int) (n30 : Int) (n31 : Int) (n32 : Int) (n33 : Int) (n34 : Int) (n35 : Int) (n36 : Int) (a9 : Option Addr) (l9 c9 : Nat) (a10 : Option Addr) (l10 c10 : Nat) (a11 : Option Addr) (l11 c11 : Nat),
  cellsAt w4 ⟨r3, 0, none⟩ 0 [(.int .i64 n25), (.int .i64 n26), (.int .i64 n27), (.int .i64 n28), (.int .i64 n29), (.int .i64 n30), (.int .i64 n31), (.int .i64 n32), (.int .i64 n33), (.int .i64 n34), (.int .i64 n35), (.int .i64 n36), (.slice a9 l9 c9), (.slice a10 l10 c10), (.slice a11 l11 c11)] ∧
  K (.tuple #[(.agg #[(.int .i64 n25), (.int .i64 n26), (.int .i64 n27), (.int .i64 n28), (.int .i64 n29), (.int .i64 n30), (.int .i64 n31), (.int .i64 n32), (.int .i64 n33), (.int .i64 n34), (.int .i64 n35), (.int .i64 n36), (.slice a9 l9 c9), (.slice a10 l10 c10), (.slice a11 l11 c11)]), (.int .i64 (2 : Int))]) w4)
 (∃ (n37 : Int),
  w3.cell? ⟨r1, 11, none⟩ = some (.int .i64 n37) ∧
  ∃ (n38 : Int),
  w3.cell? ⟨r2, 11, none⟩ = some (.int .i64 n38) ∧
  newK w3 (.cells #[(.int .i64 (0 : Int)), (.int .i64 (0 : Int)), (.int .i64 (0 : Int)), (.int .i64 (0 : Int)), (.int .i64 (0 : Int)), (.int .i64 (0 : Int)), (.int .i64 (0 : Int)), (.int .i64 (0 : Int)), (.int .i64 (0 : Int)), (.int .i64 (0 : Int)), (.int .i64 (0 : Int)), (.int .i64 (0 : Int)), (.slice none 0 0), (.slice none 0 0), (.slice none 0 0)] 31) fun r4 w5 =>
  stL ⟨r4, 0, none⟩ 0 [(.int .i64 (0 : Int)), (.int .i64 (0 : Int)), (.int .i64 (0 : Int)), (.int .i64 (0 : Int)), (.int .i64 (0 : Int)), (.int .i64 (0 : Int)), (.int .i64 (0 : Int)), (.int .i64 (0 : Int)), (.int .i64 (0 : Int)), (.int .i64 (0 : Int)), (.int .i64 (0 : Int)), (.int .i64 (IntKind.i64.wrap (n37 + n38))), (.slice none 0 0), (.slice none 0 0), (.slice none 0 0)] w5 fun w6 =>
  ∃ I1 : Int → World → Nat → Prop, (∃ m1, I1 (0 : Int) w6 m1) ∧
  ∀ (w7 : World) (m1 : Nat) (n39 : Int), I1 n39 w7 m1 → ∀ x1 : Nat → Value,
  cond (decide (n39 ≤ (10 : Int)))
  (0 ≤ n39 ∧ n39 < ((11 : Nat) : Int) ∧
   ∃ (n40 : Int),
   w7.drew.cell? (Addr.add ⟨r1, 0, none⟩ ((n39).toNat * 1)) = some (.int .i64 n40) ∧
   0 ≤ n39 ∧ n39 < ((11 : Nat) : Int) ∧
   ∃ (n41 : Int),
   w7.drew.cell? (Addr.add ⟨r2, 0, none⟩ ((n39).toNat * 1)) = some (.int .i64 n41) ∧
   0 ≤ n39 ∧ n39 < ((11 : Nat) : Int) ∧
   stK w7.drew (Addr.add ⟨r4, 0, none⟩ ((n39).toNat * 1)) (.int .i64 (IntKind.i64.wrap (n40 + n41))) fun w8 =>
   ∃ m2, m2 < m1 ∧ I1 (IntKind.i64.wrap (n39 + (1 : Int))) w8 m2)
  (∃ (a12 : Option Addr) (l12 c12 : Nat),
   w7.drew.cell? ⟨r4, 12, none⟩ = some (.slice a12 l12 c12) ∧
   ∃ (a13 : Option Addr) (l13 c13 : Nat),
   w7.drew.cell? ⟨r1, 12, none⟩ = some (.slice a13 l13 c13) ∧
   ∃ (a14 : Option Addr) (l14 c14 : Nat),
   w7.drew.cell? ⟨r2, 12, none⟩ = some (.slice a14 l14 c14) ∧
   rnS Tryz.prog (Builtin.append_ #[23, 23] 23 #[(.slice a12 l12 c12), (.slice a13 l13 c13)]) w7.drew fun e1 w9 => ∃ (a15 : Option Addr) (l15 c15 : Nat),
   e1 = (.slice a15 l15 c15) ∧
   w9.cell? ⟨r2, 12, none⟩ = some (.slice a14 l14 c14) ∧
   rnS Tryz.prog (Builtin.append_ #[23, 23] 23 #[(.slice a15 l15 c15), (.slice a14 l14 c14)]) w9 fun e2 w10 => ∃ (a16 : Option Addr) (l16 c16 : Nat),
   e2 = (.slice a16 l16 c16) ∧
   stK w10 ⟨r4, 12, none⟩ (.slice a16 l16 c16) fun w11 =>
   ∃ (a17 : Option Addr) (l17 c17 : Nat),
   w11.drew.cell? ⟨r4, 14, none⟩ = some (.slice a17 l17 c17) ∧
   ∃ (a18 : Option Addr) (l18 c18 : Nat),
   w11.drew.cell? ⟨r1, 14, none⟩ = some (.slice a18 l18 c18) ∧
   ∃ (a19 : Option Addr) (l19 c19 : Nat),
   w11.drew.cell? ⟨r2, 14, none⟩ = some (.slice a19 l19 c19) ∧
   rnS Tryz.prog (Builtin.append_ #[25, 25] 25 #[(.slice a17 l17 c17), (.slice a18 l18 c18)]) w11.drew fun e3 w12 => ∃ (a20 : Option Addr) (l20 c20 : Nat),
   e3 = (.slice a20 l20 c20) ∧
   w12.cell? ⟨r2, 14, none⟩ = some (.slice a19 l19 c19) ∧
   rnS Tryz.prog (Builtin.append_ #[25, 25] 25 #[(.slice a20 l20 c20), (.slice a19 l19 c19)]) w12 fun e4 w13 => ∃ (a21 : Option Addr) (l21 c21 : Nat),
   e4 = (.slice a21 l21 c21) ∧
   stK w13 ⟨r4, 14, none⟩ (.slice a21 l21 c21) fun w14 =>
   ∃ I2 : Int → World → Nat → Prop, (∃ m3, I2 (0 : Int) w14 m3) ∧
   ∀ (w15 : World) (m3 : Nat) (n42 : Int), I2 n42 w15 m3 → ∀ x2 : Nat → Value,
   ∃ (a22 : Option Addr) (l22 c22 : Nat),
   w15.cell? ⟨r1, 13, none⟩ = some (.slice a22 l22 c22) ∧
   cond (decide (n42 < ((l22 : Nat) : Int)))
   (∃ (a23 : Option Addr) (l23 c23 : Nat),
    w15.drew.cell? ⟨r1, 13, none⟩ = some (.slice a23 l23 c23) ∧
    onSome a23 fun q1 =>
    0 ≤ n42 ∧ n42 < ((l23 : Nat) : Int) ∧
    ∃ (s1 : ByteArray) (n43 : Int) (n44 : Int) (n45 : Int) (b1 : Bool) (a24 : Option Addr) (l24 c24 : Nat),
    cellsAt w15.drew (Addr.add q1 ((n42).toNat * 6)) 0 [(.string s1), (.int .i64 n43), (.int .i64 n44), (.int .i64 n45), (.bool b1), (.slice a24 l24 c24)] ∧
    ∃ (a25 : Option Addr) (l25 c25 : Nat),
    w15.drew.cell? ⟨r2, 13, none⟩ = some (.slice a25 l25 c25) ∧
    onSome a25 fun q2 =>
    0 ≤ n42 ∧ n42 < ((l25 : Nat) : Int) ∧
    ∃ (s2 : ByteArray) (n46 : Int) (n47 : Int) (n48 : Int) (b2 : Bool) (a26 : Option Addr) (l26 c26 : Nat),
    cellsAt w15.drew (Addr.add q2 ((n42).toNat * 6)) 0 [(.string s2), (.int .i64 n46), (.int .i64 n47), (.int .i64 n48), (.bool b2), (.slice a26 l26 c26)] ∧
    (newK w15.drew (.cells #[(.string (bs [])), (.int .i64 (0 : Int)), (.int .i64 (0 : Int)), (.int .i64 (0 : Int)), (.bool false), (.slice none 0 0)] 46) fun r5 w16 =>
     cellsAt w16 (Addr.add q2 ((n42).toNat * 6)) 0 [(.string s2), (.int .i64 n46), (.int .i64 n47), (.int .i64 n48), (.bool b2), (.slice a26 l26 c26)] ∧
     w16.cell? ⟨r2, 13, none⟩ = some (.slice a25 l25 c25) ∧
     cellsAt w16 (Addr.add q1 ((n42).toNat * 6)) 0 [(.string s1), (.int .i64 n43), (.int .i64 n44), (.int .i64 n45), (.bool b1), (.slice a24 l24 c24)] ∧
     w16.cell? ⟨r1, 13, none⟩ = some (.slice a23 l23 c23) ∧
     newK w16 (.cells #[(.string (bs [])), (.int .i64 (0 : Int)), (.int .i64 (0 : Int)), (.int .i64 (0 : Int)), (.bool false), (.slice none 0 0)] 46) fun r6 w17 =>
     cellsAt w17 (Addr.add q2 ((n42).toNat * 6)) 0 [(.string s2), (.int .i64 n46), (.int .i64 n47), (.int .i64 n48), (.bool b2), (.slice a26 l26 c26)] ∧
     w17.cell? ⟨r2, 13, none⟩ = some (.slice a25 l25 c25) ∧
     cellsAt w17 (Addr.add q1 ((n42).toNat * 6)) 0 [(.string s1), (.int .i64 n43), (.int .i64 n44), (.int .i64 n45), (.bool b1), (.slice a24 l24 c24)] ∧
     w17.cell? ⟨r1, 13, none⟩ = some (.slice a23 l23 c23) ∧
     stL ⟨r5, 0, none⟩ 0 [(.string s1), (.int .i64 n43), (.int .i64 n44), (.int .i64 n45), (.bool b1), (.slice a24 l24 c24)] w17 fun w18 =>
     cellsAt w18 (Addr.add q2 ((n42).toNat * 6)) 0 [(.string s2), (.int .i64 n46), (.int .i64 n47), (.int .i64 n48), (.bool b2), (.slice a26 l26 c26)] ∧
     w18.cell? ⟨r2, 13, none⟩ = some (.slice a25 l25 c25) ∧
     stL ⟨r6, 0, none⟩ 0 [(.string s2), (.int .i64 n46), (.int .i64 n47), (.int .i64 n48), (.bool b2), (.slice a26 l26 c26)] w18 fun w19 =>
     ∃ (s3 : ByteArray),
     w19.cell? ⟨r5, 0, none⟩ = some (.string s3) ∧
     ∃ (s4 : ByteArray),
     w19.cell? ⟨r6, 0, none⟩ = some (.string s4) ∧
     cond (!(s3.toList == s4.toList))
     (stL ⟨r3, 0, none⟩ 0 [(.int .i64 (0 : Int)), (.int .i64 (0 : Int)), (.int .i64 (0 : Int)), (.int .i64 (0 : Int)), (.int .i64 (0 : Int)), (.int .i64 (0 : Int)), (.int .i64 (0 : Int)), (.int .i64 (0 : Int)), (.int .i64 (0 : Int)), (.int .i64 (0 : Int)), (.int .i64 (0 : Int)), (.int .i64 (0 : Int)), (.slice none 0 0), (.slice none 0 0), (.slice none 0 0)] w19 fun w20 =>
      ∃ (n49 : Int) (n50 : Int) (n51 : Int) (n52 : Int) (n53 : Int) (n54 : Int) (n55 : Int) (n56 : Int) (n57 : Int) (n58 : Int) (n59 : Int) (n60 : Int) (a27 : Option Addr) (l27 c27 : Nat) (a28 : Option Addr) (l28 c28 : Nat) (a29 : Option Addr) (l29 c29 : Nat),
      cellsAt w20 ⟨r3, 0, none⟩ 0 [(.int .i64 n49), (.int .i64 n50), (.int .i64 n51), (.int .i64 n52), (.int .i64 n53), (.int .i64 n54), (.int .i64 n55), (.int .i64 n56), (.int .i64 n57), (.int .i64 n58), (.int .i64 n59), (.int .i64 n60), (.slice a27 l27 c27), (.slice a28 l28 c28), (.slice a29 l29 c29)] ∧
      K (.tuple #[(.agg #[(.int .i64 n49), (.int .i64 n50), (.int .i64 n51), (.int .i64 n52), (.int .i64 n53), (.int .i64 n54), (.int .i64 n55), (.int .i64 n56), (.int .i64 n57), (.int .i64 n58), (.int .i64 n59), (.int .i64 n60), (.slice a27 l27 c27), (.slice a28 l28 c28), (.slice a29 l29 c29)]), (.int .i64 (2 : Int))]) w20)
     (∃ (s5 : ByteArray),
      w19.cell? ⟨r5, 0, none⟩ = some (.string s5) ∧
      ∃ (n61 : Int),
      w19.cell? ⟨r5, 1, none⟩ = some (.int .i64 n61) ∧
      ∃ (n62 : Int),
      w19.cell? ⟨r6, 1, none⟩ = some (.int .i64 n62) ∧
      ∃ (n63 : Int),
      w19.cell? ⟨r5, 2, none⟩ = some (.int .i64 n63) ∧
      ∃ (n64 : Int),
      w19.cell? ⟨r6, 2, none⟩ = some (.int .i64 n64) ∧
      ∃ (n65 : Int),
      w19.cell? ⟨r5, 3, none⟩ = some (.int .i64 n65) ∧
      ∃ (n66 : Int),
      w19.cell? ⟨r6, 3, none⟩ = some (.int .i64 n66) ∧
      ∃ (b3 : Bool),
      w19.cell? ⟨r5, 4, none⟩ = some (.bool b3) ∧
      cond b3
      (newK w19 (.cells #[(.string (bs [])), (.int .i64 (0 : Int)), (.int .i64 (0 : Int)), (.int .i64 (0 : Int)), (.bool false), (.slice none 0 0)] 46) fun r7 w21 =>
       stL ⟨r7, 0, none⟩ 0 [(.string s5), (.int .i64 (IntKind.i64.wrap (n61 + n62))), (.int .i64 (IntKind.i64.wrap (n63 + n64))), (.int .i64 (IntKind.i64.wrap (n65 + n66))), (.bool true), (.slice none 0 0)] w21 fun w22 =>
       ∃ (a30 : Option Addr) (l30 c30 : Nat),
       w22.drew.cell? ⟨r7, 5, none⟩ = some (.slice a30 l30 c30) ∧
       ∃ (a31 : Option Addr) (l31 c31 : Nat),
       w22.drew.cell? ⟨r5, 5, none⟩ = some (.slice a31 l31 c31) ∧
       ∃ (a32 : Option Addr) (l32 c32 : Nat),
       w22.drew.cell? ⟨r6, 5, none⟩ = some (.slice a32 l32 c32) ∧
       rnS Tryz.prog (Builtin.append_ #[25, 25] 25 #[(.slice a30 l30 c30), (.slice a31 l31 c31)]) w22.drew fun e5 w23 => ∃ (a33 : Option Addr) (l33 c33 : Nat),
       e5 = (.slice a33 l33 c33) ∧
       w23.cell? ⟨r6, 5, none⟩ = some (.slice a32 l32 c32) ∧
       rnS Tryz.prog (Builtin.append_ #[25, 25] 25 #[(.slice a33 l33 c33), (.slice a32 l32 c32)]) w23 fun e6 w24 => ∃ (a34 : Option Addr) (l34 c34 : Nat),
       e6 = (.slice a34 l34 c34) ∧
       stK w24 ⟨r7, 5, none⟩ (.slice a34 l34 c34) fun w25 =>
       ∃ (a35 : Option Addr) (l35 c35 : Nat),
       w25.cell? ⟨r4, 13, none⟩ = some (.slice a35 l35 c35) ∧
       ∃ (s6 : ByteArray) (n67 : Int) (n68 : Int) (n69 : Int) (b4 : Bool) (a36 : Option Addr) (l36 c36 : Nat),
       cellsAt w25 ⟨r7, 0, none⟩ 0 [(.string s6), (.int .i64 n67), (.int .i64 n68), (.int .i64 n69), (.bool b4), (.slice a36 l36 c36)] ∧
       newK w25 (.cells #[(.string s6), (.int .i64 n67), (.int .i64 n68), (.int .i64 n69), (.bool b4), (.slice a36 l36 c36)] 46) fun r8 w26 =>
       rnS Tryz.prog (Builtin.append_ #[29, 29] 29 #[(.slice a35 l35 c35), (.slice (some ⟨r8, 0, none⟩) 1 1)]) w26 fun e7 w27 => ∃ (a37 : Option Addr) (l37 c37 : Nat),
       e7 = (.slice a37 l37 c37) ∧
       stK w27 ⟨r4, 13, none⟩ (.slice a37 l37 c37) fun w28 =>
       ∃ m4, m4 < m3 ∧ I2 (IntKind.i64.wrap (n42 + (1 : Int))) w28 m4)
      (∃ (b5 : Bool),
       w19.cell? ⟨r6, 4, none⟩ = some (.bool b5) ∧
       newK w19 (.cells #[(.string (bs [])), (.int .i64 (0 : Int)), (.int .i64 (0 : Int)), (.int .i64 (0 : Int)), (.bool false), (.slice none 0 0)] 46) fun r9 w29 =>
       stL ⟨r9, 0, none⟩ 0 [(.string s5), (.int .i64 (IntKind.i64.wrap (n61 + n62))), (.int .i64 (IntKind.i64.wrap (n63 + n64))), (.int .i64 (IntKind.i64.wrap (n65 + n66))), (.bool b5), (.slice none 0 0)] w29 fun w30 =>
       ∃ (a38 : Option Addr) (l38 c38 : Nat),
       w30.drew.cell? ⟨r9, 5, none⟩ = some (.slice a38 l38 c38) ∧
       ∃ (a39 : Option Addr) (l39 c39 : Nat),
       w30.drew.cell? ⟨r5, 5, none⟩ = some (.slice a39 l39 c39) ∧
       ∃ (a40 : Option Addr) (l40 c40 : Nat),
       w30.drew.cell? ⟨r6, 5, none⟩ = some (.slice a40 l40 c40) ∧
       rnS Tryz.prog (Builtin.append_ #[25, 25] 25 #[(.slice a38 l38 c38), (.slice a39 l39 c39)]) w30.drew fun e8 w31 => ∃ (a41 : Option Addr) (l41 c41 : Nat),
       e8 = (.slice a41 l41 c41) ∧
       w31.cell? ⟨r6, 5, none⟩ = some (.slice a40 l40 c40) ∧
       rnS Tryz.prog (Builtin.append_ #[25, 25] 25 #[(.slice a41 l41 c41), (.slice a40 l40 c40)]) w31 fun e9 w32 => ∃ (a42 : Option Addr) (l42 c42 : Nat),
       e9 = (.slice a42 l42 c42) ∧
       stK w32 ⟨r9, 5, none⟩ (.slice a42 l42 c42) fun w33 =>
       ∃ (a43 : Option Addr) (l43 c43 : Nat),
       w33.cell? ⟨r4, 13, none⟩ = some (.slice a43 l43 c43) ∧
       ∃ (s7 : ByteArray) (n70 : Int) (n71 : Int) (n72 : Int) (b6 : Bool) (a44 : Option Addr) (l44 c44 : Nat),
       cellsAt w33 ⟨r9, 0, none⟩ 0 [(.string s7), (.int .i64 n70), (.int .i64 n71), (.int .i64 n72), (.bool b6), (.slice a44 l44 c44)] ∧
       newK w33 (.cells #[(.string s7), (.int .i64 n70), (.int .i64 n71), (.int .i64 n72), (.bool b6), (.slice a44 l44 c44)] 46) fun r10 w34 =>
       rnS Tryz.prog (Builtin.append_ #[29, 29] 29 #[(.slice a43 l43 c43), (.slice (some ⟨r10, 0, none⟩) 1 1)]) w34 fun e10 w35 => ∃ (a45 : Option Addr) (l45 c45 : Nat),
       e10 = (.slice a45 l45 c45) ∧
       stK w35 ⟨r4, 13, none⟩ (.slice a45 l45 c45) fun w36 =>
       ∃ m4, m4 < m3 ∧ I2 (IntKind.i64.wrap (n42 + (1 : Int))) w36 m4))) ∧
    newK w15.drew (.cells #[(.string (bs [])), (.int .i64 (0 : Int)), (.int .i64 (0 : Int)), (.int .i64 (0 : Int)), (.bool false), (.slice none 0 0)] 46) fun r11 w37 =>
    cellsAt w37 (Addr.add q2 ((n42).toNat * 6)) 0 [(.string s2), (.int .i64 n46), (.int .i64 n47), (.int .i64 n48), (.bool b2), (.slice a26 l26 c26)] ∧
    w37.cell? ⟨r2, 13, none⟩ = some (.slice a25 l25 c25) ∧
    cellsAt w37 (Addr.add q1 ((n42).toNat * 6)) 0 [(.string s1), (.int .i64 n43), (.int .i64 n44), (.int .i64 n45), (.bool b1), (.slice a24 l24 c24)] ∧
    w37.cell? ⟨r1, 13, none⟩ = some (.slice a23 l23 c23) ∧
    newK w37 (.cells #[(.string (bs [])), (.int .i64 (0 : Int)), (.int .i64 (0 : Int)), (.int .i64 (0 : Int)), (.bool false), (.slice none 0 0)] 46) fun r12 w38 =>
    cellsAt w38 (Addr.add q2 ((n42).toNat * 6)) 0 [(.string s2), (.int .i64 n46), (.int .i64 n47), (.int .i64 n48), (.bool b2), (.slice a26 l26 c26)] ∧
    w38.cell? ⟨r2, 13, none⟩ = some (.slice a25 l25 c25) ∧
    cellsAt w38 (Addr.add q1 ((n42).toNat * 6)) 0 [(.string s1), (.int .i64 n43), (.int .i64 n44), (.int .i64 n45), (.bool b1), (.slice a24 l24 c24)] ∧
    w38.cell? ⟨r1, 13, none⟩ = some (.slice a23 l23 c23) ∧
    stL ⟨r12, 0, none⟩ 0 [(.string s1), (.int .i64 n43), (.int .i64 n44), (.int .i64 n45), (.bool b1), (.slice a24 l24 c24)] w38 fun w39 =>
    cellsAt w39 (Addr.add q2 ((n42).toNat * 6)) 0 [(.string s2), (.int .i64 n46), (.int .i64 n47), (.int .i64 n48), (.bool b2), (.slice a26 l26 c26)] ∧
    w39.cell? ⟨r2, 13, none⟩ = some (.slice a25 l25 c25) ∧
    stL ⟨r11, 0, none⟩ 0 [(.string s2), (.int .i64 n46), (.int .i64 n47), (.int .i64 n48), (.bool b2), (.slice a26 l26 c26)] w39 fun w40 =>
    ∃ (s8 : ByteArray),
    w40.cell? ⟨r12, 0, none⟩ = some (.string s8) ∧
    ∃ (s9 : ByteArray),
    w40.cell? ⟨r11, 0, none⟩ = some (.string s9) ∧
    cond (!(s8.toList == s9.toList))
    (stL ⟨r3, 0, none⟩ 0 [(.int .i64 (0 : Int)), (.int .i64 (0 : Int)), (.int .i64 (0 : Int)), (.int .i64 (0 : Int)), (.int .i64 (0 : Int)), (.int .i64 (0 : Int)), (.int .i64 (0 : Int)), (.int .i64 (0 : Int)), (.int .i64 (0 : Int)), (.int .i64 (0 : Int)), (.int .i64 (0 : Int)), (.int .i64 (0 : Int)), (.slice none 0 0), (.slice none 0 0), (.slice none 0 0)] w40 fun w41 =>
     ∃ (n73 : Int) (n74 : Int) (n75 : Int) (n76 : Int) (n77 : Int) (n78 : Int) (n79 : Int) (n80 : Int) (n81 : Int) (n82 : Int) (n83 : Int) (n84 : Int) (a46 : Option Addr) (l46 c46 : Nat) (a47 : Option Addr) (l47 c47 : Nat) (a48 : Option Addr) (l48 c48 : Nat),
     cellsAt w41 ⟨r3, 0, none⟩ 0 [(.int .i64 n73), (.int .i64 n74), (.int .i64 n75), (.int .i64 n76), (.int .i64 n77), (.int .i64 n78), (.int .i64 n79), (.int .i64 n80), (.int .i64 n81), (.int .i64 n82), (.int .i64 n83), (.int .i64 n84), (.slice a46 l46 c46), (.slice a47 l47 c47), (.slice a48 l48 c48)] ∧
     K (.tuple #[(.agg #[(.int .i64 n73), (.int .i64 n74), (.int .i64 n75), (.int .i64 n76), (.int .i64 n77), (.int .i64 n78), (.int .i64 n79), (.int .i64 n80), (.int .i64 n81), (.int .i64 n82), (.int .i64 n83), (.int .i64 n84), (.slice a46 l46 c46), (.slice a47 l47 c47), (.slice a48 l48 c48)]), (.int .i64 (2 : Int))]) w41)
    (∃ (s10 : ByteArray),
     w40.cell? ⟨r12, 0, none⟩ = some (.string s10) ∧
     ∃ (n85 : Int),
     w40.cell? ⟨r12, 1, none⟩ = some (.int .i64 n85) ∧
     ∃ (n86 : Int),
     w40.cell? ⟨r11, 1, none⟩ = some (.int .i64 n86) ∧
     ∃ (n87 : Int),
     w40.cell? ⟨r12, 2, none⟩ = some (.int .i64 n87) ∧
     ∃ (n88 : Int),
     w40.cell? ⟨r11, 2, none⟩ = some (.int .i64 n88) ∧
     ∃ (n89 : Int),
     w40.cell? ⟨r12, 3, none⟩ = some (.int .i64 n89) ∧
     ∃ (n90 : Int),
     w40.cell? ⟨r11, 3, none⟩ = some (.int .i64 n90) ∧
     ∃ (b7 : Bool),
     w40.cell? ⟨r12, 4, none⟩ = some (.bool b7) ∧
     cond b7
     (newK w40 (.cells #[(.string (bs [])), (.int .i64 (0 : Int)), (.int .i64 (0 : Int)), (.int .i64 (0 : Int)), (.bool false), (.slice none 0 0)] 46) fun r13 w42 =>
      stL ⟨r13, 0, none⟩ 0 [(.string s10), (.int .i64 (IntKind.i64.wrap (n85 + n86))), (.int .i64 (IntKind.i64.wrap (n87 + n88))), (.int .i64 (IntKind.i64.wrap (n89 + n90))), (.bool true), (.slice none 0 0)] w42 fun w43 =>
      ∃ (a49 : Option Addr) (l49 c49 : Nat),
      w43.drew.cell? ⟨r13, 5, none⟩ = some (.slice a49 l49 c49) ∧
      ∃ (a50 : Option Addr) (l50 c50 : Nat),
      w43.drew.cell? ⟨r12, 5, none⟩ = some (.slice a50 l50 c50) ∧
      ∃ (a51 : Option Addr) (l51 c51 : Nat),
      w43.drew.cell? ⟨r11, 5, none⟩ = some (.slice a51 l51 c51) ∧
      rnS Tryz.prog (Builtin.append_ #[25, 25] 25 #[(.slice a49 l49 c49), (.slice a50 l50 c50)]) w43.drew fun e11 w44 => ∃ (a52 : Option Addr) (l52 c52 : Nat),
      e11 = (.slice a52 l52 c52) ∧
      w44.cell? ⟨r11, 5, none⟩ = some (.slice a51 l51 c51) ∧
      rnS Tryz.prog (Builtin.append_ #[25, 25] 25 #[(.slice a52 l52 c52), (.slice a51 l51 c51)]) w44 fun e12 w45 => ∃ (a53 : Option Addr) (l53 c53 : Nat),
      e12 = (.slice a53 l53 c53) ∧
      stK w45 ⟨r13, 5, none⟩ (.slice a53 l53 c53) fun w46 =>
      ∃ (a54 : Option Addr) (l54 c54 : Nat),
      w46.cell? ⟨r4, 13, none⟩ = some (.slice a54 l54 c54) ∧
      ∃ (s11 : ByteArray) (n91 : Int) (n92 : Int) (n93 : Int) (b8 : Bool) (a55 : Option Addr) (l55 c55 : Nat),
      cellsAt w46 ⟨r13, 0, none⟩ 0 [(.string s11), (.int .i64 n91), (.int .i64 n92), (.int .i64 n93), (.bool b8), (.slice a55 l55 c55)] ∧
      newK w46 (.cells #[(.string s11), (.int .i64 n91), (.int .i64 n92), (.int .i64 n93), (.bool b8), (.slice a55 l55 c55)] 46) fun r14 w47 =>
      rnS Tryz.prog (Builtin.append_ #[29, 29] 29 #[(.slice a54 l54 c54), (.slice (some ⟨r14, 0, none⟩) 1 1)]) w47 fun e13 w48 => ∃ (a56 : Option Addr) (l56 c56 : Nat),
      e13 = (.slice a56 l56 c56) ∧
      stK w48 ⟨r4, 13, none⟩ (.slice a56 l56 c56) fun w49 =>
      ∃ m4, m4 < m3 ∧ I2 (IntKind.i64.wrap (n42 + (1 : Int))) w49 m4)
     (∃ (b9 : Bool),
      w40.cell? ⟨r11, 4, none⟩ = some (.bool b9) ∧
      newK w40 (.cells #[(.string (bs [])), (.int .i64 (0 : Int)), (.int .i64 (0 : Int)), (.int .i64 (0 : Int)), (.bool false), (.slice none 0 0)] 46) fun r15 w50 =>
      stL ⟨r15, 0, none⟩ 0 [(.string s10), (.int .i64 (IntKind.i64.wrap (n85 + n86))), (.int .i64 (IntKind.i64.wrap (n87 + n88))), (.int .i64 (IntKind.i64.wrap (n89 + n90))), (.bool b9), (.slice none 0 0)] w50 fun w51 =>
      ∃ (a57 : Option Addr) (l57 c57 : Nat),
      w51.drew.cell? ⟨r15, 5, none⟩ = some (.slice a57 l57 c57) ∧
      ∃ (a58 : Option Addr) (l58 c58 : Nat),
      w51.drew.cell? ⟨r12, 5, none⟩ = some (.slice a58 l58 c58) ∧
      ∃ (a59 : Option Addr) (l59 c59 : Nat),
      w51.drew.cell? ⟨r11, 5, none⟩ = some (.slice a59 l59 c59) ∧
      rnS Tryz.prog (Builtin.append_ #[25, 25] 25 #[(.slice a57 l57 c57), (.slice a58 l58 c58)]) w51.drew fun e14 w52 => ∃ (a60 : Option Addr) (l60 c60 : Nat),
      e14 = (.slice a60 l60 c60) ∧
      w52.cell? ⟨r11, 5, none⟩ = some (.slice a59 l59 c59) ∧
      rnS Tryz.prog (Builtin.append_ #[25, 25] 25 #[(.slice a60 l60 c60), (.slice a59 l59 c59)]) w52 fun e15 w53 => ∃ (a61 : Option Addr) (l61 c61 : Nat),
      e15 = (.slice a61 l61 c61) ∧
      stK w53 ⟨r15, 5, none⟩ (.slice a61 l61 c61) fun w54 =>
      ∃ (a62 : Option Addr) (l62 c62 : Nat),
      w54.cell? ⟨r4, 13, none⟩ = some (.slice a62 l62 c62) ∧
      ∃ (s12 : ByteArray) (n94 : Int) (n95 : Int) (n96 : Int) (b10 : Bool) (a63 : Option Addr) (l63 c63 : Nat),
      cellsAt w54 ⟨r15, 0, none⟩ 0 [(.string s12), (.int .i64 n94), (.int .i64 n95), (.int .i64 n96), (.bool b10), (.slice a63 l63 c63)] ∧
      newK w54 (.cells #[(.string s12), (.int .i64 n94), (.int .i64 n95), (.int .i64 n96), (.bool b10), (.slice a63 l63 c63)] 46) fun r16 w55 =>
      rnS Tryz.prog (Builtin.append_ #[29, 29] 29 #[(.slice a62 l62 c62), (.slice (some ⟨r16, 0, none⟩) 1 1)]) w55 fun e16 w56 => ∃ (a64 : Option Addr) (l64 c64 : Nat),
      e16 = (.slice a64 l64 c64) ∧
      stK w56 ⟨r4, 13, none⟩ (.slice a64 l64 c64) fun w57 =>
      ∃ m4, m4 < m3 ∧ I2 (IntKind.i64.wrap (n42 + (1 : Int))) w57 m4)))
   (∃ (n97 : Int) (n98 : Int) (n99 : Int) (n100 : Int) (n101 : Int) (n102 : Int) (n103 : Int) (n104 : Int) (n105 : Int) (n106 : Int) (n107 : Int) (n108 : Int) (a65 : Option Addr) (l65 c65 : Nat) (a66 : Option Addr) (l66 c66 : Nat) (a67 : Option Addr) (l67 c67 : Nat),
    cellsAt w15 ⟨r4, 0, none⟩ 0 [(.int .i64 n97), (.int .i64 n98), (.int .i64 n99), (.int .i64 n100), (.int .i64 n101), (.int .i64 n102), (.int .i64 n103), (.int .i64 n104), (.int .i64 n105), (.int .i64 n106), (.int .i64 n107), (.int .i64 n108), (.slice a65 l65 c65), (.slice a66 l66 c66), (.slice a67 l67 c67)] ∧
    stL ⟨r3, 0, none⟩ 0 [(.int .i64 n97), (.int .i64 n98), (.int .i64 n99), (.int .i64 n100), (.int .i64 n101), (.int .i64 n102), (.int .i64 n103), (.int .i64 n104), (.int .i64 n105), (.int .i64 n106), (.int .i64 n107), (.int .i64 n108), (.slice a65 l65 c65), (.slice a66 l66 c66), (.slice a67 l67 c67)] w15 fun w58 =>
    ∃ (n109 : Int) (n110 : Int) (n111 : Int) (n112 : Int) (n113 : Int) (n114 : Int) (n115 : Int) (n116 : Int) (n117 : Int) (n118 : Int) (n119 : Int) (n120 : Int) (a68 : Option Addr) (l68 c68 : Nat) (a69 : Option Addr) (l69 c69 : Nat) (a70 : Option Addr) (l70 c70 : Nat),
    cellsAt w58 ⟨r3, 0, none⟩ 0 [(.int .i64 n109), (.int .i64 n110), (.int .i64 n111), (.int .i64 n112), (.int .i64 n113), (.int .i64 n114), (.int .i64 n115), (.int .i64 n116), (.int .i64 n117), (.int .i64 n118), (.int .i64 n119), (.int .i64 n120), (.slice a68 l68 c68), (.slice a69 l69 c69), (.slice a70 l70 c70)] ∧
    K (.tuple #[(.agg #[(.int .i64 n109), (.int .i64 n110), (.int .i64 n111), (.int .i64 n112), (.int .i64 n113), (.int .i64 n114), (.int .i64 n115), (.int .i64 n116), (.int .i64 n117), (.int .i64 n118), (.int .i64 n119), (.int .i64 n120), (.slice a68 l68 c68), (.slice a69 l69 c69), (.slice a70 l70 c70)]), (.int .i64 (0 : Int))]) w58)))
def qMerge_ann : List (Nat × Live) := [(122, [(7, .s (.int .i64))]), (1018, [(8, .s (.int .i64))])]
theorem qMerge_ok {n1 : Int} {n2 : Int} {n3 : Int} {n4 : Int} {n5 : Int} {n6 : Int} {n7 : Int} {n8 : Int} {n9 : Int} {n10 : Int} {n11 : Int} {n12 : Int} {a1 : Option Addr} {l1 c1 : Nat} {a2 : Option Addr} {l2 c2 : Nat} {a3 : Option Addr} {l3 c3 : Nat} {n13 : Int} {n14 : Int} {n15 : Int} {n16 : Int} {n17 : Int} {n18 : Int} {n19 : Int} {n20 : Int} {n21 : Int} {n22 : Int} {n23 : Int} {n24 : Int} {a4 : Option Addr} {l4 c4 : Nat} {a5 : Option Addr} {l5 c5 : Nat} {a6 : Option Addr} {l6 c6 : Nat} {w : World} {K : Value → World → Prop} (h : qMerge n1 n2 n3 n4 n5 n6 n7 n8 n9 n10 n11 n12 a1 l1 c1 a2 l2 c2 a3 l3 c3 n13 n14 n15 n16 n17 n18 n19 n20 n21 n22 n23 n24 a4 l4 c4 a5 l5 c5 a6 l6 c6 w K) : Calls Tryz.prog 11 #[(.agg #[(.int .i64 n1), (.int .i64 n2), (.int .i64 n3), (.int .i64 n4), (.int .i64 n5), (.int .i64 n6), (.int .i64 n7), (.int .i64 n8), (.int .i64 n9), (.int .i64 n10), (.int .i64 n11), (.int .i64 n12), (.slice a1 l1 c1), (.slice a2 l2 c2), (.slice a3 l3 c3)]), (.agg #[(.int .i64 n13), (.int .i64 n14), (.int .i64 n15), (.int .i64 n16), (.int .i64 n17), (.int .i64 n18), (.int .i64 n19), (.int .i64 n20), (.int .i64 n21), (.int .i64 n22), (.int .i64 n23), (.int .i64 n24), (.slice a4 l4 c4), (.slice a5 l5 c5), (.slice a6 l6 c6)])] w fun e w' => ∃ v, e = .returned v ∧ K v w' :=
  calls_sh (annL qMerge_ann) Tryz.func11 (by kernel_rfl) (args := [(.agg #[(.int .i64 n1), (.int .i64 n2), (.int .i64 n3), (.int .i64 n4), (.int .i64 n5), (.int .i64 n6), (.int .i64 n7), (.int .i64 n8), (.int .i64 n9), (.int .i64 n10), (.int .i64 n11), (.int .i64 n12), (.slice a1 l1 c1), (.slice a2 l2 c2), (.slice a3 l3 c3)]), (.agg #[(.int .i64 n13), (.int .i64 n14), (.int .i64 n15), (.int .i64 n16), (.int .i64 n17), (.int .i64 n18), (.int .i64 n19), (.int .i64 n20), (.int .i64 n21), (.int .i64 n22), (.int .i64 n23), (.int .i64 n24), (.slice a4 l4 c4), (.slice a5 l5 c5), (.slice a6 l6 c6)])]) (by kernel_rfl) h

-- saleroom/saleroomref55.sameInts
def qSameInts (a1 : Option Addr) (l1 c1 : Nat) (a2 : Option Addr) (l2 c2 : Nat) (w : World) (K : Value → World → Prop) : Prop :=
 cond (((l1 : Nat) : Int) != ((l2 : Nat) : Int))
 (K (.bool false) w)
 (∃ I1 : Int → World → Nat → Prop, (∃ m1, I1 (0 : Int) w m1) ∧
  ∀ (w1 : World) (m1 : Nat) (n1 : Int), I1 n1 w1 m1 → ∀ x1 : Nat → Value,
  cond (decide (n1 < ((l1 : Nat) : Int)))
  (onSome a1 fun q1 =>
   0 ≤ n1 ∧ n1 < ((l1 : Nat) : Int) ∧
   ∃ (n2 : Int),
   w1.drew.cell? (Addr.add q1 ((n1).toNat * 1)) = some (.int .i64 n2) ∧
   onSome a2 fun q2 =>
   0 ≤ n1 ∧ n1 < ((l2 : Nat) : Int) ∧
   ∃ (n3 : Int),
   w1.drew.cell? (Addr.add q2 ((n1).toNat * 1)) = some (.int .i64 n3) ∧
   cond (n2 != n3)
   (K (.bool false) w1.drew)
   (∃ m2, m2 < m1 ∧ I1 (IntKind.i64.wrap (n1 + (1 : Int))) w1.drew m2))
  (K (.bool true) w1))
def qSameInts_ann : List (Nat × Live) := [(58, [(5, .s (.int .i64))])]
theorem qSameInts_ok {a1 : Option Addr} {l1 c1 : Nat} {a2 : Option Addr} {l2 c2 : Nat} {w : World} {K : Value → World → Prop} (h : qSameInts a1 l1 c1 a2 l2 c2 w K) : Calls Tryz.prog 28 #[(.slice a1 l1 c1), (.slice a2 l2 c2)] w fun e w' => ∃ v, e = .returned v ∧ K v w' :=
  calls_sh (annL qSameInts_ann) Tryz.func28 (by kernel_rfl) (args := [(.slice a1 l1 c1), (.slice a2 l2 c2)]) (by kernel_rfl) h

-- saleroom/saleroomref55.Same
def qSame (n1 : Int) (n2 : Int) (n3 : Int) (n4 : Int) (n5 : Int) (n6 : Int) (n7 : Int) (n8 : Int) (n9 : Int) (n10 : Int) (n11 : Int) (n12 : Int) (a1 : Option Addr) (l1 c1 : Nat) (a2 : Option Addr) (l2 c2 : Nat) (a3 : Option Addr) (l3 c3 : Nat) (n13 : Int) (n14 : Int) (n15 : Int) (n16 : Int) (n17 : Int) (n18 : Int) (n19 : Int) (n20 : Int) (n21 : Int) (n22 : Int) (n23 : Int) (n24 : Int) (a4 : Option Addr) (l4 c4 : Nat) (a5 : Option Addr) (l5 c5 : Nat) (a6 : Option Addr) (l6 c6 : Nat) (w : World) (K : Value → World → Prop) : Prop :=
 newK w (.cells #[(.int .i64 n1), (.int .i64 n2), (.int .i64 n3), (.int .i64 n4), (.int .i64 n5), (.int .i64 n6), (.int .i64 n7), (.int .i64 n8), (.int .i64 n9), (.int .i64 n10), (.int .i64 n11), (.int .i64 n12), (.slice a1 l1 c1), (.slice a2 l2 c2), (.slice a3 l3 c3)] 31) fun r1 w1 =>
 newK w1 (.cells #[(.int .i64 n13), (.int .i64 n14), (.int .i64 n15), (.int .i64 n16), (.int .i64 n17), (.int .i64 n18), (.int .i64 n19), (.int .i64 n20), (.int .i64 n21), (.int .i64 n22), (.int .i64 n23), (.int .i64 n24), (.slice a4 l4 c4), (.slice a5 l5 c5), (.slice a6 l6 c6)] 31) fun r2 w2 =>
 ∃ J1 : Bool → World → Prop, (∀ (w3 : World) (b1 : Bool), J1 b1 w3 → ∀ x1 : Nat → Value,
  cond b1
  (K (.bool false) w3)
  (∃ I1 : Int → World → Nat → Prop, (∃ m1, I1 (0 : Int) w3 m1) ∧
   ∀ (w4 : World) (m1 : Nat) (n25 : Int), I1 n25 w4 m1 → ∀ x2 : Nat → Value,
   ∃ (a7 : Option Addr) (l7 c7 : Nat),
   w4.cell? ⟨r1, 12, none⟩ = some (.slice a7 l7 c7) ∧
   cond (decide (n25 < ((l7 : Nat) : Int)))
   (∃ (a8 : Option Addr) (l8 c8 : Nat),
    w4.drew.cell? ⟨r1, 12, none⟩ = some (.slice a8 l8 c8) ∧
    onSome a8 fun q1 =>
    0 ≤ n25 ∧ n25 < ((l8 : Nat) : Int) ∧
    ∃ (n26 : Int) (n27 : Int) (n28 : Int) (n29 : Int) (n30 : Int) (n31 : Int),
    cellsAt w4.drew (Addr.add q1 ((n25).toNat * 6)) 0 [(.int .i64 n26), (.int .i64 n27), (.int .i64 n28), (.int .i64 n29), (.int .i64 n30), (.int .i64 n31)] ∧
    ∃ (a9 : Option Addr) (l9 c9 : Nat),
    w4.drew.cell? ⟨r2, 12, none⟩ = some (.slice a9 l9 c9) ∧
    onSome a9 fun q2 =>
    0 ≤ n25 ∧ n25 < ((l9 : Nat) : Int) ∧
    ∃ (n32 : Int) (n33 : Int) (n34 : Int) (n35 : Int) (n36 : Int) (n37 : Int),
    cellsAt w4.drew (Addr.add q2 ((n25).toNat * 6)) 0 [(.int .i64 n32), (.int .i64 n33), (.int .i64 n34), (.int .i64 n35), (.int .i64 n36), (.int .i64 n37)] ∧
    cond (!((n26 == n32) && ((n27 == n33) && ((n28 == n34) && ((n29 == n35) && ((n30 == n36) && ((n31 == n37) && true)))))))
    (K (.bool false) w4.drew)
    (∃ m2, m2 < m1 ∧ I1 (IntKind.i64.wrap (n25 + (1 : Int))) w4.drew m2))
   (∃ I2 : Int → World → Nat → Prop, (∃ m3, I2 (0 : Int) w4 m3) ∧
    ∀ (w5 : World) (m3 : Nat) (n38 : Int), I2 n38 w5 m3 → ∀ x3 : Nat → Value,
    ∃ (a10 : Option Addr) (l10 c10 : Nat),
    w5.cell? ⟨r1, 13, none⟩ = some (.slice a10 l10 c10) ∧
    cond (decide (n38 < ((l10 : Nat) : Int)))
    (∃ (a11 : Option Addr) (l11 c11 : Nat),
     w5.drew.cell? ⟨r1, 13, none⟩ = some (.slice a11 l11 c11) ∧
     onSome a11 fun q3 =>
     0 ≤ n38 ∧ n38 < ((l11 : Nat) : Int) ∧
     ∃ (s1 : ByteArray) (n39 : Int) (n40 : Int) (n41 : Int) (b2 : Bool) (a12 : Option Addr) (l12 c12 : Nat),
     cellsAt w5.drew (Addr.add q3 ((n38).toNat * 6)) 0 [(.string s1), (.int .i64 n39), (.int .i64 n40), (.int .i64 n41), (.bool b2), (.slice a12 l12 c12)] ∧
     ∃ (a13 : Option Addr) (l13 c13 : Nat),
     w5.drew.cell? ⟨r2, 13, none⟩ = some (.slice a13 l13 c13) ∧
     onSome a13 fun q4 =>
     0 ≤ n38 ∧ n38 < ((l13 : Nat) : Int) ∧
     ∃ (s2 : ByteArray) (n42 : Int) (n43 : Int) (n44 : Int) (b3 : Bool) (a14 : Option Addr) (l14 c14 : Nat),
     cellsAt w5.drew (Addr.add q4 ((n38).toNat * 6)) 0 [(.string s2), (.int .i64 n42), (.int .i64 n43), (.int .i64 n44), (.bool b3), (.slice a14 l14 c14)] ∧
     (newK w5.drew (.cells #[(.string (bs [])), (.int .i64 (0 : Int)), (.int .i64 (0 : Int)), (.int .i64 (0 : Int)), (.bool false), (.slice none 0 0)] 46) fun r3 w6 =>
      cellsAt w6 (Addr.add q4 ((n38).toNat * 6)) 0 [(.string s2), (.int .i64 n42), (.int .i64 n43), (.int .i64 n44), (.bool b3), (.slice a14 l14 c14)] ∧
      w6.cell? ⟨r2, 13, none⟩ = some (.slice a13 l13 c13) ∧
      cellsAt w6 (Addr.add q3 ((n38).toNat * 6)) 0 [(.string s1), (.int .i64 n39), (.int .i64 n40), (.int .i64 n41), (.bool b2), (.slice a12 l12 c12)] ∧
      w6.cell? ⟨r1, 13, none⟩ = some (.slice a11 l11 c11) ∧
      newK w6 (.cells #[(.string (bs [])), (.int .i64 (0 : Int)), (.int .i64 (0 : Int)), (.int .i64 (0 : Int)), (.bool false), (.slice none 0 0)] 46) fun r4 w7 =>
      cellsAt w7 (Addr.add q4 ((n38).toNat * 6)) 0 [(.string s2), (.int .i64 n42), (.int .i64 n43), (.int .i64 n44), (.bool b3), (.slice a14 l14 c14)] ∧
      w7.cell? ⟨r2, 13, none⟩ = some (.slice a13 l13 c13) ∧
      cellsAt w7 (Addr.add q3 ((n38).toNat * 6)) 0 [(.string s1), (.int .i64 n39), (.int .i64 n40), (.int .i64 n41), (.bool b2), (.slice a12 l12 c12)] ∧
      w7.cell? ⟨r1, 13, none⟩ = some (.slice a11 l11 c11) ∧
      stL ⟨r3, 0, none⟩ 0 [(.string s1), (.int .i64 n39), (.int .i64 n40), (.int .i64 n41), (.bool b2), (.slice a12 l12 c12)] w7 fun w8 =>
      cellsAt w8 (Addr.add q4 ((n38).toNat * 6)) 0 [(.string s2), (.int .i64 n42), (.int .i64 n43), (.int .i64 n44), (.bool b3), (.slice a14 l14 c14)] ∧
      w8.cell? ⟨r2, 13, none⟩ = some (.slice a13 l13 c13) ∧
      stL ⟨r4, 0, none⟩ 0 [(.string s2), (.int .i64 n42), (.int .i64 n43), (.int .i64 n44), (.bool b3), (.slice a14 l14 c14)] w8 fun w9 =>
      ∃ J2 : Bool → World → Prop, (∀ (w10 : World) (b4 : Bool), J2 b4 w10 → ∀ x4 : Nat → Value,
       cond b4
       (K (.bool false) w10)
       (∃ m4, m4 < m3 ∧ I2 (IntKind.i64.wrap (n38 + (1 : Int))) w10 m4)) ∧
      ∃ (s3 : ByteArray),
      w9.cell? ⟨r3, 0, none⟩ = some (.string s3) ∧
      ∃ (s4 : ByteArray),
      w9.cell? ⟨r4, 0, none⟩ = some (.string s4) ∧
      cond (!(s3.toList == s4.toList))
      (J2 true w9)
      (∃ (n45 : Int),
       w9.cell? ⟨r3, 1, none⟩ = some (.int .i64 n45) ∧
       ∃ (n46 : Int),
       w9.cell? ⟨r4, 1, none⟩ = some (.int .i64 n46) ∧
       cond (n45 != n46)
       (J2 true w9)
       (∃ (n47 : Int),
        w9.cell? ⟨r3, 2, none⟩ = some (.int .i64 n47) ∧
        ∃ (n48 : Int),
        w9.cell? ⟨r4, 2, none⟩ = some (.int .i64 n48) ∧
        cond (n47 != n48)
        (J2 true w9)
        (∃ (n49 : Int),
         w9.cell? ⟨r3, 3, none⟩ = some (.int .i64 n49) ∧
         ∃ (n50 : Int),
         w9.cell? ⟨r4, 3, none⟩ = some (.int .i64 n50) ∧
         cond (n49 != n50)
         (J2 true w9)
         (∃ (b5 : Bool),
          w9.cell? ⟨r3, 4, none⟩ = some (.bool b5) ∧
          ∃ (b6 : Bool),
          w9.cell? ⟨r4, 4, none⟩ = some (.bool b6) ∧
          cond (!(b5 == b6))
          (J2 true w9)
          (∃ (a15 : Option Addr) (l15 c15 : Nat),
           w9.cell? ⟨r3, 5, none⟩ = some (.slice a15 l15 c15) ∧
           ∃ (a16 : Option Addr) (l16 c16 : Nat),
           w9.cell? ⟨r4, 5, none⟩ = some (.slice a16 l16 c16) ∧
           Calls Tryz.prog 28 #[(.slice a15 l15 c15), (.slice a16 l16 c16)] w9 fun e1 w11 => ∃ (b7 : Bool),
           e1 = .returned (.bool b7) ∧
           J2 (!b7) w11)))))) ∧
     newK w5.drew (.cells #[(.string (bs [])), (.int .i64 (0 : Int)), (.int .i64 (0 : Int)), (.int .i64 (0 : Int)), (.bool false), (.slice none 0 0)] 46) fun r5 w12 =>
     cellsAt w12 (Addr.add q4 ((n38).toNat * 6)) 0 [(.string s2), (.int .i64 n42), (.int .i64 n43), (.int .i64 n44), (.bool b3), (.slice a14 l14 c14)] ∧
     w12.cell? ⟨r2, 13, none⟩ = some (.slice a13 l13 c13) ∧
     cellsAt w12 (Addr.add q3 ((n38).toNat * 6)) 0 [(.string s1), (.int .i64 n39), (.int .i64 n40), (.int .i64 n41), (.bool b2), (.slice a12 l12 c12)] ∧
     w12.cell? ⟨r1, 13, none⟩ = some (.slice a11 l11 c11) ∧
     newK w12 (.cells #[(.string (bs [])), (.int .i64 (0 : Int)), (.int .i64 (0 : Int)), (.int .i64 (0 : Int)), (.bool false), (.slice none 0 0)] 46) fun r6 w13 =>
     cellsAt w13 (Addr.add q4 ((n38).toNat * 6)) 0 [(.string s2), (.int .i64 n42), (.int .i64 n43), (.int .i64 n44), (.bool b3), (.slice a14 l14 c14)] ∧
     w13.cell? ⟨r2, 13, none⟩ = some (.slice a13 l13 c13) ∧
     cellsAt w13 (Addr.add q3 ((n38).toNat * 6)) 0 [(.string s1), (.int .i64 n39), (.int .i64 n40), (.int .i64 n41), (.bool b2), (.slice a12 l12 c12)] ∧
     w13.cell? ⟨r1, 13, none⟩ = some (.slice a11 l11 c11) ∧
     stL ⟨r6, 0, none⟩ 0 [(.string s1), (.int .i64 n39), (.int .i64 n40), (.int .i64 n41), (.bool b2), (.slice a12 l12 c12)] w13 fun w14 =>
     cellsAt w14 (Addr.add q4 ((n38).toNat * 6)) 0 [(.string s2), (.int .i64 n42), (.int .i64 n43), (.int .i64 n44), (.bool b3), (.slice a14 l14 c14)] ∧
     w14.cell? ⟨r2, 13, none⟩ = some (.slice a13 l13 c13) ∧
     stL ⟨r5, 0, none⟩ 0 [(.string s2), (.int .i64 n42), (.int .i64 n43), (.int .i64 n44), (.bool b3), (.slice a14 l14 c14)] w14 fun w15 =>
     ∃ J3 : Bool → World → Prop, (∀ (w16 : World) (b8 : Bool), J3 b8 w16 → ∀ x5 : Nat → Value,
      cond b8
      (K (.bool false) w16)
      (∃ m4, m4 < m3 ∧ I2 (IntKind.i64.wrap (n38 + (1 : Int))) w16 m4)) ∧
     ∃ (s5 : ByteArray),
     w15.cell? ⟨r6, 0, none⟩ = some (.string s5) ∧
     ∃ (s6 : ByteArray),
     w15.cell? ⟨r5, 0, none⟩ = some (.string s6) ∧
     cond (!(s5.toList == s6.toList))
     (J3 true w15)
     (∃ (n51 : Int),
      w15.cell? ⟨r6, 1, none⟩ = some (.int .i64 n51) ∧
      ∃ (n52 : Int),
      w15.cell? ⟨r5, 1, none⟩ = some (.int .i64 n52) ∧
      cond (n51 != n52)
      (J3 true w15)
      (∃ (n53 : Int),
       w15.cell? ⟨r6, 2, none⟩ = some (.int .i64 n53) ∧
       ∃ (n54 : Int),
       w15.cell? ⟨r5, 2, none⟩ = some (.int .i64 n54) ∧
       cond (n53 != n54)
       (J3 true w15)
       (∃ (n55 : Int),
        w15.cell? ⟨r6, 3, none⟩ = some (.int .i64 n55) ∧
        ∃ (n56 : Int),
        w15.cell? ⟨r5, 3, none⟩ = some (.int .i64 n56) ∧
        cond (n55 != n56)
        (J3 true w15)
        (∃ (b9 : Bool),
         w15.cell? ⟨r6, 4, none⟩ = some (.bool b9) ∧
         ∃ (b10 : Bool),
         w15.cell? ⟨r5, 4, none⟩ = some (.bool b10) ∧
         cond (!(b9 == b10))
         (J3 true w15)
         (∃ (a17 : Option Addr) (l17 c17 : Nat),
          w15.cell? ⟨r6, 5, none⟩ = some (.slice a17 l17 c17) ∧
          ∃ (a18 : Option Addr) (l18 c18 : Nat),
          w15.cell? ⟨r5, 5, none⟩ = some (.slice a18 l18 c18) ∧
          Calls Tryz.prog 28 #[(.slice a17 l17 c17), (.slice a18 l18 c18)] w15 fun e2 w17 => ∃ (b11 : Bool),
          e2 = .returned (.bool b11) ∧
          J3 (!b11) w17))))))
    (K (.bool true) w5)))) ∧
 ∃ (n57 : Int) (n58 : Int) (n59 : Int) (n60 : Int) (n61 : Int) (n62 : Int) (n63 : Int) (n64 : Int) (n65 : Int) (n66 : Int) (n67 : Int),
 cellsAt w2 ⟨r1, 0, none⟩ 0 [(.int .i64 n57), (.int .i64 n58), (.int .i64 n59), (.int .i64 n60), (.int .i64 n61), (.int .i64 n62), (.int .i64 n63), (.int .i64 n64), (.int .i64 n65), (.int .i64 n66), (.int .i64 n67)] ∧
 ∃ (n68 : Int) (n69 : Int) (n70 : Int) (n71 : Int) (n72 : Int) (n73 : Int) (n74 : Int) (n75 : Int) (n76 : Int) (n77 : Int) (n78 : Int),
 cellsAt w2 ⟨r2, 0, none⟩ 0 [(.int .i64 n68), (.int .i64 n69), (.int .i64 n70), (.int .i64 n71), (.int .i64 n72), (.int .i64 n73), (.int .i64 n74), (.int .i64 n75), (.int .i64 n76), (.int .i64 n77), (.int .i64 n78)] ∧
 cond (!((n57 == n68) && ((n58 == n69) && ((n59 == n70) && ((n60 == n71) && ((n61 == n72) && ((n62 == n73) && ((n63 == n74) && ((n64 == n75) && ((n65 == n76) && ((n66 == n77) && ((n67 == n78) && true))))))))))))
 (J1 true w2)
 (∃ (n79 : Int),
  w2.cell? ⟨r1, 11, none⟩ = some (.int .i64 n79) ∧
  ∃ (n80 : Int),
  w2.cell? ⟨r2, 11, none⟩ = some (.int .i64 n80) ∧
  cond (n79 != n80)
  (J1 true w2)
  (∃ (a19 : Option Addr) (l19 c19 : Nat),
   w2.cell? ⟨r1, 12, none⟩ = some (.slice a19 l19 c19) ∧
   ∃ (a20 : Option Addr) (l20 c20 : Nat),
   w2.cell? ⟨r2, 12, none⟩ = some (.slice a20 l20 c20) ∧
   cond (((l19 : Nat) : Int) != ((l20 : Nat) : Int))
   (J1 true w2)
   (∃ (a21 : Option Addr) (l21 c21 : Nat),
    w2.cell? ⟨r1, 13, none⟩ = some (.slice a21 l21 c21) ∧
    ∃ (a22 : Option Addr) (l22 c22 : Nat),
    w2.cell? ⟨r2, 13, none⟩ = some (.slice a22 l22 c22) ∧
    cond (((l21 : Nat) : Int) != ((l22 : Nat) : Int))
    (J1 true w2)
    (∃ (a23 : Option Addr) (l23 c23 : Nat),
     w2.cell? ⟨r1, 14, none⟩ = some (.slice a23 l23 c23) ∧
     ∃ (a24 : Option Addr) (l24 c24 : Nat),
     w2.cell? ⟨r2, 14, none⟩ = some (.slice a24 l24 c24) ∧
     Calls Tryz.prog 28 #[(.slice a23 l23 c23), (.slice a24 l24 c24)] w2 fun e3 w18 => ∃ (b12 : Bool),
     e3 = .returned (.bool b12) ∧
     J1 (!b12) w18))))
def qSame_ann : List (Nat × Live) := [(6, [(46, .s (.bool))]), (58, [(5, .s (.int .i64))]), (122, [(6, .s (.int .i64))]), (3913, [(122, .s (.bool))]), (3913, [(122, .s (.bool))])]
theorem qSame_ok {n1 : Int} {n2 : Int} {n3 : Int} {n4 : Int} {n5 : Int} {n6 : Int} {n7 : Int} {n8 : Int} {n9 : Int} {n10 : Int} {n11 : Int} {n12 : Int} {a1 : Option Addr} {l1 c1 : Nat} {a2 : Option Addr} {l2 c2 : Nat} {a3 : Option Addr} {l3 c3 : Nat} {n13 : Int} {n14 : Int} {n15 : Int} {n16 : Int} {n17 : Int} {n18 : Int} {n19 : Int} {n20 : Int} {n21 : Int} {n22 : Int} {n23 : Int} {n24 : Int} {a4 : Option Addr} {l4 c4 : Nat} {a5 : Option Addr} {l5 c5 : Nat} {a6 : Option Addr} {l6 c6 : Nat} {w : World} {K : Value → World → Prop} (h : qSame n1 n2 n3 n4 n5 n6 n7 n8 n9 n10 n11 n12 a1 l1 c1 a2 l2 c2 a3 l3 c3 n13 n14 n15 n16 n17 n18 n19 n20 n21 n22 n23 n24 a4 l4 c4 a5 l5 c5 a6 l6 c6 w K) : Calls Tryz.prog 12 #[(.agg #[(.int .i64 n1), (.int .i64 n2), (.int .i64 n3), (.int .i64 n4), (.int .i64 n5), (.int .i64 n6), (.int .i64 n7), (.int .i64 n8), (.int .i64 n9), (.int .i64 n10), (.int .i64 n11), (.int .i64 n12), (.slice a1 l1 c1), (.slice a2 l2 c2), (.slice a3 l3 c3)]), (.agg #[(.int .i64 n13), (.int .i64 n14), (.int .i64 n15), (.int .i64 n16), (.int .i64 n17), (.int .i64 n18), (.int .i64 n19), (.int .i64 n20), (.int .i64 n21), (.int .i64 n22), (.int .i64 n23), (.int .i64 n24), (.slice a4 l4 c4), (.slice a5 l5 c5), (.slice a6 l6 c6)])] w fun e w' => ∃ v, e = .returned v ∧ K v w' :=
  calls_sh (annL qSame_ann) Tryz.func12 (by kernel_rfl) (args := [(.agg #[(.int .i64 n1), (.int .i64 n2), (.int .i64 n3), (.int .i64 n4), (.int .i64 n5), (.int .i64 n6), (.int .i64 n7), (.int .i64 n8), (.int .i64 n9), (.int .i64 n10), (.int .i64 n11), (.int .i64 n12), (.slice a1 l1 c1), (.slice a2 l2 c2), (.slice a3 l3 c3)]), (.agg #[(.int .i64 n13), (.int .i64 n14), (.int .i64 n15), (.int .i64 n16), (.int .i64 n17), (.int .i64 n18), (.int .i64 n19), (.int .i64 n20), (.int .i64 n21), (.int .i64 n22), (.int .i64 n23), (.int .i64 n24), (.slice a4 l4 c4), (.slice a5 l5 c5), (.slice a6 l6 c6)])]) (by kernel_rfl) h

end Go.Proofs.YtdpcgfcabikjmaaGreatDoor

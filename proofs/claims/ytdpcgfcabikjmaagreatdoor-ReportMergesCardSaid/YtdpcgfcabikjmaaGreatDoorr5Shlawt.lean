/- What each function of the seat comes to, printed by program (sh.py); the kernel holds each print against the loaded code. -/
import Derived.Test.YtdpcgfcabikjmaaGreatDoorVc5
import Derived.Test.YtdpcgfcabikjmaaGreatDoorProg
import Derived.KernelRfl
set_option linter.unusedVariables false
namespace Go.Proofs.YtdpcgfcabikjmaaGreatDoor
open Go Go.Vc
-- saleroom/saleroomlaw55.ReportTexts
def lTexts (n1 : Int) (n2 : Int) (n3 : Int) (n4 : Int) (n5 : Int) (n6 : Int) (n7 : Int) (n8 : Int) (n9 : Int) (n10 : Int) (n11 : Int) (n12 : Int) (a1 : Option Addr) (l1 c1 : Nat) (a2 : Option Addr) (l2 c2 : Nat) (a3 : Option Addr) (l3 c3 : Nat) (w : World) (K : Value → World → Prop) : Prop :=
 newK w (.cells #[(.int .i64 n1), (.int .i64 n2), (.int .i64 n3), (.int .i64 n4), (.int .i64 n5), (.int .i64 n6), (.int .i64 n7), (.int .i64 n8), (.int .i64 n9), (.int .i64 n10), (.int .i64 n11), (.int .i64 n12), (.slice a1 l1 c1), (.slice a2 l2 c2), (.slice a3 l3 c3)] 27) fun r1 w1 =>
 ∃ (n13 : Int) (n14 : Int) (n15 : Int) (n16 : Int) (n17 : Int) (n18 : Int) (n19 : Int) (n20 : Int) (n21 : Int) (n22 : Int) (n23 : Int) (n24 : Int) (a4 : Option Addr) (l4 c4 : Nat) (a5 : Option Addr) (l5 c5 : Nat) (a6 : Option Addr) (l6 c6 : Nat),
 cellsAt w1 ⟨r1, 0, none⟩ 0 [(.int .i64 n13), (.int .i64 n14), (.int .i64 n15), (.int .i64 n16), (.int .i64 n17), (.int .i64 n18), (.int .i64 n19), (.int .i64 n20), (.int .i64 n21), (.int .i64 n22), (.int .i64 n23), (.int .i64 n24), (.slice a4 l4 c4), (.slice a5 l5 c5), (.slice a6 l6 c6)] ∧
 Calls Tryz.prog 6 #[(.agg #[(.int .i64 n13), (.int .i64 n14), (.int .i64 n15), (.int .i64 n16), (.int .i64 n17), (.int .i64 n18), (.int .i64 n19), (.int .i64 n20), (.int .i64 n21), (.int .i64 n22), (.int .i64 n23), (.int .i64 n24), (.slice a4 l4 c4), (.slice a5 l5 c5), (.slice a6 l6 c6)])] w1 fun e1 w2 => ∃ (n25 : Int) (n26 : Int) (n27 : Int) (n28 : Int) (n29 : Int) (n30 : Int) (n31 : Int) (n32 : Int) (n33 : Int) (n34 : Int) (n35 : Int) (n36 : Int) (a7 : Option Addr) (l7 c7 : Nat) (a8 : Option Addr) (l8 c8 : Nat) (a9 : Option Addr) (l9 c9 : Nat),
 e1 = .returned (.agg #[(.int .i64 n25), (.int .i64 n26), (.int .i64 n27), (.int .i64 n28), (.int .i64 n29), (.int .i64 n30), (.int .i64 n31), (.int .i64 n32), (.int .i64 n33), (.int .i64 n34), (.int .i64 n35), (.int .i64 n36), (.slice a7 l7 c7), (.slice a8 l8 c8), (.slice a9 l9 c9)]) ∧
 Calls Tryz.prog 5 #[(.agg #[(.int .i64 n25), (.int .i64 n26), (.int .i64 n27), (.int .i64 n28), (.int .i64 n29), (.int .i64 n30), (.int .i64 n31), (.int .i64 n32), (.int .i64 n33), (.int .i64 n34), (.int .i64 n35), (.int .i64 n36), (.slice a7 l7 c7), (.slice a8 l8 c8), (.slice a9 l9 c9)])] w2 fun e2 w3 => ∃ (b1 : Bool),
 e2 = .returned (.bool b1) ∧
 cond (!b1)
 (Calls Tryz.prog 7 #[] w3 fun e3 w4 => ∃ (b2 : Bool),
  e3 = .returned (.bool b2) ∧
  K (.bool b2) w4)
 (∃ (n37 : Int) (n38 : Int) (n39 : Int) (n40 : Int) (n41 : Int) (n42 : Int) (n43 : Int) (n44 : Int) (n45 : Int) (n46 : Int) (n47 : Int) (n48 : Int) (a10 : Option Addr) (l10 c10 : Nat) (a11 : Option Addr) (l11 c11 : Nat) (a12 : Option Addr) (l12 c12 : Nat),
  cellsAt w3.drew ⟨r1, 0, none⟩ 0 [(.int .i64 n37), (.int .i64 n38), (.int .i64 n39), (.int .i64 n40), (.int .i64 n41), (.int .i64 n42), (.int .i64 n43), (.int .i64 n44), (.int .i64 n45), (.int .i64 n46), (.int .i64 n47), (.int .i64 n48), (.slice a10 l10 c10), (.slice a11 l11 c11), (.slice a12 l12 c12)] ∧
  ∃ (n49 : Int) (n50 : Int) (n51 : Int) (n52 : Int) (n53 : Int) (n54 : Int) (n55 : Int) (n56 : Int) (n57 : Int) (n58 : Int) (n59 : Int) (n60 : Int) (a13 : Option Addr) (l13 c13 : Nat) (a14 : Option Addr) (l14 c14 : Nat) (a15 : Option Addr) (l15 c15 : Nat),
  cellsAt w3.drew ⟨r1, 0, none⟩ 0 [(.int .i64 n49), (.int .i64 n50), (.int .i64 n51), (.int .i64 n52), (.int .i64 n53), (.int .i64 n54), (.int .i64 n55), (.int .i64 n56), (.int .i64 n57), (.int .i64 n58), (.int .i64 n59), (.int .i64 n60), (.slice a13 l13 c13), (.slice a14 l14 c14), (.slice a15 l15 c15)] ∧
  Calls Tryz.prog 8 #[(.agg #[(.int .i64 n37), (.int .i64 n38), (.int .i64 n39), (.int .i64 n40), (.int .i64 n41), (.int .i64 n42), (.int .i64 n43), (.int .i64 n44), (.int .i64 n45), (.int .i64 n46), (.int .i64 n47), (.int .i64 n48), (.slice a10 l10 c10), (.slice a11 l11 c11), (.slice a12 l12 c12)])] w3.drew fun e4 w5 => ∃ (s1 : ByteArray),
  e4 = .returned (.string s1) ∧
  cellsAt w5 ⟨r1, 0, none⟩ 0 [(.int .i64 n49), (.int .i64 n50), (.int .i64 n51), (.int .i64 n52), (.int .i64 n53), (.int .i64 n54), (.int .i64 n55), (.int .i64 n56), (.int .i64 n57), (.int .i64 n58), (.int .i64 n59), (.int .i64 n60), (.slice a13 l13 c13), (.slice a14 l14 c14), (.slice a15 l15 c15)] ∧
  Calls Tryz.prog 6 #[(.agg #[(.int .i64 n49), (.int .i64 n50), (.int .i64 n51), (.int .i64 n52), (.int .i64 n53), (.int .i64 n54), (.int .i64 n55), (.int .i64 n56), (.int .i64 n57), (.int .i64 n58), (.int .i64 n59), (.int .i64 n60), (.slice a13 l13 c13), (.slice a14 l14 c14), (.slice a15 l15 c15)])] w5 fun e5 w6 => ∃ (n61 : Int) (n62 : Int) (n63 : Int) (n64 : Int) (n65 : Int) (n66 : Int) (n67 : Int) (n68 : Int) (n69 : Int) (n70 : Int) (n71 : Int) (n72 : Int) (a16 : Option Addr) (l16 c16 : Nat) (a17 : Option Addr) (l17 c17 : Nat) (a18 : Option Addr) (l18 c18 : Nat),
  e5 = .returned (.agg #[(.int .i64 n61), (.int .i64 n62), (.int .i64 n63), (.int .i64 n64), (.int .i64 n65), (.int .i64 n66), (.int .i64 n67), (.int .i64 n68), (.int .i64 n69), (.int .i64 n70), (.int .i64 n71), (.int .i64 n72), (.slice a16 l16 c16), (.slice a17 l17 c17), (.slice a18 l18 c18)]) ∧
  Calls Tryz.prog 9 #[(.agg #[(.int .i64 n61), (.int .i64 n62), (.int .i64 n63), (.int .i64 n64), (.int .i64 n65), (.int .i64 n66), (.int .i64 n67), (.int .i64 n68), (.int .i64 n69), (.int .i64 n70), (.int .i64 n71), (.int .i64 n72), (.slice a16 l16 c16), (.slice a17 l17 c17), (.slice a18 l18 c18)])] w6 fun e6 w7 => ∃ (s2 : ByteArray),
  e6 = .returned (.string s2) ∧
  cond (s1.toList == s2.toList)
  (Calls Tryz.prog 7 #[] w7 fun e7 w8 => ∃ (b3 : Bool),
   e7 = .returned (.bool b3) ∧
   K (.bool b3) w8)
  (K (.bool false) w7))
def lTexts_ann : List (Nat × Live) := []
theorem lTexts_ok {n1 : Int} {n2 : Int} {n3 : Int} {n4 : Int} {n5 : Int} {n6 : Int} {n7 : Int} {n8 : Int} {n9 : Int} {n10 : Int} {n11 : Int} {n12 : Int} {a1 : Option Addr} {l1 c1 : Nat} {a2 : Option Addr} {l2 c2 : Nat} {a3 : Option Addr} {l3 c3 : Nat} {w : World} {K : Value → World → Prop} (h : lTexts n1 n2 n3 n4 n5 n6 n7 n8 n9 n10 n11 n12 a1 l1 c1 a2 l2 c2 a3 l3 c3 w K) : Calls Tryz.prog 3 #[(.agg #[(.int .i64 n1), (.int .i64 n2), (.int .i64 n3), (.int .i64 n4), (.int .i64 n5), (.int .i64 n6), (.int .i64 n7), (.int .i64 n8), (.int .i64 n9), (.int .i64 n10), (.int .i64 n11), (.int .i64 n12), (.slice a1 l1 c1), (.slice a2 l2 c2), (.slice a3 l3 c3)])] w fun e w' => ∃ v, e = .returned v ∧ K v w' :=
  calls_sh (annL lTexts_ann) Tryz.func3 (by kernel_rfl) (args := [(.agg #[(.int .i64 n1), (.int .i64 n2), (.int .i64 n3), (.int .i64 n4), (.int .i64 n5), (.int .i64 n6), (.int .i64 n7), (.int .i64 n8), (.int .i64 n9), (.int .i64 n10), (.int .i64 n11), (.int .i64 n12), (.slice a1 l1 c1), (.slice a2 l2 c2), (.slice a3 l3 c3)])]) (by kernel_rfl) h

end Go.Proofs.YtdpcgfcabikjmaaGreatDoor

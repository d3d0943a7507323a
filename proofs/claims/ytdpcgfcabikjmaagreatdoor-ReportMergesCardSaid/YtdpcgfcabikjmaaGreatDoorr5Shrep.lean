/- What each function of the seat comes to, printed by program (sh.py); the kernel holds each print against the loaded code. -/
import Derived.Test.YtdpcgfcabikjmaaGreatDoorVc5
import Derived.Test.YtdpcgfcabikjmaaGreatDoorProg
import Derived.KernelRfl
set_option linter.unusedVariables false
namespace Go.Proofs.YtdpcgfcabikjmaaGreatDoor
open Go Go.Vc
-- saleroom/saleroomref55.number
def qNumber (n1 : Int) (w : World) (K : Value → World → Prop) : Prop :=
 cond (decide (n1 < (0 : Int)))
 (Calls Tryz.prog 45 #[(.int .u64 (IntKind.u64.wrap ((IntKind.u64.wrap (IntKind.i64.wrap (0 - (IntKind.i64.wrap (n1 + (1 : Int)))))) + (1 : Int))))] w fun e1 w1 => ∃ (s1 : ByteArray),
  e1 = .returned (.string s1) ∧
  (((bs [45]).size + s1.size : Nat) : Int) ≤ IntKind.i64.max ∧ K (.string ((bs [45]) ++ s1)) w1)
 (Calls Tryz.prog 45 #[(.int .u64 (IntKind.u64.wrap n1))] w fun e2 w2 => ∃ (s2 : ByteArray),
  e2 = .returned (.string s2) ∧
  K (.string s2) w2)
def qNumber_ann : List (Nat × Live) := []
theorem qNumber_ok {n1 : Int} {w : World} {K : Value → World → Prop} (h : qNumber n1 w K) : Calls Tryz.prog 25 #[(.int .i64 n1)] w fun e w' => ∃ v, e = .returned v ∧ K v w' :=
  calls_sh (annL qNumber_ann) Tryz.func25 (by kernel_rfl) (args := [(.int .i64 n1)]) (by kernel_rfl) h

-- saleroom/saleroomref55.digits
def qDigits (n1 : Int) (w : World) (K : Value → World → Prop) : Prop :=
 ∃ I1 : Int → ByteArray → World → Nat → Prop, (∃ m1, I1 n1 (bs []) w m1) ∧
 ∀ (w1 : World) (m1 : Nat) (n2 : Int) (s1 : ByteArray), I1 n2 s1 w1 m1 → ∀ x1 : Nat → Value,
 cond (decide (n2 > (9 : Int)))
 ((10 : Int) ≠ 0 ∧ newK w1 (.cells #[(.int .u8 (IntKind.u8.wrap (IntKind.u64.wrap ((48 : Int) + (Int.tmod n2 (10 : Int))))))] 5) fun r1 w2 =>
  rnS Tryz.prog (convert 56 9 (.slice (some ⟨r1, 0, none⟩) 1 1)) w2 fun e1 w3 => ∃ (s2 : ByteArray),
  e1 = (.string s2) ∧
  ((s2.size + s1.size : Nat) : Int) ≤ IntKind.i64.max ∧ (10 : Int) ≠ 0 ∧ ∃ m2, m2 < m1 ∧ I1 (IntKind.u64.wrap (Int.tdiv n2 (10 : Int))) (s2 ++ s1) w3 m2)
 (newK w1 (.cells #[(.int .u8 (IntKind.u8.wrap (IntKind.u64.wrap ((48 : Int) + n2))))] 5) fun r2 w4 =>
  rnS Tryz.prog (convert 56 9 (.slice (some ⟨r2, 0, none⟩) 1 1)) w4 fun e2 w5 => ∃ (s3 : ByteArray),
  e2 = (.string s3) ∧
  ((s3.size + s1.size : Nat) : Int) ≤ IntKind.i64.max ∧ K (.string (s3 ++ s1)) w5)
def qDigits_ann : List (Nat × Live) := [(28, [(0, .s (.int .u64)), (3, .s (.str))])]
theorem qDigits_ok {n1 : Int} {w : World} {K : Value → World → Prop} (h : qDigits n1 w K) : Calls Tryz.prog 45 #[(.int .u64 n1)] w fun e w' => ∃ v, e = .returned v ∧ K v w' :=
  calls_sh (annL qDigits_ann) Tryz.func45 (by kernel_rfl) (args := [(.int .u64 n1)]) (by kernel_rfl) h

-- saleroom/event.Name
def eName (n1 : Int) (w : World) (K : Value → World → Prop) : Prop :=
 newK w (.cells #[(.string (bs [])), (.string (bs [])), (.string (bs [])), (.string (bs [])), (.string (bs [])), (.string (bs [])), (.string (bs [])), (.string (bs [])), (.string (bs [])), (.string (bs [])), (.string (bs []))] 111) fun r1 w1 =>
 stL ⟨r1, 0, none⟩ 0 [(.string (bs [])), (.string (bs [115, 97, 108, 101])), (.string (bs [100, 101, 109, 97, 110, 100])), (.string (bs [114, 111, 117, 110, 100])), (.string (bs [115, 116, 111, 112])), (.string (bs [98, 105, 100])), (.string (bs [119, 105, 116, 104, 100, 114, 97, 119])), (.string (bs [100, 105, 115, 113, 117, 97, 108, 105, 102, 121])), (.string (bs [114, 101, 114, 117, 110])), (.string (bs [99, 108, 111, 115, 101])), (.string (bs [100, 101, 99, 105, 100, 101]))] w1 fun w2 =>
 ∃ J1 : Bool → World → Prop, (∀ (w3 : World) (b1 : Bool), J1 b1 w3 → ∀ x1 : Nat → Value,
  cond b1
  (K (.string (bs [])) w3)
  (0 ≤ n1 ∧ n1 < ((11 : Nat) : Int) ∧
   ∃ (s1 : ByteArray),
   w3.cell? (Addr.add ⟨r1, 0, none⟩ ((n1).toNat * 1)) = some (.string s1) ∧
   K (.string s1) w3)) ∧
 cond (decide (n1 < (1 : Int)))
 (J1 true w2)
 (J1 (decide (n1 > (10 : Int))) w2)
def eName_ann : List (Nat × Live) := [(14, [(10, .s (.bool))])]
theorem eName_ok {n1 : Int} {w : World} {K : Value → World → Prop} (h : eName n1 w K) : Calls Tryz.prog 20 #[(.int .i64 n1)] w fun e w' => ∃ v, e = .returned v ∧ K v w' :=
  calls_sh (annL eName_ann) Tryz.func20 (by kernel_rfl) (args := [(.int .i64 n1)]) (by kernel_rfl) h

-- saleroom/saleroomref42.names
def qNames  (w : World) (K : Value → World → Prop) : Prop :=
 newK w (.cells #[(.string (bs [])), (.string (bs [115, 97, 108, 101])), (.string (bs [100, 101, 109, 97, 110, 100])), (.string (bs [114, 111, 117, 110, 100])), (.string (bs [115, 116, 111, 112])), (.string (bs [98, 105, 100])), (.string (bs [119, 105, 116, 104, 100, 114, 97, 119])), (.string (bs [100, 105, 115, 113, 117, 97, 108, 105, 102, 121])), (.string (bs [114, 101, 114, 117, 110])), (.string (bs [99, 108, 111, 115, 101])), (.string (bs [100, 101, 99, 105, 100, 101]))] 9) fun r1 w1 =>
 K (.slice (some ⟨r1, 0, none⟩) 11 11) w1
def qNames_ann : List (Nat × Live) := []
theorem qNames_ok {w : World} {K : Value → World → Prop} (h : qNames w K) : Calls Tryz.prog 44 #[] w fun e w' => ∃ v, e = .returned v ∧ K v w' :=
  calls_sh (annL qNames_ann) Tryz.func44 (by kernel_rfl) (args := []) (by kernel_rfl) h

-- saleroom/saleroomref42.Name
def qName (n1 : Int) (w : World) (K : Value → World → Prop) : Prop :=
 ∃ J1 : Bool → World → Prop, (∀ (w1 : World) (b1 : Bool), J1 b1 w1 → ∀ x1 : Nat → Value,
  cond b1
  (K (.string (bs [])) w1)
  (Calls Tryz.prog 44 #[] w1 fun e1 w2 => ∃ (a1 : Option Addr) (l1 c1 : Nat),
   e1 = .returned (.slice a1 l1 c1) ∧
   onSome a1 fun q1 =>
   0 ≤ n1 ∧ n1 < ((l1 : Nat) : Int) ∧
   ∃ (s1 : ByteArray),
   w2.cell? (Addr.add q1 ((n1).toNat * 1)) = some (.string s1) ∧
   K (.string s1) w2)) ∧
 cond (decide (n1 < (1 : Int)))
 (J1 true w)
 (J1 (decide (n1 > (10 : Int))) w)
def qName_ann : List (Nat × Live) := [(6, [(8, .s (.bool))])]
theorem qName_ok {n1 : Int} {w : World} {K : Value → World → Prop} (h : qName n1 w K) : Calls Tryz.prog 24 #[(.int .i64 n1)] w fun e w' => ∃ v, e = .returned v ∧ K v w' :=
  calls_sh (annL qName_ann) Tryz.func24 (by kernel_rfl) (args := [(.int .i64 n1)]) (by kernel_rfl) h

-- saleroom/saleroomref55.big
def qBig (n1 : Int) (w : World) (K : Value → World → Prop) : Prop :=
 cond (decide (n1 < (-1000000000 : Int)))
 (K (.bool true) w)
 (K (.bool (decide (n1 > (1000000000 : Int)))) w)
def qBig_ann : List (Nat × Live) := []
theorem qBig_ok {n1 : Int} {w : World} {K : Value → World → Prop} (h : qBig n1 w K) : Calls Tryz.prog 13 #[(.int .i64 n1)] w fun e w' => ∃ v, e = .returned v ∧ K v w' :=
  calls_sh (annL qBig_ann) Tryz.func13 (by kernel_rfl) (args := [(.int .i64 n1)]) (by kernel_rfl) h

-- saleroom/saleroomref55.Few
def qFew (n1 : Int) (n2 : Int) (n3 : Int) (n4 : Int) (n5 : Int) (n6 : Int) (n7 : Int) (n8 : Int) (n9 : Int) (n10 : Int) (n11 : Int) (n12 : Int) (a1 : Option Addr) (l1 c1 : Nat) (a2 : Option Addr) (l2 c2 : Nat) (a3 : Option Addr) (l3 c3 : Nat) (w : World) (K : Value → World → Prop) : Prop :=
 newK w (.cells #[(.int .i64 n1), (.int .i64 n2), (.int .i64 n3), (.int .i64 n4), (.int .i64 n5), (.int .i64 n6), (.int .i64 n7), (.int .i64 n8), (.int .i64 n9), (.int .i64 n10), (.int .i64 n11), (.int .i64 n12), (.slice a1 l1 c1), (.slice a2 l2 c2), (.slice a3 l3 c3)] 31) fun r1 w1 =>
 ∃ J1 : Bool → World → Prop, (∀ (w2 : World) (b1 : Bool), J1 b1 w2 → ∀ x1 : Nat → Value,
  cond b1
  (K (.bool false) w2)
  (∃ I1 : Int → World → Nat → Prop, (∃ m1, I1 (0 : Int) w2 m1) ∧
   ∀ (w3 : World) (m1 : Nat) (n13 : Int), I1 n13 w3 m1 → ∀ x2 : Nat → Value,
   cond (decide (n13 ≤ (10 : Int)))
   (0 ≤ n13 ∧ n13 < ((11 : Nat) : Int) ∧
    ∃ (n14 : Int),
    w3.cell? (Addr.add ⟨r1, 0, none⟩ ((n13).toNat * 1)) = some (.int .i64 n14) ∧
    Calls Tryz.prog 13 #[(.int .i64 n14)] w3 fun e1 w4 => ∃ (b2 : Bool),
    e1 = .returned (.bool b2) ∧
    cond b2
    (K (.bool false) w4)
    (∃ m2, m2 < m1 ∧ I1 (IntKind.i64.wrap (n13 + (1 : Int))) w4 m2))
   (∃ I2 : Int → World → Nat → Prop, (∃ m3, I2 (0 : Int) w3 m3) ∧
    ∀ (w5 : World) (m3 : Nat) (n15 : Int), I2 n15 w5 m3 → ∀ x3 : Nat → Value,
    ∃ (a4 : Option Addr) (l4 c4 : Nat),
    w5.cell? ⟨r1, 13, none⟩ = some (.slice a4 l4 c4) ∧
    cond (decide (n15 < ((l4 : Nat) : Int)))
    (∃ (a5 : Option Addr) (l5 c5 : Nat),
     w5.cell? ⟨r1, 13, none⟩ = some (.slice a5 l5 c5) ∧
     onSome a5 fun q1 =>
     0 ≤ n15 ∧ n15 < ((l5 : Nat) : Int) ∧
     ∃ (s1 : ByteArray) (n16 : Int) (n17 : Int) (n18 : Int) (b3 : Bool) (a6 : Option Addr) (l6 c6 : Nat),
     cellsAt w5 (Addr.add q1 ((n15).toNat * 6)) 0 [(.string s1), (.int .i64 n16), (.int .i64 n17), (.int .i64 n18), (.bool b3), (.slice a6 l6 c6)] ∧
     newK w5 (.cells #[(.string (bs [])), (.int .i64 (0 : Int)), (.int .i64 (0 : Int)), (.int .i64 (0 : Int)), (.bool false), (.slice none 0 0)] 46) fun r2 w6 =>
     stL ⟨r2, 0, none⟩ 0 [(.string s1), (.int .i64 n16), (.int .i64 n17), (.int .i64 n18), (.bool b3), (.slice a6 l6 c6)] w6 fun w7 =>
     ∃ J2 : Bool → World → Prop, (∀ (w8 : World) (b4 : Bool), J2 b4 w8 → ∀ x4 : Nat → Value,
      cond b4
      (K (.bool false) w8)
      (∃ m4, m4 < m3 ∧ I2 (IntKind.i64.wrap (n15 + (1 : Int))) w8 m4)) ∧
     ∃ (s2 : ByteArray),
     w7.cell? ⟨r2, 0, none⟩ = some (.string s2) ∧
     cond (decide (((s2.size : Nat) : Int) > (100 : Int)))
     (J2 true w7)
     (∃ (a7 : Option Addr) (l7 c7 : Nat),
      w7.cell? ⟨r2, 5, none⟩ = some (.slice a7 l7 c7) ∧
      cond (decide (((l7 : Nat) : Int) > (40 : Int)))
      (J2 true w7)
      (∃ (n19 : Int),
       w7.cell? ⟨r2, 1, none⟩ = some (.int .i64 n19) ∧
       Calls Tryz.prog 13 #[(.int .i64 n19)] w7 fun e2 w9 => ∃ (b5 : Bool),
       e2 = .returned (.bool b5) ∧
       cond b5
       (J2 true w9)
       (∃ (n20 : Int),
        w9.cell? ⟨r2, 2, none⟩ = some (.int .i64 n20) ∧
        Calls Tryz.prog 13 #[(.int .i64 n20)] w9 fun e3 w10 => ∃ (b6 : Bool),
        e3 = .returned (.bool b6) ∧
        cond b6
        (J2 true w10)
        (∃ (n21 : Int),
         w10.cell? ⟨r2, 3, none⟩ = some (.int .i64 n21) ∧
         Calls Tryz.prog 13 #[(.int .i64 n21)] w10 fun e4 w11 => ∃ (b7 : Bool),
         e4 = .returned (.bool b7) ∧
         J2 b7 w11)))))
    (K (.bool true) w5)))) ∧
 ∃ (a8 : Option Addr) (l8 c8 : Nat),
 w1.cell? ⟨r1, 12, none⟩ = some (.slice a8 l8 c8) ∧
 cond (decide (((l8 : Nat) : Int) > (40 : Int)))
 (J1 true w1)
 (∃ (a9 : Option Addr) (l9 c9 : Nat),
  w1.cell? ⟨r1, 13, none⟩ = some (.slice a9 l9 c9) ∧
  cond (decide (((l9 : Nat) : Int) > (40 : Int)))
  (J1 true w1)
  (∃ (a10 : Option Addr) (l10 c10 : Nat),
   w1.cell? ⟨r1, 14, none⟩ = some (.slice a10 l10 c10) ∧
   cond (decide (((l10 : Nat) : Int) > (40 : Int)))
   (J1 true w1)
   (∃ (n22 : Int),
    w1.cell? ⟨r1, 11, none⟩ = some (.int .i64 n22) ∧
    Calls Tryz.prog 13 #[(.int .i64 n22)] w1 fun e5 w12 => ∃ (b8 : Bool),
    e5 = .returned (.bool b8) ∧
    J1 b8 w12)))
def qFew_ann : List (Nat × Live) := [(6, [(26, .s (.bool))]), (58, [(3, .s (.int .i64))]), (122, [(4, .s (.int .i64))]), (3913, [(72, .s (.bool))])]
theorem qFew_ok {n1 : Int} {n2 : Int} {n3 : Int} {n4 : Int} {n5 : Int} {n6 : Int} {n7 : Int} {n8 : Int} {n9 : Int} {n10 : Int} {n11 : Int} {n12 : Int} {a1 : Option Addr} {l1 c1 : Nat} {a2 : Option Addr} {l2 c2 : Nat} {a3 : Option Addr} {l3 c3 : Nat} {w : World} {K : Value → World → Prop} (h : qFew n1 n2 n3 n4 n5 n6 n7 n8 n9 n10 n11 n12 a1 l1 c1 a2 l2 c2 a3 l3 c3 w K) : Calls Tryz.prog 5 #[(.agg #[(.int .i64 n1), (.int .i64 n2), (.int .i64 n3), (.int .i64 n4), (.int .i64 n5), (.int .i64 n6), (.int .i64 n7), (.int .i64 n8), (.int .i64 n9), (.int .i64 n10), (.int .i64 n11), (.int .i64 n12), (.slice a1 l1 c1), (.slice a2 l2 c2), (.slice a3 l3 c3)])] w fun e w' => ∃ v, e = .returned v ∧ K v w' :=
  calls_sh (annL qFew_ann) Tryz.func5 (by kernel_rfl) (args := [(.agg #[(.int .i64 n1), (.int .i64 n2), (.int .i64 n3), (.int .i64 n4), (.int .i64 n5), (.int .i64 n6), (.int .i64 n7), (.int .i64 n8), (.int .i64 n9), (.int .i64 n10), (.int .i64 n11), (.int .i64 n12), (.slice a1 l1 c1), (.slice a2 l2 c2), (.slice a3 l3 c3)])]) (by kernel_rfl) h

-- saleroom/saleroomlaw55.plain
def lPlain (n1 : Int) (n2 : Int) (n3 : Int) (n4 : Int) (n5 : Int) (n6 : Int) (n7 : Int) (n8 : Int) (n9 : Int) (n10 : Int) (n11 : Int) (n12 : Int) (a1 : Option Addr) (l1 c1 : Nat) (a2 : Option Addr) (l2 c2 : Nat) (a3 : Option Addr) (l3 c3 : Nat) (w : World) (K : Value → World → Prop) : Prop :=
 newK w (.cells #[(.int .i64 n1), (.int .i64 n2), (.int .i64 n3), (.int .i64 n4), (.int .i64 n5), (.int .i64 n6), (.int .i64 n7), (.int .i64 n8), (.int .i64 n9), (.int .i64 n10), (.int .i64 n11), (.int .i64 n12), (.slice a1 l1 c1), (.slice a2 l2 c2), (.slice a3 l3 c3)] 27) fun r1 w1 =>
 newK w1 (.cells #[(.int .i64 (0 : Int)), (.int .i64 (0 : Int)), (.int .i64 (0 : Int)), (.int .i64 (0 : Int)), (.int .i64 (0 : Int)), (.int .i64 (0 : Int)), (.int .i64 (0 : Int)), (.int .i64 (0 : Int)), (.int .i64 (0 : Int)), (.int .i64 (0 : Int)), (.int .i64 (0 : Int)), (.int .i64 (0 : Int)), (.slice none 0 0), (.slice none 0 0), (.slice none 0 0)] 31) fun r2 w2 =>
 ∃ (n13 : Int) (n14 : Int) (n15 : Int) (n16 : Int) (n17 : Int) (n18 : Int) (n19 : Int) (n20 : Int) (n21 : Int) (n22 : Int) (n23 : Int),
 cellsAt w2 ⟨r1, 0, none⟩ 0 [(.int .i64 n13), (.int .i64 n14), (.int .i64 n15), (.int .i64 n16), (.int .i64 n17), (.int .i64 n18), (.int .i64 n19), (.int .i64 n20), (.int .i64 n21), (.int .i64 n22), (.int .i64 n23)] ∧
 ∃ (n24 : Int),
 w2.cell? ⟨r1, 11, none⟩ = some (.int .i64 n24) ∧
 ∃ (a4 : Option Addr) (l4 c4 : Nat),
 w2.cell? ⟨r1, 12, none⟩ = some (.slice a4 l4 c4) ∧
 ∃ (a5 : Option Addr) (l5 c5 : Nat),
 w2.cell? ⟨r1, 14, none⟩ = some (.slice a5 l5 c5) ∧
 newK w2 (.cells #[(.int .i64 (0 : Int)), (.int .i64 (0 : Int)), (.int .i64 (0 : Int)), (.int .i64 (0 : Int)), (.int .i64 (0 : Int)), (.int .i64 (0 : Int)), (.int .i64 (0 : Int)), (.int .i64 (0 : Int)), (.int .i64 (0 : Int)), (.int .i64 (0 : Int)), (.int .i64 (0 : Int)), (.int .i64 (0 : Int)), (.slice none 0 0), (.slice none 0 0), (.slice none 0 0)] 31) fun r3 w3 =>
 stL ⟨r3, 0, none⟩ 0 [(.int .i64 n13), (.int .i64 n14), (.int .i64 n15), (.int .i64 n16), (.int .i64 n17), (.int .i64 n18), (.int .i64 n19), (.int .i64 n20), (.int .i64 n21), (.int .i64 n22), (.int .i64 n23), (.int .i64 n24), (.slice a4 l4 c4), (.slice none 0 0), (.slice a5 l5 c5)] w3 fun w4 =>
 ∃ I1 : Int → World → Nat → Prop, (∃ m1, I1 (0 : Int) w4 m1) ∧
 ∀ (w5 : World) (m1 : Nat) (n25 : Int), I1 n25 w5 m1 → ∀ x1 : Nat → Value,
 ∃ (a6 : Option Addr) (l6 c6 : Nat),
 w5.cell? ⟨r1, 13, none⟩ = some (.slice a6 l6 c6) ∧
 cond (decide (n25 < ((l6 : Nat) : Int)))
 (∃ (a7 : Option Addr) (l7 c7 : Nat),
  w5.cell? ⟨r1, 13, none⟩ = some (.slice a7 l7 c7) ∧
  onSome a7 fun q1 =>
  0 ≤ n25 ∧ n25 < ((l7 : Nat) : Int) ∧
  ∃ (s1 : ByteArray) (n26 : Int) (n27 : Int) (n28 : Int) (b1 : Bool) (a8 : Option Addr) (l8 c8 : Nat),
  cellsAt w5 (Addr.add q1 ((n25).toNat * 6)) 0 [(.string s1), (.int .i64 n26), (.int .i64 n27), (.int .i64 n28), (.bool b1), (.slice a8 l8 c8)] ∧
  newK w5 (.cells #[(.string (bs [])), (.int .i64 (0 : Int)), (.int .i64 (0 : Int)), (.int .i64 (0 : Int)), (.bool false), (.slice none 0 0)] 47) fun r4 w6 =>
  stL ⟨r4, 0, none⟩ 0 [(.string s1), (.int .i64 n26), (.int .i64 n27), (.int .i64 n28), (.bool b1), (.slice a8 l8 c8)] w6 fun w7 =>
  ∃ (a9 : Option Addr) (l9 c9 : Nat),
  w7.cell? ⟨r3, 13, none⟩ = some (.slice a9 l9 c9) ∧
  ∃ (s2 : ByteArray),
  w7.cell? ⟨r4, 0, none⟩ = some (.string s2) ∧
  ∃ (n29 : Int),
  w7.cell? ⟨r4, 1, none⟩ = some (.int .i64 n29) ∧
  ∃ (n30 : Int),
  w7.cell? ⟨r4, 2, none⟩ = some (.int .i64 n30) ∧
  ∃ (n31 : Int),
  w7.cell? ⟨r4, 3, none⟩ = some (.int .i64 n31) ∧
  ∃ (b2 : Bool),
  w7.cell? ⟨r4, 4, none⟩ = some (.bool b2) ∧
  ∃ (a10 : Option Addr) (l10 c10 : Nat),
  w7.cell? ⟨r4, 5, none⟩ = some (.slice a10 l10 c10) ∧
  newK w7 (.cells #[(.string s2), (.int .i64 n29), (.int .i64 n30), (.int .i64 n31), (.bool b2), (.slice a10 l10 c10)] 46) fun r5 w8 =>
  rnS Tryz.prog (Builtin.append_ #[29, 29] 29 #[(.slice a9 l9 c9), (.slice (some ⟨r5, 0, none⟩) 1 1)]) w8 fun e1 w9 => ∃ (a11 : Option Addr) (l11 c11 : Nat),
  e1 = (.slice a11 l11 c11) ∧
  stK w9 ⟨r3, 13, none⟩ (.slice a11 l11 c11) fun w10 =>
  ∃ m2, m2 < m1 ∧ I1 (IntKind.i64.wrap (n25 + (1 : Int))) w10 m2)
 (∃ (n32 : Int) (n33 : Int) (n34 : Int) (n35 : Int) (n36 : Int) (n37 : Int) (n38 : Int) (n39 : Int) (n40 : Int) (n41 : Int) (n42 : Int) (n43 : Int) (a12 : Option Addr) (l12 c12 : Nat) (a13 : Option Addr) (l13 c13 : Nat) (a14 : Option Addr) (l14 c14 : Nat),
  cellsAt w5 ⟨r3, 0, none⟩ 0 [(.int .i64 n32), (.int .i64 n33), (.int .i64 n34), (.int .i64 n35), (.int .i64 n36), (.int .i64 n37), (.int .i64 n38), (.int .i64 n39), (.int .i64 n40), (.int .i64 n41), (.int .i64 n42), (.int .i64 n43), (.slice a12 l12 c12), (.slice a13 l13 c13), (.slice a14 l14 c14)] ∧
  stL ⟨r2, 0, none⟩ 0 [(.int .i64 n32), (.int .i64 n33), (.int .i64 n34), (.int .i64 n35), (.int .i64 n36), (.int .i64 n37), (.int .i64 n38), (.int .i64 n39), (.int .i64 n40), (.int .i64 n41), (.int .i64 n42), (.int .i64 n43), (.slice a12 l12 c12), (.slice a13 l13 c13), (.slice a14 l14 c14)] w5 fun w11 =>
  ∃ (n44 : Int) (n45 : Int) (n46 : Int) (n47 : Int) (n48 : Int) (n49 : Int) (n50 : Int) (n51 : Int) (n52 : Int) (n53 : Int) (n54 : Int) (n55 : Int) (a15 : Option Addr) (l15 c15 : Nat) (a16 : Option Addr) (l16 c16 : Nat) (a17 : Option Addr) (l17 c17 : Nat),
  cellsAt w11 ⟨r2, 0, none⟩ 0 [(.int .i64 n44), (.int .i64 n45), (.int .i64 n46), (.int .i64 n47), (.int .i64 n48), (.int .i64 n49), (.int .i64 n50), (.int .i64 n51), (.int .i64 n52), (.int .i64 n53), (.int .i64 n54), (.int .i64 n55), (.slice a15 l15 c15), (.slice a16 l16 c16), (.slice a17 l17 c17)] ∧
  K (.agg #[(.int .i64 n44), (.int .i64 n45), (.int .i64 n46), (.int .i64 n47), (.int .i64 n48), (.int .i64 n49), (.int .i64 n50), (.int .i64 n51), (.int .i64 n52), (.int .i64 n53), (.int .i64 n54), (.int .i64 n55), (.slice a15 l15 c15), (.slice a16 l16 c16), (.slice a17 l17 c17)]) w11)
def lPlain_ann : List (Nat × Live) := [(58, [(4, .s (.int .i64))])]
theorem lPlain_ok {n1 : Int} {n2 : Int} {n3 : Int} {n4 : Int} {n5 : Int} {n6 : Int} {n7 : Int} {n8 : Int} {n9 : Int} {n10 : Int} {n11 : Int} {n12 : Int} {a1 : Option Addr} {l1 c1 : Nat} {a2 : Option Addr} {l2 c2 : Nat} {a3 : Option Addr} {l3 c3 : Nat} {w : World} {K : Value → World → Prop} (h : lPlain n1 n2 n3 n4 n5 n6 n7 n8 n9 n10 n11 n12 a1 l1 c1 a2 l2 c2 a3 l3 c3 w K) : Calls Tryz.prog 6 #[(.agg #[(.int .i64 n1), (.int .i64 n2), (.int .i64 n3), (.int .i64 n4), (.int .i64 n5), (.int .i64 n6), (.int .i64 n7), (.int .i64 n8), (.int .i64 n9), (.int .i64 n10), (.int .i64 n11), (.int .i64 n12), (.slice a1 l1 c1), (.slice a2 l2 c2), (.slice a3 l3 c3)])] w fun e w' => ∃ v, e = .returned v ∧ K v w' :=
  calls_sh (annL lPlain_ann) Tryz.func6 (by kernel_rfl) (args := [(.agg #[(.int .i64 n1), (.int .i64 n2), (.int .i64 n3), (.int .i64 n4), (.int .i64 n5), (.int .i64 n6), (.int .i64 n7), (.int .i64 n8), (.int .i64 n9), (.int .i64 n10), (.int .i64 n11), (.int .i64 n12), (.slice a1 l1 c1), (.slice a2 l2 c2), (.slice a3 l3 c3)])]) (by kernel_rfl) h

-- saleroom/report.line
def rLine (a1 : Option Addr) (l1 c1 : Nat) (w : World) (K : Value → World → Prop) : Prop :=
 Calls Tryz.prog 41 #[(.slice a1 l1 c1), (.string (bs [32]))] w fun e1 w1 => ∃ (s1 : ByteArray),
 e1 = .returned (.string s1) ∧
 ((s1.size + (bs [10]).size : Nat) : Int) ≤ IntKind.i64.max ∧ K (.string (s1 ++ (bs [10]))) w1
def rLine_ann : List (Nat × Live) := []
theorem rLine_ok {a1 : Option Addr} {l1 c1 : Nat} {w : World} {K : Value → World → Prop} (h : rLine a1 l1 c1 w K) : Calls Tryz.prog 19 #[(.slice a1 l1 c1)] w fun e w' => ∃ v, e = .returned v ∧ K v w' :=
  calls_sh (annL rLine_ann) Tryz.func19 (by kernel_rfl) (args := [(.slice a1 l1 c1)]) (by kernel_rfl) h

-- saleroom/report.Format
def rFormat (n1 : Int) (n2 : Int) (n3 : Int) (n4 : Int) (n5 : Int) (n6 : Int) (n7 : Int) (n8 : Int) (n9 : Int) (n10 : Int) (n11 : Int) (n12 : Int) (a1 : Option Addr) (l1 c1 : Nat) (a2 : Option Addr) (l2 c2 : Nat) (a3 : Option Addr) (l3 c3 : Nat) (w : World) (K : Value → World → Prop) : Prop :=
 newK w (.cells #[(.int .i64 n1), (.int .i64 n2), (.int .i64 n3), (.int .i64 n4), (.int .i64 n5), (.int .i64 n6), (.int .i64 n7), (.int .i64 n8), (.int .i64 n9), (.int .i64 n10), (.int .i64 n11), (.int .i64 n12), (.slice a1 l1 c1), (.slice a2 l2 c2), (.slice a3 l3 c3)] 27) fun r1 w1 =>
 newK w1 (.cells #[(.pointer none), (.slice none 0 0)] 58) fun r2 w2 =>
 ∃ I1 : Int → World → Nat → Prop, (∃ m1, I1 (0 : Int) w2 m1) ∧
 ∀ (w3 : World) (m1 : Nat) (n13 : Int), I1 n13 w3 m1 → ∀ x1 : Nat → Value,
 cond (decide (n13 < (10 : Int)))
 (0 ≤ (IntKind.i64.wrap (n13 + (1 : Int))) ∧ (IntKind.i64.wrap (n13 + (1 : Int))) < ((11 : Nat) : Int) ∧
  ∃ (n14 : Int),
  w3.drew.cell? (Addr.add ⟨r1, 0, none⟩ (((IntKind.i64.wrap (n13 + (1 : Int)))).toNat * 1)) = some (.int .i64 n14) ∧
  Calls Tryz.prog 20 #[(.int .i64 (IntKind.i64.wrap (n13 + (1 : Int))))] w3.drew fun e1 w4 => ∃ (s1 : ByteArray),
  e1 = .returned (.string s1) ∧
  w4.cell? (Addr.add ⟨r1, 0, none⟩ (((IntKind.i64.wrap (n13 + (1 : Int)))).toNat * 1)) = some (.int .i64 n14) ∧
  Calls Tryz.prog 21 #[(.int .i64 n14)] w4 fun e2 w5 => ∃ (s2 : ByteArray),
  e2 = .returned (.string s2) ∧
  newK w5 (.cells #[(.string s1), (.string s2)] 9) fun r3 w6 =>
  Calls Tryz.prog 19 #[(.slice (some ⟨r3, 0, none⟩) 2 2)] w6 fun e3 w7 => ∃ (s3 : ByteArray),
  e3 = .returned (.string s3) ∧
  Calls Tryz.prog 18 #[(.pointer (some ⟨r2, 0, none⟩)), (.string s3)] w7 fun e4 w8 => ∃ (n15 : Int) (v1 : Value),
  e4 = .returned (.tuple #[(.int .i64 n15), v1]) ∧
  ∃ m2, m2 < m1 ∧ I1 (IntKind.i64.wrap (n13 + (1 : Int))) w8 m2)
 (∃ (n16 : Int),
  w3.cell? ⟨r1, 11, none⟩ = some (.int .i64 n16) ∧
  Calls Tryz.prog 21 #[(.int .i64 n16)] w3 fun e5 w9 => ∃ (s4 : ByteArray),
  e5 = .returned (.string s4) ∧
  newK w9 (.cells #[(.string (bs [114, 101, 102, 117, 115, 101, 100])), (.string s4)] 9) fun r4 w10 =>
  Calls Tryz.prog 19 #[(.slice (some ⟨r4, 0, none⟩) 2 2)] w10 fun e6 w11 => ∃ (s5 : ByteArray),
  e6 = .returned (.string s5) ∧
  Calls Tryz.prog 18 #[(.pointer (some ⟨r2, 0, none⟩)), (.string s5)] w11 fun e7 w12 => ∃ (n17 : Int) (v2 : Value),
  e7 = .returned (.tuple #[(.int .i64 n17), v2]) ∧
  ∃ (a4 : Option Addr) (l4 c4 : Nat),
  w12.cell? ⟨r1, 12, none⟩ = some (.slice a4 l4 c4) ∧
  ∃ I2 : Int → World → Nat → Prop, (∃ m3, I2 (0 : Int) w12 m3) ∧
  ∀ (w13 : World) (m3 : Nat) (n18 : Int), I2 n18 w13 m3 → ∀ x2 : Nat → Value,
  cond (decide (n18 < ((l4 : Nat) : Int)))
  (onSome a4 fun q1 =>
   0 ≤ n18 ∧ n18 < ((l4 : Nat) : Int) ∧
   ∃ (n19 : Int) (n20 : Int) (n21 : Int) (n22 : Int) (n23 : Int) (n24 : Int),
   cellsAt w13 (Addr.add q1 ((n18).toNat * 6)) 0 [(.int .i64 n19), (.int .i64 n20), (.int .i64 n21), (.int .i64 n22), (.int .i64 n23), (.int .i64 n24)] ∧
   newK w13 (.cells #[(.int .i64 (0 : Int)), (.int .i64 (0 : Int)), (.int .i64 (0 : Int)), (.int .i64 (0 : Int)), (.int .i64 (0 : Int)), (.int .i64 (0 : Int))] 66) fun r5 w14 =>
   stL ⟨r5, 0, none⟩ 0 [(.int .i64 n19), (.int .i64 n20), (.int .i64 n21), (.int .i64 n22), (.int .i64 n23), (.int .i64 n24)] w14 fun w15 =>
   newK w15 (.cells #[(.string (bs [112, 114, 105, 99, 101, 115]))] 9) fun r6 w16 =>
   ∃ (n25 : Int) (n26 : Int) (n27 : Int) (n28 : Int) (n29 : Int) (n30 : Int),
   cellsAt w16 ⟨r5, 0, none⟩ 0 [(.int .i64 n25), (.int .i64 n26), (.int .i64 n27), (.int .i64 n28), (.int .i64 n29), (.int .i64 n30)] ∧
   ∃ I3 : Option Addr → Nat → Nat → Int → World → Nat → Prop, (∃ m5, I3 (some ⟨r6, 0, none⟩) 1 1 (0 : Int) w16 m5) ∧
   ∀ (w17 : World) (m5 : Nat) (a5 : Option Addr) (l5 c5 : Nat) (n31 : Int), I3 a5 l5 c5 n31 w17 m5 → ∀ x3 : Nat → Value,
   cond (decide (n31 < (6 : Int)))
   (0 ≤ n31 ∧ n31 < ((6 : Nat) : Int) ∧
    ∃ (n32 : Int),
    (#[(.int .i64 n25), (.int .i64 n26), (.int .i64 n27), (.int .i64 n28), (.int .i64 n29), (.int .i64 n30)] : Array Value)[(n31).toNat * 1]? = some (.int .i64 n32) ∧
    Calls Tryz.prog 22 #[(.int .i64 n32), (.int .i64 (10 : Int))] w17 fun e8 w18 => ∃ (s6 : ByteArray),
    e8 = .returned (.string s6) ∧
    newK w18 (.cells #[(.string s6)] 9) fun r7 w19 =>
    rnS Tryz.prog (Builtin.append_ #[67, 67] 67 #[(.slice a5 l5 c5), (.slice (some ⟨r7, 0, none⟩) 1 1)]) w19 fun e9 w20 => ∃ (a6 : Option Addr) (l6 c6 : Nat),
    e9 = (.slice a6 l6 c6) ∧
    ∃ m6, m6 < m5 ∧ I3 a6 l6 c6 (IntKind.i64.wrap (n31 + (1 : Int))) w20 m6)
   (Calls Tryz.prog 19 #[(.slice a5 l5 c5)] w17 fun e10 w21 => ∃ (s7 : ByteArray),
    e10 = .returned (.string s7) ∧
    Calls Tryz.prog 18 #[(.pointer (some ⟨r2, 0, none⟩)), (.string s7)] w21 fun e11 w22 => ∃ (n33 : Int) (v3 : Value),
    e11 = .returned (.tuple #[(.int .i64 n33), v3]) ∧
    ∃ m4, m4 < m3 ∧ I2 (IntKind.i64.wrap (n18 + (1 : Int))) w22 m4))
  (∃ (a7 : Option Addr) (l7 c7 : Nat),
   w13.cell? ⟨r1, 14, none⟩ = some (.slice a7 l7 c7) ∧
   ∃ I4 : Int → World → Nat → Prop, (∃ m7, I4 (0 : Int) w13 m7) ∧
   ∀ (w23 : World) (m7 : Nat) (n34 : Int), I4 n34 w23 m7 → ∀ x4 : Nat → Value,
   cond (decide (n34 < ((l7 : Nat) : Int)))
   (onSome a7 fun q2 =>
    0 ≤ n34 ∧ n34 < ((l7 : Nat) : Int) ∧
    ∃ (n35 : Int),
    w23.cell? (Addr.add q2 ((n34).toNat * 1)) = some (.int .i64 n35) ∧
    Calls Tryz.prog 21 #[(.int .i64 n35)] w23 fun e12 w24 => ∃ (s8 : ByteArray),
    e12 = .returned (.string s8) ∧
    newK w24 (.cells #[(.string (bs [114, 101, 115, 101, 116])), (.string s8)] 9) fun r8 w25 =>
    Calls Tryz.prog 19 #[(.slice (some ⟨r8, 0, none⟩) 2 2)] w25 fun e13 w26 => ∃ (s9 : ByteArray),
    e13 = .returned (.string s9) ∧
    Calls Tryz.prog 18 #[(.pointer (some ⟨r2, 0, none⟩)), (.string s9)] w26 fun e14 w27 => ∃ (n36 : Int) (v4 : Value),
    e14 = .returned (.tuple #[(.int .i64 n36), v4]) ∧
    ∃ m8, m8 < m7 ∧ I4 (IntKind.i64.wrap (n34 + (1 : Int))) w27 m8)
   (∃ (a8 : Option Addr) (l8 c8 : Nat),
    w23.cell? ⟨r1, 13, none⟩ = some (.slice a8 l8 c8) ∧
    ∃ I5 : Int → World → Nat → Prop, (∃ m9, I5 (0 : Int) w23 m9) ∧
    ∀ (w28 : World) (m9 : Nat) (n37 : Int), I5 n37 w28 m9 → ∀ x5 : Nat → Value,
    cond (decide (n37 < ((l8 : Nat) : Int)))
    (onSome a8 fun q3 =>
     0 ≤ n37 ∧ n37 < ((l8 : Nat) : Int) ∧
     ∃ (s10 : ByteArray) (n38 : Int) (n39 : Int) (n40 : Int) (b1 : Bool) (a9 : Option Addr) (l9 c9 : Nat),
     cellsAt w28 (Addr.add q3 ((n37).toNat * 6)) 0 [(.string s10), (.int .i64 n38), (.int .i64 n39), (.int .i64 n40), (.bool b1), (.slice a9 l9 c9)] ∧
     newK w28 (.cells #[(.string (bs [])), (.int .i64 (0 : Int)), (.int .i64 (0 : Int)), (.int .i64 (0 : Int)), (.bool false), (.slice none 0 0)] 47) fun r9 w29 =>
     stL ⟨r9, 0, none⟩ 0 [(.string s10), (.int .i64 n38), (.int .i64 n39), (.int .i64 n40), (.bool b1), (.slice a9 l9 c9)] w29 fun w30 =>
     ∃ (s11 : ByteArray),
     w30.drew.cell? ⟨r9, 0, none⟩ = some (.string s11) ∧
     ∃ (n41 : Int),
     w30.drew.cell? ⟨r9, 1, none⟩ = some (.int .i64 n41) ∧
     ∃ (n42 : Int),
     w30.drew.cell? ⟨r9, 2, none⟩ = some (.int .i64 n42) ∧
     ∃ (n43 : Int),
     w30.drew.cell? ⟨r9, 3, none⟩ = some (.int .i64 n43) ∧
     Calls Tryz.prog 21 #[(.int .i64 n41)] w30.drew fun e15 w31 => ∃ (s12 : ByteArray),
     e15 = .returned (.string s12) ∧
     w31.cell? ⟨r9, 3, none⟩ = some (.int .i64 n43) ∧
     w31.cell? ⟨r9, 2, none⟩ = some (.int .i64 n42) ∧
     w31.cell? ⟨r9, 0, none⟩ = some (.string s11) ∧
     Calls Tryz.prog 21 #[(.int .i64 n42)] w31 fun e16 w32 => ∃ (s13 : ByteArray),
     e16 = .returned (.string s13) ∧
     w32.cell? ⟨r9, 3, none⟩ = some (.int .i64 n43) ∧
     w32.cell? ⟨r9, 0, none⟩ = some (.string s11) ∧
     Calls Tryz.prog 21 #[(.int .i64 n43)] w32 fun e17 w33 => ∃ (s14 : ByteArray),
     e17 = .returned (.string s14) ∧
     w33.cell? ⟨r9, 0, none⟩ = some (.string s11) ∧
     newK w33 (.cells #[(.string (bs [98, 105, 100, 100, 101, 114])), (.string s11), (.string s12), (.string s13), (.string s14), (.string (bs [105, 110]))] 9) fun r10 w34 =>
     ∃ J1 : World → Prop, (∀ (w35 : World), J1 w35 → ∀ x6 : Nat → Value,
      ∃ (a10 : Option Addr) (l10 c10 : Nat),
      w35.cell? ⟨r9, 5, none⟩ = some (.slice a10 l10 c10) ∧
      ∃ I6 : Option Addr → Nat → Nat → Int → World → Nat → Prop, (∃ m11, I6 (some ⟨r10, 0, none⟩) 6 6 (0 : Int) w35 m11) ∧
      ∀ (w36 : World) (m11 : Nat) (a11 : Option Addr) (l11 c11 : Nat) (n44 : Int), I6 a11 l11 c11 n44 w36 m11 → ∀ x7 : Nat → Value,
      cond (decide (n44 < ((l10 : Nat) : Int)))
      (onSome a10 fun q4 =>
       0 ≤ n44 ∧ n44 < ((l10 : Nat) : Int) ∧
       ∃ (n45 : Int),
       w36.cell? (Addr.add q4 ((n44).toNat * 1)) = some (.int .i64 n45) ∧
       Calls Tryz.prog 21 #[(.int .i64 n45)] w36 fun e18 w37 => ∃ (s15 : ByteArray),
       e18 = .returned (.string s15) ∧
       newK w37 (.cells #[(.string s15)] 9) fun r11 w38 =>
       rnS Tryz.prog (Builtin.append_ #[67, 67] 67 #[(.slice a11 l11 c11), (.slice (some ⟨r11, 0, none⟩) 1 1)]) w38 fun e19 w39 => ∃ (a12 : Option Addr) (l12 c12 : Nat),
       e19 = (.slice a12 l12 c12) ∧
       ∃ m12, m12 < m11 ∧ I6 a12 l12 c12 (IntKind.i64.wrap (n44 + (1 : Int))) w39 m12)
      (Calls Tryz.prog 19 #[(.slice a11 l11 c11)] w36 fun e20 w40 => ∃ (s16 : ByteArray),
       e20 = .returned (.string s16) ∧
       Calls Tryz.prog 18 #[(.pointer (some ⟨r2, 0, none⟩)), (.string s16)] w40 fun e21 w41 => ∃ (n46 : Int) (v5 : Value),
       e21 = .returned (.tuple #[(.int .i64 n46), v5]) ∧
       ∃ m10, m10 < m9 ∧ I5 (IntKind.i64.wrap (n37 + (1 : Int))) w41 m10)) ∧
     ∃ (b2 : Bool),
     w34.cell? ⟨r9, 4, none⟩ = some (.bool b2) ∧
     cond b2
     (0 ≤ (5 : Int) ∧ (5 : Int) < ((6 : Nat) : Int) ∧
      stK w34 (Addr.add ⟨r10, 0, none⟩ (((5 : Int)).toNat * 1)) (.string (bs [111, 117, 116])) fun w42 =>
      J1 w42)
     (J1 w34))
    (Calls Tryz.prog 23 #[(.pointer (some ⟨r2, 0, none⟩))] w28 fun e22 w43 => ∃ (s17 : ByteArray),
     e22 = .returned (.string s17) ∧
     K (.string s17) w43))))
def rFormat_ann : List (Nat × Live) := [(58, [(17, .s (.int .i64))]), (250, [(42, .s (.int .i64))]), (256410, [(7, .s (.slice)), (48, .s (.int .i64))]), (506, [(64, .s (.int .i64))]), (1018, [(77, .s (.int .i64))]), (130355, []), (2085690, [(14, .s (.slice)), (100, .s (.int .i64))])]
theorem rFormat_ok {n1 : Int} {n2 : Int} {n3 : Int} {n4 : Int} {n5 : Int} {n6 : Int} {n7 : Int} {n8 : Int} {n9 : Int} {n10 : Int} {n11 : Int} {n12 : Int} {a1 : Option Addr} {l1 c1 : Nat} {a2 : Option Addr} {l2 c2 : Nat} {a3 : Option Addr} {l3 c3 : Nat} {w : World} {K : Value → World → Prop} (h : rFormat n1 n2 n3 n4 n5 n6 n7 n8 n9 n10 n11 n12 a1 l1 c1 a2 l2 c2 a3 l3 c3 w K) : Calls Tryz.prog 8 #[(.agg #[(.int .i64 n1), (.int .i64 n2), (.int .i64 n3), (.int .i64 n4), (.int .i64 n5), (.int .i64 n6), (.int .i64 n7), (.int .i64 n8), (.int .i64 n9), (.int .i64 n10), (.int .i64 n11), (.int .i64 n12), (.slice a1 l1 c1), (.slice a2 l2 c2), (.slice a3 l3 c3)])] w fun e w' => ∃ v, e = .returned v ∧ K v w' :=
  calls_sh (annL rFormat_ann) Tryz.func8 (by kernel_rfl) (args := [(.agg #[(.int .i64 n1), (.int .i64 n2), (.int .i64 n3), (.int .i64 n4), (.int .i64 n5), (.int .i64 n6), (.int .i64 n7), (.int .i64 n8), (.int .i64 n9), (.int .i64 n10), (.int .i64 n11), (.int .i64 n12), (.slice a1 l1 c1), (.slice a2 l2 c2), (.slice a3 l3 c3)])]) (by kernel_rfl) h

-- saleroom/saleroomref55.Format
def qFormat (n1 : Int) (n2 : Int) (n3 : Int) (n4 : Int) (n5 : Int) (n6 : Int) (n7 : Int) (n8 : Int) (n9 : Int) (n10 : Int) (n11 : Int) (n12 : Int) (a1 : Option Addr) (l1 c1 : Nat) (a2 : Option Addr) (l2 c2 : Nat) (a3 : Option Addr) (l3 c3 : Nat) (w : World) (K : Value → World → Prop) : Prop :=
 newK w (.cells #[(.int .i64 n1), (.int .i64 n2), (.int .i64 n3), (.int .i64 n4), (.int .i64 n5), (.int .i64 n6), (.int .i64 n7), (.int .i64 n8), (.int .i64 n9), (.int .i64 n10), (.int .i64 n11), (.int .i64 n12), (.slice a1 l1 c1), (.slice a2 l2 c2), (.slice a3 l3 c3)] 31) fun r1 w1 =>
 ∃ I1 : ByteArray → Int → World → Nat → Prop, (∃ m1, I1 (bs []) (1 : Int) w1 m1) ∧
 ∀ (w2 : World) (m1 : Nat) (s1 : ByteArray) (n13 : Int), I1 s1 n13 w2 m1 → ∀ x1 : Nat → Value,
 cond (decide (n13 ≤ (10 : Int)))
 (0 ≤ n13 ∧ n13 < ((11 : Nat) : Int) ∧
  ∃ (n14 : Int),
  w2.drew.cell? (Addr.add ⟨r1, 0, none⟩ ((n13).toNat * 1)) = some (.int .i64 n14) ∧
  Calls Tryz.prog 24 #[(.int .i64 n13)] w2.drew fun e1 w3 => ∃ (s2 : ByteArray),
  e1 = .returned (.string s2) ∧
  w3.cell? (Addr.add ⟨r1, 0, none⟩ ((n13).toNat * 1)) = some (.int .i64 n14) ∧
  ((s1.size + s2.size : Nat) : Int) ≤ IntKind.i64.max ∧ (((s1 ++ s2).size + (bs [32]).size : Nat) : Int) ≤ IntKind.i64.max ∧ Calls Tryz.prog 25 #[(.int .i64 n14)] w3 fun e2 w4 => ∃ (s3 : ByteArray),
  e2 = .returned (.string s3) ∧
  ((((s1 ++ s2) ++ (bs [32])).size + s3.size : Nat) : Int) ≤ IntKind.i64.max ∧ (((((s1 ++ s2) ++ (bs [32])) ++ s3).size + (bs [10]).size : Nat) : Int) ≤ IntKind.i64.max ∧ ∃ m2, m2 < m1 ∧ I1 ((((s1 ++ s2) ++ (bs [32])) ++ s3) ++ (bs [10])) (IntKind.i64.wrap (n13 + (1 : Int))) w4 m2)
 (((s1.size + (bs [114, 101, 102, 117, 115, 101, 100, 32]).size : Nat) : Int) ≤ IntKind.i64.max ∧ ∃ (n15 : Int),
  w2.cell? ⟨r1, 11, none⟩ = some (.int .i64 n15) ∧
  Calls Tryz.prog 25 #[(.int .i64 n15)] w2 fun e3 w5 => ∃ (s4 : ByteArray),
  e3 = .returned (.string s4) ∧
  (((s1 ++ (bs [114, 101, 102, 117, 115, 101, 100, 32])).size + s4.size : Nat) : Int) ≤ IntKind.i64.max ∧ ((((s1 ++ (bs [114, 101, 102, 117, 115, 101, 100, 32])) ++ s4).size + (bs [10]).size : Nat) : Int) ≤ IntKind.i64.max ∧ ∃ I2 : ByteArray → Int → World → Nat → Prop, (∃ m3, I2 (((s1 ++ (bs [114, 101, 102, 117, 115, 101, 100, 32])) ++ s4) ++ (bs [10])) (0 : Int) w5 m3) ∧
  ∀ (w6 : World) (m3 : Nat) (s5 : ByteArray) (n16 : Int), I2 s5 n16 w6 m3 → ∀ x2 : Nat → Value,
  ∃ (a4 : Option Addr) (l4 c4 : Nat),
  w6.cell? ⟨r1, 12, none⟩ = some (.slice a4 l4 c4) ∧
  cond (decide (n16 < ((l4 : Nat) : Int)))
  (((s5.size + (bs [112, 114, 105, 99, 101, 115]).size : Nat) : Int) ≤ IntKind.i64.max ∧ ∃ I3 : ByteArray → Int → World → Nat → Prop, (∃ m5, I3 (s5 ++ (bs [112, 114, 105, 99, 101, 115])) (0 : Int) w6 m5) ∧
   ∀ (w7 : World) (m5 : Nat) (s6 : ByteArray) (n17 : Int), I3 s6 n17 w7 m5 → ∀ x3 : Nat → Value,
   cond (decide (n17 < (6 : Int)))
   (((s6.size + (bs [32]).size : Nat) : Int) ≤ IntKind.i64.max ∧ ∃ (a5 : Option Addr) (l5 c5 : Nat),
    w7.cell? ⟨r1, 12, none⟩ = some (.slice a5 l5 c5) ∧
    onSome a5 fun q1 =>
    0 ≤ n16 ∧ n16 < ((l5 : Nat) : Int) ∧
    0 ≤ n17 ∧ n17 < ((6 : Nat) : Int) ∧
    ∃ (n18 : Int),
    w7.cell? (Addr.add (Addr.add q1 ((n16).toNat * 6)) ((n17).toNat * 1)) = some (.int .i64 n18) ∧
    Calls Tryz.prog 25 #[(.int .i64 n18)] w7 fun e4 w8 => ∃ (s7 : ByteArray),
    e4 = .returned (.string s7) ∧
    (((s6 ++ (bs [32])).size + s7.size : Nat) : Int) ≤ IntKind.i64.max ∧ ∃ m6, m6 < m5 ∧ I3 ((s6 ++ (bs [32])) ++ s7) (IntKind.i64.wrap (n17 + (1 : Int))) w8 m6)
   (((s6.size + (bs [10]).size : Nat) : Int) ≤ IntKind.i64.max ∧ ∃ m4, m4 < m3 ∧ I2 (s6 ++ (bs [10])) (IntKind.i64.wrap (n16 + (1 : Int))) w7 m4))
  (∃ I4 : ByteArray → Int → World → Nat → Prop, (∃ m7, I4 s5 (0 : Int) w6 m7) ∧
   ∀ (w9 : World) (m7 : Nat) (s8 : ByteArray) (n19 : Int), I4 s8 n19 w9 m7 → ∀ x4 : Nat → Value,
   ∃ (a6 : Option Addr) (l6 c6 : Nat),
   w9.cell? ⟨r1, 14, none⟩ = some (.slice a6 l6 c6) ∧
   cond (decide (n19 < ((l6 : Nat) : Int)))
   (((s8.size + (bs [114, 101, 115, 101, 116, 32]).size : Nat) : Int) ≤ IntKind.i64.max ∧ ∃ (a7 : Option Addr) (l7 c7 : Nat),
    w9.cell? ⟨r1, 14, none⟩ = some (.slice a7 l7 c7) ∧
    onSome a7 fun q2 =>
    0 ≤ n19 ∧ n19 < ((l7 : Nat) : Int) ∧
    ∃ (n20 : Int),
    w9.cell? (Addr.add q2 ((n19).toNat * 1)) = some (.int .i64 n20) ∧
    Calls Tryz.prog 25 #[(.int .i64 n20)] w9 fun e5 w10 => ∃ (s9 : ByteArray),
    e5 = .returned (.string s9) ∧
    (((s8 ++ (bs [114, 101, 115, 101, 116, 32])).size + s9.size : Nat) : Int) ≤ IntKind.i64.max ∧ ((((s8 ++ (bs [114, 101, 115, 101, 116, 32])) ++ s9).size + (bs [10]).size : Nat) : Int) ≤ IntKind.i64.max ∧ ∃ m8, m8 < m7 ∧ I4 (((s8 ++ (bs [114, 101, 115, 101, 116, 32])) ++ s9) ++ (bs [10])) (IntKind.i64.wrap (n19 + (1 : Int))) w10 m8)
   (∃ I5 : ByteArray → Int → World → Nat → Prop, (∃ m9, I5 s8 (0 : Int) w9 m9) ∧
    ∀ (w11 : World) (m9 : Nat) (s10 : ByteArray) (n21 : Int), I5 s10 n21 w11 m9 → ∀ x5 : Nat → Value,
    ∃ (a8 : Option Addr) (l8 c8 : Nat),
    w11.cell? ⟨r1, 13, none⟩ = some (.slice a8 l8 c8) ∧
    cond (decide (n21 < ((l8 : Nat) : Int)))
    (∃ (a9 : Option Addr) (l9 c9 : Nat),
     w11.cell? ⟨r1, 13, none⟩ = some (.slice a9 l9 c9) ∧
     onSome a9 fun q3 =>
     0 ≤ n21 ∧ n21 < ((l9 : Nat) : Int) ∧
     ∃ (s11 : ByteArray) (n22 : Int) (n23 : Int) (n24 : Int) (b1 : Bool) (a10 : Option Addr) (l10 c10 : Nat),
     cellsAt w11 (Addr.add q3 ((n21).toNat * 6)) 0 [(.string s11), (.int .i64 n22), (.int .i64 n23), (.int .i64 n24), (.bool b1), (.slice a10 l10 c10)] ∧
     newK w11 (.cells #[(.string (bs [])), (.int .i64 (0 : Int)), (.int .i64 (0 : Int)), (.int .i64 (0 : Int)), (.bool false), (.slice none 0 0)] 46) fun r2 w12 =>
     stL ⟨r2, 0, none⟩ 0 [(.string s11), (.int .i64 n22), (.int .i64 n23), (.int .i64 n24), (.bool b1), (.slice a10 l10 c10)] w12 fun w13 =>
     ((s10.size + (bs [98, 105, 100, 100, 101, 114, 32]).size : Nat) : Int) ≤ IntKind.i64.max ∧ ∃ (s12 : ByteArray),
     w13.drew.cell? ⟨r2, 0, none⟩ = some (.string s12) ∧
     (((s10 ++ (bs [98, 105, 100, 100, 101, 114, 32])).size + s12.size : Nat) : Int) ≤ IntKind.i64.max ∧ ((((s10 ++ (bs [98, 105, 100, 100, 101, 114, 32])) ++ s12).size + (bs [32]).size : Nat) : Int) ≤ IntKind.i64.max ∧ ∃ (n25 : Int),
     w13.drew.cell? ⟨r2, 1, none⟩ = some (.int .i64 n25) ∧
     ∃ (n26 : Int),
     w13.drew.cell? ⟨r2, 2, none⟩ = some (.int .i64 n26) ∧
     ∃ (n27 : Int),
     w13.drew.cell? ⟨r2, 3, none⟩ = some (.int .i64 n27) ∧
     Calls Tryz.prog 25 #[(.int .i64 n25)] w13.drew fun e6 w14 => ∃ (s13 : ByteArray),
     e6 = .returned (.string s13) ∧
     w14.cell? ⟨r2, 3, none⟩ = some (.int .i64 n27) ∧
     w14.cell? ⟨r2, 2, none⟩ = some (.int .i64 n26) ∧
     w14.cell? ⟨r2, 0, none⟩ = some (.string s12) ∧
     (((((s10 ++ (bs [98, 105, 100, 100, 101, 114, 32])) ++ s12) ++ (bs [32])).size + s13.size : Nat) : Int) ≤ IntKind.i64.max ∧ ((((((s10 ++ (bs [98, 105, 100, 100, 101, 114, 32])) ++ s12) ++ (bs [32])) ++ s13).size + (bs [32]).size : Nat) : Int) ≤ IntKind.i64.max ∧ Calls Tryz.prog 25 #[(.int .i64 n26)] w14 fun e7 w15 => ∃ (s14 : ByteArray),
     e7 = .returned (.string s14) ∧
     w15.cell? ⟨r2, 3, none⟩ = some (.int .i64 n27) ∧
     w15.cell? ⟨r2, 0, none⟩ = some (.string s12) ∧
     (((((((s10 ++ (bs [98, 105, 100, 100, 101, 114, 32])) ++ s12) ++ (bs [32])) ++ s13) ++ (bs [32])).size + s14.size : Nat) : Int) ≤ IntKind.i64.max ∧ ((((((((s10 ++ (bs [98, 105, 100, 100, 101, 114, 32])) ++ s12) ++ (bs [32])) ++ s13) ++ (bs [32])) ++ s14).size + (bs [32]).size : Nat) : Int) ≤ IntKind.i64.max ∧ Calls Tryz.prog 25 #[(.int .i64 n27)] w15 fun e8 w16 => ∃ (s15 : ByteArray),
     e8 = .returned (.string s15) ∧
     w16.cell? ⟨r2, 0, none⟩ = some (.string s12) ∧
     (((((((((s10 ++ (bs [98, 105, 100, 100, 101, 114, 32])) ++ s12) ++ (bs [32])) ++ s13) ++ (bs [32])) ++ s14) ++ (bs [32])).size + s15.size : Nat) : Int) ≤ IntKind.i64.max ∧ ∃ J1 : ByteArray → World → Prop, (∀ (w17 : World) (s16 : ByteArray), J1 s16 w17 → ∀ x6 : Nat → Value,
      ∃ I6 : ByteArray → Int → World → Nat → Prop, (∃ m11, I6 s16 (0 : Int) w17 m11) ∧
      ∀ (w18 : World) (m11 : Nat) (s17 : ByteArray) (n28 : Int), I6 s17 n28 w18 m11 → ∀ x7 : Nat → Value,
      ∃ (a11 : Option Addr) (l11 c11 : Nat),
      w18.cell? ⟨r2, 5, none⟩ = some (.slice a11 l11 c11) ∧
      cond (decide (n28 < ((l11 : Nat) : Int)))
      (((s17.size + (bs [32]).size : Nat) : Int) ≤ IntKind.i64.max ∧ ∃ (a12 : Option Addr) (l12 c12 : Nat),
       w18.cell? ⟨r2, 5, none⟩ = some (.slice a12 l12 c12) ∧
       onSome a12 fun q4 =>
       0 ≤ n28 ∧ n28 < ((l12 : Nat) : Int) ∧
       ∃ (n29 : Int),
       w18.cell? (Addr.add q4 ((n28).toNat * 1)) = some (.int .i64 n29) ∧
       Calls Tryz.prog 25 #[(.int .i64 n29)] w18 fun e9 w19 => ∃ (s18 : ByteArray),
       e9 = .returned (.string s18) ∧
       (((s17 ++ (bs [32])).size + s18.size : Nat) : Int) ≤ IntKind.i64.max ∧ ∃ m12, m12 < m11 ∧ I6 ((s17 ++ (bs [32])) ++ s18) (IntKind.i64.wrap (n28 + (1 : Int))) w19 m12)
      (((s17.size + (bs [10]).size : Nat) : Int) ≤ IntKind.i64.max ∧ ∃ m10, m10 < m9 ∧ I5 (s17 ++ (bs [10])) (IntKind.i64.wrap (n21 + (1 : Int))) w18 m10)) ∧
     ∃ (b2 : Bool),
     w16.cell? ⟨r2, 4, none⟩ = some (.bool b2) ∧
     cond b2
     (((((((((((s10 ++ (bs [98, 105, 100, 100, 101, 114, 32])) ++ s12) ++ (bs [32])) ++ s13) ++ (bs [32])) ++ s14) ++ (bs [32])) ++ s15).size + (bs [32, 111, 117, 116]).size : Nat) : Int) ≤ IntKind.i64.max ∧ J1 (((((((((s10 ++ (bs [98, 105, 100, 100, 101, 114, 32])) ++ s12) ++ (bs [32])) ++ s13) ++ (bs [32])) ++ s14) ++ (bs [32])) ++ s15) ++ (bs [32, 111, 117, 116])) w16)
     (((((((((((s10 ++ (bs [98, 105, 100, 100, 101, 114, 32])) ++ s12) ++ (bs [32])) ++ s13) ++ (bs [32])) ++ s14) ++ (bs [32])) ++ s15).size + (bs [32, 105, 110]).size : Nat) : Int) ≤ IntKind.i64.max ∧ J1 (((((((((s10 ++ (bs [98, 105, 100, 100, 101, 114, 32])) ++ s12) ++ (bs [32])) ++ s13) ++ (bs [32])) ++ s14) ++ (bs [32])) ++ s15) ++ (bs [32, 105, 110])) w16))
    (K (.string s10) w11))))
def qFormat_ann : List (Nat × Live) := [(58, [(3, .s (.str)), (4, .s (.int .i64))]), (250, [(3, .s (.str)), (5, .s (.int .i64))]), (64074, [(3, .s (.str)), (6, .s (.int .i64))]), (506, [(3, .s (.str)), (7, .s (.int .i64))]), (1018, [(3, .s (.str)), (8, .s (.int .i64))]), (65171, [(3, .s (.str))]), (1042746, [(3, .s (.str)), (10, .s (.int .i64))])]
theorem qFormat_ok {n1 : Int} {n2 : Int} {n3 : Int} {n4 : Int} {n5 : Int} {n6 : Int} {n7 : Int} {n8 : Int} {n9 : Int} {n10 : Int} {n11 : Int} {n12 : Int} {a1 : Option Addr} {l1 c1 : Nat} {a2 : Option Addr} {l2 c2 : Nat} {a3 : Option Addr} {l3 c3 : Nat} {w : World} {K : Value → World → Prop} (h : qFormat n1 n2 n3 n4 n5 n6 n7 n8 n9 n10 n11 n12 a1 l1 c1 a2 l2 c2 a3 l3 c3 w K) : Calls Tryz.prog 9 #[(.agg #[(.int .i64 n1), (.int .i64 n2), (.int .i64 n3), (.int .i64 n4), (.int .i64 n5), (.int .i64 n6), (.int .i64 n7), (.int .i64 n8), (.int .i64 n9), (.int .i64 n10), (.int .i64 n11), (.int .i64 n12), (.slice a1 l1 c1), (.slice a2 l2 c2), (.slice a3 l3 c3)])] w fun e w' => ∃ v, e = .returned v ∧ K v w' :=
  calls_sh (annL qFormat_ann) Tryz.func9 (by kernel_rfl) (args := [(.agg #[(.int .i64 n1), (.int .i64 n2), (.int .i64 n3), (.int .i64 n4), (.int .i64 n5), (.int .i64 n6), (.int .i64 n7), (.int .i64 n8), (.int .i64 n9), (.int .i64 n10), (.int .i64 n11), (.int .i64 n12), (.slice a1 l1 c1), (.slice a2 l2 c2), (.slice a3 l3 c3)])]) (by kernel_rfl) h

end Go.Proofs.YtdpcgfcabikjmaaGreatDoor

/- What each function of the seat comes to, printed by program (sh.py); the kernel holds each print against the loaded code. -/
import Derived.Test.YtniehglfkacjjaaDoorVc5
import Derived.Test.YtniehglfkacjjaaDoorProg
import Derived.KernelRfl
set_option linter.unusedVariables false
namespace Go.Proofs.YtniehglfkacjjaaDoor
open Go Go.Vc
-- saleroom/checksum.Hash
def cHash (s1 : ByteArray) (w : World) (K : Value → World → Prop) : Prop :=
 ∃ I1 : Int → Int → World → Nat → Prop, (∃ m1, I1 (14695981039346656037 : Int) (0 : Int) w m1) ∧
 ∀ (w1 : World) (m1 : Nat) (n1 : Int) (n2 : Int), I1 n1 n2 w1 m1 → ∀ x1 : Nat → Value,
 cond (decide (n2 < ((s1.size : Nat) : Int)))
 (0 ≤ n2 ∧ onSome s1[(n2).toNat]? fun u1 =>
  ∃ m2, m2 < m1 ∧ I1 (IntKind.u64.wrap ((xorI .u64 n1 (IntKind.u64.wrap (u1.toNat : Int))) * (1099511628211 : Int))) (IntKind.i64.wrap (n2 + (1 : Int))) w1 m2)
 (K (.int .u64 n1) w1)
def cHash_ann : List (Nat × Live) := [(58, [(3, .s (.int .u64)), (4, .s (.int .i64))])]
theorem cHash_ok {s1 : ByteArray} {w : World} {K : Value → World → Prop} (h : cHash s1 w K) : Calls Tryd.prog 51 #[(.string s1)] w fun e w' => ∃ v, e = .returned v ∧ K v w' :=
  calls_sh (annL cHash_ann) Tryd.func51 (by kernel_rfl) (args := [(.string s1)]) (by kernel_rfl) h

-- saleroom/checksum.low
def cLow (n1 : Int) (n2 : Int) (w : World) (K : Value → World → Prop) : Prop :=
 rnS Tryd.prog (Instr.makeSlice 59 (.int .i64 n2) (.int .i64 n2)) w fun e1 w1 => ∃ (a1 : Option Addr) (l1 c1 : Nat),
 e1 = (.slice a1 l1 c1) ∧
 ∃ I1 : Int → World → Nat → Prop, (∃ m1, I1 (0 : Int) w1 m1) ∧
 ∀ (w2 : World) (m1 : Nat) (n3 : Int), I1 n3 w2 m1 → ∀ x1 : Nat → Value,
 cond (decide (n3 < ((l1 : Nat) : Int)))
 (0 ≤ (IntKind.i64.wrap ((8 : Int) * n3)) ∧ onSome a1 fun q1 =>
  0 ≤ n3 ∧ n3 < ((l1 : Nat) : Int) ∧
  stK w2 (Addr.add q1 ((n3).toNat * 1)) (.int .u8 (IntKind.u8.wrap (Int.fdiv n1 (2 ^ (min ((IntKind.i64.wrap ((8 : Int) * n3))).toNat IntKind.u64.bits))))) fun w3 =>
  ∃ m2, m2 < m1 ∧ I1 (IntKind.i64.wrap (n3 + (1 : Int))) w3 m2)
 (rnS Tryd.prog (convert 59 9 (.slice a1 l1 c1)) w2 fun e2 w4 => ∃ (s1 : ByteArray),
  e2 = (.string s1) ∧
  K (.string s1) w4)
def cLow_ann : List (Nat × Live) := [(58, [(11, .s (.int .i64))])]
theorem cLow_ok {n1 : Int} {n2 : Int} {w : World} {K : Value → World → Prop} (h : cLow n1 n2 w K) : Calls Tryd.prog 52 #[(.int .u64 n1), (.int .i64 n2)] w fun e w' => ∃ v, e = .returned v ∧ K v w' :=
  calls_sh (annL cLow_ann) Tryd.func52 (by kernel_rfl) (args := [(.int .u64 n1), (.int .i64 n2)]) (by kernel_rfl) h

-- saleroom/checksum.Chain
def cChain (n1 : Int) (s1 : ByteArray) (w : World) (K : Value → World → Prop) : Prop :=
 Calls Tryd.prog 52 #[(.int .u64 n1), (.int .i64 (8 : Int))] w fun e1 w1 => ∃ (s2 : ByteArray),
 e1 = .returned (.string s2) ∧
 Calls Tryd.prog 52 #[(.int .u64 (IntKind.u64.wrap ((s1.size : Nat) : Int))), (.int .i64 (8 : Int))] w1 fun e2 w2 => ∃ (s3 : ByteArray),
 e2 = .returned (.string s3) ∧
 ((s2.size + s3.size : Nat) : Int) ≤ IntKind.i64.max ∧ (((s2 ++ s3).size + s1.size : Nat) : Int) ≤ IntKind.i64.max ∧ Calls Tryd.prog 51 #[(.string ((s2 ++ s3) ++ s1))] w2 fun e3 w3 => ∃ (n2 : Int),
 e3 = .returned (.int .u64 n2) ∧
 K (.int .u64 n2) w3
def cChain_ann : List (Nat × Live) := []
theorem cChain_ok {n1 : Int} {s1 : ByteArray} {w : World} {K : Value → World → Prop} (h : cChain n1 s1 w K) : Calls Tryd.prog 33 #[(.int .u64 n1), (.string s1)] w fun e w' => ∃ v, e = .returned v ∧ K v w' :=
  calls_sh (annL cChain_ann) Tryd.func33 (by kernel_rfl) (args := [(.int .u64 n1), (.string s1)]) (by kernel_rfl) h

-- saleroom/saleroomref03.Hash
def rHash (s1 : ByteArray) (w : World) (K : Value → World → Prop) : Prop :=
 ∃ I1 : Int → Int → World → Nat → Prop, (∃ m1, I1 (14695981039346656037 : Int) (0 : Int) w m1) ∧
 ∀ (w1 : World) (m1 : Nat) (n1 : Int) (n2 : Int), I1 n1 n2 w1 m1 → ∀ x1 : Nat → Value,
 cond (decide (n2 < ((s1.size : Nat) : Int)))
 (0 ≤ n2 ∧ onSome s1[(n2).toNat]? fun u1 =>
  ∃ m2, m2 < m1 ∧ I1 (IntKind.u64.wrap ((xorI .u64 n1 (IntKind.u64.wrap (u1.toNat : Int))) * (1099511628211 : Int))) (IntKind.i64.wrap (n2 + (1 : Int))) w1 m2)
 (K (.int .u64 n1) w1)
def rHash_ann : List (Nat × Live) := [(58, [(3, .s (.int .u64)), (4, .s (.int .i64))])]
theorem rHash_ok {s1 : ByteArray} {w : World} {K : Value → World → Prop} (h : rHash s1 w K) : Calls Tryd.prog 60 #[(.string s1)] w fun e w' => ∃ v, e = .returned v ∧ K v w' :=
  calls_sh (annL rHash_ann) Tryd.func60 (by kernel_rfl) (args := [(.string s1)]) (by kernel_rfl) h

-- saleroom/saleroomref03.bytes
def rBytes (n1 : Int) (n2 : Int) (w : World) (K : Value → World → Prop) : Prop :=
 ∃ I1 : Int → ByteArray → Int → World → Nat → Prop, (∃ m1, I1 n1 (bs []) (0 : Int) w m1) ∧
 ∀ (w1 : World) (m1 : Nat) (n3 : Int) (s1 : ByteArray) (n4 : Int), I1 n3 s1 n4 w1 m1 → ∀ x1 : Nat → Value,
 cond (decide (n4 < n2))
 ((256 : Int) ≠ 0 ∧ newK w1 (.cells #[(.int .u8 (IntKind.u8.wrap (Int.tmod n3 (256 : Int))))] 5) fun r1 w2 =>
  rnS Tryd.prog (convert 59 9 (.slice (some ⟨r1, 0, none⟩) 1 1)) w2 fun e1 w3 => ∃ (s2 : ByteArray),
  e1 = (.string s2) ∧
  ((s1.size + s2.size : Nat) : Int) ≤ IntKind.i64.max ∧ (256 : Int) ≠ 0 ∧ ∃ m2, m2 < m1 ∧ I1 (IntKind.u64.wrap (Int.tdiv n3 (256 : Int))) (s1 ++ s2) (IntKind.i64.wrap (n4 + (1 : Int))) w3 m2)
 (K (.string s1) w1)
def rBytes_ann : List (Nat × Live) := [(58, [(0, .s (.int .u64)), (5, .s (.str)), (6, .s (.int .i64))])]
theorem rBytes_ok {n1 : Int} {n2 : Int} {w : World} {K : Value → World → Prop} (h : rBytes n1 n2 w K) : Calls Tryd.prog 61 #[(.int .u64 n1), (.int .i64 n2)] w fun e w' => ∃ v, e = .returned v ∧ K v w' :=
  calls_sh (annL rBytes_ann) Tryd.func61 (by kernel_rfl) (args := [(.int .u64 n1), (.int .i64 n2)]) (by kernel_rfl) h

-- saleroom/saleroomref03.Chain
def rChain (n1 : Int) (s1 : ByteArray) (w : World) (K : Value → World → Prop) : Prop :=
 Calls Tryd.prog 61 #[(.int .u64 n1), (.int .i64 (8 : Int))] w fun e1 w1 => ∃ (s2 : ByteArray),
 e1 = .returned (.string s2) ∧
 Calls Tryd.prog 61 #[(.int .u64 (IntKind.u64.wrap ((s1.size : Nat) : Int))), (.int .i64 (8 : Int))] w1 fun e2 w2 => ∃ (s3 : ByteArray),
 e2 = .returned (.string s3) ∧
 ((s2.size + s3.size : Nat) : Int) ≤ IntKind.i64.max ∧ (((s2 ++ s3).size + s1.size : Nat) : Int) ≤ IntKind.i64.max ∧ Calls Tryd.prog 60 #[(.string ((s2 ++ s3) ++ s1))] w2 fun e3 w3 => ∃ (n2 : Int),
 e3 = .returned (.int .u64 n2) ∧
 K (.int .u64 n2) w3
def rChain_ann : List (Nat × Live) := []
theorem rChain_ok {n1 : Int} {s1 : ByteArray} {w : World} {K : Value → World → Prop} (h : rChain n1 s1 w K) : Calls Tryd.prog 43 #[(.int .u64 n1), (.string s1)] w fun e w' => ∃ v, e = .returned v ∧ K v w' :=
  calls_sh (annL rChain_ann) Tryd.func43 (by kernel_rfl) (args := [(.int .u64 n1), (.string s1)]) (by kernel_rfl) h

-- saleroom/wire.Uint
def wUint (n1 : Int) (w : World) (K : Value → World → Prop) : Prop :=
 ∃ I1 : Int → Option Addr → Nat → Nat → World → Nat → Prop, (∃ m1, I1 n1 none 0 0 w m1) ∧
 ∀ (w1 : World) (m1 : Nat) (n2 : Int) (a1 : Option Addr) (l1 c1 : Nat), I1 n2 a1 l1 c1 w1 m1 → ∀ x1 : Nat → Value,
 cond (decide (n2 ≥ (128 : Int)))
 (newK w1 (.cells #[(.int .u8 (orI .u8 (IntKind.u8.wrap n2) (128 : Int)))] 5) fun r1 w2 =>
  rnS Tryd.prog (Builtin.append_ #[59, 59] 59 #[(.slice a1 l1 c1), (.slice (some ⟨r1, 0, none⟩) 1 1)]) w2 fun e1 w3 => ∃ (a2 : Option Addr) (l2 c2 : Nat),
  e1 = (.slice a2 l2 c2) ∧
  0 ≤ (7 : Int) ∧ ∃ m2, m2 < m1 ∧ I1 (Int.fdiv n2 (2 ^ (min ((7 : Int)).toNat IntKind.u64.bits))) a2 l2 c2 w3 m2)
 (newK w1 (.cells #[(.int .u8 (IntKind.u8.wrap n2))] 5) fun r2 w4 =>
  rnS Tryd.prog (Builtin.append_ #[59, 59] 59 #[(.slice a1 l1 c1), (.slice (some ⟨r2, 0, none⟩) 1 1)]) w4 fun e2 w5 => ∃ (a3 : Option Addr) (l3 c3 : Nat),
  e2 = (.slice a3 l3 c3) ∧
  rnS Tryd.prog (convert 59 9 (.slice a3 l3 c3)) w5 fun e3 w6 => ∃ (s1 : ByteArray),
  e3 = (.string s1) ∧
  K (.string s1) w6)
def wUint_ann : List (Nat × Live) := [(28, [(0, .s (.int .u64)), (3, .s (.slice))])]
theorem wUint_ok {n1 : Int} {w : World} {K : Value → World → Prop} (h : wUint n1 w K) : Calls Tryd.prog 70 #[(.int .u64 n1)] w fun e w' => ∃ v, e = .returned v ∧ K v w' :=
  calls_sh (annL wUint_ann) Tryd.func70 (by kernel_rfl) (args := [(.int .u64 n1)]) (by kernel_rfl) h

-- saleroom/wire.Text
def wText (s1 : ByteArray) (w : World) (K : Value → World → Prop) : Prop :=
 Calls Tryd.prog 70 #[(.int .u64 (IntKind.u64.wrap ((s1.size : Nat) : Int)))] w fun e1 w1 => ∃ (s2 : ByteArray),
 e1 = .returned (.string s2) ∧
 ((s2.size + s1.size : Nat) : Int) ≤ IntKind.i64.max ∧ K (.string (s2 ++ s1)) w1
def wText_ann : List (Nat × Live) := []
theorem wText_ok {s1 : ByteArray} {w : World} {K : Value → World → Prop} (h : wText s1 w K) : Calls Tryd.prog 59 #[(.string s1)] w fun e w' => ∃ v, e = .returned v ∧ K v w' :=
  calls_sh (annL wText_ann) Tryd.func59 (by kernel_rfl) (args := [(.string s1)]) (by kernel_rfl) h

-- saleroom/wire.NewReader
def wNew (s1 : ByteArray) (w : World) (K : Value → World → Prop) : Prop :=
 newK w (.cells #[(.string s1), (.int .i64 (0 : Int))] 96) fun r1 w1 =>
 K (.pointer (some ⟨r1, 0, none⟩)) w1
def wNew_ann : List (Nat × Live) := []
theorem wNew_ok {s1 : ByteArray} {w : World} {K : Value → World → Prop} (h : wNew s1 w K) : Calls Tryd.prog 54 #[(.string s1)] w fun e w' => ∃ v, e = .returned v ∧ K v w' :=
  calls_sh (annL wNew_ann) Tryd.func54 (by kernel_rfl) (args := [(.string s1)]) (by kernel_rfl) h

-- (*saleroom/wire.Reader).Uint
def wRUint (b1 : Nat) (n1 : Int) (w : World) (K : Value → World → Prop) : Prop :=
 Calls Tryd.prog 66 #[(.pointer (some ⟨b1, 0, none⟩))] w fun e1 w1 => ∃ (b2 : Bool),
 e1 = .returned (.bool b2) ∧
 cond (!b2)
 (K (.int .u64 (0 : Int)) w1)
 (∃ I1 : Int → Int → World → Nat → Prop, (∃ m1, I1 (0 : Int) (0 : Int) w1 m1) ∧
  ∀ (w2 : World) (m1 : Nat) (n2 : Int) (n3 : Int), I1 n2 n3 w2 m1 → ∀ x1 : Nat → Value,
  ∃ (s1 : ByteArray),
  w2.cell? ⟨b1, 0, none⟩ = some (.string s1) ∧
  cond (n3 == ((s1.size : Nat) : Int))
  (Calls Tryd.prog 68 #[(.pointer (some ⟨b1, 0, none⟩)), (.int .i64 (1 : Int))] w2 fun e2 w3 => e2 = .returned (.tuple #[]) ∧
   K (.int .u64 (0 : Int)) w3)
  (∃ (s2 : ByteArray),
   w2.cell? ⟨b1, 0, none⟩ = some (.string s2) ∧
   0 ≤ n3 ∧ onSome s2[(n3).toNat]? fun u1 =>
   ∃ J1 : Bool → World → Prop, (∀ (w4 : World) (b3 : Bool), J1 b3 w4 → ∀ x2 : Nat → Value,
    cond b3
    (Calls Tryd.prog 68 #[(.pointer (some ⟨b1, 0, none⟩)), (.int .i64 (2 : Int))] w4 fun e3 w5 => e3 = .returned (.tuple #[]) ∧
     K (.int .u64 (0 : Int)) w5)
    (0 ≤ (IntKind.u64.wrap ((7 : Int) * (IntKind.u64.wrap n3))) ∧ cond (decide ((u1.toNat : Int) ≥ (128 : Int)))
     (∃ m2, m2 < m1 ∧ I1 (orI .u64 n2 (IntKind.u64.wrap ((IntKind.u64.wrap (andI .u8 (u1.toNat : Int) (127 : Int))) * 2 ^ (min ((IntKind.u64.wrap ((7 : Int) * (IntKind.u64.wrap n3)))).toNat IntKind.u64.bits)))) (IntKind.i64.wrap (n3 + (1 : Int))) w4 m2)
     (∃ J2 : Bool → World → Prop, (∀ (w6 : World) (b4 : Bool), J2 b4 w6 → ∀ x3 : Nat → Value,
       cond b4
       (Calls Tryd.prog 68 #[(.pointer (some ⟨b1, 0, none⟩)), (.int .i64 (2 : Int))] w6 fun e4 w7 => e4 = .returned (.tuple #[]) ∧
        K (.int .u64 (0 : Int)) w7)
       (cond (decide ((orI .u64 n2 (IntKind.u64.wrap ((IntKind.u64.wrap (andI .u8 (u1.toNat : Int) (127 : Int))) * 2 ^ (min ((IntKind.u64.wrap ((7 : Int) * (IntKind.u64.wrap n3)))).toNat IntKind.u64.bits)))) > n1))
        (Calls Tryd.prog 68 #[(.pointer (some ⟨b1, 0, none⟩)), (.int .i64 (4 : Int))] w6 fun e5 w8 => e5 = .returned (.tuple #[]) ∧
         K (.int .u64 (0 : Int)) w8)
        (∃ (s3 : ByteArray),
         w6.cell? ⟨b1, 0, none⟩ = some (.string s3) ∧
         0 ≤ (IntKind.i64.wrap (n3 + (1 : Int))) ∧ (IntKind.i64.wrap (n3 + (1 : Int))) ≤ ((s3.size : Nat) : Int) ∧
         stK w6 ⟨b1, 0, none⟩ (.string (s3.extract (((IntKind.i64.wrap (n3 + (1 : Int)))).toNat) s3.size)) fun w9 =>
         K (.int .u64 (orI .u64 n2 (IntKind.u64.wrap ((IntKind.u64.wrap (andI .u8 (u1.toNat : Int) (127 : Int))) * 2 ^ (min ((IntKind.u64.wrap ((7 : Int) * (IntKind.u64.wrap n3)))).toNat IntKind.u64.bits))))) w9))) ∧
      cond ((u1.toNat : Int) == (0 : Int))
      (J2 (decide (n3 > (0 : Int))) w4)
      (J2 false w4)))) ∧
   cond (n3 == (9 : Int))
   (J1 (decide ((u1.toNat : Int) > (1 : Int))) w2)
   (J1 false w2)))
def wRUint_ann : List (Nat × Live) := [(62, [(5, .s (.int .u64)), (6, .s (.int .i64))]), (3974, [(33, .s (.bool))]), (31806, [(52, .s (.bool))])]
theorem wRUint_ok {b1 : Nat} {n1 : Int} {w : World} {K : Value → World → Prop} (h : wRUint b1 n1 w K) : Calls Tryd.prog 67 #[(.pointer (some ⟨b1, 0, none⟩)), (.int .u64 n1)] w fun e w' => ∃ v, e = .returned v ∧ K v w' :=
  calls_sh (annL wRUint_ann) Tryd.func67 (by kernel_rfl) (args := [(.pointer (some ⟨b1, 0, none⟩)), (.int .u64 n1)]) (by kernel_rfl) h

-- (*saleroom/wire.Reader).Text
def wRText (b1 : Nat) (n1 : Int) (w : World) (K : Value → World → Prop) : Prop :=
 Calls Tryd.prog 66 #[(.pointer (some ⟨b1, 0, none⟩))] w fun e1 w1 => ∃ (b2 : Bool),
 e1 = .returned (.bool b2) ∧
 cond (!b2)
 (K (.string (bs [])) w1)
 (∃ J1 : Int → World → Prop, (∀ (w2 : World) (n2 : Int), J1 n2 w2 → ∀ x1 : Nat → Value,
   Calls Tryd.prog 67 #[(.pointer (some ⟨b1, 0, none⟩)), (.int .u64 n2)] w2 fun e2 w3 => ∃ (n3 : Int),
   e2 = .returned (.int .u64 n3) ∧
   ∃ J2 : World → Prop, (∀ (w4 : World), J2 w4 → ∀ x2 : Nat → Value,
    ∃ J3 : World → Prop, (∀ (w5 : World), J3 w5 → ∀ x3 : Nat → Value,
     ∃ (n4 : Int),
     w5.cell? ⟨b1, 1, none⟩ = some (.int .i64 n4) ∧
     cond (n4 != (0 : Int))
     (K (.string (bs [])) w5)
     (∃ (s1 : ByteArray),
      w5.cell? ⟨b1, 0, none⟩ = some (.string s1) ∧
      0 ≤ n3 ∧ n3 ≤ ((s1.size : Nat) : Int) ∧
      ∃ (s2 : ByteArray),
      w5.cell? ⟨b1, 0, none⟩ = some (.string s2) ∧
      0 ≤ n3 ∧ n3 ≤ ((s2.size : Nat) : Int) ∧
      stK w5 ⟨b1, 0, none⟩ (.string (s2.extract ((n3).toNat) s2.size)) fun w6 =>
      K (.string (s1.extract 0 ((n3).toNat))) w6)) ∧
    ∃ J4 : Bool → World → Prop, (∀ (w7 : World) (b3 : Bool), J4 b3 w7 → ∀ x4 : Nat → Value,
     cond b3
     (Calls Tryd.prog 68 #[(.pointer (some ⟨b1, 0, none⟩)), (.int .i64 (1 : Int))] w7 fun e3 w8 => e3 = .returned (.tuple #[]) ∧
      J3 w8)
     (J3 w7)) ∧
    ∃ (n5 : Int),
    w4.cell? ⟨b1, 1, none⟩ = some (.int .i64 n5) ∧
    cond (n5 == (0 : Int))
    (∃ (s3 : ByteArray),
     w4.cell? ⟨b1, 0, none⟩ = some (.string s3) ∧
     J4 (decide (n3 > (IntKind.u64.wrap ((s3.size : Nat) : Int)))) w4)
    (J4 false w4)) ∧
   ∃ J5 : Bool → World → Prop, (∀ (w9 : World) (b4 : Bool), J5 b4 w9 → ∀ x5 : Nat → Value,
    cond b4
    (Calls Tryd.prog 68 #[(.pointer (some ⟨b1, 0, none⟩)), (.int .i64 (4 : Int))] w9 fun e4 w10 => e4 = .returned (.tuple #[]) ∧
     J2 w10)
    (J2 w9)) ∧
   ∃ (n6 : Int),
   w3.cell? ⟨b1, 1, none⟩ = some (.int .i64 n6) ∧
   cond (n6 == (0 : Int))
   (J5 (decide (n1 < (0 : Int))) w3)
   (J5 false w3)) ∧
  cond (decide (n1 > (0 : Int)))
  (J1 (IntKind.u64.wrap n1) w1)
  (J1 (0 : Int) w1))
def wRText_ann : List (Nat × Live) := [(15, [(5, .s (.int .u64))]), (63, []), (127, []), (254, [(43, .s (.bool))]), (126, [(26, .s (.bool))])]
theorem wRText_ok {b1 : Nat} {n1 : Int} {w : World} {K : Value → World → Prop} (h : wRText b1 n1 w K) : Calls Tryd.prog 55 #[(.pointer (some ⟨b1, 0, none⟩)), (.int .i64 n1)] w fun e w' => ∃ v, e = .returned v ∧ K v w' :=
  calls_sh (annL wRText_ann) Tryd.func55 (by kernel_rfl) (args := [(.pointer (some ⟨b1, 0, none⟩)), (.int .i64 n1)]) (by kernel_rfl) h

-- (*saleroom/wire.Reader).Err
def wErr (b1 : Nat) (w : World) (K : Value → World → Prop) : Prop :=
 ∃ (n1 : Int),
 w.cell? ⟨b1, 1, none⟩ = some (.int .i64 n1) ∧
 K (.int .i64 n1) w
def wErr_ann : List (Nat × Live) := []
theorem wErr_ok {b1 : Nat} {w : World} {K : Value → World → Prop} (h : wErr b1 w K) : Calls Tryd.prog 56 #[(.pointer (some ⟨b1, 0, none⟩))] w fun e w' => ∃ v, e = .returned v ∧ K v w' :=
  calls_sh (annL wErr_ann) Tryd.func56 (by kernel_rfl) (args := [(.pointer (some ⟨b1, 0, none⟩))]) (by kernel_rfl) h

-- (*saleroom/wire.Reader).Left
def wLeft (b1 : Nat) (w : World) (K : Value → World → Prop) : Prop :=
 Calls Tryd.prog 66 #[(.pointer (some ⟨b1, 0, none⟩))] w fun e1 w1 => ∃ (b2 : Bool),
 e1 = .returned (.bool b2) ∧
 cond (!b2)
 (K (.int .i64 (0 : Int)) w1)
 (∃ (s1 : ByteArray),
  w1.cell? ⟨b1, 0, none⟩ = some (.string s1) ∧
  K (.int .i64 ((s1.size : Nat) : Int)) w1)
def wLeft_ann : List (Nat × Live) := []
theorem wLeft_ok {b1 : Nat} {w : World} {K : Value → World → Prop} (h : wLeft b1 w K) : Calls Tryd.prog 57 #[(.pointer (some ⟨b1, 0, none⟩))] w fun e w' => ∃ v, e = .returned v ∧ K v w' :=
  calls_sh (annL wLeft_ann) Tryd.func57 (by kernel_rfl) (args := [(.pointer (some ⟨b1, 0, none⟩))]) (by kernel_rfl) h

-- (*saleroom/wire.Reader).ok
def wok (b1 : Nat) (w : World) (K : Value → World → Prop) : Prop :=
 ∃ (n1 : Int),
 w.cell? ⟨b1, 1, none⟩ = some (.int .i64 n1) ∧
 K (.bool (n1 == (0 : Int))) w
def wok_ann : List (Nat × Live) := []
theorem wok_ok {b1 : Nat} {w : World} {K : Value → World → Prop} (h : wok b1 w K) : Calls Tryd.prog 66 #[(.pointer (some ⟨b1, 0, none⟩))] w fun e w' => ∃ v, e = .returned v ∧ K v w' :=
  calls_sh (annL wok_ann) Tryd.func66 (by kernel_rfl) (args := [(.pointer (some ⟨b1, 0, none⟩))]) (by kernel_rfl) h

-- (*saleroom/wire.Reader).Fail
def wFail (b1 : Nat) (n1 : Int) (w : World) (K : Value → World → Prop) : Prop :=
 ∃ J1 : Bool → World → Prop, (∀ (w1 : World) (b2 : Bool), J1 b2 w1 → ∀ x1 : Nat → Value,
  cond b2
  (stK w1 ⟨b1, 1, none⟩ (.int .i64 n1) fun w2 =>
   K (.tuple #[]) w2)
  (K (.tuple #[]) w1)) ∧
 ∃ (n2 : Int),
 w.cell? ⟨b1, 1, none⟩ = some (.int .i64 n2) ∧
 J1 (n2 == (0 : Int)) w
def wFail_ann : List (Nat × Live) := [(1, [(12, .s (.bool))])]
theorem wFail_ok {b1 : Nat} {n1 : Int} {w : World} {K : Value → World → Prop} (h : wFail b1 n1 w K) : Calls Tryd.prog 68 #[(.pointer (some ⟨b1, 0, none⟩)), (.int .i64 n1)] w fun e w' => ∃ v, e = .returned v ∧ K v w' :=
  calls_sh (annL wFail_ann) Tryd.func68 (by kernel_rfl) (args := [(.pointer (some ⟨b1, 0, none⟩)), (.int .i64 n1)]) (by kernel_rfl) h

-- saleroom/saleroomref04.Uint
def qUint (n1 : Int) (w : World) (K : Value → World → Prop) : Prop :=
 cond (decide (n1 < (128 : Int)))
 (newK w (.cells #[(.int .u8 (IntKind.u8.wrap n1))] 5) fun r1 w1 =>
  rnS Tryd.prog (convert 59 9 (.slice (some ⟨r1, 0, none⟩) 1 1)) w1 fun e1 w2 => ∃ (s1 : ByteArray),
  e1 = (.string s1) ∧
  K (.string s1) w2)
 ((128 : Int) ≠ 0 ∧ (128 : Int) ≠ 0 ∧ ((newK w.drew (.cells #[(.int .u8 (IntKind.u8.wrap (IntKind.u64.wrap ((Int.tmod n1 (128 : Int)) + (128 : Int)))))] 5) fun r2 w3 =>
    (rnS Tryd.prog (convert 59 9 (.slice (some ⟨r2, 0, none⟩) 1 1)) w3 fun e2 w4 => ∃ (s2 : ByteArray),
     e2 = (.string s2) ∧
     Calls Tryd.prog 62 #[(.int .u64 (IntKind.u64.wrap (Int.tdiv n1 (128 : Int))))] w4 fun e3 w5 => ∃ (s3 : ByteArray),
     e3 = .returned (.string s3) ∧
     ((s2.size + s3.size : Nat) : Int) ≤ IntKind.i64.max ∧ K (.string (s2 ++ s3)) w5) ∧
    Calls Tryd.prog 62 #[(.int .u64 (IntKind.u64.wrap (Int.tdiv n1 (128 : Int))))] w3 fun e4 w6 => ∃ (s4 : ByteArray),
    e4 = .returned (.string s4) ∧
    rnS Tryd.prog (convert 59 9 (.slice (some ⟨r2, 0, none⟩) 1 1)) w6 fun e5 w7 => ∃ (s5 : ByteArray),
    e5 = (.string s5) ∧
    ((s5.size + s4.size : Nat) : Int) ≤ IntKind.i64.max ∧ K (.string (s5 ++ s4)) w7) ∧
   Calls Tryd.prog 62 #[(.int .u64 (IntKind.u64.wrap (Int.tdiv n1 (128 : Int))))] w.drew fun e6 w8 => ∃ (s6 : ByteArray),
   e6 = .returned (.string s6) ∧
   newK w8 (.cells #[(.int .u8 (IntKind.u8.wrap (IntKind.u64.wrap ((Int.tmod n1 (128 : Int)) + (128 : Int)))))] 5) fun r3 w9 =>
   rnS Tryd.prog (convert 59 9 (.slice (some ⟨r3, 0, none⟩) 1 1)) w9 fun e7 w10 => ∃ (s7 : ByteArray),
   e7 = (.string s7) ∧
   ((s7.size + s6.size : Nat) : Int) ≤ IntKind.i64.max ∧ K (.string (s7 ++ s6)) w10) ∧
  Calls Tryd.prog 62 #[(.int .u64 (IntKind.u64.wrap (Int.tdiv n1 (128 : Int))))] w.drew fun e8 w11 => ∃ (s8 : ByteArray),
  e8 = .returned (.string s8) ∧
  newK w11 (.cells #[(.int .u8 (IntKind.u8.wrap (IntKind.u64.wrap ((Int.tmod n1 (128 : Int)) + (128 : Int)))))] 5) fun r4 w12 =>
  rnS Tryd.prog (convert 59 9 (.slice (some ⟨r4, 0, none⟩) 1 1)) w12 fun e9 w13 => ∃ (s9 : ByteArray),
  e9 = (.string s9) ∧
  ((s9.size + s8.size : Nat) : Int) ≤ IntKind.i64.max ∧ K (.string (s9 ++ s8)) w13)
def qUint_ann : List (Nat × Live) := []
theorem qUint_ok {n1 : Int} {w : World} {K : Value → World → Prop} (h : qUint n1 w K) : Calls Tryd.prog 62 #[(.int .u64 n1)] w fun e w' => ∃ v, e = .returned v ∧ K v w' :=
  calls_sh (annL qUint_ann) Tryd.func62 (by kernel_rfl) (args := [(.int .u64 n1)]) (by kernel_rfl) h

-- saleroom/saleroomref04.Text
def qText (s1 : ByteArray) (w : World) (K : Value → World → Prop) : Prop :=
 Calls Tryd.prog 62 #[(.int .u64 (IntKind.u64.wrap ((s1.size : Nat) : Int)))] w fun e1 w1 => ∃ (s2 : ByteArray),
 e1 = .returned (.string s2) ∧
 ((s2.size + s1.size : Nat) : Int) ≤ IntKind.i64.max ∧ K (.string (s2 ++ s1)) w1
def qText_ann : List (Nat × Live) := []
theorem qText_ok {s1 : ByteArray} {w : World} {K : Value → World → Prop} (h : qText s1 w K) : Calls Tryd.prog 44 #[(.string s1)] w fun e w' => ∃ v, e = .returned v ∧ K v w' :=
  calls_sh (annL qText_ann) Tryd.func44 (by kernel_rfl) (args := [(.string s1)]) (by kernel_rfl) h

-- saleroom/saleroomref04.NewReader
def qNew (s1 : ByteArray) (w : World) (K : Value → World → Prop) : Prop :=
 newK w (.cells #[(.string s1), (.int .i64 (0 : Int))] 84) fun r1 w1 =>
 K (.pointer (some ⟨r1, 0, none⟩)) w1
def qNew_ann : List (Nat × Live) := []
theorem qNew_ok {s1 : ByteArray} {w : World} {K : Value → World → Prop} (h : qNew s1 w K) : Calls Tryd.prog 48 #[(.string s1)] w fun e w' => ∃ v, e = .returned v ∧ K v w' :=
  calls_sh (annL qNew_ann) Tryd.func48 (by kernel_rfl) (args := [(.string s1)]) (by kernel_rfl) h

-- (*saleroom/saleroomref04.Reader).Uint
def qRUint (b1 : Nat) (n1 : Int) (w : World) (K : Value → World → Prop) : Prop :=
 ∃ (n2 : Int),
 w.cell? ⟨b1, 1, none⟩ = some (.int .i64 n2) ∧
 cond (n2 != (0 : Int))
 (K (.int .u64 (0 : Int)) w)
 (∃ I1 : Int → Int → World → Nat → Prop, (∃ m1, I1 (0 : Int) (0 : Int) w m1) ∧
  ∀ (w1 : World) (m1 : Nat) (n3 : Int) (n4 : Int), I1 n3 n4 w1 m1 → ∀ x1 : Nat → Value,
  cond (decide (n4 < (10 : Int)))
  (∃ (s1 : ByteArray),
   w1.cell? ⟨b1, 0, none⟩ = some (.string s1) ∧
   cond (decide (n4 ≥ ((s1.size : Nat) : Int)))
   (stK w1 ⟨b1, 1, none⟩ (.int .i64 (1 : Int)) fun w2 =>
    K (.int .u64 (0 : Int)) w2)
   (∃ (s2 : ByteArray),
    w1.cell? ⟨b1, 0, none⟩ = some (.string s2) ∧
    0 ≤ n4 ∧ onSome s2[(n4).toNat]? fun u1 =>
    ∃ J1 : Bool → World → Prop, (∀ (w3 : World) (b2 : Bool), J1 b2 w3 → ∀ x2 : Nat → Value,
     cond b2
     (stK w3 ⟨b1, 1, none⟩ (.int .i64 (2 : Int)) fun w4 =>
      K (.int .u64 (0 : Int)) w4)
     ((128 : Int) ≠ 0 ∧ 0 ≤ (IntKind.i64.wrap ((7 : Int) * n4)) ∧ cond (decide ((IntKind.u64.wrap (u1.toNat : Int)) < (128 : Int)))
      (∃ (s3 : ByteArray),
       w3.cell? ⟨b1, 0, none⟩ = some (.string s3) ∧
       0 ≤ (IntKind.i64.wrap (n4 + (1 : Int))) ∧ (IntKind.i64.wrap (n4 + (1 : Int))) ≤ ((s3.size : Nat) : Int) ∧
       stK w3 ⟨b1, 0, none⟩ (.string (s3.extract (((IntKind.i64.wrap (n4 + (1 : Int)))).toNat) s3.size)) fun w5 =>
       cond (decide ((IntKind.u64.wrap (n3 + (IntKind.u64.wrap ((Int.tmod (IntKind.u64.wrap (u1.toNat : Int)) (128 : Int)) * 2 ^ (min ((IntKind.i64.wrap ((7 : Int) * n4))).toNat IntKind.u64.bits))))) > n1))
       (stK w5 ⟨b1, 1, none⟩ (.int .i64 (4 : Int)) fun w6 =>
        K (.int .u64 (0 : Int)) w6)
       (K (.int .u64 (IntKind.u64.wrap (n3 + (IntKind.u64.wrap ((Int.tmod (IntKind.u64.wrap (u1.toNat : Int)) (128 : Int)) * 2 ^ (min ((IntKind.i64.wrap ((7 : Int) * n4))).toNat IntKind.u64.bits)))))) w5))
      (∃ m2, m2 < m1 ∧ I1 (IntKind.u64.wrap (n3 + (IntKind.u64.wrap ((Int.tmod (IntKind.u64.wrap (u1.toNat : Int)) (128 : Int)) * 2 ^ (min ((IntKind.i64.wrap ((7 : Int) * n4))).toNat IntKind.u64.bits))))) (IntKind.i64.wrap (n4 + (1 : Int))) w3 m2))) ∧
    cond (n4 == (9 : Int))
    (cond (decide ((IntKind.u64.wrap (u1.toNat : Int)) > (1 : Int)))
     (J1 true w1)
     (cond (decide (n4 > (0 : Int)))
      (J1 ((IntKind.u64.wrap (u1.toNat : Int)) == (0 : Int)) w1)
      (J1 false w1)))
    (cond (decide (n4 > (0 : Int)))
     (J1 ((IntKind.u64.wrap (u1.toNat : Int)) == (0 : Int)) w1)
     (J1 false w1))))
  (K (.int .u64 (0 : Int)) w1))
def qRUint_ann : List (Nat × Live) := [(122, [(5, .s (.int .u64)), (6, .s (.int .i64))]), (15654, [(47, .s (.bool))])]
theorem qRUint_ok {b1 : Nat} {n1 : Int} {w : World} {K : Value → World → Prop} (h : qRUint b1 n1 w K) : Calls Tryd.prog 65 #[(.pointer (some ⟨b1, 0, none⟩)), (.int .u64 n1)] w fun e w' => ∃ v, e = .returned v ∧ K v w' :=
  calls_sh (annL qRUint_ann) Tryd.func65 (by kernel_rfl) (args := [(.pointer (some ⟨b1, 0, none⟩)), (.int .u64 n1)]) (by kernel_rfl) h

-- (*saleroom/saleroomref04.Reader).Text
def qRText (b1 : Nat) (n1 : Int) (w : World) (K : Value → World → Prop) : Prop :=
 Calls Tryd.prog 65 #[(.pointer (some ⟨b1, 0, none⟩)), (.int .u64 (18446744073709551615 : Int))] w fun e1 w1 => ∃ (n2 : Int),
 e1 = .returned (.int .u64 n2) ∧
 ∃ (n3 : Int),
 w1.cell? ⟨b1, 1, none⟩ = some (.int .i64 n3) ∧
 cond (n3 != (0 : Int))
 (K (.string (bs [])) w1)
 (∃ J1 : Bool → World → Prop, (∀ (w2 : World) (b2 : Bool), J1 b2 w2 → ∀ x1 : Nat → Value,
   cond b2
   (stK w2 ⟨b1, 1, none⟩ (.int .i64 (4 : Int)) fun w3 =>
    K (.string (bs [])) w3)
   (∃ (s1 : ByteArray),
    w2.cell? ⟨b1, 0, none⟩ = some (.string s1) ∧
    cond (decide (n2 > (IntKind.u64.wrap ((s1.size : Nat) : Int))))
    (stK w2 ⟨b1, 1, none⟩ (.int .i64 (1 : Int)) fun w4 =>
     K (.string (bs [])) w4)
    (∃ (s2 : ByteArray),
     w2.cell? ⟨b1, 0, none⟩ = some (.string s2) ∧
     0 ≤ (IntKind.i64.wrap n2) ∧ (IntKind.i64.wrap n2) ≤ ((s2.size : Nat) : Int) ∧
     ∃ (s3 : ByteArray),
     w2.cell? ⟨b1, 0, none⟩ = some (.string s3) ∧
     0 ≤ (IntKind.i64.wrap n2) ∧ (IntKind.i64.wrap n2) ≤ ((s3.size : Nat) : Int) ∧
     stK w2 ⟨b1, 0, none⟩ (.string (s3.extract (((IntKind.i64.wrap n2)).toNat) s3.size)) fun w5 =>
     K (.string (s2.extract 0 (((IntKind.i64.wrap n2)).toNat))) w5))) ∧
  cond (decide (n1 < (0 : Int)))
  (J1 true w1)
  (J1 (decide (n2 > (IntKind.u64.wrap n1))) w1))
def qRText_ann : List (Nat × Live) := [(30, [(21, .s (.bool))])]
theorem qRText_ok {b1 : Nat} {n1 : Int} {w : World} {K : Value → World → Prop} (h : qRText b1 n1 w K) : Calls Tryd.prog 49 #[(.pointer (some ⟨b1, 0, none⟩)), (.int .i64 n1)] w fun e w' => ∃ v, e = .returned v ∧ K v w' :=
  calls_sh (annL qRText_ann) Tryd.func49 (by kernel_rfl) (args := [(.pointer (some ⟨b1, 0, none⟩)), (.int .i64 n1)]) (by kernel_rfl) h

-- (*saleroom/saleroomref04.Reader).Left
def qLeft (b1 : Nat) (w : World) (K : Value → World → Prop) : Prop :=
 ∃ (n1 : Int),
 w.cell? ⟨b1, 1, none⟩ = some (.int .i64 n1) ∧
 cond (n1 != (0 : Int))
 (K (.int .i64 (0 : Int)) w)
 (∃ (s1 : ByteArray),
  w.cell? ⟨b1, 0, none⟩ = some (.string s1) ∧
  K (.int .i64 ((s1.size : Nat) : Int)) w)
def qLeft_ann : List (Nat × Live) := []
theorem qLeft_ok {b1 : Nat} {w : World} {K : Value → World → Prop} (h : qLeft b1 w K) : Calls Tryd.prog 50 #[(.pointer (some ⟨b1, 0, none⟩))] w fun e w' => ∃ v, e = .returned v ∧ K v w' :=
  calls_sh (annL qLeft_ann) Tryd.func50 (by kernel_rfl) (args := [(.pointer (some ⟨b1, 0, none⟩))]) (by kernel_rfl) h

-- saleroom/saleroomref43.eight
def seight (n1 : Int) (w : World) (K : Value → World → Prop) : Prop :=
 ∃ I1 : ByteArray → Int → World → Nat → Prop, (∃ m1, I1 (bs []) (0 : Int) w m1) ∧
 ∀ (w1 : World) (m1 : Nat) (s1 : ByteArray) (n2 : Int), I1 s1 n2 w1 m1 → ∀ x1 : Nat → Value,
 cond (decide (n2 < (8 : Int)))
 (0 ≤ (IntKind.i64.wrap ((8 : Int) * n2)) ∧ (256 : Int) ≠ 0 ∧ newK w1 (.cells #[(.int .u8 (IntKind.u8.wrap (Int.tmod (Int.fdiv n1 (2 ^ (min ((IntKind.i64.wrap ((8 : Int) * n2))).toNat IntKind.u64.bits))) (256 : Int))))] 5) fun r1 w2 =>
  rnS Tryd.prog (convert 59 9 (.slice (some ⟨r1, 0, none⟩) 1 1)) w2 fun e1 w3 => ∃ (s2 : ByteArray),
  e1 = (.string s2) ∧
  ((s1.size + s2.size : Nat) : Int) ≤ IntKind.i64.max ∧ ∃ m2, m2 < m1 ∧ I1 (s1 ++ s2) (IntKind.i64.wrap (n2 + (1 : Int))) w3 m2)
 (K (.string s1) w1)
def seight_ann : List (Nat × Live) := [(58, [(3, .s (.str)), (4, .s (.int .i64))])]
theorem seight_ok {n1 : Int} {w : World} {K : Value → World → Prop} (h : seight n1 w K) : Calls Tryd.prog 45 #[(.int .u64 n1)] w fun e w' => ∃ v, e = .returned v ∧ K v w' :=
  calls_sh (annL seight_ann) Tryd.func45 (by kernel_rfl) (args := [(.int .u64 n1)]) (by kernel_rfl) h

-- saleroom/saleroomref43.Heads
def sHeads (a1 : Option Addr) (l1 c1 : Nat) (w : World) (K : Value → World → Prop) : Prop :=
 newK w (.cells #[(.int .u64 (0 : Int))] 32) fun r1 w1 =>
 ∃ I1 : Option Addr → Nat → Nat → Int → World → Nat → Prop, (∃ m1, I1 (some ⟨r1, 0, none⟩) 1 1 (0 : Int) w1 m1) ∧
 ∀ (w2 : World) (m1 : Nat) (a2 : Option Addr) (l2 c2 : Nat) (n1 : Int), I1 a2 l2 c2 n1 w2 m1 → ∀ x1 : Nat → Value,
 cond (decide (n1 < ((l1 : Nat) : Int)))
 (onSome a2 fun q1 =>
  0 ≤ n1 ∧ n1 < ((l2 : Nat) : Int) ∧
  ∃ (n2 : Int),
  w2.drew.cell? (Addr.add q1 ((n1).toNat * 1)) = some (.int .u64 n2) ∧
  onSome a1 fun q2 =>
  0 ≤ n1 ∧ n1 < ((l1 : Nat) : Int) ∧
  ∃ (s1 : ByteArray),
  w2.drew.cell? (Addr.add q2 ((n1).toNat * 1)) = some (.string s1) ∧
  Calls Tryd.prog 43 #[(.int .u64 n2), (.string s1)] w2.drew fun e1 w3 => ∃ (n3 : Int),
  e1 = .returned (.int .u64 n3) ∧
  newK w3 (.cells #[(.int .u64 n3)] 32) fun r2 w4 =>
  rnS Tryd.prog (Builtin.append_ #[40, 40] 40 #[(.slice a2 l2 c2), (.slice (some ⟨r2, 0, none⟩) 1 1)]) w4 fun e2 w5 => ∃ (a3 : Option Addr) (l3 c3 : Nat),
  e2 = (.slice a3 l3 c3) ∧
  ∃ m2, m2 < m1 ∧ I1 a3 l3 c3 (IntKind.i64.wrap (n1 + (1 : Int))) w5 m2)
 (K (.slice a2 l2 c2) w2)
def sHeads_ann : List (Nat × Live) := [(58, [(3, .s (.slice)), (4, .s (.int .i64))])]
theorem sHeads_ok {a1 : Option Addr} {l1 c1 : Nat} {w : World} {K : Value → World → Prop} (h : sHeads a1 l1 c1 w K) : Calls Tryd.prog 20 #[(.slice a1 l1 c1)] w fun e w' => ∃ v, e = .returned v ∧ K v w' :=
  calls_sh (annL sHeads_ann) Tryd.func20 (by kernel_rfl) (args := [(.slice a1 l1 c1)]) (by kernel_rfl) h

-- saleroom/saleroomref43.Frames
def sFrames (a1 : Option Addr) (l1 c1 : Nat) (w : World) (K : Value → World → Prop) : Prop :=
 Calls Tryd.prog 20 #[(.slice a1 l1 c1)] w fun e1 w1 => ∃ (a2 : Option Addr) (l2 c2 : Nat),
 e1 = .returned (.slice a2 l2 c2) ∧
 ∃ I1 : ByteArray → Int → World → Nat → Prop, (∃ m1, I1 (bs []) (0 : Int) w1 m1) ∧
 ∀ (w2 : World) (m1 : Nat) (s1 : ByteArray) (n1 : Int), I1 s1 n1 w2 m1 → ∀ x1 : Nat → Value,
 cond (decide (n1 < ((l1 : Nat) : Int)))
 (onSome a1 fun q1 =>
  0 ≤ n1 ∧ n1 < ((l1 : Nat) : Int) ∧
  ∃ (s2 : ByteArray),
  w2.drew.cell? (Addr.add q1 ((n1).toNat * 1)) = some (.string s2) ∧
  onSome a2 fun q2 =>
  0 ≤ (IntKind.i64.wrap (n1 + (1 : Int))) ∧ (IntKind.i64.wrap (n1 + (1 : Int))) < ((l2 : Nat) : Int) ∧
  ∃ (n2 : Int),
  w2.drew.cell? (Addr.add q2 (((IntKind.i64.wrap (n1 + (1 : Int)))).toNat * 1)) = some (.int .u64 n2) ∧
  Calls Tryd.prog 44 #[(.string s2)] w2.drew fun e2 w3 => ∃ (s3 : ByteArray),
  e2 = .returned (.string s3) ∧
  w3.cell? (Addr.add q2 (((IntKind.i64.wrap (n1 + (1 : Int)))).toNat * 1)) = some (.int .u64 n2) ∧
  Calls Tryd.prog 45 #[(.int .u64 n2)] w3 fun e3 w4 => ∃ (s4 : ByteArray),
  e3 = .returned (.string s4) ∧
  ((s3.size + s4.size : Nat) : Int) ≤ IntKind.i64.max ∧ ((s1.size + (s3 ++ s4).size : Nat) : Int) ≤ IntKind.i64.max ∧ ∃ m2, m2 < m1 ∧ I1 (s1 ++ (s3 ++ s4)) (IntKind.i64.wrap (n1 + (1 : Int))) w4 m2)
 (K (.string s1) w2)
def sFrames_ann : List (Nat × Live) := [(122, [(3, .s (.str)), (5, .s (.int .i64))])]
theorem sFrames_ok {a1 : Option Addr} {l1 c1 : Nat} {w : World} {K : Value → World → Prop} (h : sFrames a1 l1 c1 w K) : Calls Tryd.prog 21 #[(.slice a1 l1 c1)] w fun e w' => ∃ v, e = .returned v ∧ K v w' :=
  calls_sh (annL sFrames_ann) Tryd.func21 (by kernel_rfl) (args := [(.slice a1 l1 c1)]) (by kernel_rfl) h

-- saleroom/saleroomref43.Verify
def sVerify (s1 : ByteArray) (w : World) (K : Value → World → Prop) : Prop :=
 ∃ I1 : Option Addr → Nat → Nat → Int → Int → World → Nat → Prop, (∃ m1, I1 none 0 0 (0 : Int) (0 : Int) w m1) ∧
 ∀ (w1 : World) (m1 : Nat) (a1 : Option Addr) (l1 c1 : Nat) (n1 : Int) (n2 : Int), I1 a1 l1 c1 n1 n2 w1 m1 → ∀ x1 : Nat → Value,
 0 ≤ n1 ∧ n1 ≤ ((s1.size : Nat) : Int) ∧
 Calls Tryd.prog 48 #[(.string (s1.extract ((n1).toNat) s1.size))] w1 fun e1 w2 => ∃ (p1 : Option Addr),
 e1 = .returned (.pointer p1) ∧
 Calls Tryd.prog 49 #[(.pointer p1), (.int .i64 (4000 : Int))] w2 fun e2 w3 => ∃ (s2 : ByteArray),
 e2 = .returned (.string s2) ∧
 Calls Tryd.prog 43 #[(.int .u64 n2), (.string s2)] w3 fun e3 w4 => ∃ (n3 : Int),
 e3 = .returned (.int .u64 n3) ∧
 Calls Tryd.prog 50 #[(.pointer p1)] w4 fun e4 w5 => ∃ (n4 : Int),
 e4 = .returned (.int .i64 n4) ∧
 ∃ J1 : Bool → World → Prop, (∀ (w6 : World) (b1 : Bool), J1 b1 w6 → ∀ x2 : Nat → Value,
  cond b1
  (K (.tuple #[(.slice a1 l1 c1), (.int .i64 n1)]) w6)
  (newK w6 (.cells #[(.string s2)] 9) fun r1 w7 =>
   rnS Tryd.prog (Builtin.append_ #[22, 22] 22 #[(.slice a1 l1 c1), (.slice (some ⟨r1, 0, none⟩) 1 1)]) w7 fun e5 w8 => ∃ (a2 : Option Addr) (l2 c2 : Nat),
   e5 = (.slice a2 l2 c2) ∧
   ∃ m2, m2 < m1 ∧ I1 a2 l2 c2 (IntKind.i64.wrap ((IntKind.i64.wrap (((s1.size : Nat) : Int) - n4)) + (8 : Int))) n3 w8 m2)) ∧
 onSome p1 fun q1 =>
 ∃ (n5 : Int),
 w5.drew.cell? (Addr.add q1 1) = some (.int .i64 n5) ∧
 cond (n5 != (0 : Int))
 (J1 true w5.drew)
 (cond (decide ((IntKind.i64.wrap (((s1.size : Nat) : Int) - (IntKind.i64.wrap (((s1.size : Nat) : Int) - n4)))) < (8 : Int)))
  (J1 true w5.drew)
  (0 ≤ (IntKind.i64.wrap ((IntKind.i64.wrap (((s1.size : Nat) : Int) - n4)) + (8 : Int))) ∧ (IntKind.i64.wrap ((IntKind.i64.wrap (((s1.size : Nat) : Int) - n4)) + (8 : Int))) ≤ ((s1.size : Nat) : Int) ∧
   0 ≤ (IntKind.i64.wrap (((s1.size : Nat) : Int) - n4)) ∧ (IntKind.i64.wrap (((s1.size : Nat) : Int) - n4)) ≤ ((((IntKind.i64.wrap ((IntKind.i64.wrap (((s1.size : Nat) : Int) - n4)) + (8 : Int)))).toNat : Nat) : Int) ∧
   Calls Tryd.prog 45 #[(.int .u64 n3)] w5.drew fun e6 w9 => ∃ (s3 : ByteArray),
   e6 = .returned (.string s3) ∧
   J1 (!((s1.extract (((IntKind.i64.wrap (((s1.size : Nat) : Int) - n4))).toNat) (((IntKind.i64.wrap ((IntKind.i64.wrap (((s1.size : Nat) : Int) - n4)) + (8 : Int)))).toNat)).toList == s3.toList)) w9))
def sVerify_ann : List (Nat × Live) := [(62, [(4, .s (.slice)), (5, .s (.int .i64)), (6, .s (.int .u64))]), (7966, [(46, .s (.bool))])]
theorem sVerify_ok {s1 : ByteArray} {w : World} {K : Value → World → Prop} (h : sVerify s1 w K) : Calls Tryd.prog 24 #[(.string s1)] w fun e w' => ∃ v, e = .returned v ∧ K v w' :=
  calls_sh (annL sVerify_ann) Tryd.func24 (by kernel_rfl) (args := [(.string s1)]) (by kernel_rfl) h

-- saleroom/saleroomref43.Proof
def sProof (a1 : Option Addr) (l1 c1 : Nat) (n1 : Int) (w : World) (K : Value → World → Prop) : Prop :=
 ∃ J1 : Bool → World → Prop, (∀ (w1 : World) (b1 : Bool), J1 b1 w1 → ∀ x1 : Nat → Value,
  cond b1
  (K (.tuple #[(.int .u64 (0 : Int)), (.slice none 0 0), (.int .i64 (4 : Int))]) w1)
  (0 ≤ n1 ∧ n1 ≤ ((l1 : Nat) : Int) ∧
   (Calls Tryd.prog 20 #[(.slice a1 l1 c1)] w1.drew fun e1 w2 => ∃ (a2 : Option Addr) (l2 c2 : Nat),
    e1 = .returned (.slice a2 l2 c2) ∧
    onSome a2 fun q1 =>
    0 ≤ n1 ∧ n1 < ((l2 : Nat) : Int) ∧
    ∃ (n2 : Int),
    w2.cell? (Addr.add q1 ((n1).toNat * 1)) = some (.int .u64 n2) ∧
    newK w2 (.cells #[] 9) fun r1 w3 =>
    w3.cell? (Addr.add q1 ((n1).toNat * 1)) = some (.int .u64 n2) ∧
    rnS Tryd.prog (Builtin.append_ #[22, 22] 22 #[(.slice (some ⟨r1, 0, none⟩) 0 0), (.slice (if c1 = (n1).toNat then a1 else Option.map (fun x => Addr.add x ((n1).toNat * 1)) a1) (l1 - (n1).toNat) (c1 - (n1).toNat))]) w3 fun e2 w4 => ∃ (a3 : Option Addr) (l3 c3 : Nat),
    e2 = (.slice a3 l3 c3) ∧
    w4.cell? (Addr.add q1 ((n1).toNat * 1)) = some (.int .u64 n2) ∧
    K (.tuple #[(.int .u64 n2), (.slice a3 l3 c3), (.int .i64 (0 : Int))]) w4) ∧
   newK w1.drew (.cells #[] 9) fun r2 w5 =>
   Calls Tryd.prog 20 #[(.slice a1 l1 c1)] w5 fun e3 w6 => ∃ (a4 : Option Addr) (l4 c4 : Nat),
   e3 = .returned (.slice a4 l4 c4) ∧
   onSome a4 fun q2 =>
   0 ≤ n1 ∧ n1 < ((l4 : Nat) : Int) ∧
   ∃ (n3 : Int),
   w6.cell? (Addr.add q2 ((n1).toNat * 1)) = some (.int .u64 n3) ∧
   rnS Tryd.prog (Builtin.append_ #[22, 22] 22 #[(.slice (some ⟨r2, 0, none⟩) 0 0), (.slice (if c1 = (n1).toNat then a1 else Option.map (fun x => Addr.add x ((n1).toNat * 1)) a1) (l1 - (n1).toNat) (c1 - (n1).toNat))]) w6 fun e4 w7 => ∃ (a5 : Option Addr) (l5 c5 : Nat),
   e4 = (.slice a5 l5 c5) ∧
   w7.cell? (Addr.add q2 ((n1).toNat * 1)) = some (.int .u64 n3) ∧
   K (.tuple #[(.int .u64 n3), (.slice a5 l5 c5), (.int .i64 (0 : Int))]) w7)) ∧
 cond (decide (n1 < (0 : Int)))
 (J1 true w)
 (J1 (decide (n1 > ((l1 : Nat) : Int))) w)
def sProof_ann : List (Nat × Live) := [(6, [(14, .s (.bool))])]
theorem sProof_ok {a1 : Option Addr} {l1 c1 : Nat} {n1 : Int} {w : World} {K : Value → World → Prop} (h : sProof a1 l1 c1 n1 w K) : Calls Tryd.prog 32 #[(.slice a1 l1 c1), (.int .i64 n1)] w fun e w' => ∃ v, e = .returned v ∧ K v w' :=
  calls_sh (annL sProof_ann) Tryd.func32 (by kernel_rfl) (args := [(.slice a1 l1 c1), (.int .i64 n1)]) (by kernel_rfl) h

-- saleroom/saleroomref43.Same
def sSame (a1 : Option Addr) (l1 c1 : Nat) (a2 : Option Addr) (l2 c2 : Nat) (w : World) (K : Value → World → Prop) : Prop :=
 cond (((l1 : Nat) : Int) != ((l2 : Nat) : Int))
 (K (.bool false) w)
 (∃ I1 : Int → World → Nat → Prop, (∃ m1, I1 (0 : Int) w m1) ∧
  ∀ (w1 : World) (m1 : Nat) (n1 : Int), I1 n1 w1 m1 → ∀ x1 : Nat → Value,
  cond (decide (n1 < ((l1 : Nat) : Int)))
  (onSome a1 fun q1 =>
   0 ≤ n1 ∧ n1 < ((l1 : Nat) : Int) ∧
   ∃ (s1 : ByteArray),
   w1.drew.cell? (Addr.add q1 ((n1).toNat * 1)) = some (.string s1) ∧
   onSome a2 fun q2 =>
   0 ≤ n1 ∧ n1 < ((l2 : Nat) : Int) ∧
   ∃ (s2 : ByteArray),
   w1.drew.cell? (Addr.add q2 ((n1).toNat * 1)) = some (.string s2) ∧
   cond (!(s1.toList == s2.toList))
   (K (.bool false) w1.drew)
   (∃ m2, m2 < m1 ∧ I1 (IntKind.i64.wrap (n1 + (1 : Int))) w1.drew m2))
  (K (.bool true) w1))
def sSame_ann : List (Nat × Live) := [(58, [(5, .s (.int .i64))])]
theorem sSame_ok {a1 : Option Addr} {l1 c1 : Nat} {a2 : Option Addr} {l2 c2 : Nat} {w : World} {K : Value → World → Prop} (h : sSame a1 l1 c1 a2 l2 c2 w K) : Calls Tryd.prog 30 #[(.slice a1 l1 c1), (.slice a2 l2 c2)] w fun e w' => ∃ v, e = .returned v ∧ K v w' :=
  calls_sh (annL sSame_ann) Tryd.func30 (by kernel_rfl) (args := [(.slice a1 l1 c1), (.slice a2 l2 c2)]) (by kernel_rfl) h

-- saleroom/journal.frame
def jFrame (s1 : ByteArray) (n1 : Int) (w : World) (K : Value → World → Prop) : Prop :=
 rnS Tryd.prog (Instr.makeSlice 59 (.int .i64 (8 : Int)) (.int .i64 (8 : Int))) w fun e1 w1 => ∃ (a1 : Option Addr) (l1 c1 : Nat),
 e1 = (.slice a1 l1 c1) ∧
 ∃ I1 : Int → World → Nat → Prop, (∃ m1, I1 (0 : Int) w1 m1) ∧
 ∀ (w2 : World) (m1 : Nat) (n2 : Int), I1 n2 w2 m1 → ∀ x1 : Nat → Value,
 cond (decide (n2 < ((l1 : Nat) : Int)))
 (0 ≤ (IntKind.i64.wrap ((8 : Int) * n2)) ∧ onSome a1 fun q1 =>
  0 ≤ n2 ∧ n2 < ((l1 : Nat) : Int) ∧
  stK w2 (Addr.add q1 ((n2).toNat * 1)) (.int .u8 (IntKind.u8.wrap (Int.fdiv n1 (2 ^ (min ((IntKind.i64.wrap ((8 : Int) * n2))).toNat IntKind.u64.bits))))) fun w3 =>
  ∃ m2, m2 < m1 ∧ I1 (IntKind.i64.wrap (n2 + (1 : Int))) w3 m2)
 ((Calls Tryd.prog 59 #[(.string s1)] w2.drew fun e2 w4 => ∃ (s2 : ByteArray),
   e2 = .returned (.string s2) ∧
   rnS Tryd.prog (convert 59 9 (.slice a1 l1 c1)) w4 fun e3 w5 => ∃ (s3 : ByteArray),
   e3 = (.string s3) ∧
   ((s2.size + s3.size : Nat) : Int) ≤ IntKind.i64.max ∧ K (.string (s2 ++ s3)) w5) ∧
  rnS Tryd.prog (convert 59 9 (.slice a1 l1 c1)) w2.drew fun e4 w6 => ∃ (s4 : ByteArray),
  e4 = (.string s4) ∧
  Calls Tryd.prog 59 #[(.string s1)] w6 fun e5 w7 => ∃ (s5 : ByteArray),
  e5 = .returned (.string s5) ∧
  ((s5.size + s4.size : Nat) : Int) ≤ IntKind.i64.max ∧ K (.string (s5 ++ s4)) w7)
def jFrame_ann : List (Nat × Live) := [(58, [(10, .s (.int .i64))])]
theorem jFrame_ok {s1 : ByteArray} {n1 : Int} {w : World} {K : Value → World → Prop} (h : jFrame s1 n1 w K) : Calls Tryd.prog 40 #[(.string s1), (.int .u64 n1)] w fun e w' => ∃ v, e = .returned v ∧ K v w' :=
  calls_sh (annL jFrame_ann) Tryd.func40 (by kernel_rfl) (args := [(.string s1), (.int .u64 n1)]) (by kernel_rfl) h

end Go.Proofs.YtniehglfkacjjaaDoor

/- What each function of the seat comes to, printed by program (sh.py); the kernel holds each print against the loaded code. -/
import Derived.Test.YtcnckiinbfbjkaaGreatDoorVc5
import Derived.Test.YtcnckiinbfbjkaaGreatDoorProg
import Derived.KernelRfl
set_option linter.unusedVariables false
namespace Go.Proofs.YtcnckiinbfbjkaaGreatDoor
open Go Go.Vc
-- saleroom/media.New
def mNew (n1 : Int) (w : World) (K : Value → World → Prop) : Prop :=
 ∃ J1 : Bool → World → Prop, (∀ (w1 : World) (b1 : Bool), J1 b1 w1 → ∀ x1 : Nat → Value,
  cond b1
  (K (.tuple #[(.pointer none), (.int .i64 (4 : Int))]) w1)
  (newK w1 (.cells #[(.int .i64 n1), (.slice none 0 0), (.int .i64 (0 : Int)), (.bool false), (.bool false), (.int .i64 (0 : Int))] 100) fun r1 w2 =>
   K (.tuple #[(.pointer (some ⟨r1, 0, none⟩)), (.int .i64 (0 : Int))]) w2)) ∧
 cond (decide (n1 < (1 : Int)))
 (J1 true w)
 (J1 (decide (n1 > (262144 : Int))) w)
def mNew_ann : List (Nat × Live) := [(6, [(9, .s (.bool))])]
theorem mNew_ok {n1 : Int} {w : World} {K : Value → World → Prop} (h : mNew n1 w K) : Calls Tryz.prog 20 #[(.int .i64 n1)] w fun e w' => ∃ v, e = .returned v ∧ K v w' :=
  calls_sh (annL mNew_ann) Tryz.func20 (by kernel_rfl) (args := [(.int .i64 n1)]) (by kernel_rfl) h

-- (*saleroom/media.Medium).state
def mstate (b1 : Nat) (w : World) (K : Value → World → Prop) : Prop :=
 ∃ (b2 : Bool),
 w.cell? ⟨b1, 3, none⟩ = some (.bool b2) ∧
 cond b2
 (K (.int .i64 (19 : Int)) w)
 (K (.int .i64 (0 : Int)) w)
def mstate_ann : List (Nat × Live) := []
theorem mstate_ok {b1 : Nat} {w : World} {K : Value → World → Prop} (h : mstate b1 w K) : Calls Tryz.prog 53 #[(.pointer (some ⟨b1, 0, none⟩))] w fun e w' => ∃ v, e = .returned v ∧ K v w' :=
  calls_sh (annL mstate_ann) Tryz.func53 (by kernel_rfl) (args := [(.pointer (some ⟨b1, 0, none⟩))]) (by kernel_rfl) h

-- (*saleroom/media.Medium).Read
def mRead (b1 : Nat) (w : World) (K : Value → World → Prop) : Prop :=
 Calls Tryz.prog 53 #[(.pointer (some ⟨b1, 0, none⟩))] w fun e1 w1 => ∃ (n1 : Int),
 e1 = .returned (.int .i64 n1) ∧
 cond (n1 != (0 : Int))
 (K (.tuple #[(.string (bs [])), (.int .i64 n1)]) w1)
 (∃ (a1 : Option Addr) (l1 c1 : Nat),
  w1.cell? ⟨b1, 1, none⟩ = some (.slice a1 l1 c1) ∧
  rnS Tryz.prog (convert 98 9 (.slice a1 l1 c1)) w1 fun e2 w2 => ∃ (s1 : ByteArray),
  e2 = (.string s1) ∧
  K (.tuple #[(.string s1), (.int .i64 (0 : Int))]) w2)
def mRead_ann : List (Nat × Live) := []
theorem mRead_ok {b1 : Nat} {w : World} {K : Value → World → Prop} (h : mRead b1 w K) : Calls Tryz.prog 29 #[(.pointer (some ⟨b1, 0, none⟩))] w fun e w' => ∃ v, e = .returned v ∧ K v w' :=
  calls_sh (annL mRead_ann) Tryz.func29 (by kernel_rfl) (args := [(.pointer (some ⟨b1, 0, none⟩))]) (by kernel_rfl) h

-- (*saleroom/media.Medium).Size
def mSize (b1 : Nat) (w : World) (K : Value → World → Prop) : Prop :=
 ∃ (a1 : Option Addr) (l1 c1 : Nat),
 w.cell? ⟨b1, 1, none⟩ = some (.slice a1 l1 c1) ∧
 K (.int .i64 ((l1 : Nat) : Int)) w
def mSize_ann : List (Nat × Live) := []
theorem mSize_ok {b1 : Nat} {w : World} {K : Value → World → Prop} (h : mSize b1 w K) : Calls Tryz.prog 33 #[(.pointer (some ⟨b1, 0, none⟩))] w fun e w' => ∃ v, e = .returned v ∧ K v w' :=
  calls_sh (annL mSize_ann) Tryz.func33 (by kernel_rfl) (args := [(.pointer (some ⟨b1, 0, none⟩))]) (by kernel_rfl) h

-- (*saleroom/media.Medium).Durable
def mDurable (b1 : Nat) (w : World) (K : Value → World → Prop) : Prop :=
 ∃ (n1 : Int),
 w.cell? ⟨b1, 2, none⟩ = some (.int .i64 n1) ∧
 K (.int .i64 n1) w
def mDurable_ann : List (Nat × Live) := []
theorem mDurable_ok {b1 : Nat} {w : World} {K : Value → World → Prop} (h : mDurable b1 w K) : Calls Tryz.prog 32 #[(.pointer (some ⟨b1, 0, none⟩))] w fun e w' => ∃ v, e = .returned v ∧ K v w' :=
  calls_sh (annL mDurable_ann) Tryz.func32 (by kernel_rfl) (args := [(.pointer (some ⟨b1, 0, none⟩))]) (by kernel_rfl) h

-- saleroom/wire.NewReader
def wNew (s1 : ByteArray) (w : World) (K : Value → World → Prop) : Prop :=
 newK w (.cells #[(.string s1), (.int .i64 (0 : Int))] 158) fun r1 w1 =>
 K (.pointer (some ⟨r1, 0, none⟩)) w1
def wNew_ann : List (Nat × Live) := []
theorem wNew_ok {s1 : ByteArray} {w : World} {K : Value → World → Prop} (h : wNew s1 w K) : Calls Tryz.prog 55 #[(.string s1)] w fun e w' => ∃ v, e = .returned v ∧ K v w' :=
  calls_sh (annL wNew_ann) Tryz.func55 (by kernel_rfl) (args := [(.string s1)]) (by kernel_rfl) h

-- (*saleroom/wire.Reader).Uint
def wRUint (b1 : Nat) (n1 : Int) (w : World) (K : Value → World → Prop) : Prop :=
 Calls Tryz.prog 86 #[(.pointer (some ⟨b1, 0, none⟩))] w fun e1 w1 => ∃ (b2 : Bool),
 e1 = .returned (.bool b2) ∧
 cond (!b2)
 (K (.int .u64 (0 : Int)) w1)
 (∃ I1 : Int → Int → World → Nat → Prop, (∃ m1, I1 (0 : Int) (0 : Int) w1 m1) ∧
  ∀ (w2 : World) (m1 : Nat) (n2 : Int) (n3 : Int), I1 n2 n3 w2 m1 → ∀ x1 : Nat → Value,
  ∃ (s1 : ByteArray),
  w2.cell? ⟨b1, 0, none⟩ = some (.string s1) ∧
  cond (n3 == ((s1.size : Nat) : Int))
  (Calls Tryz.prog 67 #[(.pointer (some ⟨b1, 0, none⟩)), (.int .i64 (1 : Int))] w2 fun e2 w3 => e2 = .returned (.tuple #[]) ∧
   K (.int .u64 (0 : Int)) w3)
  (∃ (s2 : ByteArray),
   w2.cell? ⟨b1, 0, none⟩ = some (.string s2) ∧
   0 ≤ n3 ∧ onSome s2[(n3).toNat]? fun u1 =>
   ∃ J1 : Bool → World → Prop, (∀ (w4 : World) (b3 : Bool), J1 b3 w4 → ∀ x2 : Nat → Value,
    cond b3
    (Calls Tryz.prog 67 #[(.pointer (some ⟨b1, 0, none⟩)), (.int .i64 (2 : Int))] w4 fun e3 w5 => e3 = .returned (.tuple #[]) ∧
     K (.int .u64 (0 : Int)) w5)
    (0 ≤ (IntKind.u64.wrap ((7 : Int) * (IntKind.u64.wrap n3))) ∧ cond (decide ((u1.toNat : Int) ≥ (128 : Int)))
     (∃ m2, m2 < m1 ∧ I1 (orI .u64 n2 (IntKind.u64.wrap ((IntKind.u64.wrap (andI .u8 (u1.toNat : Int) (127 : Int))) * 2 ^ (min ((IntKind.u64.wrap ((7 : Int) * (IntKind.u64.wrap n3)))).toNat IntKind.u64.bits)))) (IntKind.i64.wrap (n3 + (1 : Int))) w4 m2)
     (∃ J2 : Bool → World → Prop, (∀ (w6 : World) (b4 : Bool), J2 b4 w6 → ∀ x3 : Nat → Value,
       cond b4
       (Calls Tryz.prog 67 #[(.pointer (some ⟨b1, 0, none⟩)), (.int .i64 (2 : Int))] w6 fun e4 w7 => e4 = .returned (.tuple #[]) ∧
        K (.int .u64 (0 : Int)) w7)
       (cond (decide ((orI .u64 n2 (IntKind.u64.wrap ((IntKind.u64.wrap (andI .u8 (u1.toNat : Int) (127 : Int))) * 2 ^ (min ((IntKind.u64.wrap ((7 : Int) * (IntKind.u64.wrap n3)))).toNat IntKind.u64.bits)))) > n1))
        (Calls Tryz.prog 67 #[(.pointer (some ⟨b1, 0, none⟩)), (.int .i64 (4 : Int))] w6 fun e5 w8 => e5 = .returned (.tuple #[]) ∧
         K (.int .u64 (0 : Int)) w8)
        (∃ (s3 : ByteArray),
         w6.cell? ⟨b1, 0, none⟩ = some (.string s3) ∧
         0 ≤ (IntKind.i64.wrap (n3 + (1 : Int))) ∧ (IntKind.i64.wrap (n3 + (1 : Int))) ≤ ((s3.size : Nat) : Int) ∧
         stK w6 ⟨b1, 0, none⟩ (.string (s3.extract (((IntKind.i64.wrap (n3 + (1 : Int)))).toNat) s3.size)) fun w9 =>
         K (.int .u64 (orI .u64 n2 (IntKind.u64.wrap ((IntKind.u64.wrap (andI .u8 (u1.toNat : Int) (127 : Int))) * 2 ^ (min ((IntKind.u64.wrap ((7 : Int) * (IntKind.u64.wrap n3)))).toNat IntKind.u64.bits))))) w9))) ∧
      cond ((u1.toNat : Int) == (0 : Int))
      (J2 (decide (n3 > (0 : Int))) w4)
      (J2 false w4)))) ∧
   cond (n3 == (9 : Int))
   (J1 (decide ((u1.toNat : Int) > (1 : Int))) w2)
   (J1 false w2)))
def wRUint_ann : List (Nat × Live) := [(62, [(5, .s (.int .u64)), (6, .s (.int .i64))]), (3974, [(33, .s (.bool))]), (31806, [(52, .s (.bool))])]
theorem wRUint_ok {b1 : Nat} {n1 : Int} {w : World} {K : Value → World → Prop} (h : wRUint b1 n1 w K) : Calls Tryz.prog 66 #[(.pointer (some ⟨b1, 0, none⟩)), (.int .u64 n1)] w fun e w' => ∃ v, e = .returned v ∧ K v w' :=
  calls_sh (annL wRUint_ann) Tryz.func66 (by kernel_rfl) (args := [(.pointer (some ⟨b1, 0, none⟩)), (.int .u64 n1)]) (by kernel_rfl) h

-- (*saleroom/wire.Reader).Text
def wRText (b1 : Nat) (n1 : Int) (w : World) (K : Value → World → Prop) : Prop :=
 Calls Tryz.prog 86 #[(.pointer (some ⟨b1, 0, none⟩))] w fun e1 w1 => ∃ (b2 : Bool),
 e1 = .returned (.bool b2) ∧
 cond (!b2)
 (K (.string (bs [])) w1)
 (∃ J1 : Int → World → Prop, (∀ (w2 : World) (n2 : Int), J1 n2 w2 → ∀ x1 : Nat → Value,
   Calls Tryz.prog 66 #[(.pointer (some ⟨b1, 0, none⟩)), (.int .u64 n2)] w2 fun e2 w3 => ∃ (n3 : Int),
   e2 = .returned (.int .u64 n3) ∧
   ∃ J2 : World → Prop, (∀ (w4 : World), J2 w4 → ∀ x2 : Nat → Value,
    ∃ J3 : World → Prop, (∀ (w5 : World), J3 w5 → ∀ x3 : Nat → Value,
     ∃ (n4 : Int),
     w5.cell? ⟨b1, 1, none⟩ = some (.int .i64 n4) ∧
     cond (n4 != (0 : Int))
     (K (.string (bs [])) w5)
     (∃ (s1 : ByteArray),
      w5.cell? ⟨b1, 0, none⟩ = some (.string s1) ∧
      0 ≤ n3 ∧ n3 ≤ ((s1.size : Nat) : Int) ∧
      ∃ (s2 : ByteArray),
      w5.cell? ⟨b1, 0, none⟩ = some (.string s2) ∧
      0 ≤ n3 ∧ n3 ≤ ((s2.size : Nat) : Int) ∧
      stK w5 ⟨b1, 0, none⟩ (.string (s2.extract ((n3).toNat) s2.size)) fun w6 =>
      K (.string (s1.extract 0 ((n3).toNat))) w6)) ∧
    ∃ J4 : Bool → World → Prop, (∀ (w7 : World) (b3 : Bool), J4 b3 w7 → ∀ x4 : Nat → Value,
     cond b3
     (Calls Tryz.prog 67 #[(.pointer (some ⟨b1, 0, none⟩)), (.int .i64 (1 : Int))] w7 fun e3 w8 => e3 = .returned (.tuple #[]) ∧
      J3 w8)
     (J3 w7)) ∧
    ∃ (n5 : Int),
    w4.cell? ⟨b1, 1, none⟩ = some (.int .i64 n5) ∧
    cond (n5 == (0 : Int))
    (∃ (s3 : ByteArray),
     w4.cell? ⟨b1, 0, none⟩ = some (.string s3) ∧
     J4 (decide (n3 > (IntKind.u64.wrap ((s3.size : Nat) : Int)))) w4)
    (J4 false w4)) ∧
   ∃ J5 : Bool → World → Prop, (∀ (w9 : World) (b4 : Bool), J5 b4 w9 → ∀ x5 : Nat → Value,
    cond b4
    (Calls Tryz.prog 67 #[(.pointer (some ⟨b1, 0, none⟩)), (.int .i64 (4 : Int))] w9 fun e4 w10 => e4 = .returned (.tuple #[]) ∧
     J2 w10)
    (J2 w9)) ∧
   ∃ (n6 : Int),
   w3.cell? ⟨b1, 1, none⟩ = some (.int .i64 n6) ∧
   cond (n6 == (0 : Int))
   (J5 (decide (n1 < (0 : Int))) w3)
   (J5 false w3)) ∧
  cond (decide (n1 > (0 : Int)))
  (J1 (IntKind.u64.wrap n1) w1)
  (J1 (0 : Int) w1))
def wRText_ann : List (Nat × Live) := [(15, [(5, .s (.int .u64))]), (63, []), (127, []), (254, [(43, .s (.bool))]), (126, [(26, .s (.bool))])]
theorem wRText_ok {b1 : Nat} {n1 : Int} {w : World} {K : Value → World → Prop} (h : wRText b1 n1 w K) : Calls Tryz.prog 56 #[(.pointer (some ⟨b1, 0, none⟩)), (.int .i64 n1)] w fun e w' => ∃ v, e = .returned v ∧ K v w' :=
  calls_sh (annL wRText_ann) Tryz.func56 (by kernel_rfl) (args := [(.pointer (some ⟨b1, 0, none⟩)), (.int .i64 n1)]) (by kernel_rfl) h

-- (*saleroom/wire.Reader).Err
def wErr (b1 : Nat) (w : World) (K : Value → World → Prop) : Prop :=
 ∃ (n1 : Int),
 w.cell? ⟨b1, 1, none⟩ = some (.int .i64 n1) ∧
 K (.int .i64 n1) w
def wErr_ann : List (Nat × Live) := []
theorem wErr_ok {b1 : Nat} {w : World} {K : Value → World → Prop} (h : wErr b1 w K) : Calls Tryz.prog 57 #[(.pointer (some ⟨b1, 0, none⟩))] w fun e w' => ∃ v, e = .returned v ∧ K v w' :=
  calls_sh (annL wErr_ann) Tryz.func57 (by kernel_rfl) (args := [(.pointer (some ⟨b1, 0, none⟩))]) (by kernel_rfl) h

-- (*saleroom/wire.Reader).Left
def wLeft (b1 : Nat) (w : World) (K : Value → World → Prop) : Prop :=
 Calls Tryz.prog 86 #[(.pointer (some ⟨b1, 0, none⟩))] w fun e1 w1 => ∃ (b2 : Bool),
 e1 = .returned (.bool b2) ∧
 cond (!b2)
 (K (.int .i64 (0 : Int)) w1)
 (∃ (s1 : ByteArray),
  w1.cell? ⟨b1, 0, none⟩ = some (.string s1) ∧
  K (.int .i64 ((s1.size : Nat) : Int)) w1)
def wLeft_ann : List (Nat × Live) := []
theorem wLeft_ok {b1 : Nat} {w : World} {K : Value → World → Prop} (h : wLeft b1 w K) : Calls Tryz.prog 58 #[(.pointer (some ⟨b1, 0, none⟩))] w fun e w' => ∃ v, e = .returned v ∧ K v w' :=
  calls_sh (annL wLeft_ann) Tryz.func58 (by kernel_rfl) (args := [(.pointer (some ⟨b1, 0, none⟩))]) (by kernel_rfl) h

-- (*saleroom/wire.Reader).ok
def wok (b1 : Nat) (w : World) (K : Value → World → Prop) : Prop :=
 ∃ (n1 : Int),
 w.cell? ⟨b1, 1, none⟩ = some (.int .i64 n1) ∧
 K (.bool (n1 == (0 : Int))) w
def wok_ann : List (Nat × Live) := []
theorem wok_ok {b1 : Nat} {w : World} {K : Value → World → Prop} (h : wok b1 w K) : Calls Tryz.prog 86 #[(.pointer (some ⟨b1, 0, none⟩))] w fun e w' => ∃ v, e = .returned v ∧ K v w' :=
  calls_sh (annL wok_ann) Tryz.func86 (by kernel_rfl) (args := [(.pointer (some ⟨b1, 0, none⟩))]) (by kernel_rfl) h

-- (*saleroom/wire.Reader).Fail
def wFail (b1 : Nat) (n1 : Int) (w : World) (K : Value → World → Prop) : Prop :=
 ∃ J1 : Bool → World → Prop, (∀ (w1 : World) (b2 : Bool), J1 b2 w1 → ∀ x1 : Nat → Value,
  cond b2
  (stK w1 ⟨b1, 1, none⟩ (.int .i64 n1) fun w2 =>
   K (.tuple #[]) w2)
  (K (.tuple #[]) w1)) ∧
 ∃ (n2 : Int),
 w.cell? ⟨b1, 1, none⟩ = some (.int .i64 n2) ∧
 J1 (n2 == (0 : Int)) w
def wFail_ann : List (Nat × Live) := [(1, [(12, .s (.bool))])]
theorem wFail_ok {b1 : Nat} {n1 : Int} {w : World} {K : Value → World → Prop} (h : wFail b1 n1 w K) : Calls Tryz.prog 67 #[(.pointer (some ⟨b1, 0, none⟩)), (.int .i64 n1)] w fun e w' => ∃ v, e = .returned v ∧ K v w' :=
  calls_sh (annL wFail_ann) Tryz.func67 (by kernel_rfl) (args := [(.pointer (some ⟨b1, 0, none⟩)), (.int .i64 n1)]) (by kernel_rfl) h

-- saleroom/journal.entries
def jEntries (s1 : ByteArray) (w : World) (K : Value → World → Prop) : Prop :=
 newK w (.cells #[(.string s1)] 9) fun r1 w1 =>
 K (.func (.func 54) #[] #[(.pointer (some ⟨r1, 0, none⟩))]) w1
def jEntries_ann : List (Nat × Live) := []
theorem jEntries_ok {s1 : ByteArray} {w : World} {K : Value → World → Prop} (h : jEntries s1 w K) : Calls Tryz.prog 30 #[(.string s1)] w fun e w' => ∃ v, e = .returned v ∧ K v w' :=
  calls_sh (annL jEntries_ann) Tryz.func30 (by kernel_rfl) (args := [(.string s1)]) (by kernel_rfl) h

-- saleroom/journal.entries$1
def jIter (l1 : Nat) (b1 : Nat) (w : World) (K : Value → World → Prop) : Prop :=
 ∃ I1 : Int → Int → World → Nat → Prop, (∃ m1, I1 (0 : Int) (0 : Int) w m1) ∧
 ∀ (w1 : World) (m1 : Nat) (n1 : Int) (n2 : Int), I1 n1 n2 w1 m1 → ∀ x1 : Nat → Value,
 ∃ (s1 : ByteArray),
 w1.cell? ⟨b1, 0, none⟩ = some (.string s1) ∧
 0 ≤ n1 ∧ n1 ≤ ((s1.size : Nat) : Int) ∧
 Calls Tryz.prog 55 #[(.string (s1.extract ((n1).toNat) s1.size))] w1 fun e1 w2 => ∃ (p1 : Option Addr),
 e1 = .returned (.pointer p1) ∧
 Calls Tryz.prog 56 #[(.pointer p1), (.int .i64 (4000 : Int))] w2 fun e2 w3 => ∃ (s2 : ByteArray),
 e2 = .returned (.string s2) ∧
 ∃ J1 : Bool → World → Prop, (∀ (w4 : World) (b2 : Bool), J1 b2 w4 → ∀ x2 : Nat → Value,
  cond b2
  (K (.tuple #[]) w4)
  (Calls Tryz.prog 35 #[(.int .u64 n2), (.string s2)] w4 fun e3 w5 => ∃ (n3 : Int),
   e3 = .returned (.int .u64 n3) ∧
   ∃ (s3 : ByteArray),
   w5.drew.cell? ⟨b1, 0, none⟩ = some (.string s3) ∧
   Calls Tryz.prog 58 #[(.pointer p1)] w5.drew fun e4 w6 => ∃ (n4 : Int),
   e4 = .returned (.int .i64 n4) ∧
   w6.cell? ⟨b1, 0, none⟩ = some (.string s3) ∧
   ∃ J2 : Bool → World → Prop, (∀ (w7 : World) (b3 : Bool), J2 b3 w7 → ∀ x3 : Nat → Value,
    cond b3
    (K (.tuple #[]) w7)
    (∃ m2, m2 < m1 ∧ I1 (IntKind.i64.wrap ((IntKind.i64.wrap (((s3.size : Nat) : Int) - n4)) + (8 : Int))) n3 w7 m2)) ∧
   ∃ (s4 : ByteArray),
   w6.drew.cell? ⟨b1, 0, none⟩ = some (.string s4) ∧
   0 ≤ (IntKind.i64.wrap ((IntKind.i64.wrap (((s3.size : Nat) : Int) - n4)) + (8 : Int))) ∧ (IntKind.i64.wrap ((IntKind.i64.wrap (((s3.size : Nat) : Int) - n4)) + (8 : Int))) ≤ ((s4.size : Nat) : Int) ∧
   0 ≤ n1 ∧ n1 ≤ ((((IntKind.i64.wrap ((IntKind.i64.wrap (((s3.size : Nat) : Int) - n4)) + (8 : Int)))).toNat : Nat) : Int) ∧
   Calls Tryz.prog 40 #[(.string s2), (.int .u64 n3)] w6.drew fun e5 w8 => ∃ (s5 : ByteArray),
   e5 = .returned (.string s5) ∧
   w8.cell? ⟨b1, 0, none⟩ = some (.string s4) ∧
   cond (!((s4.extract ((n1).toNat) (((IntKind.i64.wrap ((IntKind.i64.wrap (((s3.size : Nat) : Int) - n4)) + (8 : Int)))).toNat)).toList == s5.toList))
   (J2 true w8)
   (YieldC Tryz.prog l1 #[(.agg #[(.string s2), (.int .u64 n3), (.int .i64 (IntKind.i64.wrap ((IntKind.i64.wrap (((s3.size : Nat) : Int) - n4)) + (8 : Int))))])] w8 fun b4 w9 => ∃ (b5 : Bool),
    .returned (.bool b4) = Ending.returned (.bool b5) ∧
    J2 (!b5) w9))) ∧
 Calls Tryz.prog 57 #[(.pointer p1)] w3 fun e6 w10 => ∃ (n5 : Int),
 e6 = .returned (.int .i64 n5) ∧
 cond (n5 != (0 : Int))
 (J1 true w10)
 (Calls Tryz.prog 58 #[(.pointer p1)] w10 fun e7 w11 => ∃ (n6 : Int),
  e7 = .returned (.int .i64 n6) ∧
  J1 (decide (n6 < (8 : Int))) w11)
def jIter_ann : List (Nat × Live) := [(6, [(3, .s (.int .i64)), (4, .s (.int .u64))]), (198, [(21, .s (.bool))]), (1598, [(47, .s (.bool))])]
theorem jIter_ok {l1 : Nat} {b1 : Nat} {w : World} {K : Value → World → Prop} (h : jIter l1 b1 w K) : Calls Tryz.prog 54 #[(.func (.yield l1) #[] #[]), (.pointer (some ⟨b1, 0, none⟩))] w fun e w' => ∃ v, e = .returned v ∧ K v w' :=
  calls_sh (annL jIter_ann) Tryz.func54 (by kernel_rfl) (args := [(.func (.yield l1) #[] #[]), (.pointer (some ⟨b1, 0, none⟩))]) (by kernel_rfl) h

-- saleroom/journal.Open
noncomputable def jOpen_rf1018_tm (b1 : Nat) (s1 : ByteArray) (n1 : Int) (r1 : Nat) (r2 : Nat) (r3 : Nat) (v1 : Value) : Tm := [(.pointer (some ⟨b1, 0, none⟩)), undef, (.pointer none), (.int .i64 (0 : Int)), (.string s1), (.int .i64 n1), (.pointer (some ⟨r2, 0, none⟩)), (.pointer (some ⟨r3, 0, none⟩)), undef, undef, undef, (.pointer (some ⟨b1, 0, none⟩)), (.bool false), (.tuple #[(.string s1), (.int .i64 n1)]), (.pointer (some ⟨b1, 0, none⟩)), (.tuple #[(.string s1), (.int .i64 n1)]), (.string s1), (.int .i64 n1), (.int .i64 n1), (.bool (n1 != (0 : Int))), undef, (.pointer (some ⟨b1, 0, none⟩)), (.agg #[(.pointer (some ⟨b1, 0, none⟩)), (.slice none 0 0), (.int .i64 (0 : Int)), (.bool false)]), (.pointer (some ⟨r1, 0, none⟩)), (.string s1), v1, undef, undef, undef, undef, undef, undef, undef, undef, undef, undef, undef, undef, undef, undef, undef, undef, undef, undef, undef, undef, undef, undef, undef, undef, undef, undef, undef, undef, undef, undef, undef, undef, undef, undef, undef, undef, undef, undef, undef, undef, undef, undef]
noncomputable def jOpen_rf1018_rec (b1 : Nat) (s1 : ByteArray) (n1 : Int) (r1 : Nat) (r2 : Nat) (r3 : Nat) (v1 : Value) (fn : FuncId) (D : Nat) : Loop := { state := .ready, pending := none, fn := fn, tmps := (jOpen_rf1018_tm b1 s1 n1 r1 r2 r3 v1).toArray, params := rfPs (bodyOf Tryz.f21) 1018, assign := rfAs (bodyOf Tryz.f21) 1018, body := rfBd (bodyOf Tryz.f21) 1018, defers := D }
def jOpen_rf1018 (b1 : Nat) (s1 : ByteArray) (n1 : Int) (r1 : Nat) (r2 : Nat) (r3 : Nat) (v1 : Value) (l2 : Nat) (s2 : ByteArray) (n8 : Int) (n9 : Int) (w : World) (K : Bool → World → Prop) : Prop :=
 newK w (.cells #[(.string (bs [])), (.int .u64 (0 : Int)), (.int .i64 (0 : Int))] 107) fun r4 w16 =>
 stL ⟨r4, 0, none⟩ 0 [(.string s2), (.int .u64 n8), (.int .i64 n9)] w16 fun w17 =>
 ∃ r5, w17.heap[l2]? = some (.loop r5) ∧ r5.state = .ready ∧
 ∃ (p4 : Option Addr),
 (World.putObj w17 l2 (.loop { r5 with state := .busy })).drew.cell? ⟨r2, 0, none⟩ = some (.pointer p4) ∧
 ∃ (p5 : Option Addr),
 (World.putObj w17 l2 (.loop { r5 with state := .busy })).drew.cell? ⟨r2, 0, none⟩ = some (.pointer p5) ∧
 onSome p5 fun q3 =>
 ∃ (a2 : Option Addr) (l3 c2 : Nat),
 (World.putObj w17 l2 (.loop { r5 with state := .busy })).drew.cell? (Addr.add q3 1) = some (.slice a2 l3 c2) ∧
 ∃ (s3 : ByteArray) (n10 : Int) (n11 : Int),
 cellsAt (World.putObj w17 l2 (.loop { r5 with state := .busy })).drew ⟨r4, 0, none⟩ 0 [(.string s3), (.int .u64 n10), (.int .i64 n11)] ∧
 newK (World.putObj w17 l2 (.loop { r5 with state := .busy })).drew (.cells #[(.string s3), (.int .u64 n10), (.int .i64 n11)] 107) fun r6 w18 =>
 w18.cell? (Addr.add q3 1) = some (.slice a2 l3 c2) ∧
 w18.cell? ⟨r2, 0, none⟩ = some (.pointer p5) ∧
 w18.cell? ⟨r2, 0, none⟩ = some (.pointer p4) ∧
 rnS Tryz.prog (Builtin.append_ #[76, 76] 76 #[(.slice a2 l3 c2), (.slice (some ⟨r6, 0, none⟩) 1 1)]) w18 fun e7 w19 => ∃ (a3 : Option Addr) (l4 c3 : Nat),
 e7 = (.slice a3 l4 c3) ∧
 w19.cell? ⟨r2, 0, none⟩ = some (.pointer p4) ∧
 onSome p4 fun q4 =>
 stK w19 (Addr.add q4 1) (.slice a3 l4 c3) fun w20 =>
 ∃ (n12 : Int),
 w20.cell? ⟨r4, 2, none⟩ = some (.int .i64 n12) ∧
 stK w20 ⟨r3, 0, none⟩ (.int .i64 n12) fun w21 =>
 ∃ r7, w21.heap[l2]? = some (.loop r7) ∧ K true (World.putObj w21 l2 (.loop { r7 with state := .ready, pending := none }))
def jOpen_rf1018_ann : List (Nat × Live) := []
theorem jOpen_rf1018_ok {b1 : Nat} {s1 : ByteArray} {n1 : Int} {r1 : Nat} {r2 : Nat} {r3 : Nat} {v1 : Value} {l2 : Nat} {s2 : ByteArray} {n8 : Int} {n9 : Int} {w : World} {K : Bool → World → Prop} {r : Loop} (hl : w.heap[l2]? = some (.loop r)) (ht : r.tmps = (jOpen_rf1018_tm b1 s1 n1 r1 r2 r3 v1).toArray) (hp : r.params = rfPs (bodyOf Tryz.f21) 1018) (ha : r.assign = rfAs (bodyOf Tryz.f21) 1018) (hb : r.body = rfBd (bodyOf Tryz.f21) 1018) (h : jOpen_rf1018 b1 s1 n1 r1 r2 r3 v1 l2 s2 n8 n9 w K) : YieldC Tryz.prog l2 #[(.agg #[(.string s2), (.int .u64 n8), (.int .i64 n9)])] w K :=
  yield_sh (annL jOpen_rf1018_ann) (args := [(.agg #[(.string s2), (.int .u64 n8), (.int .i64 n9)])]) hl ht hp ha hb (by kernel_rfl) (by kernel_rfl) (by kernel_rfl) h
def jOpen (b1 : Nat) (w : World) (K : Value → World → Prop) : Prop :=
 Calls Tryz.prog 29 #[(.pointer (some ⟨b1, 0, none⟩))] w fun e1 w1 => ∃ (s1 : ByteArray) (n1 : Int),
 e1 = .returned (.tuple #[(.string s1), (.int .i64 n1)]) ∧
 cond (n1 != (0 : Int))
 (K (.tuple #[(.pointer none), (.int .i64 n1)]) w1)
 (newK w1 (.cells #[(.pointer (some ⟨b1, 0, none⟩)), (.slice none 0 0), (.int .i64 (0 : Int)), (.bool false)] 78) fun r1 w2 =>
  newK w2 (.cells #[(.pointer none)] 48) fun r2 w3 =>
  stK w3 ⟨r2, 0, none⟩ (.pointer (some ⟨r1, 0, none⟩)) fun w4 =>
  newK w4 (.cells #[(.int .i64 (0 : Int))] 3) fun r3 w5 =>
  stK w5 ⟨r3, 0, none⟩ (.int .i64 (0 : Int)) fun w6 =>
  Calls Tryz.prog 30 #[(.string s1)] w6 fun e2 w7 => ∃ (v1 : Value),
  e2 = .returned v1 ∧
  rangeV Tryz.prog v1 fun g1 lb1 =>
  rangeK Tryz.prog g1 lb1 (jOpen_rf1018_rec b1 s1 n1 r1 r2 r3 v1) w7
  (fun w8 =>
   ∃ (p1 : Option Addr),
   w8.drew.cell? ⟨r2, 0, none⟩ = some (.pointer p1) ∧
   ∃ (p2 : Option Addr),
   w8.drew.cell? ⟨r2, 0, none⟩ = some (.pointer p2) ∧
   onSome p2 fun q1 =>
   ∃ (a1 : Option Addr) (l1 c1 : Nat),
   w8.drew.cell? (Addr.add q1 1) = some (.slice a1 l1 c1) ∧
   onSome p1 fun q2 =>
   stK w8.drew (Addr.add q2 2) (.int .i64 ((l1 : Nat) : Int)) fun w9 =>
   ∃ J1 : World → Prop, (∀ (w10 : World), J1 w10 → ∀ x1 : Nat → Value,
    ∃ J2 : World → Prop, (∀ (w11 : World), J2 w11 → ∀ x2 : Nat → Value,
     ∃ (p3 : Option Addr),
     w11.cell? ⟨r2, 0, none⟩ = some (.pointer p3) ∧
     w11.heap[w7.heap.size]? = some (.deferred (some [])) ∧
     K (.tuple #[(.pointer p3), (.int .i64 (0 : Int))]) (World.putObj w11 w7.heap.size (.deferred none))) ∧
    Calls Tryz.prog 32 #[(.pointer (some ⟨b1, 0, none⟩))] w10 fun e3 w12 => ∃ (n2 : Int),
    e3 = .returned (.int .i64 n2) ∧
    Calls Tryz.prog 33 #[(.pointer (some ⟨b1, 0, none⟩))] w12 fun e4 w13 => ∃ (n3 : Int),
    e4 = .returned (.int .i64 n3) ∧
    cond (decide (n2 < n3))
    (Calls Tryz.prog 34 #[(.pointer (some ⟨b1, 0, none⟩))] w13 fun e5 w14 => ∃ (n4 : Int),
     e5 = .returned (.int .i64 n4) ∧
     cond (n4 != (0 : Int))
     (w14.heap[w7.heap.size]? = some (.deferred (some [])) ∧
      K (.tuple #[(.pointer none), (.int .i64 n4)]) (World.putObj w14 w7.heap.size (.deferred none)))
     (J2 w14))
    (J2 w13)) ∧
   ∃ (n5 : Int),
   w9.cell? ⟨r3, 0, none⟩ = some (.int .i64 n5) ∧
   cond (decide (n5 < ((s1.size : Nat) : Int)))
   (∃ (n6 : Int),
    w9.cell? ⟨r3, 0, none⟩ = some (.int .i64 n6) ∧
    Calls Tryz.prog 31 #[(.pointer (some ⟨b1, 0, none⟩)), (.int .i64 n6)] w9 fun e6 w15 => ∃ (n7 : Int),
    e6 = .returned (.int .i64 n7) ∧
    cond (n7 != (0 : Int))
    (w15.heap[w7.heap.size]? = some (.deferred (some [])) ∧
     K (.tuple #[(.pointer none), (.int .i64 n7)]) (World.putObj w15 w7.heap.size (.deferred none)))
    (J1 w15))
   (J1 w9))
  (fun _ => False)
  [])
def jOpen_ann : List (Nat × Live) := [(511, []), (1023, [])]
theorem jOpen_ok {b1 : Nat} {w : World} {K : Value → World → Prop} (h : jOpen b1 w K) : Calls Tryz.prog 21 #[(.pointer (some ⟨b1, 0, none⟩))] w fun e w' => ∃ v, e = .returned v ∧ K v w' :=
  calls_sh (annL jOpen_ann) Tryz.func21 (by kernel_rfl) (args := [(.pointer (some ⟨b1, 0, none⟩))]) (by kernel_rfl) h

-- (*saleroom/journal.Journal).Count
def jCount (b1 : Nat) (w : World) (K : Value → World → Prop) : Prop :=
 ∃ (a1 : Option Addr) (l1 c1 : Nat),
 w.cell? ⟨b1, 1, none⟩ = some (.slice a1 l1 c1) ∧
 K (.int .i64 ((l1 : Nat) : Int)) w
def jCount_ann : List (Nat × Live) := []
theorem jCount_ok {b1 : Nat} {w : World} {K : Value → World → Prop} (h : jCount b1 w K) : Calls Tryz.prog 15 #[(.pointer (some ⟨b1, 0, none⟩))] w fun e w' => ∃ v, e = .returned v ∧ K v w' :=
  calls_sh (annL jCount_ann) Tryz.func15 (by kernel_rfl) (args := [(.pointer (some ⟨b1, 0, none⟩))]) (by kernel_rfl) h

-- (*saleroom/journal.Journal).Count
def jCountN  (w : World) (K : Value → World → Prop) : Prop :=
 K (.int .i64 (0 : Int)) w
def jCountN_ann : List (Nat × Live) := []
theorem jCountN_ok {w : World} {K : Value → World → Prop} (h : jCountN w K) : Calls Tryz.prog 15 #[(.pointer none)] w fun e w' => ∃ v, e = .returned v ∧ K v w' :=
  calls_sh (annL jCountN_ann) Tryz.func15 (by kernel_rfl) (args := [(.pointer none)]) (by kernel_rfl) h

-- saleroom/state.New
def tNew (n1 : Int) (n2 : Int) (n3 : Int) (n4 : Int) (w : World) (K : Value → World → Prop) : Prop :=
 newK w (.cells #[(.int .i64 n1), (.int .i64 n2), (.int .i64 n3), (.int .i64 n4)] 31) fun r1 w1 =>
 ∃ (n5 : Int) (n6 : Int) (n7 : Int) (n8 : Int),
 cellsAt w1 ⟨r1, 0, none⟩ 0 [(.int .i64 n5), (.int .i64 n6), (.int .i64 n7), (.int .i64 n8)] ∧
 newK w1 (.cells #[(.int .i64 n5), (.int .i64 n6), (.int .i64 n7), (.int .i64 n8), (.int .i64 (0 : Int)), (.slice none 0 0), (.slice none 0 0), (.slice none 0 0), (.slice none 0 0), (.pointer none), (.int .i64 (0 : Int)), (.int .i64 (0 : Int)), (.int .i64 (0 : Int)), (.int .i64 (0 : Int)), (.int .i64 (0 : Int)), (.int .i64 (0 : Int)), (.int .i64 (0 : Int)), (.int .i64 (0 : Int)), (.slice none 0 0), (.bool false), (.bool false), (.int .i64 (0 : Int)), (.int .i64 (0 : Int)), (.int .i64 (0 : Int)), (.int .i64 (0 : Int)), (.int .i64 (0 : Int)), (.int .i64 (0 : Int)), (.int .i64 (0 : Int)), (.int .i64 (0 : Int)), (.slice none 0 0), (.bool false), (.bool false), (.int .i64 (0 : Int)), (.int .i64 (0 : Int)), (.int .i64 (0 : Int)), (.int .i64 (0 : Int)), (.int .i64 (0 : Int)), (.int .i64 (0 : Int)), (.int .i64 (0 : Int)), (.int .i64 (0 : Int)), (.slice none 0 0), (.bool false), (.bool false), (.int .i64 (0 : Int)), (.int .i64 (0 : Int)), (.int .i64 (0 : Int)), (.int .i64 (0 : Int)), (.int .i64 (0 : Int)), (.int .i64 (0 : Int)), (.int .i64 (0 : Int)), (.int .i64 (0 : Int)), (.slice none 0 0), (.bool false), (.bool false), (.int .i64 (0 : Int)), (.int .i64 (0 : Int)), (.int .i64 (0 : Int)), (.int .i64 (0 : Int)), (.int .i64 (0 : Int)), (.int .i64 (0 : Int)), (.int .i64 (0 : Int)), (.int .i64 (0 : Int)), (.slice none 0 0), (.bool false), (.bool false), (.int .i64 (0 : Int)), (.int .i64 (0 : Int)), (.int .i64 (0 : Int)), (.int .i64 (0 : Int)), (.int .i64 (0 : Int)), (.int .i64 (0 : Int)), (.int .i64 (0 : Int)), (.int .i64 (0 : Int)), (.slice none 0 0), (.bool false), (.bool false), (.int .i64 (0 : Int)), (.int .i64 (0 : Int)), (.int .i64 (0 : Int)), (.int .i64 (0 : Int)), (.int .i64 (0 : Int)), (.int .i64 (0 : Int)), (.int .i64 (0 : Int)), (.int .i64 (0 : Int)), (.slice none 0 0), (.bool false), (.bool false), (.int .i64 (0 : Int)), (.int .i64 (0 : Int)), (.int .i64 (0 : Int)), (.int .i64 (0 : Int)), (.int .i64 (0 : Int)), (.int .i64 (0 : Int)), (.int .i64 (0 : Int)), (.int .i64 (0 : Int)), (.slice none 0 0), (.bool false), (.bool false), (.int .u64 (0 : Int)), (.int .i64 (0 : Int)), (.int .u64 (0 : Int))] 92) fun r2 w2 =>
 K (.pointer (some ⟨r2, 0, none⟩)) w2
def tNew_ann : List (Nat × Live) := []
theorem tNew_ok {n1 : Int} {n2 : Int} {n3 : Int} {n4 : Int} {w : World} {K : Value → World → Prop} (h : tNew n1 n2 n3 n4 w K) : Calls Tryz.prog 23 #[(.agg #[(.int .i64 n1), (.int .i64 n2), (.int .i64 n3), (.int .i64 n4)])] w fun e w' => ∃ v, e = .returned v ∧ K v w' :=
  calls_sh (annL tNew_ann) Tryz.func23 (by kernel_rfl) (args := [(.agg #[(.int .i64 n1), (.int .i64 n2), (.int .i64 n3), (.int .i64 n4)])]) (by kernel_rfl) h

-- (*saleroom/state.State).Digest
def tDigest (b1 : Nat) (w : World) (K : Value → World → Prop) : Prop :=
 ∃ (n1 : Int),
 w.cell? ⟨b1, 100, none⟩ = some (.int .u64 n1) ∧
 K (.int .u64 n1) w
def tDigest_ann : List (Nat × Live) := []
theorem tDigest_ok {b1 : Nat} {w : World} {K : Value → World → Prop} (h : tDigest b1 w K) : Calls Tryz.prog 17 #[(.pointer (some ⟨b1, 0, none⟩))] w fun e w' => ∃ v, e = .returned v ∧ K v w' :=
  calls_sh (annL tDigest_ann) Tryz.func17 (by kernel_rfl) (args := [(.pointer (some ⟨b1, 0, none⟩))]) (by kernel_rfl) h

end Go.Proofs.YtcnckiinbfbjkaaGreatDoor

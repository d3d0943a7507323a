/- What each function of the seat comes to, printed by program (sh.py); the kernel holds each print against the loaded code. -/
import Derived.Test.YtbjbfppaghfpcaaVc5
import Derived.Test.YtbjbfppaghfpcaaProg
import Derived.KernelRfl
set_option linter.unusedVariables false
namespace Go.Proofs.Ytbjbfppaghfpcaa
open Go Go.Vc
-- errors.Is
def shIsN  (w : World) (K : Value → World → Prop) : Prop :=
 K (.bool false) w
def shIsN_ann : List (Nat × Live) := []
theorem shIsN_ok {w : World} {K : Value → World → Prop} (h : shIsN w K) : Calls Try.prog 36 #[.nilIface, (.iface 26 (.int .i64 (19 : Int)))] w fun e w' => ∃ v, e = .returned v ∧ K v w' :=
  calls_sh (annL shIsN_ann) Try.func36 (by kernel_rfl) (args := [.nilIface, (.iface 26 (.int .i64 (19 : Int)))]) (by kernel_rfl) h

-- errors.Is
def shIsD  (w : World) (K : Value → World → Prop) : Prop :=
 Calls Try.prog 40 #[(.iface 26 (.int .i64 (19 : Int))), (.iface 26 (.int .i64 (19 : Int))), (.bool true)] w fun e1 w1 => ∃ (b1 : Bool),
 e1 = .returned (.bool b1) ∧
 K (.bool b1) w1
def shIsD_ann : List (Nat × Live) := []
theorem shIsD_ok {w : World} {K : Value → World → Prop} (h : shIsD w K) : Calls Try.prog 36 #[(.iface 26 (.int .i64 (19 : Int))), (.iface 26 (.int .i64 (19 : Int)))] w fun e w' => ∃ v, e = .returned v ∧ K v w' :=
  calls_sh (annL shIsD_ann) Try.func36 (by kernel_rfl) (args := [(.iface 26 (.int .i64 (19 : Int))), (.iface 26 (.int .i64 (19 : Int)))]) (by kernel_rfl) h

-- errors.is
def shis  (w : World) (K : Value → World → Prop) : Prop :=
 K (.bool true) w
def shis_ann : List (Nat × Live) := []
theorem shis_ok {w : World} {K : Value → World → Prop} (h : shis w K) : Calls Try.prog 40 #[(.iface 26 (.int .i64 (19 : Int))), (.iface 26 (.int .i64 (19 : Int))), (.bool true)] w fun e w' => ∃ v, e = .returned v ∧ K v w' :=
  calls_sh (annL shis_ann) Try.func40 (by kernel_rfl) (args := [(.iface 26 (.int .i64 (19 : Int))), (.iface 26 (.int .i64 (19 : Int))), (.bool true)]) (by kernel_rfl) h

-- (*saleroom/media.Medium).state
def mstate (b1 : Nat) (w : World) (K : Value → World → Prop) : Prop :=
 ∃ (b2 : Bool),
 w.cell? ⟨b1, 3, none⟩ = some (.bool b2) ∧
 cond b2
 (K (.int .i64 (19 : Int)) w)
 (K (.int .i64 (0 : Int)) w)
def mstate_ann : List (Nat × Live) := []
theorem mstate_ok {b1 : Nat} {w : World} {K : Value → World → Prop} (h : mstate b1 w K) : Calls Try.prog 34 #[(.pointer (some ⟨b1, 0, none⟩))] w fun e w' => ∃ v, e = .returned v ∧ K v w' :=
  calls_sh (annL mstate_ann) Try.func34 (by kernel_rfl) (args := [(.pointer (some ⟨b1, 0, none⟩))]) (by kernel_rfl) h

-- (*saleroom/media.Medium).step
def mstep (b1 : Nat) (w : World) (K : Value → World → Prop) : Prop :=
 ∃ J1 : Bool → World → Prop, (∀ (w1 : World) (b2 : Bool), J1 b2 w1 → ∀ _ : Nat → Value,
  cond b2
  (stK w1 ⟨b1, 3, none⟩ (.bool true) fun w2 =>
   K (.iface 26 (.int .i64 (19 : Int))) w2)
  (∃ J2 : World → Prop, (∀ (w3 : World), J2 w3 → ∀ _ : Nat → Value,
    K .nilIface w3) ∧
   ∃ (b3 : Bool),
   w1.cell? ⟨b1, 4, none⟩ = some (.bool b3) ∧
   cond b3
   (∃ (n1 : Int),
    w1.cell? ⟨b1, 5, none⟩ = some (.int .i64 n1) ∧
    stK w1 ⟨b1, 5, none⟩ (.int .i64 (IntKind.i64.wrap (n1 - (1 : Int)))) fun w4 =>
    J2 w4)
   (J2 w1))) ∧
 ∃ (b4 : Bool),
 w.cell? ⟨b1, 4, none⟩ = some (.bool b4) ∧
 cond b4
 (∃ (n2 : Int),
  w.cell? ⟨b1, 5, none⟩ = some (.int .i64 n2) ∧
  J1 (n2 == (0 : Int)) w)
 (J1 false w)
def mstep_ann : List (Nat × Live) := [(6, [(13, .s (.bool))]), (7, [])]
theorem mstep_ok {b1 : Nat} {w : World} {K : Value → World → Prop} (h : mstep b1 w K) : Calls Try.prog 35 #[(.pointer (some ⟨b1, 0, none⟩))] w fun e w' => ∃ v, e = .returned v ∧ K v w' :=
  calls_sh (annL mstep_ann) Try.func35 (by kernel_rfl) (args := [(.pointer (some ⟨b1, 0, none⟩))]) (by kernel_rfl) h

-- (*saleroom/media.Medium).Append
def mAppend (b1 : Nat) (s1 : ByteArray) (w : World) (K : Value → World → Prop) : Prop :=
 Calls Try.prog 34 #[(.pointer (some ⟨b1, 0, none⟩))] w fun e1 w1 => ∃ (n1 : Int),
 e1 = .returned (.int .i64 n1) ∧
 cond (n1 != (0 : Int))
 (K (.int .i64 n1) w1)
 (∃ (n2 : Int),
  w1.drew.cell? ⟨b1, 0, none⟩ = some (.int .i64 n2) ∧
  ∃ (a1 : Option Addr) (l1 c1 : Nat),
  w1.drew.cell? ⟨b1, 1, none⟩ = some (.slice a1 l1 c1) ∧
  cond (decide (((s1.size : Nat) : Int) > (IntKind.i64.wrap (n2 - ((l1 : Nat) : Int)))))
  (K (.int .i64 (18 : Int)) w1.drew)
  (∃ I1 : Int → World → Nat → Prop, (∃ m1, I1 (0 : Int) w1.drew m1) ∧
   ∀ (w2 : World) (m1 : Nat) (n3 : Int), I1 n3 w2 m1 → ∀ _ : Nat → Value,
   cond (decide (n3 < ((s1.size : Nat) : Int)))
   (Calls Try.prog 35 #[(.pointer (some ⟨b1, 0, none⟩))] w2 fun e2 w3 => ∃ (v1 : Value),
    e2 = .returned v1 ∧
    Calls Try.prog 36 #[v1, (.iface 26 (.int .i64 (19 : Int)))] w3 fun e3 w4 => ∃ (b2 : Bool),
    e3 = .returned (.bool b2) ∧
    cond b2
    (K (.int .i64 (19 : Int)) w4)
    (∃ (a2 : Option Addr) (l2 c2 : Nat),
     w4.drew.cell? ⟨b1, 1, none⟩ = some (.slice a2 l2 c2) ∧
     0 ≤ n3 ∧ onSome s1[(n3).toNat]? fun u1 =>
     newK w4.drew (.cells #[(.int .u8 (u1.toNat : Int))] 5) fun r1 w5 =>
     w5.cell? ⟨b1, 1, none⟩ = some (.slice a2 l2 c2) ∧
     rnS Try.prog (Builtin.append_ #[52, 52] 52 #[(.slice a2 l2 c2), (.slice (some ⟨r1, 0, none⟩) 1 1)]) w5 fun e4 w6 => ∃ (a3 : Option Addr) (l3 c3 : Nat),
     e4 = (.slice a3 l3 c3) ∧
     stK w6 ⟨b1, 1, none⟩ (.slice a3 l3 c3) fun w7 =>
     ∃ m2, m2 < m1 ∧ I1 (IntKind.i64.wrap (n3 + (1 : Int))) w7 m2))
   (K (.int .i64 (0 : Int)) w2)))
def mAppend_ann : List (Nat × Live) := [(122, [(28, .s (.int .i64))])]
theorem mAppend_ok {b1 : Nat} {s1 : ByteArray} {w : World} {K : Value → World → Prop} (h : mAppend b1 s1 w K) : Calls Try.prog 15 #[(.pointer (some ⟨b1, 0, none⟩)), (.string s1)] w fun e w' => ∃ v, e = .returned v ∧ K v w' :=
  calls_sh (annL mAppend_ann) Try.func15 (by kernel_rfl) (args := [(.pointer (some ⟨b1, 0, none⟩)), (.string s1)]) (by kernel_rfl) h

-- (*saleroom/media.Medium).Sync
def mSync (b1 : Nat) (w : World) (K : Value → World → Prop) : Prop :=
 Calls Try.prog 34 #[(.pointer (some ⟨b1, 0, none⟩))] w fun e1 w1 => ∃ (n1 : Int),
 e1 = .returned (.int .i64 n1) ∧
 cond (n1 != (0 : Int))
 (K (.int .i64 n1) w1)
 (Calls Try.prog 35 #[(.pointer (some ⟨b1, 0, none⟩))] w1 fun e2 w2 => ∃ (v1 : Value),
  e2 = .returned v1 ∧
  Calls Try.prog 36 #[v1, (.iface 26 (.int .i64 (19 : Int)))] w2 fun e3 w3 => ∃ (b2 : Bool),
  e3 = .returned (.bool b2) ∧
  cond b2
  (K (.int .i64 (19 : Int)) w3)
  (∃ (a1 : Option Addr) (l1 c1 : Nat),
   w3.cell? ⟨b1, 1, none⟩ = some (.slice a1 l1 c1) ∧
   stK w3 ⟨b1, 2, none⟩ (.int .i64 ((l1 : Nat) : Int)) fun w4 =>
   K (.int .i64 (0 : Int)) w4))
def mSync_ann : List (Nat × Live) := []
theorem mSync_ok {b1 : Nat} {w : World} {K : Value → World → Prop} (h : mSync b1 w K) : Calls Try.prog 16 #[(.pointer (some ⟨b1, 0, none⟩))] w fun e w' => ∃ v, e = .returned v ∧ K v w' :=
  calls_sh (annL mSync_ann) Try.func16 (by kernel_rfl) (args := [(.pointer (some ⟨b1, 0, none⟩))]) (by kernel_rfl) h

-- (*saleroom/media.Medium).cut
def mcut (b1 : Nat) (n1 : Int) (w : World) (K : Value → World → Prop) : Prop :=
 rnS Try.prog (Instr.makeSlice 52 (.int .i64 n1) (.int .i64 n1)) w fun e1 w1 => ∃ (a1 : Option Addr) (l1 c1 : Nat),
 e1 = (.slice a1 l1 c1) ∧
 ∃ (a2 : Option Addr) (l2 c2 : Nat),
 w1.cell? ⟨b1, 1, none⟩ = some (.slice a2 l2 c2) ∧
 rnS Try.prog (Builtin.copy_ #[52, 52] 3 #[(.slice a1 l1 c1), (.slice a2 l2 c2)]) w1 fun _e1 w2 =>
 ∃ (n2 : Int),
 w2.cell? ⟨b1, 2, none⟩ = some (.int .i64 n2) ∧
 stK w2 ⟨b1, 1, none⟩ (.slice a1 l1 c1) fun w3 =>
 stK w3 ⟨b1, 2, none⟩ (.int .i64 (if n1 < n2 then n1 else n2)) fun w4 =>
 K (.tuple #[]) w4
def mcut_ann : List (Nat × Live) := []
theorem mcut_ok {b1 : Nat} {n1 : Int} {w : World} {K : Value → World → Prop} (h : mcut b1 n1 w K) : Calls Try.prog 37 #[(.pointer (some ⟨b1, 0, none⟩)), (.int .i64 n1)] w fun e w' => ∃ v, e = .returned v ∧ K v w' :=
  calls_sh (annL mcut_ann) Try.func37 (by kernel_rfl) (args := [(.pointer (some ⟨b1, 0, none⟩)), (.int .i64 n1)]) (by kernel_rfl) h

-- (*saleroom/media.Medium).Truncate
def mTruncate (b1 : Nat) (n1 : Int) (w : World) (K : Value → World → Prop) : Prop :=
 Calls Try.prog 34 #[(.pointer (some ⟨b1, 0, none⟩))] w fun e1 w1 => ∃ (n2 : Int),
 e1 = .returned (.int .i64 n2) ∧
 cond (n2 != (0 : Int))
 (K (.int .i64 n2) w1)
 (∃ J1 : Bool → World → Prop, (∀ (w2 : World) (b2 : Bool), J1 b2 w2 → ∀ _ : Nat → Value,
   cond b2
   (K (.int .i64 (4 : Int)) w2)
   (Calls Try.prog 35 #[(.pointer (some ⟨b1, 0, none⟩))] w2 fun e2 w3 => ∃ (v1 : Value),
    e2 = .returned v1 ∧
    Calls Try.prog 36 #[v1, (.iface 26 (.int .i64 (19 : Int)))] w3 fun e3 w4 => ∃ (b3 : Bool),
    e3 = .returned (.bool b3) ∧
    cond b3
    (K (.int .i64 (19 : Int)) w4)
    (Calls Try.prog 37 #[(.pointer (some ⟨b1, 0, none⟩)), (.int .i64 n1)] w4 fun e4 w5 => e4 = .returned (.tuple #[]) ∧
     K (.int .i64 (0 : Int)) w5))) ∧
  cond (decide (n1 < (0 : Int)))
  (J1 true w1)
  (∃ (a1 : Option Addr) (l1 c1 : Nat),
   w1.cell? ⟨b1, 1, none⟩ = some (.slice a1 l1 c1) ∧
   J1 (decide (n1 > ((l1 : Nat) : Int))) w1))
def mTruncate_ann : List (Nat × Live) := [(14, [(22, .s (.bool))])]
theorem mTruncate_ok {b1 : Nat} {n1 : Int} {w : World} {K : Value → World → Prop} (h : mTruncate b1 n1 w K) : Calls Try.prog 23 #[(.pointer (some ⟨b1, 0, none⟩)), (.int .i64 n1)] w fun e w' => ∃ v, e = .returned v ∧ K v w' :=
  calls_sh (annL mTruncate_ann) Try.func23 (by kernel_rfl) (args := [(.pointer (some ⟨b1, 0, none⟩)), (.int .i64 n1)]) (by kernel_rfl) h

-- (*saleroom/media.Medium).Read
def mRead (b1 : Nat) (w : World) (K : Value → World → Prop) : Prop :=
 Calls Try.prog 34 #[(.pointer (some ⟨b1, 0, none⟩))] w fun e1 w1 => ∃ (n1 : Int),
 e1 = .returned (.int .i64 n1) ∧
 cond (n1 != (0 : Int))
 (K (.tuple #[(.string (bs [])), (.int .i64 n1)]) w1)
 (∃ (a1 : Option Addr) (l1 c1 : Nat),
  w1.cell? ⟨b1, 1, none⟩ = some (.slice a1 l1 c1) ∧
  rnS Try.prog (convert 52 9 (.slice a1 l1 c1)) w1 fun e2 w2 => ∃ (s1 : ByteArray),
  e2 = (.string s1) ∧
  K (.tuple #[(.string s1), (.int .i64 (0 : Int))]) w2)
def mRead_ann : List (Nat × Live) := []
theorem mRead_ok {b1 : Nat} {w : World} {K : Value → World → Prop} (h : mRead b1 w K) : Calls Try.prog 18 #[(.pointer (some ⟨b1, 0, none⟩))] w fun e w' => ∃ v, e = .returned v ∧ K v w' :=
  calls_sh (annL mRead_ann) Try.func18 (by kernel_rfl) (args := [(.pointer (some ⟨b1, 0, none⟩))]) (by kernel_rfl) h

-- (*saleroom/media.Medium).Size
def mSize (b1 : Nat) (w : World) (K : Value → World → Prop) : Prop :=
 ∃ (a1 : Option Addr) (l1 c1 : Nat),
 w.cell? ⟨b1, 1, none⟩ = some (.slice a1 l1 c1) ∧
 K (.int .i64 ((l1 : Nat) : Int)) w
def mSize_ann : List (Nat × Live) := []
theorem mSize_ok {b1 : Nat} {w : World} {K : Value → World → Prop} (h : mSize b1 w K) : Calls Try.prog 14 #[(.pointer (some ⟨b1, 0, none⟩))] w fun e w' => ∃ v, e = .returned v ∧ K v w' :=
  calls_sh (annL mSize_ann) Try.func14 (by kernel_rfl) (args := [(.pointer (some ⟨b1, 0, none⟩))]) (by kernel_rfl) h

-- (*saleroom/media.Medium).Durable
def mDurable (b1 : Nat) (w : World) (K : Value → World → Prop) : Prop :=
 ∃ (n1 : Int),
 w.cell? ⟨b1, 2, none⟩ = some (.int .i64 n1) ∧
 K (.int .i64 n1) w
def mDurable_ann : List (Nat × Live) := []
theorem mDurable_ok {b1 : Nat} {w : World} {K : Value → World → Prop} (h : mDurable b1 w K) : Calls Try.prog 20 #[(.pointer (some ⟨b1, 0, none⟩))] w fun e w' => ∃ v, e = .returned v ∧ K v w' :=
  calls_sh (annL mDurable_ann) Try.func20 (by kernel_rfl) (args := [(.pointer (some ⟨b1, 0, none⟩))]) (by kernel_rfl) h

-- (*saleroom/media.Medium).Crash
def mCrash (b1 : Nat) (n1 : Int) (w : World) (K : Value → World → Prop) : Prop :=
 ∃ (n2 : Int),
 w.drew.cell? ⟨b1, 2, none⟩ = some (.int .i64 n2) ∧
 ∃ (a1 : Option Addr) (l1 c1 : Nat),
 w.drew.cell? ⟨b1, 1, none⟩ = some (.slice a1 l1 c1) ∧
 ∃ (n3 : Int),
 w.drew.cell? ⟨b1, 2, none⟩ = some (.int .i64 n3) ∧
 Calls Try.prog 37 #[(.pointer (some ⟨b1, 0, none⟩)), (.int .i64 (IntKind.i64.wrap (n2 + (if (IntKind.i64.wrap (((l1 : Nat) : Int) - n3)) < (if (0 : Int) > n1 then (0 : Int) else n1) then (IntKind.i64.wrap (((l1 : Nat) : Int) - n3)) else (if (0 : Int) > n1 then (0 : Int) else n1)))))] w.drew fun e1 w1 => e1 = .returned (.tuple #[]) ∧
 ∃ (a2 : Option Addr) (l2 c2 : Nat),
 w1.cell? ⟨b1, 1, none⟩ = some (.slice a2 l2 c2) ∧
 stK w1 ⟨b1, 2, none⟩ (.int .i64 ((l2 : Nat) : Int)) fun w2 =>
 stK w2 ⟨b1, 3, none⟩ (.bool false) fun w3 =>
 stK w3 ⟨b1, 4, none⟩ (.bool false) fun w4 =>
 stK w4 ⟨b1, 5, none⟩ (.int .i64 (0 : Int)) fun w5 =>
 K (.tuple #[]) w5
def mCrash_ann : List (Nat × Live) := []
theorem mCrash_ok {b1 : Nat} {n1 : Int} {w : World} {K : Value → World → Prop} (h : mCrash b1 n1 w K) : Calls Try.prog 17 #[(.pointer (some ⟨b1, 0, none⟩)), (.int .i64 n1)] w fun e w' => ∃ v, e = .returned v ∧ K v w' :=
  calls_sh (annL mCrash_ann) Try.func17 (by kernel_rfl) (args := [(.pointer (some ⟨b1, 0, none⟩)), (.int .i64 n1)]) (by kernel_rfl) h

-- (*saleroom/media.Medium).Arm
def mArm (b1 : Nat) (n1 : Int) (w : World) (K : Value → World → Prop) : Prop :=
 Calls Try.prog 34 #[(.pointer (some ⟨b1, 0, none⟩))] w fun e1 w1 => ∃ (n2 : Int),
 e1 = .returned (.int .i64 n2) ∧
 cond (n2 == (0 : Int))
 (stK w1 ⟨b1, 4, none⟩ (.bool (decide (n1 ≥ (0 : Int)))) fun w2 =>
  stK w2 ⟨b1, 5, none⟩ (.int .i64 (if (0 : Int) > n1 then (0 : Int) else n1)) fun w3 =>
  K (.tuple #[]) w3)
 (K (.tuple #[]) w1)
def mArm_ann : List (Nat × Live) := []
theorem mArm_ok {b1 : Nat} {n1 : Int} {w : World} {K : Value → World → Prop} (h : mArm b1 n1 w K) : Calls Try.prog 19 #[(.pointer (some ⟨b1, 0, none⟩)), (.int .i64 n1)] w fun e w' => ∃ v, e = .returned v ∧ K v w' :=
  calls_sh (annL mArm_ann) Try.func19 (by kernel_rfl) (args := [(.pointer (some ⟨b1, 0, none⟩)), (.int .i64 n1)]) (by kernel_rfl) h

-- (*saleroom/media.Medium).Flip
def mFlip (b1 : Nat) (n1 : Int) (n2 : Int) (w : World) (K : Value → World → Prop) : Prop :=
 ∃ J1 : Bool → World → Prop, (∀ (w1 : World) (b2 : Bool), J1 b2 w1 → ∀ _ : Nat → Value,
  cond b2
  (K (.int .i64 (4 : Int)) w1)
  (∃ (a1 : Option Addr) (l1 c1 : Nat),
   w1.cell? ⟨b1, 1, none⟩ = some (.slice a1 l1 c1) ∧
   onSome a1 fun q1 =>
   0 ≤ n1 ∧ n1 < ((l1 : Nat) : Int) ∧
   ∃ (n3 : Int),
   w1.cell? (Addr.add q1 ((n1).toNat * 1)) = some (.int .u8 n3) ∧
   onSome a1 fun q2 =>
   0 ≤ n1 ∧ n1 < ((l1 : Nat) : Int) ∧
   stK w1 (Addr.add q2 ((n1).toNat * 1)) (.int .u8 (xorI .u8 n3 n2)) fun w2 =>
   K (.int .i64 (0 : Int)) w2)) ∧
 cond (decide (n1 < (0 : Int)))
 (J1 true w)
 (∃ (a2 : Option Addr) (l2 c2 : Nat),
  w.cell? ⟨b1, 1, none⟩ = some (.slice a2 l2 c2) ∧
  J1 (decide (n1 ≥ ((l2 : Nat) : Int))) w)
def mFlip_ann : List (Nat × Live) := [(51, [(10, .s (.bool))])]
theorem mFlip_ok {b1 : Nat} {n1 : Int} {n2 : Int} {w : World} {K : Value → World → Prop} (h : mFlip b1 n1 n2 w K) : Calls Try.prog 24 #[(.pointer (some ⟨b1, 0, none⟩)), (.int .i64 n1), (.int .u8 n2)] w fun e w' => ∃ v, e = .returned v ∧ K v w' :=
  calls_sh (annL mFlip_ann) Try.func24 (by kernel_rfl) (args := [(.pointer (some ⟨b1, 0, none⟩)), (.int .i64 n1), (.int .u8 n2)]) (by kernel_rfl) h

-- (*saleroom/media.Medium).Copy
def mCopy (b1 : Nat) (w : World) (K : Value → World → Prop) : Prop :=
 ∃ (n1 : Int) (a1 : Option Addr) (l1 c1 : Nat) (n2 : Int) (b2 : Bool) (b3 : Bool) (n3 : Int),
 cellsAt w ⟨b1, 0, none⟩ 0 [(.int .i64 n1), (.slice a1 l1 c1), (.int .i64 n2), (.bool b2), (.bool b3), (.int .i64 n3)] ∧
 newK w (.cells #[(.int .i64 (0 : Int)), (.slice none 0 0), (.int .i64 (0 : Int)), (.bool false), (.bool false), (.int .i64 (0 : Int))] 54) fun r1 w1 =>
 stL ⟨r1, 0, none⟩ 0 [(.int .i64 n1), (.slice a1 l1 c1), (.int .i64 n2), (.bool b2), (.bool b3), (.int .i64 n3)] w1 fun w2 =>
 ∃ (a2 : Option Addr) (l2 c2 : Nat),
 w2.cell? ⟨b1, 1, none⟩ = some (.slice a2 l2 c2) ∧
 rnS Try.prog (Instr.makeSlice 52 (.int .i64 ((l2 : Nat) : Int)) (.int .i64 ((l2 : Nat) : Int))) w2 fun e1 w3 => ∃ (a3 : Option Addr) (l3 c3 : Nat),
 e1 = (.slice a3 l3 c3) ∧
 stK w3 ⟨r1, 1, none⟩ (.slice a3 l3 c3) fun w4 =>
 ∃ (a4 : Option Addr) (l4 c4 : Nat),
 w4.drew.cell? ⟨r1, 1, none⟩ = some (.slice a4 l4 c4) ∧
 ∃ (a5 : Option Addr) (l5 c5 : Nat),
 w4.drew.cell? ⟨b1, 1, none⟩ = some (.slice a5 l5 c5) ∧
 rnS Try.prog (Builtin.copy_ #[52, 52] 3 #[(.slice a4 l4 c4), (.slice a5 l5 c5)]) w4.drew fun _e1 w5 =>
 K (.pointer (some ⟨r1, 0, none⟩)) w5
def mCopy_ann : List (Nat × Live) := []
theorem mCopy_ok {b1 : Nat} {w : World} {K : Value → World → Prop} (h : mCopy b1 w K) : Calls Try.prog 21 #[(.pointer (some ⟨b1, 0, none⟩))] w fun e w' => ∃ v, e = .returned v ∧ K v w' :=
  calls_sh (annL mCopy_ann) Try.func21 (by kernel_rfl) (args := [(.pointer (some ⟨b1, 0, none⟩))]) (by kernel_rfl) h

-- (*saleroom/media.Medium).state
def mstateN  (w : World) (K : Value → World → Prop) : Prop :=
 K (.int .i64 (6 : Int)) w
def mstateN_ann : List (Nat × Live) := []
theorem mstateN_ok {w : World} {K : Value → World → Prop} (h : mstateN w K) : Calls Try.prog 34 #[(.pointer none)] w fun e w' => ∃ v, e = .returned v ∧ K v w' :=
  calls_sh (annL mstateN_ann) Try.func34 (by kernel_rfl) (args := [(.pointer none)]) (by kernel_rfl) h

-- (*saleroom/media.Medium).Append
def mAppendN (s1 : ByteArray) (w : World) (K : Value → World → Prop) : Prop :=
 Calls Try.prog 34 #[(.pointer none)] w fun e1 w1 => ∃ (n1 : Int),
 e1 = .returned (.int .i64 n1) ∧
 cond (n1 != (0 : Int))
 (K (.int .i64 n1) w1)
 (False)
def mAppendN_ann : List (Nat × Live) := []
theorem mAppendN_ok {s1 : ByteArray} {w : World} {K : Value → World → Prop} (h : mAppendN s1 w K) : Calls Try.prog 15 #[(.pointer none), (.string s1)] w fun e w' => ∃ v, e = .returned v ∧ K v w' :=
  calls_sh (annL mAppendN_ann) Try.func15 (by kernel_rfl) (args := [(.pointer none), (.string s1)]) (by kernel_rfl) h

-- (*saleroom/media.Medium).Sync
def mSyncN  (w : World) (K : Value → World → Prop) : Prop :=
 Calls Try.prog 34 #[(.pointer none)] w fun e1 w1 => ∃ (n1 : Int),
 e1 = .returned (.int .i64 n1) ∧
 cond (n1 != (0 : Int))
 (K (.int .i64 n1) w1)
 (Calls Try.prog 35 #[(.pointer none)] w1 fun e2 w2 => ∃ (v1 : Value),
  e2 = .returned v1 ∧
  Calls Try.prog 36 #[v1, (.iface 26 (.int .i64 (19 : Int)))] w2 fun e3 w3 => ∃ (b1 : Bool),
  e3 = .returned (.bool b1) ∧
  cond b1
  (K (.int .i64 (19 : Int)) w3)
  (False))
def mSyncN_ann : List (Nat × Live) := []
theorem mSyncN_ok {w : World} {K : Value → World → Prop} (h : mSyncN w K) : Calls Try.prog 16 #[(.pointer none)] w fun e w' => ∃ v, e = .returned v ∧ K v w' :=
  calls_sh (annL mSyncN_ann) Try.func16 (by kernel_rfl) (args := [(.pointer none)]) (by kernel_rfl) h

-- (*saleroom/media.Medium).Truncate
def mTruncateN (n1 : Int) (w : World) (K : Value → World → Prop) : Prop :=
 Calls Try.prog 34 #[(.pointer none)] w fun e1 w1 => ∃ (n2 : Int),
 e1 = .returned (.int .i64 n2) ∧
 cond (n2 != (0 : Int))
 (K (.int .i64 n2) w1)
 (∃ J1 : Bool → World → Prop, (∀ (w2 : World) (b1 : Bool), J1 b1 w2 → ∀ _ : Nat → Value,
   cond b1
   (K (.int .i64 (4 : Int)) w2)
   (Calls Try.prog 35 #[(.pointer none)] w2 fun e2 w3 => ∃ (v1 : Value),
    e2 = .returned v1 ∧
    Calls Try.prog 36 #[v1, (.iface 26 (.int .i64 (19 : Int)))] w3 fun e3 w4 => ∃ (b2 : Bool),
    e3 = .returned (.bool b2) ∧
    cond b2
    (K (.int .i64 (19 : Int)) w4)
    (Calls Try.prog 37 #[(.pointer none), (.int .i64 n1)] w4 fun e4 w5 => e4 = .returned (.tuple #[]) ∧
     K (.int .i64 (0 : Int)) w5))) ∧
  cond (decide (n1 < (0 : Int)))
  (J1 true w1)
  (False))
def mTruncateN_ann : List (Nat × Live) := [(14, [(22, .s (.bool))])]
theorem mTruncateN_ok {n1 : Int} {w : World} {K : Value → World → Prop} (h : mTruncateN n1 w K) : Calls Try.prog 23 #[(.pointer none), (.int .i64 n1)] w fun e w' => ∃ v, e = .returned v ∧ K v w' :=
  calls_sh (annL mTruncateN_ann) Try.func23 (by kernel_rfl) (args := [(.pointer none), (.int .i64 n1)]) (by kernel_rfl) h

-- (*saleroom/media.Medium).Read
def mReadN  (w : World) (K : Value → World → Prop) : Prop :=
 Calls Try.prog 34 #[(.pointer none)] w fun e1 w1 => ∃ (n1 : Int),
 e1 = .returned (.int .i64 n1) ∧
 cond (n1 != (0 : Int))
 (K (.tuple #[(.string (bs [])), (.int .i64 n1)]) w1)
 (False)
def mReadN_ann : List (Nat × Live) := []
theorem mReadN_ok {w : World} {K : Value → World → Prop} (h : mReadN w K) : Calls Try.prog 18 #[(.pointer none)] w fun e w' => ∃ v, e = .returned v ∧ K v w' :=
  calls_sh (annL mReadN_ann) Try.func18 (by kernel_rfl) (args := [(.pointer none)]) (by kernel_rfl) h

-- (*saleroom/media.Medium).Size
def mSizeN  (w : World) (K : Value → World → Prop) : Prop :=
 K (.int .i64 (0 : Int)) w
def mSizeN_ann : List (Nat × Live) := []
theorem mSizeN_ok {w : World} {K : Value → World → Prop} (h : mSizeN w K) : Calls Try.prog 14 #[(.pointer none)] w fun e w' => ∃ v, e = .returned v ∧ K v w' :=
  calls_sh (annL mSizeN_ann) Try.func14 (by kernel_rfl) (args := [(.pointer none)]) (by kernel_rfl) h

-- (*saleroom/media.Medium).Durable
def mDurableN  (w : World) (K : Value → World → Prop) : Prop :=
 K (.int .i64 (0 : Int)) w
def mDurableN_ann : List (Nat × Live) := []
theorem mDurableN_ok {w : World} {K : Value → World → Prop} (h : mDurableN w K) : Calls Try.prog 20 #[(.pointer none)] w fun e w' => ∃ v, e = .returned v ∧ K v w' :=
  calls_sh (annL mDurableN_ann) Try.func20 (by kernel_rfl) (args := [(.pointer none)]) (by kernel_rfl) h

-- (*saleroom/media.Medium).Crash
def mCrashN (n1 : Int) (w : World) (K : Value → World → Prop) : Prop :=
 K (.tuple #[]) w
def mCrashN_ann : List (Nat × Live) := []
theorem mCrashN_ok {n1 : Int} {w : World} {K : Value → World → Prop} (h : mCrashN n1 w K) : Calls Try.prog 17 #[(.pointer none), (.int .i64 n1)] w fun e w' => ∃ v, e = .returned v ∧ K v w' :=
  calls_sh (annL mCrashN_ann) Try.func17 (by kernel_rfl) (args := [(.pointer none), (.int .i64 n1)]) (by kernel_rfl) h

-- (*saleroom/media.Medium).Arm
def mArmN (n1 : Int) (w : World) (K : Value → World → Prop) : Prop :=
 Calls Try.prog 34 #[(.pointer none)] w fun e1 w1 => ∃ (n2 : Int),
 e1 = .returned (.int .i64 n2) ∧
 cond (n2 == (0 : Int))
 (False)
 (K (.tuple #[]) w1)
def mArmN_ann : List (Nat × Live) := []
theorem mArmN_ok {n1 : Int} {w : World} {K : Value → World → Prop} (h : mArmN n1 w K) : Calls Try.prog 19 #[(.pointer none), (.int .i64 n1)] w fun e w' => ∃ v, e = .returned v ∧ K v w' :=
  calls_sh (annL mArmN_ann) Try.func19 (by kernel_rfl) (args := [(.pointer none), (.int .i64 n1)]) (by kernel_rfl) h

-- (*saleroom/media.Medium).Flip
def mFlipN (n1 : Int) (n2 : Int) (w : World) (K : Value → World → Prop) : Prop :=
 K (.int .i64 (6 : Int)) w
def mFlipN_ann : List (Nat × Live) := []
theorem mFlipN_ok {n1 : Int} {n2 : Int} {w : World} {K : Value → World → Prop} (h : mFlipN n1 n2 w K) : Calls Try.prog 24 #[(.pointer none), (.int .i64 n1), (.int .u8 n2)] w fun e w' => ∃ v, e = .returned v ∧ K v w' :=
  calls_sh (annL mFlipN_ann) Try.func24 (by kernel_rfl) (args := [(.pointer none), (.int .i64 n1), (.int .u8 n2)]) (by kernel_rfl) h

-- (*saleroom/media.Medium).Copy
def mCopyN  (w : World) (K : Value → World → Prop) : Prop :=
 K (.pointer none) w
def mCopyN_ann : List (Nat × Live) := []
theorem mCopyN_ok {w : World} {K : Value → World → Prop} (h : mCopyN w K) : Calls Try.prog 21 #[(.pointer none)] w fun e w' => ∃ v, e = .returned v ∧ K v w' :=
  calls_sh (annL mCopyN_ann) Try.func21 (by kernel_rfl) (args := [(.pointer none)]) (by kernel_rfl) h

-- (*saleroom/saleroomref41.Medium).step
def rstep (b1 : Nat) (w : World) (K : Value → World → Prop) : Prop :=
 ∃ (n1 : Int),
 w.cell? ⟨b1, 3, none⟩ = some (.int .i64 n1) ∧
 cond (n1 == (0 : Int))
 (stK w ⟨b1, 4, none⟩ (.bool true) fun w1 =>
  K (.bool false) w1)
 (∃ J1 : World → Prop, (∀ (w2 : World), J1 w2 → ∀ _ : Nat → Value,
   K (.bool true) w2) ∧
  ∃ (n2 : Int),
  w.cell? ⟨b1, 3, none⟩ = some (.int .i64 n2) ∧
  cond (decide (n2 > (0 : Int)))
  (∃ (n3 : Int),
   w.cell? ⟨b1, 3, none⟩ = some (.int .i64 n3) ∧
   stK w ⟨b1, 3, none⟩ (.int .i64 (IntKind.i64.wrap (n3 - (1 : Int)))) fun w3 =>
   J1 w3)
  (J1 w))
def rstep_ann : List (Nat × Live) := [(7, [])]
theorem rstep_ok {b1 : Nat} {w : World} {K : Value → World → Prop} (h : rstep b1 w K) : Calls Try.prog 38 #[(.pointer (some ⟨b1, 0, none⟩))] w fun e w' => ∃ v, e = .returned v ∧ K v w' :=
  calls_sh (annL rstep_ann) Try.func38 (by kernel_rfl) (args := [(.pointer (some ⟨b1, 0, none⟩))]) (by kernel_rfl) h

-- (*saleroom/saleroomref41.Medium).Append
def rAppend (b1 : Nat) (s1 : ByteArray) (w : World) (K : Value → World → Prop) : Prop :=
 ∃ (b2 : Bool),
 w.cell? ⟨b1, 4, none⟩ = some (.bool b2) ∧
 cond b2
 (K (.int .i64 (19 : Int)) w)
 (∃ (n1 : Int),
  w.drew.cell? ⟨b1, 0, none⟩ = some (.int .i64 n1) ∧
  ∃ (s2 : ByteArray),
  w.drew.cell? ⟨b1, 1, none⟩ = some (.string s2) ∧
  cond (decide (((s1.size : Nat) : Int) > (IntKind.i64.wrap (n1 - ((s2.size : Nat) : Int)))))
  (K (.int .i64 (18 : Int)) w.drew)
  (∃ I1 : Int → World → Nat → Prop, (∃ m1, I1 (0 : Int) w.drew m1) ∧
   ∀ (w1 : World) (m1 : Nat) (n2 : Int), I1 n2 w1 m1 → ∀ _ : Nat → Value,
   cond (decide (n2 < ((s1.size : Nat) : Int)))
   (Calls Try.prog 38 #[(.pointer (some ⟨b1, 0, none⟩))] w1 fun e1 w2 => ∃ (b3 : Bool),
    e1 = .returned (.bool b3) ∧
    cond (!b3)
    (K (.int .i64 (19 : Int)) w2)
    (∃ (s3 : ByteArray),
     w2.drew.cell? ⟨b1, 1, none⟩ = some (.string s3) ∧
     0 ≤ (IntKind.i64.wrap (n2 + (1 : Int))) ∧ (IntKind.i64.wrap (n2 + (1 : Int))) ≤ ((s1.size : Nat) : Int) ∧
     0 ≤ n2 ∧ n2 ≤ ((((IntKind.i64.wrap (n2 + (1 : Int)))).toNat : Nat) : Int) ∧
     ((s3.size + (s1.extract ((n2).toNat) (((IntKind.i64.wrap (n2 + (1 : Int)))).toNat)).size : Nat) : Int) ≤ IntKind.i64.max ∧ stK w2.drew ⟨b1, 1, none⟩ (.string (s3 ++ (s1.extract ((n2).toNat) (((IntKind.i64.wrap (n2 + (1 : Int)))).toNat)))) fun w3 =>
     ∃ m2, m2 < m1 ∧ I1 (IntKind.i64.wrap (n2 + (1 : Int))) w3 m2))
   (K (.int .i64 (0 : Int)) w1)))
def rAppend_ann : List (Nat × Live) := [(122, [(5, .s (.int .i64))])]
theorem rAppend_ok {b1 : Nat} {s1 : ByteArray} {w : World} {K : Value → World → Prop} (h : rAppend b1 s1 w K) : Calls Try.prog 25 #[(.pointer (some ⟨b1, 0, none⟩)), (.string s1)] w fun e w' => ∃ v, e = .returned v ∧ K v w' :=
  calls_sh (annL rAppend_ann) Try.func25 (by kernel_rfl) (args := [(.pointer (some ⟨b1, 0, none⟩)), (.string s1)]) (by kernel_rfl) h

-- (*saleroom/saleroomref41.Medium).Sync
def rSync (b1 : Nat) (w : World) (K : Value → World → Prop) : Prop :=
 ∃ J1 : Bool → World → Prop, (∀ (w1 : World) (b2 : Bool), J1 b2 w1 → ∀ _ : Nat → Value,
  cond b2
  (K (.int .i64 (19 : Int)) w1)
  (∃ (s1 : ByteArray),
   w1.cell? ⟨b1, 1, none⟩ = some (.string s1) ∧
   stK w1 ⟨b1, 2, none⟩ (.int .i64 ((s1.size : Nat) : Int)) fun w2 =>
   K (.int .i64 (0 : Int)) w2)) ∧
 ∃ (b3 : Bool),
 w.cell? ⟨b1, 4, none⟩ = some (.bool b3) ∧
 cond b3
 (J1 true w)
 (Calls Try.prog 38 #[(.pointer (some ⟨b1, 0, none⟩))] w fun e1 w3 => ∃ (b4 : Bool),
  e1 = .returned (.bool b4) ∧
  J1 (!b4) w3)
def rSync_ann : List (Nat × Live) := [(6, [(11, .s (.bool))])]
theorem rSync_ok {b1 : Nat} {w : World} {K : Value → World → Prop} (h : rSync b1 w K) : Calls Try.prog 26 #[(.pointer (some ⟨b1, 0, none⟩))] w fun e w' => ∃ v, e = .returned v ∧ K v w' :=
  calls_sh (annL rSync_ann) Try.func26 (by kernel_rfl) (args := [(.pointer (some ⟨b1, 0, none⟩))]) (by kernel_rfl) h

-- (*saleroom/saleroomref41.Medium).Truncate
def rTruncate (b1 : Nat) (n1 : Int) (w : World) (K : Value → World → Prop) : Prop :=
 ∃ (b2 : Bool),
 w.cell? ⟨b1, 4, none⟩ = some (.bool b2) ∧
 cond b2
 (K (.int .i64 (19 : Int)) w)
 (∃ J1 : Bool → World → Prop, (∀ (w1 : World) (b3 : Bool), J1 b3 w1 → ∀ _ : Nat → Value,
   cond b3
   (K (.int .i64 (4 : Int)) w1)
   (Calls Try.prog 38 #[(.pointer (some ⟨b1, 0, none⟩))] w1 fun e1 w2 => ∃ (b4 : Bool),
    e1 = .returned (.bool b4) ∧
    cond (!b4)
    (K (.int .i64 (19 : Int)) w2)
    (∃ (s1 : ByteArray),
     w2.cell? ⟨b1, 1, none⟩ = some (.string s1) ∧
     0 ≤ n1 ∧ n1 ≤ ((s1.size : Nat) : Int) ∧
     0 ≤ (0 : Int) ∧ (0 : Int) ≤ (((n1).toNat : Nat) : Int) ∧
     stK w2 ⟨b1, 1, none⟩ (.string (s1.extract (((0 : Int)).toNat) ((n1).toNat))) fun w3 =>
     ∃ (n2 : Int),
     w3.cell? ⟨b1, 2, none⟩ = some (.int .i64 n2) ∧
     stK w3 ⟨b1, 2, none⟩ (.int .i64 (if n1 < n2 then n1 else n2)) fun w4 =>
     K (.int .i64 (0 : Int)) w4))) ∧
  cond (decide (n1 < (0 : Int)))
  (J1 true w)
  (∃ (s2 : ByteArray),
   w.cell? ⟨b1, 1, none⟩ = some (.string s2) ∧
   J1 (decide (n1 > ((s2.size : Nat) : Int))) w))
def rTruncate_ann : List (Nat × Live) := [(14, [(19, .s (.bool))])]
theorem rTruncate_ok {b1 : Nat} {n1 : Int} {w : World} {K : Value → World → Prop} (h : rTruncate b1 n1 w K) : Calls Try.prog 27 #[(.pointer (some ⟨b1, 0, none⟩)), (.int .i64 n1)] w fun e w' => ∃ v, e = .returned v ∧ K v w' :=
  calls_sh (annL rTruncate_ann) Try.func27 (by kernel_rfl) (args := [(.pointer (some ⟨b1, 0, none⟩)), (.int .i64 n1)]) (by kernel_rfl) h

-- (*saleroom/saleroomref41.Medium).Read
def rRead (b1 : Nat) (w : World) (K : Value → World → Prop) : Prop :=
 ∃ (b2 : Bool),
 w.cell? ⟨b1, 4, none⟩ = some (.bool b2) ∧
 cond b2
 (K (.tuple #[(.string (bs [])), (.int .i64 (19 : Int))]) w)
 (∃ (s1 : ByteArray),
  w.cell? ⟨b1, 1, none⟩ = some (.string s1) ∧
  K (.tuple #[(.string s1), (.int .i64 (0 : Int))]) w)
def rRead_ann : List (Nat × Live) := []
theorem rRead_ok {b1 : Nat} {w : World} {K : Value → World → Prop} (h : rRead b1 w K) : Calls Try.prog 31 #[(.pointer (some ⟨b1, 0, none⟩))] w fun e w' => ∃ v, e = .returned v ∧ K v w' :=
  calls_sh (annL rRead_ann) Try.func31 (by kernel_rfl) (args := [(.pointer (some ⟨b1, 0, none⟩))]) (by kernel_rfl) h

-- (*saleroom/saleroomref41.Medium).Size
def rSize (b1 : Nat) (w : World) (K : Value → World → Prop) : Prop :=
 ∃ (s1 : ByteArray),
 w.cell? ⟨b1, 1, none⟩ = some (.string s1) ∧
 K (.int .i64 ((s1.size : Nat) : Int)) w
def rSize_ann : List (Nat × Live) := []
theorem rSize_ok {b1 : Nat} {w : World} {K : Value → World → Prop} (h : rSize b1 w K) : Calls Try.prog 32 #[(.pointer (some ⟨b1, 0, none⟩))] w fun e w' => ∃ v, e = .returned v ∧ K v w' :=
  calls_sh (annL rSize_ann) Try.func32 (by kernel_rfl) (args := [(.pointer (some ⟨b1, 0, none⟩))]) (by kernel_rfl) h

-- (*saleroom/saleroomref41.Medium).Durable
def rDurable (b1 : Nat) (w : World) (K : Value → World → Prop) : Prop :=
 ∃ (n1 : Int),
 w.cell? ⟨b1, 2, none⟩ = some (.int .i64 n1) ∧
 K (.int .i64 n1) w
def rDurable_ann : List (Nat × Live) := []
theorem rDurable_ok {b1 : Nat} {w : World} {K : Value → World → Prop} (h : rDurable b1 w K) : Calls Try.prog 33 #[(.pointer (some ⟨b1, 0, none⟩))] w fun e w' => ∃ v, e = .returned v ∧ K v w' :=
  calls_sh (annL rDurable_ann) Try.func33 (by kernel_rfl) (args := [(.pointer (some ⟨b1, 0, none⟩))]) (by kernel_rfl) h

-- (*saleroom/saleroomref41.Medium).Crash
def rCrash (b1 : Nat) (n1 : Int) (w : World) (K : Value → World → Prop) : Prop :=
 ∃ J1 : Int → World → Prop, (∀ (w1 : World) (n2 : Int), J1 n2 w1 → ∀ _ : Nat → Value,
  ∃ J2 : World → Prop, (∀ (w2 : World), J2 w2 → ∀ _ : Nat → Value,
   ∃ (s1 : ByteArray),
   w2.cell? ⟨b1, 1, none⟩ = some (.string s1) ∧
   stK w2 ⟨b1, 2, none⟩ (.int .i64 ((s1.size : Nat) : Int)) fun w3 =>
   stK w3 ⟨b1, 4, none⟩ (.bool false) fun w4 =>
   stK w4 ⟨b1, 3, none⟩ (.int .i64 (-1 : Int)) fun w5 =>
   K (.tuple #[]) w5) ∧
  ∃ (s2 : ByteArray),
  w1.drew.cell? ⟨b1, 1, none⟩ = some (.string s2) ∧
  ∃ (n3 : Int),
  w1.drew.cell? ⟨b1, 2, none⟩ = some (.int .i64 n3) ∧
  cond (decide (n2 < (IntKind.i64.wrap (((s2.size : Nat) : Int) - n3))))
  (∃ (s3 : ByteArray),
   w1.drew.drew.cell? ⟨b1, 1, none⟩ = some (.string s3) ∧
   ∃ (n4 : Int),
   w1.drew.drew.cell? ⟨b1, 2, none⟩ = some (.int .i64 n4) ∧
   0 ≤ (IntKind.i64.wrap (n4 + n2)) ∧ (IntKind.i64.wrap (n4 + n2)) ≤ ((s3.size : Nat) : Int) ∧
   0 ≤ (0 : Int) ∧ (0 : Int) ≤ ((((IntKind.i64.wrap (n4 + n2))).toNat : Nat) : Int) ∧
   stK w1.drew.drew ⟨b1, 1, none⟩ (.string (s3.extract (((0 : Int)).toNat) (((IntKind.i64.wrap (n4 + n2))).toNat))) fun w6 =>
   J2 w6)
  (J2 w1.drew)) ∧
 cond (decide (n1 < (0 : Int)))
 (J1 (0 : Int) w)
 (J1 n1 w)
def rCrash_ann : List (Nat × Live) := [(1, [(1, .s (.int .i64))]), (3, [])]
theorem rCrash_ok {b1 : Nat} {n1 : Int} {w : World} {K : Value → World → Prop} (h : rCrash b1 n1 w K) : Calls Try.prog 28 #[(.pointer (some ⟨b1, 0, none⟩)), (.int .i64 n1)] w fun e w' => ∃ v, e = .returned v ∧ K v w' :=
  calls_sh (annL rCrash_ann) Try.func28 (by kernel_rfl) (args := [(.pointer (some ⟨b1, 0, none⟩)), (.int .i64 n1)]) (by kernel_rfl) h

-- (*saleroom/saleroomref41.Medium).Arm
def rArm (b1 : Nat) (n1 : Int) (w : World) (K : Value → World → Prop) : Prop :=
 ∃ (b2 : Bool),
 w.cell? ⟨b1, 4, none⟩ = some (.bool b2) ∧
 cond b2
 (K (.tuple #[]) w)
 (stK w ⟨b1, 3, none⟩ (.int .i64 n1) fun w1 =>
  cond (decide (n1 < (0 : Int)))
  (stK w1 ⟨b1, 3, none⟩ (.int .i64 (-1 : Int)) fun w2 =>
   K (.tuple #[]) w2)
  (K (.tuple #[]) w1))
def rArm_ann : List (Nat × Live) := []
theorem rArm_ok {b1 : Nat} {n1 : Int} {w : World} {K : Value → World → Prop} (h : rArm b1 n1 w K) : Calls Try.prog 29 #[(.pointer (some ⟨b1, 0, none⟩)), (.int .i64 n1)] w fun e w' => ∃ v, e = .returned v ∧ K v w' :=
  calls_sh (annL rArm_ann) Try.func29 (by kernel_rfl) (args := [(.pointer (some ⟨b1, 0, none⟩)), (.int .i64 n1)]) (by kernel_rfl) h

-- (*saleroom/saleroomref41.Medium).Flip
def rFlip (b1 : Nat) (n1 : Int) (n2 : Int) (w : World) (K : Value → World → Prop) : Prop :=
 ∃ J1 : Bool → World → Prop, (∀ (w1 : World) (b2 : Bool), J1 b2 w1 → ∀ _ : Nat → Value,
  cond b2
  (K (.int .i64 (4 : Int)) w1)
  (∃ (s1 : ByteArray),
   w1.drew.cell? ⟨b1, 1, none⟩ = some (.string s1) ∧
   0 ≤ n1 ∧ n1 ≤ ((s1.size : Nat) : Int) ∧
   0 ≤ (0 : Int) ∧ (0 : Int) ≤ (((n1).toNat : Nat) : Int) ∧
   ∃ (s2 : ByteArray),
   w1.drew.cell? ⟨b1, 1, none⟩ = some (.string s2) ∧
   0 ≤ n1 ∧ onSome s2[(n1).toNat]? fun u1 =>
   ∃ (s3 : ByteArray),
   w1.drew.cell? ⟨b1, 1, none⟩ = some (.string s3) ∧
   0 ≤ (IntKind.i64.wrap (n1 + (1 : Int))) ∧ (IntKind.i64.wrap (n1 + (1 : Int))) ≤ ((s3.size : Nat) : Int) ∧
   newK w1.drew (.cells #[(.int .u8 (xorI .u8 (u1.toNat : Int) n2))] 5) fun r1 w2 =>
   w2.cell? ⟨b1, 1, none⟩ = some (.string s3) ∧
   w2.cell? ⟨b1, 1, none⟩ = some (.string s1) ∧
   rnS Try.prog (convert 52 9 (.slice (some ⟨r1, 0, none⟩) 1 1)) w2 fun e1 w3 => ∃ (s4 : ByteArray),
   e1 = (.string s4) ∧
   w3.cell? ⟨b1, 1, none⟩ = some (.string s3) ∧
   w3.cell? ⟨b1, 1, none⟩ = some (.string s1) ∧
   (((s1.extract (((0 : Int)).toNat) ((n1).toNat)).size + s4.size : Nat) : Int) ≤ IntKind.i64.max ∧ ((((s1.extract (((0 : Int)).toNat) ((n1).toNat)) ++ s4).size + (s3.extract (((IntKind.i64.wrap (n1 + (1 : Int)))).toNat) s3.size).size : Nat) : Int) ≤ IntKind.i64.max ∧ stK w3 ⟨b1, 1, none⟩ (.string (((s1.extract (((0 : Int)).toNat) ((n1).toNat)) ++ s4) ++ (s3.extract (((IntKind.i64.wrap (n1 + (1 : Int)))).toNat) s3.size))) fun w4 =>
   K (.int .i64 (0 : Int)) w4)) ∧
 cond (decide (n1 < (0 : Int)))
 (J1 true w)
 (∃ (s5 : ByteArray),
  w.cell? ⟨b1, 1, none⟩ = some (.string s5) ∧
  J1 (decide (n1 ≥ ((s5.size : Nat) : Int))) w)
def rFlip_ann : List (Nat × Live) := [(6, [(17, .s (.bool))])]
theorem rFlip_ok {b1 : Nat} {n1 : Int} {n2 : Int} {w : World} {K : Value → World → Prop} (h : rFlip b1 n1 n2 w K) : Calls Try.prog 30 #[(.pointer (some ⟨b1, 0, none⟩)), (.int .i64 n1), (.int .u8 n2)] w fun e w' => ∃ v, e = .returned v ∧ K v w' :=
  calls_sh (annL rFlip_ann) Try.func30 (by kernel_rfl) (args := [(.pointer (some ⟨b1, 0, none⟩)), (.int .i64 n1), (.int .u8 n2)]) (by kernel_rfl) h

-- (*saleroom/saleroomref41.Medium).Copy
def rCopy (b1 : Nat) (w : World) (K : Value → World → Prop) : Prop :=
 ∃ (n1 : Int) (s1 : ByteArray) (n2 : Int) (n3 : Int) (b2 : Bool),
 cellsAt w ⟨b1, 0, none⟩ 0 [(.int .i64 n1), (.string s1), (.int .i64 n2), (.int .i64 n3), (.bool b2)] ∧
 newK w (.cells #[(.int .i64 (0 : Int)), (.string (bs [])), (.int .i64 (0 : Int)), (.int .i64 (0 : Int)), (.bool false)] 56) fun r1 w1 =>
 stL ⟨r1, 0, none⟩ 0 [(.int .i64 n1), (.string s1), (.int .i64 n2), (.int .i64 n3), (.bool b2)] w1 fun w2 =>
 K (.pointer (some ⟨r1, 0, none⟩)) w2
def rCopy_ann : List (Nat × Live) := []
theorem rCopy_ok {b1 : Nat} {w : World} {K : Value → World → Prop} (h : rCopy b1 w K) : Calls Try.prog 22 #[(.pointer (some ⟨b1, 0, none⟩))] w fun e w' => ∃ v, e = .returned v ∧ K v w' :=
  calls_sh (annL rCopy_ann) Try.func22 (by kernel_rfl) (args := [(.pointer (some ⟨b1, 0, none⟩))]) (by kernel_rfl) h

-- saleroom/media.New
def mNew (n1 : Int) (w : World) (K : Value → World → Prop) : Prop :=
 ∃ J1 : Bool → World → Prop, (∀ (w1 : World) (b1 : Bool), J1 b1 w1 → ∀ _ : Nat → Value,
  cond b1
  (K (.tuple #[(.pointer none), (.int .i64 (4 : Int))]) w1)
  (newK w1 (.cells #[(.int .i64 n1), (.slice none 0 0), (.int .i64 (0 : Int)), (.bool false), (.bool false), (.int .i64 (0 : Int))] 54) fun r1 w2 =>
   K (.tuple #[(.pointer (some ⟨r1, 0, none⟩)), (.int .i64 (0 : Int))]) w2)) ∧
 cond (decide (n1 < (1 : Int)))
 (J1 true w)
 (J1 (decide (n1 > (262144 : Int))) w)
def mNew_ann : List (Nat × Live) := [(6, [(9, .s (.bool))])]
theorem mNew_ok {n1 : Int} {w : World} {K : Value → World → Prop} (h : mNew n1 w K) : Calls Try.prog 10 #[(.int .i64 n1)] w fun e w' => ∃ v, e = .returned v ∧ K v w' :=
  calls_sh (annL mNew_ann) Try.func10 (by kernel_rfl) (args := [(.int .i64 n1)]) (by kernel_rfl) h

-- saleroom/saleroomref41.New
def rNew (n1 : Int) (w : World) (K : Value → World → Prop) : Prop :=
 ∃ J1 : Bool → World → Prop, (∀ (w1 : World) (b1 : Bool), J1 b1 w1 → ∀ _ : Nat → Value,
  cond b1
  (K (.tuple #[(.pointer none), (.int .i64 (4 : Int))]) w1)
  (newK w1 (.cells #[(.int .i64 n1), (.string (bs [])), (.int .i64 (0 : Int)), (.int .i64 (-1 : Int)), (.bool false)] 56) fun r1 w2 =>
   K (.tuple #[(.pointer (some ⟨r1, 0, none⟩)), (.int .i64 (0 : Int))]) w2)) ∧
 cond (decide (n1 < (1 : Int)))
 (J1 true w)
 (J1 (decide (n1 > (262144 : Int))) w)
def rNew_ann : List (Nat × Live) := [(6, [(9, .s (.bool))])]
theorem rNew_ok {n1 : Int} {w : World} {K : Value → World → Prop} (h : rNew n1 w K) : Calls Try.prog 11 #[(.int .i64 n1)] w fun e w' => ∃ v, e = .returned v ∧ K v w' :=
  calls_sh (annL rNew_ann) Try.func11 (by kernel_rfl) (args := [(.int .i64 n1)]) (by kernel_rfl) h

-- saleroom/saleroomlaw41.few
def lfew (a1 : Option Addr) (l1 c1 : Nat) (w : World) (K : Value → World → Prop) : Prop :=
 cond (decide (((l1 : Nat) : Int) > (60 : Int)))
 (K (.bool false) w)
 (∃ I1 : Int → World → Nat → Prop, (∃ m1, I1 (0 : Int) w m1) ∧
  ∀ (w1 : World) (m1 : Nat) (n1 : Int), I1 n1 w1 m1 → ∀ _ : Nat → Value,
  cond (decide (n1 < ((l1 : Nat) : Int)))
  (onSome a1 fun q1 =>
   0 ≤ n1 ∧ n1 < ((l1 : Nat) : Int) ∧
   ∃ (s1 : ByteArray),
   w1.cell? (Addr.add (Addr.add q1 ((n1).toNat * 4)) 2) = some (.string s1) ∧
   cond (decide (((s1.size : Nat) : Int) > (200 : Int)))
   (K (.bool false) w1)
   (∃ m2, m2 < m1 ∧ I1 (IntKind.i64.wrap (n1 + (1 : Int))) w1 m2))
  (K (.bool true) w1))
def lfew_ann : List (Nat × Live) := [(58, [(3, .s (.int .i64))])]
theorem lfew_ok {a1 : Option Addr} {l1 c1 : Nat} {w : World} {K : Value → World → Prop} (h : lfew a1 l1 c1 w K) : Calls Try.prog 8 #[(.slice a1 l1 c1)] w fun e w' => ∃ v, e = .returned v ∧ K v w' :=
  calls_sh (annL lfew_ann) Try.func8 (by kernel_rfl) (args := [(.slice a1 l1 c1)]) (by kernel_rfl) h

-- saleroom/saleroomlaw41.awake
def lawake  (w : World) (K : Value → World → Prop) : Prop :=
 Calls Try.prog 10 #[(.int .i64 (8 : Int))] w fun e1 w1 => ∃ (p1 : Option Addr) (n1 : Int),
 e1 = .returned (.tuple #[(.pointer p1), (.int .i64 n1)]) ∧
 Calls Try.prog 10 #[(.int .i64 (0 : Int))] w1 fun e2 w2 => ∃ (p2 : Option Addr) (n2 : Int),
 e2 = .returned (.tuple #[(.pointer p2), (.int .i64 n2)]) ∧
 Calls Try.prog 10 #[(.int .i64 (2 : Int))] w2 fun e3 w3 => ∃ (p3 : Option Addr) (n3 : Int),
 e3 = .returned (.tuple #[(.pointer p3), (.int .i64 n3)]) ∧
 ∃ J1 : Bool → World → Prop, (∀ (w4 : World) (b1 : Bool), J1 b1 w4 → ∀ _ : Nat → Value,
  cond b1
  (K (.bool false) w4)
  (∃ J2 : Bool → World → Prop, (∀ (w5 : World) (b2 : Bool), J2 b2 w5 → ∀ _ : Nat → Value,
    cond b2
    (K (.bool false) w5)
    (Calls Try.prog 17 #[(.pointer p1), (.int .i64 (1 : Int))] w5 fun e4 w6 => e4 = .returned (.tuple #[]) ∧
     Calls Try.prog 18 #[(.pointer p1)] w6 fun e5 w7 => ∃ (s1 : ByteArray) (n4 : Int),
     e5 = .returned (.tuple #[(.string s1), (.int .i64 n4)]) ∧
     Calls Try.prog 21 #[(.pointer p1)] w7 fun e6 w8 => ∃ (p4 : Option Addr),
     e6 = .returned (.pointer p4) ∧
     ∃ J3 : Bool → World → Prop, (∀ (w9 : World) (b3 : Bool), J3 b3 w9 → ∀ _ : Nat → Value,
      cond b3
      (K (.bool false) w9)
      (Calls Try.prog 19 #[(.pointer p1), (.int .i64 (2 : Int))] w9 fun e7 w10 => e7 = .returned (.tuple #[]) ∧
       ∃ J4 : Bool → World → Prop, (∀ (w11 : World) (b4 : Bool), J4 b4 w11 → ∀ _ : Nat → Value,
        cond b4
        (K (.bool false) w11)
        (Calls Try.prog 17 #[(.pointer p1), (.int .i64 (0 : Int))] w11 fun e8 w12 => e8 = .returned (.tuple #[]) ∧
         Calls Try.prog 18 #[(.pointer p1)] w12 fun e9 w13 => ∃ (s2 : ByteArray) (n5 : Int),
         e9 = .returned (.tuple #[(.string s2), (.int .i64 n5)]) ∧
         Calls Try.prog 18 #[(.pointer p4)] w13 fun e10 w14 => ∃ (s3 : ByteArray) (n6 : Int),
         e10 = .returned (.tuple #[(.string s3), (.int .i64 n6)]) ∧
         cond (s2.toList == (bs [96, 98, 99]).toList)
         (cond (n5 == (0 : Int))
          (cond (s3.toList == (bs [97, 98, 99]).toList)
           (cond (n6 == (0 : Int))
            (Calls Try.prog 23 #[(.pointer p4), (.int .i64 (1 : Int))] w14 fun e11 w15 => ∃ (n7 : Int),
             e11 = .returned (.int .i64 n7) ∧
             cond (n7 == (0 : Int))
             (Calls Try.prog 20 #[(.pointer p4)] w15 fun e12 w16 => ∃ (n8 : Int),
              e12 = .returned (.int .i64 n8) ∧
              cond (n8 == (1 : Int))
              (Calls Try.prog 23 #[(.pointer p4), (.int .i64 (2 : Int))] w16 fun e13 w17 => ∃ (n9 : Int),
               e13 = .returned (.int .i64 n9) ∧
               K (.bool (n9 == (4 : Int))) w17)
              (K (.bool false) w16))
             (K (.bool false) w15))
            (K (.bool false) w14))
           (K (.bool false) w14))
          (K (.bool false) w14))
         (K (.bool false) w14))) ∧
       Calls Try.prog 15 #[(.pointer p1), (.string (bs [120, 121, 122]))] w10 fun e14 w18 => ∃ (n10 : Int),
       e14 = .returned (.int .i64 n10) ∧
       cond (n10 != (19 : Int))
       (J4 true w18)
       (Calls Try.prog 14 #[(.pointer p1)] w18 fun e15 w19 => ∃ (n11 : Int),
        e15 = .returned (.int .i64 n11) ∧
        cond (n11 != (5 : Int))
        (J4 true w19)
        (Calls Try.prog 16 #[(.pointer p1)] w19 fun e16 w20 => ∃ (n12 : Int),
         e16 = .returned (.int .i64 n12) ∧
         cond (n12 != (19 : Int))
         (J4 true w20)
         (Calls Try.prog 24 #[(.pointer p1), (.int .i64 (0 : Int)), (.int .u8 (1 : Int))] w20 fun e17 w21 => ∃ (n13 : Int),
          e17 = .returned (.int .i64 n13) ∧
          J4 (n13 != (0 : Int)) w21))))) ∧
     cond (!(s1.toList == (bs [97, 98, 99]).toList))
     (J3 true w8)
     (cond (n4 != (0 : Int))
      (J3 true w8)
      (Calls Try.prog 20 #[(.pointer p1)] w8 fun e18 w22 => ∃ (n14 : Int),
       e18 = .returned (.int .i64 n14) ∧
       cond (n14 != (3 : Int))
       (J3 true w22)
       (J3 (p4).isNone w22))))) ∧
   Calls Try.prog 15 #[(.pointer p1), (.string (bs [97, 98]))] w4 fun e19 w23 => ∃ (n15 : Int),
   e19 = .returned (.int .i64 n15) ∧
   cond (n15 != (0 : Int))
   (J2 true w23)
   (Calls Try.prog 16 #[(.pointer p1)] w23 fun e20 w24 => ∃ (n16 : Int),
    e20 = .returned (.int .i64 n16) ∧
    cond (n16 != (0 : Int))
    (J2 true w24)
    (Calls Try.prog 15 #[(.pointer p1), (.string (bs [99, 100, 101]))] w24 fun e21 w25 => ∃ (n17 : Int),
     e21 = .returned (.int .i64 n17) ∧
     J2 (n17 != (0 : Int)) w25)))) ∧
 cond (n1 != (0 : Int))
 (J1 true w3)
 (cond (p1).isNone
  (J1 true w3)
  (cond (n2 != (4 : Int))
   (J1 true w3)
   (cond (n3 != (0 : Int))
    (J1 true w3)
    (cond (p3).isNone
     (J1 true w3)
     (Calls Try.prog 15 #[(.pointer p3), (.string (bs [97, 98, 99]))] w3 fun e22 w26 => ∃ (n18 : Int),
      e22 = .returned (.int .i64 n18) ∧
      cond (n18 != (18 : Int))
      (J1 true w26)
      (Calls Try.prog 14 #[(.pointer p3)] w26 fun e23 w27 => ∃ (n19 : Int),
       e23 = .returned (.int .i64 n19) ∧
       J1 (n19 != (0 : Int)) w27))))))
def lawake_ann : List (Nat × Live) := [(62, [(53, .s (.bool))]), (126, [(66, .s (.bool))]), (2046, [(90, .s (.bool))]), (8190, [(110, .s (.bool))])]
theorem lawake_ok {w : World} {K : Value → World → Prop} (h : lawake w K) : Calls Try.prog 9 #[] w fun e w' => ∃ v, e = .returned v ∧ K v w' :=
  calls_sh (annL lawake_ann) Try.func9 (by kernel_rfl) (args := []) (by kernel_rfl) h

-- saleroom/saleroomlaw41.do
def ldo (b1 : Nat) (b2 : Nat) (n1 : Int) (n2 : Int) (s1 : ByteArray) (n3 : Int) (w : World) (K : Value → World → Prop) : Prop :=
 newK w (.cells #[(.int .i64 n1), (.int .i64 n2), (.string s1), (.int .u8 n3)] 34) fun r1 w1 =>
 ∃ J1 : World → Prop, (∀ (w2 : World), J1 w2 → ∀ _ : Nat → Value,
  K (.bool true) w2) ∧
 ∃ (n4 : Int),
 w1.cell? ⟨r1, 0, none⟩ = some (.int .i64 n4) ∧
 cond (n4 == (0 : Int))
 (∃ (s2 : ByteArray),
  w1.drew.cell? ⟨r1, 2, none⟩ = some (.string s2) ∧
  ∃ (s3 : ByteArray),
  w1.drew.cell? ⟨r1, 2, none⟩ = some (.string s3) ∧
  Calls Try.prog 15 #[(.pointer (some ⟨b1, 0, none⟩)), (.string s2)] w1.drew fun e1 w3 => ∃ (n5 : Int),
  e1 = .returned (.int .i64 n5) ∧
  w3.cell? ⟨r1, 2, none⟩ = some (.string s3) ∧
  Calls Try.prog 25 #[(.pointer (some ⟨b2, 0, none⟩)), (.string s3)] w3 fun e2 w4 => ∃ (n6 : Int),
  e2 = .returned (.int .i64 n6) ∧
  K (.bool (n5 == n6)) w4)
 (cond (n4 == (1 : Int))
  (Calls Try.prog 16 #[(.pointer (some ⟨b1, 0, none⟩))] w1 fun e3 w5 => ∃ (n7 : Int),
   e3 = .returned (.int .i64 n7) ∧
   Calls Try.prog 26 #[(.pointer (some ⟨b2, 0, none⟩))] w5 fun e4 w6 => ∃ (n8 : Int),
   e4 = .returned (.int .i64 n8) ∧
   K (.bool (n7 == n8)) w6)
  (cond (n4 == (2 : Int))
   (∃ (n9 : Int),
    w1.drew.cell? ⟨r1, 1, none⟩ = some (.int .i64 n9) ∧
    ∃ (n10 : Int),
    w1.drew.cell? ⟨r1, 1, none⟩ = some (.int .i64 n10) ∧
    Calls Try.prog 23 #[(.pointer (some ⟨b1, 0, none⟩)), (.int .i64 n9)] w1.drew fun e5 w7 => ∃ (n11 : Int),
    e5 = .returned (.int .i64 n11) ∧
    w7.cell? ⟨r1, 1, none⟩ = some (.int .i64 n10) ∧
    Calls Try.prog 27 #[(.pointer (some ⟨b2, 0, none⟩)), (.int .i64 n10)] w7 fun e6 w8 => ∃ (n12 : Int),
    e6 = .returned (.int .i64 n12) ∧
    K (.bool (n11 == n12)) w8)
   (cond (n4 == (3 : Int))
    (∃ (n13 : Int),
     w1.cell? ⟨r1, 1, none⟩ = some (.int .i64 n13) ∧
     Calls Try.prog 17 #[(.pointer (some ⟨b1, 0, none⟩)), (.int .i64 n13)] w1 fun e7 w9 => e7 = .returned (.tuple #[]) ∧
     ∃ (n14 : Int),
     w9.cell? ⟨r1, 1, none⟩ = some (.int .i64 n14) ∧
     Calls Try.prog 28 #[(.pointer (some ⟨b2, 0, none⟩)), (.int .i64 n14)] w9 fun e8 w10 => e8 = .returned (.tuple #[]) ∧
     J1 w10)
    (cond (n4 == (4 : Int))
     (∃ (n15 : Int),
      w1.cell? ⟨r1, 1, none⟩ = some (.int .i64 n15) ∧
      Calls Try.prog 19 #[(.pointer (some ⟨b1, 0, none⟩)), (.int .i64 n15)] w1 fun e9 w11 => e9 = .returned (.tuple #[]) ∧
      ∃ (n16 : Int),
      w11.cell? ⟨r1, 1, none⟩ = some (.int .i64 n16) ∧
      Calls Try.prog 29 #[(.pointer (some ⟨b2, 0, none⟩)), (.int .i64 n16)] w11 fun e10 w12 => e10 = .returned (.tuple #[]) ∧
      J1 w12)
     (cond (n4 == (5 : Int))
      (∃ (n17 : Int),
       w1.drew.cell? ⟨r1, 1, none⟩ = some (.int .i64 n17) ∧
       ∃ (n18 : Int),
       w1.drew.cell? ⟨r1, 3, none⟩ = some (.int .u8 n18) ∧
       ∃ (n19 : Int),
       w1.drew.cell? ⟨r1, 1, none⟩ = some (.int .i64 n19) ∧
       ∃ (n20 : Int),
       w1.drew.cell? ⟨r1, 3, none⟩ = some (.int .u8 n20) ∧
       Calls Try.prog 24 #[(.pointer (some ⟨b1, 0, none⟩)), (.int .i64 n17), (.int .u8 n18)] w1.drew fun e11 w13 => ∃ (n21 : Int),
       e11 = .returned (.int .i64 n21) ∧
       w13.cell? ⟨r1, 3, none⟩ = some (.int .u8 n20) ∧
       w13.cell? ⟨r1, 1, none⟩ = some (.int .i64 n19) ∧
       Calls Try.prog 30 #[(.pointer (some ⟨b2, 0, none⟩)), (.int .i64 n19), (.int .u8 n20)] w13 fun e12 w14 => ∃ (n22 : Int),
       e12 = .returned (.int .i64 n22) ∧
       K (.bool (n21 == n22)) w14)
      (J1 w1))))))
def ldo_ann : List (Nat × Live) := [(3, [])]
theorem ldo_ok {b1 : Nat} {b2 : Nat} {n1 : Int} {n2 : Int} {s1 : ByteArray} {n3 : Int} {w : World} {K : Value → World → Prop} (h : ldo b1 b2 n1 n2 s1 n3 w K) : Calls Try.prog 12 #[(.pointer (some ⟨b1, 0, none⟩)), (.pointer (some ⟨b2, 0, none⟩)), (.agg #[(.int .i64 n1), (.int .i64 n2), (.string s1), (.int .u8 n3)])] w fun e w' => ∃ v, e = .returned v ∧ K v w' :=
  calls_sh (annL ldo_ann) Try.func12 (by kernel_rfl) (args := [(.pointer (some ⟨b1, 0, none⟩)), (.pointer (some ⟨b2, 0, none⟩)), (.agg #[(.int .i64 n1), (.int .i64 n2), (.string s1), (.int .u8 n3)])]) (by kernel_rfl) h

-- saleroom/saleroomlaw41.same
def lsame (b1 : Nat) (b2 : Nat) (w : World) (K : Value → World → Prop) : Prop :=
 Calls Try.prog 18 #[(.pointer (some ⟨b1, 0, none⟩))] w fun e1 w1 => ∃ (s1 : ByteArray) (n1 : Int),
 e1 = .returned (.tuple #[(.string s1), (.int .i64 n1)]) ∧
 Calls Try.prog 31 #[(.pointer (some ⟨b2, 0, none⟩))] w1 fun e2 w2 => ∃ (s2 : ByteArray) (n2 : Int),
 e2 = .returned (.tuple #[(.string s2), (.int .i64 n2)]) ∧
 cond (s1.toList == s2.toList)
 (cond (n1 == n2)
  (Calls Try.prog 14 #[(.pointer (some ⟨b1, 0, none⟩))] w2 fun e3 w3 => ∃ (n3 : Int),
   e3 = .returned (.int .i64 n3) ∧
   Calls Try.prog 32 #[(.pointer (some ⟨b2, 0, none⟩))] w3 fun e4 w4 => ∃ (n4 : Int),
   e4 = .returned (.int .i64 n4) ∧
   cond (n3 == n4)
   (Calls Try.prog 20 #[(.pointer (some ⟨b1, 0, none⟩))] w4 fun e5 w5 => ∃ (n5 : Int),
    e5 = .returned (.int .i64 n5) ∧
    Calls Try.prog 33 #[(.pointer (some ⟨b2, 0, none⟩))] w5 fun e6 w6 => ∃ (n6 : Int),
    e6 = .returned (.int .i64 n6) ∧
    K (.bool (n5 == n6)) w6)
   (K (.bool false) w4))
  (K (.bool false) w2))
 (K (.bool false) w2)
def lsame_ann : List (Nat × Live) := []
theorem lsame_ok {b1 : Nat} {b2 : Nat} {w : World} {K : Value → World → Prop} (h : lsame b1 b2 w K) : Calls Try.prog 13 #[(.pointer (some ⟨b1, 0, none⟩)), (.pointer (some ⟨b2, 0, none⟩))] w fun e w' => ∃ v, e = .returned v ∧ K v w' :=
  calls_sh (annL lsame_ann) Try.func13 (by kernel_rfl) (args := [(.pointer (some ⟨b1, 0, none⟩)), (.pointer (some ⟨b2, 0, none⟩))]) (by kernel_rfl) h

-- saleroom/saleroomlaw41.MediaExact
def lMediaExact (n1 : Int) (a1 : Option Addr) (l1 c1 : Nat) (w : World) (K : Value → World → Prop) : Prop :=
 Calls Try.prog 8 #[(.slice a1 l1 c1)] w fun e1 w1 => ∃ (b1 : Bool),
 e1 = .returned (.bool b1) ∧
 cond (!b1)
 (Calls Try.prog 9 #[] w1 fun e2 w2 => ∃ (b2 : Bool),
  e2 = .returned (.bool b2) ∧
  K (.bool b2) w2)
 (Calls Try.prog 10 #[(.int .i64 n1)] w1 fun e3 w3 => ∃ (p1 : Option Addr) (n2 : Int),
  e3 = .returned (.tuple #[(.pointer p1), (.int .i64 n2)]) ∧
  Calls Try.prog 11 #[(.int .i64 n1)] w3 fun e4 w4 => ∃ (p2 : Option Addr) (n3 : Int),
  e4 = .returned (.tuple #[(.pointer p2), (.int .i64 n3)]) ∧
  cond (n2 != n3)
  (K (.bool false) w4)
  (cond (n2 != (0 : Int))
   (cond (p1).isNone
    (Calls Try.prog 9 #[] w4 fun e5 w5 => ∃ (b3 : Bool),
     e5 = .returned (.bool b3) ∧
     K (.bool b3) w5)
    (K (.bool false) w4))
   (cond (p1).isNone
    (K (.bool false) w4)
    (∃ I1 : Int → World → Nat → Prop, (∃ m1, I1 (0 : Int) w4 m1) ∧
     ∀ (w6 : World) (m1 : Nat) (n4 : Int), I1 n4 w6 m1 → ∀ _ : Nat → Value,
     cond (decide (n4 < ((l1 : Nat) : Int)))
     (∃ J1 : Bool → World → Prop, (∀ (w7 : World) (b4 : Bool), J1 b4 w7 → ∀ _ : Nat → Value,
       cond b4
       (K (.bool false) w7)
       (∃ m2, m2 < m1 ∧ I1 (IntKind.i64.wrap (n4 + (1 : Int))) w7 m2)) ∧
      onSome a1 fun q1 =>
      0 ≤ n4 ∧ n4 < ((l1 : Nat) : Int) ∧
      ∃ (n5 : Int) (n6 : Int) (s1 : ByteArray) (n7 : Int),
      cellsAt w6 (Addr.add q1 ((n4).toNat * 4)) 0 [(.int .i64 n5), (.int .i64 n6), (.string s1), (.int .u8 n7)] ∧
      Calls Try.prog 12 #[(.pointer p1), (.pointer p2), (.agg #[(.int .i64 n5), (.int .i64 n6), (.string s1), (.int .u8 n7)])] w6 fun e6 w8 => ∃ (b5 : Bool),
      e6 = .returned (.bool b5) ∧
      cond (!b5)
      (J1 true w8)
      (Calls Try.prog 13 #[(.pointer p1), (.pointer p2)] w8 fun e7 w9 => ∃ (b6 : Bool),
       e7 = .returned (.bool b6) ∧
       J1 (!b6) w9))
     (Calls Try.prog 9 #[] w6 fun e8 w10 => ∃ (b7 : Bool),
      e8 = .returned (.bool b7) ∧
      K (.bool b7) w10)))))
def lMediaExact_ann : List (Nat × Live) := [(2042, [(9, .s (.int .i64))]), (32676, [(55, .s (.bool))])]
theorem lMediaExact_ok {n1 : Int} {a1 : Option Addr} {l1 c1 : Nat} {w : World} {K : Value → World → Prop} (h : lMediaExact n1 a1 l1 c1 w K) : Calls Try.prog 3 #[(.int .i64 n1), (.slice a1 l1 c1)] w fun e w' => ∃ v, e = .returned v ∧ K v w' :=
  calls_sh (annL lMediaExact_ann) Try.func3 (by kernel_rfl) (args := [(.int .i64 n1), (.slice a1 l1 c1)]) (by kernel_rfl) h

-- saleroom/saleroomlaw41.MediaDurable
def lMediaDurable (n1 : Int) (a1 : Option Addr) (l1 c1 : Nat) (n2 : Int) (w : World) (K : Value → World → Prop) : Prop :=
 Calls Try.prog 8 #[(.slice a1 l1 c1)] w fun e1 w1 => ∃ (b1 : Bool),
 e1 = .returned (.bool b1) ∧
 cond (!b1)
 (Calls Try.prog 9 #[] w1 fun e2 w2 => ∃ (b2 : Bool),
  e2 = .returned (.bool b2) ∧
  K (.bool b2) w2)
 (Calls Try.prog 10 #[(.int .i64 n1)] w1 fun e3 w3 => ∃ (p1 : Option Addr) (n3 : Int),
  e3 = .returned (.tuple #[(.pointer p1), (.int .i64 n3)]) ∧
  ∃ J1 : Bool → World → Prop, (∀ (w4 : World) (b3 : Bool), J1 b3 w4 → ∀ _ : Nat → Value,
   cond b3
   (cond (decide (n1 < (1 : Int)))
    (K (.bool true) w4)
    (K (.bool (decide (n1 > (262144 : Int)))) w4))
   (∃ I1 : ByteArray → ByteArray → Int → World → Nat → Prop, (∃ m1, I1 (bs []) (bs []) (0 : Int) w4 m1) ∧
    ∀ (w5 : World) (m1 : Nat) (s1 : ByteArray) (s2 : ByteArray) (n4 : Int), I1 s1 s2 n4 w5 m1 → ∀ _ : Nat → Value,
    cond (decide (n4 < ((l1 : Nat) : Int)))
    (∃ J2 : ByteArray → ByteArray → World → Prop, (∀ (w6 : World) (s3 : ByteArray) (s4 : ByteArray), J2 s3 s4 w6 → ∀ _ : Nat → Value,
      ∃ m2, m2 < m1 ∧ I1 s3 s4 (IntKind.i64.wrap (n4 + (1 : Int))) w6 m2) ∧
     Calls Try.prog 14 #[(.pointer p1)] w5 fun e4 w7 => ∃ (n5 : Int),
     e4 = .returned (.int .i64 n5) ∧
     onSome a1 fun q1 =>
     0 ≤ n4 ∧ n4 < ((l1 : Nat) : Int) ∧
     ∃ (n6 : Int),
     w7.cell? (Addr.add q1 ((n4).toNat * 4)) = some (.int .i64 n6) ∧
     cond (n6 == (0 : Int))
     (onSome a1 fun q2 =>
      0 ≤ n4 ∧ n4 < ((l1 : Nat) : Int) ∧
      ∃ (s5 : ByteArray),
      w7.cell? (Addr.add (Addr.add q2 ((n4).toNat * 4)) 2) = some (.string s5) ∧
      Calls Try.prog 15 #[(.pointer p1), (.string s5)] w7 fun e5 w8 => ∃ (n7 : Int),
      e5 = .returned (.int .i64 n7) ∧
      Calls Try.prog 14 #[(.pointer p1)] w8 fun e6 w9 => ∃ (n8 : Int),
      e6 = .returned (.int .i64 n8) ∧
      ∃ J3 : Bool → World → Prop, (∀ (w10 : World) (b4 : Bool), J3 b4 w10 → ∀ _ : Nat → Value,
       cond b4
       (K (.bool false) w10)
       (onSome a1 fun q3 =>
        0 ≤ n4 ∧ n4 < ((l1 : Nat) : Int) ∧
        ∃ (s6 : ByteArray),
        w10.cell? (Addr.add (Addr.add q3 ((n4).toNat * 4)) 2) = some (.string s6) ∧
        0 ≤ (IntKind.i64.wrap (n8 - n5)) ∧ (IntKind.i64.wrap (n8 - n5)) ≤ ((s6.size : Nat) : Int) ∧
        0 ≤ (0 : Int) ∧ (0 : Int) ≤ ((((IntKind.i64.wrap (n8 - n5))).toNat : Nat) : Int) ∧
        ((s1.size + (s6.extract (((0 : Int)).toNat) (((IntKind.i64.wrap (n8 - n5))).toNat)).size : Nat) : Int) ≤ IntKind.i64.max ∧ J2 (s1 ++ (s6.extract (((0 : Int)).toNat) (((IntKind.i64.wrap (n8 - n5))).toNat))) s2 w10)) ∧
      cond (decide ((IntKind.i64.wrap (n8 - n5)) < (0 : Int)))
      (J3 true w9)
      (onSome a1 fun q4 =>
       0 ≤ n4 ∧ n4 < ((l1 : Nat) : Int) ∧
       ∃ (s7 : ByteArray),
       w9.cell? (Addr.add (Addr.add q4 ((n4).toNat * 4)) 2) = some (.string s7) ∧
       J3 (decide ((IntKind.i64.wrap (n8 - n5)) > ((s7.size : Nat) : Int))) w9))
     (cond (n6 == (1 : Int))
      (Calls Try.prog 16 #[(.pointer p1)] w7 fun e7 w11 => ∃ (n9 : Int),
       e7 = .returned (.int .i64 n9) ∧
       cond (n9 == (0 : Int))
       (J2 s1 s1 w11)
       (J2 s1 s2 w11))
      (cond (n6 == (3 : Int))
       (onSome a1 fun q5 =>
        0 ≤ n4 ∧ n4 < ((l1 : Nat) : Int) ∧
        ∃ (n10 : Int),
        w7.cell? (Addr.add (Addr.add q5 ((n4).toNat * 4)) 1) = some (.int .i64 n10) ∧
        Calls Try.prog 17 #[(.pointer p1), (.int .i64 n10)] w7 fun e8 w12 => e8 = .returned (.tuple #[]) ∧
        Calls Try.prog 18 #[(.pointer p1)] w12 fun e9 w13 => ∃ (s8 : ByteArray) (n11 : Int),
        e9 = .returned (.tuple #[(.string s8), (.int .i64 n11)]) ∧
        ∃ J4 : Bool → World → Prop, (∀ (w14 : World) (b5 : Bool), J4 b5 w14 → ∀ _ : Nat → Value,
         cond b5
         (K (.bool false) w14)
         (J2 s8 s8 w14)) ∧
        cond (n11 != (0 : Int))
        (J4 true w13)
        (cond (decide (((s8.size : Nat) : Int) < ((s2.size : Nat) : Int)))
         (J4 true w13)
         (cond (decide (((s8.size : Nat) : Int) > ((s1.size : Nat) : Int)))
          (J4 true w13)
          (0 ≤ ((s8.size : Nat) : Int) ∧ ((s8.size : Nat) : Int) ≤ ((s1.size : Nat) : Int) ∧
           0 ≤ (0 : Int) ∧ (0 : Int) ≤ (((((s8.size : Nat) : Int)).toNat : Nat) : Int) ∧
           J4 (!(s8.toList == (s1.extract (((0 : Int)).toNat) ((((s8.size : Nat) : Int)).toNat)).toList)) w13))))
       (cond (n6 == (4 : Int))
        (onSome a1 fun q6 =>
         0 ≤ n4 ∧ n4 < ((l1 : Nat) : Int) ∧
         ∃ (n12 : Int),
         w7.cell? (Addr.add (Addr.add q6 ((n4).toNat * 4)) 1) = some (.int .i64 n12) ∧
         Calls Try.prog 19 #[(.pointer p1), (.int .i64 n12)] w7 fun e10 w15 => e10 = .returned (.tuple #[]) ∧
         J2 s1 s2 w15)
        (J2 s1 s2 w7)))))
    (Calls Try.prog 17 #[(.pointer p1), (.int .i64 n2)] w5 fun e11 w16 => e11 = .returned (.tuple #[]) ∧
     Calls Try.prog 18 #[(.pointer p1)] w16 fun e12 w17 => ∃ (s9 : ByteArray) (n13 : Int),
     e12 = .returned (.tuple #[(.string s9), (.int .i64 n13)]) ∧
     cond (n13 == (0 : Int))
     (cond (decide (((s9.size : Nat) : Int) ≥ ((s2.size : Nat) : Int)))
      (cond (decide (((s9.size : Nat) : Int) ≤ ((s1.size : Nat) : Int)))
       (0 ≤ ((s9.size : Nat) : Int) ∧ ((s9.size : Nat) : Int) ≤ ((s1.size : Nat) : Int) ∧
        0 ≤ (0 : Int) ∧ (0 : Int) ≤ (((((s9.size : Nat) : Int)).toNat : Nat) : Int) ∧
        cond (s9.toList == (s1.extract (((0 : Int)).toNat) ((((s9.size : Nat) : Int)).toNat)).toList)
        (Calls Try.prog 20 #[(.pointer p1)] w17 fun e13 w18 => ∃ (n14 : Int),
         e13 = .returned (.int .i64 n14) ∧
         cond (n14 == ((s9.size : Nat) : Int))
         (Calls Try.prog 9 #[] w18 fun e14 w19 => ∃ (b6 : Bool),
          e14 = .returned (.bool b6) ∧
          K (.bool b6) w19)
         (K (.bool false) w18))
        (K (.bool false) w17))
       (K (.bool false) w17))
      (K (.bool false) w17))
     (K (.bool false) w17)))) ∧
  cond (n3 != (0 : Int))
  (J1 true w3)
  (J1 (p1).isNone w3))
def lMediaDurable_ann : List (Nat × Live) := [(30, [(32, .s (.bool))]), (506, [(9, .s (.str)), (10, .s (.str)), (11, .s (.int .i64))]), (2025, [(9, .s (.str)), (10, .s (.str))]), (2073814, [(76, .s (.bool))]), (33181174, [(129, .s (.bool))])]
theorem lMediaDurable_ok {n1 : Int} {a1 : Option Addr} {l1 c1 : Nat} {n2 : Int} {w : World} {K : Value → World → Prop} (h : lMediaDurable n1 a1 l1 c1 n2 w K) : Calls Try.prog 4 #[(.int .i64 n1), (.slice a1 l1 c1), (.int .i64 n2)] w fun e w' => ∃ v, e = .returned v ∧ K v w' :=
  calls_sh (annL lMediaDurable_ann) Try.func4 (by kernel_rfl) (args := [(.int .i64 n1), (.slice a1 l1 c1), (.int .i64 n2)]) (by kernel_rfl) h

-- saleroom/saleroomlaw41.MediaCopies
def lMediaCopies (n1 : Int) (a1 : Option Addr) (l1 c1 : Nat) (a2 : Option Addr) (l2 c2 : Nat) (w : World) (K : Value → World → Prop) : Prop :=
 ∃ J1 : Bool → World → Prop, (∀ (w1 : World) (b1 : Bool), J1 b1 w1 → ∀ _ : Nat → Value,
  cond b1
  (Calls Try.prog 9 #[] w1 fun e1 w2 => ∃ (b2 : Bool),
   e1 = .returned (.bool b2) ∧
   K (.bool b2) w2)
  (Calls Try.prog 10 #[(.int .i64 n1)] w1 fun e2 w3 => ∃ (p1 : Option Addr) (n2 : Int),
   e2 = .returned (.tuple #[(.pointer p1), (.int .i64 n2)]) ∧
   Calls Try.prog 11 #[(.int .i64 n1)] w3 fun e3 w4 => ∃ (p2 : Option Addr) (n3 : Int),
   e3 = .returned (.tuple #[(.pointer p2), (.int .i64 n3)]) ∧
   cond (n2 != n3)
   (K (.bool false) w4)
   (cond (n2 != (0 : Int))
    (Calls Try.prog 9 #[] w4 fun e4 w5 => ∃ (b3 : Bool),
     e4 = .returned (.bool b3) ∧
     K (.bool b3) w5)
    (cond (p1).isNone
     (K (.bool false) w4)
     (∃ I1 : Int → World → Nat → Prop, (∃ m1, I1 (0 : Int) w4 m1) ∧
      ∀ (w6 : World) (m1 : Nat) (n4 : Int), I1 n4 w6 m1 → ∀ _ : Nat → Value,
      cond (decide (n4 < ((l1 : Nat) : Int)))
      (onSome a1 fun q1 =>
       0 ≤ n4 ∧ n4 < ((l1 : Nat) : Int) ∧
       ∃ (n5 : Int) (n6 : Int) (s1 : ByteArray) (n7 : Int),
       cellsAt w6 (Addr.add q1 ((n4).toNat * 4)) 0 [(.int .i64 n5), (.int .i64 n6), (.string s1), (.int .u8 n7)] ∧
       Calls Try.prog 12 #[(.pointer p1), (.pointer p2), (.agg #[(.int .i64 n5), (.int .i64 n6), (.string s1), (.int .u8 n7)])] w6 fun e5 w7 => ∃ (b4 : Bool),
       e5 = .returned (.bool b4) ∧
       cond (!b4)
       (K (.bool false) w7)
       (∃ m2, m2 < m1 ∧ I1 (IntKind.i64.wrap (n4 + (1 : Int))) w7 m2))
      (Calls Try.prog 21 #[(.pointer p1)] w6 fun e6 w8 => ∃ (p3 : Option Addr),
       e6 = .returned (.pointer p3) ∧
       Calls Try.prog 22 #[(.pointer p2)] w8 fun e7 w9 => ∃ (p4 : Option Addr),
       e7 = .returned (.pointer p4) ∧
       ∃ J2 : Bool → World → Prop, (∀ (w10 : World) (b5 : Bool), J2 b5 w10 → ∀ _ : Nat → Value,
        cond b5
        (K (.bool false) w10)
        (∃ I2 : Int → World → Nat → Prop, (∃ m3, I2 (0 : Int) w10 m3) ∧
         ∀ (w11 : World) (m3 : Nat) (n8 : Int), I2 n8 w11 m3 → ∀ _ : Nat → Value,
         cond (decide (n8 < ((l2 : Nat) : Int)))
         (∃ J3 : Bool → World → Prop, (∀ (w12 : World) (b6 : Bool), J3 b6 w12 → ∀ _ : Nat → Value,
           cond b6
           (K (.bool false) w12)
           (∃ m4, m4 < m3 ∧ I2 (IntKind.i64.wrap (n8 + (1 : Int))) w12 m4)) ∧
          onSome a2 fun q2 =>
          0 ≤ n8 ∧ n8 < ((l2 : Nat) : Int) ∧
          ∃ (n9 : Int) (n10 : Int) (s2 : ByteArray) (n11 : Int),
          cellsAt w11 (Addr.add q2 ((n8).toNat * 4)) 0 [(.int .i64 n9), (.int .i64 n10), (.string s2), (.int .u8 n11)] ∧
          Calls Try.prog 12 #[(.pointer p3), (.pointer p4), (.agg #[(.int .i64 n9), (.int .i64 n10), (.string s2), (.int .u8 n11)])] w11 fun e8 w13 => ∃ (b7 : Bool),
          e8 = .returned (.bool b7) ∧
          cond (!b7)
          (J3 true w13)
          (Calls Try.prog 13 #[(.pointer p3), (.pointer p4)] w13 fun e9 w14 => ∃ (b8 : Bool),
           e9 = .returned (.bool b8) ∧
           cond (!b8)
           (J3 true w14)
           (Calls Try.prog 13 #[(.pointer p1), (.pointer p2)] w14 fun e10 w15 => ∃ (b9 : Bool),
            e10 = .returned (.bool b9) ∧
            J3 (!b9) w15)))
         (∃ I3 : Int → World → Nat → Prop, (∃ m5, I3 (0 : Int) w11 m5) ∧
          ∀ (w16 : World) (m5 : Nat) (n12 : Int), I3 n12 w16 m5 → ∀ _ : Nat → Value,
          cond (decide (n12 < ((l2 : Nat) : Int)))
          (∃ J4 : Bool → World → Prop, (∀ (w17 : World) (b10 : Bool), J4 b10 w17 → ∀ _ : Nat → Value,
            cond b10
            (K (.bool false) w17)
            (∃ m6, m6 < m5 ∧ I3 (IntKind.i64.wrap (n12 + (1 : Int))) w17 m6)) ∧
           onSome a2 fun q3 =>
           0 ≤ n12 ∧ n12 < ((l2 : Nat) : Int) ∧
           ∃ (n13 : Int) (n14 : Int) (s3 : ByteArray) (n15 : Int),
           cellsAt w16 (Addr.add q3 ((n12).toNat * 4)) 0 [(.int .i64 n13), (.int .i64 n14), (.string s3), (.int .u8 n15)] ∧
           Calls Try.prog 12 #[(.pointer p1), (.pointer p2), (.agg #[(.int .i64 n13), (.int .i64 n14), (.string s3), (.int .u8 n15)])] w16 fun e11 w18 => ∃ (b11 : Bool),
           e11 = .returned (.bool b11) ∧
           cond (!b11)
           (J4 true w18)
           (Calls Try.prog 13 #[(.pointer p1), (.pointer p2)] w18 fun e12 w19 => ∃ (b12 : Bool),
            e12 = .returned (.bool b12) ∧
            cond (!b12)
            (J4 true w19)
            (Calls Try.prog 13 #[(.pointer p3), (.pointer p4)] w19 fun e13 w20 => ∃ (b13 : Bool),
             e13 = .returned (.bool b13) ∧
             J4 (!b13) w20)))
          (Calls Try.prog 9 #[] w16 fun e14 w21 => ∃ (b14 : Bool),
           e14 = .returned (.bool b14) ∧
           K (.bool b14) w21)))) ∧
       cond (p3).isNone
       (J2 true w9)
       (Calls Try.prog 13 #[(.pointer p3), (.pointer p4)] w9 fun e15 w22 => ∃ (b15 : Bool),
        e15 = .returned (.bool b15) ∧
        J2 (!b15) w22))))))) ∧
 Calls Try.prog 8 #[(.slice a1 l1 c1)] w fun e16 w23 => ∃ (b16 : Bool),
 e16 = .returned (.bool b16) ∧
 cond (!b16)
 (J1 true w23)
 (Calls Try.prog 8 #[(.slice a2 l2 c2)] w23 fun e17 w24 => ∃ (b17 : Bool),
  e17 = .returned (.bool b17) ∧
  J1 (!b17) w24)
def lMediaCopies_ann : List (Nat × Live) := [(6, [(23, .s (.bool))]), (2042, [(11, .s (.int .i64))]), (2046, [(68, .s (.bool))]), (16378, [(14, .s (.int .i64))]), (262052, [(94, .s (.bool))]), (32762, [(15, .s (.int .i64))]), (524196, [(120, .s (.bool))])]
theorem lMediaCopies_ok {n1 : Int} {a1 : Option Addr} {l1 c1 : Nat} {a2 : Option Addr} {l2 c2 : Nat} {w : World} {K : Value → World → Prop} (h : lMediaCopies n1 a1 l1 c1 a2 l2 c2 w K) : Calls Try.prog 5 #[(.int .i64 n1), (.slice a1 l1 c1), (.slice a2 l2 c2)] w fun e w' => ∃ v, e = .returned v ∧ K v w' :=
  calls_sh (annL lMediaCopies_ann) Try.func5 (by kernel_rfl) (args := [(.int .i64 n1), (.slice a1 l1 c1), (.slice a2 l2 c2)]) (by kernel_rfl) h

-- saleroom/saleroomlaw41.MediaNil
def lMediaNil (n1 : Int) (s1 : ByteArray) (w : World) (K : Value → World → Prop) : Prop :=
 Calls Try.prog 17 #[(.pointer none), (.int .i64 n1)] w fun e1 w1 => e1 = .returned (.tuple #[]) ∧
 Calls Try.prog 19 #[(.pointer none), (.int .i64 n1)] w1 fun e2 w2 => e2 = .returned (.tuple #[]) ∧
 Calls Try.prog 18 #[(.pointer none)] w2 fun e3 w3 => ∃ (s2 : ByteArray) (n2 : Int),
 e3 = .returned (.tuple #[(.string s2), (.int .i64 n2)]) ∧
 Calls Try.prog 15 #[(.pointer none), (.string s1)] w3 fun e4 w4 => ∃ (n3 : Int),
 e4 = .returned (.int .i64 n3) ∧
 cond (n3 == (6 : Int))
 (Calls Try.prog 16 #[(.pointer none)] w4 fun e5 w5 => ∃ (n4 : Int),
  e5 = .returned (.int .i64 n4) ∧
  cond (n4 == (6 : Int))
  (Calls Try.prog 23 #[(.pointer none), (.int .i64 n1)] w5 fun e6 w6 => ∃ (n5 : Int),
   e6 = .returned (.int .i64 n5) ∧
   cond (n5 == (6 : Int))
   (cond (s2.toList == (bs []).toList)
    (cond (n2 == (6 : Int))
     (Calls Try.prog 14 #[(.pointer none)] w6 fun e7 w7 => ∃ (n6 : Int),
      e7 = .returned (.int .i64 n6) ∧
      cond (n6 == (0 : Int))
      (Calls Try.prog 20 #[(.pointer none)] w7 fun e8 w8 => ∃ (n7 : Int),
       e8 = .returned (.int .i64 n7) ∧
       cond (n7 == (0 : Int))
       (Calls Try.prog 24 #[(.pointer none), (.int .i64 n1), (.int .u8 (1 : Int))] w8 fun e9 w9 => ∃ (n8 : Int),
        e9 = .returned (.int .i64 n8) ∧
        cond (n8 == (6 : Int))
        (Calls Try.prog 21 #[(.pointer none)] w9 fun e10 w10 => ∃ (p1 : Option Addr),
         e10 = .returned (.pointer p1) ∧
         cond (p1).isNone
         (Calls Try.prog 9 #[] w10 fun e11 w11 => ∃ (b1 : Bool),
          e11 = .returned (.bool b1) ∧
          K (.bool b1) w11)
         (K (.bool false) w10))
        (K (.bool false) w9))
       (K (.bool false) w8))
      (K (.bool false) w7))
     (K (.bool false) w6))
    (K (.bool false) w6))
   (K (.bool false) w6))
  (K (.bool false) w5))
 (K (.bool false) w4)
def lMediaNil_ann : List (Nat × Live) := []
theorem lMediaNil_ok {n1 : Int} {s1 : ByteArray} {w : World} {K : Value → World → Prop} (h : lMediaNil n1 s1 w K) : Calls Try.prog 6 #[(.int .i64 n1), (.string s1)] w fun e w' => ∃ v, e = .returned v ∧ K v w' :=
  calls_sh (annL lMediaNil_ann) Try.func6 (by kernel_rfl) (args := [(.int .i64 n1), (.string s1)]) (by kernel_rfl) h

-- saleroom/saleroomlaw41.MediaArms
def lMediaArms (n1 : Int) (a1 : Option Addr) (l1 c1 : Nat) (w : World) (K : Value → World → Prop) : Prop :=
 ∃ J1 : Bool → World → Prop, (∀ (w1 : World) (b1 : Bool), J1 b1 w1 → ∀ _ : Nat → Value,
  cond b1
  (Calls Try.prog 9 #[] w1 fun e1 w2 => ∃ (b2 : Bool),
   e1 = .returned (.bool b2) ∧
   K (.bool b2) w2)
  (∃ I1 : ByteArray → Int → World → Nat → Prop, (∃ m1, I1 (bs []) (0 : Int) w1 m1) ∧
   ∀ (w3 : World) (m1 : Nat) (s1 : ByteArray) (n2 : Int), I1 s1 n2 w3 m1 → ∀ _ : Nat → Value,
   cond (decide (n2 < ((l1 : Nat) : Int)))
   (onSome a1 fun q1 =>
    0 ≤ n2 ∧ n2 < ((l1 : Nat) : Int) ∧
    ∃ (s2 : ByteArray),
    w3.cell? (Addr.add q1 ((n2).toNat * 1)) = some (.string s2) ∧
    cond (decide (((s2.size : Nat) : Int) > (200 : Int)))
    (Calls Try.prog 9 #[] w3 fun e2 w4 => ∃ (b3 : Bool),
     e2 = .returned (.bool b3) ∧
     K (.bool b3) w4)
    (onSome a1 fun q2 =>
     0 ≤ n2 ∧ n2 < ((l1 : Nat) : Int) ∧
     ∃ (s3 : ByteArray),
     w3.cell? (Addr.add q2 ((n2).toNat * 1)) = some (.string s3) ∧
     ((s1.size + s3.size : Nat) : Int) ≤ IntKind.i64.max ∧ ∃ m2, m2 < m1 ∧ I1 (s1 ++ s3) (IntKind.i64.wrap (n2 + (1 : Int))) w3 m2))
   (Calls Try.prog 10 #[(.int .i64 (8000 : Int))] w3 fun e3 w5 => ∃ (p1 : Option Addr) (n3 : Int),
    e3 = .returned (.tuple #[(.pointer p1), (.int .i64 n3)]) ∧
    ∃ J2 : Bool → World → Prop, (∀ (w6 : World) (b4 : Bool), J2 b4 w6 → ∀ _ : Nat → Value,
     cond b4
     (K (.bool false) w6)
     (Calls Try.prog 19 #[(.pointer p1), (.int .i64 n1)] w6 fun e4 w7 => e4 = .returned (.tuple #[]) ∧
      ∃ I2 : Bool → Int → Int → World → Nat → Prop, (∃ m3, I2 false (0 : Int) (0 : Int) w7 m3) ∧
      ∀ (w8 : World) (m3 : Nat) (b5 : Bool) (n4 : Int) (n5 : Int), I2 b5 n4 n5 w8 m3 → ∀ _ : Nat → Value,
      cond (decide (n5 < ((l1 : Nat) : Int)))
      (∃ J3 : Bool → Int → Int → World → Prop, (∀ (w9 : World) (b6 : Bool) (n6 : Int) (n7 : Int), J3 b6 n6 n7 w9 → ∀ _ : Nat → Value,
        ∃ J4 : Bool → World → Prop, (∀ (w10 : World) (b7 : Bool), J4 b7 w10 → ∀ _ : Nat → Value,
         cond b7
         (K (.bool false) w10)
         (∃ m4, m4 < m3 ∧ I2 b6 n6 (IntKind.i64.wrap (n5 + (1 : Int))) w10 m4)) ∧
        onSome a1 fun q3 =>
        0 ≤ n5 ∧ n5 < ((l1 : Nat) : Int) ∧
        ∃ (s4 : ByteArray),
        w9.cell? (Addr.add q3 ((n5).toNat * 1)) = some (.string s4) ∧
        Calls Try.prog 15 #[(.pointer p1), (.string s4)] w9 fun e5 w11 => ∃ (n8 : Int),
        e5 = .returned (.int .i64 n8) ∧
        cond (n8 != n7)
        (J4 true w11)
        (Calls Try.prog 14 #[(.pointer p1)] w11 fun e6 w12 => ∃ (n9 : Int),
         e6 = .returned (.int .i64 n9) ∧
         J4 (n9 != n6) w12)) ∧
       ∃ J5 : Bool → World → Prop, (∀ (w13 : World) (b8 : Bool), J5 b8 w13 → ∀ _ : Nat → Value,
        cond b8
        (J3 true (if ((s1.size : Nat) : Int) < n1 then ((s1.size : Nat) : Int) else n1) (19 : Int) w13)
        (onSome a1 fun q4 =>
         0 ≤ n5 ∧ n5 < ((l1 : Nat) : Int) ∧
         ∃ (s5 : ByteArray),
         w13.cell? (Addr.add q4 ((n5).toNat * 1)) = some (.string s5) ∧
         J3 b5 (IntKind.i64.wrap (n4 + ((s5.size : Nat) : Int))) (0 : Int) w13)) ∧
       cond b5
       (J5 true w8)
       (onSome a1 fun q5 =>
        0 ≤ n5 ∧ n5 < ((l1 : Nat) : Int) ∧
        ∃ (s6 : ByteArray),
        w8.cell? (Addr.add q5 ((n5).toNat * 1)) = some (.string s6) ∧
        J5 (decide (((s6.size : Nat) : Int) > (IntKind.i64.wrap (n1 - n4)))) w8))
      (Calls Try.prog 17 #[(.pointer p1), (.int .i64 (8000 : Int))] w8 fun e7 w14 => e7 = .returned (.tuple #[]) ∧
       Calls Try.prog 18 #[(.pointer p1)] w14 fun e8 w15 => ∃ (s7 : ByteArray) (n10 : Int),
       e8 = .returned (.tuple #[(.string s7), (.int .i64 n10)]) ∧
       cond (n10 == (0 : Int))
       (0 ≤ n4 ∧ n4 ≤ ((s1.size : Nat) : Int) ∧
        0 ≤ (0 : Int) ∧ (0 : Int) ≤ (((n4).toNat : Nat) : Int) ∧
        cond (s7.toList == (s1.extract (((0 : Int)).toNat) ((n4).toNat)).toList)
        (Calls Try.prog 9 #[] w15 fun e9 w16 => ∃ (b9 : Bool),
         e9 = .returned (.bool b9) ∧
         K (.bool b9) w16)
        (K (.bool false) w15))
       (K (.bool false) w15)))) ∧
    cond (n3 != (0 : Int))
    (J2 true w5)
    (J2 (p1).isNone w5)))) ∧
 cond (decide (((l1 : Nat) : Int) > (20 : Int)))
 (J1 true w)
 (J1 (decide (n1 < (0 : Int))) w)
def lMediaArms_ann : List (Nat × Live) := [(6, [(21, .s (.bool))]), (122, [(5, .s (.str)), (6, .s (.int .i64))]), (126, [(51, .s (.bool))]), (4090, [(9, .s (.bool)), (10, .s (.int .i64)), (11, .s (.int .i64))]), (130889, [(9, .s (.bool)), (10, .s (.int .i64)), (12, .s (.int .i64))]), (261779, [(97, .s (.bool))]), (261778, [(72, .s (.bool))])]
theorem lMediaArms_ok {n1 : Int} {a1 : Option Addr} {l1 c1 : Nat} {w : World} {K : Value → World → Prop} (h : lMediaArms n1 a1 l1 c1 w K) : Calls Try.prog 7 #[(.int .i64 n1), (.slice a1 l1 c1)] w fun e w' => ∃ v, e = .returned v ∧ K v w' :=
  calls_sh (annL lMediaArms_ann) Try.func7 (by kernel_rfl) (args := [(.int .i64 n1), (.slice a1 l1 c1)]) (by kernel_rfl) h

end Go.Proofs.Ytbjbfppaghfpcaa

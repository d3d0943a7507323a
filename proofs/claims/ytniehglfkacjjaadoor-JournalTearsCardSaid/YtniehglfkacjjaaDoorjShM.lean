/- What each function of the seat comes to, printed by program (sh.py); the kernel holds each print against the loaded code. -/
import Derived.Test.YtniehglfkacjjaaDoorVc5
import Derived.Test.YtniehglfkacjjaaDoorProg
import Derived.KernelRfl
set_option linter.unusedVariables false
namespace Go.Proofs.YtniehglfkacjjaaDoor
open Go Go.Vc
-- errors.Is
def shIsN  (w : World) (K : Value → World → Prop) : Prop :=
 K (.bool false) w
def shIsN_ann : List (Nat × Live) := []
theorem shIsN_ok {w : World} {K : Value → World → Prop} (h : shIsN w K) : Calls Tryd.prog 47 #[.nilIface, (.iface 25 (.int .i64 (19 : Int)))] w fun e w' => ∃ v, e = .returned v ∧ K v w' :=
  calls_sh (annL shIsN_ann) Tryd.func47 (by kernel_rfl) (args := [.nilIface, (.iface 25 (.int .i64 (19 : Int)))]) (by kernel_rfl) h

-- errors.Is
def shIsD  (w : World) (K : Value → World → Prop) : Prop :=
 Calls Tryd.prog 64 #[(.iface 25 (.int .i64 (19 : Int))), (.iface 25 (.int .i64 (19 : Int))), (.bool true)] w fun e1 w1 => ∃ (b1 : Bool),
 e1 = .returned (.bool b1) ∧
 K (.bool b1) w1
def shIsD_ann : List (Nat × Live) := []
theorem shIsD_ok {w : World} {K : Value → World → Prop} (h : shIsD w K) : Calls Tryd.prog 47 #[(.iface 25 (.int .i64 (19 : Int))), (.iface 25 (.int .i64 (19 : Int)))] w fun e w' => ∃ v, e = .returned v ∧ K v w' :=
  calls_sh (annL shIsD_ann) Tryd.func47 (by kernel_rfl) (args := [(.iface 25 (.int .i64 (19 : Int))), (.iface 25 (.int .i64 (19 : Int)))]) (by kernel_rfl) h

-- errors.is
def shis  (w : World) (K : Value → World → Prop) : Prop :=
 K (.bool true) w
def shis_ann : List (Nat × Live) := []
theorem shis_ok {w : World} {K : Value → World → Prop} (h : shis w K) : Calls Tryd.prog 64 #[(.iface 25 (.int .i64 (19 : Int))), (.iface 25 (.int .i64 (19 : Int))), (.bool true)] w fun e w' => ∃ v, e = .returned v ∧ K v w' :=
  calls_sh (annL shis_ann) Tryd.func64 (by kernel_rfl) (args := [(.iface 25 (.int .i64 (19 : Int))), (.iface 25 (.int .i64 (19 : Int))), (.bool true)]) (by kernel_rfl) h

-- (*saleroom/media.Medium).state
def mstate (b1 : Nat) (w : World) (K : Value → World → Prop) : Prop :=
 ∃ (b2 : Bool),
 w.cell? ⟨b1, 3, none⟩ = some (.bool b2) ∧
 cond b2
 (K (.int .i64 (19 : Int)) w)
 (K (.int .i64 (0 : Int)) w)
def mstate_ann : List (Nat × Live) := []
theorem mstate_ok {b1 : Nat} {w : World} {K : Value → World → Prop} (h : mstate b1 w K) : Calls Tryd.prog 42 #[(.pointer (some ⟨b1, 0, none⟩))] w fun e w' => ∃ v, e = .returned v ∧ K v w' :=
  calls_sh (annL mstate_ann) Tryd.func42 (by kernel_rfl) (args := [(.pointer (some ⟨b1, 0, none⟩))]) (by kernel_rfl) h

-- (*saleroom/media.Medium).step
def mstep (b1 : Nat) (w : World) (K : Value → World → Prop) : Prop :=
 ∃ J1 : Bool → World → Prop, (∀ (w1 : World) (b2 : Bool), J1 b2 w1 → ∀ x1 : Nat → Value,
  cond b2
  (stK w1 ⟨b1, 3, none⟩ (.bool true) fun w2 =>
   K (.iface 25 (.int .i64 (19 : Int))) w2)
  (∃ J2 : World → Prop, (∀ (w3 : World), J2 w3 → ∀ x2 : Nat → Value,
    K .nilIface w3) ∧
   ∃ (b3 : Bool),
   w1.cell? ⟨b1, 4, none⟩ = some (.bool b3) ∧
   cond b3
   (∃ (n1 : Int),
    w1.cell? ⟨b1, 5, none⟩ = some (.int .i64 n1) ∧
    stK w1 ⟨b1, 5, none⟩ (.int .i64 (IntKind.i64.wrap (n1 - (1 : Int)))) fun w4 =>
    J2 w4)
   (J2 w1))) ∧
 ∃ (b4 : Bool),
 w.cell? ⟨b1, 4, none⟩ = some (.bool b4) ∧
 cond b4
 (∃ (n2 : Int),
  w.cell? ⟨b1, 5, none⟩ = some (.int .i64 n2) ∧
  J1 (n2 == (0 : Int)) w)
 (J1 false w)
def mstep_ann : List (Nat × Live) := [(6, [(13, .s (.bool))]), (7, [])]
theorem mstep_ok {b1 : Nat} {w : World} {K : Value → World → Prop} (h : mstep b1 w K) : Calls Tryd.prog 46 #[(.pointer (some ⟨b1, 0, none⟩))] w fun e w' => ∃ v, e = .returned v ∧ K v w' :=
  calls_sh (annL mstep_ann) Tryd.func46 (by kernel_rfl) (args := [(.pointer (some ⟨b1, 0, none⟩))]) (by kernel_rfl) h

-- (*saleroom/media.Medium).Append
def mAppend (b1 : Nat) (s1 : ByteArray) (w : World) (K : Value → World → Prop) : Prop :=
 Calls Tryd.prog 42 #[(.pointer (some ⟨b1, 0, none⟩))] w fun e1 w1 => ∃ (n1 : Int),
 e1 = .returned (.int .i64 n1) ∧
 cond (n1 != (0 : Int))
 (K (.int .i64 n1) w1)
 (∃ (n2 : Int),
  w1.drew.cell? ⟨b1, 0, none⟩ = some (.int .i64 n2) ∧
  ∃ (a1 : Option Addr) (l1 c1 : Nat),
  w1.drew.cell? ⟨b1, 1, none⟩ = some (.slice a1 l1 c1) ∧
  cond (decide (((s1.size : Nat) : Int) > (IntKind.i64.wrap (n2 - ((l1 : Nat) : Int)))))
  (K (.int .i64 (18 : Int)) w1.drew)
  (∃ I1 : Int → World → Nat → Prop, (∃ m1, I1 (0 : Int) w1.drew m1) ∧
   ∀ (w2 : World) (m1 : Nat) (n3 : Int), I1 n3 w2 m1 → ∀ x1 : Nat → Value,
   cond (decide (n3 < ((s1.size : Nat) : Int)))
   (Calls Tryd.prog 46 #[(.pointer (some ⟨b1, 0, none⟩))] w2 fun e2 w3 => ∃ (v1 : Value),
    e2 = .returned v1 ∧
    Calls Tryd.prog 47 #[v1, (.iface 25 (.int .i64 (19 : Int)))] w3 fun e3 w4 => ∃ (b2 : Bool),
    e3 = .returned (.bool b2) ∧
    cond b2
    (K (.int .i64 (19 : Int)) w4)
    (∃ (a2 : Option Addr) (l2 c2 : Nat),
     w4.drew.cell? ⟨b1, 1, none⟩ = some (.slice a2 l2 c2) ∧
     0 ≤ n3 ∧ onSome s1[(n3).toNat]? fun u1 =>
     newK w4.drew (.cells #[(.int .u8 (u1.toNat : Int))] 5) fun r1 w5 =>
     w5.cell? ⟨b1, 1, none⟩ = some (.slice a2 l2 c2) ∧
     rnS Tryd.prog (Builtin.append_ #[59, 59] 59 #[(.slice a2 l2 c2), (.slice (some ⟨r1, 0, none⟩) 1 1)]) w5 fun e4 w6 => ∃ (a3 : Option Addr) (l3 c3 : Nat),
     e4 = (.slice a3 l3 c3) ∧
     stK w6 ⟨b1, 1, none⟩ (.slice a3 l3 c3) fun w7 =>
     ∃ m2, m2 < m1 ∧ I1 (IntKind.i64.wrap (n3 + (1 : Int))) w7 m2))
   (K (.int .i64 (0 : Int)) w2)))
def mAppend_ann : List (Nat × Live) := [(122, [(28, .s (.int .i64))])]
theorem mAppend_ok {b1 : Nat} {s1 : ByteArray} {w : World} {K : Value → World → Prop} (h : mAppend b1 s1 w K) : Calls Tryd.prog 23 #[(.pointer (some ⟨b1, 0, none⟩)), (.string s1)] w fun e w' => ∃ v, e = .returned v ∧ K v w' :=
  calls_sh (annL mAppend_ann) Tryd.func23 (by kernel_rfl) (args := [(.pointer (some ⟨b1, 0, none⟩)), (.string s1)]) (by kernel_rfl) h

-- (*saleroom/media.Medium).Sync
def mSync (b1 : Nat) (w : World) (K : Value → World → Prop) : Prop :=
 Calls Tryd.prog 42 #[(.pointer (some ⟨b1, 0, none⟩))] w fun e1 w1 => ∃ (n1 : Int),
 e1 = .returned (.int .i64 n1) ∧
 cond (n1 != (0 : Int))
 (K (.int .i64 n1) w1)
 (Calls Tryd.prog 46 #[(.pointer (some ⟨b1, 0, none⟩))] w1 fun e2 w2 => ∃ (v1 : Value),
  e2 = .returned v1 ∧
  Calls Tryd.prog 47 #[v1, (.iface 25 (.int .i64 (19 : Int)))] w2 fun e3 w3 => ∃ (b2 : Bool),
  e3 = .returned (.bool b2) ∧
  cond b2
  (K (.int .i64 (19 : Int)) w3)
  (∃ (a1 : Option Addr) (l1 c1 : Nat),
   w3.cell? ⟨b1, 1, none⟩ = some (.slice a1 l1 c1) ∧
   stK w3 ⟨b1, 2, none⟩ (.int .i64 ((l1 : Nat) : Int)) fun w4 =>
   K (.int .i64 (0 : Int)) w4))
def mSync_ann : List (Nat × Live) := []
theorem mSync_ok {b1 : Nat} {w : World} {K : Value → World → Prop} (h : mSync b1 w K) : Calls Tryd.prog 37 #[(.pointer (some ⟨b1, 0, none⟩))] w fun e w' => ∃ v, e = .returned v ∧ K v w' :=
  calls_sh (annL mSync_ann) Tryd.func37 (by kernel_rfl) (args := [(.pointer (some ⟨b1, 0, none⟩))]) (by kernel_rfl) h

-- (*saleroom/media.Medium).cut
def mcut (b1 : Nat) (n1 : Int) (w : World) (K : Value → World → Prop) : Prop :=
 rnS Tryd.prog (Instr.makeSlice 59 (.int .i64 n1) (.int .i64 n1)) w fun e1 w1 => ∃ (a1 : Option Addr) (l1 c1 : Nat),
 e1 = (.slice a1 l1 c1) ∧
 ∃ (a2 : Option Addr) (l2 c2 : Nat),
 w1.cell? ⟨b1, 1, none⟩ = some (.slice a2 l2 c2) ∧
 rnS Tryd.prog (Builtin.copy_ #[59, 59] 3 #[(.slice a1 l1 c1), (.slice a2 l2 c2)]) w1 fun _e1 w2 =>
 ∃ (n2 : Int),
 w2.cell? ⟨b1, 2, none⟩ = some (.int .i64 n2) ∧
 stK w2 ⟨b1, 1, none⟩ (.slice a1 l1 c1) fun w3 =>
 stK w3 ⟨b1, 2, none⟩ (.int .i64 (if n1 < n2 then n1 else n2)) fun w4 =>
 K (.tuple #[]) w4
def mcut_ann : List (Nat × Live) := []
theorem mcut_ok {b1 : Nat} {n1 : Int} {w : World} {K : Value → World → Prop} (h : mcut b1 n1 w K) : Calls Tryd.prog 41 #[(.pointer (some ⟨b1, 0, none⟩)), (.int .i64 n1)] w fun e w' => ∃ v, e = .returned v ∧ K v w' :=
  calls_sh (annL mcut_ann) Tryd.func41 (by kernel_rfl) (args := [(.pointer (some ⟨b1, 0, none⟩)), (.int .i64 n1)]) (by kernel_rfl) h

-- (*saleroom/media.Medium).Truncate
def mTruncate (b1 : Nat) (n1 : Int) (w : World) (K : Value → World → Prop) : Prop :=
 Calls Tryd.prog 42 #[(.pointer (some ⟨b1, 0, none⟩))] w fun e1 w1 => ∃ (n2 : Int),
 e1 = .returned (.int .i64 n2) ∧
 cond (n2 != (0 : Int))
 (K (.int .i64 n2) w1)
 (∃ J1 : Bool → World → Prop, (∀ (w2 : World) (b2 : Bool), J1 b2 w2 → ∀ x1 : Nat → Value,
   cond b2
   (K (.int .i64 (4 : Int)) w2)
   (Calls Tryd.prog 46 #[(.pointer (some ⟨b1, 0, none⟩))] w2 fun e2 w3 => ∃ (v1 : Value),
    e2 = .returned v1 ∧
    Calls Tryd.prog 47 #[v1, (.iface 25 (.int .i64 (19 : Int)))] w3 fun e3 w4 => ∃ (b3 : Bool),
    e3 = .returned (.bool b3) ∧
    cond b3
    (K (.int .i64 (19 : Int)) w4)
    (Calls Tryd.prog 41 #[(.pointer (some ⟨b1, 0, none⟩)), (.int .i64 n1)] w4 fun e4 w5 => e4 = .returned (.tuple #[]) ∧
     K (.int .i64 (0 : Int)) w5))) ∧
  cond (decide (n1 < (0 : Int)))
  (J1 true w1)
  (∃ (a1 : Option Addr) (l1 c1 : Nat),
   w1.cell? ⟨b1, 1, none⟩ = some (.slice a1 l1 c1) ∧
   J1 (decide (n1 > ((l1 : Nat) : Int))) w1))
def mTruncate_ann : List (Nat × Live) := [(14, [(22, .s (.bool))])]
theorem mTruncate_ok {b1 : Nat} {n1 : Int} {w : World} {K : Value → World → Prop} (h : mTruncate b1 n1 w K) : Calls Tryd.prog 36 #[(.pointer (some ⟨b1, 0, none⟩)), (.int .i64 n1)] w fun e w' => ∃ v, e = .returned v ∧ K v w' :=
  calls_sh (annL mTruncate_ann) Tryd.func36 (by kernel_rfl) (args := [(.pointer (some ⟨b1, 0, none⟩)), (.int .i64 n1)]) (by kernel_rfl) h

-- (*saleroom/media.Medium).Read
def mRead (b1 : Nat) (w : World) (K : Value → World → Prop) : Prop :=
 Calls Tryd.prog 42 #[(.pointer (some ⟨b1, 0, none⟩))] w fun e1 w1 => ∃ (n1 : Int),
 e1 = .returned (.int .i64 n1) ∧
 cond (n1 != (0 : Int))
 (K (.tuple #[(.string (bs [])), (.int .i64 n1)]) w1)
 (∃ (a1 : Option Addr) (l1 c1 : Nat),
  w1.cell? ⟨b1, 1, none⟩ = some (.slice a1 l1 c1) ∧
  rnS Tryd.prog (convert 59 9 (.slice a1 l1 c1)) w1 fun e2 w2 => ∃ (s1 : ByteArray),
  e2 = (.string s1) ∧
  K (.tuple #[(.string s1), (.int .i64 (0 : Int))]) w2)
def mRead_ann : List (Nat × Live) := []
theorem mRead_ok {b1 : Nat} {w : World} {K : Value → World → Prop} (h : mRead b1 w K) : Calls Tryd.prog 19 #[(.pointer (some ⟨b1, 0, none⟩))] w fun e w' => ∃ v, e = .returned v ∧ K v w' :=
  calls_sh (annL mRead_ann) Tryd.func19 (by kernel_rfl) (args := [(.pointer (some ⟨b1, 0, none⟩))]) (by kernel_rfl) h

-- (*saleroom/media.Medium).Size
def mSize (b1 : Nat) (w : World) (K : Value → World → Prop) : Prop :=
 ∃ (a1 : Option Addr) (l1 c1 : Nat),
 w.cell? ⟨b1, 1, none⟩ = some (.slice a1 l1 c1) ∧
 K (.int .i64 ((l1 : Nat) : Int)) w
def mSize_ann : List (Nat × Live) := []
theorem mSize_ok {b1 : Nat} {w : World} {K : Value → World → Prop} (h : mSize b1 w K) : Calls Tryd.prog 25 #[(.pointer (some ⟨b1, 0, none⟩))] w fun e w' => ∃ v, e = .returned v ∧ K v w' :=
  calls_sh (annL mSize_ann) Tryd.func25 (by kernel_rfl) (args := [(.pointer (some ⟨b1, 0, none⟩))]) (by kernel_rfl) h

-- (*saleroom/media.Medium).Durable
def mDurable (b1 : Nat) (w : World) (K : Value → World → Prop) : Prop :=
 ∃ (n1 : Int),
 w.cell? ⟨b1, 2, none⟩ = some (.int .i64 n1) ∧
 K (.int .i64 n1) w
def mDurable_ann : List (Nat × Live) := []
theorem mDurable_ok {b1 : Nat} {w : World} {K : Value → World → Prop} (h : mDurable b1 w K) : Calls Tryd.prog 26 #[(.pointer (some ⟨b1, 0, none⟩))] w fun e w' => ∃ v, e = .returned v ∧ K v w' :=
  calls_sh (annL mDurable_ann) Tryd.func26 (by kernel_rfl) (args := [(.pointer (some ⟨b1, 0, none⟩))]) (by kernel_rfl) h

-- (*saleroom/media.Medium).Crash
def mCrash (b1 : Nat) (n1 : Int) (w : World) (K : Value → World → Prop) : Prop :=
 ∃ (n2 : Int),
 w.drew.cell? ⟨b1, 2, none⟩ = some (.int .i64 n2) ∧
 ∃ (a1 : Option Addr) (l1 c1 : Nat),
 w.drew.cell? ⟨b1, 1, none⟩ = some (.slice a1 l1 c1) ∧
 ∃ (n3 : Int),
 w.drew.cell? ⟨b1, 2, none⟩ = some (.int .i64 n3) ∧
 Calls Tryd.prog 41 #[(.pointer (some ⟨b1, 0, none⟩)), (.int .i64 (IntKind.i64.wrap (n2 + (if (IntKind.i64.wrap (((l1 : Nat) : Int) - n3)) < (if (0 : Int) > n1 then (0 : Int) else n1) then (IntKind.i64.wrap (((l1 : Nat) : Int) - n3)) else (if (0 : Int) > n1 then (0 : Int) else n1)))))] w.drew fun e1 w1 => e1 = .returned (.tuple #[]) ∧
 ∃ (a2 : Option Addr) (l2 c2 : Nat),
 w1.cell? ⟨b1, 1, none⟩ = some (.slice a2 l2 c2) ∧
 stK w1 ⟨b1, 2, none⟩ (.int .i64 ((l2 : Nat) : Int)) fun w2 =>
 stK w2 ⟨b1, 3, none⟩ (.bool false) fun w3 =>
 stK w3 ⟨b1, 4, none⟩ (.bool false) fun w4 =>
 stK w4 ⟨b1, 5, none⟩ (.int .i64 (0 : Int)) fun w5 =>
 K (.tuple #[]) w5
def mCrash_ann : List (Nat × Live) := []
theorem mCrash_ok {b1 : Nat} {n1 : Int} {w : World} {K : Value → World → Prop} (h : mCrash b1 n1 w K) : Calls Tryd.prog 15 #[(.pointer (some ⟨b1, 0, none⟩)), (.int .i64 n1)] w fun e w' => ∃ v, e = .returned v ∧ K v w' :=
  calls_sh (annL mCrash_ann) Tryd.func15 (by kernel_rfl) (args := [(.pointer (some ⟨b1, 0, none⟩)), (.int .i64 n1)]) (by kernel_rfl) h

-- (*saleroom/media.Medium).Arm
def mArm (b1 : Nat) (n1 : Int) (w : World) (K : Value → World → Prop) : Prop :=
 Calls Tryd.prog 42 #[(.pointer (some ⟨b1, 0, none⟩))] w fun e1 w1 => ∃ (n2 : Int),
 e1 = .returned (.int .i64 n2) ∧
 cond (n2 == (0 : Int))
 (stK w1 ⟨b1, 4, none⟩ (.bool (decide (n1 ≥ (0 : Int)))) fun w2 =>
  stK w2 ⟨b1, 5, none⟩ (.int .i64 (if (0 : Int) > n1 then (0 : Int) else n1)) fun w3 =>
  K (.tuple #[]) w3)
 (K (.tuple #[]) w1)
def mArm_ann : List (Nat × Live) := []
theorem mArm_ok {b1 : Nat} {n1 : Int} {w : World} {K : Value → World → Prop} (h : mArm b1 n1 w K) : Calls Tryd.prog 28 #[(.pointer (some ⟨b1, 0, none⟩)), (.int .i64 n1)] w fun e w' => ∃ v, e = .returned v ∧ K v w' :=
  calls_sh (annL mArm_ann) Tryd.func28 (by kernel_rfl) (args := [(.pointer (some ⟨b1, 0, none⟩)), (.int .i64 n1)]) (by kernel_rfl) h

-- saleroom/media.New
def mNew (n1 : Int) (w : World) (K : Value → World → Prop) : Prop :=
 ∃ J1 : Bool → World → Prop, (∀ (w1 : World) (b1 : Bool), J1 b1 w1 → ∀ x1 : Nat → Value,
  cond b1
  (K (.tuple #[(.pointer none), (.int .i64 (4 : Int))]) w1)
  (newK w1 (.cells #[(.int .i64 n1), (.slice none 0 0), (.int .i64 (0 : Int)), (.bool false), (.bool false), (.int .i64 (0 : Int))] 61) fun r1 w2 =>
   K (.tuple #[(.pointer (some ⟨r1, 0, none⟩)), (.int .i64 (0 : Int))]) w2)) ∧
 cond (decide (n1 < (1 : Int)))
 (J1 true w)
 (J1 (decide (n1 > (262144 : Int))) w)
def mNew_ann : List (Nat × Live) := [(6, [(9, .s (.bool))])]
theorem mNew_ok {n1 : Int} {w : World} {K : Value → World → Prop} (h : mNew n1 w K) : Calls Tryd.prog 11 #[(.int .i64 n1)] w fun e w' => ∃ v, e = .returned v ∧ K v w' :=
  calls_sh (annL mNew_ann) Tryd.func11 (by kernel_rfl) (args := [(.int .i64 n1)]) (by kernel_rfl) h

end Go.Proofs.YtniehglfkacjjaaDoor

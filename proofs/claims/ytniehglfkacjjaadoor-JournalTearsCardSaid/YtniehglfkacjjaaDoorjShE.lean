/- What each function of the seat comes to, printed by program (sh.py); the kernel holds each print against the loaded code. -/
import Derived.Test.YtniehglfkacjjaaDoorVc5
import Derived.Test.YtniehglfkacjjaaDoorProg
import Derived.KernelRfl
set_option linter.unusedVariables false
namespace Go.Proofs.YtniehglfkacjjaaDoor
open Go Go.Vc
-- saleroom/journal.code
def jCodeE (n1 : Int) (w : World) (K : Value → World → Prop) : Prop :=
 newK w (.cells #[(.int .i64 (0 : Int))] 25) fun r1 w1 =>
 Calls Tryd.prog 69 #[(.iface 25 (.int .i64 n1)), (.iface 99 (.pointer (some ⟨r1, 0, none⟩)))] w1 fun e1 w2 => ∃ (b1 : Bool),
 e1 = .returned (.bool b1) ∧
 cond b1
 (∃ (n2 : Int),
  w2.cell? ⟨r1, 0, none⟩ = some (.int .i64 n2) ∧
  K (.int .i64 n2) w2)
 (K (.int .i64 (0 : Int)) w2)
def jCodeE_ann : List (Nat × Live) := []
theorem jCodeE_ok {n1 : Int} {w : World} {K : Value → World → Prop} (h : jCodeE n1 w K) : Calls Tryd.prog 58 #[(.iface 25 (.int .i64 n1))] w fun e w' => ∃ v, e = .returned v ∧ K v w' :=
  calls_sh (annL jCodeE_ann) Tryd.func58 (by kernel_rfl) (args := [(.iface 25 (.int .i64 n1))]) (by kernel_rfl) h

end Go.Proofs.YtniehglfkacjjaaDoor

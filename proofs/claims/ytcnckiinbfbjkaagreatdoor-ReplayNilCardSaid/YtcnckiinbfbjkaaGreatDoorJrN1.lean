import Derived.Test.YtcnckiinbfbjkaaGreatDoorrWs
namespace Go.Proofs.YtcnckiinbfbjkaaGreatDoor
open Go Go.Vc Go.ChangeShapes Go.WideShapes Go.ChangeAt Go.RowKit
theorem nil_joined : joinedFacts Tryz.prog 4 Tryz.f4 Rows.replayNilSpec Rows.replayNilRow = true := of_decide_eq_true (by kernel_rfl)
theorem nil_named : Tryz.prog.funcNamed Rows.replayNilRow.func = some 4 := by kernel_rfl
end Go.Proofs.YtcnckiinbfbjkaaGreatDoor

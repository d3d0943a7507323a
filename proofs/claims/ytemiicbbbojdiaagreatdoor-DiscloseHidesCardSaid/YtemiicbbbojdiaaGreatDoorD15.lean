import Derived.Test.YtemiicbbbojdiaaGreatDoorD14
set_option linter.unusedVariables false
set_option maxRecDepth 100000
namespace Go.Proofs.YtemiicbbbojdiaaGreatDoor.W45
open Go Go.Vc Go.Gx _root_.Go.Proofs.Tryz
theorem a0:q1.xD (N8 (Oa 139) l0 (q0.e 139) [] q0.h q0.n)=q1.want:=by kernel_rfl

import Derived.Test.YtemiicbbbojdiaaGreatDoorD14
set_option linter.unusedVariables false
set_option maxRecDepth 100000
namespace Go.Proofs.YtemiicbbbojdiaaGreatDoor.W45
open Go Go.Vc Go.Gx _root_.Go.Proofs.Tryz
theorem a1:q2.xD (Wv la (q1.e 139) q1.h q1.n)=q2.want:=by kernel_rfl

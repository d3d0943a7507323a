import Derived.Test.YtemiicbbbojdiaaGreatDoorD14
set_option linter.unusedVariables false
set_option maxRecDepth 100000
namespace Go.Proofs.YtemiicbbbojdiaaGreatDoor.W45
open Go Go.Vc Go.Gx _root_.Go.Proofs.Tryz
theorem a2:q3.xD (Wv lb (q2.e 139) q2.h q2.n)=q3.want:=by kernel_rfl

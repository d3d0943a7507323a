import Derived.Test.YtemiicbbbojdiaaGreatDoorT07
set_option linter.unusedVariables false
set_option maxRecDepth 100000
namespace Go.Proofs.YtemiicbbbojdiaaGreatDoor.W45
open Go Go.Vc Go.Gx _root_.Go.Proofs.Tryz
theorem az:qU prog Tryz.f9 (rS 139 cz (q3.e 139) [] q3.h q3.n)=true:=by kernel_rfl
end Go.Proofs.YtemiicbbbojdiaaGreatDoor.W45

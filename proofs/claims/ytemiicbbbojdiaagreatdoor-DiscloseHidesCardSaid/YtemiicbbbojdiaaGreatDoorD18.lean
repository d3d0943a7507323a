import Derived.Test.YtemiicbbbojdiaaGreatDoorD14
set_option linter.unusedVariables false
set_option maxRecDepth 100000
namespace Go.Proofs.YtemiicbbbojdiaaGreatDoor.W45
open Go Go.Vc Go.Gx _root_.Go.Proofs.Tryz
theorem az:Nk prog Tryz.f9 (Oa 139 cz (q3.e 139) [] q3.h q3.n)=true:=by kernel_rfl

import Derived.Test.YtjpbdjhaajdepaaGreatDoorProg
import Derived.KernelRfl
import Derived.Test.YtjpbdjhaajdepaaGreatDoorM38
set_option linter.unusedVariables false
set_option maxRecDepth 100000
namespace Go.Proofs.YtjpbdjhaajdepaaGreatDoor
open Go Go.Vc Go.Gx Tryz
noncomputable def xt:XT:=⟨79,250,211,131,#[3],85,5⟩
noncomputable def Ud:aY:=λ f args h n=>QG xt args h n f
theorem Su:Pn (Pf prog Ud 100000 100 6 [] (Tr.full 9) 1)=true:=by kernel_rfl
end Go.Proofs.YtjpbdjhaajdepaaGreatDoor

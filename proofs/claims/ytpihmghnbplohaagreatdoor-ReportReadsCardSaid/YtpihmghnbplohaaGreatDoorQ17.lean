import Derived.Test.YtpihmghnbplohaaGreatDoorQ16
set_option linter.unusedVariables false
set_option maxRecDepth 100000
namespace Go.Proofs.YtpihmghnbplohaaGreatDoor
open Go Go.Vc Go.Gx Tryz
noncomputable def xt:XT:=⟨157,301,262,256,#[3],125,5⟩
noncomputable def YF:br:=λ f args h n=>U5 xt args h n f
theorem WU:Tx (Ts prog YF 100000 100 19 [] (Tr.full 9) 1)=true:=by kernel_rfl

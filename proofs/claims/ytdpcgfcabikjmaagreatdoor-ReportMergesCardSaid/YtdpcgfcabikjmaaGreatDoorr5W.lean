import Derived.Test.YtdpcgfcabikjmaaGreatDoorGx11
import Derived.Test.YtdpcgfcabikjmaaGreatDoorProg
import Derived.KernelRfl
namespace Go.Proofs.YtdpcgfcabikjmaaGreatDoor
open Go Go.Vc Go.Gx
noncomputable def xt : XT := ⟨69, 257, 218, 117, #[3], 56, 5⟩
noncomputable def ext0 : CallFn := fun f args h n => gext xt args h n f
theorem awake : isYes (fcall Tryz.prog ext0 100000 100 7 [] (Tr.full 9) 1) = true := by kernel_rfl
end Go.Proofs.YtdpcgfcabikjmaaGreatDoor

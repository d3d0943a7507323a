import Derived.Test.YtemiicbbbojdiaaGreatDoorT08
import Derived.Test.YtemiicbbbojdiaaGreatDoorT09
import Derived.Test.YtemiicbbbojdiaaGreatDoorT10
import Derived.Test.YtemiicbbbojdiaaGreatDoorT11
set_option linter.unusedVariables false
set_option maxRecDepth 100000
namespace Go.Proofs.YtemiicbbbojdiaaGreatDoor.W45
open Go Go.Vc Go.Gx _root_.Go.Proofs.Tryz
theorem k1:q1.ok=true:=by kernel_rfl
theorem k2:q2.ok=true:=by kernel_rfl
theorem k3:q3.ok=true:=by kernel_rfl
theorem hb:Tryz.f9.body=some (yD l0 (Code.seq (.region 1 o1 false) cz)):=by kernel_rfl
theorem hn:Tryz.f9.ntmps=139:=by kernel_rfl
theorem ho:o1.toList=la++lb:=(List.take_append_drop 4 _).symm
end Go.Proofs.YtemiicbbbojdiaaGreatDoor.W45
namespace Go.Proofs.YtemiicbbbojdiaaGreatDoor
open Go Go.Vc Go.Gx _root_.Go.Proofs.Tryz
open W45 in
theorem uU(w:World):CP 9 #[] w (λ r w'=>r=.bool true/\an w w' []):=by
  refine(j3 (iy (jN w) (F:=100000) 100) (jN w) (F:=100000) func9 hb λ a g=>?_).mono λ _ _ ⟨h1,h2⟩=>⟨_,h1,rfl,h2⟩;rw[hn] at g;refine rX (o7 w 139) l0 k1 a0 g λ b0 v0 g0=>?_;refine nZ (p:=q1) (q:=q2) (r:=q3) (iy (jN w) (F:=100000) 100) (jN w) la lb ho k2 k3 a1 a2 g0 λ b2 v2 g2=>?_;have hl:cm prog w Tryz.f9.ntmps (rS 139 cz) cz:=by rw[hn]; exact o7 w 139 cz
  exact uu (cd:=rS 139 cz) hl (p:=q3) (by rw[hn]; exact az) (by rw[hn]; exact g2)
#print axioms uU
end Go.Proofs.YtemiicbbbojdiaaGreatDoor

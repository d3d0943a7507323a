import Derived.Test.YtdpcgfcabikjmaaGreatDoorr5G
import Derived.Test.YtdpcgfcabikjmaaGreatDoorTie
import Derived.Test.YtdpcgfcabikjmaaGreatDoorCards
import Derived.ProofKit
import Derived.OpenShut
import Derived.ChangeOld
import Derived.ChangeSlices
import Derived.Below
import Derived.Lay
import Derived.Lib.SmallJoins
import Derived.Lib.LaidTab
import Derived.ChangeSame
import Derived.ChangeVars
import Derived.JoinedOf
import Derived.LaidLaws
import Derived.LaidHandle
import Derived.Stop.Joined
import Derived.Stop.LaidErr
import Derived.SevenTiedAt
namespace Go.Proofs.YtdpcgfcabikjmaaGreatDoor
open Go Go.Vc Go.ChangeShapes Go.WideShapes Go.ChangeAt Go.RowKit

theorem own : ownKnob Tryz.prog.godebug = none := by kernel_rfl
theorem laidOut : laidOutB Tryz.prog = true := by kernel_rfl
theorem below_of {w w' : World} (h : Chg w w' []) : Below w.heap.size w w' := ⟨h.env.os, h.env.tape, h.env.out, h.size, fun k hk => h.same k hk (by simp)⟩

theorem metPlain (P : Program) (laid : List (String × DataW Unit)) (w : World) (h : (laid.all fun x => x.2.handleName?.isNone) = true) : laidMetH P laid w = laidMet P laid w := by
  have e : (laid.filter fun x => x.2.handleName?.isSome) = [] := by
    rw [List.filter_eq_nil_iff]
    intro x hx hs
    have := List.all_eq_true.1 h x hx
    rw [Option.isNone_iff_eq_none] at this
    rw [this] at hs
    cases hs
  unfold laidMetH
  rw [e]

/-- The listed variables. -/
def dataL : List (String × DataW Unit) := Rows.reportTextsRow.laid.filter fun x => x.2.handleName?.isNone

/-- A world in which all listed variables are laid. -/
noncomputable def laidWorld (os : Os) : World := (World.holding Tryz.prog os ⟨#[], #[], []⟩).layVars Tryz.prog dataL
theorem laidWorld_os (os : Os) : (laidWorld os).os = os := (World.layVars_os _ _ _).trans rfl

theorem laid_data (os : Os) (args : Array Value) : laidMet Tryz.prog dataL ((laidWorld os).forCall (fun _ _ => 0) ⟨#[], args, []⟩).memory := by
  have e1 : (dataL.filter fun x => (dataL.map (·.1)).contains x.1) = dataL := List.filter_eq_self.2 fun x hx => List.contains_iff_mem.2 (List.mem_map.2 ⟨x, hx, rfl⟩)
  have e2 : (dataL.filter fun x => !(dataL.map (·.1)).contains x.1) = [] := List.filter_eq_nil_iff.2 fun x hx => by rw [List.contains_iff_mem.2 (List.mem_map.2 ⟨x, hx, rfl⟩)]; simp
  have h : laidMet Tryz.prog dataL (laidWorld os) := laidMet_layVars (w0 := World.holding Tryz.prog os ⟨#[], #[], []⟩) (dataL.map (·.1)) [] (by rw [e1]; rfl) (by rw [e1]; kernel_rfl) (by rw [e1]; kernel_rfl) (by rw [e2]; exact LaidIn.none)
  exact h.of_heap (by simp [World.memory, World.forCall, Input.heap])

theorem noHandle : (Rows.reportTextsRow.laid.all fun x => x.2.handleName?.isNone) = true := by kernel_rfl
theorem laidWorld_met (os : Os) (args : Array Value) : laidMetH Tryz.prog Rows.reportTextsRow.laid ((laidWorld os).forCall (fun _ _ => 0) ⟨#[], args, []⟩).memory := by
  rw [metPlain _ _ _ noHandle]
  have e : dataL = Rows.reportTextsRow.laid := List.filter_eq_self.2 (List.all_eq_true.1 noHandle)
  rw [← e]; exact laid_data os args

theorem tab_of {W : World} (h : laidMetH Tryz.prog Rows.reportTextsRow.laid W) : Tab W := by
  rw [metPlain _ _ _ noHandle] at h
  have h2 : laidMet Tryz.prog (("internal/strconv.uint64pow10", Lib.tabData .u64 Lib.pow10Tab) :: Rows.reportTextsRow.laid.drop 3) W := by
    have := h.tail.tail
    exact this
  exact Lib.tabIs_of_head (g := 0) (by kernel_rfl) (by kernel_rfl) (t := 180) (e := 81) (n := 20) (by kernel_rfl) (by kernel_rfl) (by kernel_rfl) (by kernel_rfl) h2

end Go.Proofs.YtdpcgfcabikjmaaGreatDoor

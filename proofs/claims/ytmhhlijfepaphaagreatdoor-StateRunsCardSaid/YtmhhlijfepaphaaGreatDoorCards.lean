/-
  DERIVED. GIVEN WITH THE SEED: THE CARDS: each row of YtmhhlijfepaphaaGreatDoorRows.lean that lists a variable, with what it lists TIED to the program's text (the seventh form; the later family's looks); each row that meets fmt, with fmt's text TOLD by the authors' own Lean function (tested against real Go, not proved from fmt's source: count such statements apart). THE CARD IS WHAT COUNTS. Prove the row's statement (the work); the ties are given (YtmhhlijfepaphaaGreatDoorTie.lean); close each card by the builder's one call (the guide's Derived/Test/ToyasCard.lean, 'card_holds'). Laid BY PROGRAM, IN A SANDBOX (cutbox-door.mjs). By AI agents, Wed Nov 11 2026. No macro, syntax, notation, axiom, sorry.
-/
import Derived.Test.YtmhhlijfepaphaaGreatDoorRows
import GoSem.ClaimSeven
namespace Go.Proofs.YtmhhlijfepaphaaGreatDoor
namespace Rows

/-- THE TIED CARD OF 'saleroomlaw44.StateRuns'. -/
def stateRunsCard : Claim7 := { stood := { row := stateRunsRow, standIns := [], harness := (true, "dca6d89dad1658def55491488d0ad7935d584a13507a6c23d143656be7231c6f"), looks := true }, kinds := [], alts := [], laidByText := true, laidKinds := [.data, .data, .data, .data, .sentinel, .sentinel, .pinned], laidTests := true, laidLooks := .later }
def StateRunsCardSaid : Prop := Claim7.holds Tryz.pinned (.plain (OpenSpec.ofChange stateRunsSpec)) stateRunsCard

/-- THE TIED CARD OF 'saleroomlaw44.StateDeterministic'. -/
def stateDeterministicCard : Claim7 := { stood := { row := stateDeterministicRow, standIns := [], harness := (true, "dca6d89dad1658def55491488d0ad7935d584a13507a6c23d143656be7231c6f"), looks := true }, kinds := [], alts := [], laidByText := true, laidKinds := [.data, .data, .data, .data, .sentinel, .sentinel, .pinned], laidTests := true, laidLooks := .later }
def StateDeterministicCardSaid : Prop := Claim7.holds Tryz.pinned (.plain (OpenSpec.ofChange stateDeterministicSpec)) stateDeterministicCard

/-- THE TIED CARD OF 'saleroomlaw44.StateCopies'. -/
def stateCopiesCard : Claim7 := { stood := { row := stateCopiesRow, standIns := [], harness := (true, "dca6d89dad1658def55491488d0ad7935d584a13507a6c23d143656be7231c6f"), looks := true }, kinds := [], alts := [], laidByText := true, laidKinds := [.data, .data, .data, .data, .sentinel, .sentinel, .pinned], laidTests := true, laidLooks := .later }
def StateCopiesCardSaid : Prop := Claim7.holds Tryz.pinned (.plain (OpenSpec.ofChange stateCopiesSpec)) stateCopiesCard

/-- THE SECOND FORM's CARD OF 'saleroomlaw44.StateRuns'. -/
def stateRunsUptoCard : Claim7 := { stood := { row := stateRunsUptoRow, standIns := [], harness := (true, "dca6d89dad1658def55491488d0ad7935d584a13507a6c23d143656be7231c6f"), looks := true }, kinds := [], alts := [], laidByText := true, laidKinds := [.data, .data, .data, .data, .sentinel, .sentinel, .pinned], laidTests := true, laidLooks := .later }
def StateRunsUptoCardSaid : Prop := Claim7.holds Tryz.pinned (.plain (OpenSpec.upto stateRunsSpec)) stateRunsUptoCard

/-- THE SECOND FORM's CARD OF 'saleroomlaw44.StateDeterministic'. -/
def stateDeterministicUptoCard : Claim7 := { stood := { row := stateDeterministicUptoRow, standIns := [], harness := (true, "dca6d89dad1658def55491488d0ad7935d584a13507a6c23d143656be7231c6f"), looks := true }, kinds := [], alts := [], laidByText := true, laidKinds := [.data, .data, .data, .data, .sentinel, .sentinel, .pinned], laidTests := true, laidLooks := .later }
def StateDeterministicUptoCardSaid : Prop := Claim7.holds Tryz.pinned (.plain (OpenSpec.upto stateDeterministicSpec)) stateDeterministicUptoCard

/-- THE SECOND FORM's CARD OF 'saleroomlaw44.StateCopies'. -/
def stateCopiesUptoCard : Claim7 := { stood := { row := stateCopiesUptoRow, standIns := [], harness := (true, "dca6d89dad1658def55491488d0ad7935d584a13507a6c23d143656be7231c6f"), looks := true }, kinds := [], alts := [], laidByText := true, laidKinds := [.data, .data, .data, .data, .sentinel, .sentinel, .pinned], laidTests := true, laidLooks := .later }
def StateCopiesUptoCardSaid : Prop := Claim7.holds Tryz.pinned (.plain (OpenSpec.upto stateCopiesSpec)) stateCopiesUptoCard
end Rows
end Go.Proofs.YtmhhlijfepaphaaGreatDoor

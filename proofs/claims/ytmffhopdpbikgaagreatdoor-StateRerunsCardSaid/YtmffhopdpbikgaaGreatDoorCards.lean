/-
  DERIVED. GIVEN WITH THE SEED: THE CARDS: each row of YtmffhopdpbikgaaGreatDoorRows.lean that lists a variable, with what it lists TIED to the program's text (the seventh form; the later family's looks); each row that meets fmt, with fmt's text TOLD by the authors' own Lean function (tested against real Go, not proved from fmt's source: count such statements apart). THE CARD IS WHAT COUNTS. Prove the row's statement (the work); the ties are given (YtmffhopdpbikgaaGreatDoorTie.lean); close each card by the builder's one call (the guide's Derived/Test/ToyasCard.lean, 'card_holds'). Laid BY PROGRAM, IN A SANDBOX (cutbox-door.mjs). By AI agents, Wed Nov 11 2026. No macro, syntax, notation, axiom, sorry.
-/
import Derived.Test.YtmffhopdpbikgaaGreatDoorRows
import GoSem.ClaimSeven
namespace Go.Proofs.YtmffhopdpbikgaaGreatDoor
namespace Rows

/-- THE TIED CARD OF 'saleroomlaw44.StateDigests'. -/
def stateDigestsCard : Claim7 := { stood := { row := stateDigestsRow, standIns := [], harness := (true, "ea20c93d59f869202421a2baed335480b583cfdfa3358f62e3739f1b885a44bc"), looks := true }, kinds := [], alts := [], laidByText := true, laidKinds := [.data, .data, .data, .data, .sentinel, .sentinel, .pinned], laidTests := true, laidLooks := .later }
def StateDigestsCardSaid : Prop := Claim7.holds Tryz.pinned (.plain (OpenSpec.ofChange stateDigestsSpec)) stateDigestsCard

/-- THE TIED CARD OF 'saleroomlaw44.StateDisqualifies'. -/
def stateDisqualifiesCard : Claim7 := { stood := { row := stateDisqualifiesRow, standIns := [], harness := (true, "ea20c93d59f869202421a2baed335480b583cfdfa3358f62e3739f1b885a44bc"), looks := true }, kinds := [], alts := [], laidByText := true, laidKinds := [.data, .data, .data, .data, .sentinel, .sentinel, .pinned], laidTests := true, laidLooks := .later }
def StateDisqualifiesCardSaid : Prop := Claim7.holds Tryz.pinned (.plain (OpenSpec.ofChange stateDisqualifiesSpec)) stateDisqualifiesCard

/-- THE TIED CARD OF 'saleroomlaw44.StateReruns'. -/
def stateRerunsCard : Claim7 := { stood := { row := stateRerunsRow, standIns := [], harness := (true, "ea20c93d59f869202421a2baed335480b583cfdfa3358f62e3739f1b885a44bc"), looks := true }, kinds := [], alts := [], laidByText := true, laidKinds := [.data, .data, .data, .data, .sentinel, .sentinel, .pinned], laidTests := true, laidLooks := .later }
def StateRerunsCardSaid : Prop := Claim7.holds Tryz.pinned (.plain (OpenSpec.ofChange stateRerunsSpec)) stateRerunsCard

/-- THE SECOND FORM's CARD OF 'saleroomlaw44.StateDigests'. -/
def stateDigestsUptoCard : Claim7 := { stood := { row := stateDigestsUptoRow, standIns := [], harness := (true, "ea20c93d59f869202421a2baed335480b583cfdfa3358f62e3739f1b885a44bc"), looks := true }, kinds := [], alts := [], laidByText := true, laidKinds := [.data, .data, .data, .data, .sentinel, .sentinel, .pinned], laidTests := true, laidLooks := .later }
def StateDigestsUptoCardSaid : Prop := Claim7.holds Tryz.pinned (.plain (OpenSpec.upto stateDigestsSpec)) stateDigestsUptoCard

/-- THE SECOND FORM's CARD OF 'saleroomlaw44.StateDisqualifies'. -/
def stateDisqualifiesUptoCard : Claim7 := { stood := { row := stateDisqualifiesUptoRow, standIns := [], harness := (true, "ea20c93d59f869202421a2baed335480b583cfdfa3358f62e3739f1b885a44bc"), looks := true }, kinds := [], alts := [], laidByText := true, laidKinds := [.data, .data, .data, .data, .sentinel, .sentinel, .pinned], laidTests := true, laidLooks := .later }
def StateDisqualifiesUptoCardSaid : Prop := Claim7.holds Tryz.pinned (.plain (OpenSpec.upto stateDisqualifiesSpec)) stateDisqualifiesUptoCard

/-- THE SECOND FORM's CARD OF 'saleroomlaw44.StateReruns'. -/
def stateRerunsUptoCard : Claim7 := { stood := { row := stateRerunsUptoRow, standIns := [], harness := (true, "ea20c93d59f869202421a2baed335480b583cfdfa3358f62e3739f1b885a44bc"), looks := true }, kinds := [], alts := [], laidByText := true, laidKinds := [.data, .data, .data, .data, .sentinel, .sentinel, .pinned], laidTests := true, laidLooks := .later }
def StateRerunsUptoCardSaid : Prop := Claim7.holds Tryz.pinned (.plain (OpenSpec.upto stateRerunsSpec)) stateRerunsUptoCard
end Rows
end Go.Proofs.YtmffhopdpbikgaaGreatDoor

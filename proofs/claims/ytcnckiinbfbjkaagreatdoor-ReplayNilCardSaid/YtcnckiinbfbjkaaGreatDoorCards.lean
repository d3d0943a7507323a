/-
  DERIVED. GIVEN WITH THE SEED: THE CARDS: each row of YtcnckiinbfbjkaaGreatDoorRows.lean that lists a variable, with what it lists TIED to the program's text (the seventh form; the later family's looks); each row that meets fmt, with fmt's text TOLD by the authors' own Lean function (tested against real Go, not proved from fmt's source: count such statements apart). THE CARD IS WHAT COUNTS. Prove the row's statement (the work); the ties are given (YtcnckiinbfbjkaaGreatDoorTie.lean); close each card by the builder's one call (the guide's Derived/Test/ToyasCard.lean, 'card_holds'). Laid BY PROGRAM, IN A SANDBOX (cutbox-door.mjs). By AI agents, Wed Nov 11 2026. No macro, syntax, notation, axiom, sorry.
-/
import Derived.Test.YtcnckiinbfbjkaaGreatDoorRows
import GoSem.ClaimSeven
namespace Go.Proofs.YtcnckiinbfbjkaaGreatDoor
namespace Rows

/-- THE TIED CARD OF 'saleroomlaw47.ReplayCompares'. -/
def replayComparesCard : Claim7 := { stood := { row := replayComparesRow, standIns := [], harness := (true, "d85c1b0d27b924c8a15e961be5528630300fcdee5057973d5099b6b2aca4b8d6"), looks := true }, kinds := [], alts := [], laidByText := true, laidKinds := [.data, .data, .data, .data, .handle, .sentinel, .sentinel, .pinned], laidTests := true, laidLooks := .later }
def ReplayComparesCardSaid : Prop := Claim7.holds Tryz.pinned (.plain (OpenSpec.ofChange replayComparesSpec)) replayComparesCard

/-- THE TIED CARD OF 'saleroomlaw47.ReplayNil'. -/
def replayNilCard : Claim7 := { stood := { row := replayNilRow, standIns := [], harness := (true, "d85c1b0d27b924c8a15e961be5528630300fcdee5057973d5099b6b2aca4b8d6"), looks := true }, kinds := [], alts := [], laidByText := true, laidKinds := [.data, .data, .data, .data, .handle, .sentinel, .sentinel, .pinned], laidTests := true, laidLooks := .later }
def ReplayNilCardSaid : Prop := Claim7.holds Tryz.pinned (.plain (OpenSpec.ofChange replayNilSpec)) replayNilCard

/-- THE SECOND FORM's CARD OF 'saleroomlaw47.ReplayCompares'. -/
def replayComparesUptoCard : Claim7 := { stood := { row := replayComparesUptoRow, standIns := [], harness := (true, "d85c1b0d27b924c8a15e961be5528630300fcdee5057973d5099b6b2aca4b8d6"), looks := true }, kinds := [], alts := [], laidByText := true, laidKinds := [.data, .data, .data, .data, .handle, .sentinel, .sentinel, .pinned], laidTests := true, laidLooks := .later }
def ReplayComparesUptoCardSaid : Prop := Claim7.holds Tryz.pinned (.plain (OpenSpec.upto replayComparesSpec)) replayComparesUptoCard

/-- THE SECOND FORM's CARD OF 'saleroomlaw47.ReplayNil'. -/
def replayNilUptoCard : Claim7 := { stood := { row := replayNilUptoRow, standIns := [], harness := (true, "d85c1b0d27b924c8a15e961be5528630300fcdee5057973d5099b6b2aca4b8d6"), looks := true }, kinds := [], alts := [], laidByText := true, laidKinds := [.data, .data, .data, .data, .handle, .sentinel, .sentinel, .pinned], laidTests := true, laidLooks := .later }
def ReplayNilUptoCardSaid : Prop := Claim7.holds Tryz.pinned (.plain (OpenSpec.upto replayNilSpec)) replayNilUptoCard
end Rows
end Go.Proofs.YtcnckiinbfbjkaaGreatDoor

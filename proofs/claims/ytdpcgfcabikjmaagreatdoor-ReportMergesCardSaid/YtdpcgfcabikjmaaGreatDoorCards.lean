/-
  DERIVED. GIVEN WITH THE SEED: THE CARDS: each row of YtdpcgfcabikjmaaGreatDoorRows.lean that lists a variable, with what it lists TIED to the program's text (the seventh form; the later family's looks); each row that meets fmt, with fmt's text TOLD by the authors' own Lean function (tested against real Go, not proved from fmt's source: count such statements apart). THE CARD IS WHAT COUNTS. Prove the row's statement (the work); the ties are given (YtdpcgfcabikjmaaGreatDoorTie.lean); close each card by the builder's one call (the guide's Derived/Test/ToyasCard.lean, 'card_holds'). Laid BY PROGRAM, IN A SANDBOX (cutbox-door.mjs). By AI agents, Wed Nov 11 2026. No macro, syntax, notation, axiom, sorry.
-/
import Derived.Test.YtdpcgfcabikjmaaGreatDoorRows
import GoSem.ClaimSeven
namespace Go.Proofs.YtdpcgfcabikjmaaGreatDoor
namespace Rows

/-- THE TIED CARD OF 'saleroomlaw55.ReportTexts'. -/
def reportTextsCard : Claim7 := { stood := { row := reportTextsRow, standIns := [], harness := (true, "438a06ca7fe4ce6b4b4b6d9ce0020d59122ddd86e656666e0319dcb62accf4a7"), looks := true }, kinds := [], alts := [], laidByText := true, laidKinds := [.data, .data, .data, .data, .sentinel, .sentinel, .pinned], laidTests := true, laidLooks := .later }
def ReportTextsCardSaid : Prop := Claim7.holds Tryz.pinned (.plain (OpenSpec.ofChange reportTextsSpec)) reportTextsCard

/-- THE TIED CARD OF 'saleroomlaw55.ReportMerges'. -/
def reportMergesCard : Claim7 := { stood := { row := reportMergesRow, standIns := [], harness := (true, "438a06ca7fe4ce6b4b4b6d9ce0020d59122ddd86e656666e0319dcb62accf4a7"), looks := true }, kinds := [], alts := [], laidByText := true, laidKinds := [.data, .data, .data, .data, .sentinel, .sentinel, .pinned], laidTests := true, laidLooks := .later }
def ReportMergesCardSaid : Prop := Claim7.holds Tryz.pinned (.plain (OpenSpec.ofChange reportMergesSpec)) reportMergesCard

/-- THE SECOND FORM's CARD OF 'saleroomlaw55.ReportTexts'. -/
def reportTextsUptoCard : Claim7 := { stood := { row := reportTextsUptoRow, standIns := [], harness := (true, "438a06ca7fe4ce6b4b4b6d9ce0020d59122ddd86e656666e0319dcb62accf4a7"), looks := true }, kinds := [], alts := [], laidByText := true, laidKinds := [.data, .data, .data, .data, .sentinel, .sentinel, .pinned], laidTests := true, laidLooks := .later }
def ReportTextsUptoCardSaid : Prop := Claim7.holds Tryz.pinned (.plain (OpenSpec.upto reportTextsSpec)) reportTextsUptoCard

/-- THE SECOND FORM's CARD OF 'saleroomlaw55.ReportMerges'. -/
def reportMergesUptoCard : Claim7 := { stood := { row := reportMergesUptoRow, standIns := [], harness := (true, "438a06ca7fe4ce6b4b4b6d9ce0020d59122ddd86e656666e0319dcb62accf4a7"), looks := true }, kinds := [], alts := [], laidByText := true, laidKinds := [.data, .data, .data, .data, .sentinel, .sentinel, .pinned], laidTests := true, laidLooks := .later }
def ReportMergesUptoCardSaid : Prop := Claim7.holds Tryz.pinned (.plain (OpenSpec.upto reportMergesSpec)) reportMergesUptoCard
end Rows
end Go.Proofs.YtdpcgfcabikjmaaGreatDoor

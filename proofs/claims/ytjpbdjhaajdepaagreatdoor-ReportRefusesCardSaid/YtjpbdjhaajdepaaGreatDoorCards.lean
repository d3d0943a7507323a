/-
  DERIVED. GIVEN WITH THE SEED: THE CARDS: each row of YtjpbdjhaajdepaaGreatDoorRows.lean that lists a variable, with what it lists TIED to the program's text (the seventh form; the later family's looks); each row that meets fmt, with fmt's text TOLD by the authors' own Lean function (tested against real Go, not proved from fmt's source: count such statements apart). THE CARD IS WHAT COUNTS. Prove the row's statement (the work); the ties are given (YtjpbdjhaajdepaaGreatDoorTie.lean); close each card by the builder's one call (the guide's Derived/Test/ToyasCard.lean, 'card_holds'). Laid BY PROGRAM, IN A SANDBOX (cutbox-door.mjs). By AI agents, Wed Nov 11 2026. No macro, syntax, notation, axiom, sorry.
-/
import Derived.Test.YtjpbdjhaajdepaaGreatDoorRows
import GoSem.ClaimSeven
namespace Go.Proofs.YtjpbdjhaajdepaaGreatDoor
namespace Rows

/-- THE TIED CARD OF 'saleroomlaw55.ReportTotals'. -/
def reportTotalsCard : Claim7 := { stood := { row := reportTotalsRow, standIns := [], harness := (true, "724e7ff7d7ba0d8f980c54baf852e831ce788c03628d0980c13f01a665a8e989"), looks := true }, kinds := [], alts := [], laidByText := true, laidKinds := [.data, .data, .data, .data, .sentinel, .sentinel, .pinned], laidTests := true, laidLooks := .later }
def ReportTotalsCardSaid : Prop := Claim7.holds Tryz.pinned (.plain (OpenSpec.ofChange reportTotalsSpec)) reportTotalsCard

/-- THE TIED CARD OF 'saleroomlaw55.ReportRefuses'. -/
def reportRefusesCard : Claim7 := { stood := { row := reportRefusesRow, standIns := [], harness := (true, "724e7ff7d7ba0d8f980c54baf852e831ce788c03628d0980c13f01a665a8e989"), looks := true }, kinds := [], alts := [], laidByText := true, laidKinds := [.data, .data, .data, .data, .sentinel, .sentinel, .pinned], laidTests := true, laidLooks := .later }
def ReportRefusesCardSaid : Prop := Claim7.holds Tryz.pinned (.plain (OpenSpec.ofChange reportRefusesSpec)) reportRefusesCard

/-- THE SECOND FORM's CARD OF 'saleroomlaw55.ReportTotals'. -/
def reportTotalsUptoCard : Claim7 := { stood := { row := reportTotalsUptoRow, standIns := [], harness := (true, "724e7ff7d7ba0d8f980c54baf852e831ce788c03628d0980c13f01a665a8e989"), looks := true }, kinds := [], alts := [], laidByText := true, laidKinds := [.data, .data, .data, .data, .sentinel, .sentinel, .pinned], laidTests := true, laidLooks := .later }
def ReportTotalsUptoCardSaid : Prop := Claim7.holds Tryz.pinned (.plain (OpenSpec.upto reportTotalsSpec)) reportTotalsUptoCard

/-- THE SECOND FORM's CARD OF 'saleroomlaw55.ReportRefuses'. -/
def reportRefusesUptoCard : Claim7 := { stood := { row := reportRefusesUptoRow, standIns := [], harness := (true, "724e7ff7d7ba0d8f980c54baf852e831ce788c03628d0980c13f01a665a8e989"), looks := true }, kinds := [], alts := [], laidByText := true, laidKinds := [.data, .data, .data, .data, .sentinel, .sentinel, .pinned], laidTests := true, laidLooks := .later }
def ReportRefusesUptoCardSaid : Prop := Claim7.holds Tryz.pinned (.plain (OpenSpec.upto reportRefusesSpec)) reportRefusesUptoCard
end Rows
end Go.Proofs.YtjpbdjhaajdepaaGreatDoor

/-
  DERIVED. GIVEN WITH THE SEED: THE CARDS: each row of YtemiicbbbojdiaaGreatDoorRows.lean that lists a variable, with what it lists TIED to the program's text (the seventh form; the later family's looks); each row that meets fmt, with fmt's text TOLD by the authors' own Lean function (tested against real Go, not proved from fmt's source: count such statements apart). THE CARD IS WHAT COUNTS. Prove the row's statement (the work); the ties are given (YtemiicbbbojdiaaGreatDoorTie.lean); close each card by the builder's one call (the guide's Derived/Test/ToyasCard.lean, 'card_holds'). Laid BY PROGRAM, IN A SANDBOX (cutbox-door.mjs). By AI agents, Wed Nov 11 2026. No macro, syntax, notation, axiom, sorry.
-/
import Derived.Test.YtemiicbbbojdiaaGreatDoorRows
import GoSem.ClaimSeven
namespace Go.Proofs.YtemiicbbbojdiaaGreatDoor
namespace Rows

/-- THE TIED CARD OF 'saleroomlaw45.DiscloseShows'. -/
def discloseShowsCard : Claim7 := { stood := { row := discloseShowsRow, standIns := [], harness := (true, "fdcfe39a0245d34095ffdffb770076baf0f152099cb7286e26b812c7ed515f28"), looks := true }, kinds := [], alts := [], laidByText := true, laidKinds := [.data, .data, .data, .data, .sentinel, .sentinel, .pinned], laidTests := true, laidLooks := .later }
def DiscloseShowsCardSaid : Prop := Claim7.holds Tryz.pinned (.plain (OpenSpec.ofChange discloseShowsSpec)) discloseShowsCard

/-- THE TIED CARD OF 'saleroomlaw45.DiscloseHides'. -/
def discloseHidesCard : Claim7 := { stood := { row := discloseHidesRow, standIns := [], harness := (true, "fdcfe39a0245d34095ffdffb770076baf0f152099cb7286e26b812c7ed515f28"), looks := true }, kinds := [], alts := [], laidByText := true, laidKinds := [.data, .data, .data, .data, .sentinel, .sentinel, .pinned], laidTests := true, laidLooks := .later }
def DiscloseHidesCardSaid : Prop := Claim7.holds Tryz.pinned (.plain (OpenSpec.ofChange discloseHidesSpec)) discloseHidesCard

/-- THE TIED CARD OF 'saleroomlaw45.DiscloseAuctioneer'. -/
def discloseAuctioneerCard : Claim7 := { stood := { row := discloseAuctioneerRow, standIns := [], harness := (true, "fdcfe39a0245d34095ffdffb770076baf0f152099cb7286e26b812c7ed515f28"), looks := true }, kinds := [], alts := [], laidByText := true, laidKinds := [.data, .data, .data, .data, .sentinel, .sentinel, .pinned], laidTests := true, laidLooks := .later }
def DiscloseAuctioneerCardSaid : Prop := Claim7.holds Tryz.pinned (.plain (OpenSpec.ofChange discloseAuctioneerSpec)) discloseAuctioneerCard

/-- THE TIED CARD OF 'saleroomlaw45.DiscloseTexts'. -/
def discloseTextsCard : Claim7 := { stood := { row := discloseTextsRow, standIns := [], harness := (true, "fdcfe39a0245d34095ffdffb770076baf0f152099cb7286e26b812c7ed515f28"), looks := true }, kinds := [], alts := [], laidByText := true, laidKinds := [.data, .data, .data, .data, .sentinel, .sentinel, .pinned], laidTests := true, laidLooks := .later }
def DiscloseTextsCardSaid : Prop := Claim7.holds Tryz.pinned (.plain (OpenSpec.ofChange discloseTextsSpec)) discloseTextsCard

/-- THE TIED CARD OF 'saleroomlaw45.DiscloseRound'. -/
def discloseRoundCard : Claim7 := { stood := { row := discloseRoundRow, standIns := [], harness := (true, "fdcfe39a0245d34095ffdffb770076baf0f152099cb7286e26b812c7ed515f28"), looks := true }, kinds := [], alts := [], laidByText := true, laidKinds := [.data, .data, .data, .data, .sentinel, .sentinel, .pinned], laidTests := true, laidLooks := .later }
def DiscloseRoundCardSaid : Prop := Claim7.holds Tryz.pinned (.plain (OpenSpec.ofChange discloseRoundSpec)) discloseRoundCard

/-- THE SECOND FORM's CARD OF 'saleroomlaw45.DiscloseShows'. -/
def discloseShowsUptoCard : Claim7 := { stood := { row := discloseShowsUptoRow, standIns := [], harness := (true, "fdcfe39a0245d34095ffdffb770076baf0f152099cb7286e26b812c7ed515f28"), looks := true }, kinds := [], alts := [], laidByText := true, laidKinds := [.data, .data, .data, .data, .sentinel, .sentinel, .pinned], laidTests := true, laidLooks := .later }
def DiscloseShowsUptoCardSaid : Prop := Claim7.holds Tryz.pinned (.plain (OpenSpec.upto discloseShowsSpec)) discloseShowsUptoCard

/-- THE SECOND FORM's CARD OF 'saleroomlaw45.DiscloseHides'. -/
def discloseHidesUptoCard : Claim7 := { stood := { row := discloseHidesUptoRow, standIns := [], harness := (true, "fdcfe39a0245d34095ffdffb770076baf0f152099cb7286e26b812c7ed515f28"), looks := true }, kinds := [], alts := [], laidByText := true, laidKinds := [.data, .data, .data, .data, .sentinel, .sentinel, .pinned], laidTests := true, laidLooks := .later }
def DiscloseHidesUptoCardSaid : Prop := Claim7.holds Tryz.pinned (.plain (OpenSpec.upto discloseHidesSpec)) discloseHidesUptoCard

/-- THE SECOND FORM's CARD OF 'saleroomlaw45.DiscloseAuctioneer'. -/
def discloseAuctioneerUptoCard : Claim7 := { stood := { row := discloseAuctioneerUptoRow, standIns := [], harness := (true, "fdcfe39a0245d34095ffdffb770076baf0f152099cb7286e26b812c7ed515f28"), looks := true }, kinds := [], alts := [], laidByText := true, laidKinds := [.data, .data, .data, .data, .sentinel, .sentinel, .pinned], laidTests := true, laidLooks := .later }
def DiscloseAuctioneerUptoCardSaid : Prop := Claim7.holds Tryz.pinned (.plain (OpenSpec.upto discloseAuctioneerSpec)) discloseAuctioneerUptoCard

/-- THE SECOND FORM's CARD OF 'saleroomlaw45.DiscloseTexts'. -/
def discloseTextsUptoCard : Claim7 := { stood := { row := discloseTextsUptoRow, standIns := [], harness := (true, "fdcfe39a0245d34095ffdffb770076baf0f152099cb7286e26b812c7ed515f28"), looks := true }, kinds := [], alts := [], laidByText := true, laidKinds := [.data, .data, .data, .data, .sentinel, .sentinel, .pinned], laidTests := true, laidLooks := .later }
def DiscloseTextsUptoCardSaid : Prop := Claim7.holds Tryz.pinned (.plain (OpenSpec.upto discloseTextsSpec)) discloseTextsUptoCard

/-- THE SECOND FORM's CARD OF 'saleroomlaw45.DiscloseRound'. -/
def discloseRoundUptoCard : Claim7 := { stood := { row := discloseRoundUptoRow, standIns := [], harness := (true, "fdcfe39a0245d34095ffdffb770076baf0f152099cb7286e26b812c7ed515f28"), looks := true }, kinds := [], alts := [], laidByText := true, laidKinds := [.data, .data, .data, .data, .sentinel, .sentinel, .pinned], laidTests := true, laidLooks := .later }
def DiscloseRoundUptoCardSaid : Prop := Claim7.holds Tryz.pinned (.plain (OpenSpec.upto discloseRoundSpec)) discloseRoundUptoCard
end Rows
end Go.Proofs.YtemiicbbbojdiaaGreatDoor

/-
  DERIVED. GIVEN WITH THE SEED: THE CARDS: each row of YtpihmghnbplohaaGreatDoorRows.lean that lists a variable, with what it lists TIED to the program's text (the seventh form; the later family's looks); each row that meets fmt, with fmt's text TOLD by the authors' own Lean function (tested against real Go, not proved from fmt's source: count such statements apart). THE CARD IS WHAT COUNTS. Prove the row's statement (the work); the ties are given (YtpihmghnbplohaaGreatDoorTie.lean); close each card by the builder's one call (the guide's Derived/Test/ToyasCard.lean, 'card_holds'). Laid BY PROGRAM, IN A SANDBOX (cutbox-door.mjs). By AI agents, Wed Nov 11 2026. No macro, syntax, notation, axiom, sorry.
-/
import Derived.Test.YtpihmghnbplohaaGreatDoorRows
import GoSem.ClaimSeven
namespace Go.Proofs.YtpihmghnbplohaaGreatDoor
namespace Rows

/-- THE TIED CARD OF 'saleroomlaw47.ReplayTrace'. -/
def replayTraceCard : Claim7 := { stood := { row := replayTraceRow, standIns := [], harness := (true, "20699dfec6fc46b8e70919ff8ad9d757c0eee2bdc353ec6b0475fda64e1f6ba7"), looks := true }, kinds := [], alts := [], laidByText := true, laidKinds := [.data, .data, .data, .data, .handle, .sentinel, .sentinel, .pinned], laidTests := true, laidLooks := .later }
def ReplayTraceCardSaid : Prop := Claim7.holds Tryz.pinned (.plain (OpenSpec.ofChange replayTraceSpec)) replayTraceCard

/-- THE TIED CARD OF 'saleroomlaw47.ReplayDamaged'. -/
def replayDamagedCard : Claim7 := { stood := { row := replayDamagedRow, standIns := [], harness := (true, "20699dfec6fc46b8e70919ff8ad9d757c0eee2bdc353ec6b0475fda64e1f6ba7"), looks := true }, kinds := [], alts := [], laidByText := true, laidKinds := [.data, .data, .data, .data, .handle, .sentinel, .sentinel, .pinned], laidTests := true, laidLooks := .later }
def ReplayDamagedCardSaid : Prop := Claim7.holds Tryz.pinned (.plain (OpenSpec.ofChange replayDamagedSpec)) replayDamagedCard

/-- THE TIED CARD OF 'saleroomlaw47.ReplayPrefix'. -/
def replayPrefixCard : Claim7 := { stood := { row := replayPrefixRow, standIns := [], harness := (true, "20699dfec6fc46b8e70919ff8ad9d757c0eee2bdc353ec6b0475fda64e1f6ba7"), looks := true }, kinds := [], alts := [], laidByText := true, laidKinds := [.data, .data, .data, .data, .handle, .sentinel, .sentinel, .pinned], laidTests := true, laidLooks := .later }
def ReplayPrefixCardSaid : Prop := Claim7.holds Tryz.pinned (.plain (OpenSpec.ofChange replayPrefixSpec)) replayPrefixCard

/-- THE TIED CARD OF 'saleroomlaw47.ReplayContinues'. -/
def replayContinuesCard : Claim7 := { stood := { row := replayContinuesRow, standIns := [], harness := (true, "20699dfec6fc46b8e70919ff8ad9d757c0eee2bdc353ec6b0475fda64e1f6ba7"), looks := true }, kinds := [], alts := [], laidByText := true, laidKinds := [.data, .data, .data, .data, .handle, .sentinel, .sentinel, .pinned], laidTests := true, laidLooks := .later }
def ReplayContinuesCardSaid : Prop := Claim7.holds Tryz.pinned (.plain (OpenSpec.ofChange replayContinuesSpec)) replayContinuesCard

/-- THE TIED CARD OF 'saleroomlaw55.ReportReads'. -/
def reportReadsCard : Claim7 := { stood := { row := reportReadsRow, standIns := [], harness := (true, "20699dfec6fc46b8e70919ff8ad9d757c0eee2bdc353ec6b0475fda64e1f6ba7"), looks := true }, kinds := [], alts := [], laidByText := true, laidKinds := [.data, .data, .data, .data, .handle, .sentinel, .sentinel, .pinned], laidTests := true, laidLooks := .later }
def ReportReadsCardSaid : Prop := Claim7.holds Tryz.pinned (.plain (OpenSpec.ofChange reportReadsSpec)) reportReadsCard

/-- THE SECOND FORM's CARD OF 'saleroomlaw47.ReplayTrace'. -/
def replayTraceUptoCard : Claim7 := { stood := { row := replayTraceUptoRow, standIns := [], harness := (true, "20699dfec6fc46b8e70919ff8ad9d757c0eee2bdc353ec6b0475fda64e1f6ba7"), looks := true }, kinds := [], alts := [], laidByText := true, laidKinds := [.data, .data, .data, .data, .handle, .sentinel, .sentinel, .pinned], laidTests := true, laidLooks := .later }
def ReplayTraceUptoCardSaid : Prop := Claim7.holds Tryz.pinned (.plain (OpenSpec.upto replayTraceSpec)) replayTraceUptoCard

/-- THE SECOND FORM's CARD OF 'saleroomlaw47.ReplayDamaged'. -/
def replayDamagedUptoCard : Claim7 := { stood := { row := replayDamagedUptoRow, standIns := [], harness := (true, "20699dfec6fc46b8e70919ff8ad9d757c0eee2bdc353ec6b0475fda64e1f6ba7"), looks := true }, kinds := [], alts := [], laidByText := true, laidKinds := [.data, .data, .data, .data, .handle, .sentinel, .sentinel, .pinned], laidTests := true, laidLooks := .later }
def ReplayDamagedUptoCardSaid : Prop := Claim7.holds Tryz.pinned (.plain (OpenSpec.upto replayDamagedSpec)) replayDamagedUptoCard

/-- THE SECOND FORM's CARD OF 'saleroomlaw47.ReplayPrefix'. -/
def replayPrefixUptoCard : Claim7 := { stood := { row := replayPrefixUptoRow, standIns := [], harness := (true, "20699dfec6fc46b8e70919ff8ad9d757c0eee2bdc353ec6b0475fda64e1f6ba7"), looks := true }, kinds := [], alts := [], laidByText := true, laidKinds := [.data, .data, .data, .data, .handle, .sentinel, .sentinel, .pinned], laidTests := true, laidLooks := .later }
def ReplayPrefixUptoCardSaid : Prop := Claim7.holds Tryz.pinned (.plain (OpenSpec.upto replayPrefixSpec)) replayPrefixUptoCard

/-- THE SECOND FORM's CARD OF 'saleroomlaw47.ReplayContinues'. -/
def replayContinuesUptoCard : Claim7 := { stood := { row := replayContinuesUptoRow, standIns := [], harness := (true, "20699dfec6fc46b8e70919ff8ad9d757c0eee2bdc353ec6b0475fda64e1f6ba7"), looks := true }, kinds := [], alts := [], laidByText := true, laidKinds := [.data, .data, .data, .data, .handle, .sentinel, .sentinel, .pinned], laidTests := true, laidLooks := .later }
def ReplayContinuesUptoCardSaid : Prop := Claim7.holds Tryz.pinned (.plain (OpenSpec.upto replayContinuesSpec)) replayContinuesUptoCard

/-- THE SECOND FORM's CARD OF 'saleroomlaw55.ReportReads'. -/
def reportReadsUptoCard : Claim7 := { stood := { row := reportReadsUptoRow, standIns := [], harness := (true, "20699dfec6fc46b8e70919ff8ad9d757c0eee2bdc353ec6b0475fda64e1f6ba7"), looks := true }, kinds := [], alts := [], laidByText := true, laidKinds := [.data, .data, .data, .data, .handle, .sentinel, .sentinel, .pinned], laidTests := true, laidLooks := .later }
def ReportReadsUptoCardSaid : Prop := Claim7.holds Tryz.pinned (.plain (OpenSpec.upto reportReadsSpec)) reportReadsUptoCard
end Rows
end Go.Proofs.YtpihmghnbplohaaGreatDoor

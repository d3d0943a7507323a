/-
  DERIVED. GIVEN WITH THE SEED: THE CARDS: each row of YtpddenfeaadgpaaGreatDoorRows.lean that lists a variable, with what it lists TIED to the program's text (the seventh form; the later family's looks); each row that meets fmt, with fmt's text TOLD by the authors' own Lean function (tested against real Go, not proved from fmt's source: count such statements apart). THE CARD IS WHAT COUNTS. Prove the row's statement (the work); the ties are given (YtpddenfeaadgpaaGreatDoorTie.lean); close each card by the builder's one call (the guide's Derived/Test/ToyasCard.lean, 'card_holds'). Laid BY PROGRAM, IN A SANDBOX (cutbox-door.mjs). By AI agents, Wed Nov 11 2026. No macro, syntax, notation, axiom, sorry.
-/
import Derived.Test.YtpddenfeaadgpaaGreatDoorRows
import GoSem.ClaimSeven
namespace Go.Proofs.YtpddenfeaadgpaaGreatDoor
namespace Rows

/-- THE TIED CARD OF 'saleroomlaw54.ProxyBest'. -/
def proxyBestCard : Claim7 := { stood := { row := proxyBestRow, standIns := [], harness := (true, "f8f3c2898091aad4b0043d70b4e55fce6bdcc5b6d7893fe70112dfdedc57dd51"), looks := false }, kinds := [], alts := [], laidByText := true, laidKinds := [.data, .data, .data], laidTests := true, laidLooks := .later }
def ProxyBestCardSaid : Prop := Claim7.holds Tryz.pinned (.plain (OpenSpec.ofChange proxyBestSpec)) proxyBestCard

/-- THE TIED CARD OF 'saleroomlaw54.ProxyRuns'. -/
def proxyRunsCard : Claim7 := { stood := { row := proxyRunsRow, standIns := [], harness := (true, "f8f3c2898091aad4b0043d70b4e55fce6bdcc5b6d7893fe70112dfdedc57dd51"), looks := false }, kinds := [], alts := [], laidByText := true, laidKinds := [.data, .data, .data], laidTests := true, laidLooks := .later }
def ProxyRunsCardSaid : Prop := Claim7.holds Tryz.pinned (.plain (OpenSpec.ofChange proxyRunsSpec)) proxyRunsCard

/-- THE TIED CARD OF 'saleroomlaw54.ProxyEvents'. -/
def proxyEventsCard : Claim7 := { stood := { row := proxyEventsRow, standIns := [], harness := (true, "f8f3c2898091aad4b0043d70b4e55fce6bdcc5b6d7893fe70112dfdedc57dd51"), looks := false }, kinds := [], alts := [], laidByText := true, laidKinds := [.data, .data, .data], laidTests := true, laidLooks := .later }
def ProxyEventsCardSaid : Prop := Claim7.holds Tryz.pinned (.plain (OpenSpec.ofChange proxyEventsSpec)) proxyEventsCard

/-- THE TIED CARD OF 'saleroomlaw54.ProxyFree'. -/
def proxyFreeCard : Claim7 := { stood := { row := proxyFreeRow, standIns := [], harness := (true, "f8f3c2898091aad4b0043d70b4e55fce6bdcc5b6d7893fe70112dfdedc57dd51"), looks := false }, kinds := [], alts := [], laidByText := true, laidKinds := [.data, .data, .data], laidTests := true, laidLooks := .later }
def ProxyFreeCardSaid : Prop := Claim7.holds Tryz.pinned (.plain (OpenSpec.ofChange proxyFreeSpec)) proxyFreeCard

/-- THE TIED CARD OF 'saleroomlaw54.ProxySupplements'. -/
def proxySupplementsCard : Claim7 := { stood := { row := proxySupplementsRow, standIns := [], harness := (true, "f8f3c2898091aad4b0043d70b4e55fce6bdcc5b6d7893fe70112dfdedc57dd51"), looks := false }, kinds := [], alts := [], laidByText := true, laidKinds := [.data, .data, .data], laidTests := true, laidLooks := .later }
def ProxySupplementsCardSaid : Prop := Claim7.holds Tryz.pinned (.plain (OpenSpec.ofChange proxySupplementsSpec)) proxySupplementsCard

/-- THE SECOND FORM's CARD OF 'saleroomlaw54.ProxyBest'. -/
def proxyBestUptoCard : Claim7 := { stood := { row := proxyBestUptoRow, standIns := [], harness := (true, "f8f3c2898091aad4b0043d70b4e55fce6bdcc5b6d7893fe70112dfdedc57dd51"), looks := false }, kinds := [], alts := [], laidByText := true, laidKinds := [.data, .data, .data], laidTests := true, laidLooks := .later }
def ProxyBestUptoCardSaid : Prop := Claim7.holds Tryz.pinned (.plain (OpenSpec.upto proxyBestSpec)) proxyBestUptoCard

/-- THE SECOND FORM's CARD OF 'saleroomlaw54.ProxyRuns'. -/
def proxyRunsUptoCard : Claim7 := { stood := { row := proxyRunsUptoRow, standIns := [], harness := (true, "f8f3c2898091aad4b0043d70b4e55fce6bdcc5b6d7893fe70112dfdedc57dd51"), looks := false }, kinds := [], alts := [], laidByText := true, laidKinds := [.data, .data, .data], laidTests := true, laidLooks := .later }
def ProxyRunsUptoCardSaid : Prop := Claim7.holds Tryz.pinned (.plain (OpenSpec.upto proxyRunsSpec)) proxyRunsUptoCard

/-- THE SECOND FORM's CARD OF 'saleroomlaw54.ProxyEvents'. -/
def proxyEventsUptoCard : Claim7 := { stood := { row := proxyEventsUptoRow, standIns := [], harness := (true, "f8f3c2898091aad4b0043d70b4e55fce6bdcc5b6d7893fe70112dfdedc57dd51"), looks := false }, kinds := [], alts := [], laidByText := true, laidKinds := [.data, .data, .data], laidTests := true, laidLooks := .later }
def ProxyEventsUptoCardSaid : Prop := Claim7.holds Tryz.pinned (.plain (OpenSpec.upto proxyEventsSpec)) proxyEventsUptoCard

/-- THE SECOND FORM's CARD OF 'saleroomlaw54.ProxyFree'. -/
def proxyFreeUptoCard : Claim7 := { stood := { row := proxyFreeUptoRow, standIns := [], harness := (true, "f8f3c2898091aad4b0043d70b4e55fce6bdcc5b6d7893fe70112dfdedc57dd51"), looks := false }, kinds := [], alts := [], laidByText := true, laidKinds := [.data, .data, .data], laidTests := true, laidLooks := .later }
def ProxyFreeUptoCardSaid : Prop := Claim7.holds Tryz.pinned (.plain (OpenSpec.upto proxyFreeSpec)) proxyFreeUptoCard

/-- THE SECOND FORM's CARD OF 'saleroomlaw54.ProxySupplements'. -/
def proxySupplementsUptoCard : Claim7 := { stood := { row := proxySupplementsUptoRow, standIns := [], harness := (true, "f8f3c2898091aad4b0043d70b4e55fce6bdcc5b6d7893fe70112dfdedc57dd51"), looks := false }, kinds := [], alts := [], laidByText := true, laidKinds := [.data, .data, .data], laidTests := true, laidLooks := .later }
def ProxySupplementsUptoCardSaid : Prop := Claim7.holds Tryz.pinned (.plain (OpenSpec.upto proxySupplementsSpec)) proxySupplementsUptoCard
end Rows
end Go.Proofs.YtpddenfeaadgpaaGreatDoor

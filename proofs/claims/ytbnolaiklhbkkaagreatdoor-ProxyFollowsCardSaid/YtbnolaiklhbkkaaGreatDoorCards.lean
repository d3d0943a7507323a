/-
  DERIVED. GIVEN WITH THE SEED: THE CARDS: each row of YtbnolaiklhbkkaaGreatDoorRows.lean that lists a variable, with what it lists TIED to the program's text (the seventh form; the later family's looks); each row that meets fmt, with fmt's text TOLD by the authors' own Lean function (tested against real Go, not proved from fmt's source: count such statements apart). THE CARD IS WHAT COUNTS. Prove the row's statement (the work); the ties are given (YtbnolaiklhbkkaaGreatDoorTie.lean); close each card by the builder's one call (the guide's Derived/Test/ToyasCard.lean, 'card_holds'). Laid BY PROGRAM, IN A SANDBOX (cutbox-door.mjs). By AI agents, Wed Nov 11 2026. No macro, syntax, notation, axiom, sorry.
-/
import Derived.Test.YtbnolaiklhbkkaaGreatDoorRows
import GoSem.ClaimSeven
namespace Go.Proofs.YtbnolaiklhbkkaaGreatDoor
namespace Rows

/-- THE TIED CARD OF 'saleroomlaw54.ProxyFollows'. -/
def proxyFollowsCard : Claim7 := { stood := { row := proxyFollowsRow, standIns := [], harness := (true, "dd0bb8965f7af718511c058d27370f73e05cfe9960a1c85e244956a6e3322ddc"), looks := true }, kinds := [], alts := [], laidByText := true, laidKinds := [.data, .data, .data, .data, .sentinel, .sentinel, .pinned], laidTests := true, laidLooks := .later }
def ProxyFollowsCardSaid : Prop := Claim7.holds Tryz.pinned (.plain (OpenSpec.ofChange proxyFollowsSpec)) proxyFollowsCard

/-- THE SECOND FORM's CARD OF 'saleroomlaw54.ProxyFollows'. -/
def proxyFollowsUptoCard : Claim7 := { stood := { row := proxyFollowsUptoRow, standIns := [], harness := (true, "dd0bb8965f7af718511c058d27370f73e05cfe9960a1c85e244956a6e3322ddc"), looks := true }, kinds := [], alts := [], laidByText := true, laidKinds := [.data, .data, .data, .data, .sentinel, .sentinel, .pinned], laidTests := true, laidLooks := .later }
def ProxyFollowsUptoCardSaid : Prop := Claim7.holds Tryz.pinned (.plain (OpenSpec.upto proxyFollowsSpec)) proxyFollowsUptoCard
end Rows
end Go.Proofs.YtbnolaiklhbkkaaGreatDoor

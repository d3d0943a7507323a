/-
  DERIVED. GIVEN WITH THE SEED: THE CARDS: each row of YtniehglfkacjjaaDoorRows.lean that lists a variable, with what it lists TIED to the program's text (the seventh form; the later family's looks); each row that meets fmt, with fmt's text TOLD by the authors' own Lean function (tested against real Go, not proved from fmt's source: count such statements apart). THE CARD IS WHAT COUNTS. Prove the row's statement (the work); the ties are given (YtniehglfkacjjaaDoorTie.lean); close each card by the builder's one call (the guide's Derived/Test/ToyasCard.lean, 'card_holds'). Laid BY PROGRAM, IN A SANDBOX (cutbox-door.mjs). By AI agents, Wed Nov 11 2026. No macro, syntax, notation, axiom, sorry.
-/
import Derived.Test.YtniehglfkacjjaaDoorRows
import GoSem.ClaimSeven
namespace Go.Proofs.YtniehglfkacjjaaDoor
namespace Rows

/-- THE TIED CARD OF 'saleroomlaw43.JournalPrefix'. -/
def journalPrefixCard : Claim7 := { stood := { row := journalPrefixRow, standIns := [], harness := (true, "6a69df65c3cdcd370c80d020316d67de9d8531640cda5f53a4001ad890ab6544"), looks := true }, kinds := [], alts := [], laidByText := true, laidKinds := [.handle], laidTests := true, laidLooks := .later }
def JournalPrefixCardSaid : Prop := Claim7.holds Tryd.pinned (.plain (OpenSpec.ofChange journalPrefixSpec)) journalPrefixCard

/-- THE TIED CARD OF 'saleroomlaw43.JournalOpens'. -/
def journalOpensCard : Claim7 := { stood := { row := journalOpensRow, standIns := [], harness := (true, "6a69df65c3cdcd370c80d020316d67de9d8531640cda5f53a4001ad890ab6544"), looks := true }, kinds := [], alts := [], laidByText := true, laidKinds := [.handle], laidTests := true, laidLooks := .later }
def JournalOpensCardSaid : Prop := Claim7.holds Tryd.pinned (.plain (OpenSpec.ofChange journalOpensSpec)) journalOpensCard

/-- THE TIED CARD OF 'saleroomlaw43.JournalRefuses'. -/
def journalRefusesCard : Claim7 := { stood := { row := journalRefusesRow, standIns := [], harness := (true, "6a69df65c3cdcd370c80d020316d67de9d8531640cda5f53a4001ad890ab6544"), looks := true }, kinds := [], alts := [], laidByText := true, laidKinds := [.handle], laidTests := true, laidLooks := .later }
def JournalRefusesCardSaid : Prop := Claim7.holds Tryd.pinned (.plain (OpenSpec.ofChange journalRefusesSpec)) journalRefusesCard

/-- THE TIED CARD OF 'saleroomlaw43.JournalTears'. -/
def journalTearsCard : Claim7 := { stood := { row := journalTearsRow, standIns := [], harness := (true, "6a69df65c3cdcd370c80d020316d67de9d8531640cda5f53a4001ad890ab6544"), looks := true }, kinds := [], alts := [], laidByText := true, laidKinds := [.handle], laidTests := true, laidLooks := .later }
def JournalTearsCardSaid : Prop := Claim7.holds Tryd.pinned (.plain (OpenSpec.ofChange journalTearsSpec)) journalTearsCard

/-- THE TIED CARD OF 'saleroomlaw43.JournalVerifies'. -/
def journalVerifiesCard : Claim7 := { stood := { row := journalVerifiesRow, standIns := [], harness := (true, "6a69df65c3cdcd370c80d020316d67de9d8531640cda5f53a4001ad890ab6544"), looks := true }, kinds := [], alts := [], laidByText := true, laidKinds := [.handle], laidTests := true, laidLooks := .later }
def JournalVerifiesCardSaid : Prop := Claim7.holds Tryd.pinned (.plain (OpenSpec.ofChange journalVerifiesSpec)) journalVerifiesCard

/-- THE TIED CARD OF 'saleroomlaw43.JournalProves'. -/
def journalProvesCard : Claim7 := { stood := { row := journalProvesRow, standIns := [], harness := (true, "6a69df65c3cdcd370c80d020316d67de9d8531640cda5f53a4001ad890ab6544"), looks := true }, kinds := [], alts := [], laidByText := true, laidKinds := [.handle], laidTests := true, laidLooks := .later }
def JournalProvesCardSaid : Prop := Claim7.holds Tryd.pinned (.plain (OpenSpec.ofChange journalProvesSpec)) journalProvesCard

/-- THE TIED CARD OF 'saleroomlaw43.JournalFrames'. -/
def journalFramesCard : Claim7 := { stood := { row := journalFramesRow, standIns := [], harness := (true, "6a69df65c3cdcd370c80d020316d67de9d8531640cda5f53a4001ad890ab6544"), looks := true }, kinds := [], alts := [], laidByText := true, laidKinds := [.handle], laidTests := true, laidLooks := .later }
def JournalFramesCardSaid : Prop := Claim7.holds Tryd.pinned (.plain (OpenSpec.ofChange journalFramesSpec)) journalFramesCard

/-- THE SECOND FORM's CARD OF 'saleroomlaw43.JournalPrefix'. -/
def journalPrefixUptoCard : Claim7 := { stood := { row := journalPrefixUptoRow, standIns := [], harness := (true, "6a69df65c3cdcd370c80d020316d67de9d8531640cda5f53a4001ad890ab6544"), looks := true }, kinds := [], alts := [], laidByText := true, laidKinds := [.handle], laidTests := true, laidLooks := .later }
def JournalPrefixUptoCardSaid : Prop := Claim7.holds Tryd.pinned (.plain (OpenSpec.upto journalPrefixSpec)) journalPrefixUptoCard

/-- THE SECOND FORM's CARD OF 'saleroomlaw43.JournalOpens'. -/
def journalOpensUptoCard : Claim7 := { stood := { row := journalOpensUptoRow, standIns := [], harness := (true, "6a69df65c3cdcd370c80d020316d67de9d8531640cda5f53a4001ad890ab6544"), looks := true }, kinds := [], alts := [], laidByText := true, laidKinds := [.handle], laidTests := true, laidLooks := .later }
def JournalOpensUptoCardSaid : Prop := Claim7.holds Tryd.pinned (.plain (OpenSpec.upto journalOpensSpec)) journalOpensUptoCard

/-- THE SECOND FORM's CARD OF 'saleroomlaw43.JournalRefuses'. -/
def journalRefusesUptoCard : Claim7 := { stood := { row := journalRefusesUptoRow, standIns := [], harness := (true, "6a69df65c3cdcd370c80d020316d67de9d8531640cda5f53a4001ad890ab6544"), looks := true }, kinds := [], alts := [], laidByText := true, laidKinds := [.handle], laidTests := true, laidLooks := .later }
def JournalRefusesUptoCardSaid : Prop := Claim7.holds Tryd.pinned (.plain (OpenSpec.upto journalRefusesSpec)) journalRefusesUptoCard

/-- THE SECOND FORM's CARD OF 'saleroomlaw43.JournalTears'. -/
def journalTearsUptoCard : Claim7 := { stood := { row := journalTearsUptoRow, standIns := [], harness := (true, "6a69df65c3cdcd370c80d020316d67de9d8531640cda5f53a4001ad890ab6544"), looks := true }, kinds := [], alts := [], laidByText := true, laidKinds := [.handle], laidTests := true, laidLooks := .later }
def JournalTearsUptoCardSaid : Prop := Claim7.holds Tryd.pinned (.plain (OpenSpec.upto journalTearsSpec)) journalTearsUptoCard

/-- THE SECOND FORM's CARD OF 'saleroomlaw43.JournalVerifies'. -/
def journalVerifiesUptoCard : Claim7 := { stood := { row := journalVerifiesUptoRow, standIns := [], harness := (true, "6a69df65c3cdcd370c80d020316d67de9d8531640cda5f53a4001ad890ab6544"), looks := true }, kinds := [], alts := [], laidByText := true, laidKinds := [.handle], laidTests := true, laidLooks := .later }
def JournalVerifiesUptoCardSaid : Prop := Claim7.holds Tryd.pinned (.plain (OpenSpec.upto journalVerifiesSpec)) journalVerifiesUptoCard

/-- THE SECOND FORM's CARD OF 'saleroomlaw43.JournalProves'. -/
def journalProvesUptoCard : Claim7 := { stood := { row := journalProvesUptoRow, standIns := [], harness := (true, "6a69df65c3cdcd370c80d020316d67de9d8531640cda5f53a4001ad890ab6544"), looks := true }, kinds := [], alts := [], laidByText := true, laidKinds := [.handle], laidTests := true, laidLooks := .later }
def JournalProvesUptoCardSaid : Prop := Claim7.holds Tryd.pinned (.plain (OpenSpec.upto journalProvesSpec)) journalProvesUptoCard

/-- THE SECOND FORM's CARD OF 'saleroomlaw43.JournalFrames'. -/
def journalFramesUptoCard : Claim7 := { stood := { row := journalFramesUptoRow, standIns := [], harness := (true, "6a69df65c3cdcd370c80d020316d67de9d8531640cda5f53a4001ad890ab6544"), looks := true }, kinds := [], alts := [], laidByText := true, laidKinds := [.handle], laidTests := true, laidLooks := .later }
def JournalFramesUptoCardSaid : Prop := Claim7.holds Tryd.pinned (.plain (OpenSpec.upto journalFramesSpec)) journalFramesUptoCard
end Rows
end Go.Proofs.YtniehglfkacjjaaDoor

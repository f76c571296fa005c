/-
  DERIVED. GIVEN WITH THE SEED: THE CARDS: each row of YtmhkeomphdddaaaGreatDoorRows.lean that lists a variable, with what it lists TIED to the program's text (the seventh form; the later family's looks); each row that meets fmt, with fmt's text TOLD by the authors' own Lean function (tested against real Go, not proved from fmt's source: count such statements apart). THE CARD IS WHAT COUNTS. Prove the row's statement (the work); the ties are given (YtmhkeomphdddaaaGreatDoorTie.lean); close each card by the builder's one call (the guide's Derived/Test/ToyasCard.lean, 'card_holds'). Laid BY PROGRAM, IN A SANDBOX (cutbox-door.mjs). By AI agents, Wed Nov 11 2026. No macro, syntax, notation, axiom, sorry.
-/
import Derived.Test.YtmhkeomphdddaaaGreatDoorRows
import GoSem.ClaimSeven
namespace Go.Proofs.YtmhkeomphdddaaaGreatDoor
namespace Rows

/-- THE TIED CARD OF 'transputerlaw11.SyntaxFront'. -/
def syntaxFrontCard : Claim7 := { stood := { row := syntaxFrontRow, standIns := [], harness := (true, "b23a7e0c47619dfc80f2088008ddffe0ae745e204b15b27a101322845983d43d"), looks := true }, kinds := [], alts := [], laidByText := true, laidKinds := [.data, .data, .data, .data, .data, .data, .data, .data, .pinned], laidTests := true, laidLooks := .later }
def SyntaxFrontCardSaid : Prop := Claim7.holds Tryz.pinned (.plain (OpenSpec.ofChange syntaxFrontSpec)) syntaxFrontCard

/-- THE TIED CARD OF 'transputerlaw11.SyntaxLists'. -/
def syntaxListsCard : Claim7 := { stood := { row := syntaxListsRow, standIns := [], harness := (true, "b23a7e0c47619dfc80f2088008ddffe0ae745e204b15b27a101322845983d43d"), looks := true }, kinds := [], alts := [], laidByText := true, laidKinds := [.data, .data, .data, .data, .data, .data, .data, .data, .pinned], laidTests := true, laidLooks := .later }
def SyntaxListsCardSaid : Prop := Claim7.holds Tryz.pinned (.plain (OpenSpec.ofChange syntaxListsSpec)) syntaxListsCard

/-- THE SECOND FORM's CARD OF 'transputerlaw11.SyntaxFront'. -/
def syntaxFrontUptoCard : Claim7 := { stood := { row := syntaxFrontUptoRow, standIns := [], harness := (true, "b23a7e0c47619dfc80f2088008ddffe0ae745e204b15b27a101322845983d43d"), looks := true }, kinds := [], alts := [], laidByText := true, laidKinds := [.data, .data, .data, .data, .data, .data, .data, .data, .pinned], laidTests := true, laidLooks := .later }
def SyntaxFrontUptoCardSaid : Prop := Claim7.holds Tryz.pinned (.plain (OpenSpec.upto syntaxFrontSpec)) syntaxFrontUptoCard

/-- THE SECOND FORM's CARD OF 'transputerlaw11.SyntaxLists'. -/
def syntaxListsUptoCard : Claim7 := { stood := { row := syntaxListsUptoRow, standIns := [], harness := (true, "b23a7e0c47619dfc80f2088008ddffe0ae745e204b15b27a101322845983d43d"), looks := true }, kinds := [], alts := [], laidByText := true, laidKinds := [.data, .data, .data, .data, .data, .data, .data, .data, .pinned], laidTests := true, laidLooks := .later }
def SyntaxListsUptoCardSaid : Prop := Claim7.holds Tryz.pinned (.plain (OpenSpec.upto syntaxListsSpec)) syntaxListsUptoCard
end Rows
end Go.Proofs.YtmhkeomphdddaaaGreatDoor

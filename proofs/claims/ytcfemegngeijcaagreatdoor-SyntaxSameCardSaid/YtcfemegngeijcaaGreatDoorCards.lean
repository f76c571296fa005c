/-
  DERIVED. GIVEN WITH THE SEED: THE CARDS: each row of YtcfemegngeijcaaGreatDoorRows.lean that lists a variable, with what it lists TIED to the program's text (the seventh form; the later family's looks); each row that meets fmt, with fmt's text TOLD by the authors' own Lean function (tested against real Go, not proved from fmt's source: count such statements apart). THE CARD IS WHAT COUNTS. Prove the row's statement (the work); the ties are given (YtcfemegngeijcaaGreatDoorTie.lean); close each card by the builder's one call (the guide's Derived/Test/ToyasCard.lean, 'card_holds'). Laid BY PROGRAM, IN A SANDBOX (cutbox-door.mjs). By AI agents, Wed Nov 11 2026. No macro, syntax, notation, axiom, sorry.
-/
import Derived.Test.YtcfemegngeijcaaGreatDoorRows
import GoSem.ClaimSeven
namespace Go.Proofs.YtcfemegngeijcaaGreatDoor
namespace Rows

/-- THE TIED CARD OF 'transputerlaw11.SyntaxMay'. -/
def syntaxMayCard : Claim7 := { stood := { row := syntaxMayRow, standIns := [], harness := (true, "f2b00c31d59e71deb31b9e89c43038060f532a268b51dbc50005c3b944ecce25"), looks := true }, kinds := [], alts := [], laidByText := true, laidKinds := [.data, .data, .data, .data, .data, .data, .data, .data, .pinned], laidTests := true, laidLooks := .later }
def SyntaxMayCardSaid : Prop := Claim7.holds Tryz.pinned (.plain (OpenSpec.ofChange syntaxMaySpec)) syntaxMayCard

/-- THE TIED CARD OF 'transputerlaw11.SyntaxSame'. -/
def syntaxSameCard : Claim7 := { stood := { row := syntaxSameRow, standIns := [], harness := (true, "f2b00c31d59e71deb31b9e89c43038060f532a268b51dbc50005c3b944ecce25"), looks := true }, kinds := [], alts := [], laidByText := true, laidKinds := [.data, .data, .data, .data, .data, .data, .data, .data, .pinned], laidTests := true, laidLooks := .later }
def SyntaxSameCardSaid : Prop := Claim7.holds Tryz.pinned (.plain (OpenSpec.ofChange syntaxSameSpec)) syntaxSameCard

/-- THE SECOND FORM's CARD OF 'transputerlaw11.SyntaxMay'. -/
def syntaxMayUptoCard : Claim7 := { stood := { row := syntaxMayUptoRow, standIns := [], harness := (true, "f2b00c31d59e71deb31b9e89c43038060f532a268b51dbc50005c3b944ecce25"), looks := true }, kinds := [], alts := [], laidByText := true, laidKinds := [.data, .data, .data, .data, .data, .data, .data, .data, .pinned], laidTests := true, laidLooks := .later }
def SyntaxMayUptoCardSaid : Prop := Claim7.holds Tryz.pinned (.plain (OpenSpec.upto syntaxMaySpec)) syntaxMayUptoCard

/-- THE SECOND FORM's CARD OF 'transputerlaw11.SyntaxSame'. -/
def syntaxSameUptoCard : Claim7 := { stood := { row := syntaxSameUptoRow, standIns := [], harness := (true, "f2b00c31d59e71deb31b9e89c43038060f532a268b51dbc50005c3b944ecce25"), looks := true }, kinds := [], alts := [], laidByText := true, laidKinds := [.data, .data, .data, .data, .data, .data, .data, .data, .pinned], laidTests := true, laidLooks := .later }
def SyntaxSameUptoCardSaid : Prop := Claim7.holds Tryz.pinned (.plain (OpenSpec.upto syntaxSameSpec)) syntaxSameUptoCard
end Rows
end Go.Proofs.YtcfemegngeijcaaGreatDoor

/-
  DERIVED. GIVEN WITH THE SEED: THE CARDS: each row of YtdhmplmpbcnojaaGreatDoorRows.lean that lists a variable, with what it lists TIED to the program's text (the seventh form; the later family's looks); each row that meets fmt, with fmt's text TOLD by the authors' own Lean function (tested against real Go, not proved from fmt's source: count such statements apart). THE CARD IS WHAT COUNTS. Prove the row's statement (the work); the ties are given (YtdhmplmpbcnojaaGreatDoorTie.lean); close each card by the builder's one call (the guide's Derived/Test/ToyasCard.lean, 'card_holds'). Laid BY PROGRAM, IN A SANDBOX (cutbox-door.mjs). By AI agents, Wed Nov 11 2026. No macro, syntax, notation, axiom, sorry.
-/
import Derived.Test.YtdhmplmpbcnojaaGreatDoorRows
import GoSem.ClaimSeven
namespace Go.Proofs.YtdhmplmpbcnojaaGreatDoor
namespace Rows

/-- THE TIED CARD OF 'transputerlaw13.TypingOf'. -/
def typingOfCard : Claim7 := { stood := { row := typingOfRow, standIns := [], harness := (true, "bc84e5f55452caa94bec5d9f10acfbe12ea07e9c19f3114bcca25cfb5a91555f"), looks := false }, kinds := [], alts := [], laidByText := true, laidKinds := [.data, .data, .data, .data], laidTests := true, laidLooks := .later }
def TypingOfCardSaid : Prop := Claim7.holds Tryz.pinned (.plain (OpenSpec.ofChange typingOfSpec)) typingOfCard

/-- THE TIED CARD OF 'transputerlaw13.TypingParts'. -/
def typingPartsCard : Claim7 := { stood := { row := typingPartsRow, standIns := [], harness := (true, "bc84e5f55452caa94bec5d9f10acfbe12ea07e9c19f3114bcca25cfb5a91555f"), looks := false }, kinds := [], alts := [], laidByText := true, laidKinds := [.data, .data, .data, .data], laidTests := true, laidLooks := .later }
def TypingPartsCardSaid : Prop := Claim7.holds Tryz.pinned (.plain (OpenSpec.ofChange typingPartsSpec)) typingPartsCard

/-- THE TIED CARD OF 'transputerlaw13.TypingOutside'. -/
def typingOutsideCard : Claim7 := { stood := { row := typingOutsideRow, standIns := [], harness := (true, "bc84e5f55452caa94bec5d9f10acfbe12ea07e9c19f3114bcca25cfb5a91555f"), looks := false }, kinds := [], alts := [], laidByText := true, laidKinds := [.data, .data, .data, .data], laidTests := true, laidLooks := .later }
def TypingOutsideCardSaid : Prop := Claim7.holds Tryz.pinned (.plain (OpenSpec.ofChange typingOutsideSpec)) typingOutsideCard

/-- THE TIED CARD OF 'transputerlaw13.TypingTargets'. -/
def typingTargetsCard : Claim7 := { stood := { row := typingTargetsRow, standIns := [], harness := (true, "bc84e5f55452caa94bec5d9f10acfbe12ea07e9c19f3114bcca25cfb5a91555f"), looks := false }, kinds := [], alts := [], laidByText := true, laidKinds := [.data, .data, .data, .data], laidTests := true, laidLooks := .later }
def TypingTargetsCardSaid : Prop := Claim7.holds Tryz.pinned (.plain (OpenSpec.ofChange typingTargetsSpec)) typingTargetsCard

/-- THE TIED CARD OF 'transputerlaw13.TypingKnown'. -/
def typingKnownCard : Claim7 := { stood := { row := typingKnownRow, standIns := [], harness := (true, "bc84e5f55452caa94bec5d9f10acfbe12ea07e9c19f3114bcca25cfb5a91555f"), looks := false }, kinds := [], alts := [], laidByText := true, laidKinds := [.data, .data, .data, .data], laidTests := true, laidLooks := .later }
def TypingKnownCardSaid : Prop := Claim7.holds Tryz.pinned (.plain (OpenSpec.ofChange typingKnownSpec)) typingKnownCard

/-- THE SECOND FORM's CARD OF 'transputerlaw13.TypingOf'. -/
def typingOfUptoCard : Claim7 := { stood := { row := typingOfUptoRow, standIns := [], harness := (true, "bc84e5f55452caa94bec5d9f10acfbe12ea07e9c19f3114bcca25cfb5a91555f"), looks := false }, kinds := [], alts := [], laidByText := true, laidKinds := [.data, .data, .data, .data], laidTests := true, laidLooks := .later }
def TypingOfUptoCardSaid : Prop := Claim7.holds Tryz.pinned (.plain (OpenSpec.upto typingOfSpec)) typingOfUptoCard

/-- THE SECOND FORM's CARD OF 'transputerlaw13.TypingParts'. -/
def typingPartsUptoCard : Claim7 := { stood := { row := typingPartsUptoRow, standIns := [], harness := (true, "bc84e5f55452caa94bec5d9f10acfbe12ea07e9c19f3114bcca25cfb5a91555f"), looks := false }, kinds := [], alts := [], laidByText := true, laidKinds := [.data, .data, .data, .data], laidTests := true, laidLooks := .later }
def TypingPartsUptoCardSaid : Prop := Claim7.holds Tryz.pinned (.plain (OpenSpec.upto typingPartsSpec)) typingPartsUptoCard

/-- THE SECOND FORM's CARD OF 'transputerlaw13.TypingOutside'. -/
def typingOutsideUptoCard : Claim7 := { stood := { row := typingOutsideUptoRow, standIns := [], harness := (true, "bc84e5f55452caa94bec5d9f10acfbe12ea07e9c19f3114bcca25cfb5a91555f"), looks := false }, kinds := [], alts := [], laidByText := true, laidKinds := [.data, .data, .data, .data], laidTests := true, laidLooks := .later }
def TypingOutsideUptoCardSaid : Prop := Claim7.holds Tryz.pinned (.plain (OpenSpec.upto typingOutsideSpec)) typingOutsideUptoCard

/-- THE SECOND FORM's CARD OF 'transputerlaw13.TypingTargets'. -/
def typingTargetsUptoCard : Claim7 := { stood := { row := typingTargetsUptoRow, standIns := [], harness := (true, "bc84e5f55452caa94bec5d9f10acfbe12ea07e9c19f3114bcca25cfb5a91555f"), looks := false }, kinds := [], alts := [], laidByText := true, laidKinds := [.data, .data, .data, .data], laidTests := true, laidLooks := .later }
def TypingTargetsUptoCardSaid : Prop := Claim7.holds Tryz.pinned (.plain (OpenSpec.upto typingTargetsSpec)) typingTargetsUptoCard

/-- THE SECOND FORM's CARD OF 'transputerlaw13.TypingKnown'. -/
def typingKnownUptoCard : Claim7 := { stood := { row := typingKnownUptoRow, standIns := [], harness := (true, "bc84e5f55452caa94bec5d9f10acfbe12ea07e9c19f3114bcca25cfb5a91555f"), looks := false }, kinds := [], alts := [], laidByText := true, laidKinds := [.data, .data, .data, .data], laidTests := true, laidLooks := .later }
def TypingKnownUptoCardSaid : Prop := Claim7.holds Tryz.pinned (.plain (OpenSpec.upto typingKnownSpec)) typingKnownUptoCard
end Rows
end Go.Proofs.YtdhmplmpbcnojaaGreatDoor

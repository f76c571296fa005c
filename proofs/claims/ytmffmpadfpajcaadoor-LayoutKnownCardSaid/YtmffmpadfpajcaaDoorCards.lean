/-
  DERIVED. GIVEN WITH THE SEED: THE CARDS: each row of YtmffmpadfpajcaaDoorRows.lean that lists a variable, with what it lists TIED to the program's text (the seventh form; the later family's looks); each row that meets fmt, with fmt's text TOLD by the authors' own Lean function (tested against real Go, not proved from fmt's source: count such statements apart). THE CARD IS WHAT COUNTS. Prove the row's statement (the work); the ties are given (YtmffmpadfpajcaaDoorTie.lean); close each card by the builder's one call (the guide's Derived/Test/ToyasCard.lean, 'card_holds'). Laid BY PROGRAM, IN A SANDBOX (cutbox-door.mjs). By AI agents, Wed Nov 11 2026. No macro, syntax, notation, axiom, sorry.
-/
import Derived.Test.YtmffmpadfpajcaaDoorRows
import GoSem.ClaimSeven
namespace Go.Proofs.YtmffmpadfpajcaaDoor
namespace Rows

/-- THE TIED CARD OF 'transputerlaw07.LayoutReads'. -/
def layoutReadsCard : Claim7 := { stood := { row := layoutReadsRow, standIns := [], harness := (true, "b9765fc86d1e4d448ad88da12d04d90f4f19a7d8732339c92cb88d59864665f2"), looks := false }, kinds := [], alts := [], laidByText := true, laidKinds := [.data, .pinned], laidTests := true, laidLooks := .later }
def LayoutReadsCardSaid : Prop := Claim7.holds Tryd.pinned (.plain (OpenSpec.ofChange layoutReadsSpec)) layoutReadsCard

/-- THE TIED CARD OF 'transputerlaw07.LayoutAgain'. -/
def layoutAgainCard : Claim7 := { stood := { row := layoutAgainRow, standIns := [], harness := (true, "b9765fc86d1e4d448ad88da12d04d90f4f19a7d8732339c92cb88d59864665f2"), looks := false }, kinds := [], alts := [], laidByText := true, laidKinds := [.data, .pinned], laidTests := true, laidLooks := .later }
def LayoutAgainCardSaid : Prop := Claim7.holds Tryd.pinned (.plain (OpenSpec.ofChange layoutAgainSpec)) layoutAgainCard

/-- THE TIED CARD OF 'transputerlaw07.LayoutBlank'. -/
def layoutBlankCard : Claim7 := { stood := { row := layoutBlankRow, standIns := [], harness := (true, "b9765fc86d1e4d448ad88da12d04d90f4f19a7d8732339c92cb88d59864665f2"), looks := false }, kinds := [], alts := [], laidByText := true, laidKinds := [.data, .pinned], laidTests := true, laidLooks := .later }
def LayoutBlankCardSaid : Prop := Claim7.holds Tryd.pinned (.plain (OpenSpec.ofChange layoutBlankSpec)) layoutBlankCard

/-- THE TIED CARD OF 'transputerlaw07.LayoutKnown'. -/
def layoutKnownCard : Claim7 := { stood := { row := layoutKnownRow, standIns := [], harness := (true, "b9765fc86d1e4d448ad88da12d04d90f4f19a7d8732339c92cb88d59864665f2"), looks := false }, kinds := [], alts := [], laidByText := true, laidKinds := [.data, .pinned], laidTests := true, laidLooks := .later }
def LayoutKnownCardSaid : Prop := Claim7.holds Tryd.pinned (.plain (OpenSpec.ofChange layoutKnownSpec)) layoutKnownCard

/-- THE SECOND FORM's CARD OF 'transputerlaw07.LayoutReads'. -/
def layoutReadsUptoCard : Claim7 := { stood := { row := layoutReadsUptoRow, standIns := [], harness := (true, "b9765fc86d1e4d448ad88da12d04d90f4f19a7d8732339c92cb88d59864665f2"), looks := false }, kinds := [], alts := [], laidByText := true, laidKinds := [.data, .pinned], laidTests := true, laidLooks := .later }
def LayoutReadsUptoCardSaid : Prop := Claim7.holds Tryd.pinned (.plain (OpenSpec.upto layoutReadsSpec)) layoutReadsUptoCard

/-- THE SECOND FORM's CARD OF 'transputerlaw07.LayoutAgain'. -/
def layoutAgainUptoCard : Claim7 := { stood := { row := layoutAgainUptoRow, standIns := [], harness := (true, "b9765fc86d1e4d448ad88da12d04d90f4f19a7d8732339c92cb88d59864665f2"), looks := false }, kinds := [], alts := [], laidByText := true, laidKinds := [.data, .pinned], laidTests := true, laidLooks := .later }
def LayoutAgainUptoCardSaid : Prop := Claim7.holds Tryd.pinned (.plain (OpenSpec.upto layoutAgainSpec)) layoutAgainUptoCard

/-- THE SECOND FORM's CARD OF 'transputerlaw07.LayoutBlank'. -/
def layoutBlankUptoCard : Claim7 := { stood := { row := layoutBlankUptoRow, standIns := [], harness := (true, "b9765fc86d1e4d448ad88da12d04d90f4f19a7d8732339c92cb88d59864665f2"), looks := false }, kinds := [], alts := [], laidByText := true, laidKinds := [.data, .pinned], laidTests := true, laidLooks := .later }
def LayoutBlankUptoCardSaid : Prop := Claim7.holds Tryd.pinned (.plain (OpenSpec.upto layoutBlankSpec)) layoutBlankUptoCard

/-- THE SECOND FORM's CARD OF 'transputerlaw07.LayoutKnown'. -/
def layoutKnownUptoCard : Claim7 := { stood := { row := layoutKnownUptoRow, standIns := [], harness := (true, "b9765fc86d1e4d448ad88da12d04d90f4f19a7d8732339c92cb88d59864665f2"), looks := false }, kinds := [], alts := [], laidByText := true, laidKinds := [.data, .pinned], laidTests := true, laidLooks := .later }
def LayoutKnownUptoCardSaid : Prop := Claim7.holds Tryd.pinned (.plain (OpenSpec.upto layoutKnownSpec)) layoutKnownUptoCard
end Rows
end Go.Proofs.YtmffmpadfpajcaaDoor

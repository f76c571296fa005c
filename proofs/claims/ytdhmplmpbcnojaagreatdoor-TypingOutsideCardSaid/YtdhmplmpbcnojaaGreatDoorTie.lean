/-
  DERIVED. GIVEN WITH THE SEED: THE PROGRAM's TIES (one call each: nine closed facts by the kernel) AND EACH ROW's TIE, after the 31st guide's Derived/Test/Toyas{Tie, Card}.lean. No idea stands in it: it is a product of the set-up. Laid BY PROGRAM, IN A SANDBOX (cutbox-door.mjs). By AI agents, Wed Nov 11 2026. No macro, syntax, notation, axiom, sorry.
-/
import Derived.Test.YtdhmplmpbcnojaaGreatDoorRows
import Derived.LaidByTextLater
import Derived.SevenTiedAt
import Derived.LaidSub
import Derived.LaidOnce
namespace Go.Proofs.YtdhmplmpbcnojaaGreatDoor
open Go
set_option maxRecDepth 100000
theorem seatTie1 : Tryz.prog.laidByTextLater [("transputer/types.primitive", Rows.laid_transputer_types_primitive), ("transputer/syntax.one", Rows.laid_transputer_syntax_one), ("transputer/syntax.some", Rows.laid_transputer_syntax_some), ("transputer/syntax.all", Rows.laid_transputer_syntax_all)] [.data, .data, .data, .data] true :=
  Program.laidByTextLater_by_one 32 8 10 (by kernel_rfl) (by kernel_rfl) (by kernel_rfl) (by kernel_rfl) (by kernel_rfl) (by kernel_rfl) (fun _ _ => by kernel_rfl)
theorem noOwnUnsafe : Tryz.pinned.checked.prog.headLifts.contains "ownunsafe" = false := by kernel_rfl
theorem tie : Tryz.prog.laidByTextLater [("transputer/types.primitive", Rows.laid_transputer_types_primitive), ("transputer/syntax.one", Rows.laid_transputer_syntax_one), ("transputer/syntax.some", Rows.laid_transputer_syntax_some), ("transputer/syntax.all", Rows.laid_transputer_syntax_all)] [.data, .data, .data, .data] true :=
  Program.laidByTextLater.sub seatTie1 ["transputer/types.primitive", "transputer/syntax.one", "transputer/syntax.some", "transputer/syntax.all"] (by kernel_rfl) (by kernel_rfl)
theorem typingOf_row_tie : Rows.typingOfRow.laidByTextAt .later Tryz.pinned [.data, .data, .data, .data] true :=
  OpenClaim.laidByTextAt_later rfl rfl tie noOwnUnsafe
theorem typingParts_row_tie : Rows.typingPartsRow.laidByTextAt .later Tryz.pinned [.data, .data, .data, .data] true :=
  OpenClaim.laidByTextAt_later rfl rfl tie noOwnUnsafe
theorem typingOutside_row_tie : Rows.typingOutsideRow.laidByTextAt .later Tryz.pinned [.data, .data, .data, .data] true :=
  OpenClaim.laidByTextAt_later rfl rfl tie noOwnUnsafe
theorem typingTargets_row_tie : Rows.typingTargetsRow.laidByTextAt .later Tryz.pinned [.data, .data, .data, .data] true :=
  OpenClaim.laidByTextAt_later rfl rfl tie noOwnUnsafe
theorem typingKnown_row_tie : Rows.typingKnownRow.laidByTextAt .later Tryz.pinned [.data, .data, .data, .data] true :=
  OpenClaim.laidByTextAt_later rfl rfl tie noOwnUnsafe
theorem typingOfUpto_row_tie : Rows.typingOfUptoRow.laidByTextAt .later Tryz.pinned [.data, .data, .data, .data] true :=
  OpenClaim.laidByTextAt_later rfl rfl tie noOwnUnsafe
theorem typingPartsUpto_row_tie : Rows.typingPartsUptoRow.laidByTextAt .later Tryz.pinned [.data, .data, .data, .data] true :=
  OpenClaim.laidByTextAt_later rfl rfl tie noOwnUnsafe
theorem typingOutsideUpto_row_tie : Rows.typingOutsideUptoRow.laidByTextAt .later Tryz.pinned [.data, .data, .data, .data] true :=
  OpenClaim.laidByTextAt_later rfl rfl tie noOwnUnsafe
theorem typingTargetsUpto_row_tie : Rows.typingTargetsUptoRow.laidByTextAt .later Tryz.pinned [.data, .data, .data, .data] true :=
  OpenClaim.laidByTextAt_later rfl rfl tie noOwnUnsafe
theorem typingKnownUpto_row_tie : Rows.typingKnownUptoRow.laidByTextAt .later Tryz.pinned [.data, .data, .data, .data] true :=
  OpenClaim.laidByTextAt_later rfl rfl tie noOwnUnsafe
end Go.Proofs.YtdhmplmpbcnojaaGreatDoor

/-
  No cell of these rows narrows 'for every input' (looked for: loops, veiled, ifaces, maps, wideKeys, modest, calm, conditions, laid).
  DERIVED. THE GIVEN ROWS OF THIS SEAT. 8 by the template 'for every input the law returns true; each argument reads behind the call as it read before'; 0 by the template 'total and deterministic' (their statements: YtoeghfpkpppchaaTotals.lean).
  GIVEN WITH THE SEED: the statements are not yours to turn. If you find one false, say at which input.
  Laid BY PROGRAM, IN A SANDBOX (cutbox-rows.mjs): the forced cells as the released guide's own fill.sh prints them over the translation 4a51da1b0d0b03a7… (all of the seat's roots in one cut). By AI agents, Wed Nov 11 2026. No macro, syntax, notation, axiom, sorry.
-/
import Derived.Test.YtoeghfpkpppchaaChecked
import GoSem.Claim
import GoSem.ClaimJoined
import GoSem.ClaimMapViews
import Derived.JoinedTies
import Derived.KernelRfl
namespace Go.Proofs.Ytoeghfpkpppchaa
/- THE CELL 'sum', in the pinned program and in every row, IS THE sha256 OF THE DUMP (.gsa) THAT YtoeghfpkpppchaaProg.lean LOADS. Nothing in Lean hashes anything: it is a label: what it is worth is what the hold of that sum in a sandbox is worth. -/
noncomputable def Try.pinned : Pinned := { name := "ytoeghfpkpppchaa", sum := "4a51da1b0d0b03a7b1f55de35ea4897a7583dc20d3fce3c56db3e9015c4aa73a", checked := Try.checked }
namespace Rows
def none {H : Type} : Left H := { results := [], args := [] }

/-- 'transputerlaw33.SerialSteps': WHATEVER THE INPUT: true; the input reads as it did. -/
def serialStepsSpec : ChangeSpec := { name := "serialSteps", fn := fun _ => fun
  | [d1, d2] => { results := [.lit (.bool true)], args := [d1, d2] }
  | _ => none }
def serialStepsRow : OpenClaim := { program := "ytoeghfpkpppchaa", sum := "4a51da1b0d0b03a7b1f55de35ea4897a7583dc20d3fce3c56db3e9015c4aa73a", func := "transputer/transputerlaw33.SerialSteps", spec := "serialSteps", apart := false }
def SerialStepsSaid : Prop := serialStepsRow.holds Try.pinned (OpenSpec.ofChange serialStepsSpec)

/-- ITS FALSE NEIGHBOUR: 'it returns false'. Refute it at one input. -/
def serialStepsWrong : ChangeSpec := { name := "serialSteps", fn := fun _ => fun
  | [d1, d2] => { results := [.lit (.bool false)], args := [d1, d2] }
  | _ => none }
def SerialStepsWrongFalsely : Prop := serialStepsRow.holds Try.pinned (OpenSpec.ofChange serialStepsWrong)

/-- 'transputerlaw33.SerialApart': WHATEVER THE INPUT: true; the input reads as it did. -/
def serialApartSpec : ChangeSpec := { name := "serialApart", fn := fun _ => fun
  | [d1, d2] => { results := [.lit (.bool true)], args := [d1, d2] }
  | _ => none }
def serialApartRow : OpenClaim := { program := "ytoeghfpkpppchaa", sum := "4a51da1b0d0b03a7b1f55de35ea4897a7583dc20d3fce3c56db3e9015c4aa73a", func := "transputer/transputerlaw33.SerialApart", spec := "serialApart", apart := false }
def SerialApartSaid : Prop := serialApartRow.holds Try.pinned (OpenSpec.ofChange serialApartSpec)

/-- ITS FALSE NEIGHBOUR: 'it returns false'. Refute it at one input. -/
def serialApartWrong : ChangeSpec := { name := "serialApart", fn := fun _ => fun
  | [d1, d2] => { results := [.lit (.bool false)], args := [d1, d2] }
  | _ => none }
def SerialApartWrongFalsely : Prop := serialApartRow.holds Try.pinned (OpenSpec.ofChange serialApartWrong)

/-- 'transputerlaw33.SerialPackets': WHATEVER THE INPUT: true; the input reads as it did. -/
def serialPacketsSpec : ChangeSpec := { name := "serialPackets", fn := fun _ => fun
  | [d1, d2] => { results := [.lit (.bool true)], args := [d1, d2] }
  | _ => none }
def serialPacketsRow : OpenClaim := { program := "ytoeghfpkpppchaa", sum := "4a51da1b0d0b03a7b1f55de35ea4897a7583dc20d3fce3c56db3e9015c4aa73a", func := "transputer/transputerlaw33.SerialPackets", spec := "serialPackets", apart := false }
def SerialPacketsSaid : Prop := serialPacketsRow.holds Try.pinned (OpenSpec.ofChange serialPacketsSpec)

/-- ITS FALSE NEIGHBOUR: 'it returns false'. Refute it at one input. -/
def serialPacketsWrong : ChangeSpec := { name := "serialPackets", fn := fun _ => fun
  | [d1, d2] => { results := [.lit (.bool false)], args := [d1, d2] }
  | _ => none }
def SerialPacketsWrongFalsely : Prop := serialPacketsRow.holds Try.pinned (OpenSpec.ofChange serialPacketsWrong)

/-- 'transputerlaw33.SerialBits': WHATEVER THE INPUT: true; the input reads as it did. -/
def serialBitsSpec : ChangeSpec := { name := "serialBits", fn := fun _ => fun
  | [d1, d2] => { results := [.lit (.bool true)], args := [d1, d2] }
  | _ => none }
def serialBitsRow : OpenClaim := { program := "ytoeghfpkpppchaa", sum := "4a51da1b0d0b03a7b1f55de35ea4897a7583dc20d3fce3c56db3e9015c4aa73a", func := "transputer/transputerlaw33.SerialBits", spec := "serialBits", apart := false }
def SerialBitsSaid : Prop := serialBitsRow.holds Try.pinned (OpenSpec.ofChange serialBitsSpec)

/-- ITS FALSE NEIGHBOUR: 'it returns false'. Refute it at one input. -/
def serialBitsWrong : ChangeSpec := { name := "serialBits", fn := fun _ => fun
  | [d1, d2] => { results := [.lit (.bool false)], args := [d1, d2] }
  | _ => none }
def SerialBitsWrongFalsely : Prop := serialBitsRow.holds Try.pinned (OpenSpec.ofChange serialBitsWrong)

/-- 'transputerlaw33.SerialBad': WHATEVER THE INPUT: true; the input reads as it did. -/
def serialBadSpec : ChangeSpec := { name := "serialBad", fn := fun _ => fun
  | [d1, d2] => { results := [.lit (.bool true)], args := [d1, d2] }
  | _ => none }
def serialBadRow : OpenClaim := { program := "ytoeghfpkpppchaa", sum := "4a51da1b0d0b03a7b1f55de35ea4897a7583dc20d3fce3c56db3e9015c4aa73a", func := "transputer/transputerlaw33.SerialBad", spec := "serialBad", apart := false }
def SerialBadSaid : Prop := serialBadRow.holds Try.pinned (OpenSpec.ofChange serialBadSpec)

/-- ITS FALSE NEIGHBOUR: 'it returns false'. Refute it at one input. -/
def serialBadWrong : ChangeSpec := { name := "serialBad", fn := fun _ => fun
  | [d1, d2] => { results := [.lit (.bool false)], args := [d1, d2] }
  | _ => none }
def SerialBadWrongFalsely : Prop := serialBadRow.holds Try.pinned (OpenSpec.ofChange serialBadWrong)

/-- 'transputerlaw33.SerialGives': WHATEVER THE INPUT: true; the input reads as it did. -/
def serialGivesSpec : ChangeSpec := { name := "serialGives", fn := fun _ => fun
  | [d1, d2] => { results := [.lit (.bool true)], args := [d1, d2] }
  | _ => none }
def serialGivesRow : OpenClaim := { program := "ytoeghfpkpppchaa", sum := "4a51da1b0d0b03a7b1f55de35ea4897a7583dc20d3fce3c56db3e9015c4aa73a", func := "transputer/transputerlaw33.SerialGives", spec := "serialGives", apart := false }
def SerialGivesSaid : Prop := serialGivesRow.holds Try.pinned (OpenSpec.ofChange serialGivesSpec)

/-- ITS FALSE NEIGHBOUR: 'it returns false'. Refute it at one input. -/
def serialGivesWrong : ChangeSpec := { name := "serialGives", fn := fun _ => fun
  | [d1, d2] => { results := [.lit (.bool false)], args := [d1, d2] }
  | _ => none }
def SerialGivesWrongFalsely : Prop := serialGivesRow.holds Try.pinned (OpenSpec.ofChange serialGivesWrong)

/-- 'transputerlaw33.SerialCarries': WHATEVER THE INPUT: true; the input reads as it did. -/
def serialCarriesSpec : ChangeSpec := { name := "serialCarries", fn := fun _ => fun
  | [d] => { results := [.lit (.bool true)], args := [d] }
  | _ => none }
def serialCarriesRow : OpenClaim := { program := "ytoeghfpkpppchaa", sum := "4a51da1b0d0b03a7b1f55de35ea4897a7583dc20d3fce3c56db3e9015c4aa73a", func := "transputer/transputerlaw33.SerialCarries", spec := "serialCarries", apart := false }
def SerialCarriesSaid : Prop := serialCarriesRow.holds Try.pinned (OpenSpec.ofChange serialCarriesSpec)

/-- ITS FALSE NEIGHBOUR: 'it returns false'. Refute it at one input. -/
def serialCarriesWrong : ChangeSpec := { name := "serialCarries", fn := fun _ => fun
  | [d] => { results := [.lit (.bool false)], args := [d] }
  | _ => none }
def SerialCarriesWrongFalsely : Prop := serialCarriesRow.holds Try.pinned (OpenSpec.ofChange serialCarriesWrong)

/-- 'transputerlaw33.SerialRest': WHATEVER THE INPUT: true; the input reads as it did. -/
def serialRestSpec : ChangeSpec := { name := "serialRest", fn := fun _ => fun
  | [d] => { results := [.lit (.bool true)], args := [d] }
  | _ => none }
def serialRestRow : OpenClaim := { program := "ytoeghfpkpppchaa", sum := "4a51da1b0d0b03a7b1f55de35ea4897a7583dc20d3fce3c56db3e9015c4aa73a", func := "transputer/transputerlaw33.SerialRest", spec := "serialRest", apart := false }
def SerialRestSaid : Prop := serialRestRow.holds Try.pinned (OpenSpec.ofChange serialRestSpec)

/-- ITS FALSE NEIGHBOUR: 'it returns false'. Refute it at one input. -/
def serialRestWrong : ChangeSpec := { name := "serialRest", fn := fun _ => fun
  | [d] => { results := [.lit (.bool false)], args := [d] }
  | _ => none }
def SerialRestWrongFalsely : Prop := serialRestRow.holds Try.pinned (OpenSpec.ofChange serialRestWrong)

/- THE SECOND FORM. 'bulk': how many values and letters a reading holds, each counted each time it is reached (what is shared counts as often as it is met; a slice's spare places count too). A statement '..UptoSaid' is the law's where the arguments, and the package variables that the reading takes, are together of bulk at most 1048576: NARROWER than '..Said'. Prove '..Said' where nothing that the law and all that it calls make is longer than what came in: it says more and counts as full. Else prove '..UptoSaid'. A law counts once. -/
mutual
def uptoBulk {H : Type} : DataW H → Nat
  | .lit (.string bytes) => bytes.length + 1
  | .lit _ => 1
  | .nil => 1
  | .ptr d => uptoBulk d + 1
  | .slice elems spare => uptoBulkAll elems + uptoBulkAll spare + 1
  | .agg parts => uptoBulkAll parts + 1
  | .iface _ d => uptoBulk d + 1
  | .map entries => uptoBulkEntries entries + 1
  | .held _ => 1
def uptoBulkAll {H : Type} : List (DataW H) → Nat
  | [] => 0
  | d :: r => uptoBulk d + uptoBulkAll r
def uptoBulkEntries {H : Type} : List (Lit × DataW H) → Nat
  | [] => 0
  | x :: r => uptoBulkEntry x + uptoBulkEntries r
def uptoBulkEntry {H : Type} : Lit × DataW H → Nat
  | (.string bytes, d) => bytes.length + uptoBulk d + 1
  | (_, d) => uptoBulk d + 1
 end
def uptoSmall : (H : Type) → List (DataW H) → Bool := fun _ ds => decide (uptoBulkAll ds ≤ 1048576)
def OpenSpec.upto (s : _root_.Go.ChangeSpec) : _root_.Go.OpenSpec := { _root_.Go.OpenSpec.ofChange s with cond := some uptoSmall }

/-- 'transputerlaw33.SerialSteps', WHERE WHAT IT READS IS OF BULK AT MOST 1048576: true; the input reads as it did. -/
def serialStepsUptoRow : OpenClaim := { program := "ytoeghfpkpppchaa", sum := "4a51da1b0d0b03a7b1f55de35ea4897a7583dc20d3fce3c56db3e9015c4aa73a", func := "transputer/transputerlaw33.SerialSteps", spec := "serialSteps", apart := false, narrowed := true }
def SerialStepsUptoSaid : Prop := serialStepsUptoRow.holds Try.pinned (OpenSpec.upto serialStepsSpec)

/-- 'transputerlaw33.SerialApart', WHERE WHAT IT READS IS OF BULK AT MOST 1048576: true; the input reads as it did. -/
def serialApartUptoRow : OpenClaim := { program := "ytoeghfpkpppchaa", sum := "4a51da1b0d0b03a7b1f55de35ea4897a7583dc20d3fce3c56db3e9015c4aa73a", func := "transputer/transputerlaw33.SerialApart", spec := "serialApart", apart := false, narrowed := true }
def SerialApartUptoSaid : Prop := serialApartUptoRow.holds Try.pinned (OpenSpec.upto serialApartSpec)

/-- 'transputerlaw33.SerialPackets', WHERE WHAT IT READS IS OF BULK AT MOST 1048576: true; the input reads as it did. -/
def serialPacketsUptoRow : OpenClaim := { program := "ytoeghfpkpppchaa", sum := "4a51da1b0d0b03a7b1f55de35ea4897a7583dc20d3fce3c56db3e9015c4aa73a", func := "transputer/transputerlaw33.SerialPackets", spec := "serialPackets", apart := false, narrowed := true }
def SerialPacketsUptoSaid : Prop := serialPacketsUptoRow.holds Try.pinned (OpenSpec.upto serialPacketsSpec)

/-- 'transputerlaw33.SerialBits', WHERE WHAT IT READS IS OF BULK AT MOST 1048576: true; the input reads as it did. -/
def serialBitsUptoRow : OpenClaim := { program := "ytoeghfpkpppchaa", sum := "4a51da1b0d0b03a7b1f55de35ea4897a7583dc20d3fce3c56db3e9015c4aa73a", func := "transputer/transputerlaw33.SerialBits", spec := "serialBits", apart := false, narrowed := true }
def SerialBitsUptoSaid : Prop := serialBitsUptoRow.holds Try.pinned (OpenSpec.upto serialBitsSpec)

/-- 'transputerlaw33.SerialBad', WHERE WHAT IT READS IS OF BULK AT MOST 1048576: true; the input reads as it did. -/
def serialBadUptoRow : OpenClaim := { program := "ytoeghfpkpppchaa", sum := "4a51da1b0d0b03a7b1f55de35ea4897a7583dc20d3fce3c56db3e9015c4aa73a", func := "transputer/transputerlaw33.SerialBad", spec := "serialBad", apart := false, narrowed := true }
def SerialBadUptoSaid : Prop := serialBadUptoRow.holds Try.pinned (OpenSpec.upto serialBadSpec)

/-- 'transputerlaw33.SerialGives', WHERE WHAT IT READS IS OF BULK AT MOST 1048576: true; the input reads as it did. -/
def serialGivesUptoRow : OpenClaim := { program := "ytoeghfpkpppchaa", sum := "4a51da1b0d0b03a7b1f55de35ea4897a7583dc20d3fce3c56db3e9015c4aa73a", func := "transputer/transputerlaw33.SerialGives", spec := "serialGives", apart := false, narrowed := true }
def SerialGivesUptoSaid : Prop := serialGivesUptoRow.holds Try.pinned (OpenSpec.upto serialGivesSpec)

/-- 'transputerlaw33.SerialCarries', WHERE WHAT IT READS IS OF BULK AT MOST 1048576: true; the input reads as it did. -/
def serialCarriesUptoRow : OpenClaim := { program := "ytoeghfpkpppchaa", sum := "4a51da1b0d0b03a7b1f55de35ea4897a7583dc20d3fce3c56db3e9015c4aa73a", func := "transputer/transputerlaw33.SerialCarries", spec := "serialCarries", apart := false, narrowed := true }
def SerialCarriesUptoSaid : Prop := serialCarriesUptoRow.holds Try.pinned (OpenSpec.upto serialCarriesSpec)

/-- 'transputerlaw33.SerialRest', WHERE WHAT IT READS IS OF BULK AT MOST 1048576: true; the input reads as it did. -/
def serialRestUptoRow : OpenClaim := { program := "ytoeghfpkpppchaa", sum := "4a51da1b0d0b03a7b1f55de35ea4897a7583dc20d3fce3c56db3e9015c4aa73a", func := "transputer/transputerlaw33.SerialRest", spec := "serialRest", apart := false, narrowed := true }
def SerialRestUptoSaid : Prop := serialRestUptoRow.holds Try.pinned (OpenSpec.upto serialRestSpec)

end Rows
end Go.Proofs.Ytoeghfpkpppchaa

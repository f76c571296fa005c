/-
  No cell of these rows narrows 'for every input' (looked for: loops, veiled, ifaces, maps, wideKeys, modest, calm, conditions, laid).
  DERIVED. THE GIVEN ROWS OF THIS SEAT. 7 by the template 'for every input the law returns true; each argument reads behind the call as it read before'; 0 by the template 'total and deterministic' (their statements: YtdfobghpbbohdaaTotals.lean).
  GIVEN WITH THE SEED: the statements are not yours to turn. If you find one false, say at which input.
  Laid BY PROGRAM, IN A SANDBOX (cutbox-rows.mjs): the forced cells as the released guide's own fill.sh prints them over the translation 2fdca5058ebc1b63… (all of the seat's roots in one cut). By AI agents, Wed Nov 11 2026. No macro, syntax, notation, axiom, sorry.
-/
import Derived.Test.YtdfobghpbbohdaaChecked
import GoSem.Claim
import GoSem.ClaimJoined
import GoSem.ClaimMapViews
import Derived.JoinedTies
import Derived.KernelRfl
namespace Go.Proofs.Ytdfobghpbbohdaa
/- THE CELL 'sum', in the pinned program and in every row, IS THE sha256 OF THE DUMP (.gsa) THAT YtdfobghpbbohdaaProg.lean LOADS. Nothing in Lean hashes anything: it is a label: what it is worth is what the hold of that sum in a sandbox is worth. -/
noncomputable def Try.pinned : Pinned := { name := "ytdfobghpbbohdaa", sum := "2fdca5058ebc1b63773ceab2dc934258a53d21a4cdd397416af6eeb45f3d732b", checked := Try.checked }
namespace Rows
def none {H : Type} : Left H := { results := [], args := [] }

/-- 'transputerlaw27.ObjectPuts': WHATEVER THE INPUT: true; the input reads as it did. -/
def objectPutsSpec : ChangeSpec := { name := "objectPuts", fn := fun _ => fun
  | [d] => { results := [.lit (.bool true)], args := [d] }
  | _ => none }
def objectPutsRow : OpenClaim := { program := "ytdfobghpbbohdaa", sum := "2fdca5058ebc1b63773ceab2dc934258a53d21a4cdd397416af6eeb45f3d732b", func := "transputer/transputerlaw27.ObjectPuts", spec := "objectPuts", unfollowed := true, recurses := true, apart := false }
def ObjectPutsSaid : Prop := objectPutsRow.holds Try.pinned (OpenSpec.ofChange objectPutsSpec)

/-- ITS FALSE NEIGHBOUR: 'it returns false'. Refute it at one input. -/
def objectPutsWrong : ChangeSpec := { name := "objectPuts", fn := fun _ => fun
  | [d] => { results := [.lit (.bool false)], args := [d] }
  | _ => none }
def ObjectPutsWrongFalsely : Prop := objectPutsRow.holds Try.pinned (OpenSpec.ofChange objectPutsWrong)

/-- 'transputerlaw27.ObjectGets': WHATEVER THE INPUT: true; the input reads as it did. -/
def objectGetsSpec : ChangeSpec := { name := "objectGets", fn := fun _ => fun
  | [d] => { results := [.lit (.bool true)], args := [d] }
  | _ => none }
def objectGetsRow : OpenClaim := { program := "ytdfobghpbbohdaa", sum := "2fdca5058ebc1b63773ceab2dc934258a53d21a4cdd397416af6eeb45f3d732b", func := "transputer/transputerlaw27.ObjectGets", spec := "objectGets", unfollowed := true, recurses := true, apart := false }
def ObjectGetsSaid : Prop := objectGetsRow.holds Try.pinned (OpenSpec.ofChange objectGetsSpec)

/-- ITS FALSE NEIGHBOUR: 'it returns false'. Refute it at one input. -/
def objectGetsWrong : ChangeSpec := { name := "objectGets", fn := fun _ => fun
  | [d] => { results := [.lit (.bool false)], args := [d] }
  | _ => none }
def ObjectGetsWrongFalsely : Prop := objectGetsRow.holds Try.pinned (OpenSpec.ofChange objectGetsWrong)

/-- 'transputerlaw27.ObjectSums': WHATEVER THE INPUT: true; the input reads as it did. -/
def objectSumsSpec : ChangeSpec := { name := "objectSums", fn := fun _ => fun
  | [d] => { results := [.lit (.bool true)], args := [d] }
  | _ => none }
def objectSumsRow : OpenClaim := { program := "ytdfobghpbbohdaa", sum := "2fdca5058ebc1b63773ceab2dc934258a53d21a4cdd397416af6eeb45f3d732b", func := "transputer/transputerlaw27.ObjectSums", spec := "objectSums", unfollowed := true, recurses := true, apart := false }
def ObjectSumsSaid : Prop := objectSumsRow.holds Try.pinned (OpenSpec.ofChange objectSumsSpec)

/-- ITS FALSE NEIGHBOUR: 'it returns false'. Refute it at one input. -/
def objectSumsWrong : ChangeSpec := { name := "objectSums", fn := fun _ => fun
  | [d] => { results := [.lit (.bool false)], args := [d] }
  | _ => none }
def ObjectSumsWrongFalsely : Prop := objectSumsRow.holds Try.pinned (OpenSpec.ofChange objectSumsWrong)

/-- 'transputerlaw27.ObjectBack': WHATEVER THE INPUT: true; the input reads as it did. -/
def objectBackSpec : ChangeSpec := { name := "objectBack", fn := fun _ => fun
  | [d1, d2] => { results := [.lit (.bool true)], args := [d1, d2] }
  | _ => none }
def objectBackRow : OpenClaim := { program := "ytdfobghpbbohdaa", sum := "2fdca5058ebc1b63773ceab2dc934258a53d21a4cdd397416af6eeb45f3d732b", func := "transputer/transputerlaw27.ObjectBack", spec := "objectBack", unfollowed := true, recurses := true, apart := false }
def ObjectBackSaid : Prop := objectBackRow.holds Try.pinned (OpenSpec.ofChange objectBackSpec)

/-- ITS FALSE NEIGHBOUR: 'it returns false'. Refute it at one input. -/
def objectBackWrong : ChangeSpec := { name := "objectBack", fn := fun _ => fun
  | [d1, d2] => { results := [.lit (.bool false)], args := [d1, d2] }
  | _ => none }
def ObjectBackWrongFalsely : Prop := objectBackRow.holds Try.pinned (OpenSpec.ofChange objectBackWrong)

/-- 'transputerlaw27.ObjectTorn': WHATEVER THE INPUT: true; the input reads as it did. -/
def objectTornSpec : ChangeSpec := { name := "objectTorn", fn := fun _ => fun
  | [d1, d2, d3, d4, d5] => { results := [.lit (.bool true)], args := [d1, d2, d3, d4, d5] }
  | _ => none }
def objectTornRow : OpenClaim := { program := "ytdfobghpbbohdaa", sum := "2fdca5058ebc1b63773ceab2dc934258a53d21a4cdd397416af6eeb45f3d732b", func := "transputer/transputerlaw27.ObjectTorn", spec := "objectTorn", unfollowed := true, recurses := true, apart := false }
def ObjectTornSaid : Prop := objectTornRow.holds Try.pinned (OpenSpec.ofChange objectTornSpec)

/-- ITS FALSE NEIGHBOUR: 'it returns false'. Refute it at one input. -/
def objectTornWrong : ChangeSpec := { name := "objectTorn", fn := fun _ => fun
  | [d1, d2, d3, d4, d5] => { results := [.lit (.bool false)], args := [d1, d2, d3, d4, d5] }
  | _ => none }
def ObjectTornWrongFalsely : Prop := objectTornRow.holds Try.pinned (OpenSpec.ofChange objectTornWrong)

/-- 'transputerlaw27.ObjectLinear': WHATEVER THE INPUT: true; the input reads as it did. -/
def objectLinearSpec : ChangeSpec := { name := "objectLinear", fn := fun _ => fun
  | [d1, d2, d3] => { results := [.lit (.bool true)], args := [d1, d2, d3] }
  | _ => none }
def objectLinearRow : OpenClaim := { program := "ytdfobghpbbohdaa", sum := "2fdca5058ebc1b63773ceab2dc934258a53d21a4cdd397416af6eeb45f3d732b", func := "transputer/transputerlaw27.ObjectLinear", spec := "objectLinear", unfollowed := true, recurses := true, apart := false }
def ObjectLinearSaid : Prop := objectLinearRow.holds Try.pinned (OpenSpec.ofChange objectLinearSpec)

/-- ITS FALSE NEIGHBOUR: 'it returns false'. Refute it at one input. -/
def objectLinearWrong : ChangeSpec := { name := "objectLinear", fn := fun _ => fun
  | [d1, d2, d3] => { results := [.lit (.bool false)], args := [d1, d2, d3] }
  | _ => none }
def ObjectLinearWrongFalsely : Prop := objectLinearRow.holds Try.pinned (OpenSpec.ofChange objectLinearWrong)

/-- 'transputerlaw27.ObjectDiffers': WHATEVER THE INPUT: true; the input reads as it did. -/
def objectDiffersSpec : ChangeSpec := { name := "objectDiffers", fn := fun _ => fun
  | [d1, d2, d3, d4] => { results := [.lit (.bool true)], args := [d1, d2, d3, d4] }
  | _ => none }
def objectDiffersRow : OpenClaim := { program := "ytdfobghpbbohdaa", sum := "2fdca5058ebc1b63773ceab2dc934258a53d21a4cdd397416af6eeb45f3d732b", func := "transputer/transputerlaw27.ObjectDiffers", spec := "objectDiffers", unfollowed := true, recurses := true, apart := false }
def ObjectDiffersSaid : Prop := objectDiffersRow.holds Try.pinned (OpenSpec.ofChange objectDiffersSpec)

/-- ITS FALSE NEIGHBOUR: 'it returns false'. Refute it at one input. -/
def objectDiffersWrong : ChangeSpec := { name := "objectDiffers", fn := fun _ => fun
  | [d1, d2, d3, d4] => { results := [.lit (.bool false)], args := [d1, d2, d3, d4] }
  | _ => none }
def ObjectDiffersWrongFalsely : Prop := objectDiffersRow.holds Try.pinned (OpenSpec.ofChange objectDiffersWrong)

/- THE SECOND FORM. 'bulk': how many values and letters a reading holds, each counted each time it is reached (what is shared counts as often as it is met; a slice's spare places count too). A statement '..UptoSaid' is the law's where the arguments, and the package variables that the reading takes, are together of bulk at most 1048576: NARROWER than '..Said'. Prove '..Said' where nothing that the law and all that it calls make is longer than what came in: it says more and counts as full. Else prove '..UptoSaid'. A law counts once. -/
mutual
def uptoBulk {H : Type} : DataW H → Nat
  | .lit (.string bytes) => bytes.length + 1
  | .lit _ => 1
  | .nil => 1
  | .ptr d => uptoBulk d + 1
  | .slice elems spare => uptoBulkAll elems + uptoBulkAll spare + 1
  | .agg parts => uptoBulkAll parts + 1
  | .iface _ d => uptoBulk d + 1
  | .map entries => uptoBulkEntries entries + 1
  | .held _ => 1
def uptoBulkAll {H : Type} : List (DataW H) → Nat
  | [] => 0
  | d :: r => uptoBulk d + uptoBulkAll r
def uptoBulkEntries {H : Type} : List (Lit × DataW H) → Nat
  | [] => 0
  | x :: r => uptoBulkEntry x + uptoBulkEntries r
def uptoBulkEntry {H : Type} : Lit × DataW H → Nat
  | (.string bytes, d) => bytes.length + uptoBulk d + 1
  | (_, d) => uptoBulk d + 1
 end
def uptoSmall : (H : Type) → List (DataW H) → Bool := fun _ ds => decide (uptoBulkAll ds ≤ 1048576)
def OpenSpec.upto (s : _root_.Go.ChangeSpec) : _root_.Go.OpenSpec := { _root_.Go.OpenSpec.ofChange s with cond := some uptoSmall }

/-- 'transputerlaw27.ObjectPuts', WHERE WHAT IT READS IS OF BULK AT MOST 1048576: true; the input reads as it did. -/
def objectPutsUptoRow : OpenClaim := { program := "ytdfobghpbbohdaa", sum := "2fdca5058ebc1b63773ceab2dc934258a53d21a4cdd397416af6eeb45f3d732b", func := "transputer/transputerlaw27.ObjectPuts", spec := "objectPuts", unfollowed := true, recurses := true, apart := false, narrowed := true }
def ObjectPutsUptoSaid : Prop := objectPutsUptoRow.holds Try.pinned (OpenSpec.upto objectPutsSpec)

/-- 'transputerlaw27.ObjectGets', WHERE WHAT IT READS IS OF BULK AT MOST 1048576: true; the input reads as it did. -/
def objectGetsUptoRow : OpenClaim := { program := "ytdfobghpbbohdaa", sum := "2fdca5058ebc1b63773ceab2dc934258a53d21a4cdd397416af6eeb45f3d732b", func := "transputer/transputerlaw27.ObjectGets", spec := "objectGets", unfollowed := true, recurses := true, apart := false, narrowed := true }
def ObjectGetsUptoSaid : Prop := objectGetsUptoRow.holds Try.pinned (OpenSpec.upto objectGetsSpec)

/-- 'transputerlaw27.ObjectSums', WHERE WHAT IT READS IS OF BULK AT MOST 1048576: true; the input reads as it did. -/
def objectSumsUptoRow : OpenClaim := { program := "ytdfobghpbbohdaa", sum := "2fdca5058ebc1b63773ceab2dc934258a53d21a4cdd397416af6eeb45f3d732b", func := "transputer/transputerlaw27.ObjectSums", spec := "objectSums", unfollowed := true, recurses := true, apart := false, narrowed := true }
def ObjectSumsUptoSaid : Prop := objectSumsUptoRow.holds Try.pinned (OpenSpec.upto objectSumsSpec)

/-- 'transputerlaw27.ObjectBack', WHERE WHAT IT READS IS OF BULK AT MOST 1048576: true; the input reads as it did. -/
def objectBackUptoRow : OpenClaim := { program := "ytdfobghpbbohdaa", sum := "2fdca5058ebc1b63773ceab2dc934258a53d21a4cdd397416af6eeb45f3d732b", func := "transputer/transputerlaw27.ObjectBack", spec := "objectBack", unfollowed := true, recurses := true, apart := false, narrowed := true }
def ObjectBackUptoSaid : Prop := objectBackUptoRow.holds Try.pinned (OpenSpec.upto objectBackSpec)

/-- 'transputerlaw27.ObjectTorn', WHERE WHAT IT READS IS OF BULK AT MOST 1048576: true; the input reads as it did. -/
def objectTornUptoRow : OpenClaim := { program := "ytdfobghpbbohdaa", sum := "2fdca5058ebc1b63773ceab2dc934258a53d21a4cdd397416af6eeb45f3d732b", func := "transputer/transputerlaw27.ObjectTorn", spec := "objectTorn", unfollowed := true, recurses := true, apart := false, narrowed := true }
def ObjectTornUptoSaid : Prop := objectTornUptoRow.holds Try.pinned (OpenSpec.upto objectTornSpec)

/-- 'transputerlaw27.ObjectLinear', WHERE WHAT IT READS IS OF BULK AT MOST 1048576: true; the input reads as it did. -/
def objectLinearUptoRow : OpenClaim := { program := "ytdfobghpbbohdaa", sum := "2fdca5058ebc1b63773ceab2dc934258a53d21a4cdd397416af6eeb45f3d732b", func := "transputer/transputerlaw27.ObjectLinear", spec := "objectLinear", unfollowed := true, recurses := true, apart := false, narrowed := true }
def ObjectLinearUptoSaid : Prop := objectLinearUptoRow.holds Try.pinned (OpenSpec.upto objectLinearSpec)

/-- 'transputerlaw27.ObjectDiffers', WHERE WHAT IT READS IS OF BULK AT MOST 1048576: true; the input reads as it did. -/
def objectDiffersUptoRow : OpenClaim := { program := "ytdfobghpbbohdaa", sum := "2fdca5058ebc1b63773ceab2dc934258a53d21a4cdd397416af6eeb45f3d732b", func := "transputer/transputerlaw27.ObjectDiffers", spec := "objectDiffers", unfollowed := true, recurses := true, apart := false, narrowed := true }
def ObjectDiffersUptoSaid : Prop := objectDiffersUptoRow.holds Try.pinned (OpenSpec.upto objectDiffersSpec)

end Rows
end Go.Proofs.Ytdfobghpbbohdaa

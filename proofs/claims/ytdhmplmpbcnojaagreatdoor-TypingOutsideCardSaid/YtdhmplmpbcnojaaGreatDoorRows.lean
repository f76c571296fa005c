/-
  NARROWER THAN 'FOR EVERY INPUT', by the rows' own cells (each row's printed sentence says how): TypingOf: loops, laid · TypingParts: loops, laid · TypingOutside: loops, laid · TypingTargets: loops, laid · TypingKnown: laid.
  DERIVED. THE GIVEN ROWS OF THIS SEAT. 5 by the template 'for every input the law returns true; each argument reads behind the call as it read before'; 0 by the template 'total and deterministic' (their statements: YtdhmplmpbcnojaaGreatDoorTotals.lean).
  GIVEN WITH THE SEED: the statements are not yours to turn. If you find one false, say at which input.
  Laid BY PROGRAM, IN A SANDBOX (cutbox-rows.mjs): the forced cells as the released guide's own fill.sh prints them over the translation e76423b54852c0de… (all of the seat's roots in one cut). By AI agents, Wed Nov 11 2026. No macro, syntax, notation, axiom, sorry.
-/
import Derived.Test.YtdhmplmpbcnojaaGreatDoorChecked
import GoSem.Claim
import GoSem.ClaimJoined
import GoSem.ClaimMapViews
import Derived.JoinedTies
import Derived.KernelRfl
namespace Go.Proofs.YtdhmplmpbcnojaaGreatDoor
/- THE CELL 'sum', in the pinned program and in every row, IS THE sha256 OF THE DUMP (.gsa) THAT YtdhmplmpbcnojaaGreatDoorProg.lean LOADS. Nothing in Lean hashes anything: it is a label: what it is worth is what the hold of that sum in a sandbox is worth. -/
noncomputable def Tryz.pinned : Pinned := { name := "ytdhmplmpbcnojaagreatdoor", sum := "e76423b54852c0de1d9ebc728a960c9ef37f1af743fdcb8df0f284fd4926115f", checked := Tryz.checked }
namespace Rows
def none {H : Type} : Left H := { results := [], args := [] }

/- WHAT THE LISTED PACKAGE-LEVEL VARIABLES READ AS WHEN THE CALL BEGINS. Each datum BY PROGRAM (the guide's laid-datum.mjs) off the statement by which the dump's own 'gosem.cut.vars' lays the variable. In a bare row this is a premise. The card (YtdhmplmpbcnojaaGreatDoorCards.lean) ties it to the program's text. -/
def laid_transputer_types_primitive {H : Type} : DataW H := .agg [.agg [.lit (.int .u8 1), .lit (.string [73, 78, 84]), .lit (.int .i64 4)], .agg [.lit (.int .u8 2), .lit (.string [66, 89, 84, 69]), .lit (.int .i64 1)], .agg [.lit (.int .u8 3), .lit (.string [66, 79, 79, 76]), .lit (.int .i64 1)]]
def laid_transputer_syntax_one {H : Type} : DataW H := .agg [.lit (.int .i64 1), .lit (.int .i64 1)]
def laid_transputer_syntax_some {H : Type} : DataW H := .agg [.lit (.int .i64 1), .lit (.int .i64 8)]
def laid_transputer_syntax_all {H : Type} : DataW H := .agg [.lit (.int .i64 0), .lit (.int .i64 2048)]

/-- 'transputerlaw13.TypingOf': WHATEVER THE INPUT: true; the input reads as it did. -/
def typingOfSpec : ChangeSpec := { name := "typingOf", fn := fun _ => fun
  | [d1, d2] => { results := [.lit (.bool true)], args := [d1, d2] }
  | _ => none }
def typingOfRow : OpenClaim := { program := "ytdhmplmpbcnojaagreatdoor", sum := "e76423b54852c0de1d9ebc728a960c9ef37f1af743fdcb8df0f284fd4926115f", func := "transputer/transputerlaw13.TypingOf", spec := "typingOf", inPlace := ["internal/bytealg.IndexByteString", "internal/bytealg.IndexString"], unfollowed := true, recurses := true, named := ["internal/bytealg.MaxLen", "transputer/syntax.all", "transputer/syntax.one", "transputer/syntax.some", "transputer/types.primitive"], loops := true, apart := false, laid := [("transputer/types.primitive", laid_transputer_types_primitive), ("transputer/syntax.one", laid_transputer_syntax_one), ("transputer/syntax.some", laid_transputer_syntax_some), ("transputer/syntax.all", laid_transputer_syntax_all)] }
def TypingOfSaid : Prop := typingOfRow.holds Tryz.pinned (OpenSpec.ofChange typingOfSpec)

/-- ITS FALSE NEIGHBOUR: 'it returns false'. Refute it at one input. -/
def typingOfWrong : ChangeSpec := { name := "typingOf", fn := fun _ => fun
  | [d1, d2] => { results := [.lit (.bool false)], args := [d1, d2] }
  | _ => none }
def TypingOfWrongFalsely : Prop := typingOfRow.holds Tryz.pinned (OpenSpec.ofChange typingOfWrong)

/-- 'transputerlaw13.TypingParts': WHATEVER THE INPUT: true; the input reads as it did. -/
def typingPartsSpec : ChangeSpec := { name := "typingParts", fn := fun _ => fun
  | [d1, d2] => { results := [.lit (.bool true)], args := [d1, d2] }
  | _ => none }
def typingPartsRow : OpenClaim := { program := "ytdhmplmpbcnojaagreatdoor", sum := "e76423b54852c0de1d9ebc728a960c9ef37f1af743fdcb8df0f284fd4926115f", func := "transputer/transputerlaw13.TypingParts", spec := "typingParts", inPlace := ["internal/bytealg.IndexByteString", "internal/bytealg.IndexString"], unfollowed := true, recurses := true, named := ["internal/bytealg.MaxLen", "transputer/syntax.all", "transputer/syntax.one", "transputer/syntax.some", "transputer/types.primitive"], loops := true, apart := false, laid := [("transputer/types.primitive", laid_transputer_types_primitive), ("transputer/syntax.one", laid_transputer_syntax_one), ("transputer/syntax.some", laid_transputer_syntax_some), ("transputer/syntax.all", laid_transputer_syntax_all)] }
def TypingPartsSaid : Prop := typingPartsRow.holds Tryz.pinned (OpenSpec.ofChange typingPartsSpec)

/-- ITS FALSE NEIGHBOUR: 'it returns false'. Refute it at one input. -/
def typingPartsWrong : ChangeSpec := { name := "typingParts", fn := fun _ => fun
  | [d1, d2] => { results := [.lit (.bool false)], args := [d1, d2] }
  | _ => none }
def TypingPartsWrongFalsely : Prop := typingPartsRow.holds Tryz.pinned (OpenSpec.ofChange typingPartsWrong)

/-- 'transputerlaw13.TypingOutside': WHATEVER THE INPUT: true; the input reads as it did. -/
def typingOutsideSpec : ChangeSpec := { name := "typingOutside", fn := fun _ => fun
  | [d1, d2, d3] => { results := [.lit (.bool true)], args := [d1, d2, d3] }
  | _ => none }
def typingOutsideRow : OpenClaim := { program := "ytdhmplmpbcnojaagreatdoor", sum := "e76423b54852c0de1d9ebc728a960c9ef37f1af743fdcb8df0f284fd4926115f", func := "transputer/transputerlaw13.TypingOutside", spec := "typingOutside", inPlace := ["internal/bytealg.IndexByteString", "internal/bytealg.IndexString"], unfollowed := true, recurses := true, named := ["internal/bytealg.MaxLen", "transputer/syntax.all", "transputer/syntax.one", "transputer/syntax.some", "transputer/types.primitive"], loops := true, apart := false, laid := [("transputer/types.primitive", laid_transputer_types_primitive), ("transputer/syntax.one", laid_transputer_syntax_one), ("transputer/syntax.some", laid_transputer_syntax_some), ("transputer/syntax.all", laid_transputer_syntax_all)] }
def TypingOutsideSaid : Prop := typingOutsideRow.holds Tryz.pinned (OpenSpec.ofChange typingOutsideSpec)

/-- ITS FALSE NEIGHBOUR: 'it returns false'. Refute it at one input. -/
def typingOutsideWrong : ChangeSpec := { name := "typingOutside", fn := fun _ => fun
  | [d1, d2, d3] => { results := [.lit (.bool false)], args := [d1, d2, d3] }
  | _ => none }
def TypingOutsideWrongFalsely : Prop := typingOutsideRow.holds Tryz.pinned (OpenSpec.ofChange typingOutsideWrong)

/-- 'transputerlaw13.TypingTargets': WHATEVER THE INPUT: true; the input reads as it did. -/
def typingTargetsSpec : ChangeSpec := { name := "typingTargets", fn := fun _ => fun
  | [d1, d2, d3] => { results := [.lit (.bool true)], args := [d1, d2, d3] }
  | _ => none }
def typingTargetsRow : OpenClaim := { program := "ytdhmplmpbcnojaagreatdoor", sum := "e76423b54852c0de1d9ebc728a960c9ef37f1af743fdcb8df0f284fd4926115f", func := "transputer/transputerlaw13.TypingTargets", spec := "typingTargets", inPlace := ["internal/bytealg.IndexByteString", "internal/bytealg.IndexString"], unfollowed := true, recurses := true, named := ["internal/bytealg.MaxLen", "transputer/syntax.all", "transputer/syntax.one", "transputer/syntax.some", "transputer/types.primitive"], loops := true, apart := false, laid := [("transputer/types.primitive", laid_transputer_types_primitive), ("transputer/syntax.one", laid_transputer_syntax_one), ("transputer/syntax.some", laid_transputer_syntax_some), ("transputer/syntax.all", laid_transputer_syntax_all)] }
def TypingTargetsSaid : Prop := typingTargetsRow.holds Tryz.pinned (OpenSpec.ofChange typingTargetsSpec)

/-- ITS FALSE NEIGHBOUR: 'it returns false'. Refute it at one input. -/
def typingTargetsWrong : ChangeSpec := { name := "typingTargets", fn := fun _ => fun
  | [d1, d2, d3] => { results := [.lit (.bool false)], args := [d1, d2, d3] }
  | _ => none }
def TypingTargetsWrongFalsely : Prop := typingTargetsRow.holds Tryz.pinned (OpenSpec.ofChange typingTargetsWrong)

/-- 'transputerlaw13.TypingKnown': WHATEVER THE INPUT: true; the input reads as it did. -/
def typingKnownSpec : ChangeSpec := { name := "typingKnown", fn := fun _ => fun
  | [] => { results := [.lit (.bool true)], args := [] }
  | _ => none }
def typingKnownRow : OpenClaim := { program := "ytdhmplmpbcnojaagreatdoor", sum := "e76423b54852c0de1d9ebc728a960c9ef37f1af743fdcb8df0f284fd4926115f", func := "transputer/transputerlaw13.TypingKnown", spec := "typingKnown", inPlace := ["internal/bytealg.IndexByteString", "internal/bytealg.IndexString"], unfollowed := true, recurses := true, named := ["internal/bytealg.MaxLen", "transputer/syntax.all", "transputer/syntax.one", "transputer/syntax.some", "transputer/types.primitive"], apart := false, laid := [("transputer/types.primitive", laid_transputer_types_primitive), ("transputer/syntax.one", laid_transputer_syntax_one), ("transputer/syntax.some", laid_transputer_syntax_some), ("transputer/syntax.all", laid_transputer_syntax_all)] }
def TypingKnownSaid : Prop := typingKnownRow.holds Tryz.pinned (OpenSpec.ofChange typingKnownSpec)

/-- ITS FALSE NEIGHBOUR: 'it returns false'. Refute it at one input. -/
def typingKnownWrong : ChangeSpec := { name := "typingKnown", fn := fun _ => fun
  | [] => { results := [.lit (.bool false)], args := [] }
  | _ => none }
def TypingKnownWrongFalsely : Prop := typingKnownRow.holds Tryz.pinned (OpenSpec.ofChange typingKnownWrong)

/- THE SECOND FORM. 'bulk': how many values and letters a reading holds, each counted each time it is reached (what is shared counts as often as it is met; a slice's spare places count too). A statement '..UptoSaid' is the law's where the arguments, and the package variables that the reading takes, are together of bulk at most 1048576: NARROWER than '..Said'. Prove '..Said' where nothing that the law and all that it calls make is longer than what came in: it says more and counts as full. Else prove '..UptoSaid'. A law counts once. -/
mutual
def uptoBulk {H : Type} : DataW H → Nat
  | .lit (.string bytes) => bytes.length + 1
  | .lit _ => 1
  | .nil => 1
  | .ptr d => uptoBulk d + 1
  | .slice elems spare => uptoBulkAll elems + uptoBulkAll spare + 1
  | .agg parts => uptoBulkAll parts + 1
  | .iface _ d => uptoBulk d + 1
  | .map entries => uptoBulkEntries entries + 1
  | .held _ => 1
def uptoBulkAll {H : Type} : List (DataW H) → Nat
  | [] => 0
  | d :: r => uptoBulk d + uptoBulkAll r
def uptoBulkEntries {H : Type} : List (Lit × DataW H) → Nat
  | [] => 0
  | x :: r => uptoBulkEntry x + uptoBulkEntries r
def uptoBulkEntry {H : Type} : Lit × DataW H → Nat
  | (.string bytes, d) => bytes.length + uptoBulk d + 1
  | (_, d) => uptoBulk d + 1
 end
def uptoSmall : (H : Type) → List (DataW H) → Bool := fun _ ds => decide (uptoBulkAll ds ≤ 1048576)
def OpenSpec.upto (s : _root_.Go.ChangeSpec) : _root_.Go.OpenSpec := { _root_.Go.OpenSpec.ofChange s with cond := some uptoSmall }

/-- 'transputerlaw13.TypingOf', WHERE WHAT IT READS IS OF BULK AT MOST 1048576: true; the input reads as it did. -/
def typingOfUptoRow : OpenClaim := { program := "ytdhmplmpbcnojaagreatdoor", sum := "e76423b54852c0de1d9ebc728a960c9ef37f1af743fdcb8df0f284fd4926115f", func := "transputer/transputerlaw13.TypingOf", spec := "typingOf", inPlace := ["internal/bytealg.IndexByteString", "internal/bytealg.IndexString"], unfollowed := true, recurses := true, named := ["internal/bytealg.MaxLen", "transputer/syntax.all", "transputer/syntax.one", "transputer/syntax.some", "transputer/types.primitive"], loops := true, apart := false, laid := [("transputer/types.primitive", laid_transputer_types_primitive), ("transputer/syntax.one", laid_transputer_syntax_one), ("transputer/syntax.some", laid_transputer_syntax_some), ("transputer/syntax.all", laid_transputer_syntax_all)], narrowed := true }
def TypingOfUptoSaid : Prop := typingOfUptoRow.holds Tryz.pinned (OpenSpec.upto typingOfSpec)

/-- 'transputerlaw13.TypingParts', WHERE WHAT IT READS IS OF BULK AT MOST 1048576: true; the input reads as it did. -/
def typingPartsUptoRow : OpenClaim := { program := "ytdhmplmpbcnojaagreatdoor", sum := "e76423b54852c0de1d9ebc728a960c9ef37f1af743fdcb8df0f284fd4926115f", func := "transputer/transputerlaw13.TypingParts", spec := "typingParts", inPlace := ["internal/bytealg.IndexByteString", "internal/bytealg.IndexString"], unfollowed := true, recurses := true, named := ["internal/bytealg.MaxLen", "transputer/syntax.all", "transputer/syntax.one", "transputer/syntax.some", "transputer/types.primitive"], loops := true, apart := false, laid := [("transputer/types.primitive", laid_transputer_types_primitive), ("transputer/syntax.one", laid_transputer_syntax_one), ("transputer/syntax.some", laid_transputer_syntax_some), ("transputer/syntax.all", laid_transputer_syntax_all)], narrowed := true }
def TypingPartsUptoSaid : Prop := typingPartsUptoRow.holds Tryz.pinned (OpenSpec.upto typingPartsSpec)

/-- 'transputerlaw13.TypingOutside', WHERE WHAT IT READS IS OF BULK AT MOST 1048576: true; the input reads as it did. -/
def typingOutsideUptoRow : OpenClaim := { program := "ytdhmplmpbcnojaagreatdoor", sum := "e76423b54852c0de1d9ebc728a960c9ef37f1af743fdcb8df0f284fd4926115f", func := "transputer/transputerlaw13.TypingOutside", spec := "typingOutside", inPlace := ["internal/bytealg.IndexByteString", "internal/bytealg.IndexString"], unfollowed := true, recurses := true, named := ["internal/bytealg.MaxLen", "transputer/syntax.all", "transputer/syntax.one", "transputer/syntax.some", "transputer/types.primitive"], loops := true, apart := false, laid := [("transputer/types.primitive", laid_transputer_types_primitive), ("transputer/syntax.one", laid_transputer_syntax_one), ("transputer/syntax.some", laid_transputer_syntax_some), ("transputer/syntax.all", laid_transputer_syntax_all)], narrowed := true }
def TypingOutsideUptoSaid : Prop := typingOutsideUptoRow.holds Tryz.pinned (OpenSpec.upto typingOutsideSpec)

/-- 'transputerlaw13.TypingTargets', WHERE WHAT IT READS IS OF BULK AT MOST 1048576: true; the input reads as it did. -/
def typingTargetsUptoRow : OpenClaim := { program := "ytdhmplmpbcnojaagreatdoor", sum := "e76423b54852c0de1d9ebc728a960c9ef37f1af743fdcb8df0f284fd4926115f", func := "transputer/transputerlaw13.TypingTargets", spec := "typingTargets", inPlace := ["internal/bytealg.IndexByteString", "internal/bytealg.IndexString"], unfollowed := true, recurses := true, named := ["internal/bytealg.MaxLen", "transputer/syntax.all", "transputer/syntax.one", "transputer/syntax.some", "transputer/types.primitive"], loops := true, apart := false, laid := [("transputer/types.primitive", laid_transputer_types_primitive), ("transputer/syntax.one", laid_transputer_syntax_one), ("transputer/syntax.some", laid_transputer_syntax_some), ("transputer/syntax.all", laid_transputer_syntax_all)], narrowed := true }
def TypingTargetsUptoSaid : Prop := typingTargetsUptoRow.holds Tryz.pinned (OpenSpec.upto typingTargetsSpec)

/-- 'transputerlaw13.TypingKnown', WHERE WHAT IT READS IS OF BULK AT MOST 1048576: true; the input reads as it did. -/
def typingKnownUptoRow : OpenClaim := { program := "ytdhmplmpbcnojaagreatdoor", sum := "e76423b54852c0de1d9ebc728a960c9ef37f1af743fdcb8df0f284fd4926115f", func := "transputer/transputerlaw13.TypingKnown", spec := "typingKnown", inPlace := ["internal/bytealg.IndexByteString", "internal/bytealg.IndexString"], unfollowed := true, recurses := true, named := ["internal/bytealg.MaxLen", "transputer/syntax.all", "transputer/syntax.one", "transputer/syntax.some", "transputer/types.primitive"], apart := false, laid := [("transputer/types.primitive", laid_transputer_types_primitive), ("transputer/syntax.one", laid_transputer_syntax_one), ("transputer/syntax.some", laid_transputer_syntax_some), ("transputer/syntax.all", laid_transputer_syntax_all)], narrowed := true }
def TypingKnownUptoSaid : Prop := typingKnownUptoRow.holds Tryz.pinned (OpenSpec.upto typingKnownSpec)

end Rows
end Go.Proofs.YtdhmplmpbcnojaaGreatDoor

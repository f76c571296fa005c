/-
  NARROWER THAN 'FOR EVERY INPUT', by the rows' own cells (each row's printed sentence says how): TypesTokens: laid · TypesFront: laid · TypesValues: laid · TypesFind: laid · TypesBack: laid · TypesVariants: laid · TypesMay: laid · TypesText: laid.
  DERIVED. THE GIVEN ROWS OF THIS SEAT. 8 by the template 'for every input the law returns true; each argument reads behind the call as it read before'; 0 by the template 'total and deterministic' (their statements: YtcejocfjienpfaaDoorTotals.lean).
  GIVEN WITH THE SEED: the statements are not yours to turn. If you find one false, say at which input.
  Laid BY PROGRAM, IN A SANDBOX (cutbox-rows.mjs): the forced cells as the released guide's own fill.sh prints them over the translation a82ab663f6b33ec3… (all of the seat's roots in one cut). By AI agents, Wed Nov 11 2026. No macro, syntax, notation, axiom, sorry.
-/
import Derived.Test.YtcejocfjienpfaaDoorChecked
import GoSem.Claim
import GoSem.ClaimJoined
import GoSem.ClaimMapViews
import Derived.JoinedTies
import Derived.KernelRfl
namespace Go.Proofs.YtcejocfjienpfaaDoor
/- THE CELL 'sum', in the pinned program and in every row, IS THE sha256 OF THE DUMP (.gsa) THAT YtcejocfjienpfaaDoorProg.lean LOADS. Nothing in Lean hashes anything: it is a label: what it is worth is what the hold of that sum in a sandbox is worth. -/
noncomputable def Tryd.pinned : Pinned := { name := "ytcejocfjienpfaadoor", sum := "a82ab663f6b33ec3f5b8cf2aac3aecf14a9be7d03a6906dfd2815d5e9ec9b83b", checked := Tryd.checked }
namespace Rows
def none {H : Type} : Left H := { results := [], args := [] }

/- WHAT THE LISTED PACKAGE-LEVEL VARIABLES READ AS WHEN THE CALL BEGINS. Each datum BY PROGRAM (the guide's laid-datum.mjs) off the statement by which the dump's own 'gosem.cut.vars' lays the variable. In a bare row this is a premise. The card (YtcejocfjienpfaaDoorCards.lean) ties it to the program's text. -/
def laid_transputer_types_primitive {H : Type} : DataW H := .agg [.agg [.lit (.int .u8 1), .lit (.string [73, 78, 84]), .lit (.int .i64 4)], .agg [.lit (.int .u8 2), .lit (.string [66, 89, 84, 69]), .lit (.int .i64 1)], .agg [.lit (.int .u8 3), .lit (.string [66, 79, 79, 76]), .lit (.int .i64 1)]]
def laid_math_bits_deBruijn32tab {H : Type} : DataW H := .agg [.lit (.int .u8 0), .lit (.int .u8 1), .lit (.int .u8 28), .lit (.int .u8 2), .lit (.int .u8 29), .lit (.int .u8 14), .lit (.int .u8 24), .lit (.int .u8 3), .lit (.int .u8 30), .lit (.int .u8 22), .lit (.int .u8 20), .lit (.int .u8 15), .lit (.int .u8 25), .lit (.int .u8 17), .lit (.int .u8 4), .lit (.int .u8 8), .lit (.int .u8 31), .lit (.int .u8 27), .lit (.int .u8 13), .lit (.int .u8 23), .lit (.int .u8 21), .lit (.int .u8 19), .lit (.int .u8 16), .lit (.int .u8 7), .lit (.int .u8 26), .lit (.int .u8 12), .lit (.int .u8 18), .lit (.int .u8 6), .lit (.int .u8 11), .lit (.int .u8 5), .lit (.int .u8 10), .lit (.int .u8 9)]
def laid_math_bits_deBruijn64tab {H : Type} : DataW H := .agg [.lit (.int .u8 0), .lit (.int .u8 1), .lit (.int .u8 56), .lit (.int .u8 2), .lit (.int .u8 57), .lit (.int .u8 49), .lit (.int .u8 28), .lit (.int .u8 3), .lit (.int .u8 61), .lit (.int .u8 58), .lit (.int .u8 42), .lit (.int .u8 50), .lit (.int .u8 38), .lit (.int .u8 29), .lit (.int .u8 17), .lit (.int .u8 4), .lit (.int .u8 62), .lit (.int .u8 47), .lit (.int .u8 59), .lit (.int .u8 36), .lit (.int .u8 45), .lit (.int .u8 43), .lit (.int .u8 51), .lit (.int .u8 22), .lit (.int .u8 53), .lit (.int .u8 39), .lit (.int .u8 33), .lit (.int .u8 30), .lit (.int .u8 24), .lit (.int .u8 18), .lit (.int .u8 12), .lit (.int .u8 5), .lit (.int .u8 63), .lit (.int .u8 55), .lit (.int .u8 48), .lit (.int .u8 27), .lit (.int .u8 60), .lit (.int .u8 41), .lit (.int .u8 37), .lit (.int .u8 16), .lit (.int .u8 46), .lit (.int .u8 35), .lit (.int .u8 44), .lit (.int .u8 21), .lit (.int .u8 52), .lit (.int .u8 32), .lit (.int .u8 23), .lit (.int .u8 11), .lit (.int .u8 54), .lit (.int .u8 26), .lit (.int .u8 40), .lit (.int .u8 15), .lit (.int .u8 34), .lit (.int .u8 20), .lit (.int .u8 31), .lit (.int .u8 10), .lit (.int .u8 25), .lit (.int .u8 14), .lit (.int .u8 19), .lit (.int .u8 9), .lit (.int .u8 13), .lit (.int .u8 8), .lit (.int .u8 7), .lit (.int .u8 6)]
def laid_internal_strconv_uint64pow10 {H : Type} : DataW H := .agg [.lit (.int .u64 1), .lit (.int .u64 10), .lit (.int .u64 100), .lit (.int .u64 1000), .lit (.int .u64 10000), .lit (.int .u64 100000), .lit (.int .u64 1000000), .lit (.int .u64 10000000), .lit (.int .u64 100000000), .lit (.int .u64 1000000000), .lit (.int .u64 10000000000), .lit (.int .u64 100000000000), .lit (.int .u64 1000000000000), .lit (.int .u64 10000000000000), .lit (.int .u64 100000000000000), .lit (.int .u64 1000000000000000), .lit (.int .u64 10000000000000000), .lit (.int .u64 100000000000000000), .lit (.int .u64 1000000000000000000), .lit (.int .u64 10000000000000000000)]

/-- 'transputerlaw09.TypesTokens': WHATEVER THE INPUT: true; the input reads as it did. -/
def typesTokensSpec : ChangeSpec := { name := "typesTokens", fn := fun _ => fun
  | [d] => { results := [.lit (.bool true)], args := [d] }
  | _ => none }
def typesTokensRow : OpenClaim := { program := "ytcejocfjienpfaadoor", sum := "a82ab663f6b33ec3f5b8cf2aac3aecf14a9be7d03a6906dfd2815d5e9ec9b83b", func := "transputer/transputerlaw09.TypesTokens", spec := "typesTokens", inPlace := ["internal/bytealg.IndexByteString", "internal/bytealg.IndexString"], unfollowed := true, recurses := true, named := ["transputer/types.primitive", "internal/bytealg.MaxLen"], apart := false, laid := [("transputer/types.primitive", laid_transputer_types_primitive)] }
def TypesTokensSaid : Prop := typesTokensRow.holds Tryd.pinned (OpenSpec.ofChange typesTokensSpec)

/-- ITS FALSE NEIGHBOUR: 'it returns false'. Refute it at one input. -/
def typesTokensWrong : ChangeSpec := { name := "typesTokens", fn := fun _ => fun
  | [d] => { results := [.lit (.bool false)], args := [d] }
  | _ => none }
def TypesTokensWrongFalsely : Prop := typesTokensRow.holds Tryd.pinned (OpenSpec.ofChange typesTokensWrong)

/-- 'transputerlaw09.TypesFront': WHATEVER THE INPUT: true; the input reads as it did. -/
def typesFrontSpec : ChangeSpec := { name := "typesFront", fn := fun _ => fun
  | [d] => { results := [.lit (.bool true)], args := [d] }
  | _ => none }
def typesFrontRow : OpenClaim := { program := "ytcejocfjienpfaadoor", sum := "a82ab663f6b33ec3f5b8cf2aac3aecf14a9be7d03a6906dfd2815d5e9ec9b83b", func := "transputer/transputerlaw09.TypesFront", spec := "typesFront", inPlace := ["internal/bytealg.IndexByteString", "internal/bytealg.IndexString"], unfollowed := true, recurses := true, named := ["transputer/types.primitive", "internal/bytealg.MaxLen"], apart := false, laid := [("transputer/types.primitive", laid_transputer_types_primitive)] }
def TypesFrontSaid : Prop := typesFrontRow.holds Tryd.pinned (OpenSpec.ofChange typesFrontSpec)

/-- ITS FALSE NEIGHBOUR: 'it returns false'. Refute it at one input. -/
def typesFrontWrong : ChangeSpec := { name := "typesFront", fn := fun _ => fun
  | [d] => { results := [.lit (.bool false)], args := [d] }
  | _ => none }
def TypesFrontWrongFalsely : Prop := typesFrontRow.holds Tryd.pinned (OpenSpec.ofChange typesFrontWrong)

/-- 'transputerlaw09.TypesValues': WHATEVER THE INPUT: true; the input reads as it did. -/
def typesValuesSpec : ChangeSpec := { name := "typesValues", fn := fun _ => fun
  | [d1, d2] => { results := [.lit (.bool true)], args := [d1, d2] }
  | _ => none }
def typesValuesRow : OpenClaim := { program := "ytcejocfjienpfaadoor", sum := "a82ab663f6b33ec3f5b8cf2aac3aecf14a9be7d03a6906dfd2815d5e9ec9b83b", func := "transputer/transputerlaw09.TypesValues", spec := "typesValues", inPlace := ["internal/bytealg.IndexByteString", "internal/bytealg.IndexString"], unfollowed := true, recurses := true, named := ["transputer/types.primitive", "internal/bytealg.MaxLen"], apart := false, laid := [("transputer/types.primitive", laid_transputer_types_primitive)] }
def TypesValuesSaid : Prop := typesValuesRow.holds Tryd.pinned (OpenSpec.ofChange typesValuesSpec)

/-- ITS FALSE NEIGHBOUR: 'it returns false'. Refute it at one input. -/
def typesValuesWrong : ChangeSpec := { name := "typesValues", fn := fun _ => fun
  | [d1, d2] => { results := [.lit (.bool false)], args := [d1, d2] }
  | _ => none }
def TypesValuesWrongFalsely : Prop := typesValuesRow.holds Tryd.pinned (OpenSpec.ofChange typesValuesWrong)

/-- 'transputerlaw09.TypesFind': WHATEVER THE INPUT: true; the input reads as it did. -/
def typesFindSpec : ChangeSpec := { name := "typesFind", fn := fun _ => fun
  | [d1, d2] => { results := [.lit (.bool true)], args := [d1, d2] }
  | _ => none }
def typesFindRow : OpenClaim := { program := "ytcejocfjienpfaadoor", sum := "a82ab663f6b33ec3f5b8cf2aac3aecf14a9be7d03a6906dfd2815d5e9ec9b83b", func := "transputer/transputerlaw09.TypesFind", spec := "typesFind", inPlace := ["internal/bytealg.IndexByteString", "internal/bytealg.IndexString"], unfollowed := true, recurses := true, named := ["transputer/types.primitive", "internal/bytealg.MaxLen"], apart := false, laid := [("transputer/types.primitive", laid_transputer_types_primitive)] }
def TypesFindSaid : Prop := typesFindRow.holds Tryd.pinned (OpenSpec.ofChange typesFindSpec)

/-- ITS FALSE NEIGHBOUR: 'it returns false'. Refute it at one input. -/
def typesFindWrong : ChangeSpec := { name := "typesFind", fn := fun _ => fun
  | [d1, d2] => { results := [.lit (.bool false)], args := [d1, d2] }
  | _ => none }
def TypesFindWrongFalsely : Prop := typesFindRow.holds Tryd.pinned (OpenSpec.ofChange typesFindWrong)

/-- 'transputerlaw09.TypesBack': WHATEVER THE INPUT: true; the input reads as it did. -/
def typesBackSpec : ChangeSpec := { name := "typesBack", fn := fun _ => fun
  | [d1, d2] => { results := [.lit (.bool true)], args := [d1, d2] }
  | _ => none }
def typesBackRow : OpenClaim := { program := "ytcejocfjienpfaadoor", sum := "a82ab663f6b33ec3f5b8cf2aac3aecf14a9be7d03a6906dfd2815d5e9ec9b83b", func := "transputer/transputerlaw09.TypesBack", spec := "typesBack", inPlace := ["internal/bytealg.IndexByteString", "internal/bytealg.IndexString"], unfollowed := true, recurses := true, named := ["transputer/types.primitive", "internal/bytealg.MaxLen"], apart := false, laid := [("transputer/types.primitive", laid_transputer_types_primitive)] }
def TypesBackSaid : Prop := typesBackRow.holds Tryd.pinned (OpenSpec.ofChange typesBackSpec)

/-- ITS FALSE NEIGHBOUR: 'it returns false'. Refute it at one input. -/
def typesBackWrong : ChangeSpec := { name := "typesBack", fn := fun _ => fun
  | [d1, d2] => { results := [.lit (.bool false)], args := [d1, d2] }
  | _ => none }
def TypesBackWrongFalsely : Prop := typesBackRow.holds Tryd.pinned (OpenSpec.ofChange typesBackWrong)

/-- 'transputerlaw09.TypesVariants': WHATEVER THE INPUT: true; the input reads as it did. -/
def typesVariantsSpec : ChangeSpec := { name := "typesVariants", fn := fun _ => fun
  | [d] => { results := [.lit (.bool true)], args := [d] }
  | _ => none }
def typesVariantsRow : OpenClaim := { program := "ytcejocfjienpfaadoor", sum := "a82ab663f6b33ec3f5b8cf2aac3aecf14a9be7d03a6906dfd2815d5e9ec9b83b", func := "transputer/transputerlaw09.TypesVariants", spec := "typesVariants", inPlace := ["internal/bytealg.IndexByteString", "internal/bytealg.IndexString"], unfollowed := true, recurses := true, named := ["transputer/types.primitive", "internal/bytealg.MaxLen"], apart := false, laid := [("transputer/types.primitive", laid_transputer_types_primitive)] }
def TypesVariantsSaid : Prop := typesVariantsRow.holds Tryd.pinned (OpenSpec.ofChange typesVariantsSpec)

/-- ITS FALSE NEIGHBOUR: 'it returns false'. Refute it at one input. -/
def typesVariantsWrong : ChangeSpec := { name := "typesVariants", fn := fun _ => fun
  | [d] => { results := [.lit (.bool false)], args := [d] }
  | _ => none }
def TypesVariantsWrongFalsely : Prop := typesVariantsRow.holds Tryd.pinned (OpenSpec.ofChange typesVariantsWrong)

/-- 'transputerlaw09.TypesMay': WHATEVER THE INPUT: true; the input reads as it did. -/
def typesMaySpec : ChangeSpec := { name := "typesMay", fn := fun _ => fun
  | [d1, d2, d3] => { results := [.lit (.bool true)], args := [d1, d2, d3] }
  | _ => none }
def typesMayRow : OpenClaim := { program := "ytcejocfjienpfaadoor", sum := "a82ab663f6b33ec3f5b8cf2aac3aecf14a9be7d03a6906dfd2815d5e9ec9b83b", func := "transputer/transputerlaw09.TypesMay", spec := "typesMay", inPlace := ["internal/bytealg.IndexByteString", "internal/bytealg.IndexString"], unfollowed := true, recurses := true, named := ["transputer/types.primitive", "internal/bytealg.MaxLen"], apart := false, laid := [("transputer/types.primitive", laid_transputer_types_primitive)] }
def TypesMaySaid : Prop := typesMayRow.holds Tryd.pinned (OpenSpec.ofChange typesMaySpec)

/-- ITS FALSE NEIGHBOUR: 'it returns false'. Refute it at one input. -/
def typesMayWrong : ChangeSpec := { name := "typesMay", fn := fun _ => fun
  | [d1, d2, d3] => { results := [.lit (.bool false)], args := [d1, d2, d3] }
  | _ => none }
def TypesMayWrongFalsely : Prop := typesMayRow.holds Tryd.pinned (OpenSpec.ofChange typesMayWrong)

/-- 'transputerlaw09.TypesText': WHATEVER THE INPUT: true; the input reads as it did. -/
def typesTextSpec : ChangeSpec := { name := "typesText", fn := fun _ => fun
  | [d] => { results := [.lit (.bool true)], args := [d] }
  | _ => none }
def typesTextRow : OpenClaim := { program := "ytcejocfjienpfaadoor", sum := "a82ab663f6b33ec3f5b8cf2aac3aecf14a9be7d03a6906dfd2815d5e9ec9b83b", func := "transputer/transputerlaw09.TypesText", spec := "typesText", inPlace := ["internal/bytealg.IndexByteString", "internal/bytealg.IndexString"], unfollowed := true, recurses := true, named := ["transputer/types.primitive", "internal/bytealg.MaxLen", "internal/strconv.uint64pow10", "math/bits.deBruijn32tab", "math/bits.deBruijn64tab"], apart := false, laid := [("math/bits.deBruijn32tab", laid_math_bits_deBruijn32tab), ("math/bits.deBruijn64tab", laid_math_bits_deBruijn64tab), ("internal/strconv.uint64pow10", laid_internal_strconv_uint64pow10), ("transputer/types.primitive", laid_transputer_types_primitive)] }
def TypesTextSaid : Prop := typesTextRow.holds Tryd.pinned (OpenSpec.ofChange typesTextSpec)

/-- ITS FALSE NEIGHBOUR: 'it returns false'. Refute it at one input. -/
def typesTextWrong : ChangeSpec := { name := "typesText", fn := fun _ => fun
  | [d] => { results := [.lit (.bool false)], args := [d] }
  | _ => none }
def TypesTextWrongFalsely : Prop := typesTextRow.holds Tryd.pinned (OpenSpec.ofChange typesTextWrong)

/- THE SECOND FORM. 'bulk': how many values and letters a reading holds, each counted each time it is reached (what is shared counts as often as it is met; a slice's spare places count too). A statement '..UptoSaid' is the law's where the arguments, and the package variables that the reading takes, are together of bulk at most 1048576: NARROWER than '..Said'. Prove '..Said' where nothing that the law and all that it calls make is longer than what came in: it says more and counts as full. Else prove '..UptoSaid'. A law counts once. -/
mutual
def uptoBulk {H : Type} : DataW H → Nat
  | .lit (.string bytes) => bytes.length + 1
  | .lit _ => 1
  | .nil => 1
  | .ptr d => uptoBulk d + 1
  | .slice elems spare => uptoBulkAll elems + uptoBulkAll spare + 1
  | .agg parts => uptoBulkAll parts + 1
  | .iface _ d => uptoBulk d + 1
  | .map entries => uptoBulkEntries entries + 1
  | .held _ => 1
def uptoBulkAll {H : Type} : List (DataW H) → Nat
  | [] => 0
  | d :: r => uptoBulk d + uptoBulkAll r
def uptoBulkEntries {H : Type} : List (Lit × DataW H) → Nat
  | [] => 0
  | x :: r => uptoBulkEntry x + uptoBulkEntries r
def uptoBulkEntry {H : Type} : Lit × DataW H → Nat
  | (.string bytes, d) => bytes.length + uptoBulk d + 1
  | (_, d) => uptoBulk d + 1
 end
def uptoSmall : (H : Type) → List (DataW H) → Bool := fun _ ds => decide (uptoBulkAll ds ≤ 1048576)
def OpenSpec.upto (s : _root_.Go.ChangeSpec) : _root_.Go.OpenSpec := { _root_.Go.OpenSpec.ofChange s with cond := some uptoSmall }

/-- 'transputerlaw09.TypesTokens', WHERE WHAT IT READS IS OF BULK AT MOST 1048576: true; the input reads as it did. -/
def typesTokensUptoRow : OpenClaim := { program := "ytcejocfjienpfaadoor", sum := "a82ab663f6b33ec3f5b8cf2aac3aecf14a9be7d03a6906dfd2815d5e9ec9b83b", func := "transputer/transputerlaw09.TypesTokens", spec := "typesTokens", inPlace := ["internal/bytealg.IndexByteString", "internal/bytealg.IndexString"], unfollowed := true, recurses := true, named := ["transputer/types.primitive", "internal/bytealg.MaxLen"], apart := false, laid := [("transputer/types.primitive", laid_transputer_types_primitive)], narrowed := true }
def TypesTokensUptoSaid : Prop := typesTokensUptoRow.holds Tryd.pinned (OpenSpec.upto typesTokensSpec)

/-- 'transputerlaw09.TypesFront', WHERE WHAT IT READS IS OF BULK AT MOST 1048576: true; the input reads as it did. -/
def typesFrontUptoRow : OpenClaim := { program := "ytcejocfjienpfaadoor", sum := "a82ab663f6b33ec3f5b8cf2aac3aecf14a9be7d03a6906dfd2815d5e9ec9b83b", func := "transputer/transputerlaw09.TypesFront", spec := "typesFront", inPlace := ["internal/bytealg.IndexByteString", "internal/bytealg.IndexString"], unfollowed := true, recurses := true, named := ["transputer/types.primitive", "internal/bytealg.MaxLen"], apart := false, laid := [("transputer/types.primitive", laid_transputer_types_primitive)], narrowed := true }
def TypesFrontUptoSaid : Prop := typesFrontUptoRow.holds Tryd.pinned (OpenSpec.upto typesFrontSpec)

/-- 'transputerlaw09.TypesValues', WHERE WHAT IT READS IS OF BULK AT MOST 1048576: true; the input reads as it did. -/
def typesValuesUptoRow : OpenClaim := { program := "ytcejocfjienpfaadoor", sum := "a82ab663f6b33ec3f5b8cf2aac3aecf14a9be7d03a6906dfd2815d5e9ec9b83b", func := "transputer/transputerlaw09.TypesValues", spec := "typesValues", inPlace := ["internal/bytealg.IndexByteString", "internal/bytealg.IndexString"], unfollowed := true, recurses := true, named := ["transputer/types.primitive", "internal/bytealg.MaxLen"], apart := false, laid := [("transputer/types.primitive", laid_transputer_types_primitive)], narrowed := true }
def TypesValuesUptoSaid : Prop := typesValuesUptoRow.holds Tryd.pinned (OpenSpec.upto typesValuesSpec)

/-- 'transputerlaw09.TypesFind', WHERE WHAT IT READS IS OF BULK AT MOST 1048576: true; the input reads as it did. -/
def typesFindUptoRow : OpenClaim := { program := "ytcejocfjienpfaadoor", sum := "a82ab663f6b33ec3f5b8cf2aac3aecf14a9be7d03a6906dfd2815d5e9ec9b83b", func := "transputer/transputerlaw09.TypesFind", spec := "typesFind", inPlace := ["internal/bytealg.IndexByteString", "internal/bytealg.IndexString"], unfollowed := true, recurses := true, named := ["transputer/types.primitive", "internal/bytealg.MaxLen"], apart := false, laid := [("transputer/types.primitive", laid_transputer_types_primitive)], narrowed := true }
def TypesFindUptoSaid : Prop := typesFindUptoRow.holds Tryd.pinned (OpenSpec.upto typesFindSpec)

/-- 'transputerlaw09.TypesBack', WHERE WHAT IT READS IS OF BULK AT MOST 1048576: true; the input reads as it did. -/
def typesBackUptoRow : OpenClaim := { program := "ytcejocfjienpfaadoor", sum := "a82ab663f6b33ec3f5b8cf2aac3aecf14a9be7d03a6906dfd2815d5e9ec9b83b", func := "transputer/transputerlaw09.TypesBack", spec := "typesBack", inPlace := ["internal/bytealg.IndexByteString", "internal/bytealg.IndexString"], unfollowed := true, recurses := true, named := ["transputer/types.primitive", "internal/bytealg.MaxLen"], apart := false, laid := [("transputer/types.primitive", laid_transputer_types_primitive)], narrowed := true }
def TypesBackUptoSaid : Prop := typesBackUptoRow.holds Tryd.pinned (OpenSpec.upto typesBackSpec)

/-- 'transputerlaw09.TypesVariants', WHERE WHAT IT READS IS OF BULK AT MOST 1048576: true; the input reads as it did. -/
def typesVariantsUptoRow : OpenClaim := { program := "ytcejocfjienpfaadoor", sum := "a82ab663f6b33ec3f5b8cf2aac3aecf14a9be7d03a6906dfd2815d5e9ec9b83b", func := "transputer/transputerlaw09.TypesVariants", spec := "typesVariants", inPlace := ["internal/bytealg.IndexByteString", "internal/bytealg.IndexString"], unfollowed := true, recurses := true, named := ["transputer/types.primitive", "internal/bytealg.MaxLen"], apart := false, laid := [("transputer/types.primitive", laid_transputer_types_primitive)], narrowed := true }
def TypesVariantsUptoSaid : Prop := typesVariantsUptoRow.holds Tryd.pinned (OpenSpec.upto typesVariantsSpec)

/-- 'transputerlaw09.TypesMay', WHERE WHAT IT READS IS OF BULK AT MOST 1048576: true; the input reads as it did. -/
def typesMayUptoRow : OpenClaim := { program := "ytcejocfjienpfaadoor", sum := "a82ab663f6b33ec3f5b8cf2aac3aecf14a9be7d03a6906dfd2815d5e9ec9b83b", func := "transputer/transputerlaw09.TypesMay", spec := "typesMay", inPlace := ["internal/bytealg.IndexByteString", "internal/bytealg.IndexString"], unfollowed := true, recurses := true, named := ["transputer/types.primitive", "internal/bytealg.MaxLen"], apart := false, laid := [("transputer/types.primitive", laid_transputer_types_primitive)], narrowed := true }
def TypesMayUptoSaid : Prop := typesMayUptoRow.holds Tryd.pinned (OpenSpec.upto typesMaySpec)

/-- 'transputerlaw09.TypesText', WHERE WHAT IT READS IS OF BULK AT MOST 1048576: true; the input reads as it did. -/
def typesTextUptoRow : OpenClaim := { program := "ytcejocfjienpfaadoor", sum := "a82ab663f6b33ec3f5b8cf2aac3aecf14a9be7d03a6906dfd2815d5e9ec9b83b", func := "transputer/transputerlaw09.TypesText", spec := "typesText", inPlace := ["internal/bytealg.IndexByteString", "internal/bytealg.IndexString"], unfollowed := true, recurses := true, named := ["transputer/types.primitive", "internal/bytealg.MaxLen", "internal/strconv.uint64pow10", "math/bits.deBruijn32tab", "math/bits.deBruijn64tab"], apart := false, laid := [("math/bits.deBruijn32tab", laid_math_bits_deBruijn32tab), ("math/bits.deBruijn64tab", laid_math_bits_deBruijn64tab), ("internal/strconv.uint64pow10", laid_internal_strconv_uint64pow10), ("transputer/types.primitive", laid_transputer_types_primitive)], narrowed := true }
def TypesTextUptoSaid : Prop := typesTextUptoRow.holds Tryd.pinned (OpenSpec.upto typesTextSpec)

end Rows
end Go.Proofs.YtcejocfjienpfaaDoor

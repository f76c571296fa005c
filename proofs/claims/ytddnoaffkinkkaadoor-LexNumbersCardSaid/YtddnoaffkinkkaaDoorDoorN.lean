/- lex: what LexNumbers' conditions give: five variables. -/
import Derived.Test.YtddnoaffkinkkaaDoorDoor
namespace Go.Proofs.YtddnoaffkinkkaaDoor
open Go Go.Eng Go.RowKit Go.ChangeShapes Go.WideShapes Go.ChangeAt Go.Joins
set_option maxRecDepth 100000
abbrev laidL5 : List (String × DataW Unit) := [("math/bits.deBruijn32tab", Rows.laid_math_bits_deBruijn32tab), ("math/bits.deBruijn64tab", Rows.laid_math_bits_deBruijn64tab), ("internal/strconv.uint64pow10", Rows.laid_internal_strconv_uint64pow10), ("unicode/utf8.acceptRanges", Rows.laid_unicode_utf8_acceptRanges), ("unicode/utf8.first", Rows.laid_unicode_utf8_first)]
theorem tab_of5 {W : World} (h : laidMet Tryd.prog laidL5 W) : Lib.TabIs Tryd.prog W "internal/strconv.uint64pow10" .u64 Lib.pow10Tab := by
  obtain ⟨_, ⟨_, _, _, _, _, _, _, _, _, _, ⟨_, _, _, _, _, _, _, _, _, _, ⟨g', t', cs, fuel, p, q, hg', ht', hvar, hd, _, _⟩, _⟩, _⟩, _⟩ := h
  have hg : Tryd.prog.globalNamed "internal/strconv.uint64pow10" = some 3 := by kernel_rfl
  have hty : (Tryd.prog.globals[3]?).map (·.type) = some 126 := by kernel_rfl
  obtain rfl := Option.some.inj (hg.symm.trans hg')
  obtain rfl := Option.some.inj (hty.symm.trans ht')
  unfold Lib.TabIs
  rw [hvar, ← Lib.cells_of_tab (zs := Lib.pow10Tab) Tryd.underlying126 Tryd.underlying93 (by kernel_rfl) (by kernel_rfl) hd]
theorem pow_of5 {W : World} (h : laidMet Tryd.prog laidL5 W) : Pow (viewOf W) := fun _ _ st => tab_st (tab_of5 h) st
noncomputable def lit1 : DataW Unit → List Value
  | .lit (.int k z) => [.int k z]
  | _ => []
noncomputable def lit2 : DataW Unit → List Value
  | .lit (.int k z) => [.int k z]
  | .agg ds => ds.flatMap lit1
  | _ => []
noncomputable def lit3 : DataW Unit → Array Value
  | .agg ds => (ds.flatMap lit2).toArray
  | _ => #[]
noncomputable def setV (g : Nat) (vs : Array Value) (hp : Array Obj) : Array Obj := hp.modify g fun
      | .cells _ t fz => .cells vs t fz
      | o => o
noncomputable def laidWorld5 (os : Os) : World :=
  { World.holding Tryd.prog os ⟨#[], #[], []⟩ with heap := setV 4 (lit3 Rows.laid_math_bits_deBruijn32tab) (setV 5 (lit3 Rows.laid_math_bits_deBruijn64tab) (setV 3 (lit3 Rows.laid_internal_strconv_uint64pow10) (setV 2 (lit3 Rows.laid_unicode_utf8_acceptRanges) (setV 1 (lit3 Rows.laid_unicode_utf8_first) (World.holding Tryd.prog os ⟨#[], #[], []⟩).heap)))) }
theorem laidWorld5_met (os : Os) (args : Array Value) : laidMet Tryd.prog laidL5 ((laidWorld5 os).forCall (fun _ _ => 0) ⟨#[], args, []⟩).memory :=
  laidMet_of_run' 8 (by kernel_rfl) (by kernel_rfl)
end Go.Proofs.YtddnoaffkinkkaaDoor

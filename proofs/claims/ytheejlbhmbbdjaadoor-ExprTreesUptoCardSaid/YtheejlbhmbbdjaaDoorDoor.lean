/- lex: what a row's conditions give: the package variables; a world that meets them. -/
import Derived.Test.YtheejlbhmbbdjaaDoorLawA
import Derived.SevenTiedAt
import Derived.Test.YtheejlbhmbbdjaaDoorCards
import Derived.Test.YtheejlbhmbbdjaaDoorTie
namespace Go.Proofs.YtheejlbhmbbdjaaDoor
open Go Go.Eng Go.RowKit Go.ChangeShapes Go.WideShapes Go.ChangeAt Go.Joins
set_option maxRecDepth 100000
theorem Tryd.own : ownKnob Tryd.prog.godebug = none := by kernel_rfl
theorem Tryd.laidOut : laidOutB Tryd.prog = true := by kernel_rfl
abbrev laidL : List (String × DataW Unit) := [("math/bits.deBruijn32tab", Rows.laid_math_bits_deBruijn32tab), ("math/bits.deBruijn64tab", Rows.laid_math_bits_deBruijn64tab), ("internal/strconv.uint64pow10", Rows.laid_internal_strconv_uint64pow10)]
theorem tab_of {W : World} (h : laidMet Tryd.prog laidL W) : Lib.TabIs Tryd.prog W "internal/strconv.uint64pow10" .u64 Lib.pow10Tab := by
  obtain ⟨_, ⟨_, _, _, _, _, _, _, _, _, _, ⟨_, _, _, _, _, _, _, _, _, _, ⟨g', t', cs, fuel, p, q, hg', ht', hvar, hd, _, _⟩, _⟩, _⟩, _⟩ := h
  have hg : Tryd.prog.globalNamed "internal/strconv.uint64pow10" = some 1 := by kernel_rfl
  have hty : (Tryd.prog.globals[1]?).map (·.type) = some 124 := by kernel_rfl
  obtain rfl := Option.some.inj (hg.symm.trans hg')
  obtain rfl := Option.some.inj (hty.symm.trans ht')
  unfold Lib.TabIs
  rw [hvar, ← Lib.cells_of_tab (zs := Lib.pow10Tab) Tryd.underlying124 Tryd.underlying118 (by kernel_rfl) (by kernel_rfl) hd]
theorem tab_st {W w : World} {h : List Res} (ht : Lib.TabIs Tryd.prog W "internal/strconv.uint64pow10" .u64 Lib.pow10Tab) (st : St (viewOf W) h w) : Lib.TabIs Tryd.prog w "internal/strconv.uint64pow10" .u64 Lib.pow10Tab := by
  unfold Lib.TabIs World.var? at ht ⊢
  cases hg : Tryd.prog.globalNamed "internal/strconv.uint64pow10" with
  | none => rw [hg] at ht; cases ht
  | some g =>
    rw [hg] at ht
    simp only [Option.bind_some] at ht ⊢
    cases hb : W.heap[g]? with
    | none => rw [hb] at ht; cases ht
    | some o => rw [st.blk g o hb, ← hb]; exact ht
theorem glob_of {W : World} (hsh : W.ShapedOpen Tryd.prog) : Glob (viewOf W) :=
  ⟨(Tryd.laysM144.s1_3 W hsh).imp fun _ e => start_cell e⟩
theorem pow_of {W : World} (h : laidMet Tryd.prog laidL W) : Pow (viewOf W) := fun _ _ st => tab_st (tab_of h) st
noncomputable def litsOf : DataW Unit → Array Value
  | .agg ds => (ds.map fun d => match d with | .lit (.int k z) => Value.int k z | _ => .bool false).toArray
  | _ => #[]
noncomputable def setG (g : Nat) (d : DataW Unit) (hp : Array Obj) : Array Obj := hp.modify g fun
      | .cells _ t fz => .cells (litsOf d) t fz
      | o => o
noncomputable def laidWorld (os : Os) : World :=
  { World.holding Tryd.prog os ⟨#[], #[], []⟩ with heap := setG 2 Rows.laid_math_bits_deBruijn32tab (setG 3 Rows.laid_math_bits_deBruijn64tab (setG 1 Rows.laid_internal_strconv_uint64pow10 (World.holding Tryd.prog os ⟨#[], #[], []⟩).heap)) }
theorem laidWorld_met (os : Os) (args : Array Value) : laidMet Tryd.prog laidL ((laidWorld os).forCall (fun _ _ => 0) ⟨#[], args, []⟩).memory :=
  laidMet_of_run' 8 (by kernel_rfl) (by kernel_rfl)
end Go.Proofs.YtheejlbhmbbdjaaDoor

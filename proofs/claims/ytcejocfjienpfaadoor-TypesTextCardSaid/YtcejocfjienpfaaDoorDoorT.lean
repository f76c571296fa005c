/- types: what TypesText's conditions give: four variables. -/
import Derived.Test.YtcejocfjienpfaaDoorArgs
import Derived.Test.YtcejocfjienpfaaDoorLexE
namespace Go.Proofs.YtcejocfjienpfaaDoor
open Go Go.Eng Go.RowKit Go.ChangeShapes Go.WideShapes Go.ChangeAt Go.Joins
set_option maxRecDepth 100000
abbrev laidL4 : List (String × DataW Unit) := [("math/bits.deBruijn32tab", Rows.laid_math_bits_deBruijn32tab), ("math/bits.deBruijn64tab", Rows.laid_math_bits_deBruijn64tab), ("internal/strconv.uint64pow10", Rows.laid_internal_strconv_uint64pow10), ("transputer/types.primitive", Rows.laid_transputer_types_primitive)]
theorem four_of {W : World} (h : laidMet Tryd.prog laidL4 W) : Lib.TabIs Tryd.prog W "internal/strconv.uint64pow10" .u64 Lib.pow10Tab ∧ laidMet Tryd.prog [("transputer/types.primitive", Rows.laid_transputer_types_primitive)] W := by
  obtain ⟨_, ⟨_, _, _, _, _, _, _, _, _, _, ⟨_, _, _, _, _, _, _, _, _, _, ⟨g', t', cs, fuel, p, q, hg', ht', hvar, hd, h4, e3⟩, e2⟩, e1⟩, hnd, hmem⟩ := h
  constructor
  · have hg : Tryd.prog.globalNamed "internal/strconv.uint64pow10" = some 2 := by kernel_rfl
    have hty : (Tryd.prog.globals[2]?).map (·.type) = some 122 := by kernel_rfl
    obtain rfl := Option.some.inj (hg.symm.trans hg')
    obtain rfl := Option.some.inj (hty.symm.trans ht')
    unfold Lib.TabIs
    rw [hvar, ← Lib.cells_of_tab (zs := Lib.pow10Tab) Tryd.underlying122 Tryd.underlying116 (by kernel_rfl) (by kernel_rfl) hd]
  · subst e1 e2 e3
    refine ⟨q, h4, ?_, fun b off hb => hmem b off ?_⟩
    · have h1 := (List.nodup_append.1 hnd).2.1
      have h2 := (List.nodup_append.1 h1).2.1
      exact (List.nodup_append.1 h2).2.1
    · exact List.mem_append_right _ (List.mem_append_right _ (List.mem_append_right _ hb))
theorem tab_st {W w : World} {h : List Res} (ht : Lib.TabIs Tryd.prog W "internal/strconv.uint64pow10" .u64 Lib.pow10Tab) (st : St (viewOf W) h w) : Lib.TabIs Tryd.prog w "internal/strconv.uint64pow10" .u64 Lib.pow10Tab := by
  unfold Lib.TabIs World.var? at ht ⊢
  cases hg : Tryd.prog.globalNamed "internal/strconv.uint64pow10" with
  | none => rw [hg] at ht; cases ht
  | some g =>
    rw [hg] at ht
    simp only [Option.bind_some] at ht ⊢
    cases hb : W.heap[g]? with
    | none => rw [hb] at ht; cases ht
    | some o => rw [st.blk g o hb, ← hb]; exact ht
theorem pow_of {W : World} (h : laidMet Tryd.prog laidL4 W) : Pow (viewOf W) := fun _ _ st => tab_st (four_of h).1 st
noncomputable def litsOf : DataW Unit → Array Value
  | .agg ds => (ds.map fun d => match d with | .lit (.int k z) => Value.int k z | _ => .bool false).toArray
  | _ => #[]
noncomputable def setG (g : Nat) (vs : Array Value) (hp : Array Obj) : Array Obj := hp.modify g fun
      | .cells _ t fz => .cells vs t fz
      | o => o
noncomputable def laidWorld4 (os : Os) : World :=
  { World.holding Tryd.prog os ⟨#[], #[], []⟩ with heap := setG 3 (litsOf Rows.laid_math_bits_deBruijn32tab) (setG 4 (litsOf Rows.laid_math_bits_deBruijn64tab) (setG 2 (litsOf Rows.laid_internal_strconv_uint64pow10) (setG 0 primC.toArray (World.holding Tryd.prog os ⟨#[], #[], []⟩).heap))) }
theorem laidWorld4_met (os : Os) (args : Array Value) : laidMet Tryd.prog laidL4 ((laidWorld4 os).forCall (fun _ _ => 0) ⟨#[], args, []⟩).memory :=
  laidMet_of_run' 8 (by kernel_rfl) (by kernel_rfl)
end Go.Proofs.YtcejocfjienpfaaDoor

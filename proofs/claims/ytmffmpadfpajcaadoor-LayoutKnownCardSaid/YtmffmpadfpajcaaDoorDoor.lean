/- layout: what a row's conditions give: the package variables; a world that meets them; a string as an argument. -/
import Derived.Test.YtmffmpadfpajcaaDoorLayI
import Derived.SevenTiedAt
import Derived.Carry
import Derived.ChangeMaps5
import Derived.Test.YtmffmpadfpajcaaDoorCards
import Derived.Test.YtmffmpadfpajcaaDoorTie
namespace Go.Proofs.YtmffmpadfpajcaaDoor
open Go Go.Eng Go.RowKit Go.ChangeShapes Go.WideShapes Go.ChangeAt Go.Joins
set_option maxRecDepth 100000
theorem Tryd.own : ownKnob Tryd.prog.godebug = none := by kernel_rfl
theorem Tryd.laidOut : laidOutB Tryd.prog = true := by kernel_rfl
abbrev laidL : List (String × DataW Unit) := [("unicode/utf8.acceptRanges", Rows.laid_unicode_utf8_acceptRanges), ("unicode/utf8.first", Rows.laid_unicode_utf8_first)]
theorem glob_of {W : World} (hsh : W.ShapedOpen Tryd.prog) : Glob (viewOf W) :=
  ⟨(Tryd.laysM144.s1_3 W hsh).imp fun _ e => start_cell e⟩
noncomputable def lit1 : DataW Unit → List Value
  | .lit (.int k z) => [.int k z]
  | _ => []
noncomputable def lit2 : DataW Unit → List Value
  | .lit (.int k z) => [.int k z]
  | .agg ds => ds.flatMap lit1
  | _ => []
noncomputable def lit3 : DataW Unit → Array Value
  | .agg ds => (ds.flatMap lit2).toArray
  | _ => #[]
noncomputable def setV (g : Nat) (vs : Array Value) (hp : Array Obj) : Array Obj := hp.modify g fun
      | .cells _ t fz => .cells vs t fz
      | o => o
noncomputable def laidWorld (os : Os) : World :=
  { World.holding Tryd.prog os ⟨#[], #[], []⟩ with heap := setV 2 (lit3 Rows.laid_unicode_utf8_acceptRanges) (setV 1 (lit3 Rows.laid_unicode_utf8_first) (World.holding Tryd.prog os ⟨#[], #[], []⟩).heap) }
theorem laidWorld_met (os : Os) (args : Array Value) : laidMet Tryd.prog laidL ((laidWorld os).forCall (fun _ _ => 0) ⟨#[], args, []⟩).memory :=
  laidMet_of_run' 8 (by kernel_rfl) (by kernel_rfl)
theorem strN_arg {H : Type} {enc : TypeId × Value → H} {W : World} {r : Reach} {base : Nat} {v : Value} {d : DataW H} {p : List MemPlace} (hv : Value.okWide Tryd.prog W r base 9 v) (h : DataW.Trod enc Tryd.prog W 0 (fun _ => true) true 9 v d p) :
    ∃ s : List UInt8, v = str s := by
  obtain ⟨s, rfl, rfl, _, _⟩ := ChangeMaps.open_string Tryd.underlying9 hv h
  exact ⟨s.data.toList, by simp [str]⟩
end Go.Proofs.YtmffmpadfpajcaaDoor

/- lex: the package variables of this cut. -/
import Derived.Test.YtheejlbhmbbdjaaDoorLexM
import Derived.Test.YtheejlbhmbbdjaaDoorShelf
import Derived.Test.YtheejlbhmbbdjaaDoorRows
namespace Go.Proofs.YtheejlbhmbbdjaaDoor
open Go.Eng Go
theorem mixed : Tryd.prog.follows .mixedOrders = true := by kernel_rfl
set_option maxRecDepth 100000 in
theorem EL25 : EL Tryd.prog 25 27 6 48 := ⟨_, _, rfl, rfl, rfl, rfl, rfl, rfl, by decide⟩
set_option maxRecDepth 100000 in
theorem EL28 : EL Tryd.prog 28 36 4 40 := ⟨_, _, rfl, rfl, rfl, rfl, rfl, rfl, by decide⟩
set_option maxRecDepth 100000 in
theorem EL58 : EL Tryd.prog 58 9 1 16 := ⟨_, _, rfl, rfl, rfl, rfl, rfl, rfl, by decide⟩
set_option maxRecDepth 100000 in
theorem EL104 : EL Tryd.prog 104 5 1 1 := ⟨_, _, rfl, rfl, rfl, rfl, rfl, rfl, by decide⟩
structure Glob (m : View) : Prop where
  max : ∃ x, m.cell ⟨0, 0, none⟩ = some (.int .i64 x)
theorem contains_ct {m : View} (hg : Glob m) (a b : List UInt8) (ha : a.length < 4294967281) (h : List Res) : CT Tryd.prog 41 [str a, str b] h m (Pure1 h (.bool (Lib.contains a b))) := by
  obtain ⟨x, hx⟩ := hg.max
  exact CT.ofCalls Tryd.call41 fun w st => Tryd.strings_Contains ⟨a.toArray⟩ ⟨b.toArray⟩ x w ha (st.cell hx)
end Go.Proofs.YtheejlbhmbbdjaaDoor

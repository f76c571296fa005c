/- types: the package variables of this cut. -/
import Derived.Test.YtcejocfjienpfaaDoorLexM
import Derived.Test.YtcejocfjienpfaaDoorShelf
import Derived.Test.YtcejocfjienpfaaDoorRows
namespace Go.Proofs.YtcejocfjienpfaaDoor
open Go.Eng Go
theorem mixed : Tryd.prog.follows .mixedOrders = true := by kernel_rfl
set_option maxRecDepth 100000 in
theorem EL25 : EL Tryd.prog 25 53 4 40 := ⟨_, _, rfl, rfl, rfl, rfl, rfl, rfl, by decide⟩
set_option maxRecDepth 100000 in
theorem EL41 : EL Tryd.prog 41 46 2 40 := ⟨_, _, rfl, rfl, rfl, rfl, rfl, rfl, by decide⟩
set_option maxRecDepth 100000 in
theorem EL44 : EL Tryd.prog 44 22 1 1 := ⟨_, _, rfl, rfl, rfl, rfl, rfl, rfl, by decide⟩
set_option maxRecDepth 100000 in
theorem EL98 : EL Tryd.prog 98 9 1 16 := ⟨_, _, rfl, rfl, rfl, rfl, rfl, rfl, by decide⟩
set_option maxRecDepth 100000 in
theorem EL103 : EL Tryd.prog 103 5 1 1 := ⟨_, _, rfl, rfl, rfl, rfl, rfl, rfl, by decide⟩
def primC : List Value := [.int .u8 1, str [73, 78, 84], .int .i64 4, .int .u8 2, str [66, 89, 84, 69], .int .i64 1, .int .u8 3, str [66, 79, 79, 76], .int .i64 1]
structure Glob (m : View) : Prop where
  max : ∃ x, m.cell ⟨1, 0, none⟩ = some (.int .i64 x)
  prim : ∀ j v, primC[j]? = some v → m.cell ⟨0, j, none⟩ = some v
theorem contains_ct {m : View} (hg : Glob m) (a b : List UInt8) (ha : a.length < 4294967281) (h : List Res) : CT Tryd.prog 51 [str a, str b] h m (Pure1 h (.bool (Lib.contains a b))) := by
  obtain ⟨x, hx⟩ := hg.max
  exact CT.ofCalls Tryd.call51 fun w st => Tryd.strings_Contains ⟨a.toArray⟩ ⟨b.toArray⟩ x w ha (st.cell hx)
end Go.Proofs.YtcejocfjienpfaaDoor

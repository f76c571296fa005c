/- layout: what holds of the whole program. -/
import Derived.Test.YtmffmpadfpajcaaDoorLayQ
import Derived.Test.YtmffmpadfpajcaaDoorRows
namespace Go.Proofs.YtmffmpadfpajcaaDoor
open Go.Eng Go
theorem mixed : Tryd.prog.follows .mixedOrders = true := by kernel_rfl
set_option maxRecDepth 100000 in
theorem EL22 : EL Tryd.prog 22 34 3 32 := ⟨_, _, rfl, rfl, rfl, rfl, rfl, rfl, by decide⟩
set_option maxRecDepth 100000 in
theorem EL38 : EL Tryd.prog 38 9 1 16 := ⟨_, _, rfl, rfl, rfl, rfl, rfl, rfl, by decide⟩
set_option maxRecDepth 100000 in
theorem EL58 : EL Tryd.prog 58 5 1 1 := ⟨_, _, rfl, rfl, rfl, rfl, rfl, rfl, by decide⟩
end Go.Proofs.YtmffmpadfpajcaaDoor

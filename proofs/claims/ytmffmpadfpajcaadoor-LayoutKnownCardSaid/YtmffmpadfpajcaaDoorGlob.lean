/- layout: the package variables of this cut. -/
import Derived.Test.YtmffmpadfpajcaaDoorGlob0
import Derived.Test.YtmffmpadfpajcaaDoorShelf
namespace Go.Proofs.YtmffmpadfpajcaaDoor
open Go.Eng Go
structure Glob (m : View) : Prop where
  max : ∃ x, m.cell ⟨0, 0, none⟩ = some (.int .i64 x)
theorem contains_ct {m : View} (hg : Glob m) (a b : List UInt8) (ha : a.length < 4294967281) (h : List Res) : CT Tryd.prog 49 [str a, str b] h m (Pure1 h (.bool (Lib.contains a b))) := by
  obtain ⟨x, hx⟩ := hg.max
  exact CT.ofCalls Tryd.call49 fun w st => Tryd.strings_Contains ⟨a.toArray⟩ ⟨b.toArray⟩ x w ha (st.cell hx)
end Go.Proofs.YtmffmpadfpajcaaDoor

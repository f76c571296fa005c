/- types: how the laws' arguments read. -/
import Derived.Test.YtcejocfjienpfaaDoorDoor
import Derived.Test.YtcejocfjienpfaaDoorTypM
namespace Go.Proofs.YtcejocfjienpfaaDoor
open Go Go.Eng Go.Ty Go.RowKit Go.ChangeShapes Go.WideShapes Go.ChangeAt Go.Joins
set_option maxRecDepth 100000
variable {H : Type} {enc : TypeId × Value → H} {W : World}
theorem cells24 : Tryd.prog.cellsOf 24 = 4 := by kernel_rfl
theorem ty_read {fuel : Nat} {cs : List Value} {x : DataW H × List MemPlace} (hr : RdT enc Tryd.prog W true fuel 24 cs x) : ∃ t : Ty, cs = cellT t ∧ t.proto.length ≤ 9223372036854775807 := by
  obtain ⟨hl, f, _, hf⟩ := rd_struct Tryd.underlying24 hr
  rw [cells24] at hl
  match cs, hl with
  | [c0, c1, c2, c3], _ =>
    obtain ⟨_, h0⟩ := hf _ (.head _)
    obtain ⟨_, h1⟩ := hf _ (.tail _ (.head _))
    obtain ⟨_, h2⟩ := hf _ (.tail _ (.tail _ (.head _)))
    obtain ⟨_, h3⟩ := hf _ (.tail _ (.tail _ (.tail _ (.head _))))
    obtain ⟨n0, e0, _⟩ := rd_int Tryd.underlying22 h0
    obtain ⟨n1, e1, _⟩ := rd_int Tryd.underlying3 h1
    obtain ⟨n2, e2, _⟩ := rd_int Tryd.underlying22 h2
    obtain ⟨n3, e3, w3⟩ := rd_str Tryd.underlying9 h3
    obtain rfl : c0 = .int .u8 n0 := List.head_eq_of_cons_eq e0
    obtain rfl : c1 = .int .i64 n1 := List.head_eq_of_cons_eq e1
    obtain rfl : c2 = .int .u8 n2 := List.head_eq_of_cons_eq e2
    obtain rfl : c3 = str n3 := List.head_eq_of_cons_eq e3
    exact ⟨⟨n0, n1, n2, n3⟩, rfl, by unfold maxLen at w3; omega⟩
theorem ty_arg {r : Reach} {base : Nat} {v : Value} {d : DataW H} {p : List MemPlace} (hv : Value.okWide Tryd.prog W r base 24 v) (h : DataW.Trod enc Tryd.prog W 0 (fun _ => true) true 24 v d p) :
    ∃ t : Ty, v = tyV t ∧ t.proto.length ≤ 9223372036854775807 := by
  obtain ⟨cs, f, x, rfl, hr⟩ := arg_struct Tryd.underlying24 hv h
  obtain ⟨t, rfl, ht⟩ := ty_read hr
  exact ⟨t, rfl, ht⟩
end Go.Proofs.YtcejocfjienpfaaDoor

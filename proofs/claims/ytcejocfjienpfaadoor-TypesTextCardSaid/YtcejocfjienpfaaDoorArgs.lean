/- types: how the laws' arguments read. -/
import Derived.Test.YtcejocfjienpfaaDoorDoor
import Derived.Test.YtcejocfjienpfaaDoorTypM
namespace Go.Proofs.YtcejocfjienpfaaDoor
open Go Go.Eng Go.Ty Go.RowKit Go.ChangeShapes Go.WideShapes Go.ChangeAt Go.Joins
set_option maxRecDepth 100000
variable {H : Type} {enc : TypeId × Value → H} {W : World}
theorem cells24 : Tryd.prog.cellsOf 24 = 4 := by kernel_rfl
theorem ty_read {fuel : Nat} {cs : List Value} {x : DataW H × List MemPlace} (hr : RdT enc Tryd.prog W true fuel 24 cs x) : ∃ t : Ty, cs = cellT t ∧ t.proto.length ≤ 9223372036854775807 := by
  obtain ⟨hl, f, _, hf⟩ := rd_struct Tryd.underlying24 hr
  rw [cells24] at hl
  match cs, hl with
  | [c0, c1, c2, c3], _ =>
    obtain ⟨_, h0⟩ := hf _ (.head _)
    obtain ⟨_, h1⟩ := hf _ (.tail _ (.head _))
    obtain ⟨_, h2⟩ := hf _ (.tail _ (.tail _ (.head _)))
    obtain ⟨_, h3⟩ := hf _ (.tail _ (.tail _ (.tail _ (.head _))))
    obtain ⟨n0, e0, _⟩ := rd_int Tryd.underlying22 h0
    obtain ⟨n1, e1, _⟩ := rd_int Tryd.underlying3 h1
    obtain ⟨n2, e2, _⟩ := rd_int Tryd.underlying22 h2
    obtain ⟨n3, e3, w3⟩ := rd_str Tryd.underlying9 h3
    obtain rfl : c0 = .int .u8 n0 := List.head_eq_of_cons_eq e0
    obtain rfl : c1 = .int .i64 n1 := List.head_eq_of_cons_eq e1
    obtain rfl : c2 = .int .u8 n2 := List.head_eq_of_cons_eq e2
    obtain rfl : c3 = str n3 := List.head_eq_of_cons_eq e3
    exact ⟨⟨n0, n1, n2, n3⟩, rfl, by unfold maxLen at w3; omega⟩
theorem ty_arg {r : Reach} {base : Nat} {v : Value} {d : DataW H} {p : List MemPlace} (hv : Value.okWide Tryd.prog W r base 24 v) (h : DataW.Trod enc Tryd.prog W 0 (fun _ => true) true 24 v d p) :
    ∃ t : Ty, v = tyV t ∧ t.proto.length ≤ 9223372036854775807 := by
  obtain ⟨cs, f, x, rfl, hr⟩ := arg_struct Tryd.underlying24 hv h
  obtain ⟨t, rfl, ht⟩ := ty_read hr
  exact ⟨t, rfl, ht⟩
theorem cells46 : Tryd.prog.cellsOf 46 = 2 := by kernel_rfl
theorem cells43 : Tryd.prog.cellsOf 43 = 2 := by kernel_rfl
theorem vr_read {fuel : Nat} {cs : List Value} {x : DataW H × List MemPlace} (hr : RdT enc Tryd.prog W true fuel 46 cs x) : ∃ v : Vr, cs = encV v ∧ (VOk (viewOf W) [] v ∧ v.tag.length ≤ 9223372036854775807) := by
  obtain ⟨hl, f, _, hf⟩ := rd_struct Tryd.underlying46 hr
  rw [cells46] at hl
  match cs, hl with
  | [c0, c1], _ =>
    obtain ⟨_, h0⟩ := hf _ (.head _)
    obtain ⟨_, h1⟩ := hf _ (.tail _ (.head _))
    obtain ⟨s, e0, w0⟩ := rd_str Tryd.underlying9 h0
    obtain ⟨a, n, c, l, e1, _, hs, _⟩ := slice_arg (Pr := fun _ => True) (enc' := encI) Tryd.underlying44 cells22 (by decide) encI_len (fun f ys y hy => by
      obtain ⟨k, rfl, _⟩ := rd_int Tryd.underlying22 hy
      exact ⟨k, rfl, trivial⟩) h1
    obtain rfl : c0 = str s := List.head_eq_of_cons_eq e0
    obtain rfl : c1 = .slice a n c := List.head_eq_of_cons_eq e1
    exact ⟨⟨s, a, n, c, l⟩, rfl, ⟨Rd.ofSl hs⟩, by unfold maxLen at w0; exact w0⟩
theorem pr_read {fuel : Nat} {cs : List Value} {x : DataW H × List MemPlace} (hr : RdT enc Tryd.prog W true fuel 43 cs x) : ∃ b a k c l, cs = prL b a k c ∧ PrOk (viewOf W) [] a k c l := by
  obtain ⟨hl, f, _, hf⟩ := rd_struct Tryd.underlying43 hr
  rw [cells43] at hl
  match cs, hl with
  | [c0, c1], _ =>
    obtain ⟨_, h0⟩ := hf _ (.head _)
    obtain ⟨_, h1⟩ := hf _ (.tail _ (.head _))
    obtain ⟨b, e0⟩ := rd_bool Tryd.underlying4 h0
    obtain ⟨a, n, c, l, e1, _, hs, hv⟩ := slice_arg (Pr := fun v => VOk (viewOf W) [] v ∧ v.tag.length ≤ 9223372036854775807) (enc' := encV) Tryd.underlying41 cells46 (by decide) encV_len (fun f ys y hy => vr_read hy) h1
    obtain rfl : c0 = .bool b := List.head_eq_of_cons_eq e0
    obtain rfl : c1 = .slice a n c := List.head_eq_of_cons_eq e1
    exact ⟨b, a, n, c, l, rfl, Rd.ofSl hs, fun v h => (hv v h).1, fun v h => (hv v h).2⟩
theorem pr_arg {r : Reach} {base : Nat} {v : Value} {d : DataW H} {p : List MemPlace} (hv : Value.okWide Tryd.prog W r base 43 v) (h : DataW.Trod enc Tryd.prog W 0 (fun _ => true) true 43 v d p) :
    ∃ b a k c l, v = prV b a k c ∧ PrOk (viewOf W) [] a k c l := by
  obtain ⟨cs, f, x, rfl, hr⟩ := arg_struct Tryd.underlying43 hv h
  obtain ⟨b, a, k, c, l, rfl, hp⟩ := pr_read hr
  exact ⟨b, a, k, c, l, rfl, hp⟩
end Go.Proofs.YtcejocfjienpfaaDoor

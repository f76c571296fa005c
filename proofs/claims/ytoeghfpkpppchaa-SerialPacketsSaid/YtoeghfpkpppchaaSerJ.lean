/- serial: opening the laws' arguments. -/
import Derived.Test.YtoeghfpkpppchaaSerH
import Derived.Test.YtoeghfpkpppchaaEng9
namespace Go.Proofs.Ytoeghfpkpppchaa
open Go.Eng Go.Ser Go.RowKit Go.ChangeShapes Go.WideShapes Go.ChangeAt Go.Joins

theorem Try.own : ownKnob Try.prog.godebug = none := by kernel_rfl
theorem Try.laidOut : laidOutB Try.prog = true := by kernel_rfl
theorem Try.cells24 : Try.prog.cellsOf 24 = 7 := by kernel_rfl
theorem Try.cells40 : Try.prog.cellsOf 40 = 2 := by kernel_rfl
theorem Try.cells3 : Try.prog.cellsOf 3 = 1 := by kernel_rfl

section
variable {H : Type} {enc : TypeId × Value → H} {W : World} {held : Bool} {fuel : Nat} {cs : List Value} {x : DataW H × List MemPlace}
theorem int_u16 {n : Int} (h : (Lit.int .u16 n).wf = true) : ∃ b : BitVec 16, Value.int .u16 n = u16 b := by
  simp only [Lit.wf, Bool.and_eq_true, decide_eq_true_eq] at h
  have h1 : 0 ≤ n := h.1
  have h2 : n ≤ 65535 := h.2
  exact ⟨BitVec.ofNat 16 n.toNat, congrArg (Value.int .u16) (by rw [BitVec.toNat_ofNat]; omega)⟩
theorem int_u8 {n : Int} (h : (Lit.int .u8 n).wf = true) : ∃ b : BitVec 8, Value.int .u8 n = u8 b := by
  simp only [Lit.wf, Bool.and_eq_true, decide_eq_true_eq] at h
  have h1 : 0 ≤ n := h.1
  have h2 : n ≤ 255 := h.2
  exact ⟨BitVec.ofNat 8 n.toNat, congrArg (Value.int .u8) (by rw [BitVec.toNat_ofNat]; omega)⟩
theorem int_64 {n : Int} (h : (Lit.int .i64 n).wf = true) : -9223372036854775808 ≤ n ∧ n ≤ 9223372036854775807 := by
  simp only [Lit.wf, Bool.and_eq_true, decide_eq_true_eq] at h
  exact h
theorem ser_read (h : RdT enc Try.prog W held fuel 24 cs x) : ∃ s : Ser, cs = cellS s ∧ I64 s := by
  obtain ⟨hl, f, rfl, hf⟩ := rd_struct Try.underlying24 h
  rw [Try.cells24] at hl
  match cs, hl with
  | [c0, c1, c2, c3, c4, c5, c6], _ =>
    obtain ⟨_, h0⟩ := hf _ (.head _)
    obtain ⟨_, h1⟩ := hf _ (.tail _ (.head _))
    obtain ⟨_, h2⟩ := hf _ (.tail _ (.tail _ (.head _)))
    obtain ⟨_, h3⟩ := hf _ (.tail _ (.tail _ (.tail _ (.head _))))
    obtain ⟨_, h4⟩ := hf _ (.tail _ (.tail _ (.tail _ (.tail _ (.head _)))))
    obtain ⟨_, h5⟩ := hf _ (.tail _ (.tail _ (.tail _ (.tail _ (.tail _ (.head _))))))
    obtain ⟨_, h6⟩ := hf _ (.tail _ (.tail _ (.tail _ (.tail _ (.tail _ (.tail _ (.head _)))))))
    obtain ⟨n0, e0, w0⟩ := rd_int Try.underlying22 h0
    obtain ⟨n1, e1, w1⟩ := rd_int Try.underlying3 h1
    obtain ⟨n2, e2⟩ := rd_bool Try.underlying4 h2
    obtain ⟨n3, e3⟩ := rd_bool Try.underlying4 h3
    obtain ⟨n4, e4, w4⟩ := rd_int Try.underlying5 h4
    obtain ⟨n5, e5, w5⟩ := rd_int Try.underlying3 h5
    obtain ⟨n6, e6, w6⟩ := rd_int Try.underlying22 h6
    obtain rfl : c0 = .int .u16 n0 := List.head_eq_of_cons_eq e0
    obtain rfl : c1 = .int .i64 n1 := List.head_eq_of_cons_eq e1
    obtain rfl : c2 = .bool n2 := List.head_eq_of_cons_eq e2
    obtain rfl : c3 = .bool n3 := List.head_eq_of_cons_eq e3
    obtain rfl : c4 = .int .u8 n4 := List.head_eq_of_cons_eq e4
    obtain rfl : c5 = .int .i64 n5 := List.head_eq_of_cons_eq e5
    obtain rfl : c6 = .int .u16 n6 := List.head_eq_of_cons_eq e6
    obtain ⟨b0, g0⟩ := int_u16 w0
    obtain ⟨b4, g4⟩ := int_u8 w4
    obtain ⟨b6, g6⟩ := int_u16 w6
    rw [g0, g4, g6]
    obtain ⟨q1, q2⟩ := int_64 w1
    obtain ⟨q3, q4⟩ := int_64 w5
    exact ⟨⟨b0, n1, n2, n3, b4, n5, b6⟩, rfl, q1, q2, q3, q4⟩
theorem ser_arg {r : Reach} {base : Nat} {v : Value} {d : DataW H} {p : List MemPlace} (hv : Value.okWide Try.prog W r base 24 v) (h : DataW.Trod enc Try.prog W 0 (fun _ => true) true 24 v d p) :
    ∃ s : Ser, v = serV s ∧ I64 s := by
  obtain ⟨cs, f, x, rfl, hr⟩ := arg_struct Try.underlying24 hv h
  obtain ⟨s, rfl, hk⟩ := ser_read hr
  exact ⟨s, rfl, hk⟩
theorem int_arg {v : Value} {d : DataW H} {p : List MemPlace} {r : Reach} {base : Nat} (hv : Value.okWide Try.prog W r base 3 v) (h : DataW.Trod enc Try.prog W 0 (fun _ => true) true 3 v d p) : ∃ n, v = .int .i64 n := by
  obtain ⟨n, rfl, _, _, _⟩ := open_int Try.underlying3 hv h
  exact ⟨n, rfl⟩
theorem byte_arg {v : Value} {d : DataW H} {p : List MemPlace} {r : Reach} {base : Nat} (hv : Value.okWide Try.prog W r base 5 v) (h : DataW.Trod enc Try.prog W 0 (fun _ => true) true 5 v d p) : ∃ b : BitVec 8, v = u8 b := by
  obtain ⟨n, rfl, _, _, w⟩ := open_int Try.underlying5 hv h
  exact int_u8 w
theorem u16_arg {v : Value} {d : DataW H} {p : List MemPlace} {r : Reach} {base : Nat} (hv : Value.okWide Try.prog W r base 22 v) (h : DataW.Trod enc Try.prog W 0 (fun _ => true) true 22 v d p) : ∃ b : BitVec 16, v = u16 b := by
  obtain ⟨n, rfl, _, _, w⟩ := open_int Try.underlying22 hv h
  exact int_u16 w
theorem ints_arg {v : Value} {d : DataW H} {p : List MemPlace} {r : Reach} {base : Nat} (hv : Value.okWide Try.prog W r base 36 v) (h : DataW.Trod enc Try.prog W 0 (fun _ => true) true 36 v d p) :
    ∃ a k c l, v = .slice a k c ∧ l.length = k ∧ Sl (viewOf W) a k c 1 (fl encI l) := by
  obtain ⟨a, k, c, rfl⟩ := okWide_slice Try.underlying36 hv
  obtain ⟨f, x, hr⟩ := arg_cell h
  obtain ⟨a', k', c', l, e, hl, hs, _⟩ := slice_arg (Pr := fun _ => True) (enc' := encI) Try.underlying36 Try.cells3 (by decide) encI_len (fun f ys y hy => by
    obtain ⟨k, rfl, _⟩ := rd_int Try.underlying3 hy
    exact ⟨k, rfl, trivial⟩) hr
  have e := List.head_eq_of_cons_eq (show [Value.slice a k c] = [.slice a' k' c'] from e)
  cases e
  exact ⟨a, k, c, l, rfl, hl, hs⟩
theorem steps_arg {v : Value} {d : DataW H} {p : List MemPlace} {r : Reach} {base : Nat} (hv : Value.okWide Try.prog W r base 35 v) (h : DataW.Trod enc Try.prog W 0 (fun _ => true) true 35 v d p) :
    ∃ a k c l, v = .slice a k c ∧ l.length = k ∧ Sl (viewOf W) a k c 2 (fl encS l) := by
  obtain ⟨a, k, c, rfl⟩ := okWide_slice Try.underlying35 hv
  obtain ⟨f, x, hr⟩ := arg_cell h
  obtain ⟨a', k', c', l, e, hl, hs, _⟩ := slice_arg (Pr := fun _ => True) (enc' := encS) Try.underlying35 Try.cells40 (by decide) encS_len (fun f ys y hy => by
    obtain ⟨hl, f, rfl, hf⟩ := rd_struct Try.underlying40 hy
    rw [Try.cells40] at hl
    match ys, hl with
    | [c0, c1], _ =>
      obtain ⟨_, h0⟩ := hf _ (.head _)
      obtain ⟨_, h1⟩ := hf _ (.tail _ (.head _))
      obtain ⟨n0, e0, w0⟩ := rd_int Try.underlying5 h0
      obtain ⟨n1, e1, w1⟩ := rd_int Try.underlying5 h1
      obtain rfl : c0 = .int .u8 n0 := List.head_eq_of_cons_eq e0
      obtain rfl : c1 = .int .u8 n1 := List.head_eq_of_cons_eq e1
      obtain ⟨b0, g0⟩ := int_u8 w0
      obtain ⟨b1, g1⟩ := int_u8 w1
      rw [g0, g1]
      exact ⟨⟨b0, b1⟩, rfl, trivial⟩) hr
  have e := List.head_eq_of_cons_eq (show [Value.slice a k c] = [.slice a' k' c'] from e)
  cases e
  exact ⟨a, k, c, l, rfl, hl, hs⟩
end
end Go.Proofs.Ytoeghfpkpppchaa

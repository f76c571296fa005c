/- tokens as a law's argument. -/
import Derived.Test.YtcejocfjienpfaaDoorArgs
import Derived.Test.YtcejocfjienpfaaDoorTypQ
namespace Go.Proofs.YtcejocfjienpfaaDoor
open Go Go.Eng Go.Ty Go.RowKit Go.ChangeShapes Go.WideShapes Go.ChangeAt Go.Joins
set_option maxRecDepth 100000
variable {H : Type} {enc : TypeId × Value → H} {W : World}
theorem cellsTok : Tryd.prog.cellsOf 53 = 4 := by kernel_rfl
theorem tk_read {fuel : Nat} {cs : List Value} {x : DataW H × List MemPlace} (hr : RdT enc Tryd.prog W true fuel 53 cs x) : ∃ t : Go.Ty.Tok, cs = encK t ∧ ((-2147483648 ≤ t.n ∧ t.n ≤ 2147483647) ∧ t.text.length ≤ 9223372036854775807) := by
  obtain ⟨hl, f, _, hf⟩ := rd_struct Tryd.underlying53 hr
  rw [cellsTok] at hl
  match cs, hl with
  | [c0, c1, c2, c3], _ =>
    obtain ⟨_, h0⟩ := hf _ (.head _)
    obtain ⟨_, h1⟩ := hf _ (.tail _ (.head _))
    obtain ⟨_, h2⟩ := hf _ (.tail _ (.tail _ (.head _)))
    obtain ⟨_, h3⟩ := hf _ (.tail _ (.tail _ (.tail _ (.head _))))
    obtain ⟨n0, e0, _⟩ := rd_int Tryd.underlying51 h0
    obtain ⟨n1, e1, _⟩ := rd_int Tryd.underlying3 h1
    obtain ⟨n2, e2, w2⟩ := rd_str Tryd.underlying9 h2
    obtain ⟨n3, e3, w3⟩ := rd_int Tryd.underlying21 h3
    obtain rfl : c0 = .int .u8 n0 := List.head_eq_of_cons_eq e0
    obtain rfl : c1 = .int .i64 n1 := List.head_eq_of_cons_eq e1
    obtain rfl : c2 = str n2 := List.head_eq_of_cons_eq e2
    obtain rfl : c3 = .int .i32 n3 := List.head_eq_of_cons_eq e3
    exact ⟨⟨n0, n1, n2, n3⟩, rfl, by simp [Lit.wf] at w3; exact w3, by unfold maxLen at w2; exact w2⟩
theorem tk_arg {v : Value} {d : DataW H} {p : List MemPlace} {r : Reach} {base : Nat} (hv : Value.okWide Tryd.prog W r base 25 v) (h : DataW.Trod enc Tryd.prog W 0 (fun _ => true) true 25 v d p) :
    ∃ a k c l, v = .slice a k c ∧ Rd (viewOf W) [] a k c 4 (fl encK l) ∧ TkOk l := by
  obtain ⟨a, k, c, rfl⟩ := okWide_slice Tryd.underlying25 hv
  obtain ⟨f, x, hr⟩ := arg_cell h
  obtain ⟨a', k', c', l, e, hl, hs, hp⟩ := slice_arg (Pr := fun t : Go.Ty.Tok => (-2147483648 ≤ t.n ∧ t.n ≤ 2147483647) ∧ t.text.length ≤ 9223372036854775807) (enc' := encK) Tryd.underlying25 cellsTok (by decide) encK_len (fun f ys y hy => tk_read hy) hr
  have e := List.head_eq_of_cons_eq (show [Value.slice a k c] = [.slice a' k' c'] from e)
  cases e
  exact ⟨a, k, c, l, rfl, Rd.ofSl hs, hp⟩
end Go.Proofs.YtcejocfjienpfaaDoor

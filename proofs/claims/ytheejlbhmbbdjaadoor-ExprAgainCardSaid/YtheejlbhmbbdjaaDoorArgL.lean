/- lex: how the laws' arguments read. -/
import Derived.Test.YtheejlbhmbbdjaaDoorDoor
import Derived.Test.YtheejlbhmbbdjaaDoorEng8
import Derived.ChangeMaps5
namespace Go.Proofs.YtheejlbhmbbdjaaDoor
open Go Go.Eng Go.Ty Go.RowKit Go.ChangeShapes Go.WideShapes Go.ChangeAt Go.Joins
set_option maxRecDepth 100000
variable {H : Type} {enc : TypeId × Value → H} {W : World}
theorem strL_arg {r : Reach} {base : Nat} {v : Value} {d : DataW H} {p : List MemPlace} (hv : Value.okWide Tryd.prog W r base 9 v) (h : DataW.Trod enc Tryd.prog W 0 (fun _ => true) true 9 v d p) (hw : ∀ q ∈ d.weights Tryd.prog 9, q ≤ reachBytes) :
    ∃ s : List UInt8, v = str s ∧ s.length ≤ 140737488355328 := by
  obtain ⟨s, rfl, rfl, _, _⟩ := ChangeMaps.open_string Tryd.underlying9 hv h
  refine ⟨s.data.toList, by simp [str], ?_⟩
  have := hw s.data.toList.length (by simp [DataW.weights])
  exact Nat.le_trans this (by decide)
theorem cellsTok : Tryd.prog.cellsOf 36 = 4 := by kernel_rfl
theorem tkL_read {fuel : Nat} {cs : List Value} {x : DataW H × List MemPlace} (hr : RdT enc Tryd.prog W true fuel 36 cs x) (hw : ∀ q ∈ x.1.weights Tryd.prog 36, q ≤ reachBytes) : ∃ t : Go.Ty.Tok, cs = encK t ∧ ((-2147483648 ≤ t.n ∧ t.n ≤ 2147483647) ∧ t.text.length ≤ 140737488355328) := by
  obtain ⟨hl, f, _, hf⟩ := rd_structW Tryd.underlying36 hr
  rw [cellsTok] at hl
  match cs, hl with
  | [c0, c1, c2, c3], _ =>
    obtain ⟨_, _, h0, _⟩ := hf _ (.head _)
    obtain ⟨_, _, h1, _⟩ := hf _ (.tail _ (.head _))
    obtain ⟨_, _, h2, k2⟩ := hf _ (.tail _ (.tail _ (.head _)))
    obtain ⟨_, _, h3, _⟩ := hf _ (.tail _ (.tail _ (.tail _ (.head _))))
    obtain ⟨n0, e0, _⟩ := rd_int Tryd.underlying34 h0
    obtain ⟨n1, e1, _⟩ := rd_int Tryd.underlying3 h1
    obtain ⟨n2, e2, w2⟩ := rd_strW Tryd.underlying9 h2
    obtain ⟨n3, e3, w3⟩ := rd_int Tryd.underlying21 h3
    obtain rfl : c0 = .int .u8 n0 := List.head_eq_of_cons_eq e0
    obtain rfl : c1 = .int .i64 n1 := List.head_eq_of_cons_eq e1
    obtain rfl : c2 = str n2 := List.head_eq_of_cons_eq e2
    obtain rfl : c3 = .int .i32 n3 := List.head_eq_of_cons_eq e3
    exact ⟨⟨n0, n1, n2, n3⟩, rfl, by simp [Lit.wf] at w3; exact w3, Nat.le_trans (hw _ (k2 _ w2)) (by decide)⟩
theorem tkL_arg {r : Reach} {base : Nat} {v : Value} {d : DataW H} {p : List MemPlace} (hv : Value.okWide Tryd.prog W r base 36 v) (h : DataW.Trod enc Tryd.prog W 0 (fun _ => true) true 36 v d p) (hw : ∀ q ∈ d.weights Tryd.prog 36, q ≤ reachBytes) :
    ∃ t : Go.Ty.Tok, v = tokV t ∧ ((-2147483648 ≤ t.n ∧ t.n ≤ 2147483647) ∧ t.text.length ≤ 140737488355328) := by
  obtain ⟨cs, rfl, _⟩ := okWide_struct Tryd.underlying36 hv
  obtain ⟨fuel, hf⟩ := h
  obtain ⟨t, e, ht⟩ := tkL_read (x := (d, p)) hf hw
  refine ⟨t, ?_, ht⟩
  unfold tokV
  rw [← show cs.toList = encK t from e]
theorem tksL_arg {v : Value} {d : DataW H} {p : List MemPlace} {r : Reach} {base : Nat} (hv : Value.okWide Tryd.prog W r base 28 v) (h : DataW.Trod enc Tryd.prog W 0 (fun _ => true) true 28 v d p) (hw : ∀ q ∈ d.weights Tryd.prog 28, q ≤ reachBytes) :
    ∃ a k c l, v = .slice a k c ∧ Rd (viewOf W) [] a k c 4 (fl encK l) ∧ TkL l := by
  obtain ⟨a, k, c, rfl⟩ := okWide_slice Tryd.underlying28 hv
  obtain ⟨fuel, hf⟩ := h
  obtain ⟨a', k', c', l, e, hl, hs, hp⟩ := slice_argW (x := (d, p)) (Pr := fun t : Go.Ty.Tok => (-2147483648 ≤ t.n ∧ t.n ≤ 2147483647) ∧ t.text.length ≤ 140737488355328) (enc' := encK) Tryd.underlying28 cellsTok (by decide) encK_len (fun f ys y hy hk => tkL_read hy fun q hq => hw q (hk q hq)) hf
  have e := List.head_eq_of_cons_eq (show [Value.slice a k c] = [.slice a' k' c'] from e)
  cases e
  exact ⟨a, k, c, l, rfl, Rd.ofSl hs, hp⟩
end Go.Proofs.YtheejlbhmbbdjaaDoor

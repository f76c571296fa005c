/- expr: how the laws' arguments read. -/
import Derived.Test.YtheejlbhmbbdjaaDoorDoor
import Derived.Test.YtheejlbhmbbdjaaDoorEng18
import Derived.ChangeMaps5
namespace Go.Proofs.YtheejlbhmbbdjaaDoor
open Go Go.Eng Go.Ty Go.Xp Go.RowKit Go.ChangeShapes Go.WideShapes Go.ChangeAt Go.Joins
set_option maxRecDepth 100000
variable {H : Type} {enc : TypeId × Value → H} {W : World}
theorem cellsExpr : Tryd.prog.cellsOf 27 = 6 := by kernel_rfl
theorem ex_read : ∀ (fuel : Nat) {cs : List Value} {x : DataW H × List MemPlace}, RdT enc Tryd.prog W true fuel 27 cs x → (∀ q ∈ x.1.weights Tryd.prog 27, q ≤ reachBytes) → ∃ e : Ex, cs = exE e ∧ TOk (viewOf W) [] e ∧ Wf e := by
  intro fuel
  induction fuel using Nat.strongRecOn with
  | _ fuel ih =>
  intro cs x hr hw
  obtain ⟨hl, f, hfu, hf⟩ := rd_structW Tryd.underlying27 hr
  rw [cellsExpr] at hl
  match cs, hl with
  | [c0, c1, c2, c3, c4, c5], _ =>
    obtain ⟨_, _, h0, _⟩ := hf _ (.head _)
    obtain ⟨_, _, h1, _⟩ := hf _ (.tail _ (.head _))
    obtain ⟨_, _, h2, _⟩ := hf _ (.tail _ (.tail _ (.head _)))
    obtain ⟨_, _, h3, _⟩ := hf _ (.tail _ (.tail _ (.tail _ (.head _))))
    obtain ⟨_, _, h4, k4⟩ := hf _ (.tail _ (.tail _ (.tail _ (.tail _ (.head _)))))
    obtain ⟨d5, p5, h5, k5⟩ := hf _ (.tail _ (.tail _ (.tail _ (.tail _ (.tail _ (.head _))))))
    obtain ⟨n0, e0, w0⟩ := rd_int Tryd.underlying22 h0
    obtain ⟨n1, e1, w1⟩ := rd_int Tryd.underlying23 h1
    obtain ⟨n2, e2, w2⟩ := rd_int Tryd.underlying24 h2
    obtain ⟨n3, e3, w3⟩ := rd_int Tryd.underlying21 h3
    obtain ⟨n4, e4, w4⟩ := rd_strW Tryd.underlying9 h4
    obtain ⟨a, n, c, l, e5, hll, hs, hp⟩ := slice_argF (Pr := fun e : Ex => TOk (viewOf W) [] e ∧ Wf e) (enc' := exE) Tryd.underlying25 cellsExpr (by decide) exE_len (fun g ys y hg hy hk => by
      obtain ⟨e, he1, he2⟩ := ih g (by omega) hy fun q hq => hw q (k5 q (hk q hq))
      exact ⟨e, he1, he2⟩) h5
    obtain rfl : c0 = .int .u8 n0 := List.head_eq_of_cons_eq e0
    obtain rfl : c1 = .int .u8 n1 := List.head_eq_of_cons_eq e1
    obtain rfl : c2 = .int .u8 n2 := List.head_eq_of_cons_eq e2
    obtain rfl : c3 = .int .i32 n3 := List.head_eq_of_cons_eq e3
    obtain rfl : c4 = str n4 := List.head_eq_of_cons_eq e4
    obtain rfl : c5 = .slice a n c := List.head_eq_of_cons_eq e5
    subst hll
    have u0 : 0 ≤ n0 ∧ n0 ≤ 255 := by simpa [Lit.wf, show IntKind.u8.min = 0 from rfl, show IntKind.u8.max = 255 from rfl] using w0
    have u1 : 0 ≤ n1 ∧ n1 ≤ 255 := by simpa [Lit.wf, show IntKind.u8.min = 0 from rfl, show IntKind.u8.max = 255 from rfl] using w1
    have u2 : 0 ≤ n2 ∧ n2 ≤ 255 := by simpa [Lit.wf, show IntKind.u8.min = 0 from rfl, show IntKind.u8.max = 255 from rfl] using w2
    have u3 : -2147483648 ≤ n3 ∧ n3 ≤ 2147483647 := by simp [Lit.wf] at w3; exact w3
    exact ⟨.mk n0 n1 n2 n3 n4 a c l, rfl, .mk (Rd.ofSl hs) fun y hy => (hp y hy).1, .mk u0 u1 u2 u3 (Nat.le_trans (hw _ (k4 _ w4)) (by decide)) fun y hy => (hp y hy).2⟩
theorem ex_arg {r : Reach} {base : Nat} {v : Value} {d : DataW H} {p : List MemPlace} (hv : Value.okWide Tryd.prog W r base 27 v) (h : DataW.Trod enc Tryd.prog W 0 (fun _ => true) true 27 v d p) (hw : ∀ q ∈ d.weights Tryd.prog 27, q ≤ reachBytes) :
    ∃ e : Ex, v = exV e ∧ TOk (viewOf W) [] e ∧ Wf e := by
  obtain ⟨cs, rfl, _⟩ := okWide_struct Tryd.underlying27 hv
  obtain ⟨fuel, hf⟩ := h
  obtain ⟨e, he, ht⟩ := ex_read fuel (x := (d, p)) hf hw
  refine ⟨e, ?_, ht⟩
  unfold exV
  rw [← show cs.toList = exE e from he]
end Go.Proofs.YtheejlbhmbbdjaaDoor

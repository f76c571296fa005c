/- Opening the laws' arguments. -/
import Derived.Test.YtdfobghpbbohdaaObjE
namespace Go.Proofs.Ytdfobghpbbohdaa
open Go.Eng Go.Obj Go.RowKit Go.ChangeShapes Go.WideShapes Go.ChangeAt Go.Joins

theorem Try.own : ownKnob Try.prog.godebug = none := by kernel_rfl
theorem Try.laidOut : laidOutB Try.prog = true := by kernel_rfl
theorem Try.cells5 : Try.prog.cellsOf 5 = 1 := by kernel_rfl
theorem Try.cells24 : Try.prog.cellsOf 24 = 4 := by kernel_rfl
theorem Try.bytes5 : Try.prog.bytesOf 5 = 1 := by kernel_rfl

section
variable {H : Type} {enc : TypeId × Value → H}

theorem sl_arg {W : World} {r : Reach} {base : Nat} {v : Value} {d : DataW H} {p : List MemPlace} (hv : Value.okWide Try.prog W r base 22 v) (h : DataW.Trod enc Try.prog W 0 (fun _ => true) true 22 v d p) :
    ∃ s n c bs, v = .slice s n c ∧ Rd (viewOf W) [] s n c 1 (bv bs) ∧ ((∀ q ∈ d.weights Try.prog 22, q ≤ reachBytes) → n ≤ reachBytes) := by
  obtain ⟨a, l, c, rfl⟩ := okWide_slice Try.underlying22 hv
  obtain ⟨fuel, hf⟩ := h
  obtain ⟨s, n, c', bs, e, hr, hb⟩ := bytes_arg Try.underlying22 Try.underlying5 Try.cells5 hf
  exact ⟨s, n, c', bs, e, hr, fun hq => by have := hb _ hq; rwa [Try.bytes5, Nat.mul_one] at this⟩

theorem obj_arg {W : World} {r : Reach} {base : Nat} {v : Value} {d : DataW H} {p : List MemPlace} (hv : Value.okWide Try.prog W r base 24 v) (h : DataW.Trod enc Try.prog W 0 (fun _ => true) true 24 v d p) :
    ∃ s c bs e a b, v = obV s bs.length c e a b ∧ Rd (viewOf W) [] s bs.length c 1 (bv bs) ∧ ((∀ q ∈ d.weights Try.prog 24, q ≤ reachBytes) → bs.length ≤ reachBytes) := by
  obtain ⟨v0, v1, v2, v3, y0, y1, y2, y3, m, rfl, rfl, rfl, h0, h1, h2, h3⟩ := open_agg4 Try.underlying24 (by kernel_rfl) Try.cells24 hv h
  obtain ⟨a, l, c, e0⟩ := slice_form Try.underlying22 h0
  obtain ⟨x1, e1, -⟩ := DataW.trod_int Try.underlying3 h1
  obtain ⟨x2, e2, -⟩ := DataW.trod_int Try.underlying3 h2
  obtain ⟨x3, e3, -⟩ := DataW.trod_int Try.underlying3 h3
  obtain ⟨s, n, c', bs, e, hr, hb⟩ := bytes_arg Try.underlying22 Try.underlying5 Try.cells5 h0
  simp only [List.cons.injEq, and_true] at e1 e2 e3
  subst e e1 e2 e3
  have hl := hr.lenB
  subst hl
  refine ⟨s, c', bs, x1, x2, x3, rfl, hr, fun hq => ?_⟩
  have := hb reachBytes fun q h => hq q (by
    simp only [DataW.weights, Try.underlying24, DataW.weightsEach, List.map_cons, List.map_nil, List.mem_append]
    exact .inl h)
  rwa [Try.bytes5, Nat.mul_one] at this

theorem reach47 {n : Nat} (h : n ≤ reachBytes) : n ≤ 140737488355328 := Nat.le_trans h (by decide)
end

end Go.Proofs.Ytdfobghpbbohdaa

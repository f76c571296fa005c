/- ObjectPuts: the row. -/
import Derived.Test.YtdfobghpbbohdaaObjF
namespace Go.Proofs.Ytdfobghpbbohdaa
open Go.Eng Go.Obj Go.RowKit Go.ChangeShapes Go.WideShapes Go.ChangeAt Go.Joins

set_option maxRecDepth 100000 in
theorem objectPuts_lifted (os : Os) (started : os.Started) (H : Type) (enc : TypeId × Value → H) :
    ReturnsInHanded {} Try.checked os 3 .any (Rows.objectPutsSpec.pre6 enc Try.prog Try.f3 Rows.objectPutsRow.domain false) (Rows.objectPutsSpec.post enc Try.prog Try.f3 false true false false) := by
  refine returnsInHanded_of_change_sized (C := Try.checked) Try.own started (by kernel_rfl) Try.func3
    (ChangeSpec.witness6 (enc := enc) (C := Try.checked) false ⟨#[], #[.agg #[.slice none 0 0, .int .i64 0, .int .i64 0, .int .i64 0]], []⟩ 8 (by kernel_rfl) (by kernel_rfl) (by kernel_rfl) (by kernel_rfl)) ?_
  intro W base args ds gs before hval hW hcnd hsz _
  refine law_post (C := Try.checked) Try.laidOut (by kernel_rfl) rfl rfl Try.underlying4 (fun ds hd => ?_) hW ?_
  · match ds, hd with
    | [d0], _ => rfl
  · obtain ⟨p, q, hA, hV, rfl, -, -⟩ := hW
    obtain ⟨rfl, rfl⟩ := trodVars_none (show DataW.TrodVars enc Try.prog W (fun _ => true) [] gs q from hV)
    rw [show Try.checked.prog = Try.prog from rfl, Try.params3] at hA hsz
    obtain ⟨v0, d0, rfl, rfl, h0⟩ := trodAll_one hA
    obtain ⟨s, c, bs, e, a, b, rfl, hr, hb⟩ := obj_arg (hval 0 24 v0 rfl rfl) h0
    have hn := hb fun q hq => by simpa using List.all_eq_true.1 hsz q (DataW.weights_mem_each (j := 0) (t := 24) rfl rfl q hq)
    exact puts_law s c bs e a b _ _ hr (reach47 hn)

theorem objectPuts_holds : Rows.ObjectPutsSaid :=
  OpenClaim.holds_of_wide 3 Try.f3 rfl rfl rfl rfl rfl rfl rfl ⟨rfl, rfl, rfl, rfl, rfl⟩ rfl rfl rfl rfl rfl (by kernel_rfl) Try.func3 (by kernel_rfl)
    (of_decide_eq_true (by kernel_rfl)) (by unfold Func.isWrapper; rw [if_neg (by decide +kernel)]; exact ⟨rfl, rfl⟩)
    (fun os started H enc _ => objectPuts_lifted os started H enc)
end Go.Proofs.Ytdfobghpbbohdaa

/- SerialApart: the row. -/
import Derived.Test.YtoeghfpkpppchaaSerJ
namespace Go.Proofs.Ytoeghfpkpppchaa
open Go.Eng Go.RowKit Go.ChangeShapes Go.WideShapes Go.ChangeAt Go.Joins

set_option maxRecDepth 100000 in
theorem serialApart_lifted (os : Os) (started : os.Started) (H : Type) (enc : TypeId × Value → H) :
    ReturnsInHanded {} Try.checked os 4 .any (Rows.serialApartSpec.pre6 enc Try.prog Try.f4 Rows.serialApartRow.domain false) (Rows.serialApartSpec.post enc Try.prog Try.f4 false true false false) := by
  refine returnsInHanded_of_change_sized (C := Try.checked) Try.own started (by kernel_rfl) Try.func4
    (ChangeSpec.witness6 (enc := enc) (C := Try.checked) false ⟨#[], #[.agg #[.int .u16 0, .int .i64 0, .bool false, .bool false, .int .u8 0, .int .i64 0, .int .u16 0], .int .i64 0], []⟩ 8 (by kernel_rfl) (by kernel_rfl) (by kernel_rfl) (by kernel_rfl)) ?_
  intro W base args ds gs before hval hW hcnd hsz _
  refine law_post (C := Try.checked) Try.laidOut (by kernel_rfl) rfl rfl Try.underlying4 (fun ds hd => ?_) hW ?_
  · match ds, hd with
    | [d0, d1], _ => rfl
  · obtain ⟨p, q, hA, hV, rfl, -, -⟩ := hW
    obtain ⟨rfl, rfl⟩ := trodVars_none (show DataW.TrodVars enc Try.prog W (fun _ => true) [] gs q from hV)
    rw [show Try.checked.prog = Try.prog from rfl, Try.params4] at hA hsz
    obtain ⟨v0, v1, d0, d1, p0, p1, rfl, rfl, rfl, h0, h1⟩ := trodAll_two hA
    obtain ⟨s0, rfl, k0⟩ := ser_arg (hval 0 24 v0 rfl rfl) h0
    obtain ⟨x1, rfl⟩ := int_arg (hval 1 3 v1 rfl rfl) h1
    exact apart_law s0 k0 x1 _ _

theorem serialApart_holds : Rows.SerialApartSaid :=
  OpenClaim.holds_of_wide 4 Try.f4 rfl rfl rfl rfl rfl rfl rfl ⟨rfl, rfl, rfl, rfl, rfl⟩ rfl rfl rfl rfl rfl (by kernel_rfl) Try.func4 (by kernel_rfl)
    (of_decide_eq_true (by kernel_rfl)) (by unfold Func.isWrapper; rw [if_neg (by decide +kernel)]; exact ⟨rfl, rfl⟩)
    (fun os started H enc _ => serialApart_lifted os started H enc)
end Go.Proofs.Ytoeghfpkpppchaa

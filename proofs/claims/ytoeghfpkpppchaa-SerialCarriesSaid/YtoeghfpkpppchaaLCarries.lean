/- SerialCarries: the row. -/
import Derived.Test.YtoeghfpkpppchaaSerJ
import Derived.Test.YtoeghfpkpppchaaSerN
namespace Go.Proofs.Ytoeghfpkpppchaa
open Go.Eng Go.RowKit Go.ChangeShapes Go.WideShapes Go.ChangeAt Go.Joins

set_option maxRecDepth 100000 in
theorem serialCarries_lifted (os : Os) (started : os.Started) (H : Type) (enc : TypeId × Value → H) :
    ReturnsInHanded {} Try.checked os 9 .any (Rows.serialCarriesSpec.pre6 enc Try.prog Try.f9 Rows.serialCarriesRow.domain false) (Rows.serialCarriesSpec.post enc Try.prog Try.f9 false true false false) := by
  refine returnsInHanded_of_change_sized (C := Try.checked) Try.own started (by kernel_rfl) Try.func9
    (ChangeSpec.witness6 (enc := enc) (C := Try.checked) false ⟨#[], #[.slice none 0 0], []⟩ 8 (by kernel_rfl) (by kernel_rfl) (by kernel_rfl) (by kernel_rfl)) ?_
  intro W base args ds gs before hval hW hcnd hsz _
  refine law_post (C := Try.checked) Try.laidOut (by kernel_rfl) rfl rfl Try.underlying4 (fun ds hd => ?_) hW ?_
  · match ds, hd with
    | [d0], _ => rfl
  · obtain ⟨p, q, hA, hV, rfl, -, -⟩ := hW
    obtain ⟨rfl, rfl⟩ := trodVars_none (show DataW.TrodVars enc Try.prog W (fun _ => true) [] gs q from hV)
    rw [show Try.checked.prog = Try.prog from rfl, Try.params9] at hA hsz
    obtain ⟨v0, d0, rfl, rfl, h0⟩ := trodAll_one hA
    obtain ⟨a0, n0, c0, l0, rfl, e0, r0⟩ := steps_arg (hval 0 35 v0 rfl rfl) h0
    exact carries_law a0 n0 c0 l0 _ _ (Rd.ofSl r0)

theorem serialCarries_holds : Rows.SerialCarriesSaid :=
  OpenClaim.holds_of_wide 9 Try.f9 rfl rfl rfl rfl rfl rfl rfl ⟨rfl, rfl, rfl, rfl, rfl⟩ rfl rfl rfl rfl rfl (by kernel_rfl) Try.func9 (by kernel_rfl)
    (of_decide_eq_true (by kernel_rfl)) (by unfold Func.isWrapper; rw [if_neg (by decide +kernel)]; exact ⟨rfl, rfl⟩)
    (fun os started H enc _ => serialCarries_lifted os started H enc)
end Go.Proofs.Ytoeghfpkpppchaa

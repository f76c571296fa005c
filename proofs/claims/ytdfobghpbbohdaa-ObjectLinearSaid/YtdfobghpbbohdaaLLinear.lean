/- ObjectLinear: the row. -/
import Derived.Test.YtdfobghpbbohdaaObjF
import Derived.Test.YtdfobghpbbohdaaObjI
namespace Go.Proofs.Ytdfobghpbbohdaa
open Go.Eng Go.Obj Go.RowKit Go.ChangeShapes Go.WideShapes Go.ChangeAt Go.Joins

set_option maxRecDepth 100000 in
theorem objectLinear_lifted (os : Os) (started : os.Started) (H : Type) (enc : TypeId × Value → H) :
    ReturnsInHanded {} Try.checked os 8 .any (Rows.objectLinearSpec.pre6 enc Try.prog Try.f8 Rows.objectLinearRow.domain false) (Rows.objectLinearSpec.post enc Try.prog Try.f8 false true false false) := by
  refine returnsInHanded_of_change_sized (C := Try.checked) Try.own started (by kernel_rfl) Try.func8
    (ChangeSpec.witness6 (enc := enc) (C := Try.checked) false ⟨#[], #[.slice none 0 0, .slice none 0 0, .slice none 0 0], []⟩ 8 (by kernel_rfl) (by kernel_rfl) (by kernel_rfl) (by kernel_rfl)) ?_
  intro W base args ds gs before hval hW hcnd hsz _
  refine law_post (C := Try.checked) Try.laidOut (by kernel_rfl) rfl rfl Try.underlying4 (fun ds hd => ?_) hW ?_
  · match ds, hd with
    | [d0, d1, d2], _ => rfl
  · obtain ⟨p, q, hA, hV, rfl, -, -⟩ := hW
    obtain ⟨rfl, rfl⟩ := trodVars_none (show DataW.TrodVars enc Try.prog W (fun _ => true) [] gs q from hV)
    rw [show Try.checked.prog = Try.prog from rfl, Try.params8] at hA hsz
    obtain ⟨v0, v1, v2, d0, d1, d2, p0, p1, p2, rfl, rfl, rfl, h0, h1, h2⟩ := trodAll_three hA
    obtain ⟨s0, n0, c0, bs0, rfl, hr0, hb0⟩ := sl_arg (hval 0 22 v0 rfl rfl) h0
    obtain ⟨s1, n1, c1, bs1, rfl, hr1, hb1⟩ := sl_arg (hval 1 22 v1 rfl rfl) h1
    obtain ⟨s2, n2, c2, bs2, rfl, hr2, hb2⟩ := sl_arg (hval 2 22 v2 rfl rfl) h2
    have hn0 := hb0 fun q hq => by simpa using List.all_eq_true.1 hsz q (DataW.weights_mem_each (j := 0) (t := 22) rfl rfl q hq)
    exact linear_law s0 s1 s2 n0 c0 n1 c1 n2 c2 bs0 bs1 bs2 _ _ hr0 hr1 hr2 (reach47 hn0)

theorem objectLinear_holds : Rows.ObjectLinearSaid :=
  OpenClaim.holds_of_wide 8 Try.f8 rfl rfl rfl rfl rfl rfl rfl ⟨rfl, rfl, rfl, rfl, rfl⟩ rfl rfl rfl rfl rfl (by kernel_rfl) Try.func8 (by kernel_rfl)
    (of_decide_eq_true (by kernel_rfl)) (by unfold Func.isWrapper; rw [if_neg (by decide +kernel)]; exact ⟨rfl, rfl⟩)
    (fun os started H enc _ => objectLinear_lifted os started H enc)
end Go.Proofs.Ytdfobghpbbohdaa

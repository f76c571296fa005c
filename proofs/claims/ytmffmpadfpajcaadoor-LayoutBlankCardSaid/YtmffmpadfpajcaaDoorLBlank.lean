/- LayoutBlank: the row, the card. -/
import Derived.Test.YtmffmpadfpajcaaDoorLawC
import Derived.Test.YtmffmpadfpajcaaDoorDoor
namespace Go.Proofs.YtmffmpadfpajcaaDoor
open Go Go.Eng Go.RowKit Go.ChangeShapes Go.WideShapes Go.ChangeAt Go.Joins

set_option maxRecDepth 100000 in
theorem layoutBlank_lifted (os : Os) (started : os.Started) (H : Type) (enc : TypeId × Value → H) :
    ReturnsInHanded {} Tryd.checked os 5 .any (fun w args => (Rows.layoutBlankSpec.pre enc Tryd.prog Tryd.f5 [] false w args ∧ laidMet Tryd.prog laidL w) ∧ sizedMet enc Tryd.prog Tryd.f5 (OpenSpec.ofChange Rows.layoutBlankSpec) false w args)
      (Rows.layoutBlankSpec.post enc Tryd.prog Tryd.f5 false true false false) := by
  refine returnsInHanded_laid (C := Tryd.checked) Tryd.own started (by kernel_rfl) Tryd.func5
    (ChangeSpec.witness_at (enc := enc) (C := Tryd.checked) (os := os) (X := fun w _ => laidMet Tryd.prog laidL w) false (laidWorld os) #[.string ⟨#[]⟩, .int .u16 0, .int .u8 0, .string ⟨#[]⟩] 8 rfl (by kernel_rfl) (by kernel_rfl) (by kernel_rfl) (by kernel_rfl) (by kernel_rfl) (laidWorld_met os _)) ?_
  intro W base args ds gs before hval hW hsz hL hsh
  have hg := glob_of hsh
  refine law_post (C := Tryd.checked) Tryd.laidOut (by kernel_rfl) rfl rfl Tryd.underlying4 (fun ds hd => ?_) hW ?_
  · match ds, hd with
    | [d0, d1, d2, d3], _ => rfl
  · obtain ⟨p, q, hA, hV, rfl, -, -⟩ := hW
    obtain ⟨rfl, rfl⟩ := trodVars_none (show DataW.TrodVars enc Tryd.prog W (fun _ => true) [] gs q from hV)
    rw [show Tryd.checked.prog = Tryd.prog from rfl, Tryd.params5] at hA hsz
    obtain ⟨v0, v1, v2, v3, d0, d1, d2, d3, p0, p1, p2, p3, rfl, rfl, rfl, h0, h1, h2, h3⟩ := trodAll_four hA
    obtain ⟨s0, rfl⟩ := strN_arg (hval 0 9 v0 rfl rfl) h0
    obtain ⟨u1, rfl, rfl, rfl, wv1⟩ := open_int Tryd.underlying37 (hval 1 37 v1 rfl rfl) h1
    have wv1 : 0 ≤ u1 ∧ u1 ≤ 65535 := by simpa [Lit.wf, show IntKind.u16.min = 0 from rfl, show IntKind.u16.max = 65535 from rfl] using wv1
    obtain ⟨w1, rfl⟩ : ∃ n : Nat, u1 = n := ⟨u1.toNat, by omega⟩
    obtain ⟨u2, rfl, rfl, rfl, wv2⟩ := open_int Tryd.underlying5 (hval 2 5 v2 rfl rfl) h2
    have wv2 : 0 ≤ u2 ∧ u2 ≤ 255 := by simpa [Lit.wf, show IntKind.u8.min = 0 from rfl, show IntKind.u8.max = 255 from rfl] using wv2
    obtain ⟨w2, rfl⟩ : ∃ n : Nat, u2 = n := ⟨u2.toNat, by omega⟩
    obtain ⟨s3, rfl⟩ := strN_arg (hval 3 9 v3 rfl rfl) h3
    exact blank_law hg s0 s3 w1 w2 (by omega) (by omega) _

theorem layoutBlank_holds : Rows.LayoutBlankSaid :=
  OpenClaim.holds_of_wide 5 Tryd.f5 rfl rfl rfl rfl rfl rfl rfl ⟨rfl, rfl, rfl, rfl, rfl⟩ rfl rfl rfl rfl rfl (by kernel_rfl) Tryd.func5 (by kernel_rfl)
    (of_decide_eq_true (by kernel_rfl)) (by unfold Func.isWrapper; rw [if_neg (by decide +kernel)]; exact ⟨rfl, rfl⟩)
    (fun os started H enc _ => layoutBlank_lifted os started H enc)

theorem layoutBlank_card : Rows.LayoutBlankCardSaid :=
  Claim7.holds_tied_plain_at .later [] [.data, .pinned] true (true, "b9765fc86d1e4d448ad88da12d04d90f4f19a7d8732339c92cb88d59864665f2") false
    layoutBlank_holds (fun _ h => by cases h) (by kernel_rfl) (fun _ h => by cases h) layoutBlank_row_tie rfl ⟨rfl, rfl⟩ (by kernel_rfl) rfl
    (fun f fn hf hfn => by
      obtain rfl : f = 5 := Option.some.inj ((show Tryd.prog.funcNamed "transputer/transputerlaw07.LayoutBlank" = some 5 by kernel_rfl).symm.trans hf) |>.symm
      obtain rfl : fn = Tryd.f5 := (Option.some.inj (Tryd.func5.symm.trans hfn)).symm
      exact ⟨by kernel_rfl, fun j t ht => by
        rw [Tryd.params5] at ht
        match j, ht with
        | 0, ht => cases ht; exact (show Tryd.prog.wantsStandIn 9 = false by kernel_rfl)
        | 1, ht => cases ht; exact (show Tryd.prog.wantsStandIn 37 = false by kernel_rfl)
        | 2, ht => cases ht; exact (show Tryd.prog.wantsStandIn 5 = false by kernel_rfl)
        | 3, ht => cases ht; exact (show Tryd.prog.wantsStandIn 9 = false by kernel_rfl)
        | j + 4, ht => simp at ht⟩)
    (by kernel_rfl)
end Go.Proofs.YtmffmpadfpajcaaDoor

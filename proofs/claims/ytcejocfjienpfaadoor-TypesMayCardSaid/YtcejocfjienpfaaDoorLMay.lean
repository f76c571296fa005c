/- TypesMay: the row, the card. -/
import Derived.Test.YtcejocfjienpfaaDoorTypW
import Derived.Test.YtcejocfjienpfaaDoorArgs
namespace Go.Proofs.YtcejocfjienpfaaDoor
open Go Go.Eng Go.RowKit Go.ChangeShapes Go.WideShapes Go.ChangeAt Go.Joins

set_option maxRecDepth 100000 in
theorem typesMay_lifted (os : Os) (started : os.Started) (H : Type) (enc : TypeId × Value → H) :
    ReturnsInHanded {} Tryd.checked os 9 .any (fun w args => (Rows.typesMaySpec.pre enc Tryd.prog Tryd.f9 [] false w args ∧ laidMet Tryd.prog [("transputer/types.primitive", Rows.laid_transputer_types_primitive)] w) ∧ sizedMet enc Tryd.prog Tryd.f9 (OpenSpec.ofChange Rows.typesMaySpec) false w args)
      (Rows.typesMaySpec.post enc Tryd.prog Tryd.f9 false true false false) := by
  refine returnsInHanded_laid (C := Tryd.checked) Tryd.own started (by kernel_rfl) Tryd.func9
    (ChangeSpec.witness_at (enc := enc) (C := Tryd.checked) (os := os) (X := fun w _ => laidMet Tryd.prog [("transputer/types.primitive", Rows.laid_transputer_types_primitive)] w) false (laidWorld os) #[.agg #[.int .u8 1, .int .i64 0, .int .u8 0, .string ⟨#[]⟩], .agg #[.int .u8 1, .int .i64 0, .int .u8 0, .string ⟨#[]⟩], .agg #[.bool false, .slice none 0 0]] 8 rfl (by kernel_rfl) (by kernel_rfl) (by kernel_rfl) (by kernel_rfl) (by kernel_rfl) (laidWorld_met os _)) ?_
  intro W base args ds gs before hval hW hsz hL hsh
  have hg := glob_of hL hsh
  refine law_post (C := Tryd.checked) Tryd.laidOut (by kernel_rfl) rfl rfl Tryd.underlying4 (fun ds hd => ?_) hW ?_
  · match ds, hd with
    | [d0, d1, d2], _ => rfl
  · obtain ⟨p, q, hA, hV, rfl, -, -⟩ := hW
    obtain ⟨rfl, rfl⟩ := trodVars_none (show DataW.TrodVars enc Tryd.prog W (fun _ => true) [] gs q from hV)
    rw [show Tryd.checked.prog = Tryd.prog from rfl, Tryd.params9] at hA hsz
    obtain ⟨v0, v1, v2, d0, d1, d2, p0, p1, p2, rfl, rfl, rfl, h0, h1, h2⟩ := trodAll_three hA
    obtain ⟨t, rfl, ht⟩ := ty_arg (hval 0 24 v0 rfl rfl) h0
    obtain ⟨u, rfl, _⟩ := ty_arg (hval 1 24 v1 rfl rfl) h1
    obtain ⟨b, a, k, c, l, rfl, hp⟩ := pr_arg (hval 2 43 v2 rfl rfl) h2
    exact may_law t u b a k c l _ _ hg ht hp

theorem typesMay_holds : Rows.TypesMaySaid :=
  OpenClaim.holds_of_wide 9 Tryd.f9 rfl rfl rfl rfl rfl rfl rfl ⟨rfl, rfl, rfl, rfl, rfl⟩ rfl rfl rfl rfl rfl (by kernel_rfl) Tryd.func9 (by kernel_rfl)
    (of_decide_eq_true (by kernel_rfl)) (by unfold Func.isWrapper; rw [if_neg (by decide +kernel)]; exact ⟨rfl, rfl⟩)
    (fun os started H enc _ => typesMay_lifted os started H enc)

theorem typesMay_card : Rows.TypesMayCardSaid :=
  Claim7.holds_tied_plain_at .later [] [.data] true (true, "d0d01f3987954ec29a890da96705553efb13c54b17273987649494d597297421") false
    typesMay_holds (fun _ h => by cases h) (by kernel_rfl) (fun _ h => by cases h) typesMay_row_tie rfl ⟨rfl, rfl⟩ (by kernel_rfl) rfl
    (fun f fn hf hfn => by
      obtain rfl : f = 9 := Option.some.inj ((show Tryd.prog.funcNamed "transputer/transputerlaw09.TypesMay" = some 9 by kernel_rfl).symm.trans hf) |>.symm
      obtain rfl : fn = Tryd.f9 := (Option.some.inj (Tryd.func9.symm.trans hfn)).symm
      exact ⟨by kernel_rfl, fun j t ht => by
        rw [Tryd.params9] at ht
        match j, ht with
        | 0, ht => cases ht; exact (show Tryd.prog.wantsStandIn 24 = false by kernel_rfl)
        | 1, ht => cases ht; exact (show Tryd.prog.wantsStandIn 24 = false by kernel_rfl)
        | 2, ht => cases ht; exact (show Tryd.prog.wantsStandIn 43 = false by kernel_rfl)
        | j + 3, ht => simp at ht⟩)
    (by kernel_rfl)
end Go.Proofs.YtcejocfjienpfaaDoor

/- TypesText: the row, the card. -/
import Derived.Test.YtcejocfjienpfaaDoorTypBe
import Derived.Test.YtcejocfjienpfaaDoorDoorT
namespace Go.Proofs.YtcejocfjienpfaaDoor
open Go Go.Eng Go.RowKit Go.ChangeShapes Go.WideShapes Go.ChangeAt Go.Joins

set_option maxRecDepth 100000 in
theorem typesText_lifted (os : Os) (started : os.Started) (H : Type) (enc : TypeId × Value → H) :
    ReturnsInHanded {} Tryd.checked os 10 .any (fun w args => (Rows.typesTextSpec.pre enc Tryd.prog Tryd.f10 [] false w args ∧ laidMet Tryd.prog laidL4 w) ∧ sizedMet enc Tryd.prog Tryd.f10 (OpenSpec.ofChange Rows.typesTextSpec) false w args)
      (Rows.typesTextSpec.post enc Tryd.prog Tryd.f10 false true false false) := by
  refine returnsInHanded_laid (C := Tryd.checked) Tryd.own started (by kernel_rfl) Tryd.func10
    (ChangeSpec.witness_at (enc := enc) (C := Tryd.checked) (os := os) (X := fun w _ => laidMet Tryd.prog laidL4 w) false (laidWorld4 os) #[.agg #[.int .u8 1, .int .i64 0, .int .u8 0, .string ⟨#[]⟩]] 8 rfl (by kernel_rfl) (by kernel_rfl) (by kernel_rfl) (by kernel_rfl) (by kernel_rfl) (laidWorld4_met os _)) ?_
  intro W base args ds gs before hval hW hsz hL hsh
  have hg := glob_of (four_of hL).2 hsh
  have hp := pow_of hL
  refine law_post (C := Tryd.checked) Tryd.laidOut (by kernel_rfl) rfl rfl Tryd.underlying4 (fun ds hd => ?_) hW ?_
  · match ds, hd with
    | [d0], _ => rfl
  · obtain ⟨p, q, hA, hV, rfl, -, -⟩ := hW
    obtain ⟨rfl, rfl⟩ := trodVars_none (show DataW.TrodVars enc Tryd.prog W (fun _ => true) [] gs q from hV)
    rw [show Tryd.checked.prog = Tryd.prog from rfl, Tryd.params10] at hA hsz
    obtain ⟨v0, d0, rfl, rfl, h0⟩ := trodAll_one hA
    obtain ⟨t, rfl, ht⟩ := ty_arg (hval 0 24 v0 rfl rfl) h0
    exact ttext_law t _ _ hg hp ht

theorem typesText_holds : Rows.TypesTextSaid :=
  OpenClaim.holds_of_wide 10 Tryd.f10 rfl rfl rfl rfl rfl rfl rfl ⟨rfl, rfl, rfl, rfl, rfl⟩ rfl rfl rfl rfl rfl (by kernel_rfl) Tryd.func10 (by kernel_rfl)
    (of_decide_eq_true (by kernel_rfl)) (by unfold Func.isWrapper; rw [if_neg (by decide +kernel)]; exact ⟨rfl, rfl⟩)
    (fun os started H enc _ => typesText_lifted os started H enc)

theorem typesText_card : Rows.TypesTextCardSaid :=
  Claim7.holds_tied_plain_at .later [] [.data, .data, .data, .data] true (true, "d0d01f3987954ec29a890da96705553efb13c54b17273987649494d597297421") false
    typesText_holds (fun _ h => by cases h) (by kernel_rfl) (fun _ h => by cases h) typesText_row_tie rfl ⟨rfl, rfl⟩ (by kernel_rfl) rfl
    (fun f fn hf hfn => by
      obtain rfl : f = 10 := Option.some.inj ((show Tryd.prog.funcNamed "transputer/transputerlaw09.TypesText" = some 10 by kernel_rfl).symm.trans hf) |>.symm
      obtain rfl : fn = Tryd.f10 := (Option.some.inj (Tryd.func10.symm.trans hfn)).symm
      exact ⟨by kernel_rfl, fun j t ht => by
        rw [Tryd.params10] at ht
        match j, ht with
        | 0, ht => cases ht; exact (show Tryd.prog.wantsStandIn 24 = false by kernel_rfl)
        | j + 1, ht => simp at ht⟩)
    (by kernel_rfl)
end Go.Proofs.YtcejocfjienpfaaDoor

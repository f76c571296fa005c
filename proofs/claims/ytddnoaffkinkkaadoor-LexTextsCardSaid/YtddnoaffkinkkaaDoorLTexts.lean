/- LexTexts: the row, the card. -/
import Derived.Test.YtddnoaffkinkkaaDoorLawD
import Derived.Test.YtddnoaffkinkkaaDoorArgL
namespace Go.Proofs.YtddnoaffkinkkaaDoor
open Go Go.Eng Go.RowKit Go.ChangeShapes Go.WideShapes Go.ChangeAt Go.Joins

set_option maxRecDepth 100000 in
theorem lexTexts_lifted (os : Os) (started : os.Started) (H : Type) (enc : TypeId × Value → H) :
    ReturnsInHanded {} Tryd.checked os 9 .any (fun w args => (Rows.lexTextsSpec.pre enc Tryd.prog Tryd.f9 [] false w args ∧ laidMet Tryd.prog laidL w) ∧ sizedMet enc Tryd.prog Tryd.f9 (OpenSpec.ofChange Rows.lexTextsSpec) false w args)
      (Rows.lexTextsSpec.post enc Tryd.prog Tryd.f9 false true false false) := by
  refine returnsInHanded_laid (C := Tryd.checked) Tryd.own started (by kernel_rfl) Tryd.func9
    (ChangeSpec.witness_at (enc := enc) (C := Tryd.checked) (os := os) (X := fun w _ => laidMet Tryd.prog laidL w) false (laidWorld os) #[.slice none 0 0] 8 rfl (by kernel_rfl) (by kernel_rfl) (by kernel_rfl) (by kernel_rfl) (by kernel_rfl) (laidWorld_met os _)) ?_
  intro W base args ds gs before hval hW hsz hL hsh
  have hg := glob_of hsh
  have hp := pow_of hL
  refine law_post (C := Tryd.checked) Tryd.laidOut (by kernel_rfl) rfl rfl Tryd.underlying4 (fun ds hd => ?_) hW ?_
  · match ds, hd with
    | [d0], _ => rfl
  · obtain ⟨p, q, hA, hV, rfl, -, -⟩ := hW
    obtain ⟨rfl, rfl⟩ := trodVars_none (show DataW.TrodVars enc Tryd.prog W (fun _ => true) [] gs q from hV)
    rw [show Tryd.checked.prog = Tryd.prog from rfl, Tryd.params9] at hA hsz
    obtain ⟨v0, d0, rfl, rfl, h0⟩ := trodAll_one hA
    obtain ⟨a, k, c, l, rfl, hr, hT⟩ := tksL_arg (hval 0 28 v0 rfl rfl) h0 (fun q hq => by simpa using List.all_eq_true.1 hsz q (DataW.weights_mem_each (j := 0) (t := 28) rfl rfl q hq))
    exact texts_law a k c l _ _ hg hp hr hT

theorem lexTexts_holds : Rows.LexTextsSaid :=
  OpenClaim.holds_of_wide 9 Tryd.f9 rfl rfl rfl rfl rfl rfl rfl ⟨rfl, rfl, rfl, rfl, rfl⟩ rfl rfl rfl rfl rfl (by kernel_rfl) Tryd.func9 (by kernel_rfl)
    (of_decide_eq_true (by kernel_rfl)) (by unfold Func.isWrapper; rw [if_neg (by decide +kernel)]; exact ⟨rfl, rfl⟩)
    (fun os started H enc _ => lexTexts_lifted os started H enc)

theorem lexTexts_card : Rows.LexTextsCardSaid :=
  Claim7.holds_tied_plain_at .later [] [.data, .data, .data] true (true, "b7c55aa46b0dca45eef43ba966711ddd4ad66d5e2c43dd9c90565c6102d45533") false
    lexTexts_holds (fun _ h => by cases h) (by kernel_rfl) (fun _ h => by cases h) lexTexts_row_tie rfl ⟨rfl, rfl⟩ (by kernel_rfl) rfl
    (fun f fn hf hfn => by
      obtain rfl : f = 9 := Option.some.inj ((show Tryd.prog.funcNamed "transputer/transputerlaw08.LexTexts" = some 9 by kernel_rfl).symm.trans hf) |>.symm
      obtain rfl : fn = Tryd.f9 := (Option.some.inj (Tryd.func9.symm.trans hfn)).symm
      exact ⟨by kernel_rfl, fun j t ht => by
        rw [Tryd.params9] at ht
        match j, ht with
        | 0, ht => cases ht; exact (show Tryd.prog.wantsStandIn 28 = false by kernel_rfl)
        | j + 1, ht => simp at ht⟩)
    (by kernel_rfl)
end Go.Proofs.YtddnoaffkinkkaaDoor

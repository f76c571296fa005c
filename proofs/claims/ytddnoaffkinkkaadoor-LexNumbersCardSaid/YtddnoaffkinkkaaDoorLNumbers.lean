/- LexNumbers: the row, the card. -/
import Derived.Test.YtddnoaffkinkkaaDoorLawN
import Derived.Test.YtddnoaffkinkkaaDoorDoorN
import Derived.Test.YtddnoaffkinkkaaDoorArgL
namespace Go.Proofs.YtddnoaffkinkkaaDoor
open Go Go.Eng Go.RowKit Go.ChangeShapes Go.WideShapes Go.ChangeAt Go.Joins

set_option maxRecDepth 100000 in
theorem lexNumbers_lifted (os : Os) (started : os.Started) (H : Type) (enc : TypeId × Value → H) :
    ReturnsInHanded {} Tryd.checked os 12 .any (fun w args => (Rows.lexNumbersSpec.pre enc Tryd.prog Tryd.f12 [] false w args ∧ laidMet Tryd.prog laidL5 w) ∧ sizedMet enc Tryd.prog Tryd.f12 (OpenSpec.ofChange Rows.lexNumbersSpec) false w args)
      (Rows.lexNumbersSpec.post enc Tryd.prog Tryd.f12 false true false false) := by
  refine returnsInHanded_laid (C := Tryd.checked) Tryd.own started (by kernel_rfl) Tryd.func12
    (ChangeSpec.witness_at (enc := enc) (C := Tryd.checked) (os := os) (X := fun w _ => laidMet Tryd.prog laidL5 w) false (laidWorld5 os) #[.int .i32 0, .int .u8 0] 8 rfl (by kernel_rfl) (by kernel_rfl) (by kernel_rfl) (by kernel_rfl) (by kernel_rfl) (laidWorld5_met os _)) ?_
  intro W base args ds gs before hval hW hsz hL hsh
  have hg := glob_of hsh
  have hp := pow_of5 hL
  refine law_post (C := Tryd.checked) Tryd.laidOut (by kernel_rfl) rfl rfl Tryd.underlying4 (fun ds hd => ?_) hW ?_
  · match ds, hd with
    | [d0, d1], _ => rfl
  · obtain ⟨p, q, hA, hV, rfl, -, -⟩ := hW
    obtain ⟨rfl, rfl⟩ := trodVars_none (show DataW.TrodVars enc Tryd.prog W (fun _ => true) [] gs q from hV)
    rw [show Tryd.checked.prog = Tryd.prog from rfl, Tryd.params12] at hA hsz
    obtain ⟨v0, v1, d0, d1, p0, p1, rfl, rfl, rfl, h0, h1⟩ := trodAll_two hA
    obtain ⟨v, rfl, rfl, rfl, wv0⟩ := open_int Tryd.underlying21 (hval 0 21 v0 rfl rfl) h0
    have wv0 : -2147483648 ≤ v ∧ v ≤ 2147483647 := by simp [Lit.wf] at wv0; exact wv0
    obtain ⟨u, rfl, rfl, rfl, wv1⟩ := open_int Tryd.underlying5 (hval 1 5 v1 rfl rfl) h1
    have wv1 : 0 ≤ u ∧ u ≤ 255 := by simpa [Lit.wf, show IntKind.u8.min = 0 from rfl, show IntKind.u8.max = 255 from rfl] using wv1
    obtain ⟨w1, rfl⟩ : ∃ n : Nat, u = n := ⟨u.toNat, by omega⟩
    exact numbers_law v w1 _ _ hg hp wv0 (by omega)

theorem lexNumbers_holds : Rows.LexNumbersSaid :=
  OpenClaim.holds_of_wide 12 Tryd.f12 rfl rfl rfl rfl rfl rfl rfl ⟨rfl, rfl, rfl, rfl, rfl⟩ rfl rfl rfl rfl rfl (by kernel_rfl) Tryd.func12 (by kernel_rfl)
    (of_decide_eq_true (by kernel_rfl)) (by unfold Func.isWrapper; rw [if_neg (by decide +kernel)]; exact ⟨rfl, rfl⟩)
    (fun os started H enc _ => lexNumbers_lifted os started H enc)

theorem lexNumbers_card : Rows.LexNumbersCardSaid :=
  Claim7.holds_tied_plain_at .later [] [.data, .data, .data, .data, .pinned] true (true, "b7c55aa46b0dca45eef43ba966711ddd4ad66d5e2c43dd9c90565c6102d45533") false
    lexNumbers_holds (fun _ h => by cases h) (by kernel_rfl) (fun _ h => by cases h) lexNumbers_row_tie rfl ⟨rfl, rfl⟩ (by kernel_rfl) rfl
    (fun f fn hf hfn => by
      obtain rfl : f = 12 := Option.some.inj ((show Tryd.prog.funcNamed "transputer/transputerlaw08.LexNumbers" = some 12 by kernel_rfl).symm.trans hf) |>.symm
      obtain rfl : fn = Tryd.f12 := (Option.some.inj (Tryd.func12.symm.trans hfn)).symm
      exact ⟨by kernel_rfl, fun j t ht => by
        rw [Tryd.params12] at ht
        match j, ht with
        | 0, ht => cases ht; exact (show Tryd.prog.wantsStandIn 21 = false by kernel_rfl)
        | 1, ht => cases ht; exact (show Tryd.prog.wantsStandIn 5 = false by kernel_rfl)
        | j + 2, ht => simp at ht⟩)
    (by kernel_rfl)
end Go.Proofs.YtddnoaffkinkkaaDoor

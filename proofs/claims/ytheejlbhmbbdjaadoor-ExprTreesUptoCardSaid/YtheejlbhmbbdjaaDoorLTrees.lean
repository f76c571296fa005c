/- ExprTrees: the second form's row, its card. -/
import Derived.Test.YtheejlbhmbbdjaaDoorLawU
import Derived.Test.YtheejlbhmbbdjaaDoorArgU
import Derived.Deep.DeepHandedRow
import Derived.OpenShut
namespace Go.Proofs.YtheejlbhmbbdjaaDoor
open Go Go.Eng Go.RowKit Go.ChangeShapes Go.WideShapes Go.ChangeAt Go.Joins
set_option maxRecDepth 100000
theorem laid_of {W : World} (h : laidMetH Tryd.prog Rows.exprTreesUptoRow.laid W) : laidMet Tryd.prog laidL W := by
  unfold laidMetH at h
  rw [show (Rows.exprTreesUptoRow.laid.filter fun x => x.2.handleName?.isSome) = [] by kernel_rfl] at h
  exact h
abbrev treesArgs : Array Value := #[.agg #[.int .u8 0, .int .u8 0, .int .u8 0, .int .i32 0, .string ⟨#[]⟩, .slice none 0 0], .agg #[.int .u8 0, .int .u8 0, .int .u8 0, .int .i32 0, .string ⟨#[]⟩, .slice none 0 0], .int .u8 0]
abbrev treeD {H : Type} : DataW H := .agg [.lit (.int .u8 0), .lit (.int .u8 0), .lit (.int .u8 0), .lit (.int .i32 0), .lit (.string []), .nil]
theorem trees_reads (os : Os) {H : Type} (enc : TypeId × Value → H) : ∃ places, DataW.whole enc Tryd.prog ((laidWorld os).forCall (fun _ _ => 0) ⟨#[], treesArgs, []⟩).memory Tryd.f8.params.toList Rows.exprTreesSpec.vars false treesArgs.toList 8 = some ([treeD, treeD, .lit (.int .u8 0)], [], places) :=
  ⟨[], by kernel_rfl⟩
theorem exprTrees_lifted (os : Os) (started : os.Started) (H : Type) (enc : TypeId × Value → H) (F : Stop.Interp) :
    ReturnsInHanded {} Tryd.checked os 8 .any ((Rows.OpenSpec.upto Rows.exprTreesSpec).preRow enc Tryd.prog Tryd.f8 Rows.exprTreesUptoRow.domain false Rows.exprTreesUptoRow.laid) (((Rows.OpenSpec.upto Rows.exprTreesSpec).at F).post enc Tryd.prog Tryd.f8 false true false false) := by
  obtain ⟨places, hx⟩ := trees_reads os enc
  refine returnsInHanded_of_row (C := Tryd.checked) (s := Rows.OpenSpec.upto Rows.exprTreesSpec) Tryd.own started (by kernel_rfl) Tryd.func8
    (witness_row_at (enc := enc) (C := Tryd.checked) false (laidWorld os) treesArgs rfl (by kernel_rfl) (by kernel_rfl) (by kernel_rfl)
      (OpenSpec.preRow_of_cond 8 hx (by kernel_rfl) (fun k hk => by cases hk; kernel_rfl) (by kernel_rfl) (laidWorld_met os _))) ?_
  intro W base args ds gs before hval hW _ hcond hsz hL hsh _
  have hg := glob_of hsh
  have hp := pow_of (laid_of hL)
  have hk := hcond _ rfl
  refine law_post (C := Tryd.checked) (s := Rows.exprTreesSpec) Tryd.laidOut (by kernel_rfl) rfl rfl Tryd.underlying4 (fun ds hd => ?_) hW ?_
  · match ds, hd with
    | [d0, d1, d2], _ => rfl
  · obtain ⟨p, q, hA, hV, rfl, -, -⟩ := hW
    obtain ⟨rfl, rfl⟩ := trodVars_none (show DataW.TrodVars enc Tryd.prog W (fun _ => true) [] gs q from hV)
    rw [show Tryd.checked.prog = Tryd.prog from rfl, Tryd.params8] at hA
    rw [Tryd.params8] at hsz
    obtain ⟨v0, v1, v2, d0, d1, d2, p0, p1, p2, rfl, rfl, rfl, h0, h1, h2⟩ := trodAll_three hA
    have hb : Rows.uptoBulk d0 ≤ 1048576 := by
      have := of_decide_eq_true hk
      simp only [List.cons_append, Rows.uptoBulkAll] at this
      omega
    obtain ⟨e0, rfl, ⟨hT0, hW0⟩, hc0⟩ := ex_argB (hval 0 27 v0 rfl rfl) h0 (fun q hq => by simpa using List.all_eq_true.1 hsz q (DataW.weights_mem_each (j := 0) (t := 27) rfl rfl q hq))
    obtain ⟨e1, rfl, hT1, _⟩ := ex_arg (hval 1 27 v1 rfl rfl) h1 (fun q hq => by simpa using List.all_eq_true.1 hsz q (DataW.weights_mem_each (j := 1) (t := 27) rfl rfl q hq))
    obtain ⟨o, rfl, rfl, rfl, wo⟩ := open_int Tryd.underlying5 (hval 2 5 v2 rfl rfl) h2
    have wo : 0 ≤ o ∧ o ≤ 255 := by simpa [Lit.wf, show IntKind.u8.min = 0 from rfl, show IntKind.u8.max = 255 from rfl] using wo
    exact trees_law hg hp e0 e1 o wo _ hT0 hW0 (by omega) hT1

theorem exprTrees_upto : Rows.ExprTreesUptoSaid :=
  OpenClaim.holds_of_cond 8 Tryd.f8 rfl rfl rfl rfl rfl rfl rfl ⟨rfl, rfl, rfl, rfl, rfl⟩ rfl rfl rfl rfl rfl (by kernel_rfl) Tryd.func8 (by kernel_rfl)
    (of_decide_eq_true (by kernel_rfl)) (by unfold Func.isWrapper; rw [if_neg (by decide +kernel)]; exact ⟨rfl, rfl⟩)
    (fun os started H enc _ F => by rw [OpenClaim.pre_eq_preRow]; exact exprTrees_lifted os started H enc F)

theorem exprTrees_card : Rows.ExprTreesUptoCardSaid :=
  Claim7.holds_tied_plain_at .later [] [.data, .data, .data] true (true, "f64da822ffe4fcdbf724820a1ce0250204f81b294bb949ce8221ab49e0a6bbce") true
    exprTrees_upto (fun _ h => by cases h) (by kernel_rfl) (fun _ h => by cases h) exprTreesUpto_row_tie rfl ⟨rfl, rfl⟩ (by kernel_rfl) rfl
    (fun f fn hf hfn => by
      obtain rfl : f = 8 := Option.some.inj ((show Tryd.prog.funcNamed "transputer/transputerlaw10.ExprTrees" = some 8 by kernel_rfl).symm.trans hf) |>.symm
      obtain rfl : fn = Tryd.f8 := (Option.some.inj (Tryd.func8.symm.trans hfn)).symm
      exact ⟨by kernel_rfl, fun j t ht => by
        rw [Tryd.params8] at ht
        match j, ht with
        | 0, ht => cases ht; exact (show Tryd.prog.wantsStandIn 27 = false by kernel_rfl)
        | 1, ht => cases ht; exact (show Tryd.prog.wantsStandIn 27 = false by kernel_rfl)
        | 2, ht => cases ht; exact (show Tryd.prog.wantsStandIn 5 = false by kernel_rfl)
        | j + 3, ht => simp at ht⟩)
    (by kernel_rfl)
end Go.Proofs.YtheejlbhmbbdjaaDoor

/- Print of package syntax returns the rows and the error of the reference's Print, for any process: the row's statement, with its conditions. -/
import Derived.Test.YtkgfanibfkdbfaaGreatDoorLPrintsY10
set_option maxRecDepth 100000
set_option maxHeartbeats 4000000
namespace Go.Proofs.YtkgfanibfkdbfaaGreatDoor
section
open Go Go.Eng Go.RowKit Go.ChangeShapes Go.WideShapes Go.ChangeAt Go.Joins
theorem syntaxPrints_card:Rows.SyntaxPrintsCardSaid:=
 Claim7.holds_tied_plain_at .later [] [.data, .data, .data, .data, .data, .data, .data, .data, .pinned] true (true, "97b8de6d04441609292d0493cff9ca4ceac1f2b1aff1c22c045477d64386a9bb") true
  syntaxPrints_holds (λ_ h=>by cases h) (by kernel_rfl) (λ_ h=>by cases h) syntaxPrints_row_tie rfl ⟨rfl,rfl⟩ (by kernel_rfl) rfl
  (λf fn hf hfn=>by
   obtain rfl : f = 3 := Option.some.inj ((show Tryz.prog.funcNamed "transputer/transputerlaw11.SyntaxPrints" = some 3 by kernel_rfl).symm.trans hf) |>.symm
   obtain rfl:fn=Tryz.f3:=(Option.some.inj (Tryz.func3.symm.trans hfn)).symm;exact⟨by kernel_rfl,λj t ht=>by
    rw[Tryz.params3]at ht;match j,ht with
    |0,ht=>cases ht;exact(show Tryz.prog.wantsStandIn 45=false by kernel_rfl)
    |j+1,ht=>simp at ht⟩)
  a6L
end
end Go.Proofs.YtkgfanibfkdbfaaGreatDoor

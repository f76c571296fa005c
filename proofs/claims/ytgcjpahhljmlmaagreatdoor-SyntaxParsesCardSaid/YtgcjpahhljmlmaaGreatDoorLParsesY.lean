/- Parse of package syntax returns the process, the row and the error of the reference's Parse, for any rows: the row's statement, with its conditions. -/
import Derived.Test.YtgcjpahhljmlmaaGreatDoorLParsesY11
set_option maxRecDepth 100000
set_option maxHeartbeats 4000000
namespace Go.Proofs.YtgcjpahhljmlmaaGreatDoor
section
open Go Go.Eng Go.RowKit Go.ChangeShapes Go.WideShapes Go.ChangeAt Go.Joins
theorem syntaxParses_card:Rows.SyntaxParsesCardSaid:=
 Claim7.holds_tied_plain_at .later [] [.data, .data, .data, .data, .data, .data, .data, .data, .pinned] true (true, "040655ff73a696869411cd5a9994eb6a1c5182f2dd6a783e0885c994552f7eb4") true
  syntaxParses_holds (λ_ h=>by cases h) (by kernel_rfl) (λ_ h=>by cases h) syntaxParses_row_tie rfl ⟨rfl,rfl⟩ (by kernel_rfl) rfl
  (λf fn hf hfn=>by
   obtain rfl : f = 3 := qM ((show Tryz.prog.funcNamed "transputer/transputerlaw11.SyntaxParses" = some 3 by kernel_rfl).symm.trans hf) |>.symm
   obtain rfl:fn=Tryz.f3:=(qM (Tryz.func3.symm.trans hfn)).symm;exact⟨by kernel_rfl,λj t ht=>by
    rw[Tryz.params3]at ht;match j,ht with
    |0,ht=>cases ht;exact(show Tryz.prog.wantsStandIn 22=false by kernel_rfl)
    |j+1,ht=>simp at ht⟩)
  a6N
end
end Go.Proofs.YtgcjpahhljmlmaaGreatDoor

import Derived.Test.YtgcjpahhljmlmaaGreatDoorLParsesY10
set_option maxRecDepth 100000
set_option maxHeartbeats 4000000
namespace Go.Proofs.YtgcjpahhljmlmaaGreatDoor
section
open Go Go.Eng Go.RowKit Go.ChangeShapes Go.WideShapes Go.ChangeAt Go.Joins
theorem a6N:false=Rows.syntaxParsesRow.goesBy Tryz.pinned.checked.prog:=by kernel_rfl
end
end Go.Proofs.YtgcjpahhljmlmaaGreatDoor

/- types: the laws' examples. -/
import Derived.Test.YtcejocfjienpfaaDoorTypQ
import Derived.KernelRfl
namespace Go.Ty
open Go.Lx
set_option maxRecDepth 100000
def tH : Ty := ⟨4, 3, 2, []⟩
def lH : List Tok := (tokens tH).1
def l4 : List Tok := [keyT cCHAN, keyT cOF, keyT cTIMER]
def cPUT : B := [112, 117, 116]
def cSTOP : B := [115, 116, 111, 112]
def lV (b : Nat) : List Vr := [⟨cPUT, some ⟨b, 0, none⟩, 1, 1, [1]⟩, ⟨cSTOP, none, 0, 0, []⟩]
theorem lH_len : lH.length = 6 := by decide +kernel
theorem lH_ok : TkOk lH := by unfold TkOk; decide +kernel
theorem l4_ok : TkOk l4 := by unfold TkOk; decide +kernel
theorem bad_put (b : Nat) : badV [] ⟨cPUT, some ⟨b, 0, none⟩, 1, 1, [1]⟩ = false := by
  unfold badV
  rw [show name cPUT = true by decide +kernel, show itemsB [1] 0 = true by decide +kernel]
  rfl
theorem bad_stop (v : Vr) (h : v.tag = cPUT) : badV [v] ⟨cSTOP, none, 0, 0, []⟩ = false := by
  unfold badV tagIn
  rw [show name cSTOP = true by decide +kernel, show itemsB [] 0 = true by decide +kernel]
  simp [h]
  decide
theorem mp_head (b : Nat) : mayPr true (lV b) = true := by
  unfold mayPr lV mayIn
  rw [bad_put]
  unfold mayIn
  rw [List.nil_append, bad_stop _ rfl]
  rfl
theorem fd_head (b : Nat) : findW true (lV b) cSTOP = (⟨cSTOP, none, 0, 0, []⟩, 1, true) := by
  refine findW_some (mp_head b) ?_
  unfold lV findV
  rw [show ((cPUT : B) == cSTOP) = false by decide]
  rfl
end Go.Ty

/- types: the tokens of a type. -/
import Derived.Test.YtcejocfjienpfaaDoorTypM
namespace Go.Ty
open Go.Lx
def cCHAN : B := [67, 72, 65, 78]
def cOF : B := [79, 70]
def cTIMER : B := [84, 73, 77, 69, 82]
def lb : B := [91]
def rb : B := [93]
def symT (s : B) : Tok := ⟨5, 0, s, 0⟩
def keyT (s : B) : Tok := ⟨2, 0, s, 0⟩
def dimT (t : Ty) : List Tok := if decide (t.dim > 0) then [symT lb, ⟨3, 0, [], t.dim⟩, symT rb] else []
def chanT (t : Ty) : List Tok := if t.kind == 4 then [keyT cCHAN, keyT cOF] else []
def baseT (t : Ty) : Int := if t.kind == 4 then t.item else t.kind
def lastT (t : Ty) : Tok := if (wordS (baseT t)).2.2 then keyT (wordS (baseT t)).1 else if !(t.proto == []) then ⟨1, 0, t.proto, 0⟩ else keyT cTIMER
def toks (t : Ty) : List Tok := dimT t ++ chanT t ++ [lastT t]
def tokens (t : Ty) : List Tok × Int := if may t then (toks t, 0) else ([], 2)
theorem tokens_no {t : Ty} (h : may t = false) : tokens t = ([], 2) := by unfold tokens; rw [h]; rfl
theorem tokens_yes {t : Ty} (h : may t = true) : tokens t = (toks t, 0) := by unfold tokens; rw [h]; rfl
theorem dimT_le (t : Ty) : (dimT t).length ≤ 3 := by unfold dimT; split <;> simp
theorem chanT_le (t : Ty) : (chanT t).length ≤ 2 := by unfold chanT; split <;> simp
theorem may_dim {t : Ty} (h : may t = true) : 0 ≤ t.dim ∧ t.dim ≤ 64 := by
  unfold may at h
  split at h
  · cases h
  · rename_i hf
    unfold far at hf
    simp at hf
    omega
theorem wrap_dim {t : Ty} (h : may t = true) : IntKind.i32.wrap t.dim = t.dim := by
  have := may_dim h
  unfold IntKind.wrap
  simp [IntKind.bits, IntKind.signed]
  omega
end Go.Ty

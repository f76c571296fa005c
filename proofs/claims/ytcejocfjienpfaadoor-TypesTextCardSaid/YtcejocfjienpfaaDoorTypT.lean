/- types: the reference's tokens are the program's. -/
import Derived.Test.YtcejocfjienpfaaDoorTypQ
namespace Go.Ty
open Go.Lx
def wordR (k : Int) : B := if k == 1 then wINT else if k == 2 then wBYTE else wBOOL
theorem wordR_eq {k : Int} (h : is k = true) : (wordS k).1 = wordR k := by
  rw [is_eq] at h
  unfold prim at h
  simp at h
  rcases h with (rfl | rfl) | rfl <;> rfl
theorem toks_timer {t : Ty} (h : may t = true) (h5 : (t.kind == 5) = true) : dimT t ++ [keyT cTIMER] = toks t := by
  have e : t.kind = 5 := by simpa using h5
  have e2 : eqT t timer = true := by
    unfold may at h
    split at h
    · cases h
    · rw [e] at h
      exact h
  rw [eqT_iff] at e2
  subst e2
  rfl
theorem toks_plain {t : Ty} (h : may t = true) (h5 : (t.kind == 5) = false) (h4 : (t.kind != 4) = true) : dimT t ++ [keyT (wordR t.kind)] = toks t := by
  have hk : is t.kind = true := by
    unfold may at h
    split at h
    · cases h
    · split at h
      · assumption
      · rw [eqT_iff] at h
        subst h
        cases h5
  have h4' : (t.kind == 4) = false := by simpa using h4
  unfold toks chanT lastT baseT
  rw [h4']
  simp only [Bool.false_eq_true, if_false, List.append_nil]
  have hk' : (wordS t.kind).2.2 = true := hk
  rw [hk', if_pos rfl, wordR_eq hk]
theorem may_chan {t : Ty} (h : may t = true) (h4 : (t.kind != 4) = false) : (t.item = 0 ∧ name t.proto = true) ∨ (is t.item = true ∧ t.proto = []) := by
  have h4' : t.kind = 4 := by simpa using h4
  unfold may at h
  split at h
  · cases h
  · rw [h4'] at h
    rw [if_neg (by decide), if_neg (by decide)] at h
    split at h
    · rename_i h0; exact .inl ⟨by simpa using h0, h⟩
    · simp at h; exact .inr h
theorem toks_proto {t : Ty} (h : may t = true) (h4 : (t.kind != 4) = false) (hp : (!(t.proto == [])) = true) : dimT t ++ [keyT cCHAN, keyT cOF] ++ [⟨1, 0, t.proto, 0⟩] = toks t := by
  have h4' : (t.kind == 4) = true := by simpa using h4
  rcases may_chan h h4 with ⟨h0, _⟩ | ⟨_, h0⟩
  · unfold toks chanT lastT baseT
    rw [h4', h0, hp]
    rfl
  · rw [h0] at hp; cases hp
theorem toks_item {t : Ty} (h : may t = true) (h4 : (t.kind != 4) = false) (hp : (!(t.proto == [])) = false) : dimT t ++ [keyT cCHAN, keyT cOF] ++ [keyT (wordR t.item)] = toks t := by
  have h4' : (t.kind == 4) = true := by simpa using h4
  rcases may_chan h h4 with ⟨_, h0⟩ | ⟨hi, _⟩
  · have : t.proto = [] := by simpa using hp
    rw [this] at h0
    cases h0
  · have hi' : (wordS t.item).2.2 = true := hi
    unfold toks chanT lastT baseT
    rw [h4', if_pos rfl, if_pos rfl, hi', if_pos rfl, wordR_eq hi]
end Go.Ty

/- lex: spaces put in, plain. -/
import Derived.Test.YtddnoaffkinkkaaDoorLexWb
import Derived.Lib.Repeat
import Derived.Lib.TrimByte
namespace Go.Lx
open Go.Ty
theorem shift_zero (l : List Tok) : l.map (shiftT 0) = l := by
  induction l with
  | nil => rfl
  | cons t l ih =>
    rw [List.map_cons, ih]
    congr 1
    show ({ t with at_ := t.at_ + ((0 : Nat) : Int) } : Tok) = t
    simp
theorem wide_ok {s : B} {l : List Tok} (hx : lx s 0 = .ok l) {i k : Nat} (hi : i ≤ l.length) (hk : k = startAt l i 0 s.length) (n : Nat) : lx (s.take k ++ List.replicate n 32 ++ s.drop k) 0 = .ok (l.take i ++ (l.drop i).map (shiftT n)) := by
  cases n with
  | zero =>
    rw [shift_zero, List.take_append_drop, List.replicate_zero, List.append_nil, List.take_append_drop]
    exact hx
  | succ n =>
    subst hk
    rw [List.append_assoc]
    exact lx_wide n s 0 l hx i hi
theorem wide_same (l : List Tok) (i n : Nat) : Eng.eqL sameT l (l.take i ++ (l.drop i).map (shiftT n)) = true := by
  have h := eqL_app sameT (l.drop i) ((l.drop i).map (shiftT n)) (same_self (l.take i))
  rw [List.take_append_drop] at h
  rw [h]
  exact (same_shift n _).2
theorem wide_at {l : List Tok} {i n j : Nat} {x : Tok} (hx : l[j]? = some x) : ∃ y, (l.take i ++ (l.drop i).map (shiftT n))[j]? = some y ∧ y.at_ = if j < i then x.at_ else x.at_ + n := by
  have hj : j < l.length := (List.getElem?_eq_some_iff.1 hx).1
  by_cases h : j < i
  · refine ⟨x, ?_, by rw [if_pos h]⟩
    rw [List.getElem?_append_left (by rw [List.length_take]; omega), List.getElem?_take_of_lt h]
    exact hx
  · refine ⟨shiftT n x, ?_, by rw [if_neg h]; rfl⟩
    rw [List.getElem?_append_right (by rw [List.length_take]; omega), List.getElem?_map, List.getElem?_drop, List.length_take, Nat.min_eq_left (by omega), show i + (j - i) = j by omega, hx]
    rfl
theorem rep_one (c : UInt8) : ∀ n, Lib.repeatL [c] n = List.replicate n c
  | 0 => rfl
  | n + 1 => by
    show [c] ++ Lib.repeatL [c] n = _
    rw [rep_one c n]
    rfl
end Go.Lx

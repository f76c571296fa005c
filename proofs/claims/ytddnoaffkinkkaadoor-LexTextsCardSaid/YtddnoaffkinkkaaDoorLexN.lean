/- lex: the text as the reference writes it, plain. -/
import Derived.Test.YtddnoaffkinkkaaDoorLexWb
namespace Go.Lx
open Go.Ty
set_option maxRecDepth 100000
/-- The last digits of a number. -/
def low (b u : Nat) : Nat → B
  | 0 => []
  | i + 1 => capitalB.getD (u / b ^ i % b) 0 :: low b u i
theorem low_hex (u : Nat) : ∀ i, low 16 u i = hexDig u i
  | 0 => rfl
  | i + 1 => by rw [hexDig_app, ← low_hex u i]; rfl
theorem low_snoc (b u : Nat) : ∀ i, low b u (i + 1) = low b (u / b) i ++ [capitalB.getD (u % b) 0]
  | 0 => by simp [low]
  | i + 1 => by
    have ih := low_snoc b u i
    show capitalB.getD (u / b ^ (i + 1) % b) 0 :: low b u (i + 1) = _
    rw [ih]
    show _ = (capitalB.getD (u / b / b ^ i % b) 0 :: low b (u / b) i) ++ _
    rw [Nat.div_div_eq_div_mul, ← Nat.pow_succ']
    rfl
theorem cap_dec : ∀ d, d < 10 → capitalB.getD d 0 = UInt8.ofNat (48 + d) := by decide +kernel
theorem low_dec : ∀ (i u : Nat), u / 10 ^ (i + 1) = 0 → (i = 0 ∨ 0 < u / 10 ^ i) → low 10 u (i + 1) = Lib.decDigits u
  | 0, u, h, _ => by
    have h10 : u < 10 := by
      rcases Nat.lt_or_ge u 10 with h1 | h1
      · exact h1
      · have := Nat.div_pos h1 (by decide); simp at h; omega
    rw [low_snoc]
    unfold Lib.decDigits
    rw [dif_pos h10, Nat.mod_eq_of_lt h10, cap_dec u h10]
    rfl
  | i + 1, u, h, h0 => by
    have hu : 10 ≤ u := by
      rcases Nat.lt_or_ge u 10 with h1 | h1
      · rcases h0 with h0 | h0
        · omega
        · have h10 : 10 ≤ 10 ^ (i + 1) := by rw [Nat.pow_succ]; have := Nat.one_le_pow i 10 (by decide); omega
          rw [Nat.div_eq_of_lt (by omega)] at h0
          omega
      · exact h1
    rw [low_snoc]
    unfold Lib.decDigits
    rw [dif_neg (by omega), cap_dec _ (Nat.mod_lt _ (by decide)), low_dec i (u / 10) ?_ ?_]
    · rw [Nat.div_div_eq_div_mul, ← Nat.pow_succ']; exact h
    · rcases h0 with h0 | h0
      · omega
      · right
        rw [Nat.div_div_eq_div_mul, ← Nat.pow_succ']
        exact h0
/- characters -/
theorem shI_no : ∀ v, v < 256 → (v == 13 || v == 10 || v == 9 || v == 39 || v == 42 || decide (shI v < 0)) = true := by decide +kernel
theorem shown_of {v : Nat} (hv : v < 256) (h : v ≠ 13 ∧ v ≠ 10 ∧ v ≠ 9 ∧ v ≠ 39 ∧ v ≠ 42) : shownP v = if decide ((v : Int) < 32) || decide ((v : Int) > 126) then [42, 35, capitalB.getD (v / 16) 0, capitalB.getD (v % 16) 0] else [UInt8.ofNat v] := by
  have := shI_no v hv
  simp [h] at this
  unfold shownP
  rw [if_neg (by simp; omega)]
/- near -/
def isOpen (t : Tok) : Bool := (t.kind == 5) && ((t.text == [40]) || (t.text == [91]))
def isClose (t : Tok) : Bool := (t.kind == 5) && ((t.text == [44]) || (t.text == [59]) || (t.text == [58]) || (t.text == [41]) || (t.text == [93]))
theorem open_syms : ∀ s ∈ symsL, Lib.contains openB s = ((s == [40]) || (s == [91])) := by decide +kernel
theorem close_syms : ∀ s ∈ symsL, Lib.contains closeB s = ((s == [44]) || (s == [59]) || (s == [58]) || (s == [41]) || (s == [93])) := by decide +kernel
theorem may_syms {t : Tok} (h : mayK t = true) (hk : (t.kind == 5) = true) : t.text ∈ symsL := by
  have hk : t.kind = 5 := by simpa using hk
  rcases may_cases h with ⟨h1, _⟩ | ⟨h1, _⟩ | ⟨_, _, h3⟩ | ⟨h1, _⟩ | ⟨h1, _⟩
  · omega
  · omega
  · exact (among_iff _ _).1 (by rw [sym_eq] at h3; exact h3)
  · omega
  · omega
theorem among_open {t : Tok} (h : mayK t = true) : amongT t openB = isOpen t := by
  unfold amongT isOpen
  cases hk : t.kind == 5 with
  | false => rfl
  | true => rw [open_syms _ (may_syms h hk)]
theorem among_close {t : Tok} (h : mayK t = true) : amongT t closeB = isClose t := by
  unfold amongT isClose
  cases hk : t.kind == 5 with
  | false => rfl
  | true => rw [close_syms _ (may_syms h hk)]
def nearR (a b : Tok) : Bool := if isOpen b && (a.kind == 1) then true else if isOpen a then true else isClose b
theorem near_eq {a b : Tok} (ha : mayK a = true) (hb : mayK b = true) : nearR a b = !gap a b := by
  unfold nearR gap
  rw [among_open ha, among_open hb, among_close hb, bne]
  cases isOpen a <;> cases isOpen b <;> cases isClose b <;> cases a.kind == 1 <;> rfl
end Go.Lx

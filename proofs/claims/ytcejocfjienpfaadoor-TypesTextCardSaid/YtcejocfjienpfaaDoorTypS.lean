/- types: the values of a kind: the program's are the reference's. -/
import Derived.Test.YtcejocfjienpfaaDoorTypR
namespace Go.Ty
open Go.Lx
theorem fit_byte (v : Int) (h : -2147483648 ≤ v ∧ v ≤ 2147483647) : (v == IntKind.i32.wrap (IntKind.u8.wrap v)) = (decide (v ≥ 0) && decide (v ≤ 255)) := by
  rw [Bool.eq_iff_iff]
  unfold IntKind.wrap
  simp [IntKind.bits, IntKind.signed]
  omega
theorem or_one (a : Nat) : a ||| 1 = 2 * (a / 2) + 1 := by
  have h1 : (a ||| 1) / 2 = a / 2 := by rw [Nat.or_div_two]; simp
  have h2 : (a ||| 1) % 2 = 1 := by rw [Nat.or_mod_two_eq_one]; simp
  omega
theorem fit_bool (v : Int) (h : -2147483648 ≤ v ∧ v ≤ 2147483647) : (Eng.bor .i32 v 1 == 1) = ((v == 0) || (v == 1)) := by
  have e : (BitVec.ofInt 32 v ||| BitVec.ofInt 32 1).toNat = 2 * ((v % 4294967296).toNat / 2) + 1 := by
    rw [BitVec.toNat_or, show (BitVec.ofInt 32 1).toNat = 1 from rfl, or_one, BitVec.toNat_ofInt]
    rfl
  rw [Bool.eq_iff_iff]
  unfold Eng.bor
  rw [show IntKind.i32.bits = 32 from rfl, e]
  unfold IntKind.wrap
  simp [IntKind.bits, IntKind.signed]
  omega
theorem fits_eq (k v : Int) (h : -2147483648 ≤ v ∧ v ≤ 2147483647) : fits k v = fitsR k v := by
  unfold fits fitsR
  rw [fit_byte v h, fit_bool v h]
  by_cases h1 : k = 1
  · subst h1; rfl
  · by_cases h2 : k = 2
    · subst h2; rfl
    · have e1 : (k == 1) = false := by simpa using h1
      have e2 : (k == 2) = false := by simpa using h2
      rw [e1, e2]
      rfl
end Go.Ty

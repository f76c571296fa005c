/- serial: the plain laws of link ends. -/
import Derived.Test.YtoeghfpkpppchaaSerM
namespace Go.Ser
open Go Go.Eng

theorem lowN_cons (x n : Nat) : lowN x (n + 1) = ((x % 2 : Nat) : Int) :: lowN (x / 2) n := by
  simp only [lowN, List.range_succ_eq_map, List.map_cons, List.map_map, Nat.pow_zero, Nat.div_one]
  congr 1
  apply List.map_congr_left
  intro i _
  simp only [Function.comp, Nat.pow_succ, Nat.div_div_eq_div_mul]
  rw [Nat.mul_comm 2]
theorem lowN_get {x n i : Nat} (h : i < n) : (lowN x n)[i]? = some ((x / 2 ^ i % 2 : Nat) : Int) := by
  simp [lowN, h]
theorem lowN_drop1 (x n : Nat) : (lowN x n).drop 1 = lowN (x / 2) (n - 1) := by
  cases n with
  | zero => rfl
  | succ n => rw [lowN_cons]; rfl
theorem numL_low (n : Nat) : ∀ x : Nat, numL (lowN x n) = BitVec.ofNat 16 (x % 2 ^ n) := by
  induction n with
  | zero => intro x; simp [lowN, numL, Nat.mod_one]
  | succ n ih =>
    intro x
    rw [lowN_cons, numL, ih]
    apply BitVec.eq_of_toNat_eq
    rw [Nat.pow_succ, Nat.mul_comm, Nat.mod_mul]
    simp only [BitVec.toNat_add, BitVec.toNat_mul, BitVec.toNat_ofInt, BitVec.toNat_ofNat]
    generalize x / 2 % 2 ^ n = q
    omega
theorem numL_low_self {b : BitVec 16} {n : Nat} : numL (lowN b.toNat n) = b ↔ b.toNat < 2 ^ n := by
  rw [numL_low]
  constructor
  · intro h
    have h1 := congrArg BitVec.toNat h
    rw [BitVec.toNat_ofNat] at h1
    have h2 : b.toNat % 2 ^ n < 2 ^ n := Nat.mod_lt _ (Nat.two_pow_pos n)
    have h3 := Nat.mod_le (b.toNat % 2 ^ n) (2 ^ 16)
    omega
  · intro h
    rw [Nat.mod_eq_of_lt h, BitVec.ofNat_toNat, BitVec.setWidth_eq]

theorem shr_zero (b : BitVec 16) (n : Nat) : (b >>> n == 0#16) = decide (b.toNat < 2 ^ n) := by
  rw [Bool.eq_iff_iff, beq_iff_eq, decide_eq_true_eq, ← BitVec.toNat_inj, BitVec.toNat_ushiftRight, Nat.shiftRight_eq_div_pow]
  show b.toNat / 2 ^ n = 0 ↔ _
  rw [Nat.div_eq_zero_iff]
  have := Nat.two_pow_pos n
  omega
theorem and1 (b : BitVec 16) : (b &&& 1#16).toNat = b.toNat % 2 := by
  rw [BitVec.toNat_and]; exact Nat.and_one_is_mod _
theorem and3 (b : BitVec 16) : (b &&& 3#16).toNat = b.toNat % 4 := by
  rw [BitVec.toNat_and]; exact Nat.and_two_pow_sub_one_eq_mod b.toNat 2
theorem and1_eq (b : BitVec 16) : (b &&& 1#16 == 1#16) = decide (b.toNat % 2 = 1) := by
  rw [Bool.eq_iff_iff, beq_iff_eq, decide_eq_true_eq, ← BitVec.toNat_inj, and1]; exact Iff.rfl
theorem and3_eq (b : BitVec 16) (k : Nat) (hk : k < 4) : (b &&& 3#16 == BitVec.ofNat 16 k) = decide (b.toNat % 4 = k) := by
  have e : (BitVec.ofNat 16 k).toNat = k := by rw [BitVec.toNat_ofNat]; omega
  rw [Bool.eq_iff_iff, beq_iff_eq, decide_eq_true_eq, ← BitVec.toNat_inj, and3, e]

theorem ten {n : Int} (h0 : 0 ≤ n) (h1 : n ≤ 10) : n = 0 ∨ n = 1 ∨ n = 2 ∨ n = 3 ∨ n = 4 ∨ n = 5 ∨ n = 6 ∨ n = 7 ∨ n = 8 ∨ n = 9 ∨ n = 10 := by omega
theorem ends_iff (b : BitVec 16) (n : Int) : ends b n = true ↔ 0 ≤ n ∧ n ≤ 10 ∧ b.toNat < 2 ^ n.toNat ∧ (0 < n → b.toNat / 2 ^ (n - 1).toNat % 2 = 0) ∧ (n = 10 → b.toNat % 2 = 1) := by
  by_cases hn : 0 ≤ n ∧ n ≤ 10
  · have e1 : decide (n < 0) = false := by simp; omega
    have e2 : decide (n ≥ 11) = false := by simp; omega
    unfold ends
    rw [e1, e2, bne, shr_zero, shr_zero, and1_eq]
    obtain ⟨h0, h1⟩ := hn
    rcases ten h0 h1 with rfl | rfl | rfl | rfl | rfl | rfl | rfl | rfl | rfl | rfl | rfl <;> simp <;> omega
  · constructor
    · intro h
      exfalso
      unfold ends at h
      rw [if_pos (by simp; omega)] at h
      cases h
    · intro h; omega
theorem begins_iff (b : BitVec 16) (n : Int) : begins b n = true ↔ 0 ≤ n ∧ n ≤ 10 ∧ b.toNat < 2 ^ n.toNat ∧ (0 < n → b.toNat % 2 = 1) ∧ (1 < n → b.toNat / 2 % 2 = 1) := by
  by_cases hn : 0 ≤ n ∧ n ≤ 10
  · unfold begins
    rw [shr_zero]
    obtain ⟨h0, h1⟩ := hn
    rcases ten h0 h1 with rfl | rfl | rfl | rfl | rfl | rfl | rfl | rfl | rfl | rfl | rfl
    · have := and3_eq b 0 (by omega)
      simp [this]; omega
    · have := and3_eq b 1 (by omega)
      simp [this]; omega
    all_goals
      have := and3_eq b 3 (by omega)
      simp [this]; omega
  · constructor
    · intro h; simp [begins] at h; omega
    · intro h; omega

/-- The reference's way to see whether a link end exists. -/
def mayR (s : Ser) : Bool :=
  if decide (s.tl < 0) || decide (s.tl > 10) || decide (s.rl < 0) || decide (s.rl > 10) || (!s.data && (s.by_ != 0#8)) then false
  else if (numL (lowN s.tb.toNat s.tl.toNat) != s.tb) || (numL (lowN s.rb.toNat s.rl.toNat) != s.rb) then false
  else if (decide (s.tl > 0) && (((s.tb.toNat / 2 ^ (s.tl - 1).toNat % 2 : Nat) : Int) != 0)) || ((s.tl == 10) && (((s.tb.toNat / 2 ^ 0 % 2 : Nat) : Int) != 1)) then false
  else !(decide (s.rl > 0) && (((s.rb.toNat / 2 ^ 0 % 2 : Nat) : Int) != 1)) && !(decide (s.rl > 1) && (((s.rb.toNat / 2 ^ 1 % 2 : Nat) : Int) != 1))
theorem mayR_eq (s : Ser) : mayR s = may s := by
  rw [Bool.eq_iff_iff]
  have h1 := ends_iff s.tb s.tl
  have h2 := begins_iff s.rb s.rl
  have h3 := @numL_low_self s.tb s.tl.toNat
  have h4 := @numL_low_self s.rb s.rl.toNat
  unfold mayR may
  rw [Bool.and_eq_true, Bool.and_eq_true, h1, h2]
  generalize s.tb.toNat / 2 ^ (s.tl - 1).toNat = q at *
  by_cases g1 : decide (s.tl < 0) || decide (s.tl > 10) || decide (s.rl < 0) || decide (s.rl > 10) || (!s.data && (s.by_ != 0#8))
  · rw [if_pos g1]
    cases hd : s.data <;> by_cases hb : s.by_ = 0#8 <;> simp [hd, hb] at g1 ⊢ <;> omega
  · rw [if_neg g1]
    by_cases g2 : (numL (lowN s.tb.toNat s.tl.toNat) != s.tb) || (numL (lowN s.rb.toNat s.rl.toNat) != s.rb)
    · rw [if_pos g2]
      simp only [Bool.or_eq_true, bne_iff_ne, ne_eq, h3, h4] at g2
      simp only [Bool.false_eq_true, false_iff]
      intro hh
      omega
    · rw [if_neg g2]
      simp only [Bool.or_eq_true, bne_iff_ne, ne_eq, h3, h4, not_or, Decidable.not_not] at g2
      have gd : (s.data || (s.by_ == 0#8)) = true := by
        cases hd : s.data <;> by_cases hb : s.by_ = 0#8 <;> simp [hd, hb] at g1 ⊢
      have gb : 0 ≤ s.tl ∧ s.tl ≤ 10 ∧ 0 ≤ s.rl ∧ s.rl ≤ 10 := by
        simp at g1; omega
      simp only [gd]
      simp
      omega

/- the reference's steps -/
theorem low_zero (x : Nat) : lowN x 0 = [] := rfl
theorem tx_low {s : Ser} (h : may s = true) (ht : s.tl > 0) : tx s = ({ s with tb := numL ((lowN s.tb.toNat s.tl.toNat).drop 1), tl := ((s.tl.toNat : Nat) : Int) - 1 }, ((s.tb.toNat / 2 ^ 0 % 2 : Nat) : Int)) := by
  have hb := may_bd h
  simp only [may, Bool.and_eq_true] at h
  have h1 := (ends_iff s.tb s.tl).1 h.1.1
  rw [tx, if_pos (by simp only [may, Bool.and_eq_true]; exact h), if_pos ht]
  rw [lowN_drop1, numL_low, and1, Nat.pow_zero, Nat.div_one]
  have e1 : BitVec.ofNat 16 (s.tb.toNat / 2 % 2 ^ (s.tl.toNat - 1)) = s.tb >>> 1 := by
    apply BitVec.eq_of_toNat_eq
    rw [BitVec.toNat_ofNat, BitVec.toNat_ushiftRight, Nat.shiftRight_eq_div_pow, Nat.pow_one]
    have e2 : 2 ^ s.tl.toNat = 2 * 2 ^ (s.tl.toNat - 1) := by rw [← Nat.pow_succ']; congr 1; omega
    have h3 := h1.2.2.1
    rw [e2] at h3
    rw [Nat.mod_eq_of_lt (show s.tb.toNat / 2 < 2 ^ (s.tl.toNat - 1) by omega)]
    have := s.tb.isLt
    omega
  rw [e1, show ((s.tl.toNat : Nat) : Int) = s.tl by omega]
theorem tx_ack {s : Ser} (h : may s = true) (ht : ¬ s.tl > 0) (ha : s.ack = true) : tx s = ({ s with ack := false, tb := 0#16, tl := 1 }, 1) := by
  rw [tx, if_pos h, if_neg ht, if_pos ha]
theorem tx_data {s : Ser} (h : may s = true) (ht : ¬ s.tl > 0) (ha : s.ack = false) (hd : s.data = true) : tx s = ({ s with tb := numL ((sbits s.by_).drop 1), tl := 10, data := false, by_ := 0#8 }, 1) := by
  rw [tx, if_pos h, if_neg ht, if_neg (by rw [ha]; decide), if_pos hd]
  congr 2
  rw [sbits, show [1, 1] ++ lowN s.by_.toNat 8 ++ [0] = 1 :: lowN (1 + 2 * s.by_.toNat) 10 from ?_, List.drop_one, List.tail_cons, numL_low]
  · apply BitVec.eq_of_toNat_eq
    have := s.by_.isLt
    have e : ((s.by_.setWidth 16) <<< 1).toNat = 2 * s.by_.toNat := by
      rw [BitVec.toNat_shiftLeft, BitVec.toNat_setWidth, Nat.shiftLeft_eq]; omega
    rw [BitVec.toNat_or, e, BitVec.toNat_ofNat]
    show 1 ||| 2 * s.by_.toNat = _
    rw [Nat.or_comm, show 2 * s.by_.toNat ||| 1 = 2 * s.by_.toNat + 1 from (Nat.two_pow_add_eq_or_of_lt (i := 1) (by omega : 1 < 2 ^ 1) s.by_.toNat).symm, BitVec.toNat_ofNat]
    omega
  · have := s.by_.isLt
    have e1 : (1 + 2 * s.by_.toNat) % 2 = 1 := by omega
    have e2 : (1 + 2 * s.by_.toNat) / 2 = s.by_.toNat := by omega
    rw [lowN_cons (1 + 2 * s.by_.toNat) 9, e1, e2, lowN_succ s.by_.toNat 8, show s.by_.toNat / 2 ^ 8 % 2 = 0 by omega]
    rfl
theorem tx_rest {s : Ser} (h : may s = true) (ht : ¬ s.tl > 0) (ha : s.ack = false) (hd : s.data = false) : tx s = (s, 0) := by
  rw [tx, if_pos h, if_neg ht, if_neg (by rw [ha]; decide), if_neg (by rw [hd]; decide)]

/-- A bit behind bits. -/
theorem lowN_add {x n b : Nat} (hx : x < 2 ^ n) (hb : b < 2) : lowN x n ++ [((b : Nat) : Int)] = lowN (x + b * 2 ^ n) (n + 1) := by
  have hp := Nat.two_pow_pos n
  rw [lowN_succ]
  congr 1
  · simp only [lowN]
    apply List.map_congr_left
    intro i hi
    have hi : i < n := by simpa using hi
    congr 1
    have e : b * 2 ^ n = 2 ^ i * (b * 2 ^ (n - i)) := by
      rw [Nat.mul_left_comm, ← Nat.pow_add]; congr 2; omega
    rw [e, Nat.add_mul_div_left _ _ (Nat.two_pow_pos i)]
    have e2 : b * 2 ^ (n - i) = 2 * (b * 2 ^ (n - i - 1)) := by
      rw [Nat.mul_left_comm, ← Nat.pow_succ']; congr 2; omega
    rw [e2]; omega
  · congr 2
    rw [Nat.add_mul_div_right _ _ hp, Nat.div_eq_of_lt hx]; omega
theorem numL_add {b : BitVec 16} {n c : Nat} (hb : b.toNat < 2 ^ n) (hc : c < 2) : numL (lowN b.toNat n ++ [((c : Nat) : Int)]) = BitVec.ofNat 16 (b.toNat + c * 2 ^ n) := by
  rw [lowN_add hb hc, numL_low, Nat.mod_eq_of_lt]
  rw [Nat.pow_succ]
  have := Nat.two_pow_pos n
  rcases (show c = 0 ∨ c = 1 by omega) with rfl | rfl <;> omega
theorem or_bit {b : BitVec 16} {n : Nat} (hb : b.toNat < 2 ^ n) (hn : n ≤ 10) : b ||| 1#16 <<< n = BitVec.ofNat 16 (b.toNat + 1 * 2 ^ n) := by
  apply BitVec.eq_of_toNat_eq
  have h2 : 2 ^ n ≤ 2 ^ 10 := Nat.pow_le_pow_right (by omega) hn
  rw [BitVec.toNat_or, BitVec.toNat_shiftLeft, BitVec.toNat_ofNat, Nat.shiftLeft_eq]
  show b.toNat ||| (1 * 2 ^ n) % 2 ^ 16 = _
  rw [Nat.mod_eq_of_lt (by omega), Nat.or_comm, Nat.one_mul, BitVec.toNat_ofNat]
  have := Nat.two_pow_add_eq_or_of_lt hb 1
  rw [Nat.mul_one] at this
  omega
theorem lowN_dropk (x n k : Nat) : (lowN x n).drop k = lowN (x / 2 ^ k) (n - k) := by
  induction k generalizing x n with
  | zero => simp
  | succ k ih =>
    rw [show k + 1 = 1 + k by omega, ← List.drop_drop, lowN_drop1, ih, Nat.pow_add, Nat.pow_one, Nat.div_div_eq_div_mul, Nat.sub_sub]
theorem lowN_take (x n k : Nat) (h : k ≤ n) : (lowN x n).take k = lowN x k := by
  simp [lowN, ← List.map_take, List.take_range, Nat.min_eq_left h]
/-- A bit, as 0 or 1. -/
def vb (bit : Int) : Int := if bit != 0 then 1 else 0
theorem vb_cases (bit : Int) : (vb bit = 0 ∧ (bit != 0) = false) ∨ (vb bit = 1 ∧ (bit != 0) = true) := by
  unfold vb
  cases h : (bit != 0) <;> simp
section
variable {s : Ser} {bit : Int} (h0 : may s = true)
include h0
theorem begins_of : s.rb.toNat < 2 ^ s.rl.toNat := by
  simp only [may, Bool.and_eq_true] at h0
  exact ((begins_iff s.rb s.rl).1 h0.1.2).2.2.1
theorem rxR0 (c : ((((s.rl.toNat + 1 : Nat) : Int) == 1) && (vb bit == 0)) = true) : rx s bit = ({ s with rl := ((0 : Nat) : Int), rb := numL [] }, noH) := by
  have hb := may_bd h0
  have hz := begins_of h0
  simp only [Bool.and_eq_true, beq_iff_eq] at c
  have e : s.rl = 0 := by omega
  have e2 : s.rb = 0#16 := BitVec.eq_of_toNat_eq (by rw [e] at hz; simpa using hz)
  rcases vb_cases bit with ⟨v, b⟩ | ⟨v, b⟩
  · rw [rx_none h0 (by simp [e, b])]
    cases s; simp_all [numL]
  · omega
theorem rxR1 (c : ((((s.rl.toNat + 1 : Nat) : Int) == 2) && (vb bit == 0)) = true) : rx s bit = ({ s with rl := ((0 : Nat) : Int), rb := numL [] }, ⟨2#8, 0#8⟩) := by
  have hb := may_bd h0
  simp only [Bool.and_eq_true, beq_iff_eq] at c
  have e : s.rl = 1 := by omega
  rcases vb_cases bit with ⟨v, b⟩ | ⟨v, b⟩
  · rw [rx_ack h0 (by simp [e]) (by simp [e, b])]; rfl
  · omega
theorem rxR2 (c : ((((s.rl.toNat + 1 : Nat) : Int) == 11) && (vb bit == 0)) = true) : rx s bit = ({ s with rl := ((0 : Nat) : Int), rb := numL [] }, ⟨1#8, (numL (((lowN s.rb.toNat s.rl.toNat ++ [vb bit]).drop 2).take (10 - 2))).setWidth 8⟩) := by
  have hb := may_bd h0
  simp only [Bool.and_eq_true, beq_iff_eq] at c
  have e : s.rl = 10 := by omega
  rcases vb_cases bit with ⟨v, b⟩ | ⟨v, b⟩
  · rw [rx_byte h0 (by simp [e]) (by simp [e]) (by simp [b]) (by simp [e])]
    congr 2
    rw [List.drop_append_of_le_length (by simp [lowN_len, e]), List.take_append_of_le_length (by simp [lowN_len, e]), lowN_dropk, lowN_take _ _ _ (by simp [e]), numL_low]
    apply BitVec.eq_of_toNat_eq
    have := s.rb.isLt
    simp only [BitVec.toNat_setWidth, BitVec.toNat_ushiftRight, Nat.shiftRight_eq_div_pow, BitVec.toNat_ofNat]
    omega
  · omega
theorem rxR3 (c2 : ((((s.rl.toNat + 1 : Nat) : Int) == 11) && (vb bit == 0)) = false) (c : (((s.rl.toNat + 1 : Nat) : Int) == 11) = true) : rx s bit = ({ s with rl := ((0 : Nat) : Int), rb := numL [] }, ⟨3#8, 0#8⟩) := by
  have hb := may_bd h0
  rw [c, Bool.true_and] at c2
  simp only [beq_iff_eq] at c
  have e : s.rl = 10 := by omega
  rcases vb_cases bit with ⟨v, b⟩ | ⟨v, b⟩
  · rw [v] at c2; cases c2
  · rw [rx_bad h0 (by simp [e]) (by simp [e]) (by simp [e, b])]; rfl
theorem rxR4 (c0 : ((((s.rl.toNat + 1 : Nat) : Int) == 1) && (vb bit == 0)) = false) (c1 : ((((s.rl.toNat + 1 : Nat) : Int) == 2) && (vb bit == 0)) = false) (c : (((s.rl.toNat + 1 : Nat) : Int) == 11) = false) :
    rx s bit = ({ s with rl := ((s.rl.toNat + 1 : Nat) : Int), rb := numL (lowN s.rb.toNat s.rl.toNat ++ [vb bit]) }, noH) := by
  have hb := may_bd h0
  have hz := begins_of h0
  have e : s.rl ≠ 10 := by intro e; rw [e] at c; cases c
  have e3 : ((s.rl.toNat + 1 : Nat) : Int) = s.rl + 1 := by omega
  have g0 : ((s.rl == 0) && !(bit != 0)) = false := by
    rcases vb_cases bit with ⟨v, b⟩ | ⟨v, b⟩
    · rw [v] at c0; simp at c0; simp; omega
    · simp [b]
  have g1 : ((s.rl == 1) && !(bit != 0)) = false := by
    rcases vb_cases bit with ⟨v, b⟩ | ⟨v, b⟩
    · rw [v] at c1; simp at c1; simp; omega
    · simp [b]
  rw [rx_go h0 g0 g1 (by simp [e]) (by simp [e]), e3]
  congr 2
  rcases vb_cases bit with ⟨v, b⟩ | ⟨v, b⟩
  · have := numL_add (c := 0) hz (by omega)
    rw [b, v]
    rw [show ((0 : Nat) : Int) = 0 from rfl] at this
    rw [this]; simp
  · have := numL_add (c := 1) hz (by omega)
    rw [b, v]
    rw [show ((1 : Nat) : Int) = 1 from rfl] at this
    rw [this, if_pos rfl, or_bit hz (by omega)]
end

/-- A link end that only receives. -/
def PkI (s : Ser) : Prop := I64 s ∧ may s = true ∧ s.tb = 0#16 ∧ s.tl = 0 ∧ s.ack = false ∧ s.data = false ∧ s.by_ = 0#8
theorem PkI_zero : PkI zeroS := ⟨⟨by decide, by decide, by decide, by decide⟩, by decide, rfl, rfl, rfl, rfl, rfl⟩
theorem numLow_lt {n : Nat} {b : BitVec 16} {c : Nat} (hb : b.toNat < 2 ^ n) (hn : n ≤ 10) (hc : c < 2) : (BitVec.ofNat 16 (b.toNat + c * 2 ^ n)).toNat = b.toNat + c * 2 ^ n := by
  have h2 : 2 ^ n ≤ 2 ^ 10 := Nat.pow_le_pow_right (by omega) hn
  rw [BitVec.toNat_ofNat]
  rcases (show c = 0 ∨ c = 1 by omega) with rfl | rfl <;> omega
theorem rx_may (s : Ser) (h : may s = true) (bit : Int) : may (rx s bit).1 = true := by
  have hb := may_bd h
  have h' := h
  simp only [may, Bool.and_eq_true] at h'
  obtain ⟨⟨h1, h2⟩, h3⟩ := h'
  have h4 := (begins_iff s.rb s.rl).1 h2
  have fin : ∀ rl rb, begins rb rl = true → may { s with rl := rl, rb := rb } = true := fun rl rb hr => by
    simp only [may, Bool.and_eq_true]; exact ⟨⟨h1, hr⟩, h3⟩
  have z : begins 0#16 0 = true := by decide
  cases g0 : ((s.rl == 0) && !(bit != 0)) with
  | true => rw [rx_none h g0]; exact h
  | false =>
    cases g1 : ((s.rl == 1) && !(bit != 0)) with
    | true => rw [rx_ack h g0 g1]; exact fin _ _ z
    | false =>
      cases g2 : ((s.rl == 10) && (bit != 0)) with
      | true => rw [rx_bad h g0 g1 g2]; exact fin _ _ z
      | false =>
        cases g3 : (s.rl == 10) with
        | true => rw [rx_byte h g0 g1 g2 g3]; exact fin _ _ z
        | false =>
          rw [rx_go h g0 g1 g2 g3]
          refine fin _ _ ((begins_iff _ _).2 ?_)
          have g3' : s.rl ≠ 10 := by simpa using g3
          have e1 : (s.rl + 1).toNat = s.rl.toNat + 1 := by omega
          have e2 : 2 ^ (s.rl.toNat + 1) = 2 * 2 ^ s.rl.toNat := Nat.pow_succ'
          have p := Nat.two_pow_pos s.rl.toNat
          rw [e1, e2]
          cases hb2 : (bit != 0) with
          | true =>
            rw [if_pos rfl, or_bit h4.2.2.1 (by omega), numLow_lt h4.2.2.1 (by omega) (by omega)]
            rcases ten hb.2.2.1 hb.2.2.2 with e | e | e | e | e | e | e | e | e | e | e <;> rw [e] at h4 ⊢ <;> simp at h4 ⊢ <;> omega
          | false =>
            rw [hb2] at g0 g1
            rw [if_neg (by decide)]
            rcases ten hb.2.2.1 hb.2.2.2 with e | e | e | e | e | e | e | e | e | e | e <;> rw [e] at h4 g0 g1 ⊢ <;> simp at h4 g0 g1 ⊢ <;> omega
theorem rx_tx (s : Ser) (bit : Int) : (rx s bit).1.tb = s.tb ∧ (rx s bit).1.tl = s.tl ∧ (rx s bit).1.ack = s.ack ∧ (rx s bit).1.data = s.data ∧ (rx s bit).1.by_ = s.by_ := by
  unfold rx
  repeat' split
  all_goals exact ⟨rfl, rfl, rfl, rfl, rfl⟩
theorem PkI_rx {s : Ser} (h : PkI s) (bit : Int) : PkI (rx s bit).1 := by
  obtain ⟨h1, h2, h3, h4, h5, h6, h7⟩ := h
  obtain ⟨g3, g4, g5, g6, g7⟩ := rx_tx s bit
  exact ⟨rx_I64 h1 bit, rx_may s h2 bit, g3.trans h3, g4.trans h4, g5.trans h5, g6.trans h6, g7.trans h7⟩
theorem PkI_end {s : Ser} (h : PkI s) (hr : s.rl ≤ 0) : s = zeroS := by
  obtain ⟨h1, h2, h3, h4, h5, h6, h7⟩ := h
  have hb := may_bd h2
  have hz := begins_of h2
  have e : s.rl = 0 := by omega
  have e2 : s.rb = 0#16 := BitVec.eq_of_toNat_eq (by rw [e] at hz; simpa using hz)
  cases s; simp_all [zeroS]
theorem kind12 {s : Ser} {x : Int} (h3 : ((rx s x).2.kind == 3#8) = false) (h0 : ((rx s x).2.kind == 0#8) = false) : (((rx s x).2.kind == 1#8) || ((rx s x).2.kind == 2#8)) = true := by
  rcases rx_kind s x with e | e | e | e <;> rw [e] at h3 h0 ⊢ <;> simp_all
theorem kind0 {s : Ser} {x : Int} (h0 : ((rx s x).2.kind == 0#8) = true) : (((rx s x).2.kind == 1#8) || ((rx s x).2.kind == 2#8)) = false := by
  rw [eq_of_beq h0]; rfl
end Go.Ser

/- serial: values and plain functions. -/
import Derived.Test.YtoeghfpkpppchaaEng8
namespace Go.Ser
open Go Go.Eng

def u16 (r : BitVec 16) : Value := .int .u16 (r.toNat : Int)
def u8 (r : BitVec 8) : Value := .int .u8 (r.toNat : Int)

theorem ofInt16 (r : BitVec 16) : BitVec.ofInt 16 (r.toNat : Int) = r := by
  apply BitVec.eq_of_toNat_eq
  rw [BitVec.toNat_ofInt]
  have := r.isLt
  have e : ((r.toNat : Int) % ((2 ^ 16 : Nat) : Int)).toNat = r.toNat % 2 ^ 16 := by omega
  rw [e, Nat.mod_eq_of_lt this]
theorem ofInt8 (r : BitVec 8) : BitVec.ofInt 8 (r.toNat : Int) = r := by
  apply BitVec.eq_of_toNat_eq
  rw [BitVec.toNat_ofInt]
  have := r.isLt
  have e : ((r.toNat : Int) % ((2 ^ 8 : Nat) : Int)).toNat = r.toNat % 2 ^ 8 := by omega
  rw [e, Nat.mod_eq_of_lt this]
theorem wrap16 (n : Nat) : IntKind.u16.wrap (n : Int) = ((BitVec.ofNat 16 n).toNat : Int) := by
  simp [IntKind.wrap, IntKind.signed, IntKind.bits]
theorem wrap16I (n : Int) : IntKind.u16.wrap n = ((BitVec.ofInt 16 n).toNat : Int) := by
  simp [IntKind.wrap, IntKind.signed, IntKind.bits, BitVec.toNat_ofInt]
  omega
theorem wrap8 (n : Nat) : IntKind.u8.wrap (n : Int) = ((BitVec.ofNat 8 n).toNat : Int) := by
  simp [IntKind.wrap, IntKind.signed, IntKind.bits]
theorem band16 (a b : BitVec 16) : band .u16 a.toNat b.toNat = (a &&& b).toNat := by
  unfold band
  show IntKind.u16.wrap ((BitVec.ofInt 16 (a.toNat : Int) &&& BitVec.ofInt 16 (b.toNat : Int)).toNat : Int) = _
  rw [ofInt16, ofInt16, wrap16, BitVec.ofNat_toNat, BitVec.setWidth_eq]
theorem bor16 (a b : BitVec 16) : bor .u16 a.toNat b.toNat = (a ||| b).toNat := by
  unfold bor
  show IntKind.u16.wrap ((BitVec.ofInt 16 (a.toNat : Int) ||| BitVec.ofInt 16 (b.toNat : Int)).toNat : Int) = _
  rw [ofInt16, ofInt16, wrap16, BitVec.ofNat_toNat, BitVec.setWidth_eq]
theorem band8 (a b : BitVec 8) : band .u8 a.toNat b.toNat = (a &&& b).toNat := by
  unfold band
  show IntKind.u8.wrap ((BitVec.ofInt 8 (a.toNat : Int) &&& BitVec.ofInt 8 (b.toNat : Int)).toNat : Int) = _
  rw [ofInt8, ofInt8, wrap8, BitVec.ofNat_toNat, BitVec.setWidth_eq]
theorem min_shift {k : Nat} (x n : Nat) (h : x < 2 ^ k) : x / 2 ^ min n k = x / 2 ^ n := by
  rcases Nat.le_total n k with h1 | h1
  · rw [Nat.min_eq_left h1]
  · rw [Nat.min_eq_right h1, Nat.div_eq_of_lt h, Nat.div_eq_of_lt (Nat.lt_of_lt_of_le h (Nat.pow_le_pow_right (by omega) h1))]
theorem bshr16 (a : BitVec 16) (j : Int) : bshr .u16 a.toNat j = (a >>> j.toNat).toNat := by
  unfold bshr
  rw [BitVec.toNat_ushiftRight, Nat.shiftRight_eq_div_pow]
  show (a.toNat : Int).fdiv (2 ^ min j.toNat 16) = _
  rw [Int.fdiv_eq_ediv_of_nonneg _ (Int.pow_nonneg (by omega))]
  have := min_shift (k := 16) a.toNat j.toNat a.isLt
  rw [← this]
  simp
theorem bshr8 (a : BitVec 8) (j : Int) : bshr .u8 a.toNat j = (a >>> j.toNat).toNat := by
  unfold bshr
  rw [BitVec.toNat_ushiftRight, Nat.shiftRight_eq_div_pow]
  show (a.toNat : Int).fdiv (2 ^ min j.toNat 8) = _
  rw [Int.fdiv_eq_ediv_of_nonneg _ (Int.pow_nonneg (by omega))]
  have := min_shift (k := 8) a.toNat j.toNat a.isLt
  rw [← this]
  simp
theorem bshl16 (a : BitVec 16) (j : Int) : bshl .u16 a.toNat j = (a <<< j.toNat).toNat := by
  unfold bshl
  show IntKind.u16.wrap ((a.toNat : Int) * 2 ^ min j.toNat 16) = _
  have e : ((a.toNat : Int) * 2 ^ min j.toNat 16) = ((a.toNat * 2 ^ min j.toNat 16 : Nat) : Int) := by simp
  rw [e, wrap16, BitVec.toNat_shiftLeft, Nat.shiftLeft_eq, BitVec.toNat_ofNat]
  rcases Nat.le_total j.toNat 16 with h1 | h1
  · rw [Nat.min_eq_left h1]
  · rw [Nat.min_eq_right h1]
    have : 2 ^ j.toNat = 2 ^ 16 * 2 ^ (j.toNat - 16) := by rw [← Nat.pow_add]; congr 1; omega
    rw [this]
    have h2 : a.toNat * (2 ^ 16 * 2 ^ (j.toNat - 16)) = 2 ^ 16 * (a.toNat * 2 ^ (j.toNat - 16)) := by
      rw [← Nat.mul_assoc, Nat.mul_comm a.toNat, Nat.mul_assoc]
    rw [h2]
    simp
theorem beq16 (a b : BitVec 16) : ((a.toNat : Int) == (b.toNat : Int)) = (a == b) := by
  by_cases h : a = b
  · subst h; simp
  · have h2 : ¬ (a.toNat : Int) = b.toNat := fun e => h (BitVec.eq_of_toNat_eq (by omega))
    rw [beq_eq_false_iff_ne.2 h2, beq_eq_false_iff_ne.2 h]
theorem beq8 (a b : BitVec 8) : ((a.toNat : Int) == (b.toNat : Int)) = (a == b) := by
  by_cases h : a = b
  · subst h; simp
  · have h2 : ¬ (a.toNat : Int) = b.toNat := fun e => h (BitVec.eq_of_toNat_eq (by omega))
    rw [beq_eq_false_iff_ne.2 h2, beq_eq_false_iff_ne.2 h]

/-- A link end. -/
structure Ser where
  tb : BitVec 16
  tl : Int
  ack : Bool
  data : Bool
  by_ : BitVec 8
  rl : Int
  rb : BitVec 16
def cellS (s : Ser) : List Value := [u16 s.tb, .int .i64 s.tl, .bool s.ack, .bool s.data, u8 s.by_, .int .i64 s.rl, u16 s.rb]
def serV (s : Ser) : Value := .agg #[u16 s.tb, .int .i64 s.tl, .bool s.ack, .bool s.data, u8 s.by_, .int .i64 s.rl, u16 s.rb]
def zeroS : Ser := ⟨0#16, 0, false, false, 0#8, 0, 0#16⟩
def eqS (s t : Ser) : Bool := (s.tb == t.tb) && ((s.tl == t.tl) && ((s.ack == t.ack) && ((s.data == t.data) && ((s.by_ == t.by_) && ((s.rl == t.rl) && ((s.rb == t.rb) && true))))))
theorem eqS_iff (s t : Ser) : eqS s t = true ↔ s = t := by
  cases s; cases t; simp [eqS]
theorem eqS_self (s : Ser) : eqS s s = true := (eqS_iff s s).2 rfl
structure Heard where
  kind : BitVec 8
  by_ : BitVec 8
def hV (h : Heard) : Value := .agg #[u8 h.kind, u8 h.by_]
def encH (h : Heard) : List Value := [u8 h.kind, u8 h.by_]
theorem encH_len (h : Heard) : (encH h).length = 2 := rfl
def noH : Heard := ⟨0#8, 0#8⟩
def eqH (s t : Heard) : Bool := (s.kind == t.kind) && ((s.by_ == t.by_) && true)
theorem eqH_iff (s t : Heard) : eqH s t = true ↔ s = t := by
  cases s; cases t; simp [eqH]
def encI (x : Int) : List Value := [.int .i64 x]
theorem encI_len (x : Int) : (encI x).length = 1 := rfl
def eqI (x y : Int) : Bool := x == y
theorem eqI_iff (x y : Int) : eqI x y = true ↔ x = y := by simp [eqI]
theorem eqI_ne {x y : Int} (h : (x != y) = true) : eqI x y = false := by simpa [eqI] using h
theorem eqI_eq {x y : Int} (h : (x != y) = false) : eqI x y = true := by simpa [eqI] using h
def eqHi (s t : Heard) : Bool := (((s.kind.toNat : Int) == (t.kind.toNat : Int)) && (((s.by_.toNat : Int) == (t.by_.toNat : Int)) && true))
theorem eqHi_eq (s t : Heard) : eqHi s t = eqH s t := by unfold eqHi eqH; rw [beq8, beq8]
theorem eqH_ne {x y : Heard} (h : (!eqHi x y) = true) : eqH x y = false := by rw [eqHi_eq] at h; simpa using h
theorem eqH_eq {x y : Heard} (h : (!eqHi x y) = false) : eqH x y = true := by rw [eqHi_eq] at h; simpa using h
theorem encB8_len (x : BitVec 8) : ([u8 x] : List Value).length = 1 := rfl

def begins (bits : BitVec 16) (n : Int) : Bool := decide (n ≥ 0) && decide (n < 11) && (bits >>> n.toNat == 0#16) && (bits &&& 3#16 == (1#16 <<< (if 2 < n then 2 else n).toNat) - 1#16)
def ends (bits : BitVec 16) (n : Int) : Bool := if decide (n < 0) || decide (n ≥ 11) || (bits >>> n.toNat != 0#16) then false else
  (n == 0) || ((bits >>> (n - 1).toNat == 0#16) && (decide (n < 10) || (bits &&& 1#16 == 1#16)))
def may (s : Ser) : Bool := ends s.tb s.tl && begins s.rb s.rl && (s.data || (s.by_ == 0#8))
def send (s : Ser) (b : BitVec 8) : Ser × Int := if may s then if s.data then (zeroS, 8) else ({ s with data := true, by_ := b }, 0) else (zeroS, 2)
def ack (s : Ser) : Ser × Int := if may s then if s.ack then (zeroS, 8) else ({ s with ack := true }, 0) else (zeroS, 2)
def tx (s : Ser) : Ser × Int :=
  if may s then
    if s.tl > 0 then ({ s with tb := s.tb >>> 1, tl := s.tl - 1 }, ((s.tb &&& 1#16).toNat : Int))
    else if s.ack then ({ s with ack := false, tb := 0#16, tl := 1 }, 1)
    else if s.data then ({ s with tb := 1#16 ||| (s.by_.setWidth 16) <<< 1, tl := 10, data := false, by_ := 0#8 }, 1)
    else (s, 0)
  else (s, 0)
def rx (s : Ser) (bit : Int) : Ser × Heard :=
  if may s then
    if s.rl == 0 && bit == 0 then (s, noH)
    else if s.rl == 1 && bit == 0 then ({ s with rl := 0, rb := 0#16 }, ⟨2#8, 0#8⟩)
    else if s.rl == 10 && bit != 0 then ({ s with rl := 0, rb := 0#16 }, ⟨3#8, 0#8⟩)
    else if s.rl == 10 then ({ s with rl := 0, rb := 0#16 }, ⟨1#8, (s.rb >>> 2).setWidth 8⟩)
    else ({ s with rb := if bit != 0 then s.rb ||| 1#16 <<< s.rl.toNat else s.rb, rl := s.rl + 1 }, noH)
  else (s, noH)

/-- The lengths are ints. -/
def I64 (s : Ser) : Prop := -9223372036854775808 ≤ s.tl ∧ s.tl ≤ 9223372036854775807 ∧ -9223372036854775808 ≤ s.rl ∧ s.rl ≤ 9223372036854775807
theorem may_bd {s : Ser} (h : may s = true) : 0 ≤ s.tl ∧ s.tl ≤ 10 ∧ 0 ≤ s.rl ∧ s.rl ≤ 10 := by
  simp only [may, Bool.and_eq_true] at h
  obtain ⟨⟨h1, h2⟩, _⟩ := h
  have h3 : ¬ s.tl < 0 ∧ ¬ s.tl ≥ 11 := by
    unfold ends at h1
    split at h1
    · cases h1
    · rename_i hn; simp at hn; omega
  simp [begins] at h2
  omega
/- the same as the machine has it -/
theorem sub1_16 (x : BitVec 16) : IntKind.u16.wrap ((x.toNat : Int) - 1) = ((x - 1#16).toNat : Int) := by
  rw [wrap16I]
  congr 2
  apply BitVec.eq_of_toNat_eq
  have := x.isLt
  simp only [BitVec.toNat_ofInt, BitVec.toNat_sub, BitVec.toNat_ofNat]
  omega
theorem begins_int (b : BitVec 16) (n : Int) : (decide (n ≥ 0) && decide (n < 11) && (bshr .u16 b.toNat n == 0) && (band .u16 b.toNat 3 == IntKind.u16.wrap (bshl .u16 1 (if 2 < n then 2 else n) - 1))) = begins b n := by
  have h2 : band .u16 b.toNat 3 = ((b &&& 3#16).toNat : Int) := band16 b 3#16
  have h3 : ∀ j, bshl .u16 1 j = ((1#16 <<< j.toNat).toNat : Int) := bshl16 1#16
  have h4 : (bshr .u16 b.toNat n == 0) = (b >>> n.toNat == 0#16) := by rw [bshr16]; exact beq16 _ 0#16
  rw [h2, h3, sub1_16, beq16, h4]
  rfl
theorem ends_int (b : BitVec 16) (n : Int) : ((n == 0) || ((bshr .u16 b.toNat (n - 1) == 0) && (decide (n < 10) || (band .u16 b.toNat 1 == 1)))) = ((n == 0) || ((b >>> (n - 1).toNat == 0#16) && (decide (n < 10) || (b &&& 1#16 == 1#16)))) := by
  have h2 : (band .u16 b.toNat 1 == 1) = (b &&& 1#16 == 1#16) := by
    have : band .u16 b.toNat 1 = ((b &&& 1#16).toNat : Int) := band16 b 1#16
    rw [this]; exact beq16 _ 1#16
  have h4 : (bshr .u16 b.toNat (n - 1) == 0) = (b >>> (n - 1).toNat == 0#16) := by rw [bshr16]; exact beq16 _ 0#16
  rw [h2, h4]
theorem ends_int0 (b : BitVec 16) (n : Int) : (decide (n < 0) || decide (n ≥ 11) || (bshr .u16 b.toNat n != 0)) = (decide (n < 0) || decide (n ≥ 11) || (b >>> n.toNat != 0#16)) := by
  have h4 : (bshr .u16 b.toNat n != 0) = (b >>> n.toNat != 0#16) := by rw [bshr16]; exact congrArg (!·) (beq16 _ 0#16)
  rw [h4]
theorem tx_int (s : Ser) : Value.tuple #[.agg #[.int .u16 (bshr .u16 s.tb.toNat 1), .int .i64 (s.tl - 1), .bool s.ack, .bool s.data, u8 s.by_, .int .i64 s.rl, u16 s.rb], .int .i64 (IntKind.i64.wrap (band .u16 s.tb.toNat 1))] =
    .tuple #[serV { s with tb := s.tb >>> 1, tl := s.tl - 1 }, .int .i64 ((s.tb &&& 1#16).toNat : Int)] := by
  have h1 : bshr .u16 s.tb.toNat 1 = ((s.tb >>> 1).toNat : Int) := bshr16 s.tb 1
  have h2 : band .u16 s.tb.toNat 1 = ((s.tb &&& 1#16).toNat : Int) := band16 s.tb 1#16
  have h3 : IntKind.i64.wrap ((s.tb &&& 1#16).toNat : Int) = ((s.tb &&& 1#16).toNat : Int) := by
    have := (s.tb &&& 1#16).isLt
    rw [IntKind.wrap_i64]; omega
  rw [h1, h2, h3]; rfl
theorem zext16 (x : BitVec 8) : IntKind.u16.wrap (x.toNat : Int) = ((x.setWidth 16).toNat : Int) := by
  rw [wrap16, BitVec.toNat_setWidth, BitVec.toNat_ofNat]
theorem tx_int2 (s : Ser) : bor .u16 1 (bshl .u16 (IntKind.u16.wrap (s.by_.toNat : Int)) 1) = ((1#16 ||| (s.by_.setWidth 16) <<< 1).toNat : Int) := by
  have h1 : bshl .u16 (IntKind.u16.wrap (s.by_.toNat : Int)) 1 = (((s.by_.setWidth 16) <<< 1).toNat : Int) := by rw [zext16]; exact bshl16 _ 1
  rw [h1]; exact bor16 1#16 _
theorem rx_int (s : Ser) : bor .u16 s.rb.toNat (bshl .u16 1 s.rl) = ((s.rb ||| 1#16 <<< s.rl.toNat).toNat : Int) := by
  have h1 : bshl .u16 1 s.rl = ((1#16 <<< s.rl.toNat).toNat : Int) := bshl16 1#16 s.rl
  rw [h1]; exact bor16 _ _
theorem rx_int2 (s : Ser) : IntKind.u8.wrap (bshr .u16 s.rb.toNat 2) = (((s.rb >>> 2).setWidth 8).toNat : Int) := by
  have h1 : bshr .u16 s.rb.toNat 2 = ((s.rb >>> 2).toNat : Int) := bshr16 s.rb 2
  rw [h1, wrap8, BitVec.toNat_setWidth, BitVec.toNat_ofNat]
section
variable {s : Ser} {bit : Int} (h0 : may s = true)
include h0
theorem rx_none (h1 : ((s.rl == 0) && !(bit != 0)) = true) : rx s bit = (s, noH) := by
  have h1' : (s.rl == 0 && bit == 0) = true := by simpa using h1
  simp only [rx, h0, h1', if_true]
theorem rx_ack (h1 : ((s.rl == 0) && !(bit != 0)) = false) (h2 : ((s.rl == 1) && !(bit != 0)) = true) : rx s bit = ({ s with rl := 0, rb := 0#16 }, ⟨2#8, 0#8⟩) := by
  have h1' : (s.rl == 0 && bit == 0) = false := by simpa using h1
  have h2' : (s.rl == 1 && bit == 0) = true := by simpa using h2
  simp only [rx, h0, h1', h2', if_true, Bool.false_eq_true, if_false]
theorem rx_bad (h1 : ((s.rl == 0) && !(bit != 0)) = false) (h2 : ((s.rl == 1) && !(bit != 0)) = false) (h3 : ((s.rl == 10) && (bit != 0)) = true) : rx s bit = ({ s with rl := 0, rb := 0#16 }, ⟨3#8, 0#8⟩) := by
  have h1' : (s.rl == 0 && bit == 0) = false := by simpa using h1
  have h2' : (s.rl == 1 && bit == 0) = false := by simpa using h2
  simp only [rx, h0, h1', h2', h3, if_true, Bool.false_eq_true, if_false]
theorem rx_byte (h1 : ((s.rl == 0) && !(bit != 0)) = false) (h2 : ((s.rl == 1) && !(bit != 0)) = false) (h3 : ((s.rl == 10) && (bit != 0)) = false) (h4 : (s.rl == 10) = true) : rx s bit = ({ s with rl := 0, rb := 0#16 }, ⟨1#8, (s.rb >>> 2).setWidth 8⟩) := by
  have h1' : (s.rl == 0 && bit == 0) = false := by simpa using h1
  have h2' : (s.rl == 1 && bit == 0) = false := by simpa using h2
  simp only [rx, h0, h1', h2', h3, if_true, Bool.false_eq_true, if_false]
  rw [if_pos h4]
theorem rx_go (h1 : ((s.rl == 0) && !(bit != 0)) = false) (h2 : ((s.rl == 1) && !(bit != 0)) = false) (h3 : ((s.rl == 10) && (bit != 0)) = false) (h4 : (s.rl == 10) = false) :
    rx s bit = ({ s with rb := if bit != 0 then s.rb ||| 1#16 <<< s.rl.toNat else s.rb, rl := s.rl + 1 }, noH) := by
  have h1' : (s.rl == 0 && bit == 0) = false := by simpa using h1
  have h2' : (s.rl == 1 && bit == 0) = false := by simpa using h2
  simp only [rx, h0, h1', h2', h3, if_true, Bool.false_eq_true, if_false]
  rw [if_neg (by rw [h4]; decide)]
end

/- lists of bits -/
def lowN (x n : Nat) : List Int := (List.range n).map fun i => ((x / 2 ^ i % 2 : Nat) : Int)
theorem lowN_len (x n : Nat) : (lowN x n).length = n := by simp [lowN]
theorem lowN_succ (x n : Nat) : lowN x (n + 1) = lowN x n ++ [((x / 2 ^ n % 2 : Nat) : Int)] := by simp [lowN, List.range_succ]
theorem half_q (q : Nat) (h : q < 65536) : IntKind.u16.wrap ((q : Int).tdiv 2) = ((q / 2 : Nat) : Int) := by
  have h1 : ((q : Int).tdiv 2) = ((q / 2 : Nat) : Int) := by
    rw [Int.tdiv_eq_ediv_of_nonneg (by omega)]; omega
  rw [h1, wrap16, BitVec.toNat_ofNat, Nat.mod_eq_of_lt (by omega)]
theorem half16 (b : BitVec 16) (i : Nat) : IntKind.u16.wrap (((b.toNat / 2 ^ i : Nat) : Int).tdiv 2) = ((b.toNat / 2 ^ (i + 1) : Nat) : Int) := by
  have := b.isLt
  have h2 : b.toNat / 2 ^ i ≤ b.toNat := Nat.div_le_self _ _
  rw [half_q _ (by omega), Nat.div_div_eq_div_mul, ← Nat.pow_succ]
theorem bit_q (q : Nat) : IntKind.i64.wrap ((q : Int).tmod 2) = ((q % 2 : Nat) : Int) := by
  rw [Int.tmod_eq_emod_of_nonneg (by omega), IntKind.wrap_i64]; omega
theorem bit16 (b : BitVec 16) (i : Nat) : IntKind.i64.wrap (((b.toNat / 2 ^ i : Nat) : Int).tmod 2) = ((b.toNat / 2 ^ i % 2 : Nat) : Int) := bit_q _
def numL : List Int → BitVec 16
  | [] => 0#16
  | x :: l => 2#16 * numL l + BitVec.ofInt 16 x
theorem num_int (v : BitVec 16) (x : Int) : IntKind.u16.wrap (IntKind.u16.wrap (2 * (v.toNat : Int)) + IntKind.u16.wrap x) = ((2#16 * v + BitVec.ofInt 16 x).toNat : Int) := by
  simp only [wrap16I]
  apply congrArg
  apply congrArg
  apply BitVec.eq_of_toNat_eq
  simp only [BitVec.toNat_add, BitVec.toNat_mul, BitVec.toNat_ofInt, BitVec.toNat_ofNat]
  have := v.isLt
  omega
theorem numL_drop {l : List Int} {k : Nat} {x : Int} (hx : l[k]? = some x) : numL (l.drop k) = 2#16 * numL (l.drop (k + 1)) + BitVec.ofInt 16 x := by
  obtain ⟨h1, rfl⟩ := List.getElem?_eq_some_iff.1 hx
  rw [List.drop_eq_getElem_cons h1, numL]
def bitsTo (x i : Nat) : List Int := [1, 1] ++ lowN x i ++ List.replicate (9 - i) 0
theorem bitsTo_len (x i : Nat) (h : i ≤ 9) : (bitsTo x i).length = 11 := by simp [bitsTo, lowN_len]; omega
theorem bitsTo_set (x i : Nat) (h : i ≤ 8) : (bitsTo x i).set (2 + i) ((x / 2 ^ i % 2 : Nat) : Int) = bitsTo x (i + 1) := by
  unfold bitsTo
  rw [lowN_succ, show 9 - i = (9 - (i + 1)) + 1 by omega, List.replicate_succ]
  rw [List.set_append_right _ _ (by simp [lowN_len]; omega)]
  simp [lowN_len, show 2 + i - (i + 1 + 1) = 0 by omega]
theorem fl_set (l : List Int) (i : Nat) (x : Int) : (fl encI l).set i (.int .i64 x) = fl encI (l.set i x) := by
  have e : ∀ l, fl encI l = l.map (Value.int .i64) := by intro l; induction l <;> simp_all [fl, encI]
  rw [e, e, List.map_set]
theorem bit8 (b : BitVec 8) (i : Nat) : IntKind.i64.wrap (band .u8 (bshr .u8 b.toNat i) 1) = ((b.toNat / 2 ^ i % 2 : Nat) : Int) := by
  have h1 : band .u8 (b >>> i).toNat 1 = ((b >>> i &&& 1#8).toNat : Int) := band8 (b >>> i) 1#8
  rw [bshr8, Int.toNat_natCast, h1, BitVec.toNat_and, BitVec.toNat_ushiftRight, Nat.shiftRight_eq_div_pow]
  have : (1#8).toNat = 1 := rfl
  rw [this, Nat.and_one_is_mod, IntKind.wrap_i64]
  generalize b.toNat / 2 ^ i = q
  omega
def sbits (b : BitVec 8) : List Int := [1, 1] ++ lowN b.toNat 8 ++ [0]
theorem bits_len (b : BitVec 8) : (sbits b).length = 11 := by simp [sbits, lowN_len]
theorem bitsR_eq (b : BitVec 8) : [.int .i64 1, .int .i64 1] ++ fl encI (lowN (b.setWidth 16).toNat 8) ++ [.int .i64 0] = fl encI (sbits b) := by
  have : (b.setWidth 16).toNat = b.toNat := by rw [BitVec.toNat_setWidth]; have := b.isLt; omega
  rw [this, sbits, fl_app, fl_app]; rfl

def eqSi (s t : Ser) : Bool := ((s.tb.toNat : Int) == (t.tb.toNat : Int)) && ((s.tl == t.tl) && ((s.ack == t.ack) && ((s.data == t.data) && (((s.by_.toNat : Int) == (t.by_.toNat : Int)) && ((s.rl == t.rl) && (((s.rb.toNat : Int) == (t.rb.toNat : Int)) && true))))))
theorem eqSi_eq (s t : Ser) : eqSi s t = eqS s t := by unfold eqSi eqS; rw [beq16, beq16, beq8]
theorem rx_I64 {s : Ser} (h : I64 s) (bit : Int) : I64 (rx s bit).1 := by
  obtain ⟨h1, h2, h3, h4⟩ := h
  unfold rx
  split
  · rename_i hm
    have hb := may_bd hm
    repeat' split
    all_goals refine ⟨?_, ?_, ?_, ?_⟩ <;> dsimp only <;> omega
  · exact ⟨h1, h2, h3, h4⟩
theorem tx_I64 {s : Ser} (h : I64 s) : I64 (tx s).1 := by
  obtain ⟨h1, h2, h3, h4⟩ := h
  unfold tx
  split
  · rename_i hm
    have hb := may_bd hm
    repeat' split
    all_goals refine ⟨?_, ?_, ?_, ?_⟩ <;> dsimp only <;> omega
  · exact ⟨h1, h2, h3, h4⟩
def pkL : Ser → List Heard → List Int → Option (Ser × List Heard)
  | s, l, [] => some (s, l)
  | s, l, b :: bs => if (b != 0) && (b != 1) then none
    else if (rx s b).2.kind == 3#8 then none
    else if ((rx s b).2.kind == 1#8) || ((rx s b).2.kind == 2#8) then pkL (rx s b).1 (l ++ [(rx s b).2]) bs
    else pkL (rx s b).1 l bs
def packets (bits : List Int) : List Heard × Int := match pkL zeroS [] bits with
  | some (s, l) => if eqS s zeroS then (l, 0) else ([], 330)
  | none => ([], 330)
section
variable {s : Ser} {l : List Heard} {bits : List Int} {k : Nat} {x : Int} (hx : bits[k]? = some x)
include hx
theorem pk_drop : bits.drop k = x :: bits.drop (k + 1) := by
  obtain ⟨h1, rfl⟩ := List.getElem?_eq_some_iff.1 hx
  exact List.drop_eq_getElem_cons h1
theorem pk_bad1 (h : ((x != 0) && (x != 1)) = true) : pkL s l (bits.drop k) = none := by rw [pk_drop hx, pkL, if_pos h]
theorem pk_bad2 (h : ((x != 0) && (x != 1)) = false) (h3 : ((rx s x).2.kind == 3#8) = true) : pkL s l (bits.drop k) = none := by
  rw [pk_drop hx, pkL, h, if_neg (by decide), if_pos h3]
theorem pk_add (h : ((x != 0) && (x != 1)) = false) (h3 : ((rx s x).2.kind == 3#8) = false) (h4 : (((rx s x).2.kind == 1#8) || ((rx s x).2.kind == 2#8)) = true) :
    pkL s l (bits.drop k) = pkL (rx s x).1 (l ++ [(rx s x).2]) (bits.drop (k + 1)) := by
  rw [pk_drop hx, pkL, h, h3, if_neg (by decide), if_neg (by decide), if_pos h4]
theorem pk_go (h : ((x != 0) && (x != 1)) = false) (h3 : ((rx s x).2.kind == 3#8) = false) (h4 : (((rx s x).2.kind == 1#8) || ((rx s x).2.kind == 2#8)) = false) :
    pkL s l (bits.drop k) = pkL (rx s x).1 l (bits.drop (k + 1)) := by
  rw [pk_drop hx, pkL, h, h3, h4, if_neg (by decide), if_neg (by decide), if_neg (by decide)]
end
theorem rx_kind (s : Ser) (b : Int) : (rx s b).2.kind = 0#8 ∨ (rx s b).2.kind = 1#8 ∨ (rx s b).2.kind = 2#8 ∨ (rx s b).2.kind = 3#8 := by
  unfold rx
  repeat' split
  all_goals simp [noH]
/-- What Packets hands back. -/
def PkR (h : List Res) (r : List Heard × Int) : Value → List Res → Prop := fun v h' => ∃ a c k, k = r.1.length ∧ v = .tuple #[.slice a k c, .int .i64 r.2] ∧ h' = .row (.slice a k c) 29 2 k (fl encH r.1) :: h

/- where a number stands in a list -/
def idxI (v : Int) : List Int → Nat → Int
  | [], _ => -1
  | x :: l, k => if v == x then (k : Int) else idxI v l (k + 1)
theorem idxI_drop {v x : Int} {l : List Int} {k : Nat} (hx : l[k]? = some x) : idxI v (l.drop k) k = if v == x then (k : Int) else idxI v (l.drop (k + 1)) (k + 1) := by
  rw [pk_drop hx, idxI]
theorem idxI_any (v : Int) : ∀ (l : List Int) (k : Nat), decide (idxI v l k ≥ 0) = l.any (v == ·)
  | [], k => rfl
  | x :: l, k => by
    rw [idxI, List.any_cons]
    cases h : (v == x) with
    | true => simp
    | false => simpa using idxI_any v l (k + 1)
def encB (x : BitVec 8) : List Value := [u8 x]
theorem encB_len (x : BitVec 8) : (encB x).length = 1 := rfl
def eqB (x y : BitVec 8) : Bool := x == y
theorem eqB_iff (x y : BitVec 8) : eqB x y = true ↔ x = y := by simp [eqB]
theorem eqB_ne {x y : BitVec 8} (h : ((x.toNat : Int) != (y.toNat : Int)) = true) : eqB x y = false := by rw [bne, beq8] at h; simpa [eqB] using h
theorem eqB_eq {x y : BitVec 8} (h : ((x.toNat : Int) != (y.toNat : Int)) = false) : eqB x y = true := by rw [bne, beq8] at h; simpa [eqB] using h

/-- Two link ends, what was given and what was heard. -/
structure Pair where
  a : Ser
  b : Ser
  gave : List (BitVec 8)
  heard : List (BitVec 8)
  acks : Int
  got : Int
  wrong : Bool
def pairC (p : Pair) (g h : Value) : List Value := [u16 p.a.tb, .int .i64 p.a.tl, .bool p.a.ack, .bool p.a.data, u8 p.a.by_, .int .i64 p.a.rl, u16 p.a.rb,
  u16 p.b.tb, .int .i64 p.b.tl, .bool p.b.ack, .bool p.b.data, u8 p.b.by_, .int .i64 p.b.rl, u16 p.b.rb, g, h, .int .i64 p.acks, .int .i64 p.got, .bool p.wrong]
/-- A pair in memory: its block, and its two slices. -/
def PR (b : Nat) (ga : Option Addr) (gc : Nat) (ha : Option Addr) (hc : Nat) (p : Pair) (h : List Res) : List Res :=
  .pt b (.cells (pairC p (.slice ga p.gave.length gc) (.slice ha p.heard.length hc)).toArray 58 (0, 0)) :: .row (.slice ga p.gave.length gc) 5 1 p.gave.length (fl encB p.gave) :: .row (.slice ha p.heard.length hc) 5 1 p.heard.length (fl encB p.heard) :: h
/-- What a bit carried makes of what was heard. -/
def heardBy (p : Pair) (k : Heard) : Pair :=
  if k.kind == 1#8 then { p with heard := p.heard ++ [k.by_] }
  else if k.kind == 2#8 then { p with got := p.got + 1 }
  else if k.kind == 3#8 then { p with wrong := true }
  else p
def judge (p : Pair) (bit : Int) : Pair := { p with wrong := p.wrong || decide (bit < 0) || decide (bit > 1) || decide ((p.heard.length : Int) > p.gave.length) || decide (p.got > p.acks) }
def moved (p : Pair) : Pair := { p with a := (tx p.a).1, b := (rx p.b (tx p.a).2).1 }
def carry (p : Pair) : Pair := judge (heardBy (moved p) (rx p.b (tx p.a).2).2) (tx p.a).2
def giveD (p : Pair) (b : BitVec 8) : Pair :=
  if p.a.data then { p with wrong := p.wrong || ((send p.a b).2 != 8) }
  else { p with wrong := p.wrong || ((send p.a b).2 != 0) || !(send p.a b).1.data || (((send p.a b).1.by_.toNat : Int) != (b.toNat : Int)), a := (send p.a b).1, gave := p.gave ++ [b] }
def giveA (p : Pair) : Pair :=
  if p.a.ack then { p with wrong := p.wrong || ((Go.Ser.ack p.a).2 != 8) }
  else { p with wrong := p.wrong || ((Go.Ser.ack p.a).2 != 0) || !(Go.Ser.ack p.a).1.ack, a := (Go.Ser.ack p.a).1, acks := p.acks + 1 }
/-- The chapter's example, bit by bit. -/
def awS : Nat → Ser × List Int
  | 0 => ((send zeroS 5#8).1, [])
  | k + 1 => ((tx (awS k).1).1, (awS k).2 ++ [(tx (awS k).1).2])
theorem awS_len : ∀ k, (awS k).2.length = k
  | 0 => rfl
  | k + 1 => by simp [awS, awS_len k]
theorem awS_I64 : ∀ k, I64 (awS k).1
  | 0 => ⟨by decide, by decide, by decide, by decide⟩
  | k + 1 => tx_I64 (awS_I64 k)
theorem zero_I64 : I64 zeroS := ⟨by decide, by decide, by decide, by decide⟩
/-- A step of a script. -/
structure Stp where
  what : BitVec 8
  by_ : BitVec 8
def encS (x : Stp) : List Value := [u8 x.what, u8 x.by_]
theorem encS_len (x : Stp) : (encS x).length = 2 := rfl
end Go.Ser

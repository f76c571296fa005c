/- The checksum, as plain functions. -/
import Derived.Test.YtdfobghpbbohdaaEng5
namespace Go.Obj
open Go Go.Eng

def crcP : BitVec 32 := 0xEDB88320#32
def st1 (r : BitVec 32) : BitVec 32 := (r >>> 1) ^^^ (if r.getLsbD 0 then crcP else 0#32)
def itn {α : Type} (f : α → α) : Nat → α → α
  | 0, x => x
  | n + 1, x => itn f n (f x)
theorem itn_succ {α : Type} (f : α → α) : ∀ (n : Nat) (x : α), itn f (n + 1) x = f (itn f n x)
  | 0, _ => rfl
  | n + 1, x => itn_succ f n (f x)
def ext8 (b : UInt8) : BitVec 32 := BitVec.ofNat 32 b.toNat
def crcB (r : BitVec 32) (b : UInt8) : BitVec 32 := itn st1 8 (r ^^^ ext8 b)
def crcR (bs : List UInt8) : BitVec 32 := bs.foldl crcB (BitVec.allOnes 32)
def crc (bs : List UInt8) : BitVec 32 := ~~~ crcR bs

def u32 (r : BitVec 32) : Value := .int .u32 (r.toNat : Int)

theorem ofInt_toNat (r : BitVec 32) : BitVec.ofInt 32 (r.toNat : Int) = r := by
  apply BitVec.eq_of_toNat_eq
  rw [BitVec.toNat_ofInt]
  have := r.isLt
  have e : ((r.toNat : Int) % ((2 ^ 32 : Nat) : Int)).toNat = r.toNat % 2 ^ 32 := by omega
  rw [e, Nat.mod_eq_of_lt this]

theorem wrap_u32 (r : BitVec 32) : IntKind.u32.wrap (r.toNat : Int) = r.toNat := by
  have := r.isLt
  simp [IntKind.wrap, IntKind.signed, IntKind.bits]
  omega

theorem bxor_u32 (a b : BitVec 32) : bxor .u32 a.toNat b.toNat = (a ^^^ b).toNat := by
  unfold bxor
  show IntKind.u32.wrap ((BitVec.ofInt 32 (a.toNat : Int) ^^^ BitVec.ofInt 32 (b.toNat : Int)).toNat : Int) = _
  rw [ofInt_toNat, ofInt_toNat, wrap_u32]
theorem band_u32 (a b : BitVec 32) : band .u32 a.toNat b.toNat = (a &&& b).toNat := by
  unfold band
  show IntKind.u32.wrap ((BitVec.ofInt 32 (a.toNat : Int) &&& BitVec.ofInt 32 (b.toNat : Int)).toNat : Int) = _
  rw [ofInt_toNat, ofInt_toNat, wrap_u32]
theorem bor_u32 (a b : BitVec 32) : bor .u32 a.toNat b.toNat = (a ||| b).toNat := by
  unfold bor
  show IntKind.u32.wrap ((BitVec.ofInt 32 (a.toNat : Int) ||| BitVec.ofInt 32 (b.toNat : Int)).toNat : Int) = _
  rw [ofInt_toNat, ofInt_toNat, wrap_u32]
theorem bshr_u32 (a : BitVec 32) (k : Nat) (hk : k ≤ 32) : bshr .u32 a.toNat k = (a >>> k).toNat := by
  unfold bshr
  have e : min (k : Int).toNat IntKind.u32.bits = k := by simp [IntKind.bits]; omega
  rw [e, BitVec.toNat_ushiftRight, Nat.shiftRight_eq_div_pow]
  rw [Int.fdiv_eq_ediv_of_nonneg _ (Int.pow_nonneg (by omega))]
  simp

/-- object.Sum's step, as the machine has it. -/
theorem st1_int (r : BitVec 32) : bxor .u32 (bshr .u32 r.toNat 1) (IntKind.u32.wrap (3988292384 * band .u32 r.toNat 1)) = ((st1 r).toNat : Int) := by
  have h1 : bshr .u32 r.toNat 1 = ((r >>> 1).toNat : Int) := bshr_u32 r 1 (by omega)
  have h2 : band .u32 r.toNat 1 = ((r &&& 1#32).toNat : Int) := band_u32 r 1#32
  rw [h1, h2]
  have h3 : IntKind.u32.wrap (3988292384 * ((r &&& 1#32).toNat : Int)) = ((if r.getLsbD 0 then crcP else 0#32).toNat : Int) := by
    have e : (r &&& 1#32).toNat = if r.getLsbD 0 then 1 else 0 := by
      rw [BitVec.toNat_and]
      have : (1#32).toNat = 1 := rfl
      rw [this, Nat.and_one_is_mod]
      simp only [BitVec.getLsbD, Nat.testBit_zero]
      have := Nat.mod_two_eq_zero_or_one r.toNat
      rcases this with h | h <;> simp [h]
    rw [e]
    split <;> rfl
  rw [h3, bxor_u32]
  rfl

theorem crcR_snoc (bs : List UInt8) (b : UInt8) : crcR (bs ++ [b]) = crcB (crcR bs) b := by simp [crcR]
theorem crcR_take (bs : List UInt8) (k : Nat) (b : UInt8) (h : bs[k]? = some b) : crcR (bs.take (k + 1)) = crcB (crcR (bs.take k)) b := by
  have hk : k < bs.length := by
    rcases Nat.lt_or_ge k bs.length with h' | h'
    · exact h'
    · rw [List.getElem?_eq_none h'] at h; cases h
  rw [List.take_succ_eq_append_getElem hk, crcR_snoc]
  congr 1
  rw [List.getElem?_eq_getElem hk] at h; exact Option.some.inj h

theorem ext8_int (b : UInt8) : IntKind.u32.wrap (b.toNat : Int) = ((ext8 b).toNat : Int) := by
  have := b.toNat_lt
  simp [IntKind.wrap, IntKind.signed, IntKind.bits, ext8]
  omega

theorem compl_u32 (a : BitVec 32) : bxor .u32 (if IntKind.u32.signed = true then -1 else IntKind.u32.max) a.toNat = ((~~~ a).toNat : Int) := by
  have e : (if IntKind.u32.signed = true then (-1 : Int) else IntKind.u32.max) = ((BitVec.allOnes 32).toNat : Int) := by decide
  rw [e, bxor_u32, BitVec.allOnes_xor]

/- The reference's register and byte, shifted side by side. -/
def stR (p : BitVec 32 × BitVec 32) : BitVec 32 × BitVec 32 := (p.1 >>> 1, (p.2 >>> 1) ^^^ (if (p.1 ^^^ p.2).getLsbD 0 then crcP else 0#32))
theorem stR_xor (p : BitVec 32 × BitVec 32) : (stR p).1 ^^^ (stR p).2 = st1 (p.1 ^^^ p.2) := by
  unfold stR st1
  simp only [BitVec.ushiftRight_xor_distrib, BitVec.xor_assoc]
theorem itn_stR (p : BitVec 32 × BitVec 32) : ∀ j, (itn stR j p).1 ^^^ (itn stR j p).2 = itn st1 j (p.1 ^^^ p.2) ∧ (itn stR j p).1 = p.1 >>> j
  | 0 => ⟨rfl, by simp [itn]⟩
  | j + 1 => by
    obtain ⟨h1, h2⟩ := itn_stR p j
    rw [itn_succ, itn_succ, stR_xor, h1]
    refine ⟨rfl, ?_⟩
    show (itn stR j p).1 >>> 1 = _
    rw [h2, ← BitVec.shiftRight_add]
theorem itn_stR8 (r : BitVec 32) (b : UInt8) : (itn stR 8 (ext8 b, r)).2 = crcB r b := by
  obtain ⟨h1, h2⟩ := itn_stR (ext8 b, r) 8
  have h3 : (ext8 b) >>> 8 = 0#32 := by
    apply BitVec.eq_of_toNat_eq
    have := b.toNat_lt
    simp [ext8, Nat.shiftRight_eq_div_pow]
    omega
  rw [h2, h3] at h1
  rw [BitVec.zero_xor] at h1
  rw [h1, BitVec.xor_comm]
  rfl

theorem half_u32 (a : BitVec 32) : IntKind.u32.wrap ((a.toNat : Int).tdiv 2) = ((a >>> 1).toNat : Int) := by
  rw [BitVec.toNat_ushiftRight, Nat.shiftRight_eq_div_pow]
  have := a.isLt
  rw [Int.tdiv_eq_ediv_of_nonneg (by omega)]
  simp [IntKind.wrap, IntKind.signed, IntKind.bits]
  omega
theorem feed_u32 (a b : BitVec 32) : ((bxor .u32 a.toNat b.toNat).tmod 2 == 1) = (a ^^^ b).getLsbD 0 := by
  rw [bxor_u32]
  simp only [BitVec.getLsbD, Nat.testBit_zero]
  rw [Int.tmod_eq_emod_of_nonneg (by omega)]
  have h := Nat.mod_two_eq_zero_or_one (a ^^^ b).toNat
  rcases h with h | h
  · have : ((a ^^^ b).toNat : Int) % 2 = 0 := by omega
    rw [this, h]; rfl
  · have : ((a ^^^ b).toNat : Int) % 2 = 1 := by omega
    rw [this, h]; rfl
theorem feed_int (a b : BitVec 32) : (bxor .u32 a.toNat b.toNat).tmod 2 = (((a ^^^ b).toNat % 2 : Nat) : Int) := by
  rw [bxor_u32, Int.tmod_eq_emod_of_nonneg (by omega)]
  omega
theorem neg_u32 (a : BitVec 32) : IntKind.u32.wrap (4294967295 - (a.toNat : Int)) = ((~~~ a).toNat : Int) := by
  have := a.isLt
  rw [BitVec.toNat_not]
  simp [IntKind.wrap, IntKind.signed, IntKind.bits]
  omega

/- Four bytes. -/
def le4 (n : Nat) : List UInt8 := [UInt8.ofNat n, UInt8.ofNat (n / 256), UInt8.ofNat (n / 65536), UInt8.ofNat (n / 16777216)]
def rd4 : List UInt8 → Nat
  | b0 :: b1 :: b2 :: b3 :: _ => b0.toNat + 256 * b1.toNat + 65536 * b2.toNat + 16777216 * b3.toNat
  | _ => 0
theorem rd4_le4 (n : Nat) (h : n < 4294967296) (l : List UInt8) : rd4 (le4 n ++ l) = n := by
  simp [rd4, le4]
  omega
theorem rd4_lt (bs : List UInt8) : rd4 bs < 4294967296 := by
  match bs with
  | b0 :: b1 :: b2 :: b3 :: _ =>
    have h0 := b0.toNat_lt; have h1 := b1.toNat_lt; have h2 := b2.toNat_lt; have h3 := b3.toNat_lt
    simp only [rd4]
    omega
  | [] | [_] | [_, _] | [_, _, _] => simp [rd4]
theorem le4_rd4 (b0 b1 b2 b3 : UInt8) (l : List UInt8) : le4 (rd4 (b0 :: b1 :: b2 :: b3 :: l)) = [b0, b1, b2, b3] := by
  have h0 := b0.toNat_lt; have h1 := b1.toNat_lt; have h2 := b2.toNat_lt; have h3 := b3.toNat_lt
  simp only [le4, rd4]
  congr 1
  · apply UInt8.toNat_inj.1; simp <;> omega
  congr 1
  · apply UInt8.toNat_inj.1; simp <;> omega
  congr 1
  · apply UInt8.toNat_inj.1; simp <;> omega
  congr 1
  · apply UInt8.toNat_inj.1; simp <;> omega

theorem byte_wrap (x : Nat) : IntKind.u8.wrap (x : Int) = ((UInt8.ofNat x).toNat : Int) := by
  simp [IntKind.wrap, IntKind.signed, IntKind.bits]
theorem byte_tmod (x : Nat) : IntKind.u8.wrap ((x : Int).tmod 256) = ((UInt8.ofNat x).toNat : Int) := by
  rw [Int.tmod_eq_emod_of_nonneg (by omega)]
  simp [IntKind.wrap, IntKind.signed, IntKind.bits]
theorem u32_tdiv (x k : Nat) (hx : x < 4294967296) (_ : 0 < k) : IntKind.u32.wrap ((x : Int).tdiv k) = ((x / k : Nat) : Int) := by
  rw [Int.tdiv_eq_ediv_of_nonneg (by omega)]
  have : x / k ≤ x := Nat.div_le_self x k
  rw [← Int.natCast_ediv]
  generalize x / k = y at this ⊢
  simp [IntKind.wrap, IntKind.signed, IntKind.bits]
  omega
theorem u32_shr (x k : Nat) (hk : k ≤ 32) : bshr .u32 x k = ((x / 2 ^ k : Nat) : Int) := by
  unfold bshr
  have e : min (k : Int).toNat IntKind.u32.bits = k := by simp [IntKind.bits]; omega
  rw [e, Int.fdiv_eq_ediv_of_nonneg _ (Int.pow_nonneg (by omega))]
  simp

theorem bor_nat (x y : Nat) (hx : x < 4294967296) (hy : y < 4294967296) : bor .u32 x y = ((x ||| y : Nat) : Int) := by
  have h := bor_u32 (BitVec.ofNat 32 x) (BitVec.ofNat 32 y)
  have ex : (BitVec.ofNat 32 x).toNat = x := by simp; omega
  have ey : (BitVec.ofNat 32 y).toNat = y := by simp; omega
  rw [ex, ey, BitVec.toNat_or, ex, ey] at h
  exact h
theorem or_add (x y k : Nat) (h : x < 2 ^ k) : x ||| (y * 2 ^ k) = x + y * 2 ^ k := by
  rw [← Nat.shiftLeft_eq, Nat.or_comm, ← Nat.shiftLeft_add_eq_or_of_lt h]
  omega
theorem bshl_nat (x k : Nat) (hk : k ≤ 32) (h : x * 2 ^ k < 4294967296) : bshl .u32 x k = ((x * 2 ^ k : Nat) : Int) := by
  unfold bshl
  have e : min (k : Int).toNat IntKind.u32.bits = k := by simp [IntKind.bits]; omega
  have e2 : (2 : Int) ^ k = ((2 ^ k : Nat) : Int) := by simp
  rw [e, e2, ← Int.natCast_mul]
  generalize x * 2 ^ k = y at h
  simp [IntKind.wrap, IntKind.signed, IntKind.bits]
  omega
theorem u32_nat (x : Nat) (h : x < 4294967296) : IntKind.u32.wrap (x : Int) = x := by
  simp [IntKind.wrap, IntKind.signed, IntKind.bits]
  omega
theorem i64_nat (x : Nat) (h : x < 4294967296) : IntKind.i64.wrap (x : Int) = x := by
  simp [IntKind.wrap_i64]
  omega
theorem word_int (b0 b1 b2 b3 : UInt8) (l : List UInt8) :
    IntKind.i64.wrap (bor .u32 (bor .u32 (bor .u32 (IntKind.u32.wrap b0.toNat) (bshl .u32 (IntKind.u32.wrap b1.toNat) 8)) (bshl .u32 (IntKind.u32.wrap b2.toNat) 16)) (bshl .u32 (IntKind.u32.wrap b3.toNat) 24)) = (rd4 (b0 :: b1 :: b2 :: b3 :: l) : Int) := by
  have h0 := b0.toNat_lt; have h1 := b1.toNat_lt; have h2 := b2.toNat_lt; have h3 := b3.toNat_lt
  rw [u32_nat _ (by omega), u32_nat _ (by omega), u32_nat _ (by omega), u32_nat _ (by omega)]
  have e8 : bshl .u32 (b1.toNat : Int) 8 = _ := bshl_nat b1.toNat 8 (by omega) (by omega)
  have e16 : bshl .u32 (b2.toNat : Int) 16 = _ := bshl_nat b2.toNat 16 (by omega) (by omega)
  have e24 : bshl .u32 (b3.toNat : Int) 24 = _ := bshl_nat b3.toNat 24 (by omega) (by omega)
  rw [e8, e16, e24, bor_nat _ _ (by omega) (by omega), or_add _ _ 8 (by omega), bor_nat _ _ (by omega) (by omega), or_add _ _ 16 (by omega), bor_nat _ _ (by omega) (by omega), or_add _ _ 24 (by omega), i64_nat _ (by omega)]
  simp only [rd4]
  omega
theorem number_int (b0 b1 b2 b3 : UInt8) (l : List UInt8) :
    IntKind.u32.wrap (IntKind.u32.wrap (IntKind.u32.wrap (IntKind.u32.wrap b0.toNat + IntKind.u32.wrap (256 * IntKind.u32.wrap b1.toNat)) + IntKind.u32.wrap (65536 * IntKind.u32.wrap b2.toNat)) + IntKind.u32.wrap (16777216 * IntKind.u32.wrap b3.toNat)) = (rd4 (b0 :: b1 :: b2 :: b3 :: l) : Int) := by
  have h0 := b0.toNat_lt; have h1 := b1.toNat_lt; have h2 := b2.toNat_lt; have h3 := b3.toNat_lt
  simp only [rd4]
  simp [IntKind.wrap, IntKind.signed, IntKind.bits]
  omega

def magic : List UInt8 := [0x74, 0x6f, 0x62, 0x31]
def body (code : List UInt8) (e a b : Nat) : List UInt8 := magic ++ le4 code.length ++ le4 e ++ le4 a ++ le4 b ++ code
def enc (code : List UInt8) (e a b : Nat) : List UInt8 := body code e a b ++ le4 (crc (body code e a b)).toNat
theorem enc_len (code : List UInt8) (e a b : Nat) : (enc code e a b).length = code.length + 24 := by simp [enc, body, magic, le4]
theorem body_len (code : List UInt8) (e a b : Nat) : (body code e a b).length = code.length + 20 := by simp [body, magic, le4]

def zer (k : Nat) : List Value := List.replicate k (.int .u8 0)
theorem splice_pre (pre ys : List UInt8) (k : Nat) : (bv pre ++ zer (ys.length + k)).take pre.length ++ bv ys ++ (bv pre ++ zer (ys.length + k)).drop (pre.length + ys.length) = bv (pre ++ ys) ++ zer k := by
  have e1 : (bv pre ++ zer (ys.length + k)).take pre.length = bv pre := by rw [← bv_len pre]; exact List.take_left
  have e2 : (bv pre ++ zer (ys.length + k)).drop (pre.length + ys.length) = zer k := by
    rw [List.drop_append, bv_len, List.drop_of_length_le (by rw [bv_len]; omega)]
    simp [zer]
  rw [e1, e2]
  simp [bv]
theorem bv_take (xs : List UInt8) (k : Nat) : (bv xs).take k = bv (xs.take k) := by simp [bv]
theorem bv_drop (xs : List UInt8) (k : Nat) : (bv xs).drop k = bv (xs.drop k) := by simp [bv]

theorem len_u32 (n : Nat) (h : n ≤ 32768) : IntKind.u32.wrap (n : Int) = n := u32_nat n (by omega)
theorem int_u32 (x : Int) (h0 : 0 ≤ x) (h : x < 4294967296) : IntKind.u32.wrap x = (x.toNat : Int) := by
  obtain ⟨n, rfl⟩ := Int.eq_ofNat_of_zero_le h0
  exact u32_nat n (by omega)
theorem b0_int (n : Nat) (_ : n < 4294967296) : IntKind.u8.wrap ((n : Int).tmod 256) = ((UInt8.ofNat n).toNat : Int) := byte_tmod n
theorem b1_int (n : Nat) (h : n < 4294967296) : IntKind.u8.wrap ((IntKind.u32.wrap ((n : Int).tdiv 256)).tmod 256) = ((UInt8.ofNat (n / 256)).toNat : Int) := by
  have e := u32_tdiv n 256 h (by omega)
  have e' : IntKind.u32.wrap ((n : Int).tdiv 256) = ((n / 256 : Nat) : Int) := e
  rw [e', byte_tmod]
theorem b2_int (n : Nat) (h : n < 4294967296) : IntKind.u8.wrap ((IntKind.u32.wrap ((n : Int).tdiv 65536)).tmod 256) = ((UInt8.ofNat (n / 65536)).toNat : Int) := by
  have e' : IntKind.u32.wrap ((n : Int).tdiv 65536) = ((n / 65536 : Nat) : Int) := u32_tdiv n 65536 h (by omega)
  rw [e', byte_tmod]
theorem b3_int (n : Nat) (h : n < 4294967296) : IntKind.u8.wrap (IntKind.u32.wrap ((n : Int).tdiv 16777216)) = ((UInt8.ofNat (n / 16777216)).toNat : Int) := by
  have e' : IntKind.u32.wrap ((n : Int).tdiv 16777216) = ((n / 16777216 : Nat) : Int) := u32_tdiv n 16777216 h (by omega)
  rw [e', byte_wrap]
theorem c1_int (n : Nat) : IntKind.u8.wrap (bshr .u32 n 8) = ((UInt8.ofNat (n / 256)).toNat : Int) := by
  have e' : bshr .u32 (n : Int) 8 = ((n / 256 : Nat) : Int) := u32_shr n 8 (by omega)
  rw [e', byte_wrap]
theorem c2_int (n : Nat) : IntKind.u8.wrap (bshr .u32 n 16) = ((UInt8.ofNat (n / 65536)).toNat : Int) := by
  have e' : bshr .u32 (n : Int) 16 = ((n / 65536 : Nat) : Int) := u32_shr n 16 (by omega)
  rw [e', byte_wrap]
theorem c3_int (n : Nat) : IntKind.u8.wrap (bshr .u32 n 24) = ((UInt8.ofNat (n / 16777216)).toNat : Int) := by
  have e' : bshr .u32 (n : Int) 24 = ((n / 16777216 : Nat) : Int) := u32_shr n 24 (by omega)
  rw [e', byte_wrap]
theorem Rd_pre {m : View} {h : List Res} {a : Option Addr} {n cap : Nat} {xs : List UInt8} {r : List Value} (s : Rd m h a n cap 1 (bv xs ++ r)) (hk : xs.length ≤ n) : Rd m h (sl1 a 0 cap 1) xs.length cap 1 (bv xs) := by
  have := s.sub (l := 0) (k := xs.length) (Nat.zero_le _) hk
  have e : (bv xs ++ r).take xs.length = bv xs := by rw [← bv_len xs]; exact List.take_left
  simpa [e] using this
theorem start_row (n : Nat) : bv magic ++ List.drop magic.length (List.replicate (n + 24) (Value.int .u8 0)) = bv magic ++ zer (4 + (4 + (4 + (4 + (n + 4))))) := by
  simp only [List.drop_replicate, zer]
  congr 2
  have : magic.length = 4 := rfl
  omega
theorem u32_of (x : Int) (h0 : 0 ≤ x) (h : x ≤ 32768) : IntKind.u32.wrap x = (x.toNat : Int) := int_u32 x h0 (by omega)
theorem bv_app (xs ys : List UInt8) : bv xs ++ bv ys = bv (xs ++ ys) := by simp [bv]
theorem enc_row (bd : List UInt8) : bv (bd ++ le4 (crc bd).toNat) ++ zer 0 = bv (bd ++ le4 (crc bd).toNat) := by simp [zer]
end Go.Obj

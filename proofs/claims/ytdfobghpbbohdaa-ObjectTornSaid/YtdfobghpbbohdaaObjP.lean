/- The checksum is affine; torn encodings: the checksum tells a burst of up to 32 bits, the length tells the rest. -/
import Derived.Test.YtdfobghpbbohdaaObjM
namespace Go.Obj
open Go Go.Eng

theorem bit_xor (a b : BitVec 32) : (if (a ^^^ b).getLsbD 0 then crcP else 0#32) = (if a.getLsbD 0 then crcP else 0#32) ^^^ (if b.getLsbD 0 then crcP else 0#32) := by
  rw [BitVec.getLsbD_xor]
  cases a.getLsbD 0 <;> cases b.getLsbD 0 <;> simp
theorem xor_mid (a b c d : BitVec 32) : (a ^^^ b) ^^^ (c ^^^ d) = (a ^^^ c) ^^^ (b ^^^ d) := by
  simp only [BitVec.xor_assoc]
  congr 1
  rw [← BitVec.xor_assoc, ← BitVec.xor_assoc, BitVec.xor_comm b c]
theorem st1_xor (a b : BitVec 32) : st1 (a ^^^ b) = st1 a ^^^ st1 b := by
  unfold st1
  rw [bit_xor, BitVec.ushiftRight_xor_distrib, xor_mid]
theorem itn_xor : ∀ (n : Nat) (a b : BitVec 32), itn st1 n (a ^^^ b) = itn st1 n a ^^^ itn st1 n b
  | 0, _, _ => rfl
  | n + 1, a, b => by simp only [itn]; rw [st1_xor, itn_xor n]
theorem ext8_xor (a b : UInt8) : ext8 (a ^^^ b) = ext8 a ^^^ ext8 b := by
  apply BitVec.eq_of_toNat_eq
  have := a.toNat_lt; have := b.toNat_lt
  have hx : (a.toNat ^^^ b.toNat) < 2 ^ 8 := Nat.xor_lt_two_pow (by omega) (by omega)
  simp only [ext8, UInt8.toNat_xor, BitVec.toNat_ofNat, BitVec.toNat_xor]
  rw [Nat.mod_eq_of_lt (by omega), Nat.mod_eq_of_lt (by omega), Nat.mod_eq_of_lt (by omega)]
theorem crcB_xor (r s : BitVec 32) (a b : UInt8) : crcB (r ^^^ s) (a ^^^ b) = crcB r a ^^^ crcB s b := by
  unfold crcB
  rw [ext8_xor, xor_mid, itn_xor]
/-- Three lists, byte by byte. -/
def x3 : List UInt8 → List UInt8 → List UInt8 → List UInt8
  | a :: us, b :: bs, c :: cs => ((a ^^^ b) ^^^ c) :: x3 us bs cs
  | _, _, _ => []
theorem x3_len : ∀ (us bs cs : List UInt8), (x3 us bs cs).length = min us.length (min bs.length cs.length)
  | a :: us, b :: bs, c :: cs => by simp [x3, x3_len us bs cs]
  | [], _, _ => by simp [x3]
  | _ :: _, [], _ => by simp [x3]
  | _ :: _, _ :: _, [] => by simp [x3]
theorem x3_get : ∀ (us bs cs : List UInt8) (i : Nat) (a b c : UInt8), us[i]? = some a → bs[i]? = some b → cs[i]? = some c → (x3 us bs cs)[i]? = some ((a ^^^ b) ^^^ c)
  | a :: us, b :: bs, c :: cs, 0, _, _, _, h1, h2, h3 => by
    simp only [List.getElem?_cons_zero, Option.some.injEq] at h1 h2 h3
    subst h1 h2 h3; rfl
  | _ :: us, _ :: bs, _ :: cs, i + 1, a, b, c, h1, h2, h3 => by
    simp only [List.getElem?_cons_succ] at h1 h2 h3
    simp only [x3, List.getElem?_cons_succ]
    exact x3_get us bs cs i a b c h1 h2 h3
  | [], _, _, _, _, _, _, h1, _, _ => by simp at h1
  | _ :: _, [], _, _, _, _, _, _, h2, _ => by simp at h2
  | _ :: _, _ :: _, [], _, _, _, _, _, _, h3 => by simp at h3
theorem fold3 : ∀ (us bs cs : List UInt8) (r s t : BitVec 32), us.length = bs.length → bs.length = cs.length →
    (x3 us bs cs).foldl crcB ((r ^^^ s) ^^^ t) = (us.foldl crcB r ^^^ bs.foldl crcB s) ^^^ cs.foldl crcB t
  | [], [], [], _, _, _, _, _ => rfl
  | a :: us, b :: bs, c :: cs, r, s, t, h1, h2 => by
    simp only [List.length_cons, Nat.succ.injEq] at h1 h2
    simp only [x3, List.foldl_cons]
    rw [crcB_xor, crcB_xor, fold3 us bs cs _ _ _ h1 h2]
  | [], [], _ :: _, _, _, _, _, h2 => by simp at h2
  | [], _ :: _, _, _, _, _, h1, _ => by simp at h1
  | _ :: _, [], _, _, _, _, h1, _ => by simp at h1
  | _ :: _, _ :: _, [], _, _, _, _, h2 => by simp at h2
theorem not3 (a b c : BitVec 32) : ~~~ ((a ^^^ b) ^^^ c) = (~~~ a ^^^ ~~~ b) ^^^ ~~~ c := by
  apply BitVec.eq_of_getLsbD_eq
  intro i hi
  simp only [BitVec.getLsbD_xor, BitVec.getLsbD_not, hi, decide_true, Bool.true_and]
  cases a.getLsbD i <;> cases b.getLsbD i <;> cases c.getLsbD i <;> rfl
theorem crc_x3 (us bs cs : List UInt8) (h1 : us.length = bs.length) (h2 : bs.length = cs.length) : crc (x3 us bs cs) = (crc us ^^^ crc bs) ^^^ crc cs := by
  unfold crc crcR
  rw [← not3, ← fold3 us bs cs _ _ _ h1 h2, BitVec.xor_self, BitVec.zero_xor]
theorem x3_take : ∀ (us bs cs : List UInt8) (n : Nat), x3 (us.take n) (bs.take n) (cs.take n) = (x3 us bs cs).take n
  | _, _, _, 0 => by simp [x3]
  | a :: us, b :: bs, c :: cs, n + 1 => by simp [x3, x3_take us bs cs n]
  | [], _, _, _ + 1 => by simp [x3]
  | _ :: _, [], _, _ + 1 => by simp [x3]
  | _ :: _, _ :: _, [], _ + 1 => by simp [x3]
theorem bxor_u8 (a b : UInt8) : bxor .u8 (a.toNat : Int) (b.toNat : Int) = (((a ^^^ b).toNat : Nat) : Int) := by
  have ha := a.toNat_lt; have hb := b.toNat_lt
  have hx : (a.toNat ^^^ b.toNat) < 2 ^ 8 := Nat.xor_lt_two_pow (by omega) (by omega)
  unfold bxor
  show IntKind.u8.wrap ((BitVec.ofInt 8 (a.toNat : Int) ^^^ BitVec.ofInt 8 (b.toNat : Int)).toNat : Int) = _
  have e : ∀ x : Nat, (BitVec.ofInt 8 (x : Int)) = BitVec.ofNat 8 x := fun x => by apply BitVec.eq_of_toInt_eq; simp
  rw [e, e, BitVec.toNat_xor, BitVec.toNat_ofNat, BitVec.toNat_ofNat, Nat.mod_eq_of_lt (by omega), Nat.mod_eq_of_lt (by omega), UInt8.toNat_xor]
  simp [IntKind.wrap, IntKind.signed, IntKind.bits]
  omega
theorem set_row (X : List UInt8) (i k : Nat) (b : UInt8) (h : X[i]? = some b) : (bv (X.take i) ++ zer (k + 1)).set i (.int .u8 b.toNat) = bv (X.take (i + 1)) ++ zer k := by
  have hi : i < X.length := (List.getElem?_eq_some_iff.1 h).1
  have hl : (bv (X.take i)).length = i := by rw [bv_len]; simp; omega
  rw [List.set_append_right _ _ (by omega), hl, Nat.sub_self]
  rw [List.take_succ_eq_append_getElem hi]
  rw [List.getElem?_eq_getElem hi] at h
  rw [Option.some.inj h]
  simp [zer, bv, List.replicate_succ]

theorem st1_inj {a : BitVec 32} (h : st1 a = 0#32) : a = 0#32 := by
  unfold st1 at h
  have hb : a.getLsbD 0 = false := by
    have := congrArg (fun r : BitVec 32 => r.getLsbD 31) h
    cases hq : a.getLsbD 0 with
    | false => rfl
    | true => rw [hq] at this; simp [crcP] at this
  rw [hb] at h
  simp only [Bool.false_eq_true, if_false, BitVec.xor_zero] at h
  apply BitVec.eq_of_getLsbD_eq
  intro i hi
  rcases Nat.eq_zero_or_pos i with rfl | h0
  · simpa using hb
  · have := congrArg (fun r : BitVec 32 => r.getLsbD (i - 1)) h
    simp only [BitVec.getLsbD_ushiftRight, BitVec.getLsbD_zero] at this
    rw [show 1 + (i - 1) = i by omega] at this
    simpa using this
theorem itn_inj : ∀ (n : Nat) {a : BitVec 32}, itn st1 n a = 0#32 → a = 0#32
  | 0, _, h => h
  | n + 1, _, h => st1_inj (itn_inj n h)
theorem itn_add {α : Type} (f : α → α) : ∀ (m n : Nat) (x : α), itn f (m + n) x = itn f n (itn f m x)
  | 0, n, x => by simp [itn]
  | m + 1, n, x => by rw [show m + 1 + n = (m + n) + 1 by omega]; simp only [itn]; rw [itn_add f m n]
theorem itn_zero : ∀ n : Nat, itn st1 n 0#32 = 0#32
  | 0 => rfl
  | n + 1 => by simp only [itn]; rw [show st1 0#32 = 0#32 from rfl]; exact itn_zero n
/-- A single bit, down to the lowest place. -/
theorem itn_bit : ∀ (i : Nat), i < 32 → itn st1 i (1#32 <<< i) = 1#32
  | 0, _ => rfl
  | i + 1, h => by
    have e : st1 (1#32 <<< (i + 1)) = 1#32 <<< i := by
      unfold st1
      have h0 : (1#32 <<< (i + 1)).getLsbD 0 = false := by simp
      rw [h0]
      simp only [Bool.false_eq_true, if_false, BitVec.xor_zero]
      apply BitVec.eq_of_getLsbD_eq
      intro k hk
      simp only [BitVec.getLsbD_ushiftRight, BitVec.getLsbD_shiftLeft, BitVec.getLsbD_one]
      by_cases hki : k = i
      · subst hki
        have h1 : ¬ (1 + k < k + 1) := by omega
        have h2 : 1 + k - (k + 1) = 0 := by omega
        simp [h1, h2, hk, show 1 + k < 32 by omega]
      · by_cases hlt : k < i
        · simp [hlt, show 1 + k < i + 1 by omega]
        · have h1 : ¬ (k - i = 0) := by omega
          have h2 : ¬ (1 + k - (i + 1) = 0) := by omega
          simp [h1, h2]
    simp only [itn]
    rw [e]
    exact itn_bit i (by omega)
theorem fold_xor : ∀ (bs : List UInt8) (r s : BitVec 32), bs.foldl crcB (r ^^^ s) = bs.foldl crcB r ^^^ itn st1 (8 * bs.length) s
  | [], r, s => rfl
  | b :: bs, r, s => by
    simp only [List.foldl_cons, List.length_cons]
    have e : crcB (r ^^^ s) b = crcB r b ^^^ itn st1 8 s := by
      unfold crcB
      rw [BitVec.xor_assoc, BitVec.xor_comm s, ← BitVec.xor_assoc, itn_xor]
    rw [e, fold_xor bs, show 8 * (bs.length + 1) = 8 + 8 * bs.length by omega, itn_add]
/-- One bit of the bytes, inverted. -/
def flipB (bs : List UInt8) (k : Nat) : List UInt8 := bs.modify (k / 8) (fun x => x ^^^ (1 <<< UInt8.ofNat (k % 8)))
theorem flipB_len (bs : List UInt8) (k : Nat) : (flipB bs k).length = bs.length := by simp [flipB]
theorem ext8_bit (j : Nat) (h : j < 8) : ext8 (1 <<< UInt8.ofNat j) = 1#32 <<< j := by
  match j, h with
  | 0, _ | 1, _ | 2, _ | 3, _ | 4, _ | 5, _ | 6, _ | 7, _ => rfl
theorem flipB_fold : ∀ (bs : List UInt8) (k : Nat) (r : BitVec 32), k < 8 * bs.length → (flipB bs k).foldl crcB r = bs.foldl crcB r ^^^ itn st1 (8 * bs.length - k) 1#32
  | [], k, r, h => by simp at h
  | b :: bs, k, r, h => by
    by_cases hk : k < 8
    · have e : flipB (b :: bs) k = (b ^^^ (1 <<< UInt8.ofNat k)) :: bs := by
        unfold flipB
        rw [show k / 8 = 0 by omega, show k % 8 = k by omega]
        rfl
      rw [e]
      simp only [List.foldl_cons]
      have e2 : crcB r (b ^^^ (1 <<< UInt8.ofNat k)) = crcB r b ^^^ itn st1 (8 - k) 1#32 := by
        have e3 : itn st1 8 (1#32 <<< k) = itn st1 (8 - k) 1#32 := by
          rw [show 8 = k + (8 - k) by omega, itn_add, itn_bit k (by omega)]
          congr 1; omega
        unfold crcB
        rw [ext8_xor, ext8_bit k hk, ← BitVec.xor_assoc, itn_xor, e3]
      rw [e2, fold_xor, ← itn_add]
      congr 2
      simp only [List.length_cons]; omega
    · have e : flipB (b :: bs) k = b :: flipB bs (k - 8) := by
        unfold flipB
        rw [show k / 8 = (k - 8) / 8 + 1 by omega, show (k - 8) % 8 = k % 8 by omega]
        rfl
      rw [e]
      simp only [List.foldl_cons, List.length_cons]
      rw [flipB_fold bs (k - 8) _ (by simp at h; omega)]
      congr 2
      omega

/-- The window's bits that flip inverts, of the first j. -/
def win (mask : BitVec 32) (room : Nat) : Nat → BitVec 32
  | 0 => 0#32
  | j + 1 => if mask.getLsbD j && decide (j < room) then win mask room j ^^^ (1#32 <<< j) else win mask room j
def flipN (bs : List UInt8) (p : Nat) (mask : BitVec 32) : Nat → List UInt8
  | 0 => bs
  | j + 1 => if mask.getLsbD j && decide (p + j < 8 * bs.length) then flipB (flipN bs p mask j) (p + j) else flipN bs p mask j
theorem flipN_len (bs : List UInt8) (p : Nat) (mask : BitVec 32) : ∀ j, (flipN bs p mask j).length = bs.length
  | 0 => rfl
  | j + 1 => by unfold flipN; split <;> simp [flipB_len, flipN_len bs p mask j]
theorem flipN_fold (bs : List UInt8) (p : Nat) (hp : p ≤ 8 * bs.length) (mask : BitVec 32) (r : BitVec 32) : ∀ j, j ≤ 32 → (flipN bs p mask j).foldl crcB r = bs.foldl crcB r ^^^ itn st1 (8 * bs.length - p) (win mask (8 * bs.length - p) j)
  | 0, _ => by simp [flipN, win, itn_zero]
  | j + 1, h => by
    have ih := flipN_fold bs p hp mask r j (by omega)
    unfold flipN win
    have e : decide (p + j < 8 * bs.length) = decide (j < 8 * bs.length - p) := by rw [decide_eq_decide]; omega
    rw [e]
    split
    · rename_i hc
      simp only [Bool.and_eq_true, decide_eq_true_eq] at hc
      rw [flipB_fold _ _ _ (by rw [flipN_len]; omega), ih, flipN_len, itn_xor, BitVec.xor_assoc]
      congr 2
      rw [show 8 * bs.length - p = j + (8 * bs.length - (p + j)) by omega, itn_add _ j, itn_bit j (by omega)]
    · exact ih
theorem win_bit0 (mask : BitVec 32) (room : Nat) (h : mask.getLsbD 0 = true) (hr : 0 < room) : ∀ j, 0 < j → (win mask room j).getLsbD 0 = true
  | 1, _ => by simp [win, h, hr]
  | j + 2, _ => by
    have ih := win_bit0 mask room h hr (j + 1) (by omega)
    unfold win
    split
    · simp [ih]
    · exact ih
theorem burst (bs : List UInt8) (p : Nat) (hp : p < 8 * bs.length) (mask : BitVec 32) (h : mask.getLsbD 0 = true) : crcR (flipN bs p mask 32) ≠ crcR bs := by
  intro he
  unfold crcR at he
  rw [flipN_fold bs p (by omega) mask _ 32 (by omega)] at he
  have h0 : itn st1 (8 * bs.length - p) (win mask (8 * bs.length - p) 32) = 0#32 := by
    have := congrArg (fun x => bs.foldl crcB (BitVec.allOnes 32) ^^^ x) he
    simpa [← BitVec.xor_assoc] using this
  have h1 := itn_inj _ h0
  have h2 := win_bit0 mask (8 * bs.length - p) h (by omega) 32 (by omega)
  rw [h1] at h2
  simp at h2

theorem itn8_hi (r : BitVec 32) (bit : ∀ k, k < 8 → r.getLsbD k = false) : itn st1 8 r = r >>> 8 := by
  have step : ∀ x : BitVec 32, x.getLsbD 0 = false → st1 x = x >>> 1 := fun x hx => by unfold st1; rw [hx]; simp
  have go : ∀ k, k ≤ 8 → itn st1 k r = r >>> k := by
    intro k
    induction k with
    | zero => intro _; simp [itn]
    | succ k ih =>
      intro hk
      rw [itn_succ, ih (by omega), step _ (by rw [BitVec.getLsbD_ushiftRight]; exact bit _ (by omega)), ← BitVec.shiftRight_add]
  exact go 8 (Nat.le_refl 8)
def lowB (y : BitVec 32) : UInt8 := UInt8.ofNat y.toNat
theorem ext8_low (y : BitVec 32) (k : Nat) : (ext8 (lowB y)).getLsbD k = (decide (k < 8) && y.getLsbD k) := by
  have e : ext8 (lowB y) = BitVec.ofNat 32 (y.toNat % 2 ^ 8) := by
    apply BitVec.eq_of_toNat_eq
    simp [ext8, lowB]
  rw [e, BitVec.getLsbD_ofNat, Nat.testBit_mod_two_pow]
  by_cases hk : k < 8
  · simp [hk, show k < 32 by omega, BitVec.getLsbD]
  · simp [hk]
theorem itn8_mix (s y : BitVec 32) : itn st1 8 (s ^^^ y) = crcB s (lowB y) ^^^ (y >>> 8) := by
  have e : itn st1 8 (ext8 (lowB y) ^^^ y) = y >>> 8 := by
    rw [itn8_hi _ (fun k hk => by rw [BitVec.getLsbD_xor, ext8_low]; simp [hk])]
    apply BitVec.eq_of_getLsbD_eq
    intro i hi
    rw [BitVec.getLsbD_ushiftRight, BitVec.getLsbD_xor, ext8_low, BitVec.getLsbD_ushiftRight, decide_eq_false (by omega)]
    simp
  rw [← e, crcB, ← itn_xor]
  rw [BitVec.xor_assoc, ← BitVec.xor_assoc (ext8 (lowB y)), BitVec.xor_self, BitVec.zero_xor]
theorem le4_low (x : BitVec 32) : le4 x.toNat = [lowB x, lowB (x >>> 8), lowB (x >>> 16), lowB (x >>> 24)] := by
  simp only [le4, lowB, BitVec.toNat_ushiftRight, Nat.shiftRight_eq_div_pow]
theorem fold_le4 (r x : BitVec 32) : (le4 x.toNat).foldl crcB r = itn st1 32 (r ^^^ x) := by
  rw [le4_low]
  simp only [List.foldl_cons, List.foldl_nil]
  have e0 : ∀ y : BitVec 32, itn st1 32 y = itn st1 8 (itn st1 8 (itn st1 8 (itn st1 8 y))) := fun y => rfl
  rw [e0]
  rw [itn8_mix r x, itn8_mix _ (x >>> 8), ← BitVec.shiftRight_add, itn8_mix _ (x >>> (8 + 8)), ← BitVec.shiftRight_add, itn8_mix _ (x >>> (8 + 8 + 8)), ← BitVec.shiftRight_add]
  have e : x >>> (8 + 8 + 8 + 8) = 0#32 := by
    apply BitVec.eq_of_getLsbD_eq
    intro i hi
    rw [BitVec.getLsbD_ushiftRight]
    simp [BitVec.getLsbD_of_ge]
  rw [e, BitVec.xor_zero]
/-- The register behind bytes and their checksum: always the same. -/
theorem residue (bs : List UInt8) : crcR (bs ++ le4 (crc bs).toNat) = itn st1 32 (BitVec.allOnes 32) := by
  unfold crcR crc
  rw [List.foldl_append, fold_le4]
  congr 1
  show crcR bs ^^^ ~~~ crcR bs = _
  rw [← BitVec.allOnes_xor, BitVec.xor_comm, BitVec.xor_assoc, BitVec.xor_self, BitVec.xor_zero]
theorem enc_residue (code : List UInt8) (e a b : Nat) : crcR (enc code e a b) = itn st1 32 (BitVec.allOnes 32) := residue _
theorem enc_len4 (code : List UInt8) (e a b : Nat) : (enc code e a b).drop 4 = le4 code.length ++ (le4 e ++ (le4 a ++ (le4 b ++ (code ++ le4 (crc (body code e a b)).toNat)))) := by
  unfold enc; generalize (crc (body code e a b)).toNat = k; simp [body, magic, le4]
theorem enc_field (code : List UInt8) (e a b : Nat) (h : code.length ≤ 32768) : rd4 ((enc code e a b).drop 4) = code.length := by
  rw [enc_len4, rd4_le4 _ (by omega)]
end Go.Obj

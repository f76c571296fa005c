/- lex: numbers and their texts, plain. -/
import Derived.Test.YtddnoaffkinkkaaDoorLexSp
namespace Go.Lx
open Go.Ty
set_option maxRecDepth 100000
/-- A token alone on its line. -/
theorem lex_alone {s : B} {t : Tok} (h : tok s = (t, s.length)) (h0 : s ≠ []) (hl : s.length ≤ 256) (ht : t.at_ = 0) : lexO s = ([t], 0, 0) := by
  have h32 : decide ((s.length : Int) > 256) = false := by simp; omega
  rw [lexO_short h32]
  cases s with
  | nil => exact absurd rfl h0
  | cons c r =>
    have hc : c ≠ 32 := by
      rintro rfl
      have := tok_32 r
      rw [h] at this
      simp at this
    have hn : (tok (c :: r)).2 ≠ 0 := by rw [h]; simp
    rw [lx_tok hc hn, h, List.drop_length, lx_nil]
    show ([{ t with at_ := 0 }], (0 : Int), (0 : Int)) = _
    rw [← ht]
theorem lex_bad {c : UInt8} {r : B} (hc : c ≠ 32) (h : (tok (c :: r)).2 = 0) (hl : (c :: r).length ≤ 256) : lexO (c :: r) = ([], 0, 80) := by
  have h32 : decide (((c :: r).length : Int) > 256) = false := by simp only [decide_eq_false_iff_not]; omega
  rw [lexO_short h32, lx_bad hc h]
  rfl
theorem rd_alone {s : B} {v : Int} (h : tok s = (⟨3, 0, [], v⟩, s.length)) (h0 : s ≠ []) (hl : s.length ≤ 256) : rdB s [⟨3, 0, [], v⟩] = true := by
  unfold rdB
  rw [lex_alone h h0 hl rfl]
  show (Eng.eqL sameT [_] [_] && _ && _) = true
  rw [same_self]
  rfl
theorem fl_bad {c : UInt8} {r : B} (hc : c ≠ 32) (h : (tok (c :: r)).2 = 0) (hl : (c :: r).length ≤ 256) : flB (c :: r) 0 = true := by
  unfold flB
  rw [lex_bad hc h hl]
  rfl
/- hexadecimal -/
theorem hexV_zero : ∀ (k : Nat) (l : B), hexV (List.replicate k 48 ++ l) 0 = hexV l 0
  | 0, l => rfl
  | k + 1, l => by
    show (if decide (hexd 48 < 0) then none else hexV (List.replicate k 48 ++ l) (16 * 0 + hexd 48)) = _
    rw [if_neg (by decide)]
    exact hexV_zero k l
theorem drop_zeros (l : B) : ∃ k, l = List.replicate k 48 ++ l.dropWhile (· == 48) := by
  induction l with
  | nil => exact ⟨0, rfl⟩
  | cons c l ih =>
    by_cases h : c = 48
    · subst h
      obtain ⟨k, hk⟩ := ih
      refine ⟨k + 1, ?_⟩
      rw [List.dropWhile_cons, if_pos (by decide), List.replicate_succ, List.cons_append, ← hk]
    · refine ⟨0, ?_⟩
      rw [List.dropWhile_cons, if_neg (by simpa using h)]
      rfl
/-- The text '#' and the digits x is read as the number that x stands for. -/
theorem tok_hash {x : B} {u : Nat} {n : Int} (hw : ∀ c ∈ x, wch c = true) (hl : x.length ≤ 8) (h0 : x ≠ []) (hv : hexV x 0 = some (u : Int)) (hn : IntKind.i32.wrap (u : Int) = n) : tok (35 :: x) = (⟨3, 0, [], n⟩, (35 :: x).length) := by
  have hr : run x = x.length := run_iff _ _ (Nat.le_refl _) (fun c hc => hw c (List.mem_of_mem_take hc)) fun c hc => by
    have := (List.getElem?_eq_some_iff.1 hc).1
    omega
  have hp : hexP x = ((u : Int), true) := by
    unfold hexP
    rw [hv]
    cases x with
    | nil => exact absurd rfl h0
    | cons c x => rfl
  unfold tok
  rw [chB_zero, if_neg (by decide), if_neg (by decide), if_pos (by decide)]
  unfold rHex
  rw [show List.drop 1 (35 :: x) = x from rfl, hr, List.take_length, hp]
  rw [show decide ((x.length : Int) > 8) = false by simp; omega]
  simp only [hn, List.length_cons, Bool.false_eq_true, if_false]
  rw [Nat.add_comm]
  rfl
theorem hex_trim (n : Int) (h : -2147483648 ≤ n ∧ n ≤ 2147483647) : rdB ([35] ++ (((wordP n true).drop 1).take 7).dropWhile (· == 48) ++ (wordP n true).drop 8) [⟨3, 0, [], n⟩] = true := by
  obtain ⟨h1, h2⟩ := wrap_u32 n
  obtain ⟨u, hu⟩ : ∃ u : Nat, IntKind.u32.wrap n = u := ⟨(IntKind.u32.wrap n).toNat, by omega⟩
  have hb := wrap_back h
  rw [hu] at hb h2
  have ew : wordP n true = 35 :: hexDig u 8 := by unfold wordP; rw [if_pos rfl, hu]; rfl
  rw [ew]
  have ed : (35 :: hexDig u 8).drop 1 = hexDig u 8 := rfl
  have ed8 : (35 :: hexDig u 8).drop 8 = (hexDig u 8).drop 7 := rfl
  rw [ed, ed8]
  obtain ⟨k, hk⟩ := drop_zeros ((hexDig u 8).take 7)
  have hx : List.replicate k 48 ++ ((((hexDig u 8).take 7).dropWhile (· == 48)) ++ (hexDig u 8).drop 7) = hexDig u 8 := by
    rw [← List.append_assoc, ← hk, List.take_append_drop]
  generalize (((hexDig u 8).take 7).dropWhile (· == 48)) = y at *
  have hl7 : ((hexDig u 8).drop 7).length = 1 := by rw [List.length_drop, hexDig_len]
  have hv : hexV (y ++ (hexDig u 8).drop 7) 0 = some (u : Int) := by
    rw [← hexV_zero k, hx]
    have := hexDig_val u 8 0
    rw [Nat.zero_mul, Nat.zero_add, Nat.mod_eq_of_lt (by omega)] at this
    exact this
  have hlen : (y ++ (hexDig u 8).drop 7).length ≤ 8 := by
    have := congrArg List.length hx
    rw [List.length_append, List.length_replicate, hexDig_len] at this
    omega
  have hne : y ++ (hexDig u 8).drop 7 ≠ [] := by
    intro e
    have := congrArg List.length e
    rw [List.length_append, hl7] at this
    simp at this
  have ht := tok_hash (x := y ++ (hexDig u 8).drop 7) (fun c hc => hexDig_wch u 8 c (by rw [← hx]; exact List.mem_append_right _ hc)) hlen hne hv hb
  rw [List.append_assoc]
  exact rd_alone ht (by simp) (by rw [List.length_append, List.length_singleton]; omega)
theorem hex_read (n : Int) (h : -2147483648 ≤ n ∧ n ≤ 2147483647) : rdB (wordP n true) [⟨3, 0, [], n⟩] = true := by
  have hl : (wordP n true).length = 9 := by unfold wordP; rw [if_pos rfl, List.length_cons, hexDig_len]
  refine rd_alone (tok_hex h) ?_ (by omega)
  intro e
  rw [e] at hl
  cases hl
theorem hex_long (n : Int) : flB (wordP n true ++ [48]) 0 = true := by
  unfold wordP
  rw [if_pos rfl, List.cons_append]
  have hr : run (hexDig (IntKind.u32.wrap n).toNat 8 ++ [48]) = 9 := by
    refine run_iff 9 _ (by rw [List.length_append, hexDig_len]; exact Nat.le_refl _) (fun c hc => ?_) fun c hc => ?_
    · rcases List.mem_append.1 (List.mem_of_mem_take hc) with hc | hc
      · exact hexDig_wch _ 8 c hc
      · cases List.mem_singleton.1 hc; decide
    · have := (List.getElem?_eq_some_iff.1 hc).1
      rw [List.length_append, hexDig_len] at this
      simp at this
  refine fl_bad (by decide) ?_ (by rw [List.length_cons, List.length_append, hexDig_len]; decide)
  unfold tok
  rw [chB_zero, if_neg (by decide), if_neg (by decide), if_pos (by decide)]
  unfold rHex
  rw [show List.drop 1 (35 :: (hexDig (IntKind.u32.wrap n).toNat 8 ++ [48])) = hexDig (IntKind.u32.wrap n).toNat 8 ++ [48] from rfl, hr]
  rfl
/- decimal -/
theorem decV_zero : ∀ (k : Nat) (l : B), decV (List.replicate k 48 ++ l) 0 = decV l 0
  | 0, l => rfl
  | k + 1, l => by
    show (if !dig _ then none else decV (List.replicate k 48 ++ l) _) = _
    rw [if_neg (by decide)]
    exact decV_zero k l
def numS (z : Nat) (n : Int) : B := List.replicate z 48 ++ wordP n false
theorem numS_dig {z : Nat} {n : Int} (h : 0 ≤ n) : ∀ c ∈ numS z n, dig c.toNat = true := by
  intro c hc
  unfold numS at hc
  rcases List.mem_append.1 hc with hc | hc
  · rw [List.eq_of_mem_replicate hc]; decide
  · unfold wordP Lib.itoa at hc
    rw [if_neg (by decide), if_neg (by omega)] at hc
    exact dec_dig _ c hc
theorem numS_ne (z : Nat) {n : Int} (h : 0 ≤ n) : numS z n ≠ [] := by
  unfold numS wordP Lib.itoa
  rw [if_neg (by decide), if_neg (by omega)]
  have := dec_ne n.toNat
  simp [this]
theorem numS_val (z : Nat) {n : Int} (h : 0 ≤ n) : decV (numS z n) 0 = some n := by
  unfold numS wordP Lib.itoa
  rw [decV_zero, if_neg (by decide), if_neg (by omega), dec_val]
  congr 1
  omega
theorem numS_le {z : Nat} {n : Int} (hz : z ≤ 10) (h : 0 ≤ n ∧ n ≤ 2147483647) : (numS z n).length ≤ 20 := by
  unfold numS wordP Lib.itoa
  rw [if_neg (by decide), if_neg (by omega), List.length_append, List.length_replicate]
  have := dec_le 9 n.toNat (by omega)
  omega
theorem num_read {z : Nat} {n : Int} (h : 0 ≤ n ∧ n ≤ 2147483647) (hl : (numS z n).length ≤ 10) : rdB (numS z n) [⟨3, 0, [], n⟩] = true :=
  rd_alone (tok_digits (numS_ne z h.1) (numS_dig h.1) hl (numS_val z h.1) h) (numS_ne z h.1) (by omega)
/-- Digits that are too many, or a sign behind them. -/
theorem dig_bad {s : B} (hd : ∀ c ∈ s, wch c = true) (h0 : ∃ c r, s = c :: r ∧ dig c.toNat = true) (hl : s.length ≤ 256) (hb : 10 < s.length ∨ decV s 0 = none) : flB s 0 = true := by
  obtain ⟨c, r, rfl, hc⟩ := h0
  have hr : run (c :: r) = (c :: r).length := run_iff _ _ (Nat.le_refl _) (fun x hx => hd x (List.mem_of_mem_take hx)) fun x hx => by
    have := (List.getElem?_eq_some_iff.1 hx).1
    omega
  have hc32 : c ≠ 32 := by rintro rfl; revert hc; decide
  refine fl_bad hc32 ?_ hl
  unfold tok
  rw [chB_zero, dig_ltr hc, if_neg (by decide), if_pos hc]
  unfold rDec
  rw [hr, List.take_length]
  rcases hb with hb | hb
  · rw [if_pos (by simp only [decide_eq_true_eq]; omega)]
  · rw [hb]
    split <;> rfl
theorem num_long {z : Nat} {n : Int} (hz : z ≤ 10) (h : 0 ≤ n ∧ n ≤ 2147483647) (hl : 10 < (numS z n).length) : flB (numS z n) 0 = true := by
  refine dig_bad (fun c hc => wch_dig (numS_dig h.1 c hc)) ?_ (by have := numS_le hz h; omega) (.inl hl)
  cases hs : numS z n with
  | nil => exact absurd hs (numS_ne z h.1)
  | cons c r => exact ⟨c, r, rfl, numS_dig (z := z) h.1 c (by rw [hs]; exact List.mem_cons_self)⟩
theorem num_sign {z : Nat} {n : Int} (hz : z ≤ 10) (h : 0 ≤ n ∧ n ≤ 2147483647) {x : UInt8} (hw : wch x = true) (hx : dig x.toNat = false) : flB (numS z n ++ [x]) 0 = true := by
  have hle := numS_le hz h
  refine dig_bad (fun c hc => ?_) ?_ (by rw [List.length_append, List.length_singleton]; omega) (.inr ?_)
  · rcases List.mem_append.1 hc with hc | hc
    · exact wch_dig (numS_dig h.1 c hc)
    · cases List.mem_singleton.1 hc; exact hw
  · cases hs : numS z n with
    | nil => exact absurd hs (numS_ne z h.1)
    | cons c r => exact ⟨c, r ++ [x], rfl, numS_dig (z := z) h.1 c (by rw [hs]; exact List.mem_cons_self)⟩
  · rw [decV_app, numS_val z h.1]
    show (if !dig x.toNat then none else _) = none
    rw [hx]
    rfl
end Go.Lx

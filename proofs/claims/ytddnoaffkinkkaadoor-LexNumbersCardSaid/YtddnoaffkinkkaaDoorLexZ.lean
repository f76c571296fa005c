/- lex: the text of tokens is read back as these tokens. -/
import Derived.Test.YtddnoaffkinkkaaDoorLexY
namespace Go.Lx
open Go.Ty
set_option maxRecDepth 100000
theorem may_cases {t : Tok} (h : mayK t = true) : (t.kind = 1 ∧ t.n = 0 ∧ name t.text = true) ∨ (t.kind = 2 ∧ t.n = 0 ∧ key t.text = true) ∨ (t.kind = 5 ∧ t.n = 0 ∧ sym t.text = true) ∨ (t.kind = 4 ∧ t.text = [] ∧ 0 ≤ t.n ∧ t.n < 256) ∨ (t.kind = 3 ∧ t.text = []) := by
  unfold mayK at h
  split at h
  · cases h
  · split at h
    · rename_i hk; simp at h hk; exact .inl ⟨hk, h.1, h.2⟩
    · split at h
      · rename_i hk; simp at h hk; exact .inr (.inl ⟨hk, h.1, h.2⟩)
      · split at h
        · rename_i hk; simp at h hk; exact .inr (.inr (.inl ⟨hk, h.1, h.2⟩))
        · split at h
          · rename_i hk; simp at h hk; exact .inr (.inr (.inr (.inl ⟨hk, h.1.1, h.1.2, h.2⟩)))
          · simp at h; exact .inr (.inr (.inr (.inr h)))
theorem tok_name {s : B} (h : name s = true) : tok s = (⟨1, 0, s, 0⟩, s.length) := by
  unfold name at h
  cases s with
  | nil => cases h
  | cons c l =>
    simp only [Bool.and_eq_true] at h
    obtain ⟨⟨⟨⟨_, h32⟩, hl⟩, hr⟩, hk⟩ := h
    have hr : run (c :: l) = (c :: l).length := by have := eq_of_beq hr; omega
    unfold tok
    rw [chB_zero, if_pos hl]
    unfold rWords
    rw [hr, List.take_length, show key (c :: l) = false by simpa using hk, show decide (((c :: l).length : Int) > 32) = false by simpa using h32]
    rfl
def tokB (x : B) (t : Tok) (n : Nat) : Bool := eqK (tok x).1 t && ((tok x).2 == n)
theorem tok_of {x : B} {t : Tok} {n : Nat} (h : tokB x t n = true) : tok x = (t, n) := by
  unfold tokB at h
  simp only [Bool.and_eq_true, beq_iff_eq, eqK_iff] at h
  rw [← h.1, ← h.2]
theorem tok_keysB : ∀ s ∈ keysL, tokB s ⟨2, 0, s, 0⟩ s.length = true := by decide +kernel
theorem tok_symsB : ∀ s ∈ symsL, tokB s ⟨5, 0, s, 0⟩ s.length = true := by decide +kernel
theorem tok_bytesB : ∀ v, v < 256 → tokB ([39] ++ shownP v ++ [39]) ⟨4, 0, [], v⟩ ([39] ++ shownP v ++ [39]).length = true := by decide +kernel
/- numbers -/
theorem cap_wch : ∀ d, d < 16 → wch (capitalB.getD d 0) = true ∧ hexd (capitalB.getD d 0) = d := by decide +kernel
theorem hexDig_wch (u : Nat) : ∀ i, ∀ c ∈ hexDig u i, wch c = true
  | 0, c, h => by cases h
  | i + 1, c, h => by
    rw [hexDig_app] at h
    rcases List.mem_cons.1 h with rfl | h
    · exact (cap_wch _ (Nat.mod_lt _ (by decide))).1
    · exact hexDig_wch u i c h
theorem hexV_app (c : UInt8) (l : B) (v : Int) : hexV (c :: l) v = if decide (hexd c < 0) then none else hexV l (16 * v + hexd c) := rfl
theorem hexDig_val (u : Nat) : ∀ (i v : Nat), hexV (hexDig u i) v = some ((v * 16 ^ i + u % 16 ^ i : Nat) : Int)
  | 0, v => by simp [hexDig, hexV, Nat.mod_one]
  | i + 1, v => by
    rw [hexDig_app, hexV_app, (cap_wch _ (Nat.mod_lt _ (by decide))).2]
    rw [if_neg (by rw [decide_eq_true_eq]; exact Int.not_lt.2 (Int.natCast_nonneg _))]
    have := hexDig_val u i (16 * v + u / 16 ^ i % 16)
    rw [show (16 * (v : Int) + ((u / 16 ^ i % 16 : Nat) : Int)) = ((16 * v + u / 16 ^ i % 16 : Nat) : Int) by simp, this, Nat.mod_pow_succ, Nat.pow_succ]
    congr 2
    rw [Nat.add_mul, Nat.mul_comm 16 v, Nat.mul_assoc, Nat.mul_comm 16 (16 ^ i), Nat.mul_comm (u / 16 ^ i % 16)]
    omega
theorem wrap_back {n : Int} (h : -2147483648 ≤ n ∧ n ≤ 2147483647) : IntKind.i32.wrap (IntKind.u32.wrap n) = n := by
  unfold IntKind.wrap
  simp [IntKind.bits, IntKind.signed]
  omega
theorem wrap_u32 (n : Int) : 0 ≤ IntKind.u32.wrap n ∧ IntKind.u32.wrap n < 4294967296 := by
  unfold IntKind.wrap
  simp [IntKind.bits, IntKind.signed]
  omega
theorem tok_hex {n : Int} (h : -2147483648 ≤ n ∧ n ≤ 2147483647) : tok (wordP n true) = (⟨3, 0, [], n⟩, (wordP n true).length) := by
  obtain ⟨h1, h2⟩ := wrap_u32 n
  obtain ⟨u, hu⟩ : ∃ u : Nat, IntKind.u32.wrap n = u := ⟨(IntKind.u32.wrap n).toNat, by omega⟩
  have hb := wrap_back h
  rw [hu] at hb h2
  unfold wordP
  rw [if_pos rfl, hu]
  simp only [Int.toNat_natCast]
  have hr : run (hexDig u 8) = 8 := by
    refine run_iff 8 _ (by rw [hexDig_len]; exact Nat.le_refl _) (fun c hc => hexDig_wch u 8 c (List.mem_of_mem_take hc)) fun c hc => ?_
    have := (List.getElem?_eq_some_iff.1 hc).1
    rw [hexDig_len] at this
    omega
  have hv : hexP (hexDig u 8) = ((u : Int), true) := by
    unfold hexP
    have := hexDig_val u 8 0
    rw [Nat.zero_mul, Nat.zero_add, Nat.mod_eq_of_lt (by omega)] at this
    rw [show ((0 : Nat) : Int) = 0 from rfl] at this
    rw [this]
    rfl
  unfold tok
  rw [chB_zero, if_neg (by decide), if_neg (by decide), if_pos (by decide)]
  unfold rHex
  rw [show List.drop 1 (35 :: hexDig u 8) = hexDig u 8 from rfl, hr, show (hexDig u 8).take 8 = hexDig u 8 from List.take_of_length_le (by rw [hexDig_len]; exact Nat.le_refl _), hv]
  simp only [hb, List.length_cons, hexDig_len]
  rfl
theorem decV_app : ∀ (a b : B) (v : Int), decV (a ++ b) v = (decV a v).bind (decV b)
  | [], b, v => rfl
  | c :: a, b, v => by
    show (if !dig c.toNat then none else decV (a ++ b) _) = (if !dig c.toNat then none else decV a _).bind _
    split
    · rfl
    · exact decV_app a b _
theorem digit_val : ∀ d, d < 10 → dig (UInt8.ofNat (48 + d)).toNat = true ∧ ((UInt8.ofNat (48 + d)).toNat : Int) - 48 = d := by decide +kernel
theorem dec_val (u : Nat) : decV (Lib.decDigits u) 0 = some (u : Int) := by
  induction u using Nat.strongRecOn with
  | _ u ih =>
    unfold Lib.decDigits
    split
    · rename_i h
      obtain ⟨h1, h2⟩ := digit_val u h
      show (if !dig _ then none else some (10 * 0 + _)) = _
      rw [h1, h2]
      simp
    · rename_i h
      obtain ⟨h1, h2⟩ := digit_val (u % 10) (Nat.mod_lt _ (by decide))
      rw [decV_app, ih (u / 10) (by omega)]
      show (if !dig _ then none else some (10 * ((u / 10 : Nat) : Int) + _)) = _
      rw [h1, h2]
      simp
      omega
theorem dec_dig (u : Nat) : ∀ c ∈ Lib.decDigits u, dig c.toNat = true := by
  induction u using Nat.strongRecOn with
  | _ u ih =>
    intro c hc
    unfold Lib.decDigits at hc
    split at hc
    · rename_i h; cases List.mem_singleton.1 hc; exact (digit_val u h).1
    · rcases List.mem_append.1 hc with hc | hc
      · exact ih (u / 10) (by omega) c hc
      · cases List.mem_singleton.1 hc; exact (digit_val (u % 10) (Nat.mod_lt _ (by decide))).1
theorem dec_le : ∀ (k u : Nat), u < 10 ^ (k + 1) → (Lib.decDigits u).length ≤ k + 1
  | 0, u, h => by
    unfold Lib.decDigits
    rw [dif_pos (by simpa using h)]
    exact Nat.le_refl _
  | k + 1, u, h => by
    unfold Lib.decDigits
    split
    · simp
    · have := dec_le k (u / 10) (by rw [Nat.pow_succ] at h; omega)
      rw [List.length_append, List.length_singleton]
      omega
theorem dec_ne (u : Nat) : Lib.decDigits u ≠ [] := by
  unfold Lib.decDigits
  split <;> simp
theorem dig_ltr {z : Int} (h : dig z = true) : ltr z = false := by
  unfold dig at h
  unfold ltr
  simp at h ⊢
  omega
theorem tok_digits {s : B} {v : Int} (h0 : s ≠ []) (hd : ∀ c ∈ s, dig c.toNat = true) (hl : s.length ≤ 10) (hv : decV s 0 = some v) (h : 0 ≤ v ∧ v ≤ 2147483647) : tok s = (⟨3, 0, [], v⟩, s.length) := by
  cases s with
  | nil => exact absurd rfl h0
  | cons c l =>
    have hr : run (c :: l) = (c :: l).length := run_iff _ _ (Nat.le_refl _) (fun x hx => wch_dig (hd x (List.mem_of_mem_take hx))) fun x hx => by
      have := (List.getElem?_eq_some_iff.1 hx).1
      omega
    have hc := hd c List.mem_cons_self
    unfold tok
    rw [chB_zero, dig_ltr hc, if_neg (by decide), if_pos hc]
    unfold rDec
    rw [hr, List.take_length, hv, show decide (((c :: l).length : Int) > 10) = false by simp at hl ⊢; omega]
    simp only [wrap_small (v := v) ⟨h.1, by omega⟩]
    simp
theorem tok_dec {n : Int} (h : 0 ≤ n ∧ n ≤ 2147483647) : tok (wordP n false) = (⟨3, 0, [], n⟩, (wordP n false).length) := by
  unfold wordP Lib.itoa
  rw [if_neg (by decide), if_neg (by omega)]
  refine tok_digits (dec_ne _) (dec_dig _) (dec_le 9 _ (by omega)) ?_ h
  rw [dec_val]
  congr 1
  omega
/-- The text of a token is read as this token. -/
theorem text_tok {t : Tok} (h : mayK t = true) (hn : -2147483648 ≤ t.n ∧ t.n ≤ 2147483647) : tok (textP t) = ({ t with at_ := 0 }, (textP t).length) ∧ textP t ≠ [] := by
  obtain ⟨kd, p, s, n⟩ := t
  rcases may_cases h with ⟨h1, h2, h3⟩ | ⟨h1, h2, h3⟩ | ⟨h1, h2, h3⟩ | ⟨h1, h2, h3, h4⟩ | ⟨h1, h2⟩
  · simp only at h1 h2 h3; subst h1 h2
    refine ⟨tok_name h3, ?_⟩
    show s ≠ []
    rintro rfl
    cases h3
  · simp only at h1 h2 h3; subst h1 h2
    have hm : s ∈ keysL := (among_iff s _).1 (by rw [key_eq] at h3; exact h3)
    refine ⟨tok_of (tok_keysB s hm), ?_⟩
    show s ≠ []
    rintro rfl
    cases h3
  · simp only at h1 h2 h3; subst h1 h2
    have hm : s ∈ symsL := (among_iff s _).1 (by rw [sym_eq] at h3; exact h3)
    refine ⟨tok_of (tok_symsB s hm), ?_⟩
    show s ≠ []
    rintro rfl
    cases h3
  · simp only at h1 h2 h3 h4; subst h1 h2
    obtain ⟨v, rfl⟩ : ∃ v : Nat, n = v := ⟨n.toNat, by omega⟩
    refine ⟨tok_of (tok_bytesB v (by omega)), ?_⟩
    show [39] ++ shownP _ ++ [39] ≠ []
    simp
  · simp only at h1 h2 hn; subst h1 h2
    rw [show textP ⟨3, p, [], n⟩ = wordP n (decide (n < 0)) from rfl]
    by_cases hneg : n < 0
    · rw [show decide (n < 0) = true from decide_eq_true hneg]
      refine ⟨tok_hex hn, ?_⟩
      unfold wordP
      simp
    · rw [show decide (n < 0) = false from decide_eq_false hneg]
      refine ⟨tok_dec ⟨by omega, hn.2⟩, ?_⟩
      unfold wordP Lib.itoa
      rw [if_neg (by decide), if_neg hneg]
      exact dec_ne _
theorem tok_32 (r : B) : (tok (32 :: r)).2 = 0 := by
  unfold tok
  rw [chB_zero, if_neg (by decide), if_neg (by decide), if_neg (by decide), if_neg (by decide)]
  unfold rSyms
  have h1 : sym ((32 :: r).take 2) = false := by
    cases r with
    | nil => decide
    | cons a r => show ((((32 : UInt8).toNat : Int) != 32) && ((a.toNat : Int) != 32) && Lib.contains doublesB ([32] ++ [32, a] ++ [32])) = false; rfl
  have h2 : sym ((32 :: r).take 1) = false := by show sym [32] = false; decide
  rw [h1, h2, Bool.and_false, Bool.and_false]
  rfl
/- no space between two tokens -/
theorem close_in : ∀ s ∈ symsL, Lib.contains closeB s = true → s ∈ [[44], [59], [58], [41], [93]] := by decide +kernel
theorem open_in : ∀ s ∈ symsL, Lib.contains openB s = true → s ∈ [[40], [91]] := by decide +kernel
theorem close_stop : ∀ c ∈ [(44 : UInt8), 59, 58, 41, 93, 40, 91], wch c = false := by decide +kernel
theorem close_sym : ∀ s ∈ symsL, ∀ c ∈ [(44 : UInt8), 59, 58, 41, 93], ((s.length == 2) || !sym (s ++ [c])) = true := by decide +kernel
theorem open_sym (c : UInt8) : (!sym [40, c] && !sym [91, c]) = true := all_bytes (p := fun c => !sym [40, c] && !sym [91, c]) (by decide +kernel) c
theorem among_sym {t : Tok} {s : B} (h : mayK t = true) (ha : amongT t s = true) : t.kind = 5 ∧ t.text ∈ symsL ∧ Lib.contains s t.text = true ∧ textP t = t.text := by
  unfold amongT at ha
  simp only [Bool.and_eq_true] at ha
  have hk : t.kind = 5 := by simpa using ha.1
  rcases may_cases h with ⟨h1, _⟩ | ⟨h1, _⟩ | ⟨_, _, h3⟩ | ⟨h1, _⟩ | ⟨h1, _⟩
  · omega
  · omega
  · refine ⟨hk, (among_iff _ _).1 (by rw [sym_eq] at h3; exact h3), ha.2, ?_⟩
    unfold textP
    rw [hk]
    rfl
  · omega
  · omega
theorem gap_stop {t u : Tok} (ht : mayK t = true) (hu : mayK u = true) (hg : gap t u = false) {c : UInt8} (hc : (textP u)[0]? = some c) : stopC t (textP t).length c = true := by
  unfold gap at hg
  simp only [Bool.and_eq_false_iff, Bool.not_eq_false', Bool.or_eq_false_iff, bne_eq_false_iff_eq] at hg
  rcases hg with (hg | hg) | ⟨hk1, hg⟩
  · obtain ⟨_, hm, hcn, htx⟩ := among_sym hu hg
    rw [htx] at hc
    have h5 := close_in _ hm hcn
    have hc5 : c ∈ [(44 : UInt8), 59, 58, 41, 93] := by
      simp only [List.mem_cons, List.not_mem_nil, or_false] at h5
      rcases h5 with h5 | h5 | h5 | h5 | h5 <;> rw [h5] at hc <;> cases hc <;> decide
    unfold stopC
    split
    · rfl
    · split
      · rename_i hk
        have hk : t.kind = 5 := by simpa using hk
        rcases may_cases ht with ⟨h1, _⟩ | ⟨h1, _⟩ | ⟨_, _, h3⟩ | ⟨h1, _⟩ | ⟨h1, _⟩
        · omega
        · omega
        · have e : textP t = t.text := by unfold textP; rw [hk]; rfl
          rw [e]
          exact close_sym _ ((among_iff _ _).1 (by rw [sym_eq] at h3; exact h3)) c hc5
        · omega
        · omega
      · rw [close_stop c (List.mem_append_left [40, 91] hc5)]
        rfl
  · obtain ⟨hk, hm, hcn, htx⟩ := among_sym ht hg
    have h2 := open_in _ hm hcn
    have ho := open_sym c
    simp only [Bool.and_eq_true] at ho
    unfold stopC
    rw [hk, htx]
    simp only [List.mem_cons, List.not_mem_nil, or_false] at h2
    rcases h2 with h2 | h2
    · rw [h2]
      show (if (false : Bool) = true then true else if true = true then ((1 == 2) || !sym [40, c]) else _) = true
      rw [ho.1]
      rfl
    · rw [h2]
      show (if (false : Bool) = true then true else if true = true then ((1 == 2) || !sym [91, c]) else _) = true
      rw [ho.2]
      rfl
  · obtain ⟨_, hm, hcn, htx⟩ := among_sym hu hg
    rw [htx] at hc
    have h2 := open_in _ hm hcn
    have hw : wch c = false := by
      simp only [List.mem_cons, List.not_mem_nil, or_false] at h2
      rcases h2 with h2 | h2 <;> rw [h2] at hc <;> cases hc <;> decide
    unfold stopC
    rw [hk1, hw]
    rfl
end Go.Lx

/- lex: the tokens of a line, plain. -/
import Derived.Test.YtheejlbhmbbdjaaDoorLexU
namespace Go.Lx
open Go.Ty
theorem charP_le (s : B) : (charP s).2 ≤ s.length := by
  unfold charP
  split
  · exact Nat.zero_le _
  · rename_i h
    have h1 : 1 ≤ s.length := by
      cases s with
      | nil => exact absurd rfl h
      | cons a t => simp
    split
    · exact h1
    · split
      · exact Nat.zero_le _
      · rename_i h2
        have h2 : 2 ≤ s.length := by simp at h2; omega
        split
        · exact h2
        · split
          · exact Nat.zero_le _
          · rename_i h4
            have h4 : 4 ≤ s.length := by simp at h4; omega
            split
            · exact Nat.zero_le _
            · exact h4
theorem tok_le (r : B) : (tok r).2 ≤ r.length := by
  have h0 := run_le r
  have h1 := run_le (r.drop 1)
  have h2 := charP_le (r.drop 1)
  have h3 : (r.drop 1).length = r.length - 1 := List.length_drop
  cases r with
  | nil => decide
  | cons c r =>
    simp only [List.length_cons] at h0 h1 h2 h3 ⊢
    unfold tok
    split
    · unfold rWords
      split
      · exact h0
      · split
        · exact Nat.zero_le _
        · exact h0
    · split
      · unfold rDec
        split
        · exact Nat.zero_le _
        · split
          · exact Nat.zero_le _
          · split
            · exact Nat.zero_le _
            · exact h0
      · split
        · unfold rHex
          split
          · exact Nat.zero_le _
          · split
            · exact Nat.zero_le _
            · show 1 + run (List.drop 1 (c :: r)) ≤ _
              omega
        · split
          · unfold rQuoted
            split
            · exact Nat.zero_le _
            · rename_i h
              unfold noQ at h
              simp only [Bool.not_eq_true, Bool.or_eq_false_iff] at h
              have : (charP (List.drop 1 (c :: r))).2 ≠ (List.drop 1 (c :: r)).length := fun e => by
                have := h.1.2
                rw [e] at this
                simp at this
              show (charP (List.drop 1 (c :: r))).2 + 2 ≤ _
              omega
          · unfold rSyms
            split
            · rename_i h
              simp only [Bool.and_eq_true, decide_eq_true_eq] at h
              exact h.1
            · split
              · show 1 ≤ _
                omega
              · exact Nat.zero_le _
def symsF (r : B) : Nat → Tok × Nat
  | 0 => (zeroK, 0)
  | k + 1 => if sym (r.take (k + 1)) then (⟨5, 0, r.take (k + 1), 0⟩, k + 1) else symsF r k
theorem rSyms_eq (r : B) : rSyms r = symsF r (min 2 r.length) := by
  match r with
  | [] => rfl
  | [a] => rfl
  | a :: b :: s =>
    rw [show min 2 (a :: b :: s).length = 2 by simp]
    unfold rSyms symsF symsF symsF
    simp
theorem fuel : ∀ (n k1 k2 : Nat) (r : B) (p : Nat), r.length ≤ n → n ≤ k1 → n ≤ k2 → lexR k1 r p = lexR k2 r p
  | _, k1, k2, [], p, _, _, _ => by cases k1 <;> cases k2 <;> rfl
  | 0, _, _, c :: r, p, h, _, _ => by simp at h
  | n + 1, k1, k2, c :: r, p, h, h1, h2 => by
    obtain ⟨j1, rfl⟩ : ∃ j, k1 = j + 1 := ⟨k1 - 1, by omega⟩
    obtain ⟨j2, rfl⟩ : ∃ j, k2 = j + 1 := ⟨k2 - 1, by omega⟩
    have hr : r.length ≤ n := by simpa using h
    unfold lexR
    rw [fuel n j1 j2 r (p + 1) hr (by omega) (by omega)]
    by_cases hn : (tok (c :: r)).2 == 0
    · simp only [hn, if_true]
    · have hn' : (tok (c :: r)).2 ≠ 0 := by simpa using hn
      rw [fuel n j1 j2 ((c :: r).drop (tok (c :: r)).2) (p + (tok (c :: r)).2) (by rw [List.length_drop, List.length_cons]; omega) (by omega) (by omega)]
def lx (r : B) (p : Nat) : Except Nat (List Tok) := lexR r.length r p
def prep (l : List Tok) : Except Nat (List Tok) → Except Nat (List Tok)
  | .ok m => .ok (l ++ m)
  | .error e => .error e
theorem prep_nil (x : Except Nat (List Tok)) : prep [] x = x := by cases x <;> rfl
theorem prep_app (l m : List Tok) (x : Except Nat (List Tok)) : prep l (prep m x) = prep (l ++ m) x := by
  cases x with
  | error e => rfl
  | ok k => simp [prep]
theorem lx_nil (p : Nat) : lx [] p = .ok [] := rfl
theorem lx_space (r : B) (p : Nat) : lx (32 :: r) p = lx r (p + 1) := by
  show lexR (r.length + 1) (32 :: r) p = _
  unfold lexR
  rw [if_pos (by decide)]
  rfl
theorem lx_bad {c : UInt8} {r : B} {p : Nat} (hc : c ≠ 32) (hn : (tok (c :: r)).2 = 0) : lx (c :: r) p = .error p := by
  have e : ((c.toNat : Int) == 32) = false := by
    cases h : (c.toNat : Int) == 32 with
    | false => rfl
    | true => exact absurd (UInt8.toNat.inj (by have := eq_of_beq h; have e : c.toNat = 32 := by exact_mod_cast this
                                                rw [e]; rfl)) hc
  show (if (c.toNat : Int) == 32 then _ else if (tok (c :: r)).2 == 0 then Except.error p else _) = _
  rw [e, hn]
  rfl
theorem lx_tok {c : UInt8} {r : B} {p : Nat} (hc : c ≠ 32) (hn : (tok (c :: r)).2 ≠ 0) : lx (c :: r) p = prep [{ (tok (c :: r)).1 with at_ := p }] (lx ((c :: r).drop (tok (c :: r)).2) (p + (tok (c :: r)).2)) := by
  have e : ((c.toNat : Int) == 32) = false := by
    cases h : (c.toNat : Int) == 32 with
    | false => rfl
    | true => exact absurd (UInt8.toNat.inj (by have := eq_of_beq h; have e : c.toNat = 32 := by exact_mod_cast this
                                                rw [e]; rfl)) hc
  have e2 : ((tok (c :: r)).2 == 0) = false := by simpa using hn
  show (if (c.toNat : Int) == 32 then _ else if (tok (c :: r)).2 == 0 then Except.error p else match lexR r.length ((c :: r).drop (tok (c :: r)).2) (p + (tok (c :: r)).2) with
      | .ok l => .ok ({ (tok (c :: r)).1 with at_ := p } :: l)
      | .error e => .error e) = _
  rw [e, e2]
  simp only [Bool.false_eq_true, if_false]
  rw [fuel ((c :: r).drop (tok (c :: r)).2).length r.length ((c :: r).drop (tok (c :: r)).2).length _ _ (Nat.le_refl _) (by rw [List.length_drop, List.length_cons]; omega) (Nat.le_refl _)]
  unfold lx
  cases lexR ((c :: r).drop (tok (c :: r)).2).length ((c :: r).drop (tok (c :: r)).2) (p + (tok (c :: r)).2) <;> rfl
def outO : Except Nat (List Tok) → List Tok × Int × Int
  | .ok l => (l, 0, 0)
  | .error a => ([], a, 80)
theorem lexO_long {s : B} (h : decide ((s.length : Int) > 256) = true) : lexO s = ([], 0, 3) := by unfold lexO; rw [h]; rfl
theorem lexO_short {s : B} (h : decide ((s.length : Int) > 256) = false) : lexO s = outO (lx s 0) := by
  unfold lexO lx
  rw [h]
  cases lexR s.length s 0 <;> rfl
theorem drop_at {s : B} {p : Nat} {c : UInt8} (h : s[p]? = some c) : s.drop p = c :: s.drop (p + 1) := by
  have h1 : p < s.length := (List.getElem?_eq_some_iff.1 h).1
  rw [List.drop_eq_getElem_cons h1, (List.getElem?_eq_some_iff.1 h).2]
theorem step_space {s : B} {p : Nat} {l : List Tok} (h : s[p]? = some 32) (hJ : lx s 0 = prep l (lx (s.drop p) p)) : lx s 0 = prep l (lx (s.drop (p + 1)) (p + 1)) := by
  rw [drop_at h, lx_space] at hJ
  exact hJ
theorem step_bad {s : B} {p : Nat} {c : UInt8} {l : List Tok} (h : s[p]? = some c) (hc : c ≠ 32) (hn : (tok (s.drop p)).2 = 0) (hJ : lx s 0 = prep l (lx (s.drop p) p)) : lx s 0 = .error p := by
  rw [drop_at h] at hn hJ
  rw [lx_bad hc hn] at hJ
  exact hJ
theorem step_tok {s : B} {p : Nat} {c : UInt8} {l : List Tok} (h : s[p]? = some c) (hc : c ≠ 32) (hn : (tok (s.drop p)).2 ≠ 0) (hJ : lx s 0 = prep l (lx (s.drop p) p)) :
    lx s 0 = prep (l ++ [{ (tok (s.drop p)).1 with at_ := p }]) (lx (s.drop (p + (tok (s.drop p)).2)) (p + (tok (s.drop p)).2)) := by
  have e := drop_at h
  rw [e] at hn hJ ⊢
  rw [lx_tok hc hn, prep_app, ← e, List.drop_drop] at hJ
  rw [e] at hJ
  exact hJ
theorem c32_iff (c : UInt8) : ((c.toNat : Int) == 32) = (c == 32) := by simpa using all_bytes (p := fun c => ((c.toNat : Int) == 32) == (c == 32)) (by decide +kernel) c
end Go.Lx

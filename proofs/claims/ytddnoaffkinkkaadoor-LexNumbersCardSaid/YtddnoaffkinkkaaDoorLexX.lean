/- lex: a token depends on its own bytes and on where it stops. -/
import Derived.Test.YtddnoaffkinkkaaDoorLexV
namespace Go.Lx
open Go.Ty
set_option maxRecDepth 100000
theorem run_all_take : ∀ (l : B), ∀ c ∈ l.take (run l), wch c = true
  | [], c, h => by cases h
  | x :: l, c, h => by
    have e : run (x :: l) = if wch x then run l + 1 else 0 := rfl
    cases hw : wch x with
    | false => rw [e, hw] at h; cases h
    | true =>
      rw [e, hw] at h
      simp only [if_true, List.take_succ_cons] at h
      rcases List.mem_cons.1 h with rfl | h
      · exact hw
      · exact run_all_take l c h
theorem run_stop : ∀ (l : B) (c : UInt8), l[run l]? = some c → wch c = false
  | [], c, h => by cases h
  | x :: l, c, h => by
    have e : run (x :: l) = if wch x then run l + 1 else 0 := rfl
    cases hw : wch x with
    | false => rw [e, hw] at h; simp at h; rw [← h]; exact hw
    | true =>
      rw [e, hw] at h
      exact run_stop l c (by simpa using h)
theorem run_iff : ∀ (n : Nat) (y : B), n ≤ y.length → (∀ c ∈ y.take n, wch c = true) → (∀ c, y[n]? = some c → wch c = false) → run y = n
  | 0, [], _, _, _ => rfl
  | 0, x :: y, _, _, h => by
    have := h x rfl
    show (if wch x then run y + 1 else 0) = 0
    rw [this]
    rfl
  | n + 1, [], h, _, _ => by simp at h
  | n + 1, x :: y, h, h1, h2 => by
    have hx : wch x = true := h1 x (by simp)
    show (if wch x then run y + 1 else 0) = n + 1
    rw [hx, if_pos rfl, run_iff n y (by simpa using h) (fun c hc => h1 c (by simp [hc])) (fun c hc => h2 c (by simpa using hc))]
/-- Does a token of this kind stop at n in y? -/
def stopC (t : Tok) (n : Nat) (c : UInt8) : Bool :=
  if t.kind == 4 then true else if t.kind == 5 then (n == 2) || !sym (t.text ++ [c]) else !wch c
def stop (t : Tok) (n : Nat) (y : B) : Prop := ∀ c, y[n]? = some c → stopC t n c = true
theorem run_dep {x y : B} {n : Nat} (hn : run x = n) (ht : y.take n = x.take n) (hl : n ≤ y.length) (hs : ∀ c, y[n]? = some c → wch c = false) : run y = n :=
  run_iff n y hl (fun c hc => by rw [ht, ← hn] at hc; exact run_all_take x c hc) hs
theorem head_dep {x y : B} {n : Nat} (hn : n ≠ 0) (ht : y.take n = x.take n) : y.take 1 = x.take 1 := by
  have := congrArg (List.take 1) ht
  rwa [List.take_take, List.take_take, Nat.min_eq_left (by omega)] at this
theorem chB_take (x : B) : chB x 0 = chB (x.take 1) 0 := by cases x <;> rfl
theorem words_kind {x : B} {t : Tok} {n : Nat} (h : rWords x = (t, n)) (hn : n ≠ 0) : run x = n ∧ (t.kind = 1 ∨ t.kind = 2) ∧ t.text = x.take n ∧ t.n = 0 ∧ t.at_ = 0 := by
  unfold rWords at h
  split at h
  · cases h; exact ⟨rfl, .inr rfl, rfl, rfl, rfl⟩
  · split at h
    · cases h; exact absurd rfl hn
    · cases h; exact ⟨rfl, .inl rfl, rfl, rfl, rfl⟩
theorem dec_kind {x : B} {t : Tok} {n : Nat} (h : rDec x = (t, n)) (hn : n ≠ 0) : run x = n ∧ t.kind = 3 ∧ t.text = [] ∧ t.at_ = 0 := by
  unfold rDec at h
  split at h
  · cases h; exact absurd rfl hn
  · split at h
    · cases h; exact absurd rfl hn
    · split at h
      · cases h; exact absurd rfl hn
      · cases h; exact ⟨rfl, rfl, rfl, rfl⟩
theorem hex_kind {x : B} {t : Tok} {n : Nat} (h : rHex x = (t, n)) (hn : n ≠ 0) : 1 + run (x.drop 1) = n ∧ t.kind = 3 ∧ t.text = [] ∧ t.at_ = 0 := by
  unfold rHex at h
  split at h
  · cases h; exact absurd rfl hn
  · split at h
    · cases h; exact absurd rfl hn
    · cases h; exact ⟨rfl, rfl, rfl, rfl⟩
theorem quot_kind {x : B} {t : Tok} {n : Nat} (h : rQuoted x = (t, n)) (hn : n ≠ 0) : noQ (x.drop 1) (charP (x.drop 1)).2 = false ∧ t = ⟨4, 0, [], (charP (x.drop 1)).1⟩ ∧ n = (charP (x.drop 1)).2 + 2 := by
  unfold rQuoted at h
  split at h
  · cases h; exact absurd rfl hn
  · rename_i hq; cases h; exact ⟨by simpa using hq, rfl, rfl⟩
theorem syms_kind {x : B} {t : Tok} {n : Nat} (h : rSyms x = (t, n)) (hn : n ≠ 0) : t = ⟨5, 0, x.take n, 0⟩ ∧ sym (x.take n) = true ∧ n ≤ x.length ∧ (n = 2 ∨ n = 1 ∧ (2 ≤ x.length → sym (x.take 2) = false)) := by
  unfold rSyms at h
  split at h
  · rename_i hc
    simp only [Bool.and_eq_true, decide_eq_true_eq] at hc
    cases h
    exact ⟨rfl, hc.2, hc.1, .inl rfl⟩
  · rename_i h2
    split at h
    · rename_i hc
      simp only [Bool.and_eq_true, decide_eq_true_eq] at hc
      cases h
      refine ⟨rfl, hc.2, hc.1, .inr ⟨rfl, fun hl => ?_⟩⟩
      cases hb : sym (x.take 2) with
      | false => rfl
      | true => exact absurd (by rw [hb]; simpa using hl) h2
    · cases h; exact absurd rfl hn
theorem take_le {x y : B} {n k : Nat} (h : y.take n = x.take n) (hk : k ≤ n) : y.take k = x.take k := by
  have := congrArg (List.take k) h
  rwa [List.take_take, List.take_take, Nat.min_eq_left hk] at this
theorem get_take {x y : B} {n i : Nat} (h : y.take n = x.take n) (hi : i < n) : y[i]? = x[i]? := by
  have := congrArg (fun l => l[i]?) h
  simpa [List.getElem?_take_of_lt hi] using this
theorem drop_take_eq {x y : B} {n : Nat} (h : y.take (n + 1) = x.take (n + 1)) : (y.drop 1).take n = (x.drop 1).take n := by
  have := congrArg (List.drop 1) h
  rwa [List.drop_take, List.drop_take, Nat.add_sub_cancel] at this
theorem charP_dep {s s' : B} {k : Nat} (hk : (charP s).2 = k) (h0 : k ≠ 0) (ht : s'.take (k + 1) = s.take (k + 1)) (hl : k + 1 ≤ s.length) (hl' : k + 1 ≤ s'.length) : charP s' = charP s := by
  match s, s', hl, hl' with
  | a :: t, a' :: t', hl, hl' =>
    have ea : a' = a := by simpa using get_take (i := 0) ht (by omega)
    subst ea
    cases hb : (decide ((a'.toNat : Int) < 32) || decide ((a'.toNat : Int) > 126) || (a' == 39)) with
    | true => rw [charP_bad a' t hb] at hk; exact absurd hk.symm h0
    | false =>
      cases hs : a' != 42 with
      | true => rw [charP_plain a' t hb hs, charP_plain a' t' hb hs]
      | false =>
        have e : a' = 42 := by simpa using hs
        subst e
        rw [charP_star] at hk ⊢
        rw [charP_star]
        match t, t' with
        | [], _ => exact absurd hk.symm h0
        | b :: u, [] =>
          simp at hl'
          exact absurd hl' h0
        | b :: u, b' :: u' =>
          simp only at hk ⊢
          have hk2 : 2 ≤ k := by
            revert hk
            split
            · intro h; show 2 ≤ k; rw [← h]; exact Nat.le_refl _
            · split
              · intro h; exact absurd h.symm h0
              · split
                · intro h; exact absurd h.symm h0
                · intro h; rw [← h]; show 2 ≤ 4; decide
          have eb : b' = b := by simpa using get_take (i := 1) ht (by omega)
          subst eb
          cases hE : decide (esc b' ≥ 0) with
          | true => rfl
          | false =>
            simp only [hE, Bool.false_eq_true, if_false] at hk ⊢
            cases hc : (b' != 35) || decide (u.length < 2) with
            | true => rw [hc] at hk; exact absurd hk.symm h0
            | false =>
              rw [hc] at hk
              simp only [Bool.false_eq_true, if_false] at hk
              have hk4 : k = 4 := by
                revert hk
                split
                · intro h; exact absurd h.symm h0
                · intro h; exact h.symm
              subst hk4
              simp only [Bool.or_eq_false_iff] at hc
              have hu : u'.take 2 = u.take 2 := by
                have := congrArg (List.drop 2) (take_le (k := 4) ht (by omega))
                simpa using this
              have hc' : ((b' != 35) || decide (u'.length < 2)) = false := by
                rw [hc.1]
                simp only [List.length_cons] at hl'
                simp
                omega
              rw [hc', hu]
theorem getD_eq {x y : B} {i : Nat} (h : y[i]? = x[i]?) : chB y i = chB x i := by
  unfold chB
  rw [List.getD_eq_getElem?_getD, List.getD_eq_getElem?_getD, h]
theorem tok_dep {x y : B} {t : Tok} {n : Nat} (h : tok x = (t, n)) (hn : n ≠ 0) (ht : y.take n = x.take n) (hl : n ≤ y.length) (hs : stop t n y) : tok y = (t, n) := by
  have e0 : chB y 0 = chB x 0 := getD_eq (get_take ht (by omega))
  have hlx : n ≤ x.length := by have := tok_le x; rw [h] at this; exact this
  unfold tok at h ⊢
  rw [e0]
  split at h
  · rename_i hc
    rw [if_pos hc]
    obtain ⟨hr, hk, _, _, _⟩ := words_kind h hn
    have hry := run_dep hr ht hl fun c hc => by
      have := hs c hc
      unfold stopC at this
      rcases hk with hk | hk <;> rw [hk] at this <;> simpa using this
    rw [← h]
    unfold rWords
    rw [hry, hr, ht]
  · rename_i hc
    rw [if_neg hc]
    split at h
    · rename_i hc
      rw [if_pos hc]
      obtain ⟨hr, hk, _⟩ := dec_kind h hn
      have hry := run_dep hr ht hl fun c hc => by
        have := hs c hc
        unfold stopC at this
        rw [hk] at this
        simpa using this
      rw [← h]
      unfold rDec
      rw [hry, hr, ht]
    · rename_i hc
      rw [if_neg hc]
      split at h
      · rename_i hc
        rw [if_pos hc]
        obtain ⟨hr, hk, _⟩ := hex_kind h hn
        obtain ⟨j, rfl⟩ : ∃ j, n = j + 1 := ⟨n - 1, by omega⟩
        have hr' : run (x.drop 1) = j := by omega
        have htj := drop_take_eq ht
        have hry := run_dep hr' htj (by rw [List.length_drop]; omega) fun c hc => by
          have := hs c (by rw [← hc, List.getElem?_drop, Nat.add_comm])
          unfold stopC at this
          rw [hk] at this
          simpa using this
        rw [← h]
        unfold rHex
        rw [hry, hr', htj]
      · rename_i hc
        rw [if_neg hc]
        split at h
        · rename_i hc
          rw [if_pos hc]
          obtain ⟨hq, htk, hnk⟩ := quot_kind h hn
          have hk0 : (charP (x.drop 1)).2 ≠ 0 := by
            intro e
            rw [e] at hq
            cases hq
          have hlk : (charP (x.drop 1)).2 + 1 ≤ (x.drop 1).length := by rw [List.length_drop]; omega
          have hlk' : (charP (x.drop 1)).2 + 1 ≤ (y.drop 1).length := by rw [List.length_drop]; omega
          have htk1 : (y.drop 1).take ((charP (x.drop 1)).2 + 1) = (x.drop 1).take ((charP (x.drop 1)).2 + 1) := drop_take_eq (by rw [hnk] at ht; exact ht)
          have hcp := charP_dep rfl hk0 htk1 hlk hlk'
          rw [← h]
          unfold rQuoted
          rw [hcp, hq]
          have hq' : noQ (y.drop 1) (charP (x.drop 1)).2 = false := by
            rw [noQ_eq _ _ hk0] at hq ⊢
            rw [get_take htk1 (by omega)]
            exact hq
          rw [hq']
        · rename_i hc
          rw [if_neg hc]
          obtain ⟨htk, hsy, hlx, hcase⟩ := syms_kind h hn
          rcases hcase with rfl | ⟨rfl, h2⟩
          · unfold rSyms
            rw [ht, hsy, show decide (2 ≤ y.length) = true by simpa using hl]
            rw [htk]
            rfl
          · unfold rSyms
            have hno : (decide (2 ≤ y.length) && sym (y.take 2)) = false := by
              cases h2y : decide (2 ≤ y.length) with
              | false => rfl
              | true =>
                have hly : 1 < y.length := of_decide_eq_true h2y
                have hc1 := hs _ (List.getElem?_eq_getElem hly)
                unfold stopC at hc1
                rw [htk] at hc1
                have e2 : y.take 2 = x.take 1 ++ [y[1]] := by
                  rw [List.take_add_one, ht, List.getElem?_eq_getElem hly]
                  rfl
                rw [e2]
                simpa using hc1
            rw [hno, ht, hsy, show decide (1 ≤ y.length) = true by simpa using hl, htk]
            rfl
theorem tok_stop {x : B} {t : Tok} {n : Nat} (h : tok x = (t, n)) (hn : n ≠ 0) : stop t n x := by
  intro c hc
  unfold tok at h
  unfold stopC
  split at h
  · obtain ⟨hr, hk, _⟩ := words_kind h hn
    have := run_stop x c (by rw [hr]; exact hc)
    rcases hk with hk | hk <;> rw [hk] <;> simpa using this
  · split at h
    · obtain ⟨hr, hk, _⟩ := dec_kind h hn
      have := run_stop x c (by rw [hr]; exact hc)
      rw [hk]
      simpa using this
    · split at h
      · obtain ⟨hr, hk, _⟩ := hex_kind h hn
        have := run_stop (x.drop 1) c (by rw [List.getElem?_drop, hr]; exact hc)
        rw [hk]
        simpa using this
      · split at h
        · obtain ⟨_, htk, _⟩ := quot_kind h hn
          rw [htk]
          rfl
        · obtain ⟨htk, _, hl, hcase⟩ := syms_kind h hn
          rw [htk]
          rcases hcase with rfl | ⟨rfl, h2⟩
          · rfl
          · have hl2 : 1 < x.length := (List.getElem?_eq_some_iff.1 hc).1
            have e2 : x.take 1 ++ [c] = x.take 2 := by
              have := List.take_add_one (l := x) (i := 1)
              rw [hc] at this
              exact this.symm
            simp only [e2, h2 (by omega)]
            rfl
theorem stop_32 (t : Tok) (n : Nat) : stopC t n 32 = true := by
  unfold stopC
  split
  · rfl
  · split
    · have : sym (t.text ++ [32]) = false := by
        match t.text with
        | [] => decide
        | [a] => show (((a.toNat : Int) != 32) && (((32 : UInt8).toNat : Int) != 32) && _) = false; simp
        | a :: b :: l => cases l <;> rfl
      rw [this]
      simp
    · decide
/-- Cutting a token's rest off, or putting a space behind it, changes nothing. -/
theorem tok_ext {x w : B} {t : Tok} {n : Nat} (h : tok x = (t, n)) (hn : n ≠ 0) : tok (x ++ 32 :: w) = (t, n) := by
  have hl : n ≤ x.length := by have := tok_le x; rw [h] at this; exact this
  refine tok_dep h hn (by rw [List.take_append_of_le_length hl]) (by rw [List.length_append]; omega) fun c hc => ?_
  rcases Nat.lt_or_ge n x.length with h1 | h1
  · rw [List.getElem?_append_left h1] at hc
    exact tok_stop h hn c hc
  · have e : n = x.length := by omega
    rw [e, List.getElem?_append_right (Nat.le_refl _)] at hc
    simp at hc
    rw [← hc]
    exact stop_32 t n
theorem tok_cut {x w : B} {t : Tok} {n : Nat} (h : tok x = (t, n)) (hn : n ≠ 0) : tok (x.take n ++ 32 :: w) = (t, n) := by
  have hl : n ≤ x.length := by have := tok_le x; rw [h] at this; exact this
  have hlt : (x.take n).length = n := by rw [List.length_take]; omega
  refine tok_dep h hn (by rw [List.take_append_of_le_length (by omega), List.take_take, Nat.min_self]) (by rw [List.length_append]; omega) fun c hc => ?_
  rw [List.getElem?_append_right (by omega), hlt, Nat.sub_self] at hc
  simp at hc
  rw [← hc]
  exact stop_32 t n
end Go.Lx

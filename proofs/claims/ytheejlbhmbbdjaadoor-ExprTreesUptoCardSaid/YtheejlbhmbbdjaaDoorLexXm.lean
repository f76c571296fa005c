/- LexX, LexY, LexZ, LexW, LexWb as one text. -/
import Derived.Test.YtheejlbhmbbdjaaDoorLexV
/- lex: a token depends on its own bytes and on where it stops. -/
namespace Go.Lx
open Go.Ty
set_option maxRecDepth 100000
theorem run_all_take : ∀ (l : B), ∀ c ∈ l.take (run l), wch c = true
  | [], c, h => by cases h
  | x :: l, c, h => by
    have e : run (x :: l) = if wch x then run l + 1 else 0 := rfl
    cases hw : wch x with
    | false => rw [e, hw] at h; cases h
    | true =>
      rw [e, hw] at h
      simp only [if_true, List.take_succ_cons] at h
      rcases List.mem_cons.1 h with rfl | h
      · exact hw
      · exact run_all_take l c h
theorem run_stop : ∀ (l : B) (c : UInt8), l[run l]? = some c → wch c = false
  | [], c, h => by cases h
  | x :: l, c, h => by
    have e : run (x :: l) = if wch x then run l + 1 else 0 := rfl
    cases hw : wch x with
    | false => rw [e, hw] at h; simp at h; rw [← h]; exact hw
    | true =>
      rw [e, hw] at h
      exact run_stop l c (by simpa using h)
theorem run_iff : ∀ (n : Nat) (y : B), n ≤ y.length → (∀ c ∈ y.take n, wch c = true) → (∀ c, y[n]? = some c → wch c = false) → run y = n
  | 0, [], _, _, _ => rfl
  | 0, x :: y, _, _, h => by
    have := h x rfl
    show (if wch x then run y + 1 else 0) = 0
    rw [this]
    rfl
  | n + 1, [], h, _, _ => by simp at h
  | n + 1, x :: y, h, h1, h2 => by
    have hx : wch x = true := h1 x (by simp)
    show (if wch x then run y + 1 else 0) = n + 1
    rw [hx, if_pos rfl, run_iff n y (by simpa using h) (fun c hc => h1 c (by simp [hc])) (fun c hc => h2 c (by simpa using hc))]
/-- Does a token of this kind stop at n in y? -/
def stopC (t : Tok) (n : Nat) (c : UInt8) : Bool :=
  if t.kind == 4 then true else if t.kind == 5 then (n == 2) || !sym (t.text ++ [c]) else !wch c
def stop (t : Tok) (n : Nat) (y : B) : Prop := ∀ c, y[n]? = some c → stopC t n c = true
theorem run_dep {x y : B} {n : Nat} (hn : run x = n) (ht : y.take n = x.take n) (hl : n ≤ y.length) (hs : ∀ c, y[n]? = some c → wch c = false) : run y = n :=
  run_iff n y hl (fun c hc => by rw [ht, ← hn] at hc; exact run_all_take x c hc) hs
theorem head_dep {x y : B} {n : Nat} (hn : n ≠ 0) (ht : y.take n = x.take n) : y.take 1 = x.take 1 := by
  have := congrArg (List.take 1) ht
  rwa [List.take_take, List.take_take, Nat.min_eq_left (by omega)] at this
theorem chB_take (x : B) : chB x 0 = chB (x.take 1) 0 := by cases x <;> rfl
theorem words_kind {x : B} {t : Tok} {n : Nat} (h : rWords x = (t, n)) (hn : n ≠ 0) : run x = n ∧ (t.kind = 1 ∨ t.kind = 2) ∧ t.text = x.take n ∧ t.n = 0 ∧ t.at_ = 0 := by
  unfold rWords at h
  split at h
  · cases h; exact ⟨rfl, .inr rfl, rfl, rfl, rfl⟩
  · split at h
    · cases h; exact absurd rfl hn
    · cases h; exact ⟨rfl, .inl rfl, rfl, rfl, rfl⟩
theorem dec_kind {x : B} {t : Tok} {n : Nat} (h : rDec x = (t, n)) (hn : n ≠ 0) : run x = n ∧ t.kind = 3 ∧ t.text = [] ∧ t.at_ = 0 := by
  unfold rDec at h
  split at h
  · cases h; exact absurd rfl hn
  · split at h
    · cases h; exact absurd rfl hn
    · split at h
      · cases h; exact absurd rfl hn
      · cases h; exact ⟨rfl, rfl, rfl, rfl⟩
theorem hex_kind {x : B} {t : Tok} {n : Nat} (h : rHex x = (t, n)) (hn : n ≠ 0) : 1 + run (x.drop 1) = n ∧ t.kind = 3 ∧ t.text = [] ∧ t.at_ = 0 := by
  unfold rHex at h
  split at h
  · cases h; exact absurd rfl hn
  · split at h
    · cases h; exact absurd rfl hn
    · cases h; exact ⟨rfl, rfl, rfl, rfl⟩
theorem quot_kind {x : B} {t : Tok} {n : Nat} (h : rQuoted x = (t, n)) (hn : n ≠ 0) : noQ (x.drop 1) (charP (x.drop 1)).2 = false ∧ t = ⟨4, 0, [], (charP (x.drop 1)).1⟩ ∧ n = (charP (x.drop 1)).2 + 2 := by
  unfold rQuoted at h
  split at h
  · cases h; exact absurd rfl hn
  · rename_i hq; cases h; exact ⟨by simpa using hq, rfl, rfl⟩
theorem syms_kind {x : B} {t : Tok} {n : Nat} (h : rSyms x = (t, n)) (hn : n ≠ 0) : t = ⟨5, 0, x.take n, 0⟩ ∧ sym (x.take n) = true ∧ n ≤ x.length ∧ (n = 2 ∨ n = 1 ∧ (2 ≤ x.length → sym (x.take 2) = false)) := by
  unfold rSyms at h
  split at h
  · rename_i hc
    simp only [Bool.and_eq_true, decide_eq_true_eq] at hc
    cases h
    exact ⟨rfl, hc.2, hc.1, .inl rfl⟩
  · rename_i h2
    split at h
    · rename_i hc
      simp only [Bool.and_eq_true, decide_eq_true_eq] at hc
      cases h
      refine ⟨rfl, hc.2, hc.1, .inr ⟨rfl, fun hl => ?_⟩⟩
      cases hb : sym (x.take 2) with
      | false => rfl
      | true => exact absurd (by rw [hb]; simpa using hl) h2
    · cases h; exact absurd rfl hn
theorem take_le {x y : B} {n k : Nat} (h : y.take n = x.take n) (hk : k ≤ n) : y.take k = x.take k := by
  have := congrArg (List.take k) h
  rwa [List.take_take, List.take_take, Nat.min_eq_left hk] at this
theorem get_take {x y : B} {n i : Nat} (h : y.take n = x.take n) (hi : i < n) : y[i]? = x[i]? := by
  have := congrArg (fun l => l[i]?) h
  simpa [List.getElem?_take_of_lt hi] using this
theorem drop_take_eq {x y : B} {n : Nat} (h : y.take (n + 1) = x.take (n + 1)) : (y.drop 1).take n = (x.drop 1).take n := by
  have := congrArg (List.drop 1) h
  rwa [List.drop_take, List.drop_take, Nat.add_sub_cancel] at this
theorem charP_dep {s s' : B} {k : Nat} (hk : (charP s).2 = k) (h0 : k ≠ 0) (ht : s'.take (k + 1) = s.take (k + 1)) (hl : k + 1 ≤ s.length) (hl' : k + 1 ≤ s'.length) : charP s' = charP s := by
  match s, s', hl, hl' with
  | a :: t, a' :: t', hl, hl' =>
    have ea : a' = a := by simpa using get_take (i := 0) ht (by omega)
    subst ea
    cases hb : (decide ((a'.toNat : Int) < 32) || decide ((a'.toNat : Int) > 126) || (a' == 39)) with
    | true => rw [charP_bad a' t hb] at hk; exact absurd hk.symm h0
    | false =>
      cases hs : a' != 42 with
      | true => rw [charP_plain a' t hb hs, charP_plain a' t' hb hs]
      | false =>
        have e : a' = 42 := by simpa using hs
        subst e
        rw [charP_star] at hk ⊢
        rw [charP_star]
        match t, t' with
        | [], _ => exact absurd hk.symm h0
        | b :: u, [] =>
          simp at hl'
          exact absurd hl' h0
        | b :: u, b' :: u' =>
          simp only at hk ⊢
          have hk2 : 2 ≤ k := by
            revert hk
            split
            · intro h; show 2 ≤ k; rw [← h]; exact Nat.le_refl _
            · split
              · intro h; exact absurd h.symm h0
              · split
                · intro h; exact absurd h.symm h0
                · intro h; rw [← h]; show 2 ≤ 4; decide
          have eb : b' = b := by simpa using get_take (i := 1) ht (by omega)
          subst eb
          cases hE : decide (esc b' ≥ 0) with
          | true => rfl
          | false =>
            simp only [hE, Bool.false_eq_true, if_false] at hk ⊢
            cases hc : (b' != 35) || decide (u.length < 2) with
            | true => rw [hc] at hk; exact absurd hk.symm h0
            | false =>
              rw [hc] at hk
              simp only [Bool.false_eq_true, if_false] at hk
              have hk4 : k = 4 := by
                revert hk
                split
                · intro h; exact absurd h.symm h0
                · intro h; exact h.symm
              subst hk4
              simp only [Bool.or_eq_false_iff] at hc
              have hu : u'.take 2 = u.take 2 := by
                have := congrArg (List.drop 2) (take_le (k := 4) ht (by omega))
                simpa using this
              have hc' : ((b' != 35) || decide (u'.length < 2)) = false := by
                rw [hc.1]
                simp only [List.length_cons] at hl'
                simp
                omega
              rw [hc', hu]
theorem getD_eq {x y : B} {i : Nat} (h : y[i]? = x[i]?) : chB y i = chB x i := by
  unfold chB
  rw [List.getD_eq_getElem?_getD, List.getD_eq_getElem?_getD, h]
theorem tok_dep {x y : B} {t : Tok} {n : Nat} (h : tok x = (t, n)) (hn : n ≠ 0) (ht : y.take n = x.take n) (hl : n ≤ y.length) (hs : stop t n y) : tok y = (t, n) := by
  have e0 : chB y 0 = chB x 0 := getD_eq (get_take ht (by omega))
  have hlx : n ≤ x.length := by have := tok_le x; rw [h] at this; exact this
  unfold tok at h ⊢
  rw [e0]
  split at h
  · rename_i hc
    rw [if_pos hc]
    obtain ⟨hr, hk, _, _, _⟩ := words_kind h hn
    have hry := run_dep hr ht hl fun c hc => by
      have := hs c hc
      unfold stopC at this
      rcases hk with hk | hk <;> rw [hk] at this <;> simpa using this
    rw [← h]
    unfold rWords
    rw [hry, hr, ht]
  · rename_i hc
    rw [if_neg hc]
    split at h
    · rename_i hc
      rw [if_pos hc]
      obtain ⟨hr, hk, _⟩ := dec_kind h hn
      have hry := run_dep hr ht hl fun c hc => by
        have := hs c hc
        unfold stopC at this
        rw [hk] at this
        simpa using this
      rw [← h]
      unfold rDec
      rw [hry, hr, ht]
    · rename_i hc
      rw [if_neg hc]
      split at h
      · rename_i hc
        rw [if_pos hc]
        obtain ⟨hr, hk, _⟩ := hex_kind h hn
        obtain ⟨j, rfl⟩ : ∃ j, n = j + 1 := ⟨n - 1, by omega⟩
        have hr' : run (x.drop 1) = j := by omega
        have htj := drop_take_eq ht
        have hry := run_dep hr' htj (by rw [List.length_drop]; omega) fun c hc => by
          have := hs c (by rw [← hc, List.getElem?_drop, Nat.add_comm])
          unfold stopC at this
          rw [hk] at this
          simpa using this
        rw [← h]
        unfold rHex
        rw [hry, hr', htj]
      · rename_i hc
        rw [if_neg hc]
        split at h
        · rename_i hc
          rw [if_pos hc]
          obtain ⟨hq, htk, hnk⟩ := quot_kind h hn
          have hk0 : (charP (x.drop 1)).2 ≠ 0 := by
            intro e
            rw [e] at hq
            cases hq
          have hlk : (charP (x.drop 1)).2 + 1 ≤ (x.drop 1).length := by rw [List.length_drop]; omega
          have hlk' : (charP (x.drop 1)).2 + 1 ≤ (y.drop 1).length := by rw [List.length_drop]; omega
          have htk1 : (y.drop 1).take ((charP (x.drop 1)).2 + 1) = (x.drop 1).take ((charP (x.drop 1)).2 + 1) := drop_take_eq (by rw [hnk] at ht; exact ht)
          have hcp := charP_dep rfl hk0 htk1 hlk hlk'
          rw [← h]
          unfold rQuoted
          rw [hcp, hq]
          have hq' : noQ (y.drop 1) (charP (x.drop 1)).2 = false := by
            rw [noQ_eq _ _ hk0] at hq ⊢
            rw [get_take htk1 (by omega)]
            exact hq
          rw [hq']
        · rename_i hc
          rw [if_neg hc]
          obtain ⟨htk, hsy, hlx, hcase⟩ := syms_kind h hn
          rcases hcase with rfl | ⟨rfl, h2⟩
          · unfold rSyms
            rw [ht, hsy, show decide (2 ≤ y.length) = true by simpa using hl]
            rw [htk]
            rfl
          · unfold rSyms
            have hno : (decide (2 ≤ y.length) && sym (y.take 2)) = false := by
              cases h2y : decide (2 ≤ y.length) with
              | false => rfl
              | true =>
                have hly : 1 < y.length := of_decide_eq_true h2y
                have hc1 := hs _ (List.getElem?_eq_getElem hly)
                unfold stopC at hc1
                rw [htk] at hc1
                have e2 : y.take 2 = x.take 1 ++ [y[1]] := by
                  rw [List.take_add_one, ht, List.getElem?_eq_getElem hly]
                  rfl
                rw [e2]
                simpa using hc1
            rw [hno, ht, hsy, show decide (1 ≤ y.length) = true by simpa using hl, htk]
            rfl
theorem tok_stop {x : B} {t : Tok} {n : Nat} (h : tok x = (t, n)) (hn : n ≠ 0) : stop t n x := by
  intro c hc
  unfold tok at h
  unfold stopC
  split at h
  · obtain ⟨hr, hk, _⟩ := words_kind h hn
    have := run_stop x c (by rw [hr]; exact hc)
    rcases hk with hk | hk <;> rw [hk] <;> simpa using this
  · split at h
    · obtain ⟨hr, hk, _⟩ := dec_kind h hn
      have := run_stop x c (by rw [hr]; exact hc)
      rw [hk]
      simpa using this
    · split at h
      · obtain ⟨hr, hk, _⟩ := hex_kind h hn
        have := run_stop (x.drop 1) c (by rw [List.getElem?_drop, hr]; exact hc)
        rw [hk]
        simpa using this
      · split at h
        · obtain ⟨_, htk, _⟩ := quot_kind h hn
          rw [htk]
          rfl
        · obtain ⟨htk, _, hl, hcase⟩ := syms_kind h hn
          rw [htk]
          rcases hcase with rfl | ⟨rfl, h2⟩
          · rfl
          · have hl2 : 1 < x.length := (List.getElem?_eq_some_iff.1 hc).1
            have e2 : x.take 1 ++ [c] = x.take 2 := by
              have := List.take_add_one (l := x) (i := 1)
              rw [hc] at this
              exact this.symm
            simp only [e2, h2 (by omega)]
            rfl
theorem stop_32 (t : Tok) (n : Nat) : stopC t n 32 = true := by
  unfold stopC
  split
  · rfl
  · split
    · have : sym (t.text ++ [32]) = false := by
        match t.text with
        | [] => decide
        | [a] => show (((a.toNat : Int) != 32) && (((32 : UInt8).toNat : Int) != 32) && _) = false; simp
        | a :: b :: l => cases l <;> rfl
      rw [this]
      simp
    · decide
/-- Cutting a token's rest off, or putting a space behind it, changes nothing. -/
theorem tok_ext {x w : B} {t : Tok} {n : Nat} (h : tok x = (t, n)) (hn : n ≠ 0) : tok (x ++ 32 :: w) = (t, n) := by
  have hl : n ≤ x.length := by have := tok_le x; rw [h] at this; exact this
  refine tok_dep h hn (by rw [List.take_append_of_le_length hl]) (by rw [List.length_append]; omega) fun c hc => ?_
  rcases Nat.lt_or_ge n x.length with h1 | h1
  · rw [List.getElem?_append_left h1] at hc
    exact tok_stop h hn c hc
  · have e : n = x.length := by omega
    rw [e, List.getElem?_append_right (Nat.le_refl _)] at hc
    simp at hc
    rw [← hc]
    exact stop_32 t n
theorem tok_cut {x w : B} {t : Tok} {n : Nat} (h : tok x = (t, n)) (hn : n ≠ 0) : tok (x.take n ++ 32 :: w) = (t, n) := by
  have hl : n ≤ x.length := by have := tok_le x; rw [h] at this; exact this
  have hlt : (x.take n).length = n := by rw [List.length_take]; omega
  refine tok_dep h hn (by rw [List.take_append_of_le_length (by omega), List.take_take, Nat.min_self]) (by rw [List.length_append]; omega) fun c hc => ?_
  rw [List.getElem?_append_right (by omega), hlt, Nat.sub_self] at hc
  simp at hc
  rw [← hc]
  exact stop_32 t n
end Go.Lx

/- lex: lines put together. -/
namespace Go.Lx
open Go.Ty
set_option maxRecDepth 100000
def shiftT (k : Nat) (t : Tok) : Tok := { t with at_ := t.at_ + k }
def shiftE (k : Nat) : Except Nat (List Tok) → Except Nat (List Tok)
  | .ok l => .ok (l.map (shiftT k))
  | .error e => .error (e + k)
theorem shiftE_prep (k : Nat) (l : List Tok) (x : Except Nat (List Tok)) : shiftE k (prep l x) = prep (l.map (shiftT k)) (shiftE k x) := by
  cases x with
  | error e => rfl
  | ok m => simp [prep, shiftE]
/-- The ways in which a line begins. -/
theorem lx_cases {P : B → Prop} (h0 : P []) (h1 : ∀ r, P r → P (32 :: r)) (h2 : ∀ c r, c ≠ 32 → (tok (c :: r)).2 = 0 → P (c :: r))
    (h3 : ∀ c r, c ≠ 32 → (tok (c :: r)).2 ≠ 0 → P ((c :: r).drop (tok (c :: r)).2) → P (c :: r)) : ∀ r, P r := by
  have key : ∀ n, ∀ r : B, r.length ≤ n → P r := by
    intro n
    induction n with
    | zero => intro r hr; cases r with
      | nil => exact h0
      | cons c r => simp at hr
    | succ n ih =>
      intro r hr
      cases r with
      | nil => exact h0
      | cons c r =>
        by_cases hc : c = 32
        · subst hc; exact h1 r (ih r (by simpa using hr))
        · by_cases hn : (tok (c :: r)).2 = 0
          · exact h2 c r hc hn
          · exact h3 c r hc hn (ih _ (by rw [List.length_drop]; simp only [List.length_cons] at hr ⊢; omega))
  exact fun r => key r.length r (Nat.le_refl _)
theorem lx_shift (k : Nat) : ∀ (r : B) (p : Nat), lx r (p + k) = shiftE k (lx r p) := by
  refine lx_cases ?_ ?_ ?_ ?_
  · intro p; rfl
  · intro r ih p
    rw [lx_space, lx_space, ← ih (p + 1), show p + k + 1 = p + 1 + k by omega]
  · intro c r hc hn p
    rw [lx_bad hc hn, lx_bad hc hn]
    rfl
  · intro c r hc hn ih p
    rw [lx_tok hc hn, lx_tok hc hn, shiftE_prep, ← ih, show p + k + (tok (c :: r)).2 = p + (tok (c :: r)).2 + k by omega]
    congr 1
theorem prep_ok {l : List Tok} {x : Except Nat (List Tok)} {m : List Tok} (h : prep l x = .ok m) : ∃ k, x = .ok k ∧ m = l ++ k := by
  cases x with
  | error e => cases h
  | ok k => cases h; exact ⟨k, rfl, rfl⟩
/-- A line, a space, another line. -/
theorem lx_join (w : B) : ∀ (r : B) (p : Nat) (l : List Tok), lx r p = .ok l → lx (r ++ 32 :: w) p = prep l (lx w (p + r.length + 1)) := by
  refine lx_cases ?_ ?_ ?_ ?_
  · intro p l h
    cases h
    rw [List.nil_append, lx_space, prep_nil]
    rfl
  · intro r ih p l h
    rw [lx_space] at h
    rw [List.cons_append, lx_space, ih _ _ h, List.length_cons, show p + 1 + r.length + 1 = p + (r.length + 1) + 1 by omega]
  · intro c r hc hn p l h
    rw [lx_bad hc hn] at h
    cases h
  · intro c r hc hn ih p l h
    rw [lx_tok hc hn] at h
    obtain ⟨k, hk, rfl⟩ := prep_ok h
    have hx := tok_ext (w := w) (show tok (c :: r) = ((tok (c :: r)).1, (tok (c :: r)).2) from rfl) hn
    have hle := tok_le (c :: r)
    have hx' : tok (c :: (r ++ 32 :: w)) = tok (c :: r) := hx
    rw [List.cons_append, lx_tok hc (by rw [hx']; exact hn), hx', show c :: (r ++ 32 :: w) = (c :: r) ++ 32 :: w from rfl, List.drop_append_of_le_length hle, ih _ _ hk, prep_app]
    congr 2
    rw [List.length_drop]
    omega
/-- Spaces, and then a line. -/
theorem lx_spaces (n : Nat) (r : B) (p : Nat) : lx (List.replicate n 32 ++ r) p = lx r (p + n) := by
  induction n generalizing p with
  | zero => rfl
  | succ n ih => rw [List.replicate_succ, List.cons_append, lx_space, ih, show p + 1 + n = p + (n + 1) by omega]
/- spaces put in -/
/-- Where the i-th of the tokens begins, or the line's end. -/
def startAt (l : List Tok) (i p len : Nat) : Nat := match l[i]? with
  | some t => t.at_.toNat - p
  | none => len
theorem lx_at : ∀ (r : B) (p : Nat) (l : List Tok), lx r p = .ok l → ∀ t, t ∈ l → (p : Int) ≤ t.at_ ∧ t.at_ < p + r.length := by
  refine lx_cases ?_ ?_ ?_ ?_
  · intro p l h t ht; cases h; cases ht
  · intro r ih p l h t ht
    rw [lx_space] at h
    have := ih _ _ h t ht
    simp only [List.length_cons]
    omega
  · intro c r hc hn p l h
    rw [lx_bad hc hn] at h
    cases h
  · intro c r hc hn ih p l h t ht
    rw [lx_tok hc hn] at h
    obtain ⟨k, hk, rfl⟩ := prep_ok h
    have hle := tok_le (c :: r)
    rcases List.mem_append.1 ht with ht | ht
    · cases List.mem_singleton.1 ht
      show (p : Int) ≤ (p : Int) ∧ (p : Int) < _
      simp only [List.length_cons]
      omega
    · have := ih _ _ hk t ht
      rw [List.length_drop] at this
      omega
theorem lx_wide (n : Nat) : ∀ (r : B) (p : Nat) (l : List Tok), lx r p = .ok l → ∀ i, i ≤ l.length →
    lx (r.take (startAt l i p r.length) ++ (List.replicate (n + 1) 32 ++ r.drop (startAt l i p r.length))) p = .ok (l.take i ++ (l.drop i).map (shiftT (n + 1))) := by
  refine lx_cases ?_ ?_ ?_ ?_
  · intro p l h i hi
    cases h
    simp only [List.length_nil, Nat.le_zero] at hi
    subst hi
    show lx (List.replicate (n + 1) 32 ++ []) p = _
    rw [lx_spaces]
    rfl
  · intro r ih p l h i hi
    rw [lx_space] at h
    have h1 := ih _ _ h i hi
    have e : startAt l i p (32 :: r).length = startAt l i (p + 1) r.length + 1 := by
      unfold startAt
      cases hx : l[i]? with
      | none => rfl
      | some t =>
        have := lx_at _ _ _ h t (List.mem_of_getElem? hx)
        simp only
        omega
    rw [e, List.take_succ_cons, List.drop_succ_cons, List.cons_append, lx_space]
    exact h1
  · intro c r hc hn p l h
    rw [lx_bad hc hn] at h
    cases h
  · intro c r hc hn ih p l h i hi
    have h' := h
    rw [lx_tok hc hn] at h
    obtain ⟨k, hk, rfl⟩ := prep_ok h
    have hle := tok_le (c :: r)
    cases i with
    | zero =>
      have e : startAt ([{ (tok (c :: r)).1 with at_ := (p : Int) }] ++ k) 0 p (c :: r).length = 0 := by
        show ((p : Int)).toNat - p = 0
        omega
      rw [e]
      show lx (List.replicate (n + 1) 32 ++ (c :: r)) p = _
      rw [lx_spaces, lx_shift, h']
      rfl
    | succ i =>
      have hi' : i ≤ k.length := by simpa using hi
      have h1 := ih _ _ hk i hi'
      have hdl : ((c :: r).drop (tok (c :: r)).2).length = (c :: r).length - (tok (c :: r)).2 := List.length_drop
      have e : startAt ([{ (tok (c :: r)).1 with at_ := (p : Int) }] ++ k) (i + 1) p (c :: r).length = (tok (c :: r)).2 + startAt k i (p + (tok (c :: r)).2) ((c :: r).drop (tok (c :: r)).2).length := by
        unfold startAt
        show (match k[i]? with | some t => t.at_.toNat - p | none => (c :: r).length) = _
        cases hx : k[i]? with
        | none => simp only; omega
        | some t =>
          have := lx_at _ _ _ hk t (List.mem_of_getElem? hx)
          simp only
          omega
      rw [e]
      generalize hst : startAt k i (p + (tok (c :: r)).2) ((c :: r).drop (tok (c :: r)).2).length = st at h1
      generalize hy : (c :: r).take ((tok (c :: r)).2 + st) ++ (List.replicate (n + 1) 32 ++ (c :: r).drop ((tok (c :: r)).2 + st)) = y
      have hyt : y.take (tok (c :: r)).2 = (c :: r).take (tok (c :: r)).2 := by
        rw [← hy, List.take_append_of_le_length (by rw [List.length_take]; omega), List.take_take, Nat.min_eq_left (by omega)]
      have hyl : (tok (c :: r)).2 ≤ y.length := by rw [← hy, List.length_append, List.length_take]; omega
      have hyd : y.drop (tok (c :: r)).2 = ((c :: r).drop (tok (c :: r)).2).take st ++ (List.replicate (n + 1) 32 ++ ((c :: r).drop (tok (c :: r)).2).drop st) := by
        rw [← hy, List.drop_append_of_le_length (by rw [List.length_take]; omega), List.drop_take, Nat.add_sub_cancel_left, List.drop_drop]
      have hty : tok y = ((tok (c :: r)).1, (tok (c :: r)).2) := by
        refine tok_dep (x := c :: r) rfl hn hyt hyl fun x hx => ?_
        have hx' : (y.drop (tok (c :: r)).2)[0]? = some x := by rw [List.getElem?_drop]; exact hx
        rw [hyd] at hx'
        cases st with
        | zero =>
          rw [List.take_zero, List.nil_append, List.replicate_succ, List.cons_append] at hx'
          cases hx'
          exact stop_32 _ _
        | succ st =>
          rcases Nat.lt_or_ge 0 ((c :: r).drop (tok (c :: r)).2).length with h0 | h0
          · rw [List.getElem?_append_left (by rw [List.length_take]; omega), List.getElem?_take_of_lt (by omega), List.getElem?_drop] at hx'
            exact tok_stop rfl hn x hx'
          · rw [List.eq_nil_of_length_eq_zero (show ((c :: r).drop (tok (c :: r)).2).length = 0 by omega), List.take_nil, List.nil_append, List.replicate_succ, List.cons_append] at hx'
            cases hx'
            exact stop_32 _ _
      obtain ⟨y', rfl⟩ : ∃ y', y = c :: y' := by
        cases y with
        | nil => simp at hyl; exact absurd hyl hn
        | cons a y' =>
          have := get_take (i := 0) hyt (by omega)
          simp at this
          subst this
          exact ⟨y', rfl⟩
      rw [lx_tok hc (by rw [hty]; exact hn), hty, hyd, h1]
      rfl
end Go.Lx

/- lex: the text of tokens is read back as these tokens. -/
namespace Go.Lx
open Go.Ty
set_option maxRecDepth 100000
theorem may_cases {t : Tok} (h : mayK t = true) : (t.kind = 1 ∧ t.n = 0 ∧ name t.text = true) ∨ (t.kind = 2 ∧ t.n = 0 ∧ key t.text = true) ∨ (t.kind = 5 ∧ t.n = 0 ∧ sym t.text = true) ∨ (t.kind = 4 ∧ t.text = [] ∧ 0 ≤ t.n ∧ t.n < 256) ∨ (t.kind = 3 ∧ t.text = []) := by
  unfold mayK at h
  split at h
  · cases h
  · split at h
    · rename_i hk; simp at h hk; exact .inl ⟨hk, h.1, h.2⟩
    · split at h
      · rename_i hk; simp at h hk; exact .inr (.inl ⟨hk, h.1, h.2⟩)
      · split at h
        · rename_i hk; simp at h hk; exact .inr (.inr (.inl ⟨hk, h.1, h.2⟩))
        · split at h
          · rename_i hk; simp at h hk; exact .inr (.inr (.inr (.inl ⟨hk, h.1.1, h.1.2, h.2⟩)))
          · simp at h; exact .inr (.inr (.inr (.inr h)))
theorem tok_name {s : B} (h : name s = true) : tok s = (⟨1, 0, s, 0⟩, s.length) := by
  unfold name at h
  cases s with
  | nil => cases h
  | cons c l =>
    simp only [Bool.and_eq_true] at h
    obtain ⟨⟨⟨⟨_, h32⟩, hl⟩, hr⟩, hk⟩ := h
    have hr : run (c :: l) = (c :: l).length := by have := eq_of_beq hr; omega
    unfold tok
    rw [chB_zero, if_pos hl]
    unfold rWords
    rw [hr, List.take_length, show key (c :: l) = false by simpa using hk, show decide (((c :: l).length : Int) > 32) = false by simpa using h32]
    rfl
def tokB (x : B) (t : Tok) (n : Nat) : Bool := eqK (tok x).1 t && ((tok x).2 == n)
theorem tok_of {x : B} {t : Tok} {n : Nat} (h : tokB x t n = true) : tok x = (t, n) := by
  unfold tokB at h
  simp only [Bool.and_eq_true, beq_iff_eq, eqK_iff] at h
  rw [← h.1, ← h.2]
theorem tok_keysB : ∀ s ∈ keysL, tokB s ⟨2, 0, s, 0⟩ s.length = true := by decide +kernel
theorem tok_symsB : ∀ s ∈ symsL, tokB s ⟨5, 0, s, 0⟩ s.length = true := by decide +kernel
theorem tok_bytesB : ∀ v, v < 256 → tokB ([39] ++ shownP v ++ [39]) ⟨4, 0, [], v⟩ ([39] ++ shownP v ++ [39]).length = true := by decide +kernel
/- numbers -/
theorem cap_wch : ∀ d, d < 16 → wch (capitalB.getD d 0) = true ∧ hexd (capitalB.getD d 0) = d := by decide +kernel
theorem hexDig_wch (u : Nat) : ∀ i, ∀ c ∈ hexDig u i, wch c = true
  | 0, c, h => by cases h
  | i + 1, c, h => by
    rw [hexDig_app] at h
    rcases List.mem_cons.1 h with rfl | h
    · exact (cap_wch _ (Nat.mod_lt _ (by decide))).1
    · exact hexDig_wch u i c h
theorem hexV_app (c : UInt8) (l : B) (v : Int) : hexV (c :: l) v = if decide (hexd c < 0) then none else hexV l (16 * v + hexd c) := rfl
theorem hexDig_val (u : Nat) : ∀ (i v : Nat), hexV (hexDig u i) v = some ((v * 16 ^ i + u % 16 ^ i : Nat) : Int)
  | 0, v => by simp [hexDig, hexV, Nat.mod_one]
  | i + 1, v => by
    rw [hexDig_app, hexV_app, (cap_wch _ (Nat.mod_lt _ (by decide))).2]
    rw [if_neg (by rw [decide_eq_true_eq]; exact Int.not_lt.2 (Int.natCast_nonneg _))]
    have := hexDig_val u i (16 * v + u / 16 ^ i % 16)
    rw [show (16 * (v : Int) + ((u / 16 ^ i % 16 : Nat) : Int)) = ((16 * v + u / 16 ^ i % 16 : Nat) : Int) by simp, this, Nat.mod_pow_succ, Nat.pow_succ]
    congr 2
    rw [Nat.add_mul, Nat.mul_comm 16 v, Nat.mul_assoc, Nat.mul_comm 16 (16 ^ i), Nat.mul_comm (u / 16 ^ i % 16)]
    omega
theorem wrap_back {n : Int} (h : -2147483648 ≤ n ∧ n ≤ 2147483647) : IntKind.i32.wrap (IntKind.u32.wrap n) = n := by
  unfold IntKind.wrap
  simp [IntKind.bits, IntKind.signed]
  omega
theorem wrap_u32 (n : Int) : 0 ≤ IntKind.u32.wrap n ∧ IntKind.u32.wrap n < 4294967296 := by
  unfold IntKind.wrap
  simp [IntKind.bits, IntKind.signed]
  omega
theorem tok_hex {n : Int} (h : -2147483648 ≤ n ∧ n ≤ 2147483647) : tok (wordP n true) = (⟨3, 0, [], n⟩, (wordP n true).length) := by
  obtain ⟨h1, h2⟩ := wrap_u32 n
  obtain ⟨u, hu⟩ : ∃ u : Nat, IntKind.u32.wrap n = u := ⟨(IntKind.u32.wrap n).toNat, by omega⟩
  have hb := wrap_back h
  rw [hu] at hb h2
  unfold wordP
  rw [if_pos rfl, hu]
  simp only [Int.toNat_natCast]
  have hr : run (hexDig u 8) = 8 := by
    refine run_iff 8 _ (by rw [hexDig_len]; exact Nat.le_refl _) (fun c hc => hexDig_wch u 8 c (List.mem_of_mem_take hc)) fun c hc => ?_
    have := (List.getElem?_eq_some_iff.1 hc).1
    rw [hexDig_len] at this
    omega
  have hv : hexP (hexDig u 8) = ((u : Int), true) := by
    unfold hexP
    have := hexDig_val u 8 0
    rw [Nat.zero_mul, Nat.zero_add, Nat.mod_eq_of_lt (by omega)] at this
    rw [show ((0 : Nat) : Int) = 0 from rfl] at this
    rw [this]
    rfl
  unfold tok
  rw [chB_zero, if_neg (by decide), if_neg (by decide), if_pos (by decide)]
  unfold rHex
  rw [show List.drop 1 (35 :: hexDig u 8) = hexDig u 8 from rfl, hr, show (hexDig u 8).take 8 = hexDig u 8 from List.take_of_length_le (by rw [hexDig_len]; exact Nat.le_refl _), hv]
  simp only [hb, List.length_cons, hexDig_len]
  rfl
theorem decV_app : ∀ (a b : B) (v : Int), decV (a ++ b) v = (decV a v).bind (decV b)
  | [], b, v => rfl
  | c :: a, b, v => by
    show (if !dig c.toNat then none else decV (a ++ b) _) = (if !dig c.toNat then none else decV a _).bind _
    split
    · rfl
    · exact decV_app a b _
theorem digit_val : ∀ d, d < 10 → dig (UInt8.ofNat (48 + d)).toNat = true ∧ ((UInt8.ofNat (48 + d)).toNat : Int) - 48 = d := by decide +kernel
theorem dec_val (u : Nat) : decV (Lib.decDigits u) 0 = some (u : Int) := by
  induction u using Nat.strongRecOn with
  | _ u ih =>
    unfold Lib.decDigits
    split
    · rename_i h
      obtain ⟨h1, h2⟩ := digit_val u h
      show (if !dig _ then none else some (10 * 0 + _)) = _
      rw [h1, h2]
      simp
    · rename_i h
      obtain ⟨h1, h2⟩ := digit_val (u % 10) (Nat.mod_lt _ (by decide))
      rw [decV_app, ih (u / 10) (by omega)]
      show (if !dig _ then none else some (10 * ((u / 10 : Nat) : Int) + _)) = _
      rw [h1, h2]
      simp
      omega
theorem dec_dig (u : Nat) : ∀ c ∈ Lib.decDigits u, dig c.toNat = true := by
  induction u using Nat.strongRecOn with
  | _ u ih =>
    intro c hc
    unfold Lib.decDigits at hc
    split at hc
    · rename_i h; cases List.mem_singleton.1 hc; exact (digit_val u h).1
    · rcases List.mem_append.1 hc with hc | hc
      · exact ih (u / 10) (by omega) c hc
      · cases List.mem_singleton.1 hc; exact (digit_val (u % 10) (Nat.mod_lt _ (by decide))).1
theorem dec_le : ∀ (k u : Nat), u < 10 ^ (k + 1) → (Lib.decDigits u).length ≤ k + 1
  | 0, u, h => by
    unfold Lib.decDigits
    rw [dif_pos (by simpa using h)]
    exact Nat.le_refl _
  | k + 1, u, h => by
    unfold Lib.decDigits
    split
    · simp
    · have := dec_le k (u / 10) (by rw [Nat.pow_succ] at h; omega)
      rw [List.length_append, List.length_singleton]
      omega
theorem dec_ne (u : Nat) : Lib.decDigits u ≠ [] := by
  unfold Lib.decDigits
  split <;> simp
theorem dig_ltr {z : Int} (h : dig z = true) : ltr z = false := by
  unfold dig at h
  unfold ltr
  simp at h ⊢
  omega
theorem tok_digits {s : B} {v : Int} (h0 : s ≠ []) (hd : ∀ c ∈ s, dig c.toNat = true) (hl : s.length ≤ 10) (hv : decV s 0 = some v) (h : 0 ≤ v ∧ v ≤ 2147483647) : tok s = (⟨3, 0, [], v⟩, s.length) := by
  cases s with
  | nil => exact absurd rfl h0
  | cons c l =>
    have hr : run (c :: l) = (c :: l).length := run_iff _ _ (Nat.le_refl _) (fun x hx => wch_dig (hd x (List.mem_of_mem_take hx))) fun x hx => by
      have := (List.getElem?_eq_some_iff.1 hx).1
      omega
    have hc := hd c List.mem_cons_self
    unfold tok
    rw [chB_zero, dig_ltr hc, if_neg (by decide), if_pos hc]
    unfold rDec
    rw [hr, List.take_length, hv, show decide (((c :: l).length : Int) > 10) = false by simp at hl ⊢; omega]
    simp only [wrap_small (v := v) ⟨h.1, by omega⟩]
    simp
theorem tok_dec {n : Int} (h : 0 ≤ n ∧ n ≤ 2147483647) : tok (wordP n false) = (⟨3, 0, [], n⟩, (wordP n false).length) := by
  unfold wordP Lib.itoa
  rw [if_neg (by decide), if_neg (by omega)]
  refine tok_digits (dec_ne _) (dec_dig _) (dec_le 9 _ (by omega)) ?_ h
  rw [dec_val]
  congr 1
  omega
/-- The text of a token is read as this token. -/
theorem text_tok {t : Tok} (h : mayK t = true) (hn : -2147483648 ≤ t.n ∧ t.n ≤ 2147483647) : tok (textP t) = ({ t with at_ := 0 }, (textP t).length) ∧ textP t ≠ [] := by
  obtain ⟨kd, p, s, n⟩ := t
  rcases may_cases h with ⟨h1, h2, h3⟩ | ⟨h1, h2, h3⟩ | ⟨h1, h2, h3⟩ | ⟨h1, h2, h3, h4⟩ | ⟨h1, h2⟩
  · simp only at h1 h2 h3; subst h1 h2
    refine ⟨tok_name h3, ?_⟩
    show s ≠ []
    rintro rfl
    cases h3
  · simp only at h1 h2 h3; subst h1 h2
    have hm : s ∈ keysL := (among_iff s _).1 (by rw [key_eq] at h3; exact h3)
    refine ⟨tok_of (tok_keysB s hm), ?_⟩
    show s ≠ []
    rintro rfl
    cases h3
  · simp only at h1 h2 h3; subst h1 h2
    have hm : s ∈ symsL := (among_iff s _).1 (by rw [sym_eq] at h3; exact h3)
    refine ⟨tok_of (tok_symsB s hm), ?_⟩
    show s ≠ []
    rintro rfl
    cases h3
  · simp only at h1 h2 h3 h4; subst h1 h2
    obtain ⟨v, rfl⟩ : ∃ v : Nat, n = v := ⟨n.toNat, by omega⟩
    refine ⟨tok_of (tok_bytesB v (by omega)), ?_⟩
    show [39] ++ shownP _ ++ [39] ≠ []
    simp
  · simp only at h1 h2 hn; subst h1 h2
    rw [show textP ⟨3, p, [], n⟩ = wordP n (decide (n < 0)) from rfl]
    by_cases hneg : n < 0
    · rw [show decide (n < 0) = true from decide_eq_true hneg]
      refine ⟨tok_hex hn, ?_⟩
      unfold wordP
      simp
    · rw [show decide (n < 0) = false from decide_eq_false hneg]
      refine ⟨tok_dec ⟨by omega, hn.2⟩, ?_⟩
      unfold wordP Lib.itoa
      rw [if_neg (by decide), if_neg hneg]
      exact dec_ne _
theorem tok_32 (r : B) : (tok (32 :: r)).2 = 0 := by
  unfold tok
  rw [chB_zero, if_neg (by decide), if_neg (by decide), if_neg (by decide), if_neg (by decide)]
  unfold rSyms
  have h1 : sym ((32 :: r).take 2) = false := by
    cases r with
    | nil => decide
    | cons a r => show ((((32 : UInt8).toNat : Int) != 32) && ((a.toNat : Int) != 32) && Lib.contains doublesB ([32] ++ [32, a] ++ [32])) = false; rfl
  have h2 : sym ((32 :: r).take 1) = false := by show sym [32] = false; decide
  rw [h1, h2, Bool.and_false, Bool.and_false]
  rfl
/- no space between two tokens -/
theorem close_in : ∀ s ∈ symsL, Lib.contains closeB s = true → s ∈ [[44], [59], [58], [41], [93]] := by decide +kernel
theorem open_in : ∀ s ∈ symsL, Lib.contains openB s = true → s ∈ [[40], [91]] := by decide +kernel
theorem close_stop : ∀ c ∈ [(44 : UInt8), 59, 58, 41, 93, 40, 91], wch c = false := by decide +kernel
theorem close_sym : ∀ s ∈ symsL, ∀ c ∈ [(44 : UInt8), 59, 58, 41, 93], ((s.length == 2) || !sym (s ++ [c])) = true := by decide +kernel
theorem open_sym (c : UInt8) : (!sym [40, c] && !sym [91, c]) = true := all_bytes (p := fun c => !sym [40, c] && !sym [91, c]) (by decide +kernel) c
theorem among_sym {t : Tok} {s : B} (h : mayK t = true) (ha : amongT t s = true) : t.kind = 5 ∧ t.text ∈ symsL ∧ Lib.contains s t.text = true ∧ textP t = t.text := by
  unfold amongT at ha
  simp only [Bool.and_eq_true] at ha
  have hk : t.kind = 5 := by simpa using ha.1
  rcases may_cases h with ⟨h1, _⟩ | ⟨h1, _⟩ | ⟨_, _, h3⟩ | ⟨h1, _⟩ | ⟨h1, _⟩
  · omega
  · omega
  · refine ⟨hk, (among_iff _ _).1 (by rw [sym_eq] at h3; exact h3), ha.2, ?_⟩
    unfold textP
    rw [hk]
    rfl
  · omega
  · omega
theorem gap_stop {t u : Tok} (ht : mayK t = true) (hu : mayK u = true) (hg : gap t u = false) {c : UInt8} (hc : (textP u)[0]? = some c) : stopC t (textP t).length c = true := by
  unfold gap at hg
  simp only [Bool.and_eq_false_iff, Bool.not_eq_false', Bool.or_eq_false_iff, bne_eq_false_iff_eq] at hg
  rcases hg with (hg | hg) | ⟨hk1, hg⟩
  · obtain ⟨_, hm, hcn, htx⟩ := among_sym hu hg
    rw [htx] at hc
    have h5 := close_in _ hm hcn
    have hc5 : c ∈ [(44 : UInt8), 59, 58, 41, 93] := by
      simp only [List.mem_cons, List.not_mem_nil, or_false] at h5
      rcases h5 with h5 | h5 | h5 | h5 | h5 <;> rw [h5] at hc <;> cases hc <;> decide
    unfold stopC
    split
    · rfl
    · split
      · rename_i hk
        have hk : t.kind = 5 := by simpa using hk
        rcases may_cases ht with ⟨h1, _⟩ | ⟨h1, _⟩ | ⟨_, _, h3⟩ | ⟨h1, _⟩ | ⟨h1, _⟩
        · omega
        · omega
        · have e : textP t = t.text := by unfold textP; rw [hk]; rfl
          rw [e]
          exact close_sym _ ((among_iff _ _).1 (by rw [sym_eq] at h3; exact h3)) c hc5
        · omega
        · omega
      · rw [close_stop c (List.mem_append_left [40, 91] hc5)]
        rfl
  · obtain ⟨hk, hm, hcn, htx⟩ := among_sym ht hg
    have h2 := open_in _ hm hcn
    have ho := open_sym c
    simp only [Bool.and_eq_true] at ho
    unfold stopC
    rw [hk, htx]
    simp only [List.mem_cons, List.not_mem_nil, or_false] at h2
    rcases h2 with h2 | h2
    · rw [h2]
      show (if (false : Bool) = true then true else if true = true then ((1 == 2) || !sym [40, c]) else _) = true
      rw [ho.1]
      rfl
    · rw [h2]
      show (if (false : Bool) = true then true else if true = true then ((1 == 2) || !sym [91, c]) else _) = true
      rw [ho.2]
      rfl
  · obtain ⟨_, hm, hcn, htx⟩ := among_sym hu hg
    rw [htx] at hc
    have h2 := open_in _ hm hcn
    have hw : wch c = false := by
      simp only [List.mem_cons, List.not_mem_nil, or_false] at h2
      rcases h2 with h2 | h2 <;> rw [h2] at hc <;> cases hc <;> decide
    unfold stopC
    rw [hk1, hw]
    rfl
end Go.Lx

/- lex: reading back the text of tokens. -/
namespace Go.Lx
open Go.Ty
set_option maxRecDepth 100000
/-- The tokens where their text has them. -/
def place : Option Tok → Nat → List Tok → List Tok
  | _, _, [] => []
  | p, q, t :: l => { t with at_ := (q + (sep (gapO p t)).length : Nat) } :: place (some t) (q + (sep (gapO p t)).length + (textP t).length) l
def TkN (l : List Tok) : Prop := ∀ x, x ∈ l → -2147483648 ≤ x.n ∧ x.n ≤ 2147483647
theorem lx_sep (b : Bool) (r : B) (p : Nat) : lx (sep b ++ r) p = lx r (p + (sep b).length) := by
  cases b with
  | false => rfl
  | true => exact lx_space r p
theorem lx_text : ∀ (l : List Tok) (p : Option Tok) (q : Nat), (∀ x, x ∈ l → mayK x = true) → TkN l → lx (textL p l) q = .ok (place p q l)
  | [], p, q, _, _ => rfl
  | t :: l, p, q, hk, hn => by
    have hkt := hk t List.mem_cons_self
    obtain ⟨ht, hne⟩ := text_tok hkt (hn t List.mem_cons_self)
    have ih := lx_text l (some t) (q + (sep (gapO p t)).length + (textP t).length) (fun x hx => hk x (List.mem_cons_of_mem _ hx)) (fun x hx => hn x (List.mem_cons_of_mem _ hx))
    have hlen : (textP t).length ≠ 0 := by simpa using hne
    have hdep : tok (textP t ++ textL (some t) l) = ({ t with at_ := 0 }, (textP t).length) := by
      refine tok_dep ht hlen (by rw [List.take_left, List.take_length]) (by rw [List.length_append]; omega) fun c hc => ?_
      rw [List.getElem?_append_right (Nat.le_refl _), Nat.sub_self] at hc
      show stopC t (textP t).length c = true
      cases l with
      | nil => cases hc
      | cons u l =>
        have hku := hk u (List.mem_cons_of_mem _ List.mem_cons_self)
        obtain ⟨_, hneu⟩ := text_tok hku (hn u (List.mem_cons_of_mem _ List.mem_cons_self))
        have hc : (sep (gap t u) ++ textP u ++ textL (some u) l)[0]? = some c := hc
        cases hg : gap t u with
        | true =>
          rw [hg] at hc
          cases hc
          exact stop_32 t _
        | false =>
          rw [hg] at hc
          refine gap_stop hkt hku hg (c := c) ?_
          cases hu : textP u with
          | nil => exact absurd hu hneu
          | cons a w => rw [hu] at hc; exact hc
    show lx (sep (gapO p t) ++ textP t ++ textL (some t) l) q = _
    rw [List.append_assoc, lx_sep]
    obtain ⟨c, w, hcw⟩ : ∃ c w, textP t ++ textL (some t) l = c :: w := by
      cases hx : textP t with
      | nil => exact absurd hx hne
      | cons c w => exact ⟨c, w ++ textL (some t) l, rfl⟩
    have hdrop : (textP t ++ textL (some t) l).drop (textP t).length = textL (some t) l := List.drop_left
    rw [hcw] at hdep hdrop ⊢
    have hc32 : c ≠ 32 := by
      rintro rfl
      have := tok_32 w
      rw [hdep] at this
      exact hlen this
    rw [lx_tok hc32 (by rw [hdep]; exact hlen), hdep, hdrop, ih]
    rfl
theorem place_len : ∀ (l : List Tok) (p : Option Tok) (q : Nat), (place p q l).length = l.length
  | [], _, _ => rfl
  | t :: l, p, q => by show (place _ _ l).length + 1 = _; rw [place_len l]; rfl
theorem amongT_at (t : Tok) (z : Int) (s : B) : amongT { t with at_ := z } s = amongT t s := rfl
theorem place_text : ∀ (l : List Tok) (p p' : Option Tok) (q : Nat), (∀ u, gapO p' u = gapO p u) → textL p' (place p q l) = textL p l
  | [], _, _, _, _ => rfl
  | t :: l, p, p', q, h => by
    show sep (gapO p' _) ++ textP _ ++ textL _ (place _ _ l) = sep (gapO p t) ++ textP t ++ textL (some t) l
    rw [place_text l (some t) (some { t with at_ := (q + (sep (gapO p t)).length : Nat) }) (q + (sep (gapO p t)).length + (textP t).length) (fun u => rfl), h]
    cases p <;> rfl
theorem place_mem : ∀ (l : List Tok) (p : Option Tok) (q : Nat), ∀ x, x ∈ place p q l → ∃ t, t ∈ l ∧ x = { t with at_ := x.at_ }
  | [], _, _, x, h => by cases h
  | t :: l, p, q, x, h => by
    rcases List.mem_cons.1 h with rfl | h
    · exact ⟨t, List.mem_cons_self, rfl⟩
    · obtain ⟨u, hu, e⟩ := place_mem l _ _ x h
      exact ⟨u, List.mem_cons_of_mem _ hu, e⟩
theorem may_at {t : Tok} (h : mayK t = true) {z : Int} (hz : 0 ≤ z ∧ z < 256) : mayK { t with at_ := z } = true := by
  unfold mayK at h ⊢
  split at h
  · cases h
  · rw [if_neg (by simp; omega)]
    exact h
/-- What is read back: the tokens, in their places. -/
theorem text_back {l : List Tok} (hk : ∀ x, x ∈ l → mayK x = true) (hn : TkN l) (hl : (textL none l).length ≤ 256) : lexO (textL none l) = (place none 0 l, 0, 0) ∧ textO (place none 0 l) = (textL none l, 0) ∧ ∀ x, x ∈ place none 0 l → mayK x = true := by
  have h1 := lx_text l none 0 hk hn
  have hall : ∀ x, x ∈ place none 0 l → mayK x = true := fun x hx => by
    obtain ⟨t, ht, e⟩ := place_mem _ _ _ x hx
    have := lx_at _ _ _ h1 x hx
    rw [e]
    exact may_at (hk t ht) (by omega)
  refine ⟨by rw [lexO_short (by simp; omega), h1]; rfl, ?_, hall⟩
  have e := place_text l none none 0 (fun _ => rfl)
  rw [← e] at hl
  have := textO_ok (l := place none 0 l) (List.any_eq_false.2 fun x hx => by rw [hall x hx]; simp) hl
  rw [this, e]
/-- One behind the other. -/
def inc : List Tok → Int → Prop
  | [], _ => True
  | t :: l, z => z ≤ t.at_ ∧ inc l (t.at_ + 1)
theorem inc_mono : ∀ {l : List Tok} {a b : Int}, inc l a → b ≤ a → inc l b
  | [], _, _, _, _ => trivial
  | _ :: _, _, _, h, hb => ⟨by have := h.1; omega, h.2⟩
theorem lx_inc : ∀ (r : B) (p : Nat) (l : List Tok), lx r p = .ok l → inc l p := by
  refine lx_cases ?_ ?_ ?_ ?_
  · intro p l h; cases h; trivial
  · intro r ih p l h
    rw [lx_space] at h
    exact inc_mono (ih _ _ h) (by omega)
  · intro c r hc hn p l h
    rw [lx_bad hc hn] at h
    cases h
  · intro c r hc hn ih p l h
    rw [lx_tok hc hn] at h
    obtain ⟨k, hk, rfl⟩ := prep_ok h
    exact ⟨Int.le_refl _, inc_mono (ih _ _ hk) (by show (p : Int) + 1 ≤ _; omega)⟩
/- which tokens are read -/
theorem valV_dec {l : B} {v : Int} (h : decV l 0 = some v) : 0 ≤ v := by
  rw [decV_val] at h
  exact (valV_bound (by decide) dval10_lt l 0 v (by decide) h).1
theorem wrap_range (v : Int) : -2147483648 ≤ IntKind.i32.wrap v ∧ IntKind.i32.wrap v ≤ 2147483647 := by
  unfold IntKind.wrap
  simp [IntKind.bits, IntKind.signed]
  omega
theorem esc_lt (c : UInt8) : chB standB (esc c).toNat < 256 ∧ 0 ≤ chB standB (esc c).toNat := by
  unfold chB
  have := (standB.getD (esc c).toNat 0).toNat_lt
  omega
theorem charP_val (s : B) : 0 ≤ (charP s).1 ∧ (charP s).1 < 256 := by
  unfold charP
  split
  · exact ⟨Int.le_refl 0, show (0 : Int) < 256 by decide⟩
  · split
    · have := (s.getD 0 0).toNat_lt
      show 0 ≤ chB s 0 ∧ chB s 0 < 256
      unfold chB
      omega
    · split
      · exact ⟨Int.le_refl 0, show (0 : Int) < 256 by decide⟩
      · split
        · have := esc_lt (s.getD 1 0)
          exact ⟨this.2, this.1⟩
        · split
          · exact ⟨Int.le_refl 0, show (0 : Int) < 256 by decide⟩
          · split
            · exact ⟨Int.le_refl 0, show (0 : Int) < 256 by decide⟩
            · show 0 ≤ (hexP _).1 ∧ (hexP _).1 < 256
              unfold hexP
              rw [hexV_val]
              cases hv : valV 16 ((s.drop 2).take 2) 0 with
              | none => exact ⟨Int.le_refl 0, show (0 : Int) < 256 by decide⟩
              | some v =>
                have hb := valV_bound (by decide) dval16_lt _ 0 v (by decide) hv
                have hl : ((s.drop 2).take 2).length ≤ 2 := by rw [List.length_take]; omega
                have hp : (16 : Int) ^ ((s.drop 2).take 2).length ≤ 16 ^ 2 := by exact_mod_cast Nat.pow_le_pow_right (by decide) hl
                simp only
                omega
theorem tok_may {c : UInt8} {r : B} {t : Tok} {n : Nat} (h : tok (c :: r) = (t, n)) (hn : n ≠ 0) {z : Int} (hz : 0 ≤ z ∧ z < 256) : mayK { t with at_ := z } = true ∧ (-2147483648 ≤ t.n ∧ t.n ≤ 2147483647) := by
  have h0 : (decide (z < 0) || decide (z ≥ 256)) = false := by simp; omega
  unfold tok at h
  rw [chB_zero] at h
  split at h
  · rename_i hl
    obtain ⟨hr, _⟩ := words_kind h hn
    unfold rWords at h
    split at h
    · rename_i hk
      cases h
      refine ⟨?_, by show (-2147483648 : Int) ≤ 0 ∧ (0 : Int) ≤ 2147483647; omega⟩
      unfold mayK
      simp only [h0, hk]
      rfl
    · rename_i hk
      split at h
      · cases h; exact absurd rfl hn
      · rename_i h32
        cases h
        refine ⟨?_, by show (-2147483648 : Int) ≤ 0 ∧ (0 : Int) ≤ 2147483647; omega⟩
        unfold mayK
        simp only [h0, name_word hl (by simpa using hk)]
        simpa using h32
  · split at h
    · obtain ⟨_, hk, htx, _⟩ := dec_kind h hn
      refine ⟨?_, ?_⟩
      · unfold mayK
        simp only [h0, hk, htx]
        rfl
      · unfold rDec at h
        split at h
        · cases h; exact absurd rfl hn
        · split at h
          · cases h; exact absurd rfl hn
          · split at h
            · cases h; exact absurd rfl hn
            · cases h; exact wrap_range _
    · split at h
      · obtain ⟨_, hk, htx, _⟩ := hex_kind h hn
        refine ⟨?_, ?_⟩
        · unfold mayK
          simp only [h0, hk, htx]
          rfl
        · unfold rHex at h
          split at h
          · cases h; exact absurd rfl hn
          · split at h
            · cases h; exact absurd rfl hn
            · cases h; exact wrap_range _
      · split at h
        · obtain ⟨_, htk, _⟩ := quot_kind h hn
          have hv := charP_val r
          subst htk
          refine ⟨?_, by show -2147483648 ≤ (charP r).1 ∧ (charP r).1 ≤ 2147483647; omega⟩
          unfold mayK
          simp only [h0]
          simp
          omega
        · obtain ⟨htk, hsy, _, _⟩ := syms_kind h hn
          subst htk
          refine ⟨?_, by show (-2147483648 : Int) ≤ 0 ∧ (0 : Int) ≤ 2147483647; omega⟩
          unfold mayK
          simp only [h0, hsy]
          rfl
theorem keys_le : ∀ s ∈ keysL, s.length ≤ 32 := by decide +kernel
theorem syms_le : ∀ s ∈ symsL, s.length ≤ 32 := by decide +kernel
theorem may_len {t : Tok} (h : mayK t = true) : t.text.length ≤ 32 := by
  rcases may_cases h with ⟨_, _, h3⟩ | ⟨_, _, h3⟩ | ⟨_, _, h3⟩ | ⟨_, h3, _⟩ | ⟨_, h3⟩
  · unfold name at h3
    simp only [Bool.and_eq_true, decide_eq_true_eq] at h3
    have := h3.1.1.1.2
    omega
  · exact keys_le _ ((among_iff _ _).1 (by rw [key_eq] at h3; exact h3))
  · exact syms_le _ ((among_iff _ _).1 (by rw [sym_eq] at h3; exact h3))
  · rw [h3]; exact Nat.zero_le _
  · rw [h3]; exact Nat.zero_le _
theorem lx_may : ∀ (r : B) (p : Nat) (l : List Tok), lx r p = .ok l → p + r.length ≤ 256 → ∀ x, x ∈ l → mayK x = true ∧ (-2147483648 ≤ x.n ∧ x.n ≤ 2147483647) := by
  refine lx_cases ?_ ?_ ?_ ?_
  · intro p l h _ x hx; cases h; cases hx
  · intro r ih p l h hp x hx
    rw [lx_space] at h
    exact ih _ _ h (by simp only [List.length_cons] at hp; omega) x hx
  · intro c r hc hn p l h
    rw [lx_bad hc hn] at h
    cases h
  · intro c r hc hn ih p l h hp x hx
    rw [lx_tok hc hn] at h
    obtain ⟨k, hk, rfl⟩ := prep_ok h
    have hle := tok_le (c :: r)
    rcases List.mem_append.1 hx with hx | hx
    · cases List.mem_singleton.1 hx
      exact tok_may (show tok (c :: r) = ((tok (c :: r)).1, (tok (c :: r)).2) from rfl) hn (z := (p : Int)) (by simp only [List.length_cons] at hp; omega)
    · exact ih _ _ hk (by rw [List.length_drop]; omega) x hx
end Go.Lx

/- lex: what the laws need, plain. -/
namespace Go.Lx
open Go.Ty
set_option maxRecDepth 100000
/-- Equal but for the places. -/
def sameT (x y : Tok) : Bool := !((x.kind != y.kind) || !(x.text == y.text) || (x.n != y.n))
theorem same_at (t : Tok) (z : Int) : sameT { t with at_ := z } t = true ∧ sameT t { t with at_ := z } = true := by
  constructor <;> (unfold sameT; simp)
theorem same_refl (t : Tok) : sameT t t = true := by unfold sameT; simp
theorem eqL_app {α : Type} (e : α → α → Bool) : ∀ {a b : List α} (c d : List α), Eng.eqL e a b = true → Eng.eqL e (a ++ c) (b ++ d) = Eng.eqL e c d
  | [], [], _, _, _ => rfl
  | [], _ :: _, _, _, h => by cases h
  | _ :: _, [], _, _, h => by cases h
  | x :: a, y :: b, c, d, h => by
    have h : (e x y && Eng.eqL e a b) = true := h
    simp only [Bool.and_eq_true] at h
    show (e x y && Eng.eqL e (a ++ c) (b ++ d)) = _
    rw [h.1, eqL_app e c d h.2, Bool.true_and]
theorem same_self : ∀ l : List Tok, Eng.eqL sameT l l = true
  | [] => rfl
  | t :: l => by show (sameT t t && Eng.eqL sameT l l) = true; rw [same_refl, same_self l]; rfl
theorem same_shift (k : Nat) : ∀ l : List Tok, Eng.eqL sameT (l.map (shiftT k)) l = true ∧ Eng.eqL sameT l (l.map (shiftT k)) = true
  | [] => ⟨rfl, rfl⟩
  | t :: l => by
    have ih := same_shift k l
    have ht := same_at t (t.at_ + k)
    constructor
    · show (sameT (shiftT k t) t && Eng.eqL sameT (l.map (shiftT k)) l) = true
      rw [ih.1, Bool.and_true]; exact ht.1
    · show (sameT t (shiftT k t) && Eng.eqL sameT l (l.map (shiftT k))) = true
      rw [ih.2, Bool.and_true]; exact ht.2
theorem same_place : ∀ (l : List Tok) (p : Option Tok) (q : Nat), Eng.eqL sameT (place p q l) l = true ∧ Eng.eqL sameT l (place p q l) = true
  | [], _, _ => ⟨rfl, rfl⟩
  | t :: l, p, q => by
    have ih := same_place l (some t) (q + (sep (gapO p t)).length + (textP t).length)
    have ht := same_at t (q + (sep (gapO p t)).length : Nat)
    constructor
    · show (sameT _ t && Eng.eqL sameT (place (some t) _ l) l) = true
      rw [ih.1, Bool.and_true]; exact ht.1
    · show (sameT t _ && Eng.eqL sameT l (place (some t) _ l)) = true
      rw [ih.2, Bool.and_true]; exact ht.2
theorem lx_len : ∀ (r : B) (p : Nat) (l : List Tok), lx r p = .ok l → l.length ≤ r.length := by
  refine lx_cases ?_ ?_ ?_ ?_
  · intro p l h; cases h; exact Nat.le_refl _
  · intro r ih p l h
    rw [lx_space] at h
    have := ih _ _ h
    simp only [List.length_cons]
    omega
  · intro c r hc hn p l h
    rw [lx_bad hc hn] at h
    cases h
  · intro c r hc hn ih p l h
    rw [lx_tok hc hn] at h
    obtain ⟨k, hk, rfl⟩ := prep_ok h
    have := ih _ _ hk
    have hle := tok_le (c :: r)
    rw [List.length_drop] at this
    simp only [List.length_append, List.length_singleton]
    omega
theorem lx_errle : ∀ (r : B) (p q : Nat), lx r p = .error q → q ≤ p + r.length := by
  refine lx_cases ?_ ?_ ?_ ?_
  · intro p q h; cases h
  · intro r ih p q h
    rw [lx_space] at h
    have := ih _ _ h
    simp only [List.length_cons]
    omega
  · intro c r hc hn p q h
    rw [lx_bad hc hn] at h
    cases h
    omega
  · intro c r hc hn ih p q h
    rw [lx_tok hc hn] at h
    have hk : lx ((c :: r).drop (tok (c :: r)).2) (p + (tok (c :: r)).2) = .error q := by
      cases hx : lx ((c :: r).drop (tok (c :: r)).2) (p + (tok (c :: r)).2) with
      | ok m => rw [hx] at h; cases h
      | error e => rw [hx] at h; cases h; rfl
    have := ih _ _ hk
    have hle := tok_le (c :: r)
    rw [List.length_drop] at this
    omega
/-- A line that is read. -/
theorem lexO_ok {s : B} {l : List Tok} {z : Int} (h : lexO s = (l, z, 0)) : s.length ≤ 256 ∧ lx s 0 = .ok l ∧ z = 0 := by
  cases hd : decide ((s.length : Int) > 256) with
  | true => rw [lexO_long hd] at h; cases h
  | false =>
    rw [lexO_short hd] at h
    cases hx : lx s 0 with
    | error e => rw [hx] at h; cases h
    | ok m =>
      rw [hx] at h
      cases h
      have := of_decide_eq_false hd
      exact ⟨by omega, rfl, rfl⟩
theorem lexO_no {s : B} {l : List Tok} {z e : Int} (h : lexO s = (l, z, e)) (he : e ≠ 0) : l = [] := by
  cases hd : decide ((s.length : Int) > 256) with
  | true => rw [lexO_long hd] at h; cases h; rfl
  | false =>
    rw [lexO_short hd] at h
    cases hx : lx s 0 with
    | error e => rw [hx] at h; cases h; rfl
    | ok m => rw [hx] at h; cases h; exact absurd rfl he
theorem lexO_err {s : B} {l : List Tok} {z e : Int} (h : lexO s = (l, z, e)) (he : e ≠ 0) (hs : s.length ≤ 256) : ∃ p : Nat, z = p ∧ e = 80 ∧ lx s 0 = .error p ∧ l = [] := by
  rw [lexO_short (by simp; omega)] at h
  cases hx : lx s 0 with
  | error p => rw [hx] at h; cases h; exact ⟨p, rfl, rfl, rfl, rfl⟩
  | ok m => rw [hx] at h; cases h; exact absurd rfl he
/-- A text that is written. -/
theorem textO_or {l : List Tok} {s : B} {f : Int} (hk : ∀ x, x ∈ l → mayK x = true) (h : textO l = (s, f)) : (f = 3 ∧ s = [] ∧ l ≠ []) ∨ (f = 0 ∧ s = textL none l ∧ s.length ≤ 256) := by
  unfold textO at h
  rw [if_neg (by rw [Bool.not_eq_true]; exact List.any_eq_false.2 fun x hx => by rw [hk x hx]; simp)] at h
  split at h
  · rename_i hd
    cases h
    refine .inl ⟨rfl, rfl, ?_⟩
    rintro rfl
    cases hd
  · rename_i hd
    cases h
    refine .inr ⟨rfl, rfl, ?_⟩
    simp at hd
    omega
theorem join_ok {a b : B} {l m : List Tok} {z y : Int} (ha : lexO a = (l, z, 0)) (hb : lexO b = (m, y, 0)) (hl : a.length + 1 + b.length ≤ 256) : lexO (a ++ [32] ++ b) = (l ++ m.map (shiftT (a.length + 1)), 0, 0) := by
  obtain ⟨_, h1, _⟩ := lexO_ok ha
  obtain ⟨_, h2, _⟩ := lexO_ok hb
  rw [lexO_short (by simp; omega), List.append_assoc]
  show outO (lx (a ++ 32 :: b) 0) = _
  rw [lx_join b a 0 l h1, show 0 + a.length + 1 = 0 + (a.length + 1) by omega, lx_shift, h2]
  rfl
theorem join_err {a b : B} {l m : List Tok} {z y f : Int} (ha : lexO a = (l, z, 0)) (hb : lexO b = (m, y, f)) (hf : f ≠ 0) (hl : a.length + 1 + b.length ≤ 256) : lexO (a ++ [32] ++ b) = ([], (a.length : Int) + 1 + y, 80) ∧ f = 80 := by
  obtain ⟨_, h1, _⟩ := lexO_ok ha
  obtain ⟨p, rfl, rfl, h2, rfl⟩ := lexO_err hb hf (by omega)
  refine ⟨?_, rfl⟩
  rw [lexO_short (by simp; omega), List.append_assoc]
  show outO (lx (a ++ 32 :: b) 0) = _
  rw [lx_join b a 0 l h1, show 0 + a.length + 1 = 0 + (a.length + 1) by omega, lx_shift, h2]
  show ([], ((p + (a.length + 1) : Nat) : Int), (80 : Int)) = _
  congr 2
  simp
  omega
/- bytes -/
def bytT (n : Nat) : List Tok := [⟨4, 0, [], n⟩]
def bytS (n : Nat) : B := [39] ++ shownP n ++ [39]
def bytE (n : Nat) : B := [39, 42, 35] ++ (wordP n true).drop 7
def rdB (s : B) (l : List Tok) : Bool := Eng.eqL sameT (lexO s).1 l && ((lexO s).2.1 == 0) && ((lexO s).2.2 == 0)
def flB (s : B) (w : Int) : Bool := (((lexO s).1.length : Int) == 0) && ((lexO s).2.1 == w) && ((lexO s).2.2 == 80)
theorem byt_text : ∀ n, n < 256 → textO (bytT n) = (bytS n, 0) := by decide +kernel
theorem byt_len : ∀ n, n < 256 → 3 ≤ (bytS n).length ∧ (bytS n).length ≤ 6 := by decide +kernel
theorem byt_1 : ∀ n, n < 256 → rdB (bytS n) (bytT n) = true := by decide +kernel
theorem byt_2 : ∀ n, n < 256 → rdB (bytE n ++ [39]) (bytT n) = true := by decide +kernel
theorem byt_3 : ∀ n, n < 256 → flB (bytE n) 0 = true := by decide +kernel
theorem byt_4 : ∀ n, n < 256 → flB ((bytS n).take ((bytS n).length - 1)) 0 = true := by decide +kernel
end Go.Lx

/- lex: lines put together. -/
import Derived.Test.YtddnoaffkinkkaaDoorLexX
namespace Go.Lx
open Go.Ty
set_option maxRecDepth 100000
def shiftT (k : Nat) (t : Tok) : Tok := { t with at_ := t.at_ + k }
def shiftE (k : Nat) : Except Nat (List Tok) → Except Nat (List Tok)
  | .ok l => .ok (l.map (shiftT k))
  | .error e => .error (e + k)
theorem shiftE_prep (k : Nat) (l : List Tok) (x : Except Nat (List Tok)) : shiftE k (prep l x) = prep (l.map (shiftT k)) (shiftE k x) := by
  cases x with
  | error e => rfl
  | ok m => simp [prep, shiftE]
/-- The ways in which a line begins. -/
theorem lx_cases {P : B → Prop} (h0 : P []) (h1 : ∀ r, P r → P (32 :: r)) (h2 : ∀ c r, c ≠ 32 → (tok (c :: r)).2 = 0 → P (c :: r))
    (h3 : ∀ c r, c ≠ 32 → (tok (c :: r)).2 ≠ 0 → P ((c :: r).drop (tok (c :: r)).2) → P (c :: r)) : ∀ r, P r := by
  have key : ∀ n, ∀ r : B, r.length ≤ n → P r := by
    intro n
    induction n with
    | zero => intro r hr; cases r with
      | nil => exact h0
      | cons c r => simp at hr
    | succ n ih =>
      intro r hr
      cases r with
      | nil => exact h0
      | cons c r =>
        by_cases hc : c = 32
        · subst hc; exact h1 r (ih r (by simpa using hr))
        · by_cases hn : (tok (c :: r)).2 = 0
          · exact h2 c r hc hn
          · exact h3 c r hc hn (ih _ (by rw [List.length_drop]; simp only [List.length_cons] at hr ⊢; omega))
  exact fun r => key r.length r (Nat.le_refl _)
theorem lx_shift (k : Nat) : ∀ (r : B) (p : Nat), lx r (p + k) = shiftE k (lx r p) := by
  refine lx_cases ?_ ?_ ?_ ?_
  · intro p; rfl
  · intro r ih p
    rw [lx_space, lx_space, ← ih (p + 1), show p + k + 1 = p + 1 + k by omega]
  · intro c r hc hn p
    rw [lx_bad hc hn, lx_bad hc hn]
    rfl
  · intro c r hc hn ih p
    rw [lx_tok hc hn, lx_tok hc hn, shiftE_prep, ← ih, show p + k + (tok (c :: r)).2 = p + (tok (c :: r)).2 + k by omega]
    congr 1
theorem prep_ok {l : List Tok} {x : Except Nat (List Tok)} {m : List Tok} (h : prep l x = .ok m) : ∃ k, x = .ok k ∧ m = l ++ k := by
  cases x with
  | error e => cases h
  | ok k => cases h; exact ⟨k, rfl, rfl⟩
/-- A line, a space, another line. -/
theorem lx_join (w : B) : ∀ (r : B) (p : Nat) (l : List Tok), lx r p = .ok l → lx (r ++ 32 :: w) p = prep l (lx w (p + r.length + 1)) := by
  refine lx_cases ?_ ?_ ?_ ?_
  · intro p l h
    cases h
    rw [List.nil_append, lx_space, prep_nil]
    rfl
  · intro r ih p l h
    rw [lx_space] at h
    rw [List.cons_append, lx_space, ih _ _ h, List.length_cons, show p + 1 + r.length + 1 = p + (r.length + 1) + 1 by omega]
  · intro c r hc hn p l h
    rw [lx_bad hc hn] at h
    cases h
  · intro c r hc hn ih p l h
    rw [lx_tok hc hn] at h
    obtain ⟨k, hk, rfl⟩ := prep_ok h
    have hx := tok_ext (w := w) (show tok (c :: r) = ((tok (c :: r)).1, (tok (c :: r)).2) from rfl) hn
    have hle := tok_le (c :: r)
    have hx' : tok (c :: (r ++ 32 :: w)) = tok (c :: r) := hx
    rw [List.cons_append, lx_tok hc (by rw [hx']; exact hn), hx', show c :: (r ++ 32 :: w) = (c :: r) ++ 32 :: w from rfl, List.drop_append_of_le_length hle, ih _ _ hk, prep_app]
    congr 2
    rw [List.length_drop]
    omega
/-- Spaces, and then a line. -/
theorem lx_spaces (n : Nat) (r : B) (p : Nat) : lx (List.replicate n 32 ++ r) p = lx r (p + n) := by
  induction n generalizing p with
  | zero => rfl
  | succ n ih => rw [List.replicate_succ, List.cons_append, lx_space, ih, show p + 1 + n = p + (n + 1) by omega]
/- spaces put in -/
/-- Where the i-th of the tokens begins, or the line's end. -/
def startAt (l : List Tok) (i p len : Nat) : Nat := match l[i]? with
  | some t => t.at_.toNat - p
  | none => len
theorem lx_at : ∀ (r : B) (p : Nat) (l : List Tok), lx r p = .ok l → ∀ t, t ∈ l → (p : Int) ≤ t.at_ ∧ t.at_ < p + r.length := by
  refine lx_cases ?_ ?_ ?_ ?_
  · intro p l h t ht; cases h; cases ht
  · intro r ih p l h t ht
    rw [lx_space] at h
    have := ih _ _ h t ht
    simp only [List.length_cons]
    omega
  · intro c r hc hn p l h
    rw [lx_bad hc hn] at h
    cases h
  · intro c r hc hn ih p l h t ht
    rw [lx_tok hc hn] at h
    obtain ⟨k, hk, rfl⟩ := prep_ok h
    have hle := tok_le (c :: r)
    rcases List.mem_append.1 ht with ht | ht
    · cases List.mem_singleton.1 ht
      show (p : Int) ≤ (p : Int) ∧ (p : Int) < _
      simp only [List.length_cons]
      omega
    · have := ih _ _ hk t ht
      rw [List.length_drop] at this
      omega
theorem lx_wide (n : Nat) : ∀ (r : B) (p : Nat) (l : List Tok), lx r p = .ok l → ∀ i, i ≤ l.length →
    lx (r.take (startAt l i p r.length) ++ (List.replicate (n + 1) 32 ++ r.drop (startAt l i p r.length))) p = .ok (l.take i ++ (l.drop i).map (shiftT (n + 1))) := by
  refine lx_cases ?_ ?_ ?_ ?_
  · intro p l h i hi
    cases h
    simp only [List.length_nil, Nat.le_zero] at hi
    subst hi
    show lx (List.replicate (n + 1) 32 ++ []) p = _
    rw [lx_spaces]
    rfl
  · intro r ih p l h i hi
    rw [lx_space] at h
    have h1 := ih _ _ h i hi
    have e : startAt l i p (32 :: r).length = startAt l i (p + 1) r.length + 1 := by
      unfold startAt
      cases hx : l[i]? with
      | none => rfl
      | some t =>
        have := lx_at _ _ _ h t (List.mem_of_getElem? hx)
        simp only
        omega
    rw [e, List.take_succ_cons, List.drop_succ_cons, List.cons_append, lx_space]
    exact h1
  · intro c r hc hn p l h
    rw [lx_bad hc hn] at h
    cases h
  · intro c r hc hn ih p l h i hi
    have h' := h
    rw [lx_tok hc hn] at h
    obtain ⟨k, hk, rfl⟩ := prep_ok h
    have hle := tok_le (c :: r)
    cases i with
    | zero =>
      have e : startAt ([{ (tok (c :: r)).1 with at_ := (p : Int) }] ++ k) 0 p (c :: r).length = 0 := by
        show ((p : Int)).toNat - p = 0
        omega
      rw [e]
      show lx (List.replicate (n + 1) 32 ++ (c :: r)) p = _
      rw [lx_spaces, lx_shift, h']
      rfl
    | succ i =>
      have hi' : i ≤ k.length := by simpa using hi
      have h1 := ih _ _ hk i hi'
      have hdl : ((c :: r).drop (tok (c :: r)).2).length = (c :: r).length - (tok (c :: r)).2 := List.length_drop
      have e : startAt ([{ (tok (c :: r)).1 with at_ := (p : Int) }] ++ k) (i + 1) p (c :: r).length = (tok (c :: r)).2 + startAt k i (p + (tok (c :: r)).2) ((c :: r).drop (tok (c :: r)).2).length := by
        unfold startAt
        show (match k[i]? with | some t => t.at_.toNat - p | none => (c :: r).length) = _
        cases hx : k[i]? with
        | none => simp only; omega
        | some t =>
          have := lx_at _ _ _ hk t (List.mem_of_getElem? hx)
          simp only
          omega
      rw [e]
      generalize hst : startAt k i (p + (tok (c :: r)).2) ((c :: r).drop (tok (c :: r)).2).length = st at h1
      generalize hy : (c :: r).take ((tok (c :: r)).2 + st) ++ (List.replicate (n + 1) 32 ++ (c :: r).drop ((tok (c :: r)).2 + st)) = y
      have hyt : y.take (tok (c :: r)).2 = (c :: r).take (tok (c :: r)).2 := by
        rw [← hy, List.take_append_of_le_length (by rw [List.length_take]; omega), List.take_take, Nat.min_eq_left (by omega)]
      have hyl : (tok (c :: r)).2 ≤ y.length := by rw [← hy, List.length_append, List.length_take]; omega
      have hyd : y.drop (tok (c :: r)).2 = ((c :: r).drop (tok (c :: r)).2).take st ++ (List.replicate (n + 1) 32 ++ ((c :: r).drop (tok (c :: r)).2).drop st) := by
        rw [← hy, List.drop_append_of_le_length (by rw [List.length_take]; omega), List.drop_take, Nat.add_sub_cancel_left, List.drop_drop]
      have hty : tok y = ((tok (c :: r)).1, (tok (c :: r)).2) := by
        refine tok_dep (x := c :: r) rfl hn hyt hyl fun x hx => ?_
        have hx' : (y.drop (tok (c :: r)).2)[0]? = some x := by rw [List.getElem?_drop]; exact hx
        rw [hyd] at hx'
        cases st with
        | zero =>
          rw [List.take_zero, List.nil_append, List.replicate_succ, List.cons_append] at hx'
          cases hx'
          exact stop_32 _ _
        | succ st =>
          rcases Nat.lt_or_ge 0 ((c :: r).drop (tok (c :: r)).2).length with h0 | h0
          · rw [List.getElem?_append_left (by rw [List.length_take]; omega), List.getElem?_take_of_lt (by omega), List.getElem?_drop] at hx'
            exact tok_stop rfl hn x hx'
          · rw [List.eq_nil_of_length_eq_zero (show ((c :: r).drop (tok (c :: r)).2).length = 0 by omega), List.take_nil, List.nil_append, List.replicate_succ, List.cons_append] at hx'
            cases hx'
            exact stop_32 _ _
      obtain ⟨y', rfl⟩ : ∃ y', y = c :: y' := by
        cases y with
        | nil => simp at hyl; exact absurd hyl hn
        | cons a y' =>
          have := get_take (i := 0) hyt (by omega)
          simp at this
          subst this
          exact ⟨y', rfl⟩
      rw [lx_tok hc (by rw [hty]; exact hn), hty, hyd, h1]
      rfl
end Go.Lx

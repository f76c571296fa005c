/- types: what front reads, and what tokens begin with: plain law. -/
import Derived.Test.YtcejocfjienpfaaDoorTypT
namespace Go.Ty
open Go.Lx
def strip (x : Tok) : Tok := { x with at_ := 0 }
/-- l begins with w, whatever the places. -/
def begF : List Tok → List Tok → Bool
  | _, [] => true
  | [], _ :: _ => false
  | x :: l, y :: w => eqK (strip x) y && begF l w
theorem begF_short : ∀ {l w : List Tok}, l.length < w.length → begF l w = false
  | _, [], h => by simp at h
  | [], _ :: _, _ => rfl
  | x :: l, y :: w, h => by unfold begF; rw [begF_short (by simpa using h), Bool.and_false]
theorem begF_drop {l w : List Tok} {j : Nat} {x y : Tok} (hx : l[j]? = some x) (hy : w[j]? = some y) : begF (l.drop j) (w.drop j) = (eqK (strip x) y && begF (l.drop (j + 1)) (w.drop (j + 1))) := by
  have h1 : j < l.length := (List.getElem?_eq_some_iff.1 hx).1
  have h2 : j < w.length := (List.getElem?_eq_some_iff.1 hy).1
  rw [List.drop_eq_getElem_cons h1, (List.getElem?_eq_some_iff.1 hx).2, List.drop_eq_getElem_cons h2, (List.getElem?_eq_some_iff.1 hy).2]
  rfl
theorem begF_end (l : List Tok) {w : List Tok} {j : Nat} (h : w.length ≤ j) : begF (l.drop j) (w.drop j) = true := by
  rw [List.drop_eq_nil_of_le h]
  cases l.drop j <;> rfl
/-- The token at place i, its place apart. -/
def M (l : List Tok) (i : Nat) (y : Tok) : Prop := ∃ x, l[i]? = some x ∧ strip x = y
def begAt (l : List Tok) : Nat → List Tok → Prop
  | _, [] => True
  | i, y :: w => M l i y ∧ begAt l (i + 1) w
theorem M.uniq {l : List Tok} {i : Nat} {y z : Tok} (a : M l i y) (b : M l i z) : y = z := by
  obtain ⟨x, hx, rfl⟩ := a
  obtain ⟨x', hx', rfl⟩ := b
  rw [hx] at hx'
  cases hx'
  rfl
theorem M.lt {l : List Tok} {i : Nat} {y : Tok} (a : M l i y) : i < l.length := by
  obtain ⟨x, hx, _⟩ := a
  exact (List.getElem?_eq_some_iff.1 hx).1
theorem begAt_app (l : List Tok) : ∀ (u w : List Tok) (i : Nat), begAt l i (u ++ w) ↔ begAt l i u ∧ begAt l (i + u.length) w
  | [], w, i => by simp [begAt]
  | y :: u, w, i => by
    show (M l i y ∧ begAt l (i + 1) (u ++ w)) ↔ (M l i y ∧ begAt l (i + 1) u) ∧ begAt l (i + (u.length + 1)) w
    rw [begAt_app l u w (i + 1), and_assoc, show i + 1 + u.length = i + (u.length + 1) by omega]
theorem begF_iff (l : List Tok) : ∀ (w : List Tok) (i : Nat), begF (l.drop i) w = true ↔ begAt l i w
  | [], i => by cases l.drop i <;> simp [begF, begAt]
  | y :: w, i => by
    by_cases h : i < l.length
    · have hx : l[i]? = some l[i] := List.getElem?_eq_getElem h
      rw [List.drop_eq_getElem_cons h]
      show (eqK (strip l[i]) y && begF (l.drop (i + 1)) w) = true ↔ M l i y ∧ begAt l (i + 1) w
      rw [Bool.and_eq_true, eqK_iff, begF_iff l w (i + 1)]
      constructor
      · rintro ⟨a, b⟩; exact ⟨⟨_, hx, a⟩, b⟩
      · rintro ⟨⟨x, hx', a⟩, b⟩; rw [hx] at hx'; cases hx'; exact ⟨a, b⟩
    · rw [List.drop_eq_nil_of_le (by omega)]
      constructor
      · intro h; cases h
      · rintro ⟨m, _⟩; exact absurd m.lt h
theorem M_tokAt {l : List Tok} {i : Nat} {y : Tok} : M l i y ↔ i < l.length ∧ strip (tokAt l i) = y := by
  constructor
  · intro m
    have h := m.lt
    obtain ⟨x, hx, e⟩ := m
    rw [tokAt_get h] at hx
    cases hx
    exact ⟨h, e⟩
  · rintro ⟨h, e⟩; exact ⟨_, tokAt_get h, e⟩
theorem next_iff {l : List Tok} {i : Nat} {kd : Int} {s : B} (h3 : kd ≠ 3) : next l i kd s = true ↔ M l i ⟨kd, 0, s, 0⟩ := by
  rw [M_tokAt]
  unfold next notNext strip
  generalize tokAt l i = x
  cases x
  simp [h3]
  constructor
  · rintro ⟨⟨⟨a, b⟩, c⟩, d⟩; exact ⟨a, b, c, d⟩
  · rintro ⟨a, b, c, d⟩; exact ⟨⟨⟨a, b⟩, c⟩, d⟩
theorem next_3 {l : List Tok} {i : Nat} {s : B} : next l i 3 s = true ↔ M l i ⟨3, 0, s, (tokAt l i).n⟩ := by
  rw [M_tokAt]
  unfold next notNext strip
  generalize tokAt l i = x
  cases x
  simp
  constructor
  · rintro ⟨⟨a, b⟩, c⟩; exact ⟨a, b, c⟩
  · rintro ⟨a, b, c⟩; exact ⟨⟨a, b⟩, c⟩
theorem next_no {l : List Tok} {i : Nat} {kd : Int} {s : B} {y : Tok} (m : M l i y) (h : y.kind ≠ kd ∨ y.text ≠ s) : next l i kd s = false := by
  cases hn : next l i kd s with
  | false => rfl
  | true =>
    exfalso
    obtain ⟨_, e⟩ := M_tokAt.1 m
    subst e
    unfold next notNext at hn
    simp at hn
    rcases h with h | h
    · exact h hn.1.1.2
    · exact h hn.1.2
theorem named_if (l : List Tok) (i : Nat) : named l i = if next l i 2 wINT then some 1 else if next l i 2 wBYTE then some 2 else if next l i 2 wBOOL then some 3 else none := rfl
theorem is_three {k : Int} (h : is k = true) : k = 1 ∨ k = 2 ∨ k = 3 := by
  rw [is_eq] at h
  unfold prim at h
  simp at h
  omega
theorem named_some {l : List Tok} {i : Nat} {k : Int} (h : named l i = some k) : is k = true ∧ M l i (keyT (wordS k).1) := by
  rw [named_if] at h
  split at h
  · cases h; rename_i hn; exact ⟨by decide, (next_iff (by decide)).1 hn⟩
  · split at h
    · cases h; rename_i hn; exact ⟨by decide, (next_iff (by decide)).1 hn⟩
    · split at h
      · cases h; rename_i hn; exact ⟨by decide, (next_iff (by decide)).1 hn⟩
      · cases h
theorem named_of {l : List Tok} {i : Nat} {k : Int} (h : is k = true) (m : M l i (keyT (wordS k).1)) : named l i = some k := by
  rw [named_if]
  rcases is_three h with rfl | rfl | rfl
  · have m' : M l i (keyT wINT) := m
    rw [if_pos ((next_iff (by decide)).2 m')]
  · have m' : M l i (keyT wBYTE) := m
    rw [if_neg (by rw [next_no m' (.inr (by decide))]; decide), if_pos ((next_iff (by decide)).2 m')]
  · have m' : M l i (keyT wBOOL) := m
    rw [if_neg (by rw [next_no m' (.inr (by decide))]; decide), if_neg (by rw [next_no m' (.inr (by decide))]; decide), if_pos ((next_iff (by decide)).2 m')]
theorem named_no {l : List Tok} {i : Nat} {y : Tok} (m : M l i y) (h : y.kind ≠ 2 ∨ (y.text ≠ wINT ∧ y.text ≠ wBYTE ∧ y.text ≠ wBOOL)) : named l i = none := by
  rw [named_if]
  rw [if_neg (by rw [next_no m (h.imp_right fun h => h.1)]; decide), if_neg (by rw [next_no m (h.imp_right fun h => h.2.1)]; decide), if_neg (by rw [next_no m (h.imp_right fun h => h.2.2)]; decide)]
/- the three kinds of types -/
inductive Shape (t : Ty) : Prop where
  | plain (k d : Int) (hk : is k = true) (e : t = ⟨k, d, 0, []⟩)
  | timer (e : t = ⟨5, 0, 0, []⟩)
  | item (k d : Int) (hk : is k = true) (e : t = ⟨4, d, k, []⟩)
  | proto (s : B) (d : Int) (hs : name s = true) (e : t = ⟨4, d, 0, s⟩)
theorem may_shape {t : Ty} (h : may t = true) : Shape t := by
  obtain ⟨k, d, i, s⟩ := t
  by_cases hk : is k = true
  · unfold may at h
    split at h
    · cases h
    · simp only [Bool.and_eq_true, beq_iff_eq] at h
      obtain ⟨rfl, rfl⟩ := h
      exact .plain k d hk rfl
  · by_cases h4 : k = 4
    · subst h4
      rcases may_chan h (by simp) with ⟨h0, hn⟩ | ⟨hi, h0⟩
      · simp only at h0 hn; subst h0; exact .proto s d hn rfl
      · simp only at h0 hi; subst h0; exact .item i d hi rfl
    · unfold may at h
      split at h
      · cases h
      · rw [if_pos (by simpa using h4), eqT_iff] at h
        exact .timer h
theorem toks_k (k d : Int) (hk : is k = true) : toks ⟨k, d, 0, []⟩ = dimT ⟨k, d, 0, []⟩ ++ [keyT (wordS k).1] := by
  unfold toks
  rw [List.append_assoc]
  rcases is_three hk with rfl | rfl | rfl <;> rfl
theorem toks_i (k d : Int) (hk : is k = true) : toks ⟨4, d, k, []⟩ = dimT ⟨4, d, k, []⟩ ++ [keyT cCHAN, keyT cOF, keyT (wordS k).1] := by
  unfold toks
  rw [List.append_assoc]
  rcases is_three hk with rfl | rfl | rfl <;> rfl
theorem name_ne {s : B} (h : name s = true) : s ≠ [] := by rintro rfl; cases h
theorem toks_p (s : B) (d : Int) (hs : name s = true) : toks ⟨4, d, 0, s⟩ = dimT ⟨4, d, 0, s⟩ ++ [keyT cCHAN, keyT cOF, ⟨1, 0, s, 0⟩] := by
  unfold toks
  rw [List.append_assoc]
  unfold lastT
  have : (s == []) = false := by simpa using name_ne hs
  simp only [this]
  rfl
theorem dimT_d (k k' d i i' : Int) (s s' : B) : dimT ⟨k, d, i, s⟩ = dimT ⟨k', d, i', s'⟩ := rfl
/-- What stands behind the size begins with a key word. -/
theorem rest_key {t : Ty} (h : may t = true) : ∃ s w, toks t = dimT t ++ keyT s :: w := by
  cases may_shape h with
  | plain k d hk e => subst e; exact ⟨_, _, toks_k k d hk⟩
  | timer e => subst e; exact ⟨_, _, rfl⟩
  | item k d hk e => subst e; exact ⟨_, _, toks_i k d hk⟩
  | proto s d hs e => subst e; exact ⟨_, _, toks_p s d hs⟩
theorem pre_of {t : Ty} (l : List Tok) (h : may t = true) (hb : begAt l 0 (toks t)) : pre l = (true, t.dim, (dimT t).length) := by
  have hd := may_dim h
  obtain ⟨s, w, e⟩ := rest_key h
  rw [e, begAt_app] at hb
  by_cases h0 : t.dim = 0
  · have ed : dimT t = [] := by unfold dimT; rw [h0]; rfl
    rw [ed] at hb ⊢
    rw [pre_F (next_no hb.2.1 (.inl (show (2 : Int) ≠ 5 by decide))), h0]
    rfl
  · have ed : dimT t = [symT lb, ⟨3, 0, [], t.dim⟩, symT rb] := by unfold dimT; rw [if_pos (by simp; omega)]
    rw [ed] at hb ⊢
    obtain ⟨⟨m0, m1, m2, _⟩, _⟩ := hb
    have en : (tokAt l 1).n = t.dim := by
      obtain ⟨_, e1⟩ := M_tokAt.1 m1
      exact congrArg Tok.n e1
    rw [pre_TT ((next_iff (by decide)).2 m0) (next_3.2 (by rw [en]; exact m1)), en, (next_iff (by decide)).2 m2]
    have : decide (t.dim > 0) = true := by simp; omega
    rw [this]
    rfl
theorem mid_named {l : List Tok} {d : Int} {n : Nat} {k : Int} (hP : pre l = (true, d, n)) (hn : named l n = some k) : mid l = (true, ⟨k, d, 0, []⟩, n + 1) := by
  unfold mid; rw [hP]; simp only [hn]
theorem mid_chan {l : List Tok} {d : Int} {n : Nat} (hP : pre l = (true, d, n)) (m0 : M l n (keyT cCHAN)) (m1 : M l (n + 1) (keyT cOF)) : mid l = (match named l (n + 2) with
           | some k => (true, ⟨4, d, k, []⟩, n + 3)
           | none => if decide ((n + 2 : Nat) < (l.length : Int)) && next l (n + 2) 1 (tokAt l (n + 2)).text then (true, ⟨4, d, 0, (tokAt l (n + 2)).text⟩, n + 3) else (true, ⟨4, d, 0, []⟩, n + 2)) := by
  unfold mid
  rw [hP]
  simp only [named_no m0 (.inr (by decide)), (next_iff (show (2 : Int) ≠ 3 by decide)).2 m0, (next_iff (show (2 : Int) ≠ 3 by decide)).2 m1, if_true]
  cases named l (n + 2) <;> rfl
/-- Tokens that begin with a type's tokens give this type. -/
theorem front_of {t : Ty} {l : List Tok} (h : may t = true) (hb : begAt l 0 (toks t)) : front l = (t, (toks t).length, 0) := by
  have hP := pre_of l h hb
  have hM : mid l = (true, t, (toks t).length) := by
    cases may_shape h with
    | plain k d hk e =>
      subst e
      rw [toks_k k d hk] at hb ⊢
      rw [begAt_app, Nat.zero_add] at hb
      rw [mid_named hP (named_of hk hb.2.1), List.length_append]
      rfl
    | timer e =>
      subst e
      have m : M l 0 (keyT cTIMER) := hb.1
      exact mid_T73 hP (named_no m (.inr (by decide))) (next_no m (.inr (by decide))) ((next_iff (by decide)).2 m)
    | item k d hk e =>
      subst e
      rw [toks_i k d hk] at hb ⊢
      rw [begAt_app, Nat.zero_add] at hb
      obtain ⟨_, m0, m1, m2, _⟩ := hb
      rw [mid_chan hP m0 m1, named_of hk m2, List.length_append]
      rfl
    | proto s d hs e =>
      subst e
      rw [toks_p s d hs] at hb ⊢
      rw [begAt_app, Nat.zero_add] at hb
      obtain ⟨_, m0, m1, m2, _⟩ := hb
      have m2' : M l ((dimT ⟨4, d, 0, s⟩).length + 2) ⟨1, 0, s, 0⟩ := m2
      have et : (tokAt l ((dimT ⟨4, d, 0, s⟩).length + 2)).text = s := congrArg Tok.text (M_tokAt.1 m2').2
      have hlt := m2'.lt
      rw [mid_chan hP m0 m1, named_no m2' (.inl (show (1 : Int) ≠ 2 by decide)), et]
      have c : (decide ((((dimT ⟨4, d, 0, s⟩).length + 2 : Nat) : Int) < (l.length : Int)) && next l ((dimT ⟨4, d, 0, s⟩).length + 2) 1 s) = true := by
        rw [(next_iff (by decide)).2 m2', Bool.and_true]
        exact decide_eq_true (by omega)
      simp only [c, if_true, List.length_append]
      rfl
  exact front_yes hM (by rw [h]; rfl)
theorem pre_to {l : List Tok} {d : Int} {n : Nat} (h : pre l = (true, d, n)) (t : Ty) (e : t.dim = d) : n = (dimT t).length ∧ begAt l 0 (dimT t) := by
  by_cases h0 : next l 0 5 lb = true
  · by_cases h1 : next l 1 3 [] = true
    · rw [pre_TT h0 h1] at h
      simp only [Prod.mk.injEq] at h
      obtain ⟨hc, hd, hn⟩ := h
      rw [hc] at hn
      simp only [Bool.and_eq_true, decide_eq_true_eq] at hc
      have ed : dimT t = [symT lb, ⟨3, 0, [], t.dim⟩, symT rb] := by unfold dimT; rw [if_pos (by simp; omega)]
      rw [ed]
      refine ⟨hn.symm, (next_iff (by decide)).1 h0, ?_, (next_iff (by decide)).1 hc.2, trivial⟩
      rw [e, ← hd]
      exact next_3.1 h1
    · rw [pre_TF h0 (by simpa using h1)] at h
      cases h
  · rw [pre_F (by simpa using h0)] at h
    cases h
    have ed : dimT t = [] := by unfold dimT; rw [e]; rfl
    rw [ed]
    exact ⟨rfl, trivial⟩
theorem mid_to {l : List Tok} {t : Ty} {n : Nat} (h : mid l = (true, t, n)) (hm : may t = true) : begAt l 0 (toks t) := by
  obtain ⟨⟨b, d, n0⟩, hP⟩ : ∃ p, pre l = p := ⟨_, rfl⟩
  cases b with
  | false => unfold mid at h; rw [hP] at h; cases h
  | true =>
    cases hn : named l n0 with
    | some k =>
      rw [mid_named hP hn] at h
      cases h
      obtain ⟨hk, m⟩ := named_some hn
      obtain ⟨e, hb⟩ := pre_to hP ⟨k, d, 0, []⟩ rfl
      rw [toks_k k d hk, begAt_app]
      subst e
      exact ⟨hb, by rw [Nat.zero_add]; exact m, trivial⟩
    | none =>
      cases hc : next l n0 2 cCHAN with
      | true =>
        have m0 : M l n0 (keyT cCHAN) := (next_iff (by decide)).1 hc
        cases ho : next l (n0 + 1) 2 cOF with
        | false =>
          unfold mid at h
          rw [hP] at h
          simp only [hn, hc, ho, if_true, Bool.false_eq_true, if_false] at h
          cases h
        | true =>
          have m1 : M l (n0 + 1) (keyT cOF) := (next_iff (by decide)).1 ho
          rw [mid_chan hP m0 m1] at h
          cases hk : named l (n0 + 2) with
          | some k =>
            rw [hk] at h
            cases h
            obtain ⟨hk, m2⟩ := named_some hk
            obtain ⟨e, hb⟩ := pre_to hP ⟨4, d, k, []⟩ rfl
            rw [toks_i k d hk, begAt_app]
            subst e
            rw [Nat.zero_add]
            exact ⟨hb, m0, m1, m2, trivial⟩
          | none =>
            rw [hk] at h
            simp only at h
            split at h
            · rename_i hx
              simp only [Bool.and_eq_true] at hx
              have m2 := (next_iff (show (1 : Int) ≠ 3 by decide)).1 hx.2
              cases h
              have hs : name (tokAt l (n0 + 2)).text = true := by
                rcases may_chan hm rfl with ⟨_, hs⟩ | ⟨hi, _⟩
                · exact hs
                · cases hi
              obtain ⟨e, hb⟩ := pre_to hP ⟨4, d, 0, (tokAt l (n0 + 2)).text⟩ rfl
              rw [toks_p _ d hs, begAt_app]
              rw [← e, Nat.zero_add]
              exact ⟨hb, m0, m1, m2, trivial⟩
            · cases h
              rcases may_chan hm rfl with ⟨_, hs⟩ | ⟨hi, _⟩
              · cases hs
              · cases hi
      | false =>
        cases ht : next l n0 2 cTIMER with
        | true =>
          rw [mid_T73 hP hn hc ht] at h
          cases h
          have e5 : (⟨5, d, 0, []⟩ : Ty) = timer := by
            cases may_shape hm with
            | plain k d hk e => cases e; cases hk
            | timer e => exact e
            | item k d hk e => cases e
            | proto s d hs e => cases e
          rw [e5]
          cases e5
          obtain ⟨e, _⟩ := pre_to hP timer rfl
          subst e
          exact ⟨(next_iff (by decide)).1 ht, trivial⟩
        | false =>
          rw [mid_F73 hP hn hc ht] at h
          cases h
          cases may_shape hm with
          | plain k d hk e => cases e; cases hk
          | timer e => cases e
          | item k d hk e => cases e
          | proto s d hs e => cases e
/-- Front gives an error, or the one type whose tokens stand in front. -/
theorem front_to (l : List Tok) : front l = (zeroT, 0, 90) ∨ ∃ t, may t = true ∧ begAt l 0 (toks t) ∧ front l = (t, (toks t).length, 0) := by
  obtain ⟨⟨ok, t, n⟩, hM⟩ : ∃ p, mid l = p := ⟨_, rfl⟩
  by_cases hc : (!ok || !may t) = true
  · exact .inl (front_no hM hc)
  · simp at hc
    obtain ⟨rfl, hm⟩ := hc
    have hb := mid_to hM hm
    exact .inr ⟨t, hm, hb, front_of hm hb⟩
end Go.Ty

/- lex: what the laws need, plain. -/
import Derived.Test.YtddnoaffkinkkaaDoorLexW
namespace Go.Lx
open Go.Ty
set_option maxRecDepth 100000
/-- Equal but for the places. -/
def sameT (x y : Tok) : Bool := !((x.kind != y.kind) || !(x.text == y.text) || (x.n != y.n))
theorem same_at (t : Tok) (z : Int) : sameT { t with at_ := z } t = true ∧ sameT t { t with at_ := z } = true := by
  constructor <;> (unfold sameT; simp)
theorem same_refl (t : Tok) : sameT t t = true := by unfold sameT; simp
theorem eqL_app {α : Type} (e : α → α → Bool) : ∀ {a b : List α} (c d : List α), Eng.eqL e a b = true → Eng.eqL e (a ++ c) (b ++ d) = Eng.eqL e c d
  | [], [], _, _, _ => rfl
  | [], _ :: _, _, _, h => by cases h
  | _ :: _, [], _, _, h => by cases h
  | x :: a, y :: b, c, d, h => by
    have h : (e x y && Eng.eqL e a b) = true := h
    simp only [Bool.and_eq_true] at h
    show (e x y && Eng.eqL e (a ++ c) (b ++ d)) = _
    rw [h.1, eqL_app e c d h.2, Bool.true_and]
theorem same_self : ∀ l : List Tok, Eng.eqL sameT l l = true
  | [] => rfl
  | t :: l => by show (sameT t t && Eng.eqL sameT l l) = true; rw [same_refl, same_self l]; rfl
theorem same_shift (k : Nat) : ∀ l : List Tok, Eng.eqL sameT (l.map (shiftT k)) l = true ∧ Eng.eqL sameT l (l.map (shiftT k)) = true
  | [] => ⟨rfl, rfl⟩
  | t :: l => by
    have ih := same_shift k l
    have ht := same_at t (t.at_ + k)
    constructor
    · show (sameT (shiftT k t) t && Eng.eqL sameT (l.map (shiftT k)) l) = true
      rw [ih.1, Bool.and_true]; exact ht.1
    · show (sameT t (shiftT k t) && Eng.eqL sameT l (l.map (shiftT k))) = true
      rw [ih.2, Bool.and_true]; exact ht.2
theorem same_place : ∀ (l : List Tok) (p : Option Tok) (q : Nat), Eng.eqL sameT (place p q l) l = true ∧ Eng.eqL sameT l (place p q l) = true
  | [], _, _ => ⟨rfl, rfl⟩
  | t :: l, p, q => by
    have ih := same_place l (some t) (q + (sep (gapO p t)).length + (textP t).length)
    have ht := same_at t (q + (sep (gapO p t)).length : Nat)
    constructor
    · show (sameT _ t && Eng.eqL sameT (place (some t) _ l) l) = true
      rw [ih.1, Bool.and_true]; exact ht.1
    · show (sameT t _ && Eng.eqL sameT l (place (some t) _ l)) = true
      rw [ih.2, Bool.and_true]; exact ht.2
theorem lx_len : ∀ (r : B) (p : Nat) (l : List Tok), lx r p = .ok l → l.length ≤ r.length := by
  refine lx_cases ?_ ?_ ?_ ?_
  · intro p l h; cases h; exact Nat.le_refl _
  · intro r ih p l h
    rw [lx_space] at h
    have := ih _ _ h
    simp only [List.length_cons]
    omega
  · intro c r hc hn p l h
    rw [lx_bad hc hn] at h
    cases h
  · intro c r hc hn ih p l h
    rw [lx_tok hc hn] at h
    obtain ⟨k, hk, rfl⟩ := prep_ok h
    have := ih _ _ hk
    have hle := tok_le (c :: r)
    rw [List.length_drop] at this
    simp only [List.length_append, List.length_singleton]
    omega
theorem lx_errle : ∀ (r : B) (p q : Nat), lx r p = .error q → q ≤ p + r.length := by
  refine lx_cases ?_ ?_ ?_ ?_
  · intro p q h; cases h
  · intro r ih p q h
    rw [lx_space] at h
    have := ih _ _ h
    simp only [List.length_cons]
    omega
  · intro c r hc hn p q h
    rw [lx_bad hc hn] at h
    cases h
    omega
  · intro c r hc hn ih p q h
    rw [lx_tok hc hn] at h
    have hk : lx ((c :: r).drop (tok (c :: r)).2) (p + (tok (c :: r)).2) = .error q := by
      cases hx : lx ((c :: r).drop (tok (c :: r)).2) (p + (tok (c :: r)).2) with
      | ok m => rw [hx] at h; cases h
      | error e => rw [hx] at h; cases h; rfl
    have := ih _ _ hk
    have hle := tok_le (c :: r)
    rw [List.length_drop] at this
    omega
/-- A line that is read. -/
theorem lexO_ok {s : B} {l : List Tok} {z : Int} (h : lexO s = (l, z, 0)) : s.length ≤ 256 ∧ lx s 0 = .ok l ∧ z = 0 := by
  cases hd : decide ((s.length : Int) > 256) with
  | true => rw [lexO_long hd] at h; cases h
  | false =>
    rw [lexO_short hd] at h
    cases hx : lx s 0 with
    | error e => rw [hx] at h; cases h
    | ok m =>
      rw [hx] at h
      cases h
      have := of_decide_eq_false hd
      exact ⟨by omega, rfl, rfl⟩
theorem lexO_no {s : B} {l : List Tok} {z e : Int} (h : lexO s = (l, z, e)) (he : e ≠ 0) : l = [] := by
  cases hd : decide ((s.length : Int) > 256) with
  | true => rw [lexO_long hd] at h; cases h; rfl
  | false =>
    rw [lexO_short hd] at h
    cases hx : lx s 0 with
    | error e => rw [hx] at h; cases h; rfl
    | ok m => rw [hx] at h; cases h; exact absurd rfl he
theorem lexO_err {s : B} {l : List Tok} {z e : Int} (h : lexO s = (l, z, e)) (he : e ≠ 0) (hs : s.length ≤ 256) : ∃ p : Nat, z = p ∧ e = 80 ∧ lx s 0 = .error p ∧ l = [] := by
  rw [lexO_short (by simp; omega)] at h
  cases hx : lx s 0 with
  | error p => rw [hx] at h; cases h; exact ⟨p, rfl, rfl, rfl, rfl⟩
  | ok m => rw [hx] at h; cases h; exact absurd rfl he
/-- A text that is written. -/
theorem textO_or {l : List Tok} {s : B} {f : Int} (hk : ∀ x, x ∈ l → mayK x = true) (h : textO l = (s, f)) : (f = 3 ∧ s = [] ∧ l ≠ []) ∨ (f = 0 ∧ s = textL none l ∧ s.length ≤ 256) := by
  unfold textO at h
  rw [if_neg (by rw [Bool.not_eq_true]; exact List.any_eq_false.2 fun x hx => by rw [hk x hx]; simp)] at h
  split at h
  · rename_i hd
    cases h
    refine .inl ⟨rfl, rfl, ?_⟩
    rintro rfl
    cases hd
  · rename_i hd
    cases h
    refine .inr ⟨rfl, rfl, ?_⟩
    simp at hd
    omega
theorem join_ok {a b : B} {l m : List Tok} {z y : Int} (ha : lexO a = (l, z, 0)) (hb : lexO b = (m, y, 0)) (hl : a.length + 1 + b.length ≤ 256) : lexO (a ++ [32] ++ b) = (l ++ m.map (shiftT (a.length + 1)), 0, 0) := by
  obtain ⟨_, h1, _⟩ := lexO_ok ha
  obtain ⟨_, h2, _⟩ := lexO_ok hb
  rw [lexO_short (by simp; omega), List.append_assoc]
  show outO (lx (a ++ 32 :: b) 0) = _
  rw [lx_join b a 0 l h1, show 0 + a.length + 1 = 0 + (a.length + 1) by omega, lx_shift, h2]
  rfl
theorem join_err {a b : B} {l m : List Tok} {z y f : Int} (ha : lexO a = (l, z, 0)) (hb : lexO b = (m, y, f)) (hf : f ≠ 0) (hl : a.length + 1 + b.length ≤ 256) : lexO (a ++ [32] ++ b) = ([], (a.length : Int) + 1 + y, 80) ∧ f = 80 := by
  obtain ⟨_, h1, _⟩ := lexO_ok ha
  obtain ⟨p, rfl, rfl, h2, rfl⟩ := lexO_err hb hf (by omega)
  refine ⟨?_, rfl⟩
  rw [lexO_short (by simp; omega), List.append_assoc]
  show outO (lx (a ++ 32 :: b) 0) = _
  rw [lx_join b a 0 l h1, show 0 + a.length + 1 = 0 + (a.length + 1) by omega, lx_shift, h2]
  show ([], ((p + (a.length + 1) : Nat) : Int), (80 : Int)) = _
  congr 2
  simp
  omega
/- bytes -/
def bytT (n : Nat) : List Tok := [⟨4, 0, [], n⟩]
def bytS (n : Nat) : B := [39] ++ shownP n ++ [39]
def bytE (n : Nat) : B := [39, 42, 35] ++ (wordP n true).drop 7
def rdB (s : B) (l : List Tok) : Bool := Eng.eqL sameT (lexO s).1 l && ((lexO s).2.1 == 0) && ((lexO s).2.2 == 0)
def flB (s : B) (w : Int) : Bool := (((lexO s).1.length : Int) == 0) && ((lexO s).2.1 == w) && ((lexO s).2.2 == 80)
theorem byt_text : ∀ n, n < 256 → textO (bytT n) = (bytS n, 0) := by decide +kernel
theorem byt_len : ∀ n, n < 256 → 3 ≤ (bytS n).length ∧ (bytS n).length ≤ 6 := by decide +kernel
theorem byt_1 : ∀ n, n < 256 → rdB (bytS n) (bytT n) = true := by decide +kernel
theorem byt_2 : ∀ n, n < 256 → rdB (bytE n ++ [39]) (bytT n) = true := by decide +kernel
theorem byt_3 : ∀ n, n < 256 → flB (bytE n) 0 = true := by decide +kernel
theorem byt_4 : ∀ n, n < 256 → flB ((bytS n).take ((bytS n).length - 1)) 0 = true := by decide +kernel
end Go.Lx

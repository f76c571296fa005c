/- layout: what the rows' machine keeps, in plain Lean. -/
import Derived.Test.YtmffmpadfpajcaaDoorLayM
namespace Go.Ly
open Go.Eng
theorem join_snoc (ps : List B) (t : B) : Lib.join (ps ++ [t]) [32] = if ps.isEmpty then t else Lib.join ps [32] ++ 32 :: t := by
  cases ps with
  | nil => exact Lib.join_one t [32]
  | cons x r =>
    rw [List.cons_append, Lib.join_cons, Lib.join_cons]
    simp [Lib.joinTail]
theorem cont_app (a : B) {t : B} (h : t ≠ []) : cont (a ++ t) = cont t := by
  unfold cont
  rw [List.getLast?_append, List.getLast?_eq_some_getLast h]
  rfl
theorem text_take (s : S) (p : Pc) : textS (takeS s p) = if s.parts.isEmpty then p.text else textS s ++ 32 :: p.text := join_snoc _ _
theorem cont_take (s : S) {p : Pc} (h : p.text ≠ []) : cont (textS (takeS s p)) = cont p.text := by
  rw [text_take]
  split
  · rfl
  · rw [show textS s ++ 32 :: p.text = (textS s ++ [32]) ++ p.text by simp]
    exact cont_app _ h
structure PcOk (p : Pc) : Prop where
  ne : p.text ≠ []
  len : p.text.length ≤ 65536
  ind : p.ind ≤ 65536
  no : p.no ≤ 65537
theorem pieces_in : ∀ {k : Nat} {ls : List B} {p : Pc}, p ∈ piecesP k ls → p.text ≠ [] ∧ (∃ s ∈ ls, p.text = txt s ∧ p.ind = ind s) ∧ k < p.no ∧ p.no ≤ k + ls.length
  | k, [], p, h => by cases h
  | k, s :: l, p, h => by
    unfold piecesP at h
    split at h
    · obtain ⟨h1, ⟨x, hx, h2⟩, h3, h4⟩ := pieces_in h
      exact ⟨h1, ⟨x, List.mem_cons_of_mem _ hx, h2⟩, by omega, by simp; omega⟩
    · rename_i hn
      rcases List.mem_cons.1 h with rfl | h
      · exact ⟨by simpa using hn, ⟨s, by simp, rfl, rfl⟩, by simp, by simp⟩
      · obtain ⟨h1, ⟨x, hx, h2⟩, h3, h4⟩ := pieces_in h
        exact ⟨h1, ⟨x, List.mem_cons_of_mem _ hx, h2⟩, by omega, by simp; omega⟩
theorem pieces_len : ∀ (k : Nat) (ls : List B), (piecesP k ls).length ≤ ls.length
  | _, [] => Nat.le_refl _
  | k, s :: l => by
    have := pieces_len (k + 1) l
    unfold piecesP
    split <;> simp <;> omega
theorem ind_le (s : B) : ind s ≤ s.length := by
  have := bodyL_le s
  unfold ind
  omega
theorem txt_len (s : B) : (txt s).length ≤ s.length := Nat.le_trans (txt_le s) (bodyL_le s)
structure Inv (N : Nat) (s : S) : Prop where
  cnt : s.parts.length + s.out.length ≤ N
  txt : (textS s).length ≤ N * 65537
  bef : -1 ≤ s.before ∧ s.before ≤ 65536
  ind : s.first.ind ≤ 65536
  out : s.out.length ≤ 2048
theorem Inv.start : Inv 0 s0 := ⟨by decide, by decide, by decide, by decide, by decide⟩
theorem Inv.take {N : Nat} {s : S} {p : Pc} (h : Inv N s) (hp : PcOk p) : Inv (N + 1) (takeS s p) := by
  have h1 := h.cnt
  have h2 := h.txt
  have h3 := hp.len
  have h4 := h.ind
  have h5 := hp.ind
  refine ⟨by simp only [takeS, List.length_append, List.length_singleton]; omega, ?_, h.bef, ?_, h.out⟩
  · rw [text_take]
    split
    · omega
    · simp
      omega
  · simp only [takeS]
    split <;> omega
theorem Inv.close {N : Nat} {s : S} (h : Inv N s) (hl : longS s = false) (hp : s.parts ≠ []) : Inv N (closeS s) := by
  have h1 := h.cnt
  have h2 := h.out
  have h4 := h.ind
  have h5 : 0 < s.parts.length := List.length_pos_iff.2 hp
  have h6 : s.out.length ≠ 2048 := by
    intro e
    unfold longS at hl
    simp [e] at hl
  refine ⟨by simp only [closeS, List.length_append, List.length_singleton, List.length_nil]; omega, by simp [textS, closeS, Lib.join], ⟨by simp only [closeS]; omega, by simp only [closeS]; omega⟩, h4, by simp only [closeS, List.length_append, List.length_singleton]; omega⟩
end Go.Ly

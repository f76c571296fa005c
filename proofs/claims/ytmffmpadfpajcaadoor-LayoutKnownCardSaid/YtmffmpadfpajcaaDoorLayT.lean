/- layout: what is read is valid, in plain Lean. -/
import Derived.Test.YtmffmpadfpajcaaDoorLayS
namespace Go.Ly
open Go.Eng
/- no two hyphens side by side -/
def noD (s : B) : Prop := ∀ k : Nat, s[k]? = some 45 → s[k + 1]? ≠ some 45
theorem cutL_noD : ∀ s : B, noD (cutL s)
  | [] => fun k h => by simp [cutL] at h
  | c :: l => by
    unfold cutL
    split
    · exact fun k h => by simp at h
    · rename_i hn
      have ih := cutL_noD l
      intro k h1 h2
      cases k with
      | zero =>
        simp only [List.getElem?_cons_zero, Option.some.injEq] at h1
        simp only [List.getElem?_cons_succ] at h2
        apply hn
        rw [h1]
        cases l with
        | nil => simp [cutL] at h2
        | cons d r =>
          unfold cutL at h2
          split at h2
          · simp at h2
          · simpa using h2
      | succ k =>
        simp only [List.getElem?_cons_succ] at h1 h2
        exact ih k h1 h2
theorem cutL_of : ∀ {s : B}, noD s → cutL s = s
  | [], _ => rfl
  | c :: l, h => by
    have ih : cutL l = l := cutL_of fun k h1 h2 => h (k + 1) (by simpa using h1) (by simpa using h2)
    unfold cutL
    rw [ih, if_neg]
    intro e
    simp only [Bool.and_eq_true, beq_iff_eq] at e
    refine h 0 (by simp [e.1]) ?_
    rw [List.getElem?_cons_succ, ← List.head?_eq_getElem?]
    exact e.2
theorem noD_drop {s : B} (h : noD s) (n : Nat) : noD (s.drop n) := fun k h1 h2 => by
  rw [List.getElem?_drop] at h1 h2
  exact h (n + k) h1 (by rw [← h2]; congr 1)
theorem noD_take {s : B} (h : noD s) (n : Nat) : noD (s.take n) := fun k h1 h2 => by
  rw [List.getElem?_take] at h1 h2
  split at h1 <;> split at h2
  · exact h k h1 h2
  · cases h2
  · cases h1
  · cases h1
theorem noD_join {a b : B} (ha : noD a) (hb : noD b) : noD (a ++ 32 :: b) := fun k h1 h2 => by
  rcases Nat.lt_trichotomy k a.length with h | h | h
  · rw [List.getElem?_append_left h] at h1
    rcases Nat.lt_or_ge (k + 1) a.length with h' | h'
    · rw [List.getElem?_append_left h'] at h2
      exact ha k h1 h2
    · rw [List.getElem?_append_right h', show k + 1 - a.length = 0 by omega] at h2
      simp at h2
  · rw [List.getElem?_append_right (by omega), show k - a.length = 0 by omega] at h1
    simp at h1
  · rw [List.getElem?_append_right (by omega), show k - a.length = (k - a.length - 1) + 1 by omega, List.getElem?_cons_succ] at h1
    rw [List.getElem?_append_right (by omega), show k + 1 - a.length = (k - a.length - 1 + 1) + 1 by omega, List.getElem?_cons_succ] at h2
    exact hb _ h1 h2
theorem index_noD : ∀ {s : B}, noD s → Lib.index s [45, 45] = -1
  | [], _ => rfl
  | c :: l, h => by
    have ih : Lib.index l [45, 45] = -1 := index_noD fun k h1 h2 => h (k + 1) (by simpa using h1) (by simpa using h2)
    unfold Lib.index
    rw [pre45, ih, if_neg]
    · rfl
    · intro e
      simp only [Bool.and_eq_true, beq_iff_eq] at e
      refine h 0 (by simp [e.1]) ?_
      rw [List.getElem?_cons_succ, ← List.head?_eq_getElem?]
      exact e.2
theorem contains_noD {s : B} (h : noD s) : Lib.contains s [45, 45] = false := by
  unfold Lib.contains
  rw [index_noD h]
  rfl
theorem noD_contains {s : B} (h : Lib.contains s [45, 45] = false) : noD s := by
  have e := cut_eq s
  unfold Lib.contains at h
  unfold Lib.cut at e
  rw [if_neg (by simpa using h)] at e
  have := cutL_noD s
  rw [← e] at this
  exact this

/- texts as they are read -/
structure TxtV (s : B) : Prop where
  ne : s ≠ []
  hd : s.head? ≠ some 32
  ls : s.getLast? ≠ some 32
  nd : noD s
  ok : s.all okB = true
theorem TxtV.join {a b : B} (ha : TxtV a) (hb : TxtV b) : TxtV (a ++ 32 :: b) where
  ne := by simp
  hd := by
    rw [List.head?_append]
    cases h : a.head? with
    | none => exact absurd (List.head?_eq_none_iff.1 h) ha.ne
    | some c => have := ha.hd; rw [h] at this; exact this
  ls := by
    rw [show a ++ 32 :: b = (a ++ [32]) ++ b by simp, List.getLast?_append]
    cases h : b.getLast? with
    | none => exact absurd (List.getLast?_eq_none_iff.1 h) hb.ne
    | some c => have := hb.ls; rw [h] at this; exact this
  nd := noD_join ha.nd hb.nd
  ok := by
    rw [List.all_append, ha.ok, List.all_cons, hb.ok]
    rfl
theorem trimR_of {s : B} (h : s.getLast? ≠ some 32) : Lib.trimRightB s 32 = s := by
  rcases List.eq_nil_or_concat s with rfl | ⟨l, c, rfl⟩
  · rfl
  · rw [List.concat_eq_append] at h ⊢
    refine trimR_stop ?_
    simpa using h
theorem trimL_of {s : B} (h : s.head? ≠ some 32) : Lib.trimLeftB s 32 = s := by
  cases s with
  | nil => rfl
  | cons c l =>
    have hc : (c == 32) = false := by simpa using h
    simp [Lib.trimLeftB, List.dropWhile, hc]
theorem TxtV.valid {s : B} (h : TxtV s) (hl : s.length ≤ 256) (hc : cont s = false) : validP s = true := by
  have h1 : badS s = false := by
    simp only [badS, Bool.or_eq_false_iff, decide_eq_false_iff_not, bne_eq_false_iff_eq, beq_eq_false_iff_ne]
    refine ⟨⟨⟨⟨h.ne, by omega⟩, ?_⟩, contains_noD h.nd⟩, hc⟩
    unfold Lib.trimB
    rw [trimR_of h.ls, trimL_of h.hd]
  unfold validP
  rw [h1, h.ok]
  rfl
theorem TxtV.of_valid {s : B} (h : validP s = true) : TxtV s := by
  obtain ⟨h1, h2, h3, h4, h5, h6⟩ := validP_spec h
  have hL : ∀ l : B, (Lib.trimLeftB l 32).head? ≠ some 32 := by
    intro l e
    have := List.head?_dropWhile_not (· == (32 : UInt8)) l
    unfold Lib.trimLeftB at e
    rw [e] at this
    simp at this
  have hR : ∀ l : B, (Lib.trimRightB l 32).getLast? ≠ some 32 := by
    intro l e
    unfold Lib.trimRightB at e
    rw [List.getLast?_reverse] at e
    exact hL l.reverse e
  have hll : ∀ l : B, (Lib.trimLeftB l 32).length ≤ l.length := fun l => (List.dropWhile_sublist _).length_le
  have hrl : ∀ l : B, (Lib.trimRightB l 32).length ≤ l.length := fun l => by
    unfold Lib.trimRightB
    rw [List.length_reverse]
    exact Nat.le_trans (List.dropWhile_sublist _).length_le (by simp)
  refine ⟨h1, ?_, ?_, noD_contains h4, h6⟩
  · rw [← h3]
    exact hL _
  · -- trimming on the left took nothing
    have e1 : (Lib.trimLeftB (Lib.trimRightB s 32) 32).length = s.length := by show (Lib.trimB s 32).length = _; rw [h3]
    have h7 := hll (Lib.trimRightB s 32)
    have h8 := hrl s
    have h9 : Lib.trimLeftB (Lib.trimRightB s 32) 32 = Lib.trimRightB s 32 := (List.dropWhile_sublist _).eq_of_length (by unfold Lib.trimLeftB at e1 h7; omega)
    rw [← h3]
    show (Lib.trimLeftB (Lib.trimRightB s 32) 32).getLast? ≠ _
    rw [h9]
    exact hR s
theorem cutL_sub : ∀ s : B, cutL s = s.take (cutL s).length := fun s => (cutL_take s).symm
theorem txt_V {s : B} (ho : s.all okB = true) (hn : txt s ≠ []) : TxtV (txt s) := by
  have hL : (txt s).head? ≠ some 32 := by
    intro e
    have := List.head?_dropWhile_not (· == (32 : UInt8)) (bodyL s)
    unfold txt Lib.trimLeftB at e
    rw [e] at this
    simp at this
  have hR : (bodyL s).getLast? ≠ some 32 := by
    intro e
    unfold bodyL Lib.trimRightB at e
    rw [List.getLast?_reverse] at e
    have := List.head?_dropWhile_not (· == (32 : UInt8)) (cutL s).reverse
    rw [e] at this
    simp at this
  have hsuf : txt s <:+ bodyL s := List.dropWhile_suffix _
  have hpre : bodyL s <+: cutL s := by
    unfold bodyL Lib.trimRightB
    have := List.dropWhile_suffix (· == (32 : UInt8)) (l := (cutL s).reverse)
    rw [← List.reverse_prefix, List.reverse_reverse] at this
    exact this
  refine ⟨hn, hL, ?_, ?_, ?_⟩
  · obtain ⟨t, ht⟩ := hsuf
    rw [← ht, List.getLast?_append] at hR
    cases h : (txt s).getLast? with
    | none => exact absurd (List.getLast?_eq_none_iff.1 h) hn
    | some c => rw [h] at hR; exact hR
  · obtain ⟨t, ht⟩ := hsuf
    obtain ⟨u, hu⟩ := hpre
    have h1 : noD (bodyL s) := by
      have := noD_take (cutL_noD s) (bodyL s).length
      rw [← hu, List.take_left] at this
      exact this
    have := noD_drop h1 t.length
    rw [← ht, List.drop_left] at this
    exact this
  · rw [List.all_eq_true] at ho ⊢
    intro c hc
    refine ho c ?_
    have h1 := hpre.subset (hsuf.subset hc)
    rw [cutL_sub] at h1
    exact List.mem_of_mem_take h1
end Go.Ly

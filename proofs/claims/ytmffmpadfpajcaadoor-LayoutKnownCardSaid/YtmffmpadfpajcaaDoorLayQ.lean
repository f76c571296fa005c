/- layout: the reference's lines, cuts and steps, in plain Lean. -/
import Derived.Test.YtmffmpadfpajcaaDoorLayP
namespace Go.Ly
open Go.Eng
theorem drop_at {α : Type} {l : List α} {k : Nat} {c : α} (hc : l[k]? = some c) : l.drop k = c :: l.drop (k + 1) := by
  have h1 : k < l.length := (List.getElem?_eq_some_iff.1 hc).1
  rw [List.drop_eq_getElem_cons h1, (List.getElem?_eq_some_iff.1 hc).2]
theorem take_at {α : Type} {l : List α} {k : Nat} {c : α} (hc : l[k]? = some c) : l.take (k + 1) = l.take k ++ [c] := take_snoc hc

theorem lines_small : ∀ {s acc x : B}, x ∈ linesA acc s → x.length ≤ acc.length + s.length
  | [], acc, x, h => by
    simp only [linesA, List.mem_singleton] at h
    subst h
    simp
  | c :: l, acc, x, h => by
    rw [linesA_cons] at h
    split at h
    · rcases List.mem_cons.1 h with rfl | h
      · simp
      · have := lines_small h
        simp at this ⊢
        omega
    · have := lines_small h
      simp at this ⊢
      omega
theorem lines_le {s x : B} (h : x ∈ lines s) : x.length ≤ s.length := by
  have := lines_small h
  simpa using this
theorem lines_count : ∀ (s acc : B), (linesA acc s).length ≤ s.length + 1
  | [], acc => by simp [linesA]
  | c :: l, acc => by
    rw [linesA_cons]
    split
    · have := lines_count l []
      simp only [List.length_cons]
      omega
    · have := lines_count l (acc ++ [c])
      simp only [List.length_cons]
      omega

/- the cut -/
def endOf (s : B) (k : Nat) : Nat := k + (cutL (s.drop k)).length
theorem endOf_le (s : B) {k : Nat} (hk : k ≤ s.length) : k ≤ endOf s k ∧ endOf s k ≤ s.length := by
  have := cutL_le (s.drop k)
  rw [List.length_drop] at this
  unfold endOf
  omega
theorem endOf_hit {s : B} {k : Nat} (h1 : s[k]? = some 45) (h2 : s[k + 1]? = some 45) : endOf s k = k := by
  unfold endOf
  rw [drop_at h1, drop_at h2]
  simp [cutL]
theorem endOf_miss {s : B} {k : Nat} {c d : UInt8} (h1 : s[k]? = some c) (h2 : s[k + 1]? = some d) (h : (c == 45 && d == 45) = false) : endOf s k = endOf s (k + 1) := by
  unfold endOf
  rw [drop_at h1]
  have hq : (c == 45 && (s.drop (k + 1)).head? == some 45) = false := by
    rw [drop_at h2, List.head?_cons]
    rw [show (some d == some (45 : UInt8)) = (d == 45) from rfl]
    exact h
  unfold cutL
  rw [hq]
  simp only [Bool.false_eq_true, if_false, List.length_cons]
  rw [← cutL.eq_def]
  omega
theorem endOf_start (s : B) : endOf s (s.length - 1) = s.length := by
  unfold endOf
  rcases Nat.eq_zero_or_pos s.length with h | h
  · rw [List.eq_nil_of_length_eq_zero h]; rfl
  · obtain ⟨c, hc⟩ := get_some (l := s) (k := s.length - 1) (by omega)
    rw [drop_at hc, List.drop_of_length_le (by omega)]
    simp [cutL]
    omega
theorem cutL_take : ∀ s : B, s.take (cutL s).length = cutL s
  | [] => rfl
  | c :: l => by
    have ih := cutL_take l
    unfold cutL
    split
    · rfl
    · simp [ih]
theorem endOf_zero (s : B) : s.take (endOf s 0) = cutL s := by
  unfold endOf
  rw [List.drop_zero, Nat.zero_add, cutL_take]
theorem trimR_snoc (l : B) : Lib.trimRightB (l ++ [32]) 32 = Lib.trimRightB l 32 := by
  simp [Lib.trimRightB]
theorem trimR_stop {l : B} {c : UInt8} (h : (c == 32) = false) : Lib.trimRightB (l ++ [c]) 32 = l ++ [c] := by
  simp [Lib.trimRightB, h]
theorem trimL_drop (s : B) (n e : Nat) (hn : ∀ j c, j < n → s[j]? = some c → c = 32) (he : n ≤ e) (h2 : e ≤ s.length) (hs : n = e ∨ ∃ c, s[n]? = some c ∧ (c == 32) = false) : Lib.trimLeftB (s.take e) 32 = (s.drop n).take (e - n) := by
  rw [Lib.trimLeftB_drop (s.take e) 32 n (by simp; omega)]
  · rw [List.drop_take]
  · intro j b hj hb
    rw [List.getElem?_take] at hb
    split at hb
    · exact hn j b hj hb
    · cases hb
  · intro b hb
    rw [List.getElem?_take] at hb
    split at hb
    · rename_i hlt
      rcases hs with h | ⟨c, hc, hne⟩
      · omega
      · rw [hc] at hb
        cases hb
        exact ne_of_beq_false hne
    · cases hb

/- the next line that is not blank -/
def nextA (k : Nat) : List B → Nat
  | [] => k
  | s :: l => if txt s == [] then nextA (k + 1) l else k
theorem nextA_drop {ls : List B} {k : Nat} {s : B} (hs : ls[k]? = some s) : nextA k (ls.drop k) = if txt s == [] then nextA (k + 1) (ls.drop (k + 1)) else k := by
  rw [drop_at hs]
  rfl
theorem nextA_spec : ∀ (d : Nat) {ls : List B} {k : Nat}, ls.length - k = d → k ≤ ls.length → (nextA k (ls.drop k) = ls.length ∧ piecesP k (ls.drop k) = []) ∨
    ∃ j x, nextA k (ls.drop k) = j ∧ k ≤ j ∧ j < ls.length ∧ ls[j]? = some x ∧ piecesP k (ls.drop k) = ⟨j + 1, ind x, txt x⟩ :: piecesP (j + 1) (ls.drop (j + 1)) ∧ txt x ≠ []
  | 0, ls, k, hd, hk => by
    left
    rw [List.drop_of_length_le (by omega)]
    exact ⟨by simp only [nextA]; omega, rfl⟩
  | d + 1, ls, k, hd, hk => by
    obtain ⟨s, hs⟩ := get_some (l := ls) (k := k) (by omega)
    have hp : piecesP k (ls.drop k) = if txt s == [] then piecesP (k + 1) (ls.drop (k + 1)) else ⟨k + 1, ind s, txt s⟩ :: piecesP (k + 1) (ls.drop (k + 1)) := by
      rw [drop_at hs]; rfl
    rw [nextA_drop hs, hp]
    by_cases ht : (txt s == []) = true
    · rw [if_pos ht, if_pos ht]
      rcases nextA_spec d (ls := ls) (k := k + 1) (by omega) (by omega) with h | ⟨j, x, h1, h2, h3, h4, h5, h6⟩
      · exact .inl h
      · exact .inr ⟨j, x, h1, by omega, h3, h4, h5, h6⟩
    · rw [if_neg ht, if_neg ht]
      exact .inr ⟨k, s, rfl, Nat.le_refl _, by omega, hs, rfl, fun e => ht (by rw [e]; rfl)⟩
theorem nextA_le {ls : List B} {k : Nat} (hk : k ≤ ls.length) : k ≤ nextA k (ls.drop k) ∧ nextA k (ls.drop k) ≤ ls.length := by
  rcases nextA_spec _ rfl hk with ⟨h, _⟩ | ⟨j, x, h1, h2, h3, _⟩ <;> omega

/- the first line that is not plain -/
def wrongL (k : Nat) : List B → Nat
  | [] => 0
  | x :: l => if x.all okB then wrongL (k + 1) l else k + 1
theorem wrongL_drop {ls : List B} {k : Nat} {x : B} (hx : ls[k]? = some x) : wrongL k (ls.drop k) = if x.all okB then wrongL (k + 1) (ls.drop (k + 1)) else k + 1 := by
  rw [drop_at hx]
  rfl
theorem wrongL_bad : ∀ (s acc : B) (k : Nat), acc.all okB = false → wrongL k (linesA acc s) = k + 1
  | [], acc, k, h => by simp [linesA, wrongL, h]
  | c :: l, acc, k, h => by
    rw [linesA_cons]
    split
    · simp [wrongL, h]
    · exact wrongL_bad l _ k (by simp [List.all_append, h])
theorem wrongL_eq : ∀ (s acc : B) (k : Nat), acc.all okB = true → wrongL k (linesA acc s) = wrongP (k + 1) s
  | [], acc, k, h => by simp [linesA, wrongL, wrongP, h]
  | c :: l, acc, k, h => by
    rw [linesA_cons]
    unfold wrongP
    split
    · simp only [wrongL, h, if_true]
      exact wrongL_eq l [] (k + 1) rfl
    · cases hc : okB c with
      | true =>
        simp only [Bool.not_true, Bool.false_eq_true, if_false]
        exact wrongL_eq l _ k (by simp [List.all_append, h, hc])
      | false =>
        simp only [Bool.not_false, if_true]
        exact wrongL_bad l _ k (by simp [List.all_append, hc])
theorem wrong_lines (s : B) : wrongL 0 (lines s) = wrongP 1 s := wrongL_eq s [] 0 rfl

/- steps of the machine -/
theorem Inv.mono {N N' : Nat} {s : S} (h : Inv N s) (hn : N ≤ N') : Inv N' s := by
  have h1 := h.cnt
  have h2 := h.txt
  exact ⟨Nat.le_trans h1 hn, Nat.le_trans h2 (Nat.mul_le_mul_right 65537 hn), h.bef, h.ind, h.out⟩
theorem run_first {p : Pc} {ps : List Pc} {s : S} (h0 : s.parts = []) : run (p :: ps) s = if decide (p.ind % 2 = 1) || decide (((p.ind / 2 : Nat) : Int) > s.before + 1) then ([], p.no, 70) else finS (run ps) (takeS s p) := by
  rw [run_cons]
  have h1 : lessS s p = false := by simp [lessS, h0]
  have h2 : stepS s p = (decide (p.ind % 2 = 1) || decide (((p.ind / 2 : Nat) : Int) > s.before + 1)) := by simp [stepS, h0]
  rw [h1, h2]
  rfl
theorem run_more {p : Pc} {ps : List Pc} {s : S} (h0 : s.parts ≠ []) : run (p :: ps) s = if decide (p.ind < s.first.ind) then ([], p.no, 70) else finS (run ps) (takeS s p) := by
  rw [run_cons]
  have h3 : s.parts.isEmpty = false := by simpa using h0
  have h1 : lessS s p = decide (p.ind < s.first.ind) := by simp [lessS, h3]
  have h2 : stepS s p = false := by simp [stepS, h3]
  rw [h1, h2]
  rfl
theorem run_end {s : S} (h0 : s.parts ≠ []) : run [] s = ([], s.last, 5) := by
  have h3 : s.parts.isEmpty = false := by simpa using h0
  simp [run, h3]
theorem run_done {s : S} (h0 : s.parts = []) : run [] s = (s.out, 0, 0) := by simp [run, h0]
end Go.Ly

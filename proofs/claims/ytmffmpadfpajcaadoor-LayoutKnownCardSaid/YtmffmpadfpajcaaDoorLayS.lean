/- layout: which rows are valid, and their source text, in plain Lean. -/
import Derived.Test.YtmffmpadfpajcaaDoorLayQ
import Derived.Lib.Repeat
namespace Go.Ly
open Go.Eng
def badS (s : B) : Bool := (((((s == []) || decide ((s.length : Int) > 256)) || (Lib.trimB s 32 != s)) || Lib.contains s [45, 45]) || cont s)
def validP (s : B) : Bool := !badS s && s.all okB
def badR (no depth : Int) (x : Rw) : Bool := ((((decide (x.no ≤ no) || decide (x.no > 65536)) || decide (x.depth < 0)) || decide (x.depth > if 32 < depth + 1 then 32 else depth + 1)) || !validP x.text)
def mayA (no depth size : Int) : List Rw → Bool
  | [] => decide (size ≤ 65537)
  | x :: r => if badR no depth x then false else mayA x.no x.depth (size + 2 * x.depth + x.text.length + 1) r
def mayP (l : List Rw) : Bool := if (l.length : Int) > 2048 then false else mayA 0 (-1) 0 l
def srcR (x : Rw) : B := List.replicate (2 * x.depth.toNat) 32 ++ x.text ++ [10]
def srcP (l : List Rw) : B := l.flatMap srcR
def sourceP (l : List Rw) : B × Int := if !mayP l then ([], 2) else if ((srcP l).length : Int) > 65536 then ([], 3) else (srcP l, 0)
theorem mayA_drop {no depth size : Int} {l : List Rw} {k : Nat} {x : Rw} (hx : l[k]? = some x) : mayA no depth size (l.drop k) = if badR no depth x then false else mayA x.no x.depth (size + 2 * x.depth + x.text.length + 1) (l.drop (k + 1)) := by
  rw [drop_at hx]
  rfl
theorem validP_spec {s : B} (h : validP s = true) : s ≠ [] ∧ s.length ≤ 256 ∧ Lib.trimB s 32 = s ∧ Lib.contains s [45, 45] = false ∧ cont s = false ∧ s.all okB = true := by
  simp only [validP, badS, Bool.and_eq_true, Bool.not_eq_true', Bool.or_eq_false_iff, decide_eq_false_iff_not, bne_eq_false_iff_eq, beq_eq_false_iff_ne] at h
  obtain ⟨⟨⟨⟨⟨h1, h2⟩, h3⟩, h4⟩, h5⟩, h6⟩ := h
  exact ⟨h1, by omega, h3, h4, h5, h6⟩
theorem badR_no {no depth : Int} {x : Rw} (h : badR no depth x = false) : no < x.no ∧ x.no ≤ 65536 ∧ 0 ≤ x.depth ∧ x.depth ≤ depth + 1 ∧ x.depth ≤ 32 ∧ validP x.text = true := by
  simp only [badR, Bool.or_eq_false_iff, decide_eq_false_iff_not, Bool.not_eq_false'] at h
  obtain ⟨⟨⟨⟨h1, h2⟩, h3⟩, h4⟩, h5⟩ := h
  split at h4 <;> exact ⟨by omega, by omega, by omega, by omega, by omega, h5⟩
theorem mayA_all : ∀ {l : List Rw} {no depth size : Int}, mayA no depth size l = true → ∀ x ∈ l, 0 ≤ x.depth ∧ x.depth ≤ 32 ∧ validP x.text = true
  | [], _, _, _, _, x, hx => by cases hx
  | y :: r, no, depth, size, h, x, hx => by
    unfold mayA at h
    split at h
    · cases h
    · rename_i hb
      obtain ⟨h1, h2, h3, h4, h5, h6⟩ := badR_no (by simpa using hb)
      rcases List.mem_cons.1 hx with rfl | hx
      · exact ⟨h3, h5, h6⟩
      · exact mayA_all h x hx
theorem mayP_all {l : List Rw} (h : mayP l = true) : l.length ≤ 2048 ∧ ∀ x ∈ l, 0 ≤ x.depth ∧ x.depth ≤ 32 ∧ x.text.length ≤ 256 := by
  unfold mayP at h
  split at h
  · cases h
  · exact ⟨by omega, fun x hx => by obtain ⟨h1, h2, h3⟩ := mayA_all h x hx; exact ⟨h1, h2, (validP_spec h3).2.1⟩⟩
theorem srcP_take {l : List Rw} {k : Nat} {x : Rw} (hx : l[k]? = some x) : srcP (l.take (k + 1)) = srcP (l.take k) ++ List.replicate (2 * x.depth.toNat) 32 ++ x.text ++ [10] := by
  rw [take_at hx]
  simp [srcP, srcR]
theorem srcP_len {l : List Rw} (h : ∀ x ∈ l, 0 ≤ x.depth ∧ x.depth ≤ 32 ∧ x.text.length ≤ 256) : (srcP l).length ≤ l.length * 321 := by
  induction l with
  | nil => simp [srcP]
  | cons x r ih =>
    have h1 := ih fun y hy => h y (by simp [hy])
    obtain ⟨h2, h3, h4⟩ := h x (by simp)
    have e : (srcP (x :: r)).length = (srcR x).length + (srcP r).length := by simp [srcP]
    rw [e]
    simp only [srcR, List.length_append, List.length_replicate, List.length_cons, List.length_nil]
    omega
theorem rep_two : ∀ n : Nat, Lib.repeatL [32, 32] n = List.replicate (2 * n) (32 : UInt8) := by
  intro n
  induction n with
  | zero => rfl
  | succ n ih =>
    rw [show Lib.repeatL [32, 32] (n + 1) = [32, 32] ++ Lib.repeatL [32, 32] n from rfl, ih, show 2 * (n + 1) = 2 * n + 1 + 1 by omega, List.replicate_succ, List.replicate_succ]
    rfl
def eqR (x y : Rw) : Bool := x.no == y.no && (x.depth == y.depth && (x.text == y.text && true))
theorem srcP_nil {l : List Rw} (h : srcP l = []) : l = [] := by
  cases l with
  | nil => rfl
  | cons x r => simp [srcP, srcR] at h
theorem eqR_iff (x y : Rw) : eqR x y = true ↔ x = y := by
  cases x; cases y
  simp [eqR]
theorem eqR_ne {x y : Rw} (h : (!eqR x y) = true) : eqR x y = false := by simpa using h
theorem eqR_eq {x y : Rw} (h : (!eqR x y) = false) : eqR x y = true := by simpa using h
def eqA (x y : Rw) : Bool := x.depth == y.depth && x.text == y.text
theorem eqA_ne {x y : Rw} (h : (x.depth != y.depth || x.text != y.text) = true) : eqA x y = false := by
  unfold eqA
  rw [Bool.eq_false_iff]
  intro e
  simp only [Bool.and_eq_true, beq_iff_eq] at e
  simp [e.1, e.2] at h
theorem eqA_eq {x y : Rw} (h : (x.depth != y.depth || x.text != y.text) = false) : eqA x y = true := by
  simpa [eqA] using h
end Go.Ly

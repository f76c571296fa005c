/- layout: lines, pieces and rows in plain Lean. -/
import Derived.Test.YtmffmpadfpajcaaDoorEng18
import Derived.Lib.IndexMore
import Derived.Lib.IndexBytes
import Derived.Lib.SplitLaws
import Derived.Lib.Join
import Derived.Lib.TrimByte
namespace Go.Ly
open Go.Eng
abbrev B := List UInt8
structure Rw where
  no : Int
  depth : Int
  text : B
structure Pc where
  no : Nat
  ind : Nat
  text : B
def encB (s : B) : List Value := [str s]
theorem encB_len (s : B) : (encB s).length = 1 := rfl
def encR (r : Rw) : List Value := [.int .i64 r.no, .int .i64 r.depth, str r.text]
theorem encR_len (r : Rw) : (encR r).length = 3 := rfl
def pcL (p : Pc) : List Value := [.int .i64 p.no, .int .i64 p.ind, str p.text]
def pcV (p : Pc) : Value := .agg (pcL p).toArray

/- lines -/
def linesA (acc : B) : B → List B
  | [] => [acc]
  | c :: l => if c == 10 then acc :: linesA [] l else linesA (acc ++ [c]) l
def lines (s : B) : List B := linesA [] s
theorem linesA_miss : ∀ {a acc : B}, (10 : UInt8) ∉ a → linesA acc a = [acc ++ a]
  | [], acc, _ => by simp [linesA]
  | c :: l, acc, h => by
    have hc : (c == 10) = false := by simp; intro e; exact h (by simp [e])
    unfold linesA
    rw [hc]
    simp only [Bool.false_eq_true, if_false]
    rw [linesA_miss fun e => h (by simp [e])]
    simp
theorem linesA_cons (acc : B) (c : UInt8) (l : B) : linesA acc (c :: l) = if c == 10 then acc :: linesA [] l else linesA (acc ++ [c]) l := rfl
theorem linesA_nl (acc r : B) : linesA acc (10 :: r) = acc :: linesA [] r := rfl
theorem linesA_hit : ∀ {a acc r : B}, (10 : UInt8) ∉ a → linesA acc (a ++ 10 :: r) = (acc ++ a) :: linesA [] r
  | [], acc, r, _ => by rw [List.nil_append, List.append_nil, linesA_nl]
  | c :: l, acc, r, h => by
    have hc : (c == 10) = false := by simp; intro e; exact h (by simp [e])
    rw [List.cons_append, linesA_cons, hc]
    simp only [Bool.false_eq_true, if_false]
    rw [linesA_hit fun e => h (by simp [e])]
    simp
theorem index10 : ∀ s : B, (Lib.indexByte s 10 = -1 ∧ (10 : UInt8) ∉ s) ∨ ∃ a r, s = a ++ 10 :: r ∧ (10 : UInt8) ∉ a ∧ Lib.indexByte s 10 = a.length
  | [] => .inl ⟨rfl, by simp⟩
  | c :: l => by
    unfold Lib.indexByte
    by_cases hc : (c == 10) = true
    · rw [if_pos hc]
      exact .inr ⟨[], l, by rw [eq_of_beq hc]; rfl, by simp, rfl⟩
    · rw [if_neg hc]
      have hc' : c ≠ 10 := fun e => hc (by simp [e])
      rcases index10 l with ⟨e, h⟩ | ⟨a, r, rfl, h, e⟩
      · rw [e]
        exact .inl ⟨rfl, by simp [h, Ne.symm hc']⟩
      · rw [e, if_neg (by simp)]
        exact .inr ⟨c :: a, r, rfl, by simp [h, Ne.symm hc'], by simp⟩
theorem split_eq : ∀ (n : Nat) (s : B), s.length ≤ n → Lib.splitK [10] 0 (Lib.count s [10]) s = lines s := by
  intro n
  induction n with
  | zero =>
    intro s hs
    rw [List.eq_nil_of_length_eq_zero (by omega : s.length = 0)]
    rfl
  | succ n ih =>
    intro s hs
    rcases index10 s with ⟨e, h⟩ | ⟨a, r, rfl, h, e⟩
    · rw [← Lib.index_one] at e
      rw [Lib.count_miss e]
      unfold Lib.splitK lines
      rw [linesA_miss h]
      rfl
    · rw [← Lib.index_one] at e
      have hd : (a ++ 10 :: r).drop (a.length + 1) = r := by
        rw [List.drop_append, List.drop_of_length_le (by omega)]
        simp
      have hcnt : Lib.count (a ++ 10 :: r) [10] = Lib.count r [10] + 1 := by
        have := Lib.count_hit (sub := [10]) (by simp) e
        rw [this, show [(10 : UInt8)].length = 1 from rfl, hd]
        omega
      rw [hcnt]
      unfold Lib.splitK
      have hn : ¬ (Lib.index (a ++ 10 :: r) [10] == -1) = true := by rw [e]; simp
      rw [if_neg hn, e]
      simp only [Int.toNat_natCast, Nat.add_zero]
      rw [show [(10 : UInt8)].length = 1 from rfl, hd, ih r (by simp at hs; omega)]
      unfold lines
      rw [linesA_hit h]
      simp

/- what stands ahead of a comment -/
def cutL : B → B
  | [] => []
  | c :: l => if c == 45 && l.head? == some 45 then [] else c :: cutL l
theorem pre45 (c : UInt8) (l : B) : ([45, 45] : B).isPrefixOf (c :: l) = (c == 45 && l.head? == some 45) := by
  cases l with
  | nil => simp [List.isPrefixOf]
  | cons d l =>
    simp only [List.isPrefixOf, List.head?_cons, Bool.and_true]
    rw [show ((45 : UInt8) == c) = (c == 45) from Bool.beq_comm, show ((45 : UInt8) == d) = (some d == some 45) from (Bool.beq_comm : ((45 : UInt8) == d) = (d == 45))]
theorem cut_eq : ∀ s : B, (Lib.cut s [45, 45]).1 = cutL s
  | [] => rfl
  | c :: l => by
    have ih := cut_eq l
    have hge := Lib.index_ge l [45, 45]
    unfold Lib.cut at ih ⊢
    unfold cutL Lib.index
    rw [pre45]
    by_cases hc : (c == 45 && l.head? == some 45) = true
    · rw [if_pos hc, if_pos hc]; rfl
    · rw [if_neg hc, if_neg hc, ← ih]
      by_cases hi : Lib.index l [45, 45] = -1
      · have e1 : (Lib.index l [45, 45] == -1) = true := by simp [hi]
        simp only [e1, if_true]
        rw [if_neg (by decide), if_neg (by omega)]
      · have e1 : (Lib.index l [45, 45] == -1) = false := by simpa using hi
        simp only [e1, Bool.false_eq_true, if_false]
        rw [if_pos (by omega), if_pos (by omega)]
        rw [show (Lib.index l [45, 45] + 1).toNat = (Lib.index l [45, 45]).toNat + 1 by omega]
        rfl
def bodyL (s : B) : B := Lib.trimRightB (cutL s) 32
def txt (s : B) : B := Lib.trimLeftB (bodyL s) 32
def ind (s : B) : Nat := (bodyL s).length - (txt s).length
theorem txt_le (s : B) : (txt s).length ≤ (bodyL s).length := (List.dropWhile_sublist _).length_le
theorem cutL_le : ∀ s : B, (cutL s).length ≤ s.length
  | [] => Nat.le_refl _
  | c :: l => by
    have := cutL_le l
    unfold cutL
    split <;> simp <;> omega
theorem bodyL_le (s : B) : (bodyL s).length ≤ s.length := by
  refine Nat.le_trans ?_ (cutL_le s)
  unfold bodyL Lib.trimRightB
  rw [List.length_reverse]
  refine Nat.le_trans (List.dropWhile_sublist _).length_le ?_
  rw [List.length_reverse]
  exact Nat.le_refl _
def piecesP : Nat → List B → List Pc
  | _, [] => []
  | k, s :: l => if txt s == [] then piecesP (k + 1) l else ⟨k + 1, ind s, txt s⟩ :: piecesP (k + 1) l

/- lines that continue; bytes that are allowed -/
def contB : B := [44, 59, 40, 91, 43, 45, 42, 47, 92, 61, 60, 62, 126, 38]
def cont (s : B) : Bool := match s.getLast? with
  | none => false
  | some c => contB.contains c
theorem index_in (c : UInt8) : ∀ l : B, decide (Lib.indexByte l c ≥ 0) = l.contains c
  | [] => rfl
  | x :: l => by
    have ih := index_in c l
    have hge := Lib.indexByte_ge l c
    unfold Lib.indexByte
    rw [List.contains_cons, show (c == x) = (x == c) from Bool.beq_comm]
    by_cases h : (x == c) = true
    · rw [if_pos h, h]; rfl
    · rw [if_neg h, show (x == c) = false by simpa using h, Bool.false_or, ← ih]
      by_cases hi : Lib.indexByte l c = -1
      · rw [if_pos (by simp [hi]), hi]
      · rw [if_neg (by simpa using hi)]
        apply decide_eq_decide.2
        omega
def okB (c : UInt8) : Bool := decide ((c.toNat : Int) ≥ 32) && decide ((c.toNat : Int) ≤ 126)
def wrongP (no : Nat) : B → Nat
  | [] => 0
  | c :: l => if c == 10 then wrongP (no + 1) l else if !okB c then no else wrongP no l

/- rows -/
structure S where
  parts : List B
  first : Pc
  before : Int
  last : Nat
  out : List Rw
abbrev Out := List Rw × Nat × Nat
def textS (s : S) : B := Lib.join s.parts [32]
def longS (s : S) : Bool := decide (s.first.ind / 2 > 32) || decide ((textS s).length > 256) || decide (s.out.length = 2048)
def closeS (s : S) : S := ⟨[], s.first, (s.first.ind / 2 : Nat), s.last, s.out ++ [⟨s.first.no, (s.first.ind / 2 : Nat), textS s⟩]⟩
def finS (k : S → Out) (s : S) : Out := if cont (textS s) then k s else if longS s then ([], s.first.no, 3) else k (closeS s)
def lessS (s : S) (p : Pc) : Bool := !s.parts.isEmpty && decide (p.ind < s.first.ind)
def stepS (s : S) (p : Pc) : Bool := s.parts.isEmpty && (decide (p.ind % 2 = 1) || decide (((p.ind / 2 : Nat) : Int) > s.before + 1))
def takeS (s : S) (p : Pc) : S := ⟨s.parts ++ [p.text], if s.parts.isEmpty then p else s.first, s.before, p.no, s.out⟩
def run : List Pc → S → Out
  | [], s => if s.parts.isEmpty then (s.out, 0, 0) else ([], s.last, 5)
  | p :: ps, s => if lessS s p then ([], p.no, 70) else if stepS s p then ([], p.no, 70) else finS (run ps) (takeS s p)
def s0 : S := ⟨[], ⟨0, 0, []⟩, -1, 0, []⟩
def rowsP (src : B) : Out :=
  if src.length > 65536 then ([], 0, 3)
  else if wrongP 1 src > 0 then ([], wrongP 1 src, 5)
  else run (piecesP 0 (lines src)) s0
theorem run_cons (p : Pc) (ps : List Pc) (s : S) : run (p :: ps) s = if lessS s p then ([], p.no, 70) else if stepS s p then ([], p.no, 70) else finS (run ps) (takeS s p) := rfl
end Go.Ly

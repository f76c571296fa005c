/- lex: names and reserved words, in plain Lean (as the program and as the reference have them). -/
import Derived.Test.YtheejlbhmbbdjaaDoorEng8
import Derived.Lib.IndexMore
namespace Go.Lx
abbrev B := List UInt8
def ltr (z : Int) : Bool := (decide (z ≥ 97) && decide (z ≤ 122)) || (decide (z ≥ 65) && decide (z ≤ 90))
def ltrR (z : Int) : Bool := (decide (z ≥ 65) && decide (z ≤ 90)) || (decide (z ≥ 97) && decide (z ≤ 122))
def dig (z : Int) : Bool := decide (z ≥ 48) && decide (z ≤ 57)
def wch (c : UInt8) : Bool := !(!ltr c.toNat && !dig c.toNat && ((c.toNat : Int) != 46))
def wchR (z : Int) : Bool := ltrR z || dig z || (z == 46)
def run : B → Nat
  | [] => 0
  | c :: l => if wch c then run l + 1 else 0
theorem run_le : ∀ l, run l ≤ l.length
  | [] => Nat.le_refl _
  | c :: l => by
    unfold run
    have := run_le l
    split <;> simp <;> omega
theorem run_drop {l : B} {k : Nat} {c : UInt8} (hc : l[k]? = some c) : run (l.drop k) = if wch c then run (l.drop (k + 1)) + 1 else 0 := by
  have h1 : k < l.length := (List.getElem?_eq_some_iff.1 hc).1
  rw [List.drop_eq_getElem_cons h1, (List.getElem?_eq_some_iff.1 hc).2]
  rfl
def keysB : B := [32, 65, 70, 84, 69, 82, 32, 65, 76, 84, 32, 65, 78, 68, 32, 66, 79, 79, 76, 32, 66, 89, 84, 69, 32, 67, 65, 83, 69, 32, 67, 72, 65, 78, 32, 69, 76, 83, 69, 32, 70, 65, 76, 83, 69, 32, 70, 79, 82, 32, 73, 70, 32, 73, 78, 84, 32, 73, 83, 32, 77, 73, 78, 85, 83, 32, 78, 79, 84, 32, 79, 70, 32, 79, 82, 32, 80, 65, 82, 32, 80, 76, 65, 67, 69, 68, 32, 80, 76, 85, 83, 32, 80, 82, 73, 32, 80, 82, 79, 67, 32, 80, 82, 79, 67, 69, 83, 83, 79, 82, 32, 80, 82, 79, 84, 79, 67, 79, 76, 32, 83, 69, 81, 32, 83, 73, 90, 69, 32, 83, 75, 73, 80, 32, 83, 84, 79, 80, 32, 84, 73, 77, 69, 82, 32, 84, 73, 77, 69, 83, 32, 84, 82, 85, 69, 32, 86, 65, 76, 32, 87, 72, 73, 76, 69, 32]
def key (s : B) : Bool := !(s == []) && ((run s : Int) == s.length) && Lib.contains keysB ([32] ++ s ++ [32])
def name (s : B) : Bool := !(s == []) && decide ((s.length : Int) ≤ 32) && (match s with | c :: _ => ltr c.toNat | [] => false) && ((run s : Int) == s.length) && !key s
/- the reference -/
def keysL : List B := [[65, 70, 84, 69, 82], [65, 76, 84], [65, 78, 68], [66, 79, 79, 76], [66, 89, 84, 69], [67, 65, 83, 69], [67, 72, 65, 78], [69, 76, 83, 69], [70, 65, 76, 83, 69], [70, 79, 82], [73, 70], [73, 78, 84], [73, 83], [77, 73, 78, 85, 83], [78, 79, 84], [79, 70], [79, 82], [80, 65, 82], [80, 76, 65, 67, 69, 68], [80, 76, 85, 83], [80, 82, 73], [80, 82, 79, 67], [80, 82, 79, 67, 69, 83, 83, 79, 82], [80, 82, 79, 84, 79, 67, 79, 76], [83, 69, 81], [83, 73, 90, 69], [83, 75, 73, 80], [83, 84, 79, 80], [84, 73, 77, 69, 82], [84, 73, 77, 69, 83], [84, 82, 85, 69], [86, 65, 76], [87, 72, 73, 76, 69]]
def among (s : B) : List B → Bool
  | [] => false
  | x :: l => if x == s then true else among s l
theorem among_drop (s : B) {l : List B} {k : Nat} {x : B} (hx : l[k]? = some x) : among s (l.drop k) = if x == s then true else among s (l.drop (k + 1)) := by
  have h1 : k < l.length := (List.getElem?_eq_some_iff.1 hx).1
  rw [List.drop_eq_getElem_cons h1, (List.getElem?_eq_some_iff.1 hx).2]
  rfl
theorem among_iff (s : B) : ∀ l, among s l = true ↔ s ∈ l
  | [] => by simp [among]
  | x :: l => by
    unfold among
    split
    · rename_i h; simp at h; simp [h]
    · rename_i h
      have h' : ¬ s = x := fun e => h (by simp [e])
      rw [among_iff s l]; simp [h']
def keyR (s : B) : Bool := among s keysL
def allW : B → Bool
  | [] => true
  | c :: l => if wchR c.toNat then allW l else false
theorem allW_drop {l : B} {k : Nat} {c : UInt8} (hc : l[k]? = some c) : allW (l.drop k) = if wchR c.toNat then allW (l.drop (k + 1)) else false := by
  have h1 : k < l.length := (List.getElem?_eq_some_iff.1 hc).1
  rw [List.drop_eq_getElem_cons h1, (List.getElem?_eq_some_iff.1 hc).2]
  rfl
def bad (s : B) : Bool := decide ((s.length : Int) < 1) || decide ((s.length : Int) > 32) || (match s with | c :: _ => !ltrR c.toNat | [] => false) || keyR s
def nameR (s : B) : Bool := if bad s then false else allW s
def encB (s : B) : List Value := [Eng.str s]
theorem encB_len (s : B) : (encB s).length = 1 := rfl
end Go.Lx

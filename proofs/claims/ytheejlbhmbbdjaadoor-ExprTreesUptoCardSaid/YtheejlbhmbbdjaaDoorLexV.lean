/- lex: the text of tokens, plain, as the program writes it. -/
import Derived.Test.YtheejlbhmbbdjaaDoorLexL
import Derived.Lib.ItoaNum
namespace Go.Lx
open Go.Ty
def hexDig (u : Nat) : Nat → B
  | 0 => []
  | i + 1 => capitalB.getD (u / 16 ^ i % 16) 0 :: hexDig u i
theorem hexDig_len (u : Nat) : ∀ i, (hexDig u i).length = i
  | 0 => rfl
  | i + 1 => by show (hexDig u i).length + 1 = _; rw [hexDig_len u i]
def wordP (v : Int) (hex : Bool) : B := if hex then 35 :: hexDig (IntKind.u32.wrap v).toNat 8 else Lib.itoa v
def cntB : B := [13, 10, 9, 39, 42]
def cntS : B := [99, 110, 116, 39, 42]
def shI (v : Nat) : Int := Lib.indexByte cntB (UInt8.ofNat v)
def shownP (v : Nat) : B :=
  if decide (shI v ≥ 0) then [42, cntS.getD (shI v).toNat 0]
  else if decide ((v : Int) < 32) || decide ((v : Int) > 126) then [42, 35, capitalB.getD (v / 16) 0, capitalB.getD (v % 16) 0]
  else [UInt8.ofNat v]
def textP (t : Tok) : B := if t.kind == 3 then wordP t.n (decide (t.n < 0)) else if t.kind == 4 then [39] ++ shownP t.n.toNat ++ [39] else t.text
def amongT (t : Tok) (s : B) : Bool := (t.kind == 5) && Lib.contains s t.text
def closeB : B := [44, 59, 58, 41, 93]
def openB : B := [40, 91]
/-- Is there a space between two tokens? -/
def gap (p t : Tok) : Bool := !amongT t closeB && !amongT p openB && ((p.kind != 1) || !amongT t openB)
def gapO : Option Tok → Tok → Bool
  | none, _ => false
  | some p, t => gap p t
def sep (b : Bool) : B := if b then [32] else []
def textL : Option Tok → List Tok → B
  | _, [] => []
  | p, t :: l => sep (gapO p t) ++ textP t ++ textL (some t) l
def lastO (p : Option Tok) : List Tok → Option Tok
  | [] => p
  | t :: l => lastO (some t) l
theorem textL_app : ∀ (l m : List Tok) (p : Option Tok), textL p (l ++ m) = textL p l ++ textL (lastO p l) m
  | [], m, p => rfl
  | t :: l, m, p => by
    show sep (gapO p t) ++ textP t ++ textL (some t) (l ++ m) = sep (gapO p t) ++ textP t ++ textL (some t) l ++ textL (lastO (some t) l) m
    rw [textL_app l m (some t)]
    simp
theorem lastO_take : ∀ (l : List Tok) (i : Nat) (p : Option Tok) (t : Tok), l[i]? = some t → lastO p (l.take (i + 1)) = some t
  | [], i, p, t, h => by cases i <;> cases h
  | x :: l, 0, p, t, h => by cases h; cases l <;> rfl
  | x :: l, i + 1, p, t, h => by
    show lastO (some x) (l.take (i + 1)) = some t
    exact lastO_take l i (some x) t (by simpa using h)
theorem textL_snoc {l : List Tok} {i : Nat} {t : Tok} (p : Option Tok) (h : l[i]? = some t) : textL p (l.take (i + 1)) = textL p (l.take i) ++ (sep (gapO (lastO p (l.take i)) t) ++ textP t) := by
  have h1 : i < l.length := (List.getElem?_eq_some_iff.1 h).1
  have e : l.take (i + 1) = l.take i ++ [t] := by
    rw [List.take_add_one, h]
    rfl
  rw [e, textL_app]
  show textL p (l.take i) ++ (sep _ ++ textP t ++ []) = _
  simp
def textO (l : List Tok) : B × Int :=
  if l.any fun t => !mayK t then ([], 2) else if decide (((textL none l).length : Int) > 256) then ([], 3) else (textL none l, 0)
theorem textO_bad {l : List Tok} (h : l.any (fun t => !mayK t) = true) : textO l = ([], 2) := by unfold textO; rw [h]; rfl
theorem textO_long {l : List Tok} (h : l.any (fun t => !mayK t) = false) {i : Nat} (hi : 256 < (textL none (l.take i)).length) : textO l = ([], 3) := by
  unfold textO
  rw [h]
  have : decide (((textL none l).length : Int) > 256) = true := by
    have e : textL none l = textL none (l.take i) ++ textL (lastO none (l.take i)) (l.drop i) := by rw [← textL_app, List.take_append_drop]
    rw [e, List.length_append]
    simp
    omega
  rw [this]
  rfl
theorem textO_ok {l : List Tok} (h : l.any (fun t => !mayK t) = false) (hl : (textL none l).length ≤ 256) : textO l = (textL none l, 0) := by
  unfold textO
  rw [h]
  have : decide (((textL none l).length : Int) > 256) = false := by simp; omega
  rw [this]
  rfl
theorem shown_len (v : Nat) : (shownP v).length ≤ 4 := by
  unfold shownP
  split
  · simp
  · split <;> simp
theorem dec_len : ∀ (n u : Nat), u ≤ n → (Lib.decDigits u).length ≤ u + 1
  | n, u, h => by
    unfold Lib.decDigits
    split
    · simp
    · rename_i h10
      cases n with
      | zero => omega
      | succ n =>
        have := dec_len n (u / 10) (by omega)
        rw [List.length_append, List.length_singleton]
        omega
theorem wordP_len {v : Int} (b : Bool) (h : -2147483648 ≤ v ∧ v ≤ 2147483647) : (wordP v b).length ≤ 3000000000 := by
  unfold wordP
  split
  · rw [List.length_cons, hexDig_len]; omega
  · unfold Lib.itoa
    split
    · have := dec_len _ v.natAbs (Nat.le_refl _); rw [List.length_cons]; omega
    · have := dec_len _ v.toNat (Nat.le_refl _); omega
theorem textP_len {t : Tok} (h : -2147483648 ≤ t.n ∧ t.n ≤ 2147483647) (hs : t.text.length ≤ 140737488355328) : (textP t).length ≤ 140737488355328 := by
  unfold textP
  split
  · have := wordP_len (decide (t.n < 0)) h; omega
  · split
    · have := shown_len t.n.toNat
      simp only [List.length_append, List.length_singleton]
      omega
    · exact hs
theorem hexDig_app (u : Nat) (i : Nat) : hexDig u (i + 1) = capitalB.getD (u / 16 ^ i % 16) 0 :: hexDig u i := rfl
end Go.Lx

/- lex: tokens in plain Lean, as the program reads and writes them. -/
import Derived.Test.YtheejlbhmbbdjaaDoorTypM
import Derived.Test.YtheejlbhmbbdjaaDoorEng8
import Derived.Lib.Bytealg
namespace Go.Lx
open Go.Ty
def singlesB : B := [43, 45, 42, 47, 92, 61, 60, 62, 126, 63, 33, 38, 58, 59, 44, 40, 41, 91, 93]
def doublesB : B := [32, 47, 92, 32, 92, 47, 32, 62, 60, 32, 60, 60, 32, 62, 62, 32, 60, 62, 32, 60, 61, 32, 62, 61, 32, 58, 61, 32]
def capitalB : B := [48, 49, 50, 51, 52, 53, 54, 55, 56, 57, 65, 66, 67, 68, 69, 70]
def lettersB : B := [99, 110, 116, 115, 39, 34, 42]
def standB : B := [13, 10, 9, 32, 39, 34, 42]
def sym : B → Bool
  | [a] => Lib.contains singlesB [a]
  | [a, b] => ((a.toNat : Int) != 32) && ((b.toNat : Int) != 32) && Lib.contains doublesB ([32] ++ [a, b] ++ [32])
  | _ => false
/-- Does a token exist? -/
def mayK (t : Tok) : Bool :=
  if decide (t.at_ < 0) || decide (t.at_ ≥ 256) then false
  else if t.kind == 1 then (t.n == 0) && name t.text
  else if t.kind == 2 then (t.n == 0) && key t.text
  else if t.kind == 5 then (t.n == 0) && sym t.text
  else if t.kind == 4 then (t.text == []) && decide (t.n ≥ 0) && decide (t.n < 256)
  else (t.kind == 3) && (t.text == [])
/- reading -/
def rWords (r : B) : Tok × Nat :=
  if key (r.take (run r)) then (⟨2, 0, r.take (run r), 0⟩, run r) else if decide ((run r : Int) > 32) then (zeroK, 0) else (⟨1, 0, r.take (run r), 0⟩, run r)
def decV : B → Int → Option Int
  | [], v => some v
  | c :: l, v => if !dig c.toNat then none else decV l (10 * v + ((c.toNat : Int) - 48))
def rDec (r : B) : Tok × Nat :=
  if decide ((run r : Int) > 10) then (zeroK, 0) else
  match decV (r.take (run r)) 0 with
  | none => (zeroK, 0)
  | some v => if v != IntKind.i32.wrap v then (zeroK, 0) else (⟨3, 0, [], IntKind.i32.wrap v⟩, run r)
def hexd (c : UInt8) : Int := Lib.indexByte capitalB c
def hexV : B → Int → Option Int
  | [], v => some v
  | c :: l, v => if decide (hexd c < 0) then none else hexV l (16 * v + hexd c)
def hexP (s : B) : Int × Bool :=
  match hexV s 0 with
  | none => (0, false)
  | some v => (v, !(s == []))
def rHex (r : B) : Tok × Nat :=
  if decide ((run (r.drop 1) : Int) > 8) then (zeroK, 0) else
  if !(hexP ((r.drop 1).take (run (r.drop 1)))).2 then (zeroK, 0) else
  (⟨3, 0, [], IntKind.i32.wrap (hexP ((r.drop 1).take (run (r.drop 1)))).1⟩, 1 + run (r.drop 1))
def chB (s : B) (i : Nat) : Int := ((s.getD i 0).toNat : Int)
def esc (c : UInt8) : Int := Lib.indexByte lettersB c
def charP (s : B) : Int × Nat :=
  if (s == []) || decide (chB s 0 < 32) || decide (chB s 0 > 126) || (chB s 0 == 39) then (0, 0)
  else if chB s 0 != 42 then (chB s 0, 1)
  else if decide ((s.length : Int) < 2) then (0, 0)
  else if decide (esc (s.getD 1 0) ≥ 0) then (chB standB (esc (s.getD 1 0)).toNat, 2)
  else if (chB s 1 != 35) || decide ((s.length : Int) < 4) then (0, 0)
  else if !(hexP ((s.drop 2).take 2)).2 then (0, 0)
  else ((hexP ((s.drop 2).take 2)).1, 4)
def noQ (s : B) (n : Nat) : Bool := ((n : Int) == 0) || ((n : Int) == s.length) || (chB s n != 39)
def rQuoted (r : B) : Tok × Nat :=
  if noQ (r.drop 1) (charP (r.drop 1)).2 then (zeroK, 0) else (⟨4, 0, [], (charP (r.drop 1)).1⟩, (charP (r.drop 1)).2 + 2)
def rSyms (r : B) : Tok × Nat :=
  if decide (2 ≤ r.length) && sym (r.take 2) then (⟨5, 0, r.take 2, 0⟩, 2)
  else if decide (1 ≤ r.length) && sym (r.take 1) then (⟨5, 0, r.take 1, 0⟩, 1)
  else (zeroK, 0)
def tok (r : B) : Tok × Nat :=
  if ltr (chB r 0) then rWords r else if dig (chB r 0) then rDec r else if chB r 0 == 35 then rHex r else if chB r 0 == 39 then rQuoted r else rSyms r
/-- The tokens of r, of which the first byte is at place at; or the place of an error. -/
def lexR : Nat → B → Nat → Except Nat (List Tok)
  | _, [], _ => .ok []
  | 0, _ :: _, _ => .ok []
  | k + 1, c :: r, at_ =>
    if (c.toNat : Int) == 32 then lexR k r (at_ + 1)
    else if (tok (c :: r)).2 == 0 then .error at_
    else match lexR k ((c :: r).drop (tok (c :: r)).2) (at_ + (tok (c :: r)).2) with
      | .ok l => .ok ({ (tok (c :: r)).1 with at_ := at_ } :: l)
      | .error e => .error e
def lexO (s : B) : List Tok × Int × Int :=
  if decide ((s.length : Int) > 256) then ([], 0, 3)
  else match lexR s.length s 0 with
    | .ok l => (l, 0, 0)
    | .error a => ([], a, 80)
end Go.Lx

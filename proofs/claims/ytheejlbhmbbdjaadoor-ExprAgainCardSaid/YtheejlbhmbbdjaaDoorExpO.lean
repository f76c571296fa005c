/- expr: the laws' lists of tokens. -/
import Derived.Test.YtheejlbhmbbdjaaDoorLawA
import Derived.Test.YtheejlbhmbbdjaaDoorExpV
namespace Go.Proofs.YtheejlbhmbbdjaaDoor
open Go.Eng Go.Xp Go
open Go.Ty (Tok encK encK_len tokV)
open Go.Lx (mayK)
set_option maxRecDepth 100000
theorem tkl_sym {s : B} (hs : s.length ≤ 140737488355328) : TkL [symT s] := fun x hx => by
  rw [List.mem_singleton] at hx
  subst hx
  exact ⟨z0, hs⟩
/-- The bounds of the tokens of an expression. -/
theorem tok_tkl {e : Ex} (hW : Wf e) : TkL (tokP e) := by
  unfold tokP
  split
  · rename_i hm
    exact fun x hx => ⟨(write_may e (may_good hm).1 hW x hx).2, by have := Go.Lx.may_len (write_may e (may_good hm).1 hW x hx).1; omega⟩
  · exact fun x hx => (List.not_mem_nil hx).elim
theorem tks_of {m : View} {h : List Res} {a : Option Addr} {c : Nat} {ts : List Tok} (r : Rd m h a ts.length c 4 (fl encK ts)) (hl : ts.length ≤ 1000000) (hk : TkL ts) : Tks m h a c ts := ⟨r, hl, fun t ht => (hk t ht).2⟩
theorem tkl_app {a b : List Tok} (ha : TkL a) (hb : TkL b) : TkL (a ++ b) := fun x hx => by
  rcases List.mem_append.1 hx with h | h
  · exact ha x h
  · exact hb x h
theorem tokP_len (e : Ex) : (tokP e).length ≤ 2000 := by
  unfold tokP
  split
  · rename_i hm
    obtain ⟨hF, hc⟩ := may_good hm
    have := write_len e hF
    omega
  · exact Nat.zero_le _
end Go.Proofs.YtheejlbhmbbdjaaDoor

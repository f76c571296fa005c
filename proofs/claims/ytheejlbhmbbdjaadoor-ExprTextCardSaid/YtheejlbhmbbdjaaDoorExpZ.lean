/- expr: reading does not depend on the tokens' places, nor on what stands behind, in plain Lean. -/
import Derived.Test.YtheejlbhmbbdjaaDoorExpV
namespace Go.Xp
open Go.Eng Go
open Go.Ty (Tok encK)
open Go.Lx (mayK)
set_option maxRecDepth 100000
def nx (t : Tok) : Tok := if mayK t then { t with at_ := 0 } else zeroT
abbrev nxL (ts : List Tok) : List Tok := ts.map nx
theorem may_zero {t : Tok} (h : mayK t = true) : mayK { t with at_ := 0 } = true := Go.Lx.may_at h (by decide)
theorem nx_nx (t : Tok) : nx (nx t) = nx t := by
  unfold nx
  cases h : mayK t with
  | true => rw [if_pos rfl, if_pos (may_zero h)]
  | false => rfl
theorem next_nx (ts : List Tok) : nextT (nxL ts) = nextT ts := by
  cases ts with
  | nil => rfl
  | cons t r => exact nx_nx t
def nxR : PRes → PRes
  | .ok (x, r) => .ok (x, nxL r)
  | .error e => .error e
abbrev NxOk (ins : B → B → List Tok → PRes) : Prop := ∀ o s ts, ins o s (nxL ts) = nxR (ins o s ts)
theorem opnd_nx {ins : B → B → List Tok → PRes} (hi : NxOk ins) (ts : List Tok) : opndQ ins (nxL ts) = nxR (opndQ ins ts) := by
  have ht : (nxL ts).tail = nxL ts.tail := by cases ts <;> rfl
  rw [opndQ_at (next_nx ts), opndQ_at (rfl : nextT ts = nextT ts), ht, next_nx, hi, hi]
  repeat' split
  all_goals first | rfl | (simp_all [nxR]; done)
theorem unQ_nx (mk : Ex → Ex) (p : PRes) : unQ mk (nxR p) = nxR (unQ mk p) := by
  cases p with
  | ok q => rfl
  | error e => rfl
theorem expr_nx {ins : B → B → List Tok → PRes} (hi : NxOk ins) (ts : List Tok) : exprQ ins (nxL ts) = nxR (exprQ ins ts) := by
  have ht : (nxL ts).tail = nxL ts.tail := by cases ts <;> rfl
  have ht2 : (nxL ts.tail).tail = nxL ts.tail.tail := by cases ts.tail <;> rfl
  rw [exprQ_at (next_nx ts), exprQ_at (rfl : nextT ts = nextT ts), ht, ht2, next_nx, opnd_nx hi, opnd_nx hi, unQ_nx, unQ_nx]
  split
  · split <;> rfl
  · split
    · rfl
    · split
      · rfl
      · cases hq : opndQ ins ts with
        | error e => rfl
        | ok p =>
          obtain ⟨a, r⟩ := p
          have ht3 : (nxL r).tail = nxL r.tail := by cases r <;> rfl
          show (if opF (nextT (nxL r)) 22 1 ≠ 0 then unQ (fun b => sx 7 (opF (nextT (nxL r)) 22 1) 0 0 [] [a, b]) (opndQ ins (nxL r).tail) else .ok (a, nxL r)) = nxR (if opF (nextT r) 22 1 ≠ 0 then unQ (fun b => sx 7 (opF (nextT r) 22 1) 0 0 [] [a, b]) (opndQ ins r.tail) else .ok (a, r))
          rw [next_nx, ht3, opnd_nx hi, unQ_nx]
          split <;> rfl
theorem ins_nx : ∀ f, NxOk (insQ f)
  | 0 => fun _ _ _ => rfl
  | f + 1 => fun o s ts => by
    have ht : (nxL ts).tail = nxL ts.tail := by cases ts <;> rfl
    unfold insQ
    rw [next_nx, ht, expr_nx (ins_nx f)]
    split
    · cases exprQ (insQ f) ts.tail with
      | error e => rfl
      | ok p =>
        obtain ⟨x, r⟩ := p
        have ht3 : (nxL r).tail = nxL r.tail := by cases r <;> rfl
        show (if nextT (nxL r) = symT s then .ok (x, (nxL r).tail) else .error 100 : PRes) = nxR (if nextT r = symT s then .ok (x, r.tail) else .error 100)
        rw [next_nx, ht3]
        split <;> rfl
    · rfl
theorem front_nx (ts : List Tok) : frontP (nxL ts) = frontP ts := by
  unfold frontP exprP
  rw [expr_nx (ins_nx 32)]
  cases exprQ (insQ 32) ts with
  | error e => rfl
  | ok p =>
    obtain ⟨x, r⟩ := p
    show (if mayE x then Except.ok (x, (nxL ts).length - (nxL r).length) else .error 3) = if mayE x then Except.ok (x, ts.length - r.length) else .error 3
    rw [List.length_map, List.length_map]
/-- The tokens of a text are read as the tokens. -/
theorem front_same {ts us : List Tok} (h : nxL ts = nxL us) : frontP ts = frontP us := by rw [← front_nx, h, front_nx]
theorem place_nx : ∀ (l : List Tok) (p : Option Tok) (q : Nat), (∀ x ∈ l, mayK x = true) → (∀ x ∈ Go.Lx.place p q l, mayK x = true) → nxL (Go.Lx.place p q l) = nxL l
  | [], _, _, _, _ => rfl
  | t :: r, p, q, h, k => by
    unfold Go.Lx.place at k ⊢
    have h1 := h t (by simp)
    have h2 := k _ (List.Mem.head _)
    have h3 := place_nx r _ _ (fun x hx => h x (List.Mem.tail _ hx)) (fun x hx => k x (List.Mem.tail _ hx))
    rw [nxL, nxL, List.map_cons, List.map_cons, show nx t = { t with at_ := 0 } from if_pos h1]
    refine congr (congrArg List.cons (if_pos h2)) h3
/- What stands behind. -/
theorem drop_suf {ts : List Tok} : ∃ p, ts = p ++ ts.tail := by
  cases ts with
  | nil => exact ⟨[], rfl⟩
  | cons t r => exact ⟨[t], rfl⟩
/-- A reader that takes what it took, whatever stands behind. -/
abbrev Pre (rd : List Tok → PRes) (ok : List Tok → Prop) : Prop := ∀ p r x, rd (p ++ r) = .ok (x, r) → ∀ r', ok r' → rd (p ++ r') = .ok (x, r')
abbrev Suf (rd : List Tok → PRes) : Prop := ∀ ts x r, rd ts = .ok (x, r) → ∃ p, ts = p ++ r ∧ p ≠ []
end Go.Xp

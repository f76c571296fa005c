/- ExpN, ExpW, ExpR, ExpY as one text. -/
import Derived.Test.YtheejlbhmbbdjaaDoorExpM
import Derived.Test.YtheejlbhmbbdjaaDoorLexP
import Derived.Test.YtheejlbhmbbdjaaDoorTypM
import Derived.Test.YtheejlbhmbbdjaaDoorLexU
/- expr: the reference's tests are the code's. -/
namespace Go.Xp
open Go.Eng Go
def finR (e : Ex) (f : Bool) (n o t v : Int) (s : B) : Bool := (((((f && ((e.l.length : Int) == n)) && (e.o == o)) && (e.t == t)) && (e.n == v)) && (e.s == s))
def ownR (e : Ex) : Bool := (partsP e).2 && ((e.l.length : Int) == (partsP e).1)
theorem shr8 {n : Int} (h : -2147483648 ≤ n ∧ n ≤ 2147483647) : (bshr .i32 n 8 = 0) ↔ (0 ≤ n ∧ n ≤ 255) := by
  unfold bshr
  rw [Int.fdiv_eq_ediv_of_nonneg _ (by decide)]
  simp [IntKind.bits]
  omega
theorem shr1 {n : Int} (h : -2147483648 ≤ n ∧ n ≤ 2147483647) : (bshr .i32 n 1 = 0) ↔ (0 ≤ n ∧ n ≤ 1) := by
  unfold bshr
  rw [Int.fdiv_eq_ediv_of_nonneg _ (by decide)]
  simp [IntKind.bits]
  omega
theorem wrap_mon {o : Int} (h : 23 ≤ o ∧ o ≤ 255) : IntKind.u8.wrap (o - 23) = o - 23 := by
  unfold IntKind.wrap
  simp [IntKind.bits, IntKind.signed]
  omega
theorem own_num {e : Ex} (h : e.k = 1) : ownR e = finR e true 0 0 0 e.n [] := by
  simp only [ownR, finR, partsP, fin, h]
  rw [Bool.eq_iff_iff]
  simp
  constructor <;> (intro h; simp_all)
theorem own_byte {e : Ex} (hn : -2147483648 ≤ e.n ∧ e.n ≤ 2147483647) (h : e.k = 2) : ownR e = finR e (decide (e.n ≥ 0) && decide (e.n ≤ 255)) 0 0 0 e.n [] := by
  have h8 := shr8 hn
  simp only [ownR, finR, partsP, fin, h]
  by_cases hb : bshr .i32 e.n 8 = 0
  · have := h8.1 hb
    rw [Bool.eq_iff_iff]
    simp [hb, this.1, this.2]
    constructor <;> (intro h; simp_all)
  · have h9 : ¬ (0 ≤ e.n ∧ e.n ≤ 255) := fun q => hb (h8.2 q)
    rw [Bool.eq_iff_iff]
    simp [hb]
    intros
    omega
theorem own_bool {e : Ex} (hn : -2147483648 ≤ e.n ∧ e.n ≤ 2147483647) (h : e.k = 3) : ownR e = finR e ((e.n == 0) || (e.n == 1)) 0 0 0 e.n [] := by
  have h8 := shr1 hn
  simp only [ownR, finR, partsP, fin, h]
  by_cases hb : bshr .i32 e.n 1 = 0
  · have := h8.1 hb
    have h10 : e.n = 0 ∨ e.n = 1 := by omega
    rw [Bool.eq_iff_iff]
    simp [hb, h10]
    constructor <;> (intro h; simp_all)
  · have h9 : ¬ (0 ≤ e.n ∧ e.n ≤ 1) := fun q => hb (h8.2 q)
    have h10 : ¬ (e.n = 0 ∨ e.n = 1) := by omega
    rw [Bool.eq_iff_iff]
    simp [hb]
    intros
    omega
theorem own_name {e : Ex} (h : e.k = 4 ∨ e.k = 9) : ownR e = finR e (Go.Lx.nameR e.s) 0 0 0 0 e.s := by
  rw [← Go.Lx.name_eq]
  rcases h with h | h <;>
  · simp only [ownR, finR, partsP, fin, h]
    cases Go.Lx.name e.s
    · simp
    · rw [Bool.eq_iff_iff]
      simp
      constructor <;> (intro h; simp_all)
theorem own_index {e : Ex} (h : e.k = 5) : ownR e = finR e (Go.Lx.nameR e.s) 1 0 0 0 e.s := by
  rw [← Go.Lx.name_eq]
  simp only [ownR, finR, partsP, fin, h]
  cases Go.Lx.name e.s
  · simp
  · rw [Bool.eq_iff_iff]
    simp
    constructor <;> (intro h; simp_all)
theorem own_mon {e : Ex} (ho : 0 ≤ e.o ∧ e.o ≤ 255) (h : e.k = 6) : ownR e = finR e (decide (e.o ≥ 23) && decide (e.o ≤ 26)) 1 e.o 0 0 [] := by
  simp only [ownR, finR, partsP, fin, h]
  by_cases h1 : e.o < 23
  · rw [Bool.eq_iff_iff]
    simp [h1]
    intros
    omega
  · have h2 := wrap_mon (o := e.o) (by omega)
    rw [h2, Bool.eq_iff_iff]
    by_cases h3 : e.o ≤ 26
    · have h4 : 23 ≤ e.o := by omega
      have h5 : ¬ 4 ≤ e.o - 23 := by omega
      simp [h1, h3, h4, h5]
      constructor <;> (intro h; simp_all)
    · have h5 : 4 ≤ e.o - 23 := by omega
      simp [h1, h3, h5]
theorem own_dya {e : Ex} (h : e.k = 7) : ownR e = finR e (decide (e.o ≥ 1) && decide (e.o ≤ 22)) 2 e.o 0 0 [] := by
  simp only [ownR, finR, partsP, fin, h]
  by_cases h1 : e.o < 1
  · rw [Bool.eq_iff_iff]
    simp [h1]
    intros
    omega
  · by_cases h3 : e.o ≤ 22
    · have h4 : 1 ≤ e.o := by omega
      have h5 : ¬ 22 < e.o := by omega
      rw [Bool.eq_iff_iff]
      simp [h1, h3, h4, h5]
      constructor <;> (intro h; simp_all)
    · have h5 : 22 < e.o := by omega
      rw [Bool.eq_iff_iff]
      simp [h1, h3, h5]
theorem own_conv {e : Ex} (h : e.k = 8) : ownR e = finR e (((e.t == 1) || (e.t == 2)) || (e.t == 3)) 1 0 e.t 0 [] := by
  simp only [ownR, finR, partsP, fin, h, primP]
  rw [Bool.eq_iff_iff]
  by_cases h1 : e.t = 1
  · simp [h1]
    constructor <;> (intro h; simp_all)
  · by_cases h2 : e.t = 2
    · simp [h2]
      constructor <;> (intro h; simp_all)
    · by_cases h3 : e.t = 3
      · simp [h3]
        constructor <;> (intro h; simp_all)
      · simp [h1, h2, h3]
theorem own_none {e : Ex} (h1 : e.k ≠ 1) (h2 : e.k ≠ 2) (h3 : e.k ≠ 3) (h4 : e.k ≠ 4) (h9 : e.k ≠ 9) (h5 : e.k ≠ 5) (h6 : e.k ≠ 6) (h7 : e.k ≠ 7) (h8 : e.k ≠ 8) : ownR e = false := by
  simp [ownR, partsP, h1, h2, h3, h4, h5, h6, h7, h8, h9]
theorem head_room {e : Ex} {a b : Int} (ha : 0 ≤ a ∧ a ≤ 32) (hb : 0 ≤ b) : headE (a + 1) b e = ((a == 32) || (b == 0) || !(ownR e)) := by
  unfold headE ownR
  have h1 : decide (b - 1 < 0) = (b == 0) := by rw [Bool.eq_iff_iff]; simp; omega
  have h2 : decide (a + 1 > 32) = (a == 32) := by rw [Bool.eq_iff_iff]; simp; omega
  rw [h1, h2]
  cases (partsP e).2 <;> cases (a == 32) <;> cases (b == 0) <;> simp [bne]
end Go.Xp

/- expr: the tokens of an expression, in plain Lean. -/
namespace Go.Xp
open Go.Eng Go
open Go.Ty (Tok encK)
def symT (s : B) : Tok := ⟨5, 0, s, 0⟩
def keyT (s : B) : Tok := ⟨2, 0, s, 0⟩
def nameT (s : B) : Tok := ⟨1, 0, s, 0⟩
def numT (n : Int) : Tok := ⟨3, 0, [], n⟩
def byteT (n : Int) : Tok := ⟨4, 0, [], n⟩
def markT (s : B) : Tok := if Go.Lx.key s then keyT s else symT s
def operT (o : Int) : Tok := markT (wordP o).1
def par (k : Int) : Bool := (((k == 6) || (k == 7)) || (k == 8)) || (k == 9)
def opndP (p : Bool × List Tok) : List Tok := if p.1 then symT [40] :: (p.2 ++ [symT [41]]) else p.2
def wr (k o t n : Int) (s : B) (ws : List (Bool × List Tok)) : List Tok :=
  if k = 1 then [numT n] else if k = 2 then [byteT n] else if k = 3 then (if n = 0 then [markT [70, 65, 76, 83, 69]] else [markT [84, 82, 85, 69]])
  else if k = 4 then [nameT s] else if k = 9 then [markT [83, 73, 90, 69], nameT s] else if k = 5 then nameT s :: symT [91] :: ((ws.getD 0 (false, [])).2 ++ [symT [93]])
  else if k = 6 then operT o :: opndP (ws.getD 0 (false, [])) else if k = 8 then markT (primP t) :: opndP (ws.getD 0 (false, []))
  else opndP (ws.getD 0 (false, [])) ++ operT o :: opndP (ws.getD 1 (false, []))
mutual
def writeE : Ex → List Tok
  | .mk k o t n s _ _ l => wr k o t n s (writeL l)
def writeL : List Ex → List (Bool × List Tok)
  | [] => []
  | x :: r => (par x.k, writeE x) :: writeL r
end
def opndE (e : Ex) : List Tok := opndP (par e.k, writeE e)
theorem writeE_eq (e : Ex) : writeE e = wr e.k e.o e.t e.n e.s (writeL e.l) := by cases e; rfl
/-- What May asks of each part. -/
inductive Fine : Ex → Prop
  | mk {e : Ex} (h1 : (partsP e).2 = true) (h2 : (e.l.length : Int) = (partsP e).1) (h3 : ∀ x ∈ e.l, Fine x) : Fine e
theorem Fine.ok {e : Ex} (g : Fine e) : (partsP e).2 = true := by cases g; assumption
theorem Fine.num {e : Ex} (g : Fine e) : (e.l.length : Int) = (partsP e).1 := by cases g; assumption
theorem Fine.part {e x : Ex} (g : Fine e) (hx : x ∈ e.l) : Fine x := by cases g with | mk h1 h2 h3 => exact h3 x hx
theorem visit_good (e : Ex) : ∀ (deep left q : Int), visitE deep left e = some q → Fine e ∧ (cntE e : Int) = left - q := by
  refine Ex.ind (p := fun e => ∀ (deep left q : Int), visitE deep left e = some q → Fine e ∧ (cntE e : Int) = left - q) (fun e ih deep left q hq => ?_) e
  rw [visitE_eq] at hq
  split at hq
  · cases hq
  · rename_i hh
    have hb := head_no (by simpa using hh)
    have key : ∀ (l : List Ex), (∀ x ∈ l, x ∈ e.l) → ∀ z, visitL (deep + 1) z l = some q → (∀ x ∈ l, Fine x) ∧ (cntL l : Int) = z - q := by
      intro l
      induction l with
      | nil =>
        intro _ z h
        cases h
        exact ⟨fun x hx => (List.not_mem_nil hx).elim, by simp [cntL]⟩
      | cons x r ihr =>
        intro hm z h
        unfold visitL at h
        split at h
        · rename_i p hp
          have h1 := ih x (hm x (by simp)) _ _ _ hp
          have h2 := ihr (fun y hy => hm y (by simp [hy])) p h
          refine ⟨fun y hy => ?_, by unfold cntL; omega⟩
          rcases List.mem_cons.1 hy with rfl | hy
          · exact h1.1
          · exact h2.1 y hy
        · cases h
    have hk := key e.l (fun _ h => h) (left - 1) hq
    have hc := cntE_eq e
    exact ⟨.mk hb.1.1 hb.2.2 hk.1, by omega⟩
theorem may_good {e : Ex} (h : mayE e = true) : Fine e ∧ cntE e ≤ 256 := by
  obtain ⟨q, hq⟩ := Option.isSome_iff_exists.1 h
  have h1 := visit_good e 1 256 q hq
  have h2 := visit_rng e 1 256 q (by decide) hq
  exact ⟨h1.1, by omega⟩
theorem good_kind {e : Ex} (g : Fine e) : e.k = 1 ∨ e.k = 2 ∨ e.k = 3 ∨ e.k = 4 ∨ e.k = 9 ∨ e.k = 5 ∨ e.k = 6 ∨ e.k = 7 ∨ e.k = 8 := by
  have h := g.ok
  unfold partsP at h
  by_cases h1 : e.k = 1
  · simp [h1]
  by_cases h2 : e.k = 2
  · simp [h2]
  by_cases h3 : e.k = 3
  · simp [h3]
  by_cases h4 : e.k = 4
  · simp [h4]
  by_cases h9 : e.k = 9
  · simp [h9]
  by_cases h5 : e.k = 5
  · simp [h5]
  by_cases h6 : e.k = 6
  · simp [h6]
  by_cases h7 : e.k = 7
  · simp [h7]
  by_cases h8 : e.k = 8
  · simp [h8]
  simp [h1, h2, h3, h4, h5, h6, h7, h8, h9] at h
theorem good_bool {e : Ex} (hn : -2147483648 ≤ e.n ∧ e.n ≤ 2147483647) (g : Fine e) (h : e.k = 3) : e.n = 0 ∨ e.n = 1 := by
  have h1 := g.ok
  unfold partsP at h1
  simp only [h] at h1
  by_cases hb : bshr .i32 e.n 1 = 0
  · have := (shr1 hn).1 hb
    omega
  · simp [hb] at h1
theorem one_part {e : Ex} (g : Fine e) (h : e.k = 5 ∨ e.k = 6 ∨ e.k = 8) : ∃ x, e.l = [x] := by
  have h1 := g.ok
  have h2 := g.num
  have : (partsP e).1 = 1 := by
    unfold partsP at h1 ⊢
    rcases h with h | h | h <;> simp only [h] at h1 ⊢ <;> (revert h1; simp) <;> split <;> simp
  rw [this] at h2
  match hl : e.l with
  | [x] => exact ⟨x, rfl⟩
  | [] => rw [hl] at h2; simp at h2
  | _ :: _ :: _ => rw [hl] at h2; simp at h2; omega
theorem two_parts {e : Ex} (g : Fine e) (h : e.k = 7) : ∃ x y, e.l = [x, y] := by
  have h1 := g.ok
  have h2 := g.num
  have : (partsP e).1 = 2 := by
    unfold partsP at h1 ⊢
    simp only [h] at h1 ⊢
    revert h1
    simp
    split <;> simp
  rw [this] at h2
  match hl : e.l with
  | [x, y] => exact ⟨x, y, rfl⟩
  | [] => rw [hl] at h2; simp at h2
  | [_] => rw [hl] at h2; simp at h2
  | _ :: _ :: _ :: _ => rw [hl] at h2; simp at h2; omega
theorem opnd_len (p : Bool × List Tok) : (opndP p).length ≤ p.2.length + 2 := by
  unfold opndP
  split <;> simp
theorem write_len (e : Ex) (g : Fine e) : (writeE e).length ≤ 5 * cntE e - 2 := by
  revert g
  refine Ex.ind (p := fun e => Fine e → (writeE e).length ≤ 5 * cntE e - 2) (fun e ih g => ?_) e
  rw [writeE_eq]
  have hc := cntE_eq e
  rcases good_kind g with h | h | h | h | h | h | h | h | h
  · simp [wr, h]; omega
  · simp [wr, h]; omega
  · simp only [wr, h]
    simp
    split <;> simp <;> omega
  · simp [wr, h]; omega
  · simp [wr, h]; omega
  · obtain ⟨x, hx⟩ := one_part g (.inl h)
    have := ih x (by simp [hx]) (g.part (by simp [hx]))
    have hcx := cntE_eq x
    rw [hx] at hc
    simp [cntL] at hc
    simp [wr, h, hx, writeL]
    omega
  · obtain ⟨x, hx⟩ := one_part g (.inr (.inl h))
    have := ih x (by simp [hx]) (g.part (by simp [hx]))
    have h2 := opnd_len (par x.k, writeE x)
    have hcx := cntE_eq x
    rw [hx] at hc
    simp [cntL] at hc
    simp [wr, h, hx, writeL] at h2 ⊢
    omega
  · obtain ⟨x, y, hx⟩ := two_parts g h
    have h1 := ih x (by simp [hx]) (g.part (by simp [hx]))
    have h2 := ih y (by simp [hx]) (g.part (by simp [hx]))
    have h3 := opnd_len (par x.k, writeE x)
    have h4 := opnd_len (par y.k, writeE y)
    have hcx := cntE_eq x
    have hcy := cntE_eq y
    rw [hx] at hc
    simp [cntL] at hc
    simp [wr, h, hx, writeL] at h3 h4 ⊢
    omega
  · obtain ⟨x, hx⟩ := one_part g (.inr (.inr h))
    have := ih x (by simp [hx]) (g.part (by simp [hx]))
    have h2 := opnd_len (par x.k, writeE x)
    have hcx := cntE_eq x
    rw [hx] at hc
    simp [cntL] at hc
    simp [wr, h, hx, writeL] at h2 ⊢
    omega
end Go.Xp

/- expr: reading, in plain Lean. -/
namespace Go.Xp
open Go.Eng Go
open Go.Ty (Tok encK)
open Go.Lx (mayK)
instance : DecidableEq Tok := fun t u => decidable_of_iff (Go.Ty.eqK t u = true) (Go.Ty.eqK_iff t u)
def zeroT : Tok := ⟨0, 0, [], 0⟩
def nextT : List Tok → Tok
  | [] => zeroT
  | t :: _ => if mayK t then { t with at_ := 0 } else zeroT
abbrev PRes := Except Int (Ex × List Tok)
/-- An expression's shape: no place. -/
def sx (k o t n : Int) (s : B) (l : List Ex) : Ex := .mk k o t n s none 0 l
mutual
def strip : Ex → Ex
  | .mk k o t n s _ _ l => .mk k o t n s none 0 (stripL l)
def stripL : List Ex → List Ex
  | [] => []
  | x :: r => strip x :: stripL r
end
def opF (t : Tok) : Nat → Nat → Nat
  | 0, _ => 0
  | n + 1, o => if t = operT o then o else opF t n (o + 1)
def conv3 (t : Tok) : Nat := if t = markT (primP 1) then 1 else if t = markT (primP 2) then 2 else if t = markT (primP 3) then 3 else 0
def opndQ (ins : B → B → List Tok → PRes) (ts : List Tok) : PRes :=
  let t := nextT ts
  if t.kind = 3 then .ok (sx 1 0 0 t.n [] [], ts.tail) else if t.kind = 4 then .ok (sx 2 0 0 t.n [] [], ts.tail)
  else if t = markT [70, 65, 76, 83, 69] then .ok (sx 3 0 0 0 [] [], ts.tail) else if t = markT [84, 82, 85, 69] then .ok (sx 3 0 0 1 [] [], ts.tail)
  else if t.kind = 1 then (if nextT ts.tail = symT [91] then (match ins [91] [93] ts.tail with
      | .ok (x, r) => .ok (sx 5 0 0 0 t.text [x], r)
      | .error e => .error e) else .ok (sx 4 0 0 0 t.text [], ts.tail))
  else if t = symT [40] then ins [40] [41] ts else .error 100
def unQ (mk : Ex → Ex) (p : PRes) : PRes := match p with
  | .ok (x, r) => .ok (mk x, r)
  | .error e => .error e
def exprQ (ins : B → B → List Tok → PRes) (ts : List Tok) : PRes :=
  let t := nextT ts
  if t = markT [83, 73, 90, 69] then (if (nextT ts.tail).kind = 1 then .ok (sx 9 0 0 0 (nextT ts.tail).text [], ts.tail.tail) else .error 100)
  else if conv3 t ≠ 0 then unQ (fun x => sx 8 0 (conv3 t) 0 [] [x]) (opndQ ins ts.tail)
  else if opF t 4 23 ≠ 0 then unQ (fun x => sx 6 (opF t 4 23) 0 0 [] [x]) (opndQ ins ts.tail)
  else match opndQ ins ts with
    | .error e => .error e
    | .ok (a, r) => if opF (nextT r) 22 1 ≠ 0 then unQ (fun b => sx 7 (opF (nextT r) 22 1) 0 0 [] [a, b]) (opndQ ins r.tail) else .ok (a, r)
def insQ : Nat → B → B → List Tok → PRes
  | 0, _, _, _ => .error 3
  | f + 1, o, s, ts => if nextT ts = symT o then (match exprQ (insQ f) ts.tail with
      | .error e => .error e
      | .ok (x, r) => if nextT r = symT s then .ok (x, r.tail) else .error 100) else .error 100
/-- What the expression in front is, and what stands behind it. -/
def exprP (ts : List Tok) : PRes := exprQ (insQ 32) ts
def frontP (ts : List Tok) : Except Int (Ex × Nat) := match exprP ts with
  | .error e => .error e
  | .ok (x, r) => if mayE x then .ok (x, ts.length - r.length) else .error 3
theorem next_cons (t : Tok) (r : List Tok) : nextT (t :: r) = if mayK t then { t with at_ := 0 } else zeroT := rfl
theorem next_kind {ts : List Tok} (h : (nextT ts).kind ≠ 0) : ts ≠ [] := by
  rintro rfl
  exact h rfl
theorem next_at (ts : List Tok) : (nextT ts).at_ = 0 := by
  cases ts with
  | nil => rfl
  | cons t r =>
    show (if mayK t then { t with at_ := 0 } else zeroT : Tok).at_ = 0
    split <;> rfl
theorem stripL_eq (l : List Ex) : stripL l = l.map strip := by
  induction l with
  | nil => rfl
  | cons x r ih => rw [stripL, ih]; rfl
theorem strip_k (e : Ex) : (strip e).k = e.k := by cases e; rfl
theorem mark_kind (s : B) : (markT s).kind = 2 ∨ (markT s).kind = 5 := by
  unfold markT
  split
  · exact .inl rfl
  · exact .inr rfl
theorem drop_ne {k : Nat} {l : List Tok} (h : l.drop k ≠ []) : k < l.length := by
  rcases Nat.lt_or_ge k l.length with h1 | h1
  · exact h1
  · exact absurd (List.drop_eq_nil_of_le h1) h
theorem opF_kind {t : Tok} : ∀ {n o : Nat}, opF t n o ≠ 0 → t.kind ≠ 0
  | 0, _, h => absurd rfl h
  | n + 1, o, h => by
    unfold opF at h
    split at h
    · rename_i q
      rw [q]
      unfold operT
      rcases mark_kind (wordP o).1 with h | h <;> rw [h] <;> decide
    · exact opF_kind h
theorem opF_le (t : Tok) : ∀ (n o : Nat), opF t n o ≠ 0 → o ≤ opF t n o ∧ opF t n o < o + n
  | 0, _, h => absurd rfl h
  | n + 1, o, h => by
    unfold opF at h ⊢
    split at h
    · rename_i q
      rw [if_pos q]
      omega
    · rename_i q
      rw [if_neg q]
      have := opF_le t n (o + 1) h
      omega
end Go.Xp

/- expr: what does not depend on the place, in plain Lean. -/
namespace Go.Xp
open Go.Eng Go
open Go.Ty (Tok encK)
theorem strip_eq (e : Ex) : strip e = .mk e.k e.o e.t e.n e.s none 0 (e.l.map strip) := by
  cases e with
  | mk k o t n s a c l =>
    rw [strip, stripL_eq]
    rfl
theorem parts_strip (e : Ex) : partsP (strip e) = partsP e := by rw [strip_eq]; rfl
theorem len_strip (e : Ex) : (strip e).l.length = e.l.length := by rw [strip_eq]; exact List.length_map _
theorem head_strip (deep left : Int) (e : Ex) : headE deep left (strip e) = headE deep left e := by
  unfold headE
  rw [parts_strip, len_strip]
theorem l_strip (e : Ex) : (strip e).l = e.l.map strip := by rw [strip_eq]; rfl
theorem visit_strip (e : Ex) : ∀ (deep left : Int), visitE deep left (strip e) = visitE deep left e := by
  refine Ex.ind (p := fun e => ∀ (deep left : Int), visitE deep left (strip e) = visitE deep left e) (fun e ih deep left => ?_) e
  rw [visitE_eq, visitE_eq, head_strip, l_strip]
  have key : ∀ (l : List Ex), (∀ x ∈ l, x ∈ e.l) → ∀ z, visitL (deep + 1) z (l.map strip) = visitL (deep + 1) z l := by
    intro l
    induction l with
    | nil => intro _ z; rfl
    | cons x r ihr =>
      intro hm z
      rw [List.map_cons]
      unfold visitL
      rw [ih x (hm x (by simp))]
      split
      · exact ihr (fun y hy => hm y (by simp [hy])) _
      · rfl
  rw [key e.l fun _ h => h]
theorem may_strip (e : Ex) : mayE (strip e) = mayE e := by unfold mayE; rw [visit_strip]
theorem write_strip (e : Ex) : writeE (strip e) = writeE e := by
  refine Ex.ind (p := fun e => writeE (strip e) = writeE e) (fun e ih => ?_) e
  rw [writeE_eq, writeE_eq, l_strip, strip_eq]
  have key : ∀ (l : List Ex), (∀ x ∈ l, x ∈ e.l) → writeL (l.map strip) = writeL l := by
    intro l
    induction l with
    | nil => intro _; rfl
    | cons x r ihr =>
      intro hm
      rw [List.map_cons]
      unfold writeL
      rw [ih x (hm x (by simp)), strip_k, ihr fun y hy => hm y (by simp [hy])]
  rw [key e.l fun _ h => h]
  rfl
theorem ex_ext {x y : Ex} (hk : x.k = y.k) (ho : x.o = y.o) (ht : x.t = y.t) (hn : x.n = y.n) (hs : x.s = y.s) (ha : x.a = y.a) (hc : x.c = y.c) (hl : x.l = y.l) : x = y := by
  cases x
  cases y
  cases hk
  cases ho
  cases ht
  cases hn
  cases hs
  cases ha
  cases hc
  cases hl
  rfl
theorem same_strip (x : Ex) : ∀ y : Ex, (sameE x y = true ↔ strip x = strip y) := by
  refine Ex.ind (p := fun x => ∀ y : Ex, (sameE x y = true ↔ strip x = strip y)) (fun x ih y => ?_) x
  have key : ∀ (l q : List Ex), (∀ x' ∈ l, x' ∈ x.l) → l.length = q.length → (sameL l q = true ↔ l.map strip = q.map strip) := by
    intro l
    induction l with
    | nil =>
      intro q _ hl
      match q with
      | [] => simp [sameL]
      | _ :: _ => simp at hl
    | cons u r ihr =>
      intro q hm hl
      match q with
      | [] => simp at hl
      | v :: w =>
        have h1 := ih u (hm u (by simp)) v
        have h2 := ihr w (fun z hz => hm z (by simp [hz])) (by simpa using hl)
        unfold sameL
        rw [Bool.and_eq_true, h1, h2, List.map_cons, List.map_cons, List.cons.injEq]
  rw [sameE_eq, strip_eq x, strip_eq y]
  constructor
  · intro h
    rw [Bool.and_eq_true] at h
    obtain ⟨hb, hl⟩ := h
    unfold badE at hb
    simp only [Bool.not_eq_true', Bool.or_eq_false_iff, bne_eq_false_iff_eq] at hb
    obtain ⟨⟨⟨⟨⟨h1, h2⟩, h3⟩, h4⟩, h5⟩, h6⟩ := hb
    have h7 := (key x.l y.l (fun _ h => h) (by omega)).1 hl
    rw [h1, h2, h3, h4, h5, h7]
  · intro h
    injection h with h1 h2 h3 h4 h5 h6 h7 h8
    have h9 : x.l.length = y.l.length := by simpa using congrArg List.length h8
    have h10 := (key x.l y.l (fun _ h => h) h9).2 h8
    rw [h10]
    unfold badE
    rw [h1, h2, h3, h4, h5, h9]
    simp
theorem wf_strip {e : Ex} (h : Wf e) : Wf (strip e) := by
  induction h with
  | mk hk ho ht hn hs _ ih =>
    rw [strip, stripL_eq]
    exact .mk hk ho ht hn hs fun y hy => by
      obtain ⟨z, hz, rfl⟩ := List.mem_map.1 hy
      exact ih z hz
def zeroE : Ex := .mk 0 0 0 0 [] none 0 []
def frontX (ts : List Tok) : Ex := match frontP ts with
  | .ok (x, _) => x
  | .error _ => zeroE
def frontN (ts : List Tok) : Nat := match frontP ts with
  | .ok (_, k) => k
  | .error _ => 0
def frontE (ts : List Tok) : Int := match frontP ts with
  | .ok _ => 0
  | .error e => e
def tokP (e : Ex) : List Tok := if mayE e then writeE e else []
def tokErr (e : Ex) : Int := if mayE e then 0 else 2
theorem tok_strip (e : Ex) : tokP (strip e) = tokP e := by unfold tokP; rw [may_strip, write_strip]
theorem mark_at (s : B) : (markT s).at_ = 0 := by unfold markT; split <;> rfl
theorem opnd_at {p : Bool × List Tok} (h : ∀ t ∈ p.2, t.at_ = 0) : ∀ t ∈ opndP p, t.at_ = 0 := by
  unfold opndP
  split
  · intro t ht
    rcases List.mem_cons.1 ht with rfl | ht
    · rfl
    · rcases List.mem_append.1 ht with ht | ht
      · exact h t ht
      · rw [List.mem_singleton] at ht
        subst ht
        rfl
  · exact h
set_option maxRecDepth 100000 in
theorem wr_at0 {k o t n : Int} {s : B} {ws : List (Bool × List Tok)} (h : ∀ i, ∀ u ∈ (ws.getD i (false, [])).2, u.at_ = 0) : ∀ u ∈ wr k o t n s ws, u.at_ = 0 := by
  have h0 := opnd_at (h 0)
  have h1 := opnd_at (h 1)
  intro u hu
  unfold wr at hu
  split at hu
  · simp at hu; subst hu; rfl
  split at hu
  · simp at hu; subst hu; rfl
  split at hu
  · split at hu <;> (rw [List.mem_singleton] at hu; subst hu; exact mark_at _)
  split at hu
  · simp at hu; subst hu; rfl
  split at hu
  · rcases List.mem_cons.1 hu with rfl | hu
    · exact mark_at _
    · rw [List.mem_singleton] at hu
      subst hu
      rfl
  split at hu
  · rcases List.mem_cons.1 hu with rfl | hu
    · rfl
    · rcases List.mem_cons.1 hu with rfl | hu
      · rfl
      · rcases List.mem_append.1 hu with hu | hu
        · exact h 0 u hu
        · rw [List.mem_singleton] at hu
          subst hu
          rfl
  split at hu
  · rcases List.mem_cons.1 hu with rfl | hu
    · exact mark_at _
    · exact h0 u hu
  split at hu
  · rcases List.mem_cons.1 hu with rfl | hu
    · exact mark_at _
    · exact h0 u hu
  · rcases List.mem_append.1 hu with hu | hu
    · exact h0 u hu
    · rcases List.mem_cons.1 hu with rfl | hu
      · exact mark_at _
      · exact h1 u hu
theorem writeL_get (l : List Ex) (i : Nat) : ((writeL l).getD i (false, [])).2 = match l[i]? with | some x => writeE x | none => [] := by
  induction l generalizing i with
  | nil => rfl
  | cons x r ih =>
    cases i with
    | zero => rfl
    | succ i => exact ih i
theorem write_at (e : Ex) : ∀ u ∈ writeE e, u.at_ = 0 := by
  refine Ex.ind (p := fun e => ∀ u ∈ writeE e, u.at_ = 0) (fun e ih => ?_) e
  rw [writeE_eq]
  refine wr_at0 fun i => ?_
  rw [writeL_get]
  cases hx : e.l[i]? with
  | none => exact fun u hu => (List.not_mem_nil hu).elim
  | some x => exact ih x (List.mem_of_getElem? hx)
theorem tok_at (e : Ex) : ∀ u ∈ tokP e, u.at_ = 0 := by
  unfold tokP
  split
  · exact write_at e
  · exact fun u hu => (List.not_mem_nil hu).elim
end Go.Xp

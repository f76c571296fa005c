/- expr: trees, in plain Lean. -/
import Derived.Test.YtheejlbhmbbdjaaDoorEng18
import Derived.Test.YtheejlbhmbbdjaaDoorLexM
namespace Go.Xp
open Go.Eng
abbrev B := List UInt8
/-- An expression as it lies in memory: kind, operator, type, number, text; the parts' place, room and parts. -/
inductive Ex where
  | mk (k o t n : Int) (s : B) (a : Option Addr) (c : Nat) (l : List Ex)
namespace Ex
def k : Ex → Int | mk k _ _ _ _ _ _ _ => k
def o : Ex → Int | mk _ o _ _ _ _ _ _ => o
def t : Ex → Int | mk _ _ t _ _ _ _ _ => t
def n : Ex → Int | mk _ _ _ n _ _ _ _ => n
def s : Ex → B | mk _ _ _ _ s _ _ _ => s
def a : Ex → Option Addr | mk _ _ _ _ _ a _ _ => a
def c : Ex → Nat | mk _ _ _ _ _ _ c _ => c
def l : Ex → List Ex | mk _ _ _ _ _ _ _ l => l
end Ex
def exE (e : Ex) : List Value := [.int .u8 e.k, .int .u8 e.o, .int .u8 e.t, .int .i32 e.n, str e.s, .slice e.a e.l.length e.c]
theorem exE_len (e : Ex) : (exE e).length = 6 := rfl
def exV (e : Ex) : Value := .agg (exE e).toArray
inductive TOk (m : View) (h : List Res) : Ex → Prop
  | mk {k o t n : Int} {s : B} {a : Option Addr} {c : Nat} {l : List Ex} (hr : Rd m h a l.length c 6 (fl exE l)) (hc : ∀ x ∈ l, TOk m h x) : TOk m h (.mk k o t n s a c l)
theorem TOk.rd {m : View} {h : List Res} {e : Ex} (q : TOk m h e) : Rd m h e.a e.l.length e.c 6 (fl exE e.l) := by cases q; assumption
theorem TOk.part {m : View} {h : List Res} {e x : Ex} (q : TOk m h e) (hx : x ∈ e.l) : TOk m h x := by cases q with | mk hr hc => exact hc x hx
theorem TOk.mono {m : View} {h h' : List Res} {e : Ex} (q : TOk m h e) (hh : h.Sublist h') : TOk m h' e := by
  induction q with
  | mk hr _ ih => exact .mk (hr.mono (View.le.refl m) hh) ih
/-- What a struct's numbers may be. -/
inductive Wf : Ex → Prop
  | mk {k o t n : Int} {s : B} {a : Option Addr} {c : Nat} {l : List Ex} (hk : 0 ≤ k ∧ k ≤ 255) (ho : 0 ≤ o ∧ o ≤ 255) (ht : 0 ≤ t ∧ t ≤ 255) (hn : -2147483648 ≤ n ∧ n ≤ 2147483647) (hs : s.length ≤ 140737488355328) (hc : ∀ x ∈ l, Wf x) : Wf (.mk k o t n s a c l)
theorem Wf.spec {e : Ex} (q : Wf e) : ((0 ≤ e.k ∧ e.k ≤ 255) ∧ (0 ≤ e.o ∧ e.o ≤ 255) ∧ (0 ≤ e.t ∧ e.t ≤ 255)) ∧ ((-2147483648 ≤ e.n ∧ e.n ≤ 2147483647) ∧ e.s.length ≤ 140737488355328) := by
  cases q with | mk hk ho ht hn hs hc => exact ⟨⟨hk, ho, ht⟩, hn, hs⟩
theorem Wf.part {e x : Ex} (q : Wf e) (hx : x ∈ e.l) : Wf x := by cases q with | mk hk ho ht hn hs hc => exact hc x hx
theorem Ex.ind {p : Ex → Prop} (h : ∀ e : Ex, (∀ x ∈ e.l, p x) → p e) (e : Ex) : p e :=
  Ex.rec (motive_1 := p) (motive_2 := fun l => ∀ x ∈ l, p x) (fun k o t n s a c l ih => h (.mk k o t n s a c l) ih) (fun _ hx => by cases hx)
    (fun y r hy hr x hx => by
      rcases List.mem_cons.1 hx with rfl | hx
      · exact hy
      · exact hr x hx) e
mutual
def cntE : Ex → Nat
  | .mk _ _ _ _ _ _ _ l => 1 + cntL l
def cntL : List Ex → Nat
  | [] => 0
  | x :: r => cntE x + cntL r
end
theorem cntE_eq (e : Ex) : cntE e = 1 + cntL e.l := by cases e; rfl
theorem cnt_mem : ∀ {l : List Ex} {x : Ex}, x ∈ l → cntE x ≤ cntL l
  | y :: r, x, h => by
    unfold cntL
    rcases List.mem_cons.1 h with rfl | h
    · omega
    · have := cnt_mem h
      omega
theorem cnt_len : ∀ l : List Ex, l.length ≤ cntL l
  | [] => Nat.le_refl _
  | x :: r => by
    have := cnt_len r
    unfold cntL
    have := cntE_eq x
    simp only [List.length_cons]
    omega
def ownN (e : Ex) : List B := if (e.k == 4 || e.k == 5) || e.k == 9 then [e.s] else []
mutual
def namesE : Ex → List B
  | .mk k _ _ _ s _ _ l => (if (k == 4 || k == 5) || k == 9 then [s] else []) ++ namesL l
def namesL : List Ex → List B
  | [] => []
  | x :: r => namesE x ++ namesL r
end
theorem cnt_app : ∀ a b : List Ex, cntL (a ++ b) = cntL a + cntL b
  | [], b => by simp [cntL]
  | x :: r, b => by
    have := cnt_app r b
    simp only [List.cons_append, cntL, this]
    omega
theorem take_at {α : Type} {l : List α} {k : Nat} {c : α} (hc : l[k]? = some c) : l.take (k + 1) = l.take k ++ [c] := by rw [List.take_add_one, hc]; rfl
theorem cnt_take {l : List Ex} {k : Nat} {x : Ex} (hx : l[k]? = some x) : cntL (l.take (k + 1)) = cntL (l.take k) + cntE x := by
  rw [take_at hx, cnt_app]
  simp [cntL]
theorem cnt_take_le (l : List Ex) (k : Nat) : cntL (l.take k) ≤ cntL l := by
  have := cnt_app (l.take k) (l.drop k)
  rw [List.take_append_drop] at this
  omega
theorem names_app : ∀ a b : List Ex, namesL (a ++ b) = namesL a ++ namesL b
  | [], b => by simp [namesL]
  | x :: r, b => by simp only [List.cons_append, namesL, names_app r b, List.append_assoc]
theorem names_take {l : List Ex} {k : Nat} {x : Ex} (hx : l[k]? = some x) : namesL (l.take (k + 1)) = namesL (l.take k) ++ namesE x := by
  rw [take_at hx, names_app]
  simp [namesL]
theorem names_len (e : Ex) : (namesE e).length ≤ cntE e := by
  refine Ex.ind (p := fun e => (namesE e).length ≤ cntE e) (fun e ih => ?_) e
  have hL : ∀ l : List Ex, (∀ x ∈ l, (namesE x).length ≤ cntE x) → (namesL l).length ≤ cntL l := by
    intro l
    induction l with
    | nil => intro _; exact Nat.le_refl _
    | cons x r ihr =>
      intro h
      have h1 := h x (by simp)
      have h2 := ihr fun y hy => h y (by simp [hy])
      unfold namesL cntL
      rw [List.length_append]
      omega
  have := hL e.l ih
  cases e with
  | mk k o t n s a c l =>
    unfold namesE cntE
    rw [List.length_append]
    have h3 : (if (k == 4 || k == 5) || k == 9 then [s] else []).length ≤ 1 := by split <;> simp
    have h4 : (namesL l).length ≤ cntL l := this
    omega
theorem namesE_eq (e : Ex) : namesE e = ownN e ++ namesL e.l := by cases e; rfl
theorem own_len (e : Ex) : (ownN e).length ≤ 1 := by unfold ownN; split <;> simp
theorem namesL_len : ∀ l : List Ex, (namesL l).length ≤ cntL l
  | [] => Nat.le_refl _
  | x :: r => by
    have h1 := names_len x
    have h2 := namesL_len r
    unfold namesL cntL
    rw [List.length_append]
    omega
def badE (x y : Ex) : Bool := ((((((x.k != y.k) || (x.o != y.o)) || (x.t != y.t)) || (x.n != y.n)) || (x.s != y.s)) || ((x.l.length : Int) != y.l.length))
mutual
def sameE : Ex → Ex → Bool
  | .mk k o t n s a c l, y => !badE (.mk k o t n s a c l) y && sameL l y.l
def sameL : List Ex → List Ex → Bool
  | [], _ => true
  | _ :: _, [] => true
  | x :: r, y :: q => sameE x y && sameL r q
end
theorem sameE_eq (x y : Ex) : sameE x y = (!badE x y && sameL x.l y.l) := by cases x; rfl
theorem sameL_at {l q : List Ex} {k : Nat} {x y : Ex} (hx : l[k]? = some x) (hy : q[k]? = some y) : sameL (l.drop k) (q.drop k) = (sameE x y && sameL (l.drop (k + 1)) (q.drop (k + 1))) := by
  rw [show l.drop k = x :: l.drop (k + 1) by
      have h1 : k < l.length := (List.getElem?_eq_some_iff.1 hx).1
      rw [List.drop_eq_getElem_cons h1, (List.getElem?_eq_some_iff.1 hx).2],
    show q.drop k = y :: q.drop (k + 1) by
      have h1 : k < q.length := (List.getElem?_eq_some_iff.1 hy).1
      rw [List.drop_eq_getElem_cons h1, (List.getElem?_eq_some_iff.1 hy).2]]
  rfl
def fin (o t n : Int) (s : B) : Bool := (((o == 0) && (t == 0)) && (n == 0)) && (s == [])
def primP (k : Int) : B := if k = 1 then [73, 78, 84] else if k = 2 then [66, 89, 84, 69] else if k = 3 then [66, 79, 79, 76] else []
def partsP (e : Ex) : Int × Bool :=
  if e.k = 1 then (0, fin e.o e.t 0 e.s)
  else if e.k = 2 then (if bshr .i32 e.n 8 ≠ 0 then (0, false) else (0, fin e.o e.t 0 e.s))
  else if e.k = 3 then (if bshr .i32 e.n 1 ≠ 0 then (0, false) else (0, fin e.o e.t 0 e.s))
  else if e.k = 4 then (if !Go.Lx.name e.s then (0, false) else (0, fin e.o e.t e.n []))
  else if e.k = 9 then (if !Go.Lx.name e.s then (0, false) else (0, fin e.o e.t e.n []))
  else if e.k = 5 then (if !Go.Lx.name e.s then (0, false) else (1, fin e.o e.t e.n []))
  else if e.k = 6 then (if decide (e.o < 23) || decide (IntKind.u8.wrap (e.o - 23) ≥ 4) then (0, false) else (1, fin 0 e.t e.n e.s))
  else if e.k = 7 then (if decide (e.o < 1) || decide (e.o > 22) then (0, false) else (2, fin 0 e.t e.n e.s))
  else if e.k = 8 then (if primP e.t == [] then (0, false) else (1, fin e.o 0 e.n e.s))
  else (0, false)
/-- What the visit hands on: how many nodes are left; none: it fails. -/
def headE (deep left : Int) (e : Ex) : Bool := (((!(partsP e).2 || decide (left - 1 < 0)) || decide (deep > 32)) || ((e.l.length : Int) != (partsP e).1))
mutual
def visitE (deep left : Int) : Ex → Option Int
  | .mk k o t n s a c l => if headE deep left (.mk k o t n s a c l) then none else visitL (deep + 1) (left - 1) l
def visitL (deep left : Int) : List Ex → Option Int
  | [] => some left
  | x :: r => match visitE deep left x with
    | some q => visitL deep q r
    | none => none
end
theorem visitE_eq (deep left : Int) (e : Ex) : visitE deep left e = if headE deep left e then none else visitL (deep + 1) (left - 1) e.l := by cases e; rfl
theorem visitL_at {l : List Ex} {k : Nat} {x : Ex} (hx : l[k]? = some x) (deep left : Int) : visitL deep left (l.drop k) = (visitE deep left x).bind fun q => visitL deep q (l.drop (k + 1)) := by
  have h1 : k < l.length := (List.getElem?_eq_some_iff.1 hx).1
  rw [List.drop_eq_getElem_cons h1, (List.getElem?_eq_some_iff.1 hx).2]
  show (match visitE deep left x with | some q => visitL deep q (l.drop (k + 1)) | none => none) = _
  cases visitE deep left x <;> rfl
theorem head_no {deep left : Int} {e : Ex} (h : headE deep left e = false) : ((partsP e).2 = true ∧ 0 ≤ left - 1) ∧ deep ≤ 32 ∧ (e.l.length : Int) = (partsP e).1 := by
  unfold headE at h
  simp only [Bool.or_eq_false_iff, Bool.not_eq_false', decide_eq_false_iff_not, bne_eq_false_iff_eq] at h
  obtain ⟨⟨⟨h1, h2⟩, h3⟩, h4⟩ := h
  exact ⟨⟨h1, by omega⟩, by omega, h4⟩
theorem visit_rng (e : Ex) : ∀ (deep left q : Int), 0 ≤ left → visitE deep left e = some q → 0 ≤ q ∧ q ≤ left - 1 := by
  refine Ex.ind (p := fun e => ∀ (deep left q : Int), 0 ≤ left → visitE deep left e = some q → 0 ≤ q ∧ q ≤ left - 1) (fun e ih deep left q hl hq => ?_) e
  rw [visitE_eq] at hq
  split at hq
  · cases hq
  · rename_i hh
    have hb := head_no (by simpa using hh)
    have key : ∀ (l : List Ex), (∀ x ∈ l, x ∈ e.l) → ∀ z, 0 ≤ z → visitL (deep + 1) z l = some q → 0 ≤ q ∧ q ≤ z := by
      intro l
      induction l with
      | nil => intro _ z hz h; cases h; omega
      | cons x r ihr =>
        intro hm z hz h
        unfold visitL at h
        split at h
        · rename_i p hp
          have h1 := ih x (hm x (by simp)) _ _ _ hz hp
          have h2 := ihr (fun y hy => hm y (by simp [hy])) p h1.1 h
          omega
        · cases h
    exact key e.l (fun _ h => h) (left - 1) (by omega) hq
def mayE (e : Ex) : Bool := (visitE 1 256 e).isSome
def wordsL : List B := [[], [43], [45], [42], [47], [92], [80, 76, 85, 83], [77, 73, 78, 85, 83], [84, 73, 77, 69, 83], [47, 92], [92, 47], [62, 60], [60, 60], [62, 62], [61], [60, 62], [60], [62], [60, 61], [62, 61], [65, 78, 68], [79, 82], [65, 70, 84, 69, 82], [45], [77, 73, 78, 85, 83], [126], [78, 79, 84]]
def wordP (o : Int) : B × Bool := if o == 0 || decide (o ≥ 27) then ([], false) else (wordsL.getD o.toNat [], true)
theorem drop_at {α : Type} {l : List α} {k : Nat} {c : α} (hc : l[k]? = some c) : l.drop k = c :: l.drop (k + 1) := by
  have h1 : k < l.length := (List.getElem?_eq_some_iff.1 hc).1
  rw [List.drop_eq_getElem_cons h1, (List.getElem?_eq_some_iff.1 hc).2]
end Go.Xp

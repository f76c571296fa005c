/- expr: what is written is read again, in plain Lean. -/
import Derived.Test.YtheejlbhmbbdjaaDoorExpN
import Derived.Test.YtheejlbhmbbdjaaDoorLexXm
namespace Go.Xp
open Go.Eng Go
open Go.Ty (Tok encK)
open Go.Lx (mayK)
set_option maxRecDepth 100000
/-- Nothing in front continues an expression. -/
def NoBr (ts : List Tok) : Prop := nextT ts ≠ symT [91]
def NoOp (ts : List Tok) : Prop := opF (nextT ts) 22 1 = 0
theorem next_val {t : Tok} {r : List Tok} (h : mayK t = true) (ha : t.at_ = 0) : nextT (t :: r) = t := by
  rw [next_cons, if_pos h]
  cases t
  cases ha
  rfl
theorem opndQ_at {ins : B → B → List Tok → PRes} {ts : List Tok} {t : Tok} (h : nextT ts = t) : opndQ ins ts = if t.kind = 3 then .ok (sx 1 0 0 t.n [] [], ts.tail) else if t.kind = 4 then .ok (sx 2 0 0 t.n [] [], ts.tail)
  else if t = markT [70, 65, 76, 83, 69] then .ok (sx 3 0 0 0 [] [], ts.tail) else if t = markT [84, 82, 85, 69] then .ok (sx 3 0 0 1 [] [], ts.tail)
  else if t.kind = 1 then (if nextT ts.tail = symT [91] then (match ins [91] [93] ts.tail with
      | .ok (x, r) => .ok (sx 5 0 0 0 t.text [x], r)
      | .error e => .error e) else .ok (sx 4 0 0 0 t.text [], ts.tail))
  else if t = symT [40] then ins [40] [41] ts else .error 100 := by subst h; rfl
theorem exprQ_at {ins : B → B → List Tok → PRes} {ts : List Tok} {t : Tok} (h : nextT ts = t) : exprQ ins ts = if t = markT [83, 73, 90, 69] then (if (nextT ts.tail).kind = 1 then .ok (sx 9 0 0 0 (nextT ts.tail).text [], ts.tail.tail) else .error 100)
  else if conv3 t ≠ 0 then unQ (fun x => sx 8 0 (conv3 t) 0 [] [x]) (opndQ ins ts.tail)
  else if opF t 4 23 ≠ 0 then unQ (fun x => sx 6 (opF t 4 23) 0 0 [] [x]) (opndQ ins ts.tail)
  else match opndQ ins ts with
    | .error e => .error e
    | .ok (a, r) => if opF (nextT r) 22 1 ≠ 0 then unQ (fun b => sx 7 (opF (nextT r) 22 1) 0 0 [] [a, b]) (opndQ ins r.tail) else .ok (a, r) := by subst h; rfl
inductive Dp : Nat → Ex → Prop
  | mk {n : Nat} {e : Ex} (h : ∀ x ∈ e.l, Dp n x) : Dp (n + 1) e
theorem Dp.part {n : Nat} {e x : Ex} (d : Dp (n + 1) e) (hx : x ∈ e.l) : Dp n x := by cases d with | mk h => exact h x hx
theorem Dp.pos {n : Nat} {e : Ex} (d : Dp n e) : ∃ k, n = k + 1 := by cases d; exact ⟨_, rfl⟩
theorem Dp.up {e : Ex} : ∀ {n : Nat}, Dp n e → Dp (n + 1) e := by
  refine Ex.ind (p := fun e => ∀ {n : Nat}, Dp n e → Dp (n + 1) e) (fun e ih n d => ?_) e
  obtain ⟨k, rfl⟩ := d.pos
  exact .mk fun x hx => ih x hx (d.part hx)
theorem visit_dp (e : Ex) : ∀ (deep left q : Int), 1 ≤ deep → visitE deep left e = some q → Dp (33 - deep).toNat e := by
  refine Ex.ind (p := fun e => ∀ (deep left q : Int), 1 ≤ deep → visitE deep left e = some q → Dp (33 - deep).toNat e) (fun e ih deep left q h1 hq => ?_) e
  rw [visitE_eq] at hq
  split at hq
  · cases hq
  · rename_i hh
    have hb := head_no (by simpa using hh)
    have key : ∀ (l : List Ex), (∀ x ∈ l, x ∈ e.l) → ∀ z, visitL (deep + 1) z l = some q → ∀ x ∈ l, Dp (33 - (deep + 1)).toNat x := by
      intro l
      induction l with
      | nil => intro _ z _ x hx; cases hx
      | cons y r ihr =>
        intro hm z h x hx
        unfold visitL at h
        split at h
        · rename_i p hp
          rcases List.mem_cons.1 hx with rfl | hx
          · exact ih x (hm x (by simp)) _ _ _ (by omega) hp
          · exact ihr (fun y hy => hm y (by simp [hy])) p h x hx
        · cases h
    obtain ⟨k, hk⟩ : ∃ k, (33 - deep).toNat = k + 1 := ⟨(33 - (deep + 1)).toNat, by omega⟩
    rw [hk]
    refine .mk fun x hx => ?_
    have := key e.l (fun _ h => h) _ hq x hx
    rwa [show (33 - (deep + 1)).toNat = k by omega] at this
theorem may_dp {e : Ex} (h : mayE e = true) : Dp 32 e := by
  obtain ⟨q, hq⟩ := Option.isSome_iff_exists.1 h
  exact visit_dp e 1 256 q (by decide) hq
/-- A token with which an operand begins. -/
def Start (t : Tok) : Prop := t.kind = 1 ∨ t.kind = 3 ∨ t.kind = 4 ∨ t = markT [70, 65, 76, 83, 69] ∨ t = markT [84, 82, 85, 69] ∨ t = symT [40]
theorem start_no {t : Tok} (h : Start t) : t ≠ markT [83, 73, 90, 69] ∧ conv3 t = 0 ∧ opF t 4 23 = 0 := by
  have key : t.kind = 1 ∨ t.kind = 3 ∨ t.kind = 4 → t ≠ markT [83, 73, 90, 69] ∧ conv3 t = 0 ∧ opF t 4 23 = 0 := by
    intro hk
    have hm : ∀ s, t ≠ markT s := by
      rintro s rfl
      have := mark_kind s
      omega
    have ho : ∀ o, t ≠ operT o := fun o => hm _
    refine ⟨hm _, ?_, ?_⟩
    · unfold conv3
      rw [if_neg (hm _), if_neg (hm _), if_neg (hm _)]
    · simp only [opF, if_neg (ho _)]
  rcases h with h | h | h | rfl | rfl | rfl
  · exact key (.inl h)
  · exact key (.inr (.inl h))
  · exact key (.inr (.inr h))
  · decide +kernel
  · decide +kernel
  · decide +kernel
theorem may_num (n : Int) : mayK (numT n) = true := rfl
theorem may_byte {n : Int} (h : 0 ≤ n ∧ n ≤ 255) : mayK (byteT n) = true := by
  unfold mayK byteT
  simp
  omega
theorem may_name {s : B} (h : Go.Lx.name s = true) : mayK (nameT s) = true := by
  unfold mayK nameT
  simp [h]
theorem may_oper : ∀ o, o < 27 → 1 ≤ o → mayK (operT (o : Nat)) = true := by decide +kernel
theorem may_operI {o : Int} (h : 1 ≤ o ∧ o ≤ 26) : mayK (operT o) = true := by
  have := may_oper o.toNat (by omega) (by omega)
  rwa [show ((o.toNat : Nat) : Int) = o by omega] at this
theorem oper_at (o : Int) : (operT o).at_ = 0 := mark_at _
theorem op_mon : ∀ o, o < 27 → 23 ≤ o → (operT (o : Nat) ≠ markT [83, 73, 90, 69]) ∧ conv3 (operT (o : Nat)) = 0 ∧ opF (operT (o : Nat)) 4 23 = o := by decide +kernel
theorem op_dya : ∀ o, o < 23 → 1 ≤ o → opF (operT (o : Nat)) 22 1 = o ∧ operT (o : Nat) ≠ symT [91] := by decide +kernel
theorem op_conv : ∀ k, k < 4 → 1 ≤ k → mayK (markT (primP (k : Nat))) = true ∧ markT (primP (k : Nat)) ≠ markT [83, 73, 90, 69] ∧ conv3 (markT (primP (k : Nat))) = k := by decide +kernel
theorem noBr_sym {s : B} {r : List Tok} (h : mayK (symT s) = true) (hs : s ≠ [91]) : NoBr (symT s :: r) := by
  unfold NoBr
  rw [next_val h rfl]
  intro q
  exact hs (congrArg Tok.text q)
theorem noOp_93 (r : List Tok) : NoOp (symT [93] :: r) := by
  unfold NoOp
  rw [next_val (by decide +kernel) rfl]
  decide +kernel
theorem noOp_41 (r : List Tok) : NoOp (symT [41] :: r) := by
  unfold NoOp
  rw [next_val (by decide +kernel) rfl]
  decide +kernel
theorem ins_ok {f : Nat} {o s : B} {ts r : List Tok} {x : Ex} (ho : mayK (symT o) = true) (hs : mayK (symT s) = true) (h : exprQ (insQ f) ts = .ok (x, symT s :: r)) : insQ (f + 1) o s (symT o :: ts) = .ok (x, r) := by
  unfold insQ
  rw [next_val ho rfl, if_pos rfl]
  show (match exprQ (insQ f) ts with | .error e => .error e | .ok (x, r) => if nextT r = symT s then .ok (x, r.tail) else .error 100 : PRes) = _
  rw [h]
  show (if nextT (symT s :: r) = symT s then .ok (x, (symT s :: r).tail) else .error 100 : PRes) = _
  rw [next_val hs rfl, if_pos rfl]
  rfl
section
variable {e : Ex} (hF : Fine e)
include hF
theorem fine_byte (hn : -2147483648 ≤ e.n ∧ e.n ≤ 2147483647) (h : e.k = 2) : 0 ≤ e.n ∧ e.n ≤ 255 := by
  have h1 := hF.ok
  unfold partsP at h1
  simp only [h] at h1
  by_cases hb : bshr .i32 e.n 8 = 0
  · exact (shr8 hn).1 hb
  · simp [hb] at h1
theorem fine_name (h : e.k = 4 ∨ e.k = 5 ∨ e.k = 9) : Go.Lx.name e.s = true := by
  have h1 := hF.ok
  unfold partsP at h1
  cases hb : Go.Lx.name e.s with
  | true => rfl
  | false => rcases h with h | h | h <;> simp [h, hb] at h1
theorem fine_mon (ho : 0 ≤ e.o ∧ e.o ≤ 255) (h : e.k = 6) : 23 ≤ e.o ∧ e.o ≤ 26 := by
  have h1 := hF.ok
  unfold partsP at h1
  simp only [h] at h1
  by_cases h2 : e.o < 23
  · simp [h2] at h1
  · have h3 := wrap_mon (o := e.o) (by omega)
    rw [h3] at h1
    by_cases h4 : e.o - 23 ≥ 4
    · simp [h2, h4] at h1
    · omega
theorem fine_dya (h : e.k = 7) : 1 ≤ e.o ∧ e.o ≤ 22 := by
  have h1 := hF.ok
  unfold partsP at h1
  simp only [h] at h1
  by_cases h2 : e.o < 1
  · simp [h2] at h1
  · by_cases h4 : e.o > 22
    · simp [h2, h4] at h1
    · omega
theorem fine_conv (h : e.k = 8) : 1 ≤ e.t ∧ e.t ≤ 3 := by
  have h1 := hF.ok
  unfold partsP at h1
  simp only [h] at h1
  by_cases h2 : e.t = 1
  · omega
  by_cases h3 : e.t = 2
  · omega
  by_cases h4 : e.t = 3
  · omega
  simp [primP, h2, h3, h4] at h1
/-- All fields that a kind does not use are empty. -/
theorem fine_leaf (h : e.k = 1 ∨ e.k = 2 ∨ e.k = 3 ∨ e.k = 4 ∨ e.k = 9) : e.l = [] := by
  have h1 := hF.ok
  have h2 := hF.num
  have : (partsP e).1 = 0 := by
    unfold partsP at h1 ⊢
    rcases h with h | h | h | h | h <;> simp only [h] at h1 ⊢ <;> (revert h1; simp) <;> split <;> simp
  rw [this] at h2
  match hl : e.l with
  | [] => rfl
  | _ :: _ => rw [hl] at h2; simp at h2; omega
end
/-- A fine expression's fields, by kind. -/
theorem fine_strip {e : Ex} (hF : Fine e) : strip e = (if e.k = 1 then sx 1 0 0 e.n [] [] else if e.k = 2 then sx 2 0 0 e.n [] [] else if e.k = 3 then sx 3 0 0 e.n [] [] else if e.k = 4 then sx 4 0 0 0 e.s []
    else if e.k = 9 then sx 9 0 0 0 e.s [] else if e.k = 5 then sx 5 0 0 0 e.s (e.l.map strip) else if e.k = 6 then sx 6 e.o 0 0 [] (e.l.map strip) else if e.k = 7 then sx 7 e.o 0 0 [] (e.l.map strip) else sx 8 0 e.t 0 [] (e.l.map strip)) := by
  have h1 := hF.ok
  have hl := fine_leaf hF
  rw [strip_eq]
  unfold partsP at h1
  rcases good_kind hF with h | h | h | h | h | h | h | h | h
  · simp only [h] at h1 ⊢
    rw [hl (by omega)]
    simp [fin] at h1
    simp [sx, h1]
  · simp only [h] at h1 ⊢
    rw [hl (by omega)]
    revert h1
    simp only [show ¬ ((2 : Int) = 1) by decide, if_false, if_true]
    split
    · intro h1; cases h1
    · intro h1
      simp [fin] at h1
      simp [sx, h1]
  · simp only [h] at h1 ⊢
    rw [hl (by omega)]
    revert h1
    simp only [show ¬ ((3 : Int) = 1) by decide, show ¬ ((3 : Int) = 2) by decide, if_false, if_true]
    split
    · intro h1; cases h1
    · intro h1
      simp [fin] at h1
      simp [sx, h1]
  · simp only [h] at h1 ⊢
    rw [hl (by omega)]
    revert h1
    cases Go.Lx.name e.s
    · simp
    · intro h1
      simp [fin] at h1
      simp [sx, h1]
  · simp only [h] at h1 ⊢
    rw [hl (by omega)]
    revert h1
    cases Go.Lx.name e.s
    · simp
    · intro h1
      simp [fin] at h1
      simp [sx, h1]
  · simp only [h] at h1 ⊢
    revert h1
    cases Go.Lx.name e.s
    · simp
    · intro h1
      simp [fin] at h1
      simp [sx, h1]
  · simp only [h] at h1 ⊢
    revert h1
    simp only [show ¬ ((6 : Int) = 1) by decide, show ¬ ((6 : Int) = 2) by decide, show ¬ ((6 : Int) = 3) by decide, show ¬ ((6 : Int) = 4) by decide, show ¬ ((6 : Int) = 9) by decide, show ¬ ((6 : Int) = 5) by decide, if_false, if_true]
    split
    · intro h1; cases h1
    · intro h1
      simp [fin] at h1
      simp [sx, h1]
  · simp only [h] at h1 ⊢
    revert h1
    simp only [show ¬ ((7 : Int) = 1) by decide, show ¬ ((7 : Int) = 2) by decide, show ¬ ((7 : Int) = 3) by decide, show ¬ ((7 : Int) = 4) by decide, show ¬ ((7 : Int) = 9) by decide, show ¬ ((7 : Int) = 5) by decide, show ¬ ((7 : Int) = 6) by decide, if_false, if_true]
    split
    · intro h1; cases h1
    · intro h1
      simp [fin] at h1
      simp [sx, h1]
  · simp only [h] at h1 ⊢
    revert h1
    simp only [show ¬ ((8 : Int) = 1) by decide, show ¬ ((8 : Int) = 2) by decide, show ¬ ((8 : Int) = 3) by decide, show ¬ ((8 : Int) = 4) by decide, show ¬ ((8 : Int) = 9) by decide, show ¬ ((8 : Int) = 5) by decide, show ¬ ((8 : Int) = 6) by decide, show ¬ ((8 : Int) = 7) by decide, if_false, if_true]
    split
    · intro h1; cases h1
    · intro h1
      simp [fin] at h1
      simp [sx, h1]
/-- The token in front of an operand. -/
theorem opnd_start {e : Ex} (hF : Fine e) (hn : -2147483648 ≤ e.n ∧ e.n ≤ 2147483647) (rest : List Tok) : Start (nextT (opndE e ++ rest)) := by
  rcases good_kind hF with h | h | h | h | h | h | h | h | h
  · rw [show opndE e ++ rest = numT e.n :: rest by unfold opndE opndP par; rw [writeE_eq]; simp [wr, h], next_val (may_num _) rfl]
    exact .inr (.inl rfl)
  · rw [show opndE e ++ rest = byteT e.n :: rest by unfold opndE opndP par; rw [writeE_eq]; simp [wr, h], next_val (may_byte (fine_byte hF hn h)) rfl]
    exact .inr (.inr (.inl rfl))
  · rcases good_bool hn hF h with h0 | h0
    · rw [show opndE e ++ rest = markT [70, 65, 76, 83, 69] :: rest by unfold opndE opndP par; rw [writeE_eq]; simp [wr, h, h0], next_val (by decide +kernel) (mark_at _)]
      exact .inr (.inr (.inr (.inl rfl)))
    · rw [show opndE e ++ rest = markT [84, 82, 85, 69] :: rest by unfold opndE opndP par; rw [writeE_eq]; simp [wr, h, h0], next_val (by decide +kernel) (mark_at _)]
      exact .inr (.inr (.inr (.inr (.inl rfl))))
  · rw [show opndE e ++ rest = nameT e.s :: rest by unfold opndE opndP par; rw [writeE_eq]; simp [wr, h], next_val (may_name (fine_name hF (.inl h))) rfl]
    exact .inl rfl
  · rw [show opndE e ++ rest = symT [40] :: ((writeE e ++ [symT [41]]) ++ rest) by unfold opndE opndP par; simp [h], next_val (by decide +kernel) rfl]
    exact .inr (.inr (.inr (.inr (.inr rfl))))
  · obtain ⟨x, hx⟩ := one_part hF (.inl h)
    rw [show opndE e ++ rest = nameT e.s :: (symT [91] :: (writeE x ++ [symT [93]]) ++ rest) by unfold opndE opndP par; rw [writeE_eq]; simp [wr, h, hx, writeL], next_val (may_name (fine_name hF (.inr (.inl h)))) rfl]
    exact .inl rfl
  · rw [show opndE e ++ rest = symT [40] :: ((writeE e ++ [symT [41]]) ++ rest) by unfold opndE opndP par; simp [h], next_val (by decide +kernel) rfl]
    exact .inr (.inr (.inr (.inr (.inr rfl))))
  · rw [show opndE e ++ rest = symT [40] :: ((writeE e ++ [symT [41]]) ++ rest) by unfold opndE opndP par; simp [h], next_val (by decide +kernel) rfl]
    exact .inr (.inr (.inr (.inr (.inr rfl))))
  · rw [show opndE e ++ rest = symT [40] :: ((writeE e ++ [symT [41]]) ++ rest) by unfold opndE opndP par; simp [h], next_val (by decide +kernel) rfl]
    exact .inr (.inr (.inr (.inr (.inr rfl))))
abbrev RdE (e : Ex) : Prop := ∀ f, Dp (f + 1) e → ∀ rest, NoBr rest → NoOp rest → exprQ (insQ f) (writeE e ++ rest) = .ok (strip e, rest)
abbrev RdO (e : Ex) : Prop := ∀ f, Dp (f + 1) e → (par e.k = true → Dp f e) → ∀ rest, NoBr rest → opndQ (insQ f) (opndE e ++ rest) = .ok (strip e, rest)
theorem expr_start {f : Nat} {ts r : List Tok} {x : Ex} (hs : Start (nextT ts)) (ho : opndQ (insQ f) ts = .ok (x, r)) : exprQ (insQ f) ts = if opF (nextT r) 22 1 ≠ 0 then unQ (fun b => sx 7 (opF (nextT r) 22 1) 0 0 [] [x, b]) (opndQ (insQ f) r.tail) else .ok (x, r) := by
  obtain ⟨h1, h2, h3⟩ := start_no hs
  unfold exprQ
  simp only [if_neg h1, h2, h3, ho, ne_eq, not_true, if_false]
theorem par_br {f : Nat} {ts r : List Tok} {x : Ex} (h : insQ f [40] [41] (symT [40] :: ts) = .ok (x, r)) : opndQ (insQ f) (symT [40] :: ts) = .ok (x, r) := by
  rw [opndQ_at (next_val (by decide +kernel) rfl), if_neg (by decide), if_neg (by decide), if_neg (by decide +kernel), if_neg (by decide +kernel), if_neg (by decide), if_pos rfl]
  exact h
theorem read_par {e : Ex} (h : par e.k = true) (hE : RdE e) : RdO e := by
  intro f hd hp rest hb
  obtain ⟨k, rfl⟩ := (hp h).pos
  have he := hE k (hp h) (symT [41] :: rest) (noBr_sym (by decide +kernel) (by decide)) (noOp_41 rest)
  rw [show opndE e ++ rest = symT [40] :: (writeE e ++ symT [41] :: rest) by unfold opndE opndP; rw [h]; simp]
  exact par_br (ins_ok (by decide +kernel) (by decide +kernel) he)
theorem read_lit {e : Ex} (hp : par e.k = false) (hF : Fine e) (hn : -2147483648 ≤ e.n ∧ e.n ≤ 2147483647) (hO : RdO e) : RdE e := by
  intro f hd rest hb ho
  have h1 := hO f hd (fun q => by rw [hp] at q; cases q) rest hb
  have hs := opnd_start hF hn rest
  rw [show writeE e = opndE e by unfold opndE opndP; rw [hp]; rfl, expr_start hs h1, if_neg (fun q => q ho)]
theorem read_all (e : Ex) : Fine e → Wf e → RdE e ∧ RdO e := by
  refine Ex.ind (p := fun e => Fine e → Wf e → RdE e ∧ RdO e) (fun e ih hF hW => ?_) e
  obtain ⟨⟨hk, hor, ht⟩, hn, hs⟩ := hW.spec
  have fs := fine_strip hF
  have lit (hp : par e.k = false) (hO : RdO e) : RdE e ∧ RdO e := ⟨read_lit hp hF hn hO, hO⟩
  have brk (hp : par e.k = true) (hE : RdE e) : RdE e ∧ RdO e := ⟨hE, read_par hp hE⟩
  rcases good_kind hF with h | h | h | h | h | h | h | h | h
  · refine lit (by simp [par, h]) fun f _ _ rest hb => ?_
    rw [show opndE e ++ rest = numT e.n :: rest by unfold opndE opndP par; rw [writeE_eq]; simp [wr, h]]
    rw [opndQ_at (next_val (may_num _) rfl), if_pos (show (numT e.n).kind = 3 from rfl), fs]
    simp [h]
    rfl
  · refine lit (by simp [par, h]) fun f _ _ rest hb => ?_
    rw [show opndE e ++ rest = byteT e.n :: rest by unfold opndE opndP par; rw [writeE_eq]; simp [wr, h]]
    rw [opndQ_at (next_val (may_byte (fine_byte hF hn h)) rfl), if_neg (by show ¬ (4 : Int) = 3; decide), if_pos (show (byteT e.n).kind = 4 from rfl), fs]
    simp [h]
    rfl
  · refine lit (by simp [par, h]) fun f _ _ rest hb => ?_
    rcases good_bool hn hF h with h0 | h0
    · rw [show opndE e ++ rest = markT [70, 65, 76, 83, 69] :: rest by unfold opndE opndP par; rw [writeE_eq]; simp [wr, h, h0]]
      rw [opndQ_at (next_val (by decide +kernel) (mark_at _)), if_neg (by decide +kernel), if_neg (by decide +kernel), if_pos rfl, fs]
      simp [h, h0]
    · rw [show opndE e ++ rest = markT [84, 82, 85, 69] :: rest by unfold opndE opndP par; rw [writeE_eq]; simp [wr, h, h0]]
      rw [opndQ_at (next_val (by decide +kernel) (mark_at _)), if_neg (by decide +kernel), if_neg (by decide +kernel), if_neg (by decide +kernel), if_pos rfl, fs]
      simp [h, h0]
  · refine lit (by simp [par, h]) fun f _ _ rest hb => ?_
    have hnm : ∀ s, nameT e.s ≠ markT s := fun s q => by
      have := mark_kind s
      rw [← q] at this
      rcases this with h | h <;> cases h
    rw [show opndE e ++ rest = nameT e.s :: rest by unfold opndE opndP par; rw [writeE_eq]; simp [wr, h]]
    rw [opndQ_at (next_val (may_name (fine_name hF (.inl h))) rfl), if_neg (by show ¬ (1 : Int) = 3; decide), if_neg (by show ¬ (1 : Int) = 4; decide), if_neg (hnm _), if_neg (hnm _), if_pos (show (nameT e.s).kind = 1 from rfl), List.tail_cons, if_neg hb, fs]
    simp [h]
    rfl
  · refine brk (by simp [par, h]) fun f _ rest hb ho => ?_
    rw [show writeE e ++ rest = markT [83, 73, 90, 69] :: nameT e.s :: rest by rw [writeE_eq]; simp [wr, h]]
    rw [exprQ_at (next_val (by decide +kernel) (mark_at _)), if_pos rfl, List.tail_cons, next_val (may_name (fine_name hF (.inr (.inr h)))) rfl, if_pos (show (nameT e.s).kind = 1 from rfl), fs]
    simp [h]
    rfl
  · obtain ⟨x, hx⟩ := one_part hF (.inl h)
    have hxm : x ∈ e.l := by rw [hx]; exact List.Mem.head _
    obtain ⟨iE, _⟩ := ih x hxm (hF.part hxm) (hW.part hxm)
    have hnm : ∀ s, nameT e.s ≠ markT s := fun s q => by
      have := mark_kind s
      rw [← q] at this
      rcases this with h | h <;> cases h
    refine lit (by simp [par, h]) fun f hd _ rest hb => ?_
    obtain ⟨k, rfl⟩ := (hd.part hxm).pos
    have he := iE k (hd.part hxm) (symT [93] :: rest) (noBr_sym (by decide +kernel) (by decide)) (noOp_93 rest)
    have hi : insQ (k + 1) [91] [93] (symT [91] :: (writeE x ++ symT [93] :: rest)) = .ok (strip x, rest) := ins_ok (by decide +kernel) (by decide +kernel) he
    rw [show opndE e ++ rest = nameT e.s :: symT [91] :: (writeE x ++ symT [93] :: rest) by unfold opndE opndP par; rw [writeE_eq]; simp [wr, h, hx, writeL]]
    rw [opndQ_at (next_val (may_name (fine_name hF (.inr (.inl h)))) rfl), if_neg (by show ¬ (1 : Int) = 3; decide), if_neg (by show ¬ (1 : Int) = 4; decide), if_neg (hnm _), if_neg (hnm _), if_pos (show (nameT e.s).kind = 1 from rfl), List.tail_cons, next_val (by decide +kernel) rfl, if_pos rfl, hi, fs]
    simp [h, hx]
    rfl
  · obtain ⟨x, hx⟩ := one_part hF (.inr (.inl h))
    have hxm : x ∈ e.l := by rw [hx]; exact List.Mem.head _
    obtain ⟨_, iO⟩ := ih x hxm (hF.part hxm) (hW.part hxm)
    have hm := fine_mon hF hor h
    obtain ⟨o, ho⟩ : ∃ o : Nat, e.o = o := ⟨e.o.toNat, by omega⟩
    obtain ⟨q1, q2, q3⟩ := op_mon o (by omega) (by omega)
    refine brk (by simp [par, h]) fun f hd rest hb _ => ?_
    have he := iO f (hd.part hxm).up (fun _ => hd.part hxm) rest hb
    rw [show writeE e ++ rest = operT e.o :: (opndE x ++ rest) by rw [writeE_eq]; simp [wr, h, hx, writeL, opndE]]
    rw [exprQ_at (next_val (may_operI (by omega)) (oper_at _)), ho]
    simp only [if_neg q1, q2, q3, List.tail_cons, he, ne_eq, not_true, if_false]
    rw [if_pos (by omega), fs]
    simp [h, hx, ho, unQ]
  · obtain ⟨x, y, hx⟩ := two_parts hF h
    have hxm : x ∈ e.l := by rw [hx]; exact List.Mem.head _
    have hym : y ∈ e.l := by rw [hx]; exact List.Mem.tail _ (List.Mem.head _)
    obtain ⟨_, iO⟩ := ih x hxm (hF.part hxm) (hW.part hxm)
    obtain ⟨_, jO⟩ := ih y hym (hF.part hym) (hW.part hym)
    have hm := fine_dya hF h
    obtain ⟨o, ho⟩ : ∃ o : Nat, e.o = o := ⟨e.o.toNat, by omega⟩
    obtain ⟨q1, q2⟩ := op_dya o (by omega) (by omega)
    refine brk (by simp [par, h]) fun f hd rest hb _ => ?_
    have hnx : ∀ r, nextT (operT e.o :: r) = operT e.o := fun r => next_val (may_operI (by omega)) (oper_at _)
    have he := iO f (hd.part hxm).up (fun _ => hd.part hxm) (operT e.o :: (opndE y ++ rest)) (by unfold NoBr; rw [hnx, ho]; exact q2)
    have hf := jO f (hd.part hym).up (fun _ => hd.part hym) rest hb
    have hst := opnd_start (hF.part hxm) (hW.part hxm).spec.2.1 (operT e.o :: (opndE y ++ rest))
    rw [show writeE e ++ rest = opndE x ++ (operT e.o :: (opndE y ++ rest)) by rw [writeE_eq]; simp [wr, h, hx, writeL, opndE], expr_start hst he, hnx, ho, q1, if_pos (by omega), List.tail_cons, hf, fs]
    simp [h, hx, ho, unQ]
  · obtain ⟨x, hx⟩ := one_part hF (.inr (.inr h))
    have hxm : x ∈ e.l := by rw [hx]; exact List.Mem.head _
    obtain ⟨_, iO⟩ := ih x hxm (hF.part hxm) (hW.part hxm)
    have hm := fine_conv hF h
    obtain ⟨o, ho⟩ : ∃ o : Nat, e.t = o := ⟨e.t.toNat, by omega⟩
    obtain ⟨q0, q1, q2⟩ := op_conv o (by omega) (by omega)
    refine brk (by simp [par, h]) fun f hd rest hb _ => ?_
    have he := iO f (hd.part hxm).up (fun _ => hd.part hxm) rest hb
    rw [show writeE e ++ rest = markT (primP e.t) :: (opndE x ++ rest) by rw [writeE_eq]; simp [wr, h, hx, writeL, opndE]]
    rw [ho, exprQ_at (next_val q0 (mark_at _))]
    simp only [if_neg q1, q2, List.tail_cons, he, ne_eq]
    rw [if_pos (by omega), fs]
    simp [h, hx, ho, unQ]
abbrev GoodT (u : Tok) : Prop := mayK u = true ∧ (-2147483648 ≤ u.n ∧ u.n ≤ 2147483647)
theorem z0 : (-2147483648 : Int) ≤ 0 ∧ (0 : Int) ≤ 2147483647 := by decide
theorem good_mark {s : B} (h : mayK (markT s) = true) : GoodT (markT s) := ⟨h, by unfold markT; split <;> exact z0⟩
theorem good_sym {s : B} (h : mayK (symT s) = true) : GoodT (symT s) := ⟨h, z0⟩
theorem opnd_good {p : Bool × List Tok} (h : ∀ u ∈ p.2, GoodT u) : ∀ u ∈ opndP p, GoodT u := by
  unfold opndP
  split
  · intro u hu
    rcases List.mem_cons.1 hu with rfl | hu
    · exact good_sym (by decide +kernel)
    · rcases List.mem_append.1 hu with hu | hu
      · exact h u hu
      · rw [List.mem_singleton] at hu
        subst hu
        exact good_sym (by decide +kernel)
  · exact h
theorem cons_good {t : Tok} {l : List Tok} (h : GoodT t) (hl : ∀ u ∈ l, GoodT u) : ∀ u ∈ t :: l, GoodT u := fun u hu => by
  rcases List.mem_cons.1 hu with rfl | hu
  · exact h
  · exact hl u hu
theorem app_good {k l : List Tok} (h : ∀ u ∈ k, GoodT u) (hl : ∀ u ∈ l, GoodT u) : ∀ u ∈ k ++ l, GoodT u := fun u hu => by
  rcases List.mem_append.1 hu with hu | hu
  · exact h u hu
  · exact hl u hu
theorem nil_good : ∀ u ∈ ([] : List Tok), GoodT u := fun _ hu => (List.not_mem_nil hu).elim
/-- All tokens that are written exist. -/
theorem write_may (e : Ex) : Fine e → Wf e → ∀ u ∈ writeE e, GoodT u := by
  refine Ex.ind (p := fun e => Fine e → Wf e → ∀ u ∈ writeE e, GoodT u) (fun e ih hF hW => ?_) e
  obtain ⟨⟨hk, hor, ht⟩, hn, hs⟩ := hW.spec
  have nm (h : e.k = 4 ∨ e.k = 5 ∨ e.k = 9) : GoodT (nameT e.s) := ⟨may_name (fine_name hF h), z0⟩
  rcases good_kind hF with h | h | h | h | h | h | h | h | h
  · rw [show writeE e = [numT e.n] by rw [writeE_eq]; simp [wr, h]]
    exact cons_good ⟨may_num _, hn⟩ nil_good
  · rw [show writeE e = [byteT e.n] by rw [writeE_eq]; simp [wr, h]]
    exact cons_good ⟨may_byte (fine_byte hF hn h), hn⟩ nil_good
  · rcases good_bool hn hF h with h0 | h0
    · rw [show writeE e = [markT [70, 65, 76, 83, 69]] by rw [writeE_eq]; simp [wr, h, h0]]
      exact cons_good (good_mark (by decide +kernel)) nil_good
    · rw [show writeE e = [markT [84, 82, 85, 69]] by rw [writeE_eq]; simp [wr, h, h0]]
      exact cons_good (good_mark (by decide +kernel)) nil_good
  · rw [show writeE e = [nameT e.s] by rw [writeE_eq]; simp [wr, h]]
    exact cons_good (nm (.inl h)) nil_good
  · rw [show writeE e = [markT [83, 73, 90, 69], nameT e.s] by rw [writeE_eq]; simp [wr, h]]
    exact cons_good (good_mark (by decide +kernel)) (cons_good (nm (.inr (.inr h))) nil_good)
  · obtain ⟨x, hx⟩ := one_part hF (.inl h)
    have hxm : x ∈ e.l := by rw [hx]; exact List.Mem.head _
    rw [show writeE e = nameT e.s :: symT [91] :: (writeE x ++ [symT [93]]) by rw [writeE_eq]; simp [wr, h, hx, writeL]]
    exact cons_good (nm (.inr (.inl h))) (cons_good (good_sym (by decide +kernel)) (app_good (ih x hxm (hF.part hxm) (hW.part hxm)) (cons_good (good_sym (by decide +kernel)) nil_good)))
  · obtain ⟨x, hx⟩ := one_part hF (.inr (.inl h))
    have hxm : x ∈ e.l := by rw [hx]; exact List.Mem.head _
    have hm := fine_mon hF hor h
    rw [show writeE e = operT e.o :: opndP (par x.k, writeE x) by rw [writeE_eq]; simp [wr, h, hx, writeL]]
    exact cons_good (good_mark (may_operI (by omega))) (opnd_good (ih x hxm (hF.part hxm) (hW.part hxm)))
  · obtain ⟨x, y, hx⟩ := two_parts hF h
    have hxm : x ∈ e.l := by rw [hx]; exact List.Mem.head _
    have hym : y ∈ e.l := by rw [hx]; exact List.Mem.tail _ (List.Mem.head _)
    have hm := fine_dya hF h
    rw [show writeE e = opndP (par x.k, writeE x) ++ operT e.o :: opndP (par y.k, writeE y) by rw [writeE_eq]; simp [wr, h, hx, writeL]]
    exact app_good (opnd_good (ih x hxm (hF.part hxm) (hW.part hxm))) (cons_good (good_mark (may_operI (by omega))) (opnd_good (ih y hym (hF.part hym) (hW.part hym))))
  · obtain ⟨x, hx⟩ := one_part hF (.inr (.inr h))
    have hxm : x ∈ e.l := by rw [hx]; exact List.Mem.head _
    have hm := fine_conv hF h
    obtain ⟨o, ho⟩ : ∃ o : Nat, e.t = o := ⟨e.t.toNat, by omega⟩
    rw [show writeE e = markT (primP e.t) :: opndP (par x.k, writeE x) by rw [writeE_eq]; simp [wr, h, hx, writeL], ho]
    exact cons_good (good_mark (op_conv o (by omega) (by omega)).1) (opnd_good (ih x hxm (hF.part hxm) (hW.part hxm)))
theorem write_pos (e : Ex) (hF : Fine e) : (writeE e).length ≠ 0 := by
  rcases good_kind hF with h | h | h | h | h | h | h | h | h
  · simp [writeE_eq, wr, h]
  · simp [writeE_eq, wr, h]
  · simp only [writeE_eq, wr, h]
    simp
    split <;> simp
  · simp [writeE_eq, wr, h]
  · simp [writeE_eq, wr, h]
  · simp [writeE_eq, wr, h]
  · simp [writeE_eq, wr, h]
  · simp [writeE_eq, wr, h]
  · simp [writeE_eq, wr, h]
/-- What is written is read again. -/
theorem front_write {e : Ex} (hm : mayE e = true) (hW : Wf e) {rest : List Tok} (hb : NoBr rest) (ho : NoOp rest) : frontP (writeE e ++ rest) = .ok (strip e, (writeE e).length) := by
  have h := (read_all e (may_good hm).1 hW).1 32 (may_dp hm).up rest hb ho
  unfold frontP exprP
  rw [h]
  show (if mayE (strip e) then Except.ok (strip e, (writeE e ++ rest).length - rest.length) else .error 3) = _
  rw [may_strip, hm, if_pos rfl, List.length_append, Nat.add_sub_cancel]
/-- In parentheses, too. -/
theorem front_par {e : Ex} (hm : mayE e = true) (hW : Wf e) {rest : List Tok} (ho : NoOp rest) : frontP ((symT [40] :: (writeE e ++ [symT [41]])) ++ rest) = .ok (strip e, (writeE e).length + 2) := by
  have h := (read_all e (may_good hm).1 hW).1 31 (may_dp hm) (symT [41] :: rest) (noBr_sym (by decide +kernel) (by decide)) (noOp_41 rest)
  have hl : (symT [40] :: (writeE e ++ [symT [41]])) ++ rest = symT [40] :: (writeE e ++ symT [41] :: rest) := by simp
  have h1 : opndQ (insQ 32) (symT [40] :: (writeE e ++ symT [41] :: rest)) = .ok (strip e, rest) := par_br (ins_ok (by decide +kernel) (by decide +kernel) h)
  have h2 := expr_start (ts := symT [40] :: (writeE e ++ symT [41] :: rest)) (by rw [next_val (by decide +kernel) rfl]; exact .inr (.inr (.inr (.inr (.inr rfl))))) h1
  rw [if_neg (fun q => q ho)] at h2
  rw [hl]
  unfold frontP exprP
  rw [h2]
  show (if mayE (strip e) then Except.ok (strip e, (symT [40] :: (writeE e ++ symT [41] :: rest)).length - rest.length) else .error 3) = _
  rw [may_strip, hm, if_pos rfl]
  congr 2
  simp
  omega
end Go.Xp

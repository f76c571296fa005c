/- lex: tokens as the reference reads them; they are the program's. -/
import Derived.Test.YtheejlbhmbbdjaaDoorLexT
namespace Go.Lx
open Go.Ty
set_option maxRecDepth 100000
theorem all_bytes {p : UInt8 → Bool} (h : ∀ n, n < 256 → p (UInt8.ofNat n) = true) (c : UInt8) : p c = true := by
  have := h c.toNat c.toNat_lt
  rwa [UInt8.ofNat_toNat] at this
/- symbols -/
def symsL : List B := [[43], [45], [42], [47], [92], [47, 92], [92, 47], [62, 60], [60, 60], [62, 62], [61], [60, 62], [60], [62], [60, 61], [62, 61], [126], [58, 61], [63], [33], [38], [58], [59], [44], [40], [41], [91], [93]]
def symR (s : B) : Bool := among s symsL
theorem sym_in : ∀ s ∈ symsL, sym s = true := by decide +kernel
theorem sym_one : ∀ c : UInt8, (sym [c] == symR [c]) = true := all_bytes (by decide +kernel)
theorem doubles_at : ∀ i, i < 28 → (match doublesB.drop i with | 32 :: a :: b :: 32 :: _ => among [a, b] symsL || a == 32 || b == 32 | _ => true) = true := by decide +kernel
theorem sym_eq (s : B) : sym s = symR s := by
  match s with
  | [] => rfl
  | [a] => simpa using sym_one a
  | [a, b] =>
    rw [Bool.eq_iff_iff]
    constructor
    · intro h
      unfold sym at h
      simp only [Bool.and_eq_true] at h
      obtain ⟨⟨ha, hb⟩, h2⟩ := h
      unfold Lib.contains at h2
      have h2 := of_decide_eq_true h2
      rcases Lib.index_spec doublesB ([32] ++ [a, b] ++ [32]) with ⟨e, _⟩ | ⟨i, _, hi, ho, _⟩
      · omega
      · unfold Lib.occAt at ho
        obtain ⟨r, hr⟩ := List.isPrefixOf_iff_prefix.1 ho
        have hlt : i < 28 := by
          have hl : doublesB.length = 28 := rfl
          rcases Nat.lt_or_ge i 28 with h | h
          · exact h
          · rw [List.drop_eq_nil_of_le (by omega)] at hr; simp at hr
        have h5 := doubles_at i hlt
        rw [← hr] at h5
        simp only [List.cons_append, List.nil_append, Bool.or_eq_true, beq_iff_eq] at h5
        rcases h5 with (h5 | h5) | h5
        · exact h5
        · subst h5; simp at ha
        · subst h5; simp at hb
    · intro h
      exact sym_in _ ((among_iff _ _).1 h)
  | a :: b :: c :: s =>
    have : symR (a :: b :: c :: s) = false := by
      cases h : symR (a :: b :: c :: s) with
      | false => rfl
      | true =>
        have := (among_iff _ _).1 h
        simp [symsL] at this
    rw [this]
    rfl
/- digits -/
def dval (base : Int) (c : UInt8) : Int :=
  if (base == 16) && decide ((c.toNat : Int) ≥ 65) && decide ((c.toNat : Int) ≤ 70) then (c.toNat : Int) - 65 + 10 else if dig c.toNat then (c.toNat : Int) - 48 else -1
def valV (base : Int) : B → Int → Option Int
  | [], v => some v
  | c :: l, v => if decide (dval base c < 0) then none else valV base l (base * v + dval base c)
def valR (s : B) (base most limit : Int) : Int × Bool :=
  if decide ((s.length : Int) < 1) || decide ((s.length : Int) > most) then (0, false) else
  match valV base s 0 with
  | none => (0, false)
  | some v => (v, decide (v < limit))
theorem dval10 (c : UInt8) : dval 10 c = if dig c.toNat then (c.toNat : Int) - 48 else -1 := rfl
theorem dval16 (c : UInt8) : hexd c = dval 16 c := by simpa using all_bytes (p := fun c => hexd c == dval 16 c) (by decide +kernel) c
theorem decV_val : ∀ (l : B) (v : Int), decV l v = valV 10 l v
  | [], v => rfl
  | c :: l, v => by
    unfold decV valV
    rw [dval10, decV_val l]
    cases h : dig c.toNat with
    | false => rfl
    | true =>
      have : decide ((c.toNat : Int) - 48 < 0) = false := by
        unfold dig at h
        simp at h
        simp
        omega
      simp [this]
theorem hexV_val : ∀ (l : B) (v : Int), hexV l v = valV 16 l v
  | [], v => rfl
  | c :: l, v => by
    unfold hexV valV
    rw [dval16, hexV_val l]
theorem dval16_lt (c : UInt8) : dval 16 c < 16 := by simpa using all_bytes (p := fun c => decide (dval 16 c < 16)) (by decide +kernel) c
theorem dval10_lt (c : UInt8) : dval 10 c < 10 := by simpa using all_bytes (p := fun c => decide (dval 10 c < 10)) (by decide +kernel) c
theorem valV_bound {base : Int} (hb : 1 ≤ base) (hd : ∀ c, dval base c < base) : ∀ (l : B) (v r : Int), 0 ≤ v → valV base l v = some r → 0 ≤ r ∧ r < (v + 1) * base ^ l.length
  | [], v, r, hv, h => by cases h; simp; omega
  | c :: l, v, r, hv, h => by
    unfold valV at h
    split at h
    · cases h
    · rename_i hc
      have hc0 : 0 ≤ dval base c := by simpa using hc
      have hc1 := hd c
      have h0 : 0 ≤ base * v := Int.mul_nonneg (by omega) hv
      obtain ⟨h1, h2⟩ := valV_bound hb hd l _ r (by omega) h
      refine ⟨h1, Int.lt_of_lt_of_le h2 ?_⟩
      rw [List.length_cons, Int.pow_succ, ← Int.mul_assoc, Int.mul_right_comm]
      refine Int.mul_le_mul_of_nonneg_right ?_ (Int.pow_nonneg (by omega))
      rw [Int.add_mul, Int.one_mul, Int.mul_comm v base]
      omega
theorem hexP_val (s : B) (n : Nat) (hn : s.length ≤ n) (lim : Int) (hl : 16 ^ n ≤ lim) : hexP s = valR s 16 n lim := by
  unfold hexP valR
  rw [hexV_val]
  cases s with
  | nil => rfl
  | cons c s =>
    have e : (decide (((c :: s).length : Int) < 1) || decide (((c :: s).length : Int) > n)) = false := by simp at hn ⊢; omega
    rw [e]
    simp only [Bool.false_eq_true, if_false]
    cases h : valV 16 (c :: s) 0 with
    | none => rfl
    | some v =>
      have hb := (valV_bound (by decide) dval16_lt (c :: s) 0 v (by decide) h).2
      have hp : (16 : Int) ^ (c :: s).length ≤ 16 ^ n := by exact_mod_cast Nat.pow_le_pow_right (by decide) hn
      simp only [Prod.mk.injEq, true_and]
      rw [show ((c :: s) == []) = false from rfl]
      symm
      simp
      omega
/- characters -/
def shortL : List B := [[42, 99], [42, 110], [42, 116], [42, 115], [42, 39], [42, 34], [42, 42]]
def standsL : List Int := [13, 10, 9, 32, 39, 34, 42]
def findS (s : B) : List B → List Int → Option Int
  | x :: l, v :: k => if s == x then some v else findS s l k
  | _, _ => none
def escR (s : B) : Int × Bool :=
  if ((s.length : Int) == 1) && decide (chB s 0 ≥ 32) && decide (chB s 0 ≤ 126) && (s != [39]) && (s != [42]) then (chB s 0, true)
  else match findS s shortL standsL with
    | some v => (v, true)
    | none => if ((s.length : Int) == 4) && (s.take 2 == [42, 35]) then (IntKind.i32.wrap (valR (s.drop 2) 16 2 256).1, (valR (s.drop 2) 16 2 256).2) else (0, false)
def qtry (s : B) (n : Nat) : Bool := (escR ((s.drop 1).take (n - 2))).2 && (chB s (n - 1) == 39)
def quotL (s : B) : List Nat → Tok × Nat
  | [] => (zeroK, 0)
  | n :: ns => if !decide ((n : Int) ≤ s.length) then (zeroK, 0) else if qtry s n then (⟨4, 0, [], (escR ((s.drop 1).take (n - 2))).1⟩, n) else quotL s ns
def quotedR (s : B) : Tok × Nat := quotL s [3, 4, 5, 6]
theorem escR_nil : escR [] = (0, false) := rfl
theorem escR_one (a : UInt8) : escR [a] = if (decide ((a.toNat : Int) ≥ 32) && decide ((a.toNat : Int) ≤ 126) && (a != 39) && (a != 42)) then ((a.toNat : Int), true) else (0, false) := by
  have := all_bytes (p := fun a => escR [a] == if (decide ((a.toNat : Int) ≥ 32) && decide ((a.toNat : Int) ≤ 126) && (a != 39) && (a != 42)) then ((a.toNat : Int), true) else (0, false)) (by decide +kernel) a
  simpa using this
theorem find_two (a b : UInt8) : findS [a, b] shortL standsL = if a == 42 && decide (esc b ≥ 0) then some (chB standB (esc b).toNat) else none := by
  by_cases h : a = 42
  · subst h
    have := all_bytes (p := fun b => findS [42, b] shortL standsL == if decide (esc b ≥ 0) then some (chB standB (esc b).toNat) else none) (by decide +kernel) b
    simpa using this
  · have h' : (a == 42) = false := by simpa using h
    rw [h']
    simp [findS, shortL, standsL, h]
theorem escR_two (a b : UInt8) : escR [a, b] = if a == 42 && decide (esc b ≥ 0) then (chB standB (esc b).toNat, true) else (0, false) := by
  unfold escR
  rw [show (([a, b].length : Int) == 1) = false from rfl, show (([a, b].length : Int) == 4) = false from rfl, find_two]
  simp only [Bool.false_and, Bool.false_eq_true, if_false]
  cases (a == 42 && decide (esc b ≥ 0)) <;> rfl
theorem find_long (s : B) (h : s.length ≠ 2) : findS s shortL standsL = none := by
  have : ∀ x : B, x.length = 2 → (s == x) = false := by
    intro x hx
    cases e : s == x with
    | false => rfl
    | true => exact absurd (by rw [eq_of_beq e]; exact hx) h
  simp [findS, shortL, standsL, this]
theorem escR_three (a b c : UInt8) : escR [a, b, c] = (0, false) := by
  unfold escR
  rw [find_long _ (by simp)]
  rfl
theorem wrap_small {v : Int} (h : 0 ≤ v ∧ v < 2147483648) : IntKind.i32.wrap v = v := by
  unfold IntKind.wrap
  simp [IntKind.bits, IntKind.signed]
  omega
theorem escR_four (a b c d : UInt8) : escR [a, b, c, d] = if (a == 42) && (b == 35) then hexP [c, d] else (0, false) := by
  unfold escR
  rw [find_long _ (by simp)]
  rw [show (([a, b, c, d].length : Int) == 1) = false from rfl, show (([a, b, c, d].length : Int) == 4) = true from rfl, show List.take 2 [a, b, c, d] = [a, b] from rfl, show List.drop 2 [a, b, c, d] = [c, d] from rfl]
  simp only [Bool.false_and, Bool.false_eq_true, if_false, Bool.true_and]
  rw [show ([a, b] == [42, 35]) = ((a == 42) && (b == 35)) by rw [Bool.eq_iff_iff]; simp]
  cases ((a == 42) && (b == 35)) with
  | false => rfl
  | true =>
    simp only [if_true]
    rw [show valR [c, d] 16 2 256 = hexP [c, d] from (hexP_val [c, d] 2 (Nat.le_refl _) 256 (by decide)).symm]
    unfold hexP
    rw [hexV_val]
    cases h : valV 16 [c, d] 0 with
    | none => rfl
    | some v =>
      have hb := valV_bound (by decide) dval16_lt [c, d] 0 v (by decide) h
      have h2 : v < 256 := hb.2
      simp only [wrap_small ⟨hb.1, by omega⟩]
theorem chB_cons (a : UInt8) (s : B) (i : Nat) : chB (a :: s) (i + 1) = chB s i := rfl
theorem chB_zero (a : UInt8) (s : B) : chB (a :: s) 0 = (a.toNat : Int) := rfl
theorem q39 (s : B) (i : Nat) : (chB s i == 39) = (s[i]? == some 39) := by
  unfold chB
  rw [List.getD_eq_getElem?_getD]
  cases s[i]? with
  | none => rfl
  | some b =>
    simp only [Option.getD_some]
    rw [Bool.eq_iff_iff]
    simp
    constructor
    · intro h; exact UInt8.toNat.inj (by have : b.toNat = 39 := by exact_mod_cast h
                                         rw [this]; rfl)
    · rintro rfl; rfl
def fail : Tok × Nat := (zeroK, 0)
theorem charP_nil : charP [] = (0, 0) := rfl
theorem charP_bad (a : UInt8) (t : B) (h : (decide ((a.toNat : Int) < 32) || decide ((a.toNat : Int) > 126) || (a == 39)) = true) : charP (a :: t) = (0, 0) := by
  have : ((a :: t == []) || decide (chB (a :: t) 0 < 32) || decide (chB (a :: t) 0 > 126) || (chB (a :: t) 0 == 39)) = true := by
    rw [q39, chB_zero]
    simpa [Bool.or_assoc] using h
  unfold charP
  rw [if_pos this]
theorem charP_head (a : UInt8) (t : B) (h : (decide ((a.toNat : Int) < 32) || decide ((a.toNat : Int) > 126) || (a == 39)) = false) : ((a :: t == []) || decide (chB (a :: t) 0 < 32) || decide (chB (a :: t) 0 > 126) || (chB (a :: t) 0 == 39)) = false := by
  rw [q39, chB_zero]
  simpa [Bool.or_assoc] using h
theorem star_iff (a : UInt8) : ((a.toNat : Int) != 42) = (a != 42) := by
  simpa using all_bytes (p := fun a => ((a.toNat : Int) != 42) == (a != 42)) (by decide +kernel) a
theorem hash_iff (a : UInt8) : ((a.toNat : Int) != 35) = (a != 35) := by
  simpa using all_bytes (p := fun a => ((a.toNat : Int) != 35) == (a != 35)) (by decide +kernel) a
theorem charP_plain (a : UInt8) (t : B) (h : (decide ((a.toNat : Int) < 32) || decide ((a.toNat : Int) > 126) || (a == 39)) = false) (hs : (a != 42) = true) : charP (a :: t) = ((a.toNat : Int), 1) := by
  unfold charP
  rw [if_neg (by rw [charP_head a t h]; decide), if_pos (by rw [chB_zero, star_iff]; exact hs)]
  rfl
theorem charP_star (t : B) : charP (42 :: t) = match t with
    | [] => (0, 0)
    | b :: u => if decide (esc b ≥ 0) then (chB standB (esc b).toNat, 2) else if (b != 35) || decide (u.length < 2) then (0, 0) else if !(hexP (u.take 2)).2 then (0, 0) else ((hexP (u.take 2)).1, 4) := by
  unfold charP
  rw [if_neg (by rw [charP_head 42 t (by decide)]; decide), if_neg (by rw [chB_zero]; decide)]
  cases t with
  | nil => rfl
  | cons b u =>
    rw [if_neg (by simp; omega)]
    show (if decide (esc b ≥ 0) = true then _ else if ((chB (b :: u) 0 != 35) || _) = true then _ else if (!(hexP (u.take 2)).2) = true then _ else _) = _
    rw [chB_zero, hash_iff]
    have : decide (((42 :: b :: u).length : Int) < 4) = decide (u.length < 2) := by
      congr 1
      simp
      omega
    rw [this]
    rfl
theorem rQuoted_of {q : UInt8} {s : B} {v : Int} {n : Nat} (h : charP s = (v, n)) : rQuoted (q :: s) = if noQ s n then fail else (⟨4, 0, [], v, ⟩, n + 2) := by
  unfold rQuoted
  rw [show List.drop 1 (q :: s) = s from rfl, h]
  rfl
theorem rQuoted_no {q : UInt8} {s : B} (h : charP s = (0, 0)) : rQuoted (q :: s) = fail := by
  rw [rQuoted_of h]
  rfl
theorem noQ_eq (s : B) (n : Nat) (hn : n ≠ 0) : noQ s n = !(s[n]? == some 39) := by
  unfold noQ
  rw [bne, q39]
  cases h : s[n]? == some 39 with
  | false => simp
  | true =>
    have h1 : n < s.length := by
      rcases Nat.lt_or_ge n s.length with h2 | h2
      · exact h2
      · rw [List.getElem?_eq_none h2] at h; cases h
    simp
    omega
theorem quotedR_of (q : UInt8) (s : B) : quotedR (q :: s) =
    if !decide (2 ≤ s.length) then fail else if (escR (s.take 1)).2 && (s[1]? == some 39) then (⟨4, 0, [], (escR (s.take 1)).1⟩, 3) else
    if !decide (3 ≤ s.length) then fail else if (escR (s.take 2)).2 && (s[2]? == some 39) then (⟨4, 0, [], (escR (s.take 2)).1⟩, 4) else
    if !decide (4 ≤ s.length) then fail else if (escR (s.take 3)).2 && (s[3]? == some 39) then (⟨4, 0, [], (escR (s.take 3)).1⟩, 5) else
    if !decide (5 ≤ s.length) then fail else if (escR (s.take 4)).2 && (s[4]? == some 39) then (⟨4, 0, [], (escR (s.take 4)).1⟩, 6) else fail := by
  unfold quotedR quotL quotL quotL quotL quotL qtry
  simp only [show List.drop 1 (q :: s) = s from rfl, show (3 - 2 : Nat) = 1 from rfl, show (4 - 2 : Nat) = 2 from rfl, show (5 - 2 : Nat) = 3 from rfl, show (6 - 2 : Nat) = 4 from rfl, chB_cons, q39]
  have e : ∀ n : Nat, decide (((n + 1 : Nat) : Int) ≤ ((q :: s).length : Int)) = decide (n ≤ s.length) := fun n => by congr 1; simp
  rw [show ((3 : Nat) : Int) = ((2 + 1 : Nat) : Int) from rfl, show ((4 : Nat) : Int) = ((3 + 1 : Nat) : Int) from rfl, show ((5 : Nat) : Int) = ((4 + 1 : Nat) : Int) from rfl, show ((6 : Nat) : Int) = ((5 + 1 : Nat) : Int) from rfl, e, e, e, e]
  rfl
theorem quotedR_of2 (q : UInt8) (s : B) : quotedR (q :: s) =
    if (escR (s.take 1)).2 && (s[1]? == some 39) then (⟨4, 0, [], (escR (s.take 1)).1⟩, 3) else
    if (escR (s.take 2)).2 && (s[2]? == some 39) then (⟨4, 0, [], (escR (s.take 2)).1⟩, 4) else
    if (escR (s.take 3)).2 && (s[3]? == some 39) then (⟨4, 0, [], (escR (s.take 3)).1⟩, 5) else
    if (escR (s.take 4)).2 && (s[4]? == some 39) then (⟨4, 0, [], (escR (s.take 4)).1⟩, 6) else fail := by
  rw [quotedR_of]
  match s with
  | [] => simp
  | [a] => simp
  | [a, b] => simp
  | [a, b, c] => simp
  | [a, b, c, d] => simp
  | a :: b :: c :: d :: e :: s => simp
theorem quoted_eq (q : UInt8) (s : B) : quotedR (q :: s) = rQuoted (q :: s) := by
  rw [quotedR_of2]
  match s with
  | [] => rfl
  | a :: t =>
    cases hb : (decide ((a.toNat : Int) < 32) || decide ((a.toNat : Int) > 126) || (a == 39)) with
    | true =>
      have hs : (a == 42) = false := by
        cases hs : a == 42 with
        | false => rfl
        | true => rw [eq_of_beq hs] at hb; revert hb; decide
      have e1 : escR [a] = (0, false) := by
        rw [escR_one]
        have : (decide ((a.toNat : Int) ≥ 32) && decide ((a.toNat : Int) ≤ 126) && (a != 39) && (a != 42)) = false := by
          simp only [Bool.or_eq_true, decide_eq_true_eq] at hb
          rcases hb with (hb | hb) | hb
          · rw [show decide ((a.toNat : Int) ≥ 32) = false by simp; omega]; rfl
          · rw [show decide ((a.toNat : Int) ≤ 126) = false by simp; omega, Bool.and_false]; rfl
          · rw [bne, hb]; simp
        rw [this]
        rfl
      rw [rQuoted_no (charP_bad a t hb)]
      match t with
      | [] => simp [e1]
      | [b] => simp [e1, escR_two, hs]
      | [b, c] => simp [e1, escR_two, escR_three, hs]
      | b :: c :: d :: t => simp [e1, escR_two, escR_three, escR_four, hs]
    | false =>
      cases hs : a != 42 with
      | true =>
        have hs' : (a == 42) = false := by simpa [bne] using hs
        have e1 : escR [a] = ((a.toNat : Int), true) := by
          rw [escR_one]
          have : (decide ((a.toNat : Int) ≥ 32) && decide ((a.toNat : Int) ≤ 126) && (a != 39) && (a != 42)) = true := by
            simp only [Bool.or_eq_false_iff, decide_eq_false_iff_not] at hb
            rw [hs, bne, hb.2]
            simp
            omega
          rw [this]
          rfl
        rw [rQuoted_of (charP_plain a t hb hs), noQ_eq _ _ (by decide)]
        match t with
        | [] => simp [e1]
        | [b] => simp [e1, escR_two, hs']
        | [b, c] => simp [e1, escR_two, escR_three, hs']
        | b :: c :: d :: t => simp [e1, escR_two, escR_three, escR_four, hs']
      | false =>
        have e : a = 42 := by simpa using hs
        subst e
        have e1 : escR [42] = (0, false) := by decide
        match t with
        | [] => rfl
        | b :: u =>
          cases hE : decide (esc b ≥ 0) with
          | true =>
            have hC : charP (42 :: b :: u) = (chB standB (esc b).toNat, 2) := by rw [charP_star]; simp only [hE, if_true]
            rw [rQuoted_of hC, noQ_eq _ _ (by decide)]
            have h35 : (b == 35) = false := by
              cases h : b == 35 with
              | false => rfl
              | true => rw [eq_of_beq h] at hE; revert hE; decide
            have e2 : escR [42, b] = (chB standB (esc b).toNat, true) := by rw [escR_two, hE]; rfl
            match u with
            | [] => simp [e1, e2]
            | [c] => simp [e1, e2, escR_three]
            | c :: d :: u => simp [e1, e2, escR_three, escR_four, h35]
          | false =>
            have e2 : escR [42, b] = (0, false) := by rw [escR_two, hE]; rfl
            have hC : charP (42 :: b :: u) = if (b != 35) || decide (u.length < 2) then (0, 0) else if !(hexP (u.take 2)).2 then (0, 0) else ((hexP (u.take 2)).1, 4) := by
              rw [charP_star]
              simp only [hE, Bool.false_eq_true, if_false]
            match u with
            | [] => rw [rQuoted_no (hC.trans (by simp))]; simp [e1, e2]
            | [c] => rw [rQuoted_no (hC.trans (by simp))]; simp [e1, e2, escR_three]
            | c :: d :: u =>
              cases h35 : b == 35 with
              | false =>
                rw [rQuoted_no (hC.trans (by simp [bne, h35]))]
                simp [e1, e2, escR_three, escR_four, h35]
              | true =>
                have h35' : (b != 35) = false := by rw [bne, h35]; rfl
                cases hx : (hexP [c, d]).2 with
                | false =>
                  rw [rQuoted_no (hC.trans (by simp [h35', hx]))]
                  simp [e1, e2, escR_three, escR_four, h35, hx]
                | true =>
                  rw [rQuoted_of (v := (hexP [c, d]).1) (n := 4) (hC.trans (by simp [h35', hx])), noQ_eq _ _ (by decide)]
                  simp [e1, e2, escR_three, escR_four, h35, hx]
/- tokens -/
def tokRf (r : B) : Tok × Nat :=
  if ltrR (chB r 0) then
    (if keyR (r.take (1 + run (r.drop 1))) then (⟨2, 0, r.take (1 + run (r.drop 1)), 0⟩, 1 + run (r.drop 1)) else if nameR (r.take (1 + run (r.drop 1))) then (⟨1, 0, r.take (1 + run (r.drop 1)), 0⟩, 1 + run (r.drop 1)) else fail)
  else if dig (chB r 0) then
    (if !(valR (r.take (1 + run (r.drop 1))) 10 10 2147483648).2 then fail else (⟨3, 0, [], IntKind.i32.wrap (valR (r.take (1 + run (r.drop 1))) 10 10 2147483648).1⟩, 1 + run (r.drop 1)))
  else if chB r 0 == 35 then
    (if !(valR ((r.drop 1).take (run (r.drop 1))) 16 8 4294967296).2 then fail else (⟨3, 0, [], IntKind.i32.wrap (valR ((r.drop 1).take (run (r.drop 1))) 16 8 4294967296).1⟩, 1 + run (r.drop 1)))
  else if chB r 0 == 39 then quotedR r
  else if decide ((r.length : Int) > 1) && symR (r.take 2) then (⟨5, 0, r.take 2, 0⟩, 2)
  else if symR (r.take 1) then (⟨5, 0, r.take 1, 0⟩, 1)
  else fail
theorem run_take : ∀ (l : B), run (l.take (run l)) = run l
  | [] => rfl
  | c :: l => by
    have e : run (c :: l) = if wch c then run l + 1 else 0 := rfl
    cases hw : wch c with
    | false => rw [e, hw]; rfl
    | true =>
      rw [e, hw]
      simp only [if_true, List.take_succ_cons]
      show (if wch c then run (l.take (run l)) + 1 else 0) = _
      rw [hw, run_take l]
      rfl
theorem run_take_len (l : B) : (l.take (run l)).length = run l := by rw [List.length_take]; have := run_le l; omega
theorem wch_ltr {c : UInt8} (h : ltr c.toNat = true) : wch c = true := by unfold wch; rw [h]; rfl
theorem wch_dig {c : UInt8} (h : dig c.toNat = true) : wch c = true := by unfold wch; rw [h]; simp
theorem run_cons {c : UInt8} {l : B} (h : wch c = true) : run (c :: l) = 1 + run l := by
  show (if wch c then run l + 1 else 0) = _
  rw [h, Nat.add_comm]
  rfl
theorem wrap_ne {v : Int} (h : 0 ≤ v) : (v != IntKind.i32.wrap v) = !decide (v < 2147483648) := by
  by_cases hv : v < 2147483648
  · rw [wrap_small ⟨h, hv⟩]; simp [hv]
  · have : IntKind.i32.wrap v < 2147483648 := by
      unfold IntKind.wrap
      simp [IntKind.bits, IntKind.signed]
      omega
    simp [hv]
    omega
theorem name_word {c : UInt8} {l : B} (h : ltr c.toNat = true) (hk : key ((c :: l).take (run (c :: l))) = false) : name ((c :: l).take (run (c :: l))) = !decide ((run (c :: l) : Int) > 32) := by
  have e1 := run_take (c :: l)
  have e2 := run_take_len (c :: l)
  have e3 : (c :: l).take (run (c :: l)) = c :: l.take (run l) := by rw [run_cons (wch_ltr h), Nat.add_comm]; rfl
  unfold name
  rw [e1, e2, hk, e3]
  simp only [h]
  simp
  rw [← decide_not]
  congr 1
  simp
theorem tok_eq (c : UInt8) (r : B) : tok (c :: r) = tokRf (c :: r) := by
  unfold tok tokRf
  rw [chB_zero, show List.drop 1 (c :: r) = r from rfl, ← ltr_eq]
  cases hl : ltr c.toNat with
  | true =>
    simp only [if_true]
    rw [← run_cons (wch_ltr hl), ← key_eq, ← name_eq]
    unfold rWords
    cases hk : key ((c :: r).take (run (c :: r))) with
    | true => rfl
    | false =>
      rw [name_word hl hk]
      cases decide ((run (c :: r) : Int) > 32) <;> rfl
  | false =>
    simp only [Bool.false_eq_true, if_false]
    cases hd : dig c.toNat with
    | true =>
      simp only [if_true]
      rw [← run_cons (wch_dig hd)]
      unfold rDec valR
      rw [run_take_len]
      have h1 : decide ((run (c :: r) : Int) < 1) = false := by rw [run_cons (wch_dig hd)]; simp; omega
      rw [h1, Bool.false_or]
      cases decide ((run (c :: r) : Int) > 10) with
      | true => rfl
      | false =>
        simp only [Bool.false_eq_true, if_false]
        rw [decV_val]
        cases hv : valV 10 ((c :: r).take (run (c :: r))) 0 with
        | none => rfl
        | some v =>
          have hb := valV_bound (by decide) dval10_lt _ 0 v (by decide) hv
          simp only
          rw [wrap_ne hb.1]
          cases decide (v < 2147483648) <;> rfl
    | false =>
      simp only [Bool.false_eq_true, if_false]
      cases h35 : (c.toNat : Int) == 35 with
      | true =>
        simp only [if_true]
        unfold rHex
        rw [show List.drop 1 (c :: r) = r from rfl]
        by_cases h8 : run r ≤ 8
        · rw [hexP_val (r.take (run r)) 8 (by rw [run_take_len]; exact h8) 4294967296 (by decide)]
          rw [show decide ((run r : Int) > 8) = false by simp; omega]
          rfl
        · rw [show decide ((run r : Int) > 8) = true by simp; omega]
          unfold valR
          rw [run_take_len]
          rw [show (decide ((run r : Int) < 1) || decide ((run r : Int) > 8)) = true by simp; omega]
          rfl
      | false =>
        simp only [Bool.false_eq_true, if_false]
        cases h39 : (c.toNat : Int) == 39 with
        | true => simp only [if_true]; rw [quoted_eq]
        | false =>
          simp only [Bool.false_eq_true, if_false]
          unfold rSyms
          rw [sym_eq, sym_eq]
          rw [show decide (2 ≤ (c :: r).length) = decide (((c :: r).length : Int) > 1) by congr 1; simp; omega, show decide (1 ≤ (c :: r).length) = true by simp]
          rfl
end Go.Lx

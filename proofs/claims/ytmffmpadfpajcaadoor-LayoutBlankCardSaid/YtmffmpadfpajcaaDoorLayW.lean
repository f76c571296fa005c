/- layout: a line more that is blank, in plain Lean. -/
import Derived.Test.YtmffmpadfpajcaaDoorLayV
namespace Go.Ly
open Go.Eng
/- other numbers -/
def shP (f : Nat → Nat) (p : Pc) : Pc := ⟨f p.no, p.ind, p.text⟩
def shR (f : Nat → Nat) (x : Rw) : Rw := ⟨(f x.no.toNat : Nat), x.depth, x.text⟩
def shS (f : Nat → Nat) (s : S) : S := ⟨s.parts, shP f s.first, s.before, f s.last, s.out.map (shR f)⟩
def shO (f : Nat → Nat) (o : Out) : Out := (o.1.map (shR f), if o.2.2 = 0 then o.2.1 else f o.2.1, o.2.2)
theorem run_sh (f : Nat → Nat) : ∀ (ps : List Pc) (s : S), run (ps.map (shP f)) (shS f s) = shO f (run ps s)
  | [], s => by
    unfold run
    show (if s.parts.isEmpty then _ else _) = _
    split
    · rfl
    · rfl
  | p :: ps, s => by
    have e1 : lessS (shS f s) (shP f p) = lessS s p := rfl
    have e2 : stepS (shS f s) (shP f p) = stepS s p := rfl
    have e3 : takeS (shS f s) (shP f p) = shS f (takeS s p) := by
      unfold takeS shS
      dsimp only
      split <;> rfl
    rw [List.map_cons, run_cons, run_cons, e1, e2, e3]
    split
    · rfl
    · split
      · rfl
      · unfold finS
        have e4 : textS (shS f (takeS s p)) = textS (takeS s p) := rfl
        have e5 : longS (shS f (takeS s p)) = longS (takeS s p) := by
          unfold longS
          have e7 : (shS f (takeS s p)).out.length = (takeS s p).out.length := List.length_map _
          rw [e4, e7]
          rfl
        have e6 : closeS (shS f (takeS s p)) = shS f (closeS (takeS s p)) := by
          unfold closeS shS
          dsimp only
          rw [List.map_append]
          rfl
        rw [e4, e5, e6]
        split
        · exact run_sh f ps _
        · split
          · rfl
          · exact run_sh f ps _
theorem shS0 (f : Nat → Nat) (hf : f 0 = 0) : shS f s0 = s0 := by
  unfold shS s0 shP
  dsimp only
  rw [hf]
  rfl
/- a line more -/
def shift (k n : Nat) : Nat := if n > k then n + 1 else n
theorem pieces_after (k : Nat) : ∀ (ls : List B) (j : Nat), k ≤ j → piecesP (j + 1) ls = (piecesP j ls).map (shP (shift k))
  | [], _, _ => rfl
  | x :: l, j, h => by
    unfold piecesP
    rw [pieces_after k l (j + 1) (by omega)]
    split
    · rfl
    · rw [List.map_cons]
      congr 1
      unfold shP shift
      rw [if_pos (by show j + 1 > k; omega)]
theorem pieces_more (k : Nat) {b : B} (hb : txt b = []) : ∀ (ls : List B) (j i : Nat), j + i = k → i ≤ ls.length → piecesP j (ls.take i ++ b :: ls.drop i) = (piecesP j ls).map (shP (shift k))
  | ls, j, 0, h, _ => by
    rw [List.take_zero, List.drop_zero, List.nil_append]
    show (if txt b == [] then _ else _) = _
    rw [hb]
    exact pieces_after k ls j (by omega)
  | [], j, i + 1, _, h => by simp at h
  | x :: l, j, i + 1, h, hl => by
    rw [List.take_succ_cons, List.drop_succ_cons, List.cons_append]
    unfold piecesP
    rw [pieces_more k hb l (j + 1) i (by omega) (by simpa using hl)]
    split
    · rfl
    · rw [List.map_cons]
      congr 1
      unfold shP shift
      rw [if_neg (by show ¬ j + 1 > k; omega)]
theorem wrong_more (k : Nat) {b : B} (hb : b.all okB = true) : ∀ (ls : List B) (j i : Nat), j + i = k → i ≤ ls.length → wrongL j (ls.take i ++ b :: ls.drop i) = shift k (wrongL j ls)
  | ls, j, 0, h, _ => by
    have after : ∀ (ls : List B) (j : Nat), k ≤ j → wrongL (j + 1) ls = shift k (wrongL j ls) := by
      intro ls
      induction ls with
      | nil => intro j _; unfold wrongL shift; rw [if_neg (by omega)]
      | cons x l ih =>
        intro j hj
        unfold wrongL
        split
        · exact ih (j + 1) (by omega)
        · unfold shift
          rw [if_pos (by omega)]
    rw [List.take_zero, List.drop_zero, List.nil_append]
    show (if b.all okB then _ else _) = _
    rw [hb]
    exact after ls j (by omega)
  | [], j, i + 1, _, h => by simp at h
  | x :: l, j, i + 1, h, hl => by
    rw [List.take_succ_cons, List.drop_succ_cons, List.cons_append]
    unfold wrongL
    split
    · exact wrong_more k hb l (j + 1) i (by omega) (by simpa using hl)
    · unfold shift
      rw [if_neg (by omega)]
theorem no10 : ∀ {s acc x : B}, (10 : UInt8) ∉ acc → x ∈ linesA acc s → (10 : UInt8) ∉ x
  | [], acc, x, ha, h => by
    simp only [linesA, List.mem_singleton] at h
    rw [h]
    exact ha
  | c :: l, acc, x, ha, h => by
    rw [linesA_cons] at h
    split at h
    · rcases List.mem_cons.1 h with rfl | h
      · exact ha
      · exact no10 (by simp) h
    · rename_i hc
      refine no10 ?_ h
      intro hm
      rcases List.mem_append.1 hm with hm | hm
      · exact ha hm
      · exact hc (by rw [← List.mem_singleton.1 hm]; rfl)
theorem lines_join : ∀ {ls : List B}, ls ≠ [] → (∀ x ∈ ls, (10 : UInt8) ∉ x) → lines (Lib.join ls [10]) = ls
  | [], h, _ => absurd rfl h
  | [x], _, h => by
    have e : Lib.join [x] [10] = x := Lib.join_one x [10]
    rw [e]
    unfold lines
    rw [linesA_miss (h x (by simp))]
    rfl
  | x :: y :: l, _, h => by
    have e : Lib.join (x :: y :: l) [10] = x ++ 10 :: Lib.join (y :: l) [10] := by
      rw [Lib.join_cons, Lib.join_cons]
      simp [Lib.joinTail]
    rw [e]
    unfold lines
    rw [linesA_hit (h x (by simp))]
    show _ :: lines _ = _
    rw [lines_join (by simp) fun z hz => h z (by simp [hz])]
    rfl
theorem join_len : ∀ {ls : List B}, ls ≠ [] → (Lib.join ls [10]).length + 1 = (ls.map fun x => x.length + 1).sum
  | [], h => absurd rfl h
  | [x], _ => by
    rw [Lib.join_one]
    simp
  | x :: y :: l, _ => by
    have e : Lib.join (x :: y :: l) [10] = x ++ 10 :: Lib.join (y :: l) [10] := by
      rw [Lib.join_cons, Lib.join_cons]
      simp [Lib.joinTail]
    have := join_len (ls := y :: l) (by simp)
    rw [e, List.length_append, List.length_cons, List.map_cons, List.sum_cons]
    omega
theorem blank_txt (n : Nat) (c : B) : txt (List.replicate n 32 ++ 45 :: 45 :: c) = [] := by
  have e : cutL (List.replicate n 32 ++ 45 :: 45 :: c) = List.replicate n 32 := by
    induction n with
    | zero => rfl
    | succ n ih =>
      rw [List.replicate_succ, List.cons_append]
      unfold cutL
      rw [ih]
      rfl
  unfold txt bodyL
  rw [e]
  have h1 : Lib.trimRightB (List.replicate n 32) 32 = [] := by
    unfold Lib.trimRightB
    rw [List.reverse_replicate, ← List.append_nil (List.replicate n (32 : UInt8)), drop_rep]
    rfl
  rw [h1]
  rfl
theorem blank_txt0 (n : Nat) : txt (List.replicate n 32) = [] := by
  have e : cutL (List.replicate n 32) = List.replicate n 32 := cutL_of fun k h1 _ => by
    rw [List.getElem?_replicate] at h1
    split at h1
    · cases h1
    · cases h1
  unfold txt bodyL
  rw [e]
  have h1 : Lib.trimRightB (List.replicate n 32) 32 = [] := by
    unfold Lib.trimRightB
    rw [List.reverse_replicate, ← List.append_nil (List.replicate n (32 : UInt8)), drop_rep]
    rfl
  rw [h1]
  rfl
theorem rows_blank {src b : B} {k : Nat} (hs : src.length ≤ 2000) (hb : txt b = []) (ho : b.all okB = true) (hl : b.length ≤ 200) (hk : k ≤ (lines src).length) :
    rowsP (Lib.join ((lines src).take k ++ b :: (lines src).drop k) [10]) = shO (shift k) (rowsP src) ∧ (Lib.join ((lines src).take k ++ b :: (lines src).drop k) [10]).length ≤ 2300 := by
  have hne : (lines src).take k ++ b :: (lines src).drop k ≠ [] := by simp
  have hno : ∀ x ∈ (lines src).take k ++ b :: (lines src).drop k, (10 : UInt8) ∉ x := by
    intro x hx
    rcases List.mem_append.1 hx with hx | hx
    · exact no10 (by simp) (List.mem_of_mem_take hx)
    · rcases List.mem_cons.1 hx with rfl | hx
      · exact ok10 ho
      · exact no10 (by simp) (List.mem_of_mem_drop hx)
  have hls := lines_join hne hno
  have hlen := join_len hne
  have hsum : ((lines src).map fun x => x.length + 1).sum = [].length + src.length + 1 := sum_lines src []
  have hsum2 : (((lines src).take k ++ b :: (lines src).drop k).map fun x => x.length + 1).sum = b.length + 1 + ((lines src).map fun x => x.length + 1).sum := by
    rw [← congrArg List.sum (congrArg (List.map fun x : B => x.length + 1) (List.take_append_drop k (lines src)))]
    simp only [List.map_append, List.map_cons, List.sum_append, List.sum_cons]
    omega
  rw [hsum2, hsum] at hlen
  simp only [List.length_nil] at hlen
  generalize hJ : Lib.join ((lines src).take k ++ b :: (lines src).drop k) [10] = J at *
  refine ⟨?_, by omega⟩
  have hw : wrongP 1 J = shift k (wrongP 1 src) := by
    rw [← wrong_lines, ← wrong_lines, hls]
    exact wrong_more k ho (lines src) 0 k (by omega) hk
  have hp : piecesP 0 (lines J) = (piecesP 0 (lines src)).map (shP (shift k)) := by
    rw [hls]
    exact pieces_more k hb (lines src) 0 k (by omega) hk
  unfold rowsP
  rw [if_neg (show ¬ J.length > 65536 by omega), if_neg (show ¬ src.length > 65536 by omega), hw, hp]
  by_cases h0 : wrongP 1 src > 0
  · rw [if_pos h0, if_pos (by unfold shift; split <;> omega)]
    rfl
  · have h1 : wrongP 1 src = 0 := by omega
    rw [if_neg h0, h1, if_neg (by unfold shift; split <;> omega)]
    have := run_sh (shift k) (piecesP 0 (lines src)) s0
    rw [shS0 _ (by unfold shift; rw [if_neg (by omega)])] at this
    exact this
theorem alike_sh (f : Nat → Nat) : ∀ l : List Rw, eqL eqA (l.map (shR f)) l = true
  | [] => rfl
  | x :: r => by
    show (eqA _ _ && eqL eqA (r.map (shR f)) r) = true
    rw [alike_sh f r]
    simp [eqA, shR]
end Go.Ly

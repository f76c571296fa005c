/- layout: the source text of rows is read as these rows, in plain Lean. -/
import Derived.Test.YtmffmpadfpajcaaDoorLayU
namespace Go.Ly
open Go.Eng
def lineR (x : Rw) : B := List.replicate (2 * x.depth.toNat) 32 ++ x.text
def renP (k : Nat) : List Rw → List Pc
  | [] => []
  | x :: r => ⟨k + 1, 2 * x.depth.toNat, x.text⟩ :: renP (k + 1) r
def renR (k : Nat) : List Rw → List Rw
  | [] => []
  | x :: r => ⟨(k + 1 : Nat), x.depth, x.text⟩ :: renR (k + 1) r
theorem alike_ren : ∀ (l : List Rw) (k : Nat), eqL eqA (renR k l) l = true
  | [], _ => rfl
  | x :: r, k => by
    show (eqA _ _ && eqL eqA (renR (k + 1) r) r) = true
    rw [alike_ren r (k + 1)]
    simp [eqA]
theorem ok10 {s : B} (h : s.all okB = true) : (10 : UInt8) ∉ s := fun hm => by
  have := List.all_eq_true.1 h 10 hm
  exact absurd this (by decide)
theorem ok_rep (n : Nat) : (List.replicate n (32 : UInt8)).all okB = true := by
  rw [List.all_eq_true]
  intro x hx
  rw [List.eq_of_mem_replicate hx]
  decide
theorem line_ok {x : Rw} (h : TxtV x.text) : (lineR x).all okB = true := by
  unfold lineR
  rw [List.all_append, ok_rep, h.ok]
  rfl
theorem lines_src : ∀ {l : List Rw}, (∀ x ∈ l, TxtV x.text) → lines (srcP l) = l.map lineR ++ [[]]
  | [], _ => rfl
  | x :: r, h => by
    have ih := lines_src (l := r) fun y hy => h y (by simp [hy])
    have e : srcP (x :: r) = lineR x ++ 10 :: srcP r := by simp [srcP, srcR, lineR]
    rw [e]
    unfold lines
    rw [linesA_hit (ok10 (line_ok (h x (by simp))))]
    show _ :: lines (srcP r) = _
    rw [ih]
    rfl
theorem rep_noD (n : Nat) {s : B} (h : noD s) : noD (List.replicate n 32 ++ s) := fun k h1 h2 => by
  rcases Nat.lt_or_ge k n with hk | hk
  · rw [List.getElem?_append_left (by simpa using hk), List.getElem?_replicate, if_pos hk] at h1
    cases h1
  · rw [List.getElem?_append_right (by simpa using hk)] at h1
    rw [List.getElem?_append_right (by simp; omega)] at h2
    simp only [List.length_replicate] at h1 h2
    exact h (k - n) h1 (by rw [← h2]; congr 1; omega)
theorem body_line {x : Rw} (h : TxtV x.text) : bodyL (lineR x) = lineR x := by
  unfold bodyL
  rw [cutL_of (show noD (lineR x) from rep_noD _ h.nd)]
  refine trimR_of ?_
  unfold lineR
  rw [List.getLast?_append]
  cases e : x.text.getLast? with
  | none => exact absurd (List.getLast?_eq_none_iff.1 e) h.ne
  | some c => have := h.ls; rw [e] at this; exact this
theorem drop_rep (n : Nat) (s : B) : (List.replicate n (32 : UInt8) ++ s).dropWhile (· == 32) = s.dropWhile (· == 32) := by
  induction n with
  | zero => rfl
  | succ n ih => rw [List.replicate_succ, List.cons_append, List.dropWhile_cons_of_pos (by decide), ih]
theorem txt_line {x : Rw} (h : TxtV x.text) : txt (lineR x) = x.text := by
  unfold txt
  rw [body_line h]
  unfold lineR Lib.trimLeftB
  rw [drop_rep]
  exact trimL_of h.hd
theorem ind_line {x : Rw} (h : TxtV x.text) : ind (lineR x) = 2 * x.depth.toNat := by
  unfold ind
  rw [body_line h, txt_line h]
  unfold lineR
  rw [List.length_append, List.length_replicate]
  omega
theorem pieces_src : ∀ {l : List Rw} (k : Nat), (∀ x ∈ l, TxtV x.text) → piecesP k (l.map lineR ++ [[]]) = renP k l
  | [], k, _ => rfl
  | x :: r, k, h => by
    have hx := h x (by simp)
    rw [List.map_cons, List.cons_append]
    unfold piecesP
    rw [txt_line hx, ind_line hx, if_neg (by simpa using hx.ne), pieces_src (k + 1) fun y hy => h y (by simp [hy])]
    rfl
theorem run_ren : ∀ {l : List Rw} {k : Nat} {no d : Int} {s : S}, chain no d l → s.parts = [] → s.before = d → -1 ≤ d → s.out.length + l.length ≤ 2048 → run (renP k l) s = (s.out ++ renR k l, 0, 0)
  | [], k, no, d, s, _, hp, _, _, _ => by
    unfold renP renR
    rw [run_done hp, List.append_nil]
  | x :: r, k, no, d, s, h, hp, hb, hd, hl => by
    obtain ⟨h1, h2, h3, h4, h5, h6⟩ := badR_no h.1
    obtain ⟨v1, v2, v3, v4, v5, v6⟩ := validP_spec h6
    have e2 : 2 * x.depth.toNat / 2 = x.depth.toNat := by omega
    unfold renP
    rw [run_first hp, if_neg]
    · have et : textS (takeS s ⟨k + 1, 2 * x.depth.toNat, x.text⟩) = x.text := by rw [text_take, hp]; rfl
      have ef : (takeS s ⟨k + 1, 2 * x.depth.toNat, x.text⟩).first = ⟨k + 1, 2 * x.depth.toNat, x.text⟩ := by simp [takeS, hp]
      have eo : (takeS s ⟨k + 1, 2 * x.depth.toNat, x.text⟩).out = s.out := rfl
      have hlg : longS (takeS s ⟨k + 1, 2 * x.depth.toNat, x.text⟩) = false := by
        simp only [List.length_cons] at hl
        unfold longS
        rw [et, ef, eo, e2]
        simp only [Bool.or_eq_false_iff, decide_eq_false_iff_not]
        exact ⟨⟨by omega, by omega⟩, by omega⟩
      unfold finS
      rw [et, v5, hlg]
      simp only [Bool.false_eq_true, if_false]
      have ec : (closeS (takeS s ⟨k + 1, 2 * x.depth.toNat, x.text⟩)).out = s.out ++ [⟨(k + 1 : Nat), x.depth, x.text⟩] := by
        show (takeS s _).out ++ [_] = _
        rw [et, ef, eo, e2, show ((x.depth.toNat : Nat) : Int) = x.depth by omega]
      have ebf : (closeS (takeS s ⟨k + 1, 2 * x.depth.toNat, x.text⟩)).before = x.depth := by
        show (((takeS s _).first.ind / 2 : Nat) : Int) = _
        rw [ef, e2]
        omega
      rw [run_ren (no := x.no) (d := x.depth) h.2 rfl ebf (by omega) (by rw [ec]; simp only [List.length_append, List.length_cons, List.length_nil] at hl ⊢; omega), ec]
      simp [renR]
    · simp only [Bool.or_eq_true, decide_eq_true_eq, not_or]
      exact ⟨by omega, by rw [e2, hb]; omega⟩
theorem rows_src {l : List Rw} (h : chain 0 (-1) l) (hl : l.length ≤ 2048) (hz : (srcP l).length ≤ 65536) : rowsP (srcP l) = (renR 0 l, 0, 0) := by
  have hv : ∀ x ∈ l, TxtV x.text := fun x hx => TxtV.of_valid (mayA_all (mayA_of (sz := 0) h (by omega)) x hx).2.2
  unfold rowsP
  have hls := lines_src hv
  have hw : wrongP 1 (srcP l) = 0 := by
    rw [← wrong_lines, hls]
    refine wrongL_none 0 fun x hx => ?_
    rcases List.mem_append.1 hx with hx | hx
    · obtain ⟨y, hy, rfl⟩ := List.mem_map.1 hx
      exact line_ok (hv y hy)
    · rw [List.mem_singleton.1 hx]
      rfl
  rw [if_neg (by omega), hw, if_neg (by omega), hls, pieces_src 0 hv]
  exact run_ren h rfl rfl (by decide) (by show 0 + _ ≤ _; omega)
theorem may_chain {l : List Rw} (h : chain 0 (-1) l) (hl : l.length ≤ 2048) (hz : (srcP l).length ≤ 65536) : mayP l = true ∧ sourceP l = (srcP l, 0) := by
  have h1 : mayP l = true := by
    unfold mayP
    rw [if_neg (by omega)]
    exact mayA_of h (by omega)
  refine ⟨h1, ?_⟩
  unfold sourceP
  rw [h1, if_neg (by decide), if_neg (by omega)]
theorem last_no {l : List Rw} {no : Int} (h0 : l ≠ []) : ∃ x, l[l.length - 1]? = some x ∧ x.no = endNo no l := by
  rcases List.eq_nil_or_concat l with rfl | ⟨r, x, rfl⟩
  · exact absurd rfl h0
  · rw [List.concat_eq_append]
    exact ⟨x, by simp, (endNo_snoc r no x).symm⟩
end Go.Ly

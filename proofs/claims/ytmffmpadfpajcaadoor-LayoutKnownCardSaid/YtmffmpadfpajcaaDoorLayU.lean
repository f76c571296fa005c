/- layout: the rows that are read are valid, and are read again from their own text, in plain Lean. -/
import Derived.Test.YtmffmpadfpajcaaDoorLayT
namespace Go.Ly
open Go.Eng
def chain (no depth : Int) : List Rw → Prop
  | [] => True
  | x :: r => badR no depth x = false ∧ chain x.no x.depth r
def endNo (no : Int) : List Rw → Int
  | [] => no
  | x :: r => endNo x.no r
def endDp (d : Int) : List Rw → Int
  | [] => d
  | x :: r => endDp x.depth r
theorem endNo_snoc : ∀ (l : List Rw) (no : Int) (x : Rw), endNo no (l ++ [x]) = x.no
  | [], _, _ => rfl
  | y :: r, _, x => endNo_snoc r y.no x
theorem endDp_snoc : ∀ (l : List Rw) (no : Int) (x : Rw), endDp no (l ++ [x]) = x.depth
  | [], _, _ => rfl
  | y :: r, _, x => endDp_snoc r y.depth x
theorem chain_snoc : ∀ {l : List Rw} {no d : Int} {x : Rw}, chain no d l → badR (endNo no l) (endDp d l) x = false → chain no d (l ++ [x])
  | [], _, _, _, _, h => ⟨h, trivial⟩
  | _ :: _, _, _, _, h, h2 => ⟨h.1, chain_snoc h.2 h2⟩
theorem mayA_of : ∀ {l : List Rw} {no d sz : Int}, chain no d l → sz + (srcP l).length ≤ 65537 → mayA no d sz l = true
  | [], _, _, _, _, h => by simpa [mayA, srcP] using h
  | x :: r, no, d, sz, h, hz => by
    obtain ⟨h1, h2, h3, h4, h5, h6⟩ := badR_no h.1
    have e : ((srcP (x :: r)).length : Int) = 2 * x.depth + x.text.length + 1 + (srcP r).length := by
      have : (srcP (x :: r)).length = (srcR x).length + (srcP r).length := by simp [srcP]
      rw [this]
      simp only [srcR, List.length_append, List.length_replicate, List.length_cons, List.length_nil]
      omega
    unfold mayA
    rw [h.1]
    exact mayA_of h.2 (by omega)
theorem mayA_chain : ∀ {l : List Rw} {no d sz : Int}, mayA no d sz l = true → chain no d l
  | [], _, _, _, _ => trivial
  | x :: r, no, d, sz, h => by
    unfold mayA at h
    split at h
    · cases h
    · rename_i hb
      exact ⟨by simpa using hb, mayA_chain h⟩

structure PcV (p : Pc) : Prop where
  tx : TxtV p.text
  lo : 1 ≤ p.no
  no : p.no ≤ 65536
def Srt (N : Nat) : List Pc → Prop
  | [] => True
  | p :: r => N < p.no ∧ Srt p.no r
theorem pieces_srt : ∀ (ls : List B) (k N : Nat), N ≤ k → Srt N (piecesP k ls)
  | [], _, _, _ => trivial
  | x :: l, k, N, h => by
    unfold piecesP
    split
    · exact pieces_srt l (k + 1) N (by omega)
    · exact ⟨by show N < k + 1; omega, pieces_srt l (k + 1) (k + 1) (Nat.le_refl _)⟩
structure VS (N : Nat) (s : S) : Prop where
  ch : chain 0 (-1) s.out
  dp : endDp (-1) s.out = s.before
  no : endNo 0 s.out ≤ N
  ln : s.out.length ≤ 2048
  pa : s.parts ≠ [] → endNo 0 s.out < s.first.no ∧ s.first.no ≤ N ∧ s.first.no ≤ 65536 ∧ s.first.ind % 2 = 0 ∧ ((s.first.ind / 2 : Nat) : Int) ≤ s.before + 1 ∧ TxtV (textS s)
theorem VS.start : VS 0 s0 := ⟨trivial, rfl, by decide, by decide, fun h => absurd rfl h⟩
theorem VS.take {N : Nat} {s : S} {p : Pc} (h : VS N s) (hn : N < p.no) (hp : PcV p) (hs : s.parts = [] → p.ind % 2 = 0 ∧ ((p.ind / 2 : Nat) : Int) ≤ s.before + 1) : VS p.no (takeS s p) := by
  have h1 := h.no
  refine ⟨h.ch, h.dp, by show endNo 0 s.out ≤ _; omega, h.ln, fun _ => ?_⟩
  have hno := hp.no
  by_cases h0 : s.parts = []
  · obtain ⟨a1, a2⟩ := hs h0
    have ef : (takeS s p).first = p := by simp [takeS, h0]
    rw [ef, text_take, h0]
    exact ⟨by show endNo 0 s.out < _; omega, Nat.le_refl _, hno, a1, a2, hp.tx⟩
  · have ef : (takeS s p).first = s.first := by simp [takeS, h0]
    obtain ⟨b1, b2, b3, b4, b5, b6⟩ := h.pa h0
    rw [ef, text_take, if_neg (by simpa using h0)]
    exact ⟨b1, by omega, b3, b4, b5, b6.join hp.tx⟩
theorem VS.close {N : Nat} {s : S} (h : VS N s) (h0 : s.parts ≠ []) (hl : longS s = false) (hc : cont (textS s) = false) : VS N (closeS s) := by
  obtain ⟨b1, b2, b3, b4, b5, b6⟩ := h.pa h0
  simp only [longS, Bool.or_eq_false_iff, decide_eq_false_iff_not] at hl
  obtain ⟨⟨l1, l2⟩, l3⟩ := hl
  have hln := h.ln
  have hv := b6.valid (by omega) hc
  have hb : badR (endNo 0 s.out) (endDp (-1) s.out) ⟨s.first.no, ((s.first.ind / 2 : Nat) : Int), textS s⟩ = false := by
    rw [h.dp]
    simp only [badR, Bool.or_eq_false_iff, decide_eq_false_iff_not, hv, Bool.not_true]
    refine ⟨⟨⟨⟨by omega, by omega⟩, by omega⟩, ?_⟩, trivial⟩
    split <;> omega
  refine ⟨chain_snoc h.ch hb, endDp_snoc _ _ _, ?_, by simp only [closeS, List.length_append, List.length_singleton]; omega, fun h => absurd rfl h⟩
  show endNo 0 (s.out ++ [_]) ≤ _
  rw [endNo_snoc]
  show (s.first.no : Int) ≤ N
  omega
theorem run_valid : ∀ {ps : List Pc} {s : S} {N M : Nat} {l : List Rw}, Srt N ps → (∀ p ∈ ps, PcV p ∧ p.no ≤ M) → N ≤ M → VS N s → run ps s = (l, 0, 0) → chain 0 (-1) l ∧ l.length ≤ 2048 ∧ endNo 0 l ≤ M
  | [], s, N, M, l, _, _, hM, hv, hr => by
    unfold run at hr
    split at hr
    · cases hr
      exact ⟨hv.ch, hv.ln, by have := hv.no; omega⟩
    · simp at hr
  | p :: ps, s, N, M, l, hs, hp, hM, hv, hr => by
    obtain ⟨hp1, hp2⟩ := hp p (by simp)
    have go : (s.parts = [] → p.ind % 2 = 0 ∧ ((p.ind / 2 : Nat) : Int) ≤ s.before + 1) → finS (run ps) (takeS s p) = (l, 0, 0) → chain 0 (-1) l ∧ l.length ≤ 2048 ∧ endNo 0 l ≤ M := by
      intro hst hf
      have hv2 := hv.take hs.1 hp1 hst
      unfold finS at hf
      split at hf
      · exact run_valid hs.2 (fun q hq => hp q (by simp [hq])) hp2 hv2 hf
      · rename_i hc
        split at hf
        · simp at hf
        · rename_i hlg
          exact run_valid hs.2 (fun q hq => hp q (by simp [hq])) hp2 (hv2.close (by simp [takeS]) (by simpa using hlg) (by simpa using hc)) hf
    by_cases h0 : s.parts = []
    · rw [run_first h0] at hr
      split at hr
      · simp at hr
      · rename_i hb
        simp only [Bool.or_eq_true, decide_eq_true_eq, not_or] at hb
        exact go (fun _ => ⟨by omega, by omega⟩) hr
    · rw [run_more h0] at hr
      split at hr
      · simp at hr
      · exact go (fun e => absurd e h0) hr
theorem run_err : ∀ {ps : List Pc} {s : S} {M : Nat}, (∀ p ∈ ps, 1 ≤ p.no ∧ p.no ≤ M) → (s.parts ≠ [] → (1 ≤ s.first.no ∧ s.first.no ≤ M) ∧ 1 ≤ s.last ∧ s.last ≤ M) →
    ((run ps s).2.2 = 0 ∧ (run ps s).2.1 = 0) ∨ ((run ps s).1 = [] ∧ ((run ps s).2.2 = 5 ∨ (run ps s).2.2 = 70 ∨ (run ps s).2.2 = 3) ∧ 1 ≤ (run ps s).2.1 ∧ (run ps s).2.1 ≤ M)
  | [], s, M, _, hs => by
    unfold run
    split
    · exact .inl ⟨rfl, rfl⟩
    · rename_i h0
      exact .inr ⟨rfl, .inl rfl, (hs (by simpa using h0)).2⟩
  | p :: ps, s, M, hp, hs => by
    have hp1 := hp p (by simp)
    have h2 : (takeS s p).parts ≠ [] → (1 ≤ (takeS s p).first.no ∧ (takeS s p).first.no ≤ M) ∧ 1 ≤ (takeS s p).last ∧ (takeS s p).last ≤ M := fun _ => by
      by_cases h0 : s.parts = []
      · have ef : (takeS s p).first = p := by simp [takeS, h0]
        rw [ef]
        exact ⟨hp1, hp1⟩
      · have ef : (takeS s p).first = s.first := by simp [takeS, h0]
        rw [ef]
        exact ⟨(hs h0).1, hp1⟩
    rw [run_cons]
    split
    · exact .inr ⟨rfl, .inr (.inl rfl), hp1⟩
    · split
      · exact .inr ⟨rfl, .inr (.inl rfl), hp1⟩
      · unfold finS
        split
        · exact run_err (fun q hq => hp q (by simp [hq])) h2
        · split
          · exact .inr ⟨rfl, .inr (.inr rfl), (h2 (by simp [takeS])).1⟩
          · exact run_err (fun q hq => hp q (by simp [hq])) fun h => absurd rfl h
def costP : List Pc → Nat
  | [] => 0
  | p :: r => p.ind + p.text.length + 1 + costP r
def openS (s : S) : Nat := if s.parts.isEmpty then 0 else 2 * (s.first.ind / 2) + (textS s).length + 1
theorem open_take (s : S) (p : Pc) : openS (takeS s p) ≤ openS s + (p.ind + p.text.length + 1) := by
  unfold openS
  rw [text_take]
  by_cases h0 : s.parts = []
  · simp [takeS, h0]
    omega
  · simp [takeS, h0]
    omega
theorem run_size : ∀ {ps : List Pc} {s : S} {l : List Rw}, run ps s = (l, 0, 0) → (srcP l).length ≤ (srcP s.out).length + openS s + costP ps
  | [], s, l, hr => by
    unfold run at hr
    split at hr
    · cases hr
      omega
    · simp at hr
  | p :: ps, s, l, hr => by
    have ht := open_take s p
    rw [run_cons] at hr
    split at hr
    · simp at hr
    · split at hr
      · simp at hr
      · unfold finS at hr
        have hc : costP (p :: ps) = p.ind + p.text.length + 1 + costP ps := rfl
        split at hr
        · have := run_size hr
          have e : (takeS s p).out = s.out := rfl
          rw [e] at this
          omega
        · split at hr
          · simp at hr
          · have := run_size hr
            have e1 : openS (closeS (takeS s p)) = 0 := rfl
            have e2 : (srcP (closeS (takeS s p)).out).length = (srcP s.out).length + openS (takeS s p) := by
              have : (takeS s p).parts.isEmpty = false := by simp [takeS]
              unfold openS
              rw [this]
              simp [closeS, srcP, srcR, takeS]
              omega
            rw [e1, e2] at this
            omega
theorem cost_pieces : ∀ (ls : List B) (k : Nat), costP (piecesP k ls) ≤ (ls.map fun x => x.length + 1).sum
  | [], _ => Nat.le_refl _
  | x :: l, k => by
    have ih := cost_pieces l (k + 1)
    have h1 : ind x + (txt x).length ≤ x.length := by
      have := bodyL_le x
      have := txt_le x
      unfold ind
      omega
    unfold piecesP
    split
    · simp only [List.map_cons, List.sum_cons]
      omega
    · simp only [List.map_cons, List.sum_cons, costP]
      omega
theorem sum_lines : ∀ (s acc : B), ((linesA acc s).map fun x => x.length + 1).sum = acc.length + s.length + 1
  | [], acc => by simp [linesA]
  | c :: l, acc => by
    rw [linesA_cons]
    split
    · have := sum_lines l []
      simp only [List.map_cons, List.sum_cons, this, List.length_nil, List.length_cons]
      omega
    · have := sum_lines l (acc ++ [c])
      simp only [this, List.length_append, List.length_cons, List.length_nil]
      omega
theorem count_lines : ∀ (s acc : B), (linesA acc s).length = s.count 10 + 1
  | [], acc => rfl
  | c :: l, acc => by
    rw [linesA_cons, List.count_cons]
    split
    · rw [List.length_cons, count_lines l []]
    · exact count_lines l _
theorem wrongL_le : ∀ (ls : List B) (k : Nat), wrongL k ls ≤ k + ls.length ∧ (wrongL k ls = 0 ∨ k < wrongL k ls)
  | [], k => ⟨Nat.zero_le _, .inl rfl⟩
  | x :: l, k => by
    obtain ⟨h1, h2⟩ := wrongL_le l (k + 1)
    unfold wrongL
    split
    · simp only [List.length_cons]
      exact ⟨by omega, by rcases h2 with h | h; exact .inl h; exact .inr (by omega)⟩
    · simp only [List.length_cons]
      exact ⟨by omega, .inr (by omega)⟩
theorem wrongL_zero : ∀ {ls : List B} {k : Nat}, wrongL k ls = 0 → ∀ x ∈ ls, x.all okB = true
  | [], _, _, x, hx => by cases hx
  | y :: l, k, h, x, hx => by
    unfold wrongL at h
    split at h
    · rename_i hy
      rcases List.mem_cons.1 hx with rfl | hx
      · exact hy
      · exact wrongL_zero h x hx
    · omega
theorem wrongL_none : ∀ {ls : List B} (k : Nat), (∀ x ∈ ls, x.all okB = true) → wrongL k ls = 0
  | [], _, _ => rfl
  | y :: l, k, h => by
    unfold wrongL
    rw [h y (by simp)]
    exact wrongL_none (k + 1) fun x hx => h x (by simp [hx])

/- what is asked of an error -/
theorem rows_err {src : B} (hs : src.length ≤ 65536) : ((rowsP src).2.2 = 0 ∧ (rowsP src).2.1 = 0) ∨ ((rowsP src).1 = [] ∧ ((rowsP src).2.2 = 5 ∨ (rowsP src).2.2 = 70 ∨ (rowsP src).2.2 = 3) ∧ 1 ≤ (rowsP src).2.1 ∧ (rowsP src).2.1 ≤ (lines src).length) := by
  unfold rowsP
  rw [if_neg (by omega)]
  split
  · rename_i hw
    refine .inr ⟨rfl, .inl rfl, by show 1 ≤ wrongP 1 src; omega, ?_⟩
    have := (wrongL_le (lines src) 0).1
    rw [wrong_lines] at this
    show wrongP 1 src ≤ _
    omega
  · refine run_err (fun p hp => ?_) fun h => absurd rfl h
    obtain ⟨_, _, h1, h2⟩ := pieces_in hp
    omega
/- what is read -/
theorem rows_valid {src : B} (hs : src.length ≤ 3000) {l : List Rw} {no : Nat} (h : rowsP src = (l, no, 0)) : no = 0 ∧ chain 0 (-1) l ∧ l.length ≤ 2048 ∧ endNo 0 l ≤ (lines src).length ∧ (srcP l).length ≤ 3001 := by
  have h0 : no = 0 := by
    rcases rows_err (src := src) (by omega) with ⟨_, h2⟩ | ⟨_, h2, _⟩
    · rw [h] at h2; exact h2
    · rw [h] at h2; simp at h2
  subst h0
  have hlen := lines_count src []
  have hlen : (lines src).length ≤ src.length + 1 := hlen
  unfold rowsP at h
  rw [if_neg (by omega)] at h
  split at h
  · simp at h
  · rename_i hw
    have hw0 : wrongL 0 (lines src) = 0 := by rw [wrong_lines]; omega
    have hok := wrongL_zero hw0
    have hv := run_valid (pieces_srt (lines src) 0 0 (Nat.le_refl _)) (M := (lines src).length) (fun p hp => by
      obtain ⟨h1, ⟨x, hx, h2, _⟩, h3, h4⟩ := pieces_in hp
      refine ⟨⟨?_, by omega, by omega⟩, by omega⟩
      rw [h2] at h1 ⊢
      exact txt_V (hok x hx) h1) (Nat.zero_le _) VS.start h
    have hz := run_size h
    have hc := cost_pieces (lines src) 0
    have hsum := sum_lines src []
    have hsum : ((lines src).map fun x => x.length + 1).sum = [].length + src.length + 1 := hsum
    have e1 : openS s0 = 0 := rfl
    have e2 : (srcP s0.out).length = 0 := rfl
    simp only [List.length_nil] at hsum
    exact ⟨rfl, hv.1, hv.2.1, hv.2.2, by omega⟩
end Go.Ly

/- types: the reference's search for the type in front finds what front reads. -/
import Derived.Test.YtcejocfjienpfaaDoorTypZ
namespace Go.Ty
open Go.Lx
def dimC (l : List Tok) : Bool := ((decide ((l.length : Int) > 1) && ((tokAt l 0).text == lb)) && decide ((tokAt l 1).n ≥ 1)) && decide ((tokAt l 1).n ≤ 64)
def dimL (l : List Tok) : Int := if dimC l then (tokAt l 1).n else 0
def protoC (l : List Tok) (i : Nat) : Bool := decide ((i : Int) < (l.length : Int)) && ((tokAt l i).kind == 1)
def protoAt (l : List Tok) (i : Nat) : B := if protoC l i then (tokAt l i).text else []
def cand (l : List Tok) (k it : Int) (i : Nat) : Ty := ⟨k, dimL l, it, protoAt l i⟩
def good (l : List Tok) (t : Ty) : Bool := may t && begF l (toks t)
theorem good_tokens (l : List Tok) (t : Ty) : (((tokens t).2 == 0) && begF l (tokens t).1) = good l t := by
  unfold good
  cases h : may t with
  | true => rw [tokens_yes h]; rfl
  | false => rw [tokens_no h]; rfl
theorem good_front {l : List Tok} {t : Ty} (h : good l t = true) : front l = (t, (toks t).length, 0) := by
  unfold good at h
  simp only [Bool.and_eq_true] at h
  exact front_of h.1 ((begF_iff l _ 0).1 h.2)
theorem first_key {t : Ty} (h : may t = true) : ∃ s w, toks t = dimT t ++ keyT s :: w ∧ s ≠ lb := by
  cases may_shape h with
  | plain k d hk e => subst e; exact ⟨_, _, toks_k k d hk, by rcases is_three hk with rfl | rfl | rfl <;> decide⟩
  | timer e => subst e; exact ⟨_, _, rfl, by decide⟩
  | item k d hk e => subst e; exact ⟨_, _, toks_i k d hk, by decide⟩
  | proto s d hs e => subst e; exact ⟨_, _, toks_p s d hs, by decide⟩
theorem dimL_of {l : List Tok} {t : Ty} (h : may t = true) (hb : begAt l 0 (toks t)) : dimL l = t.dim ∧ (tokAt l 0).kind ≠ 1 := by
  have hd := may_dim h
  obtain ⟨s, w, e, hs⟩ := first_key h
  rw [e, begAt_app] at hb
  by_cases h0 : t.dim = 0
  · have ed : dimT t = [] := by unfold dimT; rw [h0]; rfl
    rw [ed] at hb
    have m : M l 0 (keyT s) := hb.2.1
    have e1 := (M_tokAt.1 m).2
    have et : (tokAt l 0).text = s := congrArg Tok.text e1
    have ek : (tokAt l 0).kind = 2 := congrArg Tok.kind e1
    refine ⟨?_, by rw [ek]; decide⟩
    have : dimC l = false := by unfold dimC; rw [et]; simp [hs]
    unfold dimL
    rw [this, h0]
    rfl
  · have ed : dimT t = [symT lb, ⟨3, 0, [], t.dim⟩, symT rb] := by unfold dimT; rw [if_pos (by simp; omega)]
    rw [ed] at hb
    obtain ⟨⟨m0, m1, m2, _⟩, _⟩ := hb
    have et : (tokAt l 0).text = lb := congrArg Tok.text (M_tokAt.1 m0).2
    have ek : (tokAt l 0).kind = 5 := congrArg Tok.kind (M_tokAt.1 m0).2
    have en : (tokAt l 1).n = t.dim := congrArg Tok.n (M_tokAt.1 m1).2
    have hl := m1.lt
    refine ⟨?_, by rw [ek]; decide⟩
    have : dimC l = true := by
      unfold dimC
      rw [et, en]
      simp
      omega
    unfold dimL
    rw [this, if_pos rfl, en]
theorem front_none {l : List Tok} (h : ∀ (k it i : Nat), 1 ≤ k → k < 6 → it < 4 → i ≤ l.length → i < 7 → good l (cand l k it i) = false) : front l = (zeroT, 0, 90) := by
  rcases front_to l with h0 | ⟨t, hm, hb, _⟩
  · exact h0
  · exfalso
    obtain ⟨hd, hk1⟩ := dimL_of hm hb
    have hg : good l t = true := by unfold good; rw [hm, show begF l (toks t) = true from (begF_iff l _ 0).2 hb]; rfl
    have p0 : protoAt l 0 = [] := by unfold protoAt protoC; rw [show ((tokAt l 0).kind == 1) = false by simpa using hk1, Bool.and_false]; rfl
    cases may_shape hm with
    | plain k d hk e =>
      subst e
      have ec : ∀ n : Nat, (n : Int) = k → cand l n (0 : Nat) 0 = ⟨k, d, 0, []⟩ := fun n hn => by unfold cand; rw [hd, p0, hn]; rfl
      rcases is_three hk with rfl | rfl | rfl
      · have := h 1 0 0 (by omega) (by omega) (by omega) (by omega) (by omega); rw [ec 1 rfl, hg] at this; cases this
      · have := h 2 0 0 (by omega) (by omega) (by omega) (by omega) (by omega); rw [ec 2 rfl, hg] at this; cases this
      · have := h 3 0 0 (by omega) (by omega) (by omega) (by omega) (by omega); rw [ec 3 rfl, hg] at this; cases this
    | timer e =>
      subst e
      have := h 5 0 0 (by omega) (by omega) (by omega) (by omega) (by omega)
      unfold cand at this
      rw [hd, p0] at this
      rw [show (⟨(5 : Nat), Ty.dim ⟨5, 0, 0, []⟩, (0 : Nat), []⟩ : Ty) = ⟨5, 0, 0, []⟩ from rfl, hg] at this
      cases this
    | item k d hk e =>
      subst e
      have ec : ∀ n : Nat, (n : Int) = k → cand l (4 : Nat) n 0 = ⟨4, d, k, []⟩ := fun n hn => by unfold cand; rw [hd, p0, hn]; rfl
      rcases is_three hk with rfl | rfl | rfl
      · have := h 4 1 0 (by omega) (by omega) (by omega) (by omega) (by omega); rw [ec 1 rfl, hg] at this; cases this
      · have := h 4 2 0 (by omega) (by omega) (by omega) (by omega) (by omega); rw [ec 2 rfl, hg] at this; cases this
      · have := h 4 3 0 (by omega) (by omega) (by omega) (by omega) (by omega); rw [ec 3 rfl, hg] at this; cases this
    | proto s d hs e =>
      subst e
      rw [toks_p s d hs, begAt_app, Nat.zero_add] at hb
      obtain ⟨_, m0, m1, m2, _⟩ := hb
      have m2' : M l ((dimT ⟨4, d, 0, s⟩).length + 2) ⟨1, 0, s, 0⟩ := m2
      have hl := dimT_le ⟨4, d, 0, s⟩
      generalize (dimT ⟨4, d, 0, s⟩).length = n at m2' hl
      have hlt := m2'.lt
      have e1 := (M_tokAt.1 m2').2
      have et : (tokAt l (n + 2)).text = s := congrArg Tok.text e1
      have ek : (tokAt l (n + 2)).kind = 1 := congrArg Tok.kind e1
      have pn : protoAt l (n + 2) = s := by
        have : protoC l (n + 2) = true := by unfold protoC; rw [ek]; simp; omega
        unfold protoAt
        rw [this, if_pos rfl, et]
      have := h 4 0 (n + 2) (by omega) (by omega) (by omega) (by omega) (by omega)
      unfold cand at this
      rw [hd, pn] at this
      rw [show (⟨(4 : Nat), Ty.dim ⟨4, d, 0, s⟩, (0 : Nat), s⟩ : Ty) = ⟨4, d, 0, s⟩ from rfl, hg] at this
      cases this
theorem begF_self (l : List Tok) : ∀ {w : List Tok}, (∀ y, y ∈ w → strip y = y) → begF (w ++ l) w = true
  | [], _ => by cases l <;> rfl
  | y :: w, h => by
    show (eqK (strip y) y && begF (w ++ l) w) = true
    rw [h y List.mem_cons_self, (eqK_iff y y).2 rfl, begF_self l fun z hz => h z (List.mem_cons_of_mem _ hz)]
    rfl
theorem begF_at {l w : List Tok} (h : begF l w = true) {j : Nat} {x y : Tok} (hx : l[j]? = some x) (hy : w[j]? = some y) : strip x = y := by
  induction w generalizing l j with
  | nil => cases hy
  | cons z w ih =>
    cases l with
    | nil => cases hx
    | cons v l =>
      unfold begF at h
      simp only [Bool.and_eq_true] at h
      cases j with
      | zero => cases hx; cases hy; exact (eqK_iff _ _).1 h.1
      | succ j => exact ih h.2 hx hy
theorem begF_le {l w : List Tok} (h : begF l w = true) : w.length ≤ l.length := by
  by_cases e : l.length < w.length
  · rw [begF_short e] at h; cases h
  · omega
theorem wordS_le (k : Int) : (wordS k).1.length ≤ 4 := by
  unfold wordS prims wordIn wordIn wordIn wordIn
  repeat' split
  all_goals decide
theorem toks_mem {t : Ty} (h : may t = true) (hs : t.proto.length ≤ 9223372036854775807) : ∀ y, y ∈ toks t → strip y = y ∧ (-2147483648 ≤ y.n ∧ y.n ≤ 2147483647) ∧ y.text.length ≤ 9223372036854775807 := by
  have hd := may_dim h
  have key : ∀ s : B, s.length ≤ 9223372036854775807 → strip (keyT s) = keyT s ∧ (-2147483648 ≤ (keyT s).n ∧ (keyT s).n ≤ 2147483647) ∧ (keyT s).text.length ≤ 9223372036854775807 := fun s hl => ⟨rfl, by show (-2147483648 : Int) ≤ 0 ∧ (0 : Int) ≤ 2147483647; omega, hl⟩
  have hdim : ∀ y, y ∈ dimT t → strip y = y ∧ (-2147483648 ≤ y.n ∧ y.n ≤ 2147483647) ∧ y.text.length ≤ 9223372036854775807 := by
    intro y hy
    unfold dimT at hy
    split at hy
    · simp only [List.mem_cons, List.not_mem_nil, or_false] at hy
      rcases hy with rfl | rfl | rfl
      · exact ⟨rfl, by decide, by decide⟩
      · exact ⟨rfl, by show -2147483648 ≤ t.dim ∧ t.dim ≤ 2147483647; omega, by show (0 : Nat) ≤ _; omega⟩
      · exact ⟨rfl, by decide, by decide⟩
    · cases hy
  intro y hy
  unfold toks at hy
  simp only [List.mem_append, List.mem_singleton] at hy
  rcases hy with (hy | hy) | hy
  · exact hdim y hy
  · unfold chanT at hy
    split at hy
    · simp only [List.mem_cons, List.not_mem_nil, or_false] at hy
      rcases hy with rfl | rfl
      · exact key _ (by decide)
      · exact key _ (by decide)
    · cases hy
  · subst hy
    unfold lastT
    split
    · exact key _ (by have := wordS_le (baseT t); omega)
    · split
      · exact ⟨rfl, by show (-2147483648 : Int) ≤ 0 ∧ (0 : Int) ≤ 2147483647; omega, hs⟩
      · exact key _ (by decide)
theorem toks_len (t : Ty) : 1 ≤ (toks t).length ∧ (toks t).length ≤ 6 := by
  have h1 := dimT_le t
  have h2 := chanT_le t
  unfold toks
  simp only [List.length_append, List.length_singleton]
  omega
theorem front_back {t : Ty} (h : may t = true) (hs : t.proto.length ≤ 9223372036854775807) (l : List Tok) : front (toks t ++ l) = (t, (toks t).length, 0) :=
  front_of h ((begF_iff _ _ 0).1 (begF_self l fun y hy => (toks_mem h hs y hy).1))
theorem tkOk_app {t : Ty} (h : may t = true) (hs : t.proto.length ≤ 9223372036854775807) {l : List Tok} (hl : TkOk l) : TkOk (toks t ++ l) := by
  intro x hx
  rcases List.mem_append.1 hx with hx | hx
  · exact (toks_mem h hs x hx).2
  · exact hl x hx
theorem proto_le {t : Ty} {l : List Tok} (h : may t = true) (hb : begAt l 0 (toks t)) (hl : TkOk l) : t.proto.length ≤ 9223372036854775807 := by
  cases may_shape h with
  | plain k d hk e => subst e; exact Nat.zero_le _
  | timer e => subst e; exact Nat.zero_le _
  | item k d hk e => subst e; exact Nat.zero_le _
  | proto s d hs e =>
    subst e
    rw [toks_p s d hs, begAt_app, Nat.zero_add] at hb
    obtain ⟨_, m0, m1, m2, _⟩ := hb
    obtain ⟨x, hx, e⟩ := m2
    have : x.text = s := congrArg Tok.text e
    show s.length ≤ _
    rw [← this]
    exact (hl x (List.mem_of_getElem? hx)).2
/-- What front gives, in one line. -/
theorem front_or (l : List Tok) {u : Ty} {n : Nat} {e : Int} (h : front l = (u, n, e)) : (u = zeroT ∧ n = 0 ∧ e = 90) ∨ (may u = true ∧ begAt l 0 (toks u) ∧ n = (toks u).length ∧ e = 0) := by
  rcases front_to l with h0 | ⟨t, hm, hb, h0⟩
  · rw [h0] at h; cases h; exact .inl ⟨rfl, rfl, rfl⟩
  · rw [h0] at h; cases h; exact .inr ⟨hm, hb, rfl, rfl⟩
end Go.Ty

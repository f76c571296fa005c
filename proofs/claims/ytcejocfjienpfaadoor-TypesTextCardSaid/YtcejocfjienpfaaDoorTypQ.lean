/- types: the type with which tokens begin. -/
import Derived.Test.YtcejocfjienpfaaDoorTypN
namespace Go.Ty
open Go.Lx
def TkOk (l : List Tok) : Prop := ∀ x, x ∈ l → (-2147483648 ≤ x.n ∧ x.n ≤ 2147483647) ∧ x.text.length ≤ 9223372036854775807
def tokAt (l : List Tok) (n : Nat) : Tok := l.getD n zeroK
theorem tokAt_get {l : List Tok} {n : Nat} (h : n < l.length) : l[n]? = some (tokAt l n) := by
  unfold tokAt; rw [List.getD_eq_getElem?_getD, List.getElem?_eq_getElem h]; rfl
/-- The next token is not this one. -/
def notNext (l : List Tok) (n : Nat) (kd : Int) (s : B) : Bool :=
  decide ((n : Int) ≥ (l.length : Int)) || ((tokAt l n).kind != kd) || !((tokAt l n).text == s) || ((kd != 3) && ((tokAt l n).n != 0))
def next (l : List Tok) (n : Nat) (kd : Int) (s : B) : Bool := !notNext l n kd s
def nx (b : Bool) (n : Nat) : Nat := if b then n + 1 else n
theorem next_lt {l : List Tok} {n : Nat} {kd : Int} {s : B} (h : next l n kd s = true) : n < l.length := by
  unfold next notNext at h
  simp at h
  omega
def namedIn (l : List Tok) (n : Nat) : List Pm → Option Int
  | [] => none
  | p :: r => if next l n 2 p.word then some p.kind else namedIn l n r
theorem namedIn_drop (l : List Tok) (n : Nat) {r : List Pm} {i : Nat} {p : Pm} (hp : r[i]? = some p) : namedIn l n (r.drop i) = if next l n 2 p.word then some p.kind else namedIn l n (r.drop (i + 1)) := by
  have h1 : i < r.length := (List.getElem?_eq_some_iff.1 hp).1
  rw [List.drop_eq_getElem_cons h1, (List.getElem?_eq_some_iff.1 hp).2]
  rfl
def named (l : List Tok) (n : Nat) : Option Int := namedIn l n prims
def nmB (l : List Tok) (n : Nat) : Bool := (named l n).isSome
def setKind (t : Ty) : Option Int → Ty
  | some k => { t with kind := k }
  | none => t
def setItem (t : Ty) : Option Int → Ty
  | some k => { t with item := k }
  | none => t
theorem namedIn_lt {l : List Tok} {n : Nat} : ∀ {r : List Pm} {k : Int}, namedIn l n r = some k → n < l.length
  | p :: r, k, h => by
    unfold namedIn at h
    split at h
    · rename_i hn; exact next_lt hn
    · exact namedIn_lt h
theorem nmB_lt {l : List Tok} {n : Nat} (h : nmB l n = true) : n < l.length := by
  unfold nmB at h
  cases hn : named l n with
  | none => rw [hn] at h; cases h
  | some k => exact namedIn_lt hn
/-- Behind the size: whether all is well, the size, how many tokens. -/
def pre (l : List Tok) : Bool × Int × Nat :=
  if next l 0 5 lb then
    (if next l 1 3 [] then
      (if decide ((tokAt l 1).n > 0) && next l 2 5 rb then (true, (tokAt l 1).n, 3) else (false, (tokAt l 1).n, 2))
     else (false, 0, 1))
  else (true, 0, 0)
/-- Behind the kind. -/
def mid (l : List Tok) : Bool × Ty × Nat :=
  match pre l with
  | (false, d, n) => (false, ⟨0, d, 0, []⟩, n)
  | (true, d, n) =>
    match named l n with
    | some k => (true, ⟨k, d, 0, []⟩, n + 1)
    | none =>
      if next l n 2 cCHAN then
        (if next l (n + 1) 2 cOF then
          (match named l (n + 2) with
           | some k => (true, ⟨4, d, k, []⟩, n + 3)
           | none => if decide ((n + 2 : Nat) < (l.length : Int)) && next l (n + 2) 1 (tokAt l (n + 2)).text then (true, ⟨4, d, 0, (tokAt l (n + 2)).text⟩, n + 3) else (true, ⟨4, d, 0, []⟩, n + 2))
         else (false, ⟨4, d, 0, []⟩, n + 1))
      else if next l n 2 cTIMER then (true, ⟨5, d, 0, []⟩, n + 1) else (true, ⟨0, d, 0, []⟩, n)
def front (l : List Tok) : Ty × Nat × Int :=
  match mid l with
  | (ok, t, n) => if !ok || !may t then (zeroT, 0, 90) else (t, n, 0)
theorem nx_le {b : Bool} {n L : Nat} (h1 : b = true → n < L) (h2 : n ≤ L) : nx b n ≤ L := by
  unfold nx
  cases b
  · exact h2
  · exact h1 rfl
theorem pre_TT {l : List Tok} (h1 : next l 0 5 lb = true) (h2 : next l 1 3 [] = true) :
    pre l = (decide ((tokAt l 1).n > 0) && next l 2 5 rb, (tokAt l 1).n, nx (decide ((tokAt l 1).n > 0) && next l 2 5 rb) 2) := by
  unfold pre
  rw [h1, h2]
  generalize (decide ((tokAt l 1).n > 0) && next l 2 5 rb) = b
  cases b <;> rfl
theorem pre_TF {l : List Tok} (h1 : next l 0 5 lb = true) (h2 : next l 1 3 [] = false) : pre l = (false, 0, 1) := by
  unfold pre
  rw [h1, h2]
  rfl
theorem pre_F {l : List Tok} (h1 : next l 0 5 lb = false) : pre l = (true, 0, 0) := by
  unfold pre
  rw [h1]
  rfl
theorem mid_T30 {l : List Tok} {ok : Bool} {d : Int} {n : Nat} (hP : pre l = (ok, d, n)) (hc : (!ok || nmB l n) = true) : mid l = (ok, setKind ⟨0, d, 0, []⟩ (if ok then named l n else none), nx (ok && nmB l n) n) := by
  unfold mid
  rw [hP]
  cases ok with
  | false => rfl
  | true =>
    unfold nmB at hc ⊢
    cases hn : named l n with
    | none => rw [hn] at hc; cases hc
    | some k => simp only [hn]; rfl
theorem named_none {l : List Tok} {n : Nat} (h : nmB l n = false) : named l n = none := by
  unfold nmB at h
  cases hn : named l n with
  | none => rfl
  | some k => rw [hn] at h; cases h
theorem mid_65 {l : List Tok} {d : Int} {n N N2 : Nat} {o b : Bool} {T2 : Ty} (hP : pre l = (true, d, n)) (hn : named l n = none) (h38 : next l n 2 cCHAN = true) (ho : next l (n + 1) 2 cOF = o) (hN : nx o (n + 1) = N) (hN2 : nx (o && nmB l N) N = N2)
    (hT : setItem ⟨4, d, 0, []⟩ (if o then named l N else none) = T2) (hb : ((o && !nmB l N) && decide ((N2 : Int) < l.length) && next l N2 1 (tokAt l N2).text) = b) :
    mid l = (o, if b then { T2 with proto := (tokAt l N2).text } else T2, nx b N2) := by
  unfold mid
  rw [hP]
  simp only [hn, h38, ho, if_true]
  cases o with
  | false =>
    subst hT hN2 hN
    simp at hb
    subst hb
    rfl
  | true =>
    have e : N = n + 2 := hN.symm
    subst e
    simp only [if_true]
    unfold nmB at hN2 hb
    cases hm : named l (n + 2) with
    | some k =>
      rw [hm] at hN2 hb hT
      simp at hb
      subst hb hT hN2
      rfl
    | none =>
      rw [hm] at hN2 hb hT
      have e : N2 = n + 2 := hN2.symm
      subst e
      have hb' : (decide (((n + 2 : Nat) : Int) < (l.length : Int)) && next l (n + 2) 1 (tokAt l (n + 2)).text) = b := by simpa using hb
      simp only [hb']
      subst hT
      cases b <;> rfl
theorem mid_T73 {l : List Tok} {d : Int} {n : Nat} (hP : pre l = (true, d, n)) (hn : named l n = none) (h38 : next l n 2 cCHAN = false) (h73 : next l n 2 cTIMER = true) : mid l = (true, ⟨5, d, 0, []⟩, n + 1) := by
  unfold mid
  rw [hP]
  simp only [hn, h38, h73, if_true, Bool.false_eq_true, if_false]
theorem mid_F73 {l : List Tok} {d : Int} {n : Nat} (hP : pre l = (true, d, n)) (hn : named l n = none) (h38 : next l n 2 cCHAN = false) (h73 : next l n 2 cTIMER = false) : mid l = (true, ⟨0, d, 0, []⟩, n) := by
  unfold mid
  rw [hP]
  simp only [hn, h38, h73, Bool.false_eq_true, if_false]
theorem front_no {l : List Tok} {ok : Bool} {t : Ty} {n : Nat} (h : mid l = (ok, t, n)) (hc : (!ok || !may t) = true) : front l = (zeroT, 0, 90) := by
  unfold front
  rw [h]
  simp only [hc, if_true]
theorem front_yes {l : List Tok} {ok : Bool} {t : Ty} {n : Nat} (h : mid l = (ok, t, n)) (hc : (!ok || !may t) = false) : front l = (t, n, 0) := by
  unfold front
  rw [h]
  simp only [hc, Bool.false_eq_true, if_false]
theorem wrapN {z : Int} (h : -2147483648 ≤ z ∧ z ≤ 2147483647) : IntKind.i64.wrap z = z := by
  unfold IntKind.wrap
  simp [IntKind.bits, IntKind.signed]
  omega
end Go.Ty

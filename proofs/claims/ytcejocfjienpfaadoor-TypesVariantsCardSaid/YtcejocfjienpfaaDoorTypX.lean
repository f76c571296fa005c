/- types: what is found, in plain Lean. -/
import Derived.Test.YtcejocfjienpfaaDoorTypM
namespace Go.Ty
open Go.Lx
theorem tagIn_app (t : B) (xs ys : List Vr) : tagIn t (xs ++ ys) = (tagIn t xs || tagIn t ys) := by simp [tagIn]
theorem mayIn_no : ∀ {l pre : List Vr}, mayIn pre l = true → ∀ v, v ∈ l → tagIn v.tag pre = false
  | [], _, _, v, hv => by cases hv
  | w :: r, pre, h, v, hv => by
    unfold mayIn at h
    cases hb : badV pre w with
    | true => rw [hb] at h; cases h
    | false =>
      rw [hb] at h
      rcases List.mem_cons.1 hv with rfl | hv
      · unfold badV at hb
        simp only [Bool.or_eq_false_iff] at hb
        exact hb.2
      · have := mayIn_no h v hv
        rw [tagIn_app] at this
        simp only [Bool.or_eq_false_iff] at this
        exact this.1
theorem mayIn_find : ∀ {l pre : List Vr} {j : Nat} {v : Vr} (k : Nat), mayIn pre l = true → l[j]? = some v → findV v.tag l k = some (v, k + j)
  | [], _, _, _, _, _, hv => by simp at hv
  | w :: r, pre, 0, v, k, _, hv => by
    have e : w = v := by simpa using hv
    subst e
    unfold findV
    simp
  | w :: r, pre, j + 1, v, k, h, hv => by
    unfold mayIn at h
    cases hb : badV pre w with
    | true => rw [hb] at h; cases h
    | false =>
      rw [hb] at h
      have hv' : r[j]? = some v := by simpa using hv
      have h1 := mayIn_no h v (List.mem_of_getElem? hv')
      rw [tagIn_app] at h1
      simp [tagIn] at h1
      unfold findV
      rw [if_neg (by simpa using h1.2), mayIn_find (k + 1) h hv']
      congr 2
      omega
theorem mayPr_find {cs : Bool} {l : List Vr} {j : Nat} {v : Vr} (h : mayPr cs l = true) (hv : l[j]? = some v) : findW cs l v.tag = (v, j, true) := by
  refine findW_some h ?_
  unfold mayPr at h
  cases cs with
  | false =>
    simp only [Bool.not_false, if_true, Bool.and_eq_true] at h
    match l, h.1.1, hv with
    | [w], _, hv =>
      have hj : j = 0 := by have := (List.getElem?_eq_some_iff.1 hv).1; simp at this; omega
      subst hj
      have e : w = v := by simpa using hv
      subst e
      unfold findV
      simp
  | true =>
    simp only [Bool.not_true, Bool.false_eq_true, if_false] at h
    split at h
    · cases h
    · rw [mayIn_find 0 h hv, Nat.zero_add]
theorem findW_ok {m : Eng.View} {h : List Eng.Res} {a : Option Addr} {k c : Nat} {l : List Vr} {cs : Bool} {tag : B} {v : Vr} {j : Nat} {b : Bool} (hp : PrOk m h a k c l) (hf : findW cs l tag = (v, j, b)) : VOk m h v ∧ v.items.length ≤ 8 := by
  have hz : VOk m h zeroV ∧ zeroV.items.length ≤ 8 := ⟨⟨Eng.Rd.nilF encI 1 m h⟩, by decide⟩
  unfold findW at hf
  split at hf
  · rename_i hm
    cases hq : findV tag l 0 with
    | none => rw [hq] at hf; cases hf; exact hz
    | some p =>
      obtain ⟨w, i⟩ := p
      rw [hq] at hf
      cases hf
      have hin : ∀ (l : List Vr) (k : Nat), findV tag l k = some (v, j) → v ∈ l := by
        intro l
        induction l with
        | nil => intro k h; cases h
        | cons w r ih =>
          intro k h
          unfold findV at h
          split at h
          · cases h; exact List.mem_cons_self
          · exact List.mem_cons_of_mem _ (ih _ h)
      have hvl := hin _ _ hq
      exact ⟨hp.ok _ hvl, mayPr_items hm _ hvl⟩
  · cases hf; exact hz
theorem encI_set (xs : List Int) (j : Nat) (z : Int) : (Eng.fl encI xs).set (j * 1) (.int .u8 z) = Eng.fl encI (xs.set j z) := by
  have e : ∀ ys : List Int, Eng.fl encI ys = ys.map (fun k => Value.int .u8 k) := by
    intro ys
    induction ys with
    | nil => rfl
    | cons y ys ih => show _ :: Eng.fl encI ys = _; rw [ih]; rfl
  rw [e, e, Nat.mul_one, List.map_set]
theorem encI_fl_len (xs : List Int) : (Eng.fl encI xs).length = xs.length * 1 := by
  induction xs with
  | nil => rfl
  | cons y ys ih => show (Eng.fl encI ys).length + 1 = _; rw [ih]; simp
end Go.Ty

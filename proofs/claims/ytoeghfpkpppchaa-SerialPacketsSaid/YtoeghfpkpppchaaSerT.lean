/- serial: scripts of packets, and cuts. -/
import Derived.Test.YtoeghfpkpppchaaSerR
namespace Go.Ser
open Go Go.Eng

def itemB (x : Stp) : List Int := if x.what == 0#8 then sbits x.by_ else if x.what == 1#8 then [1, 0] else [0]
def itemH (x : Stp) : List Heard := if x.what == 0#8 then [⟨1#8, x.by_⟩] else if x.what == 1#8 then [⟨2#8, 0#8⟩] else []
def bitsOf (l : List Stp) : List Int := l.flatMap itemB
def heardOf (l : List Stp) : List Heard := l.flatMap itemH
theorem bits_succ {l : List Stp} {j : Nat} {x : Stp} (hx : l[j]? = some x) : bitsOf (l.take (j + 1)) = bitsOf (l.take j) ++ itemB x := by
  rw [take_snoc hx, bitsOf, List.flatMap_append]; simp [bitsOf]
theorem heard_succ {l : List Stp} {j : Nat} {x : Stp} (hx : l[j]? = some x) : heardOf (l.take (j + 1)) = heardOf (l.take j) ++ itemH x := by
  rw [take_snoc hx, heardOf, List.flatMap_append]; simp [heardOf]
theorem itemB_len (x : Stp) : (itemB x).length ≤ 11 ∧ 0 < (itemB x).length := by
  unfold itemB; split
  · simp [bits_len]
  · split <;> simp
theorem itemH_len (x : Stp) : (itemH x).length ≤ 1 := by
  unfold itemH; split
  · simp
  · split <;> simp
theorem bits_bd (l : List Stp) : ∀ j, j ≤ l.length → (bitsOf (l.take j)).length ≤ 11 * j ∧ (heardOf (l.take j)).length ≤ j
  | 0, _ => by simp [bitsOf, heardOf]
  | j + 1, h => by
    obtain ⟨x, hx⟩ := get_some (l := l) (k := j) (by omega)
    obtain ⟨h1, h2⟩ := bits_bd l j (by omega)
    have := (itemB_len x).1
    have := itemH_len x
    rw [bits_succ hx, heard_succ hx, List.length_append, List.length_append]
    omega
/-- The places between the packets. -/
def ksOf (l : List Stp) : Nat → List Int
  | 0 => [0]
  | j + 1 => ((bitsOf (l.take (j + 1))).length : Int) :: ksOf l j
theorem ks_iff (l : List Stp) (n : Nat) : ∀ j, (n : Int) ∈ ksOf l j ↔ ∃ i, i ≤ j ∧ n = (bitsOf (l.take i)).length
  | 0 => by
    simp only [ksOf, List.mem_singleton]
    constructor
    · intro h; exact ⟨0, Nat.le_refl _, by simp [bitsOf]; omega⟩
    · rintro ⟨i, hi, e⟩
      have : i = 0 := by omega
      subst this
      simp [bitsOf] at e; omega
  | j + 1 => by
    rw [ksOf, List.mem_cons, ks_iff l n j]
    constructor
    · rintro (h | ⟨i, hi, e⟩)
      · exact ⟨j + 1, Nat.le_refl _, by omega⟩
      · exact ⟨i, by omega, e⟩
    · rintro ⟨i, hi, e⟩
      by_cases hij : i = j + 1
      · subst hij; exact .inl (by omega)
      · exact .inr ⟨i, by omega, e⟩

theorem pk_item (x : Stp) (l : List Heard) (q : List Int) : pkL zeroS l (itemB x ++ q) = pkL zeroS (l ++ itemH x) q := by
  unfold itemB itemH
  split
  · exact pk_data _ _ _
  · split
    · exact pk_ack _ _
    · rw [List.append_nil]; exact pk_zero _ _
theorem part_data (x : BitVec 8) (n : Nat) (h0 : 0 < n) (hn : n < 11) : okBits zeroS ((sbits x).take n) = true ∧ eqS (hearL zeroS [] ((sbits x).take n)).1 zeroS = false := by
  have h := all8 (p := fun x => (List.range 11).all fun n => (n == 0) || (okBits zeroS ((sbits x).take n) && !eqS (hearL zeroS [] ((sbits x).take n)).1 zeroS)) (by decide +kernel) x
  have h1 := List.all_eq_true.1 h n (List.mem_range.2 hn)
  have h2 : (n == 0) = false := by simp; omega
  rw [h2, Bool.false_or, Bool.and_eq_true] at h1
  exact ⟨h1.1, by simpa using h1.2⟩
theorem part_item (x : Stp) (l : List Heard) (n : Nat) (h0 : 0 < n) (hn : n < (itemB x).length) : ∃ s l', pkL zeroS l ((itemB x).take n) = some (s, l') ∧ eqS s zeroS = false := by
  have fin : ∀ r, okBits zeroS r = true → eqS (hearL zeroS [] r).1 zeroS = false → ∃ s l', pkL zeroS l r = some (s, l') ∧ eqS s zeroS = false := fun r h1 h2 =>
    ⟨(hearL zeroS l r).1, (hearL zeroS l r).2, pk_end h1, by rw [hear_l]; exact h2⟩
  unfold itemB at hn ⊢
  split at hn
  · rename_i hx
    rw [if_pos hx]
    rw [bits_len] at hn
    obtain ⟨h1, h2⟩ := part_data x.by_ n h0 hn
    exact fin _ h1 h2
  · rename_i hx
    rw [if_neg hx]
    split at hn
    · rename_i hy
      rw [if_pos hy]
      simp at hn
      have : n = 1 := by omega
      subst this
      exact fin _ (by decide +kernel) (by decide +kernel)
    · simp at hn; omega
theorem cut_pk : ∀ (l : List Stp) (acc : List Heard) (n : Nat), n ≤ (bitsOf l).length →
    (∃ j, j ≤ l.length ∧ n = (bitsOf (l.take j)).length ∧ pkL zeroS acc ((bitsOf l).take n) = some (zeroS, acc ++ heardOf (l.take j))) ∨
    ((∀ j, j ≤ l.length → n ≠ (bitsOf (l.take j)).length) ∧ ∃ s l', pkL zeroS acc ((bitsOf l).take n) = some (s, l') ∧ eqS s zeroS = false)
  | [], acc, n, hn => by
    have : n = 0 := by simpa [bitsOf] using hn
    subst this
    exact .inl ⟨0, Nat.le_refl _, rfl, by simp [bitsOf, heardOf, pkL]⟩
  | x :: l, acc, n, hn => by
    have eb : bitsOf (x :: l) = itemB x ++ bitsOf l := by simp [bitsOf]
    have ej : ∀ j, bitsOf ((x :: l).take (j + 1)) = itemB x ++ bitsOf (l.take j) := fun j => by simp [bitsOf]
    have eh : ∀ j, heardOf ((x :: l).take (j + 1)) = itemH x ++ heardOf (l.take j) := fun j => by simp [heardOf]
    rw [eb, List.length_append] at hn
    rw [eb]
    rcases Nat.lt_or_ge n (itemB x).length with h | h
    · rcases Nat.eq_zero_or_pos n with rfl | h0
      · exact .inl ⟨0, by omega, by simp [bitsOf], by simp [heardOf, pkL]⟩
      · refine .inr ⟨fun j hj => ?_, ?_⟩
        · cases j with
          | zero => simp [bitsOf]; omega
          | succ j => rw [ej, List.length_append]; omega
        · rw [List.take_append_of_le_length (by omega)]
          exact part_item x acc n h0 h
    · have et : (itemB x ++ bitsOf l).take n = itemB x ++ (bitsOf l).take (n - (itemB x).length) := by
        rw [List.take_append, List.take_of_length_le h]
      rw [et, pk_item]
      rcases cut_pk l (acc ++ itemH x) (n - (itemB x).length) (by omega) with ⟨j, h1, h2, h3⟩ | ⟨h1, h2⟩
      · refine .inl ⟨j + 1, by simp; omega, by rw [ej, List.length_append]; omega, ?_⟩
        rw [h3, eh, List.append_assoc]
      · refine .inr ⟨fun j hj => ?_, h2⟩
        cases j with
        | zero => have := (itemB_len x).2; simp [bitsOf]; omega
        | succ j =>
          have := h1 j (by simp at hj; omega)
          rw [ej, List.length_append]; omega
theorem whole_packets (l : List Stp) : packets (bitsOf l) = (heardOf l, 0) := by
  have key : ∀ (l : List Stp) (acc : List Heard), pkL zeroS acc (bitsOf l) = some (zeroS, acc ++ heardOf l) := by
    intro l
    induction l with
    | nil => intro acc; simp [bitsOf, heardOf, pkL]
    | cons x l ih =>
      intro acc
      rw [show bitsOf (x :: l) = itemB x ++ bitsOf l by simp [bitsOf], pk_item, ih, show heardOf (x :: l) = itemH x ++ heardOf l by simp [heardOf], List.append_assoc]
  rw [packets, key l []]
  dsimp only
  rw [eqS_self, if_pos rfl, List.nil_append]
theorem heard_take (l : List Stp) (j : Nat) : (heardOf (l.take j)).length ≤ (heardOf l).length ∧ (heardOf l).take (heardOf (l.take j)).length = heardOf (l.take j) := by
  have e : heardOf l = heardOf (l.take j) ++ heardOf (l.drop j) := by
    unfold heardOf; rw [← List.flatMap_append, List.take_append_drop]
  rw [e]
  exact ⟨by simp, List.take_left' rfl⟩
theorem cut_in {l : List Stp} {n : Nat} (hn : n ≤ (bitsOf l).length) (h : (n : Int) ∈ ksOf l l.length) : ∃ j, packets ((bitsOf l).take n) = (heardOf (l.take j), 0) := by
  rw [ks_iff] at h
  rcases cut_pk l [] n hn with ⟨j, h1, h2, h3⟩ | ⟨h1, _⟩
  · refine ⟨j, ?_⟩
    rw [packets, h3]
    dsimp only
    rw [eqS_self, if_pos rfl, List.nil_append]
  · obtain ⟨i, hi, e⟩ := h
    exact absurd e (h1 i hi)
theorem cut_out {l : List Stp} {n : Nat} (hn : n ≤ (bitsOf l).length) (h : ¬ (n : Int) ∈ ksOf l l.length) : packets ((bitsOf l).take n) = ([], 330) := by
  rw [ks_iff] at h
  rcases cut_pk l [] n hn with ⟨j, h1, h2, h3⟩ | ⟨_, s, l', h2, h3⟩
  · exact absurd ⟨j, h1, h2⟩ h
  · rw [packets, h2]
    dsimp only
    rw [h3, if_neg (by decide)]
end Go.Ser

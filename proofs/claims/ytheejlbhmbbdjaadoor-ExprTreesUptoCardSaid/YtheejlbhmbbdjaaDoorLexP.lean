/- lex: names and reserved words: the program's are the reference's. -/
import Derived.Test.YtheejlbhmbbdjaaDoorLexM
namespace Go.Lx
theorem ltr_eq (z : Int) : ltr z = ltrR z := by unfold ltr ltrR; rw [Bool.or_comm]
theorem wch_eq (c : UInt8) : wch c = wchR c.toNat := by
  unfold wch wchR
  rw [← ltr_eq, bne]
  cases ltr c.toNat <;> cases dig c.toNat <;> simp
theorem run_all : ∀ s : B, ((run s : Int) == s.length) = allW s
  | [] => rfl
  | c :: l => by
    have ih := run_all l
    unfold run allW
    rw [wch_eq]
    cases wchR c.toNat
    · simp; omega
    · rw [← ih]
      simp only [if_pos, List.length_cons]
      rw [Bool.eq_iff_iff]
      simp
theorem wch_space : wchR ((32 : UInt8).toNat) = false := by decide
theorem allW_ns : ∀ {s : B}, allW s = true → ∀ c ∈ s, c ≠ 32
  | [], _, c, hc => by cases hc
  | x :: l, h, c, hc => by
    unfold allW at h
    split at h
    · rename_i hw
      rcases List.mem_cons.1 hc with rfl | hc
      · rintro rfl
        rw [wch_space] at hw
        cases hw
      · exact allW_ns h c hc
    · cases h
theorem take_word : ∀ {s r : B}, (∀ c ∈ s, c ≠ 32) → (s ++ 32 :: r).takeWhile (· != 32) = s
  | [], _, _ => rfl
  | x :: s, r, hs => by
    have hx : (x != 32) = true := by simpa using hs x (by simp)
    rw [List.cons_append, List.takeWhile_cons, hx, if_pos rfl, take_word fun c hc => hs c (List.mem_cons_of_mem _ hc)]
theorem keys_words : ∀ i, i < 200 → (match (keysB.drop i).takeWhile (· != 32) with | [] => true | w => among w keysL) = true ∨ keysB[i - 1]? ≠ some 32 := by decide +kernel
theorem keys_in : ∀ s ∈ keysL, key s = true := by decide +kernel
theorem key_eq (s : B) : key s = keyR s := by
  rw [Bool.eq_iff_iff]
  constructor
  · intro h
    unfold key at h
    rw [Bool.and_eq_true, Bool.and_eq_true, run_all] at h
    obtain ⟨⟨h0, h1⟩, h2⟩ := h
    have hns := allW_ns h1
    unfold Lib.contains at h2
    have h2 := of_decide_eq_true h2
    rcases Lib.index_spec keysB ([32] ++ s ++ [32]) with ⟨e, _⟩ | ⟨i, _, hi, ho, _⟩
    · omega
    · unfold Lib.occAt at ho
      obtain ⟨r, hr⟩ := List.isPrefixOf_iff_prefix.1 ho
      have h3 : (keysB.drop i)[0]? = some 32 := by rw [← hr]; rfl
      have h4 : keysB.drop (i + 1) = s ++ 32 :: r := by
        rw [← List.tail_drop, ← hr]
        simp
      rw [List.getElem?_drop] at h3
      have hlt : i < keysB.length := (List.getElem?_eq_some_iff.1 h3).1
      have hl : keysB.length ≤ 198 := by decide +kernel
      rcases keys_words (i + 1) (by omega) with h5 | h5
      · rw [h4, take_word hns] at h5
        unfold keyR
        cases s with
        | nil => simp at h0
        | cons c s => exact h5
      · exact absurd h3 h5
  · intro h
    exact keys_in s ((among_iff s _).1 h)
theorem name_eq (s : B) : name s = nameR s := by
  unfold name nameR bad
  rw [run_all, key_eq]
  cases s with
  | nil => rfl
  | cons c s =>
    simp only [ltr_eq]
    have e : decide (((c :: s).length : Int) < 1) = false := by simp; omega
    rw [e]
    have e2 : decide (((c :: s).length : Int) > 32) = !decide (((c :: s).length : Int) ≤ 32) := by rw [← decide_not]; congr 1; simp [Int.not_le]
    rw [e2]
    rw [show (!(c :: s == [])) = true from rfl]
    simp only [Bool.false_or, Bool.true_and]
    generalize decide (((c :: s).length : Int) ≤ 32) = x
    generalize ltrR c.toNat = y
    generalize keyR (c :: s) = z
    generalize allW (c :: s) = u
    cases x <;> cases y <;> cases z <;> cases u <;> rfl
end Go.Lx

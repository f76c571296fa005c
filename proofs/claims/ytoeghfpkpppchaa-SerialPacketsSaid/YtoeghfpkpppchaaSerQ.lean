/- serial: what the statements say, as plain laws. -/
import Derived.Test.YtoeghfpkpppchaaSerP
namespace Go.Ser
open Go Go.Eng

theorem eqSi_self (s : Ser) : eqSi s s = true := by rw [eqSi_eq]; exact eqS_self s
theorem eqHi_self (k : Heard) : eqHi k k = true := by rw [eqHi_eq]; exact (eqH_iff k k).2 rfl

theorem all8 {p : BitVec 8 → Bool} (h : (List.range 256).all (fun i => p (BitVec.ofNat 8 i)) = true) (x : BitVec 8) : p x = true := by
  have h1 := List.all_eq_true.1 h x.toNat (List.mem_range.2 x.isLt)
  rwa [BitVec.ofNat_toNat, BitVec.setWidth_eq] at h1

theorem tx_may (s : Ser) (h : may s = true) : may (tx s).1 = true := by
  have hb := may_bd h
  have h' := h
  simp only [may, Bool.and_eq_true] at h'
  obtain ⟨⟨h1, h2⟩, h3⟩ := h'
  have h4 := (ends_iff s.tb s.tl).1 h1
  have z : ends 0#16 1 = true := by decide
  rw [tx, if_pos h]
  by_cases ht : s.tl > 0
  · rw [if_pos ht]
    simp only [may, Bool.and_eq_true]
    refine ⟨⟨(ends_iff _ _).2 ?_, h2⟩, h3⟩
    rw [BitVec.toNat_ushiftRight, Nat.shiftRight_eq_div_pow, Nat.pow_one]
    have e2 : 2 ^ s.tl.toNat = 2 * 2 ^ (s.tl - 1).toNat := by rw [← Nat.pow_succ']; congr 1; omega
    refine ⟨by omega, by omega, ?_, fun hq => ?_, fun hq => by omega⟩
    · have h5 := h4.2.2.1; rw [e2] at h5; omega
    · have h5 := h4.2.2.2.1 ht
      have e3 : (s.tl - 1).toNat = (s.tl - 1 - 1).toNat + 1 := by omega
      rw [e3, Nat.pow_succ'] at h5
      rw [Nat.div_div_eq_div_mul]; exact h5
  · rw [if_neg ht]
    by_cases ha : s.ack = true
    · rw [if_pos ha]; simp only [may, Bool.and_eq_true]; exact ⟨⟨z, h2⟩, h3⟩
    · rw [if_neg ha]
      by_cases hd : s.data = true
      · rw [if_pos hd]; simp only [may, Bool.and_eq_true]
        refine ⟨⟨?_, h2⟩, by decide⟩
        exact all8 (p := fun x => ends (1#16 ||| (x.setWidth 16) <<< 1) 10) (by decide +kernel) s.by_
      · rw [if_neg hd]; exact h
/-- Receiving looks at what is received alone. -/
theorem rx_swap {s t : Ser} (hs : may s = true) (ht : may t = true) (h1 : t.rl = s.rl) (h2 : t.rb = s.rb) (bit : Int) :
    rx t bit = ({ t with rl := (rx s bit).1.rl, rb := (rx s bit).1.rb }, (rx s bit).2) := by
  rw [rx, rx, if_pos hs, if_pos ht, h1, h2]
  repeat' split
  all_goals (cases t; simp_all)
theorem tx_swap {s t : Ser} (hs : may s = true) (ht : may t = true) (h1 : t.tb = s.tb) (h2 : t.tl = s.tl) (h3 : t.ack = s.ack) (h4 : t.data = s.data) (h5 : t.by_ = s.by_) :
    tx t = ({ t with tb := (tx s).1.tb, tl := (tx s).1.tl, ack := (tx s).1.ack, data := (tx s).1.data, by_ := (tx s).1.by_ }, (tx s).2) := by
  rw [tx, tx, if_pos hs, if_pos ht, h1, h2, h3, h4, h5]
  repeat' split
  all_goals (cases t; simp_all)
theorem tx_rx (s : Ser) : (tx s).1.rl = s.rl ∧ (tx s).1.rb = s.rb := by
  unfold tx
  repeat' split
  all_goals exact ⟨rfl, rfl⟩
theorem apart_eq (s : Ser) (bit : Int) : (rx (tx s).1 bit).1 = (tx (rx s bit).1).1 ∧ (tx s).2 = (tx (rx s bit).1).2 ∧ (rx (tx s).1 bit).2 = (rx s bit).2 := by
  by_cases h : may s = true
  · obtain ⟨a1, a2⟩ := tx_rx s
    obtain ⟨b1, b2, b3, b4, b5⟩ := rx_tx s bit
    rw [rx_swap h (tx_may s h) a1 a2 bit, tx_swap h (rx_may s h bit) b1 b2 b3 b4 b5]
    exact ⟨rfl, rfl, rfl⟩
  · have e1 : tx s = (s, 0) := by rw [tx, if_neg h]
    have e2 : rx s bit = (s, noH) := by rw [rx, if_neg h]
    rw [e1, e2]
    exact ⟨by rw [e1], by rw [e1], rfl⟩
theorem apart_not {s : Ser} (h : may s = false) (bit : Int) : (rx (tx s).1 bit).1 = s ∧ (tx s).2 = 0 ∧ (rx (tx s).1 bit).2 = noH := by
  have h' : ¬ may s = true := by rw [h]; decide
  have e1 : tx s = (s, 0) := by rw [tx, if_neg h']
  have e2 : rx s bit = (s, noH) := by rw [rx, if_neg h']
  rw [e1, e2]; exact ⟨rfl, rfl, rfl⟩
theorem tx_bit (s : Ser) : (tx s).2 = 0 ∨ (tx s).2 = 1 := by
  unfold tx
  repeat' split
  · have := (s.tb &&& 1#16).isLt
    rw [and1]; omega
  all_goals simp
end Go.Ser

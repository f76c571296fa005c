/- serial: two link ends, what is given and what is heard. -/
import Derived.Test.YtoeghfpkpppchaaSerR
namespace Go.Ser
open Go Go.Eng

def bytesOf (l : List Heard) : List (BitVec 8) := (l.filter fun k => k.kind == 1#8).map (·.by_)
def acksOf (l : List Heard) : Int := ((l.filter fun k => k.kind == 2#8).length : Nat)
def waitB (s : Ser) : List (BitVec 8) := if s.data then [s.by_] else []
def waitA (s : Ser) : Int := if s.ack then 1 else 0
def good (l : List Heard) : Prop := ∀ k ∈ l, k.kind = 1#8 ∨ k.kind = 2#8

/-- What holds of the two all the time. -/
structure Inv (p : Pair) : Prop where
  ma : may p.a = true
  ia : I64 p.a
  ra : p.a.rl = 0 ∧ p.a.rb = 0#16
  pb : PkI p.b
  ok : p.wrong = false
  fl : ∃ T, hearL p.b [] (lowN p.a.tb.toNat p.a.tl.toNat) = (zeroS, T) ∧ good T ∧ p.gave = p.heard ++ bytesOf T ++ waitB p.a ∧ p.acks = p.got + acksOf T + waitA p.a
  g0 : 0 ≤ p.got

theorem acksOf_nonneg (l : List Heard) : 0 ≤ acksOf l := by unfold acksOf; omega
theorem waitA_nonneg (s : Ser) : 0 ≤ waitA s := by unfold waitA; split <;> omega
theorem Inv.len {p : Pair} (h : Inv p) : p.heard.length ≤ p.gave.length ∧ p.got ≤ p.acks := by
  obtain ⟨T, _, _, h3, h4⟩ := h.fl
  have := acksOf_nonneg T
  have := waitA_nonneg p.a
  exact ⟨by rw [h3]; simp, by omega⟩

/-- The words of Heard as the pair counts them. -/
theorem heardBy_eq (p : Pair) (k : Heard) (hk : k.kind = 0#8 ∨ k.kind = 1#8 ∨ k.kind = 2#8) :
    heardBy p k = { p with heard := p.heard ++ bytesOf [k], got := p.got + acksOf [k] } := by
  rcases hk with e | e | e <;> cases p <;> simp [heardBy, bytesOf, acksOf, e]
theorem split_hear {s t : Ser} {x : Int} {r : List Int} {T : List Heard} (h : hearL s [] (x :: r) = (t, T)) (hg : good T) :
    ((rx s x).2.kind = 0#8 ∨ (rx s x).2.kind = 1#8 ∨ (rx s x).2.kind = 2#8) ∧ ∃ T', hearL (rx s x).1 [] r = (t, T') ∧ good T' ∧ bytesOf T = bytesOf [(rx s x).2] ++ bytesOf T' ∧ acksOf T = acksOf [(rx s x).2] + acksOf T' := by
  rw [hearL, hear_l] at h
  have e1 := congrArg Prod.fst h
  have e2 := congrArg Prod.snd h
  dsimp only at e1 e2
  generalize hk : (rx s x).2 = k at *
  have hkind := rx_kind s x
  rw [hk] at hkind
  cases h0 : (k.kind != 0#8) with
  | true =>
    rw [h0, if_pos rfl, List.nil_append] at e2
    have hmem : k ∈ T := by rw [← e2]; simp
    have h1 : k.kind = 1#8 ∨ k.kind = 2#8 := hg k hmem
    refine ⟨.inr h1, (hearL (rx s x).1 [] r).2, Prod.ext e1 rfl, fun q hq => hg q (by rw [← e2]; simp [hq]), ?_, ?_⟩
    · rw [← e2]; simp [bytesOf, List.filter_cons]; split <;> simp
    · rw [← e2]; simp only [acksOf, List.filter_cons, List.singleton_append]; split <;> simp <;> omega
  | false =>
    rw [h0, if_neg (by decide), List.nil_append] at e2
    have h1 : k.kind = 0#8 := by simpa using h0
    refine ⟨.inl h1, (hearL (rx s x).1 [] r).2, Prod.ext e1 rfl, fun q hq => hg q (by rw [← e2]; exact hq), ?_, ?_⟩
    · rw [← e2]; simp [bytesOf, h1]
    · rw [← e2]; simp [acksOf, h1]
theorem judge_ok {p : Pair} (h : Inv p) {bit : Int} (hb : bit = 0 ∨ bit = 1) : judge p bit = p := by
  obtain ⟨h1, h2⟩ := h.len
  have e1 : decide (bit < 0) = false := by simp; omega
  have e2 : decide (bit > 1) = false := by simp; omega
  have e3 : decide ((p.heard.length : Int) > p.gave.length) = false := by simp; omega
  have e4 : decide (p.got > p.acks) = false := by simp; omega
  have e5 := h.ok
  unfold judge
  rw [e1, e2, e3, e4, e5]
  cases p
  simp_all
theorem carry_inv {p : Pair} (h : Inv p) : Inv (carry p) ∧ (carry p).a = (tx p.a).1 ∧ (carry p).gave = p.gave ∧ (carry p).acks = p.acks := by
  obtain ⟨T, h1, h2, h3, h4⟩ := h.fl
  have hm := h.ma
  have hb := may_bd hm
  -- what is heard of this bit, and what is still to come
  have key : ((rx p.b (tx p.a).2).2.kind = 0#8 ∨ (rx p.b (tx p.a).2).2.kind = 1#8 ∨ (rx p.b (tx p.a).2).2.kind = 2#8) ∧
      ∃ T', hearL (rx p.b (tx p.a).2).1 [] (lowN (tx p.a).1.tb.toNat (tx p.a).1.tl.toNat) = (zeroS, T') ∧ good T' ∧ bytesOf T ++ waitB p.a = bytesOf [(rx p.b (tx p.a).2).2] ++ bytesOf T' ++ waitB (tx p.a).1 ∧
        acksOf T + waitA p.a = acksOf [(rx p.b (tx p.a).2).2] + acksOf T' + waitA (tx p.a).1 := by
    by_cases ht : p.a.tl > 0
    · have e : lowN p.a.tb.toNat p.a.tl.toNat = (tx p.a).2 :: lowN (tx p.a).1.tb.toNat (tx p.a).1.tl.toNat := by
        have e0 : p.a.tl.toNat = (p.a.tl - 1).toNat + 1 := by omega
        rw [e0, lowN_cons, tx, if_pos hm, if_pos ht]
        dsimp only
        rw [and1, BitVec.toNat_ushiftRight, Nat.shiftRight_eq_div_pow, Nat.pow_one]
      have ew : waitB (tx p.a).1 = waitB p.a ∧ waitA (tx p.a).1 = waitA p.a := by
        rw [tx, if_pos hm, if_pos ht]; exact ⟨rfl, rfl⟩
      rw [e] at h1
      obtain ⟨g1, T', g2, g3, g4, g5⟩ := split_hear h1 h2
      refine ⟨g1, T', g2, g3, ?_, ?_⟩
      · rw [ew.1, g4]
      · rw [ew.2, g5]
    · have e0 : p.a.tl = 0 := by omega
      rw [e0] at h1
      have e1 : p.b = zeroS := congrArg Prod.fst h1
      have e2 : T = [] := (congrArg Prod.snd h1).symm
      subst e2
      rw [e1]
      have r1 : rx zeroS 1 = (⟨0#16, 0, false, false, 0#8, 1, 1#16⟩, noH) := by
        rw [rx_go (by decide) (by decide) (by decide) (by decide) (by decide)]; rfl
      cases ha : p.a.ack with
      | true =>
        rw [tx_ack hm ht ha]
        dsimp only
        rw [r1]
        have hh := hear_ack []
        rw [hearL, r1] at hh
        refine ⟨.inl rfl, [⟨2#8, 0#8⟩], hh, fun k hk => ?_, ?_, ?_⟩
        · simp at hk; subst hk; exact .inr rfl
        · simp [bytesOf, noH, waitB]
        · simp [acksOf, noH, waitA, ha]
      | false =>
        cases hd : p.a.data with
        | true =>
          rw [tx_data hm ht ha hd]
          dsimp only
          rw [r1]
          have hh := hear_data p.a.by_ []
          have e3 : sbits p.a.by_ = 1 :: (sbits p.a.by_).drop 1 := rfl
          rw [e3, hearL, r1] at hh
          have h3' : lowN (numL ((sbits p.a.by_).drop 1)).toNat 10 = (sbits p.a.by_).drop 1 := (eqL_iff eqI_iff).1 (all8 (p := fun x => eqL eqI (lowN (numL ((sbits x).drop 1)).toNat 10) ((sbits x).drop 1)) (by decide +kernel) p.a.by_)
          refine ⟨.inl rfl, [⟨1#8, p.a.by_⟩], ?_, fun k hk => ?_, ?_, ?_⟩
          · rw [show (10 : Int).toNat = 10 from rfl, h3']; exact hh
          · simp at hk; subst hk; exact .inl rfl
          · simp [bytesOf, noH, waitB, hd]
          · simp [acksOf, noH, waitA, ha]
        | false =>
          rw [tx_rest hm ht ha hd]
          dsimp only
          rw [rx_zero, e0]
          refine ⟨.inl rfl, [], rfl, fun k hk => (by cases hk), ?_, ?_⟩
          · simp [bytesOf, noH]
          · simp [acksOf, noH]
  obtain ⟨g1, T', g2, g3, g4, g5⟩ := key
  have hrx := tx_rx p.a
  have hinv : Inv (heardBy (moved p) (rx p.b (tx p.a).2).2) := by
    rw [heardBy_eq _ _ g1]
    refine ⟨tx_may _ hm, tx_I64 h.ia, ⟨hrx.1.trans h.ra.1, hrx.2.trans h.ra.2⟩, PkI_rx h.pb _, h.ok, ⟨T', g2, g3, ?_, ?_⟩, ?_⟩
    · show p.gave = p.heard ++ bytesOf [(rx p.b (tx p.a).2).2] ++ bytesOf T' ++ waitB (tx p.a).1
      rw [h3, List.append_assoc, g4]; simp
    · show p.acks = p.got + acksOf [(rx p.b (tx p.a).2).2] + acksOf T' + waitA (tx p.a).1
      rw [h4]; omega
    · have := acksOf_nonneg [(rx p.b (tx p.a).2).2]
      have := h.g0
      show 0 ≤ p.got + acksOf [(rx p.b (tx p.a).2).2]
      omega
  have e := judge_ok hinv (tx_bit p.a)
  unfold carry
  rw [e]
  refine ⟨hinv, ?_⟩
  rw [heardBy_eq _ _ g1]
  exact ⟨rfl, rfl, rfl⟩
theorem giveD_inv {p : Pair} (h : Inv p) (x : BitVec 8) : Inv (giveD p x) ∧ (giveD p x).gave.length ≤ p.gave.length + 1 ∧ (giveD p x).acks = p.acks := by
  obtain ⟨T, h1, h2, h3, h4⟩ := h.fl
  have hm := h.ma
  have hok := h.ok
  unfold giveD
  cases hd : p.a.data with
  | true =>
    have e : send p.a x = (zeroS, 8) := by rw [send, if_pos hm, if_pos hd]
    rw [if_pos rfl, e]
    have : { p with wrong := p.wrong || ((zeroS, (8 : Int)).2 != 8) } = p := by cases p; simp_all
    rw [this]
    exact ⟨h, by omega, rfl⟩
  | false =>
    have e : send p.a x = ({ p.a with data := true, by_ := x }, 0) := by rw [send, if_pos hm, if_neg (by rw [hd]; decide)]
    rw [if_neg (by decide), e]
    have hm2 : may { p.a with data := true, by_ := x } = true := by
      simp only [may, Bool.and_eq_true] at hm ⊢
      exact ⟨hm.1, rfl⟩
    refine ⟨⟨hm2, h.ia, h.ra, h.pb, ?_, ⟨T, h1, h2, ?_, ?_⟩, h.g0⟩, by simp, rfl⟩
    · show (p.wrong || ((0 : Int) != 0) || !true || ((x.toNat : Int) != (x.toNat : Int))) = false
      rw [hok]; simp
    · show p.gave ++ [x] = p.heard ++ bytesOf T ++ waitB { p.a with data := true, by_ := x }
      rw [h3]; simp [waitB, hd]
    · exact h4
theorem giveA_inv {p : Pair} (h : Inv p) : Inv (giveA p) ∧ (giveA p).gave = p.gave ∧ (giveA p).acks ≤ p.acks + 1 := by
  obtain ⟨T, h1, h2, h3, h4⟩ := h.fl
  have hm := h.ma
  have hok := h.ok
  unfold giveA
  cases hd : p.a.ack with
  | true =>
    have e : Go.Ser.ack p.a = (zeroS, 8) := by rw [ack, if_pos hm, if_pos hd]
    rw [if_pos rfl, e]
    have : { p with wrong := p.wrong || ((zeroS, (8 : Int)).2 != 8) } = p := by cases p; simp_all
    rw [this]
    exact ⟨h, rfl, by omega⟩
  | false =>
    have e : Go.Ser.ack p.a = ({ p.a with ack := true }, 0) := by rw [ack, if_pos hm, if_neg (by rw [hd]; decide)]
    rw [if_neg (by decide), e]
    have hm2 : may { p.a with ack := true } = true := by
      simp only [may, Bool.and_eq_true] at hm ⊢
      exact hm
    refine ⟨⟨hm2, h.ia, h.ra, h.pb, ?_, ⟨T, h1, h2, h3, ?_⟩, h.g0⟩, rfl, Int.le_refl _⟩
    · show (p.wrong || ((0 : Int) != 0) || !true) = false
      rw [hok]; simp
    · show p.acks + 1 = p.got + acksOf T + waitA { p.a with ack := true }
      rw [h4]; simp [waitA, hd]
def zeroP : Pair := ⟨zeroS, zeroS, [], [], 0, 0, false⟩
theorem zero_inv : Inv zeroP := ⟨by decide, zero_I64, ⟨rfl, rfl⟩, PkI_zero, rfl, ⟨[], rfl, fun _ h => (by cases h), rfl, rfl⟩, Int.le_refl _⟩
theorem rest_inv {p : Pair} (h : Inv p) (s : Ser) (hs : may s = true) (hr : s.rl = 0 ∧ s.rb = 0#16) (ha : p.a = (run 23 s).1) : p.a = zeroS ∧ p.b = zeroS ∧ p.heard = p.gave ∧ p.got = p.acks := by
  obtain ⟨k, _, e⟩ := run_all hs 23 (by omega)
  rw [e] at ha
  have ha : p.a = zeroS := by rw [ha, hr.1, hr.2]; rfl
  obtain ⟨T, h1, _, h3, h4⟩ := h.fl
  rw [ha] at h1 h3 h4
  have e1 : p.b = zeroS := congrArg Prod.fst h1
  have e2 : T = [] := (congrArg Prod.snd h1).symm
  subst e2
  refine ⟨ha, e1, ?_, ?_⟩
  · rw [h3]; simp [bytesOf, waitB, zeroS]
  · rw [h4]; simp [acksOf, waitA, zeroS]
end Go.Ser

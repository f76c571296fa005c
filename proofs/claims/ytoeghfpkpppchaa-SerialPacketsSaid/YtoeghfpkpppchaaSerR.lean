/- serial: what whole sequences of bits do. -/
import Derived.Test.YtoeghfpkpppchaaSerQ
namespace Go.Ser
open Go Go.Eng

/-- Bits received one by one, and what was heard. -/
def hearL : Ser → List Heard → List Int → Ser × List Heard
  | s, l, [] => (s, l)
  | s, l, x :: r => hearL (rx s x).1 (if (rx s x).2.kind != 0#8 then l ++ [(rx s x).2] else l) r
theorem hear_drop {s : Ser} {l : List Heard} {r : List Int} {k : Nat} {x : Int} (hx : r[k]? = some x) :
    hearL s l (r.drop k) = hearL (rx s x).1 (if (rx s x).2.kind != 0#8 then l ++ [(rx s x).2] else l) (r.drop (k + 1)) := by
  rw [pk_drop hx, hearL]
theorem hear_app : ∀ (r q : List Int) (s : Ser) (l : List Heard), hearL s l (r ++ q) = hearL (hearL s l r).1 (hearL s l r).2 q
  | [], _, _, _ => rfl
  | _ :: r, q, _, _ => hear_app r q _ _
theorem hear_l : ∀ (r : List Int) (s : Ser) (l : List Heard), hearL s l r = ((hearL s [] r).1, l ++ (hearL s [] r).2)
  | [], _, l => by simp [hearL]
  | x :: r, s, l => by
    rw [hearL, hear_l r, hearL, hear_l r (rx s x).1 (if (rx s x).2.kind != 0#8 then [] ++ [(rx s x).2] else [])]
    split <;> simp
/-- Bits of values 0 and 1 that are heard without a bad packet: Packets does the same. -/
def okBits : Ser → List Int → Bool
  | _, [] => true
  | s, x :: r => ((x == 0) || (x == 1)) && ((rx s x).2.kind != 3#8) && okBits (rx s x).1 r
theorem pk_hear : ∀ (r q : List Int) (s : Ser) (l : List Heard), okBits s r = true → pkL s l (r ++ q) = pkL (hearL s l r).1 (hearL s l r).2 q
  | [], _, _, _, _ => rfl
  | x :: r, q, s, l, h => by
    simp only [okBits, Bool.and_eq_true] at h
    obtain ⟨⟨h1, h2⟩, h3⟩ := h
    have g1 : ((x != 0) && (x != 1)) = false := by
      simp only [Bool.or_eq_true, beq_iff_eq] at h1
      rcases h1 with rfl | rfl <;> rfl
    have g2 : ((rx s x).2.kind == 3#8) = false := by simpa using h2
    rw [List.cons_append, pkL, g1, g2, if_neg (by decide), if_neg (by decide), hearL]
    cases h0 : ((rx s x).2.kind == 0#8) with
    | true =>
      rw [kind0 h0, if_neg (by decide), if_neg (by rw [bne, h0]; decide)]
      exact pk_hear r q _ _ h3
    | false =>
      rw [kind12 g2 h0, if_pos rfl, if_pos (by rw [bne, h0]; rfl)]
      exact pk_hear r q _ _ h3
theorem pk_end {r : List Int} {s : Ser} {l : List Heard} (h : okBits s r = true) : pkL s l r = some (hearL s l r) := by
  have := pk_hear r [] s l h
  rw [List.append_nil] at this
  rw [this, pkL]
theorem of_eqs {a b : Ser × List Heard} (h : (eqS a.1 b.1 && eqL eqH a.2 b.2) = true) : a = b := by
  simp only [Bool.and_eq_true] at h
  exact Prod.ext ((eqS_iff _ _).1 h.1) ((eqL_iff eqH_iff).1 h.2)

theorem hear_data (x : BitVec 8) (l : List Heard) : hearL zeroS l (sbits x) = (zeroS, l ++ [⟨1#8, x⟩]) := by
  rw [hear_l]
  have := of_eqs (b := (zeroS, [⟨1#8, x⟩])) (all8 (p := fun x => (eqS (hearL zeroS [] (sbits x)).1 zeroS && eqL eqH (hearL zeroS [] (sbits x)).2 [⟨1#8, x⟩])) (by decide +kernel) x)
  rw [this]
theorem ok_data (x : BitVec 8) : okBits zeroS (sbits x) = true := all8 (p := fun x => okBits zeroS (sbits x)) (by decide +kernel) x
theorem pk_data (x : BitVec 8) (l : List Heard) (q : List Int) : pkL zeroS l (sbits x ++ q) = pkL zeroS (l ++ [⟨1#8, x⟩]) q := by
  rw [pk_hear _ _ _ _ (ok_data x), hear_data]
theorem hear_ack (l : List Heard) : hearL zeroS l [1, 0] = (zeroS, l ++ [⟨2#8, 0#8⟩]) := by
  rw [hear_l]
  have := of_eqs (a := hearL zeroS [] [1, 0]) (b := (zeroS, [⟨2#8, 0#8⟩])) (by decide +kernel)
  rw [this]
theorem pk_ack (l : List Heard) (q : List Int) : pkL zeroS l ([1, 0] ++ q) = pkL zeroS (l ++ [⟨2#8, 0#8⟩]) q := by
  rw [pk_hear _ _ _ _ (by decide +kernel), hear_ack]
theorem rx_zero : rx zeroS 0 = (zeroS, noH) := rx_none (by decide) rfl
theorem pk_zero (l : List Heard) (q : List Int) : pkL zeroS l ([0] ++ q) = pkL zeroS l q := by
  rw [List.singleton_append, pkL, rx_zero]
  rfl
theorem pk_zeros (l : List Heard) : ∀ n, pkL zeroS l (List.replicate n 0) = some (zeroS, l)
  | 0 => rfl
  | n + 1 => by rw [List.replicate_succ]; exact (pk_zero l _).trans (pk_zeros l n)

/-- A packet whose last bit is 1. -/
def badB (b : BitVec 8) : List Int := (sbits b).set 10 1
theorem hear_bad (b x : BitVec 8) : hearL zeroS [] (badB b ++ sbits x) = (zeroS, [⟨3#8, 0#8⟩, ⟨1#8, x⟩]) := by
  have := of_eqs (b := (zeroS, [⟨3#8, 0#8⟩])) (all8 (p := fun x => (eqS (hearL zeroS [] (badB x)).1 zeroS && eqL eqH (hearL zeroS [] (badB x)).2 [⟨3#8, 0#8⟩])) (by decide +kernel) b)
  rw [hear_app, this, hear_data]; rfl
theorem packets_bad (b : BitVec 8) : packets (badB b) = ([], 330) := by
  have h := all8 (p := fun x => ((packets (badB x)).1.length == 0) && ((packets (badB x)).2 == 330)) (by decide +kernel) b
  simp only [Bool.and_eq_true, beq_iff_eq] at h
  exact Prod.ext (List.eq_nil_of_length_eq_zero h.1) h.2

/- a link end that is left alone -/
def run : Nat → Ser → Ser × List Int
  | 0, s => (s, [])
  | n + 1, s => ((run n (tx s).1).1, (tx s).2 :: (run n (tx s).1).2)
theorem run_add : ∀ (m k : Nat) (s : Ser), run (m + k) s = ((run k (run m s).1).1, (run m s).2 ++ (run k (run m s).1).2)
  | 0, k, s => by simp [run]
  | m + 1, k, s => by
    rw [show m + 1 + k = (m + k) + 1 by omega, run, run_add m k, run]; rfl
theorem run_snoc (k : Nat) (s : Ser) : run (k + 1) s = ((tx (run k s).1).1, (run k s).2 ++ [(tx (run k s).1).2]) := by
  rw [run_add k 1 s]; rfl
theorem run_len : ∀ (k : Nat) (s : Ser), (run k s).2.length = k
  | 0, _ => rfl
  | k + 1, s => by simp [run, run_len k]
theorem run_I64 : ∀ (k : Nat) {s : Ser}, I64 s → I64 (run k s).1
  | 0, _, h => h
  | k + 1, _, h => run_I64 k (tx_I64 h)
theorem run_tl : ∀ (n : Nat) (s : Ser), may s = true → s.tl = (n : Int) → run n s = ({ s with tb := 0#16, tl := 0 }, lowN s.tb.toNat n)
  | 0, s, h, e => by
    simp only [may, Bool.and_eq_true] at h
    have h1 := ((ends_iff s.tb s.tl).1 h.1.1).2.2.1
    have e2 : s.tb = 0#16 := BitVec.eq_of_toNat_eq (by rw [e] at h1; simpa using h1)
    cases s; simp_all [run, lowN]
  | n + 1, s, h, e => by
    have ht : tx s = ({ s with tb := s.tb >>> 1, tl := s.tl - 1 }, ((s.tb &&& 1#16).toNat : Int)) := by rw [tx, if_pos h, if_pos (by omega)]
    have hm := tx_may s h
    rw [ht] at hm
    rw [run, ht, run_tl n _ hm (by dsimp only; omega), lowN_cons, and1]
    congr 2
theorem run_ack {s : Ser} (h : may s = true) (e : s.tb = 0#16) (e2 : s.tl = 0) (ha : s.ack = true) : run 2 s = ({ s with ack := false }, [1, 0]) := by
  have h1 := tx_ack h (by omega) ha
  have hm := tx_may s h
  rw [h1] at hm
  have h2 := run_tl 1 _ hm rfl
  rw [show (2 : Nat) = 1 + 1 from rfl, run, h1, h2]
  cases s; simp_all [lowN]
theorem run_data {s : Ser} (h : may s = true) (e : s.tb = 0#16) (e2 : s.tl = 0) (ha : s.ack = false) (hd : s.data = true) : run 11 s = ({ s with data := false, by_ := 0#8 }, sbits s.by_) := by
  have h1 := tx_data h (by omega) ha hd
  have hm := tx_may s h
  rw [h1] at hm
  have h2 := run_tl 10 _ hm rfl
  rw [show (11 : Nat) = 10 + 1 from rfl, run, h1, h2]
  have h3 : lowN (numL ((sbits s.by_).drop 1)).toNat 10 = (sbits s.by_).drop 1 := (eqL_iff eqI_iff).1 (all8 (p := fun x => eqL eqI (lowN (numL ((sbits x).drop 1)).toNat 10) ((sbits x).drop 1)) (by decide +kernel) s.by_)
  have h4 : (1 : Int) :: (sbits s.by_).drop 1 = sbits s.by_ := rfl
  dsimp only
  rw [h3, h4]
  cases s; simp_all
theorem run_rest {s : Ser} (h : may s = true) (e2 : s.tl = 0) (ha : s.ack = false) (hd : s.data = false) : ∀ n, run n s = (s, List.replicate n 0)
  | 0 => rfl
  | n + 1 => by rw [run, tx_rest h (by omega) ha hd, run_rest h e2 ha hd n]; rfl
def ackB (s : Ser) : List Int := if s.ack then [1, 0] else []
def dataB (s : Ser) : List Int := if s.data then sbits s.by_ else []
def wantR (s : Ser) : List Heard := (if s.ack then [⟨2#8, 0#8⟩] else []) ++ (if s.data then [⟨1#8, s.by_⟩] else [])
theorem run_ackB {s : Ser} (h : may s = true) (e : s.tb = 0#16) (e2 : s.tl = 0) : run (ackB s).length s = ({ s with ack := false }, ackB s) := by
  cases ha : s.ack with
  | true =>
    have g : ackB s = [1, 0] := by unfold ackB; rw [if_pos ha]
    rw [g]; exact run_ack h e e2 ha
  | false =>
    have g : ackB s = [] := by unfold ackB; rw [if_neg (by rw [ha]; decide)]
    rw [g]
    cases s; simp_all [run]
theorem run_dataB {s : Ser} (h : may s = true) (e : s.tb = 0#16) (e2 : s.tl = 0) (ha : s.ack = false) (hby : s.data = true ∨ s.by_ = 0#8) : run (dataB s).length s = ({ s with data := false, by_ := 0#8 }, dataB s) := by
  cases hd : s.data with
  | true =>
    have g : dataB s = sbits s.by_ := by unfold dataB; rw [if_pos hd]
    rw [g, bits_len]; exact run_data h e e2 ha hd
  | false =>
    have g : dataB s = [] := by unfold dataB; rw [if_neg (by rw [hd]; decide)]
    rw [g]
    have : s.by_ = 0#8 := by
      rcases hby with e | e
      · rw [hd] at e; cases e
      · exact e
    cases s; simp_all [run]
theorem run_all {s : Ser} (h : may s = true) (N : Nat) (hN : 23 ≤ N) : ∃ k, N = s.tl.toNat + ((ackB s).length + ((dataB s).length + k)) ∧
    run N s = ({ zeroS with rl := s.rl, rb := s.rb }, lowN s.tb.toNat s.tl.toNat ++ (ackB s ++ (dataB s ++ List.replicate k 0))) := by
  have hb := may_bd h
  have la : (ackB s).length ≤ 2 := by unfold ackB; split <;> simp
  have ld : (dataB s).length ≤ 11 := by unfold dataB; split <;> simp [bits_len]
  refine ⟨N - s.tl.toNat - (ackB s).length - (dataB s).length, by omega, ?_⟩
  generalize hk : N - s.tl.toNat - (ackB s).length - (dataB s).length = k
  rw [show N = s.tl.toNat + ((ackB s).length + ((dataB s).length + k)) by omega]
  have hmr : ∀ (a d : Bool) (b : BitVec 8), (d = true ∨ b = 0#8) → may { s with tb := 0#16, tl := 0, ack := a, data := d, by_ := b } = true := fun a d b hd => by
    simp only [may, Bool.and_eq_true] at h ⊢
    exact ⟨⟨by decide, h.1.2⟩, by rcases hd with rfl | rfl <;> simp⟩
  have hby : s.data = true ∨ s.by_ = 0#8 := by
    simp only [may, Bool.and_eq_true, Bool.or_eq_true, beq_iff_eq] at h
    exact h.2
  rw [run_add, run_tl _ s h (by omega)]
  dsimp only
  have h1 := run_ackB (s := { s with tb := 0#16, tl := 0 }) (hmr s.ack s.data s.by_ hby) rfl rfl
  have h2 := run_dataB (s := { s with tb := 0#16, tl := 0, ack := false }) (hmr false s.data s.by_ hby) rfl rfl rfl hby
  rw [run_add, show (ackB s).length = (ackB { s with tb := 0#16, tl := 0 }).length from rfl, h1]
  dsimp only
  rw [run_add, show (dataB s).length = (dataB { s with tb := 0#16, tl := 0, ack := false }).length from rfl, h2]
  dsimp only
  rw [run_rest (s := { s with tb := 0#16, tl := 0, ack := false, data := false, by_ := 0#8 }) (hmr false false 0#8 (.inr rfl)) rfl rfl rfl k]
  rfl
theorem rest_packets {s : Ser} (h : may s = true) : packets ((run 40 s).2.drop s.tl.toNat) = (wantR s, 0) := by
  obtain ⟨k, _, e⟩ := run_all h 40 (by omega)
  rw [e]
  dsimp only
  rw [List.drop_left' (lowN_len _ _), packets]
  have : pkL zeroS [] (ackB s ++ (dataB s ++ List.replicate k 0)) = some (zeroS, wantR s) := by
    unfold ackB dataB wantR
    cases s.ack <;> cases s.data
    · exact pk_zeros _ _
    · rw [if_neg (by decide), if_pos rfl, if_neg (by decide), if_pos rfl, List.nil_append, pk_data, pk_zeros]
    · rw [if_pos rfl, if_neg (by decide), if_pos rfl, if_neg (by decide), pk_ack]; exact pk_zeros _ _
    · rw [if_pos rfl, if_pos rfl, if_pos rfl, if_pos rfl, pk_ack, pk_data, pk_zeros]; rfl
  rw [this]
  dsimp only
  rw [eqS_self, if_pos rfl]
theorem rest_state {s : Ser} (h : may s = true) : { (run 40 s).1 with rl := 0, rb := 0#16 } = zeroS := by
  obtain ⟨k, _, e⟩ := run_all h 40 (by omega)
  rw [e]; rfl
theorem rest_zeros {s : Ser} (h : may s = true) : ((run 40 s).2.drop 23).any (1 == ·) = false := by
  obtain ⟨k, hk, e⟩ := run_all h 40 (by omega)
  have hb := may_bd h
  have la : (ackB s).length ≤ 2 := by unfold ackB; split <;> simp
  have ld : (dataB s).length ≤ 11 := by unfold dataB; split <;> simp [bits_len]
  rw [e]
  dsimp only
  rw [← List.append_assoc, ← List.append_assoc, List.drop_append, List.drop_eq_nil_of_le (by simp [lowN_len]; omega), List.nil_append, List.drop_replicate, List.any_replicate]
  simp
end Go.Ser

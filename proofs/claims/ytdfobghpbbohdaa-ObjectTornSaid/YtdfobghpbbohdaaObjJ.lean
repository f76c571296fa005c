/- flip. -/
import Derived.Test.YtdfobghpbbohdaaObjE
import Derived.Test.YtdfobghpbbohdaaObjP
namespace Go.Obj
open Go Go.Eng
theorem u64_nat (x : Nat) (h : x < 18446744073709551616) : IntKind.u64.wrap (x : Int) = x := by
  simp [IntKind.wrap, IntKind.signed, IntKind.bits]
  omega
theorem bit_u32 (mask : BitVec 32) (j : Nat) (hj : j ≤ 32) : band .u32 (bshr .u32 mask.toNat j) 1 = (((mask >>> j) &&& 1#32).toNat : Int) := by
  rw [bshr_u32 _ _ hj]
  exact band_u32 (mask >>> j) 1#32
theorem bit_eq (mask : BitVec 32) (j : Nat) : ((((mask >>> j) &&& 1#32).toNat : Int) == 1) = mask.getLsbD j := by
  have e : ((mask >>> j) &&& 1#32).toNat = if mask.getLsbD j then 1 else 0 := by
    rw [BitVec.toNat_and]
    have : (1#32).toNat = 1 := rfl
    rw [this, Nat.and_one_is_mod, BitVec.toNat_ushiftRight]
    simp only [BitVec.getLsbD, Nat.testBit, Nat.one_and_eq_mod_two]
    have := Nat.mod_two_eq_zero_or_one (mask.toNat >>> j)
    rcases this with h | h <;> simp [h]
  rw [e]
  cases mask.getLsbD j <;> rfl
theorem shl_u8 (j : Nat) (h : j < 8) : bshl .u8 1 j = (((1 <<< UInt8.ofNat j : UInt8).toNat : Nat) : Int) := by
  match j, h with
  | 0, _ | 1, _ | 2, _ | 3, _ | 4, _ | 5, _ | 6, _ | 7, _ => rfl
theorem flip_set (bs : List UInt8) (k : Nat) (b : UInt8) (h : bs[k / 8]? = some b) : (bv bs).set (k / 8) (.int .u8 (b ^^^ (1 <<< UInt8.ofNat (k % 8))).toNat) = bv (flipB bs k) := by
  unfold flipB bv
  have hk := (List.getElem?_eq_some_iff.1 h).1
  apply List.ext_getElem?
  intro i
  simp only [List.getElem?_set, List.getElem?_map, List.getElem?_modify, List.length_map]
  by_cases hi : k / 8 = i
  · subst hi
    have hb : bs[k / 8] = b := by rw [List.getElem?_eq_getElem hk] at h; exact Option.some.inj h
    simp [hk, hb]
  · simp [hi]
end Go.Obj
namespace Go.Proofs.Ytdfobghpbbohdaa
open Go.Eng Go.Obj
theorem flip_ct (a : Option Addr) (n c : Nat) (bs : List UInt8) (p : Nat) (mask : BitVec 32) (h : List Res) (m : View) (hl : bs.length = n) (hn : n ≤ 40000) (hnc : n ≤ c) (hcx : c ≤ 9223372036854775807) (hp : p < 8 * n) (hm0 : mask.getLsbD 0 = true) :
    CT Try.prog 23 [.slice a n c, .int .u32 p, u32 mask] (.row (.slice a n c) 5 1 n (bv bs) :: h) m
      (fun v _ h' => v = .bool true ∧ h' = .row (.slice a n c) 5 1 n (bv (flipN bs p mask 32)) :: h) := by
  refine CT.body Try.call23 Try.func23 rfl Try.ntmps23 (Nat.le_of_ble_eq_true rfl) rfl ?_
  (repeat (first | refine WC.seqK fun K hK => ?_ | refine WC.block ?_ | refine WC.regionG rfl fun ops hG => ?_))
  refine WL.po (PO.assign Ev.const) (Nat.le_of_ble_eq_true rfl) ?_
  refine WL.nil (keepF (ts := [0, 1, 2, 6, 7, 8, 9, 10, 11, 29]) rfl (toK (by assumption) ?_)); (try clear hG ops)
  (repeat (first | refine WC.seqK fun K hK => ?_ | refine WC.block ?_ | refine WC.regionG rfl fun ops hG => ?_))
  refine WL.po (PO.assign Ev.const) (Nat.le_of_ble_eq_true rfl) ?_
  refine WL.nil (keepF (ts := [0, 1, 2, 6, 7, 8, 9, 10, 11, 29]) rfl (toK (by assumption) ?_)); (try clear hG ops)
  (repeat (first | refine WC.seqK fun K hK => ?_ | refine WC.block ?_ | refine WC.regionG rfl fun ops hG => ?_))
  refine WL.po (PO.move Ev.const) (Nat.le_of_ble_eq_true rfl) ?_
  refine WL.nil (keepF (ts := [0, 1, 2, 6, 7, 8, 9, 10, 11, 29]) rfl (toK (by assumption) ?_)); (try clear hG ops)
  (repeat (first | refine WC.seqK fun K hK => ?_ | refine WC.block ?_ | refine WC.regionG rfl fun ops hG => ?_))
  refine WC.loop (fun μ F h' m' => ∃ j : Nat, j ≤ 32 ∧ μ = 32 - j ∧ F = [(0, .slice a n c), (1, .int .u32 p), (2, u32 mask), (7, .bool (decide (0 < j))), (10, .int .u64 j)] ∧
      h' = .row (.slice a n c) 5 1 n (bv (flipN bs p mask j)) :: h ∧ m' = m) 32
    [(0, .slice a n c), (1, .int .u32 p), (2, u32 mask), (7, .bool (decide (0 < 0))), (10, .int .u64 (0 : Nat))] (by (repeat (first | exact Sub.nil | refine Sub.cons rfl ?_))) ⟨0, by omega, by omega, rfl, rfl, rfl⟩ ?_
  rintro _ _ _ _ ⟨j, hj, rfl, rfl, rfl, rfl⟩
  (repeat (first | refine WC.seqK fun K hK => ?_ | refine WC.block ?_ | refine WC.regionG rfl fun ops hG => ?_))
  refine WL.po (PO.bin (Ev.tmp rfl) Ev.const rfl) (Nat.le_of_ble_eq_true rfl) ?_
  refine WL.nil (keepF (ts := [0, 1, 2, 6, 7, 8, 9, 10, 11, 29]) rfl (toK (by assumption) ?_)); (try clear hG ops)
  (repeat (first | refine WC.seqK fun K hK => ?_ | refine WC.block ?_ | refine WC.regionG rfl fun ops hG => ?_))
  refine WC.cond (Ev.tmp rfl) (fun hc => ?_) (fun hc => ?_)
  · simp only [decide_eq_true_eq] at hc
    refine WC.skip (keepF (ts := [0, 1, 2, 6, 7, 8, 9, 10, 11, 29]) rfl (toK (by assumption) ?_))
    (repeat (first | refine WC.seqK fun K hK => ?_ | refine WC.block ?_ | refine WC.regionG rfl fun ops hG => ?_))
    refine WL.po (PO.move (Ev.tmp rfl)) (Nat.le_of_ble_eq_true rfl) ?_
    refine WL.po (PO.assign (Ev.tmp rfl)) (Nat.le_of_ble_eq_true rfl) ?_
    refine WL.nil (keepF (ts := [0, 1, 2, 6, 7, 8, 9, 10, 11, 29]) rfl (toK (by assumption) ?_)); (try clear hG ops)
    (repeat (first | refine WC.seqK fun K hK => ?_ | refine WC.block ?_ | refine WC.regionG rfl fun ops hG => ?_))
    refine WL.po (PO.move (Ev.tmp rfl)) (Nat.le_of_ble_eq_true rfl) ?_
    refine WL.po (PO.eq (PO.conv Try.underlying37 Try.underlying49 (Ev.tmp rfl)) (congrArg (Value.int .u64) (u64_nat p (by omega)))) (Nat.le_of_ble_eq_true rfl) ?_
    refine WL.po (PO.move (Ev.tmp rfl)) (Nat.le_of_ble_eq_true rfl) ?_
    refine WL.po (PO.eq (PO.bin (Ev.tmp rfl) (Ev.tmp rfl) rfl) (congrArg (Value.int .u64) (u64_nat (p + j) (by omega)))) (Nat.le_of_ble_eq_true rfl) ?_
    refine WL.po (PO.assign (Ev.tmp rfl)) (Nat.le_of_ble_eq_true rfl) ?_
    refine WL.nil (keepF (ts := [0, 1, 2, 6, 7, 8, 9, 10, 11, 29]) rfl (toK (by assumption) ?_)); (try clear hG ops)
    (repeat (first | refine WC.seqK fun K hK => ?_ | refine WC.block ?_ | refine WC.regionG rfl fun ops hG => ?_))
    refine WL.po (PO.move (Ev.tmp rfl)) (Nat.le_of_ble_eq_true rfl) ?_
    refine WL.po (PO.move (Ev.tmp rfl)) (Nat.le_of_ble_eq_true rfl) ?_
    refine WL.po (PO.shr (Ev.tmp rfl) (Ev.tmp rfl) (by omega)) (Nat.le_of_ble_eq_true rfl) ?_
    refine WL.po (PO.eq (PO.bin (Ev.tmp rfl) Ev.const rfl) (congrArg (Value.int .u32) (bit_u32 mask j (by omega)))) (Nat.le_of_ble_eq_true rfl) ?_
    refine WL.po (PO.eq (PO.bin (Ev.tmp rfl) Ev.const rfl) (congrArg Value.bool (bit_eq mask j))) (Nat.le_of_ble_eq_true rfl) ?_
    refine WL.po (PO.move (Ev.tmp rfl)) (Nat.le_of_ble_eq_true rfl) ?_
    refine WL.poT (hG _ _ rfl) rfl (fun hc => PO.move (Ev.tmp rfl)) (Nat.le_of_ble_eq_true rfl) ?_
    refine WL.poT (hG _ _ rfl) rfl (fun hc => PO.move (Ev.tmp rfl)) (Nat.le_of_ble_eq_true rfl) ?_
    refine WL.poT (hG _ _ rfl) rfl (fun hc => PO.lenSl Try.underlying22 (Ev.gv rfl hc)) (Nat.le_of_ble_eq_true rfl) ?_
    refine WL.poT (hG _ _ rfl) rfl (fun hc => PO.eq (PO.conv Try.underlying3 Try.underlying49 (Ev.gv rfl hc)) (congrArg (Value.int .u64) (u64_nat n (by omega)))) (Nat.le_of_ble_eq_true rfl) ?_
    refine WL.poT (hG _ _ rfl) rfl (fun hc => PO.eq (PO.bin Ev.const (Ev.gv rfl hc) rfl) (congrArg (Value.int .u64) (u64_nat (8 * n) (by omega)))) (Nat.le_of_ble_eq_true rfl) ?_
    refine WL.poT (hG _ _ rfl) rfl (fun hc => PO.eq (PO.bin (Ev.gv rfl hc) (Ev.gv rfl hc) rfl) (congrArg Value.bool (show _ = decide (p + j < 8 * bs.length) by rw [decide_eq_decide]; omega))) (Nat.le_of_ble_eq_true rfl) ?_
    refine WL.po (PO.pickAnd rfl rfl) (Nat.le_of_ble_eq_true rfl) ?_
    refine WL.nil (keepF (ts := [0, 1, 2, 6, 7, 8, 9, 10, 11, 29]) rfl (toK (by assumption) ?_)); (try clear hG ops)
    have hlj := flipN_len bs p mask j
    refine WC.cond (Ev.tmp rfl) (fun hc2 => ?_) (fun hc2 => ?_)
    · have hstep : flipN bs p mask (j + 1) = flipB (flipN bs p mask j) (p + j) := by rw [flipN, if_pos hc2]
      simp only [Bool.and_eq_true, decide_eq_true_eq] at hc2
      have hk8 : (p + j) / 8 < n := by omega
      have hb : (flipN bs p mask j)[(p + j) / 8]? = some ((flipN bs p mask j)[(p + j) / 8]'(by omega)) := List.getElem?_eq_getElem (by omega)
      generalize (flipN bs p mask j)[(p + j) / 8]'(by omega) = b at hb
      have hrow : (bv (flipN bs p mask j)).length = n * 1 := by rw [bv_len]; omega
      (repeat (first | refine WC.seqK fun K hK => ?_ | refine WC.block ?_ | refine WC.regionG rfl fun ops hG => ?_))
      refine WL.po (PO.move (Ev.tmp rfl)) (Nat.le_of_ble_eq_true rfl) ?_
      refine WL.po (PO.move (Ev.tmp rfl)) (Nat.le_of_ble_eq_true rfl) ?_
      refine WL.po (PO.eq (PO.quo (Ev.tmp rfl) Ev.const (by decide)) (congrArg (Value.int .u64) (show _ = (((p + j) / 8 : Nat) : Int) by rw [Int.tdiv_eq_ediv_of_nonneg (by omega)]; exact u64_nat ((p + j) / 8) (by omega)))) (Nat.le_of_ble_eq_true rfl) ?_
      refine WL.po (PO.idx EL22.und EL22.size EL22.posz (Ev.tmp rfl) (Ev.tmp rfl) (Rd.ofRow hrow hnc hcx (List.Mem.head _)) rfl hk8) (Nat.le_of_ble_eq_true rfl) ?_
      refine WL.po (PO.loadE Try.underlying5 rfl (Rd.ofRow hrow hnc hcx (List.Mem.head _)) (Ev.tmp rfl) (by rw [Nat.mul_one]; exact bv_get hb)) (Nat.le_of_ble_eq_true rfl) ?_
      refine WL.po (PO.move (Ev.tmp rfl)) (Nat.le_of_ble_eq_true rfl) ?_
      refine WL.po (PO.eq (PO.rem (Ev.tmp rfl) Ev.const (by decide)) (congrArg (Value.int .u64) (show _ = (((p + j) % 8 : Nat) : Int) by rw [Int.tmod_eq_emod_of_nonneg (by omega)]; first | exact u64_nat ((p + j) % 8) (by omega) | omega))) (Nat.le_of_ble_eq_true rfl) ?_
      refine WL.po (PO.eq (PO.shl Ev.const (Ev.tmp rfl) (by omega)) (congrArg (Value.int .u8) (shl_u8 ((p + j) % 8) (by omega)))) (Nat.le_of_ble_eq_true rfl) ?_
      refine WL.po (PO.eq (PO.bin (Ev.tmp rfl) (Ev.tmp rfl) rfl) (congrArg (Value.int .u8) (bxor_u8 b _))) (Nat.le_of_ble_eq_true rfl) ?_
      refine WL.po (PO.idx EL22.und EL22.size EL22.posz (Ev.tmp rfl) (Ev.tmp rfl) (Rd.ofRow hrow hnc hcx (List.Mem.head _)) rfl hk8) (Nat.le_of_ble_eq_true rfl) ?_
      refine WL.storeR rfl (Ev.tmp rfl) (Ev.tmp rfl) rfl rfl (by rw [hrow]; omega) Upd.here ?_
      rw [Nat.mul_one, flip_set _ _ _ hb, ← hstep]
      refine WL.nil (keepF (ts := [0, 1, 2, 6, 7, 8, 9, 10, 11, 29]) rfl (toK (by assumption) ?_)); (try clear hG ops)
      (repeat (first | refine WC.seqK fun K hK => ?_ | refine WC.block ?_ | refine WC.regionG rfl fun ops hG => ?_))
      refine WL.po (PO.eq (PO.assign Ev.const) (show _ = Value.bool (decide (0 < j + 1)) by simp)) (Nat.le_of_ble_eq_true rfl) ?_
      refine WL.nil (keepF (ts := [0, 1, 2, 6, 7, 8, 9, 10, 11, 29]) rfl (toK (by assumption) ?_)); (try clear hG ops)
      (repeat (first | refine WC.seqK fun K hK => ?_ | refine WC.block ?_ | refine WC.regionG rfl fun ops hG => ?_))
      refine WL.po (PO.eq (PO.bin (Ev.tmp rfl) Ev.const rfl) (congrArg (Value.int .u64) (u64_nat (j + 1) (by omega)))) (Nat.le_of_ble_eq_true rfl) ?_
      refine WL.po (PO.move (Ev.tmp rfl)) (Nat.le_of_ble_eq_true rfl) ?_
      refine WL.nil (loopBack (32 - (j + 1)) _ (by omega) ?_ ⟨j + 1, by omega, rfl, rfl, rfl, rfl⟩)
      (repeat (first | exact Sub.nil | refine Sub.cons rfl ?_))
    · have hstep : flipN bs p mask (j + 1) = flipN bs p mask j := by rw [flipN, if_neg (by rw [hc2]; simp)]
      have hj0 : 0 < j := by
        rcases Nat.eq_zero_or_pos j with h0 | h0
        · subst h0
          rw [hm0, decide_eq_true (by omega)] at hc2
          simp at hc2
        · exact h0
      have e7 : decide (0 < j) = decide (0 < j + 1) := by rw [decide_eq_true hj0, decide_eq_true (by omega)]
      rw [e7, ← hstep]
      refine WC.skip (keepF (ts := [0, 1, 2, 6, 7, 8, 9, 10, 11, 29]) rfl (toK (by assumption) ?_))
      (repeat (first | refine WC.seqK fun K hK => ?_ | refine WC.block ?_ | refine WC.regionG rfl fun ops hG => ?_))
      refine WL.po (PO.eq (PO.bin (Ev.tmp rfl) Ev.const rfl) (congrArg (Value.int .u64) (u64_nat (j + 1) (by omega)))) (Nat.le_of_ble_eq_true rfl) ?_
      refine WL.po (PO.move (Ev.tmp rfl)) (Nat.le_of_ble_eq_true rfl) ?_
      refine WL.nil (loopBack (32 - (j + 1)) _ (by omega) ?_ ⟨j + 1, by omega, rfl, rfl, rfl, rfl⟩)
      (repeat (first | exact Sub.nil | refine Sub.cons rfl ?_))
  · simp only [decide_eq_false_iff_not] at hc
    have : j = 32 := by omega
    subst this
    refine WC.exit (keepF (ts := [0, 1, 2, 6, 7, 8, 9, 10, 11, 29]) rfl (toK (by assumption) ?_))
    (repeat (first | refine WC.seqK fun K hK => ?_ | refine WC.block ?_ | refine WC.regionG rfl fun ops hG => ?_))
    refine WL.po (PO.move (Ev.tmp rfl)) (Nat.le_of_ble_eq_true rfl) ?_
    refine WL.po (PO.assign (Ev.tmp rfl)) (Nat.le_of_ble_eq_true rfl) ?_
    refine WL.nil (keepF (ts := [0, 1, 2, 6, 7, 8, 9, 10, 11, 29]) rfl (toK (by assumption) ?_)); (try clear hG ops)
    exact WC.ret (end1 (.inl rfl) rfl (RV.tmp rfl) (View.le.refl _) (List.Sublist.refl _) ⟨rfl, rfl⟩)
end Go.Proofs.Ytdfobghpbbohdaa

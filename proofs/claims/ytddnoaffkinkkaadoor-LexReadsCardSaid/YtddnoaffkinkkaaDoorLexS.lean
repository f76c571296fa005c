/- lex: the reference reads tokens, walked. -/
import Derived.Test.YtddnoaffkinkkaaDoorLexR
import Derived.Test.YtddnoaffkinkkaaDoorLexD
import Derived.Test.YtddnoaffkinkkaaDoorLexX
namespace Go.Proofs.YtddnoaffkinkkaaDoor
open Go.Eng Go.Lx Go.Ty
set_option maxRecDepth 100000
def encJ (k : Int) : List Value := [.int .i32 k]
theorem encJ_len (k : Int) : (encJ k).length = 1 := rfl
theorem valV_cons (base : Int) (c : UInt8) (l : B) (v : Int) : valV base (c :: l) v = if decide (dval base c < 0) then none else valV base l (base * v + dval base c) := rfl
theorem val_bound {base v : Int} {k most : Nat} (hb : (base = 10 ∧ most ≤ 10) ∨ (base = 16 ∧ most ≤ 8)) (hk : k < most) (h0 : 0 ≤ v) (hv : v < base ^ k) : 0 ≤ base * v ∧ base * v ≤ 200000000000 := by
  rcases hb with ⟨rfl, hm⟩ | ⟨rfl, hm⟩
  · have := p10 hv (by omega)
    omega
  · have := p16 hv (by omega)
    omega
theorem dval_step {base v d : Int} {k : Nat} (hb : 0 < base) (hd : d < base) (hv : v < base ^ k) : base * v + d < base ^ (k + 1) := by
  have h1 : v + 1 ≤ base ^ k := hv
  have h2 := Int.mul_le_mul_of_nonneg_left h1 (Int.le_of_lt hb)
  rw [Int.mul_add, Int.mul_one] at h2
  rw [Int.pow_succ, Int.mul_comm (base ^ k)]
  omega
theorem sub65 {c : UInt8} (h : 65 ≤ (c.toNat : Int) ∧ (c.toNat : Int) ≤ 70) : IntKind.u8.wrap ((c.toNat : Int) - 65) = (c.toNat : Int) - 65 := by
  unfold IntKind.wrap
  simp [IntKind.bits, IntKind.signed]
  omega
theorem value_ct (s : B) (base : Int) (most : Nat) (limit : Int) (h : List Res) (m : View) (hb : (base = 10 ∧ most ≤ 10) ∨ (base = 16 ∧ most ≤ 8)) (hs : s.length ≤ 9223372036854775807) :
    CT Tryd.prog 75 [str s, .int .i64 base, .int .i64 most, .int .i64 limit] h m (Pure1 h (.tuple #[.int .i64 (valR s base most limit).1, .bool (valR s base most limit).2])) := by
  have hb0 : 0 < base := by omega
  have hdl : ∀ c, dval base c < base := by
    rcases hb with ⟨rfl, _⟩ | ⟨rfl, _⟩
    · exact dval10_lt
    · exact dval16_lt
  refine CT.body Tryd.call75 Tryd.func75 rfl Tryd.ntmps75 (Nat.le_of_ble_eq_true rfl) rfl ?_
  (repeat (first | refine WC.seqK fun K hK => ?_ | refine WC.block ?_ | refine WC.regionG rfl fun ops hG => ?_))
  refine WL.po (PO.assign Ev.const) (Nat.le_of_ble_eq_true rfl) ?_
  refine WL.po (PO.assign Ev.const) (Nat.le_of_ble_eq_true rfl) ?_
  refine WL.nil (keepF (ts := [0, 1, 2, 3]) rfl (toK (by assumption) ?_))
  (try clear hG ops)
  (repeat (first | refine WC.seqK fun K hK => ?_ | refine WC.block ?_ | refine WC.regionG rfl fun ops hG => ?_))
  refine WL.po (PO.move (Ev.tmp rfl)) (Nat.le_of_ble_eq_true rfl) ?_
  refine WL.po (PO.lenS Tryd.underlying9 (Ev.tmp rfl)) (Nat.le_of_ble_eq_true rfl) ?_
  refine WL.po (PO.bin (Ev.tmp rfl) Ev.const rfl) (Nat.le_of_ble_eq_true rfl) ?_
  refine WL.po (PO.move (Ev.tmp rfl)) (Nat.le_of_ble_eq_true rfl) ?_
  refine WL.poG (GU.f (hG _ _ rfl) rfl) (fun hc => PO.move (Ev.tmp rfl)) (Nat.le_of_ble_eq_true rfl) ?_
  refine WL.poG (GU.f (hG _ _ rfl) rfl) (fun hc => PO.lenS Tryd.underlying9 (Ev.gv rfl hc)) (Nat.le_of_ble_eq_true rfl) ?_
  refine WL.poG (GU.f (hG _ _ rfl) rfl) (fun hc => PO.move (Ev.tmp rfl)) (Nat.le_of_ble_eq_true rfl) ?_
  refine WL.poG (GU.f (hG _ _ rfl) rfl) (fun hc => PO.bin (Ev.gv rfl hc) (Ev.gv rfl hc) rfl) (Nat.le_of_ble_eq_true rfl) ?_
  refine WL.po (PO.pickOr rfl rfl) (Nat.le_of_ble_eq_true rfl) ?_
  refine WL.nil (keepF (ts := [0, 1, 3, 21]) rfl (toK (by assumption) ?_))
  (try clear hG ops)
  (repeat (first | refine WC.seqK fun K hK => ?_ | refine WC.block ?_ | refine WC.regionG rfl fun ops hG => ?_))
  refine WC.cond (Ev.tmp rfl) (fun c21 => ?_) (fun c21 => ?_)
  · have d21 : (decide ((s.length : Int) < 1) || decide ((s.length : Int) > most)) = true := c21
    (repeat (first | refine WC.seqK fun K hK => ?_ | refine WC.block ?_ | refine WC.regionG rfl fun ops hG => ?_))
    refine WL.po (PO.assign Ev.const) (Nat.le_of_ble_eq_true rfl) ?_
    refine WL.po (PO.assign Ev.const) (Nat.le_of_ble_eq_true rfl) ?_
    refine WL.nil (keepF (ts := [8, 9]) rfl (toK (by assumption) ?_))
    (try clear hG ops)
    refine WC.ret (end2 (h' := h) (.inl rfl) rfl (RV.tmp rfl) (RV.tmp rfl) (View.le.refl m) (by (repeat (first | exact List.Sublist.refl _ | refine List.Sublist.cons_cons _ ?_ | apply List.Sublist.cons))) ?_)
    exact ⟨by unfold valR; rw [d21]; rfl, rfl⟩
  · have d21 : (decide ((s.length : Int) < 1) || decide ((s.length : Int) > most)) = false := c21
    have hlm : s.length ≤ most := by simp at d21; omega
    refine WC.skip (keepF (ts := [0, 1, 3]) rfl (toK (by assumption) ?_))
    (repeat (first | refine WC.seqK fun K hK => ?_ | refine WC.block ?_ | refine WC.regionG rfl fun ops hG => ?_))
    refine WL.po (PO.assign Ev.const) (Nat.le_of_ble_eq_true rfl) ?_
    refine WL.nil (keepF (ts := [0, 1, 3, 10]) rfl (toK (by assumption) ?_))
    (try clear hG ops)
    (repeat (first | refine WC.seqK fun K hK => ?_ | refine WC.block ?_ | refine WC.regionG rfl fun ops hG => ?_))
    refine WL.po (PO.assign Ev.const) (Nat.le_of_ble_eq_true rfl) ?_
    refine WL.nil (keepF (ts := [0, 1, 3, 10, 11]) rfl (toK (by assumption) ?_))
    (try clear hG ops)
    (repeat (first | refine WC.seqK fun K hK => ?_ | refine WC.block ?_ | refine WC.regionG rfl fun ops hG => ?_))
    refine WC.loopI [0, 1, 3] rfl (fun μ F' h' => ∃ k : Nat, ∃ v : Int, ((k ≤ s.length ∧ valV base s 0 = valV base (s.drop k) v) ∧ 0 ≤ v ∧ v < base ^ k) ∧ s.length - k = μ ∧ F' = [(10, .int .i64 v), (11, .int .i64 k)] ∧ h = h') (s.length - 0) [(10, .int .i64 0), (11, .int .i64 0)] (h0 := h) ?_ (by (repeat (first | exact List.Sublist.refl _ | refine List.Sublist.cons_cons _ ?_ | apply List.Sublist.cons))) ⟨0, 0, ⟨⟨by omega, rfl⟩, Int.le_refl _, by rw [Int.pow_zero]; decide⟩, rfl, rfl, rfl⟩ ?_
    · (repeat (first | exact Sub.nil | refine Sub.cons rfl ?_ | refine Sub.consE rfl (by simp; done) ?_))
    rintro _ _ _ ⟨k, v, ⟨⟨hk, hJ⟩, hv0, hv1⟩, rfl, rfl, rfl⟩
    refine WC.frm rfl ?_
    (repeat (first | refine WC.seqK fun K hK => ?_ | refine WC.block ?_ | refine WC.regionG rfl fun ops hG => ?_))
    refine WL.po (PO.move (Ev.tmp rfl)) (Nat.le_of_ble_eq_true rfl) ?_
    refine WL.po (PO.move (Ev.tmp rfl)) (Nat.le_of_ble_eq_true rfl) ?_
    refine WL.po (PO.lenS Tryd.underlying9 (Ev.tmp rfl)) (Nat.le_of_ble_eq_true rfl) ?_
    refine WL.po (PO.bin (Ev.tmp rfl) (Ev.tmp rfl) rfl) (Nat.le_of_ble_eq_true rfl) ?_
    refine WL.nil (keepF (ts := [0, 1, 3, 10, 11, 25]) rfl (toK (by assumption) ?_))
    (try clear hG ops)
    (repeat (first | refine WC.seqK fun K hK => ?_ | refine WC.block ?_ | refine WC.regionG rfl fun ops hG => ?_))
    refine WC.cond (Ev.tmp rfl) (fun c25 => ?_) (fun c25 => ?_)
    · replace c25 := of_decide_eq_true c25
      obtain ⟨c, hc⟩ := get_some (l := s) (k := k) (by omega)
      obtain ⟨hm0, hm1⟩ := val_bound hb (by omega) hv0 hv1
      rw [drop_at hc, valV_cons] at hJ
      refine WC.skip (keepF (ts := [0, 1, 3, 10, 11]) rfl (toK (by assumption) ?_))
      (repeat (first | refine WC.seqK fun K hK => ?_ | refine WC.block ?_ | refine WC.regionG rfl fun ops hG => ?_))
      refine WL.po (PO.assign Ev.const) (Nat.le_of_ble_eq_true rfl) ?_
      refine WL.nil (keepF (ts := [0, 1, 3, 10, 11, 12]) rfl (toK (by assumption) ?_))
      (try clear hG ops)
      (repeat (first | refine WC.seqK fun K hK => ?_ | refine WC.block ?_ | refine WC.regionG rfl fun ops hG => ?_))
      refine WL.po (PO.move (Ev.tmp rfl)) (Nat.le_of_ble_eq_true rfl) ?_
      refine WL.po (PO.move (Ev.tmp rfl)) (Nat.le_of_ble_eq_true rfl) ?_
      refine WL.po (PO.idxS Tryd.underlying9 (Ev.tmp rfl) (Ev.tmp rfl) rfl (by assumption)) (Nat.le_of_ble_eq_true rfl) ?_
      refine WL.callP Ev.func (Evs.cons (Ev.tmp rfl) Evs.nil) (digitR_ct _ _ _) (Nat.le_of_ble_eq_true rfl) ?_
      refine WL.nil (keepF (ts := [0, 1, 3, 10, 11, 12, 31]) rfl (toK (by assumption) ?_))
      (try clear hG ops)
      (repeat refine WC.seqK fun K hK => ?_)
      refine WC.cutK (by assumption) [0, 1, 3, 10, 11] rfl (fun F' h' => ∃ d : Int, (d = (if dig c.toNat then (c.toNat : Int) - 48 else -1) ∧ d < 10 ∧ -1 ≤ d) ∧ F' = [(12, .int .i64 d)] ∧ h = h') ?_ ?_
      · (repeat (first | refine WC.seqK fun K hK => ?_ | refine WC.block ?_ | refine WC.regionG rfl fun ops hG => ?_))
        refine WC.cond (Ev.tmp rfl) (fun c31 => ?_) (fun c31 => ?_)
        · obtain ⟨w1, w2, w3⟩ := sub48 c31
          (repeat (first | refine WC.seqK fun K hK => ?_ | refine WC.block ?_ | refine WC.regionG rfl fun ops hG => ?_))
          refine WL.po (PO.move (Ev.tmp rfl)) (Nat.le_of_ble_eq_true rfl) ?_
          refine WL.po (PO.move (Ev.tmp rfl)) (Nat.le_of_ble_eq_true rfl) ?_
          refine WL.po (PO.idxS Tryd.underlying9 (Ev.tmp rfl) (Ev.tmp rfl) rfl (by assumption)) (Nat.le_of_ble_eq_true rfl) ?_
          refine WL.po (PO.bin (Ev.tmp rfl) Ev.const rfl) (Nat.le_of_ble_eq_true rfl) ?_
          refine WL.val (v' := .int .u8 ((c.toNat : Int) - 48)) (congrArg (Value.int .u8) w1) ?_
          refine WL.po (PO.conv Tryd.underlying5 Tryd.underlying2 (Ev.tmp rfl)) (Nat.le_of_ble_eq_true rfl) ?_
          refine WL.val (v' := .int .i64 ((c.toNat : Int) - 48)) (congrArg (Value.int .i64) (wrap64 ⟨w2, w3⟩)) ?_
          refine WL.po (PO.assign (Ev.tmp rfl)) (Nat.le_of_ble_eq_true rfl) ?_
          refine WL.nil (meetI [(12, .int .i64 ((c.toNat : Int) - 48))] (h'' := h) ?_ (by (repeat (first | exact Sub.nil | refine Sub.cons rfl ?_ | refine Sub.consE rfl (by simp; done) ?_))) (by (repeat (first | exact List.Sublist.refl _ | refine List.Sublist.cons_cons _ ?_ | apply List.Sublist.cons))) ⟨(c.toNat : Int) - 48, ⟨by rw [c31]; rfl, w3, by omega⟩, rfl, rfl⟩)
          (repeat (first | exact Sub.nil | refine Sub.cons rfl ?_ | refine Sub.consE rfl (by simp; done) ?_))
        · refine WC.skip (meetI [(12, .int .i64 (-1))] (h'' := h) ?_ (by (repeat (first | exact Sub.nil | refine Sub.cons rfl ?_ | refine Sub.consE rfl (by simp; done) ?_))) (by (repeat (first | exact List.Sublist.refl _ | refine List.Sublist.cons_cons _ ?_ | apply List.Sublist.cons))) ⟨-1, ⟨by rw [c31]; rfl, by decide, by decide⟩, rfl, rfl⟩)
          (repeat (first | exact Sub.nil | refine Sub.cons rfl ?_ | refine Sub.consE rfl (by simp; done) ?_))
      rintro _ _ ⟨d, ⟨hd, hd1, hd2⟩, rfl, rfl⟩
      refine WC.frm rfl ?_
      (repeat (first | refine WC.seqK fun K hK => ?_ | refine WC.block ?_ | refine WC.regionG rfl fun ops hG => ?_))
      refine WL.po (PO.move (Ev.tmp rfl)) (Nat.le_of_ble_eq_true rfl) ?_
      refine WL.po (PO.bin (Ev.tmp rfl) Ev.const rfl) (Nat.le_of_ble_eq_true rfl) ?_
      refine WL.po (PO.move (Ev.tmp rfl)) (Nat.le_of_ble_eq_true rfl) ?_
      refine WL.poG (GU.t (hG _ _ rfl) rfl) (fun hc => PO.move (Ev.tmp rfl)) (Nat.le_of_ble_eq_true rfl) ?_
      refine WL.poG (GU.t (hG _ _ rfl) rfl) (fun hc => PO.move (Ev.tmp rfl)) (Nat.le_of_ble_eq_true rfl) ?_
      refine WL.poG (GU.t (hG _ _ rfl) rfl) (fun hc => PO.idxS Tryd.underlying9 (Ev.gv rfl hc) (Ev.gv rfl hc) rfl (by assumption)) (Nat.le_of_ble_eq_true rfl) ?_
      refine WL.poG (GU.t (hG _ _ rfl) rfl) (fun hc => PO.bin (Ev.gv rfl hc) Ev.const rfl) (Nat.le_of_ble_eq_true rfl) ?_
      refine WL.po (PO.pickAnd rfl rfl) (Nat.le_of_ble_eq_true rfl) ?_
      refine WL.po (PO.move (Ev.tmp rfl)) (Nat.le_of_ble_eq_true rfl) ?_
      refine WL.poG (GU.t (hG _ _ rfl) rfl) (fun hc => PO.move (Ev.tmp rfl)) (Nat.le_of_ble_eq_true rfl) ?_
      refine WL.poG (GU.t (hG _ _ rfl) rfl) (fun hc => PO.move (Ev.tmp rfl)) (Nat.le_of_ble_eq_true rfl) ?_
      refine WL.poG (GU.t (hG _ _ rfl) rfl) (fun hc => PO.idxS Tryd.underlying9 (Ev.gv rfl hc) (Ev.gv rfl hc) rfl (by assumption)) (Nat.le_of_ble_eq_true rfl) ?_
      refine WL.poG (GU.t (hG _ _ rfl) rfl) (fun hc => PO.bin (Ev.gv rfl hc) Ev.const rfl) (Nat.le_of_ble_eq_true rfl) ?_
      refine WL.po (PO.pickAnd rfl rfl) (Nat.le_of_ble_eq_true rfl) ?_
      refine WL.nil (keepF (ts := [0, 1, 3, 10, 11, 12, 50]) rfl (toK (by assumption) ?_))
      (try clear hG ops)
      (repeat refine WC.seqK fun K hK => ?_)
      refine WC.cutK (by assumption) [0, 1, 3, 10, 11] rfl (fun F' h' => ∃ q : Int, (q = dval base c ∧ q < 16 ∧ -1 ≤ q) ∧ F' = [(12, .int .i64 q)] ∧ h = h') ?_ ?_
      · (repeat (first | refine WC.seqK fun K hK => ?_ | refine WC.block ?_ | refine WC.regionG rfl fun ops hG => ?_))
        refine WC.cond (Ev.tmp rfl) (fun c50 => ?_) (fun c50 => ?_)
        · have d50 : ((base == 16) && decide ((c.toNat : Int) ≥ 65) && decide ((c.toNat : Int) ≤ 70)) = true := c50
          have r65 : 65 ≤ (c.toNat : Int) ∧ (c.toNat : Int) ≤ 70 := by simp at d50; omega
          have hdv : dval base c = (c.toNat : Int) - 65 + 10 := by unfold dval; rw [d50]; rfl
          (repeat (first | refine WC.seqK fun K hK => ?_ | refine WC.block ?_ | refine WC.regionG rfl fun ops hG => ?_))
          refine WL.po (PO.move (Ev.tmp rfl)) (Nat.le_of_ble_eq_true rfl) ?_
          refine WL.po (PO.move (Ev.tmp rfl)) (Nat.le_of_ble_eq_true rfl) ?_
          refine WL.po (PO.idxS Tryd.underlying9 (Ev.tmp rfl) (Ev.tmp rfl) rfl (by assumption)) (Nat.le_of_ble_eq_true rfl) ?_
          refine WL.po (PO.bin (Ev.tmp rfl) Ev.const rfl) (Nat.le_of_ble_eq_true rfl) ?_
          refine WL.val (v' := .int .u8 ((c.toNat : Int) - 65)) (congrArg (Value.int .u8) (sub65 r65)) ?_
          refine WL.po (PO.conv Tryd.underlying5 Tryd.underlying2 (Ev.tmp rfl)) (Nat.le_of_ble_eq_true rfl) ?_
          refine WL.val (v' := .int .i64 ((c.toNat : Int) - 65)) (congrArg (Value.int .i64) (wrap64 (by omega))) ?_
          refine WL.po (PO.addI (Ev.tmp rfl) Ev.const (by omega)) (Nat.le_of_ble_eq_true rfl) ?_
          refine WL.po (PO.assign (Ev.tmp rfl)) (Nat.le_of_ble_eq_true rfl) ?_
          refine WL.nil (meetI [(12, .int .i64 ((c.toNat : Int) - 65 + 10))] (h'' := h) ?_ (by (repeat (first | exact Sub.nil | refine Sub.cons rfl ?_ | refine Sub.consE rfl (by simp; done) ?_))) (by (repeat (first | exact List.Sublist.refl _ | refine List.Sublist.cons_cons _ ?_ | apply List.Sublist.cons))) ⟨(c.toNat : Int) - 65 + 10, ⟨hdv.symm, by omega, by omega⟩, rfl, rfl⟩)
          (repeat (first | exact Sub.nil | refine Sub.cons rfl ?_ | refine Sub.consE rfl (by simp; done) ?_))
        · have d50 : ((base == 16) && decide ((c.toNat : Int) ≥ 65) && decide ((c.toNat : Int) ≤ 70)) = false := c50
          have hdv : dval base c = d := by unfold dval; rw [d50, hd]; rfl
          refine WC.skip (meetI [(12, .int .i64 d)] (h'' := h) ?_ (by (repeat (first | exact Sub.nil | refine Sub.cons rfl ?_ | refine Sub.consE rfl (by simp; done) ?_))) (by (repeat (first | exact List.Sublist.refl _ | refine List.Sublist.cons_cons _ ?_ | apply List.Sublist.cons))) ⟨d, ⟨hdv.symm, by omega, hd2⟩, rfl, rfl⟩)
          (repeat (first | exact Sub.nil | refine Sub.cons rfl ?_ | refine Sub.consE rfl (by simp; done) ?_))
      rintro _ _ ⟨q, ⟨hq, hq1, hq2⟩, rfl, rfl⟩
      refine WC.frm rfl ?_
      (repeat (first | refine WC.seqK fun K hK => ?_ | refine WC.block ?_ | refine WC.regionG rfl fun ops hG => ?_))
      refine WL.po (PO.move (Ev.tmp rfl)) (Nat.le_of_ble_eq_true rfl) ?_
      refine WL.po (PO.bin (Ev.tmp rfl) Ev.const rfl) (Nat.le_of_ble_eq_true rfl) ?_
      refine WL.nil (keepF (ts := [0, 1, 3, 10, 11, 12, 58]) rfl (toK (by assumption) ?_))
      (try clear hG ops)
      (repeat (first | refine WC.seqK fun K hK => ?_ | refine WC.block ?_ | refine WC.regionG rfl fun ops hG => ?_))
      refine WC.cond (Ev.tmp rfl) (fun c58 => ?_) (fun c58 => ?_)
      · rw [← hq, c58] at hJ
        (repeat (first | refine WC.seqK fun K hK => ?_ | refine WC.block ?_ | refine WC.regionG rfl fun ops hG => ?_))
        refine WL.po (PO.assign Ev.const) (Nat.le_of_ble_eq_true rfl) ?_
        refine WL.po (PO.assign Ev.const) (Nat.le_of_ble_eq_true rfl) ?_
        refine WL.nil (keepF (ts := [8, 9]) rfl (toK (by assumption) ?_))
        (try clear hG ops)
        refine WC.ret (end2 (h' := h) (.inl rfl) rfl (RV.tmp rfl) (RV.tmp rfl) (View.le.refl m) (by (repeat (first | exact List.Sublist.refl _ | refine List.Sublist.cons_cons _ ?_ | apply List.Sublist.cons))) ?_)
        exact ⟨by unfold valR; rw [d21, hJ]; rfl, rfl⟩
      · rw [← hq, c58] at hJ
        have q0 : 0 ≤ q := by have := of_decide_eq_false c58; omega
        have hst := dval_step (d := q) hb0 (by rw [hq]; exact hdl c) hv1
        refine WC.skip (keepF (ts := [0, 1, 3, 10, 11, 12]) rfl (toK (by assumption) ?_))
        (repeat (first | refine WC.seqK fun K hK => ?_ | refine WC.block ?_ | refine WC.regionG rfl fun ops hG => ?_))
        refine WL.po (PO.move (Ev.tmp rfl)) (Nat.le_of_ble_eq_true rfl) ?_
        refine WL.po (PO.move (Ev.tmp rfl)) (Nat.le_of_ble_eq_true rfl) ?_
        refine WL.po (PO.mulI (Ev.tmp rfl) (Ev.tmp rfl) (by omega)) (Nat.le_of_ble_eq_true rfl) ?_
        refine WL.po (PO.move (Ev.tmp rfl)) (Nat.le_of_ble_eq_true rfl) ?_
        refine WL.po (PO.addI (Ev.tmp rfl) (Ev.tmp rfl) (by omega)) (Nat.le_of_ble_eq_true rfl) ?_
        refine WL.po (PO.assign (Ev.tmp rfl)) (Nat.le_of_ble_eq_true rfl) ?_
        refine WL.nil (keepF (ts := [0, 1, 3, 10, 11]) rfl (toK (by assumption) ?_))
        (try clear hG ops)
        (repeat (first | refine WC.seqK fun K hK => ?_ | refine WC.block ?_ | refine WC.regionG rfl fun ops hG => ?_))
        refine WL.po (PO.move (Ev.tmp rfl)) (Nat.le_of_ble_eq_true rfl) ?_
        refine WL.po (PO.addI (Ev.tmp rfl) Ev.const (by omega)) (Nat.le_of_ble_eq_true rfl) ?_
        refine WL.po (PO.assign (Ev.tmp rfl)) (Nat.le_of_ble_eq_true rfl) ?_
        refine WL.nil (loopBackI (s.length - (k + 1)) [(10, .int .i64 (base * v + q)), (11, .int .i64 (k + 1))] (h'' := h) (by omega) ?_ (by (repeat (first | exact Sub.nil | refine Sub.cons rfl ?_ | refine Sub.consE rfl (by simp; done) ?_))) (by (repeat (first | exact List.Sublist.refl _ | refine List.Sublist.cons_cons _ ?_ | apply List.Sublist.cons))) ⟨k + 1, base * v + q, ⟨⟨by omega, by simpa using hJ⟩, by omega, hst⟩, rfl, rfl, rfl⟩)
        (repeat (first | exact Sub.nil | refine Sub.cons rfl ?_ | refine Sub.consE rfl (by simp; done) ?_))
    · replace c25 := of_decide_eq_false c25
      rw [List.drop_eq_nil_of_le (by omega)] at hJ
      have hJ2 : valV base s 0 = some v := hJ
      refine WC.exit (keepF (ts := [3, 10]) rfl (toK (by assumption) ?_))
      (repeat (first | refine WC.seqK fun K hK => ?_ | refine WC.block ?_ | refine WC.regionG rfl fun ops hG => ?_))
      refine WL.po (PO.move (Ev.tmp rfl)) (Nat.le_of_ble_eq_true rfl) ?_
      refine WL.po (PO.move (Ev.tmp rfl)) (Nat.le_of_ble_eq_true rfl) ?_
      refine WL.po (PO.move (Ev.tmp rfl)) (Nat.le_of_ble_eq_true rfl) ?_
      refine WL.po (PO.bin (Ev.tmp rfl) (Ev.tmp rfl) rfl) (Nat.le_of_ble_eq_true rfl) ?_
      refine WL.po (PO.assign (Ev.tmp rfl)) (Nat.le_of_ble_eq_true rfl) ?_
      refine WL.po (PO.assign (Ev.tmp rfl)) (Nat.le_of_ble_eq_true rfl) ?_
      refine WL.nil (keepF (ts := [8, 9]) rfl (toK (by assumption) ?_))
      (try clear hG ops)
      refine WC.ret (end2 (h' := h) (.inl rfl) rfl (RV.tmp rfl) (RV.tmp rfl) (View.le.refl m) (by (repeat (first | exact List.Sublist.refl _ | refine List.Sublist.cons_cons _ ?_ | apply List.Sublist.cons))) ?_)
      exact ⟨by unfold valR; rw [d21, hJ2]; rfl, rfl⟩
theorem findS_drop (s : B) {l : List B} {v : List Int} {j : Nat} {x : B} {y : Int} (hx : l[j]? = some x) (hy : v[j]? = some y) : findS s (l.drop j) (v.drop j) = if s == x then some y else findS s (l.drop (j + 1)) (v.drop (j + 1)) := by
  have h1 : j < l.length := (List.getElem?_eq_some_iff.1 hx).1
  have h2 : j < v.length := (List.getElem?_eq_some_iff.1 hy).1
  rw [List.drop_eq_getElem_cons h1, (List.getElem?_eq_some_iff.1 hx).2, List.drop_eq_getElem_cons h2, (List.getElem?_eq_some_iff.1 hy).2]
  rfl
theorem escape_ct (s : B) (h : List Res) (m : View) (_hs : s.length ≤ 9223372036854775807) : CT Tryd.prog 95 [str s] h m (Pure1 h (.tuple #[.int .i32 (escR s).1, .bool (escR s).2])) := by
  have hq : 0 < s.length → s[0]? = some (s.getD 0 0) := fun hi => by rw [List.getD_eq_getElem?_getD, List.getElem?_eq_getElem hi]; rfl
  refine CT.body Tryd.call95 Tryd.func95 rfl Tryd.ntmps95 (Nat.le_of_ble_eq_true rfl) rfl ?_
  (repeat (first | refine WC.seqK fun K hK => ?_ | refine WC.block ?_ | refine WC.regionG rfl fun ops hG => ?_))
  refine WL.po (PO.assign Ev.const) (Nat.le_of_ble_eq_true rfl) ?_
  refine WL.po (PO.assign Ev.const) (Nat.le_of_ble_eq_true rfl) ?_
  refine WL.nil (keepF (ts := [0]) rfl (toK (by assumption) ?_))
  (try clear hG ops)
  (repeat (first | refine WC.seqK fun K hK => ?_ | refine WC.block ?_ | refine WC.regionG rfl fun ops hG => ?_))
  refine WL.po (PO.move (Ev.tmp rfl)) (Nat.le_of_ble_eq_true rfl) ?_
  refine WL.po (PO.lenS Tryd.underlying9 (Ev.tmp rfl)) (Nat.le_of_ble_eq_true rfl) ?_
  refine WL.po (PO.bin (Ev.tmp rfl) Ev.const rfl) (Nat.le_of_ble_eq_true rfl) ?_
  refine WL.po (PO.move (Ev.tmp rfl)) (Nat.le_of_ble_eq_true rfl) ?_
  refine WL.poG (GU.t (hG _ _ rfl) rfl) (fun hc => PO.move (Ev.tmp rfl)) (Nat.le_of_ble_eq_true rfl) ?_
  refine WL.poG (GU.t (hG _ _ rfl) rfl) (fun hc => PO.idxS Tryd.underlying9 (Ev.gv rfl hc) Ev.const (q := 0) rfl (hq (by simp at hc; omega))) (Nat.le_of_ble_eq_true rfl) ?_
  refine WL.poG (GU.t (hG _ _ rfl) rfl) (fun hc => PO.bin (Ev.gv rfl hc) Ev.const rfl) (Nat.le_of_ble_eq_true rfl) ?_
  refine WL.po (PO.pickAnd rfl rfl) (Nat.le_of_ble_eq_true rfl) ?_
  refine WL.po (PO.move (Ev.tmp rfl)) (Nat.le_of_ble_eq_true rfl) ?_
  refine WL.poG (GU.t (hG _ _ rfl) rfl) (fun hc => PO.move (Ev.tmp rfl)) (Nat.le_of_ble_eq_true rfl) ?_
  refine WL.poG (GU.t (hG _ _ rfl) rfl) (fun hc => PO.idxS Tryd.underlying9 (Ev.gv rfl hc) Ev.const (q := 0) rfl (hq (by simp at hc; omega))) (Nat.le_of_ble_eq_true rfl) ?_
  refine WL.poG (GU.t (hG _ _ rfl) rfl) (fun hc => PO.bin (Ev.gv rfl hc) Ev.const rfl) (Nat.le_of_ble_eq_true rfl) ?_
  refine WL.po (PO.pickAnd rfl rfl) (Nat.le_of_ble_eq_true rfl) ?_
  refine WL.po (PO.move (Ev.tmp rfl)) (Nat.le_of_ble_eq_true rfl) ?_
  refine WL.poG (GU.t (hG _ _ rfl) rfl) (fun hc => PO.move (Ev.tmp rfl)) (Nat.le_of_ble_eq_true rfl) ?_
  refine WL.poG (GU.t (hG _ _ rfl) rfl) (fun hc => PO.neqS (Ev.gv rfl hc) Ev.const) (Nat.le_of_ble_eq_true rfl) ?_
  refine WL.po (PO.pickAnd rfl rfl) (Nat.le_of_ble_eq_true rfl) ?_
  refine WL.po (PO.move (Ev.tmp rfl)) (Nat.le_of_ble_eq_true rfl) ?_
  refine WL.poG (GU.t (hG _ _ rfl) rfl) (fun hc => PO.move (Ev.tmp rfl)) (Nat.le_of_ble_eq_true rfl) ?_
  refine WL.poG (GU.t (hG _ _ rfl) rfl) (fun hc => PO.neqS (Ev.gv rfl hc) Ev.const) (Nat.le_of_ble_eq_true rfl) ?_
  refine WL.po (PO.pickAnd rfl rfl) (Nat.le_of_ble_eq_true rfl) ?_
  refine WL.nil (keepF (ts := [0, 29]) rfl (toK (by assumption) ?_))
  (try clear hG ops)
  (repeat (first | refine WC.seqK fun K hK => ?_ | refine WC.block ?_ | refine WC.regionG rfl fun ops hG => ?_))
  refine WC.cond (Ev.tmp rfl) (fun c29 => ?_) (fun c29 => ?_)
  · have d29 : (((s.length : Int) == 1) && decide (chB s 0 ≥ 32) && decide (chB s 0 ≤ 126) && (s != [39]) && (s != [42])) = true := c29
    have h0 := hq (by simp at d29; omega)
    (repeat (first | refine WC.seqK fun K hK => ?_ | refine WC.block ?_ | refine WC.regionG rfl fun ops hG => ?_))
    refine WL.po (PO.move (Ev.tmp rfl)) (Nat.le_of_ble_eq_true rfl) ?_
    refine WL.po (PO.idxS Tryd.underlying9 (Ev.tmp rfl) Ev.const (q := 0) rfl (by assumption)) (Nat.le_of_ble_eq_true rfl) ?_
    refine WL.po (PO.conv Tryd.underlying5 Tryd.underlying21 (Ev.tmp rfl)) (Nat.le_of_ble_eq_true rfl) ?_
    refine WL.val (v' := .int .i32 (chB s 0)) (congrArg (Value.int .i32) (wrap_u8 _)) ?_
    refine WL.po (PO.assign (Ev.tmp rfl)) (Nat.le_of_ble_eq_true rfl) ?_
    refine WL.po (PO.assign Ev.const) (Nat.le_of_ble_eq_true rfl) ?_
    refine WL.nil (keepF (ts := [2, 3]) rfl (toK (by assumption) ?_))
    (try clear hG ops)
    refine WC.ret (end2 (h' := h) (.inl rfl) rfl (RV.tmp rfl) (RV.tmp rfl) (View.le.refl m) (by (repeat (first | exact List.Sublist.refl _ | refine List.Sublist.cons_cons _ ?_ | apply List.Sublist.cons))) ?_)
    exact ⟨by unfold escR; rw [d29]; rfl, rfl⟩
  · have d29 : (((s.length : Int) == 1) && decide (chB s 0 ≥ 32) && decide (chB s 0 ≤ 126) && (s != [39]) && (s != [42])) = false := c29
    refine WC.skip (keepF (ts := [0]) rfl (toK (by assumption) ?_))
    (repeat (first | refine WC.seqK fun K hK => ?_ | refine WC.block ?_ | refine WC.regionG rfl fun ops hG => ?_))
    refine WL.buildSlice EL49 rfl (EvP.cons Ev.const (EvP.cons Ev.const (EvP.cons Ev.const (EvP.cons Ev.const (EvP.cons Ev.const (EvP.cons Ev.const (EvP.cons Ev.const EvP.nil))))))) rfl rfl (by decide) rfl (Nat.le_of_ble_eq_true rfl) fun b33 => ?_
    refine WL.po (PO.assign (Ev.tmp rfl)) (Nat.le_of_ble_eq_true rfl) ?_
    refine WL.nil (keepF (ts := [0, 4]) rfl (toK (by assumption) ?_))
    (try clear hG ops)
    (repeat (first | refine WC.seqK fun K hK => ?_ | refine WC.block ?_ | refine WC.regionG rfl fun ops hG => ?_))
    refine WL.buildSlice EL118 rfl (EvP.cons Ev.const (EvP.cons Ev.const (EvP.cons Ev.const (EvP.cons Ev.const (EvP.cons Ev.const (EvP.cons Ev.const (EvP.cons Ev.const EvP.nil))))))) rfl rfl (by decide) rfl (Nat.le_of_ble_eq_true rfl) fun b34 => ?_
    refine WL.po (PO.assign (Ev.tmp rfl)) (Nat.le_of_ble_eq_true rfl) ?_
    refine WL.nil (keepF (ts := [0, 4, 5]) rfl (toK (by assumption) ?_))
    (try clear hG ops)
    (repeat (first | refine WC.seqK fun K hK => ?_ | refine WC.block ?_ | refine WC.regionG rfl fun ops hG => ?_))
    refine WL.po (PO.assign Ev.const) (Nat.le_of_ble_eq_true rfl) ?_
    refine WL.nil (keepF (ts := [0, 4, 5, 6]) rfl (toK (by assumption) ?_))
    (try clear hG ops)
    (repeat (first | refine WC.seqK fun K hK => ?_ | refine WC.block ?_ | refine WC.regionG rfl fun ops hG => ?_))
    refine WC.loopI [0, 4, 5] rfl (fun μ F' h' => ∃ j : Nat, (j ≤ 7 ∧ findS s shortL standsL = findS s (shortL.drop j) (standsL.drop j)) ∧ 7 - j = μ ∧ F' = [(6, .int .i64 j)] ∧ .pt b34 (.cells (fl encJ standsL).toArray 21 (0, 0)) :: .pt b33 (.cells (fl encB shortL).toArray 9 (0, 0)) :: h = h') (7 - 0) [(6, .int .i64 0)] (h0 := .pt b34 (.cells (fl encJ standsL).toArray 21 (0, 0)) :: .pt b33 (.cells (fl encB shortL).toArray 9 (0, 0)) :: h) ?_ (by (repeat (first | exact List.Sublist.refl _ | refine List.Sublist.cons_cons _ ?_ | apply List.Sublist.cons))) ⟨0, ⟨by omega, rfl⟩, rfl, rfl, rfl⟩ ?_
    · (repeat (first | exact Sub.nil | refine Sub.cons rfl ?_ | refine Sub.consE rfl (by simp; done) ?_))
    rintro _ _ _ ⟨j, ⟨hk, hJ⟩, rfl, rfl, rfl⟩
    refine WC.frm rfl ?_
    (repeat (first | refine WC.seqK fun K hK => ?_ | refine WC.block ?_ | refine WC.regionG rfl fun ops hG => ?_))
    refine WL.po (PO.move (Ev.tmp rfl)) (Nat.le_of_ble_eq_true rfl) ?_
    refine WL.po (PO.move (Ev.tmp rfl)) (Nat.le_of_ble_eq_true rfl) ?_
    refine WL.po (PO.lenSl Tryd.underlying49 (Ev.tmp rfl)) (Nat.le_of_ble_eq_true rfl) ?_
    refine WL.po (PO.bin (Ev.tmp rfl) (Ev.tmp rfl) rfl) (Nat.le_of_ble_eq_true rfl) ?_
    refine WL.nil (keepF (ts := [0, 4, 5, 6, 38]) rfl (toK (by assumption) ?_))
    (try clear hG ops)
    (repeat (first | refine WC.seqK fun K hK => ?_ | refine WC.block ?_ | refine WC.regionG rfl fun ops hG => ?_))
    refine WC.cond (Ev.tmp rfl) (fun c38 => ?_) (fun c38 => ?_)
    · replace c38 := of_decide_eq_true c38
      obtain ⟨x, hx⟩ := get_some (l := shortL) (k := j) (by show j < 7; omega)
      obtain ⟨y, hy⟩ := get_some (l := standsL) (k := j) (by show j < 7; omega)
      rw [findS_drop s hx hy] at hJ
      have hR1 : Rd m (.pt b34 (.cells (fl encJ standsL).toArray 21 (0, 0)) :: .pt b33 (.cells (fl encB shortL).toArray 9 (0, 0)) :: h) (some ⟨b33, 0, none⟩) 7 7 1 (fl encB shortL) := Rd.ofPt rfl (by decide) (List.Mem.tail _ (List.Mem.head _))
      have hR2 : Rd m (.pt b34 (.cells (fl encJ standsL).toArray 21 (0, 0)) :: .pt b33 (.cells (fl encB shortL).toArray 9 (0, 0)) :: h) (some ⟨b34, 0, none⟩) 7 7 1 (fl encJ standsL) := Rd.ofPt rfl (by decide) (List.Mem.head _)
      refine WC.skip (keepF (ts := [0, 4, 5, 6]) rfl (toK (by assumption) ?_))
      (repeat (first | refine WC.seqK fun K hK => ?_ | refine WC.block ?_ | refine WC.regionG rfl fun ops hG => ?_))
      refine WL.po (PO.move (Ev.tmp rfl)) (Nat.le_of_ble_eq_true rfl) ?_
      refine WL.po (PO.move (Ev.tmp rfl)) (Nat.le_of_ble_eq_true rfl) ?_
      refine WL.po (PO.move (Ev.tmp rfl)) (Nat.le_of_ble_eq_true rfl) ?_
      refine WL.po (PO.idx EL49.und EL49.size EL49.posz (Ev.tmp rfl) (Ev.tmp rfl) (by first | assumption | exact Rd.ofSl (by assumption) | exact Rd.ofPt rfl (by decide) (by (repeat (first | exact List.Mem.head _ | apply List.Mem.tail))) | exact Rd.mono (by assumption) (View.le.refl _) (by (repeat (first | exact List.Sublist.refl _ | refine List.Sublist.cons_cons _ ?_ | apply List.Sublist.cons))) | exact Rd.inRow (by (repeat (first | exact List.Mem.head _ | apply List.Mem.tail))) (by assumption) (by assumption) (by assumption)) rfl (by omega)) (Nat.le_of_ble_eq_true rfl) ?_
      refine WL.po (PO.loadF1 Tryd.underlying9 rfl encB_len (by first | assumption | exact Rd.ofSl (by assumption) | exact Rd.ofPt rfl (by decide) (by (repeat (first | exact List.Mem.head _ | apply List.Mem.tail))) | exact Rd.mono (by assumption) (View.le.refl _) (by (repeat (first | exact List.Sublist.refl _ | refine List.Sublist.cons_cons _ ?_ | apply List.Sublist.cons))) | exact Rd.inRow (by (repeat (first | exact List.Mem.head _ | apply List.Mem.tail))) (by assumption) (by assumption) (by assumption)) (Ev.tmp rfl) (by assumption) rfl) (Nat.le_of_ble_eq_true rfl) ?_
      refine WL.po (PO.eqlS (Ev.tmp rfl) (Ev.tmp rfl)) (Nat.le_of_ble_eq_true rfl) ?_
      refine WL.nil (keepF (ts := [0, 4, 5, 6, 46]) rfl (toK (by assumption) ?_))
      (try clear hG ops)
      (repeat (first | refine WC.seqK fun K hK => ?_ | refine WC.block ?_ | refine WC.regionG rfl fun ops hG => ?_))
      refine WC.cond (Ev.tmp rfl) (fun c46 => ?_) (fun c46 => ?_)
      · rw [c46] at hJ
        (repeat (first | refine WC.seqK fun K hK => ?_ | refine WC.block ?_ | refine WC.regionG rfl fun ops hG => ?_))
        refine WL.po (PO.move (Ev.tmp rfl)) (Nat.le_of_ble_eq_true rfl) ?_
        refine WL.po (PO.move (Ev.tmp rfl)) (Nat.le_of_ble_eq_true rfl) ?_
        refine WL.po (PO.idx EL118.und EL118.size EL118.posz (Ev.tmp rfl) (Ev.tmp rfl) (by first | assumption | exact Rd.ofSl (by assumption) | exact Rd.ofPt rfl (by decide) (by (repeat (first | exact List.Mem.head _ | apply List.Mem.tail))) | exact Rd.mono (by assumption) (View.le.refl _) (by (repeat (first | exact List.Sublist.refl _ | refine List.Sublist.cons_cons _ ?_ | apply List.Sublist.cons))) | exact Rd.inRow (by (repeat (first | exact List.Mem.head _ | apply List.Mem.tail))) (by assumption) (by assumption) (by assumption)) rfl (by omega)) (Nat.le_of_ble_eq_true rfl) ?_
        refine WL.po (PO.loadF1 Tryd.underlying21 rfl encJ_len (by first | assumption | exact Rd.ofSl (by assumption) | exact Rd.ofPt rfl (by decide) (by (repeat (first | exact List.Mem.head _ | apply List.Mem.tail))) | exact Rd.mono (by assumption) (View.le.refl _) (by (repeat (first | exact List.Sublist.refl _ | refine List.Sublist.cons_cons _ ?_ | apply List.Sublist.cons))) | exact Rd.inRow (by (repeat (first | exact List.Mem.head _ | apply List.Mem.tail))) (by assumption) (by assumption) (by assumption)) (Ev.tmp rfl) (by assumption) rfl) (Nat.le_of_ble_eq_true rfl) ?_
        refine WL.po (PO.assign (Ev.tmp rfl)) (Nat.le_of_ble_eq_true rfl) ?_
        refine WL.po (PO.assign Ev.const) (Nat.le_of_ble_eq_true rfl) ?_
        refine WL.nil (keepF (ts := [2, 3]) rfl (toK (by assumption) ?_))
        (try clear hG ops)
        refine WC.ret (end2 (h' := h) (.inl rfl) rfl (RV.tmp rfl) (RV.tmp rfl) (View.le.refl m) (by (repeat (first | exact List.Sublist.refl _ | refine List.Sublist.cons_cons _ ?_ | apply List.Sublist.cons))) ?_)
        exact ⟨by unfold escR; rw [d29, hJ]; rfl, rfl⟩
      · rw [c46] at hJ
        refine WC.skip (keepF (ts := [0, 4, 5, 6]) rfl (toK (by assumption) ?_))
        (repeat (first | refine WC.seqK fun K hK => ?_ | refine WC.block ?_ | refine WC.regionG rfl fun ops hG => ?_))
        refine WL.po (PO.move (Ev.tmp rfl)) (Nat.le_of_ble_eq_true rfl) ?_
        refine WL.po (PO.addI (Ev.tmp rfl) Ev.const (by omega)) (Nat.le_of_ble_eq_true rfl) ?_
        refine WL.po (PO.assign (Ev.tmp rfl)) (Nat.le_of_ble_eq_true rfl) ?_
        refine WL.nil (loopBackI (7 - (j + 1)) [(6, .int .i64 (j + 1))] (h'' := .pt b34 (.cells (fl encJ standsL).toArray 21 (0, 0)) :: .pt b33 (.cells (fl encB shortL).toArray 9 (0, 0)) :: h) (by omega) ?_ (by (repeat (first | exact Sub.nil | refine Sub.cons rfl ?_ | refine Sub.consE rfl (by simp; done) ?_))) (by (repeat (first | exact List.Sublist.refl _ | refine List.Sublist.cons_cons _ ?_ | apply List.Sublist.cons))) ⟨j + 1, ⟨by omega, by simpa using hJ⟩, rfl, rfl, rfl⟩)
        (repeat (first | exact Sub.nil | refine Sub.cons rfl ?_ | refine Sub.consE rfl (by simp; done) ?_))
    · replace c38 := of_decide_eq_false c38
      rw [List.drop_eq_nil_of_le (by show 7 ≤ j; omega)] at hJ
      have hJ2 : findS s shortL standsL = none := hJ
      refine WC.exit (keepF (ts := [0]) rfl (toK (by assumption) ?_))
      (repeat (first | refine WC.seqK fun K hK => ?_ | refine WC.block ?_ | refine WC.regionG rfl fun ops hG => ?_))
      refine WL.po (PO.move (Ev.tmp rfl)) (Nat.le_of_ble_eq_true rfl) ?_
      refine WL.po (PO.lenS Tryd.underlying9 (Ev.tmp rfl)) (Nat.le_of_ble_eq_true rfl) ?_
      refine WL.po (PO.bin (Ev.tmp rfl) Ev.const rfl) (Nat.le_of_ble_eq_true rfl) ?_
      refine WL.po (PO.move (Ev.tmp rfl)) (Nat.le_of_ble_eq_true rfl) ?_
      refine WL.poG (GU.t (hG _ _ rfl) rfl) (fun hc => PO.move (Ev.tmp rfl)) (Nat.le_of_ble_eq_true rfl) ?_
      refine WL.poG (GU.t (hG _ _ rfl) rfl) (fun hc => PO.sliceSH Tryd.underlying9 (Ev.gv rfl hc) Ev.const (u := 2) rfl (by simp at hc; omega)) (Nat.le_of_ble_eq_true rfl) ?_
      refine WL.poG (GU.t (hG _ _ rfl) rfl) (fun hc => PO.eqlS (Ev.gv rfl hc) Ev.const) (Nat.le_of_ble_eq_true rfl) ?_
      refine WL.po (PO.pickAnd rfl rfl) (Nat.le_of_ble_eq_true rfl) ?_
      refine WL.nil (keepF (ts := [0, 58]) rfl (toK (by assumption) ?_))
      (try clear hG ops)
      (repeat (first | refine WC.seqK fun K hK => ?_ | refine WC.block ?_ | refine WC.regionG rfl fun ops hG => ?_))
      refine WC.cond (Ev.tmp rfl) (fun c58 => ?_) (fun c58 => ?_)
      · have d58 : (((s.length : Int) == 4) && (s.take 2 == [42, 35])) = true := c58
        have hl4 : s.length = 4 := by simp at d58; omega
        have hl2 : (s.drop 2).length ≤ 9223372036854775807 := by rw [List.length_drop]; omega
        (repeat (first | refine WC.seqK fun K hK => ?_ | refine WC.block ?_ | refine WC.regionG rfl fun ops hG => ?_))
        refine WL.po (PO.move (Ev.tmp rfl)) (Nat.le_of_ble_eq_true rfl) ?_
        refine WL.po (PO.sliceSL Tryd.underlying9 (Ev.tmp rfl) Ev.const (l := 2) rfl (by omega)) (Nat.le_of_ble_eq_true rfl) ?_
        refine WL.callP Ev.func (Evs.cons (Ev.tmp rfl) (Evs.cons Ev.const (Evs.cons Ev.const (Evs.cons Ev.const Evs.nil)))) (value_ct (s.drop 2) 16 2 256 _ _ (.inr ⟨rfl, by decide⟩) hl2) (Nat.le_of_ble_eq_true rfl) ?_
        refine WL.po (PO.move (Ev.tmp rfl)) (Nat.le_of_ble_eq_true rfl) ?_
        refine WL.po (PO.extract (Ev.tmp rfl) rfl) (Nat.le_of_ble_eq_true rfl) ?_
        refine WL.po (PO.extract (Ev.tmp rfl) rfl) (Nat.le_of_ble_eq_true rfl) ?_
        refine WL.po (PO.assign (Ev.tmp rfl)) (Nat.le_of_ble_eq_true rfl) ?_
        refine WL.po (PO.assign (Ev.tmp rfl)) (Nat.le_of_ble_eq_true rfl) ?_
        refine WL.nil (keepF (ts := [7, 8]) rfl (toK (by assumption) ?_))
        (try clear hG ops)
        (repeat (first | refine WC.seqK fun K hK => ?_ | refine WC.block ?_ | refine WC.regionG rfl fun ops hG => ?_))
        refine WL.po (PO.move (Ev.tmp rfl)) (Nat.le_of_ble_eq_true rfl) ?_
        refine WL.po (PO.conv Tryd.underlying2 Tryd.underlying21 (Ev.tmp rfl)) (Nat.le_of_ble_eq_true rfl) ?_
        refine WL.po (PO.move (Ev.tmp rfl)) (Nat.le_of_ble_eq_true rfl) ?_
        refine WL.po (PO.assign (Ev.tmp rfl)) (Nat.le_of_ble_eq_true rfl) ?_
        refine WL.po (PO.assign (Ev.tmp rfl)) (Nat.le_of_ble_eq_true rfl) ?_
        refine WL.nil (keepF (ts := [2, 3]) rfl (toK (by assumption) ?_))
        (try clear hG ops)
        refine WC.ret (end2 (h' := h) (.inl rfl) rfl (RV.tmp rfl) (RV.tmp rfl) (View.le.refl m) (by (repeat (first | exact List.Sublist.refl _ | refine List.Sublist.cons_cons _ ?_ | apply List.Sublist.cons))) ?_)
        exact ⟨by unfold escR; rw [d29, hJ2]; simp only [Bool.false_eq_true, if_false, d58, if_true]; rfl, rfl⟩
      · have d58 : (((s.length : Int) == 4) && (s.take 2 == [42, 35])) = false := c58
        refine WC.skip (keepF (ts := []) rfl (toK (by assumption) ?_))
        (repeat (first | refine WC.seqK fun K hK => ?_ | refine WC.block ?_ | refine WC.regionG rfl fun ops hG => ?_))
        refine WL.po (PO.assign Ev.const) (Nat.le_of_ble_eq_true rfl) ?_
        refine WL.po (PO.assign Ev.const) (Nat.le_of_ble_eq_true rfl) ?_
        refine WL.nil (keepF (ts := [2, 3]) rfl (toK (by assumption) ?_))
        (try clear hG ops)
        refine WC.ret (end2 (h' := h) (.inl rfl) rfl (RV.tmp rfl) (RV.tmp rfl) (View.le.refl m) (by (repeat (first | exact List.Sublist.refl _ | refine List.Sublist.cons_cons _ ?_ | apply List.Sublist.cons))) ?_)
        exact ⟨by unfold escR; rw [d29, hJ2]; simp only [Bool.false_eq_true, if_false, d58], rfl⟩
theorem quotR_ct (s : B) (h : List Res) (m : View) (hs : s.length ≤ 140737488355328) : CT Tryd.prog 77 [str s] h m (Pure1 h (tkR (quotedR s))) := by
  have hq : ∀ i : Nat, i < s.length → s[i]? = some (s.getD i 0) := fun i hi => by rw [List.getD_eq_getElem?_getD, List.getElem?_eq_getElem hi]; rfl
  refine CT.body Tryd.call77 Tryd.func77 rfl Tryd.ntmps77 (Nat.le_of_ble_eq_true rfl) rfl ?_
  (repeat (first | refine WC.seqK fun K hK => ?_ | refine WC.block ?_ | refine WC.regionG rfl fun ops hG => ?_))
  refine WL.alloc rfl rfl (Nat.le_of_ble_eq_true rfl) fun b2 => ?_
  refine WL.po (PO.assign Ev.const) (Nat.le_of_ble_eq_true rfl) ?_
  refine WL.nil (keepF (ts := [0, 2]) rfl (toK (by assumption) ?_))
  (try clear hG ops)
  (repeat (first | refine WC.seqK fun K hK => ?_ | refine WC.block ?_ | refine WC.regionG rfl fun ops hG => ?_))
  refine WL.po (PO.assign Ev.const) (Nat.le_of_ble_eq_true rfl) ?_
  refine WL.nil (keepF (ts := [0, 2, 4]) rfl (toK (by assumption) ?_))
  (try clear hG ops)
  (repeat (first | refine WC.seqK fun K hK => ?_ | refine WC.block ?_ | refine WC.regionG rfl fun ops hG => ?_))
  refine WC.loopI [0, 2] rfl (fun μ F' h' => ∃ n : Nat, ((3 ≤ n ∧ n ≤ 7) ∧ quotedR s = quotL s ([3, 4, 5, 6].drop (n - 3))) ∧ 7 - n = μ ∧ F' = [(4, .int .i64 n)] ∧ .pt b2 (.cells (encK zeroK).toArray 26 (0, 0)) :: h = h') (7 - 3) [(4, .int .i64 3)] (h0 := .pt b2 (.cells (encK zeroK).toArray 26 (0, 0)) :: h) ?_ (by (repeat (first | exact List.Sublist.refl _ | refine List.Sublist.cons_cons _ ?_ | apply List.Sublist.cons))) ⟨3, ⟨by omega, rfl⟩, rfl, rfl, rfl⟩ ?_
  · (repeat (first | exact Sub.nil | refine Sub.cons rfl ?_ | refine Sub.consE rfl (by simp; done) ?_))
  rintro _ _ _ ⟨n, ⟨hn, hJ⟩, rfl, rfl, rfl⟩
  refine WC.frm rfl ?_
  (repeat (first | refine WC.seqK fun K hK => ?_ | refine WC.block ?_ | refine WC.regionG rfl fun ops hG => ?_))
  refine WL.po (PO.move (Ev.tmp rfl)) (Nat.le_of_ble_eq_true rfl) ?_
  refine WL.po (PO.bin (Ev.tmp rfl) Ev.const rfl) (Nat.le_of_ble_eq_true rfl) ?_
  refine WL.po (PO.move (Ev.tmp rfl)) (Nat.le_of_ble_eq_true rfl) ?_
  refine WL.poG (GU.t (hG _ _ rfl) rfl) (fun hc => PO.move (Ev.tmp rfl)) (Nat.le_of_ble_eq_true rfl) ?_
  refine WL.poG (GU.t (hG _ _ rfl) rfl) (fun hc => PO.move (Ev.tmp rfl)) (Nat.le_of_ble_eq_true rfl) ?_
  refine WL.poG (GU.t (hG _ _ rfl) rfl) (fun hc => PO.lenS Tryd.underlying9 (Ev.gv rfl hc)) (Nat.le_of_ble_eq_true rfl) ?_
  refine WL.poG (GU.t (hG _ _ rfl) rfl) (fun hc => PO.bin (Ev.gv rfl hc) (Ev.gv rfl hc) rfl) (Nat.le_of_ble_eq_true rfl) ?_
  refine WL.po (PO.pickAnd rfl rfl) (Nat.le_of_ble_eq_true rfl) ?_
  refine WL.nil (keepF (ts := [0, 2, 4, 14]) rfl (toK (by assumption) ?_))
  (try clear hG ops)
  (repeat (first | refine WC.seqK fun K hK => ?_ | refine WC.block ?_ | refine WC.regionG rfl fun ops hG => ?_))
  refine WC.cond (Ev.tmp rfl) (fun c14 => ?_) (fun c14 => ?_)
  · have hn6 : n ≤ 6 ∧ n ≤ s.length := by simp at c14; omega
    have hst : [3, 4, 5, 6].drop (n - 3) = n :: [3, 4, 5, 6].drop (n + 1 - 3) := by
      have : n = 3 ∨ n = 4 ∨ n = 5 ∨ n = 6 := by omega
      rcases this with rfl | rfl | rfl | rfl <;> rfl
    have hlt : ((s.drop 1).take (n - 2)).length ≤ 9223372036854775807 := by rw [List.length_take, List.length_drop]; omega
    rw [hst, quotL, show (!decide ((n : Int) ≤ s.length)) = false by simp; exact hn6.2] at hJ
    simp only [Bool.false_eq_true, if_false] at hJ
    refine WC.skip (keepF (ts := [0, 2, 4]) rfl (toK (by assumption) ?_))
    (repeat (first | refine WC.seqK fun K hK => ?_ | refine WC.block ?_ | refine WC.regionG rfl fun ops hG => ?_))
    refine WL.po (PO.move (Ev.tmp rfl)) (Nat.le_of_ble_eq_true rfl) ?_
    refine WL.po (PO.move (Ev.tmp rfl)) (Nat.le_of_ble_eq_true rfl) ?_
    refine WL.po (PO.subI (Ev.tmp rfl) Ev.const (by omega)) (Nat.le_of_ble_eq_true rfl) ?_
    refine WL.val (v' := .int .i64 ((n - 1 : Nat) : Int)) (congrArg (Value.int .i64) (by omega)) ?_
    refine WL.po (PO.sliceSLH Tryd.underlying9 (Ev.tmp rfl) Ev.const (Ev.tmp rfl) (l := 1) rfl rfl (by omega) (by omega)) (Nat.le_of_ble_eq_true rfl) ?_
    refine WL.val (v' := str ((s.drop 1).take (n - 2))) (by rw [show n - 1 - 1 = n - 2 by omega]) ?_
    refine WL.callP Ev.func (Evs.cons (Ev.tmp rfl) Evs.nil) (escape_ct _ _ _ (by assumption)) (Nat.le_of_ble_eq_true rfl) ?_
    refine WL.po (PO.move (Ev.tmp rfl)) (Nat.le_of_ble_eq_true rfl) ?_
    refine WL.po (PO.extract (Ev.tmp rfl) rfl) (Nat.le_of_ble_eq_true rfl) ?_
    refine WL.po (PO.extract (Ev.tmp rfl) rfl) (Nat.le_of_ble_eq_true rfl) ?_
    refine WL.po (PO.assign (Ev.tmp rfl)) (Nat.le_of_ble_eq_true rfl) ?_
    refine WL.po (PO.assign (Ev.tmp rfl)) (Nat.le_of_ble_eq_true rfl) ?_
    refine WL.nil (keepF (ts := [0, 2, 4, 5, 6]) rfl (toK (by assumption) ?_))
    (try clear hG ops)
    (repeat (first | refine WC.seqK fun K hK => ?_ | refine WC.block ?_ | refine WC.regionG rfl fun ops hG => ?_))
    refine WL.po (PO.move (Ev.tmp rfl)) (Nat.le_of_ble_eq_true rfl) ?_
    refine WL.po (PO.move (Ev.tmp rfl)) (Nat.le_of_ble_eq_true rfl) ?_
    refine WL.poG (GU.t (hG _ _ rfl) rfl) (fun hc => PO.move (Ev.tmp rfl)) (Nat.le_of_ble_eq_true rfl) ?_
    refine WL.poG (GU.t (hG _ _ rfl) rfl) (fun hc => PO.move (Ev.tmp rfl)) (Nat.le_of_ble_eq_true rfl) ?_
    refine WL.poG (GU.t (hG _ _ rfl) rfl) (fun hc => PO.subI (Ev.gv rfl hc) Ev.const (by first | omega | (simp at hc; omega))) (Nat.le_of_ble_eq_true rfl) ?_
    refine WL.poG (GU.t (hG _ _ rfl) rfl) (fun hc => PO.idxS Tryd.underlying9 (Ev.gv rfl hc) (Ev.gv rfl hc) (q := n - 1) (by omega) (hq _ (by omega))) (Nat.le_of_ble_eq_true rfl) ?_
    refine WL.poG (GU.t (hG _ _ rfl) rfl) (fun hc => PO.bin (Ev.gv rfl hc) Ev.const rfl) (Nat.le_of_ble_eq_true rfl) ?_
    refine WL.po (PO.pickAnd rfl rfl) (Nat.le_of_ble_eq_true rfl) ?_
    refine WL.nil (keepF (ts := [0, 2, 4, 5, 32]) rfl (toK (by assumption) ?_))
    (try clear hG ops)
    (repeat (first | refine WC.seqK fun K hK => ?_ | refine WC.block ?_ | refine WC.regionG rfl fun ops hG => ?_))
    refine WC.cond (Ev.tmp rfl) (fun c32 => ?_) (fun c32 => ?_)
    · have d32 : qtry s n = true := c32
      rw [d32] at hJ
      (repeat (first | refine WC.seqK fun K hK => ?_ | refine WC.block ?_ | refine WC.regionG rfl fun ops hG => ?_))
      refine WL.po (PO.move (Ev.tmp rfl)) (Nat.le_of_ble_eq_true rfl) ?_
      refine WL.po (PO.build Tryd.underlying26 rfl rfl rfl (EvP.cons Ev.const (EvP.cons (Ev.tmp rfl) EvP.nil)) rfl) (Nat.le_of_ble_eq_true rfl) ?_
      refine WL.po (PO.move (Ev.tmp rfl)) (Nat.le_of_ble_eq_true rfl) ?_
      refine WL.store rfl (Ev.tmp rfl) (Ev.tmp rfl) rfl rfl rfl rfl (by (repeat (first | exact Upd.here | apply Upd.next))) ?_
      refine WL.po (PO.assign (Ev.tmp rfl)) (Nat.le_of_ble_eq_true rfl) ?_
      refine WL.nil (keepF (ts := [2, 3]) rfl (toK (by assumption) ?_))
      (try clear hG ops)
      refine WC.ret (end2 (h' := h) (.inl rfl) rfl (RV.cellA Tryd.underlying26 rfl rfl rfl (by (repeat (first | exact List.Mem.head _ | apply List.Mem.tail))) rfl) (RV.tmp rfl) (View.le.refl m) (by (repeat (first | exact List.Sublist.refl _ | refine List.Sublist.cons_cons _ ?_ | apply List.Sublist.cons))) ?_)
      exact ⟨by rw [hJ]; rfl, rfl⟩
    · have d32 : qtry s n = false := c32
      rw [d32] at hJ
      refine WC.skip (keepF (ts := [0, 2, 4]) rfl (toK (by assumption) ?_))
      (repeat (first | refine WC.seqK fun K hK => ?_ | refine WC.block ?_ | refine WC.regionG rfl fun ops hG => ?_))
      refine WL.po (PO.move (Ev.tmp rfl)) (Nat.le_of_ble_eq_true rfl) ?_
      refine WL.po (PO.addI (Ev.tmp rfl) Ev.const (by omega)) (Nat.le_of_ble_eq_true rfl) ?_
      refine WL.po (PO.assign (Ev.tmp rfl)) (Nat.le_of_ble_eq_true rfl) ?_
      refine WL.nil (loopBackI (7 - (n + 1)) [(4, .int .i64 (n + 1))] (h'' := .pt b2 (.cells (encK zeroK).toArray 26 (0, 0)) :: h) (by omega) ?_ (by (repeat (first | exact Sub.nil | refine Sub.cons rfl ?_ | refine Sub.consE rfl (by simp; done) ?_))) (by (repeat (first | exact List.Sublist.refl _ | refine List.Sublist.cons_cons _ ?_ | apply List.Sublist.cons))) ⟨n + 1, ⟨by omega, by simpa using hJ⟩, rfl, rfl, rfl⟩)
      (repeat (first | exact Sub.nil | refine Sub.cons rfl ?_ | refine Sub.consE rfl (by simp; done) ?_))
  · have hE : quotedR s = (zeroK, 0) := by
      rw [hJ]
      by_cases h7 : n = 7
      · subst h7; rfl
      · have hst : [3, 4, 5, 6].drop (n - 3) = n :: [3, 4, 5, 6].drop (n + 1 - 3) := by
          have : n = 3 ∨ n = 4 ∨ n = 5 ∨ n = 6 := by omega
          rcases this with rfl | rfl | rfl | rfl <;> rfl
        rw [hst, quotL, if_pos (by simp at c14 ⊢; omega)]
    refine WC.exit (keepF (ts := [2]) rfl (toK (by assumption) ?_))
    (repeat (first | refine WC.seqK fun K hK => ?_ | refine WC.block ?_ | refine WC.regionG rfl fun ops hG => ?_))
    refine WL.po (PO.build Tryd.underlying26 rfl rfl rfl EvP.nil rfl) (Nat.le_of_ble_eq_true rfl) ?_
    refine WL.store rfl (Ev.tmp rfl) (Ev.tmp rfl) rfl rfl rfl rfl (by (repeat (first | exact Upd.here | apply Upd.next))) ?_
    refine WL.po (PO.assign Ev.const) (Nat.le_of_ble_eq_true rfl) ?_
    refine WL.nil (keepF (ts := [2, 3]) rfl (toK (by assumption) ?_))
    (try clear hG ops)
    refine WC.ret (end2 (h' := h) (.inl rfl) rfl (RV.cellA Tryd.underlying26 rfl rfl rfl (by (repeat (first | exact List.Mem.head _ | apply List.Mem.tail))) rfl) (RV.tmp rfl) (View.le.refl m) (by (repeat (first | exact List.Sublist.refl _ | refine List.Sublist.cons_cons _ ?_ | apply List.Sublist.cons))) ?_)
    exact ⟨by rw [hE]; rfl, rfl⟩
theorem rem_id {v : Int} (hv : 0 ≤ v ∧ v < 4294967296) : IntKind.i64.wrap (v.tmod 4294967296) = v ∧ v.tmod 4294967296 = v := by
  have e : v.tmod 4294967296 = v := by rw [Int.tmod_eq_emod_of_nonneg hv.1, Int.emod_eq_of_lt hv.1 hv.2]
  refine ⟨?_, e⟩
  rw [e]
  unfold IntKind.wrap
  simp [IntKind.bits, IntKind.signed]
  omega
theorem wrap_ct (v : Int) (h : List Res) (m : View) (hv : 0 ≤ v ∧ v < 4294967296) : CT Tryd.prog 76 [.int .i64 v] h m (Pure1 h (.int .i32 (IntKind.i32.wrap v))) := by
  refine CT.body Tryd.call76 Tryd.func76 rfl Tryd.ntmps76 (Nat.le_of_ble_eq_true rfl) rfl ?_
  (repeat (first | refine WC.seqK fun K hK => ?_ | refine WC.block ?_ | refine WC.regionG rfl fun ops hG => ?_))
  refine WL.po (PO.assign Ev.const) (Nat.le_of_ble_eq_true rfl) ?_
  refine WL.nil (keepF (ts := [0]) rfl (toK (by assumption) ?_))
  (try clear hG ops)
  (repeat (first | refine WC.seqK fun K hK => ?_ | refine WC.block ?_ | refine WC.regionG rfl fun ops hG => ?_))
  refine WL.po (PO.move (Ev.tmp rfl)) (Nat.le_of_ble_eq_true rfl) ?_
  refine WL.po (PO.rem (Ev.tmp rfl) Ev.const (by decide)) (Nat.le_of_ble_eq_true rfl) ?_
  refine WL.val (v' := .int .i64 v) (congrArg (Value.int .i64) (by first | exact (rem_id hv).1 | exact (rem_id hv).2)) ?_
  refine WL.po (PO.assign (Ev.tmp rfl)) (Nat.le_of_ble_eq_true rfl) ?_
  refine WL.nil (keepF (ts := [0]) rfl (toK (by assumption) ?_))
  (try clear hG ops)
  (repeat (first | refine WC.seqK fun K hK => ?_ | refine WC.block ?_ | refine WC.regionG rfl fun ops hG => ?_))
  refine WL.po (PO.move (Ev.tmp rfl)) (Nat.le_of_ble_eq_true rfl) ?_
  refine WL.po (PO.bin (Ev.tmp rfl) Ev.const rfl) (Nat.le_of_ble_eq_true rfl) ?_
  refine WL.nil (keepF (ts := [0, 6]) rfl (toK (by assumption) ?_))
  (try clear hG ops)
  (repeat refine WC.seqK fun K hK => ?_)
  refine WC.cutK (by assumption) [] rfl (fun F' h' => ∃ w : Int, (w = v) ∧ F' = [(0, .int .i64 w)] ∧ h = h') ?_ ?_
  · (repeat (first | refine WC.seqK fun K hK => ?_ | refine WC.block ?_ | refine WC.regionG rfl fun ops hG => ?_))
    refine WC.cond (Ev.tmp rfl) (fun c6 => ?_) (fun c6 => ?_)
    · replace c6 := of_decide_eq_true c6
      omega
    · replace c6 := of_decide_eq_false c6
      refine WC.skip (meetI [(0, .int .i64 v)] (h'' := h) ?_ (by (repeat (first | exact Sub.nil | refine Sub.cons rfl ?_ | refine Sub.consE rfl (by simp; done) ?_))) (by (repeat (first | exact List.Sublist.refl _ | refine List.Sublist.cons_cons _ ?_ | apply List.Sublist.cons))) ⟨v, rfl, rfl, rfl⟩)
      (repeat (first | exact Sub.nil | refine Sub.cons rfl ?_ | refine Sub.consE rfl (by simp; done) ?_))
  rintro _ _ ⟨w, hw, rfl, rfl⟩
  refine WC.frm rfl ?_
  (repeat (first | refine WC.seqK fun K hK => ?_ | refine WC.block ?_ | refine WC.regionG rfl fun ops hG => ?_))
  refine WL.po (PO.move (Ev.tmp rfl)) (Nat.le_of_ble_eq_true rfl) ?_
  refine WL.po (PO.bin (Ev.tmp rfl) Ev.const rfl) (Nat.le_of_ble_eq_true rfl) ?_
  refine WL.nil (keepF (ts := [0, 10]) rfl (toK (by assumption) ?_))
  (try clear hG ops)
  (repeat refine WC.seqK fun K hK => ?_)
  refine WC.cutK (by assumption) [] rfl (fun F' h' => ∃ w2 : Int, (IntKind.i32.wrap w2 = IntKind.i32.wrap v) ∧ F' = [(0, .int .i64 w2)] ∧ h = h') ?_ ?_
  · (repeat (first | refine WC.seqK fun K hK => ?_ | refine WC.block ?_ | refine WC.regionG rfl fun ops hG => ?_))
    refine WC.cond (Ev.tmp rfl) (fun c10 => ?_) (fun c10 => ?_)
    · (repeat (first | refine WC.seqK fun K hK => ?_ | refine WC.block ?_ | refine WC.regionG rfl fun ops hG => ?_))
      refine WL.po (PO.move (Ev.tmp rfl)) (Nat.le_of_ble_eq_true rfl) ?_
      refine WL.po (PO.subI (Ev.tmp rfl) Ev.const (by omega)) (Nat.le_of_ble_eq_true rfl) ?_
      refine WL.po (PO.assign (Ev.tmp rfl)) (Nat.le_of_ble_eq_true rfl) ?_
      refine WL.nil (meetI [(0, .int .i64 (w - 4294967296))] (h'' := h) ?_ (by (repeat (first | exact Sub.nil | refine Sub.cons rfl ?_ | refine Sub.consE rfl (by simp; done) ?_))) (by (repeat (first | exact List.Sublist.refl _ | refine List.Sublist.cons_cons _ ?_ | apply List.Sublist.cons))) ⟨w - 4294967296, by subst hw; unfold IntKind.wrap; simp [IntKind.bits, IntKind.signed], rfl, rfl⟩)
      (repeat (first | exact Sub.nil | refine Sub.cons rfl ?_ | refine Sub.consE rfl (by simp; done) ?_))
    · refine WC.skip (meetI [(0, .int .i64 w)] (h'' := h) ?_ (by (repeat (first | exact Sub.nil | refine Sub.cons rfl ?_ | refine Sub.consE rfl (by simp; done) ?_))) (by (repeat (first | exact List.Sublist.refl _ | refine List.Sublist.cons_cons _ ?_ | apply List.Sublist.cons))) ⟨w, by rw [hw], rfl, rfl⟩)
      (repeat (first | exact Sub.nil | refine Sub.cons rfl ?_ | refine Sub.consE rfl (by simp; done) ?_))
  rintro _ _ ⟨w2, hw2, rfl, rfl⟩
  refine WC.frm rfl ?_
  (repeat (first | refine WC.seqK fun K hK => ?_ | refine WC.block ?_ | refine WC.regionG rfl fun ops hG => ?_))
  refine WL.po (PO.move (Ev.tmp rfl)) (Nat.le_of_ble_eq_true rfl) ?_
  refine WL.po (PO.conv Tryd.underlying2 Tryd.underlying21 (Ev.tmp rfl)) (Nat.le_of_ble_eq_true rfl) ?_
  refine WL.po (PO.assign (Ev.tmp rfl)) (Nat.le_of_ble_eq_true rfl) ?_
  refine WL.nil (keepF (ts := [2]) rfl (toK (by assumption) ?_))
  (try clear hG ops)
  refine WC.ret (end1 (h' := h) (.inl rfl) rfl (RV.tmp rfl) (View.le.refl m) (by (repeat (first | exact List.Sublist.refl _ | refine List.Sublist.cons_cons _ ?_ | apply List.Sublist.cons))) ?_)
  exact ⟨by rw [hw2], rfl⟩
theorem valR_range {s : B} (h : (valR s 16 8 4294967296).2 = true) : 0 ≤ (valR s 16 8 4294967296).1 ∧ (valR s 16 8 4294967296).1 < 4294967296 := by
  unfold valR at h ⊢
  split
  · exact ⟨Int.le_refl 0, show (0 : Int) < 4294967296 by decide⟩
  · rename_i hc
    rw [if_neg hc] at h
    cases hv : valV 16 s 0 with
    | none => exact ⟨Int.le_refl 0, show (0 : Int) < 4294967296 by decide⟩
    | some v =>
      rw [hv] at h
      exact ⟨(valV_bound (by decide) dval16_lt s 0 v (by decide) hv).1, of_decide_eq_true h⟩
theorem token_ct (c : UInt8) (r : B) (h : List Res) (m : View) (hs : (c :: r).length ≤ 140737488355328) : CT Tryd.prog 51 [str (c :: r)] h m (Pure1 h (tkR (tok (c :: r)))) := by
  have hs' : (c :: r).length ≤ 9223372036854775807 := by omega
  have hq : ∀ i : Nat, i < (c :: r).length → (c :: r)[i]? = some ((c :: r).getD i 0) := fun i hi => by rw [List.getD_eq_getElem?_getD, List.getElem?_eq_getElem hi]; rfl
  have e0 : chB (c :: r) 0 = (c.toNat : Int) := rfl
  have e1 : List.drop 1 (c :: r) = r := rfl
  have hrl := run_le r
  have hlen : (c :: r).length = r.length + 1 := rfl
  rw [tok_eq]
  refine CT.body Tryd.call51 Tryd.func51 rfl Tryd.ntmps51 (Nat.le_of_ble_eq_true rfl) rfl ?_
  (repeat (first | refine WC.seqK fun K hK => ?_ | refine WC.block ?_ | refine WC.regionG rfl fun ops hG => ?_))
  refine WL.alloc rfl rfl (Nat.le_of_ble_eq_true rfl) fun b2 => ?_
  refine WL.po (PO.assign Ev.const) (Nat.le_of_ble_eq_true rfl) ?_
  refine WL.nil (keepF (ts := [0, 2]) rfl (toK (by assumption) ?_))
  (try clear hG ops)
  (repeat (first | refine WC.seqK fun K hK => ?_ | refine WC.block ?_ | refine WC.regionG rfl fun ops hG => ?_))
  refine WL.po (PO.assign Ev.const) (Nat.le_of_ble_eq_true rfl) ?_
  refine WL.nil (keepF (ts := [0, 2, 4]) rfl (toK (by assumption) ?_))
  (try clear hG ops)
  (repeat (first | refine WC.seqK fun K hK => ?_ | refine WC.block ?_ | refine WC.regionG rfl fun ops hG => ?_))
  refine WC.loopI [0, 2] rfl (fun μ F' h' => ∃ n : Nat, ((1 ≤ n ∧ n ≤ (c :: r).length) ∧ run r + 1 = n + run ((c :: r).drop n)) ∧ (c :: r).length - n = μ ∧ F' = [(4, .int .i64 n)] ∧ .pt b2 (.cells (encK zeroK).toArray 26 (0, 0)) :: h = h') ((c :: r).length - 1) [(4, .int .i64 1)] (h0 := .pt b2 (.cells (encK zeroK).toArray 26 (0, 0)) :: h) ?_ (by (repeat (first | exact List.Sublist.refl _ | refine List.Sublist.cons_cons _ ?_ | apply List.Sublist.cons))) ⟨1, ⟨⟨by omega, by omega⟩, by rw [e1]; omega⟩, rfl, rfl, rfl⟩ ?_
  · (repeat (first | exact Sub.nil | refine Sub.cons rfl ?_ | refine Sub.consE rfl (by simp; done) ?_))
  rintro _ _ _ ⟨n, ⟨⟨hn1, hn2⟩, hJ⟩, rfl, rfl, rfl⟩
  refine WC.frm rfl ?_
  (repeat (first | refine WC.seqK fun K hK => ?_ | refine WC.block ?_ | refine WC.regionG rfl fun ops hG => ?_))
  refine WL.po (PO.move (Ev.tmp rfl)) (Nat.le_of_ble_eq_true rfl) ?_
  refine WL.po (PO.move (Ev.tmp rfl)) (Nat.le_of_ble_eq_true rfl) ?_
  refine WL.po (PO.lenS Tryd.underlying9 (Ev.tmp rfl)) (Nat.le_of_ble_eq_true rfl) ?_
  refine WL.po (PO.bin (Ev.tmp rfl) (Ev.tmp rfl) rfl) (Nat.le_of_ble_eq_true rfl) ?_
  refine WL.po (PO.move (Ev.tmp rfl)) (Nat.le_of_ble_eq_true rfl) ?_
  refine WL.poG (GU.t (hG _ _ rfl) rfl) (fun hc => PO.move (Ev.tmp rfl)) (Nat.le_of_ble_eq_true rfl) ?_
  refine WL.poG (GU.t (hG _ _ rfl) rfl) (fun hc => PO.move (Ev.tmp rfl)) (Nat.le_of_ble_eq_true rfl) ?_
  refine WL.poG (GU.t (hG _ _ rfl) rfl) (fun hc => PO.idxS Tryd.underlying9 (Ev.gv rfl hc) (Ev.gv rfl hc) rfl (hq n (by simp at hc; simp; omega))) (Nat.le_of_ble_eq_true rfl) ?_
  refine WL.callG (GU.t (hG _ _ rfl) rfl) (fun hc => ⟨Ev.func, (Evs.cons (Ev.gv rfl hc) Evs.nil), wordR_ct _ _ _⟩) (Nat.le_of_ble_eq_true rfl) ?_
  refine WL.po (PO.pickAnd rfl rfl) (Nat.le_of_ble_eq_true rfl) ?_
  refine WL.nil (keepF (ts := [0, 2, 4, 18]) rfl (toK (by assumption) ?_))
  (try clear hG ops)
  (repeat (first | refine WC.seqK fun K hK => ?_ | refine WC.block ?_ | refine WC.regionG rfl fun ops hG => ?_))
  refine WC.cond (Ev.tmp rfl) (fun c18 => ?_) (fun c18 => ?_)
  · have hn3 : n < (c :: r).length ∧ wch ((c :: r).getD n 0) = true := by rw [wch_eq]; simp only [Bool.and_eq_true, decide_eq_true_eq] at c18; exact ⟨by omega, c18.2⟩
    have hrd := run_drop (hq n hn3.1)
    rw [hn3.2, if_pos rfl] at hrd
    refine WC.skip (keepF (ts := [0, 2, 4]) rfl (toK (by assumption) ?_))
    (repeat (first | refine WC.seqK fun K hK => ?_ | refine WC.block ?_ | refine WC.regionG rfl fun ops hG => ?_))
    refine WL.po (PO.move (Ev.tmp rfl)) (Nat.le_of_ble_eq_true rfl) ?_
    refine WL.po (PO.addI (Ev.tmp rfl) Ev.const (by omega)) (Nat.le_of_ble_eq_true rfl) ?_
    refine WL.po (PO.assign (Ev.tmp rfl)) (Nat.le_of_ble_eq_true rfl) ?_
    refine WL.nil (loopBackI ((c :: r).length - (n + 1)) [(4, .int .i64 (n + 1))] (h'' := .pt b2 (.cells (encK zeroK).toArray 26 (0, 0)) :: h) (by omega) ?_ (by (repeat (first | exact Sub.nil | refine Sub.cons rfl ?_ | refine Sub.consE rfl (by simp; done) ?_))) (by (repeat (first | exact List.Sublist.refl _ | refine List.Sublist.cons_cons _ ?_ | apply List.Sublist.cons))) ⟨n + 1, ⟨⟨by omega, by omega⟩, by omega⟩, rfl, rfl, rfl⟩)
    (repeat (first | exact Sub.nil | refine Sub.cons rfl ?_ | refine Sub.consE rfl (by simp; done) ?_))
  · have hnr : n = 1 + run r := by
      by_cases h1 : n < (c :: r).length
      · have hrd := run_drop (hq n h1)
        have hw : wch ((c :: r).getD n 0) = false := by
          rw [wch_eq]
          rw [decide_eq_true (show (n : Int) < ((c :: r).length : Int) by omega), Bool.true_and] at c18
          exact c18
        rw [hw] at hrd
        simp only [Bool.false_eq_true, if_false] at hrd
        omega
      · have hd : (c :: r).drop n = [] := List.drop_eq_nil_of_le (by omega)
        rw [hd] at hJ
        have : run ([] : B) = 0 := rfl
        omega
    subst hnr
    have htl : ((c :: r).take (1 + run r)).length ≤ 9223372036854775807 := by rw [List.length_take]; omega
    have htl2 : (r.take (run r)).length ≤ 9223372036854775807 := by rw [List.length_take]; omega
    refine WC.exit (keepF (ts := [0, 2, 4]) rfl (toK (by assumption) ?_))
    (repeat (first | refine WC.seqK fun K hK => ?_ | refine WC.block ?_ | refine WC.regionG rfl fun ops hG => ?_))
    refine WL.po (PO.move (Ev.tmp rfl)) (Nat.le_of_ble_eq_true rfl) ?_
    refine WL.po (PO.idxS Tryd.underlying9 (Ev.tmp rfl) Ev.const (q := 0) rfl (c := c) rfl) (Nat.le_of_ble_eq_true rfl) ?_
    refine WL.callP Ev.func (Evs.cons (Ev.tmp rfl) Evs.nil) (letterR_ct _ _ _) (Nat.le_of_ble_eq_true rfl) ?_
    refine WL.po (PO.assign (Ev.tmp rfl)) (Nat.le_of_ble_eq_true rfl) ?_
    refine WL.nil (keepF (ts := [0, 2, 4, 21]) rfl (toK (by assumption) ?_))
    (try clear hG ops)
    (repeat (first | refine WC.seqK fun K hK => ?_ | refine WC.block ?_ | refine WC.regionG rfl fun ops hG => ?_))
    refine WC.cond (Ev.tmp rfl) (fun c21 => ?_) (fun c21 => ?_)
    · (repeat (first | refine WC.seqK fun K hK => ?_ | refine WC.block ?_ | refine WC.regionG rfl fun ops hG => ?_))
      refine WL.po (PO.move (Ev.tmp rfl)) (Nat.le_of_ble_eq_true rfl) ?_
      refine WL.po (PO.move (Ev.tmp rfl)) (Nat.le_of_ble_eq_true rfl) ?_
      refine WL.po (PO.sliceSH Tryd.underlying9 (Ev.tmp rfl) (Ev.tmp rfl) rfl (by omega)) (Nat.le_of_ble_eq_true rfl) ?_
      refine WL.callP Ev.func (Evs.cons (Ev.tmp rfl) Evs.nil) (keyR_ct _ _ _) (Nat.le_of_ble_eq_true rfl) ?_
      refine WL.nil (keepF (ts := [0, 2, 4, 28]) rfl (toK (by assumption) ?_))
      (try clear hG ops)
      (repeat (first | refine WC.seqK fun K hK => ?_ | refine WC.block ?_ | refine WC.regionG rfl fun ops hG => ?_))
      refine WC.cond (Ev.tmp rfl) (fun c28 => ?_) (fun c28 => ?_)
      · (repeat (first | refine WC.seqK fun K hK => ?_ | refine WC.block ?_ | refine WC.regionG rfl fun ops hG => ?_))
        refine WL.po (PO.move (Ev.tmp rfl)) (Nat.le_of_ble_eq_true rfl) ?_
        refine WL.po (PO.move (Ev.tmp rfl)) (Nat.le_of_ble_eq_true rfl) ?_
        refine WL.po (PO.sliceSH Tryd.underlying9 (Ev.tmp rfl) (Ev.tmp rfl) rfl (by omega)) (Nat.le_of_ble_eq_true rfl) ?_
        refine WL.po (PO.build Tryd.underlying26 rfl rfl rfl (EvP.cons Ev.const (EvP.cons (Ev.tmp rfl) EvP.nil)) rfl) (Nat.le_of_ble_eq_true rfl) ?_
        refine WL.po (PO.move (Ev.tmp rfl)) (Nat.le_of_ble_eq_true rfl) ?_
        refine WL.store rfl (Ev.tmp rfl) (Ev.tmp rfl) rfl rfl rfl rfl (by (repeat (first | exact Upd.here | apply Upd.next))) ?_
        refine WL.po (PO.assign (Ev.tmp rfl)) (Nat.le_of_ble_eq_true rfl) ?_
        refine WL.nil (keepF (ts := [2, 3]) rfl (toK (by assumption) ?_))
        (try clear hG ops)
        refine WC.ret (end2 (h' := h) (.inl rfl) rfl (RV.cellA Tryd.underlying26 rfl rfl rfl (by (repeat (first | exact List.Mem.head _ | apply List.Mem.tail))) rfl) (RV.tmp rfl) (View.le.refl m) (by (repeat (first | exact List.Sublist.refl _ | refine List.Sublist.cons_cons _ ?_ | apply List.Sublist.cons))) ?_)
        exact ⟨by unfold tokRf; rw [e0, e1, c21]; simp only [if_true, c28]; rfl, rfl⟩
      · refine WC.skip (keepF (ts := [0, 2, 4]) rfl (toK (by assumption) ?_))
        (repeat (first | refine WC.seqK fun K hK => ?_ | refine WC.block ?_ | refine WC.regionG rfl fun ops hG => ?_))
        refine WL.po (PO.move (Ev.tmp rfl)) (Nat.le_of_ble_eq_true rfl) ?_
        refine WL.po (PO.move (Ev.tmp rfl)) (Nat.le_of_ble_eq_true rfl) ?_
        refine WL.po (PO.sliceSH Tryd.underlying9 (Ev.tmp rfl) (Ev.tmp rfl) rfl (by omega)) (Nat.le_of_ble_eq_true rfl) ?_
        refine WL.callP Ev.func (Evs.cons (Ev.tmp rfl) Evs.nil) (nameR_ct _ _ _ (by assumption)) (Nat.le_of_ble_eq_true rfl) ?_
        refine WL.nil (keepF (ts := [0, 2, 4, 37]) rfl (toK (by assumption) ?_))
        (try clear hG ops)
        (repeat (first | refine WC.seqK fun K hK => ?_ | refine WC.block ?_ | refine WC.regionG rfl fun ops hG => ?_))
        refine WC.cond (Ev.tmp rfl) (fun c37 => ?_) (fun c37 => ?_)
        · (repeat (first | refine WC.seqK fun K hK => ?_ | refine WC.block ?_ | refine WC.regionG rfl fun ops hG => ?_))
          refine WL.po (PO.move (Ev.tmp rfl)) (Nat.le_of_ble_eq_true rfl) ?_
          refine WL.po (PO.move (Ev.tmp rfl)) (Nat.le_of_ble_eq_true rfl) ?_
          refine WL.po (PO.sliceSH Tryd.underlying9 (Ev.tmp rfl) (Ev.tmp rfl) rfl (by omega)) (Nat.le_of_ble_eq_true rfl) ?_
          refine WL.po (PO.build Tryd.underlying26 rfl rfl rfl (EvP.cons Ev.const (EvP.cons (Ev.tmp rfl) EvP.nil)) rfl) (Nat.le_of_ble_eq_true rfl) ?_
          refine WL.po (PO.move (Ev.tmp rfl)) (Nat.le_of_ble_eq_true rfl) ?_
          refine WL.store rfl (Ev.tmp rfl) (Ev.tmp rfl) rfl rfl rfl rfl (by (repeat (first | exact Upd.here | apply Upd.next))) ?_
          refine WL.po (PO.assign (Ev.tmp rfl)) (Nat.le_of_ble_eq_true rfl) ?_
          refine WL.nil (keepF (ts := [2, 3]) rfl (toK (by assumption) ?_))
          (try clear hG ops)
          refine WC.ret (end2 (h' := h) (.inl rfl) rfl (RV.cellA Tryd.underlying26 rfl rfl rfl (by (repeat (first | exact List.Mem.head _ | apply List.Mem.tail))) rfl) (RV.tmp rfl) (View.le.refl m) (by (repeat (first | exact List.Sublist.refl _ | refine List.Sublist.cons_cons _ ?_ | apply List.Sublist.cons))) ?_)
          exact ⟨by unfold tokRf; rw [e0, e1, c21]; simp only [if_true, Bool.false_eq_true, if_false, c28, c37]; rfl, rfl⟩
        · refine WC.skip (keepF (ts := [2]) rfl (toK (by assumption) ?_))
          (repeat (first | refine WC.seqK fun K hK => ?_ | refine WC.block ?_ | refine WC.regionG rfl fun ops hG => ?_))
          refine WL.po (PO.build Tryd.underlying26 rfl rfl rfl EvP.nil rfl) (Nat.le_of_ble_eq_true rfl) ?_
          refine WL.store rfl (Ev.tmp rfl) (Ev.tmp rfl) rfl rfl rfl rfl (by (repeat (first | exact Upd.here | apply Upd.next))) ?_
          refine WL.po (PO.assign Ev.const) (Nat.le_of_ble_eq_true rfl) ?_
          refine WL.nil (keepF (ts := [2, 3]) rfl (toK (by assumption) ?_))
          (try clear hG ops)
          refine WC.ret (end2 (h' := h) (.inl rfl) rfl (RV.cellA Tryd.underlying26 rfl rfl rfl (by (repeat (first | exact List.Mem.head _ | apply List.Mem.tail))) rfl) (RV.tmp rfl) (View.le.refl m) (by (repeat (first | exact List.Sublist.refl _ | refine List.Sublist.cons_cons _ ?_ | apply List.Sublist.cons))) ?_)
          exact ⟨by unfold tokRf; rw [e0, e1, c21]; simp only [if_true, Bool.false_eq_true, if_false, c28, c37]; rfl, rfl⟩
    · (repeat (first | refine WC.seqK fun K hK => ?_ | refine WC.block ?_ | refine WC.regionG rfl fun ops hG => ?_))
      refine WL.po (PO.move (Ev.tmp rfl)) (Nat.le_of_ble_eq_true rfl) ?_
      refine WL.po (PO.idxS Tryd.underlying9 (Ev.tmp rfl) Ev.const (q := 0) rfl (c := c) rfl) (Nat.le_of_ble_eq_true rfl) ?_
      refine WL.callP Ev.func (Evs.cons (Ev.tmp rfl) Evs.nil) (digitR_ct _ _ _) (Nat.le_of_ble_eq_true rfl) ?_
      refine WL.po (PO.assign (Ev.tmp rfl)) (Nat.le_of_ble_eq_true rfl) ?_
      refine WL.nil (keepF (ts := [0, 2, 4, 44]) rfl (toK (by assumption) ?_))
      (try clear hG ops)
      (repeat (first | refine WC.seqK fun K hK => ?_ | refine WC.block ?_ | refine WC.regionG rfl fun ops hG => ?_))
      refine WC.cond (Ev.tmp rfl) (fun c44 => ?_) (fun c44 => ?_)
      · (repeat (first | refine WC.seqK fun K hK => ?_ | refine WC.block ?_ | refine WC.regionG rfl fun ops hG => ?_))
        refine WL.po (PO.move (Ev.tmp rfl)) (Nat.le_of_ble_eq_true rfl) ?_
        refine WL.po (PO.move (Ev.tmp rfl)) (Nat.le_of_ble_eq_true rfl) ?_
        refine WL.po (PO.sliceSH Tryd.underlying9 (Ev.tmp rfl) (Ev.tmp rfl) rfl (by omega)) (Nat.le_of_ble_eq_true rfl) ?_
        refine WL.callP Ev.func (Evs.cons (Ev.tmp rfl) (Evs.cons Ev.const (Evs.cons Ev.const (Evs.cons Ev.const Evs.nil)))) (value_ct ((c :: r).take (1 + run r)) 10 10 2147483648 _ _ (.inl ⟨rfl, by decide⟩) htl) (Nat.le_of_ble_eq_true rfl) ?_
        refine WL.po (PO.move (Ev.tmp rfl)) (Nat.le_of_ble_eq_true rfl) ?_
        refine WL.po (PO.extract (Ev.tmp rfl) rfl) (Nat.le_of_ble_eq_true rfl) ?_
        refine WL.po (PO.extract (Ev.tmp rfl) rfl) (Nat.le_of_ble_eq_true rfl) ?_
        refine WL.po (PO.assign (Ev.tmp rfl)) (Nat.le_of_ble_eq_true rfl) ?_
        refine WL.po (PO.assign (Ev.tmp rfl)) (Nat.le_of_ble_eq_true rfl) ?_
        refine WL.nil (keepF (ts := [2, 4, 5, 6]) rfl (toK (by assumption) ?_))
        (try clear hG ops)
        (repeat (first | refine WC.seqK fun K hK => ?_ | refine WC.block ?_ | refine WC.regionG rfl fun ops hG => ?_))
        refine WL.po (PO.move (Ev.tmp rfl)) (Nat.le_of_ble_eq_true rfl) ?_
        refine WL.po (PO.not (Ev.tmp rfl)) (Nat.le_of_ble_eq_true rfl) ?_
        refine WL.nil (keepF (ts := [2, 4, 5, 56]) rfl (toK (by assumption) ?_))
        (try clear hG ops)
        (repeat (first | refine WC.seqK fun K hK => ?_ | refine WC.block ?_ | refine WC.regionG rfl fun ops hG => ?_))
        refine WC.cond (Ev.tmp rfl) (fun c56 => ?_) (fun c56 => ?_)
        · have d56 : (!(valR ((c :: r).take (1 + run r)) 10 10 2147483648).2) = true := c56
          (repeat (first | refine WC.seqK fun K hK => ?_ | refine WC.block ?_ | refine WC.regionG rfl fun ops hG => ?_))
          refine WL.po (PO.build Tryd.underlying26 rfl rfl rfl EvP.nil rfl) (Nat.le_of_ble_eq_true rfl) ?_
          refine WL.store rfl (Ev.tmp rfl) (Ev.tmp rfl) rfl rfl rfl rfl (by (repeat (first | exact Upd.here | apply Upd.next))) ?_
          refine WL.po (PO.assign Ev.const) (Nat.le_of_ble_eq_true rfl) ?_
          refine WL.nil (keepF (ts := [2, 3]) rfl (toK (by assumption) ?_))
          (try clear hG ops)
          refine WC.ret (end2 (h' := h) (.inl rfl) rfl (RV.cellA Tryd.underlying26 rfl rfl rfl (by (repeat (first | exact List.Mem.head _ | apply List.Mem.tail))) rfl) (RV.tmp rfl) (View.le.refl m) (by (repeat (first | exact List.Sublist.refl _ | refine List.Sublist.cons_cons _ ?_ | apply List.Sublist.cons))) ?_)
          exact ⟨by unfold tokRf; rw [e0, e1, c21]; simp only [if_true, Bool.false_eq_true, if_false, c44, d56]; rfl, rfl⟩
        · have d56 : (!(valR ((c :: r).take (1 + run r)) 10 10 2147483648).2) = false := c56
          refine WC.skip (keepF (ts := [2, 4, 5]) rfl (toK (by assumption) ?_))
          (repeat (first | refine WC.seqK fun K hK => ?_ | refine WC.block ?_ | refine WC.regionG rfl fun ops hG => ?_))
          refine WL.po (PO.move (Ev.tmp rfl)) (Nat.le_of_ble_eq_true rfl) ?_
          refine WL.po (PO.conv Tryd.underlying2 Tryd.underlying21 (Ev.tmp rfl)) (Nat.le_of_ble_eq_true rfl) ?_
          refine WL.po (PO.build Tryd.underlying26 rfl rfl rfl (EvP.cons Ev.const (EvP.cons (Ev.tmp rfl) EvP.nil)) rfl) (Nat.le_of_ble_eq_true rfl) ?_
          refine WL.po (PO.move (Ev.tmp rfl)) (Nat.le_of_ble_eq_true rfl) ?_
          refine WL.store rfl (Ev.tmp rfl) (Ev.tmp rfl) rfl rfl rfl rfl (by (repeat (first | exact Upd.here | apply Upd.next))) ?_
          refine WL.po (PO.assign (Ev.tmp rfl)) (Nat.le_of_ble_eq_true rfl) ?_
          refine WL.nil (keepF (ts := [2, 3]) rfl (toK (by assumption) ?_))
          (try clear hG ops)
          refine WC.ret (end2 (h' := h) (.inl rfl) rfl (RV.cellA Tryd.underlying26 rfl rfl rfl (by (repeat (first | exact List.Mem.head _ | apply List.Mem.tail))) rfl) (RV.tmp rfl) (View.le.refl m) (by (repeat (first | exact List.Sublist.refl _ | refine List.Sublist.cons_cons _ ?_ | apply List.Sublist.cons))) ?_)
          exact ⟨by unfold tokRf; rw [e0, e1, c21]; simp only [if_true, Bool.false_eq_true, if_false, c44, d56]; rfl, rfl⟩
      · (repeat (first | refine WC.seqK fun K hK => ?_ | refine WC.block ?_ | refine WC.regionG rfl fun ops hG => ?_))
        refine WL.po (PO.move (Ev.tmp rfl)) (Nat.le_of_ble_eq_true rfl) ?_
        refine WL.po (PO.idxS Tryd.underlying9 (Ev.tmp rfl) Ev.const (q := 0) rfl (c := c) rfl) (Nat.le_of_ble_eq_true rfl) ?_
        refine WL.po (PO.bin (Ev.tmp rfl) Ev.const rfl) (Nat.le_of_ble_eq_true rfl) ?_
        refine WL.po (PO.assign (Ev.tmp rfl)) (Nat.le_of_ble_eq_true rfl) ?_
        refine WL.nil (keepF (ts := [0, 2, 4, 62]) rfl (toK (by assumption) ?_))
        (try clear hG ops)
        (repeat (first | refine WC.seqK fun K hK => ?_ | refine WC.block ?_ | refine WC.regionG rfl fun ops hG => ?_))
        refine WC.cond (Ev.tmp rfl) (fun c62 => ?_) (fun c62 => ?_)
        · (repeat (first | refine WC.seqK fun K hK => ?_ | refine WC.block ?_ | refine WC.regionG rfl fun ops hG => ?_))
          refine WL.po (PO.move (Ev.tmp rfl)) (Nat.le_of_ble_eq_true rfl) ?_
          refine WL.po (PO.move (Ev.tmp rfl)) (Nat.le_of_ble_eq_true rfl) ?_
          refine WL.po (PO.sliceSLH Tryd.underlying9 (Ev.tmp rfl) Ev.const (Ev.tmp rfl) (l := 1) rfl rfl (by omega) (by omega)) (Nat.le_of_ble_eq_true rfl) ?_
          refine WL.val (v' := str (r.take (run r))) (by rw [e1, Nat.add_sub_cancel_left]) ?_
          refine WL.callP Ev.func (Evs.cons (Ev.tmp rfl) (Evs.cons Ev.const (Evs.cons Ev.const (Evs.cons Ev.const Evs.nil)))) (value_ct (r.take (run r)) 16 8 4294967296 _ _ (.inr ⟨rfl, by decide⟩) htl2) (Nat.le_of_ble_eq_true rfl) ?_
          refine WL.po (PO.move (Ev.tmp rfl)) (Nat.le_of_ble_eq_true rfl) ?_
          refine WL.po (PO.extract (Ev.tmp rfl) rfl) (Nat.le_of_ble_eq_true rfl) ?_
          refine WL.po (PO.extract (Ev.tmp rfl) rfl) (Nat.le_of_ble_eq_true rfl) ?_
          refine WL.po (PO.assign (Ev.tmp rfl)) (Nat.le_of_ble_eq_true rfl) ?_
          refine WL.po (PO.assign (Ev.tmp rfl)) (Nat.le_of_ble_eq_true rfl) ?_
          refine WL.nil (keepF (ts := [2, 4, 7, 8]) rfl (toK (by assumption) ?_))
          (try clear hG ops)
          (repeat (first | refine WC.seqK fun K hK => ?_ | refine WC.block ?_ | refine WC.regionG rfl fun ops hG => ?_))
          refine WL.po (PO.move (Ev.tmp rfl)) (Nat.le_of_ble_eq_true rfl) ?_
          refine WL.po (PO.not (Ev.tmp rfl)) (Nat.le_of_ble_eq_true rfl) ?_
          refine WL.nil (keepF (ts := [2, 4, 7, 74]) rfl (toK (by assumption) ?_))
          (try clear hG ops)
          (repeat (first | refine WC.seqK fun K hK => ?_ | refine WC.block ?_ | refine WC.regionG rfl fun ops hG => ?_))
          refine WC.cond (Ev.tmp rfl) (fun c74 => ?_) (fun c74 => ?_)
          · have d74 : (!(valR (r.take (run r)) 16 8 4294967296).2) = true := c74
            (repeat (first | refine WC.seqK fun K hK => ?_ | refine WC.block ?_ | refine WC.regionG rfl fun ops hG => ?_))
            refine WL.po (PO.build Tryd.underlying26 rfl rfl rfl EvP.nil rfl) (Nat.le_of_ble_eq_true rfl) ?_
            refine WL.store rfl (Ev.tmp rfl) (Ev.tmp rfl) rfl rfl rfl rfl (by (repeat (first | exact Upd.here | apply Upd.next))) ?_
            refine WL.po (PO.assign Ev.const) (Nat.le_of_ble_eq_true rfl) ?_
            refine WL.nil (keepF (ts := [2, 3]) rfl (toK (by assumption) ?_))
            (try clear hG ops)
            refine WC.ret (end2 (h' := h) (.inl rfl) rfl (RV.cellA Tryd.underlying26 rfl rfl rfl (by (repeat (first | exact List.Mem.head _ | apply List.Mem.tail))) rfl) (RV.tmp rfl) (View.le.refl m) (by (repeat (first | exact List.Sublist.refl _ | refine List.Sublist.cons_cons _ ?_ | apply List.Sublist.cons))) ?_)
            exact ⟨by unfold tokRf; rw [e0, e1, c21]; simp only [if_true, Bool.false_eq_true, if_false, c44, c62, d74]; rfl, rfl⟩
          · have d74 : (!(valR (r.take (run r)) 16 8 4294967296).2) = false := c74
            have hvr := valR_range (s := r.take (run r)) (by simpa using c74)
            refine WC.skip (keepF (ts := [2, 4, 7]) rfl (toK (by assumption) ?_))
            (repeat (first | refine WC.seqK fun K hK => ?_ | refine WC.block ?_ | refine WC.regionG rfl fun ops hG => ?_))
            refine WL.po (PO.move (Ev.tmp rfl)) (Nat.le_of_ble_eq_true rfl) ?_
            refine WL.callP Ev.func (Evs.cons (Ev.tmp rfl) Evs.nil) (wrap_ct _ _ _ hvr) (Nat.le_of_ble_eq_true rfl) ?_
            refine WL.po (PO.build Tryd.underlying26 rfl rfl rfl (EvP.cons Ev.const (EvP.cons (Ev.tmp rfl) EvP.nil)) rfl) (Nat.le_of_ble_eq_true rfl) ?_
            refine WL.po (PO.move (Ev.tmp rfl)) (Nat.le_of_ble_eq_true rfl) ?_
            refine WL.store rfl (Ev.tmp rfl) (Ev.tmp rfl) rfl rfl rfl rfl (by (repeat (first | exact Upd.here | apply Upd.next))) ?_
            refine WL.po (PO.assign (Ev.tmp rfl)) (Nat.le_of_ble_eq_true rfl) ?_
            refine WL.nil (keepF (ts := [2, 3]) rfl (toK (by assumption) ?_))
            (try clear hG ops)
            refine WC.ret (end2 (h' := h) (.inl rfl) rfl (RV.cellA Tryd.underlying26 rfl rfl rfl (by (repeat (first | exact List.Mem.head _ | apply List.Mem.tail))) rfl) (RV.tmp rfl) (View.le.refl m) (by (repeat (first | exact List.Sublist.refl _ | refine List.Sublist.cons_cons _ ?_ | apply List.Sublist.cons))) ?_)
            exact ⟨by unfold tokRf; rw [e0, e1, c21]; simp only [if_true, Bool.false_eq_true, if_false, c44, c62, d74]; rfl, rfl⟩
        · (repeat (first | refine WC.seqK fun K hK => ?_ | refine WC.block ?_ | refine WC.regionG rfl fun ops hG => ?_))
          refine WL.po (PO.move (Ev.tmp rfl)) (Nat.le_of_ble_eq_true rfl) ?_
          refine WL.po (PO.idxS Tryd.underlying9 (Ev.tmp rfl) Ev.const (q := 0) rfl (c := c) rfl) (Nat.le_of_ble_eq_true rfl) ?_
          refine WL.po (PO.bin (Ev.tmp rfl) Ev.const rfl) (Nat.le_of_ble_eq_true rfl) ?_
          refine WL.po (PO.assign (Ev.tmp rfl)) (Nat.le_of_ble_eq_true rfl) ?_
          refine WL.nil (keepF (ts := [0, 2, 80]) rfl (toK (by assumption) ?_))
          (try clear hG ops)
          (repeat (first | refine WC.seqK fun K hK => ?_ | refine WC.block ?_ | refine WC.regionG rfl fun ops hG => ?_))
          refine WC.cond (Ev.tmp rfl) (fun c80 => ?_) (fun c80 => ?_)
          · (repeat (first | refine WC.seqK fun K hK => ?_ | refine WC.block ?_ | refine WC.regionG rfl fun ops hG => ?_))
            refine WL.po (PO.move (Ev.tmp rfl)) (Nat.le_of_ble_eq_true rfl) ?_
            refine WL.callP Ev.func (Evs.cons (Ev.tmp rfl) Evs.nil) (quotR_ct _ _ _ (by assumption)) (Nat.le_of_ble_eq_true rfl) ?_
            refine WL.po (PO.extract (Ev.tmp rfl) rfl) (Nat.le_of_ble_eq_true rfl) ?_
            refine WL.po (PO.extract (Ev.tmp rfl) rfl) (Nat.le_of_ble_eq_true rfl) ?_
            refine WL.store rfl (Ev.tmp rfl) (Ev.tmp rfl) rfl rfl rfl rfl (by (repeat (first | exact Upd.here | apply Upd.next))) ?_
            refine WL.po (PO.assign (Ev.tmp rfl)) (Nat.le_of_ble_eq_true rfl) ?_
            refine WL.nil (keepF (ts := [2, 3]) rfl (toK (by assumption) ?_))
            (try clear hG ops)
            refine WC.ret (end2 (h' := h) (.inl rfl) rfl (RV.cellA Tryd.underlying26 rfl rfl rfl (by (repeat (first | exact List.Mem.head _ | apply List.Mem.tail))) rfl) (RV.tmp rfl) (View.le.refl m) (by (repeat (first | exact List.Sublist.refl _ | refine List.Sublist.cons_cons _ ?_ | apply List.Sublist.cons))) ?_)
            exact ⟨by unfold tokRf; rw [e0, e1, c21]; simp only [if_true, Bool.false_eq_true, if_false, c44, c62, c80]; rfl, rfl⟩
          · (repeat (first | refine WC.seqK fun K hK => ?_ | refine WC.block ?_ | refine WC.regionG rfl fun ops hG => ?_))
            refine WL.po (PO.move (Ev.tmp rfl)) (Nat.le_of_ble_eq_true rfl) ?_
            refine WL.po (PO.lenS Tryd.underlying9 (Ev.tmp rfl)) (Nat.le_of_ble_eq_true rfl) ?_
            refine WL.po (PO.bin (Ev.tmp rfl) Ev.const rfl) (Nat.le_of_ble_eq_true rfl) ?_
            refine WL.po (PO.move (Ev.tmp rfl)) (Nat.le_of_ble_eq_true rfl) ?_
            refine WL.poG (GU.t (hG _ _ rfl) rfl) (fun hc => PO.move (Ev.tmp rfl)) (Nat.le_of_ble_eq_true rfl) ?_
            refine WL.poG (GU.t (hG _ _ rfl) rfl) (fun hc => PO.sliceSH Tryd.underlying9 (Ev.gv rfl hc) Ev.const (u := 2) rfl (by simp at hc; simp; omega)) (Nat.le_of_ble_eq_true rfl) ?_
            refine WL.callG (GU.t (hG _ _ rfl) rfl) (fun hc => ⟨Ev.func, (Evs.cons (Ev.gv rfl hc) Evs.nil), symR_ct _ _ _⟩) (Nat.le_of_ble_eq_true rfl) ?_
            refine WL.po (PO.pickAnd rfl rfl) (Nat.le_of_ble_eq_true rfl) ?_
            refine WL.po (PO.assign (Ev.tmp rfl)) (Nat.le_of_ble_eq_true rfl) ?_
            refine WL.nil (keepF (ts := [0, 2, 88]) rfl (toK (by assumption) ?_))
            (try clear hG ops)
            (repeat (first | refine WC.seqK fun K hK => ?_ | refine WC.block ?_ | refine WC.regionG rfl fun ops hG => ?_))
            refine WC.cond (Ev.tmp rfl) (fun c88 => ?_) (fun c88 => ?_)
            · have d88 : (decide (((c :: r).length : Int) > 1) && symR ((c :: r).take 2)) = true := c88
              have hl2 : 2 ≤ (c :: r).length := by simp only [Bool.and_eq_true, decide_eq_true_eq] at d88; omega
              (repeat (first | refine WC.seqK fun K hK => ?_ | refine WC.block ?_ | refine WC.regionG rfl fun ops hG => ?_))
              refine WL.po (PO.move (Ev.tmp rfl)) (Nat.le_of_ble_eq_true rfl) ?_
              refine WL.po (PO.sliceSH Tryd.underlying9 (Ev.tmp rfl) Ev.const (u := 2) rfl (by omega)) (Nat.le_of_ble_eq_true rfl) ?_
              refine WL.po (PO.build Tryd.underlying26 rfl rfl rfl (EvP.cons Ev.const (EvP.cons (Ev.tmp rfl) EvP.nil)) rfl) (Nat.le_of_ble_eq_true rfl) ?_
              refine WL.store rfl (Ev.tmp rfl) (Ev.tmp rfl) rfl rfl rfl rfl (by (repeat (first | exact Upd.here | apply Upd.next))) ?_
              refine WL.po (PO.assign Ev.const) (Nat.le_of_ble_eq_true rfl) ?_
              refine WL.nil (keepF (ts := [2, 3]) rfl (toK (by assumption) ?_))
              (try clear hG ops)
              refine WC.ret (end2 (h' := h) (.inl rfl) rfl (RV.cellA Tryd.underlying26 rfl rfl rfl (by (repeat (first | exact List.Mem.head _ | apply List.Mem.tail))) rfl) (RV.tmp rfl) (View.le.refl m) (by (repeat (first | exact List.Sublist.refl _ | refine List.Sublist.cons_cons _ ?_ | apply List.Sublist.cons))) ?_)
              exact ⟨by unfold tokRf; rw [e0, e1, c21]; simp only [if_true, Bool.false_eq_true, if_false, c44, c62, c80, d88]; rfl, rfl⟩
            · have d88 : (decide (((c :: r).length : Int) > 1) && symR ((c :: r).take 2)) = false := c88
              (repeat (first | refine WC.seqK fun K hK => ?_ | refine WC.block ?_ | refine WC.regionG rfl fun ops hG => ?_))
              refine WL.po (PO.move (Ev.tmp rfl)) (Nat.le_of_ble_eq_true rfl) ?_
              refine WL.po (PO.sliceSH Tryd.underlying9 (Ev.tmp rfl) Ev.const (u := 1) rfl (by omega)) (Nat.le_of_ble_eq_true rfl) ?_
              refine WL.callP Ev.func (Evs.cons (Ev.tmp rfl) Evs.nil) (symR_ct _ _ _) (Nat.le_of_ble_eq_true rfl) ?_
              refine WL.po (PO.assign (Ev.tmp rfl)) (Nat.le_of_ble_eq_true rfl) ?_
              refine WL.nil (keepF (ts := [0, 2, 100]) rfl (toK (by assumption) ?_))
              (try clear hG ops)
              (repeat (first | refine WC.seqK fun K hK => ?_ | refine WC.block ?_ | refine WC.regionG rfl fun ops hG => ?_))
              refine WC.cond (Ev.tmp rfl) (fun c100 => ?_) (fun c100 => ?_)
              · have d100 : symR ((c :: r).take 1) = true := c100
                (repeat (first | refine WC.seqK fun K hK => ?_ | refine WC.block ?_ | refine WC.regionG rfl fun ops hG => ?_))
                refine WL.po (PO.move (Ev.tmp rfl)) (Nat.le_of_ble_eq_true rfl) ?_
                refine WL.po (PO.sliceSH Tryd.underlying9 (Ev.tmp rfl) Ev.const (u := 1) rfl (by omega)) (Nat.le_of_ble_eq_true rfl) ?_
                refine WL.po (PO.build Tryd.underlying26 rfl rfl rfl (EvP.cons Ev.const (EvP.cons (Ev.tmp rfl) EvP.nil)) rfl) (Nat.le_of_ble_eq_true rfl) ?_
                refine WL.store rfl (Ev.tmp rfl) (Ev.tmp rfl) rfl rfl rfl rfl (by (repeat (first | exact Upd.here | apply Upd.next))) ?_
                refine WL.po (PO.assign Ev.const) (Nat.le_of_ble_eq_true rfl) ?_
                refine WL.nil (keepF (ts := [2, 3]) rfl (toK (by assumption) ?_))
                (try clear hG ops)
                refine WC.ret (end2 (h' := h) (.inl rfl) rfl (RV.cellA Tryd.underlying26 rfl rfl rfl (by (repeat (first | exact List.Mem.head _ | apply List.Mem.tail))) rfl) (RV.tmp rfl) (View.le.refl m) (by (repeat (first | exact List.Sublist.refl _ | refine List.Sublist.cons_cons _ ?_ | apply List.Sublist.cons))) ?_)
                exact ⟨by unfold tokRf; rw [e0, e1, c21]; simp only [if_true, Bool.false_eq_true, if_false, c44, c62, c80, d88, d100]; rfl, rfl⟩
              · have d100 : symR ((c :: r).take 1) = false := c100
                refine WC.skip (keepF (ts := [2]) rfl (toK (by assumption) ?_))
                (repeat (first | refine WC.seqK fun K hK => ?_ | refine WC.block ?_ | refine WC.regionG rfl fun ops hG => ?_))
                refine WL.po (PO.build Tryd.underlying26 rfl rfl rfl EvP.nil rfl) (Nat.le_of_ble_eq_true rfl) ?_
                refine WL.store rfl (Ev.tmp rfl) (Ev.tmp rfl) rfl rfl rfl rfl (by (repeat (first | exact Upd.here | apply Upd.next))) ?_
                refine WL.po (PO.assign Ev.const) (Nat.le_of_ble_eq_true rfl) ?_
                refine WL.nil (keepF (ts := [2, 3]) rfl (toK (by assumption) ?_))
                (try clear hG ops)
                refine WC.ret (end2 (h' := h) (.inl rfl) rfl (RV.cellA Tryd.underlying26 rfl rfl rfl (by (repeat (first | exact List.Mem.head _ | apply List.Mem.tail))) rfl) (RV.tmp rfl) (View.le.refl m) (by (repeat (first | exact List.Sublist.refl _ | refine List.Sublist.cons_cons _ ?_ | apply List.Sublist.cons))) ?_)
                exact ⟨by unfold tokRf; rw [e0, e1, c21]; simp only [Bool.false_eq_true, if_false, c44, c62, c80, d88, d100]; rfl, rfl⟩
theorem rTokens_ct (line : B) (h : List Res) (m : View) (hs : line.length ≤ 140737488355328) : CT Tryd.prog 29 [str line] h m (TokO h (lexO line)) := by
  refine CT.body Tryd.call29 Tryd.func29 rfl Tryd.ntmps29 (Nat.le_of_ble_eq_true rfl) rfl ?_
  (repeat (first | refine WC.seqK fun K hK => ?_ | refine WC.block ?_ | refine WC.regionG rfl fun ops hG => ?_))
  refine WL.addNil 26 4 ?_
  refine WL.po (PO.assign Ev.const) (Nat.le_of_ble_eq_true rfl) ?_
  refine WL.po (PO.assign Ev.const) (Nat.le_of_ble_eq_true rfl) ?_
  refine WL.po (PO.assign Ev.const) (Nat.le_of_ble_eq_true rfl) ?_
  refine WL.nil (keepF (ts := [0]) rfl (toK (by assumption) ?_))
  (try clear hG ops)
  (repeat (first | refine WC.seqK fun K hK => ?_ | refine WC.block ?_ | refine WC.regionG rfl fun ops hG => ?_))
  refine WL.po (PO.move (Ev.tmp rfl)) (Nat.le_of_ble_eq_true rfl) ?_
  refine WL.po (PO.lenS Tryd.underlying9 (Ev.tmp rfl)) (Nat.le_of_ble_eq_true rfl) ?_
  refine WL.po (PO.bin (Ev.tmp rfl) Ev.const rfl) (Nat.le_of_ble_eq_true rfl) ?_
  refine WL.nil (keepF (ts := [0, 11]) rfl (toK (by assumption) ?_))
  (try clear hG ops)
  (repeat (first | refine WC.seqK fun K hK => ?_ | refine WC.block ?_ | refine WC.regionG rfl fun ops hG => ?_))
  refine WC.cond (Ev.tmp rfl) (fun c11 => ?_) (fun c11 => ?_)
  · (repeat (first | refine WC.seqK fun K hK => ?_ | refine WC.block ?_ | refine WC.regionG rfl fun ops hG => ?_))
    refine WL.po (PO.assign Ev.const) (Nat.le_of_ble_eq_true rfl) ?_
    refine WL.po (PO.assign Ev.const) (Nat.le_of_ble_eq_true rfl) ?_
    refine WL.po (PO.assign Ev.const) (Nat.le_of_ble_eq_true rfl) ?_
    refine WL.nil (keepF (ts := [2, 3, 4]) rfl (toK (by assumption) ?_))
    (try clear hG ops)
    refine WC.ret (end3 (h' := .row (.slice none 0 0) 26 4 0 [] :: h) (.inl rfl) rfl (RV.tmp rfl) (RV.tmp rfl) (RV.tmp rfl) (View.le.refl m) (by (repeat (first | exact List.Sublist.refl _ | refine List.Sublist.cons_cons _ ?_ | apply List.Sublist.cons))) ?_)
    exact ⟨none, 0, by rw [lexO_long c11]; rfl, by rw [lexO_long c11]; rfl⟩
  · have h256 : line.length ≤ 256 := by have := of_decide_eq_false c11; omega
    have hO := lexO_short c11
    refine WC.skip (keepF (ts := [0]) rfl (toK (by assumption) ?_))
    (repeat (first | refine WC.seqK fun K hK => ?_ | refine WC.block ?_ | refine WC.regionG rfl fun ops hG => ?_))
    refine WL.po (PO.assign Ev.const) (Nat.le_of_ble_eq_true rfl) ?_
    refine WL.nil (keepF (ts := [0, 5]) rfl (toK (by assumption) ?_))
    (try clear hG ops)
    (repeat (first | refine WC.seqK fun K hK => ?_ | refine WC.block ?_ | refine WC.regionG rfl fun ops hG => ?_))
    refine WL.po (PO.assign Ev.const) (Nat.le_of_ble_eq_true rfl) ?_
    refine WL.nil (keepF (ts := [0, 5, 6]) rfl (toK (by assumption) ?_))
    (try clear hG ops)
    (repeat (first | refine WC.seqK fun K hK => ?_ | refine WC.block ?_ | refine WC.regionG rfl fun ops hG => ?_))
    refine WC.loopI [0] rfl (fun μ F' h' => ∃ p : Nat, ∃ n : Nat, ∃ l : List Tok, ∃ a : Option Addr, ∃ c : Nat, ((p ≤ line.length ∧ n ≤ p ∧ l.length = n) ∧ lx line 0 = prep l (lx (line.drop p) p)) ∧ line.length - p = μ ∧ F' = [(5, .slice a n c), (6, .int .i64 p)] ∧ .row (.slice a n c) 26 4 n (fl encK l) :: h = h') (line.length - 0) [(5, .slice none 0 0), (6, .int .i64 0)] (h0 := .row (.slice none 0 0) 26 4 0 (fl encK ([])) :: h) ?_ (by (repeat (first | exact List.Sublist.refl _ | refine List.Sublist.cons_cons _ ?_ | apply List.Sublist.cons))) ⟨0, 0, [], none, 0, ⟨⟨by omega, by decide, rfl⟩, by rw [prep_nil]; rfl⟩, rfl, rfl, rfl⟩ ?_
    · (repeat (first | exact Sub.nil | refine Sub.cons rfl ?_ | refine Sub.consE rfl (by simp; done) ?_))
    rintro _ _ _ ⟨p, n, l, a, c, ⟨⟨hp, hnp, hl⟩, hJ⟩, rfl, rfl, rfl⟩
    refine WC.frm rfl ?_
    (repeat (first | refine WC.seqK fun K hK => ?_ | refine WC.block ?_ | refine WC.regionG rfl fun ops hG => ?_))
    refine WL.po (PO.move (Ev.tmp rfl)) (Nat.le_of_ble_eq_true rfl) ?_
    refine WL.po (PO.move (Ev.tmp rfl)) (Nat.le_of_ble_eq_true rfl) ?_
    refine WL.po (PO.lenS Tryd.underlying9 (Ev.tmp rfl)) (Nat.le_of_ble_eq_true rfl) ?_
    refine WL.po (PO.bin (Ev.tmp rfl) (Ev.tmp rfl) rfl) (Nat.le_of_ble_eq_true rfl) ?_
    refine WL.nil (keepF (ts := [0, 5, 6, 15]) rfl (toK (by assumption) ?_))
    (try clear hG ops)
    (repeat (first | refine WC.seqK fun K hK => ?_ | refine WC.block ?_ | refine WC.regionG rfl fun ops hG => ?_))
    refine WC.cond (Ev.tmp rfl) (fun c15 => ?_) (fun c15 => ?_)
    · replace c15 := of_decide_eq_true c15
      obtain ⟨x, hx⟩ := get_some (l := line) (k := p) (by omega)
      have hdr := drop_at hx
      refine WC.skip (keepF (ts := [0, 5, 6]) rfl (toK (by assumption) ?_))
      (repeat (first | refine WC.seqK fun K hK => ?_ | refine WC.block ?_ | refine WC.regionG rfl fun ops hG => ?_))
      refine WL.po (PO.move (Ev.tmp rfl)) (Nat.le_of_ble_eq_true rfl) ?_
      refine WL.po (PO.move (Ev.tmp rfl)) (Nat.le_of_ble_eq_true rfl) ?_
      refine WL.po (PO.idxS Tryd.underlying9 (Ev.tmp rfl) (Ev.tmp rfl) rfl (by assumption)) (Nat.le_of_ble_eq_true rfl) ?_
      refine WL.po (PO.bin (Ev.tmp rfl) Ev.const rfl) (Nat.le_of_ble_eq_true rfl) ?_
      refine WL.nil (keepF (ts := [0, 5, 6, 19]) rfl (toK (by assumption) ?_))
      (try clear hG ops)
      (repeat (first | refine WC.seqK fun K hK => ?_ | refine WC.block ?_ | refine WC.regionG rfl fun ops hG => ?_))
      refine WC.cond (Ev.tmp rfl) (fun c19 => ?_) (fun c19 => ?_)
      · rw [c32_iff] at c19
        have hx32 : line[p]? = some 32 := by rw [hx, eq_of_beq c19]
        (repeat (first | refine WC.seqK fun K hK => ?_ | refine WC.block ?_ | refine WC.regionG rfl fun ops hG => ?_))
        refine WL.po (PO.move (Ev.tmp rfl)) (Nat.le_of_ble_eq_true rfl) ?_
        refine WL.po (PO.addI (Ev.tmp rfl) Ev.const (by omega)) (Nat.le_of_ble_eq_true rfl) ?_
        refine WL.po (PO.assign (Ev.tmp rfl)) (Nat.le_of_ble_eq_true rfl) ?_
        refine WL.nil (keepF (ts := [0, 5, 6]) rfl (toK (by assumption) ?_))
        (try clear hG ops)
        refine WC.exit (loopBackI (line.length - (p + 1)) [(5, .slice a n c), (6, .int .i64 (p + 1))] (h'' := .row (.slice a n c) 26 4 n (fl encK l) :: h) (by omega) ?_ (by (repeat (first | exact Sub.nil | refine Sub.cons rfl ?_ | refine Sub.consE rfl (by simp; done) ?_))) (by (repeat (first | exact List.Sublist.refl _ | refine List.Sublist.cons_cons _ ?_ | apply List.Sublist.cons))) ⟨p + 1, n, l, a, c, ⟨⟨by omega, by omega, hl⟩, step_space hx32 hJ⟩, rfl, rfl, rfl⟩)
        (repeat (first | exact Sub.nil | refine Sub.cons rfl ?_ | refine Sub.consE rfl (by simp; done) ?_))
      · rw [c32_iff] at c19
        have hne : x ≠ 32 := by simpa using c19
        have hn := tok_le (line.drop p)
        rw [List.length_drop] at hn
        have hxl : (x :: line.drop (p + 1)).length ≤ 140737488355328 := by rw [← hdr, List.length_drop]; omega
        refine WC.skip (keepF (ts := [0, 5, 6]) rfl (toK (by assumption) ?_))
        (repeat (first | refine WC.seqK fun K hK => ?_ | refine WC.block ?_ | refine WC.regionG rfl fun ops hG => ?_))
        refine WL.po (PO.move (Ev.tmp rfl)) (Nat.le_of_ble_eq_true rfl) ?_
        refine WL.po (PO.move (Ev.tmp rfl)) (Nat.le_of_ble_eq_true rfl) ?_
        refine WL.po (PO.sliceSL Tryd.underlying9 (Ev.tmp rfl) (Ev.tmp rfl) rfl (by omega)) (Nat.le_of_ble_eq_true rfl) ?_
        refine WL.val (v' := str (x :: line.drop (p + 1))) (congrArg str hdr) ?_
        refine WL.callP Ev.func (Evs.cons (Ev.tmp rfl) Evs.nil) (CT.val (token_ct x (line.drop (p + 1)) _ _ hxl) (by rw [← hdr])) (Nat.le_of_ble_eq_true rfl) ?_
        refine WL.po (PO.move (Ev.tmp rfl)) (Nat.le_of_ble_eq_true rfl) ?_
        refine WL.po (PO.extract (Ev.tmp rfl) rfl) (Nat.le_of_ble_eq_true rfl) ?_
        refine WL.po (PO.extract (Ev.tmp rfl) rfl) (Nat.le_of_ble_eq_true rfl) ?_
        refine WL.alloc rfl rfl (Nat.le_of_ble_eq_true rfl) fun b7 => ?_
        refine WL.store rfl (Ev.tmp rfl) (Ev.tmp rfl) rfl rfl rfl rfl (by (repeat (first | exact Upd.here | apply Upd.next))) ?_
        refine WL.po (PO.assign (Ev.tmp rfl)) (Nat.le_of_ble_eq_true rfl) ?_
        refine WL.nil (keepF (ts := [0, 5, 6, 7, 8]) rfl (toK (by assumption) ?_))
        (try clear hG ops)
        (repeat (first | refine WC.seqK fun K hK => ?_ | refine WC.block ?_ | refine WC.regionG rfl fun ops hG => ?_))
        refine WL.po (PO.move (Ev.tmp rfl)) (Nat.le_of_ble_eq_true rfl) ?_
        refine WL.po (PO.bin (Ev.tmp rfl) Ev.const rfl) (Nat.le_of_ble_eq_true rfl) ?_
        refine WL.nil (keepF (ts := [0, 5, 6, 7, 8, 30]) rfl (toK (by assumption) ?_))
        (try clear hG ops)
        (repeat (first | refine WC.seqK fun K hK => ?_ | refine WC.block ?_ | refine WC.regionG rfl fun ops hG => ?_))
        refine WC.cond (Ev.tmp rfl) (fun c30 => ?_) (fun c30 => ?_)
        · have hn0 : (tok (line.drop p)).2 = 0 := by simp at c30; omega
          have hE := step_bad hx hne hn0 hJ
          (repeat (first | refine WC.seqK fun K hK => ?_ | refine WC.block ?_ | refine WC.regionG rfl fun ops hG => ?_))
          refine WL.po (PO.move (Ev.tmp rfl)) (Nat.le_of_ble_eq_true rfl) ?_
          refine WL.addNil 26 4 ?_
          refine WL.po (PO.assign Ev.const) (Nat.le_of_ble_eq_true rfl) ?_
          refine WL.po (PO.assign (Ev.tmp rfl)) (Nat.le_of_ble_eq_true rfl) ?_
          refine WL.po (PO.assign Ev.const) (Nat.le_of_ble_eq_true rfl) ?_
          refine WL.nil (keepF (ts := [2, 3, 4]) rfl (toK (by assumption) ?_))
          (try clear hG ops)
          refine WC.ret (end3 (h' := .row (.slice none 0 0) 26 4 0 [] :: h) (.inl rfl) rfl (RV.tmp rfl) (RV.tmp rfl) (RV.tmp rfl) (View.le.refl m) (by (repeat (first | exact List.Sublist.refl _ | refine List.Sublist.cons_cons _ ?_ | apply List.Sublist.cons))) ?_)
          exact ⟨none, 0, by rw [hO, hE]; rfl, by rw [hO, hE]; rfl⟩
        · have hn0 : (tok (line.drop p)).2 ≠ 0 := by simp at c30; omega
          have hE := step_tok hx hne hn0 hJ
          refine WC.skip (keepF (ts := [0, 5, 6, 7, 8]) rfl (toK (by assumption) ?_))
          (repeat (first | refine WC.seqK fun K hK => ?_ | refine WC.block ?_ | refine WC.regionG rfl fun ops hG => ?_))
          refine WL.po (PO.move (Ev.tmp rfl)) (Nat.le_of_ble_eq_true rfl) ?_
          refine WL.po (PO.fieldAddr Tryd.underlying26 rfl (Nat.ne_of_beq_eq_false rfl) (Ev.tmp rfl)) (Nat.le_of_ble_eq_true rfl) ?_
          refine WL.store rfl (Ev.tmp rfl) (Ev.tmp rfl) rfl rfl rfl rfl (by (repeat (first | exact Upd.here | apply Upd.next))) ?_
          refine WL.nil (keepF (ts := [0, 5, 6, 7, 8]) rfl (toK (by assumption) ?_))
          (try clear hG ops)
          (repeat (first | refine WC.seqK fun K hK => ?_ | refine WC.block ?_ | refine WC.regionG rfl fun ops hG => ?_))
          refine WL.po (PO.move (Ev.tmp rfl)) (Nat.le_of_ble_eq_true rfl) ?_
          refine WL.po (PO.loadA Tryd.underlying26 rfl rfl (Ev.tmp rfl) (by (repeat (first | exact List.Mem.head _ | apply List.Mem.tail))) rfl) (Nat.le_of_ble_eq_true rfl) ?_
          refine WL.buildSlice EL28 rfl (EvP.cons (Ev.tmp rfl) EvP.nil) rfl rfl (by decide) rfl (Nat.le_of_ble_eq_true rfl) fun b36 => ?_
          refine WL.appendE EL28 (Ev.tmp rfl) (Ev.tmp rfl) (by first | assumption | exact Rd.ofSl (by assumption) | exact Rd.ofPt rfl (by decide) (by (repeat (first | exact List.Mem.head _ | apply List.Mem.tail))) | exact Rd.mono (by assumption) (View.le.refl _) (by (repeat (first | exact List.Sublist.refl _ | refine List.Sublist.cons_cons _ ?_ | apply List.Sublist.cons))) | exact Rd.inRow (by (repeat (first | exact List.Mem.head _ | apply List.Mem.tail))) (by assumption) (by assumption) (by assumption)) (by first | exact one_of rfl | exact fl_ones (fun _ => rfl) _) rfl (fl_snoc (enc := encK) _ ({ (tok (line.drop p)).1 with at_ := p })) (by omega) (by omega) (fun v' => by (repeat (first | exact Upd.here | apply Upd.next))) (Nat.le_of_ble_eq_true rfl) fun a37 c37 => ?_
          refine WL.po (PO.assign (Ev.tmp rfl)) (Nat.le_of_ble_eq_true rfl) ?_
          refine WL.nil (keepF (ts := [0, 5, 6, 8]) rfl (toK (by assumption) ?_))
          (try clear hG ops)
          (repeat (first | refine WC.seqK fun K hK => ?_ | refine WC.block ?_ | refine WC.regionG rfl fun ops hG => ?_))
          refine WL.po (PO.move (Ev.tmp rfl)) (Nat.le_of_ble_eq_true rfl) ?_
          refine WL.po (PO.move (Ev.tmp rfl)) (Nat.le_of_ble_eq_true rfl) ?_
          refine WL.po (PO.addI (Ev.tmp rfl) (Ev.tmp rfl) (by omega)) (Nat.le_of_ble_eq_true rfl) ?_
          refine WL.po (PO.assign (Ev.tmp rfl)) (Nat.le_of_ble_eq_true rfl) ?_
          refine WL.nil (loopBackI (line.length - (p + (tok (line.drop p)).2)) [(5, .slice a37 (n + 1) c37), (6, .int .i64 (p + (tok (line.drop p)).2))] (h'' := .row (.slice a37 (n + 1) c37) 26 4 (n + 1) (fl encK (l ++ [{ (tok (line.drop p)).1 with at_ := p }])) :: h) (by omega) ?_ (by (repeat (first | exact Sub.nil | refine Sub.cons rfl ?_ | refine Sub.consE rfl (by simp; done) ?_))) (by (repeat (first | exact List.Sublist.refl _ | refine List.Sublist.cons_cons _ ?_ | apply List.Sublist.cons))) ⟨p + (tok (line.drop p)).2, n + 1, l ++ [{ (tok (line.drop p)).1 with at_ := p }], a37, c37, ⟨⟨by omega, by omega, by rw [List.length_append, List.length_singleton, hl]⟩, hE⟩, rfl, rfl, rfl⟩)
          (repeat (first | exact Sub.nil | refine Sub.cons rfl ?_ | refine Sub.consE rfl (by simp; done) ?_))
    · replace c15 := of_decide_eq_false c15
      rw [List.drop_eq_nil_of_le (by omega), lx_nil] at hJ
      have hE : lx line 0 = .ok l := by rw [hJ]; simp [prep]
      subst hl
      refine WC.exit (keepF (ts := [5]) rfl (toK (by assumption) ?_))
      (repeat (first | refine WC.seqK fun K hK => ?_ | refine WC.block ?_ | refine WC.regionG rfl fun ops hG => ?_))
      refine WL.po (PO.move (Ev.tmp rfl)) (Nat.le_of_ble_eq_true rfl) ?_
      refine WL.po (PO.assign (Ev.tmp rfl)) (Nat.le_of_ble_eq_true rfl) ?_
      refine WL.po (PO.assign Ev.const) (Nat.le_of_ble_eq_true rfl) ?_
      refine WL.po (PO.assign Ev.const) (Nat.le_of_ble_eq_true rfl) ?_
      refine WL.nil (keepF (ts := [2, 3, 4]) rfl (toK (by assumption) ?_))
      (try clear hG ops)
      refine WC.ret (end3 (h' := .row (.slice a l.length c) 26 4 l.length (fl encK l) :: h) (.inl rfl) rfl (RV.tmp rfl) (RV.tmp rfl) (RV.tmp rfl) (View.le.refl m) (by (repeat (first | exact List.Sublist.refl _ | refine List.Sublist.cons_cons _ ?_ | apply List.Sublist.cons))) ?_)
      exact ⟨a, c, by rw [hO, hE]; rfl, by rw [hO, hE]; rfl⟩
theorem equal30_ct (s1 s2 : Option Addr) (n1 c1 n2 c2 : Nat) (xs ys : List _) (h : List Res) (m : View) (h1 : Rd m h s1 n1 c1 4 (fl encK xs)) (h2 : Rd m h s2 n2 c2 4 (fl encK ys)) :
    CT Tryd.prog 30 [.slice s1 n1 c1, .slice s2 n2 c2] h m (Pure1 h (.bool (eqL eqK xs ys))) := by
  have l1 := h1.lenF encK_len (by decide)
  have l2 := h2.lenF encK_len (by decide)
  have m1 := h1.mx
  have m2 := h2.mx
  have k1 := h1.le
  have k2 := h2.le
  refine CT.body Tryd.call30 Tryd.func30 rfl Tryd.ntmps30 (Nat.le_of_ble_eq_true rfl) rfl ?_
  (repeat (first | refine WC.seqK fun K hK => ?_ | refine WC.block ?_ | refine WC.regionG rfl fun ops hG => ?_))
  refine WL.po (PO.assign Ev.const) (Nat.le_of_ble_eq_true rfl) ?_
  refine WL.nil (keepF (ts := [0, 1]) rfl (toK (by assumption) ?_))
  (try clear hG ops)
  (repeat (first | refine WC.seqK fun K hK => ?_ | refine WC.block ?_ | refine WC.regionG rfl fun ops hG => ?_))
  refine WL.po (PO.move (Ev.tmp rfl)) (Nat.le_of_ble_eq_true rfl) ?_
  refine WL.po (PO.lenSl Tryd.underlying28 (Ev.tmp rfl)) (Nat.le_of_ble_eq_true rfl) ?_
  refine WL.po (PO.move (Ev.tmp rfl)) (Nat.le_of_ble_eq_true rfl) ?_
  refine WL.po (PO.lenSl Tryd.underlying28 (Ev.tmp rfl)) (Nat.le_of_ble_eq_true rfl) ?_
  refine WL.po (PO.bin (Ev.tmp rfl) (Ev.tmp rfl) rfl) (Nat.le_of_ble_eq_true rfl) ?_
  refine WL.nil (keepF (ts := [0, 1, 10]) rfl (toK (by assumption) ?_))
  (try clear hG ops)
  (repeat (first | refine WC.seqK fun K hK => ?_ | refine WC.block ?_ | refine WC.regionG rfl fun ops hG => ?_))
  refine WC.cond (Ev.tmp rfl) (fun c10 => ?_) (fun c10 => ?_)
  · replace c10 := t_ne c10
    (repeat (first | refine WC.seqK fun K hK => ?_ | refine WC.block ?_ | refine WC.regionG rfl fun ops hG => ?_))
    refine WL.po (PO.assign Ev.const) (Nat.le_of_ble_eq_true rfl) ?_
    refine WL.nil (keepF (ts := [4]) rfl (toK (by assumption) ?_))
    (try clear hG ops)
    refine WC.ret (end1 (h' := h) (.inl rfl) rfl (RV.tmp rfl) (View.le.refl m) (by (repeat (first | exact List.Sublist.refl _ | refine List.Sublist.cons_cons _ ?_ | apply List.Sublist.cons))) ?_)
    exact ⟨by rw [eqL_len _ _ _ (by omega)], rfl⟩
  · replace c10 := f_ne c10
    refine WC.skip (keepF (ts := [0, 1]) rfl (toK (by assumption) ?_))
    (repeat (first | refine WC.seqK fun K hK => ?_ | refine WC.block ?_ | refine WC.regionG rfl fun ops hG => ?_))
    refine WL.po (PO.move (Ev.tmp rfl)) (Nat.le_of_ble_eq_true rfl) ?_
    refine WL.po (PO.lenSl Tryd.underlying28 (Ev.tmp rfl)) (Nat.le_of_ble_eq_true rfl) ?_
    refine WL.po (PO.move Ev.const) (Nat.le_of_ble_eq_true rfl) ?_
    refine WL.nil (keepF (ts := [0, 1, 12, 13]) rfl (toK (by assumption) ?_))
    (try clear hG ops)
    (repeat (first | refine WC.seqK fun K hK => ?_ | refine WC.block ?_ | refine WC.regionG rfl fun ops hG => ?_))
    refine WC.loopI [0, 1, 12] rfl (fun μ F' h' => ∃ k : Nat, (k ≤ n1 ∧ eqL eqK xs ys = eqL eqK (xs.drop k) (ys.drop k)) ∧ n1 - k = μ ∧ F' = [(13, .int .i64 k)] ∧ h = h') (n1 - 0) [(13, .int .i64 0)] (h0 := h) ?_ (by (repeat (first | exact List.Sublist.refl _ | refine List.Sublist.cons_cons _ ?_ | apply List.Sublist.cons))) ⟨0, ⟨by omega, by simp⟩, rfl, rfl, rfl⟩ ?_
    · (repeat (first | exact Sub.nil | refine Sub.cons rfl ?_ | refine Sub.consE rfl (by simp; done) ?_))
    rintro _ _ _ ⟨k, ⟨hk, hJ⟩, rfl, rfl, rfl⟩
    refine WC.frm rfl ?_
    (repeat (first | refine WC.seqK fun K hK => ?_ | refine WC.block ?_ | refine WC.regionG rfl fun ops hG => ?_))
    refine WL.po (PO.bin (Ev.tmp rfl) (Ev.tmp rfl) rfl) (Nat.le_of_ble_eq_true rfl) ?_
    refine WL.nil (keepF (ts := [0, 1, 12, 13, 14]) rfl (toK (by assumption) ?_))
    (try clear hG ops)
    (repeat (first | refine WC.seqK fun K hK => ?_ | refine WC.block ?_ | refine WC.regionG rfl fun ops hG => ?_))
    refine WC.cond (Ev.tmp rfl) (fun c14 => ?_) (fun c14 => ?_)
    · replace c14 := of_decide_eq_true c14
      obtain ⟨x, hx⟩ := get_some (l := xs) (k := k) (by omega)
      obtain ⟨y, hy⟩ := get_some (l := ys) (k := k) (by omega)
      rw [eqL_drop _ hx hy] at hJ
      refine WC.skip (keepF (ts := [0, 1, 12, 13]) rfl (toK (by assumption) ?_))
      (repeat (first | refine WC.seqK fun K hK => ?_ | refine WC.block ?_ | refine WC.regionG rfl fun ops hG => ?_))
      refine WL.po (PO.move (Ev.tmp rfl)) (Nat.le_of_ble_eq_true rfl) ?_
      refine WL.po (PO.assign (Ev.tmp rfl)) (Nat.le_of_ble_eq_true rfl) ?_
      refine WL.nil (keepF (ts := [0, 1, 5, 12, 13]) rfl (toK (by assumption) ?_))
      (try clear hG ops)
      (repeat (first | refine WC.seqK fun K hK => ?_ | refine WC.block ?_ | refine WC.regionG rfl fun ops hG => ?_))
      refine WC.drawS [] [0, 1, 2, 3, 4, 5, 6, 7] [8] _ [] mixed (fun _ _ _ _ _ h => h) [] (by kernel_rfl) ?_
      refine SR.po rfl rfl (PO.move (Ev.tmp rfl)) (Nat.le_of_ble_eq_true rfl) ?_
      refine SR.po rfl rfl (PO.move (Ev.tmp rfl)) (Nat.le_of_ble_eq_true rfl) ?_
      refine SR.po rfl rfl (PO.idx EL28.und EL28.size EL28.posz (Ev.tmp rfl) (Ev.tmp rfl) (by first | assumption | exact Rd.ofSl (by assumption) | exact Rd.ofPt rfl (by decide) (by (repeat (first | exact List.Mem.head _ | apply List.Mem.tail))) | exact Rd.mono (by assumption) (View.le.refl _) (by (repeat (first | exact List.Sublist.refl _ | refine List.Sublist.cons_cons _ ?_ | apply List.Sublist.cons))) | exact Rd.inRow (by (repeat (first | exact List.Mem.head _ | apply List.Mem.tail))) (by assumption) (by assumption) (by assumption)) rfl (by omega)) (Nat.le_of_ble_eq_true rfl) ?_
      refine SR.po rfl rfl (PO.loadFA Tryd.underlying26 rfl rfl encK_len (by first | assumption | exact Rd.ofSl (by assumption) | exact Rd.ofPt rfl (by decide) (by (repeat (first | exact List.Mem.head _ | apply List.Mem.tail))) | exact Rd.mono (by assumption) (View.le.refl _) (by (repeat (first | exact List.Sublist.refl _ | refine List.Sublist.cons_cons _ ?_ | apply List.Sublist.cons))) | exact Rd.inRow (by (repeat (first | exact List.Mem.head _ | apply List.Mem.tail))) (by assumption) (by assumption) (by assumption)) (Ev.tmp rfl) (by assumption) rfl rfl (Nat.succ_pos _)) (Nat.le_of_ble_eq_true rfl) ?_
      refine SR.po rfl rfl (PO.move (Ev.tmp rfl)) (Nat.le_of_ble_eq_true rfl) ?_
      refine SR.po rfl rfl (PO.move (Ev.tmp rfl)) (Nat.le_of_ble_eq_true rfl) ?_
      refine SR.po rfl rfl (PO.idx EL28.und EL28.size EL28.posz (Ev.tmp rfl) (Ev.tmp rfl) (by first | assumption | exact Rd.ofSl (by assumption) | exact Rd.ofPt rfl (by decide) (by (repeat (first | exact List.Mem.head _ | apply List.Mem.tail))) | exact Rd.mono (by assumption) (View.le.refl _) (by (repeat (first | exact List.Sublist.refl _ | refine List.Sublist.cons_cons _ ?_ | apply List.Sublist.cons))) | exact Rd.inRow (by (repeat (first | exact List.Mem.head _ | apply List.Mem.tail))) (by assumption) (by assumption) (by assumption)) rfl (by omega)) (Nat.le_of_ble_eq_true rfl) ?_
      refine SR.po rfl rfl (PO.loadFA Tryd.underlying26 rfl rfl encK_len (by first | assumption | exact Rd.ofSl (by assumption) | exact Rd.ofPt rfl (by decide) (by (repeat (first | exact List.Mem.head _ | apply List.Mem.tail))) | exact Rd.mono (by assumption) (View.le.refl _) (by (repeat (first | exact List.Sublist.refl _ | refine List.Sublist.cons_cons _ ?_ | apply List.Sublist.cons))) | exact Rd.inRow (by (repeat (first | exact List.Mem.head _ | apply List.Mem.tail))) (by assumption) (by assumption) (by assumption)) (Ev.tmp rfl) (by assumption) rfl rfl (Nat.succ_pos _)) (Nat.le_of_ble_eq_true rfl) ?_
      refine SR.nil rfl rfl ?_
      refine WL.po (PO.neqA Tryd.underlying26 (by kernel_rfl) (by kernel_rfl) (Ev.tmp rfl) (Ev.tmp rfl) rfl) (Nat.le_of_ble_eq_true rfl) ?_
      refine WL.nil (keepF (ts := [0, 1, 12, 13, 24]) rfl (toK (by assumption) ?_))
      (try clear hG ops)
      (repeat (first | refine WC.seqK fun K hK => ?_ | refine WC.block ?_ | refine WC.regionG rfl fun ops hG => ?_))
      refine WC.cond (Ev.tmp rfl) (fun c24 => ?_) (fun c24 => ?_)
      · (repeat (first | refine WC.seqK fun K hK => ?_ | refine WC.block ?_ | refine WC.regionG rfl fun ops hG => ?_))
        refine WL.po (PO.assign Ev.const) (Nat.le_of_ble_eq_true rfl) ?_
        refine WL.nil (keepF (ts := [4]) rfl (toK (by assumption) ?_))
        (try clear hG ops)
        refine WC.ret (end1 (h' := h) (.inl rfl) rfl (RV.tmp rfl) (View.le.refl m) (by (repeat (first | exact List.Sublist.refl _ | refine List.Sublist.cons_cons _ ?_ | apply List.Sublist.cons))) ?_)
        exact ⟨by rw [hJ, eqK_ne c24]; rfl, rfl⟩
      · rw [eqK_eq c24, Bool.true_and] at hJ
        refine WC.skip (keepF (ts := [0, 1, 12, 13]) rfl (toK (by assumption) ?_))
        (repeat (first | refine WC.seqK fun K hK => ?_ | refine WC.block ?_ | refine WC.regionG rfl fun ops hG => ?_))
        refine WL.po (PO.addI (Ev.tmp rfl) Ev.const (by omega)) (Nat.le_of_ble_eq_true rfl) ?_
        refine WL.po (PO.move (Ev.tmp rfl)) (Nat.le_of_ble_eq_true rfl) ?_
        refine WL.nil (loopBackI (n1 - (k + 1)) [(13, .int .i64 (k + 1))] (h'' := h) (by omega) ?_ (by (repeat (first | exact Sub.nil | refine Sub.cons rfl ?_ | refine Sub.consE rfl (by simp; done) ?_))) (by (repeat (first | exact List.Sublist.refl _ | refine List.Sublist.cons_cons _ ?_ | apply List.Sublist.cons))) ⟨k + 1, ⟨by omega, hJ⟩, rfl, rfl, rfl⟩)
        (repeat (first | exact Sub.nil | refine Sub.cons rfl ?_ | refine Sub.consE rfl (by simp; done) ?_))
    · replace c14 := of_decide_eq_false c14
      refine WC.exit (keepF (ts := []) rfl (toK (by assumption) ?_))
      (repeat (first | refine WC.seqK fun K hK => ?_ | refine WC.block ?_ | refine WC.regionG rfl fun ops hG => ?_))
      refine WL.po (PO.assign Ev.const) (Nat.le_of_ble_eq_true rfl) ?_
      refine WL.nil (keepF (ts := [4]) rfl (toK (by assumption) ?_))
      (try clear hG ops)
      refine WC.ret (end1 (h' := h) (.inl rfl) rfl (RV.tmp rfl) (View.le.refl m) (by (repeat (first | exact List.Sublist.refl _ | refine List.Sublist.cons_cons _ ?_ | apply List.Sublist.cons))) ?_)
      exact ⟨by rw [hJ, List.drop_eq_nil_of_le (by omega), List.drop_eq_nil_of_le (by omega)]; rfl, rfl⟩
end Go.Proofs.YtddnoaffkinkkaaDoor

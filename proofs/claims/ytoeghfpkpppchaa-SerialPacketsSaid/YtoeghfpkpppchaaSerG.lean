/- serial: the chapter's examples. -/
import Derived.Test.YtoeghfpkpppchaaSerF
namespace Go.Proofs.Ytoeghfpkpppchaa
open Go.Eng Go.Ser

theorem awake_ct (h : List Res) (m : View) : CT Try.prog 15 [] h m (Pure1 h (.bool true)) := by
  refine CT.body Try.call15 Try.func15 rfl Try.ntmps15 (Nat.le_of_ble_eq_true rfl) rfl ?_
  (repeat (first | refine WC.seqK fun K hK => ?_ | refine WC.block ?_ | refine WC.regionG rfl fun ops hG => ?_))
  refine WL.po (PO.assign Ev.const) (Nat.le_of_ble_eq_true rfl) ?_
  refine WL.nil (keepF (ts := []) rfl (toK (by assumption) ?_))
  (try clear hG ops)
  (repeat (first | refine WC.seqK fun K hK => ?_ | refine WC.block ?_ | refine WC.regionG rfl fun ops hG => ?_))
  refine WL.po (PO.build Try.underlying24 rfl rfl rfl EvP.nil rfl) (Nat.le_of_ble_eq_true rfl) ?_
  refine WL.callP Ev.func (Evs.cons (Ev.tmp rfl) (Evs.cons Ev.const Evs.nil)) (send_ct zeroS zero_I64 5#8 _ _) (Nat.le_of_ble_eq_true rfl) ?_
  refine WL.po (PO.move (Ev.tmp rfl)) (Nat.le_of_ble_eq_true rfl) ?_
  refine WL.po (PO.extract (Ev.tmp rfl) rfl) (Nat.le_of_ble_eq_true rfl) ?_
  refine WL.po (PO.extract (Ev.tmp rfl) rfl) (Nat.le_of_ble_eq_true rfl) ?_
  refine WL.alloc rfl rfl (Nat.le_of_ble_eq_true rfl) fun b1 => ?_
  refine WL.store rfl (Ev.tmp rfl) (Ev.tmp rfl) rfl rfl rfl rfl (by (repeat (first | exact Upd.here | apply Upd.next))) ?_
  refine WL.po (PO.assign (Ev.tmp rfl)) (Nat.le_of_ble_eq_true rfl) ?_
  refine WL.nil (keepF (ts := [1, 2]) rfl (toK (by assumption) ?_))
  (try clear hG ops)
  (repeat (first | refine WC.seqK fun K hK => ?_ | refine WC.block ?_ | refine WC.regionG rfl fun ops hG => ?_))
  refine WL.addNil 3 1 ?_
  refine WL.po (PO.assign Ev.const) (Nat.le_of_ble_eq_true rfl) ?_
  refine WL.nil (keepF (ts := [1, 2, 3]) rfl (toK (by assumption) ?_))
  (try clear hG ops)
  (repeat (first | refine WC.seqK fun K hK => ?_ | refine WC.block ?_ | refine WC.regionG rfl fun ops hG => ?_))
  refine WL.po (PO.move Ev.const) (Nat.le_of_ble_eq_true rfl) ?_
  refine WL.nil (keepF (ts := [1, 2, 3, 20]) rfl (toK (by assumption) ?_))
  (try clear hG ops)
  (repeat (first | refine WC.seqK fun K hK => ?_ | refine WC.block ?_ | refine WC.regionG rfl fun ops hG => ?_))
  refine WC.loopI [1, 2] rfl (fun μ F' h' => ∃ k : Nat, ∃ a : Option Addr, ∃ c : Nat, (k ≤ 11) ∧ 11 - k = μ ∧ F' = [(3, .slice a k c), (20, .int .i64 k)] ∧ .row (.slice a k c) 3 1 k (fl encI (awS k).2) :: .pt b1 (.cells (cellS (awS k).1).toArray 24 (0, 0)) :: h = h') (11 - 0) [(3, .slice none 0 0), (20, .int .i64 0)] (h0 := .row (.slice none 0 0) 3 1 0 (fl encI (awS 0).2) :: .pt b1 (.cells (cellS (awS 0).1).toArray 24 (0, 0)) :: h) ?_ (by (repeat (first | exact List.Sublist.refl _ | refine List.Sublist.cons_cons _ ?_ | apply List.Sublist.cons))) ⟨0, none, 0, by omega, rfl, rfl, rfl⟩ ?_
  · (repeat (first | exact Sub.nil | refine Sub.cons rfl ?_ | refine Sub.consE rfl (by simp; done) ?_))
  rintro _ _ _ ⟨k, a, c, hJ, rfl, rfl, rfl⟩
  refine WC.frm rfl ?_
  (repeat (first | refine WC.seqK fun K hK => ?_ | refine WC.block ?_ | refine WC.regionG rfl fun ops hG => ?_))
  refine WL.po (PO.bin (Ev.tmp rfl) Ev.const rfl) (Nat.le_of_ble_eq_true rfl) ?_
  refine WL.nil (keepF (ts := [1, 2, 3, 20, 21]) rfl (toK (by assumption) ?_))
  (try clear hG ops)
  (repeat (first | refine WC.seqK fun K hK => ?_ | refine WC.block ?_ | refine WC.regionG rfl fun ops hG => ?_))
  refine WC.cond (Ev.tmp rfl) (fun c21 => ?_) (fun c21 => ?_)
  · replace c21 := of_decide_eq_true c21
    refine WC.skip (keepF (ts := [1, 2, 3, 20]) rfl (toK (by assumption) ?_))
    (repeat (first | refine WC.seqK fun K hK => ?_ | refine WC.block ?_ | refine WC.regionG rfl fun ops hG => ?_))
    refine WL.po (PO.assign Ev.const) (Nat.le_of_ble_eq_true rfl) ?_
    refine WL.nil (keepF (ts := [1, 2, 3, 20]) rfl (toK (by assumption) ?_))
    (try clear hG ops)
    (repeat (first | refine WC.seqK fun K hK => ?_ | refine WC.block ?_ | refine WC.regionG rfl fun ops hG => ?_))
    refine WL.po (PO.loadA Try.underlying24 rfl rfl (Ev.tmp rfl) (by (repeat (first | exact List.Mem.head _ | apply List.Mem.tail))) rfl) (Nat.le_of_ble_eq_true rfl) ?_
    refine WL.callP Ev.func (Evs.cons (Ev.tmp rfl) Evs.nil) (tx_ct (awS k).1 (awS_I64 k) _ _) (Nat.le_of_ble_eq_true rfl) ?_
    refine WL.po (PO.move (Ev.tmp rfl)) (Nat.le_of_ble_eq_true rfl) ?_
    refine WL.po (PO.extract (Ev.tmp rfl) rfl) (Nat.le_of_ble_eq_true rfl) ?_
    refine WL.po (PO.extract (Ev.tmp rfl) rfl) (Nat.le_of_ble_eq_true rfl) ?_
    refine WL.store rfl (Ev.tmp rfl) (Ev.tmp rfl) rfl rfl rfl rfl (by (repeat (first | exact Upd.here | apply Upd.next))) ?_
    refine WL.po (PO.assign (Ev.tmp rfl)) (Nat.le_of_ble_eq_true rfl) ?_
    refine WL.nil (keepF (ts := [1, 2, 3, 4, 20]) rfl (toK (by assumption) ?_))
    (try clear hG ops)
    (repeat (first | refine WC.seqK fun K hK => ?_ | refine WC.block ?_ | refine WC.regionG rfl fun ops hG => ?_))
    refine WL.po (PO.move (Ev.tmp rfl)) (Nat.le_of_ble_eq_true rfl) ?_
    refine WL.po (PO.move (Ev.tmp rfl)) (Nat.le_of_ble_eq_true rfl) ?_
    refine WL.buildSlice EL36 rfl (EvP.cons (Ev.tmp rfl) EvP.nil) rfl rfl (by decide) rfl (Nat.le_of_ble_eq_true rfl) fun b29 => ?_
    refine WL.appendE EL36 (Ev.tmp rfl) (Ev.tmp rfl) (by first | assumption | exact Rd.ofSl (by assumption) | exact Rd.ofPt rfl (by decide) (by (repeat (first | exact List.Mem.head _ | apply List.Mem.tail))) | exact Rd.mono (by assumption) (View.le.refl _) (by (repeat (first | exact List.Sublist.refl _ | refine List.Sublist.cons_cons _ ?_ | apply List.Sublist.cons))) | exact Rd.inRow (by (repeat (first | exact List.Mem.head _ | apply List.Mem.tail))) (by assumption) (by assumption) (by assumption)) (by first | exact one_of rfl | exact fl_ones (fun _ => rfl) _) rfl (fl_snoc (enc := encI) _ ((tx (awS k).1).2)) (by omega) (by omega) (fun v' => by (repeat (first | exact Upd.here | apply Upd.next))) (Nat.le_of_ble_eq_true rfl) fun a30 c30 => ?_
    refine WL.po (PO.assign (Ev.tmp rfl)) (Nat.le_of_ble_eq_true rfl) ?_
    refine WL.nil (keepF (ts := [1, 2, 3, 20]) rfl (toK (by assumption) ?_))
    (try clear hG ops)
    (repeat (first | refine WC.seqK fun K hK => ?_ | refine WC.block ?_ | refine WC.regionG rfl fun ops hG => ?_))
    refine WL.po (PO.addI (Ev.tmp rfl) Ev.const (by omega)) (Nat.le_of_ble_eq_true rfl) ?_
    refine WL.po (PO.move (Ev.tmp rfl)) (Nat.le_of_ble_eq_true rfl) ?_
    refine WL.nil (loopBackI (11 - (k + 1)) [(3, .slice a30 (k + 1) c30), (20, .int .i64 (k + 1))] (h'' := .row (.slice a30 (k + 1) c30) 3 1 (k + 1) (fl encI (awS (k + 1)).2) :: .pt b1 (.cells (cellS (awS (k + 1)).1).toArray 24 (0, 0)) :: h) (by omega) ?_ (by (repeat (first | exact Sub.nil | refine Sub.cons rfl ?_ | refine Sub.consE rfl (by simp; done) ?_))) (by (repeat (first | exact List.Sublist.refl _ | refine List.Sublist.cons_cons _ ?_ | apply List.Sublist.cons))) ⟨k + 1, a30, c30, by omega, rfl, rfl, rfl⟩)
    (repeat (first | exact Sub.nil | refine Sub.cons rfl ?_ | refine Sub.consE rfl (by simp; done) ?_))
  · replace c21 := of_decide_eq_false c21
    have e : k = 11 := by omega
    subst e
    refine WC.exit (keepF (ts := [1, 2, 3]) rfl (toK (by assumption) ?_))
    (repeat (first | refine WC.seqK fun K hK => ?_ | refine WC.block ?_ | refine WC.regionG rfl fun ops hG => ?_))
    refine WL.knowRow (a := a) (by (repeat (first | exact List.Mem.head _ | apply List.Mem.tail))) fun p q r => ?_
    refine WL.buildSlice EL36 rfl (EvP.cons Ev.const (EvP.cons Ev.const (EvP.cons Ev.const (EvP.cons Ev.const (EvP.cons Ev.const (EvP.cons Ev.const (EvP.cons Ev.const (EvP.cons Ev.const (EvP.cons Ev.const (EvP.cons Ev.const (EvP.cons Ev.const (EvP.cons Ev.const (EvP.cons Ev.const (EvP.cons Ev.const EvP.nil)))))))))))))) rfl rfl (by decide) rfl (Nat.le_of_ble_eq_true rfl) fun b33 => ?_
    refine WL.callK Ev.func (Evs.cons (Ev.tmp rfl) Evs.nil) (packets_ct _ _ _ [1, 1, 1, 0, 1, 0, 0, 0, 0, 0, 0, 0, 1, 0] _ _ (Rd.ofPt rfl (by decide) (by (repeat (first | exact List.Mem.head _ | apply List.Mem.tail)))) (by decide)) (Nat.le_of_ble_eq_true rfl) ?_
    rintro _ _ ⟨a34, c34, k34, e34, rfl, rfl⟩
    refine WL.knowRow (a := a34) (by (repeat (first | exact List.Mem.head _ | apply List.Mem.tail))) fun p34 q34 r34 => ?_
    refine WL.po (PO.move (Ev.tmp rfl)) (Nat.le_of_ble_eq_true rfl) ?_
    refine WL.po (PO.extract (Ev.tmp rfl) rfl) (Nat.le_of_ble_eq_true rfl) ?_
    refine WL.po (PO.extract (Ev.tmp rfl) rfl) (Nat.le_of_ble_eq_true rfl) ?_
    refine WL.po (PO.assign (Ev.tmp rfl)) (Nat.le_of_ble_eq_true rfl) ?_
    refine WL.po (PO.assign (Ev.tmp rfl)) (Nat.le_of_ble_eq_true rfl) ?_
    refine WL.nil (keepF (ts := [1, 2, 3, 5, 6]) rfl (toK (by assumption) ?_))
    (try clear hG ops)
    (repeat (first | refine WC.seqK fun K hK => ?_ | refine WC.block ?_ | refine WC.regionG rfl fun ops hG => ?_))
    refine WL.buildSlice EL36 rfl (EvP.cons Ev.const (EvP.cons Ev.const (EvP.cons Ev.const (EvP.cons Ev.const (EvP.cons Ev.const (EvP.cons Ev.const (EvP.cons Ev.const (EvP.cons Ev.const (EvP.cons Ev.const (EvP.cons Ev.const (EvP.cons Ev.const EvP.nil))))))))))) rfl rfl (by decide) rfl (Nat.le_of_ble_eq_true rfl) fun b38 => ?_
    refine WL.callK Ev.func (Evs.cons (Ev.tmp rfl) Evs.nil) (packets_ct _ _ _ [1, 1, 0, 0, 0, 0, 0, 0, 0, 0, 1] _ _ (Rd.ofPt rfl (by decide) (by (repeat (first | exact List.Mem.head _ | apply List.Mem.tail)))) (by decide)) (Nat.le_of_ble_eq_true rfl) ?_
    rintro _ _ ⟨a39, c39, k39, e39, rfl, rfl⟩
    refine WL.knowRow (a := a39) (by (repeat (first | exact List.Mem.head _ | apply List.Mem.tail))) fun p39 q39 r39 => ?_
    refine WL.po (PO.move (Ev.tmp rfl)) (Nat.le_of_ble_eq_true rfl) ?_
    refine WL.po (PO.extract (Ev.tmp rfl) rfl) (Nat.le_of_ble_eq_true rfl) ?_
    refine WL.po (PO.extract (Ev.tmp rfl) rfl) (Nat.le_of_ble_eq_true rfl) ?_
    refine WL.po (PO.assign (Ev.tmp rfl)) (Nat.le_of_ble_eq_true rfl) ?_
    refine WL.po (PO.assign (Ev.tmp rfl)) (Nat.le_of_ble_eq_true rfl) ?_
    refine WL.nil (keepF (ts := [1, 2, 3, 5, 6, 8]) rfl (toK (by assumption) ?_))
    (try clear hG ops)
    (repeat (first | refine WC.seqK fun K hK => ?_ | refine WC.block ?_ | refine WC.regionG rfl fun ops hG => ?_))
    refine WL.buildSlice EL36 rfl (EvP.cons Ev.const EvP.nil) rfl rfl (by decide) rfl (Nat.le_of_ble_eq_true rfl) fun b43 => ?_
    refine WL.callK Ev.func (Evs.cons (Ev.tmp rfl) Evs.nil) (packets_ct _ _ _ [1] _ _ (Rd.ofPt rfl (by decide) (by (repeat (first | exact List.Mem.head _ | apply List.Mem.tail)))) (by decide)) (Nat.le_of_ble_eq_true rfl) ?_
    rintro _ _ ⟨a44, c44, k44, e44, rfl, rfl⟩
    refine WL.knowRow (a := a44) (by (repeat (first | exact List.Mem.head _ | apply List.Mem.tail))) fun p44 q44 r44 => ?_
    refine WL.po (PO.move (Ev.tmp rfl)) (Nat.le_of_ble_eq_true rfl) ?_
    refine WL.po (PO.extract (Ev.tmp rfl) rfl) (Nat.le_of_ble_eq_true rfl) ?_
    refine WL.po (PO.extract (Ev.tmp rfl) rfl) (Nat.le_of_ble_eq_true rfl) ?_
    refine WL.po (PO.assign (Ev.tmp rfl)) (Nat.le_of_ble_eq_true rfl) ?_
    refine WL.po (PO.assign (Ev.tmp rfl)) (Nat.le_of_ble_eq_true rfl) ?_
    refine WL.nil (keepF (ts := [1, 2, 3, 5, 6, 8, 10]) rfl (toK (by assumption) ?_))
    (try clear hG ops)
    (repeat (first | refine WC.seqK fun K hK => ?_ | refine WC.block ?_ | refine WC.regionG rfl fun ops hG => ?_))
    refine WL.po (PO.build Try.underlying24 rfl rfl rfl (EvP.cons Ev.const (EvP.cons Ev.const EvP.nil)) rfl) (Nat.le_of_ble_eq_true rfl) ?_
    refine WL.callP Ev.func (Evs.cons (Ev.tmp rfl) (Evs.cons Ev.const Evs.nil)) (rx_ct ⟨0#16, 0, false, false, 0#8, 1, 1#16⟩ ⟨by decide, by decide, by decide, by decide⟩ 0 _ _) (Nat.le_of_ble_eq_true rfl) ?_
    refine WL.po (PO.move (Ev.tmp rfl)) (Nat.le_of_ble_eq_true rfl) ?_
    refine WL.po (PO.extract (Ev.tmp rfl) rfl) (Nat.le_of_ble_eq_true rfl) ?_
    refine WL.po (PO.extract (Ev.tmp rfl) rfl) (Nat.le_of_ble_eq_true rfl) ?_
    refine WL.alloc rfl rfl (Nat.le_of_ble_eq_true rfl) fun b11 => ?_
    refine WL.alloc rfl rfl (Nat.le_of_ble_eq_true rfl) fun b12 => ?_
    refine WL.store rfl (Ev.tmp rfl) (Ev.tmp rfl) rfl rfl rfl rfl (by (repeat (first | exact Upd.here | apply Upd.next))) ?_
    refine WL.store rfl (Ev.tmp rfl) (Ev.tmp rfl) rfl rfl rfl rfl (by (repeat (first | exact Upd.here | apply Upd.next))) ?_
    refine WL.nil (keepF (ts := [1, 2, 3, 5, 6, 8, 10, 11, 12]) rfl (toK (by assumption) ?_))
    (try clear hG ops)
    (repeat (first | refine WC.seqK fun K hK => ?_ | refine WC.block ?_ | refine WC.regionG rfl fun ops hG => ?_))
    refine WL.po (PO.move (Ev.tmp rfl)) (Nat.le_of_ble_eq_true rfl) ?_
    refine WL.po (PO.bin (Ev.tmp rfl) Ev.const rfl) (Nat.le_of_ble_eq_true rfl) ?_
    refine WL.val (v' := .bool true) (congrArg Value.bool (by decide +kernel)) ?_
    refine WL.po (PO.move (Ev.tmp rfl)) (Nat.le_of_ble_eq_true rfl) ?_
    refine WL.unG (GU.t (hG _ _ rfl) rfl) rfl ?_
    refine WL.po (PO.loadA Try.underlying24 rfl rfl (Ev.tmp rfl) (by (repeat (first | exact List.Mem.head _ | apply List.Mem.tail))) rfl) (Nat.le_of_ble_eq_true rfl) ?_
    refine WL.unG (GU.t (hG _ _ rfl) rfl) rfl ?_
    refine WL.po (PO.build Try.underlying24 rfl rfl rfl EvP.nil rfl) (Nat.le_of_ble_eq_true rfl) ?_
    refine WL.unG (GU.t (hG _ _ rfl) rfl) rfl ?_
    refine WL.po (PO.eqlA Try.underlying24 (by kernel_rfl) (by kernel_rfl) (Ev.tmp rfl) (Ev.tmp rfl) rfl) (Nat.le_of_ble_eq_true rfl) ?_
    refine WL.val (v' := .bool true) (congrArg Value.bool (by decide +kernel)) ?_
    refine WL.po (PO.pickAnd rfl rfl) (Nat.le_of_ble_eq_true rfl) ?_
    refine WL.po (PO.move (Ev.tmp rfl)) (Nat.le_of_ble_eq_true rfl) ?_
    refine WL.unG (GU.t (hG _ _ rfl) rfl) rfl ?_
    refine WL.po (PO.move (Ev.tmp rfl)) (Nat.le_of_ble_eq_true rfl) ?_
    refine WL.unG (GU.t (hG _ _ rfl) rfl) rfl ?_
    refine WL.buildSlice EL36 rfl (EvP.cons Ev.const (EvP.cons Ev.const (EvP.cons Ev.const (EvP.cons Ev.const (EvP.cons Ev.const (EvP.cons Ev.const (EvP.cons Ev.const (EvP.cons Ev.const (EvP.cons Ev.const (EvP.cons Ev.const (EvP.cons Ev.const EvP.nil))))))))))) rfl rfl (by decide) rfl (Nat.le_of_ble_eq_true rfl) fun b61 => ?_
    refine WL.unG (GU.t (hG _ _ rfl) rfl) rfl ?_
    refine WL.callP Ev.func (Evs.cons (Ev.tmp rfl) (Evs.cons (Ev.tmp rfl) Evs.nil)) (equal22_ct _ _ _ _ _ _ (awS 11).2 [1, 1, 1, 0, 1, 0, 0, 0, 0, 0, 0] _ _ (Rd.inRow (by (repeat (first | exact List.Mem.head _ | apply List.Mem.tail))) r p q) (Rd.ofPt rfl (by decide) (by (repeat (first | exact List.Mem.head _ | apply List.Mem.tail))))) (Nat.le_of_ble_eq_true rfl) ?_
    refine WL.val (v' := .bool true) (congrArg Value.bool (by decide +kernel)) ?_
    refine WL.po (PO.pickAnd rfl rfl) (Nat.le_of_ble_eq_true rfl) ?_
    refine WL.po (PO.move (Ev.tmp rfl)) (Nat.le_of_ble_eq_true rfl) ?_
    refine WL.unG (GU.t (hG _ _ rfl) rfl) rfl ?_
    refine WL.po (PO.move (Ev.tmp rfl)) (Nat.le_of_ble_eq_true rfl) ?_
    refine WL.unG (GU.t (hG _ _ rfl) rfl) rfl ?_
    refine WL.callK Ev.func (Evs.cons Ev.const Evs.nil) (bits_ct 5#8 _ _) (Nat.le_of_ble_eq_true rfl) ?_
    rintro _ _ ⟨a66, c66, k66, e66, rfl, rfl⟩
    refine WL.knowRow (a := a66) (by (repeat (first | exact List.Mem.head _ | apply List.Mem.tail))) fun p66 q66 r66 => ?_
    refine WL.unG (GU.t (hG _ _ rfl) rfl) rfl ?_
    refine WL.callP Ev.func (Evs.cons (Ev.tmp rfl) (Evs.cons (Ev.tmp rfl) Evs.nil)) (equal22_ct _ _ _ _ _ _ (awS 11).2 (sbits 5#8) _ _ (Rd.inRow (by (repeat (first | exact List.Mem.head _ | apply List.Mem.tail))) r p q) (Rd.inRow (by (repeat (first | exact List.Mem.head _ | apply List.Mem.tail))) r66 p66 q66)) (Nat.le_of_ble_eq_true rfl) ?_
    refine WL.val (v' := .bool true) (congrArg Value.bool (by decide +kernel)) ?_
    refine WL.po (PO.pickAnd rfl rfl) (Nat.le_of_ble_eq_true rfl) ?_
    refine WL.po (PO.assign (Ev.tmp rfl)) (Nat.le_of_ble_eq_true rfl) ?_
    refine WL.nil (keepF (ts := [5, 6, 8, 10, 11, 12, 13]) rfl (toK (by assumption) ?_))
    (try clear hG ops)
    (repeat (first | refine WC.seqK fun K hK => ?_ | refine WC.block ?_ | refine WC.regionG rfl fun ops hG => ?_))
    refine WL.po (PO.move (Ev.tmp rfl)) (Nat.le_of_ble_eq_true rfl) ?_
    refine WL.po (PO.build Try.underlying29 rfl rfl rfl (EvP.cons Ev.const (EvP.cons Ev.const EvP.nil)) rfl) (Nat.le_of_ble_eq_true rfl) ?_
    refine WL.po (PO.build Try.underlying29 rfl rfl rfl (EvP.cons Ev.const EvP.nil) rfl) (Nat.le_of_ble_eq_true rfl) ?_
    refine WL.buildSlice EL37 rfl (EvP.cons (Ev.tmp rfl) (EvP.cons (Ev.tmp rfl) EvP.nil)) rfl rfl (by decide) rfl (Nat.le_of_ble_eq_true rfl) fun b72 => ?_
    refine WL.callP Ev.func (Evs.cons (Ev.tmp rfl) (Evs.cons (Ev.tmp rfl) Evs.nil)) (equal19_ct _ _ _ _ _ _ (packets [1, 1, 1, 0, 1, 0, 0, 0, 0, 0, 0, 0, 1, 0]).1 [⟨1#8, 5#8⟩, ⟨2#8, 0#8⟩] _ _ (Rd.inRow (by (repeat (first | exact List.Mem.head _ | apply List.Mem.tail))) r34 p34 q34) (Rd.ofPt rfl (by decide) (by (repeat (first | exact List.Mem.head _ | apply List.Mem.tail))))) (Nat.le_of_ble_eq_true rfl) ?_
    refine WL.val (v' := .bool true) (congrArg Value.bool (by decide +kernel)) ?_
    refine WL.po (PO.move (Ev.tmp rfl)) (Nat.le_of_ble_eq_true rfl) ?_
    refine WL.unG (GU.t (hG _ _ rfl) rfl) rfl ?_
    refine WL.po (PO.move (Ev.tmp rfl)) (Nat.le_of_ble_eq_true rfl) ?_
    refine WL.unG (GU.t (hG _ _ rfl) rfl) rfl ?_
    refine WL.po (PO.bin (Ev.tmp rfl) Ev.const rfl) (Nat.le_of_ble_eq_true rfl) ?_
    refine WL.val (v' := .bool true) (congrArg Value.bool (by decide +kernel)) ?_
    refine WL.po (PO.pickAnd rfl rfl) (Nat.le_of_ble_eq_true rfl) ?_
    refine WL.po (PO.move (Ev.tmp rfl)) (Nat.le_of_ble_eq_true rfl) ?_
    refine WL.unG (GU.t (hG _ _ rfl) rfl) rfl ?_
    refine WL.po (PO.move (Ev.tmp rfl)) (Nat.le_of_ble_eq_true rfl) ?_
    refine WL.unG (GU.t (hG _ _ rfl) rfl) rfl ?_
    refine WL.po (PO.bin (Ev.tmp rfl) Ev.const rfl) (Nat.le_of_ble_eq_true rfl) ?_
    refine WL.val (v' := .bool true) (congrArg Value.bool (by decide +kernel)) ?_
    refine WL.po (PO.pickAnd rfl rfl) (Nat.le_of_ble_eq_true rfl) ?_
    refine WL.po (PO.move (Ev.tmp rfl)) (Nat.le_of_ble_eq_true rfl) ?_
    refine WL.unG (GU.t (hG _ _ rfl) rfl) rfl ?_
    refine WL.po (PO.move (Ev.tmp rfl)) (Nat.le_of_ble_eq_true rfl) ?_
    refine WL.unG (GU.t (hG _ _ rfl) rfl) rfl ?_
    refine WL.po (PO.bin (Ev.tmp rfl) Ev.const rfl) (Nat.le_of_ble_eq_true rfl) ?_
    refine WL.val (v' := .bool true) (congrArg Value.bool (by decide +kernel)) ?_
    refine WL.po (PO.pickAnd rfl rfl) (Nat.le_of_ble_eq_true rfl) ?_
    refine WL.po (PO.assign (Ev.tmp rfl)) (Nat.le_of_ble_eq_true rfl) ?_
    refine WL.nil (keepF (ts := [11, 12, 13, 14]) rfl (toK (by assumption) ?_))
    (try clear hG ops)
    (repeat (first | refine WC.seqK fun K hK => ?_ | refine WC.block ?_ | refine WC.regionG rfl fun ops hG => ?_))
    refine WL.po (PO.move (Ev.tmp rfl)) (Nat.le_of_ble_eq_true rfl) ?_
    refine WL.po (PO.move (Ev.tmp rfl)) (Nat.le_of_ble_eq_true rfl) ?_
    refine WL.unG (GU.t (hG _ _ rfl) rfl) rfl ?_
    refine WL.po (PO.move (Ev.tmp rfl)) (Nat.le_of_ble_eq_true rfl) ?_
    refine WL.po (PO.pickAnd rfl rfl) (Nat.le_of_ble_eq_true rfl) ?_
    refine WL.po (PO.move (Ev.tmp rfl)) (Nat.le_of_ble_eq_true rfl) ?_
    refine WL.unG (GU.t (hG _ _ rfl) rfl) rfl ?_
    refine WL.po (PO.loadA Try.underlying24 rfl rfl (Ev.tmp rfl) (by (repeat (first | exact List.Mem.head _ | apply List.Mem.tail))) rfl) (Nat.le_of_ble_eq_true rfl) ?_
    refine WL.unG (GU.t (hG _ _ rfl) rfl) rfl ?_
    refine WL.po (PO.build Try.underlying24 rfl rfl rfl EvP.nil rfl) (Nat.le_of_ble_eq_true rfl) ?_
    refine WL.unG (GU.t (hG _ _ rfl) rfl) rfl ?_
    refine WL.po (PO.eqlA Try.underlying24 (by kernel_rfl) (by kernel_rfl) (Ev.tmp rfl) (Ev.tmp rfl) rfl) (Nat.le_of_ble_eq_true rfl) ?_
    refine WL.val (v' := .bool true) (congrArg Value.bool (by decide +kernel)) ?_
    refine WL.po (PO.pickAnd rfl rfl) (Nat.le_of_ble_eq_true rfl) ?_
    refine WL.po (PO.move (Ev.tmp rfl)) (Nat.le_of_ble_eq_true rfl) ?_
    refine WL.unG (GU.t (hG _ _ rfl) rfl) rfl ?_
    refine WL.po (PO.loadA Try.underlying29 rfl rfl (Ev.tmp rfl) (by (repeat (first | exact List.Mem.head _ | apply List.Mem.tail))) rfl) (Nat.le_of_ble_eq_true rfl) ?_
    refine WL.unG (GU.t (hG _ _ rfl) rfl) rfl ?_
    refine WL.po (PO.build Try.underlying29 rfl rfl rfl (EvP.cons Ev.const EvP.nil) rfl) (Nat.le_of_ble_eq_true rfl) ?_
    refine WL.unG (GU.t (hG _ _ rfl) rfl) rfl ?_
    refine WL.po (PO.eqlA Try.underlying29 (by kernel_rfl) (by kernel_rfl) (Ev.tmp rfl) (Ev.tmp rfl) rfl) (Nat.le_of_ble_eq_true rfl) ?_
    refine WL.val (v' := .bool true) (congrArg Value.bool (by decide +kernel)) ?_
    refine WL.po (PO.pickAnd rfl rfl) (Nat.le_of_ble_eq_true rfl) ?_
    refine WL.po (PO.move (Ev.tmp rfl)) (Nat.le_of_ble_eq_true rfl) ?_
    refine WL.unG (GU.t (hG _ _ rfl) rfl) rfl ?_
    refine WL.po (PO.build Try.underlying24 rfl rfl rfl (EvP.cons Ev.const (EvP.cons Ev.const EvP.nil)) rfl) (Nat.le_of_ble_eq_true rfl) ?_
    refine WL.unG (GU.t (hG _ _ rfl) rfl) rfl ?_
    refine WL.callP Ev.func (Evs.cons (Ev.tmp rfl) Evs.nil) (may_ct ⟨1#16, 1, false, false, 0#8, 0, 0#16⟩ ⟨by decide, by decide, by decide, by decide⟩ _ _) (Nat.le_of_ble_eq_true rfl) ?_
    refine WL.unG (GU.t (hG _ _ rfl) rfl) rfl ?_
    refine WL.po (PO.not (Ev.tmp rfl)) (Nat.le_of_ble_eq_true rfl) ?_
    refine WL.val (v' := .bool true) (congrArg Value.bool (by decide +kernel)) ?_
    refine WL.po (PO.pickAnd rfl rfl) (Nat.le_of_ble_eq_true rfl) ?_
    refine WL.po (PO.assign (Ev.tmp rfl)) (Nat.le_of_ble_eq_true rfl) ?_
    refine WL.nil (keepF (ts := [0]) rfl (toK (by assumption) ?_))
    (try clear hG ops)
    refine WC.ret (end1 (h' := h) (.inl rfl) rfl (RV.tmp rfl) (View.le.refl m) (by (repeat (first | exact List.Sublist.refl _ | refine List.Sublist.cons_cons _ ?_ | apply List.Sublist.cons))) ?_)
    exact ⟨rfl, rfl⟩
end Go.Proofs.Ytoeghfpkpppchaa
